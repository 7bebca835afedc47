/-
  Lemmas and contracts of functions: l2Lists of the reference. Conditions: at most three lists, each of at most 401 values. l2All of the reference: all values of a type up to a depth, cut off. Conditions: the world is valid. A value of its own: the walk of l2Copy. Conditions: no more than a million parts. ValuesUpTo of the reference. Conditions: none. markText: a text for a number. Conditions: the number is between 0 and 1099511627776. markValueS: every part is written anew. Conditions: the parts are no more than 1099511627776. The marks of a list of values up to a depth are not too many. Conditions: none. Sizes of trees. Conditions: none. markTypeS: every part is written anew. Conditions: the parts are no more than 1099511627776.
-/
import Derived.Test.YtilndhmegaccmaaKAF
import Derived.Test.YtilndhmegaccmaaKAE
import Derived.Test.YtilndhmegaccmaaKAC
import Derived.Test.YtilndhmegaccmaaKAB
import Derived.Deep.RegionWith
import Derived.Test.YtilndhmegaccmaaKAD
import Derived.Test.YtilndhmegaccmaaChecked
import Derived.Laws.BytesArg
import Derived.Test.YtilndhmegaccmaaKAA

set_option linter.unusedVariables false
set_option linter.unusedSimpArgs false

namespace Go.Proofs.Ytilndhmegaccmaa
open Go.RowKit

theorem step_append_run {P : Program} {w : World} {ops : Array Oper} {o : Oper} {a : Act} {K : Act → World → Prop} {Q : Exit → Act → World → Prop} {EE : Prop} (hgd : o.guard = none) (s x : Operand) (t : TypeId)
    (ho : o.op = .call { callee := .builtin .append, args := #[s, x], argTypes := #[t, t] }) {sv xv v' : Value} {w' : World} (hs : a.eval s = sv) (hx : a.eval x = xv)
    (hr : (Builtin.append_ #[t, t] o.type #[sv, xv]).run P w = .ok v' w') (h : K (a.put o.dst v') w') : if Region.wanted o (yielded ops a.tmps) = true then Oper.wp P o a w K Q else EE := by
  rw [if_pos (by simp [Region.wanted, hgd])]
  unfold Oper.wp execOp
  simp only [ho, resolve, invoke, builtin, Sem.run_bind, Sem.run_pure, Result.andThen_ok, List.map_toArray, List.map_cons, List.map_nil, hs, hx, hr]
  exact h
set_option maxRecDepth 100000 in
set_option maxHeartbeats 6400000 in
theorem spec_l2Lists (ls : List (List V)) (h3 : ls.length ≤ 3) (h4 : ∀ l ∈ ls, l.length ≤ 401) (w : World) (x : Value) (F : List Nat) (hx : Arr w (LsR w) ls x F) (hf : Under w.heap.size F) :
    Calls Try.prog 110 #[x, .int .i64 400] w (ListsP (cutV (pairAll ls)) F w) := by
  obtain ⟨lsA, lscap, rfl, hc1, hc2⟩ := hx.form
  obtain ⟨i0, hi, hz0, hz1, hz2⟩ := info_parts info_VE
  obtain ⟨j0, hj, hy0, hy1, hy2⟩ := info_parts info_VSE
  have H4 := Lib.hid h4
  have HI := Lib.hid hi
  have HZ0 := Lib.hid hz0
  have HZ1 := Lib.hid hz1
  have HZ2 := Lib.hid hz2
  have HJ := Lib.hid hj
  have HY0 := Lib.hid hy0
  have HY1 := Lib.hid hy1
  have HY2 := Lib.hid hy2
  have HX := Lib.hid hx
  have HF := Lib.hid hf
  clear hi hz0 hz1 hz2 hj hy0 hy1 hy2 hx hf
  clear h4
  go_enter Try.func110, Try.ntmps110
  go_wp2_with fail
  obtain ⟨W2, hW2⟩ : ∃ W2, W2 = ((w.alloc (.cells #[] 53)).alloc (.cells #[.slice (some ⟨w.heap.size, 0, none⟩) 0 0] 39)) := ⟨_, rfl⟩
  have hB0 : Below w.heap.size w W2 := by rw [hW2]; exact ((Below.refl _ _).alloc (Nat.le_refl _) _).alloc (by simp) _
  have K1 : Blk W2 (w.heap.size + 1) 39 #[.slice (some ⟨w.heap.size, 0, none⟩) 0 0] := by rw [hW2]; exact blk_second w _ _ _
  have HO0 : Hid (Arr W2 (LsR W2) (pairTo ls 0) (.slice (some ⟨w.heap.size + 1, 0, none⟩) 1 1) [w.heap.size + 1]) := by
    rw [pairTo_zero]
    exact ⟨_, _, rfl, Nat.le_refl _, by simp [maxLen], .inr ⟨_, 0, [.slice (some ⟨w.heap.size, 0, none⟩) 0 0], [], rfl, (fun j u hj => by rw [Nat.zero_add, K1.cell]; simpa using hj), Flat.one ⟨_, rfl, _, _, rfl, Nat.le_refl _, by simp [maxLen], .inl ⟨rfl, rfl⟩⟩, rfl⟩⟩
  have HU0 : Hid (Under W2.heap.size [w.heap.size + 1]) := fun b hb => by rw [List.mem_singleton] at hb; subst hb; exact K1.lt
  rw [← hW2]
  clear hW2 K1
  go_wp2
  go_loopw [5, 6] (fun ov iv wr => ∃ i : Nat, ∃ Fo : List Nat, i ≤ ls.length ∧ iv = .int .i64 i ∧ Hid (Arr wr (LsR wr) (pairTo ls i) ov Fo) ∧ Hid (Under wr.heap.size Fo) ∧ Hid (∀ b ∈ Fo, b ∈ F ∨ w.heap.size ≤ b) ∧ Hid (Below W2.heap.size W2 wr)) (fun _ iv _ => ls.length - (intOf iv).toNat)
  case atStart => exact ⟨0, _, Nat.zero_le _, rfl, HO0.out, HU0.out, (fun b hb => by rw [List.mem_singleton] at hb; exact .inr (by omega)), Below.refl _ _⟩
  case round =>
    clear HO0 HU0
    obtain ⟨i, Fo, hi, rfl, HO, HOU, HOP, HBI⟩ := hrel
    obtain ⟨oA, ocap, hov, -, -⟩ := HO.out.form
    subst hov
    have hpt := pairTo_len ls i
    obtain ⟨wo, hwo⟩ : ∃ wo, wo = wr := ⟨_, rfl⟩
    rw [← hwo] at HO HOU HBI ⊢
    clear hwo
    have hBwo := hB0.trans (HBI.out.mono hB0.size)
    by_cases hil : i < ls.length
    · have q1 : (0 : Int) ≤ (i : Int) := by omega
      have q2 : (i : Int) < (ls.length : Int) := by omega
      obtain ⟨bl, offl, rfl⟩ := HX.out.ptr (by omega)
      have HPS := Lib.hid (pairTo_succ ls i hil)
      have hl4 := H4.out ls[i] (List.getElem_mem hil)
      obtain ⟨lA, lcap, Gl, hblw, hlc, hla, hlu, hls⟩ := ArrLs.of HX.out HF.out i hil
      have HLC := Lib.hid hlc
      have HLA := Lib.hid hla
      have HLU := Lib.hid hlu
      have HLS := Lib.hid hls
      clear hlc hla hlu hls
      obtain ⟨l, hl⟩ : ∃ u, u = ls[i] := ⟨_, rfl⟩
      rw [← hl] at HPS hl4 HLA HLC
      have HALL : Hid (∀ o ∈ pairTo ls i, o.length ≤ i) := fun o ho => pairTo_each ls i o ho
      generalize hAs : pairTo ls i = As at *
      have HB0 := Lib.hid hB0
      clear hAs hl
      go_wp2_with fail
      have HM0 : Hid (Own (wo.alloc (.cells #[] 39)) wo.heap.size 39 1 LsR (nextL As l 0) (.slice (some ⟨wo.heap.size, 0, none⟩) 0 0) []) := (show Own _ _ _ _ _ (nextL As l 0) _ _ from Own.made wo _ _ _ _ _ 0 (Nat.le_refl _) (by simp [maxLen]) rfl)
      have hB05 : Below wo.heap.size wo (wo.alloc (.cells #[] 39)) := (Below.refl _ _).alloc (Nat.le_refl _) _
      generalize wo.alloc (.cells #[] 39) = w5 at *
      go_loopw [7, 8] (fun nv kv wr => ∃ k : Nat, ∃ Fn : List Nat, k ≤ As.length ∧ kv = .int .i64 k ∧ Hid (Own wr wo.heap.size 39 1 LsR (nextL As l k) nv Fn) ∧ Hid (∀ b ∈ Fn, b ∈ F ∨ w.heap.size ≤ b) ∧ Below wo.heap.size wo wr) (fun _ kv _ => As.length - (intOf kv).toNat)
      case atStart => exact ⟨0, [], Nat.zero_le _, rfl, HM0.out, (fun b hb => by cases hb), hB05⟩
      case round =>
        clear HM0 hB05
        obtain ⟨k, Fn, hk, rfl, HM, HFN, hBo⟩ := hrel
        obtain ⟨mA, mcap, hmv, -, -⟩ := HM.out.form
        subst hmv
        have hnl := nextL_len As l k
        have HEND := Lib.hid (fun h => nextL_end (A := As) (l := l) (k := k) h)
        by_cases hk2 : k < As.length ∧ (nextL As l k).length ≤ 400
        · obtain ⟨hkl, hn4⟩ := hk2
          have t1 : decide ((k : Int) < (As.length : Int)) = true := by simp; omega
          have t2 : decide (((nextL As l k).length : Int) ≤ 400) = true := by simp; omega
          have q3 : (0 : Int) ≤ (k : Int) := by omega
          have q4 : (k : Int) < (As.length : Int) := by omega
          obtain ⟨b5, off5, rfl⟩ := HO.out.ptr (by omega)
          obtain ⟨pA, pcap, Gp, lo5, hpc, hpa, hpu, hps⟩ := ArrLs.of HO.out HOU.out k hkl
          have hpl : As[k].length ≤ pcap := by obtain ⟨_, _, e, h1, -⟩ := hpa; cases e; exact h1
          have hnr := fun j h => nextR_end (A := As) (l := l) (k := k) (j := j) hkl h
          obtain ⟨o, ho⟩ : ∃ u, u = As[k] := ⟨_, rfl⟩
          rw [← ho] at hpc hpa hpl hnr
          have HPC := Lib.hid hpc
          have HPA0 := Lib.hid hpa
          have HPU := Lib.hid hpu
          have HPSB := Lib.hid hps
          have HNR := Lib.hid hnr
          have HO3 : Hid (o.length ≤ 3) := by
            have := HALL.out o (by rw [ho]; exact List.getElem_mem hkl)
            unfold Hid; omega
          have HM0 : Hid (Own wr wo.heap.size 39 1 LsR (nextR (preL As l k) o l 0) (.slice mA (nextL As l k).length mcap) Fn) := by
            rw [nextR_zero]; exact HM.out
          clear hpc hpa hpu hnr ho hps
          generalize hpre : preL As l k = pre at *
          clear hpre
          go_wp2
          go_loopw [7, 9] (fun nv jv wr => ∃ j : Nat, ∃ Fn : List Nat, j ≤ l.length ∧ jv = .int .i64 j ∧ Hid (Own wr wo.heap.size 39 1 LsR (nextR pre o l j) nv Fn) ∧ Hid (∀ b ∈ Fn, b ∈ F ∨ w.heap.size ≤ b) ∧ Below wo.heap.size wo wr) (fun _ jv _ => l.length - (intOf jv).toNat)
          case atStart => exact ⟨0, Fn, Nat.zero_le _, rfl, HM0.out, HFN.out, hBo⟩
          case round =>
            clear HM0 HM HFN hBo
            obtain ⟨j, Fm, hj, rfl, HM, HFN, hBo⟩ := hrel
            obtain ⟨mA, mcap, hmv, -, -⟩ := HM.out.form
            subst hmv
            have hrl := nextR_len pre o l j
            have hBr : Below w.heap.size w wr := hBwo.trans (hBo.mono hBwo.size)
            have cl : wr.cell? ⟨bl, offl + i, none⟩ = some (.slice lA l.length lcap) := HLC.out wr hBr
            have ltl : bl < wr.heap.size := Nat.lt_of_lt_of_le hblw hBr.size
            by_cases hj2 : j < l.length ∧ (nextR pre o l j).length ≤ 400
            · obtain ⟨hjl, hr4⟩ := hj2
              have t3 : decide ((j : Int) < (l.length : Int)) = true := by simp; omega
              have t4 : decide (((nextR pre o l j).length : Int) ≤ 400) = true := by simp; omega
              have q5 : (0 : Int) ≤ (j : Int) := by omega
              have q6 : (j : Int) < (l.length : Int) := by omega
              obtain ⟨b9, off9, rfl⟩ := HLA.out.ptr (by omega)
              obtain ⟨nA, ncap, Gk, lt9, n0, n1, n2, HVk, HKu, hks, -, -⟩ := ArrV.at HLA.out HLU.out hBr j hjl
              have HKS := Lib.hid hks
              clear hks
              have HMS := Lib.hid (nextR_succ (pre := pre) (o := o) hjl hr4)
              have c5 : wr.cell? ⟨b5, off5 + k, none⟩ = some (.slice pA o.length pcap) := HPC.out wr hBo
              have lt5 : b5 < wr.heap.size := Nat.lt_of_lt_of_le lo5 hBo.size
              have lol : bl < wo.heap.size := Nat.lt_of_lt_of_le hblw hBwo.size
              have lo9 : b9 < wo.heap.size := by
                obtain ⟨_, _, _, _, e, hb, -⟩ := HLA.out.get VR_len hjl
                cases e; exact Nat.lt_of_lt_of_le (HLU.out _ hb) hBwo.size
              have hmx : (nextR pre o l j).length + 1 ≤ maxLen := by unfold maxLen; omega
              have hby : ((nextR pre o l j).length + 1) * 24 ≤ 140737488355328 := by omega
              obtain ⟨kq, hkq⟩ : ∃ u, u = l[j] := ⟨_, rfl⟩
              rw [← hkq] at n0 n1 n2 HVk HMS
              have HPA : Hid (∀ C, Below wr.heap.size wr C → Arr C (VR C) o (.slice pA o.length pcap) Gp) := fun C hC => ArrV.below HPA0.out (hBo.trans (hC.mono hBo.size)) HPU.out
              have HVk2 : Hid (∀ C, Below wr.heap.size wr C → VR C kq [.int .i64 kq.c, .int .i64 kq.n, .slice nA kq.ks.length ncap] Gk) := fun C hC => HVk.out.below (hBr.trans (hC.mono hBr.size)) HKu.out
              have ho3 := HO3.out
              clear hkq HVk
              go_wp2_with fail
              have HS : Hid (∀ C : World, Below wr.heap.size wr C → (C.cell? ⟨b5, off5 + k, none⟩ = some (.slice pA o.length pcap) ∧ C.cell? ⟨bl, offl + i, none⟩ = some (.slice (some ⟨b9, off9, none⟩) l.length lcap) ∧ C.cell? ⟨b9, off9 + j * 3, none⟩ = some (.int .i64 kq.c) ∧ C.cell? ⟨b9, off9 + j * 3 + 1, none⟩ = some (.int .i64 kq.n) ∧ C.cell? ⟨b9, off9 + j * 3 + 2, none⟩ = some (.slice nA kq.ks.length ncap))) := fun C hb => ⟨(hb.cell (lt5)).trans c5, (hb.cell (ltl)).trans cl, (hb.cell (lt9)).trans n0, (hb.cell (lt9)).trans n1, (hb.cell (lt9)).trans n2⟩
              have hC0 : Below wr.heap.size wr wr.drew := (Below.refl _ _).drew
              refine wp_region_B (S := fun w' => w'.cell? ⟨b5, off5 + k, none⟩ = some (.slice pA o.length pcap) ∧ w'.cell? ⟨bl, offl + i, none⟩ = some (.slice (some ⟨b9, off9, none⟩) l.length lcap) ∧ w'.cell? ⟨b9, off9 + j * 3, none⟩ = some (.int .i64 kq.c) ∧ w'.cell? ⟨b9, off9 + j * 3 + 1, none⟩ = some (.int .i64 kq.n) ∧ w'.cell? ⟨b9, off9 + j * 3 + 2, none⟩ = some (.slice nA kq.ks.length ncap)) (T := fun _ => True) (d := 99) (by kernel_rfl) ?_
              obtain ⟨wd, hwd⟩ : ∃ X, X = wr.drew := ⟨_, rfl⟩
              rw [← hwd] at hC0  ⊢
              clear hwd
              have hS0 := HS.out _ hC0
              have hT0 : True := trivial
              refine wpAnyB_take (i := 0) (v := ?_) rfl (by decide) (by kernel_rfl) (by kernel_rfl) (by kernel_rfl) (fun _ _ _ h => h) (Or.inl ⟨by rfl, ?hy0⟩) hS0 (fun _ => hT0) ?_
              case hy0 => (intro W hSw; (try dsimp only at hSw); (try obtain ⟨hSw0, hSw1, hSw2, hSw3, hSw4⟩ := hSw); go_simp; try with_reducible rfl)
              (try simp only [Act.put, List.getElem_toArray, List.getElem_cons_zero, List.getElem_cons_succ, List.setIfInBounds_toArray, List.set_cons_zero, List.set_cons_succ])
              refine wpAnyB_take (i := 2) (v := ?_) rfl (by decide) (by kernel_rfl) (by kernel_rfl) (by kernel_rfl) (fun _ _ _ h => h) (Or.inl ⟨by rfl, ?hy2⟩) hS0 (fun _ => hT0) ?_
              case hy2 => (intro W hSw; (try dsimp only at hSw); (try obtain ⟨hSw0, hSw1, hSw2, hSw3, hSw4⟩ := hSw); go_simp; try with_reducible rfl)
              (try simp only [Act.put, List.getElem_toArray, List.getElem_cons_zero, List.getElem_cons_succ, List.setIfInBounds_toArray, List.set_cons_zero, List.set_cons_succ])
              refine wpAnyB_take (i := 3) (v := ?_) rfl (by decide) (by kernel_rfl) (by kernel_rfl) (by kernel_rfl) (fun _ _ _ h => h) (Or.inl ⟨by rfl, ?hy3⟩) hS0 (fun _ => hT0) ?_
              case hy3 => (intro W hSw; (try dsimp only at hSw); (try obtain ⟨hSw0, hSw1, hSw2, hSw3, hSw4⟩ := hSw); go_simp; try with_reducible rfl)
              (try simp only [Act.put, List.getElem_toArray, List.getElem_cons_zero, List.getElem_cons_succ, List.setIfInBounds_toArray, List.set_cons_zero, List.set_cons_succ])
              refine wpAnyB_take (i := 4) (v := ?_) rfl (by decide) (by kernel_rfl) (by kernel_rfl) (by kernel_rfl) (fun _ _ _ h => h) (Or.inl ⟨by rfl, ?hy4⟩) hS0 (fun _ => hT0) ?_
              case hy4 => (intro W hSw; (try dsimp only at hSw); (try obtain ⟨hSw0, hSw1, hSw2, hSw3, hSw4⟩ := hSw); go_simp; try with_reducible rfl)
              (try simp only [Act.put, List.getElem_toArray, List.getElem_cons_zero, List.getElem_cons_succ, List.setIfInBounds_toArray, List.set_cons_zero, List.set_cons_succ])
              refine wpAnyB_take (i := 5) (v := ?_) rfl (by decide) (by kernel_rfl) (by kernel_rfl) (by kernel_rfl) (fun _ _ _ h => h) (Or.inl ⟨by rfl, ?hy5⟩) hS0 (fun _ => hT0) ?_
              case hy5 => (intro W hSw; (try dsimp only at hSw); (try obtain ⟨hSw0, hSw1, hSw2, hSw3, hSw4⟩ := hSw); go_simp; try with_reducible rfl)
              (try simp only [Act.put, List.getElem_toArray, List.getElem_cons_zero, List.getElem_cons_succ, List.setIfInBounds_toArray, List.set_cons_zero, List.set_cons_succ])
              refine wpAnyB_take (i := 7) (v := ?_) rfl (by decide) (by kernel_rfl) (by kernel_rfl) (by kernel_rfl) (fun _ _ _ h => h) (Or.inl ⟨by rfl, ?hy7⟩) hS0 (fun _ => hT0) ?_
              case hy7 => (intro W hSw; (try dsimp only at hSw); (try obtain ⟨hSw0, hSw1, hSw2, hSw3, hSw4⟩ := hSw); go_simp; try with_reducible rfl)
              (try simp only [Act.put, List.getElem_toArray, List.getElem_cons_zero, List.getElem_cons_succ, List.setIfInBounds_toArray, List.set_cons_zero, List.set_cons_succ])
              refine wpAnyB_take (i := 8) (v := ?_) rfl (by decide) (by kernel_rfl) (by kernel_rfl) (by kernel_rfl) (fun _ _ _ h => h) (Or.inl ⟨by rfl, ?hy8⟩) hS0 (fun _ => hT0) ?_
              case hy8 => (intro W hSw; (try dsimp only at hSw); (try obtain ⟨hSw0, hSw1, hSw2, hSw3, hSw4⟩ := hSw); go_simp; try with_reducible rfl)
              (try simp only [Act.put, List.getElem_toArray, List.getElem_cons_zero, List.getElem_cons_succ, List.setIfInBounds_toArray, List.set_cons_zero, List.set_cons_succ])
              refine wpAnyB_take (i := 9) (v := ?_) rfl (by decide) (by kernel_rfl) (by kernel_rfl) (by kernel_rfl) (fun _ _ _ h => h) (Or.inl ⟨by rfl, ?hy9⟩) hS0 (fun _ => hT0) ?_
              case hy9 => (intro W hSw; (try dsimp only at hSw); (try obtain ⟨hSw0, hSw1, hSw2, hSw3, hSw4⟩ := hSw); go_simp; try with_reducible rfl)
              (try simp only [Act.put, List.getElem_toArray, List.getElem_cons_zero, List.getElem_cons_succ, List.setIfInBounds_toArray, List.set_cons_zero, List.set_cons_succ])
              refine wpAnyB_take (i := 10) (v := ?_) rfl (by decide) (by kernel_rfl) (by kernel_rfl) (by kernel_rfl) (fun _ _ _ h => h) (Or.inl ⟨by rfl, ?hy10⟩) hS0 (fun _ => hT0) ?_
              case hy10 => (intro W hSw; (try dsimp only at hSw); (try obtain ⟨hSw0, hSw1, hSw2, hSw3, hSw4⟩ := hSw); go_simp; try with_reducible rfl)
              (try simp only [Act.put, List.getElem_toArray, List.getElem_cons_zero, List.getElem_cons_succ, List.setIfInBounds_toArray, List.set_cons_zero, List.set_cons_succ])
              refine wpAnyB_take (i := 11) (v := ?_) rfl (by decide) (by kernel_rfl) (by kernel_rfl) (by kernel_rfl) (fun _ _ _ h => h) (Or.inl ⟨by rfl, ?hy11⟩) hS0 (fun _ => hT0) ?_
              case hy11 => (intro W hSw; (try dsimp only at hSw); (try obtain ⟨hSw0, hSw1, hSw2, hSw3, hSw4⟩ := hSw); go_simp; try with_reducible rfl)
              (try simp only [Act.put, List.getElem_toArray, List.getElem_cons_zero, List.getElem_cons_succ, List.setIfInBounds_toArray, List.set_cons_zero, List.set_cons_succ])
              refine wpAnyB_take (i := 12) (v := ?_) rfl (by decide) (by kernel_rfl) (by kernel_rfl) (by kernel_rfl) (fun _ _ _ h => h) (Or.inl ⟨by rfl, ?hy12⟩) hS0 (fun _ => hT0) ?_
              case hy12 => (intro W hSw; (try dsimp only at hSw); (try obtain ⟨hSw0, hSw1, hSw2, hSw3, hSw4⟩ := hSw); go_simp; try with_reducible rfl)
              (try simp only [Act.put, List.getElem_toArray, List.getElem_cons_zero, List.getElem_cons_succ, List.setIfInBounds_toArray, List.set_cons_zero, List.set_cons_succ])
              refine wpAnyB_take (i := 13) (v := ?_) rfl (by decide) (by kernel_rfl) (by kernel_rfl) (by kernel_rfl) (fun _ _ _ h => h) (Or.inl ⟨by rfl, ?hy13⟩) hS0 (fun _ => hT0) ?_
              case hy13 => (intro W hSw; (try dsimp only at hSw); (try obtain ⟨hSw0, hSw1, hSw2, hSw3, hSw4⟩ := hSw); go_simp; try with_reducible rfl)
              (try simp only [Act.put, List.getElem_toArray, List.getElem_cons_zero, List.getElem_cons_succ, List.setIfInBounds_toArray, List.set_cons_zero, List.set_cons_succ])
              refine wpAnyB_ready (rs := [1, 14]) (by kernel_rfl) (by simp) ?_
              refine AllReadyB.cons rfl (fun K hK => ?_) (AllReadyB.cons rfl (fun K hK => ?_) (AllReadyB.nil))
              · go_simp
                obtain ⟨C1, hX⟩ : ∃ X, X = wd.alloc (.cells #[] 53) := ⟨_, rfl⟩
                have hb1 : Below wd.heap.size wd C1 := by rw [hX]; exact (Below.refl _ _).alloc (Nat.le_refl _) _
                have ho1 : Own C1 wr.heap.size 53 3 VR ([] : List V) (.slice (some ⟨wd.heap.size, 0, none⟩) 0 0) [] := by rw [hX]; exact Own.made wd _ _ _ _ _ 0 hC0.size (by simp [maxLen]) rfl
                rw [← hX]
                clear hX
                have hC1 : Below wr.heap.size wr C1 := hC0.trans (hb1.mono hC0.size)
                have HE1 := Lib.hid ho1
                obtain ⟨eb, heb⟩ : ∃ X, X = wd.heap.size := ⟨_, rfl⟩
                rw [← heb] at HE1 ⊢
                have HEL := Lib.hid heb
                clear heb ho1
                (try dsimp only)
                refine hK.out _ _ (HS.out _ hC1) (fun _ => trivial) ?_
                clear hK K
                (try simp only [Act.put, List.getElem_toArray, List.getElem_cons_zero, List.getElem_cons_succ, List.setIfInBounds_toArray, List.set_cons_zero, List.set_cons_succ])
                refine wpAnyB_ready (rs := [6, 14]) (by kernel_rfl) (by simp) ?_
                refine AllReadyB.cons rfl (fun K hK => ?_) (AllReadyB.cons rfl (fun K hK => ?_) (AllReadyB.nil))
                · obtain ⟨cv, C2, Gc, hr2, ho2, hG2, hgr2, hat2⟩ := run_append_all (P := Try.prog) 39 39 i0 _ 40 Try.underlying39 HI.out HZ0.out HZ1.out HZ2.out rfl (by decide) VR_len' VR_mono' VR_one HE1.out (HPA.out C1 hC1) (HPU.out.mono (Nat.le_trans hBo.size hC1.size)) (fun g hg hgF => Nat.lt_irrefl _ (Nat.lt_of_lt_of_le (HPU.out g hgF) (Nat.le_trans hBo.size (HE1.out.row g hg).1))) (by simp; omega) (by simp; omega) hC1.size
                  rw [List.nil_append, List.nil_append] at ho2
                  have hC2 : Below wr.heap.size wr C2 := hC1.grown hgr2 hC1.size (fun g hg => (HE1.out.row g (mem_rowOf.2 hg)).1)
                  have hcb2 : ∀ (b : Nat) (T : TypeId) (cs : Array Value), b < C1.heap.size → b ≠ eb → Blk C1 b T cs → Blk C2 b T cs := fun b T cs hl hne h => h.same (hgr2.block _ hl (fun e => hne (Option.some.inj e)))
                  obtain ⟨cA, ccap, hcv, -, -⟩ := ho2.form
                  subst hcv
                  have HGc := Lib.hid hG2
                  have HOc2 := Lib.hid ho2
                  have HRUN := Lib.hid hr2
                  clear ho2 hG2 hgr2 hat2 hr2
                  refine step_append_run (P := Try.prog) rfl _ _ 39 rfl (by rfl) (by rfl) HRUN.out ?_
                  clear HRUN
                  (try dsimp only)
                  refine hK.out _ _ (HS.out _ hC2) (fun _ => trivial) ?_
                  clear hK K
                  (try simp only [Act.put, List.getElem_toArray, List.getElem_cons_zero, List.getElem_cons_succ, List.setIfInBounds_toArray, List.set_cons_zero, List.set_cons_succ])
                  refine wpAnyB_ready (rs := [14]) (by kernel_rfl) (by simp) ?_
                  refine AllReadyB.cons rfl (fun K hK => ?_) (AllReadyB.nil)
                  go_simp
                  obtain ⟨C3, hX⟩ : ∃ X, X = C2.alloc (.cells [.int .i64 kq.c, .int .i64 kq.n, .slice nA kq.ks.length ncap].toArray 53) := ⟨_, rfl⟩
                  have hb3 : Below C2.heap.size C2 C3 := by rw [hX]; exact (Below.refl _ _).alloc (Nat.le_refl _) _
                  have hkb3 : Blk C3 C2.heap.size 53 [.int .i64 kq.c, .int .i64 kq.n, .slice nA kq.ks.length ncap].toArray := by rw [hX]; exact Blk.new _ _ _
                  have hX2 := hX
                  simp only [List.toArray] at hX2
                  first | rw [← hX] | rw [← hX2]
                  clear hX hX2
                  have hC3 : Below wr.heap.size wr C3 := hC2.trans (hb3.mono hC2.size)
                  have HKb3 := Lib.hid hkb3
                  have HKL3 : Hid (∀ g, g < C2.heap.size → C2.heap.size ≠ g) := fun g hg e => by omega
                  obtain ⟨kb, hkb⟩ : ∃ X, X = C2.heap.size := ⟨_, rfl⟩
                  rw [← hkb] at HKb3 HKL3 ⊢
                  clear hkb3
                  have HKB := Lib.hid hkb
                  clear hkb
                  have HOc := Lib.hid (HOc2.out.below (fun x cs G hk h => VR_mono' _ _ x cs G hk h) hb3)
                  have HKb := HKb3
                  (try dsimp only)
                  refine hK.out _ _ (HS.out _ hC3) (fun _ => trivial) ?_
                  clear hK K
                  (try simp only [Act.put, List.getElem_toArray, List.getElem_cons_zero, List.getElem_cons_succ, List.setIfInBounds_toArray, List.set_cons_zero, List.set_cons_succ])
                  refine wpAnyB_ready (rs := [15]) (by kernel_rfl) (by simp) ?_
                  refine AllReadyB.cons rfl (fun K hK => ?_) (AllReadyB.nil)
                  refine step_pushB (P := Try.prog) rfl _ _ 39 rfl i0 _ 40 Try.underlying39 HI.out HZ0.out HZ1.out HZ2.out rfl (by decide) VR_len' VR_mono' (by rfl) HOc.out kq 53 [.int .i64 kq.c, .int .i64 kq.n, .slice nA kq.ks.length ncap] Gk kb (by rfl) HKb.out (by simp [Value.oneCell']) (HVk2.out C3 hC3) (HKu.out.mono (Nat.le_trans hBr.size hC3.size)) (fun g hg hgG => Nat.lt_irrefl _ (Nat.lt_of_lt_of_le (HKu.out g hgG) (Nat.le_trans hBr.size (HOc.out.row g hg).1))) (by unfold maxLen; omega) (by omega) hC3.size ?_
                  intro g7 cp7 C4 hown4 hgr4 hat4
                  have hC4 : Below wr.heap.size wr C4 := hC3.grown hgr4 hC3.size (fun g hg => (HOc.out.row g (mem_rowOf.2 hg)).1)
                  have HO4 := Lib.hid hown4
                  have H4R : Hid (∀ g ∈ rowOf (.slice (some ⟨g7, 0, none⟩) (o.length + 1) cp7), wr.heap.size ≤ g ∧ g < C4.heap.size) := fun g hg => HO4.out.row g hg
                  have HYR : Hid (LsR C4 (o ++ [kq]) [.slice (some ⟨g7, 0, none⟩) (o.length + 1) cp7] (rowOf (.slice (some ⟨g7, 0, none⟩) (o.length + 1) cp7) ++ (Gc ++ Gk))) := by
                    have h := HO4.out.arr
                    rw [if_neg (by simp)] at h
                    exact ⟨_, rfl, h⟩
                  have hbo4 : Below wo.heap.size wo C4 := hBo.trans (hC4.mono hBo.size)
                  have HM4 := Lib.hid (HM.out.below (fun x cs G hk h => LsR_mono _ _ x cs G hk h) hC4)
                  have HYU : Hid (Under C4.heap.size (rowOf (.slice (some ⟨g7, 0, none⟩) (o.length + 1) cp7) ++ (Gc ++ Gk))) := fun b hb => by
                    rcases List.mem_append.1 hb with hb | hb
                    · exact (H4R.out b hb).2
                    · rcases List.mem_append.1 hb with hb | hb
                      · exact Nat.lt_of_lt_of_le (HPU.out b (HGc.out b hb)) (Nat.le_trans hBo.size hC4.size)
                      · exact Nat.lt_of_lt_of_le (HKu.out b hb) (Nat.le_trans hBr.size hC4.size)
                  have HYP : Hid (∀ b ∈ Fm ++ (rowOf (.slice (some ⟨g7, 0, none⟩) (o.length + 1) cp7) ++ (Gc ++ Gk)), b ∈ F ∨ w.heap.size ≤ b) := fun b hb => by
                    rcases List.mem_append.1 hb with hb | hb
                    · exact HFN.out b hb
                    · rcases List.mem_append.1 hb with hb | hb
                      · exact .inr (Nat.le_trans hBr.size (H4R.out b hb).1)
                      · rcases List.mem_append.1 hb with hb | hb
                        · exact HOP.out b (HPSB.out b (HGc.out b hb))
                        · exact .inl (HLS.out b (HKS.out b hb))
                  have HYN : Hid (∀ g ∈ rowOf (.slice mA (nextR pre o l j).length mcap), g ∉ (rowOf (.slice (some ⟨g7, 0, none⟩) (o.length + 1) cp7) ++ (Gc ++ Gk))) := fun g hg hgG => by
                    have h1 := HM.out.row g hg
                    rcases List.mem_append.1 hgG with hb | hb
                    · have := (H4R.out g hb).1; omega
                    · rcases List.mem_append.1 hb with hb | hb
                      · have := HPU.out g (HGc.out g hb); omega
                      · have := HKu.out g hb; have := hBwo.size; omega
                  clear hown4 hgr4 hat4
                  (try dsimp only)
                  refine hK.out _ _ (HS.out _ hC4) (fun _ => trivial) ?_
                  clear hK K
                  (try simp only [Act.put, List.getElem_toArray, List.getElem_cons_zero, List.getElem_cons_succ, List.setIfInBounds_toArray, List.set_cons_zero, List.set_cons_succ])
                  refine wpAnyB_ready (rs := [16]) (by kernel_rfl) (by simp) ?_
                  refine AllReadyB.cons rfl (fun K hK => ?_) (AllReadyB.nil)
                  go_simp
                  (try dsimp only)
                  refine hK.out _ _ (HS.out _ (hC4.alloc hC4.size _)) (fun _ => trivial) ?_
                  clear hK K
                  (try simp only [Act.put, List.getElem_toArray, List.getElem_cons_zero, List.getElem_cons_succ, List.setIfInBounds_toArray, List.set_cons_zero, List.set_cons_succ])
                  refine wpAnyB_ready (rs := [17]) (by kernel_rfl) (by simp) ?_
                  refine AllReadyB.cons rfl (fun K hK => ?_) (AllReadyB.nil)
                  refine step_push1 (P := Try.prog) rfl _ _ 143 rfl j0 _ 24 Try.underlying143 HJ.out HY0.out HY1.out HY2.out rfl (by decide) LsR_len LsR_mono (by rfl) HM4.out (o ++ [kq]) 39 [.slice (some ⟨g7, 0, none⟩) (o.length + 1) cp7] (rowOf (.slice (some ⟨g7, 0, none⟩) (o.length + 1) cp7) ++ (Gc ++ Gk)) C4.heap.size (by rfl) rfl (by simp [Value.oneCell']) HYR.out HYU.out HYN.out hmx hby hbo4.size ?_
                  intro g10 cp10 C5 hown5 hgr5 hat5
                  have hrow := HM4.out.row
                  have hB5 : Below wo.heap.size wo C5 := (hbo4.alloc hbo4.size _).grown hgr5 (by simp; have := hbo4.size; omega) (fun g hg => (hrow g (mem_rowOf.2 hg)).1)
                  have hS4 := HS.out _ hC4
                  have hS5 : C5.cell? ⟨b5, off5 + k, none⟩ = some (.slice pA o.length pcap) ∧ C5.cell? ⟨bl, offl + i, none⟩ = some (.slice (some ⟨b9, off9, none⟩) l.length lcap) ∧ C5.cell? ⟨b9, off9 + j * 3, none⟩ = some (.int .i64 kq.c) ∧ C5.cell? ⟨b9, off9 + j * 3 + 1, none⟩ = some (.int .i64 kq.n) ∧ C5.cell? ⟨b9, off9 + j * 3 + 2, none⟩ = some (.slice nA kq.ks.length ncap) := ⟨(hB5.cell lo5).trans ((hBo.cell lo5).symm.trans c5), (hB5.cell lol).trans ((hBo.cell lol).symm.trans cl), (hB5.cell lo9).trans ((hBo.cell lo9).symm.trans n0), (hB5.cell lo9).trans ((hBo.cell lo9).symm.trans n1), (hB5.cell lo9).trans ((hBo.cell lo9).symm.trans n2)⟩
                  have HO5 := Lib.hid hown5
                  clear hown5 hgr5 hat5 hrow
                  (try dsimp only)
                  refine hK.out _ _ (hS5) (fun _ => trivial) ?_
                  clear hK K
                  (try simp only [Act.put, List.getElem_toArray, List.getElem_cons_zero, List.getElem_cons_succ, List.setIfInBounds_toArray, List.set_cons_zero, List.set_cons_succ])
                  refine wpAnyB_take (i := 18) (v := ?_) rfl (by decide) (by kernel_rfl) (by kernel_rfl) (by kernel_rfl) (fun _ _ _ h => h) (Or.inl ⟨by rfl, ?hy18⟩) hS5 (fun _ => hT0) ?_
                  case hy18 => (intro W hSw; (try dsimp only at hSw); (try obtain ⟨hSw0, hSw1, hSw2, hSw3, hSw4⟩ := hSw); go_simp; try with_reducible rfl)
                  (try simp only [Act.put, List.getElem_toArray, List.getElem_cons_zero, List.getElem_cons_succ, List.setIfInBounds_toArray, List.set_cons_zero, List.set_cons_succ])
                  refine wpAnyB_end (by kernel_rfl) ?_
                  clear hS4 hS5 hS0 hT0 c5 cl n0 n1 n2
                  go_wp2
                  go_roundw
                  case rel => exact ⟨j + 1, _, hjl, by go_num, (by rw [HMS.out]; exact HO5.out), HYP.out, hB5⟩
                  case measure => (simp [intOf] <;> omega)
                · go_simp
                  obtain ⟨C2, hX⟩ : ∃ X, X = C1.alloc (.cells [.int .i64 kq.c, .int .i64 kq.n, .slice nA kq.ks.length ncap].toArray 53) := ⟨_, rfl⟩
                  have hb2 : Below C1.heap.size C1 C2 := by rw [hX]; exact (Below.refl _ _).alloc (Nat.le_refl _) _
                  have hkb2 : Blk C2 C1.heap.size 53 [.int .i64 kq.c, .int .i64 kq.n, .slice nA kq.ks.length ncap].toArray := by rw [hX]; exact Blk.new _ _ _
                  have hX2 := hX
                  simp only [List.toArray] at hX2
                  first | rw [← hX] | rw [← hX2]
                  clear hX hX2
                  have hC2 : Below wr.heap.size wr C2 := hC1.trans (hb2.mono hC1.size)
                  have HKb2 := Lib.hid hkb2
                  have HKL2 : Hid (∀ g, g < C1.heap.size → C1.heap.size ≠ g) := fun g hg e => by omega
                  obtain ⟨kb, hkb⟩ : ∃ X, X = C1.heap.size := ⟨_, rfl⟩
                  rw [← hkb] at HKb2 HKL2 ⊢
                  clear hkb2
                  have HKB := Lib.hid hkb
                  clear hkb
                  have HE2 := Lib.hid (HE1.out.below (fun x cs G hk h => VR_mono' _ _ x cs G hk h) hb2)
                  have hne : kb ≠ eb := fun e => by have h1 := (HE1.out.row eb (by simp [rowOf_some])).2; have h2 := HKB.out; omega
                  have hkl2 := HKb2.out.lt
                  (try dsimp only)
                  refine hK.out _ _ (HS.out _ hC2) (fun _ => trivial) ?_
                  clear hK K
                  (try simp only [Act.put, List.getElem_toArray, List.getElem_cons_zero, List.getElem_cons_succ, List.setIfInBounds_toArray, List.set_cons_zero, List.set_cons_succ])
                  refine wpAnyB_ready (rs := [6]) (by kernel_rfl) (by simp) ?_
                  refine AllReadyB.cons rfl (fun K hK => ?_) (AllReadyB.nil)
                  obtain ⟨cv, C3, Gc, hr3, ho3, hG3, hgr3, hat3⟩ := run_append_all (P := Try.prog) 39 39 i0 _ 40 Try.underlying39 HI.out HZ0.out HZ1.out HZ2.out rfl (by decide) VR_len' VR_mono' VR_one HE2.out (HPA.out C2 hC2) (HPU.out.mono (Nat.le_trans hBo.size hC2.size)) (fun g hg hgF => Nat.lt_irrefl _ (Nat.lt_of_lt_of_le (HPU.out g hgF) (Nat.le_trans hBo.size (HE2.out.row g hg).1))) (by simp; omega) (by simp; omega) hC2.size
                  rw [List.nil_append, List.nil_append] at ho3
                  have hC3 : Below wr.heap.size wr C3 := hC2.grown hgr3 hC2.size (fun g hg => (HE2.out.row g (mem_rowOf.2 hg)).1)
                  have hcb3 : ∀ (b : Nat) (T : TypeId) (cs : Array Value), b < C2.heap.size → b ≠ eb → Blk C2 b T cs → Blk C3 b T cs := fun b T cs hl hne h => h.same (hgr3.block _ hl (fun e => hne (Option.some.inj e)))
                  obtain ⟨cA, ccap, hcv, -, -⟩ := ho3.form
                  subst hcv
                  have HGc := Lib.hid hG3
                  have HOc3 := Lib.hid ho3
                  have HRUN := Lib.hid hr3
                  clear ho3 hG3 hgr3 hat3 hr3
                  refine step_append_run (P := Try.prog) rfl _ _ 39 rfl (by rfl) (by rfl) HRUN.out ?_
                  clear HRUN
                  have HOc := HOc3
                  have HKb := Lib.hid (hcb3 kb _ _ hkl2 hne HKb2.out)
                  (try dsimp only)
                  refine hK.out _ _ (HS.out _ hC3) (fun _ => trivial) ?_
                  clear hK K
                  (try simp only [Act.put, List.getElem_toArray, List.getElem_cons_zero, List.getElem_cons_succ, List.setIfInBounds_toArray, List.set_cons_zero, List.set_cons_succ])
                  refine wpAnyB_ready (rs := [15]) (by kernel_rfl) (by simp) ?_
                  refine AllReadyB.cons rfl (fun K hK => ?_) (AllReadyB.nil)
                  refine step_pushB (P := Try.prog) rfl _ _ 39 rfl i0 _ 40 Try.underlying39 HI.out HZ0.out HZ1.out HZ2.out rfl (by decide) VR_len' VR_mono' (by rfl) HOc.out kq 53 [.int .i64 kq.c, .int .i64 kq.n, .slice nA kq.ks.length ncap] Gk kb (by rfl) HKb.out (by simp [Value.oneCell']) (HVk2.out C3 hC3) (HKu.out.mono (Nat.le_trans hBr.size hC3.size)) (fun g hg hgG => Nat.lt_irrefl _ (Nat.lt_of_lt_of_le (HKu.out g hgG) (Nat.le_trans hBr.size (HOc.out.row g hg).1))) (by unfold maxLen; omega) (by omega) hC3.size ?_
                  intro g7 cp7 C4 hown4 hgr4 hat4
                  have hC4 : Below wr.heap.size wr C4 := hC3.grown hgr4 hC3.size (fun g hg => (HOc.out.row g (mem_rowOf.2 hg)).1)
                  have HO4 := Lib.hid hown4
                  have H4R : Hid (∀ g ∈ rowOf (.slice (some ⟨g7, 0, none⟩) (o.length + 1) cp7), wr.heap.size ≤ g ∧ g < C4.heap.size) := fun g hg => HO4.out.row g hg
                  have HYR : Hid (LsR C4 (o ++ [kq]) [.slice (some ⟨g7, 0, none⟩) (o.length + 1) cp7] (rowOf (.slice (some ⟨g7, 0, none⟩) (o.length + 1) cp7) ++ (Gc ++ Gk))) := by
                    have h := HO4.out.arr
                    rw [if_neg (by simp)] at h
                    exact ⟨_, rfl, h⟩
                  have hbo4 : Below wo.heap.size wo C4 := hBo.trans (hC4.mono hBo.size)
                  have HM4 := Lib.hid (HM.out.below (fun x cs G hk h => LsR_mono _ _ x cs G hk h) hC4)
                  have HYU : Hid (Under C4.heap.size (rowOf (.slice (some ⟨g7, 0, none⟩) (o.length + 1) cp7) ++ (Gc ++ Gk))) := fun b hb => by
                    rcases List.mem_append.1 hb with hb | hb
                    · exact (H4R.out b hb).2
                    · rcases List.mem_append.1 hb with hb | hb
                      · exact Nat.lt_of_lt_of_le (HPU.out b (HGc.out b hb)) (Nat.le_trans hBo.size hC4.size)
                      · exact Nat.lt_of_lt_of_le (HKu.out b hb) (Nat.le_trans hBr.size hC4.size)
                  have HYP : Hid (∀ b ∈ Fm ++ (rowOf (.slice (some ⟨g7, 0, none⟩) (o.length + 1) cp7) ++ (Gc ++ Gk)), b ∈ F ∨ w.heap.size ≤ b) := fun b hb => by
                    rcases List.mem_append.1 hb with hb | hb
                    · exact HFN.out b hb
                    · rcases List.mem_append.1 hb with hb | hb
                      · exact .inr (Nat.le_trans hBr.size (H4R.out b hb).1)
                      · rcases List.mem_append.1 hb with hb | hb
                        · exact HOP.out b (HPSB.out b (HGc.out b hb))
                        · exact .inl (HLS.out b (HKS.out b hb))
                  have HYN : Hid (∀ g ∈ rowOf (.slice mA (nextR pre o l j).length mcap), g ∉ (rowOf (.slice (some ⟨g7, 0, none⟩) (o.length + 1) cp7) ++ (Gc ++ Gk))) := fun g hg hgG => by
                    have h1 := HM.out.row g hg
                    rcases List.mem_append.1 hgG with hb | hb
                    · have := (H4R.out g hb).1; omega
                    · rcases List.mem_append.1 hb with hb | hb
                      · have := HPU.out g (HGc.out g hb); omega
                      · have := HKu.out g hb; have := hBwo.size; omega
                  clear hown4 hgr4 hat4
                  (try dsimp only)
                  refine hK.out _ _ (HS.out _ hC4) (fun _ => trivial) ?_
                  clear hK K
                  (try simp only [Act.put, List.getElem_toArray, List.getElem_cons_zero, List.getElem_cons_succ, List.setIfInBounds_toArray, List.set_cons_zero, List.set_cons_succ])
                  refine wpAnyB_ready (rs := [16]) (by kernel_rfl) (by simp) ?_
                  refine AllReadyB.cons rfl (fun K hK => ?_) (AllReadyB.nil)
                  go_simp
                  (try dsimp only)
                  refine hK.out _ _ (HS.out _ (hC4.alloc hC4.size _)) (fun _ => trivial) ?_
                  clear hK K
                  (try simp only [Act.put, List.getElem_toArray, List.getElem_cons_zero, List.getElem_cons_succ, List.setIfInBounds_toArray, List.set_cons_zero, List.set_cons_succ])
                  refine wpAnyB_ready (rs := [17]) (by kernel_rfl) (by simp) ?_
                  refine AllReadyB.cons rfl (fun K hK => ?_) (AllReadyB.nil)
                  refine step_push1 (P := Try.prog) rfl _ _ 143 rfl j0 _ 24 Try.underlying143 HJ.out HY0.out HY1.out HY2.out rfl (by decide) LsR_len LsR_mono (by rfl) HM4.out (o ++ [kq]) 39 [.slice (some ⟨g7, 0, none⟩) (o.length + 1) cp7] (rowOf (.slice (some ⟨g7, 0, none⟩) (o.length + 1) cp7) ++ (Gc ++ Gk)) C4.heap.size (by rfl) rfl (by simp [Value.oneCell']) HYR.out HYU.out HYN.out hmx hby hbo4.size ?_
                  intro g10 cp10 C5 hown5 hgr5 hat5
                  have hrow := HM4.out.row
                  have hB5 : Below wo.heap.size wo C5 := (hbo4.alloc hbo4.size _).grown hgr5 (by simp; have := hbo4.size; omega) (fun g hg => (hrow g (mem_rowOf.2 hg)).1)
                  have hS4 := HS.out _ hC4
                  have hS5 : C5.cell? ⟨b5, off5 + k, none⟩ = some (.slice pA o.length pcap) ∧ C5.cell? ⟨bl, offl + i, none⟩ = some (.slice (some ⟨b9, off9, none⟩) l.length lcap) ∧ C5.cell? ⟨b9, off9 + j * 3, none⟩ = some (.int .i64 kq.c) ∧ C5.cell? ⟨b9, off9 + j * 3 + 1, none⟩ = some (.int .i64 kq.n) ∧ C5.cell? ⟨b9, off9 + j * 3 + 2, none⟩ = some (.slice nA kq.ks.length ncap) := ⟨(hB5.cell lo5).trans ((hBo.cell lo5).symm.trans c5), (hB5.cell lol).trans ((hBo.cell lol).symm.trans cl), (hB5.cell lo9).trans ((hBo.cell lo9).symm.trans n0), (hB5.cell lo9).trans ((hBo.cell lo9).symm.trans n1), (hB5.cell lo9).trans ((hBo.cell lo9).symm.trans n2)⟩
                  have HO5 := Lib.hid hown5
                  clear hown5 hgr5 hat5 hrow
                  (try dsimp only)
                  refine hK.out _ _ (hS5) (fun _ => trivial) ?_
                  clear hK K
                  (try simp only [Act.put, List.getElem_toArray, List.getElem_cons_zero, List.getElem_cons_succ, List.setIfInBounds_toArray, List.set_cons_zero, List.set_cons_succ])
                  refine wpAnyB_take (i := 18) (v := ?_) rfl (by decide) (by kernel_rfl) (by kernel_rfl) (by kernel_rfl) (fun _ _ _ h => h) (Or.inl ⟨by rfl, ?hy18⟩) hS5 (fun _ => hT0) ?_
                  case hy18 => (intro W hSw; (try dsimp only at hSw); (try obtain ⟨hSw0, hSw1, hSw2, hSw3, hSw4⟩ := hSw); go_simp; try with_reducible rfl)
                  (try simp only [Act.put, List.getElem_toArray, List.getElem_cons_zero, List.getElem_cons_succ, List.setIfInBounds_toArray, List.set_cons_zero, List.set_cons_succ])
                  refine wpAnyB_end (by kernel_rfl) ?_
                  clear hS4 hS5 hS0 hT0 c5 cl n0 n1 n2
                  go_wp2
                  go_roundw
                  case rel => exact ⟨j + 1, _, hjl, by go_num, (by rw [HMS.out]; exact HO5.out), HYP.out, hB5⟩
                  case measure => (simp [intOf] <;> omega)
              · go_simp
                obtain ⟨C1, hX⟩ : ∃ X, X = wd.alloc (.cells [.int .i64 kq.c, .int .i64 kq.n, .slice nA kq.ks.length ncap].toArray 53) := ⟨_, rfl⟩
                have hb1 : Below wd.heap.size wd C1 := by rw [hX]; exact (Below.refl _ _).alloc (Nat.le_refl _) _
                have hkb1 : Blk C1 wd.heap.size 53 [.int .i64 kq.c, .int .i64 kq.n, .slice nA kq.ks.length ncap].toArray := by rw [hX]; exact Blk.new _ _ _
                have hX2 := hX
                simp only [List.toArray] at hX2
                first | rw [← hX] | rw [← hX2]
                clear hX hX2
                have hC1 : Below wr.heap.size wr C1 := hC0.trans (hb1.mono hC0.size)
                have HKb1 := Lib.hid hkb1
                have HKL1 : Hid (∀ g, g < wd.heap.size → wd.heap.size ≠ g) := fun g hg e => by omega
                obtain ⟨kb, hkb⟩ : ∃ X, X = wd.heap.size := ⟨_, rfl⟩
                rw [← hkb] at HKb1 HKL1 ⊢
                clear hkb1
                have HKB := Lib.hid hkb
                clear hkb
                have hkl1 := HKb1.out.lt
                (try dsimp only)
                refine hK.out _ _ (HS.out _ hC1) (fun _ => trivial) ?_
                clear hK K
                (try simp only [Act.put, List.getElem_toArray, List.getElem_cons_zero, List.getElem_cons_succ, List.setIfInBounds_toArray, List.set_cons_zero, List.set_cons_succ])
                refine wpAnyB_ready (rs := [1]) (by kernel_rfl) (by simp) ?_
                refine AllReadyB.cons rfl (fun K hK => ?_) (AllReadyB.nil)
                go_simp
                obtain ⟨C2, hX⟩ : ∃ X, X = C1.alloc (.cells #[] 53) := ⟨_, rfl⟩
                have hb2 : Below C1.heap.size C1 C2 := by rw [hX]; exact (Below.refl _ _).alloc (Nat.le_refl _) _
                have ho2 : Own C2 wr.heap.size 53 3 VR ([] : List V) (.slice (some ⟨C1.heap.size, 0, none⟩) 0 0) [] := by rw [hX]; exact Own.made C1 _ _ _ _ _ 0 hC1.size (by simp [maxLen]) rfl
                rw [← hX]
                clear hX
                have hC2 : Below wr.heap.size wr C2 := hC1.trans (hb2.mono hC1.size)
                have HE2 := Lib.hid ho2
                obtain ⟨eb, heb⟩ : ∃ X, X = C1.heap.size := ⟨_, rfl⟩
                rw [← heb] at HE2 ⊢
                have HEL := Lib.hid heb
                clear heb ho2
                have HKb2 := Lib.hid (HKb1.out.same (hb2.block _ hkl1))
                have hne : kb ≠ eb := fun e => by have h1 := (HE2.out.row eb (by simp [rowOf_some])); have h2 := HEL.out; omega
                have hkl2 := HKb2.out.lt
                (try dsimp only)
                refine hK.out _ _ (HS.out _ hC2) (fun _ => trivial) ?_
                clear hK K
                (try simp only [Act.put, List.getElem_toArray, List.getElem_cons_zero, List.getElem_cons_succ, List.setIfInBounds_toArray, List.set_cons_zero, List.set_cons_succ])
                refine wpAnyB_ready (rs := [6]) (by kernel_rfl) (by simp) ?_
                refine AllReadyB.cons rfl (fun K hK => ?_) (AllReadyB.nil)
                obtain ⟨cv, C3, Gc, hr3, ho3, hG3, hgr3, hat3⟩ := run_append_all (P := Try.prog) 39 39 i0 _ 40 Try.underlying39 HI.out HZ0.out HZ1.out HZ2.out rfl (by decide) VR_len' VR_mono' VR_one HE2.out (HPA.out C2 hC2) (HPU.out.mono (Nat.le_trans hBo.size hC2.size)) (fun g hg hgF => Nat.lt_irrefl _ (Nat.lt_of_lt_of_le (HPU.out g hgF) (Nat.le_trans hBo.size (HE2.out.row g hg).1))) (by simp; omega) (by simp; omega) hC2.size
                rw [List.nil_append, List.nil_append] at ho3
                have hC3 : Below wr.heap.size wr C3 := hC2.grown hgr3 hC2.size (fun g hg => (HE2.out.row g (mem_rowOf.2 hg)).1)
                have hcb3 : ∀ (b : Nat) (T : TypeId) (cs : Array Value), b < C2.heap.size → b ≠ eb → Blk C2 b T cs → Blk C3 b T cs := fun b T cs hl hne h => h.same (hgr3.block _ hl (fun e => hne (Option.some.inj e)))
                obtain ⟨cA, ccap, hcv, -, -⟩ := ho3.form
                subst hcv
                have HGc := Lib.hid hG3
                have HOc3 := Lib.hid ho3
                have HRUN := Lib.hid hr3
                clear ho3 hG3 hgr3 hat3 hr3
                refine step_append_run (P := Try.prog) rfl _ _ 39 rfl (by rfl) (by rfl) HRUN.out ?_
                clear HRUN
                have HOc := HOc3
                have HKb := Lib.hid (hcb3 kb _ _ hkl2 hne HKb2.out)
                (try dsimp only)
                refine hK.out _ _ (HS.out _ hC3) (fun _ => trivial) ?_
                clear hK K
                (try simp only [Act.put, List.getElem_toArray, List.getElem_cons_zero, List.getElem_cons_succ, List.setIfInBounds_toArray, List.set_cons_zero, List.set_cons_succ])
                refine wpAnyB_ready (rs := [15]) (by kernel_rfl) (by simp) ?_
                refine AllReadyB.cons rfl (fun K hK => ?_) (AllReadyB.nil)
                refine step_pushB (P := Try.prog) rfl _ _ 39 rfl i0 _ 40 Try.underlying39 HI.out HZ0.out HZ1.out HZ2.out rfl (by decide) VR_len' VR_mono' (by rfl) HOc.out kq 53 [.int .i64 kq.c, .int .i64 kq.n, .slice nA kq.ks.length ncap] Gk kb (by rfl) HKb.out (by simp [Value.oneCell']) (HVk2.out C3 hC3) (HKu.out.mono (Nat.le_trans hBr.size hC3.size)) (fun g hg hgG => Nat.lt_irrefl _ (Nat.lt_of_lt_of_le (HKu.out g hgG) (Nat.le_trans hBr.size (HOc.out.row g hg).1))) (by unfold maxLen; omega) (by omega) hC3.size ?_
                intro g7 cp7 C4 hown4 hgr4 hat4
                have hC4 : Below wr.heap.size wr C4 := hC3.grown hgr4 hC3.size (fun g hg => (HOc.out.row g (mem_rowOf.2 hg)).1)
                have HO4 := Lib.hid hown4
                have H4R : Hid (∀ g ∈ rowOf (.slice (some ⟨g7, 0, none⟩) (o.length + 1) cp7), wr.heap.size ≤ g ∧ g < C4.heap.size) := fun g hg => HO4.out.row g hg
                have HYR : Hid (LsR C4 (o ++ [kq]) [.slice (some ⟨g7, 0, none⟩) (o.length + 1) cp7] (rowOf (.slice (some ⟨g7, 0, none⟩) (o.length + 1) cp7) ++ (Gc ++ Gk))) := by
                  have h := HO4.out.arr
                  rw [if_neg (by simp)] at h
                  exact ⟨_, rfl, h⟩
                have hbo4 : Below wo.heap.size wo C4 := hBo.trans (hC4.mono hBo.size)
                have HM4 := Lib.hid (HM.out.below (fun x cs G hk h => LsR_mono _ _ x cs G hk h) hC4)
                have HYU : Hid (Under C4.heap.size (rowOf (.slice (some ⟨g7, 0, none⟩) (o.length + 1) cp7) ++ (Gc ++ Gk))) := fun b hb => by
                  rcases List.mem_append.1 hb with hb | hb
                  · exact (H4R.out b hb).2
                  · rcases List.mem_append.1 hb with hb | hb
                    · exact Nat.lt_of_lt_of_le (HPU.out b (HGc.out b hb)) (Nat.le_trans hBo.size hC4.size)
                    · exact Nat.lt_of_lt_of_le (HKu.out b hb) (Nat.le_trans hBr.size hC4.size)
                have HYP : Hid (∀ b ∈ Fm ++ (rowOf (.slice (some ⟨g7, 0, none⟩) (o.length + 1) cp7) ++ (Gc ++ Gk)), b ∈ F ∨ w.heap.size ≤ b) := fun b hb => by
                  rcases List.mem_append.1 hb with hb | hb
                  · exact HFN.out b hb
                  · rcases List.mem_append.1 hb with hb | hb
                    · exact .inr (Nat.le_trans hBr.size (H4R.out b hb).1)
                    · rcases List.mem_append.1 hb with hb | hb
                      · exact HOP.out b (HPSB.out b (HGc.out b hb))
                      · exact .inl (HLS.out b (HKS.out b hb))
                have HYN : Hid (∀ g ∈ rowOf (.slice mA (nextR pre o l j).length mcap), g ∉ (rowOf (.slice (some ⟨g7, 0, none⟩) (o.length + 1) cp7) ++ (Gc ++ Gk))) := fun g hg hgG => by
                  have h1 := HM.out.row g hg
                  rcases List.mem_append.1 hgG with hb | hb
                  · have := (H4R.out g hb).1; omega
                  · rcases List.mem_append.1 hb with hb | hb
                    · have := HPU.out g (HGc.out g hb); omega
                    · have := HKu.out g hb; have := hBwo.size; omega
                clear hown4 hgr4 hat4
                (try dsimp only)
                refine hK.out _ _ (HS.out _ hC4) (fun _ => trivial) ?_
                clear hK K
                (try simp only [Act.put, List.getElem_toArray, List.getElem_cons_zero, List.getElem_cons_succ, List.setIfInBounds_toArray, List.set_cons_zero, List.set_cons_succ])
                refine wpAnyB_ready (rs := [16]) (by kernel_rfl) (by simp) ?_
                refine AllReadyB.cons rfl (fun K hK => ?_) (AllReadyB.nil)
                go_simp
                (try dsimp only)
                refine hK.out _ _ (HS.out _ (hC4.alloc hC4.size _)) (fun _ => trivial) ?_
                clear hK K
                (try simp only [Act.put, List.getElem_toArray, List.getElem_cons_zero, List.getElem_cons_succ, List.setIfInBounds_toArray, List.set_cons_zero, List.set_cons_succ])
                refine wpAnyB_ready (rs := [17]) (by kernel_rfl) (by simp) ?_
                refine AllReadyB.cons rfl (fun K hK => ?_) (AllReadyB.nil)
                refine step_push1 (P := Try.prog) rfl _ _ 143 rfl j0 _ 24 Try.underlying143 HJ.out HY0.out HY1.out HY2.out rfl (by decide) LsR_len LsR_mono (by rfl) HM4.out (o ++ [kq]) 39 [.slice (some ⟨g7, 0, none⟩) (o.length + 1) cp7] (rowOf (.slice (some ⟨g7, 0, none⟩) (o.length + 1) cp7) ++ (Gc ++ Gk)) C4.heap.size (by rfl) rfl (by simp [Value.oneCell']) HYR.out HYU.out HYN.out hmx hby hbo4.size ?_
                intro g10 cp10 C5 hown5 hgr5 hat5
                have hrow := HM4.out.row
                have hB5 : Below wo.heap.size wo C5 := (hbo4.alloc hbo4.size _).grown hgr5 (by simp; have := hbo4.size; omega) (fun g hg => (hrow g (mem_rowOf.2 hg)).1)
                have hS4 := HS.out _ hC4
                have hS5 : C5.cell? ⟨b5, off5 + k, none⟩ = some (.slice pA o.length pcap) ∧ C5.cell? ⟨bl, offl + i, none⟩ = some (.slice (some ⟨b9, off9, none⟩) l.length lcap) ∧ C5.cell? ⟨b9, off9 + j * 3, none⟩ = some (.int .i64 kq.c) ∧ C5.cell? ⟨b9, off9 + j * 3 + 1, none⟩ = some (.int .i64 kq.n) ∧ C5.cell? ⟨b9, off9 + j * 3 + 2, none⟩ = some (.slice nA kq.ks.length ncap) := ⟨(hB5.cell lo5).trans ((hBo.cell lo5).symm.trans c5), (hB5.cell lol).trans ((hBo.cell lol).symm.trans cl), (hB5.cell lo9).trans ((hBo.cell lo9).symm.trans n0), (hB5.cell lo9).trans ((hBo.cell lo9).symm.trans n1), (hB5.cell lo9).trans ((hBo.cell lo9).symm.trans n2)⟩
                have HO5 := Lib.hid hown5
                clear hown5 hgr5 hat5 hrow
                (try dsimp only)
                refine hK.out _ _ (hS5) (fun _ => trivial) ?_
                clear hK K
                (try simp only [Act.put, List.getElem_toArray, List.getElem_cons_zero, List.getElem_cons_succ, List.setIfInBounds_toArray, List.set_cons_zero, List.set_cons_succ])
                refine wpAnyB_take (i := 18) (v := ?_) rfl (by decide) (by kernel_rfl) (by kernel_rfl) (by kernel_rfl) (fun _ _ _ h => h) (Or.inl ⟨by rfl, ?hy18⟩) hS5 (fun _ => hT0) ?_
                case hy18 => (intro W hSw; (try dsimp only at hSw); (try obtain ⟨hSw0, hSw1, hSw2, hSw3, hSw4⟩ := hSw); go_simp; try with_reducible rfl)
                (try simp only [Act.put, List.getElem_toArray, List.getElem_cons_zero, List.getElem_cons_succ, List.setIfInBounds_toArray, List.set_cons_zero, List.set_cons_succ])
                refine wpAnyB_end (by kernel_rfl) ?_
                clear hS4 hS5 hS0 hT0 c5 cl n0 n1 n2
                go_wp2
                go_roundw
                case rel => exact ⟨j + 1, _, hjl, by go_num, (by rw [HMS.out]; exact HO5.out), HYP.out, hB5⟩
                case measure => (simp [intOf] <;> omega)
            · have HOM : Hid (Own wr wo.heap.size 39 1 LsR (nextL As l (k + 1)) (.slice mA (nextR pre o l j).length mcap) Fm) := by rw [← HNR.out j hj2]; exact HM.out
              by_cases hjl : j < l.length
              · have t3 : decide ((j : Int) < (l.length : Int)) = true := by simp; omega
                have t4 : decide (((nextR pre o l j).length : Int) ≤ 400) = false := by simp; omega
                go_wp2
                go_roundw
                case rel => exact ⟨k + 1, Fm, hkl, by go_num, HOM.out, HFN.out, hBo⟩
                case measure => (simp [intOf] <;> omega)
              · have t3 : decide ((j : Int) < (l.length : Int)) = false := by simp; omega
                go_wp2
                go_roundw
                case rel => exact ⟨k + 1, Fm, hkl, by go_num, HOM.out, HFN.out, hBo⟩
                case measure => (simp [intOf] <;> omega)
        · have HON : Hid (Arr wr (LsR wr) (pairTo ls (i + 1)) (.slice mA (nextL As l k).length mcap) (if nextL As l k = [] then [] else rowOf (.slice mA (nextL As l k).length mcap) ++ Fn)) := by
            rw [HPS.out, ← HEND.out hk2]; exact HM.out.arr
          have HUN := Lib.hid HM.out.under_any
          have HPN : Hid (∀ b ∈ (if nextL As l k = [] then [] else rowOf (.slice mA (nextL As l k).length mcap) ++ Fn), b ∈ F ∨ w.heap.size ≤ b) := fun b hb => by
            by_cases hx : nextL As l k = []
            · rw [if_pos hx] at hb; cases hb
            · rw [if_neg hx] at hb
              rcases List.mem_append.1 hb with hb | hb
              · exact .inr (Nat.le_trans hBwo.size (HM.out.row b hb).1)
              · exact HFN.out b hb
          have HB2 : Hid (Below W2.heap.size W2 wr) := HBI.out.trans (hBo.mono HBI.out.size)
          by_cases hkl : k < As.length
          · have t1 : decide ((k : Int) < (As.length : Int)) = true := by simp; omega
            have t2 : decide (((nextL As l k).length : Int) ≤ 400) = false := by simp; omega
            go_wp2
            go_roundw
            case rel => exact ⟨i + 1, _, hil, by go_num, HON.out, HUN.out, HPN.out, HB2⟩
            case measure => (simp [intOf] <;> omega)
          · have t1 : decide ((k : Int) < (As.length : Int)) = false := by simp; omega
            go_wp2
            go_roundw
            case rel => exact ⟨i + 1, _, hil, by go_num, HON.out, HUN.out, HPN.out, HB2⟩
            case measure => (simp [intOf] <;> omega)
    · have HFin : Hid (ListsP (cutV (pairAll ls)) F w (.returned (.slice oA (pairTo ls i).length ocap)) wo) := by
        have h := HO.out
        refine ⟨_, Fo, rfl, hBwo, ?_, HOU.out, HOP.out⟩
        rw [← pairTo_all ls (Nat.le_of_not_lt hil)]
        exact h
      go_wp2
      go_ret
      exact HFin.out
end Go.Proofs.Ytilndhmegaccmaa

namespace Go.Proofs.Ytilndhmegaccmaa
open Go.RowKit

set_option maxRecDepth 100000 in
set_option maxHeartbeats 6400000 in
theorem spec_l2All : ∀ (d : Nat), ∀ (xs : List Dt) (_ : WorldOK xs) (t : Ty) (_ : TyIn xs.length t) (_ : d ≤ 10) (w : World) (x : Value) (F : List Nat), Arr w (DtR w) xs x F → Under w.heap.size F →
    Calls Try.prog 61 #[x, .agg #[.int .i64 t.d, .int .i64 t.i], .int .i64 ((d : Nat) : Int), .int .i64 400] w (AllP (cutV (valsL xs d t)) w) := by
  intro d
  induction d with
  | zero =>
    intro xs hw t ht hd w x F hx hf
    obtain ⟨A, cap, rfl, hc1, hc2⟩ := hx.form
    clear hw ht hd hx hf
    go_enter Try.func61, Try.ntmps61
    go_wp2_with fail
    obtain ⟨W2, hW2⟩ : ∃ W2, W2 = ((w.alloc (.cells #[.int .i64 t.d, .int .i64 t.i] 32)).alloc (.cells #[] 53)) := ⟨_, rfl⟩
    have hB0 : Below w.heap.size w W2 := by rw [hW2]; exact ((Below.refl _ _).alloc (Nat.le_refl _) _).alloc (by simp) _
    have KT : Hid (Blk W2 w.heap.size 32 #[.int .i64 t.d, .int .i64 t.i]) := by rw [hW2]; exact (Blk.new w _ _).same (Below.heap_alloc _ _ _ (by simp))
    have HO0 : Hid (Own W2 w.heap.size 53 3 VR ([] : List V) (.slice (some ⟨w.heap.size + 1, 0, none⟩) 0 0) []) := by
      rw [hW2]
      have h := Own.made (w.alloc (.cells #[.int .i64 t.d, .int .i64 t.i] 32)) w.heap.size 53 3 VR #[] 0 (by rw [World.size_alloc]; omega) (by simp [maxLen]) rfl
      rw [World.size_alloc] at h
      exact h
    have hs2 : W2.heap.size = w.heap.size + 1 + 1 := by rw [hW2]; simp
    rw [← hW2]
    clear hW2
    have HFin : Hid (AllP (cutV (valsL xs 0 t)) w (.returned (.slice (some ⟨w.heap.size + 1, 0, none⟩) 0 0)) W2) := ⟨_, [], rfl, hB0, HO0.out, fun b hb => by cases hb⟩
    go_wp2
    go_ret
    exact HFin.out
  | succ d ih =>
    intro xs hw t ht hd w x F hx hf
    have IH := Lib.hid ih
    obtain ⟨A, cap, rfl, hc1, hc2⟩ := hx.form
    have hde : ((d + 1 : Nat) : Int) = (d : Int) + 1 := by omega
    have e0 : decide (((d : Int) + 1) < 1) = false := by simp; omega
    obtain ⟨i0, hi, hz0, hz1, hz2⟩ := info_parts info_VE
    obtain ⟨j0, hj, hy0, hy1, hy2⟩ := info_parts info_VSE
    have HI := Lib.hid hi
    have HZ0 := Lib.hid hz0
    have HZ1 := Lib.hid hz1
    have HZ2 := Lib.hid hz2
    have HJ := Lib.hid hj
    have HY0 := Lib.hid hy0
    have HY1 := Lib.hid hy1
    have HY2 := Lib.hid hy2
    clear hi hz0 hz1 hz2 hj hy0 hy1 hy2
    rw [hde]
    clear ih hde
    rcases id ht with hti | ⟨q, r, rfl, hql, hrl⟩
    · have t0 : (t.d == -1) = true := by simp [hti]
      have HP : Hid (cutV (valsL xs (d + 1) t) = numsL 10) := by unfold Hid; rw [valsL_int hti]; exact cutV_short (by rw [numsL_len]; omega)
      clear hw ht hti hx hf hd
      go_enter Try.func61, Try.ntmps61
      go_wp2_with fail
      obtain ⟨W2, hW2⟩ : ∃ W2, W2 = ((w.alloc (.cells #[.int .i64 t.d, .int .i64 t.i] 32)).alloc (.cells #[] 53)) := ⟨_, rfl⟩
      have hB0 : Below w.heap.size w W2 := by rw [hW2]; exact ((Below.refl _ _).alloc (Nat.le_refl _) _).alloc (by simp) _
      have KT : Hid (Blk W2 w.heap.size 32 #[.int .i64 t.d, .int .i64 t.i]) := by rw [hW2]; exact (Blk.new w _ _).same (Below.heap_alloc _ _ _ (by simp))
      have HO0 : Hid (Own W2 w.heap.size 53 3 VR ([] : List V) (.slice (some ⟨w.heap.size + 1, 0, none⟩) 0 0) []) := by
        rw [hW2]
        have h := Own.made (w.alloc (.cells #[.int .i64 t.d, .int .i64 t.i] 32)) w.heap.size 53 3 VR #[] 0 (by rw [World.size_alloc]; omega) (by simp [maxLen]) rfl
        rw [World.size_alloc] at h
        exact h
      have hs2 : W2.heap.size = w.heap.size + 1 + 1 := by rw [hW2]; simp
      rw [← hW2]
      clear hW2
      have z0 : W2.cell? ⟨w.heap.size, 0, none⟩ = some (.int .i64 t.d) := (KT.out.cell 0).trans (by simp)
      have zl := KT.out.lt
      go_wp2
      clear z0 zl KT
      go_loopw [9, 10] (fun ov iv wr => ∃ k : Nat, ∃ Fo : List Nat, k ≤ 10 ∧ iv = .int .i64 k ∧ Hid (Own wr w.heap.size 53 3 VR (numsL k) ov Fo) ∧ Hid (∀ b ∈ Fo, w.heap.size ≤ b) ∧ Below w.heap.size w wr) (fun _ iv _ => 10 - (intOf iv).toNat)
      case atStart => exact ⟨0, [], by omega, rfl, HO0.out, (fun b hb => by cases hb), hB0⟩
      case round =>
        clear HO0 hB0
        obtain ⟨k, Fo, hk, rfl, HO, HFo, hB⟩ := hrel
        obtain ⟨oA, ocap, hov, -, -⟩ := HO.out.form
        subst hov
        have hkl := numsL_len k
        have hol : (numsL k).length ≤ 10 := by omega
        have HKL := Lib.hid hkl
        clear hkl
        by_cases hk9 : k < 10
        · have g1 : decide ((k : Int) ≤ 9) = true := by simp; omega
          have HS := Lib.hid (numsL_succ k)
          have hbs := hB.size
          go_wp2_with (at_builtin; refine Halt.mk ?_)
          refine Halt.of (wpList_push1 (P := Try.prog) rfl _ _ 39 rfl i0 _ 40 Try.underlying39 HI.out HZ0.out HZ1.out HZ2.out rfl (by decide) VR_len' VR_mono' (by rfl) HO.out (numV k) 53 [.int .i64 (-1), .int .i64 (k : Int), .slice none 0 0] [] _ (by rfl) (by simp) (by simp [Value.oneCell']) (numV_R _ k) (Under.nil _) (fun _ _ h => by cases h) (by unfold maxLen; omega) (by omega) hbs ?_)
          intro g cp w7 hown7 hgr7 hat7
          have hrow := HO.out.row
          have hB7 : Below w.heap.size w w7 := (hB.alloc hB.size _).grown hgr7 (by have := hB.size; simp; omega) (fun g hg => (hrow g (mem_rowOf.2 hg)).1)
          have HO7 := Lib.hid hown7
          clear hown7 hgr7 hat7 hrow
          go_wp2
          go_roundw
          case rel => exact ⟨k + 1, _, by omega, by go_num, (by rw [HS.out]; exact HO7.out), (fun b hb => by rw [List.append_nil] at hb; exact HFo.out b hb), hB7⟩
          case measure => (simp [intOf] <;> omega)
        · have hk10 : k = 10 := by omega
          subst hk10
          have HFin : Hid (AllP (cutV (valsL xs (d + 1) t)) w (.returned (.slice oA (numsL 10).length ocap)) wr) := by rw [HP.out]; exact ⟨_, Fo, rfl, hB, HO.out, HFo.out⟩
          clear HKL hol
          go_wp2
          go_ret
          exact HFin.out
    · have t0 : ((q : Int) == -1) = false := by rw [beq_eq_false_iff_ne]; omega
      have hdn : ¬ (⟨(q : Int), (r : Int)⟩ : Ty).d = -1 := by simp only; omega
      have HDN := Lib.hid hdn
      have HW := Lib.hid hw
      have HT := Lib.hid ht
      have HX := Lib.hid hx
      have HF := Lib.hid hf
      clear hx hf
      clear hw ht hdn
      go_enter Try.func61, Try.ntmps61
      go_wp2_with fail
      obtain ⟨W2, hW2⟩ : ∃ W2, W2 = ((w.alloc (.cells #[.int .i64 (q : Int), .int .i64 (r : Int)] 32)).alloc (.cells #[] 53)) := ⟨_, rfl⟩
      have hB0 : Below w.heap.size w W2 := by rw [hW2]; exact ((Below.refl _ _).alloc (Nat.le_refl _) _).alloc (by simp) _
      have KT : Hid (Blk W2 w.heap.size 32 #[.int .i64 (q : Int), .int .i64 (r : Int)]) := by rw [hW2]; exact (Blk.new w _ _).same (Below.heap_alloc _ _ _ (by simp))
      have HO0 : Hid (Own W2 w.heap.size 53 3 VR ([] : List V) (.slice (some ⟨w.heap.size + 1, 0, none⟩) 0 0) []) := by
        rw [hW2]
        have h := Own.made (w.alloc (.cells #[.int .i64 (q : Int), .int .i64 (r : Int)] 32)) w.heap.size 53 3 VR #[] 0 (by rw [World.size_alloc]; omega) (by simp [maxLen]) rfl
        rw [World.size_alloc] at h
        exact h
      have hs2 : W2.heap.size = w.heap.size + 1 + 1 := by rw [hW2]; simp
      rw [← hW2]
      clear hW2
      have y0 : W2.cell? ⟨w.heap.size, 0, none⟩ = some (.int .i64 (q : Int)) := (KT.out.cell 0).trans (by simp)
      have y1 : W2.cell? ⟨w.heap.size, 1, none⟩ = some (.int .i64 (r : Int)) := (KT.out.cell 1).trans (by simp)
      have ylt := KT.out.lt
      go_wp2_with fail
      refine (spec_l1Ctors xs (⟨(q : Int), (r : Int)⟩ : Ty) W2 _ F (ArrDt.below HX.out hB0 HF.out) (HF.out.mono hB0.size) HW.out HT.out.inWorld).mono ?_
      rintro e w3 ⟨v3, F3, rfl, hb3, ha3, -, hfs3⟩
      have hB3 := hB0.trans (hb3.mono hB0.size)
      have KT3 := Lib.hid (KT.out.same (hb3.block _ KT.out.lt))
      have HO3 := Lib.hid (HO0.out.below (fun x cs G hk h => VR_mono' _ _ x cs G hk h) hb3)
      have HA3 := Lib.hid ha3
      have HU3 := Lib.hid hfs3.under
      have HL3 : Hid (∀ b ∈ F3, w.heap.size + 2 ≤ b) := fun b hb => by have := (hfs3 b hb).1; omega
      have h23 : w.heap.size + 2 ≤ w3.heap.size := by have := hb3.size; omega
      obtain ⟨C3, cap3, rfl, hl1, hl2⟩ := ha3.form
      clear ha3 hfs3 hb3 KT hB0 HO0 hs2 y0 y1 ylt
      go_wp2
      go_loopw [9, 12] (fun ov iv wr => ∃ i : Nat, ∃ Fo : List Nat, i ≤ (ctorsL xs (⟨(q : Int), (r : Int)⟩ : Ty)).length ∧ iv = .int .i64 i ∧ Hid (Own wr w.heap.size 53 3 VR (cutV (valsTo xs d (⟨(q : Int), (r : Int)⟩ : Ty) i)) ov Fo) ∧ Hid (∀ b ∈ Fo, w.heap.size ≤ b) ∧ Hid (∀ g ∈ rowOf ov, g ∈ [w.heap.size + 1] ∨ w3.heap.size ≤ g) ∧ Hid (Chg [w.heap.size + 1] w3 wr)) (fun _ iv _ => (ctorsL xs (⟨(q : Int), (r : Int)⟩ : Ty)).length - (intOf iv).toNat)
      case atStart => exact ⟨0, [], Nat.zero_le _, rfl, (show Own _ _ _ _ _ (cutV (valsTo xs d (⟨(q : Int), (r : Int)⟩ : Ty) 0)) _ _ from HO3.out), (fun b hb => by cases hb), (fun g hg => .inl hg), Chg.refl _ _⟩
      case round =>
        clear HO3
        obtain ⟨i, Fo, hi, rfl, HO, HFo, HRo, HCo⟩ := hrel
        obtain ⟨oA, ocap, hov, -, -⟩ := HO.out.form
        subst hov
        have hol : (cutV (valsTo xs d (⟨(q : Int), (r : Int)⟩ : Ty) i)).length ≤ 401 := cutV_len _
        obtain ⟨wo, hwo⟩ : ∃ wo, wo = wr := ⟨_, rfl⟩
        rw [← hwo] at HO HCo ⊢
        clear hwo
        have hB : Below w.heap.size w wo := hB3.trans (HCo.out.below (fun b hb => by rw [List.mem_singleton] at hb; omega) hB3.size)
        have KTo : Hid (Blk wo w.heap.size 32 #[.int .i64 (q : Int), .int .i64 (r : Int)]) := KT3.out.same (HCo.out.block _ KT3.out.lt (by simp))
        have HEND := Lib.hid (fun h => valsTo_end (xs := xs) (d := d) (t := (⟨(q : Int), (r : Int)⟩ : Ty)) HDN.out (i := i) h)
        by_cases hi2 : i < (ctorsL xs (⟨(q : Int), (r : Int)⟩ : Ty)).length ∧ (cutV (valsTo xs d (⟨(q : Int), (r : Int)⟩ : Ty) i)).length ≤ 400
        · obtain ⟨hil, ho4⟩ := hi2
          have t1 : decide ((i : Int) < ((ctorsL xs (⟨(q : Int), (r : Int)⟩ : Ty)).length : Int)) = true := by simp; omega
          have t2 : decide (((cutV (valsTo xs d (⟨(q : Int), (r : Int)⟩ : Ty) i)).length : Int) ≤ 400) = true := by simp; omega
          have g1 : (0 : Int) ≤ (i : Int) := by omega
          have g2 : (i : Int) < ((ctorsL xs (⟨(q : Int), (r : Int)⟩ : Ty)).length : Int) := by omega
          obtain ⟨b3, off3, rfl⟩ := HA3.out.ptr (by omega)
          obtain ⟨hb3w, c30⟩ := ArrNat.at HA3.out HU3.out (Below.refl _ _) i hil
          have hb3F : w.heap.size + 2 ≤ b3 := by
            obtain ⟨_, _, _, _, e, hb, -⟩ := HA3.out.get (NatR_len _) hil
            cases e; exact HL3.out _ hb
          have c3 := (HCo.out.cell (p := ⟨b3, off3 + i, none⟩) hb3w (by simp; omega)).trans c30
          have hb3l : b3 < wo.heap.size := Nat.lt_of_lt_of_le hb3w HCo.out.size
          obtain ⟨q', m, e1, hkm, hq', hm⟩ := mem_ctorsL HT.out.inWorld (List.getElem_mem hil)
          obtain rfl : q = q' := Int.ofNat.inj e1
          have hme : (ctorsL xs (⟨(q : Int), (r : Int)⟩ : Ty))[i] ∈ (ctorsL xs (⟨(q : Int), (r : Int)⟩ : Ty)) := List.getElem_mem hil
          rw [hkm] at c3 hme
          have hals := argsOf_get (i := (r : Int)) hql hm
          have hca := (HW.out.ctor hql hm).args
          have hst := valsTo_succ xs d (⟨(q : Int), (r : Int)⟩ : Ty) i hil
          rw [hkm] at hst
          have hbc := block_cut xs d (⟨(q : Int), (r : Int)⟩ : Ty) (m : Int) (valsTo xs d (⟨(q : Int), (r : Int)⟩ : Ty) i)
          rw [← hst, hals] at hbc
          have HBC := Lib.hid hbc
          have HTI : Hid (∀ a ∈ argsL xs[q].ctors[m] (r : Int), TyIn xs.length a) := fun a ha => argsOf_in HW.out HT.out hme (by rw [hals]; exact ha)
          have hl3 : (argsL xs[q].ctors[m] (r : Int)).length ≤ 3 := by rw [argsL_len]; exact hca
          have HC3 : Hid (w3.cell? ⟨b3, off3 + i, none⟩ = some (.int .i64 (m : Int))) := by unfold Hid; rw [c30, hkm]
          clear hkm e1 hme hals hst hbc c30
          have y0 : wo.cell? ⟨w.heap.size, 0, none⟩ = some (.int .i64 (q : Int)) := (KTo.out.cell 0).trans (by simp)
          have y1 : wo.cell? ⟨w.heap.size, 1, none⟩ = some (.int .i64 (r : Int)) := (KTo.out.cell 1).trans (by simp)
          have ylt := KTo.out.lt
          go_wp2_with fail
          have hBd : Below w.heap.size w wo.drew := hB.drew
          have HS : Hid (∀ C : World, Below wo.heap.size wo C → (C.cell? ⟨w.heap.size, 0, none⟩ = some (.int .i64 (q : Int)) ∧ C.cell? ⟨w.heap.size, 1, none⟩ = some (.int .i64 (r : Int)) ∧ C.cell? ⟨b3, off3 + i, none⟩ = some (.int .i64 (m : Int)))) := fun C hb => ⟨(hb.cell (ylt)).trans y0, (hb.cell (ylt)).trans y1, (hb.cell (hb3l)).trans c3⟩
          have hC0 : Below wo.heap.size wo wo.drew := (Below.refl _ _).drew
          refine wp_region_B (S := fun w' => w'.cell? ⟨w.heap.size, 0, none⟩ = some (.int .i64 (q : Int)) ∧ w'.cell? ⟨w.heap.size, 1, none⟩ = some (.int .i64 (r : Int)) ∧ w'.cell? ⟨b3, off3 + i, none⟩ = some (.int .i64 (m : Int))) (T := fun _ => True) (d := 99) (by kernel_rfl) ?_
          obtain ⟨wd, hwd⟩ : ∃ X, X = wo.drew := ⟨_, rfl⟩
          rw [← hwd] at hC0 hBd ⊢
          clear hwd
          have hS0 := HS.out _ hC0
          have hT0 : True := trivial
          refine wpAnyB_take (i := 0) (v := ?_) rfl (by decide) (by kernel_rfl) (by kernel_rfl) (by kernel_rfl) (fun _ _ _ h => h) (Or.inl ⟨by rfl, ?hy0⟩) hS0 (fun _ => hT0) ?_
          case hy0 => (intro W hSw; (try dsimp only at hSw); (try obtain ⟨hSw0, hSw1, hSw2⟩ := hSw); go_simp; try with_reducible rfl)
          (try simp only [Act.put, List.getElem_toArray, List.getElem_cons_zero, List.getElem_cons_succ, List.setIfInBounds_toArray, List.set_cons_zero, List.set_cons_succ])
          refine wpAnyB_take (i := 1) (v := ?_) rfl (by decide) (by kernel_rfl) (by kernel_rfl) (by kernel_rfl) (fun _ _ _ h => h) (Or.inl ⟨by rfl, ?hy1⟩) hS0 (fun _ => hT0) ?_
          case hy1 => (intro W hSw; (try dsimp only at hSw); (try obtain ⟨hSw0, hSw1, hSw2⟩ := hSw); go_simp; try with_reducible rfl)
          (try simp only [Act.put, List.getElem_toArray, List.getElem_cons_zero, List.getElem_cons_succ, List.setIfInBounds_toArray, List.set_cons_zero, List.set_cons_succ])
          refine wpAnyB_take (i := 2) (v := ?_) rfl (by decide) (by kernel_rfl) (by kernel_rfl) (by kernel_rfl) (fun _ _ _ h => h) (Or.inl ⟨by rfl, ?hy2⟩) hS0 (fun _ => hT0) ?_
          case hy2 => (intro W hSw; (try dsimp only at hSw); (try obtain ⟨hSw0, hSw1, hSw2⟩ := hSw); go_simp; try with_reducible rfl)
          (try simp only [Act.put, List.getElem_toArray, List.getElem_cons_zero, List.getElem_cons_succ, List.setIfInBounds_toArray, List.set_cons_zero, List.set_cons_succ])
          refine wpAnyB_take (i := 3) (v := ?_) rfl (by decide) (by kernel_rfl) (by kernel_rfl) (by kernel_rfl) (fun _ _ _ h => h) (Or.inl ⟨by rfl, ?hy3⟩) hS0 (fun _ => hT0) ?_
          case hy3 => (intro W hSw; (try dsimp only at hSw); (try obtain ⟨hSw0, hSw1, hSw2⟩ := hSw); go_simp; try with_reducible rfl)
          (try simp only [Act.put, List.getElem_toArray, List.getElem_cons_zero, List.getElem_cons_succ, List.setIfInBounds_toArray, List.set_cons_zero, List.set_cons_succ])
          refine wpAnyB_take (i := 4) (v := ?_) rfl (by decide) (by kernel_rfl) (by kernel_rfl) (by kernel_rfl) (fun _ _ _ h => h) (Or.inl ⟨by rfl, ?hy4⟩) hS0 (fun _ => hT0) ?_
          case hy4 => (intro W hSw; (try dsimp only at hSw); (try obtain ⟨hSw0, hSw1, hSw2⟩ := hSw); go_simp; try with_reducible rfl)
          (try simp only [Act.put, List.getElem_toArray, List.getElem_cons_zero, List.getElem_cons_succ, List.setIfInBounds_toArray, List.set_cons_zero, List.set_cons_succ])
          refine wpAnyB_take (i := 5) (v := ?_) rfl (by decide) (by kernel_rfl) (by kernel_rfl) (by kernel_rfl) (fun _ _ _ h => h) (Or.inl ⟨by rfl, ?hy5⟩) hS0 (fun _ => hT0) ?_
          case hy5 => (intro W hSw; (try dsimp only at hSw); (try obtain ⟨hSw0, hSw1, hSw2⟩ := hSw); go_simp; try with_reducible rfl)
          (try simp only [Act.put, List.getElem_toArray, List.getElem_cons_zero, List.getElem_cons_succ, List.setIfInBounds_toArray, List.set_cons_zero, List.set_cons_succ])
          refine wpAnyB_ready (rs := [6]) (by kernel_rfl) (by simp) ?_
          refine AllReadyB.cons rfl (fun K hK => ?_) AllReadyB.nil
          go_simp
          go_at_call 109
          refine (spec_l1Args xs q m (r : Int) hql hm wd _ F (ArrDt.below HX.out hBd HF.out) (HF.out.mono hBd.size) hca).mono ?_
          rintro e w6 ⟨v6, F6, rfl, hb6, ha6, -, hfs6⟩
          have hC1 : Below wo.heap.size wo w6 := hC0.trans (hb6.mono hC0.size)
          have hS1 := HS.out _ hC1
          (try dsimp only)
          refine hK.out _ _ hS1 (fun _ => trivial) ?_
          clear hK K
          (try simp only [Act.put, List.getElem_toArray, List.getElem_cons_zero, List.getElem_cons_succ, List.setIfInBounds_toArray, List.set_cons_zero, List.set_cons_succ])
          refine wpAnyB_ready (rs := [7]) (by kernel_rfl) (by simp) ?_
          refine AllReadyB.cons rfl (fun K hK => ?_) AllReadyB.nil
          go_simp
          refine hK.out _ _ hS1 (fun _ => trivial) ?_
          clear hK K
          (try simp only [Act.put, List.getElem_toArray, List.getElem_cons_zero, List.getElem_cons_succ, List.setIfInBounds_toArray, List.set_cons_zero, List.set_cons_succ])
          refine wpAnyB_end (by kernel_rfl) ?_
          clear hS0 hS1 hT0
          clear hC0 hBd y0 y1 ylt c3
          have hbo6 : Below wo.heap.size wo w6 := hC1
          have hB6 := hB.trans (hbo6.mono hB.size)
          generalize hass : argsL xs[q].ctors[m] (r : Int) = ls at *
          clear hass hca
          obtain ⟨A6, cap6, rfl, hd3, hd4⟩ := ha6.form
          have HA6 := Lib.hid ha6
          have HU6 := Lib.hid hfs6.under
          clear ha6 hfs6 hb6 hC1
          go_wp2_with fail
          have HL0 : Hid (Own (w6.alloc (.cells #[] 39)) w6.heap.size 39 1 LsR (allTo xs d ls 0) (.slice (some ⟨w6.heap.size, 0, none⟩) 0 0) []) := (show Own _ _ _ _ _ (allTo xs d ls 0) _ _ from Own.made w6 _ _ _ _ _ 0 (Nat.le_refl _) (by simp [maxLen]) rfl)
          have hB67 : Below w6.heap.size w6 (w6.alloc (.cells #[] 39)) := (Below.refl _ _).alloc (Nat.le_refl _) _
          generalize w6.alloc (.cells #[] 39) = w7 at *
          go_loopw [14, 15] (fun lv kv wr => ∃ k : Nat, ∃ Fl : List Nat, k ≤ ls.length ∧ kv = .int .i64 k ∧ Hid (Own wr w6.heap.size 39 1 LsR (allTo xs d ls k) lv Fl) ∧ Hid (∀ b ∈ Fl, w6.heap.size ≤ b) ∧ Below w6.heap.size w6 wr) (fun _ kv _ => ls.length - (intOf kv).toNat)
          case atStart => exact ⟨0, [], Nat.zero_le _, rfl, HL0.out, (fun b hb => by cases hb), hB67⟩
          case round =>
            clear HL0 hB67
            obtain ⟨k, Fl, hk, rfl, HL, HFl, hBr⟩ := hrel
            obtain ⟨lA, lcap, hlv, -, -⟩ := HL.out.form
            subst hlv
            have hal := allTo_len xs d ls k
            have hBw := hB6.trans (hBr.mono hB6.size)
            by_cases hkl : k < ls.length
            · have g3 : (0 : Int) ≤ (k : Int) := by omega
              have g4 : (k : Int) < (ls.length : Int) := by omega
              obtain ⟨b6, off6, rfl⟩ := HA6.out.ptr (by omega)
              obtain ⟨hb6l, a0, a1⟩ := ArrTy.at HA6.out HU6.out hBr k hkl
              have HTJ := Lib.hid (HTI.out ls[k] (List.getElem_mem hkl))
              have HS := Lib.hid (allTo_succ xs d ls k hkl)
              have hmx : (allTo xs d ls k).length + 1 ≤ maxLen := by unfold maxLen; omega
              have hby : ((allTo xs d ls k).length + 1) * 24 ≤ 140737488355328 := by omega
              go_wp2_with fail
              refine (IH.out xs HW.out ls[k] HTJ.out (by omega) wr _ F (ArrDt.below HX.out hBw HF.out) (HF.out.mono hBw.size)).mono ?_
              rintro e w9 ⟨v9, F9, rfl, hb9, ho9, hf9⟩
              obtain ⟨A9, cap9, rfl, -, -⟩ := ho9.form
              have HY9 : Hid (LsR w9 (cutV (valsL xs d ls[k])) [.slice A9 (cutV (valsL xs d ls[k])).length cap9] (if cutV (valsL xs d ls[k]) = [] then [] else rowOf (.slice A9 (cutV (valsL xs d ls[k])).length cap9) ++ F9)) := ⟨_, rfl, ho9.arr⟩
              have HYU : Hid (Fresh wr w9 (if cutV (valsL xs d ls[k]) = [] then [] else rowOf (.slice A9 (cutV (valsL xs d ls[k])).length cap9) ++ F9)) := ho9.fresh (Nat.le_refl _) hf9
              have hB9 := hBr.trans (hb9.mono hBr.size)
              have HL9 := Lib.hid (HL.out.below (fun x cs G hk h => LsR_mono _ _ x cs G hk h) hb9)
              generalize (if cutV (valsL xs d ls[k]) = [] then [] else rowOf (.slice A9 (cutV (valsL xs d ls[k])).length cap9) ++ F9) = G9 at *
              generalize cutV (valsL xs d ls[k]) = cv at *
              clear ho9 hf9 hb9 a0 a1 hb6l
              go_wp2_with (at_builtin; refine Halt.mk ?_)
              refine Halt.of (wpList_push1 (P := Try.prog) rfl _ _ 143 rfl j0 _ 24 Try.underlying143 HJ.out HY0.out HY1.out HY2.out rfl (by decide) LsR_len LsR_mono (by rfl) HL9.out cv 39 [.slice A9 cv.length cap9] G9 _ (by rfl) (by simp) (by simp [Value.oneCell']) HY9.out HYU.out.under (fun g hg hgG => Nat.lt_irrefl _ (Nat.lt_of_lt_of_le (HL.out.row g hg).2 (HYU.out g hgG).1)) hmx hby hB9.size ?_)
              intro g cp w11 hown hgr hat
              have hrow := HL9.out.row
              have hB11 : Below w6.heap.size w6 w11 := (hB9.alloc hB9.size _).grown hgr (by have := hB9.size; simp; omega) (fun g hg => (hrow g (mem_rowOf.2 hg)).1)
              have HL11 := Lib.hid hown
              have HF11 : Hid (∀ b ∈ Fl ++ G9, w6.heap.size ≤ b) := fun b hb => by
                rcases List.mem_append.1 hb with hb | hb
                · exact HFl.out b hb
                · exact Nat.le_trans hBr.size (HYU.out b hb).1
              clear hown hgr hat hrow
              go_wp2
              go_roundw
              case rel => exact ⟨k + 1, _, hkl, by go_num, (by rw [HS.out]; exact HL11.out), HF11.out, hB11⟩
              case measure => (simp [intOf] <;> omega)
            · have hk2 : k = ls.length := by omega
              have hls : (allTo xs d ls k).length ≤ 3 := by omega
              have HPA := Lib.hid (allTo_pairs xs d ls (k := k) (by omega))
              have HLA : Hid (Arr wr (LsR wr) (allTo xs d ls k) (.slice lA (allTo xs d ls k).length lcap) (if allTo xs d ls k = [] then [] else rowOf (.slice lA (allTo xs d ls k).length lcap) ++ Fl)) := HL.out.arr
              have HLF : Hid (Fresh w6 wr (if allTo xs d ls k = [] then [] else rowOf (.slice lA (allTo xs d ls k).length lcap) ++ Fl)) := HL.out.fresh (Nat.le_refl _) HFl.out
              have HE4 : Hid (∀ l ∈ allTo xs d ls k, l.length ≤ 401) := fun l hl => allTo_each xs d ls k l hl
              generalize (if allTo xs d ls k = [] then [] else rowOf (.slice lA (allTo xs d ls k).length lcap) ++ Fl) = FL at *
              generalize allTo xs d ls k = al at *
              clear hk2 hal
              go_wp2_with fail
              refine (spec_l2Lists al hls HE4.out wr _ FL HLA.out HLF.out.under).mono ?_
              rintro e wk ⟨vk, Fk, rfl, hbk, hak, huk, hpk⟩
              rw [HPA.out] at hak
              have hbok : Below wo.heap.size wo wk := hbo6.trans ((hBr.trans (hbk.mono hBr.size)).mono hbo6.size)
              have HKF : Hid (∀ b ∈ Fk, wo.heap.size ≤ b) := fun b hb => by
                rcases hpk b hb with h | h
                · exact Nat.le_trans hbo6.size (HLF.out b h).1
                · exact Nat.le_trans (Nat.le_trans hbo6.size hBr.size) h
              have HKU := Lib.hid huk
              have hkq : (cutV (pairAll (ls.map (valsL xs d)))).length ≤ 401 := cutV_len _
              generalize cutV (pairAll (ls.map (valsL xs d))) = aq at *
              obtain ⟨kA, kcap, rfl, -, -⟩ := hak.form
              have HKA := Lib.hid hak
              have HOk : Hid (Own wk w.heap.size 53 3 VR (fillR (valsTo xs d (⟨(q : Int), (r : Int)⟩ : Ty) i) (m : Int) aq 0) (.slice oA (cutV (valsTo xs d (⟨(q : Int), (r : Int)⟩ : Ty) i)).length ocap) Fo) := by
                rw [fillR_zero]
                exact HO.out.below (fun x cs G hk h => VR_mono' _ _ x cs G hk h) hbok
              have HRR : Hid (∀ g ∈ rowOf (.slice oA (cutV (valsTo xs d (⟨(q : Int), (r : Int)⟩ : Ty) i)).length ocap), (g = w.heap.size + 1 ∨ w3.heap.size ≤ g) ∧ g < wo.heap.size) := fun g hg => ⟨by have := HRo.out g hg; rw [List.mem_singleton] at this; exact this, (HO.out.row g hg).2⟩
              clear hak huk hpk hbk HLA HLF HE4 HL HFl hls
              generalize hrw : rowOf (.slice oA (cutV (valsTo xs d (⟨(q : Int), (r : Int)⟩ : Ty) i)).length ocap) = R0 at *
              have HRW := Lib.hid hrw
              generalize hvp : valsTo xs d (⟨(q : Int), (r : Int)⟩ : Ty) i = vp at *
              clear hrw hvp
              go_wp2
              go_loopw [9, 17] (fun ov kv wr => ∃ k4 : Nat, ∃ Fo : List Nat, k4 ≤ aq.length ∧ kv = .int .i64 k4 ∧ Hid (Own wr w.heap.size 53 3 VR (fillR vp (m : Int) aq k4) ov Fo) ∧ Hid (∀ b ∈ Fo, w.heap.size ≤ b) ∧ Hid (∀ g ∈ rowOf ov, g ∈ R0 ∨ wk.heap.size ≤ g) ∧ Hid (Chg R0 wk wr)) (fun _ kv _ => aq.length - (intOf kv).toNat)
              case atStart => exact ⟨0, Fo, Nat.zero_le _, rfl, HOk.out, HFo.out, (fun g hg => .inl (by rw [← HRW.out]; exact hg)), Chg.refl _ _⟩
              case round =>
                clear HOk HFo HO
                obtain ⟨k4, Fp, hk4, rfl, HO, HFo, HRp, HCk⟩ := hrel
                obtain ⟨fA, fcap, hfv, -, -⟩ := HO.out.form
                subst hfv
                have hfl := fillR_len vp (m : Int) aq k4
                have HEND4 := Lib.hid (fun h => fillR_end (pre := vp) (c := (m : Int)) (all := aq) (k := k4) h)
                have h3k : w3.heap.size ≤ wk.heap.size := Nat.le_trans HCo.out.size hbok.size
                have HR0 : Hid (∀ g ∈ R0, w.heap.size ≤ g) := fun g hg => by have := (HRR.out g hg).1; omega
                by_cases hk2 : k4 < aq.length ∧ (fillR vp (m : Int) aq k4).length ≤ 400
                · obtain ⟨hkl, hf4⟩ := hk2
                  have t3 : decide ((k4 : Int) < (aq.length : Int)) = true := by simp; omega
                  have t4 : decide (((fillR vp (m : Int) aq k4).length : Int) ≤ 400) = true := by simp; omega
                  have g5 : (0 : Int) ≤ (k4 : Int) := by omega
                  have g6 : (k4 : Int) < (aq.length : Int) := by omega
                  obtain ⟨b7, off7, rfl⟩ := HKA.out.ptr (by omega)
                  have hb7F : wo.heap.size ≤ b7 := by
                    obtain ⟨_, _, _, _, e, hb, -⟩ := HKA.out.get (LsR_len _) hkl
                    cases e; exact HKF.out _ hb
                  obtain ⟨pA, pcap, Gp, hb7l, hpc, hpa, hpu, hps⟩ := ArrLs.of HKA.out HKU.out k4 hkl
                  have HFS := Lib.hid (fillR_succ (pre := vp) (c := (m : Int)) hkl hf4)
                  obtain ⟨o, ho⟩ : ∃ u, u = aq[k4] := ⟨_, rfl⟩
                  rw [← ho] at hpc hpa HFS
                  have c7r : wr.cell? ⟨b7, off7 + k4, none⟩ = some (.slice pA o.length pcap) := (HCk.out.cell (p := ⟨b7, off7 + k4, none⟩) hb7l (fun h => by have := (HRR.out _ h).2; simp only at this; omega)).trans (hpc wk (Below.refl _ _))
                  have c3r : wr.cell? ⟨b3, off3 + i, none⟩ = some (.int .i64 (m : Int)) := by
                    have h1 := (HCo.out.cell (p := ⟨b3, off3 + i, none⟩) hb3w (by simp; omega)).trans HC3.out
                    exact (HCk.out.cell (p := ⟨b3, off3 + i, none⟩) (Nat.lt_of_lt_of_le hb3l hbok.size) (fun h => by have := (HRR.out _ h).1; simp only at this; omega)).trans ((hbok.cell (p := ⟨b3, off3 + i, none⟩) hb3l).trans h1)
                  have l7r : b7 < wr.heap.size := Nat.lt_of_lt_of_le hb7l HCk.out.size
                  have l3r : b3 < wr.heap.size := Nat.lt_of_lt_of_le hb3l (Nat.le_trans hbok.size HCk.out.size)
                  have hpr : Arr wr (VR wr) o (.slice pA o.length pcap) Gp := ArrV.mono hpa (HCk.out.kept hpu (fun b hb h => by have h1 := HKF.out b (hps b hb); have h2 := (HRR.out b h).2; omega))
                  have HYR : Hid (VR wr ⟨(m : Int), 0, o⟩ [.int .i64 (m : Int), .int .i64 0, .slice pA o.length pcap] Gp) := (VR_iff _ _ _).2 ⟨_, rfl, hpr⟩
                  have HYU : Hid (Under wr.heap.size Gp) := hpu.mono HCk.out.size
                  have HYN : Hid (∀ g ∈ rowOf (.slice fA (fillR vp (m : Int) aq k4).length fcap), g ∉ Gp) := fun g hg hgG => by
                    rcases HRp.out g hg with h | h
                    · have h1 := HKF.out g (hps g hgG); have h2 := (HRR.out g h).2; omega
                    · have h1 := hpu g hgG; omega
                  have HYF : Hid (∀ b ∈ Fp ++ Gp, w.heap.size ≤ b) := fun b hb => by
                    rcases List.mem_append.1 hb with hb | hb
                    · exact HFo.out b hb
                    · exact Nat.le_trans hB.size (HKF.out b (hps b hb))
                  have hBr : Below w.heap.size w wr := (hB.trans (hbok.mono hB.size)).trans (HCk.out.below HR0.out (Nat.le_trans hB.size hbok.size))
                  have hmx : (fillR vp (m : Int) aq k4).length + 1 ≤ maxLen := by unfold maxLen; omega
                  have hby : ((fillR vp (m : Int) aq k4).length + 1) * 40 ≤ 140737488355328 := by omega
                  clear ho hpc hpa hpu hps hpr
                  go_wp2_with fail
                  have HS : Hid (∀ C : World, Below wr.heap.size wr C → (C.cell? ⟨b3, off3 + i, none⟩ = some (.int .i64 (m : Int)) ∧ C.cell? ⟨b7, off7 + k4, none⟩ = some (.slice pA o.length pcap))) := fun C hb => ⟨(hb.cell (l3r)).trans c3r, (hb.cell (l7r)).trans c7r⟩
                  have hC0 : Below wr.heap.size wr wr.drew := (Below.refl _ _).drew
                  refine wp_region_B (S := fun w' => w'.cell? ⟨b3, off3 + i, none⟩ = some (.int .i64 (m : Int)) ∧ w'.cell? ⟨b7, off7 + k4, none⟩ = some (.slice pA o.length pcap)) (T := fun _ => True) (d := 99) (by kernel_rfl) ?_
                  obtain ⟨wd, hwd⟩ : ∃ X, X = wr.drew := ⟨_, rfl⟩
                  rw [← hwd] at hC0  ⊢
                  clear hwd
                  have hS0 := HS.out _ hC0
                  have hT0 : True := trivial
                  refine wpAnyB_take (i := 0) (v := ?_) rfl (by decide) (by kernel_rfl) (by kernel_rfl) (by kernel_rfl) (fun _ _ _ h => h) (Or.inl ⟨by rfl, ?hy0⟩) hS0 (fun _ => hT0) ?_
                  case hy0 => (intro W hSw; (try dsimp only at hSw); (try obtain ⟨hSw0, hSw1⟩ := hSw); go_simp; try with_reducible rfl)
                  (try simp only [Act.put, List.getElem_toArray, List.getElem_cons_zero, List.getElem_cons_succ, List.setIfInBounds_toArray, List.set_cons_zero, List.set_cons_succ])
                  refine wpAnyB_take (i := 1) (v := ?_) rfl (by decide) (by kernel_rfl) (by kernel_rfl) (by kernel_rfl) (fun _ _ _ h => h) (Or.inl ⟨by rfl, ?hy1⟩) hS0 (fun _ => hT0) ?_
                  case hy1 => (intro W hSw; (try dsimp only at hSw); (try obtain ⟨hSw0, hSw1⟩ := hSw); go_simp; try with_reducible rfl)
                  (try simp only [Act.put, List.getElem_toArray, List.getElem_cons_zero, List.getElem_cons_succ, List.setIfInBounds_toArray, List.set_cons_zero, List.set_cons_succ])
                  refine wpAnyB_take (i := 2) (v := ?_) rfl (by decide) (by kernel_rfl) (by kernel_rfl) (by kernel_rfl) (fun _ _ _ h => h) (Or.inl ⟨by rfl, ?hy2⟩) hS0 (fun _ => hT0) ?_
                  case hy2 => (intro W hSw; (try dsimp only at hSw); (try obtain ⟨hSw0, hSw1⟩ := hSw); go_simp; try with_reducible rfl)
                  (try simp only [Act.put, List.getElem_toArray, List.getElem_cons_zero, List.getElem_cons_succ, List.setIfInBounds_toArray, List.set_cons_zero, List.set_cons_succ])
                  refine wpAnyB_take (i := 3) (v := ?_) rfl (by decide) (by kernel_rfl) (by kernel_rfl) (by kernel_rfl) (fun _ _ _ h => h) (Or.inl ⟨by rfl, ?hy3⟩) hS0 (fun _ => hT0) ?_
                  case hy3 => (intro W hSw; (try dsimp only at hSw); (try obtain ⟨hSw0, hSw1⟩ := hSw); go_simp; try with_reducible rfl)
                  (try simp only [Act.put, List.getElem_toArray, List.getElem_cons_zero, List.getElem_cons_succ, List.setIfInBounds_toArray, List.set_cons_zero, List.set_cons_succ])
                  refine wpAnyB_take (i := 4) (v := ?_) rfl (by decide) (by kernel_rfl) (by kernel_rfl) (by kernel_rfl) (fun _ _ _ h => h) (Or.inl ⟨by rfl, ?hy4⟩) hS0 (fun _ => hT0) ?_
                  case hy4 => (intro W hSw; (try dsimp only at hSw); (try obtain ⟨hSw0, hSw1⟩ := hSw); go_simp; try with_reducible rfl)
                  (try simp only [Act.put, List.getElem_toArray, List.getElem_cons_zero, List.getElem_cons_succ, List.setIfInBounds_toArray, List.set_cons_zero, List.set_cons_succ])
                  refine wpAnyB_take (i := 5) (v := ?_) rfl (by decide) (by kernel_rfl) (by kernel_rfl) (by kernel_rfl) (fun _ _ _ h => h) (Or.inl ⟨by rfl, ?hy5⟩) hS0 (fun _ => hT0) ?_
                  case hy5 => (intro W hSw; (try dsimp only at hSw); (try obtain ⟨hSw0, hSw1⟩ := hSw); go_simp; try with_reducible rfl)
                  (try simp only [Act.put, List.getElem_toArray, List.getElem_cons_zero, List.getElem_cons_succ, List.setIfInBounds_toArray, List.set_cons_zero, List.set_cons_succ])
                  refine wpAnyB_take (i := 6) (v := ?_) rfl (by decide) (by kernel_rfl) (by kernel_rfl) (by kernel_rfl) (fun _ _ _ h => h) (Or.inl ⟨by rfl, ?hy6⟩) hS0 (fun _ => hT0) ?_
                  case hy6 => (intro W hSw; (try dsimp only at hSw); (try obtain ⟨hSw0, hSw1⟩ := hSw); go_simp; try with_reducible rfl)
                  (try simp only [Act.put, List.getElem_toArray, List.getElem_cons_zero, List.getElem_cons_succ, List.setIfInBounds_toArray, List.set_cons_zero, List.set_cons_succ])
                  refine wpAnyB_take (i := 7) (v := ?_) rfl (by decide) (by kernel_rfl) (by kernel_rfl) (by kernel_rfl) (fun _ _ _ h => h) (Or.inl ⟨by rfl, ?hy7⟩) hS0 (fun _ => hT0) ?_
                  case hy7 => (intro W hSw; (try dsimp only at hSw); (try obtain ⟨hSw0, hSw1⟩ := hSw); go_simp; try with_reducible rfl)
                  (try simp only [Act.put, List.getElem_toArray, List.getElem_cons_zero, List.getElem_cons_succ, List.setIfInBounds_toArray, List.set_cons_zero, List.set_cons_succ])
                  refine wpAnyB_take (i := 8) (v := ?_) rfl (by decide) (by kernel_rfl) (by kernel_rfl) (by kernel_rfl) (fun _ _ _ h => h) (Or.inl ⟨by rfl, ?hy8⟩) hS0 (fun _ => hT0) ?_
                  case hy8 => (intro W hSw; (try dsimp only at hSw); (try obtain ⟨hSw0, hSw1⟩ := hSw); go_simp; try with_reducible rfl)
                  (try simp only [Act.put, List.getElem_toArray, List.getElem_cons_zero, List.getElem_cons_succ, List.setIfInBounds_toArray, List.set_cons_zero, List.set_cons_succ])

                  refine wpAnyB_take (i := 9) (v := ?_) rfl (by decide) (by kernel_rfl) (by kernel_rfl) (by kernel_rfl) (fun _ _ _ h => h) (Or.inl ⟨by rfl, ?hy9⟩) hS0 (fun _ => hT0) ?_
                  case hy9 => (intro W hSw; (try dsimp only at hSw); (try obtain ⟨hSw0, hSw1⟩ := hSw); go_simp; try with_reducible rfl)
                  (try simp only [Act.put, List.getElem_toArray, List.getElem_cons_zero, List.getElem_cons_succ, List.setIfInBounds_toArray, List.set_cons_zero, List.set_cons_succ])
                  refine wpAnyB_ready (rs := [10]) (by kernel_rfl) (by simp) ?_
                  refine AllReadyB.cons rfl (fun K hK => ?_) AllReadyB.nil
                  go_simp
                  have HOd : Hid (Own wd w.heap.size 53 3 VR (fillR vp (m : Int) aq k4) (.slice fA (fillR vp (m : Int) aq k4).length fcap) Fp) := HO.out.below (fun x cs G hk h => VR_mono' _ _ x cs G hk h) hC0
                  have HYRd : Hid (VR wd ⟨(m : Int), 0, o⟩ [.int .i64 (m : Int), .int .i64 0, .slice pA o.length pcap] Gp) := HYR.out.below hC0 HYU.out
                  have hwdw : w.heap.size ≤ wd.heap.size := Nat.le_trans hBr.size hC0.size
                  (try dsimp only)
                  refine hK.out _ _ (HS.out _ (hC0.alloc hC0.size _)) (fun _ => trivial) ?_
                  clear hK K
                  (try simp only [Act.put, List.getElem_toArray, List.getElem_cons_zero, List.getElem_cons_succ, List.setIfInBounds_toArray, List.set_cons_zero, List.set_cons_succ])
                  refine wpAnyB_ready (rs := [11]) (by kernel_rfl) (by simp) ?_
                  refine AllReadyB.cons rfl (fun K hK => ?_) AllReadyB.nil
                  refine step_push1 (P := Try.prog) rfl _ _ 39 rfl i0 _ 40 Try.underlying39 HI.out HZ0.out HZ1.out HZ2.out rfl (by decide) VR_len' VR_mono' (by rfl) HOd.out ⟨(m : Int), 0, o⟩ 53 [.int .i64 (m : Int), .int .i64 0, .slice pA o.length pcap] Gp wd.heap.size (by rfl) rfl (by simp [Value.oneCell']) HYRd.out (HYU.out.mono hC0.size) HYN.out hmx hby hwdw ?_
                  intro g10 cp10 C5 hown5 hgr5 hat5
                  have hrow := HOd.out.row
                  have HC5 : Hid (Chg R0 wk C5) := ((HCk.out.step hC0).step ((Below.refl _ _).alloc (Nat.le_refl _) _)).grown hgr5 (fun g hg => HRp.out g hg)
                  have hne : ∀ b, wo.heap.size ≤ b ∨ (w.heap.size + 2 ≤ b ∧ b < w3.heap.size) → b < wk.heap.size → b ∉ R0 := fun b h1 h2 h3 => by
                    have := HRR.out b h3
                    omega
                  have hS5 : C5.cell? ⟨b3, off3 + i, none⟩ = some (.int .i64 (m : Int)) ∧ C5.cell? ⟨b7, off7 + k4, none⟩ = some (.slice pA o.length pcap) := ⟨(HC5.out.cell (p := ⟨b3, off3 + i, none⟩) (Nat.lt_of_lt_of_le hb3l hbok.size) (hne b3 (.inr ⟨hb3F, hb3w⟩) (Nat.lt_of_lt_of_le hb3l hbok.size))).trans ((HCk.out.cell (p := ⟨b3, off3 + i, none⟩) (Nat.lt_of_lt_of_le hb3l hbok.size) (hne b3 (.inr ⟨hb3F, hb3w⟩) (Nat.lt_of_lt_of_le hb3l hbok.size))).symm.trans c3r), (HC5.out.cell (p := ⟨b7, off7 + k4, none⟩) hb7l (hne b7 (.inl hb7F) hb7l)).trans ((HCk.out.cell (p := ⟨b7, off7 + k4, none⟩) hb7l (hne b7 (.inl hb7F) hb7l)).symm.trans c7r)⟩
                  have HO5 := Lib.hid hown5
                  have HR5 : Hid (∀ g ∈ rowOf (.slice (some ⟨g10, 0, none⟩) ((fillR vp (m : Int) aq k4).length + 1) cp10), g ∈ R0 ∨ wk.heap.size ≤ g) := fun g hg => by
                    rw [rowOf_some, List.mem_singleton] at hg
                    rcases hat5 with h1 | h1
                    · exact HRp.out g (mem_rowOf.2 (by rw [h1, hg]))
                    · have := HCk.out.size; have := hC0.size; right; omega
                  clear hown5 hgr5 hat5 hrow hne
                  (try dsimp only)
                  refine hK.out _ _ (hS5) (fun _ => trivial) ?_
                  clear hK K
                  (try simp only [Act.put, List.getElem_toArray, List.getElem_cons_zero, List.getElem_cons_succ, List.setIfInBounds_toArray, List.set_cons_zero, List.set_cons_succ])
                  refine wpAnyB_take (i := 12) (v := ?_) rfl (by decide) (by kernel_rfl) (by kernel_rfl) (by kernel_rfl) (fun _ _ _ h => h) (Or.inl ⟨by rfl, ?hy12⟩) hS5 (fun _ => hT0) ?_
                  case hy12 => (intro W hSw; (try dsimp only at hSw); (try obtain ⟨hSw0, hSw1⟩ := hSw); go_simp; try with_reducible rfl)
                  (try simp only [Act.put, List.getElem_toArray, List.getElem_cons_zero, List.getElem_cons_succ, List.setIfInBounds_toArray, List.set_cons_zero, List.set_cons_succ])
                  refine wpAnyB_end (by kernel_rfl) ?_
                  clear hS5 hS0 hT0 c3r c7r
                  go_wp2
                  go_roundw
                  case rel => exact ⟨k4 + 1, _, hkl, by go_num, (by rw [HFS.out]; exact HO5.out), HYF.out, HR5.out, HC5.out⟩
                  case measure => (simp [intOf] <;> omega)
                · have HON : Hid (Own wr w.heap.size 53 3 VR (cutV (valsTo xs d (⟨(q : Int), (r : Int)⟩ : Ty) (i + 1))) (.slice fA (fillR vp (m : Int) aq k4).length fcap) Fp) := by
                    rw [← HBC.out, ← HEND4.out hk2]; exact HO.out
                  have HRN : Hid (∀ g ∈ rowOf (.slice fA (fillR vp (m : Int) aq k4).length fcap), g ∈ [w.heap.size + 1] ∨ w3.heap.size ≤ g) := fun g hg => by
                    rcases HRp.out g hg with h | h
                    · rcases (HRR.out g h).1 with h1 | h1
                      · exact .inl (by rw [List.mem_singleton]; exact h1)
                      · exact .inr h1
                    · exact .inr (Nat.le_trans h3k h)
                  have HCN : Hid (Chg [w.heap.size + 1] w3 wr) := (HCo.out.step hbok).trans_low HCk.out (fun g hg => by
                    rcases (HRR.out g hg).1 with h1 | h1
                    · exact .inl (by rw [List.mem_singleton]; exact h1)
                    · exact .inr h1)
                  by_cases hkl : k4 < aq.length
                  · have t3 : decide ((k4 : Int) < (aq.length : Int)) = true := by simp; omega
                    have t4 : decide (((fillR vp (m : Int) aq k4).length : Int) ≤ 400) = false := by simp; omega
                    go_wp2
                    go_roundw
                    case rel => exact ⟨i + 1, Fp, hil, by go_num, HON.out, HFo.out, HRN.out, HCN.out⟩
                    case measure => (simp [intOf] <;> omega)
                  · have t3 : decide ((k4 : Int) < (aq.length : Int)) = false := by simp; omega
                    go_wp2
                    go_roundw
                    case rel => exact ⟨i + 1, Fp, hil, by go_num, HON.out, HFo.out, HRN.out, HCN.out⟩
                    case measure => (simp [intOf] <;> omega)
        · have HFin : Hid (AllP (cutV (valsL xs (d + 1) (⟨(q : Int), (r : Int)⟩ : Ty))) w (.returned (.slice oA (cutV (valsTo xs d (⟨(q : Int), (r : Int)⟩ : Ty) i)).length ocap)) wo) := by rw [← HEND.out hi2]; exact ⟨_, Fo, rfl, hB, HO.out, HFo.out⟩
          by_cases hil : i < (ctorsL xs (⟨(q : Int), (r : Int)⟩ : Ty)).length
          · have t1 : decide ((i : Int) < ((ctorsL xs (⟨(q : Int), (r : Int)⟩ : Ty)).length : Int)) = true := by simp; omega
            have t2 : decide (((cutV (valsTo xs d (⟨(q : Int), (r : Int)⟩ : Ty) i)).length : Int) ≤ 400) = false := by simp; omega
            go_wp2
            go_ret
            exact HFin.out
          · have t1 : decide ((i : Int) < ((ctorsL xs (⟨(q : Int), (r : Int)⟩ : Ty)).length : Int)) = false := by simp; omega
            go_wp2
            go_ret
            exact HFin.out
end Go.Proofs.Ytilndhmegaccmaa

namespace Go.Proofs.Ytilndhmegaccmaa
open Go.RowKit

set_option maxRecDepth 100000 in
set_option maxHeartbeats 1600000 in
theorem spec_l2Copy_of (v : V) (ih : ∀ k ∈ v.ks, CopyV 62 k) : CopyV 62 v := by
  intro w cs G hv hg hz
  obtain ⟨kv, rfl, ha⟩ := (VR_iff _ _ _).1 hv
  obtain ⟨A4, cap4, rfl, hc3, hc4⟩ := ha.form
  obtain ⟨i0, hi, hz0, hz1, hz2⟩ := info_parts info_VE
  have IH := Lib.hid ih
  have HI := Lib.hid hi
  have HZ0 := Lib.hid hz0
  have HZ1 := Lib.hid hz1
  have HZ2 := Lib.hid hz2
  have HA := Lib.hid ha
  have HG := Lib.hid hg
  clear hi hz0 hz1 hz2 ha hg
  have hzk : V.sizes v.ks ≤ 1048576 := by obtain ⟨c, n, ks⟩ := v; exact hz
  have hkl : v.ks.length ≤ 1048576 := by rw [V.sizes_eq] at hzk; omega
  have HZ := Lib.hid hzk
  clear ih hv hz hzk
  have hB0 : Below w.heap.size w (((w.alloc (.cells #[.int .i64 v.c, .int .i64 v.n, .slice A4 v.ks.length cap4] 53)).alloc (.cells #[.int .i64 0, .int .i64 0, .slice none 0 0] 53)).alloc (.cells #[.int .i64 v.c, .int .i64 v.n, .slice none 0 0] 53)) := (((Below.refl _ _).alloc (Nat.le_refl _) _).alloc (by simp) _).alloc (by simp; omega) _
  have K0 : Hid (Blk (((w.alloc (.cells #[.int .i64 v.c, .int .i64 v.n, .slice A4 v.ks.length cap4] 53)).alloc (.cells #[.int .i64 0, .int .i64 0, .slice none 0 0] 53)).alloc (.cells #[.int .i64 v.c, .int .i64 v.n, .slice none 0 0] 53)) (w.heap.size + 2) 53 #[.int .i64 v.c, .int .i64 v.n, .slice none 0 0]) := by
    have h := Blk.new ((w.alloc (.cells #[.int .i64 v.c, .int .i64 v.n, .slice A4 v.ks.length cap4] 53)).alloc (.cells #[.int .i64 0, .int .i64 0, .slice none 0 0] 53)) 53 #[.int .i64 v.c, .int .i64 v.n, .slice none 0 0]
    rw [show ((w.alloc (.cells #[.int .i64 v.c, .int .i64 v.n, .slice A4 v.ks.length cap4] 53)).alloc (.cells #[.int .i64 0, .int .i64 0, .slice none 0 0] 53)).heap.size = w.heap.size + 2 from by simp] at h
    exact h
  have R0 : Hid (Blk (((w.alloc (.cells #[.int .i64 v.c, .int .i64 v.n, .slice A4 v.ks.length cap4] 53)).alloc (.cells #[.int .i64 0, .int .i64 0, .slice none 0 0] 53)).alloc (.cells #[.int .i64 v.c, .int .i64 v.n, .slice none 0 0] 53)) (w.heap.size + 1) 53 #[.int .i64 0, .int .i64 0, .slice none 0 0]) := by
    have h := Blk.new (w.alloc (.cells #[.int .i64 v.c, .int .i64 v.n, .slice A4 v.ks.length cap4] 53)) 53 #[.int .i64 0, .int .i64 0, .slice none 0 0]
    rw [World.size_alloc] at h
    exact h.same (Below.heap_alloc _ _ _ (by simp))
  have V0 : Hid (Blk (((w.alloc (.cells #[.int .i64 v.c, .int .i64 v.n, .slice A4 v.ks.length cap4] 53)).alloc (.cells #[.int .i64 0, .int .i64 0, .slice none 0 0] 53)).alloc (.cells #[.int .i64 v.c, .int .i64 v.n, .slice none 0 0] 53)) w.heap.size 53 #[.int .i64 v.c, .int .i64 v.n, .slice A4 v.ks.length cap4]) := ((Blk.new w _ _).same (Below.heap_alloc _ _ _ (by simp))).same (Below.heap_alloc _ _ _ (by simp; omega))
  have hs0 : (((w.alloc (.cells #[.int .i64 v.c, .int .i64 v.n, .slice A4 v.ks.length cap4] 53)).alloc (.cells #[.int .i64 0, .int .i64 0, .slice none 0 0] 53)).alloc (.cells #[.int .i64 v.c, .int .i64 v.n, .slice none 0 0] 53)).heap.size = w.heap.size + 2 + 1 := by simp
  go_enter Try.func62, Try.ntmps62
  go_wp2_with fail
  obtain ⟨w9, hw9⟩ : ∃ w9, w9 = (((w.alloc (.cells #[.int .i64 v.c, .int .i64 v.n, .slice A4 v.ks.length cap4] 53)).alloc (.cells #[.int .i64 0, .int .i64 0, .slice none 0 0] 53)).alloc (.cells #[.int .i64 v.c, .int .i64 v.n, .slice none 0 0] 53)) := ⟨_, rfl⟩
  rw [← hw9] at hB0 K0 V0 R0 hs0 ⊢
  clear hw9
  have y2 : w9.cell? ⟨w.heap.size, 2, none⟩ = some (.slice A4 v.ks.length cap4) := (V0.out.cell 2).trans (by simp)
  have vlt : w.heap.size < w9.heap.size := V0.out.lt
  go_wp2
  clear y2 vlt
  go_loopw [4] (fun iv wr => ∃ i : Nat, ∃ kv : Value, ∃ Fk : List Nat, i ≤ v.ks.length ∧ iv = .int .i64 i ∧ Hid (Blk wr (w.heap.size + 2) 53 #[.int .i64 v.c, .int .i64 v.n, kv]) ∧ Hid (Own wr (w.heap.size + 2 + 1) 53 3 VR (kidTo v.ks i) kv Fk) ∧ Hid (Free wr Fk) ∧ Hid (∀ b ∈ Fk, w.heap.size + 2 + 1 ≤ b) ∧ Hid (Chg [w.heap.size + 2] w9 wr) ∧ Below w.heap.size w wr ∧ w9.heap.size ≤ wr.heap.size) (fun iv _ => v.ks.length - (intOf iv).toNat)
  case atStart => exact ⟨0, _, [], Nat.zero_le _, rfl, K0, (show Own _ _ _ _ _ (kidTo v.ks 0) _ _ from Own.nil _ _ _ _ _), Free.nil _, (fun b hb => by cases hb), Chg.refl _ _, hB0, Nat.le_refl _⟩
  case round =>
    clear hB0 K0
    obtain ⟨i, kv, Fk, hi, rfl, KD, HO, HFk, HFh, HC, hB, hws⟩ := hrel
    obtain ⟨kA, kcap, hkv, hkc1, hkc2⟩ := HO.out.form
    subst hkv
    have klt := KD.out.lt
    have V9 := Lib.hid (V0.out.same (HC.out.block _ V0.out.lt (by simp)))
    have y2 : wr.cell? ⟨w.heap.size, 2, none⟩ = some (.slice A4 v.ks.length cap4) := (V9.out.cell 2).trans (by simp)
    have vlt : w.heap.size < wr.drew.heap.size := V9.out.lt
    by_cases hil : i < v.ks.length
    · obtain ⟨b4, off4, rfl⟩ := HA.out.ptr (by omega)
      have hb4w : b4 < w.heap.size := by obtain ⟨_, _, _, _, e, hb, -⟩ := HA.out.get VR_len hil; cases e; exact HG.out _ hb
      obtain ⟨A7, cap7, G7, hb7, k0, k1, k2, HV7, HG7, -, -, -⟩ := ArrV.at HA.out HG.out hB i hil
      have g1 : (0 : Int) ≤ (i : Int) := by omega
      have g2 : (i : Int) < (v.ks.length : Int) := by omega
      have hkk := kidTo_len v.ks i
      have HKS : Hid (v.ks[i].size ≤ 1048576) := by have h1 := V.sizes_mem2 v.ks i hil; have h2 := HZ.out; unfold Hid; omega
      have hmx : (kidTo v.ks i).length + 1 ≤ maxLen := by unfold maxLen; omega
      have hby : ((kidTo v.ks i).length + 1) * 40 ≤ 140737488355328 := by omega
      have zT : wr.drew.cell? ⟨w.heap.size + 2, 2, none⟩ = some (.slice kA (kidTo v.ks i).length kcap) := (KD.out.cell 2).trans (by simp)
      have zfT : wr.drew.frozen? ⟨w.heap.size + 2, 2, none⟩ = false := KD.out.frozen 2
      have hkT : w.heap.size + 2 < wr.drew.heap.size := klt
      have hb7' : b4 < wr.drew.heap.size := hb7
      have HBk : Hid (Below wr.heap.size wr wr.drew) := (Below.refl _ _).drew
      have HCALL := Lib.hid (IH.out v.ks[i] (List.getElem_mem hil) wr.drew _ G7 (HV7.out.below hB.drew HG7.out) (HG7.out.mono hB.drew.size) HKS.out)
      go_wp2_with fail
      refine wp_region_B (S := fun w' => w'.cell? ⟨w.heap.size, 2, none⟩ = some (.slice (some ⟨b4, off4, none⟩) v.ks.length cap4) ∧ w'.cell? ⟨b4, off4 + i * 3, none⟩ = some (.int .i64 v.ks[i].c) ∧ w'.cell? ⟨b4, off4 + i * 3 + 1, none⟩ = some (.int .i64 v.ks[i].n) ∧ w'.cell? ⟨b4, off4 + i * 3 + 2, none⟩ = some (.slice A7 v.ks[i].ks.length cap7)) (T := fun w' => w'.cell? ⟨w.heap.size + 2, 2, none⟩ = some (.slice kA (kidTo v.ks i).length kcap)) (d := 9) (by kernel_rfl) ?_
      have hS1 : wr.drew.cell? ⟨w.heap.size, 2, none⟩ = some (.slice (some ⟨b4, off4, none⟩) v.ks.length cap4) ∧ wr.drew.cell? ⟨b4, off4 + i * 3, none⟩ = some (.int .i64 v.ks[i].c) ∧ wr.drew.cell? ⟨b4, off4 + i * 3 + 1, none⟩ = some (.int .i64 v.ks[i].n) ∧ wr.drew.cell? ⟨b4, off4 + i * 3 + 2, none⟩ = some (.slice A7 v.ks[i].ks.length cap7) := ⟨y2, k0, k1, k2⟩
      have hT1 : wr.drew.cell? ⟨w.heap.size + 2, 2, none⟩ = some (.slice kA (kidTo v.ks i).length kcap) := zT
      refine wpAnyB_take (i := 0) (v := ?_) rfl (by decide) (by kernel_rfl) (by kernel_rfl) (by kernel_rfl) (fun _ _ _ h => h) (Or.inl ⟨by rfl, ?hy0⟩) hS1 (fun _ => hT1) ?_
      case hy0 => (intro W hSw; (try dsimp only at hSw); (obtain ⟨s0, s1, s2, s3⟩ := hSw); go_simp; try with_reducible rfl)
      (try simp only [Act.put, List.setIfInBounds_toArray, List.set_cons_zero, List.set_cons_succ])
      refine wpAnyB_takeB (i := 1) (v := ?_) rfl (by decide) rfl (by kernel_rfl) (by kernel_rfl) (by kernel_rfl) (by kernel_rfl) (fun _ _ _ h => h) (Or.inl ⟨by rfl, ?hy1⟩) (by rfl) hS1 hT1 ?_
      case hy1 => (intro W hSw; (try dsimp only at hSw); (obtain ⟨⟨s0, s1, s2, s3⟩, tT⟩ := hSw); go_simp; try with_reducible rfl)
      (try simp only [Act.put, List.setIfInBounds_toArray, List.set_cons_zero, List.set_cons_succ])
      refine wpAnyB_take (i := 2) (v := ?_) rfl (by decide) (by kernel_rfl) (by kernel_rfl) (by kernel_rfl) (fun _ _ _ h => h) (Or.inl ⟨by rfl, ?hy2⟩) hS1 (fun _ => hT1) ?_
      case hy2 => (intro W hSw; (try dsimp only at hSw); (obtain ⟨s0, s1, s2, s3⟩ := hSw); go_simp; try with_reducible rfl)
      (try simp only [Act.put, List.setIfInBounds_toArray, List.set_cons_zero, List.set_cons_succ])
      refine wpAnyB_take (i := 3) (v := ?_) rfl (by decide) (by kernel_rfl) (by kernel_rfl) (by kernel_rfl) (fun _ _ _ h => h) (Or.inl ⟨by rfl, ?hy3⟩) hS1 (fun _ => hT1) ?_
      case hy3 => (intro W hSw; (try dsimp only at hSw); (obtain ⟨s0, s1, s2, s3⟩ := hSw); go_simp; try with_reducible rfl)
      (try simp only [Act.put, List.setIfInBounds_toArray, List.set_cons_zero, List.set_cons_succ])
      refine wpAnyB_take (i := 4) (v := ?_) rfl (by decide) (by kernel_rfl) (by kernel_rfl) (by kernel_rfl) (fun _ _ _ h => h) (Or.inl ⟨by rfl, ?hy4⟩) hS1 (fun _ => hT1) ?_
      case hy4 => (intro W hSw; (try dsimp only at hSw); (obtain ⟨s0, s1, s2, s3⟩ := hSw); go_simp; try with_reducible rfl)
      (try simp only [Act.put, List.setIfInBounds_toArray, List.set_cons_zero, List.set_cons_succ])
      refine wpAnyB_take (i := 5) (v := ?_) rfl (by decide) (by kernel_rfl) (by kernel_rfl) (by kernel_rfl) (fun _ _ _ h => h) (Or.inl ⟨by rfl, ?hy5⟩) hS1 (fun _ => hT1) ?_
      case hy5 => (intro W hSw; (try dsimp only at hSw); (obtain ⟨s0, s1, s2, s3⟩ := hSw); go_simp; try with_reducible rfl)
      (try simp only [Act.put, List.setIfInBounds_toArray, List.set_cons_zero, List.set_cons_succ])
      refine wpAnyB_take (i := 6) (v := ?_) rfl (by decide) (by kernel_rfl) (by kernel_rfl) (by kernel_rfl) (fun _ _ _ h => h) (Or.inl ⟨by rfl, ?hy6⟩) hS1 (fun _ => hT1) ?_
      case hy6 => (intro W hSw; (try dsimp only at hSw); (obtain ⟨s0, s1, s2, s3⟩ := hSw); go_simp; try with_reducible rfl)
      (try simp only [Act.put, List.setIfInBounds_toArray, List.set_cons_zero, List.set_cons_succ])
      refine wpAnyB_ready (rs := [7]) (by kernel_rfl) (by simp) ?_
      refine AllReadyB.cons rfl (fun K hK => ?_) AllReadyB.nil
      go_simp
      go_at_call 62
      with_reducible refine HCALL.out.mono ?_
      rintro e wA ⟨csA, FA, rfl, hbA, hpA, hfrA, hfsA⟩
      obtain ⟨kvA, rfl, haA⟩ := (VR_iff _ _ _).1 hpA
      obtain ⟨A8, cap8, rfl, -, -⟩ := haA.form
      clear haA
      have HBu := Lib.hid (HBk.out.trans (hbA.mono HBk.out.size))
      have HPA := Lib.hid hpA
      have HFrA := Lib.hid hfrA
      have HFsA : Hid (∀ b ∈ FA, wr.heap.size ≤ b ∧ b < wA.heap.size) := fun b hb => ⟨Nat.le_trans HBk.out.size (hfsA b hb).1, (hfsA b hb).2⟩
      have HOA : Hid (Own wA (w.heap.size + 2 + 1) 53 3 VR (kidTo v.ks i) (.slice kA (kidTo v.ks i).length kcap) Fk) := HO.out.below (fun x cs G hk h => VR_mono' _ _ x cs G hk h) HBu.out
      have hbs : w.heap.size + 2 + 1 ≤ wA.heap.size := by have := HBu.out.size; omega
      have hSA : wA.cell? ⟨w.heap.size, 2, none⟩ = some (.slice (some ⟨b4, off4, none⟩) v.ks.length cap4) ∧ wA.cell? ⟨b4, off4 + i * 3, none⟩ = some (.int .i64 v.ks[i].c) ∧ wA.cell? ⟨b4, off4 + i * 3 + 1, none⟩ = some (.int .i64 v.ks[i].n) ∧ wA.cell? ⟨b4, off4 + i * 3 + 2, none⟩ = some (.slice A7 v.ks[i].ks.length cap7) := ⟨(hbA.cell (p := ⟨w.heap.size, 2, none⟩) vlt).trans y2, (hbA.cell (p := ⟨b4, off4 + i * 3, none⟩) hb7').trans k0, (hbA.cell (p := ⟨b4, off4 + i * 3 + 1, none⟩) hb7').trans k1, (hbA.cell (p := ⟨b4, off4 + i * 3 + 2, none⟩) hb7').trans k2⟩
      have zA : wA.cell? ⟨w.heap.size + 2, 2, none⟩ = some (.slice kA (kidTo v.ks i).length kcap) := (hbA.cell (p := ⟨w.heap.size + 2, 2, none⟩) hkT).trans zT
      have zfA : wA.frozen? ⟨w.heap.size + 2, 2, none⟩ = false := (hbA.frozen hkT).trans zfT
      have hkA : w.heap.size + 2 < wA.heap.size := Nat.lt_of_lt_of_le hkT hbA.size
      have kl0 : w.heap.size < wA.heap.size := Nat.lt_of_lt_of_le vlt hbA.size
      have kl1 : b4 < wA.heap.size := Nat.lt_of_lt_of_le hb7' hbA.size
      have kl2 : b4 < wA.heap.size := Nat.lt_of_lt_of_le hb7' hbA.size
      have kl3 : b4 < wA.heap.size := Nat.lt_of_lt_of_le hb7' hbA.size
      have hSB : (wA.alloc (.cells [.int .i64 v.ks[i].c, .int .i64 v.ks[i].n, .slice A8 v.ks[i].ks.length cap8].toArray 53)).cell? ⟨w.heap.size, 2, none⟩ = some (.slice (some ⟨b4, off4, none⟩) v.ks.length cap4) ∧ (wA.alloc (.cells [.int .i64 v.ks[i].c, .int .i64 v.ks[i].n, .slice A8 v.ks[i].ks.length cap8].toArray 53)).cell? ⟨b4, off4 + i * 3, none⟩ = some (.int .i64 v.ks[i].c) ∧ (wA.alloc (.cells [.int .i64 v.ks[i].c, .int .i64 v.ks[i].n, .slice A8 v.ks[i].ks.length cap8].toArray 53)).cell? ⟨b4, off4 + i * 3 + 1, none⟩ = some (.int .i64 v.ks[i].n) ∧ (wA.alloc (.cells [.int .i64 v.ks[i].c, .int .i64 v.ks[i].n, .slice A8 v.ks[i].ks.length cap8].toArray 53)).cell? ⟨b4, off4 + i * 3 + 2, none⟩ = some (.slice A7 v.ks[i].ks.length cap7) := ⟨(World.cell?_alloc_lt _ _ _ kl0).trans hSA.1, (World.cell?_alloc_lt _ _ _ kl1).trans hSA.2.1, (World.cell?_alloc_lt _ _ _ kl2).trans hSA.2.2.1, (World.cell?_alloc_lt _ _ _ kl3).trans hSA.2.2.2⟩
      dsimp only
      refine hK.out _ _ hSA (fun _ => zA) ?_
      clear hK K
      (try simp only [Act.put, List.setIfInBounds_toArray, List.set_cons_zero, List.set_cons_succ])
      refine wpAnyB_ready (rs := [8]) (by kernel_rfl) (by simp) ?_
      refine AllReadyB.cons rfl (fun K hK => ?_) AllReadyB.nil
      go_simp
      refine hK.out _ _ hSB (fun _ => (World.cell?_alloc_lt _ _ _ hkA).trans zA) ?_
      clear hK K
      (try simp only [Act.put, List.setIfInBounds_toArray, List.set_cons_zero, List.set_cons_succ])
      refine wpAnyB_ready (rs := [9]) (by kernel_rfl) (by simp) ?_
      refine AllReadyB.cons rfl (fun K hK => ?_) AllReadyB.nil
      refine step_push1 (P := Try.prog) rfl _ _ 39 rfl i0 _ 40 Try.underlying39 HI.out HZ0.out HZ1.out HZ2.out rfl (by decide) VR_len' VR_mono' (by rfl) HOA.out v.ks[i] 53 [.int .i64 v.ks[i].c, .int .i64 v.ks[i].n, .slice A8 v.ks[i].ks.length cap8] FA wA.heap.size (by rfl) rfl (by simp [Value.oneCell']) HPA.out (fun b hb => (HFsA.out b hb).2) (fun g hg hG => Nat.lt_irrefl _ (Nat.lt_of_lt_of_le (HO.out.row g hg).2 (HFsA.out g hG).1)) hmx hby hbs ?_
      intro g cp w7 hown7 hgr7 hat7
      have hrow7 := HOA.out.row
      have n7 : ∀ x, (x < w.heap.size + 2 + 1 ∨ wr.heap.size ≤ x) → some x ≠ (Value.ownBlock (.slice kA (kidTo v.ks i).length kcap)) := fun x hx e => by
        have h1 := (hrow7 x (mem_rowOf.2 e.symm)).1
        have h2 := (HO.out.row x (mem_rowOf.2 e.symm)).2
        omega
      have l7 : wA.heap.size ≤ (wA.alloc (.cells [.int .i64 v.ks[i].c, .int .i64 v.ks[i].n, .slice A8 v.ks[i].ks.length cap8].toArray 53)).heap.size := by rw [World.size_alloc]; exact Nat.le_succ _
      have s7 : w7.cell? ⟨w.heap.size, 2, none⟩ = some (.slice (some ⟨b4, off4, none⟩) v.ks.length cap4) ∧ w7.cell? ⟨b4, off4 + i * 3, none⟩ = some (.int .i64 v.ks[i].c) ∧ w7.cell? ⟨b4, off4 + i * 3 + 1, none⟩ = some (.int .i64 v.ks[i].n) ∧ w7.cell? ⟨b4, off4 + i * 3 + 2, none⟩ = some (.slice A7 v.ks[i].ks.length cap7) := ⟨(World.grownBy.cell_far hgr7 ⟨w.heap.size, 2, none⟩ (Nat.lt_of_lt_of_le kl0 l7) (n7 (w.heap.size) (by omega))).trans hSB.1, (World.grownBy.cell_far hgr7 ⟨b4, off4 + i * 3, none⟩ (Nat.lt_of_lt_of_le kl1 l7) (n7 (b4) (by omega))).trans hSB.2.1, (World.grownBy.cell_far hgr7 ⟨b4, off4 + i * 3 + 1, none⟩ (Nat.lt_of_lt_of_le kl2 l7) (n7 (b4) (by omega))).trans hSB.2.2.1, (World.grownBy.cell_far hgr7 ⟨b4, off4 + i * 3 + 2, none⟩ (Nat.lt_of_lt_of_le kl3 l7) (n7 (b4) (by omega))).trans hSB.2.2.2⟩
      have z71 : w7.cell? ⟨w.heap.size + 2, 2, none⟩ = some (.slice kA (kidTo v.ks i).length kcap) := (World.grownBy.cell_far hgr7 ⟨w.heap.size + 2, 2, none⟩ (Nat.lt_of_lt_of_le hkA l7) (n7 (w.heap.size + 2) (by omega))).trans ((World.cell?_alloc_lt _ _ _ hkA).trans zA)
      have zf71 : w7.frozen? ⟨w.heap.size + 2, 2, none⟩ = false := (World.grownBy.frozen_far hgr7 ⟨w.heap.size + 2, 2, none⟩ (Nat.lt_of_lt_of_le hkA l7) (n7 (w.heap.size + 2) (by omega))).trans (Eq.trans (World.frozen?_of_block (Below.heap_alloc _ _ _ hkA)) zfA)
      refine hK.out _ _ s7 (fun h => by cases h) ?_
      clear hK K
      (try simp only [Act.put, List.setIfInBounds_toArray, List.set_cons_zero, List.set_cons_succ])
      refine wpAnyB_take (i := 10) (v := ?_) rfl (by decide) (by kernel_rfl) (by kernel_rfl) (by kernel_rfl) (fun _ _ _ h => h) (Or.inl ⟨by rfl, ?hy10⟩) s7 (fun h => by cases h) ?_
      case hy10 => (intro W hSw; (try dsimp only at hSw); (obtain ⟨s0, s1, s2, s3⟩ := hSw); go_simp; try with_reducible rfl)
      (try simp only [Act.put, List.setIfInBounds_toArray, List.set_cons_zero, List.set_cons_succ])
      refine wpAnyB_ready (rs := [11]) (by kernel_rfl) (by simp) ?_
      refine AllReadyB.cons rfl (fun K hK => ?_) AllReadyB.nil
      go_simp
      refine hK.out _ _ ⟨(World.cell?_setCell_far _ _ _ _ (by show w.heap.size + 2 ≠ w.heap.size; omega)).trans s7.1, (World.cell?_setCell_far _ _ _ _ (by show w.heap.size + 2 ≠ b4; omega)).trans s7.2.1, (World.cell?_setCell_far _ _ _ _ (by show w.heap.size + 2 ≠ b4; omega)).trans s7.2.2.1, (World.cell?_setCell_far _ _ _ _ (by show w.heap.size + 2 ≠ b4; omega)).trans s7.2.2.2⟩ (fun h => by cases h) ?_
      clear hK K
      (try simp only [Act.put, List.setIfInBounds_toArray, List.set_cons_zero, List.set_cons_succ])
      refine wpAnyB_end (by kernel_rfl) ?_
      have HF2 := Lib.hid (kidTo_succ v.ks i hil)
      obtain ⟨r1, r2, r3, r4, r5, r6, r7⟩ := kid_round 2 VR_mono' hs0 KD.out HO.out HFk.out HFh.out HC.out hB (by omega) (Nat.le_refl _) HBu.out HFrA.out HFsA.out hown7 hgr7
      have R1 := Lib.hid r1
      have R2 := Lib.hid r2
      have R3 := Lib.hid r3
      have R4 := Lib.hid r4
      have R5 := Lib.hid r5
      have R6 := Lib.hid r6
      clear r1 r2 r3 r4 r5 r6 hown7 hgr7 hat7 hrow7 n7 l7 s7 z71 zf71 hSA zA zfA hkA hSB hS1 hT1 zT zfT hkT HCALL
      go_wp2
      go_roundw
      case rel => exact ⟨i + 1, _, _, hil, by go_num, R1, by rw [HF2.out]; exact R2.out, R3, R4, R5, R6.out, r7⟩
      case measure => (simp [intOf] <;> omega)
    · have HO2 := HO.out
      rw [kidTo_all v.ks (by omega)] at HO2
      have hln := congrArg List.length (kidTo_all v.ks (i := i) (by omega))
      obtain ⟨FF, hf1, hf2, hf3⟩ := kid_done (H := w.heap.size + 2 + 1) HO2 HFk.out HFh.out (Nat.le_refl _)
      have HF1 := Lib.hid hf1
      have HF2 := Lib.hid hf2
      have HF3 := Lib.hid hf3
      have e0 := (KD.out.cell 0).trans (show _ = some (.int .i64 v.c) from by simp)
      have e1 := (KD.out.cell 1).trans (show _ = some (.int .i64 v.n) from by simp)
      have e2 := (KD.out.cell 2).trans (show _ = some (.slice kA (kidTo v.ks i).length kcap) from by simp)
      have HLN := Lib.hid hln
      have RR := Lib.hid (R0.out.same (HC.out.block _ R0.out.lt (by simp)))
      have rlt := RR.out.lt
      have rc0 := (RR.out.cell 0).trans (show _ = some (.int .i64 0) from by simp)
      have rf0 := RR.out.frozen 0
      have rc1 := (RR.out.cell 1).trans (show _ = some (.int .i64 0) from by simp)
      have rf1 := RR.out.frozen 1
      have rc2 := (RR.out.cell 2).trans (show _ = some (.slice none 0 0) from by simp)
      have rf2 := RR.out.frozen 2
      clear hf1 hf2 hf3 HO2 hln
      go_wp2
      clear e0 e1 e2 rc0 rf0 rc1 rf1 rc2 rf2
      refine bodyPost_ret (results_cell_row rfl _ _ (w.heap.size + 1) 53 #[.int .i64 v.c, .int .i64 v.n, .slice kA (kidTo v.ks i).length kcap] (0, 0) _ rfl (RR.out.three _ _ _) Try.underlying53 rfl rfl) rfl ?_
      have hkp : Kept FF wr _ := kept_three (w := wr) (H := w.heap.size + 1) (fun b hb => by have := (HF3.out b hb).1; omega) (.int .i64 v.c) (.int .i64 v.n) (.slice kA (kidTo v.ks i).length kcap)
      refine ⟨[.int .i64 v.c, .int .i64 v.n, .slice kA (kidTo v.ks i).length kcap], FF, rfl, below_three hB (by omega) _ _ _, ?_, HF2.out.kept hkp, fun b hb => ⟨by have := (HF3.out b hb).1; omega, ?_⟩⟩
      · exact (VR_iff _ _ _).2 ⟨_, rfl, ArrV.mono (by rw [HLN.out]; exact HF1.out) hkp⟩
      · rw [size_three]; exact (HF3.out b hb).2
theorem spec_l2Copy : ∀ v, CopyV 62 v := V.indv spec_l2Copy_of
end Go.Proofs.Ytilndhmegaccmaa

namespace Go.Proofs.Ytilndhmegaccmaa
open Go.RowKit

theorem Own.row0 {α : Type} {w : World} {B k : Nat} {E : TypeId} {R R' : α → List Value → List Nat → Prop} {RR : World → α → List Value → List Nat → Prop} {vs : List α} {v : Value} {F : List Nat} (h : Own w B E k RR vs v F) (hne : vs ≠ []) :
    ∃ g cap, v = .slice (some ⟨g, 0, none⟩) vs.length cap ∧ B ≤ g ∧ vs.length ≤ cap ∧ cap ≤ maxLen ∧ Row w g E k cap R' ([] : List α) [] := by
  obtain ⟨cs, h1, -⟩ := h
  rcases h1.2 with ⟨-, hn⟩ | ⟨g, cap, cur, rfl, hb, hg, hc, hm, hs, -⟩
  · exact absurd (List.length_eq_zero_iff.1 hn) hne
  · exact ⟨g, cap, rfl, hb, hc, hm, ⟨_, hg, hs⟩, Nat.zero_le _, [], fun j u h => by simp at h, rfl, rfl⟩
theorem Own.elem {α : Type} {w : World} {B k : Nat} {E : TypeId} {R : World → α → List Value → List Nat → Prop} {vs : List α} {F : List Nat} {g n cap : Nat} (hk : ∀ x cs F, R w x cs F → cs.length = k) (h : Own w B E k R vs (.slice (some ⟨g, 0, none⟩) n cap) F) {i : Nat} (hi : i < vs.length) :
    ∃ cs H, CellsAt w g (i * k) cs ∧ R w vs[i] cs H ∧ ∀ b ∈ H, b ∈ F := by
  obtain ⟨cs, h1, h2, -⟩ := h
  have hn : n = vs.length := by
    rcases h1.2 with ⟨h, -⟩ | ⟨g', cap', cur, h, -⟩
    · cases h
    · injection h
  subst hn
  obtain ⟨ds, H, a, r, d⟩ := Flat.get (b := g) (off := 0) hk h2 (cellsAt_ownsRow h1) (List.getElem?_eq_getElem hi)
  exact ⟨ds, H, by simpa using a, r, d⟩
/-- beyond the cells that are stored nothing changes -/
theorem Row.put_far {α : Type} {w : World} {g k n : Nat} {t : TypeId} {R : α → List Value → List Nat → Prop} {xs : List α} {F : List Nat} (h : Row w g t k n R xs F) (cs : List Value) (i : Nat) (hi : i + cs.length ≤ n * k) (j : Nat) (hj : i + cs.length ≤ j) : (putCells w g i cs).cell? ⟨g, j, none⟩ = w.cell? ⟨g, j, none⟩ := by
  obtain ⟨⟨C, h1, h2⟩, -⟩ := h
  obtain ⟨C', g1, g2, g3, g4⟩ := Blk.put cs i h1 (by omega)
  rw [g1.cell, g4 j (.inr hj), ← h1.cell]
set_option maxRecDepth 100000 in
set_option maxHeartbeats 6400000 in
theorem spec_ValuesUpTo (xs : List Dt) (t : Ty) (dp : Int) (w : World) (x : Value) (F : List Nat) (hx : Arr w (DtR w) xs x F) (hf : Under w.heap.size F) :
    Calls Try.prog 18 #[x, .agg #[.int .i64 t.d, .int .i64 t.i], .int .i64 dp] w (MadeVals2 (uptoV xs t dp) (uptoB xs t dp) w) := by
  obtain ⟨A, cap, rfl, hc1, hc2⟩ := hx.form
  have HX := Lib.hid hx
  have HF := Lib.hid hf
  clear hx hf
  go_enter Try.func18, Try.ntmps18
  go_wp2_with fail
  obtain ⟨W2, hW2⟩ : ∃ W2, W2 = (w.alloc (.cells #[.int .i64 t.d, .int .i64 t.i] 32)) := ⟨_, rfl⟩
  have hB0 : Below w.heap.size w W2 := by rw [hW2]; exact (Below.refl _ _).alloc (Nat.le_refl _) _
  have KT : Hid (Blk W2 w.heap.size 32 #[.int .i64 t.d, .int .i64 t.i]) := by rw [hW2]; exact Blk.new w _ _
  rw [← hW2]
  clear hW2
  have y0 : W2.cell? ⟨w.heap.size, 0, none⟩ = some (.int .i64 t.d) := (KT.out.cell 0).trans (by simp)
  have y1 : W2.cell? ⟨w.heap.size, 1, none⟩ = some (.int .i64 t.i) := (KT.out.cell 1).trans (by simp)
  have ylt := KT.out.lt
  go_wp2_with fail
  refine (spec_TypeValid xs t W2 _ F (ArrDt.below HX.out hB0 HF.out) (HF.out.mono hB0.size)).mono ?_
  rintro e w3 ⟨rfl, hb3⟩
  have hB3 := hB0.trans (hb3.mono hB0.size)
  have KT3 := Lib.hid (KT.out.same (hb3.block _ KT.out.lt))
  clear hb3 KT y0 y1 ylt hB0
  cases e1 : typeValidB xs t with
  | false =>
    have HE : Hid (uptoB xs t dp = false) := by unfold Hid uptoB; rw [e1]; rfl
    clear e1
    have HFin : Hid (MadeVals2 (uptoV xs t dp) (uptoB xs t dp) w (.returned (.tuple #[.slice (some ⟨w3.heap.size, 0, none⟩) 0 0, .bool false])) (w3.alloc (.cells #[] 53))) := ⟨_, [], by rw [HE.out], hB3.alloc hB3.size _, by rw [uptoV_no HE.out]; exact ⟨_, 0, rfl, Nat.le_refl _, by simp [maxLen], .inl ⟨rfl, rfl⟩⟩, Free.nil _, Fresh.nil _ _⟩
    go_wp2
    go_ret2
    exact HFin.out
  | true =>
    obtain ⟨hw, hto⟩ := typeValid_split e1
    have HW := Lib.hid hw
    have HT := Lib.hid (typeOkB_tyIn hto)
    have HE1 := Lib.hid e1
    clear e1 hw hto
    by_cases h0 : dp < 0
    · have e2 : decide (dp < 0) = true := by simpa using h0
      have HE : Hid (uptoB xs t dp = false) := by
        have : withinB dp 0 4 = false := by
          cases h : withinB dp 0 4 with
          | false => rfl
          | true => have := (withinB_iff _ _ _).1 h; omega
        unfold Hid uptoB; rw [HE1.out, this]; rfl
      have HFin : Hid (MadeVals2 (uptoV xs t dp) (uptoB xs t dp) w (.returned (.tuple #[.slice (some ⟨w3.heap.size, 0, none⟩) 0 0, .bool false])) (w3.alloc (.cells #[] 53))) := ⟨_, [], by rw [HE.out], hB3.alloc hB3.size _, by rw [uptoV_no HE.out]; exact ⟨_, 0, rfl, Nat.le_refl _, by simp [maxLen], .inl ⟨rfl, rfl⟩⟩, Free.nil _, Fresh.nil _ _⟩
      go_wp2
      go_ret2
      exact HFin.out
    · have e2 : decide (dp < 0) = false := by simpa using h0
      by_cases h5 : dp > 4
      · have e3 : decide (dp > 4) = true := by simpa using h5
        have HE : Hid (uptoB xs t dp = false) := by
          have : withinB dp 0 4 = false := by
            cases h : withinB dp 0 4 with
            | false => rfl
            | true => have := (withinB_iff _ _ _).1 h; omega
          unfold Hid uptoB; rw [HE1.out, this]; rfl
        have HFin : Hid (MadeVals2 (uptoV xs t dp) (uptoB xs t dp) w (.returned (.tuple #[.slice (some ⟨w3.heap.size, 0, none⟩) 0 0, .bool false])) (w3.alloc (.cells #[] 53))) := ⟨_, [], by rw [HE.out], hB3.alloc hB3.size _, by rw [uptoV_no HE.out]; exact ⟨_, 0, rfl, Nat.le_refl _, by simp [maxLen], .inl ⟨rfl, rfl⟩⟩, Free.nil _, Fresh.nil _ _⟩
        go_wp2
        go_ret2
        exact HFin.out
      · have e3 : decide (dp > 4) = false := by simpa using h5
        have hr : withinB dp 0 4 = true := (withinB_iff _ _ _).2 ⟨by omega, by omega⟩
        obtain ⟨n, rfl⟩ : ∃ n : Nat, dp = (n : Int) := ⟨dp.toNat, by omega⟩
        have hn4 : n ≤ 4 := by omega
        have HEQ : Hid (uptoB xs t (n : Int) = decide ((valsL xs n t).length ≤ 400)) := by unfold Hid uptoB; rw [HE1.out, hr]; rfl
        have HEV : Hid (uptoB xs t (n : Int) = true → uptoV xs t (n : Int) = valsL xs n t) := fun h => uptoV_yes h
        clear hr
        have y0 : w3.cell? ⟨w.heap.size, 0, none⟩ = some (.int .i64 t.d) := (KT3.out.cell 0).trans (by simp)
        have y1 : w3.cell? ⟨w.heap.size, 1, none⟩ = some (.int .i64 t.i) := (KT3.out.cell 1).trans (by simp)
        have ylt := KT3.out.lt
        go_wp2_with fail
        refine (spec_l2All n xs HW.out t HT.out (by omega) w3 _ F (ArrDt.below HX.out hB3 HF.out) (HF.out.mono hB3.size)).mono ?_
        rintro e w5 ⟨v5, F5, rfl, hb5, ho5, hf5⟩
        have hB5 := hB3.trans (hb5.mono hB3.size)
        have h35 := hB3.size
        clear hb5 KT3 y0 y1 ylt
        obtain ⟨oA, ocap, rfl, -, -⟩ := ho5.form
        by_cases hc : (cutV (valsL xs n t)).length ≤ 400
        · have e4 : decide (((cutV (valsL xs n t)).length : Int) > 400) = false := by simp; omega
          have hcv := cutV_not hc
          have hlen : (valsL xs n t).length ≤ 400 := by rw [hcv] at hc; exact hc
          have HE : Hid (uptoB xs t (n : Int) = true) := by rw [HEQ.out]; exact decide_eq_true hlen
          have HVE := Lib.hid (HEV.out HE.out)
          have HSM : Hid (∀ v ∈ valsL xs n t, v.size ≤ 60) := fun v hv => by
            have := (vals_small HW.out hn4 HT.out hv).1
            unfold nodes at this
            omega
          rw [hcv] at ho5 e4 ⊢
          clear hc hcv
          generalize valsL xs n t = vs at *
          have hX5 : Arr w5 (VR w5) vs (.slice oA vs.length ocap) (if vs = [] then [] else rowOf (.slice oA vs.length ocap) ++ F5) := ho5.arr
          by_cases hvs : vs = []
          · have hl0 : vs.length = 0 := by rw [hvs]; rfl
            have HFin : Hid (MadeVals2 (uptoV xs t (n : Int)) (uptoB xs t (n : Int)) w (.returned (.tuple #[.slice oA vs.length ocap, .bool true])) w5) := by
              refine ⟨_, [], by rw [HE.out], hB5, ?_, Free.nil _, Fresh.nil _ _⟩
              rw [HVE.out]
              rw [if_pos hvs] at hX5
              exact hX5
            clear hvs ho5 hX5
            have HL0 := Lib.hid hl0
            clear hl0
            go_wp2
            go_loopw [9] (fun kv wr => kv = .int .i64 0 ∧ wr = w5) (fun _ _ => 0)
            case atStart => exact ⟨rfl, rfl⟩
            case round =>
              obtain ⟨rfl, rfl⟩ := hrel
              have g1 : ¬ (0 : Int) < (vs.length : Int) := by rw [HL0.out]; omega
              go_wp2
              go_ret2
              exact HFin.out
          · obtain ⟨g, cp, hv, hge, hgc, hgm, hrow⟩ := ho5.row0 (R := fun _ _ _ => True) (R' := VR w5) hvs
            cases hv
            rw [if_neg hvs] at hX5
            have hgF : g ∉ F5 := ho5.apart g (by simp [rowOf_some])
            have HUF := Lib.hid ho5.under
            have HOW := Lib.hid ho5
            have HRW := Lib.hid hrow
            have HGF := Lib.hid hgF
            have hwg : w.heap.size ≤ g := Nat.le_trans h35 hge
            have hgl : g < w5.heap.size := hrow.lt
            clear hrow hgF ho5 hf5 hX5
            go_wp2
            go_loopw [9] (fun kv wr => ∃ k : Nat, ∃ Fk : List Nat, k ≤ vs.length ∧ kv = .int .i64 k ∧ Hid (Row wr g 53 3 ocap (VR wr) (kidTo vs k) Fk ∧ Free wr Fk ∧ ∀ b ∈ Fk, w5.heap.size ≤ b ∧ b < wr.heap.size) ∧ Hid (Chg [g] w5 wr) ∧ Hid (∀ m, k * 3 ≤ m → wr.cell? ⟨g, m, none⟩ = w5.cell? ⟨g, m, none⟩)) (fun kv _ => vs.length - (intOf kv).toNat)
            case atStart => exact ⟨0, [], Nat.zero_le _, rfl, ⟨HRW.out, Free.nil _, fun b hb => by cases hb⟩, Chg.refl _ _, fun m _ => rfl⟩
            case round =>
              clear HRW
              obtain ⟨k, Fk, hk, rfl, HR, HC, HCE⟩ := hrel
              have hklen : (kidTo vs k).length = k := by unfold kidTo; rw [List.length_take]; omega
              have HKL := Lib.hid hklen
              clear hklen
              by_cases hlt : k < vs.length
              · have q1 : (0 : Int) ≤ (k : Int) := by omega
                have q2 : (k : Int) < (vs.length : Int) := by omega
                obtain ⟨cs, H, hcs, hvr, hH⟩ := HOW.out.elem VR_len hlt
                obtain ⟨kv, rfl, hka⟩ := (VR_iff _ _ _).1 hvr
                obtain ⟨A7, cap7, rfl, -, -⟩ := hka.form
                have c0 : wr.cell? ⟨g, k * 3, none⟩ = some (.int .i64 vs[k].c) := (HCE.out _ (Nat.le_refl _)).trans (hcs 0 _ rfl)
                have c1 : wr.cell? ⟨g, k * 3 + 1, none⟩ = some (.int .i64 vs[k].n) := (HCE.out _ (Nat.le_succ _)).trans (hcs 1 _ rfl)
                have c2 : wr.cell? ⟨g, k * 3 + 2, none⟩ = some (.slice A7 vs[k].ks.length cap7) := (HCE.out _ (by omega)).trans (hcs 2 _ rfl)
                have HV := Lib.hid (VR.mono (w := w5) (w' := wr) _ _ _ (HC.out.kept (HUF.out.sub hH) (fun b hb h => HGF.out (by rw [List.mem_singleton] at h; rw [← h]; exact hH b hb))) hvr)
                have HHU := Lib.hid ((HUF.out.sub hH).mono HC.out.size)
                have HS := Lib.hid (kidTo_succ vs k hlt)
                have HZK := Lib.hid (Nat.le_trans (HSM.out vs[k] (List.getElem_mem hlt)) (show 60 ≤ 1048576 by omega))
                have hgs : g < wr.heap.size := Nat.lt_of_lt_of_le hgl HC.out.size
                obtain ⟨kq, hkq⟩ : ∃ u, u = vs[k] := ⟨_, rfl⟩
                rw [← hkq] at c0 c1 c2 HV HS HZK
                clear hkq hcs hvr hH hka
                go_wp2_with fail
                refine (spec_l2Copy kq wr _ H HV.out HHU.out HZK.out).mono ?_
                rintro e w8 ⟨cs8, F8, rfl, hb8, hp8, hfr8, hfs8⟩
                obtain ⟨kv8, rfl, ha8⟩ := (VR_iff _ _ _).1 hp8
                obtain ⟨A8, cap8, rfl, -, -⟩ := ha8.form
                have hGk : Kept Fk wr w8 := .of_below hb8 fun b hb => (HR.out.2.2 b hb).2
                have hR1 := HR.out.1.mono (w' := w8) (R' := VR w8) (hb8.block _ hgs) hGk (fun x _ => VR.mono x)
                have hn3 : k * 3 + 3 ≤ ocap * 3 := by omega
                obtain ⟨⟨u0, d0⟩, f0⟩ := hR1.old (k * 3) (by omega)
                obtain ⟨⟨u1, d1⟩, f1⟩ := hR1.old (k * 3 + 1) (by omega)
                obtain ⟨⟨u2, d2⟩, f2⟩ := hR1.old (k * 3 + 2) (by omega)
                have HR1 := Lib.hid hR1
                clear hR1 ha8
                have hg3 := putCells_grown g [.int .i64 kq.c, .int .i64 kq.n, .slice A8 kq.ks.length cap8] w8 (k * 3)
                have HCN : Hid (Chg [g] w5 (putCells w8 g (k * 3) [.int .i64 kq.c, .int .i64 kq.n, .slice A8 kq.ks.length cap8])) := (((HC.out.step hb8).set (by simp)).set (by simp)).set (by simp)
                have hkH : Kept F8 w8 (putCells w8 g (k * 3) [.int .i64 kq.c, .int .i64 kq.n, .slice A8 kq.ks.length cap8]) := fun b hb => hg3.1.block b (hfs8 b hb).2 (fun e => by cases e; have := (hfs8 _ hb).1; omega)
                have hkG : Kept Fk w8 (putCells w8 g (k * 3) [.int .i64 kq.c, .int .i64 kq.n, .slice A8 kq.ks.length cap8]) := fun b hb => hg3.1.block b (Nat.lt_of_lt_of_le (HR.out.2.2 b hb).2 hb8.size) (fun e => by cases e; have := (HR.out.2.2 _ hb).1; omega)
                have HRN : Hid (Row (putCells w8 g (k * 3) [.int .i64 kq.c, .int .i64 kq.n, .slice A8 kq.ks.length cap8]) g 53 3 ocap (VR (putCells w8 g (k * 3) [.int .i64 kq.c, .int .i64 kq.n, .slice A8 kq.ks.length cap8])) (kidTo vs (k + 1)) (Fk ++ F8) ∧ Free (putCells w8 g (k * 3) [.int .i64 kq.c, .int .i64 kq.n, .slice A8 kq.ks.length cap8]) (Fk ++ F8) ∧ ∀ b ∈ Fk ++ F8, w5.heap.size ≤ b ∧ b < ((putCells w8 g (k * 3) [.int .i64 kq.c, .int .i64 kq.n, .slice A8 kq.ks.length cap8])).heap.size) := by
                  have h := Row.store (R' := VR (putCells w8 g (k * 3) [.int .i64 kq.c, .int .i64 kq.n, .slice A8 kq.ks.length cap8])) (x := kq) (cs := [.int .i64 kq.c, .int .i64 kq.n, .slice A8 kq.ks.length cap8]) VR_len HR1.out rfl (by rw [HKL.out]; omega) (fun hg => by have := (HR.out.2.2 _ hg).1; omega)
                    (fun x _ ds H hk h => VR.mono x ds H (by rw [HKL.out] at hk; exact hk) h)
                    (VR.mono _ _ _ hkH hp8)
                  rw [HKL.out, ← HS.out] at h
                  refine ⟨h, ⟨List.nodup_append.2 ⟨HR.out.2.1.1, hfr8.1, fun a ha c hc hac => ?_⟩, fun b hb i => ?_⟩, fun b hb => ?_⟩
                  · subst hac
                    have := (HR.out.2.2 _ ha).2
                    have := (hfs8 _ hc).1
                    omega
                  · rcases List.mem_append.1 hb with hb | hb
                    · exact ((HR.out.2.1.kept hGk).kept hkG).2 b hb i
                    · exact (hfr8.kept hkH).2 b hb i
                  · rw [hg3.2]
                    rcases List.mem_append.1 hb with hb | hb
                    · exact ⟨(HR.out.2.2 b hb).1, Nat.lt_of_lt_of_le (HR.out.2.2 b hb).2 hb8.size⟩
                    · exact ⟨Nat.le_trans HC.out.size (hfs8 b hb).1, (hfs8 b hb).2⟩
                have HCF : Hid (∀ m, (k + 1) * 3 ≤ m → ((putCells w8 g (k * 3) [.int .i64 kq.c, .int .i64 kq.n, .slice A8 kq.ks.length cap8])).cell? ⟨g, m, none⟩ = w5.cell? ⟨g, m, none⟩) := fun m hm => (HR1.out.put_far [.int .i64 kq.c, .int .i64 kq.n, .slice A8 kq.ks.length cap8] (k * 3) (by simp; omega) m (by simp; omega)).trans ((hb8.cell (p := ⟨g, m, none⟩) hgs).trans (HCE.out m (by omega)))
                clear hg3 HR1 hp8 hfr8 hfs8 hkH hkG hGk HR HV hb8 c0 c1 c2
                go_wp2
                go_roundw
                case rel => exact ⟨k + 1, _, hlt, by go_num, HRN.out, HCN.out, HCF.out⟩
                case measure => (simp [intOf] <;> omega)
              · have hkk : kidTo vs k = vs := kidTo_all vs (Nat.le_of_not_lt hlt)
                have HFin : Hid (MadeVals2 (uptoV xs t (n : Int)) (uptoB xs t (n : Int)) w (.returned (.tuple #[.slice (some ⟨g, 0, none⟩) vs.length ocap, .bool true])) wr) := by
                  obtain ⟨hr, hfr, hbd⟩ := HR.out
                  rw [hkk] at hr
                  have hgn : g ∉ Fk := fun h => by have := (hbd g h).1; omega
                  have hfree := hr.free hfr hgn
                  obtain ⟨-, h3, cs, h4, h5⟩ := hr
                  refine ⟨_, g :: Fk, by rw [HE.out], hB5.trans (HC.out.below (fun b hb => by rw [List.mem_singleton] at hb; omega) hB5.size), ?_, hfree, fun b hb => ?_⟩
                  · rw [HVE.out]
                    exact ⟨_, ocap, rfl, hgc, hgm, .inr ⟨g, 0, cs, Fk, rfl, h4, h5, rfl⟩⟩
                  · rcases List.mem_cons.1 hb with rfl | hb
                    · exact ⟨hwg, Nat.lt_of_lt_of_le hgl HC.out.size⟩
                    · exact ⟨Nat.le_trans hB5.size (hbd b hb).1, (hbd b hb).2⟩
                clear hkk
                go_wp2
                go_ret2
                exact HFin.out
        · have e4 : decide (((cutV (valsL xs n t)).length : Int) > 400) = true := by simp; omega
          have HE : Hid (uptoB xs t (n : Int) = false) := by
            rw [HEQ.out]
            refine decide_eq_false fun h => hc ?_
            rw [cutV_short (by omega)]; exact h
          clear hc
          generalize cutV (valsL xs n t) = cv at *
          clear ho5
          have HFin : Hid (MadeVals2 (uptoV xs t (n : Int)) (uptoB xs t (n : Int)) w (.returned (.tuple #[.slice (some ⟨w5.heap.size, 0, none⟩) 0 0, .bool false])) (w5.alloc (.cells #[] 53))) := ⟨_, [], by rw [HE.out], hB5.alloc hB5.size _, by rw [uptoV_no HE.out]; exact ⟨_, 0, rfl, Nat.le_refl _, by simp [maxLen], .inl ⟨rfl, rfl⟩⟩, Free.nil _, Fresh.nil _ _⟩
          go_wp2
          go_ret2
          exact HFin.out
end Go.Proofs.Ytilndhmegaccmaa

namespace Go.Proofs.Ytilndhmegaccmaa
open Go.RowKit

/-- the decimal digits of a number, none for 0 -/
def digs (n : Nat) : List UInt8 := if h : n = 0 then [] else digs (n / 10) ++ [UInt8.ofNat (48 + n % 10)]
termination_by n
decreasing_by omega
def mtext (k : Int) : ByteArray := if k ≤ 0 then ⟨#[109, 48]⟩ else ⟨(109 :: digs k.toNat).toArray⟩
theorem digs_zero : digs 0 = [] := by rw [digs]; rfl
theorem digs_pos (n : Nat) (h : 0 < n) : digs n = digs (n / 10) ++ [UInt8.ofNat (48 + n % 10)] := by rw [digs, dif_neg (by omega)]
theorem digs_len (n : Nat) : (digs n).length ≤ n := by
  induction n using Nat.strongRecOn with
  | ind n ih =>
    rcases Nat.eq_zero_or_pos n with rfl | h
    · rw [digs_zero]; exact Nat.le_refl _
    · rw [digs_pos n h, List.length_append, List.length_singleton]
      have := ih (n / 10) (by omega)
      omega
theorem mtext_le (k : Int) (h0 : 0 ≤ k) (h : k ≤ 1099511627776) : (mtext k).size ≤ 9223372036854775807 := by
  unfold mtext
  split
  · decide
  · have := digs_len k.toNat
    show (109 :: digs k.toNat).toArray.size ≤ _
    rw [List.size_toArray, List.length_cons]
    omega
set_option maxRecDepth 100000 in
set_option maxHeartbeats 1600000 in
theorem markText_any (k : Int) (w : World) (h0 : 0 ≤ k) (hk : k ≤ 1099511627776) : Calls Try.prog 70 #[.int .i64 k] w fun e w' => e = .returned (.string (mtext k)) ∧ Below w.heap.size w w' := by
  by_cases hz : k ≤ 0
  · have hf : Hid (mtext k = ⟨#[109, 48]⟩) := by unfold Hid mtext; rw [if_pos hz]
    go_enter Try.func70, Try.ntmps70
    go_wp2
    go_ret
    exact ⟨by rw [hf.out]; rfl, Below.refl _ _⟩
  · obtain ⟨n0, rfl⟩ := Int.eq_ofNat_of_zero_le h0
    have hf : Hid (mtext (n0 : Int) = ⟨(109 :: digs n0).toArray⟩) := by unfold Hid mtext; rw [if_neg hz]; rfl
    have hkn : n0 ≤ 1099511627776 := by omega
    go_enter Try.func70, Try.ntmps70
    go_wp2
    go_loopw [0, 3] (fun kv ov wr => ∃ n : Nat, ∃ out : ByteArray, kv = .int .i64 n ∧ ov = .string out ∧ n ≤ 1099511627776 ∧ Hid (digs n0 = digs n ++ out.data.toList) ∧ out.size + n ≤ n0 ∧ Below w.heap.size w wr) (fun kv _ _ => (intOf kv).toNat)
    case atStart => exact ⟨n0, ⟨#[]⟩, rfl, rfl, hkn, (show digs n0 = digs n0 ++ [] from (List.append_nil _).symm), (by show 0 + n0 ≤ n0; omega), Below.refl _ _⟩
    case round =>
      obtain ⟨n, out, rfl, rfl, hn, HD, hsz, hB⟩ := hrel
      by_cases hlt : 0 < n
      · have g1 : (0 : Int) ≤ (n : Int) := by omega
        have g2 : (0 : Int) < (n : Int) := by omega
        have hcv := conv1 wr (48 + (n : Int) % 10)
        have hdg := digs_pos n hlt
        have HD2 : Hid (digs n0 = digs (n / 10) ++ (strOfNums [48 + (n : Int) % 10] ++ out).data.toList) := by
          unfold Hid
          rw [HD.out, hdg, data_append, strOfNums_data, List.append_assoc]
          congr 3
          all_goals (simp only [List.map_cons, List.map_nil]; try (congr 2; omega))
        have hs2 : (strOfNums [48 + (n : Int) % 10] ++ out).size + n / 10 ≤ n0 := by rw [size_append, strOfNums_size]; simp only [List.length_singleton]; omega
        have HS2 := Lib.hid hs2
        have hcat : (strOfNums [48 + (n : Int) % 10]).size + out.size ≤ 9223372036854775807 := by rw [strOfNums_size]; simp only [List.length_singleton]; omega
        clear hs2 hdg
        go_wp2
        go_roundw
        case rel => exact ⟨n / 10, _, (by go_num), rfl, by omega, HD2, HS2.out, hB.alloc hB.size _⟩
        case measure => (simp [intOf] <;> omega)
      · obtain rfl : n = 0 := by omega
        have hfin : mtext (n0 : Int) = ⟨#[109]⟩ ++ out := by
          rw [hf.out]
          refine bytes_ext ?_
          rw [data_append]
          have h := HD.out
          rw [digs_zero, List.nil_append] at h
          rw [← h]
          simp
        have HFin := Lib.hid hfin
        clear hfin
        go_wp2
        go_ret
        exact ⟨by rw [HFin.out]; rfl, hB⟩
end Go.Proofs.Ytilndhmegaccmaa

namespace Go.Proofs.Ytilndhmegaccmaa
open Go.RowKit

mutual
def cntV : V → Nat
  | ⟨_, _, ks⟩ => 2 + cntsV ks
def cntsV : List V → Nat
  | [] => 0
  | x :: xs => cntV x + cntsV xs
end
mutual
def mkV (k : Int) : V → V
  | ⟨_, _, ks⟩ => ⟨k, k + 1, mksV (k + 1 + 1) ks⟩
def mksV (k : Int) : List V → List V
  | [] => []
  | x :: xs => mkV k x :: mksV (k + cntV x) xs
end
theorem cntsV_eq (xs : List V) : cntsV xs = sumBy cntV xs := by
  induction xs with
  | nil => rfl
  | cons x xs ih => rw [cntsV, sumBy, ih]
theorem mksV_eq (xs : List V) : ∀ k, mksV k xs = mkS mkV cntV k xs := by
  induction xs with
  | nil => intro k; rfl
  | cons x xs ih => intro k; rw [mksV, mkS, ih]
theorem cntV_def (x : V) : cntV x = 2 + sumBy cntV x.ks := by obtain ⟨a0, a1, ks⟩ := x; rw [cntV, cntsV_eq]
theorem mkV_def (k : Int) (x : V) : mkV k x = ⟨k, k + 1, mkS mkV cntV (k + 1 + 1) x.ks⟩ := by obtain ⟨a0, a1, ks⟩ := x; rw [mkV, mksV_eq]

theorem cntsV_le (xs : List V) : sumBy cntV xs ≤ 16 * V.sizes xs := by
  have h : ∀ x : V, cntV x ≤ 16 + 16 * x.size := V.ind fun a0 a1 ks ih => by
    have h2 : ∀ l : List V, (∀ x ∈ l, cntV x ≤ 16 + 16 * x.size) → sumBy cntV l ≤ 16 * V.sizes l := by
      intro l
      induction l with
      | nil => intro _; exact Nat.zero_le _
      | cons x l ih2 =>
        intro hl
        have h3 := ih2 fun y hy => hl y (by simp [hy])
        have h4 := hl x (by simp)
        simp only [sumBy, V.sizes]
        omega
    have h5 := h2 ks ih
    rw [cntV_def]
    show _ ≤ 16 + 16 * V.sizes ks
    simp only
    omega
  induction xs with
  | nil => exact Nat.zero_le _
  | cons x xs ih =>
    have h1 := h x
    simp only [sumBy, V.sizes]
    omega

/-- contract of markValueS at a node's parts -/
def MarkV (x : V) : Prop := ∀ (w : World) (v : Value) (F : List Nat) (k0 : Int), 0 ≤ k0 → k0 + (sumBy cntV x.ks : Nat) ≤ 1099511627776 → Arr w (VR w) x.ks v F → Free w F → Under w.heap.size F →
  Calls Try.prog 25 #[v, .int .i64 k0] w fun e w' => e = .returned (.int .i64 (k0 + (sumBy cntV x.ks : Nat))) ∧ Chg F w w' ∧ Arr w' (VR w') (mkS mkV cntV k0 x.ks) v F ∧ Free w' F

set_option maxRecDepth 100000 in
set_option maxHeartbeats 1600000 in
theorem markValueS_of (xs : List V) (ih : ∀ x ∈ xs, MarkV x) (w : World) (v : Value) (F : List Nat) (k0 : Int) (h0 : 0 ≤ k0) (hk : k0 + (sumBy cntV xs : Nat) ≤ 1099511627776) (hx : Arr w (VR w) xs v F) (hfr : Free w F) (hf : Under w.heap.size F) :
    Calls Try.prog 25 #[v, .int .i64 k0] w fun e w' => e = .returned (.int .i64 (k0 + (sumBy cntV xs : Nat))) ∧ Chg F w w' ∧ Arr w' (VR w') (mkS mkV cntV k0 xs) v F ∧ Free w' F := by
  have HX := Lib.hid (And.intro hx (And.intro hfr (Chg.refl F w)))
  obtain ⟨A, cap, rfl, hc1, hc2⟩ := hx.form
  have HF := Lib.hid hf
  have HK := Lib.hid hk
  have IH := Lib.hid ih
  clear hx hfr hf hk ih
  go_enter Try.func25, Try.ntmps25
  go_wp2
  go_loopw [1, 5] (fun kv iv wr => ∃ i : Nat, ∃ m : Int, i ≤ xs.length ∧ iv = .int .i64 i ∧ kv = .int .i64 m ∧ 0 ≤ m ∧ Hid (m = k0 + (sumBy cntV (xs.take i) : Nat)) ∧ Hid (Arr wr (VR wr) (mkTo mkV cntV k0 xs i) (.slice A xs.length cap) F ∧ Free wr F ∧ Chg F w wr)) (fun _ iv _ => xs.length - (intOf iv).toNat)
  case atStart => exact ⟨0, k0, Nat.zero_le _, rfl, rfl, h0, (by simp [Hid, sumBy]), HX⟩
  case round =>
    obtain ⟨i, m, hi, rfl, rfl, hm0, HM, HR⟩ := hrel
    by_cases hlt : i < xs.length
    · have g1 : (0 : Int) ≤ (i : Int) := by omega
      have g2 : (i : Int) < (xs.length : Int) := by omega
      obtain ⟨b, off, c, F1, F2, F3, cap', hv, hFe, hc, hr, hfr2, hnb, hbl, hfz, hu2, hclose⟩ := HR.out.1.focus (fun w => VR_len (w := w)) (fun w w' x cs G hk h => VR.mono (w := w) (w' := w') x cs G hk h) HR.out.2.1 (HF.out.mono HR.out.2.2.size) (i := i) (by rw [mkTo_length]; exact hlt)
      obtain rfl : A = some ⟨b, off, none⟩ := by injection hv
      rw [mkTo_get hlt] at hr

      have hsum : m + (cntV xs[i] : Nat) ≤ 1099511627776 := by
        have h1 := HM.out
        have h2 := HK.out
        have h3 := sumBy_take_le cntV xs (i + 1)
        rw [sumBy_take_succ cntV xs i hlt] at h3
        omega
      have HCl := Lib.hid hclose
      have HHv := Lib.hid hv
      have HFe := Lib.hid hFe
      clear hclose hv hFe
      obtain ⟨kv, rfl, ha⟩ := (VR_iff _ _ _).1 hr
      obtain ⟨A1, cap1, rfl, -, -⟩ := ha.form
      have hcd := cntV_def xs[i]
      rw [hcd] at hsum
      have x0 : wr.cell? ⟨b, off + i * 3, none⟩ = some (.int .i64 xs[i].c) := hc 0 _ rfl
      have x1 : wr.cell? ⟨b, off + i * 3 + 1, none⟩ = some (.int .i64 xs[i].n) := hc 1 _ rfl
      have x2 : wr.cell? ⟨b, off + i * 3 + 2, none⟩ = some (.slice A1 xs[i].ks.length cap1) := hc 2 _ rfl
      clear hc
      have HA := Lib.hid ha
      have HFr2 := Lib.hid hfr2
      have HU2 := Lib.hid hu2
      have HNB := Lib.hid hnb
      clear ha hfr2 hu2 hnb
      have hsn : (0 : Int) ≤ (sumBy cntV xs[i].ks : Nat) := by omega
      generalize hsg : sumBy cntV xs[i].ks = s at *
      have HSG := Lib.hid hsg
      have HCD := Lib.hid hcd
      clear hsg hcd
      have HFz := Lib.hid hfz
      clear hfz
      have U0 := Lib.hid (Upd.refl b (off + i * 3) 3 F2 wr)
      have K0 := Lib.hid (Kept.refl F2 wr)
      have z0 : wr.frozen? ⟨b, off + i * 3, none⟩ = false := (U0.out.froz _).trans (HFz.out _)
      have z1 : wr.frozen? ⟨b, off + i * 3 + 1, none⟩ = false := (U0.out.froz _).trans (HFz.out _)
      go_wp2_with fail
      have U1 := Lib.hid (U0.out.set (j := off + i * 3) (by omega) (by omega) (.int .i64 (m)))
      have K1 := Lib.hid (K0.out.set (b := b) (j := off + i * 3) (u := .int .i64 (m)) HNB.out)
      have y0 : (wr.setCell ⟨b, off + i * 3, none⟩ (.int .i64 (m))).cell? ⟨b, off + i * 3, none⟩ = some (.int .i64 (m)) := World.cell?_setCell_same _ _ _ x0
      have y1 := (World.cell?_setCell_other _ ⟨b, off + i * 3, none⟩ ⟨b, off + i * 3 + 1, none⟩ (.int .i64 (m)) (by intro e; injection e; omega)).trans x1
      have y2 := (World.cell?_setCell_other _ ⟨b, off + i * 3, none⟩ ⟨b, off + i * 3 + 2, none⟩ (.int .i64 (m)) (by intro e; injection e; omega)).trans x2
      clear x0 x1 x2
      have x0 := y0
      have x1 := y1
      have x2 := y2
      clear y0 y1 y2
      have U2 := Lib.hid (U1.out.set (j := off + i * 3 + 1) (by omega) (by omega) (.int .i64 (m + 1)))
      have K2 := Lib.hid (K1.out.set (b := b) (j := off + i * 3 + 1) (u := .int .i64 (m + 1)) HNB.out)
      have y0 := (World.cell?_setCell_other _ ⟨b, off + i * 3 + 1, none⟩ ⟨b, off + i * 3, none⟩ (.int .i64 (m + 1)) (by intro e; injection e; omega)).trans x0
      have y1 : ((wr.setCell ⟨b, off + i * 3, none⟩ (.int .i64 (m))).setCell ⟨b, off + i * 3 + 1, none⟩ (.int .i64 (m + 1))).cell? ⟨b, off + i * 3 + 1, none⟩ = some (.int .i64 (m + 1)) := World.cell?_setCell_same _ _ _ x1
      have y2 := (World.cell?_setCell_other _ ⟨b, off + i * 3 + 1, none⟩ ⟨b, off + i * 3 + 2, none⟩ (.int .i64 (m + 1)) (by intro e; injection e; omega)).trans x2
      clear x0 x1 x2
      have x0 := y0
      have x1 := y1
      have x2 := y2
      clear y0 y1 y2
      refine (IH.out _ (List.getElem_mem hlt) _ _ F2 (m + 1 + 1) (by omega) (by rw [HSG.out]; omega) (HA.out.mono K2.out (fun x _ cs G hk h => (fun w w' x cs G hk h => VR.mono (w := w) (w' := w') x cs G hk h) _ _ x cs G hk h)) (HFr2.out.kept K2.out) (HU2.out.mono U2.out.size)).mono ?_
      rintro e v1 ⟨rfl, hg1, hm1, hfr1⟩
      have hlE1 : b < ((wr.setCell ⟨b, off + i * 3, none⟩ (.int .i64 (m))).setCell ⟨b, off + i * 3 + 1, none⟩ (.int .i64 (m + 1))).heap.size := Nat.lt_of_lt_of_le hbl U2.out.size
      have U3 := Lib.hid (U2.out.sub hg1 HNB.out hlE1)
      have y0 := (World.cell?_of_block (w := ((wr.setCell ⟨b, off + i * 3, none⟩ (.int .i64 (m))).setCell ⟨b, off + i * 3 + 1, none⟩ (.int .i64 (m + 1)))) (a := ⟨b, off + i * 3, none⟩) (hg1.block b hlE1 HNB.out)).trans x0
      have y1 := (World.cell?_of_block (w := ((wr.setCell ⟨b, off + i * 3, none⟩ (.int .i64 (m))).setCell ⟨b, off + i * 3 + 1, none⟩ (.int .i64 (m + 1)))) (a := ⟨b, off + i * 3 + 1, none⟩) (hg1.block b hlE1 HNB.out)).trans x1
      have y2 := (World.cell?_of_block (w := ((wr.setCell ⟨b, off + i * 3, none⟩ (.int .i64 (m))).setCell ⟨b, off + i * 3 + 1, none⟩ (.int .i64 (m + 1)))) (a := ⟨b, off + i * 3 + 2, none⟩) (hg1.block b hlE1 HNB.out)).trans x2
      clear x0 x1 x2 z0 z1
      have x0 := y0
      have x1 := y1
      have x2 := y2
      clear y0 y1 y2
      have hb11 : b < v1.heap.size := Nat.lt_of_lt_of_le hbl U3.out.size
      have z0 : v1.frozen? ⟨b, off + i * 3, none⟩ = false := (U3.out.froz _).trans (HFz.out _)
      have z1 : v1.frozen? ⟨b, off + i * 3 + 1, none⟩ = false := (U3.out.froz _).trans (HFz.out _)
      have HMk := Lib.hid hm1
      have HFrk := Lib.hid hfr1
      have hgs1 := hg1.size
      clear hm1 hfr1 hg1 hlE1
      have K3 := Lib.hid (Kept.refl F2 v1)
      rw [HSG.out]
      have X0 := Lib.hid x0
      have X1 := Lib.hid x1
      have X2 := Lib.hid x2
      have hfin := HCl.out v1 (mkV m xs[i]) _ U3.out (CellsAt.cons X0.out (CellsAt.cons X1.out (CellsAt.cons X2.out (CellsAt.nil _ _ _)))) (by obtain rfl := HSG.out; rw [mkV_def]; exact (VR_iff _ _ _).2 ⟨_, rfl, (HMk.out.mono K3.out (fun x _ cs G hk h => (fun w w' x cs G hk h => VR.mono (w := w) (w' := w') x cs G hk h) _ _ x cs G hk h))⟩) (HFrk.out.kept K3.out)
      have hst : (mkTo mkV cntV k0 xs i).set i (mkV m xs[i]) = mkTo mkV cntV k0 xs (i + 1) := by rw [HM.out]; exact mkTo_step hlt
      rw [hst] at hfin
      clear hst
      have HFin := Lib.hid (And.intro hfin.1 (And.intro hfin.2.1 (HR.out.2.2.trans hfin.2.2)))
      clear hfin
      have HM2 : Hid (m + 1 + 1 + (s : Int) = k0 + (sumBy cntV (xs.take (i + 1)) : Nat)) := by
        have h1 := HM.out
        have h2 := HCD.out
        unfold Hid
        rw [sumBy_take_succ cntV xs i hlt]
        omega
      go_wp2
      go_roundw
      case rel => exact ⟨i + 1, m + 1 + 1 + (s : Int), by omega, by go_num, rfl, by omega, HM2, HFin.out⟩
      case measure => (simp [intOf] <;> omega)
    · have HEnd : Hid (Chg F w wr ∧ Arr wr (VR wr) (mkS mkV cntV k0 xs) (.slice A xs.length cap) F ∧ Free wr F) := by
        have h := HR.out
        rw [mkTo_all k0 xs (by omega)] at h
        exact ⟨h.2.2, h.1, h.2.1⟩
      have hf : Hid (m = k0 + (sumBy cntV xs : Nat)) := by
        have h := HM.out
        rwa [List.take_of_length_le (by omega)] at h
      go_wp2
      go_ret
      exact ⟨ret_int hf.out, HEnd.out⟩

theorem markV_all : ∀ x, MarkV x := V.ind fun a0 a1 ks ih w v F k0 h0 hk hx hfr hf => markValueS_of ks ih w v F k0 h0 hk hx hfr hf
theorem markValueS_any (xs : List V) (w : World) (v : Value) (F : List Nat) (k0 : Int) (h0 : 0 ≤ k0) (hk : k0 + (sumBy cntV xs : Nat) ≤ 1099511627776) (hx : Arr w (VR w) xs v F) (hfr : Free w F) (hf : Under w.heap.size F) :
    Calls Try.prog 25 #[v, .int .i64 k0] w fun e w' => e = .returned (.int .i64 (k0 + (sumBy cntV xs : Nat))) ∧ Chg F w w' ∧ Arr w' (VR w') (mkS mkV cntV k0 xs) v F ∧ Free w' F := markValueS_of xs (fun x _ => markV_all x) w v F k0 h0 hk hx hfr hf

def mkTopV (k : Int) (x : V) : V := ⟨x.c, x.n, mkS mkV cntV k x.ks⟩
end Go.Proofs.Ytilndhmegaccmaa

namespace Go.Proofs.Ytilndhmegaccmaa
open Go.RowKit

theorem cntsV_sum : ∀ ks : List V, (∀ k ∈ ks, cntV k = 2 * nodes k) → cntsV ks = 2 * V.sizes ks
  | [], _ => rfl
  | k :: ks, h => by
    rw [cntsV, cntsV_sum ks fun x hx => h x (List.mem_cons_of_mem _ hx), h k (by simp), V.sizes]
    unfold nodes
    omega
theorem cntV_nodes : ∀ v : V, cntV v = 2 * nodes v := V.ind fun c n ks ih => by
  rw [cntV, cntsV_sum ks ih, nodes_ks]
  simp only
  omega
theorem upto_bound (xs : List Dt) (t : Ty) (dp : Int) : sumBy cntV (uptoV xs t dp) ≤ 16777216 := by
  have h : ∀ l : List V, (∀ v ∈ l, nodes v ≤ 60) → sumBy cntV l ≤ l.length * 120 := by
    intro l
    induction l with
    | nil => intro _; simp [sumBy]
    | cons v l ih =>
      intro h
      rw [sumBy, List.length_cons, Nat.succ_mul, cntV_nodes]
      have h1 := h v (by simp)
      have h2 := ih fun x hx => h x (by simp [hx])
      omega
  have h1 := h (uptoV xs t dp) (fun v hv => uptoV_small hv)
  have h2 := uptoV_len xs t dp
  have h3 : (uptoV xs t dp).length * 120 ≤ 400 * 120 := Nat.mul_le_mul_right _ h2
  omega
end Go.Proofs.Ytilndhmegaccmaa

namespace Go.Proofs.Ytilndhmegaccmaa
open Go.RowKit

theorem V.size_sizes (v : V) : v.size = V.sizes v.ks := by
  obtain ⟨c, n, ks⟩ := v
  rw [V.size]
theorem P.size_sizes (p : P) : p.size = P.sizes p.ks := by
  obtain ⟨op, c, n, m, a, ks⟩ := p
  rw [P.size]
end Go.Proofs.Ytilndhmegaccmaa

namespace Go.Proofs.Ytilndhmegaccmaa
open Go.RowKit

def cntTy (x : Ty) : Nat := 2
def mkTy (k : Int) (x : Ty) : Ty := ⟨k, k + 1⟩
theorem cntTy_def (x : Ty) : cntTy x = 2 := rfl

theorem cntsTy_len (xs : List Ty) : sumBy cntTy xs = 2 * xs.length := by
  induction xs with
  | nil => rfl
  | cons x xs ih => simp only [sumBy, ih, List.length_cons, cntTy]; omega

set_option maxRecDepth 100000 in
set_option maxHeartbeats 1600000 in
theorem markTypeS_any (xs : List Ty) (w : World) (v : Value) (F : List Nat) (k0 : Int) (h0 : 0 ≤ k0) (hk : k0 + (sumBy cntTy xs : Nat) ≤ 1099511627776) (hx : Arr w (TyR w) xs v F) (hfr : Free w F) (hf : Under w.heap.size F) :
    Calls Try.prog 119 #[v, .int .i64 k0] w fun e w' => e = .returned (.int .i64 (k0 + (sumBy cntTy xs : Nat))) ∧ Chg F w w' ∧ Arr w' (TyR w') (mkS mkTy cntTy k0 xs) v F ∧ Free w' F := by
  have HX := Lib.hid (And.intro hx (And.intro hfr (Chg.refl F w)))
  obtain ⟨A, cap, rfl, hc1, hc2⟩ := hx.form
  have HF := Lib.hid hf
  have HK := Lib.hid hk

  clear hx hfr hf hk
  go_enter Try.func119, Try.ntmps119
  go_wp2
  go_loopw [1, 5] (fun kv iv wr => ∃ i : Nat, ∃ m : Int, i ≤ xs.length ∧ iv = .int .i64 i ∧ kv = .int .i64 m ∧ 0 ≤ m ∧ Hid (m = k0 + (sumBy cntTy (xs.take i) : Nat)) ∧ Hid (Arr wr (TyR wr) (mkTo mkTy cntTy k0 xs i) (.slice A xs.length cap) F ∧ Free wr F ∧ Chg F w wr)) (fun _ iv _ => xs.length - (intOf iv).toNat)
  case atStart => exact ⟨0, k0, Nat.zero_le _, rfl, rfl, h0, (by simp [Hid, sumBy]), HX⟩
  case round =>
    obtain ⟨i, m, hi, rfl, rfl, hm0, HM, HR⟩ := hrel
    by_cases hlt : i < xs.length
    · have g1 : (0 : Int) ≤ (i : Int) := by omega
      have g2 : (i : Int) < (xs.length : Int) := by omega
      obtain ⟨b, off, c, F1, F2, F3, cap', hv, hFe, hc, hr, hfr2, hnb, hbl, hfz, hu2, hclose⟩ := HR.out.1.focus (fun w => TyR_len (w := w)) (fun w w' x cs G hk h => TyR.mono (w := w) (w' := w') x cs G hk h) HR.out.2.1 (HF.out.mono HR.out.2.2.size) (i := i) (by rw [mkTo_length]; exact hlt)
      obtain rfl : A = some ⟨b, off, none⟩ := by injection hv
      rw [mkTo_get hlt] at hr

      have hsum : m + (cntTy xs[i] : Nat) ≤ 1099511627776 := by
        have h1 := HM.out
        have h2 := HK.out
        have h3 := sumBy_take_le cntTy xs (i + 1)
        rw [sumBy_take_succ cntTy xs i hlt] at h3
        omega
      have HCl := Lib.hid hclose
      have HHv := Lib.hid hv
      have HFe := Lib.hid hFe
      clear hclose hv hFe
      obtain ⟨rfl, rfl⟩ := hr
      have hcd := cntTy_def xs[i]
      rw [hcd] at hsum
      have x0 : wr.cell? ⟨b, off + i * 2, none⟩ = some (.int .i64 xs[i].d) := hc 0 _ rfl
      have x1 : wr.cell? ⟨b, off + i * 2 + 1, none⟩ = some (.int .i64 xs[i].i) := hc 1 _ rfl
      clear hc
      have HFr2 := Lib.hid hfr2
      have HU2 := Lib.hid hu2
      have HNB := Lib.hid hnb
      have HCD := Lib.hid hcd
      clear hfr2 hu2 hnb hcd
      have HFz := Lib.hid hfz
      clear hfz
      have U0 := Lib.hid (Upd.refl b (off + i * 2) 2 [] wr)
      have K0 := Lib.hid (Kept.refl [] wr)
      have z0 : wr.frozen? ⟨b, off + i * 2, none⟩ = false := (U0.out.froz _).trans (HFz.out _)
      have z1 : wr.frozen? ⟨b, off + i * 2 + 1, none⟩ = false := (U0.out.froz _).trans (HFz.out _)
      have X0 := Lib.hid x0
      have X1 := Lib.hid x1
      have U1 := Lib.hid (U0.out.set (j := off + i * 2) (by omega) (by omega) (.int .i64 (m)))
      have Y0 := Lib.hid (show (wr.setCell ⟨b, off + i * 2, none⟩ (.int .i64 (m))).cell? ⟨b, off + i * 2, none⟩ = some (.int .i64 (m)) from World.cell?_setCell_same _ _ _ X0.out)
      have Y1 := Lib.hid ((World.cell?_setCell_other _ ⟨b, off + i * 2, none⟩ ⟨b, off + i * 2 + 1, none⟩ (.int .i64 (m)) (by intro e; injection e; omega)).trans X1.out)
      clear X0 X1
      have X0 := Y0
      have X1 := Y1
      clear Y0 Y1
      have U2 := Lib.hid (U1.out.set (j := off + i * 2 + 1) (by omega) (by omega) (.int .i64 (m + 1)))
      have Y0 := Lib.hid ((World.cell?_setCell_other _ ⟨b, off + i * 2 + 1, none⟩ ⟨b, off + i * 2, none⟩ (.int .i64 (m + 1)) (by intro e; injection e; omega)).trans X0.out)
      have Y1 := Lib.hid (show ((wr.setCell ⟨b, off + i * 2, none⟩ (.int .i64 (m))).setCell ⟨b, off + i * 2 + 1, none⟩ (.int .i64 (m + 1))).cell? ⟨b, off + i * 2 + 1, none⟩ = some (.int .i64 (m + 1)) from World.cell?_setCell_same _ _ _ X1.out)
      clear X0 X1
      have X0 := Y0
      have X1 := Y1
      clear Y0 Y1
      have hfin := HCl.out ((wr.setCell ⟨b, off + i * 2, none⟩ (.int .i64 (m))).setCell ⟨b, off + i * 2 + 1, none⟩ (.int .i64 (m + 1))) (mkTy m xs[i]) _ U2.out (CellsAt.cons X0.out (CellsAt.cons X1.out (CellsAt.nil _ _ _))) (⟨rfl, rfl⟩) (Free.nil _)
      have hst : (mkTo mkTy cntTy k0 xs i).set i (mkTy m xs[i]) = mkTo mkTy cntTy k0 xs (i + 1) := by rw [HM.out]; exact mkTo_step hlt
      rw [hst] at hfin
      clear hst
      have HFin := Lib.hid (And.intro hfin.1 (And.intro hfin.2.1 (HR.out.2.2.trans hfin.2.2)))
      clear hfin
      have HM2 : Hid (m + 1 + 1 = k0 + (sumBy cntTy (xs.take (i + 1)) : Nat)) := by
        have h1 := HM.out
        have h2 := HCD.out
        unfold Hid
        rw [sumBy_take_succ cntTy xs i hlt]
        omega
      go_wp2
      go_roundw
      case rel => exact ⟨i + 1, m + 1 + 1, by omega, by go_num, rfl, by omega, HM2, HFin.out⟩
      case measure => (simp [intOf] <;> omega)
    · have HEnd : Hid (Chg F w wr ∧ Arr wr (TyR wr) (mkS mkTy cntTy k0 xs) (.slice A xs.length cap) F ∧ Free wr F) := by
        have h := HR.out
        rw [mkTo_all k0 xs (by omega)] at h
        exact ⟨h.2.2, h.1, h.2.1⟩
      have hf : Hid (m = k0 + (sumBy cntTy xs : Nat)) := by
        have h := HM.out
        rwa [List.take_of_length_le (by omega)] at h
      go_wp2
      go_ret
      exact ⟨ret_int hf.out, HEnd.out⟩
end Go.Proofs.Ytilndhmegaccmaa
