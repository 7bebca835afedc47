/-
  FnExactParseWorld: for every argument the law returns true; the card. Conditions: the listed package-level variables hold what the card ties to the program's text.
-/
import Derived.Test.YtjjclcmmfeegfaaGreatDoorJAC
import Derived.Test.YtjjclcmmfeegfaaGreatDoorJAD
import Derived.Test.YtjjclcmmfeegfaaGreatDoorJAE
import Derived.Deep.RegionWith
import Derived.Deep.RegionHeld3
import Derived.BigQuiet
import Derived.Test.YtjjclcmmfeegfaaGreatDoorRows
import Derived.Test.YtjjclcmmfeegfaaGreatDoorCards
import Derived.Test.YtjjclcmmfeegfaaGreatDoorTie
import Derived.ProofKit
import Derived.LaidMore
import Derived.Lay
import Derived.OpenShut
import Derived.ShutString
import Derived.ChangeOld
import Derived.Below
import Derived.SevenTiedAt

set_option linter.unusedVariables false
set_option linter.unusedSimpArgs false
set_option maxRecDepth 100000
set_option maxHeartbeats 1600000

namespace Go.Proofs.YtjjclcmmfeegfaaGreatDoor.fnExactParseWorld
open Go.RowKit
theorem sumBy_leD {α:Type} (f:α→Nat) (n:Nat):∀ (l:List α),(∀ x∈l,f x≤n)→sumBy f l≤l.length*n
 |[],_=>Nat.zero_le _
 |x :: l,h=>by
  have h1:=sumBy_leD f n l (fun y hy=>h y (by simp [hy]))
  have h2:=h x (by simp)
  simp only [sumBy,List.length_cons,Nat.succ_mul]
  omega
theorem parseB_cnt (text:ByteArray):sumBy cntDt ((parseB text).getD [])≤16777216:=by
 cases e:parseB text with
 |none=>exact Nat.zero_le _
 |some ys =>
  obtain ⟨-,h2,-⟩:=parseB_of e
  have hw:=worldOK h2
  have hk:∀ x∈ys,cntDt x≤33:=fun x hx=>by
   have hd:=hw.all x hx
   have hc:∀ c∈x.ctors,cntKt c≤8:=fun c hc=>by
    have h3:=(hd.all c hc).args
    have h4:sumBy cntTy c.args≤c.args.length*2:=sumBy_leD _ _ _ (fun _ _=>zz8 _)
    show 2+sumBy cntTy c.args≤8
    omega
   have h5:=sumBy_leD cntKt 8 x.ctors hc
   have h6:=hd.hi
   show 1+sumBy cntKt x.ctors≤33
   omega
  have h7:=sumBy_leD cntDt 33 ys hk
  have h8:=hw.len
  show sumBy cntDt ys≤_
  omega
set_option maxHeartbeats 3200000 in
theorem walk {W:World} (x0:ByteArray) (hx0:x0.size≤maxLen) (hv:VarsOK W) (w:World) (hw:w=W) :
  Calls Tryz.prog 4 #[.string x0] w fun e w'=>e=.returned (.bool true)∧Below w w w':=by
 subst hw
 have HV:=jj hv
 clear hv
 go_enter Tryz.func4,Tryz.ntmps4
 by_cases hs:x0.size≤1048576
 ·have t0:decide ((x0.size:Int)>1048576)=false:=decide_eq_false (by omega)
  have t0':decide ((1048576:Int)<(x0.size:Int))=false:=decide_eq_false (by omega)
  go_wp2_with fail
  refine (spec_ParseWorld x0 (by omega) w).mono ?_
  rintro e w1 ⟨v1,F1,rfl,hB1,ha1,-,hs1⟩
  obtain ⟨r0,hr0⟩:∃ r,r=(parseB x0).getD []:=⟨_,rfl⟩
  obtain ⟨rb,hrb⟩:∃ r,r=(parseB x0).isSome:=⟨_,rfl⟩
  rw [←hr0] at ha1
  rw [←hrb]
  have HR:=jj hr0
  have HB:=jj hrb
  have hcn:sumBy cntDt r0≤16777216:=by rw [hr0];exact parseB_cnt x0
  clear hr0 hrb
  obtain ⟨A1,cap1,rfl,-,-⟩:=ha1.form
  have X1:=jj ha1
  have U1:=jj hs1.under
  clear ha1 hs1
  go_wp2_with fail
  refine (impl_ParseWorld x0 hs w1 (HV.out.below hB1)).mono ?_
  rintro e w2 ⟨v2,F2,rfl,hb2,ha2,hf2,hs2⟩
  rw [←HR.out] at ha2
  rw [←HB.out]
  obtain ⟨A2,cap2,rfl,-,-⟩:=ha2.form
  have hB2:=hB1.trans (hb2.mono hB1.size)
  have X1b:=jj (ArrDt.below X1.out hb2 U1.out)
  have U1b:=jj (U1.out.mono hb2.size)
  have X2:=jj ha2
  have Z2:=jj hf2
  have U2:=jj hs2.under
  have N2:Hid (∀ b∈F2,w.heap.size≤b):=fun b hb=>Nat.le_trans hB1.size (hs2 b hb).1
  have D2:Hid (∀ b∈F1,b∉F2):=fun b h1 h2=>Nat.lt_irrefl _ (zz9 (U1.out b h1) (hs2 b h2).1)
  have hneb:(rb != rb)=false:=by simp
  clear ha2 hf2 hs2 X1 U1
  go_wp2_with fail
  refine (eqDataS_any r0 w2 F2 F1 _ _ X2.out X1b.out U2.out U1b.out).mono ?_
  rintro e w3 ⟨rfl,hb3⟩
  have hB3:=hB2.trans (hb3.mono hB2.size)
  have X1c:=jj (ArrDt.below X1b.out hb3 U1b.out)
  have U1c:=jj (U1b.out.mono hb3.size)
  have X2c:=jj (ArrDt.below X2.out hb3 U2.out)
  have Z2c:=jj (Z2.out.kept (.of_below hb3 U2.out))
  have U2c:=jj (U2.out.mono hb3.size)
  clear X1b U1b X2 Z2 U2
  go_wp2_with fail
  refine (markDataS_any r0 w3 _ F2 1 (by omega) (by omega) X2c.out Z2c.out U2c.out).mono ?_
  rintro e w4 ⟨rfl,hg4,hm4,-⟩
  have hb34:=hg4.below N2.out hB3.size
  have hB4:=hB3.trans hb34
  have X1d:=jj (ArrDt.mono X1c.out (hg4.kept U1c.out D2.out))
  have U1d:=jj (U1c.out.mono hg4.size)
  have X2d:=jj hm4
  have U2d:=jj (U2c.out.mono hg4.size)
  clear X1c U1c X2c Z2c U2c hm4
  have hkp:¬((1:Int)+(sumBy cntDt r0:Nat)<0):=by omega
  go_wp2_with fail
  refine (heldDataS_any r0 w4 _ F2 1 (by omega) (by omega) X2d.out U2d.out).mono ?_
  rintro e w5 ⟨rfl,hb5⟩
  have hB5:=hB4.trans (hb5.mono hB4.size)
  have X1e:=jj (ArrDt.below X1d.out hb5 U1d.out)
  have U1e:=jj (U1d.out.mono hb5.size)
  have X2e:=jj (ArrDt.below X2d.out hb5 U2d.out)
  have U2e:=jj (U2d.out.mono hb5.size)
  clear X1d U1d X2d U2d
  go_wp2_with fail
  refine (impl_ParseWorld x0 hs w5 (HV.out.below hB5)).mono ?_
  rintro e w6 ⟨v6,F6,rfl,hb6,ha6,-,hs6⟩
  rw [←HR.out] at ha6
  rw [←HB.out]
  obtain ⟨A6,cap6,rfl,-,-⟩:=ha6.form
  have hB6:=hB5.trans (hb6.mono hB5.size)
  have X1f:=jj (ArrDt.below X1e.out hb6 U1e.out)
  have U1f:=jj (U1e.out.mono hb6.size)
  have X2f:=jj (ArrDt.below X2e.out hb6 U2e.out)
  have U2f:=jj (U2e.out.mono hb6.size)
  have X6:=jj ha6
  have U6:=jj hs6.under
  clear X1e U1e X2e U2e ha6 hs6
  go_wp2_with fail
  refine (eqDataS_any r0 w6 F6 F1 _ _ X6.out X1f.out U6.out U1f.out).mono ?_
  rintro e w7 ⟨rfl,hb7⟩
  have hB7:=hB6.trans (hb7.mono hB6.size)
  have X2g:=jj (ArrDt.below X2f.out hb7 U2f.out)
  have U2g:=jj (U2f.out.mono hb7.size)
  clear X1f U1f X2f U2f X6 U6
  go_wp2_with fail
  refine (heldDataS_any r0 w7 _ F2 1 (by omega) (by omega) X2g.out U2g.out).mono ?_
  rintro e w8 ⟨rfl,hb8⟩
  have hB8:=hB7.trans (hb8.mono hB7.size)
  clear X2g U2g
  go_wp2
  go_ret
  exact ⟨rfl,hB8⟩
 ·have t0:decide ((x0.size:Int)>1048576)=true:=decide_eq_true (by omega)
  have t0':decide ((1048576:Int)<(x0.size:Int))=true:=decide_eq_true (by omega)
  go_wp2
  go_ret
  exact ⟨rfl,zy2 _ _⟩
end Go.Proofs.YtjjclcmmfeegfaaGreatDoor.fnExactParseWorld
namespace Go.Proofs.YtjjclcmmfeegfaaGreatDoor.fnExactParseWorld
open Go.ChangeShapes Go.WideShapes Go.ChangeAt Go.RowKit
open Go.ChangeMaps (open_string shut_string)
set_option linter.unusedVariables false

theorem own : ownKnob Tryz.prog.godebug = none := by kernel_rfl
theorem laidOut : laidOutB Tryz.prog = true := by kernel_rfl
theorem door_met (os : Os) (args : Array Value) : laidMetH Tryz.prog Rows.fnExactParseWorldRow.laid ((World.laidAll Tryz.prog os Rows.fnExactParseWorldRow.laid).forCall (fun _ _ => 0) ⟨#[], args, []⟩).memory := by
  unfold laidMetH
  rw [show (Rows.fnExactParseWorldRow.laid.filter fun x => x.2.handleName?.isSome) = [] by kernel_rfl]
  exact laidMet_laidAll _ (by kernel_rfl) (by kernel_rfl)

set_option maxRecDepth 100000 in
theorem lifted (os : Os) (started : os.Started) (H : Type) (enc : TypeId × Value → H) :
    ReturnsInHanded {} Tryz.checked os 4 .any (fun w args => (Rows.fnExactParseWorldSpec.pre enc Tryz.prog Tryz.f4 [] false w args ∧ laidMetH Tryz.prog Rows.fnExactParseWorldRow.laid w) ∧ sizedMet enc Tryz.prog Tryz.f4 (OpenSpec.ofChange Rows.fnExactParseWorldSpec) false w args)
      (Rows.fnExactParseWorldSpec.post enc Tryz.prog Tryz.f4 false true false false) := by
  refine lift_shaped (C := Tryz.checked) (X := fun w _ => laidMetH Tryz.prog Rows.fnExactParseWorldRow.laid w) (fun _ _ _ hh h => h.of_heap hh) own started (by kernel_rfl) Tryz.func4
    (ChangeSpec.witness_shaped (enc := enc) (C := Tryz.checked) (os := os) (X := fun w _ => laidMetH Tryz.prog Rows.fnExactParseWorldRow.laid w) false (World.laidAll Tryz.prog os Rows.fnExactParseWorldRow.laid) #[.string ByteArray.empty] 8 (World.laidAll_os _ _ _) (World.shaped_of_ZipB (by kernel_rfl) (by kernel_rfl)) (by kernel_rfl) (by kernel_rfl) (by kernel_rfl) (door_met os _)) ?_
  intro W base args ds gs before hval0 hW hX0 hsh0
  have hvo := vars_shaped hsh0 hX0 (by kernel_rfl) (j := 5) (k := 4) rfl rfl
  have hval : ∀ (j : Nat) t v, Tryz.f4.params[j]? = some t → args[j]? = some v → Value.okWide Tryz.prog W .any base t v := hval0
  have hW' := hW
  obtain ⟨p, q, hA0, hV, rfl, hfz, hnd⟩ := hW
  have hA : DataW.TrodAll enc Tryz.prog W 0 (fun _ => true) true Tryz.f4.params.toList args.toList ds p := hA0
  rw [Tryz.params4] at hA hval
  obtain ⟨v0, vs0, d0, ds0, p0, q0, hargs, rfl, rfl, h0, r0⟩ := trodAll_cons hA
  obtain ⟨rfl, rfl, rfl⟩ := trodAll_nil r0
  obtain rfl : args = #[v0] := by cases args; simp_all
  obtain ⟨rfl, rfl⟩ := trodVars_none hV
  have k0 := h0
  have lt0 : ∀ x ∈ p0, x.block < W.heap.size := by obtain ⟨m, hm⟩ := k0; exact DataW.trod_lt m _ _ _ hm
  obtain ⟨a0, rfl, rfl, rfl, w0⟩ := open_string Tryz.underlying9 (hval 0 9 v0 rfl rfl) h0
  clear hA0 hval0
  refine (walk a0 w0 hvo W rfl).mono fun e W' ⟨he, bel⟩ => ?_
  subst he
  exact ⟨_, rfl, _, _, _, [], _, [], hW', trodAll_mk1 (shut_bool Tryz.underlying4 _), (trodAll_cons_mk (Below.trod laidOut (by kernel_rfl) (of_decide_eq_true (by kernel_rfl)) k0 bel lt0) trodAll_mk0), rfl, bel.frame _, fun h => by cases h⟩

theorem over : Rows.fnExactParseWorldRow.holds Tryz.pinned (OpenSpec.ofChange Rows.fnExactParseWorldSpec) :=
  OpenClaim.holds_of_wide 4 Tryz.f4 rfl rfl rfl rfl rfl rfl rfl ⟨rfl, rfl, rfl, rfl, rfl⟩ rfl rfl rfl rfl rfl (by kernel_rfl) Tryz.func4 (by kernel_rfl)
    (of_decide_eq_true (by kernel_rfl)) (by unfold Func.isWrapper; first | (rw [if_pos (by decide +kernel)]; kernel_rfl) | (rw [if_neg (by decide +kernel)]; exact ⟨rfl, rfl⟩))
    (fun os started H enc _ => lifted os started H enc)

theorem proved : Rows.FnExactParseWorldCardSaid :=
  Claim7.holds_tied_plain_at .later _ _ _ _ _
    over (fun _ h => by cases h) (by kernel_rfl) (fun _ h => by cases h) fnExactParseWorld_row_tie rfl ⟨rfl, rfl⟩ (by kernel_rfl) rfl
    (fun f fn hf hfn => by
      obtain rfl : f = 4 := Option.some.inj ((show Tryz.prog.funcNamed "loop.example/matchcompiler/laws.FnExactParseWorld" = some 4 by kernel_rfl).symm.trans hf) |>.symm
      obtain rfl : fn = Tryz.f4 := (Option.some.inj (Tryz.func4.symm.trans hfn)).symm
      exact ⟨by kernel_rfl, fun j t ht => by
        rw [Tryz.params4] at ht
        have hm : t ∈ [9] := by simpa using Array.mem_of_getElem? ht
        have hall : ([9].all fun u => !Tryz.prog.wantsStandIn u) = true := by kernel_rfl
        exact (show Tryz.prog.wantsStandIn t = false by simpa using List.all_eq_true.1 hall t hm)⟩)
    (by kernel_rfl)
end Go.Proofs.YtjjclcmmfeegfaaGreatDoor.fnExactParseWorld
