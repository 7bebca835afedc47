/-
  FnPatternUnique: for every argument the law returns true; the card. Conditions: the listed package-level variables hold what the card ties to the program's text.
-/
import Derived.Test.YtjjclcmmfeegfaaGreatDoorJAJ
import Derived.Test.YtjjclcmmfeegfaaGreatDoorJAO
import Derived.Test.YtjjclcmmfeegfaaGreatDoorJAK
import Derived.Deep.RegionWith
import Derived.Deep.RegionHeld3
import Derived.BigQuiet
import Derived.Test.YtjjclcmmfeegfaaGreatDoorRows
import Derived.Test.YtjjclcmmfeegfaaGreatDoorCards
import Derived.Test.YtjjclcmmfeegfaaGreatDoorTie
import Derived.ProofKit
import Derived.LaidMore
import Derived.OpenShut
import Derived.ShutString
import Derived.ChangeOld
import Derived.Below
import Derived.SevenTiedAt

set_option linter.unusedVariables false
set_option linter.unusedSimpArgs false
set_option maxRecDepth 100000
set_option maxHeartbeats 1600000

namespace Go.Proofs.YtjjclcmmfeegfaaGreatDoor.fnPatternUnique
open Go.RowKit
set_option maxHeartbeats 6400000 in
theorem walk {W:World} (x0:List Int) (v0:Value) (F0:List Nat) (hR0:Arr W (ByR W) x0 v0 F0) (hU0:Under W F0) (x1:List Int) (v1:Value) (F1:List Nat) (hR1:Arr W (ByR W) x1 v1 F1) (hU1:Under W F1) (w:World) (hw:w=W) :
  Calls Tryz.prog 3 #[v0,v1] w fun e w'=>e=.returned (.bool true)∧Below w w w':=by
 subst hw
 obtain ⟨A0,cap0,rfl,-,-⟩:=hR0.form
 have HR0:=jj hR0
 have HU0:=jj hU0
 clear hR0 hU0
 obtain ⟨A1,cap1,rfl,-,-⟩:=hR1.form
 have HR1:=jj hR1
 have HU1:=jj hU1
 clear hR1 hU1
 by_cases hlen:1048576<x0.length
 ·have t0:decide ((x0.length:Int)>1048576)=true:=decide_eq_true (by omega)
  go_enter Tryz.func3,Tryz.ntmps3
  go_wp2
  go_ret
  exact ⟨rfl,zy2 _ _⟩
 have t0:decide ((x0.length:Int)>1048576)=false:=decide_eq_false (by omega)
 by_cases hlen1:1048576<x1.length
 ·have t1:decide ((x1.length:Int)>1048576)=true:=decide_eq_true (by omega)
  go_enter Tryz.func3,Tryz.ntmps3
  go_wp2
  go_ret
  exact ⟨rfl,zy2 _ _⟩
 have t1:decide ((x1.length:Int)>1048576)=false:=decide_eq_false (by omega)
 go_enter Tryz.func3,Tryz.ntmps3
 go_wp2_with fail
 refine (spec_DrawFormatPattern x0 w _ F0 HR0.out HU0.out).mono ?_
 rintro e w1 ⟨xs,v1,FX,t,a,csa,FA,rfl,hb1,hx,hfx,hpa,hfa,hna⟩
 obtain ⟨kva,rfl,haa⟩:=(zA3 _ _ _).1 hpa
 obtain ⟨aA,acap,rfl,-,-⟩:=haa.form
 obtain ⟨xA,xcap,rfl,-,-⟩:=hx.form
 have HSZ:Hid (a.size≤1048576):=by unfold nodesP at hna;unfold Hid;omega
 have hb2:Below w1 w1 ((w1.alloc (.cells #[t.d,t.i] 25)).alloc (.cells #[a.op,a.ct,a.n,a.m,a.va,.slice aA a.ks.length acap] 28)):=((zy2 _ _).alloc (zz8 _) _).alloc (by simp) _
 have hB2:Below w w ((w1.alloc (.cells #[t.d,t.i] 25)).alloc (.cells #[a.op,a.ct,a.n,a.m,a.va,.slice aA a.ks.length acap] 28)):=hb1.trans (hb2.mono hb1.size)
 have KT2:Hid (Blk ((w1.alloc (.cells #[t.d,t.i] 25)).alloc (.cells #[a.op,a.ct,a.n,a.m,a.va,.slice aA a.ks.length acap] 28)) w1.heap.size 25 #[t.d,t.i]):=(Blk.new w1 _ _).same (Below.heap_alloc _ _ _ (by simp))
 have KA2:Hid (Blk ((w1.alloc (.cells #[t.d,t.i] 25)).alloc (.cells #[a.op,a.ct,a.n,a.m,a.va,.slice aA a.ks.length acap] 28)) (w1.heap.size+1) 28 #[a.op,a.ct,a.n,a.m,a.va,.slice aA a.ks.length acap]):=zA9 w1 _ 28 _
 have HX2:=jj (ArrDt.below hx hb2 hfx.under)
 have UX2:Hid (Under (((w1.alloc (.cells #[t.d,t.i] 25)).alloc (.cells #[a.op,a.ct,a.n,a.m,a.va,.slice aA a.ks.length acap] 28))).heap.size FX):=hfx.under.mono hb2.size
 have HA2:=jj (hpa.below hb2 hfa.under)
 have UA2:Hid (Under (((w1.alloc (.cells #[t.d,t.i] 25)).alloc (.cells #[a.op,a.ct,a.n,a.m,a.va,.slice aA a.ks.length acap] 28))).heap.size FA):=hfa.under.mono hb2.size
 have HR2:Hid (Arr ((w1.alloc (.cells #[t.d,t.i] 25)).alloc (.cells #[a.op,a.ct,a.n,a.m,a.va,.slice aA a.ks.length acap] 28)) (ByR ((w1.alloc (.cells #[t.d,t.i] 25)).alloc (.cells #[a.op,a.ct,a.n,a.m,a.va,.slice aA a.ks.length acap] 28))) x1 (.slice A1 x1.length cap1) F1):=ArrBy.mono HR1.out (.of_below hB2 HU1.out)
 have HU2:Hid (Under (((w1.alloc (.cells #[t.d,t.i] 25)).alloc (.cells #[a.op,a.ct,a.n,a.m,a.va,.slice aA a.ks.length acap] 28))).heap.size F1):=HU1.out.mono hB2.size
 clear hx hfx hpa hfa hna haa hb1 hb2 HR0 HU0 HR1 HU1
 go_wp2_with fail
 obtain ⟨w2,hw2⟩:∃ X,X=((w1.alloc (.cells #[t.d,t.i] 25)).alloc (.cells #[a.op,a.ct,a.n,a.m,a.va,.slice aA a.ks.length acap] 28)):=⟨_,rfl⟩
 rw [←hw2] at hB2 KT2 KA2 HX2 UX2 HA2 UA2 HR2 HU2 ⊢
 clear hw2
 obtain ⟨cT0,cT1,lT⟩:=KT2.out.c2
 obtain ⟨cA0,cA1,cA2,cA3,cA4,cA5,lA⟩:=KA2.out.c6
 go_wp2_with fail
 clear cT0 cT1 lT cA0 cA1 cA2 cA3 cA4 cA5 lA
 refine (impl_FormatPattern xs t a HSZ.out w2 _ FX _ FA HX2.out UX2.out HA2.out UA2.out).mono ?_
 rintro e w3 ⟨rfl,hb3⟩
 have hB3:=hB2.trans (hb3.mono hB2.size)
 have KT3:=jj (KT2.out.same (hb3.block _ KT2.out.lt))
 have KA3:=jj (KA2.out.same (hb3.block _ KA2.out.lt))
 have HX3:=jj (ArrDt.below HX2.out hb3 UX2.out)
 have UX3:=jj (UX2.out.mono hb3.size)
 have HA3:=jj (HA2.out.below hb3 UA2.out)
 have UA3:=jj (UA2.out.mono hb3.size)
 have HR3:Hid (Arr w3 (ByR w3) x1 (.slice A1 x1.length cap1) F1):=ArrBy.mono HR2.out (.of_below hb3 HU2.out)
 have HU3:=jj (HU2.out.mono hb3.size)
 clear hB2 hb3 KT2 KA2 HX2 UX2 HA2 UA2 HR2 HU2
 obtain ⟨s,hs⟩:∃ s,fmtP xs t a=s:=⟨_,rfl⟩
 rw [hs]
 have HS:=jj hs
 clear hs
 go_wp2_with fail
 refine (spec_DrawFormatPattern x1 w3 _ F1 HR3.out HU3.out).mono ?_
 rintro e w4 ⟨ys,v2,FY,u,q,csq,FQ,rfl,hb4,-,-,hpq,hfq,hnq⟩
 obtain ⟨kvq,rfl,hqq⟩:=(zA3 _ _ _).1 hpq
 obtain ⟨qA,qcap,rfl,-,-⟩:=hqq.form
 have HSQ:Hid (q.size≤1048576):=by unfold nodesP at hnq;unfold Hid;omega
 have hbn:Below w4 w4 ((w4.alloc (.cells #[u.d,u.i] 25)).alloc (.cells #[q.op,q.ct,q.n,q.m,q.va,.slice qA q.ks.length qcap] 28)):=((zy2 _ _).alloc (zz8 _) _).alloc (by simp) _
 have hb5:Below w3 w3 ((w4.alloc (.cells #[u.d,u.i] 25)).alloc (.cells #[q.op,q.ct,q.n,q.m,q.va,.slice qA q.ks.length qcap] 28)):=hb4.trans (hbn.mono hb4.size)
 have hB5:Below w w ((w4.alloc (.cells #[u.d,u.i] 25)).alloc (.cells #[q.op,q.ct,q.n,q.m,q.va,.slice qA q.ks.length qcap] 28)):=hB3.trans (hb5.mono hB3.size)
 have KQ5:Hid (Blk ((w4.alloc (.cells #[u.d,u.i] 25)).alloc (.cells #[q.op,q.ct,q.n,q.m,q.va,.slice qA q.ks.length qcap] 28)) (w4.heap.size+1) 28 #[q.op,q.ct,q.n,q.m,q.va,.slice qA q.ks.length qcap]):=zA9 w4 _ 28 _
 have HQ5:=jj (hpq.below hbn hfq.under)
 have UQ5:Hid (Under (((w4.alloc (.cells #[u.d,u.i] 25)).alloc (.cells #[q.op,q.ct,q.n,q.m,q.va,.slice qA q.ks.length qcap] 28))).heap.size FQ):=hfq.under.mono hbn.size
 have KT5:=jj (KT3.out.same (hb5.block _ KT3.out.lt))
 have KA5:=jj (KA3.out.same (hb5.block _ KA3.out.lt))
 have HX5:=jj (ArrDt.below HX3.out hb5 UX3.out)
 have UX5:=jj (UX3.out.mono hb5.size)
 have HA5:=jj (HA3.out.below hb5 UA3.out)
 have UA5:=jj (UA3.out.mono hb5.size)
 clear hpq hfq hnq hqq hb4 hb5 hbn hB3 KT3 KA3 HX3 UX3 HA3 UA3 HR3 HU3
 obtain ⟨cT0,cT1,lT⟩:=KT5.out.c2
 obtain ⟨cA0,cA1,cA2,cA3,cA4,cA5,lA⟩:=KA5.out.c6
 go_wp2_with fail
 clear cT0 cT1 lT cA0 cA1 cA2 cA3 cA4 cA5 lA
 obtain ⟨w5,hw5⟩:∃ X,X=((w4.alloc (.cells #[u.d,u.i] 25)).alloc (.cells #[q.op,q.ct,q.n,q.m,q.va,.slice qA q.ks.length qcap] 28)):=⟨_,rfl⟩
 rw [←hw5] at hB5 KQ5 HQ5 UQ5 KT5 KA5 HX5 UX5 HA5 UA5 ⊢
 clear hw5
 refine (impl_FormatPattern xs t q HSQ.out w5 _ FX _ FQ HX5.out UX5.out HQ5.out UQ5.out).mono ?_
 rintro e w6 ⟨rfl,hb6⟩
 have hB6:=hB5.trans (hb6.mono hB5.size)
 have KT6:=jj (KT5.out.same (hb6.block _ KT5.out.lt))
 have KA6:=jj (KA5.out.same (hb6.block _ KA5.out.lt))
 have KQ6:=jj (KQ5.out.same (hb6.block _ KQ5.out.lt))
 have HX6:=jj (ArrDt.below HX5.out hb6 UX5.out)
 have UX6:=jj (UX5.out.mono hb6.size)
 have HA6:=jj (HA5.out.below hb6 UA5.out)
 have UA6:=jj (UA5.out.mono hb6.size)
 have HQ6:=jj (HQ5.out.below hb6 UQ5.out)
 have UQ6:=jj (UQ5.out.mono hb6.size)
 clear hB5 hb6 KT5 KA5 KQ5 HX5 UX5 HA5 UA5 HQ5 UQ5
 obtain ⟨x,hx⟩:∃ s,fmtP xs t q=s:=⟨_,rfl⟩
 rw [hx]
 have HXX:=jj hx
 clear hx
 obtain ⟨cT0,cT1,lT⟩:=KT6.out.c2
 obtain ⟨cA0,cA1,cA2,cA3,cA4,cA5,lA⟩:=KA6.out.c6
 go_wp2_with fail
 clear cT0 cT1 lT cA0 cA1 cA2 cA3 cA4 cA5 lA
 refine (spec_FormatPattern xs t a HSZ.out w6 _ FX _ FA HX6.out UX6.out HA6.out UA6.out).mono ?_
 rintro e w7 ⟨rfl,hb7⟩
 have hB7:=hB6.trans (hb7.mono hB6.size)
 have KT7:=jj (KT6.out.same (hb7.block _ KT6.out.lt))
 have KA7:=jj (KA6.out.same (hb7.block _ KA6.out.lt))
 have KQ7:=jj (KQ6.out.same (hb7.block _ KQ6.out.lt))
 have HX7:=jj (ArrDt.below HX6.out hb7 UX6.out)
 have UX7:=jj (UX6.out.mono hb7.size)
 have HA7:=jj (HA6.out.below hb7 UA6.out)
 have UA7:=jj (UA6.out.mono hb7.size)
 have HQ7:=jj (HQ6.out.below hb7 UQ6.out)
 have UQ7:=jj (UQ6.out.mono hb7.size)
 clear hB6 hb7 KT6 KA6 KQ6 HX6 UX6 HA6 UA6 HQ6 UQ6
 rw [HS.out]
 have e0:((⟨#[]⟩:ByteArray).toList)=[]:=by first | rfl | decide | simp
 cases he:s.toList.isEmpty with
 |true =>
  have he2:s.toList=[]:=List.isEmpty_iff.1 he
  go_wp2
  go_ret
  exact ⟨rfl,hB7⟩
 |false =>
  have he2:¬s.toList=[]:=fun h=>by rw [h] at he;cases he
  have hv1:patternValidB xs t a=true:=by
   cases h:patternValidB xs t a with
   |true=>rfl
   |false=>exact absurd (by rw [←HS.out,fmtP_no h];exact e0) he2
  have HV1:=jj hv1
  clear hv1
  cases hx:x.toList.isEmpty with
  |true =>
   have hx2:x.toList=[]:=List.isEmpty_iff.1 hx
   clear e0
   go_wp2
   go_ret
   exact ⟨rfl,hB7⟩
  |false =>
   have hx2:¬x.toList=[]:=fun h=>by rw [h] at hx;cases hx
   have hv2:patternValidB xs t q=true:=by
    cases h:patternValidB xs t q with
    |true=>rfl
    |false=>exact absurd (by rw [←HXX.out,fmtP_no h];exact e0) hx2
   have HV2:=jj hv2
   clear hv2 e0
   obtain ⟨sm,hsm⟩:∃ b,P.same a q=b:=⟨_,rfl⟩
   have r0:(s.toList==x.toList)=sm:=by
    rw [←hsm,Bool.eq_iff_iff,P.same_iff,bytes_beq_iff,←HS.out,←HXX.out]
    exact ⟨fun h=>fmtP_inj HV1.out HV2.out h,fun h=>by rw [h]⟩
   have HSM:=jj hsm
   clear hsm
   obtain ⟨cA0,cA1,cA2,cA3,cA4,cA5,lA⟩:=KA7.out.c6
   obtain ⟨cQ0,cQ1,cQ2,cQ3,cQ4,cQ5,lQ⟩:=KQ7.out.c6
   go_wp2_with fail
   clear cA0 cA1 cA2 cA3 cA4 cA5 lA cQ0 cQ1 cQ2 cQ3 cQ4 cQ5 lQ
   refine (impl_PatternSame a q w7 _ _ FA FQ HA7.out HQ7.out UA7.out UQ7.out).mono ?_
   rintro e w8 ⟨rfl,hb8⟩
   rw [HSM.out]
   have hB8:=hB7.trans (hb8.mono hB7.size)
   have heq:(sm==sm)=true:=by cases sm <;> rfl
   go_wp2
   go_ret
   exact ⟨rfl,hB8⟩
end Go.Proofs.YtjjclcmmfeegfaaGreatDoor.fnPatternUnique
namespace Go.Proofs.YtjjclcmmfeegfaaGreatDoor.fnPatternUnique
open Go.ChangeShapes Go.WideShapes Go.ChangeAt Go.RowKit
open Go.ChangeMaps (open_string shut_string)
set_option linter.unusedVariables false

theorem own : ownKnob Tryz.prog.godebug = none := by kernel_rfl
theorem laidOut : laidOutB Tryz.prog = true := by kernel_rfl
theorem door_met (os : Os) (args : Array Value) : laidMetH Tryz.prog Rows.fnPatternUniqueRow.laid ((World.doorLaid Tryz.prog 24 os).forCall (fun _ _ => 0) ⟨#[], args, []⟩).memory :=
  laidMetH_of_parts3 (fuel := 8) (laidMet_of_run' 8 (by kernel_rfl) (by kernel_rfl)) (by kernel_rfl) (by kernel_rfl)

set_option maxRecDepth 100000 in
theorem lifted (os : Os) (started : os.Started) (H : Type) (enc : TypeId × Value → H) :
    ReturnsInHanded {} Tryz.checked os 3 .any (fun w args => (Rows.fnPatternUniqueSpec.pre enc Tryz.prog Tryz.f3 [] false w args ∧ laidMetH Tryz.prog Rows.fnPatternUniqueRow.laid w) ∧ sizedMet enc Tryz.prog Tryz.f3 (OpenSpec.ofChange Rows.fnPatternUniqueSpec) false w args)
      (Rows.fnPatternUniqueSpec.post enc Tryz.prog Tryz.f3 false true false false) := by
  refine returnsInHanded_of_change_and (C := Tryz.checked) (X := fun w _ => laidMetH Tryz.prog Rows.fnPatternUniqueRow.laid w) (fun _ _ _ hh h => h.of_heap hh) own started (by kernel_rfl) Tryz.func3
    (ChangeSpec.witness_shaped (enc := enc) (C := Tryz.checked) (os := os) (X := fun w _ => laidMetH Tryz.prog Rows.fnPatternUniqueRow.laid w) false (World.doorLaid Tryz.prog 24 os) #[.slice none 0 0, .slice none 0 0] 8 rfl (World.shaped_of_RefB (by kernel_rfl) (by kernel_rfl)) (by kernel_rfl) (by kernel_rfl) (by kernel_rfl) (door_met os _)) ?_
  intro W base args ds gs before hval0 hW _ _ _ _
  have hval : ∀ (j : Nat) t v, Tryz.f3.params[j]? = some t → args[j]? = some v → Value.okWide Tryz.prog W .any base t v := hval0
  have hW' := hW
  obtain ⟨p, q, hA0, hV, rfl, hfz, hnd⟩ := hW
  have hA : DataW.TrodAll enc Tryz.prog W 0 (fun _ => true) true Tryz.f3.params.toList args.toList ds p := hA0
  rw [Tryz.params3] at hA hval
  obtain ⟨v0, vs0, d0, ds0, p0, q0, hargs, rfl, rfl, h0, r0⟩ := trodAll_cons hA
  obtain ⟨v1, vs1, d1, ds1, p1, q1, rfl, rfl, rfl, h1, r1⟩ := trodAll_cons r0
  obtain ⟨rfl, rfl, rfl⟩ := trodAll_nil r1
  obtain rfl : args = #[v0, v1] := by cases args; simp_all
  obtain ⟨rfl, rfl⟩ := trodVars_none hV
  have k0 := h0
  have lt0 : ∀ x ∈ p0, x.block < W.heap.size := by obtain ⟨m, hm⟩ := k0; exact DataW.trod_lt m _ _ _ hm
  have k1 := h1
  have lt1 : ∀ x ∈ p1, x.block < W.heap.size := by obtain ⟨m, hm⟩ := k1; exact DataW.trod_lt m _ _ _ hm
  obtain ⟨x0, F0, hR0, hU0⟩ := open_Bytes (hval 0 22 v0 rfl rfl) h0
  obtain ⟨x1, F1, hR1, hU1⟩ := open_Bytes (hval 1 22 v1 rfl rfl) h1
  clear hA0 hval0
  refine (walk x0 v0 F0 hR0 hU0 x1 v1 F1 hR1 hU1 W rfl).mono fun e W' ⟨he, bel⟩ => ?_
  subst he
  exact ⟨_, rfl, _, _, _, [], _, [], hW', trodAll_mk1 (shut_bool Tryz.underlying4 _), (trodAll_cons_mk (Below.trod laidOut (by kernel_rfl) (of_decide_eq_true (by kernel_rfl)) k0 bel lt0) (trodAll_cons_mk (Below.trod laidOut (by kernel_rfl) (of_decide_eq_true (by kernel_rfl)) k1 bel lt1) trodAll_mk0)), rfl, bel.frame _, fun h => by cases h⟩

theorem over : Rows.fnPatternUniqueRow.holds Tryz.pinned (OpenSpec.ofChange Rows.fnPatternUniqueSpec) :=
  OpenClaim.holds_of_wide 3 Tryz.f3 rfl rfl rfl rfl rfl rfl rfl ⟨rfl, rfl, rfl, rfl, rfl⟩ rfl rfl rfl rfl rfl (by kernel_rfl) Tryz.func3 (by kernel_rfl)
    (of_decide_eq_true (by kernel_rfl)) (by unfold Func.isWrapper; first | (rw [if_pos (by decide +kernel)]; kernel_rfl) | (rw [if_neg (by decide +kernel)]; exact ⟨rfl, rfl⟩))
    (fun os started H enc _ => lifted os started H enc)

theorem proved : Rows.FnPatternUniqueCardSaid :=
  Claim7.holds_tied_plain_at .later _ _ _ _ _
    over (fun _ h => by cases h) (by kernel_rfl) (fun _ h => by cases h) fnPatternUnique_row_tie rfl ⟨rfl, rfl⟩ (by kernel_rfl) rfl
    (fun f fn hf hfn => by
      obtain rfl : f = 3 := Option.some.inj ((show Tryz.prog.funcNamed "loop.example/matchcompiler/laws.FnPatternUnique" = some 3 by kernel_rfl).symm.trans hf) |>.symm
      obtain rfl : fn = Tryz.f3 := (Option.some.inj (Tryz.func3.symm.trans hfn)).symm
      exact ⟨by kernel_rfl, fun j t ht => by
        rw [Tryz.params3] at ht
        have hm : t ∈ [22, 22] := by simpa using Array.mem_of_getElem? ht
        have hall : ([22, 22].all fun u => !Tryz.prog.wantsStandIn u) = true := by kernel_rfl
        exact (show Tryz.prog.wantsStandIn t = false by simpa using List.all_eq_true.1 hall t hm)⟩)
    (by kernel_rfl)
end Go.Proofs.YtjjclcmmfeegfaaGreatDoor.fnPatternUnique
