/-
  FnPatternOf: for every argument the law returns true; the card. Conditions: the listed package-level variables hold what the card ties to the program's text.
-/
import Derived.Test.YtjjclcmmfeegfaaGreatDoorJAH
import Derived.Test.YtjjclcmmfeegfaaGreatDoorJAI
import Derived.Test.YtjjclcmmfeegfaaGreatDoorJAL
import Derived.Test.YtjjclcmmfeegfaaGreatDoorJAM
import Derived.Test.YtjjclcmmfeegfaaGreatDoorJAO
import Derived.Test.YtjjclcmmfeegfaaGreatDoorJAC
import Derived.Deep.RegionWith
import Derived.Deep.RegionHeld3
import Derived.BigQuiet
import Derived.Test.YtjjclcmmfeegfaaGreatDoorRows
import Derived.Test.YtjjclcmmfeegfaaGreatDoorCards
import Derived.Test.YtjjclcmmfeegfaaGreatDoorTie
import Derived.ProofKit
import Derived.LaidMore
import Derived.OpenShut
import Derived.ShutString
import Derived.ChangeOld
import Derived.Below
import Derived.SevenTiedAt

set_option linter.unusedVariables false
set_option linter.unusedSimpArgs false
set_option maxRecDepth 100000
set_option maxHeartbeats 1600000

namespace Go.Proofs.YtjjclcmmfeegfaaGreatDoor.fnPatternOf
open Go.RowKit
set_option maxHeartbeats 8000000 in
theorem walk {W:World} (x0:List Int) (v0:Value) (F0:List Nat) (hR0:Arr W (ByR W) x0 v0 F0) (hU0:Under W F0) (w:World) (hw:w=W) :
  Calls Tryz.prog 6 #[v0] w fun e w'=>e=.returned (.bool true)∧Below w w w':=by
 subst hw
 obtain ⟨A0,cap0,rfl,-,-⟩:=hR0.form
 have HR0:=jj hR0
 have HU0:=jj hU0
 clear hR0 hU0
 by_cases hlen:1048576<x0.length
 ·have t0:decide ((x0.length:Int)>1048576)=true:=decide_eq_true (by omega)
  go_enter Tryz.func6,Tryz.ntmps6
  go_wp2
  go_ret
  exact ⟨rfl,zy2 _ _⟩
 have t0:decide ((x0.length:Int)>1048576)=false:=decide_eq_false (by omega)
 go_enter Tryz.func6,Tryz.ntmps6
 go_wp2_with fail
 refine (spec_DrawPatternOf x0 w _ F0 HR0.out HU0.out).mono ?_
 rintro e w1 ⟨xs,v1,FX,t,v,csa,FV,rfl,hb1,hx,hfx,hpa,hfa,hna⟩
 obtain ⟨kva,rfl,haa⟩:=(zA6 _ _ _).1 hpa
 obtain ⟨vA,vcap,rfl,-,-⟩:=haa.form
 obtain ⟨xA,xcap,rfl,-,-⟩:=hx.form
 have HVZ:Hid (v.size≤1048576):=by unfold nodes at hna;unfold Hid;omega
 have hb2:Below w1 w1 ((w1.alloc (.cells #[t.d,t.i] 25)).alloc (.cells #[v.c,v.n,.slice vA v.ks.length vcap] 45)):=((zy2 _ _).alloc (zz8 _) _).alloc (by simp) _
 have hB2:Below w w ((w1.alloc (.cells #[t.d,t.i] 25)).alloc (.cells #[v.c,v.n,.slice vA v.ks.length vcap] 45)):=hb1.trans (hb2.mono hb1.size)
 have KT2:Hid (Blk ((w1.alloc (.cells #[t.d,t.i] 25)).alloc (.cells #[v.c,v.n,.slice vA v.ks.length vcap] 45)) w1.heap.size 25 #[t.d,t.i]):=(Blk.new w1 _ _).same (Below.heap_alloc _ _ _ (by simp))
 have KV2:Hid (Blk ((w1.alloc (.cells #[t.d,t.i] 25)).alloc (.cells #[v.c,v.n,.slice vA v.ks.length vcap] 45)) (w1.heap.size+1) 45 #[v.c,v.n,.slice vA v.ks.length vcap]):=zAG w1 _ 45 _
 have HX2:=jj (ArrDt.below hx hb2 hfx.under)
 have UX2:Hid (Under (((w1.alloc (.cells #[t.d,t.i] 25)).alloc (.cells #[v.c,v.n,.slice vA v.ks.length vcap] 45))).heap.size FX):=hfx.under.mono hb2.size
 have HV2:=jj (hpa.below hb2 hfa.under)
 have UV2:Hid (Under (((w1.alloc (.cells #[t.d,t.i] 25)).alloc (.cells #[v.c,v.n,.slice vA v.ks.length vcap] 45))).heap.size FV):=hfa.under.mono hb2.size
 clear hx hfx hpa hfa hna haa hb1 hb2 HR0 HU0
 go_wp2_with fail
 obtain ⟨w2,hw2⟩:∃ X,X=((w1.alloc (.cells #[t.d,t.i] 25)).alloc (.cells #[v.c,v.n,.slice vA v.ks.length vcap] 45)):=⟨_,rfl⟩
 rw [←hw2] at hB2 KT2 KV2 HX2 UX2 HV2 UV2 ⊢
 clear hw2
 obtain ⟨cT0,cT1,lT⟩:=KT2.out.c2
 obtain ⟨cV0,cV1,cV2,lV⟩:=KV2.out.c3
 go_wp2_with fail
 clear cT0 cT1 lT cV0 cV1 cV2 lV
 refine (impl_PatternOf xs t v w2 _ FX _ FV HX2.out UX2.out HV2.out UV2.out HVZ.out).mono ?_
 rintro e w3 ⟨csP,FP,rfl,hb3,hp3,-,hf3⟩
 obtain ⟨p,hpe⟩:∃ u,u=patternOfR xs t v:=⟨_,rfl⟩
 rw [←hpe] at hp3
 have HPE:=jj hpe
 clear hpe
 obtain ⟨kvP,rfl,ha3⟩:=(zAE _ _ _).1 hp3
 obtain ⟨pA,pcap,rfl,-,-⟩:=ha3.form
 have KHP:=jj hp3
 have KUP:=jj hf3.under
 clear hp3 hf3 ha3
 have hB3:=hB2.trans (hb3.mono hB2.size)
 have KT3:=jj (KT2.out.same (hb3.block _ KT2.out.lt))
 have KV3:=jj (KV2.out.same (hb3.block _ KV2.out.lt))
 have HX3:Hid (Arr w3 (DtR w3) xs (.slice xA xs.length xcap) FX):=(HX2.out.mono (.of_below hb3 UX2.out) (fun x _ cs G hk h=>DtR.mono x cs G hk h))
 have UX3:=jj (UX2.out.mono hb3.size)
 have HV3:Hid (VR w3 v [v.c,v.n,.slice vA v.ks.length vcap] FV):=(HV2.out.below hb3 UV2.out)
 have UV3:=jj (UV2.out.mono hb3.size)
 clear hB2 hb3 KT2 KV2 HX2 UX2 HV2 UV2
 have hb4:Below w3 w3 (w3.alloc (.cells #[p.op,p.ct,p.n,p.m,p.va,.slice pA p.ks.length pcap] 28)):=(zy2 _ _).alloc (zz8 _) _
 have KBP:Hid (Blk (w3.alloc (.cells #[p.op,p.ct,p.n,p.m,p.va,.slice pA p.ks.length pcap] 28)) w3.heap.size 28 #[p.op,p.ct,p.n,p.m,p.va,.slice pA p.ks.length pcap]):=Blk.new _ _ _
 have HHP:Hid (PR (w3.alloc (.cells #[p.op,p.ct,p.n,p.m,p.va,.slice pA p.ks.length pcap] 28)) p [p.op,p.ct,p.n,p.m,p.va,.slice pA p.ks.length pcap] FP):=KHP.out.below hb4 KUP.out
 have UUP:Hid (Under ((w3.alloc (.cells #[p.op,p.ct,p.n,p.m,p.va,.slice pA p.ks.length pcap] 28))).heap.size FP):=KUP.out.mono hb4.size
 clear KHP KUP
 obtain ⟨cT0,cT1,lT⟩:=KT3.out.c2
 obtain ⟨cV0,cV1,cV2,lV⟩:=KV3.out.c3
 go_wp2_with fail
 clear cT0 cT1 lT cV0 cV1 cV2 lV
 obtain ⟨w4,hw4⟩:∃ X,X=(w3.alloc (.cells #[p.op,p.ct,p.n,p.m,p.va,.slice pA p.ks.length pcap] 28)):=⟨_,rfl⟩
 obtain ⟨kp,hkp⟩:∃ X,X=w3.heap.size:=⟨_,rfl⟩
 rw [←hw4] at hb4 KBP HHP UUP ⊢
 rw [←hkp] at KBP ⊢
 clear hw4 hkp
 have hB4:=hB3.trans (hb4.mono hB3.size)
 have KT4:=jj (KT3.out.same (hb4.block _ KT3.out.lt))
 have KV4:=jj (KV3.out.same (hb4.block _ KV3.out.lt))
 have HX4:Hid (Arr w4 (DtR w4) xs (.slice xA xs.length xcap) FX):=(HX3.out.mono (.of_below hb4 UX3.out) (fun x _ cs G hk h=>DtR.mono x cs G hk h))
 have UX4:=jj (UX3.out.mono hb4.size)
 have HV4:Hid (VR w4 v [v.c,v.n,.slice vA v.ks.length vcap] FV):=(HV3.out.below hb4 UV3.out)
 have UV4:=jj (UV3.out.mono hb4.size)
 clear hB3 hb4 KT3 KV3 HX3 UX3 HV3 UV3
 have KP4:=KBP
 have HP4:=HHP
 have UP4:=UUP
 clear KBP HHP UUP
 obtain ⟨cT0,cT1,lT⟩:=KT4.out.c2
 obtain ⟨cV0,cV1,cV2,lV⟩:=KV4.out.c3
 go_wp2_with fail
 clear cT0 cT1 lT cV0 cV1 cV2 lV
 refine (spec_PatternOf xs t v w4 _ FX _ FV HX4.out UX4.out HV4.out UV4.out HVZ.out).mono ?_
 rintro e w5 ⟨csQ,FQ,rfl,hb5,hp5,-,hf5⟩
 rw [←HPE.out] at hp5
 obtain ⟨kvQ,rfl,ha5⟩:=(zAE _ _ _).1 hp5
 obtain ⟨qA,qcap,rfl,-,-⟩:=ha5.form
 have KHQ:=jj hp5
 have KUQ:=jj hf5.under
 clear hp5 hf5 ha5
 have hB5:=hB4.trans (hb5.mono hB4.size)
 have KT5:=jj (KT4.out.same (hb5.block _ KT4.out.lt))
 have KV5:=jj (KV4.out.same (hb5.block _ KV4.out.lt))
 have KP5:=jj (KP4.out.same (hb5.block _ KP4.out.lt))
 have HX5:Hid (Arr w5 (DtR w5) xs (.slice xA xs.length xcap) FX):=(HX4.out.mono (.of_below hb5 UX4.out) (fun x _ cs G hk h=>DtR.mono x cs G hk h))
 have UX5:=jj (UX4.out.mono hb5.size)
 have HV5:Hid (VR w5 v [v.c,v.n,.slice vA v.ks.length vcap] FV):=(HV4.out.below hb5 UV4.out)
 have UV5:=jj (UV4.out.mono hb5.size)
 have HP5:Hid (PR w5 p [p.op,p.ct,p.n,p.m,p.va,.slice pA p.ks.length pcap] FP):=(HP4.out.below hb5 UP4.out)
 have UP5:=jj (UP4.out.mono hb5.size)
 clear hB4 hb5 KT4 KV4 KP4 HX4 UX4 HV4 UV4 HP4 UP4
 have hb6:Below w5 w5 (w5.alloc (.cells #[p.op,p.ct,p.n,p.m,p.va,.slice qA p.ks.length qcap] 28)):=(zy2 _ _).alloc (zz8 _) _
 have KBQ:Hid (Blk (w5.alloc (.cells #[p.op,p.ct,p.n,p.m,p.va,.slice qA p.ks.length qcap] 28)) w5.heap.size 28 #[p.op,p.ct,p.n,p.m,p.va,.slice qA p.ks.length qcap]):=Blk.new _ _ _
 have HHQ:Hid (PR (w5.alloc (.cells #[p.op,p.ct,p.n,p.m,p.va,.slice qA p.ks.length qcap] 28)) p [p.op,p.ct,p.n,p.m,p.va,.slice qA p.ks.length qcap] FQ):=KHQ.out.below hb6 KUQ.out
 have UUQ:Hid (Under ((w5.alloc (.cells #[p.op,p.ct,p.n,p.m,p.va,.slice qA p.ks.length qcap] 28))).heap.size FQ):=KUQ.out.mono hb6.size
 clear KHQ KUQ
 obtain ⟨cT0,cT1,lT⟩:=KT5.out.c2
 obtain ⟨cV0,cV1,cV2,lV⟩:=KV5.out.c3
 obtain ⟨cP0,cP1,cP2,cP3,cP4,cP5,lP⟩:=KP5.out.c6
 go_wp2_with fail
 clear cT0 cT1 lT cV0 cV1 cV2 lV cP0 cP1 cP2 cP3 cP4 cP5 lP
 obtain ⟨w6,hw6⟩:∃ X,X=(w5.alloc (.cells #[p.op,p.ct,p.n,p.m,p.va,.slice qA p.ks.length qcap] 28)):=⟨_,rfl⟩
 obtain ⟨kq,hkq⟩:∃ X,X=w5.heap.size:=⟨_,rfl⟩
 rw [←hw6] at hb6 KBQ HHQ UUQ ⊢
 rw [←hkq] at KBQ ⊢
 clear hw6 hkq
 have hB6:=hB5.trans (hb6.mono hB5.size)
 have KT6:=jj (KT5.out.same (hb6.block _ KT5.out.lt))
 have KV6:=jj (KV5.out.same (hb6.block _ KV5.out.lt))
 have KP6:=jj (KP5.out.same (hb6.block _ KP5.out.lt))
 have HX6:Hid (Arr w6 (DtR w6) xs (.slice xA xs.length xcap) FX):=(HX5.out.mono (.of_below hb6 UX5.out) (fun x _ cs G hk h=>DtR.mono x cs G hk h))
 have UX6:=jj (UX5.out.mono hb6.size)
 have HV6:Hid (VR w6 v [v.c,v.n,.slice vA v.ks.length vcap] FV):=(HV5.out.below hb6 UV5.out)
 have UV6:=jj (UV5.out.mono hb6.size)
 have HP6:Hid (PR w6 p [p.op,p.ct,p.n,p.m,p.va,.slice pA p.ks.length pcap] FP):=(HP5.out.below hb6 UP5.out)
 have UP6:=jj (UP5.out.mono hb6.size)
 clear hB5 hb6 KT5 KV5 KP5 HX5 UX5 HV5 UV5 HP5 UP5
 have KQ6:=KBQ
 have HQ6:=HHQ
 have UQ6:=UUQ
 clear KBQ HHQ UUQ
 obtain ⟨ok,hok⟩:∃ m,m=valueValidB xs t v:=⟨_,rfl⟩
 rw [←hok]
 have HOK:=jj hok
 clear hok
 have hmn:(ok != ok)=false:=by cases ok <;> rfl
 have hme:(ok==ok)=true:=by cases ok <;> rfl
 have hss:P.same p p=true:=(P.same_iff p p).2 rfl
 have HSS:=jj hss
 clear hss
 have HPZ:Hid (p.size≤1048576):=by rw [HPE.out];exact Nat.le_trans (patternOfR_size xs t v) HVZ.out
 obtain ⟨cT0,cT1,lT⟩:=KT6.out.c2
 obtain ⟨cV0,cV1,cV2,lV⟩:=KV6.out.c3
 obtain ⟨cP0,cP1,cP2,cP3,cP4,cP5,lP⟩:=KP6.out.c6
 obtain ⟨cQ0,cQ1,cQ2,cQ3,cQ4,cQ5,lQ⟩:=KQ6.out.c6
 go_wp2_with fail
 clear cT0 cT1 lT cV0 cV1 cV2 lV cP0 cP1 cP2 cP3 cP4 cP5 lP cQ0 cQ1 cQ2 cQ3 cQ4 cQ5 lQ
 refine (impl_PatternSame p p w6 _ _ FP FQ HP6.out HQ6.out UP6.out UQ6.out).mono ?_
 rintro e w7 ⟨rfl,hb7⟩
 rw [HSS.out]
 have hB7:=hB6.trans (hb7.mono hB6.size)
 have KT7:=jj (KT6.out.same (hb7.block _ KT6.out.lt))
 have KV7:=jj (KV6.out.same (hb7.block _ KV6.out.lt))
 have KP7:=jj (KP6.out.same (hb7.block _ KP6.out.lt))
 have KQ7:=jj (KQ6.out.same (hb7.block _ KQ6.out.lt))
 have HX7:Hid (Arr w7 (DtR w7) xs (.slice xA xs.length xcap) FX):=(HX6.out.mono (.of_below hb7 UX6.out) (fun x _ cs G hk h=>DtR.mono x cs G hk h))
 have UX7:=jj (UX6.out.mono hb7.size)
 have HV7:Hid (VR w7 v [v.c,v.n,.slice vA v.ks.length vcap] FV):=(HV6.out.below hb7 UV6.out)
 have UV7:=jj (UV6.out.mono hb7.size)
 have HP7:Hid (PR w7 p [p.op,p.ct,p.n,p.m,p.va,.slice pA p.ks.length pcap] FP):=(HP6.out.below hb7 UP6.out)
 have UP7:=jj (UP6.out.mono hb7.size)
 have HQ7:Hid (PR w7 p [p.op,p.ct,p.n,p.m,p.va,.slice qA p.ks.length qcap] FQ):=(HQ6.out.below hb7 UQ6.out)
 have UQ7:=jj (UQ6.out.mono hb7.size)
 clear hB6 hb7 KT6 KV6 KP6 KQ6 HX6 UX6 HV6 UV6 HP6 UP6 HQ6 UQ6
 cases ok with
 |false =>
  obtain ⟨cT0,cT1,lT⟩:=KT7.out.c2
  obtain ⟨cV0,cV1,cV2,lV⟩:=KV7.out.c3
  obtain ⟨cP0,cP1,cP2,cP3,cP4,cP5,lP⟩:=KP7.out.c6
  obtain ⟨cQ0,cQ1,cQ2,cQ3,cQ4,cQ5,lQ⟩:=KQ7.out.c6
  go_wp2_with fail
  clear cT0 cT1 lT cV0 cV1 cV2 lV cP0 cP1 cP2 cP3 cP4 cP5 lP cQ0 cQ1 cQ2 cQ3 cQ4 cQ5 lQ
  refine (impl_PatternSame p p w7 _ _ FP FQ HP7.out HQ7.out UP7.out UQ7.out).mono ?_
  rintro e w8 ⟨rfl,hb8⟩
  rw [HSS.out]
  have hB8:=hB7.trans (hb8.mono hB7.size)
  have KT8:=jj (KT7.out.same (hb8.block _ KT7.out.lt))
  have KV8:=jj (KV7.out.same (hb8.block _ KV7.out.lt))
  have KP8:=jj (KP7.out.same (hb8.block _ KP7.out.lt))
  have KQ8:=jj (KQ7.out.same (hb8.block _ KQ7.out.lt))
  have HX8:Hid (Arr w8 (DtR w8) xs (.slice xA xs.length xcap) FX):=(HX7.out.mono (.of_below hb8 UX7.out) (fun x _ cs G hk h=>DtR.mono x cs G hk h))
  have UX8:=jj (UX7.out.mono hb8.size)
  have HV8:Hid (VR w8 v [v.c,v.n,.slice vA v.ks.length vcap] FV):=(HV7.out.below hb8 UV7.out)
  have UV8:=jj (UV7.out.mono hb8.size)
  have HP8:Hid (PR w8 p [p.op,p.ct,p.n,p.m,p.va,.slice pA p.ks.length pcap] FP):=(HP7.out.below hb8 UP7.out)
  have UP8:=jj (UP7.out.mono hb8.size)
  have HQ8:Hid (PR w8 p [p.op,p.ct,p.n,p.m,p.va,.slice qA p.ks.length qcap] FQ):=(HQ7.out.below hb8 UQ7.out)
  have UQ8:=jj (UQ7.out.mono hb8.size)
  clear hB7 hb8 KT7 KV7 KP7 KQ7 HX7 UX7 HV7 UV7 HP7 UP7 HQ7 UQ7
  go_wp2
  go_ret
  exact ⟨rfl,hB8⟩
 |true =>
  have hpo:p=patOf v:=by rw [HPE.out];unfold patternOfR;rw [if_pos HOK.out.symm]
  have HPO:=jj hpo
  clear hpo
  have hvv:valueValidB xs t v=true:=HOK.out.symm
  have HVV:=jj hvv
  clear hvv
  obtain ⟨cT0,cT1,lT⟩:=KT7.out.c2
  obtain ⟨cV0,cV1,cV2,lV⟩:=KV7.out.c3
  obtain ⟨cP0,cP1,cP2,cP3,cP4,cP5,lP⟩:=KP7.out.c6
  obtain ⟨cQ0,cQ1,cQ2,cQ3,cQ4,cQ5,lQ⟩:=KQ7.out.c6
  go_wp2_with fail
  clear cT0 cT1 lT cV0 cV1 cV2 lV cP0 cP1 cP2 cP3 cP4 cP5 lP cQ0 cQ1 cQ2 cQ3 cQ4 cQ5 lQ
  refine (impl_ValuesUpTo xs t 2 w7 _ FX HX7.out UX7.out).mono ?_
  rintro e w8 ⟨xL,FL,rfl,hb8,hl8,-,hf8⟩
  obtain ⟨lA,lc,rfl,hl1,hl2⟩:=hl8.form
  have hsml:∀ u∈uptoV xs t 2,u.size≤1048576:=fun u hu=>by
   unfold uptoV at hu
   split at hu
   ·rename_i hub
    obtain ⟨hw,ht,-,-⟩:=upto_split hub
    have:=(vals_small hw (show ((2:Int)).toNat≤4 by decide) ht hu).1
    unfold nodes at this
    omega
   ·cases hu
  have HSM:=jj hsml
  clear hsml
  have hlm:(uptoV xs t 2).length≤9223372036854775807:=by omega
  have hub:(uptoV xs t 2).length=0∨uptoB xs t 2=true:=by
   cases h:uptoB xs t 2 with
   |false=>exact .inl (by rw [uptoV_no h];rfl)
   |true=>exact .inr rfl
  obtain ⟨us,hus⟩:∃ l,l=uptoV xs t 2:=⟨_,rfl⟩
  obtain ⟨ub,hubb⟩:∃ l,l=uptoB xs t 2:=⟨_,rfl⟩
  rw [←hus] at hl8 hlm HSM hub ⊢
  rw [←hubb] at hub ⊢
  clear hl1 hl2 hus hubb
  have HUB:=jj hub
  have KHL:=jj hl8
  have KUL:=jj hf8.under
  clear hl8 hf8 hub
  have hB8:=hB7.trans (hb8.mono hB7.size)
  have KT8:=jj (KT7.out.same (hb8.block _ KT7.out.lt))
  have KV8:=jj (KV7.out.same (hb8.block _ KV7.out.lt))
  have KP8:=jj (KP7.out.same (hb8.block _ KP7.out.lt))
  have KQ8:=jj (KQ7.out.same (hb8.block _ KQ7.out.lt))
  have HX8:Hid (Arr w8 (DtR w8) xs (.slice xA xs.length xcap) FX):=(HX7.out.mono (.of_below hb8 UX7.out) (fun x _ cs G hk h=>DtR.mono x cs G hk h))
  have UX8:=jj (UX7.out.mono hb8.size)
  have HV8:Hid (VR w8 v [v.c,v.n,.slice vA v.ks.length vcap] FV):=(HV7.out.below hb8 UV7.out)
  have UV8:=jj (UV7.out.mono hb8.size)
  have HP8:Hid (PR w8 p [p.op,p.ct,p.n,p.m,p.va,.slice pA p.ks.length pcap] FP):=(HP7.out.below hb8 UP7.out)
  have UP8:=jj (UP7.out.mono hb8.size)
  have HQ8:Hid (PR w8 p [p.op,p.ct,p.n,p.m,p.va,.slice qA p.ks.length qcap] FQ):=(HQ7.out.below hb8 UQ7.out)
  have UQ8:=jj (UQ7.out.mono hb8.size)
  clear hB7 hb8 KT7 KV7 KP7 KQ7 HX7 UX7 HV7 UV7 HP7 UP7 HQ7 UQ7
  have HL8:=KHL
  have UL8:=KUL
  clear KHL KUL
  go_wp2
  go_loopw [12] (fun iv wr=>∃ i:Nat,i≤us.length∧iv=.int .i64 i∧Below w8 w8 wr) (fun iv _=>us.length-(intOf iv).toNat)
  case atStart=>exact ⟨0,Nat.zero_le _,rfl,zy2 _ _⟩
  case round =>
   obtain ⟨i,hi,rfl,hbr⟩:=hrel
   have KTr:=KT8.out.same (hbr.block _ KT8.out.lt)
   have KVr:=KV8.out.same (hbr.block _ KV8.out.lt)
   have KPr:=KP8.out.same (hbr.block _ KP8.out.lt)
   by_cases hlt:i<us.length
   ·obtain rfl:ub=true:=by
     rcases HUB.out with h | h
     ·omega
     ·exact h
    obtain ⟨lb,loff,rfl⟩:=HL8.out.ptr (by omega)
    obtain ⟨qqA,qqcap,GQ,hlb,q0,q1,q2,HQ,UQ,-,-,-⟩:=ArrV.at HL8.out UL8.out hbr i hlt
    obtain ⟨x0,x1,xlt⟩:=KTr.c2
    obtain ⟨p0,p1,p2,p3,p4,p5,plt⟩:=KPr.c6
    have g1:(0:Int)≤(i:Int):=by omega
    have g2:(i:Int)<(us.length:Int):=by omega
    have HQZ:Hid (us[i].size≤1048576):=HSM.out _ (List.getElem_mem hlt)
    have HXr:=jj (ArrDt.below HX8.out hbr UX8.out)
    have UXr:=jj (UX8.out.mono hbr.size)
    obtain ⟨q,hq⟩:∃ u,u=us[i]:=⟨_,rfl⟩
    have HQE:=jj hq
    have HLQ:=jj hlt
    rw [←hq] at q0 q1 q2 HQ HQZ
    clear hq KTr KVr KPr
    have HME:Hid (matchB xs t p q=V.same q v):=by rw [HPO.out];exact match_patOf q HVV.out
    go_wp2_with fail
    have HS:Hid (∀ C:World,Below wr wr C→(C.cell? ⟨w1,0,none⟩=t.d∧C.cell? ⟨w1,1,none⟩=t.i∧C.cell? ⟨kp,0,none⟩=p.op∧C.cell? ⟨kp,1,none⟩=p.ct∧C.cell? ⟨kp,2,none⟩=p.n∧C.cell? ⟨kp,3,none⟩=p.m∧C.cell? ⟨kp,4,none⟩=p.va∧C.cell? ⟨kp,5,none⟩=some (.slice pA p.ks.length pcap)∧C.cell? ⟨lb,loff+i*3,none⟩=q.c∧C.cell? ⟨lb,loff+i*3+1,none⟩=q.n∧C.cell? ⟨lb,loff+i*3+2,none⟩=some (.slice qqA q.ks.length qqcap))):=fun C hb=>⟨(hb.cell (xlt)).trans x0,(hb.cell (xlt)).trans x1,(hb.cell (plt)).trans p0,(hb.cell (plt)).trans p1,(hb.cell (plt)).trans p2,(hb.cell (plt)).trans p3,(hb.cell (plt)).trans p4,(hb.cell (plt)).trans p5,(hb.cell (hlb)).trans q0,(hb.cell (hlb)).trans q1,(hb.cell (hlb)).trans q2⟩
    have hC0:Below wr wr wr.drew:=(zy2 _ _).drew
    refine wpBS HS.out (T:=fun _=>True) (d:=99) (by kernel_rfl) ?_
    obtain ⟨wd,hwd⟩:∃ X,X=wr.drew:=⟨_,rfl⟩
    rw [←hwd] at hC0  ⊢
    clear hwd
    have hS0:=HS.out _ hC0
    have hT0:True:=trivial
    refine wV 0 rfl hS0 hT0 ?_
    (try simp only [zz])
    refine wV 1 rfl hS0 hT0 ?_
    (try simp only [zz])
    refine wV 2 rfl hS0 hT0 ?_
    (try simp only [zz])
    refine wV 3 rfl hS0 hT0 ?_
    (try simp only [zz])
    refine wV 4 rfl hS0 hT0 ?_
    (try simp only [zz])
    refine wV 5 rfl hS0 hT0 ?_
    (try simp only [zz])
    refine wV 6 rfl hS0 hT0 ?_
    (try simp only [zz])
    have HXd:=jj (ArrDt.below HXr.out hC0 UXr.out)
    have UXd:=jj (UXr.out.mono hC0.size)
    have hbd:=hbr.trans (hC0.mono hbr.size)
    refine Go.Proofs.YtjjclcmmfeegfaaGreatDoor.w1 7 rfl fun K hK=>?_
    go_simp
    go_at_call 27
    refine (impl_MatchPattern xs t p q HPZ.out HQZ.out wd _ FX _ FP _ GQ HXd.out UXd.out (HP8.out.below hbd UP8.out) (UP8.out.mono hbd.size) (HQ.out.below hbd UQ.out) (UQ.out.mono hbd.size)).mono ?_
    rintro e C9 ⟨x9,F9,rfl,hb9,-,-,-⟩
    have hC1:Below wr wr C9:=hC0.trans (hb9.mono hC0.size)
    have hS1:=HS.out _ hC1
    rw [HME.out]
    (try dsimp only)
    refine hK.out _ _ hS1 (fun _=>trivial) ?_
    clear hK K
    (try simp only [zz])
    refine wV 8 rfl hS1 hT0 ?_
    (try simp only [zz])
    refine wV 9 rfl hS1 hT0 ?_
    (try simp only [zz])
    refine wV 10 rfl hS1 hT0 ?_
    (try simp only [zz])
    refine wV 11 rfl hS1 hT0 ?_
    (try simp only [zz])
    refine wV 12 rfl hS1 hT0 ?_
    (try simp only [zz])
    refine wE (by kernel_rfl) ?_
    clear hS0 hS1 hT0
    have hbq:=hbr.trans (hC1.mono hbr.size)
    clear x0 x1 xlt p0 p1 p2 p3 p4 p5 plt q0 q1 q2 hlb hC0 hC1 hbr HXr UXr HXd UXd hbd HQ UQ hb9
    obtain ⟨wq,hwq⟩:∃ X,X=C9:=⟨_,rfl⟩
    rw [←hwq] at hbq ⊢
    clear hwq
    have KVq:=KV8.out.same (hbq.block _ KV8.out.lt)
    obtain ⟨qqA2,qqcap2,GQ,hlb,q0,q1,q2,HQ,UQ,-,-,-⟩:=ArrV.at HL8.out UL8.out hbq i HLQ.out
    rw [←HQE.out] at q0 q1 q2 HQ
    obtain ⟨z0,z1,z2,zlt⟩:=KVq.c3
    clear KVq
    obtain ⟨sm,hsm⟩:∃ u,u=V.same q v:=⟨_,rfl⟩
    rw [←hsm]
    have HSQ:=jj hsm
    clear hsm
    have hsn:(sm != sm)=false:=by cases sm <;> rfl
    go_wp2_with fail
    have HS:Hid (∀ C:World,Below wq wq C→(C.cell? ⟨lb,loff+i*3,none⟩=q.c∧C.cell? ⟨lb,loff+i*3+1,none⟩=q.n∧C.cell? ⟨lb,loff+i*3+2,none⟩=some (.slice qqA2 q.ks.length qqcap2)∧C.cell? ⟨w1.heap.size+1,0,none⟩=v.c∧C.cell? ⟨w1.heap.size+1,1,none⟩=v.n∧C.cell? ⟨w1.heap.size+1,2,none⟩=some (.slice vA v.ks.length vcap))):=fun C hb=>⟨(hb.cell (hlb)).trans q0,(hb.cell (hlb)).trans q1,(hb.cell (hlb)).trans q2,(hb.cell (zlt)).trans z0,(hb.cell (zlt)).trans z1,(hb.cell (zlt)).trans z2⟩
    have hC0:Below wq wq wq.drew:=(zy2 _ _).drew
    refine wpBS HS.out (T:=fun _=>True) (d:=99) (by kernel_rfl) ?_
    obtain ⟨wd,hwd⟩:∃ X,X=wq.drew:=⟨_,rfl⟩
    rw [←hwd] at hC0  ⊢
    clear hwd
    have hS0:=HS.out _ hC0
    have hT0:True:=trivial
    refine wV 0 rfl hS0 hT0 ?_
    (try simp only [zz])
    refine wV 1 rfl hS0 hT0 ?_
    (try simp only [zz])
    refine wV 2 rfl hS0 hT0 ?_
    (try simp only [zz])
    refine wV 3 rfl hS0 hT0 ?_
    (try simp only [zz])
    refine wV 4 rfl hS0 hT0 ?_
    (try simp only [zz])
    refine wV 5 rfl hS0 hT0 ?_
    (try simp only [zz])
    have hbd:=hbq.trans (hC0.mono hbq.size)
    refine Go.Proofs.YtjjclcmmfeegfaaGreatDoor.w1 6 rfl fun K hK=>?_
    go_simp
    go_at_call 28
    refine (impl_ValueSame q v wd _ _ GQ FV (HQ.out.below hbd UQ.out) (HV8.out.below hbd UV8.out) (UQ.out.mono hbd.size) (UV8.out.mono hbd.size)).mono ?_
    rintro e C10 ⟨rfl,hb9⟩
    rw [←HSQ.out]
    have hC1:Below wq wq C10:=hC0.trans (hb9.mono hC0.size)
    have hS1:=HS.out _ hC1
    (try dsimp only)
    refine hK.out _ _ hS1 (fun _=>trivial) ?_
    clear hK K
    (try simp only [zz])
    refine wV 7 rfl hS1 hT0 ?_
    (try simp only [zz])
    refine wE (by kernel_rfl) ?_
    clear hS0 hS1 hT0
    have hbr9:=hbq.trans (hC1.mono hbq.size)
    clear q0 q1 q2 hlb z0 z1 z2 zlt hC0 hC1 hbq hbd hb9 HQ UQ
    obtain ⟨wz,hwz⟩:∃ X,X=C10:=⟨_,rfl⟩
    rw [←hwz] at hbr9 ⊢
    clear hwz
    go_wp2
    go_roundw
    case rel=>exact ⟨i+1,by omega,by go_num,hbr9⟩
    case measure=>(simp [intOf] <;> omega)
   ·have HB9:=jj (hB8.trans (hbr.mono hB8.size))
    have HX9:=jj (ArrDt.below HX8.out hbr UX8.out)
    have UX9:=jj (UX8.out.mono hbr.size)
    have HP9:=jj (HP8.out.below hbr UP8.out)
    have UP9:=jj (UP8.out.mono hbr.size)
    have HV9:=jj (HV8.out.below hbr UV8.out)
    have UV9:=jj (UV8.out.mono hbr.size)
    have HL0:=jj hlt
    clear hlt hbr
    obtain ⟨wm,hwm⟩:∃ X,X=wr:=⟨_,rfl⟩
    rw [←hwm] at KTr KVr KPr HB9 HX9 UX9 HP9 UP9 HV9 UV9 ⊢
    clear hwm
    have hii:((i:Int)<(us.length:Int))=False:=eq_false (by have:=HL0.out;omega)
    have hid:decide ((i:Int)<(us.length:Int))=false:=decide_eq_false (by have:=HL0.out;omega)
    obtain ⟨cT0,cT1,lT⟩:=KTr.c2
    obtain ⟨cP0,cP1,cP2,cP3,cP4,cP5,lP⟩:=KPr.c6
    obtain ⟨cV0,cV1,cV2,lV⟩:=KVr.c3
    go_wp2_with fail
    clear cT0 cT1 lT cP0 cP1 cP2 cP3 cP4 cP5 lP cV0 cV1 cV2 lV
    refine (impl_MatchPattern xs t p v HPZ.out HVZ.out wm _ FX _ FP _ FV HX9.out UX9.out HP9.out UP9.out HV9.out UV9.out).mono ?_
    rintro e wn ⟨xB,FB,rfl,hbn,hgn,-,-⟩
    have hm1:matchB xs t p v=true:=by rw [HPO.out,match_patOf v HVV.out];exact (V.same_iff v v).2 rfl
    have hm2:matchV xs t p v=[]:=by rw [HPO.out];exact matchV_patOf HVV.out
    rw [hm2] at hgn
    rw [hm1]
    obtain ⟨bA,bc,rfl,-,-⟩:=hgn.form
    have HTX:Hid (fmtP xs t p=fmtV xs t v):=by rw [HPO.out];exact text_patOf HVV.out
    clear hm1 hm2 hgn
    have HBn:=jj (HB9.out.trans (hbn.mono HB9.out.size))
    have KTn:=KTr.same (hbn.block _ KTr.lt)
    have KVn:=KVr.same (hbn.block _ KVr.lt)
    have KPn:=KPr.same (hbn.block _ KPr.lt)
    have HXn:=jj (ArrDt.below HX9.out hbn UX9.out)
    have UXn:=jj (UX9.out.mono hbn.size)
    have HPn:=jj (HP9.out.below hbn UP9.out)
    have UPn:=jj (UP9.out.mono hbn.size)
    have HVn:=jj (HV9.out.below hbn UV9.out)
    have UVn:=jj (UV9.out.mono hbn.size)
    clear hbn KTr KVr KPr
    obtain ⟨x0,x1,xlt⟩:=KTn.c2
    obtain ⟨p0,p1,p2,p3,p4,p5,plt⟩:=KPn.c6
    obtain ⟨z0,z1,z2,zlt⟩:=KVn.c3
    clear KTn KVn KPn
    go_wp2_with fail
    have HS:Hid (∀ C:World,Below wn wn C→(C.cell? ⟨w1,0,none⟩=t.d∧C.cell? ⟨w1,1,none⟩=t.i∧C.cell? ⟨kp,0,none⟩=p.op∧C.cell? ⟨kp,1,none⟩=p.ct∧C.cell? ⟨kp,2,none⟩=p.n∧C.cell? ⟨kp,3,none⟩=p.m∧C.cell? ⟨kp,4,none⟩=p.va∧C.cell? ⟨kp,5,none⟩=some (.slice pA p.ks.length pcap)∧C.cell? ⟨w1.heap.size+1,0,none⟩=v.c∧C.cell? ⟨w1.heap.size+1,1,none⟩=v.n∧C.cell? ⟨w1.heap.size+1,2,none⟩=some (.slice vA v.ks.length vcap))):=fun C hb=>⟨(hb.cell (xlt)).trans x0,(hb.cell (xlt)).trans x1,(hb.cell (plt)).trans p0,(hb.cell (plt)).trans p1,(hb.cell (plt)).trans p2,(hb.cell (plt)).trans p3,(hb.cell (plt)).trans p4,(hb.cell (plt)).trans p5,(hb.cell (zlt)).trans z0,(hb.cell (zlt)).trans z1,(hb.cell (zlt)).trans z2⟩
    have hC0:Below wn wn wn.drew:=(zy2 _ _).drew
    refine wpBS HS.out (T:=fun _=>True) (d:=99) (by kernel_rfl) ?_
    obtain ⟨wd,hwd⟩:∃ X,X=wn.drew:=⟨_,rfl⟩
    rw [←hwd] at hC0  ⊢
    clear hwd
    have hS0:=HS.out _ hC0
    have hT0:True:=trivial
    refine wV 0 rfl hS0 hT0 ?_
    (try simp only [zz])
    refine wV 1 rfl hS0 hT0 ?_
    (try simp only [zz])
    refine wV 2 rfl hS0 hT0 ?_
    (try simp only [zz])
    refine wV 3 rfl hS0 hT0 ?_
    (try simp only [zz])
    refine wV 4 rfl hS0 hT0 ?_
    (try simp only [zz])
    refine wV 5 rfl hS0 hT0 ?_
    (try simp only [zz])
    refine wV 6 rfl hS0 hT0 ?_
    (try simp only [zz])
    refine wV 7 rfl hS0 hT0 ?_
    (try simp only [zz])
    refine wV 8 rfl hS0 hT0 ?_
    (try simp only [zz])
    refine wV 9 rfl hS0 hT0 ?_
    (try simp only [zz])
    refine wV 11 rfl hS0 hT0 ?_
    (try simp only [zz])
    refine wV 12 rfl hS0 hT0 ?_
    (try simp only [zz])
    refine wV 13 rfl hS0 hT0 ?_
    (try simp only [zz])
    refine Go.Proofs.YtjjclcmmfeegfaaGreatDoor.w1 10 rfl fun K hK=>?_
    go_simp
    go_at_call 8
    refine (impl_FormatPattern xs t p HPZ.out wd _ FX _ FP (ArrDt.below HXn.out hC0 UXn.out) (UXn.out.mono hC0.size) (HPn.out.below hC0 UPn.out) (UPn.out.mono hC0.size)).mono ?_
    rintro e D1 ⟨rfl,hb11⟩
    have hC1:Below wn wn D1:=hC0.trans (hb11.mono hC0.size)
    have hS1:=HS.out _ hC1
    (try dsimp only)
    refine hK.out _ _ hS1 (fun _=>trivial) ?_
    clear hK K
    (try simp only [zz])
    refine Go.Proofs.YtjjclcmmfeegfaaGreatDoor.w1 14 rfl fun K hK=>?_
    go_simp
    go_at_call 29
    refine (impl_FormatValue xs t v D1 _ FX _ FV (ArrDt.below HXn.out hC1 UXn.out) (UXn.out.mono hC1.size) (HVn.out.below hC1 UVn.out) (UVn.out.mono hC1.size) HVZ.out).mono ?_
    rintro e D2 ⟨rfl,hb12⟩
    have hC2:Below wn wn D2:=hC1.trans (hb12.mono hC1.size)
    have hS2:=HS.out _ hC2
    rw [HTX.out]
    (try dsimp only)
    refine hK.out _ _ hS2 (fun _=>trivial) ?_
    clear hK K
    (try simp only [zz])
    refine wV 15 rfl hS2 hT0 ?_
    (try simp only [zz])
    refine wV 16 rfl hS2 hT0 ?_
    (try simp only [zz])
    refine wV 17 rfl hS2 hT0 ?_
    (try simp only [zz])
    refine wE (by kernel_rfl) ?_
    have hB9:=HBn.out.trans (hC2.mono HBn.out.size)
    clear hS0 hS1 hS2 hT0
    go_wp2
    go_ret
    exact ⟨rfl,hB9⟩
end Go.Proofs.YtjjclcmmfeegfaaGreatDoor.fnPatternOf
namespace Go.Proofs.YtjjclcmmfeegfaaGreatDoor.fnPatternOf
open Go.ChangeShapes Go.WideShapes Go.ChangeAt Go.RowKit
open Go.ChangeMaps (open_string shut_string)
set_option linter.unusedVariables false

theorem own : ownKnob Tryz.prog.godebug = none := by kernel_rfl
theorem laidOut : laidOutB Tryz.prog = true := by kernel_rfl
theorem door_met (os : Os) (args : Array Value) : laidMetH Tryz.prog Rows.fnPatternOfRow.laid ((World.doorLaid Tryz.prog 24 os).forCall (fun _ _ => 0) ⟨#[], args, []⟩).memory :=
  laidMetH_of_parts3 (fuel := 8) (laidMet_of_run' 8 (by kernel_rfl) (by kernel_rfl)) (by kernel_rfl) (by kernel_rfl)

set_option maxRecDepth 100000 in
theorem lifted (os : Os) (started : os.Started) (H : Type) (enc : TypeId × Value → H) :
    ReturnsInHanded {} Tryz.checked os 6 .any (fun w args => (Rows.fnPatternOfSpec.pre enc Tryz.prog Tryz.f6 [] false w args ∧ laidMetH Tryz.prog Rows.fnPatternOfRow.laid w) ∧ sizedMet enc Tryz.prog Tryz.f6 (OpenSpec.ofChange Rows.fnPatternOfSpec) false w args)
      (Rows.fnPatternOfSpec.post enc Tryz.prog Tryz.f6 false true false false) := by
  refine returnsInHanded_of_change_and (C := Tryz.checked) (X := fun w _ => laidMetH Tryz.prog Rows.fnPatternOfRow.laid w) (fun _ _ _ hh h => h.of_heap hh) own started (by kernel_rfl) Tryz.func6
    (ChangeSpec.witness_shaped (enc := enc) (C := Tryz.checked) (os := os) (X := fun w _ => laidMetH Tryz.prog Rows.fnPatternOfRow.laid w) false (World.doorLaid Tryz.prog 24 os) #[.slice none 0 0] 8 rfl (World.shaped_of_RefB (by kernel_rfl) (by kernel_rfl)) (by kernel_rfl) (by kernel_rfl) (by kernel_rfl) (door_met os _)) ?_
  intro W base args ds gs before hval0 hW _ _ _ _
  have hval : ∀ (j : Nat) t v, Tryz.f6.params[j]? = some t → args[j]? = some v → Value.okWide Tryz.prog W .any base t v := hval0
  have hW' := hW
  obtain ⟨p, q, hA0, hV, rfl, hfz, hnd⟩ := hW
  have hA : DataW.TrodAll enc Tryz.prog W 0 (fun _ => true) true Tryz.f6.params.toList args.toList ds p := hA0
  rw [Tryz.params6] at hA hval
  obtain ⟨v0, vs0, d0, ds0, p0, q0, hargs, rfl, rfl, h0, r0⟩ := trodAll_cons hA
  obtain ⟨rfl, rfl, rfl⟩ := trodAll_nil r0
  obtain rfl : args = #[v0] := by cases args; simp_all
  obtain ⟨rfl, rfl⟩ := trodVars_none hV
  have k0 := h0
  have lt0 : ∀ x ∈ p0, x.block < W.heap.size := by obtain ⟨m, hm⟩ := k0; exact DataW.trod_lt m _ _ _ hm
  obtain ⟨x0, F0, hR0, hU0⟩ := open_Bytes (hval 0 22 v0 rfl rfl) h0
  clear hA0 hval0
  refine (walk x0 v0 F0 hR0 hU0 W rfl).mono fun e W' ⟨he, bel⟩ => ?_
  subst he
  exact ⟨_, rfl, _, _, _, [], _, [], hW', trodAll_mk1 (shut_bool Tryz.underlying4 _), (trodAll_cons_mk (Below.trod laidOut (by kernel_rfl) (of_decide_eq_true (by kernel_rfl)) k0 bel lt0) trodAll_mk0), rfl, bel.frame _, fun h => by cases h⟩

theorem over : Rows.fnPatternOfRow.holds Tryz.pinned (OpenSpec.ofChange Rows.fnPatternOfSpec) :=
  OpenClaim.holds_of_wide 6 Tryz.f6 rfl rfl rfl rfl rfl rfl rfl ⟨rfl, rfl, rfl, rfl, rfl⟩ rfl rfl rfl rfl rfl (by kernel_rfl) Tryz.func6 (by kernel_rfl)
    (of_decide_eq_true (by kernel_rfl)) (by unfold Func.isWrapper; first | (rw [if_pos (by decide +kernel)]; kernel_rfl) | (rw [if_neg (by decide +kernel)]; exact ⟨rfl, rfl⟩))
    (fun os started H enc _ => lifted os started H enc)

theorem proved : Rows.FnPatternOfCardSaid :=
  Claim7.holds_tied_plain_at .later _ _ _ _ _
    over (fun _ h => by cases h) (by kernel_rfl) (fun _ h => by cases h) fnPatternOf_row_tie rfl ⟨rfl, rfl⟩ (by kernel_rfl) rfl
    (fun f fn hf hfn => by
      obtain rfl : f = 6 := Option.some.inj ((show Tryz.prog.funcNamed "loop.example/matchcompiler/laws.FnPatternOf" = some 6 by kernel_rfl).symm.trans hf) |>.symm
      obtain rfl : fn = Tryz.f6 := (Option.some.inj (Tryz.func6.symm.trans hfn)).symm
      exact ⟨by kernel_rfl, fun j t ht => by
        rw [Tryz.params6] at ht
        have hm : t ∈ [22] := by simpa using Array.mem_of_getElem? ht
        have hall : ([22].all fun u => !Tryz.prog.wantsStandIn u) = true := by kernel_rfl
        exact (show Tryz.prog.wantsStandIn t = false by simpa using List.all_eq_true.1 hall t hm)⟩)
    (by kernel_rfl)
end Go.Proofs.YtjjclcmmfeegfaaGreatDoor.fnPatternOf
