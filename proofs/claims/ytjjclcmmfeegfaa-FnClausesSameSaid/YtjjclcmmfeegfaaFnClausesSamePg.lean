/-
  FnClausesSame: for every argument the law returns true. Conditions: none.
-/
import Derived.Test.YtjjclcmmfeegfaaGAI
import Derived.Test.YtjjclcmmfeegfaaGAJ
import Derived.Test.YtjjclcmmfeegfaaGAL
import Derived.Deep.RegionWith
import Derived.Deep.RegionHeld3
import Derived.BigQuiet
import Derived.Test.YtjjclcmmfeegfaaRows
import Derived.ProofKit
import Derived.OpenShut
import Derived.ShutString
import Derived.ChangeOld
import Derived.Below

set_option linter.unusedVariables false
set_option linter.unusedSimpArgs false
set_option maxRecDepth 100000
set_option maxHeartbeats 1600000

namespace Go.Proofs.Ytjjclcmmfeegfaa.fnClausesSame
open Go.RowKit
theorem same_comm (as1 bs1:List Cl):sameBy Cl.same as1 bs1=sameBy Cl.same bs1 as1:=by
 rw [Bool.eq_iff_iff,sameBy_iff Cl.same_iff,sameBy_iff Cl.same_iff]
 exact ⟨Eq.symm,Eq.symm⟩
theorem one_valid (xs:List Dt) (t:Ty) (c:Cl):clausesValidB xs t [c]=clauseValidB xs t c:=by
 unfold clausesValidB clauseValidB
 simp
theorem arr_cl2 {w:World} {y:Cl} {cs:List Value} {G:List Nat} {H:Nat} {T:TypeId} (hk:Blk w H T cs.toArray) (h:ClR w y cs G):Arr w (ClR w) [y] (.slice (some ⟨H,0,none⟩) 1 1) (H :: G) :=
 ⟨_,_,rfl,zz8 _,by simp [maxLen],.inr ⟨H,0,cs,G,rfl,(fun j u hj=>by rw [Nat.zero_add,hk.cell];simpa using hj),Flat.one h,rfl⟩⟩
set_option maxHeartbeats 8000000 in
theorem walk {W:World} (x0:List Int) (v0:Value) (F0:List Nat) (hR0:Arr W (ByR W) x0 v0 F0) (hU0:Under W F0) (x1:List Int) (v1:Value) (F1:List Nat) (hR1:Arr W (ByR W) x1 v1 F1) (hU1:Under W F1) (w:World) (hw:w=W) :
  Calls Try.prog 5 #[v0,v1] w fun e w'=>e=.returned (.bool true)∧Below w w w':=by
 subst hw
 obtain ⟨A0,cap0,rfl,-,-⟩:=hR0.form
 have HR0:=jj hR0
 have HU0:=jj hU0
 clear hR0 hU0
 obtain ⟨A1,cap1,rfl,-,-⟩:=hR1.form
 have HR1:=jj hR1
 have HU1:=jj hU1
 clear hR1 hU1
 by_cases hlen:1048576<x0.length
 ·have t0:decide ((x0.length:Int)>1048576)=true:=decide_eq_true (by omega)
  go_enter Try.func5,Try.ntmps5
  go_wp2
  go_ret
  exact ⟨rfl,zy2 _ _⟩
 have t0:decide ((x0.length:Int)>1048576)=false:=decide_eq_false (by omega)
 by_cases hlen1:1048576<x1.length
 ·have t1:decide ((x1.length:Int)>1048576)=true:=decide_eq_true (by omega)
  go_enter Try.func5,Try.ntmps5
  go_wp2
  go_ret
  exact ⟨rfl,zy2 _ _⟩
 have t1:decide ((x1.length:Int)>1048576)=false:=decide_eq_false (by omega)
 go_enter Try.func5,Try.ntmps5
 go_wp2_with fail
 refine (spec_DrawClausesSame x0 w _ F0 HR0.out HU0.out).mono ?_
 rintro e w1 ⟨l1,l2,v1,v2,FA,FB,rfl,hb1,ha,hua,hb,hub⟩
 obtain ⟨aA,acap,rfl,-,-⟩:=ha.form
 obtain ⟨bA,bcap,rfl,-,-⟩:=hb.form
 have hB1:Below w w w1:=hb1
 have HA1:=jj ha
 have UA1:=jj hua
 have HB1:=jj hb
 have UB1:=jj hub
 have HY1:Hid (Arr w1 (ByR w1) x1 (.slice A1 x1.length cap1) F1):=ArrBy.mono HR1.out (.of_below hb1 HU1.out)
 have UY1:Hid (Under w1 F1):=HU1.out.mono hb1.size
 clear ha hua hb hub hb1 HR0 HU0 HR1 HU1
 go_wp2_with fail
 refine (impl_ClausesSame l1 l2 w1 _ _ FA FB HA1.out HB1.out UA1.out UB1.out).mono ?_
 rintro e w2 ⟨rfl,hb2⟩
 have hB2:=hB1.trans (hb2.mono hB1.size)
 have HA2:Hid (Arr w2 (ClR w2) l1 (.slice aA l1.length acap) FA):=(ArrCl.below HA1.out hb2 UA1.out)
 have UA2:=jj (UA1.out.mono hb2.size)
 have HB2:Hid (Arr w2 (ClR w2) l2 (.slice bA l2.length bcap) FB):=(ArrCl.below HB1.out hb2 UB1.out)
 have UB2:=jj (UB1.out.mono hb2.size)
 have HY2:Hid (Arr w2 (ByR w2) x1 (.slice A1 x1.length cap1) F1):=(ArrBy.mono HY1.out (.of_below hb2 UY1.out))
 have UY2:=jj (UY1.out.mono hb2.size)
 clear hB1 hb2  HA1 UA1 HB1 UB1 HY1 UY1
 obtain ⟨q,hq⟩:∃ q,q=sameBy Cl.same l1 l2:=⟨_,rfl⟩
 rw [←hq]
 have HQ:=jj hq
 clear hq
 have hqq:(q==q)=true:=beq_self_eq_true q
 go_wp2_with fail
 refine (spec_DrawClauseValid x1 w2 _ F1 HY2.out UY2.out).mono ?_
 rintro e w3 ⟨xs,xv,FX,t,c,cs,FC,rfl,hb3,hx,hfx,hcl,hfc,hnc⟩
 obtain ⟨xA,xcap,rfl,-,-⟩:=hx.form
 obtain ⟨cA,ccap,hcs⟩:=zAV hcl
 subst hcs
 have HX3:=jj hx
 have UX3:=jj hfx
 have HC3:=jj hcl
 have UC3:=jj hfc
 have HCZ:Hid (c.size≤1048576):=by show c.pat.size≤1048576;unfold nodesP at hnc;omega
 have HCZ2:Hid (Cl.sizes [c]≤1048576):=by
  have e:Cl.sizes [c]=1+(c.pat.size+0):=rfl
  unfold Hid;rw [e];unfold nodesP at hnc;omega
 clear hx hfx hcl hfc hnc
 have hB3:=hB2.trans (hb3.mono hB2.size)
 have HA3:Hid (Arr w3 (ClR w3) l1 (.slice aA l1.length acap) FA):=(ArrCl.below HA2.out hb3 UA2.out)
 have UA3:=jj (UA2.out.mono hb3.size)
 have HB3:Hid (Arr w3 (ClR w3) l2 (.slice bA l2.length bcap) FB):=(ArrCl.below HB2.out hb3 UB2.out)
 have UB3:=jj (UB2.out.mono hb3.size)
 clear hB2 hb3  HA2 UA2 HB2 UB2
 have hb4:Below w3 w3 ((w3.alloc (.cells #[t.d,t.i] 25)).alloc (.cells #[c.pat.op,c.pat.ct,c.pat.n,c.pat.m,c.pat.va,.slice cA c.pat.ks.length ccap,c.gd.op,c.gd.va,c.gd.n] 55)):=((zy2 _ _).alloc (zz8 _) _).alloc (by simp) _
 have KT4:Hid (Blk ((w3.alloc (.cells #[t.d,t.i] 25)).alloc (.cells #[c.pat.op,c.pat.ct,c.pat.n,c.pat.m,c.pat.va,.slice cA c.pat.ks.length ccap,c.gd.op,c.gd.va,c.gd.n] 55)) w3.heap.size 25 #[t.d,t.i]):=(Blk.new w3 _ _).same (Below.heap_alloc _ _ _ (by simp))
 have KC4:Hid (Blk ((w3.alloc (.cells #[t.d,t.i] 25)).alloc (.cells #[c.pat.op,c.pat.ct,c.pat.n,c.pat.m,c.pat.va,.slice cA c.pat.ks.length ccap,c.gd.op,c.gd.va,c.gd.n] 55)) (w3.heap.size+1) 55 #[c.pat.op,c.pat.ct,c.pat.n,c.pat.m,c.pat.va,.slice cA c.pat.ks.length ccap,c.gd.op,c.gd.va,c.gd.n]):=zA8 w3 _ 55 _
 have hB4:Below w w ((w3.alloc (.cells #[t.d,t.i] 25)).alloc (.cells #[c.pat.op,c.pat.ct,c.pat.n,c.pat.m,c.pat.va,.slice cA c.pat.ks.length ccap,c.gd.op,c.gd.va,c.gd.n] 55)):=hB3.trans (hb4.mono hB3.size)
 have HA4:Hid (Arr ((w3.alloc (.cells #[t.d,t.i] 25)).alloc (.cells #[c.pat.op,c.pat.ct,c.pat.n,c.pat.m,c.pat.va,.slice cA c.pat.ks.length ccap,c.gd.op,c.gd.va,c.gd.n] 55)) (ClR ((w3.alloc (.cells #[t.d,t.i] 25)).alloc (.cells #[c.pat.op,c.pat.ct,c.pat.n,c.pat.m,c.pat.va,.slice cA c.pat.ks.length ccap,c.gd.op,c.gd.va,c.gd.n] 55))) l1 (.slice aA l1.length acap) FA):=(ArrCl.below HA3.out hb4 UA3.out)
 have UA4:Hid (Under (((w3.alloc (.cells #[t.d,t.i] 25)).alloc (.cells #[c.pat.op,c.pat.ct,c.pat.n,c.pat.m,c.pat.va,.slice cA c.pat.ks.length ccap,c.gd.op,c.gd.va,c.gd.n] 55))).heap.size FA):=UA3.out.mono hb4.size
 clear HA3 UA3
 have HB4:Hid (Arr ((w3.alloc (.cells #[t.d,t.i] 25)).alloc (.cells #[c.pat.op,c.pat.ct,c.pat.n,c.pat.m,c.pat.va,.slice cA c.pat.ks.length ccap,c.gd.op,c.gd.va,c.gd.n] 55)) (ClR ((w3.alloc (.cells #[t.d,t.i] 25)).alloc (.cells #[c.pat.op,c.pat.ct,c.pat.n,c.pat.m,c.pat.va,.slice cA c.pat.ks.length ccap,c.gd.op,c.gd.va,c.gd.n] 55))) l2 (.slice bA l2.length bcap) FB):=(ArrCl.below HB3.out hb4 UB3.out)
 have UB4:Hid (Under (((w3.alloc (.cells #[t.d,t.i] 25)).alloc (.cells #[c.pat.op,c.pat.ct,c.pat.n,c.pat.m,c.pat.va,.slice cA c.pat.ks.length ccap,c.gd.op,c.gd.va,c.gd.n] 55))).heap.size FB):=UB3.out.mono hb4.size
 clear HB3 UB3
 have HX4:Hid (Arr ((w3.alloc (.cells #[t.d,t.i] 25)).alloc (.cells #[c.pat.op,c.pat.ct,c.pat.n,c.pat.m,c.pat.va,.slice cA c.pat.ks.length ccap,c.gd.op,c.gd.va,c.gd.n] 55)) (DtR ((w3.alloc (.cells #[t.d,t.i] 25)).alloc (.cells #[c.pat.op,c.pat.ct,c.pat.n,c.pat.m,c.pat.va,.slice cA c.pat.ks.length ccap,c.gd.op,c.gd.va,c.gd.n] 55))) xs (.slice xA xs.length xcap) FX):=(HX3.out.mono (.of_below hb4 UX3.out) (fun x _ cs G hk h=>DtR.mono x cs G hk h))
 have UX4:Hid (Under (((w3.alloc (.cells #[t.d,t.i] 25)).alloc (.cells #[c.pat.op,c.pat.ct,c.pat.n,c.pat.m,c.pat.va,.slice cA c.pat.ks.length ccap,c.gd.op,c.gd.va,c.gd.n] 55))).heap.size FX):=UX3.out.mono hb4.size
 clear HX3 UX3
 have HC4:Hid (ClR ((w3.alloc (.cells #[t.d,t.i] 25)).alloc (.cells #[c.pat.op,c.pat.ct,c.pat.n,c.pat.m,c.pat.va,.slice cA c.pat.ks.length ccap,c.gd.op,c.gd.va,c.gd.n] 55)) c [c.pat.op,c.pat.ct,c.pat.n,c.pat.m,c.pat.va,.slice cA c.pat.ks.length ccap,c.gd.op,c.gd.va,c.gd.n] FC):=(ClR.below HC3.out hb4 UC3.out)
 have UC4:Hid (Under (((w3.alloc (.cells #[t.d,t.i] 25)).alloc (.cells #[c.pat.op,c.pat.ct,c.pat.n,c.pat.m,c.pat.va,.slice cA c.pat.ks.length ccap,c.gd.op,c.gd.va,c.gd.n] 55))).heap.size FC):=UC3.out.mono hb4.size
 clear HC3 UC3
 clear hB3 hb4
 go_wp2_with fail
 obtain ⟨w4,hw4⟩:∃ X,X=((w3.alloc (.cells #[t.d,t.i] 25)).alloc (.cells #[c.pat.op,c.pat.ct,c.pat.n,c.pat.m,c.pat.va,.slice cA c.pat.ks.length ccap,c.gd.op,c.gd.va,c.gd.n] 55)):=⟨_,rfl⟩
 rw [←hw4] at hB4 KT4 KC4 HA4 UA4 HB4 UB4 HX4 UX4 HC4 UC4 ⊢
 clear hw4
 obtain ⟨kt,hkt⟩:∃ X,X=w3.heap.size:=⟨_,rfl⟩
 rw [←hkt] at KT4 KC4 ⊢
 obtain ⟨kc,hkc⟩:∃ X,X=kt+1:=⟨_,rfl⟩
 rw [←hkc] at KC4 ⊢
 clear hkt hkc
 refine (impl_ClauseValid xs t c HCZ.out w4 _ FX _ FC HX4.out UX4.out HC4.out UC4.out).mono ?_
 rintro e w5 ⟨rfl,hb5⟩
 have hB5:=hB4.trans (hb5.mono hB4.size)
 have KT5:=jj (KT4.out.same (hb5.block _ KT4.out.lt))
 have KC5:=jj (KC4.out.same (hb5.block _ KC4.out.lt))
 have HA5:Hid (Arr w5 (ClR w5) l1 (.slice aA l1.length acap) FA):=(ArrCl.below HA4.out hb5 UA4.out)
 have UA5:=jj (UA4.out.mono hb5.size)
 have HB5:Hid (Arr w5 (ClR w5) l2 (.slice bA l2.length bcap) FB):=(ArrCl.below HB4.out hb5 UB4.out)
 have UB5:=jj (UB4.out.mono hb5.size)
 have HX5:Hid (Arr w5 (DtR w5) xs (.slice xA xs.length xcap) FX):=(HX4.out.mono (.of_below hb5 UX4.out) (fun x _ cs G hk h=>DtR.mono x cs G hk h))
 have UX5:=jj (UX4.out.mono hb5.size)
 have HC5:Hid (ClR w5 c [c.pat.op,c.pat.ct,c.pat.n,c.pat.m,c.pat.va,.slice cA c.pat.ks.length ccap,c.gd.op,c.gd.va,c.gd.n] FC):=(ClR.below HC4.out hb5 UC4.out)
 have UC5:=jj (UC4.out.mono hb5.size)
 clear hB4 hb5 KT4 KC4 HA4 UA4 HB4 UB4 HX4 UX4 HC4 UC4
 obtain ⟨r,hr⟩:∃ r,r=clauseValidB xs t c:=⟨_,rfl⟩
 rw [←hr]
 have HRV:=jj hr
 clear hr
 have hrr:(r==r)=true:=beq_self_eq_true r
 go_wp2_with fail
 refine (spec_ClausesSame l1 l2 w5 _ _ FA FB HA5.out HB5.out UA5.out UB5.out).mono ?_
 rintro e w6 ⟨rfl,hb6⟩
 have hB6:=hB5.trans (hb6.mono hB5.size)
 have KT6:=jj (KT5.out.same (hb6.block _ KT5.out.lt))
 have KC6:=jj (KC5.out.same (hb6.block _ KC5.out.lt))
 have HA6:Hid (Arr w6 (ClR w6) l1 (.slice aA l1.length acap) FA):=(ArrCl.below HA5.out hb6 UA5.out)
 have UA6:=jj (UA5.out.mono hb6.size)
 have HB6:Hid (Arr w6 (ClR w6) l2 (.slice bA l2.length bcap) FB):=(ArrCl.below HB5.out hb6 UB5.out)
 have UB6:=jj (UB5.out.mono hb6.size)
 have HX6:Hid (Arr w6 (DtR w6) xs (.slice xA xs.length xcap) FX):=(HX5.out.mono (.of_below hb6 UX5.out) (fun x _ cs G hk h=>DtR.mono x cs G hk h))
 have UX6:=jj (UX5.out.mono hb6.size)
 have HC6:Hid (ClR w6 c [c.pat.op,c.pat.ct,c.pat.n,c.pat.m,c.pat.va,.slice cA c.pat.ks.length ccap,c.gd.op,c.gd.va,c.gd.n] FC):=(ClR.below HC5.out hb6 UC5.out)
 have UC6:=jj (UC5.out.mono hb6.size)
 clear hB5 hb6 KT5 KC5 HA5 UA5 HB5 UB5 HX5 UX5 HC5 UC5
 rw [←HQ.out]
 go_wp2_with fail
 refine (impl_ClausesSame l2 l1 w6 _ _ FB FA HB6.out HA6.out UB6.out UA6.out).mono ?_
 rintro e w7 ⟨rfl,hb7⟩
 have hB7:=hB6.trans (hb7.mono hB6.size)
 have KT7:=jj (KT6.out.same (hb7.block _ KT6.out.lt))
 have KC7:=jj (KC6.out.same (hb7.block _ KC6.out.lt))
 have HA7:Hid (Arr w7 (ClR w7) l1 (.slice aA l1.length acap) FA):=(ArrCl.below HA6.out hb7 UA6.out)
 have UA7:=jj (UA6.out.mono hb7.size)
 have HB7:Hid (Arr w7 (ClR w7) l2 (.slice bA l2.length bcap) FB):=(ArrCl.below HB6.out hb7 UB6.out)
 have UB7:=jj (UB6.out.mono hb7.size)
 have HX7:Hid (Arr w7 (DtR w7) xs (.slice xA xs.length xcap) FX):=(HX6.out.mono (.of_below hb7 UX6.out) (fun x _ cs G hk h=>DtR.mono x cs G hk h))
 have UX7:=jj (UX6.out.mono hb7.size)
 have HC7:Hid (ClR w7 c [c.pat.op,c.pat.ct,c.pat.n,c.pat.m,c.pat.va,.slice cA c.pat.ks.length ccap,c.gd.op,c.gd.va,c.gd.n] FC):=(ClR.below HC6.out hb7 UC6.out)
 have UC7:=jj (UC6.out.mono hb7.size)
 clear hB6 hb7 KT6 KC6 HA6 UA6 HB6 UB6 HX6 UX6 HC6 UC6
 rw [same_comm l2 l1,←HQ.out]
 go_wp2_with fail
 refine (impl_ClausesSame l1 l1 w7 _ _ FA FA HA7.out HA7.out UA7.out UA7.out).mono ?_
 rintro e w8 ⟨rfl,hb8⟩
 have hB8:=hB7.trans (hb8.mono hB7.size)
 have KT8:=jj (KT7.out.same (hb8.block _ KT7.out.lt))
 have KC8:=jj (KC7.out.same (hb8.block _ KC7.out.lt))
 have HA8:Hid (Arr w8 (ClR w8) l1 (.slice aA l1.length acap) FA):=(ArrCl.below HA7.out hb8 UA7.out)
 have UA8:=jj (UA7.out.mono hb8.size)
 have HB8:Hid (Arr w8 (ClR w8) l2 (.slice bA l2.length bcap) FB):=(ArrCl.below HB7.out hb8 UB7.out)
 have UB8:=jj (UB7.out.mono hb8.size)
 have HX8:Hid (Arr w8 (DtR w8) xs (.slice xA xs.length xcap) FX):=(HX7.out.mono (.of_below hb8 UX7.out) (fun x _ cs G hk h=>DtR.mono x cs G hk h))
 have UX8:=jj (UX7.out.mono hb8.size)
 have HC8:Hid (ClR w8 c [c.pat.op,c.pat.ct,c.pat.n,c.pat.m,c.pat.va,.slice cA c.pat.ks.length ccap,c.gd.op,c.gd.va,c.gd.n] FC):=(ClR.below HC7.out hb8 UC7.out)
 have UC8:=jj (UC7.out.mono hb8.size)
 clear hB7 hb8 KT7 KC7 HA7 UA7 HB7 UB7 HX7 UX7 HC7 UC7
 rw [(sameBy_iff Cl.same_iff l1 l1).2 rfl]
 have cT0:w8.cell? ⟨kt,0,none⟩=t.d:=(KT8.out.cell 0).trans (by simp)
 have cT1:w8.cell? ⟨kt,1,none⟩=t.i:=(KT8.out.cell 1).trans (by simp)
 have lT:=KT8.out.lt
 have cC0:w8.cell? ⟨kc,0,none⟩=c.pat.op:=(KC8.out.cell 0).trans (by simp)
 have cC1:w8.cell? ⟨kc,1,none⟩=c.pat.ct:=(KC8.out.cell 1).trans (by simp)
 have cC2:w8.cell? ⟨kc,2,none⟩=c.pat.n:=(KC8.out.cell 2).trans (by simp)
 have cC3:w8.cell? ⟨kc,3,none⟩=c.pat.m:=(KC8.out.cell 3).trans (by simp)
 have cC4:w8.cell? ⟨kc,4,none⟩=c.pat.va:=(KC8.out.cell 4).trans (by simp)
 have cC5:w8.cell? ⟨kc,5,none⟩=some (.slice cA c.pat.ks.length ccap):=(KC8.out.cell 5).trans (by simp)
 have cC6:w8.cell? ⟨kc,6,none⟩=c.gd.op:=(KC8.out.cell 6).trans (by simp)
 have cC7:w8.cell? ⟨kc,7,none⟩=c.gd.va:=(KC8.out.cell 7).trans (by simp)
 have cC8:w8.cell? ⟨kc,8,none⟩=c.gd.n:=(KC8.out.cell 8).trans (by simp)
 have lC:=KC8.out.lt
 go_wp2_with fail
 clear cT0 cT1 lT cC0 cC1 cC2 cC3 cC4 cC5 cC6 cC7 cC8 lC
 refine (spec_ClauseValid xs t c HCZ.out w8 _ FX _ FC HX8.out UX8.out HC8.out UC8.out).mono ?_
 rintro e w9 ⟨rfl,hb9⟩
 have hB9:=hB8.trans (hb9.mono hB8.size)
 have KT9:=jj (KT8.out.same (hb9.block _ KT8.out.lt))
 have KC9:=jj (KC8.out.same (hb9.block _ KC8.out.lt))
 have HA9:Hid (Arr w9 (ClR w9) l1 (.slice aA l1.length acap) FA):=(ArrCl.below HA8.out hb9 UA8.out)
 have UA9:=jj (UA8.out.mono hb9.size)
 have HB9:Hid (Arr w9 (ClR w9) l2 (.slice bA l2.length bcap) FB):=(ArrCl.below HB8.out hb9 UB8.out)
 have UB9:=jj (UB8.out.mono hb9.size)
 have HX9:Hid (Arr w9 (DtR w9) xs (.slice xA xs.length xcap) FX):=(HX8.out.mono (.of_below hb9 UX8.out) (fun x _ cs G hk h=>DtR.mono x cs G hk h))
 have UX9:=jj (UX8.out.mono hb9.size)
 have HC9:Hid (ClR w9 c [c.pat.op,c.pat.ct,c.pat.n,c.pat.m,c.pat.va,.slice cA c.pat.ks.length ccap,c.gd.op,c.gd.va,c.gd.n] FC):=(ClR.below HC8.out hb9 UC8.out)
 have UC9:=jj (UC8.out.mono hb9.size)
 clear hB8 hb9 KT8 KC8 HA8 UA8 HB8 UB8 HX8 UX8 HC8 UC8
 rw [←HRV.out]
 have cT0:w9.cell? ⟨kt,0,none⟩=t.d:=(KT9.out.cell 0).trans (by simp)
 have cT1:w9.cell? ⟨kt,1,none⟩=t.i:=(KT9.out.cell 1).trans (by simp)
 have lT:=KT9.out.lt
 have cC0:w9.cell? ⟨kc,0,none⟩=c.pat.op:=(KC9.out.cell 0).trans (by simp)
 have cC1:w9.cell? ⟨kc,1,none⟩=c.pat.ct:=(KC9.out.cell 1).trans (by simp)
 have cC2:w9.cell? ⟨kc,2,none⟩=c.pat.n:=(KC9.out.cell 2).trans (by simp)
 have cC3:w9.cell? ⟨kc,3,none⟩=c.pat.m:=(KC9.out.cell 3).trans (by simp)
 have cC4:w9.cell? ⟨kc,4,none⟩=c.pat.va:=(KC9.out.cell 4).trans (by simp)
 have cC5:w9.cell? ⟨kc,5,none⟩=some (.slice cA c.pat.ks.length ccap):=(KC9.out.cell 5).trans (by simp)
 have cC6:w9.cell? ⟨kc,6,none⟩=c.gd.op:=(KC9.out.cell 6).trans (by simp)
 have cC7:w9.cell? ⟨kc,7,none⟩=c.gd.va:=(KC9.out.cell 7).trans (by simp)
 have cC8:w9.cell? ⟨kc,8,none⟩=c.gd.n:=(KC9.out.cell 8).trans (by simp)
 have lC:=KC9.out.lt
 have hb10:Below w9 w9 (w9.alloc (.cells #[c.pat.op,c.pat.ct,c.pat.n,c.pat.m,c.pat.va,.slice cA c.pat.ks.length ccap,c.gd.op,c.gd.va,c.gd.n] 55)):=(zy2 _ _).alloc (zz8 _) _
 have KH10:Hid (Blk (w9.alloc (.cells #[c.pat.op,c.pat.ct,c.pat.n,c.pat.m,c.pat.va,.slice cA c.pat.ks.length ccap,c.gd.op,c.gd.va,c.gd.n] 55)) w9.heap.size 55 #[c.pat.op,c.pat.ct,c.pat.n,c.pat.m,c.pat.va,.slice cA c.pat.ks.length ccap,c.gd.op,c.gd.va,c.gd.n]):=Blk.new w9 _ _
 go_wp2_with fail
 clear cT0 cT1 lT cC0 cC1 cC2 cC3 cC4 cC5 cC6 cC7 cC8 lC
 have hB10:=hB9.trans (hb10.mono hB9.size)
 have HX10:=jj (ArrDt.below HX9.out hb10 UX9.out)
 have UX10:=jj (UX9.out.mono hb10.size)
 have HC10:=jj (ClR.below HC9.out hb10 UC9.out)
 have UC10:=jj (UC9.out.mono hb10.size)
 obtain ⟨w10,hw10⟩:∃ X,X=(w9.alloc (.cells #[c.pat.op,c.pat.ct,c.pat.n,c.pat.m,c.pat.va,.slice cA c.pat.ks.length ccap,c.gd.op,c.gd.va,c.gd.n] 55)):=⟨_,rfl⟩
 rw [←hw10] at hB10 KH10 HX10 UX10 HC10 UC10 ⊢
 clear hw10 hb10
 refine (impl_ClausesValid xs t [c] HCZ2.out w10 _ _ FX (w9.heap.size :: FC) HX10.out UX10.out (arr_cl2 KH10.out HC10.out) (fun b hb=>by
  rcases List.mem_cons.1 hb with e | h
  ·rw [e];exact KH10.out.lt
  ·exact UC10.out b h)).mono ?_
 rintro e w11 ⟨rfl,hb11⟩
 have hB11:=hB10.trans (hb11.mono hB10.size)
 rw [one_valid,←HRV.out]
 go_wp2
 go_ret
 exact ⟨rfl,hB11⟩
end Go.Proofs.Ytjjclcmmfeegfaa.fnClausesSame
namespace Go.Proofs.Ytjjclcmmfeegfaa.fnClausesSame
open Go.ChangeShapes Go.WideShapes Go.ChangeAt Go.RowKit
open Go.ChangeMaps (open_string shut_string)
set_option linter.unusedVariables false

theorem own : ownKnob Try.prog.godebug = none := by kernel_rfl
theorem laidOut : laidOutB Try.prog = true := by kernel_rfl

set_option maxRecDepth 100000 in
theorem lifted (os : Os) (started : os.Started) (H : Type) (enc : TypeId × Value → H) :
    ReturnsInHanded {} Try.checked os 5 .any (Rows.fnClausesSameSpec.pre6 enc Try.prog Try.f5 Rows.fnClausesSameRow.domain false) (Rows.fnClausesSameSpec.post enc Try.prog Try.f5 false true false false) := by
  refine returnsInHanded_of_change (C := Try.checked) own started (by kernel_rfl) Try.func5
    (ChangeSpec.witness6 (enc := enc) (C := Try.checked) false ⟨#[], #[.slice none 0 0, .slice none 0 0], []⟩ 8 (by kernel_rfl) (by kernel_rfl) (by kernel_rfl) (by kernel_rfl)) ?_
  intro W base args ds gs before hval0 hW hcnd _
  have hval : ∀ (j : Nat) t v, Try.f5.params[j]? = some t → args[j]? = some v → Value.okWide Try.prog W .any base t v := hval0
  have hW' := hW
  obtain ⟨p, q, hA0, hV, rfl, hfz, hnd⟩ := hW
  have hA : DataW.TrodAll enc Try.prog W 0 (fun _ => true) true Try.f5.params.toList args.toList ds p := hA0
  rw [Try.params5] at hA hval
  obtain ⟨v0, vs0, d0, ds0, p0, q0, hargs, rfl, rfl, h0, r0⟩ := trodAll_cons hA
  obtain ⟨v1, vs1, d1, ds1, p1, q1, rfl, rfl, rfl, h1, r1⟩ := trodAll_cons r0
  obtain ⟨rfl, rfl, rfl⟩ := trodAll_nil r1
  obtain rfl : args = #[v0, v1] := by cases args; simp_all
  obtain ⟨rfl, rfl⟩ := trodVars_none hV
  have k0 := h0
  have lt0 : ∀ x ∈ p0, x.block < W.heap.size := by obtain ⟨m, hm⟩ := k0; exact DataW.trod_lt m _ _ _ hm
  have k1 := h1
  have lt1 : ∀ x ∈ p1, x.block < W.heap.size := by obtain ⟨m, hm⟩ := k1; exact DataW.trod_lt m _ _ _ hm
  obtain ⟨x0, F0, hR0, hU0⟩ := open_Bytes (hval 0 22 v0 rfl rfl) h0
  obtain ⟨x1, F1, hR1, hU1⟩ := open_Bytes (hval 1 22 v1 rfl rfl) h1
  clear hA0 hval0
  refine (walk x0 v0 F0 hR0 hU0 x1 v1 F1 hR1 hU1 W rfl).mono fun e W' ⟨he, bel⟩ => ?_
  subst he
  exact ⟨_, rfl, _, _, _, [], _, [], hW', trodAll_mk1 (shut_bool Try.underlying4 _), (trodAll_cons_mk (Below.trod laidOut (by kernel_rfl) (of_decide_eq_true (by kernel_rfl)) k0 bel lt0) (trodAll_cons_mk (Below.trod laidOut (by kernel_rfl) (of_decide_eq_true (by kernel_rfl)) k1 bel lt1) trodAll_mk0)), rfl, bel.frame _, fun h => by cases h⟩

set_option maxHeartbeats 4000000 in
theorem closed : joinedFacts Try.pinned.checked.prog 5 Try.f5 Rows.fnClausesSameSpec Rows.fnClausesSameRow = true := by
  unfold joinedFacts
  have key : ∀ a b : Bool, a = true → b = true → (a && b) = true := fun a b h1 h2 => by rw [h1, h2]; rfl
  repeat' (with_reducible refine key _ _ ?_ ?_)
  all_goals as_aux_lemma => kernel_rfl

theorem over : Rows.fnClausesSameRow.holds Try.pinned (OpenSpec.ofChange Rows.fnClausesSameSpec) :=
  OpenClaim.holds_of_wide 5 Try.f5 rfl rfl rfl rfl rfl rfl rfl ⟨rfl, rfl, rfl, rfl, rfl⟩ rfl rfl rfl rfl rfl (by kernel_rfl) Try.func5 closed
    (of_decide_eq_true (by kernel_rfl)) (by unfold Func.isWrapper; first | (rw [if_pos (by decide +kernel)]; kernel_rfl) | (rw [if_neg (by decide +kernel)]; exact ⟨rfl, rfl⟩))
    (fun os started H enc _ => lifted os started H enc)

theorem proved : Rows.FnClausesSameSaid := over
end Go.Proofs.Ytjjclcmmfeegfaa.fnClausesSame
