/-
  FnMatchParts: for every argument the law returns true. Conditions: none.
-/
import Derived.Test.YtghekinfoadcoaaGreatKAK
import Derived.Test.YtghekinfoadcoaaGreatKAP
import Derived.Test.YtghekinfoadcoaaGreatKAQ
import Derived.Test.YtghekinfoadcoaaGreatKAM
import Derived.Test.YtghekinfoadcoaaGreatKAB
import Derived.Test.YtghekinfoadcoaaGreatKAC
import Derived.Deep.RegionWith
import Derived.Deep.RegionHeld3
import Derived.BigQuiet
import Derived.Test.YtghekinfoadcoaaGreatRows
import Derived.ProofKit
import Derived.OpenShut
import Derived.ShutString
import Derived.ChangeOld
import Derived.Below

set_option linter.unusedVariables false
set_option linter.unusedSimpArgs false
set_option maxRecDepth 100000
set_option maxHeartbeats 1600000

namespace Go.Proofs.YtghekinfoadcoaaGreat.fnMatchParts
open Go.RowKit
set_option maxHeartbeats 8000000 in
theorem walk {W:World} (x0:List Int) (v0:Value) (F0:List Nat) (hR0:Arr W (ByR W) x0 v0 F0) (hU0:Under W.heap.size F0) (w:World) (hw:w=W) :
  Calls Tryz.prog 4 #[v0] w fun e w'=>e=.returned (.bool true)∧Below w.heap.size w w':=by
 subst hw
 obtain ⟨A0,cap0,rfl,-,-⟩:=hR0.form
 have HR0:=jj hR0
 have HU0:=jj hU0
 clear hR0 hU0
 by_cases hlen:1048576<x0.length
 ·have t0:decide ((x0.length:Int)>1048576)=true:=decide_eq_true (by omega)
  go_enter Tryz.func4,Tryz.ntmps4
  go_wp2
  go_ret
  exact ⟨rfl,zy2 _ _⟩
 have t0:decide ((x0.length:Int)>1048576)=false:=decide_eq_false (by omega)
 go_enter Tryz.func4,Tryz.ntmps4
 go_wp2_with fail
 refine (zBD x0 w _ F0 HR0.out HU0.out).mono ?_
 rintro e w1 ⟨xs,v1,FX,t,p,pA,pcap,FP,v,vA,vcap,FV,rfl,hb1,-,hx,hfx,hpp,hfp,hnp,hvv,hfv,hnv⟩
 obtain ⟨xA,xcap,rfl,-,-⟩:=hx.form
 have HPZ:Hid (p.size≤1048576):=by unfold nodesP at hnp;unfold Hid;omega
 have HNP:=jj hnp
 have HVZ:Hid (v.size≤1048576):=by unfold nodes at hnv;unfold Hid;omega
 have hb2:Below w1.heap.size w1 (((w1.alloc (.cells #[.int .i64 t.d,.int .i64 t.i] 39)).alloc (.cells #[.int .i64 p.op,.int .i64 p.ct,.int .i64 p.n,.int .i64 p.m,.int .i64 p.va,.slice pA p.ks.length pcap] 43)).alloc (.cells #[.int .i64 v.c,.int .i64 v.n,.slice vA v.ks.length vcap] 47)):=(((zy2 _ _).alloc (zz8 _) _).alloc (by simp) _).alloc (by simp;omega) _
 have hB2:Below w.heap.size w (((w1.alloc (.cells #[.int .i64 t.d,.int .i64 t.i] 39)).alloc (.cells #[.int .i64 p.op,.int .i64 p.ct,.int .i64 p.n,.int .i64 p.m,.int .i64 p.va,.slice pA p.ks.length pcap] 43)).alloc (.cells #[.int .i64 v.c,.int .i64 v.n,.slice vA v.ks.length vcap] 47)):=hb1.trans (hb2.mono hb1.size)
 have KT2:Hid (Blk (((w1.alloc (.cells #[.int .i64 t.d,.int .i64 t.i] 39)).alloc (.cells #[.int .i64 p.op,.int .i64 p.ct,.int .i64 p.n,.int .i64 p.m,.int .i64 p.va,.slice pA p.ks.length pcap] 43)).alloc (.cells #[.int .i64 v.c,.int .i64 v.n,.slice vA v.ks.length vcap] 47)) w1.heap.size 39 #[.int .i64 t.d,.int .i64 t.i]):=((Blk.new w1 _ _).same (Below.heap_alloc _ _ _ (by simp))).same (Below.heap_alloc _ _ _ (by simp;omega))
 have KP2:Hid (Blk (((w1.alloc (.cells #[.int .i64 t.d,.int .i64 t.i] 39)).alloc (.cells #[.int .i64 p.op,.int .i64 p.ct,.int .i64 p.n,.int .i64 p.m,.int .i64 p.va,.slice pA p.ks.length pcap] 43)).alloc (.cells #[.int .i64 v.c,.int .i64 v.n,.slice vA v.ks.length vcap] 47)) (w1.heap.size+1) 43 #[.int .i64 p.op,.int .i64 p.ct,.int .i64 p.n,.int .i64 p.m,.int .i64 p.va,.slice pA p.ks.length pcap]):=(zA7 w1 _ 43 _).same (Below.heap_alloc _ _ _ (by simp))
 have KV2:Hid (Blk (((w1.alloc (.cells #[.int .i64 t.d,.int .i64 t.i] 39)).alloc (.cells #[.int .i64 p.op,.int .i64 p.ct,.int .i64 p.n,.int .i64 p.m,.int .i64 p.va,.slice pA p.ks.length pcap] 43)).alloc (.cells #[.int .i64 v.c,.int .i64 v.n,.slice vA v.ks.length vcap] 47)) (w1.heap.size+2) 47 #[.int .i64 v.c,.int .i64 v.n,.slice vA v.ks.length vcap]):=by
  have h:=zA7 (w1.alloc (.cells #[.int .i64 t.d,.int .i64 t.i] 39)) (.cells #[.int .i64 p.op,.int .i64 p.ct,.int .i64 p.n,.int .i64 p.m,.int .i64 p.va,.slice pA p.ks.length pcap] 43) 47 #[.int .i64 v.c,.int .i64 v.n,.slice vA v.ks.length vcap]
  rw [World.size_alloc] at h
  exact h
 have HX2:=jj (ArrDt.below hx hb2 hfx.under)
 have UX2:Hid (Under ((((w1.alloc (.cells #[.int .i64 t.d,.int .i64 t.i] 39)).alloc (.cells #[.int .i64 p.op,.int .i64 p.ct,.int .i64 p.n,.int .i64 p.m,.int .i64 p.va,.slice pA p.ks.length pcap] 43)).alloc (.cells #[.int .i64 v.c,.int .i64 v.n,.slice vA v.ks.length vcap] 47))).heap.size FX):=hfx.under.mono hb2.size
 have HP2:=jj (hpp.below hb2 hfp.under)
 have UP2:Hid (Under ((((w1.alloc (.cells #[.int .i64 t.d,.int .i64 t.i] 39)).alloc (.cells #[.int .i64 p.op,.int .i64 p.ct,.int .i64 p.n,.int .i64 p.m,.int .i64 p.va,.slice pA p.ks.length pcap] 43)).alloc (.cells #[.int .i64 v.c,.int .i64 v.n,.slice vA v.ks.length vcap] 47))).heap.size FP):=hfp.under.mono hb2.size
 have HV2:=jj (hvv.below hb2 hfv.under)
 have UV2:Hid (Under ((((w1.alloc (.cells #[.int .i64 t.d,.int .i64 t.i] 39)).alloc (.cells #[.int .i64 p.op,.int .i64 p.ct,.int .i64 p.n,.int .i64 p.m,.int .i64 p.va,.slice pA p.ks.length pcap] 43)).alloc (.cells #[.int .i64 v.c,.int .i64 v.n,.slice vA v.ks.length vcap] 47))).heap.size FV):=hfv.under.mono hb2.size
 clear hx hfx hpp hfp hvv hfv hnp hnv hb1 hb2 HR0 HU0
 go_wp2_with fail
 obtain ⟨w2,hw2⟩:∃ X,X=(((w1.alloc (.cells #[.int .i64 t.d,.int .i64 t.i] 39)).alloc (.cells #[.int .i64 p.op,.int .i64 p.ct,.int .i64 p.n,.int .i64 p.m,.int .i64 p.va,.slice pA p.ks.length pcap] 43)).alloc (.cells #[.int .i64 v.c,.int .i64 v.n,.slice vA v.ks.length vcap] 47)):=⟨_,rfl⟩
 rw [←hw2] at hB2 KT2 KP2 KV2 HX2 UX2 HP2 UP2 HV2 UV2 ⊢
 clear hw2
 obtain ⟨cT0,cT1,lT⟩:=KT2.out.c2
 obtain ⟨cP0,cP1,cP2,cP3,cP4,cP5,lP⟩:=KP2.out.c6
 obtain ⟨cV0,cV1,cV2,lV⟩:=KV2.out.c3
 go_wp2_with fail
 clear cT0 cT1 lT cP0 cP1 cP2 cP3 cP4 cP5 lP cV0 cV1 cV2 lV
 refine (zB1 xs t p v HPZ.out HVZ.out w2 _ FX _ FP _ FV HX2.out UX2.out HP2.out UP2.out HV2.out UV2.out).mono ?_
 rintro e w3 ⟨x3,FG,rfl,hb3,hg3,-,hf3⟩
 clear hg3 hf3
 have hB3:=hB2.trans (hb3.mono hB2.size)
 have KT3:=jj (KT2.out.same (hb3.block _ KT2.out.lt))
 have KP3:=jj (KP2.out.same (hb3.block _ KP2.out.lt))
 have KV3:=jj (KV2.out.same (hb3.block _ KV2.out.lt))
 have HX3:Hid (Arr w3 (DtR w3) xs (.slice xA xs.length xcap) FX):=(HX2.out.mono (.of_below hb3 UX2.out) (fun x _ cs G hk h=>DtR.mono x cs G hk h))
 have UX3:=jj (UX2.out.mono hb3.size)
 have HP3:Hid (PR w3 p [.int .i64 p.op,.int .i64 p.ct,.int .i64 p.n,.int .i64 p.m,.int .i64 p.va,.slice pA p.ks.length pcap] FP):=(HP2.out.below hb3 UP2.out)
 have UP3:=jj (UP2.out.mono hb3.size)
 have HV3:Hid (VR w3 v [.int .i64 v.c,.int .i64 v.n,.slice vA v.ks.length vcap] FV):=(HV2.out.below hb3 UV2.out)
 have UV3:=jj (UV2.out.mono hb3.size)
 clear hB2 hb3 KT2 KP2 KV2 HX2 UX2 HP2 UP2 HV2 UV2
 obtain ⟨cT0,cT1,lT⟩:=KT3.out.c2
 obtain ⟨cP0,cP1,cP2,cP3,cP4,cP5,lP⟩:=KP3.out.c6
 obtain ⟨cV0,cV1,cV2,lV⟩:=KV3.out.c3
 go_wp2_with fail
 clear cT0 cT1 lT cP0 cP1 cP2 cP3 cP4 cP5 lP cV0 cV1 cV2 lV
 refine (spec_MatchPattern xs t p v HPZ.out HVZ.out w3 _ FX _ FP _ FV HX3.out UX3.out HP3.out UP3.out HV3.out UV3.out).mono ?_
 rintro e w4 ⟨x4,FZ,rfl,hb4,hg4,-,hf4⟩
 clear hg4 hf4
 have hB4:=hB3.trans (hb4.mono hB3.size)
 have KT4:=jj (KT3.out.same (hb4.block _ KT3.out.lt))
 have KP4:=jj (KP3.out.same (hb4.block _ KP3.out.lt))
 have KV4:=jj (KV3.out.same (hb4.block _ KV3.out.lt))
 have HX4:Hid (Arr w4 (DtR w4) xs (.slice xA xs.length xcap) FX):=(HX3.out.mono (.of_below hb4 UX3.out) (fun x _ cs G hk h=>DtR.mono x cs G hk h))
 have UX4:=jj (UX3.out.mono hb4.size)
 have HP4:Hid (PR w4 p [.int .i64 p.op,.int .i64 p.ct,.int .i64 p.n,.int .i64 p.m,.int .i64 p.va,.slice pA p.ks.length pcap] FP):=(HP3.out.below hb4 UP3.out)
 have UP4:=jj (UP3.out.mono hb4.size)
 have HV4:Hid (VR w4 v [.int .i64 v.c,.int .i64 v.n,.slice vA v.ks.length vcap] FV):=(HV3.out.below hb4 UV3.out)
 have UV4:=jj (UV3.out.mono hb4.size)
 clear hB3 hb4 KT3 KP3 KV3 HX3 UX3 HP3 UP3 HV3 UV3
 obtain ⟨m,hm⟩:∃ m,m=matchB xs t p v:=⟨_,rfl⟩
 rw [←hm]
 have HM:=jj hm
 clear hm
 have hmn:(m != m)=false:=by cases m <;> rfl
 have hme:(m==m)=true:=by cases m <;> rfl
 obtain ⟨cT0,cT1,lT⟩:=KT4.out.c2
 obtain ⟨cP0,cP1,cP2,cP3,cP4,cP5,lP⟩:=KP4.out.c6
 obtain ⟨cV0,cV1,cV2,lV⟩:=KV4.out.c3
 go_wp2_with fail
 clear cT0 cT1 lT cP0 cP1 cP2 cP3 cP4 cP5 lP cV0 cV1 cV2 lV
 refine (impl_PatternValid xs t p HPZ.out w4 _ FX _ FP HX4.out UX4.out HP4.out UP4.out).mono ?_
 rintro e w5 ⟨rfl,hb5⟩
 have hB5:=hB4.trans (hb5.mono hB4.size)
 have KT5:=jj (KT4.out.same (hb5.block _ KT4.out.lt))
 have KP5:=jj (KP4.out.same (hb5.block _ KP4.out.lt))
 have KV5:=jj (KV4.out.same (hb5.block _ KV4.out.lt))
 have HX5:Hid (Arr w5 (DtR w5) xs (.slice xA xs.length xcap) FX):=(HX4.out.mono (.of_below hb5 UX4.out) (fun x _ cs G hk h=>DtR.mono x cs G hk h))
 have UX5:=jj (UX4.out.mono hb5.size)
 have HP5:Hid (PR w5 p [.int .i64 p.op,.int .i64 p.ct,.int .i64 p.n,.int .i64 p.m,.int .i64 p.va,.slice pA p.ks.length pcap] FP):=(HP4.out.below hb5 UP4.out)
 have UP5:=jj (UP4.out.mono hb5.size)
 have HV5:Hid (VR w5 v [.int .i64 v.c,.int .i64 v.n,.slice vA v.ks.length vcap] FV):=(HV4.out.below hb5 UV4.out)
 have UV5:=jj (UV4.out.mono hb5.size)
 clear hB4 hb5 KT4 KP4 KV4 HX4 UX4 HP4 UP4 HV4 UV4
 cases hpv:patternValidB xs t p with
 |false =>
  go_wp2
  go_ret
  exact ⟨rfl,hB5⟩
 |true =>
  obtain ⟨cT0,cT1,lT⟩:=KT5.out.c2
  obtain ⟨cP0,cP1,cP2,cP3,cP4,cP5,lP⟩:=KP5.out.c6
  obtain ⟨cV0,cV1,cV2,lV⟩:=KV5.out.c3
  go_wp2_with fail
  clear cT0 cT1 lT cP0 cP1 cP2 cP3 cP4 cP5 lP cV0 cV1 cV2 lV
  refine (impl_ValueValid xs t v w5 _ FX _ FV HX5.out UX5.out HV5.out UV5.out HVZ.out).mono ?_
  rintro e w6 ⟨rfl,hb6⟩
  have hB6:=hB5.trans (hb6.mono hB5.size)
  have KT6:=jj (KT5.out.same (hb6.block _ KT5.out.lt))
  have KP6:=jj (KP5.out.same (hb6.block _ KP5.out.lt))
  have KV6:=jj (KV5.out.same (hb6.block _ KV5.out.lt))
  have HX6:Hid (Arr w6 (DtR w6) xs (.slice xA xs.length xcap) FX):=(HX5.out.mono (.of_below hb6 UX5.out) (fun x _ cs G hk h=>DtR.mono x cs G hk h))
  have UX6:=jj (UX5.out.mono hb6.size)
  have HP6:Hid (PR w6 p [.int .i64 p.op,.int .i64 p.ct,.int .i64 p.n,.int .i64 p.m,.int .i64 p.va,.slice pA p.ks.length pcap] FP):=(HP5.out.below hb6 UP5.out)
  have UP6:=jj (UP5.out.mono hb6.size)
  have HV6:Hid (VR w6 v [.int .i64 v.c,.int .i64 v.n,.slice vA v.ks.length vcap] FV):=(HV5.out.below hb6 UV5.out)
  have UV6:=jj (UV5.out.mono hb6.size)
  clear hB5 hb6 KT5 KP5 KV5 HX5 UX5 HP5 UP5 HV5 UV5
  cases hvv:valueValidB xs t v with
  |false =>
   go_wp2
   go_ret
   exact ⟨rfl,hB6⟩
  |true =>
   have HPV:=jj hpv
   have HVV:=jj hvv
   clear hpv hvv
   cases h4:(p.op != 4) with
   |true =>
    obtain ⟨cP0,cP1,cP2,cP3,cP4,cP5,lP⟩:=KP6.out.c6
    obtain ⟨cV0,cV1,cV2,lV⟩:=KV6.out.c3
    go_wp2
    go_ret
    exact ⟨rfl,hB6⟩
   |false =>
    cases hc:(v.c != p.ct) with
    |true =>
     obtain ⟨cP0,cP1,cP2,cP3,cP4,cP5,lP⟩:=KP6.out.c6
     obtain ⟨cV0,cV1,cV2,lV⟩:=KV6.out.c3
     go_wp2
     go_ret
     exact ⟨rfl,hB6⟩
    |false =>
     have hmp:=match_parts HPV.out HVV.out (bne_eq_false_iff_eq.1 h4) (bne_eq_false_iff_eq.1 hc)
     have HMP:=jj hmp
     clear hmp
     obtain ⟨cT0,cT1,lT⟩:=KT6.out.c2
     obtain ⟨cP0,cP1,cP2,cP3,cP4,cP5,lP⟩:=KP6.out.c6
     obtain ⟨cV0,cV1,cV2,lV⟩:=KV6.out.c3
     go_wp2_with fail
     clear cT0 cT1 lT cP0 cP1 cP2 cP3 cP4 cP5 lP cV0 cV1 cV2 lV
     refine (impl_ArgTypes xs t p.ct w6 _ FX HX6.out UX6.out).mono ?_
     rintro e w7 ⟨vT,FT,rfl,hb7,ht7,-,hf7⟩
     obtain ⟨tA,tcap,rfl,-,-⟩:=ht7.form
     have HT7:=jj ht7
     have UT7:=jj hf7.under
     clear ht7 hf7 h4 hc
     have hB7:=hB6.trans (hb7.mono hB6.size)
     have KT7:=jj (KT6.out.same (hb7.block _ KT6.out.lt))
     have KP7:=jj (KP6.out.same (hb7.block _ KP6.out.lt))
     have KV7:=jj (KV6.out.same (hb7.block _ KV6.out.lt))
     have HX7:Hid (Arr w7 (DtR w7) xs (.slice xA xs.length xcap) FX):=(HX6.out.mono (.of_below hb7 UX6.out) (fun x _ cs G hk h=>DtR.mono x cs G hk h))
     have UX7:=jj (UX6.out.mono hb7.size)
     have HP7:Hid (PR w7 p [.int .i64 p.op,.int .i64 p.ct,.int .i64 p.n,.int .i64 p.m,.int .i64 p.va,.slice pA p.ks.length pcap] FP):=(HP6.out.below hb7 UP6.out)
     have UP7:=jj (UP6.out.mono hb7.size)
     have HV7:Hid (VR w7 v [.int .i64 v.c,.int .i64 v.n,.slice vA v.ks.length vcap] FV):=(HV6.out.below hb7 UV6.out)
     have UV7:=jj (UV6.out.mono hb7.size)
     clear hB6 hb7 KT6 KP6 KV6 HX6 UX6 HP6 UP6 HV6 UV6
     have hkp:Arr w7 (PR w7) p.ks (.slice pA p.ks.length pcap) FP:=by
      obtain ⟨kv,e,h⟩:=(zA9 _ _ _).1 HP7.out
      simp only [List.cons.injEq,true_and,and_true] at e
      subst e
      exact h
     have HKP:=jj hkp
     have hkv:Arr w7 (VR w7) v.ks (.slice vA v.ks.length vcap) FV:=by
      obtain ⟨kv,e,h⟩:=(zAE _ _ _).1 HV7.out
      simp only [List.cons.injEq,true_and,and_true] at e
      subst e
      exact h
     have HKV:=jj hkv
     have hts3:(argTypesL xs t p.ct).length≤3:=argTypesL_len xs t p.ct
     have hl1:p.ks.length≤(argTypesL xs t p.ct).length:=Nat.le_of_eq HMP.out.len.symm
     have hl2:(argTypesL xs t p.ct).length≤p.ks.length:=Nat.le_of_eq HMP.out.len
     have hl3:p.ks.length≤v.ks.length:=Nat.le_of_eq HMP.out.vlen.symm
     have hl4:v.ks.length≤p.ks.length:=Nat.le_of_eq HMP.out.vlen
     have hps:∀ i (h:i<p.ks.length),p.ks[i].size≤1048576:=fun i h=>by
      have h1:=zBM h
      have h2:=zA6 p
      have h3:=HNP.out
      unfold nodesP at *
      omega
     have HPS:=jj hps
     have hvs:∀ i (h:i<v.ks.length),v.ks[i].size≤1048576:=fun i h=>by
      have h1:=nodes_kid v.ks i h
      have h2:=zAM v
      have h3:=HVZ.out
      unfold nodes at *
      omega
     have HVS:=jj hvs
     clear hkp hkv hps hvs
     have heach:=HMP.out.each
     have HALL:=jj HMP.out.all
     generalize argTypesL xs t p.ct=ts at heach hl1 hl2 hts3 HT7 ⊢
     have HEACH:=jj heach
     clear heach
     go_wp2
     go_loopw [12,13] (fun av iv wr=>∃ i:Nat,i≤ts.length∧iv=.int .i64 i∧av=.bool (partsTo p.ks v.ks i)∧Below w7.heap.size w7 wr) (fun _ iv _=>ts.length-(intOf iv).toNat)
     case atStart=>exact ⟨0,Nat.zero_le _,rfl,by rw [partsTo_zero],zy2 _ _⟩
     case round =>
      obtain ⟨i,hi,rfl,rfl,hbr⟩:=hrel
      have KPr:=KP7.out.same (hbr.block _ KP7.out.lt)
      have KVr:=KV7.out.same (hbr.block _ KV7.out.lt)
      by_cases hlt:i<ts.length
      ·have hlp:i<p.ks.length:=by omega
       have hlv:i<v.ks.length:=by omega
       obtain ⟨bt,offt,rfl⟩:=HT7.out.ptr (by omega)
       obtain ⟨bk,offk,rfl⟩:=HKP.out.ptr (by omega)
       obtain ⟨bv,offv,rfl⟩:=HKV.out.ptr (by omega)
       obtain ⟨htb,t0z,t1z⟩:=ArrTy.at HT7.out UT7.out hbr i hlt
       obtain ⟨kA,kcap,GK,hkb,k0,k1,k2,k3,k4,k5,HKi,UKi,-,-,-⟩:=ArrP.at HKP.out UP7.out hbr i hlp
       obtain ⟨uA,ucap,GU,hub,u0,u1,u2,HUi,UUi,-,-,-⟩:=ArrV.at HKV.out UV7.out hbr i hlv
       obtain ⟨-,-,-,-,-,y5,-⟩:=KPr.c6
       have z2:wr.cell? ⟨w1.heap.size+2,2,none⟩=some (.slice (some ⟨bv,offv,none⟩) v.ks.length vcap):=(KVr.cell 2).trans (by simp)
       have ylt:=KPr.lt
       have zlt:=KVr.lt
       have g1:(0:Int)≤(i:Int):=by omega
       have g2:(i:Int)<(ts.length:Int):=by omega
       have g3:(i:Int)<(p.ks.length:Int):=by omega
       have g4:(i:Int)<(v.ks.length:Int):=by omega
       have HPT:=jj (partsTo_succ hlp hlv)
       have HMI:=jj (HEACH.out i hlt hlp hlv)
       have HZP:=jj (HPS.out i hlp)
       have HZV:=jj (HVS.out i hlv)
       have HXr:=jj (ArrDt.below HX7.out hbr UX7.out)
       have UXr:=jj (UX7.out.mono hbr.size)
       obtain ⟨ti,hti⟩:∃ u,u=ts[i]:=⟨_,rfl⟩
       obtain ⟨ki,hki⟩:∃ u,u=p.ks[i]:=⟨_,rfl⟩
       obtain ⟨ui,hui⟩:∃ u,u=v.ks[i]:=⟨_,rfl⟩
       rw [←hti] at t0z t1z HMI
       rw [←hki] at k0 k1 k2 k3 k4 k5 HKi HMI HPT HZP
       rw [←hui] at u0 u1 u2 HUi HMI HPT HZV
       clear hti hki hui KPr KVr
       go_wp2_with fail
       have HS:Hid (∀ C:World,Below wr.heap.size wr C→(C.cell? ⟨bt,offt+i*2,none⟩=some (.int .i64 ti.d)∧C.cell? ⟨bt,offt+i*2+1,none⟩=some (.int .i64 ti.i)∧C.cell? ⟨w1.heap.size+1,5,none⟩=some (.slice (some ⟨bk,offk,none⟩) p.ks.length pcap)∧C.cell? ⟨bk,offk+i*6,none⟩=some (.int .i64 ki.op)∧C.cell? ⟨bk,offk+i*6+1,none⟩=some (.int .i64 ki.ct)∧C.cell? ⟨bk,offk+i*6+2,none⟩=some (.int .i64 ki.n)∧C.cell? ⟨bk,offk+i*6+3,none⟩=some (.int .i64 ki.m)∧C.cell? ⟨bk,offk+i*6+4,none⟩=some (.int .i64 ki.va)∧C.cell? ⟨bk,offk+i*6+5,none⟩=some (.slice kA ki.ks.length kcap)∧C.cell? ⟨w1.heap.size+2,2,none⟩=some (.slice (some ⟨bv,offv,none⟩) v.ks.length vcap)∧C.cell? ⟨bv,offv+i*3,none⟩=some (.int .i64 ui.c)∧C.cell? ⟨bv,offv+i*3+1,none⟩=some (.int .i64 ui.n)∧C.cell? ⟨bv,offv+i*3+2,none⟩=some (.slice uA ui.ks.length ucap))):=fun C hb=>⟨(hb.cell (htb)).trans t0z,(hb.cell (htb)).trans t1z,(hb.cell (ylt)).trans y5,(hb.cell (hkb)).trans k0,(hb.cell (hkb)).trans k1,(hb.cell (hkb)).trans k2,(hb.cell (hkb)).trans k3,(hb.cell (hkb)).trans k4,(hb.cell (hkb)).trans k5,(hb.cell (zlt)).trans z2,(hb.cell (hub)).trans u0,(hb.cell (hub)).trans u1,(hb.cell (hub)).trans u2⟩
       have hC0:Below wr.heap.size wr wr.drew:=(zy2 _ _).drew
       refine zA5 (S:=fun w'=>w'.cell? ⟨bt,offt+i*2,none⟩=some (.int .i64 ti.d)∧w'.cell? ⟨bt,offt+i*2+1,none⟩=some (.int .i64 ti.i)∧w'.cell? ⟨w1.heap.size+1,5,none⟩=some (.slice (some ⟨bk,offk,none⟩) p.ks.length pcap)∧w'.cell? ⟨bk,offk+i*6,none⟩=some (.int .i64 ki.op)∧w'.cell? ⟨bk,offk+i*6+1,none⟩=some (.int .i64 ki.ct)∧w'.cell? ⟨bk,offk+i*6+2,none⟩=some (.int .i64 ki.n)∧w'.cell? ⟨bk,offk+i*6+3,none⟩=some (.int .i64 ki.m)∧w'.cell? ⟨bk,offk+i*6+4,none⟩=some (.int .i64 ki.va)∧w'.cell? ⟨bk,offk+i*6+5,none⟩=some (.slice kA ki.ks.length kcap)∧w'.cell? ⟨w1.heap.size+2,2,none⟩=some (.slice (some ⟨bv,offv,none⟩) v.ks.length vcap)∧w'.cell? ⟨bv,offv+i*3,none⟩=some (.int .i64 ui.c)∧w'.cell? ⟨bv,offv+i*3+1,none⟩=some (.int .i64 ui.n)∧w'.cell? ⟨bv,offv+i*3+2,none⟩=some (.slice uA ui.ks.length ucap)) (T:=fun _=>True) (d:=99) (by kernel_rfl) ?_
       obtain ⟨wd,hwd⟩:∃ X,X=wr.drew:=⟨_,rfl⟩
       rw [←hwd] at hC0  ⊢
       clear hwd
       have hS0:=HS.out _ hC0
       have hT0:True:=trivial
       refine wV 0 rfl hS0 hT0 ?_
       (try simp only [zz])
       refine wV 1 rfl hS0 hT0 ?_
       (try simp only [zz])
       refine wV 2 rfl hS0 hT0 ?_
       (try simp only [zz])
       refine wV 3 rfl hS0 hT0 ?_
       (try simp only [zz])
       refine wV 4 rfl hS0 hT0 ?_
       (try simp only [zz])
       refine wV 5 rfl hS0 hT0 ?_
       (try simp only [zz])
       refine wV 6 rfl hS0 hT0 ?_
       (try simp only [zz])
       refine wV 7 rfl hS0 hT0 ?_
       (try simp only [zz])
       refine wV 8 rfl hS0 hT0 ?_
       (try simp only [zz])
       refine wV 9 rfl hS0 hT0 ?_
       (try simp only [zz])
       refine wV 10 rfl hS0 hT0 ?_
       (try simp only [zz])
       refine wV 11 rfl hS0 hT0 ?_
       (try simp only [zz])
       refine wV 12 rfl hS0 hT0 ?_
       (try simp only [zz])
       refine wV 13 rfl hS0 hT0 ?_
       (try simp only [zz])
       refine wV 14 rfl hS0 hT0 ?_
       (try simp only [zz])
       have HXd:=jj (ArrDt.below HXr.out hC0 UXr.out)
       have UXd:=jj (UXr.out.mono hC0.size)
       have hbd:=hbr.trans (hC0.mono hbr.size)
       refine Go.Proofs.YtghekinfoadcoaaGreat.w1 15 rfl fun K hK=>?_
       go_simp
       go_at_call 16
       refine (zB1 xs ti ki ui HZP.out HZV.out wd _ FX _ GK _ GU HXd.out UXd.out (HKi.out.below hbd UKi.out) (UKi.out.mono hbd.size) (HUi.out.below hbd UUi.out) (UUi.out.mono hbd.size)).mono ?_
       rintro e C9 ⟨x9,F9,rfl,hb9,-,-,-⟩
       have hC1:Below wr.heap.size wr C9:=hC0.trans (hb9.mono hC0.size)
       have hS1:=HS.out _ hC1
       rw [HMI.out]
       (try dsimp only)
       refine hK.out _ _ hS1 (fun _=>trivial) ?_
       clear hK K
       (try simp only [zz])
       refine wV 16 rfl hS1 hT0 ?_
       (try simp only [zz])
       refine wV 17 rfl hS1 hT0 ?_
       (try simp only [zz])
       refine wV 18 rfl hS1 hT0 ?_
       (try simp only [zz])
       refine wV 19 rfl hS1 hT0 ?_
       (try simp only [zz])
       refine wV 20 rfl hS1 hT0 ?_
       (try simp only [zz])
       refine wE (by kernel_rfl) ?_
       clear hS0 hS1 hT0
       have hbr9:=hbr.trans (hC1.mono hbr.size)
       obtain ⟨ok,hok⟩:∃ u,u=(P.mat ki ui).isSome:=⟨_,rfl⟩
       rw [←hok] at HPT ⊢
       clear t0z t1z k0 k1 k2 k3 k4 k5 u0 u1 u2 y5 z2 ylt zlt htb hkb hub hC0 hC1 hbr HXr UXr HXd UXd hb9 hbd hok
       obtain ⟨wq,hwq⟩:∃ X,X=C9:=⟨_,rfl⟩
       rw [←hwq] at hbr9 ⊢
       clear hwq
       obtain ⟨pt,hpt⟩:∃ u,u=partsTo p.ks v.ks i:=⟨_,rfl⟩
       rw [←hpt] at HPT ⊢
       clear hpt
       cases pt with
       |false =>
        go_wp2
        go_roundw
        case rel=>exact ⟨i+1,by omega,by go_num,by rw [HPT.out];rfl,hbr9⟩
        case measure=>(simp [intOf] <;> omega)
       |true =>
        go_wp2
        go_roundw
        case rel=>exact ⟨i+1,by omega,by go_num,by rw [HPT.out];rfl,hbr9⟩
        case measure=>(simp [intOf] <;> omega)
      ·have hend:m=partsTo p.ks v.ks i:=by rw [HM.out,HALL.out,partsTo_all (by omega) (by omega)]
       have hB9:=hB7.trans (hbr.mono hB7.size)
       rw [←hend]
       clear hend
       go_wp2
       go_ret
       exact ⟨rfl,hB9⟩
end Go.Proofs.YtghekinfoadcoaaGreat.fnMatchParts
namespace Go.Proofs.YtghekinfoadcoaaGreat.fnMatchParts
open Go.ChangeShapes Go.WideShapes Go.ChangeAt Go.RowKit
open Go.ChangeMaps (open_string shut_string)
set_option linter.unusedVariables false

theorem own : ownKnob Tryz.prog.godebug = none := by kernel_rfl
theorem laidOut : laidOutB Tryz.prog = true := by kernel_rfl

set_option maxRecDepth 100000 in
theorem lifted (os : Os) (started : os.Started) (H : Type) (enc : TypeId × Value → H) :
    ReturnsInHanded {} Tryz.checked os 4 .any (Rows.fnMatchPartsSpec.pre6 enc Tryz.prog Tryz.f4 Rows.fnMatchPartsRow.domain false) (Rows.fnMatchPartsSpec.post enc Tryz.prog Tryz.f4 false true false false) := by
  refine returnsInHanded_of_change (C := Tryz.checked) own started (by kernel_rfl) Tryz.func4
    (ChangeSpec.witness6 (enc := enc) (C := Tryz.checked) false ⟨#[], #[.slice none 0 0], []⟩ 8 (by kernel_rfl) (by kernel_rfl) (by kernel_rfl) (by kernel_rfl)) ?_
  intro W base args ds gs before hval0 hW hcnd _
  have hval : ∀ (j : Nat) t v, Tryz.f4.params[j]? = some t → args[j]? = some v → Value.okWide Tryz.prog W .any base t v := hval0
  have hW' := hW
  obtain ⟨p, q, hA0, hV, rfl, hfz, hnd⟩ := hW
  have hA : DataW.TrodAll enc Tryz.prog W 0 (fun _ => true) true Tryz.f4.params.toList args.toList ds p := hA0
  rw [Tryz.params4] at hA hval
  obtain ⟨v0, vs0, d0, ds0, p0, q0, hargs, rfl, rfl, h0, r0⟩ := trodAll_cons hA
  obtain ⟨rfl, rfl, rfl⟩ := trodAll_nil r0
  obtain rfl : args = #[v0] := by cases args; simp_all
  obtain ⟨rfl, rfl⟩ := trodVars_none hV
  have k0 := h0
  have lt0 : ∀ x ∈ p0, x.block < W.heap.size := by obtain ⟨m, hm⟩ := k0; exact DataW.trod_lt m _ _ _ hm
  obtain ⟨x0, F0, hR0, hU0⟩ := open_Bytes (hval 0 58 v0 rfl rfl) h0
  clear hA0 hval0
  refine (walk x0 v0 F0 hR0 hU0 W rfl).mono fun e W' ⟨he, bel⟩ => ?_
  subst he
  exact ⟨_, rfl, _, _, _, [], _, [], hW', trodAll_mk1 (shut_bool Tryz.underlying4 _), (trodAll_cons_mk (Below.trod laidOut (by kernel_rfl) (of_decide_eq_true (by kernel_rfl)) k0 bel lt0) trodAll_mk0), rfl, bel.frame _, fun h => by cases h⟩

set_option maxHeartbeats 4000000 in
theorem closed : joinedFacts Tryz.pinned.checked.prog 4 Tryz.f4 Rows.fnMatchPartsSpec Rows.fnMatchPartsRow = true := by
  unfold joinedFacts
  have key : ∀ a b : Bool, a = true → b = true → (a && b) = true := fun a b h1 h2 => by rw [h1, h2]; rfl
  repeat' (with_reducible refine key _ _ ?_ ?_)
  all_goals as_aux_lemma => kernel_rfl

theorem over : Rows.fnMatchPartsRow.holds Tryz.pinned (OpenSpec.ofChange Rows.fnMatchPartsSpec) :=
  OpenClaim.holds_of_wide 4 Tryz.f4 rfl rfl rfl rfl rfl rfl rfl ⟨rfl, rfl, rfl, rfl, rfl⟩ rfl rfl rfl rfl rfl (by kernel_rfl) Tryz.func4 closed
    (of_decide_eq_true (by kernel_rfl)) (by unfold Func.isWrapper; first | (rw [if_pos (by decide +kernel)]; kernel_rfl) | (rw [if_neg (by decide +kernel)]; exact ⟨rfl, rfl⟩))
    (fun os started H enc _ => lifted os started H enc)

theorem proved : Rows.FnMatchPartsSaid := over
end Go.Proofs.YtghekinfoadcoaaGreat.fnMatchParts
