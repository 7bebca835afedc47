/-
  FnSplitOr: for every argument the law returns true. Conditions: none.
-/
import Derived.Test.YtghekinfoadcoaaGreatJAJ
import Derived.Test.YtghekinfoadcoaaGreatJAO
import Derived.Test.YtghekinfoadcoaaGreatJAP
import Derived.Test.YtghekinfoadcoaaGreatJAQ
import Derived.Test.YtghekinfoadcoaaGreatJAC
import Derived.Deep.RegionWith
import Derived.Deep.RegionHeld3
import Derived.BigQuiet
import Derived.Test.YtghekinfoadcoaaGreatRows
import Derived.ProofKit
import Derived.OpenShut
import Derived.ShutString
import Derived.ChangeOld
import Derived.Below

set_option linter.unusedVariables false
set_option linter.unusedSimpArgs false
set_option maxRecDepth 100000
set_option maxHeartbeats 1600000

namespace Go.Proofs.YtghekinfoadcoaaGreat.fnSplitOr
open Go.RowKit
set_option maxHeartbeats 8000000 in
theorem walk {W:World} (x0:List Int) (v0:Value) (F0:List Nat) (hR0:Arr W (ByR W) x0 v0 F0) (hU0:Under W F0) (w:World) (hw:w=W) :
  Calls Tryz.prog 7 #[v0] w fun e w'=>e=.returned (.bool true)∧Below w w w':=by
 subst hw
 obtain ⟨A0,cap0,rfl,-,-⟩:=hR0.form
 have HR0:=jj hR0
 have HU0:=jj hU0
 clear hR0 hU0
 by_cases hlen:1048576<x0.length
 ·have t0:decide ((x0.length:Int)>1048576)=true:=decide_eq_true (by omega)
  go_enter Tryz.func7,Tryz.ntmps7
  go_wp2
  go_ret
  exact ⟨rfl,zy2 _ _⟩
 have t0:decide ((x0.length:Int)>1048576)=false:=decide_eq_false (by omega)
 go_enter Tryz.func7,Tryz.ntmps7
 go_wp2_with fail
 refine (spec_DrawMatchPattern x0 w _ F0 HR0.out HU0.out).mono ?_
 rintro e w1 ⟨xs,v1,FX,t,p,pA,pcap,FP,v,vA,vcap,FV,rfl,hb1,-,hx,hfx,hpp,hfp,hnp,hvv,hfv,hnv⟩
 obtain ⟨xA,xcap,rfl,-,-⟩:=hx.form
 have HPZ:Hid (p.size≤1048576):=by unfold nodesP at hnp;unfold Hid;omega
 have HNP:=jj hnp
 have HVZ:Hid (v.size≤1048576):=by unfold nodes at hnv;unfold Hid;omega
 have hb2:Below w1 w1 (((w1.alloc (.cells #[t.d,t.i] 39)).alloc (.cells #[p.op,p.ct,p.n,p.m,p.va,.slice pA p.ks.length pcap] 43)).alloc (.cells #[v.c,v.n,.slice vA v.ks.length vcap] 47)):=(((zy2 _ _).alloc (zz8 _) _).alloc (by simp) _).alloc (by simp;omega) _
 have hB2:Below w w (((w1.alloc (.cells #[t.d,t.i] 39)).alloc (.cells #[p.op,p.ct,p.n,p.m,p.va,.slice pA p.ks.length pcap] 43)).alloc (.cells #[v.c,v.n,.slice vA v.ks.length vcap] 47)):=hb1.trans (hb2.mono hb1.size)
 have KT2:Hid (Blk (((w1.alloc (.cells #[t.d,t.i] 39)).alloc (.cells #[p.op,p.ct,p.n,p.m,p.va,.slice pA p.ks.length pcap] 43)).alloc (.cells #[v.c,v.n,.slice vA v.ks.length vcap] 47)) w1.heap.size 39 #[t.d,t.i]):=((Blk.new w1 _ _).same (Below.heap_alloc _ _ _ (by simp))).same (Below.heap_alloc _ _ _ (by simp;omega))
 have KP2:Hid (Blk (((w1.alloc (.cells #[t.d,t.i] 39)).alloc (.cells #[p.op,p.ct,p.n,p.m,p.va,.slice pA p.ks.length pcap] 43)).alloc (.cells #[v.c,v.n,.slice vA v.ks.length vcap] 47)) (w1.heap.size+1) 43 #[p.op,p.ct,p.n,p.m,p.va,.slice pA p.ks.length pcap]):=(zA9 w1 _ 43 _).same (Below.heap_alloc _ _ _ (by simp))
 have KV2:Hid (Blk (((w1.alloc (.cells #[t.d,t.i] 39)).alloc (.cells #[p.op,p.ct,p.n,p.m,p.va,.slice pA p.ks.length pcap] 43)).alloc (.cells #[v.c,v.n,.slice vA v.ks.length vcap] 47)) (w1.heap.size+2) 47 #[v.c,v.n,.slice vA v.ks.length vcap]):=by
  have h:=zA9 (w1.alloc (.cells #[t.d,t.i] 39)) (.cells #[p.op,p.ct,p.n,p.m,p.va,.slice pA p.ks.length pcap] 43) 47 #[v.c,v.n,.slice vA v.ks.length vcap]
  rw [World.size_alloc] at h
  exact h
 have HX2:=jj (ArrDt.below hx hb2 hfx.under)
 have UX2:Hid (Under ((((w1.alloc (.cells #[t.d,t.i] 39)).alloc (.cells #[p.op,p.ct,p.n,p.m,p.va,.slice pA p.ks.length pcap] 43)).alloc (.cells #[v.c,v.n,.slice vA v.ks.length vcap] 47))).heap.size FX):=hfx.under.mono hb2.size
 have HP2:=jj (hpp.below hb2 hfp.under)
 have UP2:Hid (Under ((((w1.alloc (.cells #[t.d,t.i] 39)).alloc (.cells #[p.op,p.ct,p.n,p.m,p.va,.slice pA p.ks.length pcap] 43)).alloc (.cells #[v.c,v.n,.slice vA v.ks.length vcap] 47))).heap.size FP):=hfp.under.mono hb2.size
 have HV2:=jj (hvv.below hb2 hfv.under)
 have UV2:Hid (Under ((((w1.alloc (.cells #[t.d,t.i] 39)).alloc (.cells #[p.op,p.ct,p.n,p.m,p.va,.slice pA p.ks.length pcap] 43)).alloc (.cells #[v.c,v.n,.slice vA v.ks.length vcap] 47))).heap.size FV):=hfv.under.mono hb2.size
 clear hx hfx hpp hfp hvv hfv hnp hnv hb1 hb2 HR0 HU0
 go_wp2_with fail
 obtain ⟨w2,hw2⟩:∃ X,X=(((w1.alloc (.cells #[t.d,t.i] 39)).alloc (.cells #[p.op,p.ct,p.n,p.m,p.va,.slice pA p.ks.length pcap] 43)).alloc (.cells #[v.c,v.n,.slice vA v.ks.length vcap] 47)):=⟨_,rfl⟩
 rw [←hw2] at hB2 KT2 KP2 KV2 HX2 UX2 HP2 UP2 HV2 UV2 ⊢
 clear hw2
 obtain ⟨cT0,cT1,lT⟩:=KT2.out.c2
 obtain ⟨cP0,cP1,cP2,cP3,cP4,cP5,lP⟩:=KP2.out.c6
 obtain ⟨cV0,cV1,cV2,lV⟩:=KV2.out.c3
 go_wp2_with fail
 clear cT0 cT1 lT cP0 cP1 cP2 cP3 cP4 cP5 lP cV0 cV1 cV2 lV
 refine (impl_MatchPattern xs t p v HPZ.out HVZ.out w2 _ FX _ FP _ FV HX2.out UX2.out HP2.out UP2.out HV2.out UV2.out).mono ?_
 rintro e w3 ⟨x3,FG,rfl,hb3,hg3,-,hf3⟩
 obtain ⟨gA,gAc,rfl,hl1,hl2⟩:=hg3.form
 have hlbG:(matchV xs t p v).length≤9223372036854775807:=by omega
 clear hl1 hl2
 have KHG:=jj hg3
 have KUG:=jj hf3.under
 clear hg3 hf3
 have hB3:=hB2.trans (hb3.mono hB2.size)
 have KT3:=jj (KT2.out.same (hb3.block _ KT2.out.lt))
 have KP3:=jj (KP2.out.same (hb3.block _ KP2.out.lt))
 have KV3:=jj (KV2.out.same (hb3.block _ KV2.out.lt))
 have HX3:Hid (Arr w3 (DtR w3) xs (.slice xA xs.length xcap) FX):=(HX2.out.mono (.of_below hb3 UX2.out) (fun x _ cs G hk h=>DtR.mono x cs G hk h))
 have UX3:=jj (UX2.out.mono hb3.size)
 have HP3:Hid (PR w3 p [p.op,p.ct,p.n,p.m,p.va,.slice pA p.ks.length pcap] FP):=(HP2.out.below hb3 UP2.out)
 have UP3:=jj (UP2.out.mono hb3.size)
 have HV3:Hid (VR w3 v [v.c,v.n,.slice vA v.ks.length vcap] FV):=(HV2.out.below hb3 UV2.out)
 have UV3:=jj (UV2.out.mono hb3.size)
 clear hB2 hb3 KT2 KP2 KV2 HX2 UX2 HP2 UP2 HV2 UV2
 have HG3:=KHG
 have UG3:=KUG
 clear KHG KUG
 obtain ⟨cT0,cT1,lT⟩:=KT3.out.c2
 obtain ⟨cP0,cP1,cP2,cP3,cP4,cP5,lP⟩:=KP3.out.c6
 obtain ⟨cV0,cV1,cV2,lV⟩:=KV3.out.c3
 go_wp2_with fail
 clear cT0 cT1 lT cP0 cP1 cP2 cP3 cP4 cP5 lP cV0 cV1 cV2 lV
 refine (spec_MatchPattern xs t p v HPZ.out HVZ.out w3 _ FX _ FP _ FV HX3.out UX3.out HP3.out UP3.out HV3.out UV3.out).mono ?_
 rintro e w4 ⟨x4,FZ,rfl,hb4,hg4,-,hf4⟩
 obtain ⟨sA,sAc,rfl,hl1,hl2⟩:=hg4.form
 have hlbS:(matchV xs t p v).length≤9223372036854775807:=by omega
 clear hl1 hl2
 have KHS:=jj hg4
 have KUS:=jj hf4.under
 clear hg4 hf4
 have hB4:=hB3.trans (hb4.mono hB3.size)
 have KT4:=jj (KT3.out.same (hb4.block _ KT3.out.lt))
 have KP4:=jj (KP3.out.same (hb4.block _ KP3.out.lt))
 have KV4:=jj (KV3.out.same (hb4.block _ KV3.out.lt))
 have HX4:Hid (Arr w4 (DtR w4) xs (.slice xA xs.length xcap) FX):=(HX3.out.mono (.of_below hb4 UX3.out) (fun x _ cs G hk h=>DtR.mono x cs G hk h))
 have UX4:=jj (UX3.out.mono hb4.size)
 have HP4:Hid (PR w4 p [p.op,p.ct,p.n,p.m,p.va,.slice pA p.ks.length pcap] FP):=(HP3.out.below hb4 UP3.out)
 have UP4:=jj (UP3.out.mono hb4.size)
 have HV4:Hid (VR w4 v [v.c,v.n,.slice vA v.ks.length vcap] FV):=(HV3.out.below hb4 UV3.out)
 have UV4:=jj (UV3.out.mono hb4.size)
 have HG4:Hid (Arr w4 (BdR w4) (matchV xs t p v) (.slice gA (matchV xs t p v).length gAc) FG):=(HG3.out.mono (.of_below hb4 UG3.out) (fun x _ cs G hk h=>zA4 _ _ x cs G hk h))
 have UG4:=jj (UG3.out.mono hb4.size)
 clear hB3 hb4 KT3 KP3 KV3 HX3 UX3 HP3 UP3 HV3 UV3 HG3 UG3
 have HS4:=KHS
 have US4:=KUS
 clear KHS KUS
 obtain ⟨m,hm⟩:∃ m,m=matchB xs t p v:=⟨_,rfl⟩
 rw [←hm]
 have HM:=jj hm
 clear hm
 have hmn:(m != m)=false:=by cases m <;> rfl
 have hme:(m==m)=true:=by cases m <;> rfl
 obtain ⟨bs,hbs⟩:∃ l,l=matchV xs t p v:=⟨_,rfl⟩
 rw [←hbs] at HG4 HS4 hlbG ⊢
 clear hlbS
 have HBS:=jj hbs
 clear hbs
 obtain ⟨cT0,cT1,lT⟩:=KT4.out.c2
 obtain ⟨cP0,cP1,cP2,cP3,cP4,cP5,lP⟩:=KP4.out.c6
 go_wp2_with fail
 clear cT0 cT1 lT cP0 cP1 cP2 cP3 cP4 cP5 lP
 refine (impl_SplitOr xs t p HPZ.out w4 _ FX _ FP HX4.out UX4.out HP4.out UP4.out).mono ?_
 rintro e w5 ⟨x5,FL,rfl,hb5,hl5,-,hf5⟩
 obtain ⟨lA,lc,rfl,hl1,hl2⟩:=hl5.form
 have hlm:(splitV xs t p).length≤9223372036854775807:=by omega
 clear hl1 hl2
 have KHL:=jj hl5
 have KUL:=jj hf5.under
 clear hl5 hf5
 have hB5:=hB4.trans (hb5.mono hB4.size)
 have KT5:=jj (KT4.out.same (hb5.block _ KT4.out.lt))
 have KP5:=jj (KP4.out.same (hb5.block _ KP4.out.lt))
 have KV5:=jj (KV4.out.same (hb5.block _ KV4.out.lt))
 have HX5:Hid (Arr w5 (DtR w5) xs (.slice xA xs.length xcap) FX):=(HX4.out.mono (.of_below hb5 UX4.out) (fun x _ cs G hk h=>DtR.mono x cs G hk h))
 have UX5:=jj (UX4.out.mono hb5.size)
 have HP5:Hid (PR w5 p [p.op,p.ct,p.n,p.m,p.va,.slice pA p.ks.length pcap] FP):=(HP4.out.below hb5 UP4.out)
 have UP5:=jj (UP4.out.mono hb5.size)
 have HV5:Hid (VR w5 v [v.c,v.n,.slice vA v.ks.length vcap] FV):=(HV4.out.below hb5 UV4.out)
 have UV5:=jj (UV4.out.mono hb5.size)
 have HG5:Hid (Arr w5 (BdR w5) bs (.slice gA bs.length gAc) FG):=(HG4.out.mono (.of_below hb5 UG4.out) (fun x _ cs G hk h=>zA4 _ _ x cs G hk h))
 have UG5:=jj (UG4.out.mono hb5.size)
 have HS5:Hid (Arr w5 (BdR w5) bs (.slice sA bs.length sAc) FZ):=(HS4.out.mono (.of_below hb5 US4.out) (fun x _ cs G hk h=>zA4 _ _ x cs G hk h))
 have US5:=jj (US4.out.mono hb5.size)
 clear hB4 hb5 KT4 KP4 KV4 HX4 UX4 HP4 UP4 HV4 UV4 HG4 UG4 HS4 US4
 have HL5:=KHL
 have UL5:=KUL
 clear KHL KUL
 obtain ⟨cT0,cT1,lT⟩:=KT5.out.c2
 obtain ⟨cP0,cP1,cP2,cP3,cP4,cP5,lP⟩:=KP5.out.c6
 obtain ⟨cV0,cV1,cV2,lV⟩:=KV5.out.c3
 go_wp2_with fail
 clear cT0 cT1 lT cP0 cP1 cP2 cP3 cP4 cP5 lP cV0 cV1 cV2 lV
 refine (ptBinds_same bs w5 _ _ FG FZ HG5.out HS5.out UG5.out US5.out).mono ?_
 rintro e w6 ⟨rfl,hb6⟩
 have hB6:=hB5.trans (hb6.mono hB5.size)
 have KT6:=jj (KT5.out.same (hb6.block _ KT5.out.lt))
 have KP6:=jj (KP5.out.same (hb6.block _ KP5.out.lt))
 have KV6:=jj (KV5.out.same (hb6.block _ KV5.out.lt))
 have HX6:Hid (Arr w6 (DtR w6) xs (.slice xA xs.length xcap) FX):=(HX5.out.mono (.of_below hb6 UX5.out) (fun x _ cs G hk h=>DtR.mono x cs G hk h))
 have UX6:=jj (UX5.out.mono hb6.size)
 have HP6:Hid (PR w6 p [p.op,p.ct,p.n,p.m,p.va,.slice pA p.ks.length pcap] FP):=(HP5.out.below hb6 UP5.out)
 have UP6:=jj (UP5.out.mono hb6.size)
 have HV6:Hid (VR w6 v [v.c,v.n,.slice vA v.ks.length vcap] FV):=(HV5.out.below hb6 UV5.out)
 have UV6:=jj (UV5.out.mono hb6.size)
 have HG6:Hid (Arr w6 (BdR w6) bs (.slice gA bs.length gAc) FG):=(HG5.out.mono (.of_below hb6 UG5.out) (fun x _ cs G hk h=>zA4 _ _ x cs G hk h))
 have UG6:=jj (UG5.out.mono hb6.size)
 have HS6:Hid (Arr w6 (BdR w6) bs (.slice sA bs.length sAc) FZ):=(HS5.out.mono (.of_below hb6 US5.out) (fun x _ cs G hk h=>zA4 _ _ x cs G hk h))
 have US6:=jj (US5.out.mono hb6.size)
 have HL6:Hid (Arr w6 (PR w6) (splitV xs t p) (.slice lA (splitV xs t p).length lc) FL):=(ArrP.below HL5.out hb6 UL5.out)
 have UL6:=jj (UL5.out.mono hb6.size)
 clear hB5 hb6 KT5 KP5 KV5 HX5 UX5 HP5 UP5 HV5 UV5 HG5 UG5 HS5 US5 HL5 UL5
 obtain ⟨sb,hsb⟩:∃ u,u=splitB xs t p:=⟨_,rfl⟩
 rw [←hsb]
 have HSB:=jj hsb
 clear hsb
 cases sb with
 |false =>
  obtain ⟨cT0,cT1,lT⟩:=KT6.out.c2
  obtain ⟨cP0,cP1,cP2,cP3,cP4,cP5,lP⟩:=KP6.out.c6
  obtain ⟨cV0,cV1,cV2,lV⟩:=KV6.out.c3
  go_wp2_with fail
  clear cT0 cT1 lT cP0 cP1 cP2 cP3 cP4 cP5 lP cV0 cV1 cV2 lV
  refine (ptBinds_same bs w6 _ _ FG FZ HG6.out HS6.out UG6.out US6.out).mono ?_
  rintro e w7 ⟨rfl,hb7⟩
  have hB7:=hB6.trans (hb7.mono hB6.size)
  have KT7:=jj (KT6.out.same (hb7.block _ KT6.out.lt))
  have KP7:=jj (KP6.out.same (hb7.block _ KP6.out.lt))
  have KV7:=jj (KV6.out.same (hb7.block _ KV6.out.lt))
  have HX7:Hid (Arr w7 (DtR w7) xs (.slice xA xs.length xcap) FX):=(HX6.out.mono (.of_below hb7 UX6.out) (fun x _ cs G hk h=>DtR.mono x cs G hk h))
  have UX7:=jj (UX6.out.mono hb7.size)
  have HP7:Hid (PR w7 p [p.op,p.ct,p.n,p.m,p.va,.slice pA p.ks.length pcap] FP):=(HP6.out.below hb7 UP6.out)
  have UP7:=jj (UP6.out.mono hb7.size)
  have HV7:Hid (VR w7 v [v.c,v.n,.slice vA v.ks.length vcap] FV):=(HV6.out.below hb7 UV6.out)
  have UV7:=jj (UV6.out.mono hb7.size)
  have HG7:Hid (Arr w7 (BdR w7) bs (.slice gA bs.length gAc) FG):=(HG6.out.mono (.of_below hb7 UG6.out) (fun x _ cs G hk h=>zA4 _ _ x cs G hk h))
  have UG7:=jj (UG6.out.mono hb7.size)
  have HS7:Hid (Arr w7 (BdR w7) bs (.slice sA bs.length sAc) FZ):=(HS6.out.mono (.of_below hb7 US6.out) (fun x _ cs G hk h=>zA4 _ _ x cs G hk h))
  have US7:=jj (US6.out.mono hb7.size)
  have HL7:Hid (Arr w7 (PR w7) (splitV xs t p) (.slice lA (splitV xs t p).length lc) FL):=(ArrP.below HL6.out hb7 UL6.out)
  have UL7:=jj (UL6.out.mono hb7.size)
  clear hB6 hb7 KT6 KP6 KV6 HX6 UX6 HP6 UP6 HV6 UV6 HG6 UG6 HS6 US6 HL6 UL6
  go_wp2
  go_ret
  exact ⟨rfl,hB7⟩
 |true =>
  have HSB1:Hid (splitB xs t p=true):=HSB.out.symm
  clear HSB
  go_wp2
  go_loopw [13] (fun iv wr=>∃ i:Nat,i≤(splitV xs t p).length∧iv=.int .i64 i∧(∀ j (hj:j<(splitV xs t p).length),j<i→matchB xs t (splitV xs t p)[j] v=false)∧Below w6 w6 wr) (fun iv _=>(splitV xs t p).length-(intOf iv).toNat)
  case atStart=>exact ⟨0,Nat.zero_le _,rfl,fun j hj h0=>absurd h0 (Nat.not_lt_zero _),zy2 _ _⟩
  case round =>
   obtain ⟨i,hi,rfl,hno,hbr⟩:=hrel
   have HNO:=jj hno
   clear hno
   have KTr:=KT6.out.same (hbr.block _ KT6.out.lt)
   have KVr:=KV6.out.same (hbr.block _ KV6.out.lt)
   by_cases hlt:i<(splitV xs t p).length
   ·obtain ⟨lb,loff,rfl⟩:=HL6.out.ptr (by omega)
    obtain ⟨qA,qcap,GQ,hlb,q0,q1,q2,q3,q4,q5,HQ,UQ,-,-,-⟩:=ArrP.at HL6.out UL6.out hbr i hlt
    obtain ⟨x0,x1,xlt⟩:=KTr.c2
    obtain ⟨z0,z1,z2,zlt⟩:=KVr.c3
    have g1:(0:Int)≤(i:Int):=by omega
    have g2:(i:Int)<((splitV xs t p).length:Int):=by omega
    have HQZ:Hid ((splitV xs t p)[i].size≤1048576):=Nat.le_trans (split_big (List.getElem_mem hlt)) HPZ.out
    have HXr:=jj (ArrDt.below HX6.out hbr UX6.out)
    have UXr:=jj (UX6.out.mono hbr.size)
    obtain ⟨q,hq⟩:∃ u,u=(splitV xs t p)[i]:=⟨_,rfl⟩
    have HQE:=jj hq
    rw [←hq] at q0 q1 q2 q3 q4 q5 HQ HQZ
    clear hq KTr KVr
    go_wp2_with fail
    have HS:Hid (∀ C:World,Below wr wr C→(C.cell? ⟨w1,0,none⟩=t.d∧C.cell? ⟨w1,1,none⟩=t.i∧C.cell? ⟨lb,loff+i*6,none⟩=q.op∧C.cell? ⟨lb,loff+i*6+1,none⟩=q.ct∧C.cell? ⟨lb,loff+i*6+2,none⟩=q.n∧C.cell? ⟨lb,loff+i*6+3,none⟩=q.m∧C.cell? ⟨lb,loff+i*6+4,none⟩=q.va∧C.cell? ⟨lb,loff+i*6+5,none⟩=some (.slice qA q.ks.length qcap)∧C.cell? ⟨w1.heap.size+2,0,none⟩=v.c∧C.cell? ⟨w1.heap.size+2,1,none⟩=v.n∧C.cell? ⟨w1.heap.size+2,2,none⟩=some (.slice vA v.ks.length vcap))):=fun C hb=>⟨(hb.cell (xlt)).trans x0,(hb.cell (xlt)).trans x1,(hb.cell (hlb)).trans q0,(hb.cell (hlb)).trans q1,(hb.cell (hlb)).trans q2,(hb.cell (hlb)).trans q3,(hb.cell (hlb)).trans q4,(hb.cell (hlb)).trans q5,(hb.cell (zlt)).trans z0,(hb.cell (zlt)).trans z1,(hb.cell (zlt)).trans z2⟩
    have hC0:Below wr wr wr.drew:=(zy2 _ _).drew
    refine wpBS HS.out (T:=fun _=>True) (d:=99) (by kernel_rfl) ?_
    obtain ⟨wd,hwd⟩:∃ X,X=wr.drew:=⟨_,rfl⟩
    rw [←hwd] at hC0  ⊢
    clear hwd
    have hS0:=HS.out _ hC0
    have hT0:True:=trivial
    refine wV 0 rfl hS0 hT0 ?_
    (try simp only [zz])
    refine wV 1 rfl hS0 hT0 ?_
    (try simp only [zz])
    refine wV 2 rfl hS0 hT0 ?_
    (try simp only [zz])
    refine wV 3 rfl hS0 hT0 ?_
    (try simp only [zz])
    refine wV 4 rfl hS0 hT0 ?_
    (try simp only [zz])
    refine wV 5 rfl hS0 hT0 ?_
    (try simp only [zz])
    refine wV 6 rfl hS0 hT0 ?_
    (try simp only [zz])
    have HXd:=jj (ArrDt.below HXr.out hC0 UXr.out)
    have UXd:=jj (UXr.out.mono hC0.size)
    have hbd:=hbr.trans (hC0.mono hbr.size)
    refine Go.Proofs.YtghekinfoadcoaaGreat.w1 7 rfl fun K hK=>?_
    go_simp
    go_at_call 16
    refine (impl_MatchPattern xs t q v HQZ.out HVZ.out wd _ FX _ GQ _ FV HXd.out UXd.out (HQ.out.below hbd UQ.out) (UQ.out.mono hbd.size) (HV6.out.below hbd UV6.out) (UV6.out.mono hbd.size)).mono ?_
    rintro e C9 ⟨x9,F9,rfl,hb9,hg9,-,hf9⟩
    have hC1:Below wr wr C9:=hC0.trans (hb9.mono hC0.size)
    have hS1:=HS.out _ hC1
    (try dsimp only)
    refine hK.out _ _ hS1 (fun _=>trivial) ?_
    clear hK K
    (try simp only [zz])
    refine wV 8 rfl hS1 hT0 ?_
    (try simp only [zz])
    refine wV 9 rfl hS1 hT0 ?_
    (try simp only [zz])
    refine wV 10 rfl hS1 hT0 ?_
    (try simp only [zz])
    refine wV 11 rfl hS1 hT0 ?_
    (try simp only [zz])
    refine wV 12 rfl hS1 hT0 ?_
    (try simp only [zz])
    refine wE (by kernel_rfl) ?_
    clear hS0 hS1 hT0
    have hbr9:=hbr.trans (hC1.mono hbr.size)
    clear x0 x1 q0 q1 q2 q3 q4 q5 z0 z1 z2 xlt zlt hlb hC0 hC1 hbr HXr UXr HXd UXd hbd
    obtain ⟨mq,hmq⟩:∃ u,u=matchB xs t q v:=⟨_,rfl⟩
    rw [←hmq]
    cases mq with
    |false =>
     have HN1:Hid (∀ j (hj:j<(splitV xs t p).length),j<i+1→matchB xs t (splitV xs t p)[j] v=false):=fun j hj hji=>by
      rcases Nat.lt_or_ge j i with h | h
      ·exact HNO.out j hj h
      ·have e:j=i:=by omega
       subst e
       rw [←HQE.out]
       exact hmq.symm
     clear hmq hg9 hf9 hb9
     obtain ⟨wq,hwq⟩:∃ X,X=C9:=⟨_,rfl⟩
     rw [←hwq] at hbr9 ⊢
     clear hwq
     go_wp2
     go_roundw
     case rel=>exact ⟨i+1,by omega,by go_num,HN1.out,hbr9⟩
     case measure=>(simp [intOf] <;> omega)
    |true =>
     obtain ⟨he,hv⟩:=split_first HSB1.out hlt HNO.out (by rw [←HQE.out];exact hmq.symm)
     rw [←HQE.out,←HBS.out] at hv
     rw [hv] at hg9
     have hmt:m=true:=by rw [HM.out,he]
     have HC9:=jj hg9
     have UC9:=jj hf9.under
     have HG9:Hid (Arr C9 (BdR C9) bs (.slice gA bs.length gAc) FG):=(HG6.out.mono (.of_below hbr9 UG6.out) (fun x _ cs G hk h=>zA4 _ _ x cs G hk h))
     have UG9:=jj (UG6.out.mono hbr9.size)
     have hB9:=hB6.trans (hbr9.mono hB6.size)
     clear hmq hg9 hf9 hb9 he hv hbr9
     rw [hmt]
     clear hmt
     obtain ⟨wq,hwq⟩:∃ X,X=C9:=⟨_,rfl⟩
     rw [←hwq] at HC9 UC9 HG9 UG9 hB9 ⊢
     clear hwq
     go_wp2_with fail
     refine (ptBinds_same bs wq _ _ F9 FG HC9.out HG9.out UC9.out UG9.out).mono ?_
     rintro e w20 ⟨rfl,hb20⟩
     have hB20:=hB9.trans (hb20.mono hB9.size)
     go_wp2
     go_ret
     exact ⟨rfl,hB20⟩
   ·have hmf:m=false:=by rw [HM.out];exact split_none HSB1.out fun j hj=>HNO.out j hj (by omega)
    have hB9:=hB6.trans (hbr.mono hB6.size)
    rw [hmf]
    clear hmf
    go_wp2
    go_ret
    exact ⟨rfl,hB9⟩
end Go.Proofs.YtghekinfoadcoaaGreat.fnSplitOr
namespace Go.Proofs.YtghekinfoadcoaaGreat.fnSplitOr
open Go.ChangeShapes Go.WideShapes Go.ChangeAt Go.RowKit
open Go.ChangeMaps (open_string shut_string)
set_option linter.unusedVariables false

theorem own : ownKnob Tryz.prog.godebug = none := by kernel_rfl
theorem laidOut : laidOutB Tryz.prog = true := by kernel_rfl

set_option maxRecDepth 100000 in
theorem lifted (os : Os) (started : os.Started) (H : Type) (enc : TypeId × Value → H) :
    ReturnsInHanded {} Tryz.checked os 7 .any (Rows.fnSplitOrSpec.pre6 enc Tryz.prog Tryz.f7 Rows.fnSplitOrRow.domain false) (Rows.fnSplitOrSpec.post enc Tryz.prog Tryz.f7 false true false false) := by
  refine returnsInHanded_of_change (C := Tryz.checked) own started (by kernel_rfl) Tryz.func7
    (ChangeSpec.witness6 (enc := enc) (C := Tryz.checked) false ⟨#[], #[.slice none 0 0], []⟩ 8 (by kernel_rfl) (by kernel_rfl) (by kernel_rfl) (by kernel_rfl)) ?_
  intro W base args ds gs before hval0 hW hcnd _
  have hval : ∀ (j : Nat) t v, Tryz.f7.params[j]? = some t → args[j]? = some v → Value.okWide Tryz.prog W .any base t v := hval0
  have hW' := hW
  obtain ⟨p, q, hA0, hV, rfl, hfz, hnd⟩ := hW
  have hA : DataW.TrodAll enc Tryz.prog W 0 (fun _ => true) true Tryz.f7.params.toList args.toList ds p := hA0
  rw [Tryz.params7] at hA hval
  obtain ⟨v0, vs0, d0, ds0, p0, q0, hargs, rfl, rfl, h0, r0⟩ := trodAll_cons hA
  obtain ⟨rfl, rfl, rfl⟩ := trodAll_nil r0
  obtain rfl : args = #[v0] := by cases args; simp_all
  obtain ⟨rfl, rfl⟩ := trodVars_none hV
  have k0 := h0
  have lt0 : ∀ x ∈ p0, x.block < W.heap.size := by obtain ⟨m, hm⟩ := k0; exact DataW.trod_lt m _ _ _ hm
  obtain ⟨x0, F0, hR0, hU0⟩ := open_Bytes (hval 0 58 v0 rfl rfl) h0
  clear hA0 hval0
  refine (walk x0 v0 F0 hR0 hU0 W rfl).mono fun e W' ⟨he, bel⟩ => ?_
  subst he
  exact ⟨_, rfl, _, _, _, [], _, [], hW', trodAll_mk1 (shut_bool Tryz.underlying4 _), (trodAll_cons_mk (Below.trod laidOut (by kernel_rfl) (of_decide_eq_true (by kernel_rfl)) k0 bel lt0) trodAll_mk0), rfl, bel.frame _, fun h => by cases h⟩

set_option maxHeartbeats 4000000 in
theorem closed : joinedFacts Tryz.pinned.checked.prog 7 Tryz.f7 Rows.fnSplitOrSpec Rows.fnSplitOrRow = true := by
  unfold joinedFacts
  have key : ∀ a b : Bool, a = true → b = true → (a && b) = true := fun a b h1 h2 => by rw [h1, h2]; rfl
  repeat' (with_reducible refine key _ _ ?_ ?_)
  all_goals as_aux_lemma => kernel_rfl

theorem over : Rows.fnSplitOrRow.holds Tryz.pinned (OpenSpec.ofChange Rows.fnSplitOrSpec) :=
  OpenClaim.holds_of_wide 7 Tryz.f7 rfl rfl rfl rfl rfl rfl rfl ⟨rfl, rfl, rfl, rfl, rfl⟩ rfl rfl rfl rfl rfl (by kernel_rfl) Tryz.func7 closed
    (of_decide_eq_true (by kernel_rfl)) (by unfold Func.isWrapper; first | (rw [if_pos (by decide +kernel)]; kernel_rfl) | (rw [if_neg (by decide +kernel)]; exact ⟨rfl, rfl⟩))
    (fun os started H enc _ => lifted os started H enc)

theorem proved : Rows.FnSplitOrSaid := over
end Go.Proofs.YtghekinfoadcoaaGreat.fnSplitOr
