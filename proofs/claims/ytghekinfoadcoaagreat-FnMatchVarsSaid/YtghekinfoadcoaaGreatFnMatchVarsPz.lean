/-
  FnMatchVars: for every argument the law returns true. Conditions: none.
-/
import Derived.Test.YtghekinfoadcoaaGreatKAK
import Derived.Test.YtghekinfoadcoaaGreatKAP
import Derived.Test.YtghekinfoadcoaaGreatKAS
import Derived.Test.YtghekinfoadcoaaGreatKAR
import Derived.Test.YtghekinfoadcoaaGreatKAM
import Derived.Test.YtghekinfoadcoaaGreatKAC
import Derived.Deep.RegionWith
import Derived.Deep.RegionHeld3
import Derived.BigQuiet
import Derived.Test.YtghekinfoadcoaaGreatRows
import Derived.Test.YtghekinfoadcoaaGreatKAQ
import Derived.ProofKit
import Derived.OpenShut
import Derived.ShutString
import Derived.ChangeOld
import Derived.Below

set_option linter.unusedVariables false
set_option linter.unusedSimpArgs false
set_option maxRecDepth 100000
set_option maxHeartbeats 1600000

namespace Go.Proofs.YtghekinfoadcoaaGreat.fnMatchVars
open Go.RowKit
set_option maxHeartbeats 8000000 in
theorem walk {W:World} (x0:List Int) (v0:Value) (F0:List Nat) (hR0:Arr W (ByR W) x0 v0 F0) (hU0:Under W.heap.size F0) (w:World) (hw:w=W) :
  Calls Tryz.prog 6 #[v0] w fun e w'=>e=.returned (.bool true)∧Below w.heap.size w w':=by
 subst hw
 obtain ⟨A0,cap0,rfl,-,-⟩:=hR0.form
 have HR0:=jj hR0
 have HU0:=jj hU0
 clear hR0 hU0
 by_cases hlen:1048576<x0.length
 ·have t0:decide ((x0.length:Int)>1048576)=true:=decide_eq_true (by omega)
  go_enter Tryz.func6,Tryz.ntmps6
  go_wp2
  go_ret
  exact ⟨rfl,zy2 _ _⟩
 have t0:decide ((x0.length:Int)>1048576)=false:=decide_eq_false (by omega)
 go_enter Tryz.func6,Tryz.ntmps6
 go_wp2_with fail
 refine (zBD x0 w _ F0 HR0.out HU0.out).mono ?_
 rintro e w1 ⟨xs,v1,FX,t,p,pA,pcap,FP,v,vA,vcap,FV,rfl,hb1,-,hx,hfx,hpp,hfp,hnp,hvv,hfv,hnv⟩
 obtain ⟨xA,xcap,rfl,-,-⟩:=hx.form
 have HPZ:Hid (p.size≤1048576):=by unfold nodesP at hnp;unfold Hid;omega
 have HNP:=jj hnp
 have HVZ:Hid (v.size≤1048576):=by unfold nodes at hnv;unfold Hid;omega
 have hb2:Below w1.heap.size w1 (((w1.alloc (.cells #[.int .i64 t.d,.int .i64 t.i] 39)).alloc (.cells #[.int .i64 p.op,.int .i64 p.ct,.int .i64 p.n,.int .i64 p.m,.int .i64 p.va,.slice pA p.ks.length pcap] 43)).alloc (.cells #[.int .i64 v.c,.int .i64 v.n,.slice vA v.ks.length vcap] 47)):=(((zy2 _ _).alloc (zz8 _) _).alloc (by simp) _).alloc (by simp;omega) _
 have hB2:Below w.heap.size w (((w1.alloc (.cells #[.int .i64 t.d,.int .i64 t.i] 39)).alloc (.cells #[.int .i64 p.op,.int .i64 p.ct,.int .i64 p.n,.int .i64 p.m,.int .i64 p.va,.slice pA p.ks.length pcap] 43)).alloc (.cells #[.int .i64 v.c,.int .i64 v.n,.slice vA v.ks.length vcap] 47)):=hb1.trans (hb2.mono hb1.size)
 have KT2:Hid (Blk (((w1.alloc (.cells #[.int .i64 t.d,.int .i64 t.i] 39)).alloc (.cells #[.int .i64 p.op,.int .i64 p.ct,.int .i64 p.n,.int .i64 p.m,.int .i64 p.va,.slice pA p.ks.length pcap] 43)).alloc (.cells #[.int .i64 v.c,.int .i64 v.n,.slice vA v.ks.length vcap] 47)) w1.heap.size 39 #[.int .i64 t.d,.int .i64 t.i]):=((Blk.new w1 _ _).same (Below.heap_alloc _ _ _ (by simp))).same (Below.heap_alloc _ _ _ (by simp;omega))
 have KP2:Hid (Blk (((w1.alloc (.cells #[.int .i64 t.d,.int .i64 t.i] 39)).alloc (.cells #[.int .i64 p.op,.int .i64 p.ct,.int .i64 p.n,.int .i64 p.m,.int .i64 p.va,.slice pA p.ks.length pcap] 43)).alloc (.cells #[.int .i64 v.c,.int .i64 v.n,.slice vA v.ks.length vcap] 47)) (w1.heap.size+1) 43 #[.int .i64 p.op,.int .i64 p.ct,.int .i64 p.n,.int .i64 p.m,.int .i64 p.va,.slice pA p.ks.length pcap]):=(zA7 w1 _ 43 _).same (Below.heap_alloc _ _ _ (by simp))
 have KV2:Hid (Blk (((w1.alloc (.cells #[.int .i64 t.d,.int .i64 t.i] 39)).alloc (.cells #[.int .i64 p.op,.int .i64 p.ct,.int .i64 p.n,.int .i64 p.m,.int .i64 p.va,.slice pA p.ks.length pcap] 43)).alloc (.cells #[.int .i64 v.c,.int .i64 v.n,.slice vA v.ks.length vcap] 47)) (w1.heap.size+2) 47 #[.int .i64 v.c,.int .i64 v.n,.slice vA v.ks.length vcap]):=by
  have h:=zA7 (w1.alloc (.cells #[.int .i64 t.d,.int .i64 t.i] 39)) (.cells #[.int .i64 p.op,.int .i64 p.ct,.int .i64 p.n,.int .i64 p.m,.int .i64 p.va,.slice pA p.ks.length pcap] 43) 47 #[.int .i64 v.c,.int .i64 v.n,.slice vA v.ks.length vcap]
  rw [World.size_alloc] at h
  exact h
 have HX2:=jj (ArrDt.below hx hb2 hfx.under)
 have UX2:Hid (Under ((((w1.alloc (.cells #[.int .i64 t.d,.int .i64 t.i] 39)).alloc (.cells #[.int .i64 p.op,.int .i64 p.ct,.int .i64 p.n,.int .i64 p.m,.int .i64 p.va,.slice pA p.ks.length pcap] 43)).alloc (.cells #[.int .i64 v.c,.int .i64 v.n,.slice vA v.ks.length vcap] 47))).heap.size FX):=hfx.under.mono hb2.size
 have HP2:=jj (hpp.below hb2 hfp.under)
 have UP2:Hid (Under ((((w1.alloc (.cells #[.int .i64 t.d,.int .i64 t.i] 39)).alloc (.cells #[.int .i64 p.op,.int .i64 p.ct,.int .i64 p.n,.int .i64 p.m,.int .i64 p.va,.slice pA p.ks.length pcap] 43)).alloc (.cells #[.int .i64 v.c,.int .i64 v.n,.slice vA v.ks.length vcap] 47))).heap.size FP):=hfp.under.mono hb2.size
 have HV2:=jj (hvv.below hb2 hfv.under)
 have UV2:Hid (Under ((((w1.alloc (.cells #[.int .i64 t.d,.int .i64 t.i] 39)).alloc (.cells #[.int .i64 p.op,.int .i64 p.ct,.int .i64 p.n,.int .i64 p.m,.int .i64 p.va,.slice pA p.ks.length pcap] 43)).alloc (.cells #[.int .i64 v.c,.int .i64 v.n,.slice vA v.ks.length vcap] 47))).heap.size FV):=hfv.under.mono hb2.size
 clear hx hfx hpp hfp hvv hfv hnp hnv hb1 hb2 HR0 HU0
 go_wp2_with fail
 obtain ⟨w2,hw2⟩:∃ X,X=(((w1.alloc (.cells #[.int .i64 t.d,.int .i64 t.i] 39)).alloc (.cells #[.int .i64 p.op,.int .i64 p.ct,.int .i64 p.n,.int .i64 p.m,.int .i64 p.va,.slice pA p.ks.length pcap] 43)).alloc (.cells #[.int .i64 v.c,.int .i64 v.n,.slice vA v.ks.length vcap] 47)):=⟨_,rfl⟩
 rw [←hw2] at hB2 KT2 KP2 KV2 HX2 UX2 HP2 UP2 HV2 UV2 ⊢
 clear hw2
 obtain ⟨cT0,cT1,lT⟩:=KT2.out.c2
 obtain ⟨cP0,cP1,cP2,cP3,cP4,cP5,lP⟩:=KP2.out.c6
 obtain ⟨cV0,cV1,cV2,lV⟩:=KV2.out.c3
 go_wp2_with fail
 clear cT0 cT1 lT cP0 cP1 cP2 cP3 cP4 cP5 lP cV0 cV1 cV2 lV
 refine (zB1 xs t p v HPZ.out HVZ.out w2 _ FX _ FP _ FV HX2.out UX2.out HP2.out UP2.out HV2.out UV2.out).mono ?_
 rintro e w3 ⟨x3,FG,rfl,hb3,hg3,-,hf3⟩
 obtain ⟨gA,gAc,rfl,hl1,hl2⟩:=hg3.form
 have hlbG:(matchV xs t p v).length≤9223372036854775807:=by omega
 clear hl1 hl2
 have KHG:=jj hg3
 have KUG:=jj hf3.under
 clear hg3 hf3
 have hB3:=hB2.trans (hb3.mono hB2.size)
 have KT3:=jj (KT2.out.same (hb3.block _ KT2.out.lt))
 have KP3:=jj (KP2.out.same (hb3.block _ KP2.out.lt))
 have KV3:=jj (KV2.out.same (hb3.block _ KV2.out.lt))
 have HX3:Hid (Arr w3 (DtR w3) xs (.slice xA xs.length xcap) FX):=(HX2.out.mono (.of_below hb3 UX2.out) (fun x _ cs G hk h=>DtR.mono x cs G hk h))
 have UX3:=jj (UX2.out.mono hb3.size)
 have HP3:Hid (PR w3 p [.int .i64 p.op,.int .i64 p.ct,.int .i64 p.n,.int .i64 p.m,.int .i64 p.va,.slice pA p.ks.length pcap] FP):=(HP2.out.below hb3 UP2.out)
 have UP3:=jj (UP2.out.mono hb3.size)
 have HV3:Hid (VR w3 v [.int .i64 v.c,.int .i64 v.n,.slice vA v.ks.length vcap] FV):=(HV2.out.below hb3 UV2.out)
 have UV3:=jj (UV2.out.mono hb3.size)
 clear hB2 hb3 KT2 KP2 KV2 HX2 UX2 HP2 UP2 HV2 UV2
 have HG3:=KHG
 have UG3:=KUG
 clear KHG KUG
 obtain ⟨cT0,cT1,lT⟩:=KT3.out.c2
 obtain ⟨cP0,cP1,cP2,cP3,cP4,cP5,lP⟩:=KP3.out.c6
 obtain ⟨cV0,cV1,cV2,lV⟩:=KV3.out.c3
 go_wp2_with fail
 clear cT0 cT1 lT cP0 cP1 cP2 cP3 cP4 cP5 lP cV0 cV1 cV2 lV
 refine (spec_MatchPattern xs t p v HPZ.out HVZ.out w3 _ FX _ FP _ FV HX3.out UX3.out HP3.out UP3.out HV3.out UV3.out).mono ?_
 rintro e w4 ⟨x4,FZ,rfl,hb4,hg4,-,hf4⟩
 obtain ⟨sA,sAc,rfl,hl1,hl2⟩:=hg4.form
 have hlbS:(matchV xs t p v).length≤9223372036854775807:=by omega
 clear hl1 hl2
 have KHS:=jj hg4
 have KUS:=jj hf4.under
 clear hg4 hf4
 have hB4:=hB3.trans (hb4.mono hB3.size)
 have KT4:=jj (KT3.out.same (hb4.block _ KT3.out.lt))
 have KP4:=jj (KP3.out.same (hb4.block _ KP3.out.lt))
 have KV4:=jj (KV3.out.same (hb4.block _ KV3.out.lt))
 have HX4:Hid (Arr w4 (DtR w4) xs (.slice xA xs.length xcap) FX):=(HX3.out.mono (.of_below hb4 UX3.out) (fun x _ cs G hk h=>DtR.mono x cs G hk h))
 have UX4:=jj (UX3.out.mono hb4.size)
 have HP4:Hid (PR w4 p [.int .i64 p.op,.int .i64 p.ct,.int .i64 p.n,.int .i64 p.m,.int .i64 p.va,.slice pA p.ks.length pcap] FP):=(HP3.out.below hb4 UP3.out)
 have UP4:=jj (UP3.out.mono hb4.size)
 have HV4:Hid (VR w4 v [.int .i64 v.c,.int .i64 v.n,.slice vA v.ks.length vcap] FV):=(HV3.out.below hb4 UV3.out)
 have UV4:=jj (UV3.out.mono hb4.size)
 have HG4:Hid (Arr w4 (BdR w4) (matchV xs t p v) (.slice gA (matchV xs t p v).length gAc) FG):=(HG3.out.mono (.of_below hb4 UG3.out) (fun x _ cs G hk h=>zA4 _ _ x cs G hk h))
 have UG4:=jj (UG3.out.mono hb4.size)
 clear hB3 hb4 KT3 KP3 KV3 HX3 UX3 HP3 UP3 HV3 UV3 HG3 UG3
 have HS4:=KHS
 have US4:=KUS
 clear KHS KUS
 obtain ⟨m,hm⟩:∃ m,m=matchB xs t p v:=⟨_,rfl⟩
 rw [←hm]
 have HM:=jj hm
 clear hm
 have hmn:(m != m)=false:=by cases m <;> rfl
 have hme:(m==m)=true:=by cases m <;> rfl
 obtain ⟨bs,hbs⟩:∃ l,l=matchV xs t p v:=⟨_,rfl⟩
 rw [←hbs] at HG4 HS4 hlbG ⊢
 clear hlbS
 have HBS:=jj hbs
 clear hbs
 obtain ⟨cT0,cT1,lT⟩:=KT4.out.c2
 obtain ⟨cP0,cP1,cP2,cP3,cP4,cP5,lP⟩:=KP4.out.c6
 obtain ⟨cV0,cV1,cV2,lV⟩:=KV4.out.c3
 go_wp2_with fail
 clear cT0 cT1 lT cP0 cP1 cP2 cP3 cP4 cP5 lP cV0 cV1 cV2 lV
 refine (ptBinds_same bs w4 _ _ FG FZ HG4.out HS4.out UG4.out US4.out).mono ?_
 rintro e w5 ⟨rfl,hb5⟩
 have hB5:=hB4.trans (hb5.mono hB4.size)
 have KT5:=jj (KT4.out.same (hb5.block _ KT4.out.lt))
 have KP5:=jj (KP4.out.same (hb5.block _ KP4.out.lt))
 have KV5:=jj (KV4.out.same (hb5.block _ KV4.out.lt))
 have HX5:Hid (Arr w5 (DtR w5) xs (.slice xA xs.length xcap) FX):=(HX4.out.mono (.of_below hb5 UX4.out) (fun x _ cs G hk h=>DtR.mono x cs G hk h))
 have UX5:=jj (UX4.out.mono hb5.size)
 have HP5:Hid (PR w5 p [.int .i64 p.op,.int .i64 p.ct,.int .i64 p.n,.int .i64 p.m,.int .i64 p.va,.slice pA p.ks.length pcap] FP):=(HP4.out.below hb5 UP4.out)
 have UP5:=jj (UP4.out.mono hb5.size)
 have HV5:Hid (VR w5 v [.int .i64 v.c,.int .i64 v.n,.slice vA v.ks.length vcap] FV):=(HV4.out.below hb5 UV4.out)
 have UV5:=jj (UV4.out.mono hb5.size)
 have HG5:Hid (Arr w5 (BdR w5) bs (.slice gA bs.length gAc) FG):=(HG4.out.mono (.of_below hb5 UG4.out) (fun x _ cs G hk h=>zA4 _ _ x cs G hk h))
 have UG5:=jj (UG4.out.mono hb5.size)
 have HS5:Hid (Arr w5 (BdR w5) bs (.slice sA bs.length sAc) FZ):=(HS4.out.mono (.of_below hb5 US4.out) (fun x _ cs G hk h=>zA4 _ _ x cs G hk h))
 have US5:=jj (US4.out.mono hb5.size)
 clear hB4 hb5 KT4 KP4 KV4 HX4 UX4 HP4 UP4 HV4 UV4 HG4 UG4 HS4 US4
 cases m with
 |false =>
  obtain ⟨cT0,cT1,lT⟩:=KT5.out.c2
  obtain ⟨cP0,cP1,cP2,cP3,cP4,cP5,lP⟩:=KP5.out.c6
  obtain ⟨cV0,cV1,cV2,lV⟩:=KV5.out.c3
  go_wp2_with fail
  clear cT0 cT1 lT cP0 cP1 cP2 cP3 cP4 cP5 lP cV0 cV1 cV2 lV
  refine (ptBinds_same bs w5 _ _ FG FZ HG5.out HS5.out UG5.out US5.out).mono ?_
  rintro e w6 ⟨rfl,hb6⟩
  have hB6:=hB5.trans (hb6.mono hB5.size)
  have KT6:=jj (KT5.out.same (hb6.block _ KT5.out.lt))
  have KP6:=jj (KP5.out.same (hb6.block _ KP5.out.lt))
  have KV6:=jj (KV5.out.same (hb6.block _ KV5.out.lt))
  have HX6:Hid (Arr w6 (DtR w6) xs (.slice xA xs.length xcap) FX):=(HX5.out.mono (.of_below hb6 UX5.out) (fun x _ cs G hk h=>DtR.mono x cs G hk h))
  have UX6:=jj (UX5.out.mono hb6.size)
  have HP6:Hid (PR w6 p [.int .i64 p.op,.int .i64 p.ct,.int .i64 p.n,.int .i64 p.m,.int .i64 p.va,.slice pA p.ks.length pcap] FP):=(HP5.out.below hb6 UP5.out)
  have UP6:=jj (UP5.out.mono hb6.size)
  have HV6:Hid (VR w6 v [.int .i64 v.c,.int .i64 v.n,.slice vA v.ks.length vcap] FV):=(HV5.out.below hb6 UV5.out)
  have UV6:=jj (UV5.out.mono hb6.size)
  have HG6:Hid (Arr w6 (BdR w6) bs (.slice gA bs.length gAc) FG):=(HG5.out.mono (.of_below hb6 UG5.out) (fun x _ cs G hk h=>zA4 _ _ x cs G hk h))
  have UG6:=jj (UG5.out.mono hb6.size)
  have HS6:Hid (Arr w6 (BdR w6) bs (.slice sA bs.length sAc) FZ):=(HS5.out.mono (.of_below hb6 US5.out) (fun x _ cs G hk h=>zA4 _ _ x cs G hk h))
  have US6:=jj (US5.out.mono hb6.size)
  clear hB5 hb6 KT5 KP5 KV5 HX5 UX5 HP5 UP5 HV5 UV5 HG5 UG5 HS5 US5
  go_wp2
  go_ret
  exact ⟨rfl,hB6⟩
 |true =>
  have hmv:=match_vars HM.out.symm
  rw [←HBS.out] at hmv
  have HMV:=jj hmv
  clear hmv
  obtain ⟨cT0,cT1,lT⟩:=KT5.out.c2
  obtain ⟨cP0,cP1,cP2,cP3,cP4,cP5,lP⟩:=KP5.out.c6
  obtain ⟨cV0,cV1,cV2,lV⟩:=KV5.out.c3
  go_wp2_with fail
  clear cT0 cT1 lT cP0 cP1 cP2 cP3 cP4 cP5 lP cV0 cV1 cV2 lV
  refine (impl_PatternVars xs t p w5 _ FX _ FP HX5.out UX5.out HP5.out UP5.out).mono ?_
  rintro e w6 ⟨vP,FQ,rfl,hb6,hq6,-,hf6⟩
  obtain ⟨vl,hvl⟩:∃ l,l=patternVarsL xs t p:=⟨_,rfl⟩
  rw [←hvl] at hq6 HMV
  clear hvl
  obtain ⟨qA,qc,rfl,hvm1,hvm2⟩:=hq6.form
  have hvm:vl.length≤9223372036854775807:=by omega
  clear hvm1 hvm2
  have KHQ:=jj hq6
  have KUQ:=jj hf6.under
  clear hq6 hf6
  have hB6:=hB5.trans (hb6.mono hB5.size)
  have KT6:=jj (KT5.out.same (hb6.block _ KT5.out.lt))
  have KP6:=jj (KP5.out.same (hb6.block _ KP5.out.lt))
  have KV6:=jj (KV5.out.same (hb6.block _ KV5.out.lt))
  have HX6:Hid (Arr w6 (DtR w6) xs (.slice xA xs.length xcap) FX):=(HX5.out.mono (.of_below hb6 UX5.out) (fun x _ cs G hk h=>DtR.mono x cs G hk h))
  have UX6:=jj (UX5.out.mono hb6.size)
  have HP6:Hid (PR w6 p [.int .i64 p.op,.int .i64 p.ct,.int .i64 p.n,.int .i64 p.m,.int .i64 p.va,.slice pA p.ks.length pcap] FP):=(HP5.out.below hb6 UP5.out)
  have UP6:=jj (UP5.out.mono hb6.size)
  have HV6:Hid (VR w6 v [.int .i64 v.c,.int .i64 v.n,.slice vA v.ks.length vcap] FV):=(HV5.out.below hb6 UV5.out)
  have UV6:=jj (UV5.out.mono hb6.size)
  have HG6:Hid (Arr w6 (BdR w6) bs (.slice gA bs.length gAc) FG):=(HG5.out.mono (.of_below hb6 UG5.out) (fun x _ cs G hk h=>zA4 _ _ x cs G hk h))
  have UG6:=jj (UG5.out.mono hb6.size)
  have HS6:Hid (Arr w6 (BdR w6) bs (.slice sA bs.length sAc) FZ):=(HS5.out.mono (.of_below hb6 US5.out) (fun x _ cs G hk h=>zA4 _ _ x cs G hk h))
  have US6:=jj (US5.out.mono hb6.size)
  clear hB5 hb6 KT5 KP5 KV5 HX5 UX5 HP5 UP5 HV5 UV5 HG5 UG5 HS5 US5
  have HQ6:=KHQ
  have UQ6:=KUQ
  clear KHQ KUQ
  go_wp2
  go_loopw [12] (fun iv wr=>∃ i:Nat,i≤vl.length∧iv=.int .i64 i∧Below w6.heap.size w6 wr) (fun iv _=>vl.length-(intOf iv).toNat)
  case atStart=>exact ⟨0,Nat.zero_le _,rfl,zy2 _ _⟩
  case round =>
   obtain ⟨i,hi,rfl,hbr⟩:=hrel
   by_cases hlt:i<vl.length
   ·have g1:(0:Int)≤(i:Int):=by omega
    have g2:(i:Int)<(vl.length:Int):=by omega
    have HFD:=jj (HMV.out.found vl[i] (List.getElem_mem hlt))
    obtain ⟨bv,offv,rfl⟩:=HQ6.out.ptr (by omega)
    obtain ⟨vi,hvi⟩:∃ u,u=vl[i]:=⟨_,rfl⟩
    rw [←hvi] at HFD
    have HVI:=jj hvi
    clear hvi
    obtain ⟨wo,hwo⟩:∃ wo,wo=wr:=⟨_,rfl⟩
    rw [←hwo] at hbr ⊢
    clear hwo
    go_wp2
    go_loopw [13,14] (fun fv kv wr=>∃ k:Nat,k≤bs.length∧kv=.int .i64 k∧fv=.bool (foundTo xs vi bs k)∧Below w6.heap.size w6 wr) (fun _ kv _=>bs.length-(intOf kv).toNat)
    case atStart=>exact ⟨0,Nat.zero_le _,rfl,by rw [foundTo_zero],hbr⟩
    case round =>
     clear hbr
     obtain ⟨k,hk,rfl,rfl,hbr⟩:=hrel
     by_cases hlk:k<bs.length
     ·have g3:(0:Int)≤(k:Int):=by omega
      have g4:(k:Int)<(bs.length:Int):=by omega
      obtain ⟨bb,offb,rfl⟩:=HG6.out.ptr (by omega)
      obtain ⟨kA,kcap,GK,hbb,b0,b1,b2,b3,HKi,UKi⟩:=ArrBd.at HG6.out UG6.out hbr k hlk
      obtain ⟨hvb,v0,v1,v2⟩:=ArrVt.at HQ6.out UQ6.out hbr i hlt
      have HFS:=jj (foundTo_succ xs vi bs k hlk)
      have HSM:Hid (bs[k].val.size≤1048576):=Nat.le_trans (HMV.out.small _ (List.getElem_mem hlk)) HVZ.out
      have HXr:=jj (ArrDt.below HX6.out hbr UX6.out)
      have UXr:=jj (UX6.out.mono hbr.size)
      rw [←HVI.out] at v0 v1 v2
      obtain ⟨bk,hbk⟩:∃ u,u=bs[k]:=⟨_,rfl⟩
      rw [←hbk] at b0 b1 b2 b3 HKi HSM HFS
      clear hbk
      obtain ⟨fd,hfd⟩:∃ u,u=foundTo xs vi bs k:=⟨_,rfl⟩
      rw [←hfd] at HFS ⊢
      clear hfd
      cases fd with
      |true =>
       go_wp2_with fail
       have HS:Hid (∀ C:World,Below wr.heap.size wr C→(C.cell? ⟨bb,offb+k*4,none⟩=some (.int .i64 bk.var)∧C.cell? ⟨bb,offb+k*4+1,none⟩=some (.int .i64 bk.val.c)∧C.cell? ⟨bb,offb+k*4+2,none⟩=some (.int .i64 bk.val.n)∧C.cell? ⟨bb,offb+k*4+3,none⟩=some (.slice kA bk.val.ks.length kcap)∧C.cell? ⟨bv,offv+i*3,none⟩=some (.int .i64 vi.var)∧C.cell? ⟨bv,offv+i*3+1,none⟩=some (.int .i64 vi.ty.d)∧C.cell? ⟨bv,offv+i*3+2,none⟩=some (.int .i64 vi.ty.i))):=fun C hb=>⟨(hb.cell (hbb)).trans b0,(hb.cell (hbb)).trans b1,(hb.cell (hbb)).trans b2,(hb.cell (hbb)).trans b3,(hb.cell (hvb)).trans v0,(hb.cell (hvb)).trans v1,(hb.cell (hvb)).trans v2⟩
       have hC0:Below wr.heap.size wr wr.drew:=(zy2 _ _).drew
       refine zA5 (S:=fun w'=>w'.cell? ⟨bb,offb+k*4,none⟩=some (.int .i64 bk.var)∧w'.cell? ⟨bb,offb+k*4+1,none⟩=some (.int .i64 bk.val.c)∧w'.cell? ⟨bb,offb+k*4+2,none⟩=some (.int .i64 bk.val.n)∧w'.cell? ⟨bb,offb+k*4+3,none⟩=some (.slice kA bk.val.ks.length kcap)∧w'.cell? ⟨bv,offv+i*3,none⟩=some (.int .i64 vi.var)∧w'.cell? ⟨bv,offv+i*3+1,none⟩=some (.int .i64 vi.ty.d)∧w'.cell? ⟨bv,offv+i*3+2,none⟩=some (.int .i64 vi.ty.i)) (T:=fun _=>True) (d:=99) (by kernel_rfl) ?_
       obtain ⟨wd,hwd⟩:∃ X,X=wr.drew:=⟨_,rfl⟩
       rw [←hwd] at hC0  ⊢
       clear hwd
       have hS0:=HS.out _ hC0
       have hT0:True:=trivial
       refine wV 0 rfl hS0 hT0 ?_
       (try simp only [zz])
       refine wV 1 rfl hS0 hT0 ?_
       (try simp only [zz])
       refine wN 2 rfl hS0 hT0 ?_
       (try simp only [zz])
       refine wN 3 rfl hS0 hT0 ?_
       (try simp only [zz])
       refine wN 4 rfl hS0 hT0 ?_
       (try simp only [zz])
       refine wN 5 rfl hS0 hT0 ?_
       (try simp only [zz])
       refine wN 6 rfl hS0 hT0 ?_
       (try simp only [zz])
       refine wN 7 rfl hS0 hT0 ?_
       (try simp only [zz])
       refine wN 8 rfl hS0 hT0 ?_
       (try simp only [zz])
       refine wN 9 rfl hS0 hT0 ?_
       (try simp only [zz])
       refine wN 10 rfl hS0 hT0 ?_
       (try simp only [zz])
       refine wN 11 rfl hS0 hT0 ?_
       (try simp only [zz])
       refine wN 12 rfl hS0 hT0 ?_
       (try simp only [zz])
       refine wN 13 rfl hS0 hT0 ?_
       (try simp only [zz])
       refine wN 14 rfl hS0 hT0 ?_
       (try simp only [zz])
       refine wN 15 rfl hS0 hT0 ?_
       (try simp only [zz])
       refine wN 16 rfl hS0 hT0 ?_
       (try simp only [zz])
       refine wN 17 rfl hS0 hT0 ?_
       (try simp only [zz])
       refine wN 18 rfl hS0 hT0 ?_
       (try simp only [zz])
       refine wN 19 rfl hS0 hT0 ?_
       (try simp only [zz])
       refine wN 20 rfl hS0 hT0 ?_
       (try simp only [zz])
       refine wN 21 rfl hS0 hT0 ?_
       (try simp only [zz])
       refine wN 22 rfl hS0 hT0 ?_
       (try simp only [zz])
       refine wN 23 rfl hS0 hT0 ?_
       (try simp only [zz])
       refine wN 24 rfl hS0 hT0 ?_
       (try simp only [zz])
       refine wN 25 rfl hS0 hT0 ?_
       (try simp only [zz])
       refine wN 26 rfl hS0 hT0 ?_
       (try simp only [zz])
       refine wV 27 rfl hS0 hT0 ?_
       (try simp only [zz])
       refine wV 28 rfl hS0 hT0 ?_
       (try simp only [zz])
       refine wE (by kernel_rfl) ?_
       clear hS0 hT0
       have hbr9:=hbr.trans (hC0.mono hbr.size)
       clear b0 b1 b2 b3 v0 v1 v2 hbb hvb hC0 hbr HXr UXr
       obtain ⟨wq,hwq⟩:∃ X,X=wd:=⟨_,rfl⟩
       rw [←hwq] at hbr9 ⊢
       clear hwq
       go_wp2
       go_roundw
       case rel=>exact ⟨k+1,by omega,by go_num,by rw [HFS.out];rfl,hbr9⟩
       case measure=>(simp [intOf] <;> omega)
      |false =>
       cases hve:(bk.var==vi.var) with
       |false =>
        rw [hve] at HFS
        go_wp2_with fail
        have HS:Hid (∀ C:World,Below wr.heap.size wr C→(C.cell? ⟨bb,offb+k*4,none⟩=some (.int .i64 bk.var)∧C.cell? ⟨bb,offb+k*4+1,none⟩=some (.int .i64 bk.val.c)∧C.cell? ⟨bb,offb+k*4+2,none⟩=some (.int .i64 bk.val.n)∧C.cell? ⟨bb,offb+k*4+3,none⟩=some (.slice kA bk.val.ks.length kcap)∧C.cell? ⟨bv,offv+i*3,none⟩=some (.int .i64 vi.var)∧C.cell? ⟨bv,offv+i*3+1,none⟩=some (.int .i64 vi.ty.d)∧C.cell? ⟨bv,offv+i*3+2,none⟩=some (.int .i64 vi.ty.i))):=fun C hb=>⟨(hb.cell (hbb)).trans b0,(hb.cell (hbb)).trans b1,(hb.cell (hbb)).trans b2,(hb.cell (hbb)).trans b3,(hb.cell (hvb)).trans v0,(hb.cell (hvb)).trans v1,(hb.cell (hvb)).trans v2⟩
        have hC0:Below wr.heap.size wr wr.drew:=(zy2 _ _).drew
        refine zA5 (S:=fun w'=>w'.cell? ⟨bb,offb+k*4,none⟩=some (.int .i64 bk.var)∧w'.cell? ⟨bb,offb+k*4+1,none⟩=some (.int .i64 bk.val.c)∧w'.cell? ⟨bb,offb+k*4+2,none⟩=some (.int .i64 bk.val.n)∧w'.cell? ⟨bb,offb+k*4+3,none⟩=some (.slice kA bk.val.ks.length kcap)∧w'.cell? ⟨bv,offv+i*3,none⟩=some (.int .i64 vi.var)∧w'.cell? ⟨bv,offv+i*3+1,none⟩=some (.int .i64 vi.ty.d)∧w'.cell? ⟨bv,offv+i*3+2,none⟩=some (.int .i64 vi.ty.i)) (T:=fun _=>True) (d:=99) (by kernel_rfl) ?_
        obtain ⟨wd,hwd⟩:∃ X,X=wr.drew:=⟨_,rfl⟩
        rw [←hwd] at hC0  ⊢
        clear hwd
        have hS0:=HS.out _ hC0
        have hT0:True:=trivial
        refine wV 0 rfl hS0 hT0 ?_
        (try simp only [zz])
        refine wV 1 rfl hS0 hT0 ?_
        (try simp only [zz])
        refine wV 2 rfl hS0 hT0 ?_
        (try simp only [zz])
        refine wV 3 rfl hS0 hT0 ?_
        (try simp only [zz])
        refine wV 4 rfl hS0 hT0 ?_
        (try simp only [zz])
        refine wV 5 rfl hS0 hT0 ?_
        (try simp only [zz])
        refine wV 6 rfl hS0 hT0 ?_
        (try simp only [zz])
        refine wV 7 rfl hS0 hT0 ?_
        (try simp only [zz])
        refine wV 8 rfl hS0 hT0 ?_
        (try simp only [zz])
        refine wV 9 rfl hS0 hT0 ?_
        (try simp only [zz])
        refine wV 10 rfl hS0 hT0 ?_
        (try simp only [zz])
        refine wV 11 rfl hS0 hT0 ?_
        (try simp only [zz])
        refine wV 12 rfl hS0 hT0 ?_
        (try simp only [zz])
        refine wV 13 rfl hS0 hT0 ?_
        (try simp only [zz])
        refine wN 14 rfl hS0 hT0 ?_
        (try simp only [zz])
        refine wN 15 rfl hS0 hT0 ?_
        (try simp only [zz])
        refine wN 16 rfl hS0 hT0 ?_
        (try simp only [zz])
        refine wN 17 rfl hS0 hT0 ?_
        (try simp only [zz])
        refine wN 18 rfl hS0 hT0 ?_
        (try simp only [zz])
        refine wN 19 rfl hS0 hT0 ?_
        (try simp only [zz])
        refine wN 20 rfl hS0 hT0 ?_
        (try simp only [zz])
        refine wN 21 rfl hS0 hT0 ?_
        (try simp only [zz])
        refine wN 22 rfl hS0 hT0 ?_
        (try simp only [zz])
        refine wN 23 rfl hS0 hT0 ?_
        (try simp only [zz])
        refine wN 24 rfl hS0 hT0 ?_
        (try simp only [zz])
        refine wN 25 rfl hS0 hT0 ?_
        (try simp only [zz])
        refine wV 26 rfl hS0 hT0 ?_
        (try simp only [zz])
        refine wV 27 rfl hS0 hT0 ?_
        (try simp only [zz])
        refine wV 28 rfl hS0 hT0 ?_
        (try simp only [zz])
        refine wE (by kernel_rfl) ?_
        clear hS0 hT0
        have hbr9:=hbr.trans (hC0.mono hbr.size)
        clear b0 b1 b2 b3 v0 v1 v2 hbb hvb hC0 hbr HXr UXr
        obtain ⟨wq,hwq⟩:∃ X,X=wd:=⟨_,rfl⟩
        rw [←hwq] at hbr9 ⊢
        clear hwq
        go_wp2
        go_roundw
        case rel=>exact ⟨k+1,by omega,by go_num,by rw [HFS.out];rfl,hbr9⟩
        case measure=>(simp [intOf] <;> omega)
       |true =>
        rw [hve] at HFS
        go_wp2_with fail
        have HS:Hid (∀ C:World,Below wr.heap.size wr C→(C.cell? ⟨bb,offb+k*4,none⟩=some (.int .i64 bk.var)∧C.cell? ⟨bb,offb+k*4+1,none⟩=some (.int .i64 bk.val.c)∧C.cell? ⟨bb,offb+k*4+2,none⟩=some (.int .i64 bk.val.n)∧C.cell? ⟨bb,offb+k*4+3,none⟩=some (.slice kA bk.val.ks.length kcap)∧C.cell? ⟨bv,offv+i*3,none⟩=some (.int .i64 vi.var)∧C.cell? ⟨bv,offv+i*3+1,none⟩=some (.int .i64 vi.ty.d)∧C.cell? ⟨bv,offv+i*3+2,none⟩=some (.int .i64 vi.ty.i))):=fun C hb=>⟨(hb.cell (hbb)).trans b0,(hb.cell (hbb)).trans b1,(hb.cell (hbb)).trans b2,(hb.cell (hbb)).trans b3,(hb.cell (hvb)).trans v0,(hb.cell (hvb)).trans v1,(hb.cell (hvb)).trans v2⟩
        have hC0:Below wr.heap.size wr wr.drew:=(zy2 _ _).drew
        refine zA5 (S:=fun w'=>w'.cell? ⟨bb,offb+k*4,none⟩=some (.int .i64 bk.var)∧w'.cell? ⟨bb,offb+k*4+1,none⟩=some (.int .i64 bk.val.c)∧w'.cell? ⟨bb,offb+k*4+2,none⟩=some (.int .i64 bk.val.n)∧w'.cell? ⟨bb,offb+k*4+3,none⟩=some (.slice kA bk.val.ks.length kcap)∧w'.cell? ⟨bv,offv+i*3,none⟩=some (.int .i64 vi.var)∧w'.cell? ⟨bv,offv+i*3+1,none⟩=some (.int .i64 vi.ty.d)∧w'.cell? ⟨bv,offv+i*3+2,none⟩=some (.int .i64 vi.ty.i)) (T:=fun _=>True) (d:=99) (by kernel_rfl) ?_
        obtain ⟨wd,hwd⟩:∃ X,X=wr.drew:=⟨_,rfl⟩
        rw [←hwd] at hC0  ⊢
        clear hwd
        have hS0:=HS.out _ hC0
        have hT0:True:=trivial
        refine wV 0 rfl hS0 hT0 ?_
        (try simp only [zz])
        refine wV 1 rfl hS0 hT0 ?_
        (try simp only [zz])
        refine wV 2 rfl hS0 hT0 ?_
        (try simp only [zz])
        refine wV 3 rfl hS0 hT0 ?_
        (try simp only [zz])
        refine wV 4 rfl hS0 hT0 ?_
        (try simp only [zz])
        refine wV 5 rfl hS0 hT0 ?_
        (try simp only [zz])
        refine wV 6 rfl hS0 hT0 ?_
        (try simp only [zz])
        refine wV 7 rfl hS0 hT0 ?_
        (try simp only [zz])
        refine wV 8 rfl hS0 hT0 ?_
        (try simp only [zz])
        refine wV 9 rfl hS0 hT0 ?_
        (try simp only [zz])
        refine wV 10 rfl hS0 hT0 ?_
        (try simp only [zz])
        refine wV 11 rfl hS0 hT0 ?_
        (try simp only [zz])
        refine wV 12 rfl hS0 hT0 ?_
        (try simp only [zz])
        refine wV 13 rfl hS0 hT0 ?_
        (try simp only [zz])
        refine wV 14 rfl hS0 hT0 ?_
        (try simp only [zz])
        refine wV 15 rfl hS0 hT0 ?_
        (try simp only [zz])
        refine wV 16 rfl hS0 hT0 ?_
        (try simp only [zz])
        refine wV 17 rfl hS0 hT0 ?_
        (try simp only [zz])
        refine wV 18 rfl hS0 hT0 ?_
        (try simp only [zz])
        refine wV 19 rfl hS0 hT0 ?_
        (try simp only [zz])
        refine wV 20 rfl hS0 hT0 ?_
        (try simp only [zz])
        refine wV 21 rfl hS0 hT0 ?_
        (try simp only [zz])
        refine wV 22 rfl hS0 hT0 ?_
        (try simp only [zz])
        refine wV 23 rfl hS0 hT0 ?_
        (try simp only [zz])
        refine wV 24 rfl hS0 hT0 ?_
        (try simp only [zz])
        have HXd:=jj (ArrDt.below HXr.out hC0 UXr.out)
        have UXd:=jj (UXr.out.mono hC0.size)
        have hbd:=hbr.trans (hC0.mono hbr.size)
        refine Go.Proofs.YtghekinfoadcoaaGreat.w1 25 rfl fun K hK=>?_
        go_simp
        go_at_call 28
        refine (impl_ValueValid xs vi.ty bk.val wd _ FX _ GK HXd.out UXd.out (HKi.out.below hbd UKi.out) (UKi.out.mono hbd.size) HSM.out).mono ?_
        rintro e C9 ⟨rfl,hb9⟩
        have hC1:Below wr.heap.size wr C9:=hC0.trans (hb9.mono hC0.size)
        have hS1:=HS.out _ hC1
        (try dsimp only)
        refine hK.out _ _ hS1 (fun _=>trivial) ?_
        clear hK K
        (try simp only [zz])
        refine wV 26 rfl hS1 hT0 ?_
        (try simp only [zz])
        refine wV 27 rfl hS1 hT0 ?_
        (try simp only [zz])
        refine wV 28 rfl hS1 hT0 ?_
        (try simp only [zz])
        refine wE (by kernel_rfl) ?_
        clear hS0 hS1 hT0
        have hbr9:=hbr.trans (hC1.mono hbr.size)
        clear b0 b1 b2 b3 v0 v1 v2 hbb hvb hC0 hbr HXr UXr hC1 hb9 HXd UXd hbd
        obtain ⟨wq,hwq⟩:∃ X,X=C9:=⟨_,rfl⟩
        rw [←hwq] at hbr9 ⊢
        clear hwq
        obtain ⟨vv,hvv⟩:∃ u,u=valueValidB xs vi.ty bk.val:=⟨_,rfl⟩
        rw [←hvv] at HFS ⊢
        clear hvv
        go_wp2
        go_roundw
        case rel=>exact ⟨k+1,by omega,by go_num,by rw [HFS.out];rfl,hbr9⟩
        case measure=>(simp [intOf] <;> omega)
     ·have hfo:foundTo xs vi bs k=true:=by rw [foundTo_all xs vi bs (Nat.le_of_not_lt hlk)];exact HFD.out
      rw [hfo]
      clear hfo
      go_wp2
      go_roundw
      case rel=>exact ⟨i+1,by omega,by go_num,hbr⟩
      case measure=>(simp [intOf] <;> omega)
   ·have hend:((bs.length:Int)==(vl.length:Int))=true:=by rw [beq_iff_eq,HMV.out.len]
    have hB9:=hB6.trans (hbr.mono hB6.size)
    go_wp2
    go_ret
    exact ⟨rfl,hB9⟩
end Go.Proofs.YtghekinfoadcoaaGreat.fnMatchVars
namespace Go.Proofs.YtghekinfoadcoaaGreat.fnMatchVars
open Go.ChangeShapes Go.WideShapes Go.ChangeAt Go.RowKit
open Go.ChangeMaps (open_string shut_string)
set_option linter.unusedVariables false

theorem own : ownKnob Tryz.prog.godebug = none := by kernel_rfl
theorem laidOut : laidOutB Tryz.prog = true := by kernel_rfl

set_option maxRecDepth 100000 in
theorem lifted (os : Os) (started : os.Started) (H : Type) (enc : TypeId × Value → H) :
    ReturnsInHanded {} Tryz.checked os 6 .any (Rows.fnMatchVarsSpec.pre6 enc Tryz.prog Tryz.f6 Rows.fnMatchVarsRow.domain false) (Rows.fnMatchVarsSpec.post enc Tryz.prog Tryz.f6 false true false false) := by
  refine returnsInHanded_of_change (C := Tryz.checked) own started (by kernel_rfl) Tryz.func6
    (ChangeSpec.witness6 (enc := enc) (C := Tryz.checked) false ⟨#[], #[.slice none 0 0], []⟩ 8 (by kernel_rfl) (by kernel_rfl) (by kernel_rfl) (by kernel_rfl)) ?_
  intro W base args ds gs before hval0 hW hcnd _
  have hval : ∀ (j : Nat) t v, Tryz.f6.params[j]? = some t → args[j]? = some v → Value.okWide Tryz.prog W .any base t v := hval0
  have hW' := hW
  obtain ⟨p, q, hA0, hV, rfl, hfz, hnd⟩ := hW
  have hA : DataW.TrodAll enc Tryz.prog W 0 (fun _ => true) true Tryz.f6.params.toList args.toList ds p := hA0
  rw [Tryz.params6] at hA hval
  obtain ⟨v0, vs0, d0, ds0, p0, q0, hargs, rfl, rfl, h0, r0⟩ := trodAll_cons hA
  obtain ⟨rfl, rfl, rfl⟩ := trodAll_nil r0
  obtain rfl : args = #[v0] := by cases args; simp_all
  obtain ⟨rfl, rfl⟩ := trodVars_none hV
  have k0 := h0
  have lt0 : ∀ x ∈ p0, x.block < W.heap.size := by obtain ⟨m, hm⟩ := k0; exact DataW.trod_lt m _ _ _ hm
  obtain ⟨x0, F0, hR0, hU0⟩ := open_Bytes (hval 0 58 v0 rfl rfl) h0
  clear hA0 hval0
  refine (walk x0 v0 F0 hR0 hU0 W rfl).mono fun e W' ⟨he, bel⟩ => ?_
  subst he
  exact ⟨_, rfl, _, _, _, [], _, [], hW', trodAll_mk1 (shut_bool Tryz.underlying4 _), (trodAll_cons_mk (Below.trod laidOut (by kernel_rfl) (of_decide_eq_true (by kernel_rfl)) k0 bel lt0) trodAll_mk0), rfl, bel.frame _, fun h => by cases h⟩

set_option maxHeartbeats 4000000 in
theorem closed : joinedFacts Tryz.pinned.checked.prog 6 Tryz.f6 Rows.fnMatchVarsSpec Rows.fnMatchVarsRow = true := by
  unfold joinedFacts
  have key : ∀ a b : Bool, a = true → b = true → (a && b) = true := fun a b h1 h2 => by rw [h1, h2]; rfl
  repeat' (with_reducible refine key _ _ ?_ ?_)
  all_goals as_aux_lemma => kernel_rfl

theorem over : Rows.fnMatchVarsRow.holds Tryz.pinned (OpenSpec.ofChange Rows.fnMatchVarsSpec) :=
  OpenClaim.holds_of_wide 6 Tryz.f6 rfl rfl rfl rfl rfl rfl rfl ⟨rfl, rfl, rfl, rfl, rfl⟩ rfl rfl rfl rfl rfl (by kernel_rfl) Tryz.func6 closed
    (of_decide_eq_true (by kernel_rfl)) (by unfold Func.isWrapper; first | (rw [if_pos (by decide +kernel)]; kernel_rfl) | (rw [if_neg (by decide +kernel)]; exact ⟨rfl, rfl⟩))
    (fun os started H enc _ => lifted os started H enc)

theorem proved : Rows.FnMatchVarsSaid := over
end Go.Proofs.YtghekinfoadcoaaGreat.fnMatchVars
