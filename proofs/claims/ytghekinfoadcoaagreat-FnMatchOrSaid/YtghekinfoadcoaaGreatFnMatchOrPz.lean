/-
  FnMatchOr: for every argument the law returns true. Conditions: none.
-/
import Derived.Test.YtghekinfoadcoaaGreatKAK
import Derived.Test.YtghekinfoadcoaaGreatKAP
import Derived.Test.YtghekinfoadcoaaGreatKAQ
import Derived.Test.YtghekinfoadcoaaGreatKAR
import Derived.Test.YtghekinfoadcoaaGreatKAC
import Derived.Deep.RegionWith
import Derived.Deep.RegionHeld3
import Derived.BigQuiet
import Derived.Test.YtghekinfoadcoaaGreatRows
import Derived.ProofKit
import Derived.OpenShut
import Derived.ShutString
import Derived.ChangeOld
import Derived.Below

set_option linter.unusedVariables false
set_option linter.unusedSimpArgs false
set_option maxRecDepth 100000
set_option maxHeartbeats 1600000

namespace Go.Proofs.YtghekinfoadcoaaGreat.fnMatchOr
open Go.RowKit
set_option maxHeartbeats 8000000 in
theorem walk {W:World} (x0:List Int) (v0:Value) (F0:List Nat) (hR0:Arr W (ByR W) x0 v0 F0) (hU0:Under W.heap.size F0) (w:World) (hw:w=W) :
  Calls Tryz.prog 5 #[v0] w fun e w'=>e=.returned (.bool true)∧Below w.heap.size w w':=by
 subst hw
 obtain ⟨A0,cap0,rfl,-,-⟩:=hR0.form
 have HR0:=jj hR0
 have HU0:=jj hU0
 clear hR0 hU0
 by_cases hlen:1048576<x0.length
 ·have t0:decide ((x0.length:Int)>1048576)=true:=decide_eq_true (by omega)
  go_enter Tryz.func5,Tryz.ntmps5
  go_wp2
  go_ret
  exact ⟨rfl,zy2 _ _⟩
 have t0:decide ((x0.length:Int)>1048576)=false:=decide_eq_false (by omega)
 go_enter Tryz.func5,Tryz.ntmps5
 go_wp2_with fail
 refine (zBD x0 w _ F0 HR0.out HU0.out).mono ?_
 rintro e w1 ⟨xs,v1,FX,t,p,pA,pcap,FP,v,vA,vcap,FV,rfl,hb1,-,hx,hfx,hpp,hfp,hnp,hvv,hfv,hnv⟩
 obtain ⟨xA,xcap,rfl,-,-⟩:=hx.form
 have HPZ:Hid (p.size≤1048576):=by unfold nodesP at hnp;unfold Hid;omega
 have HNP:=jj hnp
 have HVZ:Hid (v.size≤1048576):=by unfold nodes at hnv;unfold Hid;omega
 have hb2:Below w1.heap.size w1 (((w1.alloc (.cells #[.int .i64 t.d,.int .i64 t.i] 39)).alloc (.cells #[.int .i64 p.op,.int .i64 p.ct,.int .i64 p.n,.int .i64 p.m,.int .i64 p.va,.slice pA p.ks.length pcap] 43)).alloc (.cells #[.int .i64 v.c,.int .i64 v.n,.slice vA v.ks.length vcap] 47)):=(((zy2 _ _).alloc (zz8 _) _).alloc (by simp) _).alloc (by simp;omega) _
 have hB2:Below w.heap.size w (((w1.alloc (.cells #[.int .i64 t.d,.int .i64 t.i] 39)).alloc (.cells #[.int .i64 p.op,.int .i64 p.ct,.int .i64 p.n,.int .i64 p.m,.int .i64 p.va,.slice pA p.ks.length pcap] 43)).alloc (.cells #[.int .i64 v.c,.int .i64 v.n,.slice vA v.ks.length vcap] 47)):=hb1.trans (hb2.mono hb1.size)
 have KT2:Hid (Blk (((w1.alloc (.cells #[.int .i64 t.d,.int .i64 t.i] 39)).alloc (.cells #[.int .i64 p.op,.int .i64 p.ct,.int .i64 p.n,.int .i64 p.m,.int .i64 p.va,.slice pA p.ks.length pcap] 43)).alloc (.cells #[.int .i64 v.c,.int .i64 v.n,.slice vA v.ks.length vcap] 47)) w1.heap.size 39 #[.int .i64 t.d,.int .i64 t.i]):=((Blk.new w1 _ _).same (Below.heap_alloc _ _ _ (by simp))).same (Below.heap_alloc _ _ _ (by simp;omega))
 have KP2:Hid (Blk (((w1.alloc (.cells #[.int .i64 t.d,.int .i64 t.i] 39)).alloc (.cells #[.int .i64 p.op,.int .i64 p.ct,.int .i64 p.n,.int .i64 p.m,.int .i64 p.va,.slice pA p.ks.length pcap] 43)).alloc (.cells #[.int .i64 v.c,.int .i64 v.n,.slice vA v.ks.length vcap] 47)) (w1.heap.size+1) 43 #[.int .i64 p.op,.int .i64 p.ct,.int .i64 p.n,.int .i64 p.m,.int .i64 p.va,.slice pA p.ks.length pcap]):=(zA7 w1 _ 43 _).same (Below.heap_alloc _ _ _ (by simp))
 have KV2:Hid (Blk (((w1.alloc (.cells #[.int .i64 t.d,.int .i64 t.i] 39)).alloc (.cells #[.int .i64 p.op,.int .i64 p.ct,.int .i64 p.n,.int .i64 p.m,.int .i64 p.va,.slice pA p.ks.length pcap] 43)).alloc (.cells #[.int .i64 v.c,.int .i64 v.n,.slice vA v.ks.length vcap] 47)) (w1.heap.size+2) 47 #[.int .i64 v.c,.int .i64 v.n,.slice vA v.ks.length vcap]):=by
  have h:=zA7 (w1.alloc (.cells #[.int .i64 t.d,.int .i64 t.i] 39)) (.cells #[.int .i64 p.op,.int .i64 p.ct,.int .i64 p.n,.int .i64 p.m,.int .i64 p.va,.slice pA p.ks.length pcap] 43) 47 #[.int .i64 v.c,.int .i64 v.n,.slice vA v.ks.length vcap]
  rw [World.size_alloc] at h
  exact h
 have HX2:=jj (ArrDt.below hx hb2 hfx.under)
 have UX2:Hid (Under ((((w1.alloc (.cells #[.int .i64 t.d,.int .i64 t.i] 39)).alloc (.cells #[.int .i64 p.op,.int .i64 p.ct,.int .i64 p.n,.int .i64 p.m,.int .i64 p.va,.slice pA p.ks.length pcap] 43)).alloc (.cells #[.int .i64 v.c,.int .i64 v.n,.slice vA v.ks.length vcap] 47))).heap.size FX):=hfx.under.mono hb2.size
 have HP2:=jj (hpp.below hb2 hfp.under)
 have UP2:Hid (Under ((((w1.alloc (.cells #[.int .i64 t.d,.int .i64 t.i] 39)).alloc (.cells #[.int .i64 p.op,.int .i64 p.ct,.int .i64 p.n,.int .i64 p.m,.int .i64 p.va,.slice pA p.ks.length pcap] 43)).alloc (.cells #[.int .i64 v.c,.int .i64 v.n,.slice vA v.ks.length vcap] 47))).heap.size FP):=hfp.under.mono hb2.size
 have HV2:=jj (hvv.below hb2 hfv.under)
 have UV2:Hid (Under ((((w1.alloc (.cells #[.int .i64 t.d,.int .i64 t.i] 39)).alloc (.cells #[.int .i64 p.op,.int .i64 p.ct,.int .i64 p.n,.int .i64 p.m,.int .i64 p.va,.slice pA p.ks.length pcap] 43)).alloc (.cells #[.int .i64 v.c,.int .i64 v.n,.slice vA v.ks.length vcap] 47))).heap.size FV):=hfv.under.mono hb2.size
 clear hx hfx hpp hfp hvv hfv hnp hnv hb1 hb2 HR0 HU0
 go_wp2_with fail
 obtain ⟨w2,hw2⟩:∃ X,X=(((w1.alloc (.cells #[.int .i64 t.d,.int .i64 t.i] 39)).alloc (.cells #[.int .i64 p.op,.int .i64 p.ct,.int .i64 p.n,.int .i64 p.m,.int .i64 p.va,.slice pA p.ks.length pcap] 43)).alloc (.cells #[.int .i64 v.c,.int .i64 v.n,.slice vA v.ks.length vcap] 47)):=⟨_,rfl⟩
 rw [←hw2] at hB2 KT2 KP2 KV2 HX2 UX2 HP2 UP2 HV2 UV2 ⊢
 clear hw2
 obtain ⟨cT0,cT1,lT⟩:=KT2.out.c2
 obtain ⟨cP0,cP1,cP2,cP3,cP4,cP5,lP⟩:=KP2.out.c6
 obtain ⟨cV0,cV1,cV2,lV⟩:=KV2.out.c3
 go_wp2_with fail
 clear cT0 cT1 lT cP0 cP1 cP2 cP3 cP4 cP5 lP cV0 cV1 cV2 lV
 refine (zB1 xs t p v HPZ.out HVZ.out w2 _ FX _ FP _ FV HX2.out UX2.out HP2.out UP2.out HV2.out UV2.out).mono ?_
 rintro e w3 ⟨x3,FG,rfl,hb3,hg3,-,hf3⟩
 obtain ⟨gA,gAc,rfl,hl1,hl2⟩:=hg3.form
 have hlbG:(matchV xs t p v).length≤9223372036854775807:=by omega
 clear hl1 hl2
 have KHG:=jj hg3
 have KUG:=jj hf3.under
 clear hg3 hf3
 have hB3:=hB2.trans (hb3.mono hB2.size)
 have KT3:=jj (KT2.out.same (hb3.block _ KT2.out.lt))
 have KP3:=jj (KP2.out.same (hb3.block _ KP2.out.lt))
 have KV3:=jj (KV2.out.same (hb3.block _ KV2.out.lt))
 have HX3:Hid (Arr w3 (DtR w3) xs (.slice xA xs.length xcap) FX):=(HX2.out.mono (.of_below hb3 UX2.out) (fun x _ cs G hk h=>DtR.mono x cs G hk h))
 have UX3:=jj (UX2.out.mono hb3.size)
 have HP3:Hid (PR w3 p [.int .i64 p.op,.int .i64 p.ct,.int .i64 p.n,.int .i64 p.m,.int .i64 p.va,.slice pA p.ks.length pcap] FP):=(HP2.out.below hb3 UP2.out)
 have UP3:=jj (UP2.out.mono hb3.size)
 have HV3:Hid (VR w3 v [.int .i64 v.c,.int .i64 v.n,.slice vA v.ks.length vcap] FV):=(HV2.out.below hb3 UV2.out)
 have UV3:=jj (UV2.out.mono hb3.size)
 clear hB2 hb3 KT2 KP2 KV2 HX2 UX2 HP2 UP2 HV2 UV2
 have HG3:=KHG
 have UG3:=KUG
 clear KHG KUG
 obtain ⟨cT0,cT1,lT⟩:=KT3.out.c2
 obtain ⟨cP0,cP1,cP2,cP3,cP4,cP5,lP⟩:=KP3.out.c6
 obtain ⟨cV0,cV1,cV2,lV⟩:=KV3.out.c3
 go_wp2_with fail
 clear cT0 cT1 lT cP0 cP1 cP2 cP3 cP4 cP5 lP cV0 cV1 cV2 lV
 refine (spec_MatchPattern xs t p v HPZ.out HVZ.out w3 _ FX _ FP _ FV HX3.out UX3.out HP3.out UP3.out HV3.out UV3.out).mono ?_
 rintro e w4 ⟨x4,FZ,rfl,hb4,hg4,-,hf4⟩
 obtain ⟨sA,sAc,rfl,hl1,hl2⟩:=hg4.form
 have hlbS:(matchV xs t p v).length≤9223372036854775807:=by omega
 clear hl1 hl2
 have KHS:=jj hg4
 have KUS:=jj hf4.under
 clear hg4 hf4
 have hB4:=hB3.trans (hb4.mono hB3.size)
 have KT4:=jj (KT3.out.same (hb4.block _ KT3.out.lt))
 have KP4:=jj (KP3.out.same (hb4.block _ KP3.out.lt))
 have KV4:=jj (KV3.out.same (hb4.block _ KV3.out.lt))
 have HX4:Hid (Arr w4 (DtR w4) xs (.slice xA xs.length xcap) FX):=(HX3.out.mono (.of_below hb4 UX3.out) (fun x _ cs G hk h=>DtR.mono x cs G hk h))
 have UX4:=jj (UX3.out.mono hb4.size)
 have HP4:Hid (PR w4 p [.int .i64 p.op,.int .i64 p.ct,.int .i64 p.n,.int .i64 p.m,.int .i64 p.va,.slice pA p.ks.length pcap] FP):=(HP3.out.below hb4 UP3.out)
 have UP4:=jj (UP3.out.mono hb4.size)
 have HV4:Hid (VR w4 v [.int .i64 v.c,.int .i64 v.n,.slice vA v.ks.length vcap] FV):=(HV3.out.below hb4 UV3.out)
 have UV4:=jj (UV3.out.mono hb4.size)
 have HG4:Hid (Arr w4 (BdR w4) (matchV xs t p v) (.slice gA (matchV xs t p v).length gAc) FG):=(HG3.out.mono (.of_below hb4 UG3.out) (fun x _ cs G hk h=>zA4 _ _ x cs G hk h))
 have UG4:=jj (UG3.out.mono hb4.size)
 clear hB3 hb4 KT3 KP3 KV3 HX3 UX3 HP3 UP3 HV3 UV3 HG3 UG3
 have HS4:=KHS
 have US4:=KUS
 clear KHS KUS
 obtain ⟨m,hm⟩:∃ m,m=matchB xs t p v:=⟨_,rfl⟩
 rw [←hm]
 have HM:=jj hm
 clear hm
 have hmn:(m != m)=false:=by cases m <;> rfl
 have hme:(m==m)=true:=by cases m <;> rfl
 obtain ⟨bs,hbs⟩:∃ l,l=matchV xs t p v:=⟨_,rfl⟩
 rw [←hbs] at HG4 HS4 hlbG ⊢
 clear hlbS
 have HBS:=jj hbs
 clear hbs
 obtain ⟨cP0,cP1,cP2,cP3,cP4,cP5,lP⟩:=KP4.out.c6
 obtain ⟨cV0,cV1,cV2,lV⟩:=KV4.out.c3
 have hb5:Below w4.heap.size w4 ((w4.alloc (.cells #[.int .i64 p.op,.int .i64 p.ct,.int .i64 p.n,.int .i64 p.m,.int .i64 p.va,.slice pA p.ks.length pcap,.int .i64 p.op,.int .i64 p.ct,.int .i64 p.n,.int .i64 p.m,.int .i64 p.va,.slice pA p.ks.length pcap] 43)).alloc (.cells #[.int .i64 5,.int .i64 0,.int .i64 0,.int .i64 0,.int .i64 0,.slice (some ⟨w4.heap.size,0,none⟩) 2 2] 43)):=((zy2 _ _).alloc (zz8 _) _).alloc (by simp) _
 have KL5:Hid (Blk ((w4.alloc (.cells #[.int .i64 p.op,.int .i64 p.ct,.int .i64 p.n,.int .i64 p.m,.int .i64 p.va,.slice pA p.ks.length pcap,.int .i64 p.op,.int .i64 p.ct,.int .i64 p.n,.int .i64 p.m,.int .i64 p.va,.slice pA p.ks.length pcap] 43)).alloc (.cells #[.int .i64 5,.int .i64 0,.int .i64 0,.int .i64 0,.int .i64 0,.slice (some ⟨w4.heap.size,0,none⟩) 2 2] 43)) w4.heap.size 43 #[.int .i64 p.op,.int .i64 p.ct,.int .i64 p.n,.int .i64 p.m,.int .i64 p.va,.slice pA p.ks.length pcap,.int .i64 p.op,.int .i64 p.ct,.int .i64 p.n,.int .i64 p.m,.int .i64 p.va,.slice pA p.ks.length pcap]):=(Blk.new w4 _ _).same (Below.heap_alloc _ _ _ (by simp))
 have KO5:Hid (Blk ((w4.alloc (.cells #[.int .i64 p.op,.int .i64 p.ct,.int .i64 p.n,.int .i64 p.m,.int .i64 p.va,.slice pA p.ks.length pcap,.int .i64 p.op,.int .i64 p.ct,.int .i64 p.n,.int .i64 p.m,.int .i64 p.va,.slice pA p.ks.length pcap] 43)).alloc (.cells #[.int .i64 5,.int .i64 0,.int .i64 0,.int .i64 0,.int .i64 0,.slice (some ⟨w4.heap.size,0,none⟩) 2 2] 43)) (w4.heap.size+1) 43 #[.int .i64 5,.int .i64 0,.int .i64 0,.int .i64 0,.int .i64 0,.slice (some ⟨w4.heap.size,0,none⟩) 2 2]):=zA7 w4 _ 43 _
 have HO0:Hid (PR ((w4.alloc (.cells #[.int .i64 p.op,.int .i64 p.ct,.int .i64 p.n,.int .i64 p.m,.int .i64 p.va,.slice pA p.ks.length pcap,.int .i64 p.op,.int .i64 p.ct,.int .i64 p.n,.int .i64 p.m,.int .i64 p.va,.slice pA p.ks.length pcap] 43)).alloc (.cells #[.int .i64 5,.int .i64 0,.int .i64 0,.int .i64 0,.int .i64 0,.slice (some ⟨w4.heap.size,0,none⟩) 2 2] 43)) (bothP p) [.int .i64 5,.int .i64 0,.int .i64 0,.int .i64 0,.int .i64 0,.slice (some ⟨w4.heap.size,0,none⟩) 2 2] (w4.heap.size :: (FP ++ FP))):=by
  have hp1:=HP4.out.below hb5 UP4.out
  exact (zA9 _ _ _).2 ⟨_,rfl,_,_,rfl,zz8 _,by simp [maxLen],.inr ⟨_,0,([.int .i64 p.op,.int .i64 p.ct,.int .i64 p.n,.int .i64 p.m,.int .i64 p.va,.slice pA p.ks.length pcap]:List Value) ++ ([.int .i64 p.op,.int .i64 p.ct,.int .i64 p.n,.int .i64 p.m,.int .i64 p.va,.slice pA p.ks.length pcap]:List Value),FP ++ FP,rfl,(fun j u hj=>by rw [Nat.zero_add,KL5.out.cell];simpa using hj),(Flat.one hp1).append (Flat.one hp1),rfl⟩⟩
 have UO0:Hid (Under (((w4.alloc (.cells #[.int .i64 p.op,.int .i64 p.ct,.int .i64 p.n,.int .i64 p.m,.int .i64 p.va,.slice pA p.ks.length pcap,.int .i64 p.op,.int .i64 p.ct,.int .i64 p.n,.int .i64 p.m,.int .i64 p.va,.slice pA p.ks.length pcap] 43)).alloc (.cells #[.int .i64 5,.int .i64 0,.int .i64 0,.int .i64 0,.int .i64 0,.slice (some ⟨w4.heap.size,0,none⟩) 2 2] 43))).heap.size (w4.heap.size :: (FP ++ FP))):=fun b hb=>by
  rcases List.mem_cons.1 hb with rfl | hb
  ·exact KL5.out.lt
  ·rcases List.mem_append.1 hb with hb | hb
   ·exact zz9 (UP4.out b hb) hb5.size
   ·exact zz9 (UP4.out b hb) hb5.size
 go_wp2_with fail
 clear cP0 cP1 cP2 cP3 cP4 cP5 lP cV0 cV1 cV2 lV
 obtain ⟨w5,hw5⟩:∃ X,X=((w4.alloc (.cells #[.int .i64 p.op,.int .i64 p.ct,.int .i64 p.n,.int .i64 p.m,.int .i64 p.va,.slice pA p.ks.length pcap,.int .i64 p.op,.int .i64 p.ct,.int .i64 p.n,.int .i64 p.m,.int .i64 p.va,.slice pA p.ks.length pcap] 43)).alloc (.cells #[.int .i64 5,.int .i64 0,.int .i64 0,.int .i64 0,.int .i64 0,.slice (some ⟨w4.heap.size,0,none⟩) 2 2] 43)):=⟨_,rfl⟩
 obtain ⟨ko,hko⟩:∃ X,X=w4.heap.size+1:=⟨_,rfl⟩
 rw [←hw5] at hb5 KO5 HO0 UO0 ⊢
 rw [←hko] at KO5 ⊢
 clear hw5 hko KL5
 have hB5:=hB4.trans (hb5.mono hB4.size)
 have KT5:=jj (KT4.out.same (hb5.block _ KT4.out.lt))
 have KP5:=jj (KP4.out.same (hb5.block _ KP4.out.lt))
 have KV5:=jj (KV4.out.same (hb5.block _ KV4.out.lt))
 have HX5:Hid (Arr w5 (DtR w5) xs (.slice xA xs.length xcap) FX):=(HX4.out.mono (.of_below hb5 UX4.out) (fun x _ cs G hk h=>DtR.mono x cs G hk h))
 have UX5:=jj (UX4.out.mono hb5.size)
 have HP5:Hid (PR w5 p [.int .i64 p.op,.int .i64 p.ct,.int .i64 p.n,.int .i64 p.m,.int .i64 p.va,.slice pA p.ks.length pcap] FP):=(HP4.out.below hb5 UP4.out)
 have UP5:=jj (UP4.out.mono hb5.size)
 have HV5:Hid (VR w5 v [.int .i64 v.c,.int .i64 v.n,.slice vA v.ks.length vcap] FV):=(HV4.out.below hb5 UV4.out)
 have UV5:=jj (UV4.out.mono hb5.size)
 have HG5:Hid (Arr w5 (BdR w5) bs (.slice gA bs.length gAc) FG):=(HG4.out.mono (.of_below hb5 UG4.out) (fun x _ cs G hk h=>zA4 _ _ x cs G hk h))
 have UG5:=jj (UG4.out.mono hb5.size)
 have HS5:Hid (Arr w5 (BdR w5) bs (.slice sA bs.length sAc) FZ):=(HS4.out.mono (.of_below hb5 US4.out) (fun x _ cs G hk h=>zA4 _ _ x cs G hk h))
 have US5:=jj (US4.out.mono hb5.size)
 clear hB4 hb5 KT4 KP4 KV4 HX4 UX4 HP4 UP4 HV4 UV4 HG4 UG4 HS4 US4
 have HO5:=HO0
 have UO5:=UO0
 clear HO0 UO0
 have hpo:(bothP p).size≤1048576:=by have h1:=HNP.out;unfold nodesP at h1;show P.sizes [p,p]≤_;simp only [P.sizes];omega
 have HPO:=jj hpo
 clear hpo
 obtain ⟨cT0,cT1,lT⟩:=KT5.out.c2
 obtain ⟨cP0,cP1,cP2,cP3,cP4,cP5,lP⟩:=KP5.out.c6
 obtain ⟨cV0,cV1,cV2,lV⟩:=KV5.out.c3
 obtain ⟨cO0,cO1,cO2,cO3,cO4,cO5,lO⟩:=KO5.out.c6
 go_wp2_with fail
 clear cT0 cT1 lT cP0 cP1 cP2 cP3 cP4 cP5 lP cV0 cV1 cV2 lV cO0 cO1 cO2 cO3 cO4 cO5 lO
 refine (ptBinds_same bs w5 _ _ FG FZ HG5.out HS5.out UG5.out US5.out).mono ?_
 rintro e w6 ⟨rfl,hb6⟩
 have hB6:=hB5.trans (hb6.mono hB5.size)
 have KT6:=jj (KT5.out.same (hb6.block _ KT5.out.lt))
 have KP6:=jj (KP5.out.same (hb6.block _ KP5.out.lt))
 have KV6:=jj (KV5.out.same (hb6.block _ KV5.out.lt))
 have KO6:=jj (KO5.out.same (hb6.block _ KO5.out.lt))
 have HX6:Hid (Arr w6 (DtR w6) xs (.slice xA xs.length xcap) FX):=(HX5.out.mono (.of_below hb6 UX5.out) (fun x _ cs G hk h=>DtR.mono x cs G hk h))
 have UX6:=jj (UX5.out.mono hb6.size)
 have HP6:Hid (PR w6 p [.int .i64 p.op,.int .i64 p.ct,.int .i64 p.n,.int .i64 p.m,.int .i64 p.va,.slice pA p.ks.length pcap] FP):=(HP5.out.below hb6 UP5.out)
 have UP6:=jj (UP5.out.mono hb6.size)
 have HV6:Hid (VR w6 v [.int .i64 v.c,.int .i64 v.n,.slice vA v.ks.length vcap] FV):=(HV5.out.below hb6 UV5.out)
 have UV6:=jj (UV5.out.mono hb6.size)
 have HG6:Hid (Arr w6 (BdR w6) bs (.slice gA bs.length gAc) FG):=(HG5.out.mono (.of_below hb6 UG5.out) (fun x _ cs G hk h=>zA4 _ _ x cs G hk h))
 have UG6:=jj (UG5.out.mono hb6.size)
 have HS6:Hid (Arr w6 (BdR w6) bs (.slice sA bs.length sAc) FZ):=(HS5.out.mono (.of_below hb6 US5.out) (fun x _ cs G hk h=>zA4 _ _ x cs G hk h))
 have US6:=jj (US5.out.mono hb6.size)
 have HO6:Hid (PR w6 (bothP p) [.int .i64 5,.int .i64 0,.int .i64 0,.int .i64 0,.int .i64 0,.slice (some ⟨w4.heap.size,0,none⟩) 2 2] (w4.heap.size :: (FP ++ FP))):=(HO5.out.below hb6 UO5.out)
 have UO6:=jj (UO5.out.mono hb6.size)
 clear hB5 hb6 KT5 KP5 KV5 KO5 HX5 UX5 HP5 UP5 HV5 UV5 HG5 UG5 HS5 US5 HO5 UO5
 obtain ⟨cT0,cT1,lT⟩:=KT6.out.c2
 obtain ⟨cP0,cP1,cP2,cP3,cP4,cP5,lP⟩:=KP6.out.c6
 obtain ⟨cV0,cV1,cV2,lV⟩:=KV6.out.c3
 obtain ⟨cO0,cO1,cO2,cO3,cO4,cO5,lO⟩:=KO6.out.c6
 go_wp2_with fail
 clear cT0 cT1 lT cP0 cP1 cP2 cP3 cP4 cP5 lP cV0 cV1 cV2 lV cO0 cO1 cO2 cO3 cO4 cO5 lO
 refine (impl_PatternValid xs t (bothP p) HPO.out w6 _ FX _ (w4.heap.size :: (FP ++ FP)) HX6.out UX6.out HO6.out UO6.out).mono ?_
 rintro e w7 ⟨rfl,hb7⟩
 have hB7:=hB6.trans (hb7.mono hB6.size)
 have KT7:=jj (KT6.out.same (hb7.block _ KT6.out.lt))
 have KP7:=jj (KP6.out.same (hb7.block _ KP6.out.lt))
 have KV7:=jj (KV6.out.same (hb7.block _ KV6.out.lt))
 have KO7:=jj (KO6.out.same (hb7.block _ KO6.out.lt))
 have HX7:Hid (Arr w7 (DtR w7) xs (.slice xA xs.length xcap) FX):=(HX6.out.mono (.of_below hb7 UX6.out) (fun x _ cs G hk h=>DtR.mono x cs G hk h))
 have UX7:=jj (UX6.out.mono hb7.size)
 have HP7:Hid (PR w7 p [.int .i64 p.op,.int .i64 p.ct,.int .i64 p.n,.int .i64 p.m,.int .i64 p.va,.slice pA p.ks.length pcap] FP):=(HP6.out.below hb7 UP6.out)
 have UP7:=jj (UP6.out.mono hb7.size)
 have HV7:Hid (VR w7 v [.int .i64 v.c,.int .i64 v.n,.slice vA v.ks.length vcap] FV):=(HV6.out.below hb7 UV6.out)
 have UV7:=jj (UV6.out.mono hb7.size)
 have HG7:Hid (Arr w7 (BdR w7) bs (.slice gA bs.length gAc) FG):=(HG6.out.mono (.of_below hb7 UG6.out) (fun x _ cs G hk h=>zA4 _ _ x cs G hk h))
 have UG7:=jj (UG6.out.mono hb7.size)
 have HS7:Hid (Arr w7 (BdR w7) bs (.slice sA bs.length sAc) FZ):=(HS6.out.mono (.of_below hb7 US6.out) (fun x _ cs G hk h=>zA4 _ _ x cs G hk h))
 have US7:=jj (US6.out.mono hb7.size)
 have HO7:Hid (PR w7 (bothP p) [.int .i64 5,.int .i64 0,.int .i64 0,.int .i64 0,.int .i64 0,.slice (some ⟨w4.heap.size,0,none⟩) 2 2] (w4.heap.size :: (FP ++ FP))):=(HO6.out.below hb7 UO6.out)
 have UO7:=jj (UO6.out.mono hb7.size)
 clear hB6 hb7 KT6 KP6 KV6 KO6 HX6 UX6 HP6 UP6 HV6 UV6 HG6 UG6 HS6 US6 HO6 UO6
 cases hpv:patternValidB xs t (bothP p) with
 |false =>
  obtain ⟨cT0,cT1,lT⟩:=KT7.out.c2
  obtain ⟨cP0,cP1,cP2,cP3,cP4,cP5,lP⟩:=KP7.out.c6
  obtain ⟨cV0,cV1,cV2,lV⟩:=KV7.out.c3
  obtain ⟨cO0,cO1,cO2,cO3,cO4,cO5,lO⟩:=KO7.out.c6
  go_wp2_with fail
  clear cT0 cT1 lT cP0 cP1 cP2 cP3 cP4 cP5 lP cV0 cV1 cV2 lV cO0 cO1 cO2 cO3 cO4 cO5 lO
  refine (ptBinds_same bs w7 _ _ FG FZ HG7.out HS7.out UG7.out US7.out).mono ?_
  rintro e w8 ⟨rfl,hb8⟩
  have hB8:=hB7.trans (hb8.mono hB7.size)
  have KT8:=jj (KT7.out.same (hb8.block _ KT7.out.lt))
  have KP8:=jj (KP7.out.same (hb8.block _ KP7.out.lt))
  have KV8:=jj (KV7.out.same (hb8.block _ KV7.out.lt))
  have KO8:=jj (KO7.out.same (hb8.block _ KO7.out.lt))
  have HX8:Hid (Arr w8 (DtR w8) xs (.slice xA xs.length xcap) FX):=(HX7.out.mono (.of_below hb8 UX7.out) (fun x _ cs G hk h=>DtR.mono x cs G hk h))
  have UX8:=jj (UX7.out.mono hb8.size)
  have HP8:Hid (PR w8 p [.int .i64 p.op,.int .i64 p.ct,.int .i64 p.n,.int .i64 p.m,.int .i64 p.va,.slice pA p.ks.length pcap] FP):=(HP7.out.below hb8 UP7.out)
  have UP8:=jj (UP7.out.mono hb8.size)
  have HV8:Hid (VR w8 v [.int .i64 v.c,.int .i64 v.n,.slice vA v.ks.length vcap] FV):=(HV7.out.below hb8 UV7.out)
  have UV8:=jj (UV7.out.mono hb8.size)
  have HG8:Hid (Arr w8 (BdR w8) bs (.slice gA bs.length gAc) FG):=(HG7.out.mono (.of_below hb8 UG7.out) (fun x _ cs G hk h=>zA4 _ _ x cs G hk h))
  have UG8:=jj (UG7.out.mono hb8.size)
  have HS8:Hid (Arr w8 (BdR w8) bs (.slice sA bs.length sAc) FZ):=(HS7.out.mono (.of_below hb8 US7.out) (fun x _ cs G hk h=>zA4 _ _ x cs G hk h))
  have US8:=jj (US7.out.mono hb8.size)
  have HO8:Hid (PR w8 (bothP p) [.int .i64 5,.int .i64 0,.int .i64 0,.int .i64 0,.int .i64 0,.slice (some ⟨w4.heap.size,0,none⟩) 2 2] (w4.heap.size :: (FP ++ FP))):=(HO7.out.below hb8 UO7.out)
  have UO8:=jj (UO7.out.mono hb8.size)
  clear hB7 hb8 KT7 KP7 KV7 KO7 HX7 UX7 HP7 UP7 HV7 UV7 HG7 UG7 HS7 US7 HO7 UO7
  go_wp2
  go_ret
  exact ⟨rfl,hB8⟩
 |true =>
  obtain ⟨hq1,hq2⟩:=match_both (v:=v) hpv
  have HQ1:=jj hq1
  have HQ2:=jj hq2
  clear hq1 hq2 hpv
  obtain ⟨cT0,cT1,lT⟩:=KT7.out.c2
  obtain ⟨cP0,cP1,cP2,cP3,cP4,cP5,lP⟩:=KP7.out.c6
  obtain ⟨cV0,cV1,cV2,lV⟩:=KV7.out.c3
  obtain ⟨cO0,cO1,cO2,cO3,cO4,cO5,lO⟩:=KO7.out.c6
  go_wp2_with fail
  clear cT0 cT1 lT cP0 cP1 cP2 cP3 cP4 cP5 lP cV0 cV1 cV2 lV cO0 cO1 cO2 cO3 cO4 cO5 lO
  refine (zB1 xs t (bothP p) v HPO.out HVZ.out w7 _ FX _ (w4.heap.size :: (FP ++ FP)) _ FV HX7.out UX7.out HO7.out UO7.out HV7.out UV7.out).mono ?_
  rintro e w8 ⟨x8,FC,rfl,hb8,hg8,-,hf8⟩
  rw [HQ2.out,←HBS.out] at hg8
  rw [HQ1.out,←HM.out]
  obtain ⟨cA,cAc,rfl,-,-⟩:=hg8.form
  have KHC:=jj hg8
  have KUC:=jj hf8.under
  clear hg8 hf8
  have hB8:=hB7.trans (hb8.mono hB7.size)
  have KT8:=jj (KT7.out.same (hb8.block _ KT7.out.lt))
  have KP8:=jj (KP7.out.same (hb8.block _ KP7.out.lt))
  have KV8:=jj (KV7.out.same (hb8.block _ KV7.out.lt))
  have KO8:=jj (KO7.out.same (hb8.block _ KO7.out.lt))
  have HX8:Hid (Arr w8 (DtR w8) xs (.slice xA xs.length xcap) FX):=(HX7.out.mono (.of_below hb8 UX7.out) (fun x _ cs G hk h=>DtR.mono x cs G hk h))
  have UX8:=jj (UX7.out.mono hb8.size)
  have HP8:Hid (PR w8 p [.int .i64 p.op,.int .i64 p.ct,.int .i64 p.n,.int .i64 p.m,.int .i64 p.va,.slice pA p.ks.length pcap] FP):=(HP7.out.below hb8 UP7.out)
  have UP8:=jj (UP7.out.mono hb8.size)
  have HV8:Hid (VR w8 v [.int .i64 v.c,.int .i64 v.n,.slice vA v.ks.length vcap] FV):=(HV7.out.below hb8 UV7.out)
  have UV8:=jj (UV7.out.mono hb8.size)
  have HG8:Hid (Arr w8 (BdR w8) bs (.slice gA bs.length gAc) FG):=(HG7.out.mono (.of_below hb8 UG7.out) (fun x _ cs G hk h=>zA4 _ _ x cs G hk h))
  have UG8:=jj (UG7.out.mono hb8.size)
  have HS8:Hid (Arr w8 (BdR w8) bs (.slice sA bs.length sAc) FZ):=(HS7.out.mono (.of_below hb8 US7.out) (fun x _ cs G hk h=>zA4 _ _ x cs G hk h))
  have US8:=jj (US7.out.mono hb8.size)
  have HO8:Hid (PR w8 (bothP p) [.int .i64 5,.int .i64 0,.int .i64 0,.int .i64 0,.int .i64 0,.slice (some ⟨w4.heap.size,0,none⟩) 2 2] (w4.heap.size :: (FP ++ FP))):=(HO7.out.below hb8 UO7.out)
  have UO8:=jj (UO7.out.mono hb8.size)
  clear hB7 hb8 KT7 KP7 KV7 KO7 HX7 UX7 HP7 UP7 HV7 UV7 HG7 UG7 HS7 US7 HO7 UO7
  have HC8:=KHC
  have UC8:=KUC
  clear KHC KUC
  obtain ⟨cT0,cT1,lT⟩:=KT8.out.c2
  obtain ⟨cP0,cP1,cP2,cP3,cP4,cP5,lP⟩:=KP8.out.c6
  obtain ⟨cV0,cV1,cV2,lV⟩:=KV8.out.c3
  obtain ⟨cO0,cO1,cO2,cO3,cO4,cO5,lO⟩:=KO8.out.c6
  go_wp2_with fail
  clear cT0 cT1 lT cP0 cP1 cP2 cP3 cP4 cP5 lP cV0 cV1 cV2 lV cO0 cO1 cO2 cO3 cO4 cO5 lO
  refine (ptBinds_same bs w8 _ _ FG FC HG8.out HC8.out UG8.out UC8.out).mono ?_
  rintro e w9 ⟨rfl,hb9⟩
  have hB9:=hB8.trans (hb9.mono hB8.size)
  have KT9:=jj (KT8.out.same (hb9.block _ KT8.out.lt))
  have KP9:=jj (KP8.out.same (hb9.block _ KP8.out.lt))
  have KV9:=jj (KV8.out.same (hb9.block _ KV8.out.lt))
  have KO9:=jj (KO8.out.same (hb9.block _ KO8.out.lt))
  have HX9:Hid (Arr w9 (DtR w9) xs (.slice xA xs.length xcap) FX):=(HX8.out.mono (.of_below hb9 UX8.out) (fun x _ cs G hk h=>DtR.mono x cs G hk h))
  have UX9:=jj (UX8.out.mono hb9.size)
  have HP9:Hid (PR w9 p [.int .i64 p.op,.int .i64 p.ct,.int .i64 p.n,.int .i64 p.m,.int .i64 p.va,.slice pA p.ks.length pcap] FP):=(HP8.out.below hb9 UP8.out)
  have UP9:=jj (UP8.out.mono hb9.size)
  have HV9:Hid (VR w9 v [.int .i64 v.c,.int .i64 v.n,.slice vA v.ks.length vcap] FV):=(HV8.out.below hb9 UV8.out)
  have UV9:=jj (UV8.out.mono hb9.size)
  have HG9:Hid (Arr w9 (BdR w9) bs (.slice gA bs.length gAc) FG):=(HG8.out.mono (.of_below hb9 UG8.out) (fun x _ cs G hk h=>zA4 _ _ x cs G hk h))
  have UG9:=jj (UG8.out.mono hb9.size)
  have HS9:Hid (Arr w9 (BdR w9) bs (.slice sA bs.length sAc) FZ):=(HS8.out.mono (.of_below hb9 US8.out) (fun x _ cs G hk h=>zA4 _ _ x cs G hk h))
  have US9:=jj (US8.out.mono hb9.size)
  have HO9:Hid (PR w9 (bothP p) [.int .i64 5,.int .i64 0,.int .i64 0,.int .i64 0,.int .i64 0,.slice (some ⟨w4.heap.size,0,none⟩) 2 2] (w4.heap.size :: (FP ++ FP))):=(HO8.out.below hb9 UO8.out)
  have UO9:=jj (UO8.out.mono hb9.size)
  have HC9:Hid (Arr w9 (BdR w9) bs (.slice cA bs.length cAc) FC):=(HC8.out.mono (.of_below hb9 UC8.out) (fun x _ cs G hk h=>zA4 _ _ x cs G hk h))
  have UC9:=jj (UC8.out.mono hb9.size)
  clear hB8 hb9 KT8 KP8 KV8 KO8 HX8 UX8 HP8 UP8 HV8 UV8 HG8 UG8 HS8 US8 HO8 UO8 HC8 UC8
  go_wp2
  go_ret
  exact ⟨rfl,hB9⟩
end Go.Proofs.YtghekinfoadcoaaGreat.fnMatchOr
namespace Go.Proofs.YtghekinfoadcoaaGreat.fnMatchOr
open Go.ChangeShapes Go.WideShapes Go.ChangeAt Go.RowKit
open Go.ChangeMaps (open_string shut_string)
set_option linter.unusedVariables false

theorem own : ownKnob Tryz.prog.godebug = none := by kernel_rfl
theorem laidOut : laidOutB Tryz.prog = true := by kernel_rfl

set_option maxRecDepth 100000 in
theorem lifted (os : Os) (started : os.Started) (H : Type) (enc : TypeId × Value → H) :
    ReturnsInHanded {} Tryz.checked os 5 .any (Rows.fnMatchOrSpec.pre6 enc Tryz.prog Tryz.f5 Rows.fnMatchOrRow.domain false) (Rows.fnMatchOrSpec.post enc Tryz.prog Tryz.f5 false true false false) := by
  refine returnsInHanded_of_change (C := Tryz.checked) own started (by kernel_rfl) Tryz.func5
    (ChangeSpec.witness6 (enc := enc) (C := Tryz.checked) false ⟨#[], #[.slice none 0 0], []⟩ 8 (by kernel_rfl) (by kernel_rfl) (by kernel_rfl) (by kernel_rfl)) ?_
  intro W base args ds gs before hval0 hW hcnd _
  have hval : ∀ (j : Nat) t v, Tryz.f5.params[j]? = some t → args[j]? = some v → Value.okWide Tryz.prog W .any base t v := hval0
  have hW' := hW
  obtain ⟨p, q, hA0, hV, rfl, hfz, hnd⟩ := hW
  have hA : DataW.TrodAll enc Tryz.prog W 0 (fun _ => true) true Tryz.f5.params.toList args.toList ds p := hA0
  rw [Tryz.params5] at hA hval
  obtain ⟨v0, vs0, d0, ds0, p0, q0, hargs, rfl, rfl, h0, r0⟩ := trodAll_cons hA
  obtain ⟨rfl, rfl, rfl⟩ := trodAll_nil r0
  obtain rfl : args = #[v0] := by cases args; simp_all
  obtain ⟨rfl, rfl⟩ := trodVars_none hV
  have k0 := h0
  have lt0 : ∀ x ∈ p0, x.block < W.heap.size := by obtain ⟨m, hm⟩ := k0; exact DataW.trod_lt m _ _ _ hm
  obtain ⟨x0, F0, hR0, hU0⟩ := open_Bytes (hval 0 58 v0 rfl rfl) h0
  clear hA0 hval0
  refine (walk x0 v0 F0 hR0 hU0 W rfl).mono fun e W' ⟨he, bel⟩ => ?_
  subst he
  exact ⟨_, rfl, _, _, _, [], _, [], hW', trodAll_mk1 (shut_bool Tryz.underlying4 _), (trodAll_cons_mk (Below.trod laidOut (by kernel_rfl) (of_decide_eq_true (by kernel_rfl)) k0 bel lt0) trodAll_mk0), rfl, bel.frame _, fun h => by cases h⟩

set_option maxHeartbeats 4000000 in
theorem closed : joinedFacts Tryz.pinned.checked.prog 5 Tryz.f5 Rows.fnMatchOrSpec Rows.fnMatchOrRow = true := by
  unfold joinedFacts
  have key : ∀ a b : Bool, a = true → b = true → (a && b) = true := fun a b h1 h2 => by rw [h1, h2]; rfl
  repeat' (with_reducible refine key _ _ ?_ ?_)
  all_goals as_aux_lemma => kernel_rfl

theorem over : Rows.fnMatchOrRow.holds Tryz.pinned (OpenSpec.ofChange Rows.fnMatchOrSpec) :=
  OpenClaim.holds_of_wide 5 Tryz.f5 rfl rfl rfl rfl rfl rfl rfl ⟨rfl, rfl, rfl, rfl, rfl⟩ rfl rfl rfl rfl rfl (by kernel_rfl) Tryz.func5 closed
    (of_decide_eq_true (by kernel_rfl)) (by unfold Func.isWrapper; first | (rw [if_pos (by decide +kernel)]; kernel_rfl) | (rw [if_neg (by decide +kernel)]; exact ⟨rfl, rfl⟩))
    (fun os started H enc _ => lifted os started H enc)

theorem proved : Rows.FnMatchOrSaid := over
end Go.Proofs.YtghekinfoadcoaaGreat.fnMatchOr
