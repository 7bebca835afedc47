/-
  FnSplitParts: for every argument the law returns true. Conditions: none.
-/
import Derived.Test.YtjjclcmmfeegfaaHAJ
import Derived.Test.YtjjclcmmfeegfaaHAM
import Derived.Test.YtjjclcmmfeegfaaHAN
import Derived.Test.YtjjclcmmfeegfaaHAB
import Derived.Deep.RegionWith
import Derived.Deep.RegionHeld3
import Derived.BigQuiet
import Derived.Test.YtjjclcmmfeegfaaRows
import Derived.ProofKit
import Derived.OpenShut
import Derived.ShutString
import Derived.ChangeOld
import Derived.Below

set_option linter.unusedVariables false
set_option linter.unusedSimpArgs false
set_option maxRecDepth 100000
set_option maxHeartbeats 1600000

namespace Go.Proofs.Ytjjclcmmfeegfaa.fnSplitParts
open Go.RowKit
set_option maxHeartbeats 8000000 in
theorem walk {W:World} (x0:List Int) (v0:Value) (F0:List Nat) (hR0:Arr W (ByR W) x0 v0 F0) (hU0:Under W F0) (w:World) (hw:w=W) :
  Calls Try.prog 3 #[v0] w fun e w'=>e=.returned (.bool true)∧Below w w w':=by
 subst hw
 obtain ⟨A0,cap0,rfl,-,-⟩:=hR0.form
 have HR0:=jj hR0
 have HU0:=jj hU0
 clear hR0 hU0
 by_cases hlen:1048576<x0.length
 ·have t0:decide ((x0.length:Int)>1048576)=true:=decide_eq_true (by omega)
  go_enter Try.func3,Try.ntmps3
  go_wp2
  go_ret
  exact ⟨rfl,zy2 _ _⟩
 have t0:decide ((x0.length:Int)>1048576)=false:=decide_eq_false (by omega)
 go_enter Try.func3,Try.ntmps3
 go_wp2_with fail
 refine (spec_DrawSplitOr x0 w _ F0 HR0.out HU0.out).mono ?_
 rintro e w1 ⟨xs,v1,FX,t,p,csa,FP,rfl,hb1,hx,hfx,hpa,hfa,hna⟩
 obtain ⟨kva,rfl,haa⟩:=(zA4 _ _ _).1 hpa
 obtain ⟨pA,pcap,rfl,-,-⟩:=haa.form
 obtain ⟨xA,xcap,rfl,-,-⟩:=hx.form
 have HPZ:Hid (p.size≤1048576):=by unfold nodesP at hna;unfold Hid;omega
 have hb2:Below w1 w1 ((w1.alloc (.cells #[t.d,t.i] 25)).alloc (.cells #[p.op,p.ct,p.n,p.m,p.va,.slice pA p.ks.length pcap] 28)):=((zy2 _ _).alloc (zz8 _) _).alloc (by simp) _
 have hB2:Below w w ((w1.alloc (.cells #[t.d,t.i] 25)).alloc (.cells #[p.op,p.ct,p.n,p.m,p.va,.slice pA p.ks.length pcap] 28)):=hb1.trans (hb2.mono hb1.size)
 have KT2:Hid (Blk ((w1.alloc (.cells #[t.d,t.i] 25)).alloc (.cells #[p.op,p.ct,p.n,p.m,p.va,.slice pA p.ks.length pcap] 28)) w1.heap.size 25 #[t.d,t.i]):=(Blk.new w1 _ _).same (Below.heap_alloc _ _ _ (by simp))
 have KP2:Hid (Blk ((w1.alloc (.cells #[t.d,t.i] 25)).alloc (.cells #[p.op,p.ct,p.n,p.m,p.va,.slice pA p.ks.length pcap] 28)) (w1.heap.size+1) 28 #[p.op,p.ct,p.n,p.m,p.va,.slice pA p.ks.length pcap]):=zA8 w1 _ 28 _
 have HX2:=jj (ArrDt.below hx hb2 hfx.under)
 have UX2:Hid (Under (((w1.alloc (.cells #[t.d,t.i] 25)).alloc (.cells #[p.op,p.ct,p.n,p.m,p.va,.slice pA p.ks.length pcap] 28))).heap.size FX):=hfx.under.mono hb2.size
 have HP2:=jj (hpa.below hb2 hfa.under)
 have UP2:Hid (Under (((w1.alloc (.cells #[t.d,t.i] 25)).alloc (.cells #[p.op,p.ct,p.n,p.m,p.va,.slice pA p.ks.length pcap] 28))).heap.size FP):=hfa.under.mono hb2.size
 clear hx hfx hpa hfa hna haa hb1 hb2 HR0 HU0
 go_wp2_with fail
 obtain ⟨w2,hw2⟩:∃ X,X=((w1.alloc (.cells #[t.d,t.i] 25)).alloc (.cells #[p.op,p.ct,p.n,p.m,p.va,.slice pA p.ks.length pcap] 28)):=⟨_,rfl⟩
 rw [←hw2] at hB2 KT2 KP2 HX2 UX2 HP2 UP2 ⊢
 clear hw2
 obtain ⟨cT0,cT1,lT⟩:=KT2.out.c2
 obtain ⟨cP0,cP1,cP2,cP3,cP4,cP5,lP⟩:=KP2.out.c6
 go_wp2_with fail
 clear cT0 cT1 lT cP0 cP1 cP2 cP3 cP4 cP5 lP
 refine (impl_SplitOr xs t p HPZ.out w2 _ FX _ FP HX2.out UX2.out HP2.out UP2.out).mono ?_
 rintro e w3 ⟨x3,FL,rfl,hb3,hl3,-,hf3⟩
 obtain ⟨lA,lAc,rfl,hl1,hl2⟩:=hl3.form
 have hlmL:(splitV xs t p).length≤9223372036854775807:=by omega
 clear hl1 hl2
 have KHL:=jj hl3
 have KUL:=jj hf3.under
 clear hl3 hf3
 have hB3:=hB2.trans (hb3.mono hB2.size)
 have KT3:=jj (KT2.out.same (hb3.block _ KT2.out.lt))
 have KP3:=jj (KP2.out.same (hb3.block _ KP2.out.lt))
 have HX3:Hid (Arr w3 (DtR w3) xs (.slice xA xs.length xcap) FX):=(HX2.out.mono (.of_below hb3 UX2.out) (fun x _ cs G hk h=>DtR.mono x cs G hk h))
 have UX3:=jj (UX2.out.mono hb3.size)
 have HP3:Hid (PR w3 p [p.op,p.ct,p.n,p.m,p.va,.slice pA p.ks.length pcap] FP):=(HP2.out.below hb3 UP2.out)
 have UP3:=jj (UP2.out.mono hb3.size)
 clear hB2 hb3 KT2 KP2 HX2 UX2 HP2 UP2
 have HL3:=KHL
 have UL3:=KUL
 clear KHL KUL
 obtain ⟨cT0,cT1,lT⟩:=KT3.out.c2
 obtain ⟨cP0,cP1,cP2,cP3,cP4,cP5,lP⟩:=KP3.out.c6
 go_wp2_with fail
 clear cT0 cT1 lT cP0 cP1 cP2 cP3 cP4 cP5 lP
 refine (spec_SplitOr xs t p HPZ.out w3 _ FX _ FP HX3.out UX3.out HP3.out UP3.out).mono ?_
 rintro e w4 ⟨x4,FZ,rfl,hb4,hl4,-,hf4⟩
 obtain ⟨sA,sAc,rfl,hl1,hl2⟩:=hl4.form
 have hlmS:(splitV xs t p).length≤9223372036854775807:=by omega
 clear hl1 hl2
 have KHS:=jj hl4
 have KUS:=jj hf4.under
 clear hl4 hf4
 have hB4:=hB3.trans (hb4.mono hB3.size)
 have KT4:=jj (KT3.out.same (hb4.block _ KT3.out.lt))
 have KP4:=jj (KP3.out.same (hb4.block _ KP3.out.lt))
 have HX4:Hid (Arr w4 (DtR w4) xs (.slice xA xs.length xcap) FX):=(HX3.out.mono (.of_below hb4 UX3.out) (fun x _ cs G hk h=>DtR.mono x cs G hk h))
 have UX4:=jj (UX3.out.mono hb4.size)
 have HP4:Hid (PR w4 p [p.op,p.ct,p.n,p.m,p.va,.slice pA p.ks.length pcap] FP):=(HP3.out.below hb4 UP3.out)
 have UP4:=jj (UP3.out.mono hb4.size)
 have HL4:Hid (Arr w4 (PR w4) (splitV xs t p) (.slice lA (splitV xs t p).length lAc) FL):=(ArrP.below HL3.out hb4 UL3.out)
 have UL4:=jj (UL3.out.mono hb4.size)
 clear hB3 hb4 KT3 KP3 HX3 UX3 HP3 UP3 HL3 UL3
 have HS4:=KHS
 have US4:=KUS
 clear KHS KUS
 clear hlmS
 obtain ⟨sb,hsb⟩:∃ u,u=splitB xs t p:=⟨_,rfl⟩
 rw [←hsb]
 have HSB:=jj hsb
 clear hsb
 have hmn:(sb != sb)=false:=by cases sb <;> rfl
 have hme:(sb==sb)=true:=by cases sb <;> rfl
 have hln:(((splitV xs t p).length:Int) != ((splitV xs t p).length:Int))=false:=bne_self_eq_false _
 have hle:(((splitV xs t p).length:Int)==((splitV xs t p).length:Int))=true:=beq_self_eq_true _
 cases sb with
 |false =>
  go_wp2
  go_ret
  exact ⟨rfl,hB4⟩
 |true =>
  have HSB1:Hid (splitB xs t p=true):=HSB.out.symm
  clear HSB
  obtain ⟨cT0,cT1,lT⟩:=KT4.out.c2
  obtain ⟨cP0,cP1,cP2,cP3,cP4,cP5,lP⟩:=KP4.out.c6
  go_wp2_with fail
  clear cT0 cT1 lT cP0 cP1 cP2 cP3 cP4 cP5 lP
  refine (impl_PatternVars xs t p w4 _ FX _ FP HX4.out UX4.out HP4.out UP4.out).mono ?_
  rintro e w5 ⟨vP,FQ,rfl,hb5,hq5,-,-⟩
  obtain ⟨qvA,qvc,rfl,-,-⟩:=hq5.form
  clear hq5
  obtain ⟨nv,hnv⟩:∃ u,u=(patternVarsL xs t p).length:=⟨_,rfl⟩
  rw [←hnv]
  have HNV:=jj hnv
  clear hnv
  have hB5:=hB4.trans (hb5.mono hB4.size)
  have KT5:=jj (KT4.out.same (hb5.block _ KT4.out.lt))
  have KP5:=jj (KP4.out.same (hb5.block _ KP4.out.lt))
  have HX5:Hid (Arr w5 (DtR w5) xs (.slice xA xs.length xcap) FX):=(HX4.out.mono (.of_below hb5 UX4.out) (fun x _ cs G hk h=>DtR.mono x cs G hk h))
  have UX5:=jj (UX4.out.mono hb5.size)
  have HP5:Hid (PR w5 p [p.op,p.ct,p.n,p.m,p.va,.slice pA p.ks.length pcap] FP):=(HP4.out.below hb5 UP4.out)
  have UP5:=jj (UP4.out.mono hb5.size)
  have HL5:Hid (Arr w5 (PR w5) (splitV xs t p) (.slice lA (splitV xs t p).length lAc) FL):=(ArrP.below HL4.out hb5 UL4.out)
  have UL5:=jj (UL4.out.mono hb5.size)
  have HS5:Hid (Arr w5 (PR w5) (splitV xs t p) (.slice sA (splitV xs t p).length sAc) FZ):=(ArrP.below HS4.out hb5 US4.out)
  have US5:=jj (US4.out.mono hb5.size)
  clear hB4 hb5 KT4 KP4 HX4 UX4 HP4 UP4 HL4 UL4 HS4 US4
  go_wp2
  go_loopw [11] (fun iv wr=>∃ i:Nat,i≤(splitV xs t p).length∧iv=.int .i64 i∧Below w5 w5 wr) (fun iv _=>(splitV xs t p).length-(intOf iv).toNat)
  case atStart=>exact ⟨0,Nat.zero_le _,rfl,zy2 _ _⟩
  case round =>
   obtain ⟨i,hi,rfl,hbr⟩:=hrel
   have KTr:=KT5.out.same (hbr.block _ KT5.out.lt)
   by_cases hlt:i<(splitV xs t p).length
   ·obtain ⟨lb,loff,rfl⟩:=HL5.out.ptr (by omega)
    obtain ⟨sb,soff,rfl⟩:=HS5.out.ptr (by omega)
    obtain ⟨qA,qcap,GQ,hlb,q0,q1,q2,q3,q4,q5,HQ,UQ,-,-,-⟩:=ArrP.at HL5.out UL5.out hbr i hlt
    obtain ⟨x0,x1,xlt⟩:=KTr.c2
    have g1:(0:Int)≤(i:Int):=by omega
    have g2:(i:Int)<((splitV xs t p).length:Int):=by omega
    have hmem:(splitV xs t p)[i]∈splitV xs t p:=List.getElem_mem hlt
    have HQZ:Hid ((splitV xs t p)[i].size≤1048576):=Nat.le_trans (split_big hmem) HPZ.out
    have HAG:=jj (split_again HSB1.out hmem)
    have hsp:=split_part (splitB_valid HSB1.out) (show (splitV xs t p)[i]∈P.spl p from by rw [←splitV_yes HSB1.out];exact hmem)
    have HVQ:=jj hsp.1
    have HLV:Hid ((patternVarsL xs t (splitV xs t p)[i]).length=nv):=by
     unfold Hid
     rw [HNV.out]
     unfold patternVarsL
     rw [if_pos hsp.1,if_pos (splitB_valid HSB1.out)]
     exact hsp.2.1.length_eq
    have HXr:=jj (ArrDt.below HX5.out hbr UX5.out)
    have UXr:=jj (UX5.out.mono hbr.size)
    obtain ⟨q,hq⟩:∃ u,u=(splitV xs t p)[i]:=⟨_,rfl⟩
    rw [←hq] at q0 q1 q2 q3 q4 q5 HQ HQZ HAG HVQ HLV
    have HQE:=jj hq
    have HLQ:=jj hlt
    clear hq KTr hmem hsp
    go_wp2_with fail
    have HS:Hid (∀ C:World,Below wr wr C→(C.cell? ⟨w1,0,none⟩=t.d∧C.cell? ⟨w1,1,none⟩=t.i∧C.cell? ⟨lb,loff+i*6,none⟩=q.op∧C.cell? ⟨lb,loff+i*6+1,none⟩=q.ct∧C.cell? ⟨lb,loff+i*6+2,none⟩=q.n∧C.cell? ⟨lb,loff+i*6+3,none⟩=q.m∧C.cell? ⟨lb,loff+i*6+4,none⟩=q.va∧C.cell? ⟨lb,loff+i*6+5,none⟩=some (.slice qA q.ks.length qcap))):=fun C hb=>⟨(hb.cell (xlt)).trans x0,(hb.cell (xlt)).trans x1,(hb.cell (hlb)).trans q0,(hb.cell (hlb)).trans q1,(hb.cell (hlb)).trans q2,(hb.cell (hlb)).trans q3,(hb.cell (hlb)).trans q4,(hb.cell (hlb)).trans q5⟩
    have hC0:Below wr wr wr.drew:=(zy2 _ _).drew
    refine wpBS HS.out (T:=fun _=>True) (d:=99) (by kernel_rfl) ?_
    obtain ⟨wd,hwd⟩:∃ X,X=wr.drew:=⟨_,rfl⟩
    rw [←hwd] at hC0  ⊢
    clear hwd
    have hS0:=HS.out _ hC0
    have hT0:True:=trivial
    refine wV 0 rfl hS0 hT0 ?_
    (try simp only [zz])
    refine wV 1 rfl hS0 hT0 ?_
    (try simp only [zz])
    refine wV 2 rfl hS0 hT0 ?_
    (try simp only [zz])
    refine wV 3 rfl hS0 hT0 ?_
    (try simp only [zz])
    refine wV 4 rfl hS0 hT0 ?_
    (try simp only [zz])
    refine wV 5 rfl hS0 hT0 ?_
    (try simp only [zz])
    have HXd:=jj (ArrDt.below HXr.out hC0 UXr.out)
    have UXd:=jj (UXr.out.mono hC0.size)
    have hbd:=hbr.trans (hC0.mono hbr.size)
    refine Go.Proofs.Ytjjclcmmfeegfaa.w1 6 rfl fun K hK=>?_
    go_simp
    go_at_call 7
    refine (impl_SplitOr xs t q HQZ.out wd _ FX _ GQ HXd.out UXd.out (HQ.out.below hbd UQ.out) (UQ.out.mono hbd.size)).mono ?_
    rintro e C9 ⟨x9,F9,rfl,hb9,hg9,-,-⟩
    have hC1:Below wr wr C9:=hC0.trans (hb9.mono hC0.size)
    have hS1:=HS.out _ hC1
    rw [HAG.out.1]
    rw [HAG.out.2] at hg9
    obtain ⟨gA,gc,rfl,-,-⟩:=hg9.form
    (try dsimp only)
    refine hK.out _ _ hS1 (fun _=>trivial) ?_
    clear hK K
    (try simp only [zz])
    refine wV 7 rfl hS1 hT0 ?_
    (try simp only [zz])
    refine wV 8 rfl hS1 hT0 ?_
    (try simp only [zz])
    refine wV 9 rfl hS1 hT0 ?_
    (try simp only [zz])
    refine wV 10 rfl hS1 hT0 ?_
    (try simp only [zz])
    refine wV 11 rfl hS1 hT0 ?_
    (try simp only [zz])
    refine wE (by kernel_rfl) ?_
    clear hS0 hS1 hT0
    have hbq:=hbr.trans (hC1.mono hbr.size)
    clear x0 x1 xlt q0 q1 q2 q3 q4 q5 hlb hC0 hC1 hbr HXr UXr HXd UXd hbd hb9 hg9 HQ UQ
    obtain ⟨wq,hwq⟩:∃ X,X=C9:=⟨_,rfl⟩
    rw [←hwq] at hbq ⊢
    clear hwq
    have KTq:=KT5.out.same (hbq.block _ KT5.out.lt)
    obtain ⟨qA,qcap,GQ,hlb,q0,q1,q2,q3,q4,q5,HQ,UQ,-,-,-⟩:=ArrP.at HL5.out UL5.out hbq i HLQ.out
    obtain ⟨rA,rcap,GR,hsb,r0,r1,r2,r3,r4,r5,HQ2,UQ2,-,-,-⟩:=ArrP.at HS5.out US5.out hbq i HLQ.out
    rw [←HQE.out] at q0 q1 q2 q3 q4 q5 HQ r0 r1 r2 r3 r4 r5 HQ2
    obtain ⟨x0,x1,xlt⟩:=KTq.c2
    have HXq:=jj (ArrDt.below HX5.out hbq UX5.out)
    have UXq:=jj (UX5.out.mono hbq.size)
    have hnn:((nv:Int) != (nv:Int))=false:=bne_self_eq_false _
    clear KTq
    go_wp2_with fail
    have HS:Hid (∀ C:World,Below wq wq C→(C.cell? ⟨w1,0,none⟩=t.d∧C.cell? ⟨w1,1,none⟩=t.i∧C.cell? ⟨lb,loff+i*6,none⟩=q.op∧C.cell? ⟨lb,loff+i*6+1,none⟩=q.ct∧C.cell? ⟨lb,loff+i*6+2,none⟩=q.n∧C.cell? ⟨lb,loff+i*6+3,none⟩=q.m∧C.cell? ⟨lb,loff+i*6+4,none⟩=q.va∧C.cell? ⟨lb,loff+i*6+5,none⟩=some (.slice qA q.ks.length qcap)∧C.cell? ⟨sb,soff+i*6,none⟩=q.op∧C.cell? ⟨sb,soff+i*6+1,none⟩=q.ct∧C.cell? ⟨sb,soff+i*6+2,none⟩=q.n∧C.cell? ⟨sb,soff+i*6+3,none⟩=q.m∧C.cell? ⟨sb,soff+i*6+4,none⟩=q.va∧C.cell? ⟨sb,soff+i*6+5,none⟩=some (.slice rA q.ks.length rcap))):=fun C hb=>⟨(hb.cell (xlt)).trans x0,(hb.cell (xlt)).trans x1,(hb.cell (hlb)).trans q0,(hb.cell (hlb)).trans q1,(hb.cell (hlb)).trans q2,(hb.cell (hlb)).trans q3,(hb.cell (hlb)).trans q4,(hb.cell (hlb)).trans q5,(hb.cell (hsb)).trans r0,(hb.cell (hsb)).trans r1,(hb.cell (hsb)).trans r2,(hb.cell (hsb)).trans r3,(hb.cell (hsb)).trans r4,(hb.cell (hsb)).trans r5⟩
    have hC0:Below wq wq wq.drew:=(zy2 _ _).drew
    refine wpBS HS.out (T:=fun _=>True) (d:=99) (by kernel_rfl) ?_
    obtain ⟨wd,hwd⟩:∃ X,X=wq.drew:=⟨_,rfl⟩
    rw [←hwd] at hC0  ⊢
    clear hwd
    have hS0:=HS.out _ hC0
    have hT0:True:=trivial
    refine wV 0 rfl hS0 hT0 ?_
    (try simp only [zz])
    refine wV 1 rfl hS0 hT0 ?_
    (try simp only [zz])
    refine wV 2 rfl hS0 hT0 ?_
    (try simp only [zz])
    refine wV 3 rfl hS0 hT0 ?_
    (try simp only [zz])
    refine wV 4 rfl hS0 hT0 ?_
    (try simp only [zz])
    refine wV 5 rfl hS0 hT0 ?_
    (try simp only [zz])
    refine wV 6 rfl hS0 hT0 ?_
    (try simp only [zz])
    refine wV 7 rfl hS0 hT0 ?_
    (try simp only [zz])
    refine Go.Proofs.Ytjjclcmmfeegfaa.w1 8 rfl fun K hK=>?_
    go_simp
    go_at_call 10
    refine (impl_PatternSame q q wd _ _ GQ GR (HQ.out.below (hbq.trans (hC0.mono hbq.size)) UQ.out) (HQ2.out.below (hbq.trans (hC0.mono hbq.size)) UQ2.out) (UQ.out.mono (hbq.trans (hC0.mono hbq.size)).size) (UQ2.out.mono (hbq.trans (hC0.mono hbq.size)).size)).mono ?_
    rintro e D1 ⟨rfl,hb11⟩
    have hC1:Below wq wq D1:=hC0.trans (hb11.mono hC0.size)
    have hS1:=HS.out _ hC1
    rw [(P.same_iff q q).2 rfl]
    (try dsimp only)
    refine hK.out _ _ hS1 (fun _=>trivial) ?_
    clear hK K
    (try simp only [zz])
    refine wV 9 rfl hS1 hT0 ?_
    (try simp only [zz])
    refine wV 10 rfl hS1 hT0 ?_
    (try simp only [zz])
    refine wV 11 rfl hS1 hT0 ?_
    (try simp only [zz])
    refine wV 12 rfl hS1 hT0 ?_
    (try simp only [zz])
    refine wV 13 rfl hS1 hT0 ?_
    (try simp only [zz])
    refine wV 14 rfl hS1 hT0 ?_
    (try simp only [zz])
    refine wV 15 rfl hS1 hT0 ?_
    (try simp only [zz])
    refine wV 16 rfl hS1 hT0 ?_
    (try simp only [zz])
    refine Go.Proofs.Ytjjclcmmfeegfaa.w1 17 rfl fun K hK=>?_
    go_simp
    go_at_call 11
    refine (impl_PatternValid xs t q HQZ.out D1 _ FX _ GQ (ArrDt.below HXq.out hC1 UXq.out) (UXq.out.mono hC1.size) (HQ.out.below (hbq.trans (hC1.mono hbq.size)) UQ.out) (UQ.out.mono (hbq.trans (hC1.mono hbq.size)).size)).mono ?_
    rintro e D2 ⟨rfl,hb12⟩
    have hC2:Below wq wq D2:=hC1.trans (hb12.mono hC1.size)
    have hS2:=HS.out _ hC2
    rw [HVQ.out]
    (try dsimp only)
    refine hK.out _ _ hS2 (fun _=>trivial) ?_
    clear hK K
    (try simp only [zz])
    refine wV 18 rfl hS2 hT0 ?_
    (try simp only [zz])
    refine wV 19 rfl hS2 hT0 ?_
    (try simp only [zz])
    refine wV 20 rfl hS2 hT0 ?_
    (try simp only [zz])
    refine wV 21 rfl hS2 hT0 ?_
    (try simp only [zz])
    refine wV 22 rfl hS2 hT0 ?_
    (try simp only [zz])
    refine wV 23 rfl hS2 hT0 ?_
    (try simp only [zz])
    refine wV 24 rfl hS2 hT0 ?_
    (try simp only [zz])
    refine wV 25 rfl hS2 hT0 ?_
    (try simp only [zz])
    refine wV 26 rfl hS2 hT0 ?_
    (try simp only [zz])
    refine wV 29 rfl hS2 hT0 ?_
    (try simp only [zz])
    refine Go.Proofs.Ytjjclcmmfeegfaa.w1 27 rfl fun K hK=>?_
    go_simp
    go_at_call 9
    refine (impl_PatternVars xs t q D2 _ FX _ GQ (ArrDt.below HXq.out hC2 UXq.out) (UXq.out.mono hC2.size) (HQ.out.below (hbq.trans (hC2.mono hbq.size)) UQ.out) (UQ.out.mono (hbq.trans (hC2.mono hbq.size)).size)).mono ?_
    rintro e D3 ⟨vR,FR,rfl,hb13,hr13,-,-⟩
    have hC3:Below wq wq D3:=hC2.trans (hb13.mono hC2.size)
    have hS3:=HS.out _ hC3
    obtain ⟨rvA,rvc,rfl,-,-⟩:=hr13.form
    rw [HLV.out]
    (try dsimp only)
    refine hK.out _ _ hS3 (fun _=>trivial) ?_
    clear hK K
    (try simp only [zz])
    refine wV 28 rfl hS3 hT0 ?_
    (try simp only [zz])
    refine wV 30 rfl hS3 hT0 ?_
    (try simp only [zz])
    refine wV 31 rfl hS3 hT0 ?_
    (try simp only [zz])
    refine wV 32 rfl hS3 hT0 ?_
    (try simp only [zz])
    refine wV 33 rfl hS3 hT0 ?_
    (try simp only [zz])
    refine wV 34 rfl hS3 hT0 ?_
    (try simp only [zz])
    refine wV 35 rfl hS3 hT0 ?_
    (try simp only [zz])
    refine wV 36 rfl hS3 hT0 ?_
    (try simp only [zz])
    refine wV 37 rfl hS3 hT0 ?_
    (try simp only [zz])
    refine wV 38 rfl hS3 hT0 ?_
    (try simp only [zz])
    refine wV 39 rfl hS3 hT0 ?_
    (try simp only [zz])
    refine wV 40 rfl hS3 hT0 ?_
    (try simp only [zz])
    refine wE (by kernel_rfl) ?_
    clear hS0 hS1 hS2 hS3 hT0
    have hbr9:=hbq.trans (hC3.mono hbq.size)
    clear x0 x1 xlt q0 q1 q2 q3 q4 q5 r0 r1 r2 r3 r4 r5 hlb hsb hC0 hC1 hC2 hC3 hbq HXq UXq hb11 hb12 hb13 hr13 HQ UQ HQ2 UQ2
    obtain ⟨wz,hwz⟩:∃ X,X=D3:=⟨_,rfl⟩
    rw [←hwz] at hbr9 ⊢
    clear hwz
    go_wp2
    go_roundw
    case rel=>exact ⟨i+1,by omega,by go_num,hbr9⟩
    case measure=>(simp [intOf] <;> omega)
   ·have h1:=split_some HSB1.out
    have hge:decide (((splitV xs t p).length:Int)≥1)=true:=decide_eq_true (by omega)
    have hge2:decide ((1:Int)≤((splitV xs t p).length:Int))=true:=decide_eq_true (by omega)
    have hB9:=hB5.trans (hbr.mono hB5.size)
    go_wp2
    go_ret
    exact ⟨rfl,hB9⟩
end Go.Proofs.Ytjjclcmmfeegfaa.fnSplitParts
namespace Go.Proofs.Ytjjclcmmfeegfaa.fnSplitParts
open Go.ChangeShapes Go.WideShapes Go.ChangeAt Go.RowKit
open Go.ChangeMaps (open_string shut_string)
set_option linter.unusedVariables false

theorem own : ownKnob Try.prog.godebug = none := by kernel_rfl
theorem laidOut : laidOutB Try.prog = true := by kernel_rfl

set_option maxRecDepth 100000 in
theorem lifted (os : Os) (started : os.Started) (H : Type) (enc : TypeId × Value → H) :
    ReturnsInHanded {} Try.checked os 3 .any (Rows.fnSplitPartsSpec.pre6 enc Try.prog Try.f3 Rows.fnSplitPartsRow.domain false) (Rows.fnSplitPartsSpec.post enc Try.prog Try.f3 false true false false) := by
  refine returnsInHanded_of_change (C := Try.checked) own started (by kernel_rfl) Try.func3
    (ChangeSpec.witness6 (enc := enc) (C := Try.checked) false ⟨#[], #[.slice none 0 0], []⟩ 8 (by kernel_rfl) (by kernel_rfl) (by kernel_rfl) (by kernel_rfl)) ?_
  intro W base args ds gs before hval0 hW hcnd _
  have hval : ∀ (j : Nat) t v, Try.f3.params[j]? = some t → args[j]? = some v → Value.okWide Try.prog W .any base t v := hval0
  have hW' := hW
  obtain ⟨p, q, hA0, hV, rfl, hfz, hnd⟩ := hW
  have hA : DataW.TrodAll enc Try.prog W 0 (fun _ => true) true Try.f3.params.toList args.toList ds p := hA0
  rw [Try.params3] at hA hval
  obtain ⟨v0, vs0, d0, ds0, p0, q0, hargs, rfl, rfl, h0, r0⟩ := trodAll_cons hA
  obtain ⟨rfl, rfl, rfl⟩ := trodAll_nil r0
  obtain rfl : args = #[v0] := by cases args; simp_all
  obtain ⟨rfl, rfl⟩ := trodVars_none hV
  have k0 := h0
  have lt0 : ∀ x ∈ p0, x.block < W.heap.size := by obtain ⟨m, hm⟩ := k0; exact DataW.trod_lt m _ _ _ hm
  obtain ⟨x0, F0, hR0, hU0⟩ := open_Bytes (hval 0 22 v0 rfl rfl) h0
  clear hA0 hval0
  refine (walk x0 v0 F0 hR0 hU0 W rfl).mono fun e W' ⟨he, bel⟩ => ?_
  subst he
  exact ⟨_, rfl, _, _, _, [], _, [], hW', trodAll_mk1 (shut_bool Try.underlying4 _), (trodAll_cons_mk (Below.trod laidOut (by kernel_rfl) (of_decide_eq_true (by kernel_rfl)) k0 bel lt0) trodAll_mk0), rfl, bel.frame _, fun h => by cases h⟩

set_option maxHeartbeats 4000000 in
theorem closed : joinedFacts Try.pinned.checked.prog 3 Try.f3 Rows.fnSplitPartsSpec Rows.fnSplitPartsRow = true := by
  unfold joinedFacts
  have key : ∀ a b : Bool, a = true → b = true → (a && b) = true := fun a b h1 h2 => by rw [h1, h2]; rfl
  repeat' (with_reducible refine key _ _ ?_ ?_)
  all_goals as_aux_lemma => kernel_rfl

theorem over : Rows.fnSplitPartsRow.holds Try.pinned (OpenSpec.ofChange Rows.fnSplitPartsSpec) :=
  OpenClaim.holds_of_wide 3 Try.f3 rfl rfl rfl rfl rfl rfl rfl ⟨rfl, rfl, rfl, rfl, rfl⟩ rfl rfl rfl rfl rfl (by kernel_rfl) Try.func3 closed
    (of_decide_eq_true (by kernel_rfl)) (by unfold Func.isWrapper; first | (rw [if_pos (by decide +kernel)]; kernel_rfl) | (rw [if_neg (by decide +kernel)]; exact ⟨rfl, rfl⟩))
    (fun os started H enc _ => lifted os started H enc)

theorem proved : Rows.FnSplitPartsSaid := over
end Go.Proofs.Ytjjclcmmfeegfaa.fnSplitParts
