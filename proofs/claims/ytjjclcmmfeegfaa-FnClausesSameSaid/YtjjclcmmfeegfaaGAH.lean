/-
  Lemmas, and contracts of functions. Conditions: none.
-/
import Derived.Test.YtjjclcmmfeegfaaGAD
import Derived.Test.YtjjclcmmfeegfaaGAB
import Derived.Deep.RegionWith
import Derived.Test.YtjjclcmmfeegfaaGAG
import Derived.Test.YtjjclcmmfeegfaaGAE
import Derived.Test.YtjjclcmmfeegfaaGAF
import Derived.Deep.Cut
import Derived.Test.YtjjclcmmfeegfaaGAA

set_option linter.unusedVariables false
set_option linter.unusedSimpArgs false
set_option maxRecDepth 100000
set_option maxHeartbeats 1600000

namespace Go.Proofs.Ytjjclcmmfeegfaa
open Go.RowKit
def DrewVF (xs:List Dt) (d:Nat) (t:Ty) (b p n g:Nat) (w:World) (e:Ending) (w':World):Prop:=∃ (v:V) (cs:List Value) (F:List Nat) (q:Nat),e=.returned (.agg cs.toArray)∧VR w' v cs F∧Fresh w w' F∧nodes v≤b∧fitsV xs d t v=true∧Rd w' g q∧q≤p+n∧Chg [g] w w'
theorem zipAll_snoc {f:Ty→V→Bool}:∀ (ls:List Ty) (ks:List V) (a:Ty) (k:V),ls.length=ks.length→zipAll f ls ks=true→f a k=true→zipAll f (ls ++ [a]) (ks ++ [k])=true
 |[],[],a,k,_,_,h=>by show (f a k && zipAll f [] [])=true;rw [h];rfl
 |x :: ls,y :: ks,a,k,hl,hz,h=>by
  rw [zipAll,Bool.and_eq_true] at hz
  show (f x y && zipAll f (ls ++ [a]) (ks ++ [k]))=true
  rw [hz.1,zipAll_snoc ls ks a k (by simpa using hl) hz.2 h]
  rfl
 |[],_ :: _,_,_,h,_,_=>by cases h
 |_ :: _,[],_,_,h,_,_=>by cases h
theorem spec_l2DrawF:∀ (N:Nat),∀ (_:N≤8) (xs:List Dt) (_:WorldOK xs) (t:Ty) (_:TyIn xs.length t) (_:depthIn (tableL xs) t≠0) (dp:Int) (_:dp≤((N:Nat):Int)) (_:((N:Nat):Int)-30≤dp) (_:depthIn (tableL xs) t≤((N:Nat):Int)) (w:World) (p g:Nat) (x:Value) (F:List Nat) (u:Value) (H:List Nat),Rd w g p→p+4 ^ N≤900000→Arr w (DtR w) xs x F→Under w F→g∉F→Arr w (NatR w) (tableL xs) u H→Under w H→g∉H →
  Calls Try.prog 67 #[.pointer (some ⟨g,0,none⟩),x,u,.agg #[t.d,t.i],.int .i64 dp] w (DrewVF xs N t (4 ^ N) p (4 ^ N) g w):=by
 intro N
 induction N with
 |zero =>
  intro _ xs hw t ht h0 dp _ _ hn
  exfalso
  have:=(tableL_small hw).dep t
  simp only [Int.natCast_zero] at hn
  omega
 |succ N ih =>
  intro h8 xs hw t ht h0 dp hdp hlo hn w p g x F u H hr hp hx hf hgf hy hh hgh
  have IH:=jj (ih (by omega))
  clear ih
  have hp4:=pow4 N
  have hp48:=pow4_le h8
  have hgl:=hr.lt
  obtain ⟨A,cap,rfl,hc1,hc2⟩:=hx.form
  obtain ⟨U,ucap,rfl,hu1,hu2⟩:=hy.form
  have HR:=jj hr
  have HGF:Hid (∀ b∈F,b∉[g]):=fun b hb h=>hgf (by rw [zy1] at h;rwa [←h])
  have HGH:Hid (∀ b∈H,b∉[g]):=fun b hb h=>hgh (by rw [zy1] at h;rwa [←h])
  have HGf:=jj hgf
  have HGh:=jj hgh
  clear hr hgf hgh
  rcases id ht with hti | ⟨d,i,rfl,hd4,hi4⟩
  ·have t0:(t.d == -1)=true:=by simp [hti]
   have K0:Hid (Blk ((w.alloc (.cells #[t.d,t.i] 25)).alloc (.cells #[(0:Int),(0:Int),.slice none 0 0] 46)) (w.heap.size+1) 46 #[(0:Int),(0:Int),.slice none 0 0]):=zA8 w _ 46 _
   have HB0:Hid (Below w w ((w.alloc (.cells #[t.d,t.i] 25)).alloc (.cells #[(0:Int),(0:Int),.slice none 0 0] 46))):=((zy2 _ _).alloc (zz8 _) _).alloc (by simp) _
   have HTI:=jj hti
   clear hn h0 ht hti hx hf hy hh hlo
   go_enter Try.func67,Try.ntmps67
   go_wp2_with fail
   obtain ⟨W2,hW2⟩:∃ W2,W2=((w.alloc (.cells #[t.d,t.i] 25)).alloc (.cells #[(0:Int),(0:Int),.slice none 0 0] 46)):=⟨_,rfl⟩
   rw [←hW2] at K0 HB0 ⊢
   clear hW2
   have hR2:=HR.out.below HB0.out
   refine (zAH 10 p g W2 hR2 (by omega) (by omega) (by omega)).mono ?_
   rintro e w3 ⟨r,rfl,hr10,hR3,hC3⟩
   have KR:=jj (K0.out.same (hC3.block _ K0.out.lt (by rw [zy1];omega)))
   have HR3:=jj hR3
   have hC:Chg [g] w w3:=(Chg.of_below HB0.out).trans hC3
   have HC:=jj hC
   have rc0:=(KR.out.cell 0).trans (show _=some (.int .i64 0) from by simp)
   have rf0:=KR.out.frozen 0
   have rc1:=(KR.out.cell 1).trans (show _=some (.int .i64 0) from by simp)
   have rf1:=KR.out.frozen 1
   have rc2:=(KR.out.cell 2).trans (show _=some (.slice none 0 0) from by simp)
   have rf2:=KR.out.frozen 2
   have rlt:=KR.out.lt
   clear K0 HB0 hR2 hR3 hC3 hC
   go_wp2
   clear rc0 rf0 rc1 rf1 rc2 rf2 rlt
   refine bodyPost_ret (zA1 rfl _ _ (w.heap.size+1) 46 #[.int .i64 (-1),(r:Int),.slice none 0 0] (0,0) _ rfl (KR.out.three _ _ _) Try.underlying46 rfl rfl) rfl ?_
   refine ⟨⟨-1,(r:Int),[]⟩,[.int .i64 (-1),(r:Int),.slice none 0 0],[],p+1,rfl,(VR_iff _ _ _).2 ⟨_,rfl,Arr.nil⟩,Fresh.nil _ _,by simp [nodes,V.size,V.sizes];omega,(by rw [fitsV_int HTI.out];unfold isNum;have:=hr10;simp [withinB];omega),?_,by omega,((HC.out.set_new (by omega)).set_new (by omega)).set_new (by omega)⟩
   exact HR3.out.keep fun b hb=>by rw [zz7 _ _ _ _ (by show b≠w.heap.size+1;omega),zz7 _ _ _ _ (by show b≠w.heap.size+1;omega),zz7 _ _ _ _ (by show b≠w.heap.size+1;omega)]
  ·have t0:((d:Int) == -1)=false:=by rw [beq_eq_false_iff_ne];omega
   have hdn:¬(⟨(d:Int),(i:Int)⟩:Ty).d = -1:=by simp only;omega
   obtain ⟨kf,hkf⟩:=least_find hw ht hdn h0
   have HFI:=jj hkf
   have HW:=jj hw
   have HT:=jj ht
   have H0:=jj h0
   have HN:=jj hn
   have HKL:Hid ((ctorsL xs ⟨(d:Int),(i:Int)⟩).length≤4):=by
    have h:=ctorsL_len hw (s:=d*4+i) (by omega)
    rw [tyAt_mk hi4] at h
    exact h
   obtain ⟨i0,hi,hz0,hz1,hz2⟩:=info_parts info_int
   obtain ⟨v0,hvi,hv0,hv1,hv2⟩:=info_parts info_VE
   have HX:=jj hx
   have HF:=jj hf
   have HY:=jj hy
   have HH:=jj hh
   have HI:=jj hi
   have HZ0:=jj hz0
   have HZ1:=jj hz1
   have HZ2:=jj hz2
   have HVI:=jj hvi
   have HV0:=jj hv0
   have HV1:=jj hv1
   have HV2:=jj hv2
   clear hx hf hy hh hi hz0 hz1 hz2 hvi hv0 hv1 hv2
   clear hkf hdn hw ht h0 hn
   go_enter Try.func67,Try.ntmps67
   go_wp2_with fail
   obtain ⟨W2,hW2⟩:∃ W2,W2=((w.alloc (.cells #[(d:Int),(i:Int)] 25)).alloc (.cells #[(0:Int),(0:Int),.slice none 0 0] 46)):=⟨_,rfl⟩
   have hB0:Below w w W2:=by rw [hW2];exact ((zy2 _ _).alloc (zz8 _) _).alloc (by simp) _
   have KT:Hid (Blk W2 w 25 #[(d:Int),(i:Int)]):=by rw [hW2];exact (Blk.new w _ _).same (Below.heap_alloc _ _ _ (by simp))
   have KR:Hid (Blk W2 (w.heap.size+1) 46 #[(0:Int),(0:Int),.slice none 0 0]):=by rw [hW2];exact zA8 w _ _ _
   rw [←hW2]
   clear hW2
   have y0:W2.cell? ⟨w,0,none⟩=(d:Int):=(KT.out.cell 0).trans (by simp)
   have y1:W2.cell? ⟨w,1,none⟩=(i:Int):=(KT.out.cell 1).trans (by simp)
   have ylt:=KT.out.lt
   go_wp2_with fail
   refine (spec_l1Ctors xs ⟨(d:Int),(i:Int)⟩ W2 _ F (ArrDt.below HX.out hB0 HF.out) (HF.out.mono hB0.size) HW.out HT.out.inWorld).mono ?_
   rintro e w3 ⟨v3,F3,rfl,hb3,ha3,-,hfs3⟩
   have hB3:=hB0.trans (hb3.mono hB0.size)
   have KT3:=jj (KT.out.same (hb3.block _ KT.out.lt))
   have KR3:=jj (KR.out.same (hb3.block _ KR.out.lt))
   have HA3:=jj ha3
   have HU3:=jj hfs3.under
   have hW2s:=hB0.size
   have hW3s:=KR3.out.lt
   obtain ⟨C3,cap3,rfl,hl1,hl2⟩:=ha3.form
   have HO3:Hid (Own (w3.alloc (.cells #[] 3)) w3.heap.size 3 1 NatR ([]:List Int) (.slice (some ⟨w3,0,none⟩) 0 0) []):=Own.made w3 w3.heap.size 3 1 NatR #[] 0 (zz8 _) (by simp [maxLen]) rfl
   have HB34:Hid (Below w3 w3 (w3.alloc (.cells #[] 3))):=(zy2 _ _).alloc (zz8 _) _
   clear ha3 hfs3 hb3 KT KR y0 y1 ylt hB0
   go_wp2
   go_loopw [12,13] (fun fv iv wr=>∃ j:Nat,∃ fl:List Int,j≤(ctorsL xs ⟨(d:Int),(i:Int)⟩).length∧iv=.int .i64 j∧Hid (Own wr w3.heap.size 3 1 NatR fl fv [])∧Hid (∀ k∈fl,GoodK xs ⟨(d:Int),(i:Int)⟩ (N+1) k)∧Hid (((ctorsL xs ⟨(d:Int),(i:Int)⟩).drop j).find? (isLeast xs ⟨(d:Int),(i:Int)⟩)=some kf∨fl≠[])∧Hid (fl.length≤j)∧Hid (Below w3 w3 wr)∧w3.heap.size≤wr.heap.size) (fun _ iv _=>(ctorsL xs ⟨(d:Int),(i:Int)⟩).length-(intOf iv).toNat)
   case atStart=>exact ⟨0,[],Nat.zero_le _,rfl,HO3,(fun k hk=>by cases hk),.inl HFI.out,Nat.zero_le _,HB34.out,HB34.out.size⟩
   case round =>
    clear HO3 HB34
    obtain ⟨j,fl,hj,rfl,HO,HGK,HFJ,HFL,HBJ,hws⟩:=hrel
    obtain ⟨wo,hwo⟩:∃ wo,wo=wr:=⟨_,rfl⟩
    rw [←hwo] at HO HBJ hws ⊢
    clear hwo
    obtain ⟨fA,fcap,hfv,hfc1,hfc2⟩:=HO.out.form
    subst hfv
    have hB:=hB3.trans (HBJ.out.mono hB3.size)
    have KTo:=jj (KT3.out.same (HBJ.out.block _ KT3.out.lt))
    have y0:wo.cell? ⟨w,0,none⟩=(d:Int):=(KTo.out.cell 0).trans (by simp)
    have y1:wo.cell? ⟨w,1,none⟩=(i:Int):=(KTo.out.cell 1).trans (by simp)
    have ylt:=KTo.out.lt
    by_cases hjl:j<(ctorsL xs ⟨(d:Int),(i:Int)⟩).length
    ·have g1:(0:Int)≤(j:Int):=by omega
     have g2:(j:Int)<((ctorsL xs ⟨(d:Int),(i:Int)⟩).length:Int):=by omega
     obtain ⟨b3,off3,rfl⟩:=HA3.out.ptr (by omega)
     obtain ⟨hb3l,c3⟩:=ArrNat.at HA3.out HU3.out HBJ.out j hjl
     have hmj:=find_step (p:=isLeast xs ⟨(d:Int),(i:Int)⟩) hjl
     obtain ⟨d',m,e1,hkm,hd',hm⟩:=zB6 HT.out.inWorld (List.getElem_mem hjl)
     obtain rfl:d=d':=Int.ofNat.inj e1
     have hme:(ctorsL xs ⟨(d:Int),(i:Int)⟩)[j]∈(ctorsL xs ⟨(d:Int),(i:Int)⟩):=List.getElem_mem hjl
     rw [hkm] at hmj c3
     rw [hkm] at hme
     have HMJ:=jj hmj
     have HME:=jj hme
     have HIL:Hid (isLeast xs ⟨(d:Int),(i:Int)⟩ (m:Int)=((mostIn xs (tableL xs) ⟨(d:Int),(i:Int)⟩ (m:Int))==(depthIn (tableL xs) ⟨(d:Int),(i:Int)⟩))):=rfl
     have HKJ:=jj hkm
     have HNN:=jj (mostIn_nonneg HW.out ⟨(d:Int),(i:Int)⟩ (m:Int))
     clear hkm e1 hmj hme
     go_wp2_with fail
     have hkeep:Kp wo.heap.size (fun U=>U.cell? ⟨w,0,none⟩=(d:Int)∧U.cell? ⟨w,1,none⟩=(i:Int)∧U.cell? ⟨b3,off3+j,none⟩=(m:Int)):=fun U U' h hUU hU=>⟨(hUU.cell (zz9 (ylt) hU)).trans h.1,(hUU.cell (zz9 (ylt) hU)).trans h.2.1,(hUU.cell (zz9 (hb3l) hU)).trans h.2.2⟩
     have HKeep:=jj hkeep
     clear hkeep
     go_region_held3 (fun w'=>w'.cell? ⟨w,0,none⟩=(d:Int)∧w'.cell? ⟨w,1,none⟩=(i:Int)∧w'.cell? ⟨b3,off3+j,none⟩=(m:Int)) (first | assumption | (exact ⟨y0,y1,c3⟩) | (exact HKeep.out wo.drew w5 ⟨y0,y1,c3⟩ hb5 (zz8 _))) (first | (go_at_call 87;((with_reducible refine (spec_l1Most xs HW.out (tableL xs) (tableL_small HW.out) d i m hd4 hi4 hm _ _ _ F H (ArrDt.below HX.out hB.drew HF.out) (HF.out.mono hB.drew.size) (ArrNat.below HY.out hB.drew HH.out) (HH.out.mono hB.drew.size)).mono ?_);rintro e w5 ⟨rfl,hb5⟩)))
     have hb5u:=zAU hb5
     have hB5:=hB.drew.trans (hb5.mono hB.size)
     have HB35:Hid (Below w3 w3 w5):=HBJ.out.trans (hb5u.mono HBJ.out.size)
     have KT5:=jj (KTo.out.same (hb5u.block _ KTo.out.lt))
     have HO5:Hid (Own w5 w3.heap.size 3 1 NatR fl (.slice fA fl.length fcap) []):=Own.below (fun x cs G hk h=>zAX _ _ x cs G hk h) (w:=wo) HO.out hb5u
     obtain ⟨hb3l5,c35⟩:=ArrNat.at HA3.out HU3.out HB35.out j hjl
     rw [HKJ.out] at c35
     have hws5:=HB35.out.size
     have y0:w5.cell? ⟨w,0,none⟩=(d:Int):=(KT5.out.cell 0).trans (by simp)
     have y1:w5.cell? ⟨w,1,none⟩=(i:Int):=(KT5.out.cell 1).trans (by simp)
     have ylt:=KT5.out.lt
     clear hb5 hb5u c3 hb3l KTo HO HBJ
     obtain ⟨mo,hmo⟩:∃ q,q=(mostIn xs (tableL xs) ⟨(d:Int),(i:Int)⟩ (m:Int)):=⟨_,rfl⟩
     obtain ⟨de,hde⟩:∃ q,q=(depthIn (tableL xs) ⟨(d:Int),(i:Int)⟩):=⟨_,rfl⟩
     rw [←hmo] at HNN HIL ⊢
     rw [←hde] at HIL HN H0
     have HMO:=jj hmo
     have HDE:=jj hde
     clear hmo hde
     have hfl4:fl.length≤4:=by have h1:=HFL.out;have h2:=HKL.out;omega
     by_cases q1:mo>0
     ·have d1:decide (mo>0)=true:=decide_eq_true q1
      have d1':decide (0<mo)=true:=decide_eq_true q1
      by_cases q2:mo≤dp
      ·have d2:decide (mo≤dp)=true:=decide_eq_true q2
       have HG2:Hid (∀ k∈fl ++ [(m:Int)],GoodK xs ⟨(d:Int),(i:Int)⟩ (N+1) k):=fun k hk=>by
        rcases List.mem_append.1 hk with h | h
        ·exact HGK.out k h
        ·rw [zy1] at h
         subst h
         exact ⟨HME.out,by rw [←HMO.out];omega,by rw [←HMO.out];omega⟩
       clear q1 q2
       go_wp2_with (at_builtin;refine Halt.mk ?_)
       refine Halt.of (zA3 (P:=Try.prog) rfl _ _ 72 rfl i0 _ 8 Try.underlying72 HI.out HZ0.out HZ1.out HZ2.out rfl Nat.zero_lt_one NatR_len zAX (by rfl) HO5.out (m:Int) 3 [(m:Int)] [] _ (by rfl) (by simp) (by simp [Value.oneCell']) ⟨rfl,rfl⟩ (Under.nil _) (fun _ _ h=>by cases h) (by unfold maxLen;omega) (by omega) hws5 ?_)
       intro gz cp w8 hown8 hgr8 hat8
       have hrow:=HO5.out.row
       have HB38:Hid (Below w3 w3 w8):=(HB35.out.alloc hws5 _).grown hgr8 (by rw [World.size_alloc];omega) (fun g hg=>(hrow g (zA2.2 hg)).1)
       have HO8:Hid (Own w8 w3.heap.size 3 1 NatR (fl ++ [(m:Int)]) (.slice (some ⟨gz,0,none⟩) (fl ++ [(m:Int)]).length cp) []):=by rw [show (fl ++ [(m:Int)]).length=fl.length+1 from by rw [List.length_append];rfl];exact hown8
       have hws8:=HB38.out.size
       have HL2:Hid ((fl ++ [(m:Int)]).length≤j+1):=by have:=HFL.out;unfold Hid;rw [List.length_append];simp only [List.length_cons,List.length_nil];omega
       clear hown8 hgr8 hat8 hrow c35 hb3l5 y0 y1 ylt
       go_wp2
       go_roundw
       case rel=>exact ⟨j+1,fl ++ [(m:Int)],hjl,by go_num,(by rw [show (fl ++ [(m:Int)]).length=fl.length+1 from by rw [List.length_append];rfl] at HO8;exact HO8),HG2,.inr (by simp),HL2,HB38,hws8⟩
       case measure=>(simp [intOf] <;> omega)
      ·have d2:decide (mo≤dp)=false:=decide_eq_false q2
       go_wp2_with fail
       refine (spec_l1Depth xs.length HW.out.len (tableL xs) (tableL_small HW.out) ⟨(d:Int),(i:Int)⟩ HT.out w5 _ H (ArrNat.below HY.out hB5 HH.out) (HH.out.mono hB5.size)).mono ?_
       rintro e w6 ⟨rfl,hb6⟩
       rw [←HDE.out]
       have hB6:=hB5.trans (hb6.mono hB5.size)
       have HB36:Hid (Below w3 w3 w6):=HB35.out.trans (hb6.mono HB35.out.size)
       have HO6:Hid (Own w6 w3.heap.size 3 1 NatR fl (.slice fA fl.length fcap) []):=Own.below (fun x cs G hk h=>zAX _ _ x cs G hk h) (w:=w5) HO5.out hb6
       have hws6:=HB36.out.size
       obtain ⟨hb3l6,c36⟩:=ArrNat.at HA3.out HU3.out HB36.out j hjl
       rw [HKJ.out] at c36
       have KT6:=jj (KT5.out.same (hb6.block _ KT5.out.lt))
       clear hb6 c35 hb3l5 y0 y1 ylt KT5 HO5 HB35
       cases q3:(mo==de) with
       |false =>
        have HF2:Hid ((((ctorsL xs ⟨(d:Int),(i:Int)⟩).drop (j+1)).find? (isLeast xs ⟨(d:Int),(i:Int)⟩)=some kf)∨fl≠[]):=by
         rcases HFJ.out with h1 | h1
         ·rw [HMJ.out,HIL.out,q3,if_neg (by simp)] at h1
          exact .inl h1
         ·exact .inr h1
        clear q1 q2
        go_wp2
        go_roundw
        case rel=>exact ⟨j+1,fl,hjl,by go_num,HO6,HGK,HF2,by have:=HFL.out;unfold Hid;omega,HB36,hws6⟩
        case measure=>(simp [intOf] <;> omega)
       |true =>
        have HG2:Hid (∀ k∈fl ++ [(m:Int)],GoodK xs ⟨(d:Int),(i:Int)⟩ (N+1) k):=fun k hk=>by
         rcases List.mem_append.1 hk with h | h
         ·exact HGK.out k h
         ·rw [zy1] at h
          subst h
          have h3:=eq_of_beq q3
          have h4:=HN.out
          exact ⟨HME.out,by rw [←HMO.out];omega,by rw [←HMO.out];omega⟩
        clear q1 q2
        go_wp2_with (at_builtin;refine Halt.mk ?_)
        refine Halt.of (zA3 (P:=Try.prog) rfl _ _ 72 rfl i0 _ 8 Try.underlying72 HI.out HZ0.out HZ1.out HZ2.out rfl Nat.zero_lt_one NatR_len zAX (by rfl) HO6.out (m:Int) 3 [(m:Int)] [] _ (by rfl) (by simp) (by simp [Value.oneCell']) ⟨rfl,rfl⟩ (Under.nil _) (fun _ _ h=>by cases h) (by unfold maxLen;omega) (by omega) hws6 ?_)
        intro gz cp w8 hown8 hgr8 hat8
        have hrow:=HO6.out.row
        have HB38:Hid (Below w3 w3 w8):=(HB36.out.alloc hws6 _).grown hgr8 (by rw [World.size_alloc];omega) (fun g hg=>(hrow g (zA2.2 hg)).1)
        have HO8:Hid (Own w8 w3.heap.size 3 1 NatR (fl ++ [(m:Int)]) (.slice (some ⟨gz,0,none⟩) (fl ++ [(m:Int)]).length cp) []):=by rw [show (fl ++ [(m:Int)]).length=fl.length+1 from by rw [List.length_append];rfl];exact hown8
        have hws8:=HB38.out.size
        have HL2:Hid ((fl ++ [(m:Int)]).length≤j+1):=by have:=HFL.out;unfold Hid;rw [List.length_append];simp only [List.length_cons,List.length_nil];omega
        clear hown8 hgr8 hat8 hrow c36 hb3l6
        go_wp2
        go_roundw
        case rel=>exact ⟨j+1,fl ++ [(m:Int)],hjl,by go_num,(by rw [show (fl ++ [(m:Int)]).length=fl.length+1 from by rw [List.length_append];rfl] at HO8;exact HO8),HG2,.inr (by simp),HL2,HB38,hws8⟩
        case measure=>(simp [intOf] <;> omega)
     ·have d1:decide (mo>0)=false:=decide_eq_false q1
      have d1':decide (0<mo)=false:=decide_eq_false q1
      have HF2:Hid ((((ctorsL xs ⟨(d:Int),(i:Int)⟩).drop (j+1)).find? (isLeast xs ⟨(d:Int),(i:Int)⟩)=some kf)∨fl≠[]):=by
       rcases HFJ.out with h1 | h1
       ·have h0:=H0.out
        have hnn:=HNN.out
        rw [HMJ.out,HIL.out,if_neg (by rw [beq_iff_eq];omega)] at h1
        exact .inl h1
       ·exact .inr h1
      clear q1
      go_wp2
      go_roundw
      case rel=>exact ⟨j+1,fl,hjl,by go_num,HO5,HGK,HF2,by have:=HFL.out;unfold Hid;omega,HB35,hws5⟩
      case measure=>(simp [intOf] <;> omega)
    ·have hne:fl≠[]:=by
      rcases HFJ.out with h1 | h1
      ·rw [find_end (by omega)] at h1;cases h1
      ·exact h1
     have hfl1:1≤fl.length:=by cases fl with | nil=>exact absurd rfl hne | cons a l=>simp
     have hfl4:fl.length≤4:=by have h1:=HFL.out;have h2:=HKL.out;omega
     have harr:=HO.out.arr
     rw [if_neg hne] at harr
     have HAF:=jj harr
     have HAU:Hid (∀ b∈rowOf (.slice fA fl.length fcap) ++ [],w3.heap.size≤b∧b<wo.heap.size):=fun b hb=>HO.out.row b (by simpa using hb)
     have KRo:=jj (KR3.out.same (HBJ.out.block _ KR3.out.lt))
     have HRo:=jj (HR.out.below hB)
     clear harr hne
     go_wp2_with fail
     refine (zAH fl.length p g wo HRo.out (by omega) hfl1 (by omega)).mono ?_
     rintro e w6 ⟨r,rfl,hrl,hR6,hC6⟩
     have hg1:∀ b,g<b→b∉[g]:=fun b hb h=>by rw [zy1] at h;omega
     have HG1:=jj hg1
     clear hg1
     have KT6:=jj (KTo.out.same (hC6.block _ KTo.out.lt (HG1.out _ hgl)))
     have KR6:=jj (KRo.out.same (hC6.block _ KRo.out.lt (HG1.out _ (by omega))))
     have HC6:Hid (Chg [g] w w6):=(Chg.of_below hB).trans hC6
     have hz6:=hC6.size
     have hAF6:Arr w6 (NatR w6) fl (.slice fA fl.length fcap) (rowOf (.slice fA fl.length fcap) ++ []):=ArrNat.kept HAF.out (hC6.kept (fun b hb=>(HAU.out b hb).2) (fun b hb=>HG1.out _ (by have:=(HAU.out b hb).1;omega)))
     obtain ⟨bf,offf,rfl⟩:=hAF6.ptr (by omega)
     obtain ⟨hbfl,cf⟩:=ArrNat.at hAF6 (fun b hb=>zz9 (HAU.out b hb).2 hz6) (zy2 _ _) r hrl
     have hgk:=HGK.out fl[r] (List.getElem_mem hrl)
     obtain ⟨d',m,e1,hkm,hd',hm⟩:=zB6 HT.out.inWorld hgk.1
     obtain rfl:d=d':=Int.ofNat.inj e1
     rw [hkm] at cf hgk
     have HGM:=jj hgk
     have HR6:=jj hR6
     have g1:(0:Int)≤(r:Int):=by omega
     have g2:(r:Int)<(fl.length:Int):=by omega
     have hal:=zBA (i:=(i:Int)) hd4 hm
     have HLS:=jj hal
     have HAL:Hid (∀ a∈argsL xs[d].ctors[m] (i:Int),TyIn xs.length a∧depthIn (tableL xs) a≠0∧depthIn (tableL xs) a≤((N:Nat):Int)):=fun a ha=>good_args HW.out HT.out HGM.out (by rw [hal];exact ha)
     have hl3:(argsL xs[d].ctors[m] (i:Int)).length≤3:=by rw [argsL_len];exact (HW.out.ctor hd4 hm).args
     have hca:=(HW.out.ctor hd4 hm).args
     clear hkm e1 hgk hR6 hC6 hAF6 hal y0 y1 ylt KTo KRo hB HO HAF HAU
     have y0:w6.cell? ⟨w,0,none⟩=(d:Int):=(KT6.out.cell 0).trans (by simp)
     have y1:w6.cell? ⟨w,1,none⟩=(i:Int):=(KT6.out.cell 1).trans (by simp)
     have ylt:=KT6.out.lt
     go_wp2_with fail
     clear y0 y1 ylt cf hbfl
     have hD0:=HC6.out.size
     obtain ⟨wn,hwn⟩:∃ wn,wn=w6.alloc (.cells #[(m:Int),(0:Int),.slice none 0 0] 46):=⟨_,rfl⟩
     have hbn:Below w6 w6 wn:=by rw [hwn];exact (zy2 _ _).alloc (zz8 _) _
     have KN:Hid (Blk wn w6 46 #[(m:Int),(0:Int),.slice none 0 0]):=by rw [hwn];exact Blk.new _ _ _
     rw [←hwn]
     clear hwn
     obtain ⟨D,hD⟩:∃ D,D=w6.heap.size:=⟨_,rfl⟩
     rw [←hD] at KN hbn hD0 hz6 ⊢
     have HCn:Hid (Chg [g] w wn):=HC6.out.trans (.of_below (by rw [←hD];exact hbn))
     have KRn:=jj (KR6.out.same (hbn.block _ (by rw [hD];exact KR6.out.lt)))
     have HRn:=jj (HR6.out.keep (w':=wn) (fun b hb=>hbn.block b (by omega)))
     clear hbn HC6 KT6 HR6 KR6 hD
     refine (spec_l1Args xs d m (i:Int) hd4 hm wn _ F (HX.out.mono (HCn.out.kept HF.out HGF.out) fun y _ cs G hk h=>DtR.mono y cs G hk h) (HF.out.mono HCn.out.size) hca).mono ?_
     rintro e w9 ⟨v7,F7,rfl,hb7,ha7,-,hfs7⟩
     have KN9:=jj (KN.out.same (hb7.block _ KN.out.lt))
     have KR9:=jj (KRn.out.same (hb7.block _ KRn.out.lt))
     have HC9:Hid (Chg [g] w w9):=HCn.out.step hb7
     have HR9:=jj (HRn.out.below hb7)
     have HA7:=jj ha7
     have HU7:=jj hfs7.under
     have HL7:Hid (∀ b∈F7,D<b):=fun b hb=>zz9 KN.out.lt (hfs7 b hb).1
     have hDw:D<w9.heap.size:=KN9.out.lt
     have hk3:=KR3.out.lt
     obtain ⟨C7,cap7,rfl,hl71,hl72⟩:=ha7.form
     obtain ⟨Bz,hBz⟩:∃ B,B=w9.heap.size:=⟨_,rfl⟩
     have HBZ:=jj hBz
     have hDB:D<Bz:=by rw [hBz];exact hDw
     have hwsD:w3.heap.size≤D:=by omega
     clear ha7 hfs7 hb7 KN HCn KRn HRn hBz
     generalize (argsL xs[d].ctors[m] (i:Int))=ls at *
     go_wp2
     go_loopw [17] (fun iv wr=>∃ q:Nat,∃ kv:Value,∃ Fk:List Nat,∃ vs:List V,∃ pq:Nat,q≤ls.length∧iv=.int .i64 q∧Hid (vs.length=q)∧Hid (V.sizes vs≤q*4 ^ N)∧Hid (zipAll (fitsV xs N) (ls.take q) vs=true)∧Hid (Blk wr D 46 #[(m:Int),(0:Int),kv])∧Hid (Own wr Bz 46 3 VR vs kv Fk)∧Hid (∀ b∈Fk,Bz≤b)∧Hid (Chg [D,g] w9 wr)∧Hid (Chg [g] w wr)∧w9.heap.size≤wr.heap.size∧Hid (Rd wr g pq)∧pq≤p+1+q*4 ^ N) (fun iv _=>ls.length-(intOf iv).toNat)
     case atStart=>exact ⟨0,_,[],[],p+1,Nat.zero_le _,rfl,rfl,Nat.zero_le _,jj (by rw [List.take_zero];rfl),KN9,Own.nil _ _ _ _ _,(fun b hb=>by cases hb),Chg.refl _ _,HC9,zz8 _,HR9,by omega⟩
     case round =>
      clear HC9 KN9 HR9
      obtain ⟨q,kv,Fk,vs,pq,hql,rfl,HVL,HVS,HVZ,KD,HO,HFh,HC,HCw,hws9,HRq,hpq⟩:=hrel
      obtain ⟨kA,kcap,hkv,hkc1,hkc2⟩:=HO.out.form
      subst hkv
      have klt:=KD.out.lt
      have HA7r:Hid (Arr wr (TyR wr) ls (.slice C7 ls.length cap7) F7):=HA7.out.mono (HC.out.kept HU7.out (fun b hb h=>by have h1:=HL7.out b hb;rcases List.mem_cons.1 h with h2 | h2;omega;rw [zy1] at h2;omega)) (fun y _ cs G _ h=>h)
      have HU7r:Hid (Under wr F7):=HU7.out.mono HC.out.size
      by_cases hil:q<ls.length
      ·have g1:(0:Int)≤(q:Int):=by omega
       have g2:(q:Int)<(ls.length:Int):=by omega
       obtain ⟨b7,off7,rfl⟩:=HA7r.out.ptr (by omega)
       have hb7z:D<b7∧b7<Bz:=by
        obtain ⟨_,_,_,_,e,hb,-⟩:=HA7r.out.get TyR_len hil
        cases e
        exact ⟨HL7.out _ hb,by have:=HU7.out _ hb;rw [HBZ.out];exact this⟩
       obtain ⟨hb7w,k0,k1⟩:=ArrTy.at HA7r.out HU7r.out (zy2 _ _) q hil
       have ha:=HAL.out ls[q] (List.getElem_mem hil)
       have hvl:=HVL.out
       have hvl3:vs.length≤3:=by omega
       clear hvl
       have HA1:=jj ha
       clear ha
       obtain ⟨aq,haq⟩:∃ a,a=ls[q]:=⟨_,rfl⟩
       rw [←haq] at HA1 k0 k1
       have HAQ:=jj haq
       clear haq
       have hmx:vs.length+1≤maxLen:=by unfold maxLen;omega
       have hby:(vs.length+1)*40≤140737488355328:=by omega
       have hmul:q*4 ^ N≤2*4 ^ N:=Nat.mul_le_mul_right _ (by omega)
       have hmul1:(q+1)*4 ^ N=q*4 ^ N+4 ^ N:=by rw [Nat.add_mul];omega
       have zT:wr.drew.cell? ⟨D,2,none⟩=some (.slice kA vs.length kcap):=(KD.out.cell 2).trans (by simp)
       have zfT:wr.drew.frozen? ⟨D,2,none⟩=false:=KD.out.frozen 2
       have hkT:D<wr.drew.heap.size:=klt
       have hb7':b7<wr.drew.heap.size:=hb7w
       have hDg:D∉[g]:=HG1.out _ (by omega)
       have hb7g:b7∉[g]:=HG1.out _ (by omega)
       have hdw:IntKind.i64.wrap (dp-1)=dp-1:=IntWalk.i64_in _ (by omega)
       have HCd:=jj (HCw.out.drew)
       have HCALL:=jj (IH.out xs HW.out aq HA1.out.1 HA1.out.2.1 (dp-1) (by push_cast at hdp;omega) (by push_cast at hlo;omega) HA1.out.2.2 wr.drew pq g _ F _ H HRq.out.drew (by omega) (HX.out.mono (HCd.out.kept HF.out HGF.out) fun y _ cs G hk h=>DtR.mono y cs G hk h) (HF.out.mono HCd.out.size) HGf.out (HY.out.mono (HCd.out.kept HH.out HGH.out) fun _ _ _ _ _ h=>h) (HH.out.mono HCd.out.size) HGh.out)
       go_wp2_with fail
       refine zA9 (S:=fun w'=>w'.cell? ⟨b7,off7+q*2,none⟩=aq.d∧w'.cell? ⟨b7,off7+q*2+1,none⟩=aq.i) (T:=fun w'=>w'.cell? ⟨D,2,none⟩=some (.slice kA vs.length kcap)) (d:=13) (by kernel_rfl) ?_
       have hS1:wr.drew.cell? ⟨b7,off7+q*2,none⟩=aq.d∧wr.drew.cell? ⟨b7,off7+q*2+1,none⟩=aq.i:=⟨k0,k1⟩
       have hT1:wr.drew.cell? ⟨D,2,none⟩=some (.slice kA vs.length kcap):=zT
       refine wV 0 rfl hS1 hT1 ?_
       (try simp only [Act.put,zz4,zz5,zz6])
       refine zB5 (i:=1) (v:=?_) rfl (by decide) rfl (by kernel_rfl) (by kernel_rfl) (by kernel_rfl) (by kernel_rfl) (fun _ _ _ h=>h) (Or.inl ⟨by rfl,?hy1⟩) (by rfl) hS1 hT1 ?_
       case hy1=>(intro W hSw;(try dsimp only at hSw);(obtain ⟨⟨s0,s1⟩,tT⟩:=hSw);go_simp;try with_reducible rfl)
       (try simp only [Act.put,zz4,zz5,zz6])
       refine wV 2 rfl hS1 hT1 ?_
       (try simp only [Act.put,zz4,zz5,zz6])
       refine wV 3 rfl hS1 hT1 ?_
       (try simp only [Act.put,zz4,zz5,zz6])
       refine wV 4 rfl hS1 hT1 ?_
       (try simp only [Act.put,zz4,zz5,zz6])
       refine wV 5 rfl hS1 hT1 ?_
       (try simp only [Act.put,zz4,zz5,zz6])
       refine wV 6 rfl hS1 hT1 ?_
       (try simp only [Act.put,zz4,zz5,zz6])
       refine wV 7 rfl hS1 hT1 ?_
       (try simp only [Act.put,zz4,zz5,zz6])
       refine wV 8 rfl hS1 hT1 ?_
       (try simp only [Act.put,zz4,zz5,zz6])
       refine wV 9 rfl hS1 hT1 ?_
       (try simp only [Act.put,zz4,zz5,zz6])
       refine wV 10 rfl hS1 hT1 ?_
       (try simp only [Act.put,zz4,zz5,zz6])
       refine w1 11 rfl fun K hK=>?_
       go_simp
       go_at_call 67
       with_reducible refine HCALL.out.mono ?_
       rintro e wA ⟨vA,csA,FA,qA,rfl,hpA,hfsA,hnA,hvA,hRA,hqA,hbA⟩
       obtain ⟨kvA,rfl,haA⟩:=(VR_iff _ _ _).1 hpA
       obtain ⟨A8,cap8,rfl,-,-⟩:=haA.form
       clear haA
       have HBu:Hid (Chg [g] wr wA):=hbA.undrew
       have HPA:=jj hpA
       have HRA:=jj hRA
       have HNA:=jj hnA
       have HVA:=jj hvA
       have HFsA:Hid (∀ b∈FA,wr.heap.size≤b∧b<wA.heap.size):=fun b hb=>⟨(hfsA b hb).1,(hfsA b hb).2⟩
       have HOA:Hid (Own wA Bz 46 3 VR vs (.slice kA vs.length kcap) Fk):=HO.out.chg VR_mono' HBu.out (fun b hb=>by rw [zy1] at hb;omega) HFh.out
       have hbs:Bz≤wA.heap.size:=by have h1:=HBu.out.size;have h2:=HBZ.out;omega
       clear hpA hRA hnA hfsA hvA
       have hSA:wA.cell? ⟨b7,off7+q*2,none⟩=aq.d∧wA.cell? ⟨b7,off7+q*2+1,none⟩=aq.i:=⟨(hbA.cell (p:=⟨b7,off7+q*2,none⟩) hb7' hb7g).trans k0,(hbA.cell (p:=⟨b7,off7+q*2+1,none⟩) hb7' hb7g).trans k1⟩
       have zA:wA.cell? ⟨D,2,none⟩=some (.slice kA vs.length kcap):=(hbA.cell (p:=⟨D,2,none⟩) hkT hDg).trans zT
       have zfA:wA.frozen? ⟨D,2,none⟩=false:=(hbA.frozen hkT hDg).trans zfT
       have hkA:D<wA.heap.size:=zz9 hkT hbA.size
       have kl1:b7<wA.heap.size:=zz9 hb7' hbA.size
       have kl2:b7<wA.heap.size:=zz9 hb7' hbA.size
       have hSB:(wA.alloc (.cells [.int .i64 vA.c,.int .i64 vA.n,.slice A8 vA.ks.length cap8].toArray 46)).cell? ⟨b7,off7+q*2,none⟩=aq.d∧(wA.alloc (.cells [.int .i64 vA.c,.int .i64 vA.n,.slice A8 vA.ks.length cap8].toArray 46)).cell? ⟨b7,off7+q*2+1,none⟩=aq.i:=⟨(World.cell?_alloc_lt _ _ _ kl1).trans hSA.1,(World.cell?_alloc_lt _ _ _ kl2).trans hSA.2⟩
       dsimp only
       refine hK.out _ _ hSA (fun _=>zA) ?_
       clear hK K
       (try simp only [Act.put,zz4,zz5,zz6])
       refine w1 12 rfl fun K hK=>?_
       go_simp
       refine hK.out _ _ hSB (fun _=>(World.cell?_alloc_lt _ _ _ hkA).trans zA) ?_
       clear hK K
       (try simp only [Act.put,zz4,zz5,zz6])
       refine w1 13 rfl fun K hK=>?_
       refine step_push1 (P:=Try.prog) rfl _ _ 44 rfl v0 _ 40 Try.underlying44 HVI.out HV0.out HV1.out HV2.out rfl (by decide) VR_len' VR_mono' (by rfl) HOA.out vA 46 [vA.c,vA.n,.slice A8 vA.ks.length cap8] FA wA.heap.size (by rfl) rfl (by simp [Value.oneCell']) HPA.out (fun b hb=>(HFsA.out b hb).2) (fun g hg hG=>Nat.lt_irrefl _ (zz9 (HO.out.row g hg).2 (HFsA.out g hG).1)) hmx hby hbs ?_
       intro g cp w7 hown7 hgr7 hat7
       have hrow7:=HOA.out.row
       have n7:∀ x,(x<Bz∨wr.heap.size≤x)→some x≠(Value.ownBlock (.slice kA vs.length kcap)):=fun x hx e=>by
        have h1:=(hrow7 x (zA2.2 e.symm)).1
        have h2:=(HO.out.row x (zA2.2 e.symm)).2
        omega
       have l7:wA.heap.size≤(wA.alloc (.cells [.int .i64 vA.c,.int .i64 vA.n,.slice A8 vA.ks.length cap8].toArray 46)).heap.size:=by rw [World.size_alloc];exact Nat.le_succ _
       have s7:w7.cell? ⟨b7,off7+q*2,none⟩=aq.d∧w7.cell? ⟨b7,off7+q*2+1,none⟩=aq.i:=⟨(World.grownBy.cell_far hgr7 ⟨b7,off7+q*2,none⟩ (zz9 kl1 l7) (n7 (b7) (by omega))).trans hSB.1,(World.grownBy.cell_far hgr7 ⟨b7,off7+q*2+1,none⟩ (zz9 kl2 l7) (n7 (b7) (by omega))).trans hSB.2⟩
       have z71:w7.cell? ⟨D,2,none⟩=some (.slice kA vs.length kcap):=(World.grownBy.cell_far hgr7 ⟨D,2,none⟩ (zz9 hkA l7) (n7 (D) (by omega))).trans ((World.cell?_alloc_lt _ _ _ hkA).trans zA)
       have zf71:w7.frozen? ⟨D,2,none⟩=false:=(World.grownBy.frozen_far hgr7 ⟨D,2,none⟩ (zz9 hkA l7) (n7 (D) (by omega))).trans (Eq.trans (World.frozen?_of_block (Below.heap_alloc _ _ _ hkA)) zfA)
       refine hK.out _ _ s7 (fun h=>by cases h) ?_
       clear hK K
       (try simp only [Act.put,zz4,zz5,zz6])
       refine wU (i:=14) (v:=?_) rfl (Or.inl ⟨by rfl,?hy14⟩) s7 (fun h=>by cases h) ?_
       case hy14=>(intro W hSw;(try dsimp only at hSw);(obtain ⟨s0,s1⟩:=hSw);go_simp;try with_reducible rfl)
       (try simp only [Act.put,zz4,zz5,zz6])
       refine w1 15 rfl fun K hK=>?_
       go_simp
       refine hK.out _ _ ⟨(World.cell?_setCell_far _ _ _ _ (by show D≠b7;omega)).trans s7.1,(World.cell?_setCell_far _ _ _ _ (by show D≠b7;omega)).trans s7.2⟩ (fun h=>by cases h) ?_
       clear hK K
       (try simp only [Act.put,zz4,zz5,zz6])
       refine wE (by kernel_rfl) ?_
       obtain ⟨r1,r2,r3,r4,r5,r6,r7⟩:=kid_round3 (w:=w) 2 VR_mono' HBZ.out.symm hDB hgl (by omega) KD.out HO.out HFh.out HC.out HCw.out HBu.out HFsA.out hown7 hgr7 HRA.out
       have R1:=jj r1
       have R2:=jj r2
       have R3:=jj r3
       have R4:=jj r4
       have R5:=jj r5
       have R7:=jj r7
       have HV2:Hid ((vs ++ [vA]).length=q+1):=by have:=HVL.out;unfold Hid;rw [List.length_append];simp only [List.length_cons,List.length_nil];omega
       have HS2:Hid (V.sizes (vs ++ [vA])≤(q+1)*4 ^ N):=sizes_snoc' vs vA q _ HVS.out HNA.out
       have HZ2:Hid (zipAll (fitsV xs N) (ls.take (q+1)) (vs ++ [vA])=true):=by
        have e:ls.take (q+1)=ls.take q ++ [ls[q]]:=by rw [List.take_succ_eq_append_getElem hil]
        unfold Hid
        rw [e,←HAQ.out]
        exact zipAll_snoc _ _ _ _ (by rw [List.length_take,HVL.out];omega) HVZ.out HVA.out
       clear r1 r2 r3 r4 r5 r7 hown7 hgr7 hat7 hrow7 n7 l7 s7 z71 zf71 hSA zA zfA hkA hSB hS1 hT1 zT zfT hkT HCALL
       go_wp2
       go_roundw
       case rel=>exact ⟨q+1,_,_,vs ++ [vA],qA,hil,by go_num,HV2,HS2,HZ2,R1,(by rw [show (vs ++ [vA]).length=vs.length+1 from by rw [List.length_append];rfl] at *;exact R2),R3,R4,R5,r6,R7,by omega⟩
       case measure=>(simp [intOf] <;> omega)
      ·have hq:q=ls.length:=by omega
       have HFT:Hid (fitsV xs (N+1) ⟨(d:Int),(i:Int)⟩ ⟨(m:Int),0,vs⟩=true):=by
        unfold Hid
        rw [fitsV_data (by show ¬((d:Int) = -1);omega)]
        have h1:=(hasB_iff _ _).2 HGM.out.1
        have h2:=HVL.out
        have h3:=HVZ.out
        rw [hq,List.take_length] at h3
        show ((0:Int)==0 && (hasB (ctorsL xs ⟨(d:Int),(i:Int)⟩) (m:Int) && (decide (vs.length=(argsOf xs ⟨(d:Int),(i:Int)⟩ (m:Int)).length) && zipAll (fitsV xs N) (argsOf xs ⟨(d:Int),(i:Int)⟩ (m:Int)) vs)))=true
        rw [h1,HLS.out,h3,h2,hq]
        simp
       obtain ⟨FF,hf1,hf3⟩:=kid_done3 (H:=Bz) HO.out HFh.out (zz8 _)
       have HF1:=jj hf1
       have HF3:=jj hf3
       have e0:=(KD.out.cell 0).trans (show _=some (.int .i64 (m:Int)) from by simp)
       have e1:=(KD.out.cell 1).trans (show _=some (.int .i64 0) from by simp)
       have e2:=(KD.out.cell 2).trans (show _=some (.slice kA vs.length kcap) from by simp)
       have RR:=jj (KR9.out.same (HC.out.block _ KR9.out.lt (by intro h;rcases List.mem_cons.1 h with h2 | h2;omega;rw [zy1] at h2;omega)))
       have hmul:q*4 ^ N≤3*4 ^ N:=Nat.mul_le_mul_right _ (by omega)
       have HPQ:Hid (pq≤p+4 ^ (N+1)):=by unfold Hid;omega
       have HSZ:Hid (nodes ⟨(m:Int),0,vs⟩≤4 ^ (N+1)):=by have:=HVS.out;unfold Hid nodes;rw [V.size];omega
       have rc0:=(RR.out.cell 0).trans (show _=some (.int .i64 0) from by simp)
       have rf0:=RR.out.frozen 0
       have rc1:=(RR.out.cell 1).trans (show _=some (.int .i64 0) from by simp)
       have rf1:=RR.out.frozen 1
       have rc2:=(RR.out.cell 2).trans (show _=some (.slice none 0 0) from by simp)
       have rf2:=RR.out.frozen 2
       have rlt:=RR.out.lt
       clear hf1 hf3 hq
       go_wp2
       clear e0 e1 e2 rc0 rf0 rc1 rf1 rc2 rf2 rlt
       refine bodyPost_ret (zA1 rfl _ _ (w.heap.size+1) 46 #[(m:Int),(0:Int),.slice kA vs.length kcap] (0,0) _ rfl (RR.out.three _ _ _) Try.underlying46 rfl rfl) rfl ?_
       have hkp:Kept FF wr _:=kept_three (w:=wr) (H:=w.heap.size+1) (fun b hb=>by have:=(HF3.out b hb).1;omega) (.int .i64 (m:Int)) (.int .i64 0) (.slice kA vs.length kcap)
       refine ⟨⟨(m:Int),0,vs⟩,[(m:Int),(0:Int),.slice kA vs.length kcap],FF,pq,rfl,(VR_iff _ _ _).2 ⟨_,rfl,ArrV.mono HF1.out hkp⟩,fun b hb=>⟨by have:=(HF3.out b hb).1;omega,by rw [size_three];exact (HF3.out b hb).2⟩,HSZ.out,HFT.out,?_,HPQ.out,((HCw.out.set_new (by omega)).set_new (by omega)).set_new (by omega)⟩
       exact HRq.out.keep fun b hb=>by rw [zz7 _ _ _ _ (by show b≠w.heap.size+1;omega),zz7 _ _ _ _ (by show b≠w.heap.size+1;omega),zz7 _ _ _ _ (by show b≠w.heap.size+1;omega)]
def DrewTypedF (p n g:Nat) (w:World) (e:Ending) (w':World):Prop:=∃ (xs:List Dt) (v:Value) (F:List Nat) (t:Ty) (a:V) (cs:List Value) (G:List Nat) (q:Nat),e=.returned (.tuple #[v,.agg #[t.d,t.i],.agg cs.toArray])∧TypedOk xs t∧Arr w' (DtR w') xs v F∧Fresh w w' F∧VR w' a cs G∧Fresh w w' G∧nodes a≤256∧fitsV xs 4 t a=true∧Rd w' g q∧q≤p+n∧Chg [g] w w'
theorem spec_l2TypedF (p g:Nat) (w:World) (h:Rd w g p) (hp:p≤800000) :
  Calls Try.prog 44 #[.pointer (some ⟨g,0,none⟩)] w (DrewTypedF p 300 g w):=by
 have hgl:=h.lt
 have hB0:Below w w ((w.alloc (.cells #[(0:Int),(0:Int)] 25)).alloc (.cells #[(0:Int),(0:Int),.slice none 0 0] 46)):=((zy2 _ _).alloc (zz8 _) _).alloc (by simp) _
 have HR0:Hid (Rd ((w.alloc (.cells #[(0:Int),(0:Int)] 25)).alloc (.cells #[(0:Int),(0:Int),.slice none 0 0] 46)) g p):=h.below hB0
 have KT0:Hid (Blk ((w.alloc (.cells #[(0:Int),(0:Int)] 25)).alloc (.cells #[(0:Int),(0:Int),.slice none 0 0] 46)) w.heap.size 25 #[(0:Int),(0:Int)]):=(Blk.new w _ _).same (Below.heap_alloc _ _ _ (by simp))
 have KV0:Hid (Blk ((w.alloc (.cells #[(0:Int),(0:Int)] 25)).alloc (.cells #[(0:Int),(0:Int),.slice none 0 0] 46)) (w.heap.size+1) 46 #[(0:Int),(0:Int),.slice none 0 0]):=zA8 w _ 46 _
 have hz0:((w.alloc (.cells #[(0:Int),(0:Int)] 25)).alloc (.cells #[(0:Int),(0:Int),.slice none 0 0] 46)).heap.size=w.heap.size+2:=by simp
 clear h
 go_enter Try.func44,Try.ntmps44
 go_wp2_with fail
 obtain ⟨w2,hw2⟩:∃ X,X=((w.alloc (.cells #[(0:Int),(0:Int)] 25)).alloc (.cells #[(0:Int),(0:Int),.slice none 0 0] 46)):=⟨_,rfl⟩
 rw [←hw2] at hB0 HR0 KT0 KV0 hz0 ⊢
 clear hw2
 refine (spec_l1WorldQ (fun xs=>worldOk xs=true∧0<xs.length∧smallTab xs=true) (fun t ht=>seven_small ht) p g w2 HR0.out (by omega)).mono ?_
 rintro e w3 ⟨xs,v3,FA,q3,rfl,⟨hok,hpos,hsm⟩,ha3,hfs3,hR3,hq3,hC3⟩
 have HW:=jj (worldOK hok)
 have HOKW:=jj hok
 have HSM:=jj hsm
 have HFA2:Hid (∀ b∈FA,w.heap.size+2≤b):=fun b hb=>by have:=(hfs3 b hb).1;omega
 have HGA:Hid (∀ b∈FA,b∉[g]):=fun b hb h=>by rw [zy1] at h;have:=(hfs3 b hb).1;omega
 have KT3:=jj (KT0.out.same (hC3.block _ KT0.out.lt (by rw [zy1];omega)))
 have KV3:=jj (KV0.out.same (hC3.block _ KV0.out.lt (by rw [zy1];omega)))
 have HC3:Hid (Chg [g] w w3):=(Chg.of_below hB0).trans hC3
 have HA3:=jj ha3
 have HU3:=jj hfs3.under
 have HR3:=jj hR3
 have hlen:=HW.out.len
 have hz3:=hC3.size
 obtain ⟨A1,cap1,rfl,hc1,hc2⟩:=ha3.form
 clear hok hsm ha3 hfs3 hR3 hC3 KT0 KV0 HR0 hB0
 go_wp2_with fail
 refine (spec_l1Table xs HW.out w3 _ FA HA3.out HU3.out).mono ?_
 rintro e w4 ⟨u4,HT,rfl,hb4,hy4,-,hfs4⟩
 have KT4:=jj (KT3.out.same (hb4.block _ KT3.out.lt))
 have KV4:=jj (KV3.out.same (hb4.block _ KV3.out.lt))
 have HC4:Hid (Chg [g] w w4):=HC3.out.step hb4
 have HA4:=jj (ArrDt.below HA3.out hb4 HU3.out)
 have HU4:=jj (HU3.out.mono hb4.size)
 have HY4:=jj hy4
 have HYU4:=jj hfs4.under
 have HGT:Hid (∀ b∈HT,b∉[g]):=fun b hb h=>by rw [zy1] at h;have:=(hfs4 b hb).1;omega
 have HR4:=jj (HR3.out.below hb4)
 have hz4:=hb4.size
 obtain ⟨U4,ucap,rfl,hu1,hu2⟩:=hy4.form
 clear hy4 hfs4 hb4 KT3 KV3 HC3 HA3 HU3 HR3
 go_wp2_with fail
 refine (zAH xs.length q3 g w4 HR4.out (by omega) (by omega) (by omega)).mono ?_
 rintro e w5 ⟨r,rfl,hr,hR5,hC5⟩
 have HR5:=jj hR5
 have HC5:=jj hC5
 clear hR5 hC5
 go_wp2_with fail
 refine (num_lit [0,0,1,2] (by decide) (by decide) (q3+1) g w5 HR5.out (by omega)).mono ?_
 rintro e w6 ⟨x,hx,rfl,hR6,hC6⟩
 have hx2:0≤x∧x≤2:=by
  simp only [List.mem_cons,List.mem_nil_iff,or_false] at hx
  omega
 have hC46:=HC5.out.trans hC6
 have HG1:Hid (∀ b,g<b→b∉[g]):=fun b hb h=>by rw [zy1] at h;omega
 have KT6:=jj (KT4.out.same (hC46.block _ KT4.out.lt (HG1.out _ hgl)))
 have KV6:=jj (KV4.out.same (hC46.block _ KV4.out.lt (HG1.out _ (by omega))))
 have HC6:=jj (HC4.out.trans hC46)
 have HA6:=jj (ArrDt.mono HA4.out (hC46.kept HU4.out HGA.out))
 have HU6:=jj (HU4.out.mono hC46.size)
 have HY6:=jj (ArrNat.kept HY4.out (hC46.kept HYU4.out HGT.out))
 have HYU6:=jj (HYU4.out.mono hC46.size)
 have HR6:=jj hR6
 have hz6:=hC46.size
 clear hx hC46 hR6 hC6 HR5 HC5 KT4 KV4 HC4 HA4 HU4 HY4 HYU4 HR4
 go_wp2_with fail
 obtain ⟨w7,hw7⟩:∃ X,X=w6.alloc (.cells #[(r:Int),.int .i64 x] 25):=⟨_,rfl⟩
 have hb7:Below w6 w6 w7:=by rw [hw7];exact (zy2 _ _).alloc (zz8 _) _
 have K7:Hid (Blk w7 w6 25 #[(r:Int),.int .i64 x]):=by rw [hw7];exact Blk.new _ _ _
 rw [←hw7]
 clear hw7
 obtain ⟨k7,hk7⟩:∃ X,X=w6.heap.size:=⟨_,rfl⟩
 rw [←hk7] at K7 ⊢
 have hk7w:w.heap.size+2≤k7:=by omega
 obtain ⟨x2,rfl⟩:∃ n:Nat,x=(n:Int):=⟨x.toNat,by omega⟩
 have HTI:Hid (TyIn xs.length ⟨(r:Int),(x2:Int)⟩):=.inr ⟨r,x2,rfl,hr,by omega⟩
 have KT7:=jj (KT6.out.same (hb7.block _ KT6.out.lt))
 have KV7:=jj (KV6.out.same (hb7.block _ KV6.out.lt))
 have HC7:=jj (HC6.out.step hb7)
 have HA7:=jj (ArrDt.below HA6.out hb7 HU6.out)
 have HU7:=jj (HU6.out.mono hb7.size)
 have HY7:=jj (ArrNat.below HY6.out hb7 HYU6.out)
 have HYU7:=jj (HYU6.out.mono hb7.size)
 have HR7:=jj (HR6.out.below hb7)
 have HK7A:Hid (∀ b∈FA,b≠k7):=fun b hb e=>by have:=HU6.out b hb;omega
 have HK7T:Hid (∀ b∈HT,b≠k7):=fun b hb e=>by have:=HYU6.out b hb;omega
 clear hb7 hk7 KT6 KV6 HC6 HA6 HU6 HY6 HYU6 HR6
 refine (spec_l1Depth xs.length HW.out.len (tableL xs) (tableL_small HW.out) ⟨(r:Int),(x2:Int)⟩ HTI.out w7 _ HT HY7.out HYU7.out).mono ?_
 rintro e w7' ⟨rfl,hb8⟩
 have KTR:=jj (KT7.out.same (hb8.block _ KT7.out.lt))
 have KVR:=jj (KV7.out.same (hb8.block _ KV7.out.lt))
 have HC8:=jj (HC7.out.step hb8)
 have HA8:=jj (ArrDt.below HA7.out hb8 HU7.out)
 have HU8:=jj (HU7.out.mono hb8.size)
 have HTT:=jj (ArrNat.below HY7.out hb8 HYU7.out)
 have HTU:=jj (HYU7.out.mono hb8.size)
 have HR8:=jj (HR7.out.below hb8)
 have K8:=jj (K7.out.same (hb8.block _ K7.out.lt))
 clear hb8 KT7 KV7 HC7 HA7 HU7 HY7 HYU7 HR7 K7
 obtain ⟨w7,hw7⟩:∃ X,X=w7':=⟨_,rfl⟩
 rw [←hw7] at KTR KVR HC8 HA8 HU8 HTT HTU HR8 K8 ⊢
 clear hw7
 have HC7:=HC8
 have HA7:=HA8
 have HU7:=HU8
 have HR7:=HR8
 have K7:=K8
 clear HC8 HA8 HU8 HR8 K8
 obtain ⟨p7,hp7⟩:∃ n,n=q3+1+1:=⟨_,rfl⟩
 rw [←hp7] at HR7
 obtain ⟨de,hde⟩:∃ n,n=depthIn (tableL xs) ⟨(r:Int),(x2:Int)⟩:=⟨_,rfl⟩
 rw [←hde]
 have HDE:=jj hde
 clear hde
 cases q0:(de==0) with
 |false =>
  have HOK:Hid (TypedOk xs ⟨(r:Int),(x2:Int)⟩):=⟨HOKW.out,hpos,HSM.out,by simp only [typeOkB,withinB];rw [if_neg (by omega),decide_eq_true (show (0:Int)≤(r:Int) from by omega),decide_eq_true (show (r:Int)≤(xs.length:Int)-1 from by omega),decide_eq_true (show (0:Int)≤(x2:Int) from by omega),decide_eq_true (show (x2:Int)≤3 from by omega)];rfl,by rw [←HDE.out];simpa using q0⟩
  have q0:w7.cell? ⟨k7,0,none⟩=(r:Int):=(K7.out.cell 0).trans (by simp)
  have q1:w7.cell? ⟨k7,1,none⟩=(x2:Int):=(K7.out.cell 1).trans (by simp)
  have qlt:=K7.out.lt
  go_wp2_with fail
  refine zA9 (S:=fun w'=>w'.cell? ⟨k7,0,none⟩=(r:Int)∧w'.cell? ⟨k7,1,none⟩=(x2:Int)) (T:=fun _=>True) (d:=99) (by kernel_rfl) ?_
  have hS1:w7.drew.cell? ⟨k7,0,none⟩=(r:Int)∧w7.drew.cell? ⟨k7,1,none⟩=(x2:Int):=⟨q0,q1⟩
  have hT1:True:=trivial
  clear q0 q1
  refine wV 0 rfl hS1 hT1 ?_
  (try simp only [zz])
  refine wV 1 rfl hS1 hT1 ?_
  (try simp only [zz])
  refine wV 2 rfl hS1 hT1 ?_
  (try simp only [zz])
  refine wV 3 rfl hS1 hT1 ?_
  (try simp only [zz])
  refine wV 4 rfl hS1 hT1 ?_
  (try simp only [zz])
  refine wV 5 rfl hS1 hT1 ?_
  (try simp only [zz])
  refine wV 6 rfl hS1 hT1 ?_
  (try simp only [zz])
  refine w1 7 rfl fun K hK=>?_
  have hbl:Below w7 w7 (w7.drew.alloc (.cells ([3,2,4,1].map (Value.int .i64)).toArray 3)):=(zy2 _ _).drew.alloc (zz8 _) _
  have hS2:(w7.drew.alloc (.cells ([3,2,4,1].map (Value.int .i64)).toArray 3)).cell? ⟨k7,0,none⟩=(r:Int)∧(w7.drew.alloc (.cells ([3,2,4,1].map (Value.int .i64)).toArray 3)).cell? ⟨k7,1,none⟩=(x2:Int):=⟨(hbl.cell (p:=⟨k7,0,none⟩) qlt).trans hS1.1,(hbl.cell (p:=⟨k7,1,none⟩) qlt).trans hS1.2⟩
  go_simp
  (try dsimp only)
  refine hK.out _ _ hS2 (fun _=>trivial) ?_
  clear hK K
  (try simp only [zz])
  refine w1 8 rfl fun K hK=>?_
  go_simp
  go_at_call 35
  refine (num_lit [3,2,4,1] (by decide) (by decide) p7 g w7.drew HR7.out.drew (by omega)).mono ?_
  rintro e w8 ⟨dp,hdp,rfl,hR8,hC8⟩
  have hdp4:1≤dp∧dp≤4:=by
   simp only [List.mem_cons,List.mem_nil_iff,or_false] at hdp
   omega
  have hC8u:Chg [g] w7 w8:=hC8.undrew
  have k7g:k7∉[g]:=by rw [zy1];omega
  have hS3:w8.cell? ⟨k7,0,none⟩=(r:Int)∧w8.cell? ⟨k7,1,none⟩=(x2:Int):=⟨(hC8u.cell (p:=⟨k7,0,none⟩) qlt k7g).trans hS1.1,(hC8u.cell (p:=⟨k7,1,none⟩) qlt k7g).trans hS1.2⟩
  have HR8:=jj hR8
  clear hdp hR8
  (try dsimp only)
  refine hK.out _ _ hS3 (fun _=>trivial) ?_
  clear hK K
  (try simp only [zz])
  refine w1 9 rfl fun K hK=>?_
  have HC8:=jj (HC7.out.trans hC8u)
  have HA8:=jj (ArrDt.mono HA7.out (hC8u.kept HU7.out HGA.out))
  have HU8:=jj (HU7.out.mono hC8u.size)
  have HT8:=jj (ArrNat.kept HTT.out (hC8u.kept HTU.out HGT.out))
  have HTU8:=jj (HTU.out.mono hC8u.size)
  have hz8:=hC8u.size
  go_simp
  go_at_call 67
  refine (spec_l2DrawF 4 (by omega) xs HW.out ⟨(r:Int),(x2:Int)⟩ (zB4 HOK.out.ty) HOK.out.dep dp (by omega) (by omega) (depth_small HOK.out.small _) w8 (p7+1) g _ FA _ HT HR8.out (by rw [pow44];omega) HA8.out HU8.out (fun h=>HGA.out g h (by simp)) HT8.out HTU8.out (fun h=>HGT.out g h (by simp))).mono ?_
  rintro e w10 ⟨vA,csA,GA,q10,rfl,hpA,hfsA,hnA,hvF,hR10,hq10,hC10⟩
  obtain ⟨kvA,rfl,haA⟩:=(VR_iff _ _ _).1 hpA
  obtain ⟨A8,cap8,rfl,-,-⟩:=haA.form
  have k7g':k7∉[g]:=k7g
  have hS4:w10.cell? ⟨k7,0,none⟩=(r:Int)∧w10.cell? ⟨k7,1,none⟩=(x2:Int):=⟨(hC10.cell (p:=⟨k7,0,none⟩) (zz9 qlt hz8) k7g').trans hS3.1,(hC10.cell (p:=⟨k7,1,none⟩) (zz9 qlt hz8) k7g').trans hS3.2⟩
  have KT10:=jj (KTR.out.same ((hC8u.trans hC10).block _ KTR.out.lt (by rw [zy1];omega)))
  have KV10:=jj (KVR.out.same ((hC8u.trans hC10).block _ KVR.out.lt (by rw [zy1];omega)))
  have HC10:=jj (HC8.out.trans hC10)
  have HA10:=jj (ArrDt.mono HA8.out (hC10.kept HU8.out HGA.out))
  have HU10:=jj (HU8.out.mono hC10.size)
  have HPA:=jj hpA
  have HFA:Hid (∀ b∈GA,w.heap.size+2≤b∧b<w10.heap.size):=fun b hb=>⟨by have:=(hfsA b hb).1;omega,(hfsA b hb).2⟩
  have HNA:=jj hnA
  have HVF:=jj hvF
  have HR10:=jj hR10
  have hk7:=hk7w
  have HK0:Hid (w.heap.size≠k7):=by unfold Hid;omega
  have HK1:Hid (w.heap.size+1≠k7):=by unfold Hid;omega
  have x0:w10.cell? ⟨w,0,none⟩=some (.int .i64 0):=(KT10.out.cell 0).trans (by simp)
  have x1:w10.cell? ⟨w,1,none⟩=some (.int .i64 0):=(KT10.out.cell 1).trans (by simp)
  have xf0:=KT10.out.frozen 0
  have xf1:=KT10.out.frozen 1
  have xlt:=KT10.out.lt
  have z0:w10.cell? ⟨w.heap.size+1,0,none⟩=some (.int .i64 0):=(KV10.out.cell 0).trans (by simp)
  have z1:w10.cell? ⟨w.heap.size+1,1,none⟩=some (.int .i64 0):=(KV10.out.cell 1).trans (by simp)
  have z2:w10.cell? ⟨w.heap.size+1,2,none⟩=some (.slice none 0 0):=(KV10.out.cell 2).trans (by simp)
  have zf0:=KV10.out.frozen 0
  have zf1:=KV10.out.frozen 1
  have zf2:=KV10.out.frozen 2
  have zlt:=KV10.out.lt
  have HS4:=jj hS4
  have hs10:∀ b,b≠w.heap.size→b≠w.heap.size+1→(((((w10.setCell ⟨w,0,none⟩ (.int .i64 (r:Int))).setCell ⟨w,1,none⟩ (.int .i64 (x2:Int))).setCell ⟨w.heap.size+1,0,none⟩ (.int .i64 vA.c)).setCell ⟨w.heap.size+1,1,none⟩ (.int .i64 vA.n)).setCell ⟨w.heap.size+1,2,none⟩ (.slice A8 vA.ks.length cap8)).heap[b]?=w10.heap[b]?:=fun b h1 h2=>by
   rw [zz7 _ _ _ _ (by show b≠_;exact h2),zz7 _ _ _ _ (by show b≠_;exact h2),zz7 _ _ _ _ (by show b≠_;exact h2),zz7 _ _ _ _ (by show b≠_;exact h1),zz7 _ _ _ _ (by show b≠_;exact h1)]
  have HKE:Hid (∀ F:List Nat,(∀ b∈F,w.heap.size+2≤b)→Kept F w10 (((((w10.setCell ⟨w,0,none⟩ (.int .i64 (r:Int))).setCell ⟨w,1,none⟩ (.int .i64 (x2:Int))).setCell ⟨w.heap.size+1,0,none⟩ (.int .i64 vA.c)).setCell ⟨w.heap.size+1,1,none⟩ (.int .i64 vA.n)).setCell ⟨w.heap.size+1,2,none⟩ (.slice A8 vA.ks.length cap8))):=fun F hF b hb=>hs10 b (by have:=hF b hb;omega) (by have:=hF b hb;omega)
  have hsz:(((((w10.setCell ⟨w,0,none⟩ (.int .i64 (r:Int))).setCell ⟨w,1,none⟩ (.int .i64 (x2:Int))).setCell ⟨w.heap.size+1,0,none⟩ (.int .i64 vA.c)).setCell ⟨w.heap.size+1,1,none⟩ (.int .i64 vA.n)).setCell ⟨w.heap.size+1,2,none⟩ (.slice A8 vA.ks.length cap8)).heap.size=w10.heap.size:=by simp [World.setCell]
  have KTe:Hid (Blk (((((w10.setCell ⟨w,0,none⟩ (.int .i64 (r:Int))).setCell ⟨w,1,none⟩ (.int .i64 (x2:Int))).setCell ⟨w.heap.size+1,0,none⟩ (.int .i64 vA.c)).setCell ⟨w.heap.size+1,1,none⟩ (.int .i64 vA.n)).setCell ⟨w.heap.size+1,2,none⟩ (.slice A8 vA.ks.length cap8)) w.heap.size 25 #[(r:Int),(x2:Int)]):=(((KT10.out.set_ 0 _).set_ 1 _).same (by rw [zz7 _ _ _ _ (by show w.heap.size≠w.heap.size+1;omega),zz7 _ _ _ _ (by show w.heap.size≠w.heap.size+1;omega),zz7 _ _ _ _ (by show w.heap.size≠w.heap.size+1;omega)]))
  have KVe:Hid (Blk (((((w10.setCell ⟨w,0,none⟩ (.int .i64 (r:Int))).setCell ⟨w,1,none⟩ (.int .i64 (x2:Int))).setCell ⟨w.heap.size+1,0,none⟩ (.int .i64 vA.c)).setCell ⟨w.heap.size+1,1,none⟩ (.int .i64 vA.n)).setCell ⟨w.heap.size+1,2,none⟩ (.slice A8 vA.ks.length cap8)) (w.heap.size+1) 46 #[vA.c,vA.n,.slice A8 vA.ks.length cap8]):=(((KV10.out.same (by rw [zz7 _ _ _ _ (by show w.heap.size+1≠w.heap.size;omega),zz7 _ _ _ _ (by show w.heap.size+1≠w.heap.size;omega)])).set_ 0 _).set_ 1 _).set_ 2 _
  have hCe:Chg [g] w (((((w10.setCell ⟨w,0,none⟩ (.int .i64 (r:Int))).setCell ⟨w,1,none⟩ (.int .i64 (x2:Int))).setCell ⟨w.heap.size+1,0,none⟩ (.int .i64 vA.c)).setCell ⟨w.heap.size+1,1,none⟩ (.int .i64 vA.n)).setCell ⟨w.heap.size+1,2,none⟩ (.slice A8 vA.ks.length cap8)):=((((HC10.out.set_new (zz8 _)).set_new (zz8 _)).set_new (by omega)).set_new (by omega)).set_new (by omega)
  have HFin:Hid (DrewTypedF p 300 g w (.returned (.tuple #[.slice A1 xs.length cap1,.agg #[(r:Int),(x2:Int)],.agg #[vA.c,vA.n,.slice A8 vA.ks.length cap8]])) (((((w10.setCell ⟨w,0,none⟩ (.int .i64 (r:Int))).setCell ⟨w,1,none⟩ (.int .i64 (x2:Int))).setCell ⟨w.heap.size+1,0,none⟩ (.int .i64 vA.c)).setCell ⟨w.heap.size+1,1,none⟩ (.int .i64 vA.n)).setCell ⟨w.heap.size+1,2,none⟩ (.slice A8 vA.ks.length cap8))) :=
   ⟨xs,_,FA,⟨(r:Int),(x2:Int)⟩,vA,[vA.c,vA.n,.slice A8 vA.ks.length cap8],GA,q10,rfl,HOK.out,ArrDt.mono HA10.out (HKE.out _ HFA2.out),fun b hb=>⟨by have:=HFA2.out b hb;omega,by rw [hsz];exact HU10.out b hb⟩,VR.mono _ _ _ (HKE.out _ (fun b hb=>(HFA.out b hb).1)) HPA.out,fun b hb=>⟨by have:=(HFA.out b hb).1;omega,by rw [hsz];exact (HFA.out b hb).2⟩,(by have:=HNA.out;rwa [pow44] at this),HVF.out,HR10.out.keep (fun b hb=>hs10 b (by omega) (by omega)),by rw [pow44] at hq10;omega,hCe⟩
  clear hpA hfsA hnA hvF hR10 hC10 haA hs10 hsz hCe hC8 hC8u KT10 KV10 HA8 HU8 HT8 HTU8
  (try dsimp only)
  refine hK.out _ _ HS4.out (fun _=>trivial) ?_
  clear hK K
  (try simp only [zz])
  refine w1 10 rfl fun K hK=>?_
  go_simp
  (try dsimp only)
  refine hK.out _ _ HS4.out (fun _=>trivial) ?_
  clear hK K
  (try simp only [zz])
  refine w1 11 rfl fun K hK=>?_
  go_simp
  (try dsimp only)
  refine hK.out _ _ ⟨(World.cell?_setCell_far _ _ _ _ (by exact HK0.out)).trans ((World.cell?_setCell_far _ _ _ _ (by exact HK0.out)).trans (HS4.out.1)),(World.cell?_setCell_far _ _ _ _ (by exact HK0.out)).trans ((World.cell?_setCell_far _ _ _ _ (by exact HK0.out)).trans (HS4.out.2))⟩ (fun _=>trivial) ?_
  clear hK K
  (try simp only [zz])
  refine w1 12 rfl fun K hK=>?_
  go_simp
  (try dsimp only)
  refine hK.out _ _ ⟨(World.cell?_setCell_far _ _ _ _ (by exact HK1.out)).trans ((World.cell?_setCell_far _ _ _ _ (by exact HK1.out)).trans ((World.cell?_setCell_far _ _ _ _ (by exact HK1.out)).trans ((World.cell?_setCell_far _ _ _ _ (by exact HK0.out)).trans ((World.cell?_setCell_far _ _ _ _ (by exact HK0.out)).trans (HS4.out.1))))),(World.cell?_setCell_far _ _ _ _ (by exact HK1.out)).trans ((World.cell?_setCell_far _ _ _ _ (by exact HK1.out)).trans ((World.cell?_setCell_far _ _ _ _ (by exact HK1.out)).trans ((World.cell?_setCell_far _ _ _ _ (by exact HK0.out)).trans ((World.cell?_setCell_far _ _ _ _ (by exact HK0.out)).trans (HS4.out.2)))))⟩ (fun _=>trivial) ?_
  clear hK K
  (try simp only [zz])
  refine wE (by kernel_rfl) ?_
  clear hS1 hS2 hS3 hS4 hT1 x0 x1 xf0 xf1 z0 z1 z2 zf0 zf1 zf2 xlt zlt hbl
  go_wp2
  refine bodyPost_ret (zAR rfl _ _ w.heap.size (w.heap.size+1) 25 46 #[(r:Int),(x2:Int)] #[vA.c,vA.n,.slice A8 vA.ks.length cap8] (0,0) (0,0) _ _ rfl KTe.out Try.underlying25 rfl rfl rfl KVe.out Try.underlying46 rfl rfl) rfl ?_
  exact HFin.out
 |true =>
  have HOK:Hid (TypedOk xs ⟨-1,0⟩):=⟨HOKW.out,hpos,HSM.out,by unfold typeOkB;rw [if_pos rfl];rfl,by rw [depthIn_int rfl];decide⟩
  have a0:w7.cell? ⟨k7,0,none⟩=(r:Int):=(K7.out.cell 0).trans (by simp)
  have a1:w7.cell? ⟨k7,1,none⟩=(x2:Int):=(K7.out.cell 1).trans (by simp)
  have af0:=K7.out.frozen 0
  have af1:=K7.out.frozen 1
  have alt:=K7.out.lt
  go_wp2_with fail
  clear a0 a1 af0 af1
  obtain ⟨wz,hwz⟩:∃ X,X=(w7.setCell ⟨k7,0,none⟩ (.int .i64 (-1))).setCell ⟨k7,1,none⟩ (.int .i64 0):=⟨_,rfl⟩
  have hkz:∀ b,b≠k7→wz.heap[b]?=w7.heap[b]?:=fun b hb=>by rw [hwz,zz7 _ _ _ _ (by show b≠_;exact hb),zz7 _ _ _ _ (by show b≠_;exact hb)]
  have hsz:wz.heap.size=w7.heap.size:=by rw [hwz];simp [World.setCell]
  have K7z:Hid (Blk wz k7 25 #[.int .i64 (-1),(0:Int)]):=by rw [hwz];exact (K7.out.set_ 0 _).set_ 1 _
  have HCz:Hid (Chg [g] w wz):=by rw [hwz];exact (HC7.out.set_new (by omega)).set_new (by omega)
  rw [←hwz]
  clear hwz
  have KTz:=jj (KTR.out.same (hkz _ (by omega)))
  have KVz:=jj (KVR.out.same (hkz _ (by omega)))
  have HAz:=jj (ArrDt.mono HA7.out (fun b hb=>hkz b (HK7A.out b hb)))
  have HUz:Hid (Under wz FA):=by rw [hsz];exact HU7.out
  have HTz:=jj (ArrNat.kept HTT.out (fun b hb=>hkz b (HK7T.out b hb)))
  have HTUz:Hid (Under wz HT):=by rw [hsz];exact HTU.out
  have HRz:=jj (HR7.out.keep (fun b hb=>hkz b (by omega)))
  clear KTR KVR HA7 HU7 HTT HTU HR7 K7 HC7 hkz hsz alt
  obtain ⟨w7o,hw7o⟩:∃ X,X=w7:=⟨_,rfl⟩
  clear hw7o w7o
  obtain ⟨w7,hw7⟩:∃ X,X=wz:=⟨_,rfl⟩
  rw [←hw7] at K7z HCz KTz KVz HAz HUz HTz HTUz HRz ⊢
  clear hw7
  have KTR:=KTz
  have KVR:=KVz
  have HC7:=HCz
  have HA7:=HAz
  have HU7:=HUz
  have HTT:=HTz
  have HTU:=HTUz
  have HR7:=HRz
  have K7:=K7z
  clear KTz KVz HCz HAz HUz HTz HTUz HRz K7z
  have q0:w7.cell? ⟨k7,0,none⟩=some (.int .i64 (-1)):=(K7.out.cell 0).trans (by simp)
  have q1:w7.cell? ⟨k7,1,none⟩=some (.int .i64 0):=(K7.out.cell 1).trans (by simp)
  have qlt:=K7.out.lt
  go_wp2_with fail
  refine zA9 (S:=fun w'=>w'.cell? ⟨k7,0,none⟩=some (.int .i64 (-1))∧w'.cell? ⟨k7,1,none⟩=some (.int .i64 0)) (T:=fun _=>True) (d:=99) (by kernel_rfl) ?_
  have hS1:w7.drew.cell? ⟨k7,0,none⟩=some (.int .i64 (-1))∧w7.drew.cell? ⟨k7,1,none⟩=some (.int .i64 0):=⟨q0,q1⟩
  have hT1:True:=trivial
  clear q0 q1
  refine wV 0 rfl hS1 hT1 ?_
  (try simp only [zz])
  refine wV 1 rfl hS1 hT1 ?_
  (try simp only [zz])
  refine wV 2 rfl hS1 hT1 ?_
  (try simp only [zz])
  refine wV 3 rfl hS1 hT1 ?_
  (try simp only [zz])
  refine wV 4 rfl hS1 hT1 ?_
  (try simp only [zz])
  refine wV 5 rfl hS1 hT1 ?_
  (try simp only [zz])
  refine wV 6 rfl hS1 hT1 ?_
  (try simp only [zz])
  refine w1 7 rfl fun K hK=>?_
  have hbl:Below w7 w7 (w7.drew.alloc (.cells ([3,2,4,1].map (Value.int .i64)).toArray 3)):=(zy2 _ _).drew.alloc (zz8 _) _
  have hS2:(w7.drew.alloc (.cells ([3,2,4,1].map (Value.int .i64)).toArray 3)).cell? ⟨k7,0,none⟩=some (.int .i64 (-1))∧(w7.drew.alloc (.cells ([3,2,4,1].map (Value.int .i64)).toArray 3)).cell? ⟨k7,1,none⟩=some (.int .i64 0):=⟨(hbl.cell (p:=⟨k7,0,none⟩) qlt).trans hS1.1,(hbl.cell (p:=⟨k7,1,none⟩) qlt).trans hS1.2⟩
  go_simp
  (try dsimp only)
  refine hK.out _ _ hS2 (fun _=>trivial) ?_
  clear hK K
  (try simp only [zz])
  refine w1 8 rfl fun K hK=>?_
  go_simp
  go_at_call 35
  refine (num_lit [3,2,4,1] (by decide) (by decide) p7 g w7.drew HR7.out.drew (by omega)).mono ?_
  rintro e w8 ⟨dp,hdp,rfl,hR8,hC8⟩
  have hdp4:1≤dp∧dp≤4:=by
   simp only [List.mem_cons,List.mem_nil_iff,or_false] at hdp
   omega
  have hC8u:Chg [g] w7 w8:=hC8.undrew
  have k7g:k7∉[g]:=by rw [zy1];omega
  have hS3:w8.cell? ⟨k7,0,none⟩=some (.int .i64 (-1))∧w8.cell? ⟨k7,1,none⟩=some (.int .i64 0):=⟨(hC8u.cell (p:=⟨k7,0,none⟩) qlt k7g).trans hS1.1,(hC8u.cell (p:=⟨k7,1,none⟩) qlt k7g).trans hS1.2⟩
  have HR8:=jj hR8
  clear hdp hR8
  (try dsimp only)
  refine hK.out _ _ hS3 (fun _=>trivial) ?_
  clear hK K
  (try simp only [zz])
  refine w1 9 rfl fun K hK=>?_
  have HC8:=jj (HC7.out.trans hC8u)
  have HA8:=jj (ArrDt.mono HA7.out (hC8u.kept HU7.out HGA.out))
  have HU8:=jj (HU7.out.mono hC8u.size)
  have HT8:=jj (ArrNat.kept HTT.out (hC8u.kept HTU.out HGT.out))
  have HTU8:=jj (HTU.out.mono hC8u.size)
  have hz8:=hC8u.size
  go_simp
  go_at_call 67
  refine (spec_l2DrawF 4 (by omega) xs HW.out ⟨(-1),0⟩ (zB4 HOK.out.ty) HOK.out.dep dp (by omega) (by omega) (depth_small HOK.out.small _) w8 (p7+1) g _ FA _ HT HR8.out (by rw [pow44];omega) HA8.out HU8.out (fun h=>HGA.out g h (by simp)) HT8.out HTU8.out (fun h=>HGT.out g h (by simp))).mono ?_
  rintro e w10 ⟨vA,csA,GA,q10,rfl,hpA,hfsA,hnA,hvF,hR10,hq10,hC10⟩
  obtain ⟨kvA,rfl,haA⟩:=(VR_iff _ _ _).1 hpA
  obtain ⟨A8,cap8,rfl,-,-⟩:=haA.form
  have k7g':k7∉[g]:=k7g
  have hS4:w10.cell? ⟨k7,0,none⟩=some (.int .i64 (-1))∧w10.cell? ⟨k7,1,none⟩=some (.int .i64 0):=⟨(hC10.cell (p:=⟨k7,0,none⟩) (zz9 qlt hz8) k7g').trans hS3.1,(hC10.cell (p:=⟨k7,1,none⟩) (zz9 qlt hz8) k7g').trans hS3.2⟩
  have KT10:=jj (KTR.out.same ((hC8u.trans hC10).block _ KTR.out.lt (by rw [zy1];omega)))
  have KV10:=jj (KVR.out.same ((hC8u.trans hC10).block _ KVR.out.lt (by rw [zy1];omega)))
  have HC10:=jj (HC8.out.trans hC10)
  have HA10:=jj (ArrDt.mono HA8.out (hC10.kept HU8.out HGA.out))
  have HU10:=jj (HU8.out.mono hC10.size)
  have HPA:=jj hpA
  have HFA:Hid (∀ b∈GA,w.heap.size+2≤b∧b<w10.heap.size):=fun b hb=>⟨by have:=(hfsA b hb).1;omega,(hfsA b hb).2⟩
  have HNA:=jj hnA
  have HVF:=jj hvF
  have HR10:=jj hR10
  have hk7:=hk7w
  have HK0:Hid (w.heap.size≠k7):=by unfold Hid;omega
  have HK1:Hid (w.heap.size+1≠k7):=by unfold Hid;omega
  have x0:w10.cell? ⟨w,0,none⟩=some (.int .i64 0):=(KT10.out.cell 0).trans (by simp)
  have x1:w10.cell? ⟨w,1,none⟩=some (.int .i64 0):=(KT10.out.cell 1).trans (by simp)
  have xf0:=KT10.out.frozen 0
  have xf1:=KT10.out.frozen 1
  have xlt:=KT10.out.lt
  have z0:w10.cell? ⟨w.heap.size+1,0,none⟩=some (.int .i64 0):=(KV10.out.cell 0).trans (by simp)
  have z1:w10.cell? ⟨w.heap.size+1,1,none⟩=some (.int .i64 0):=(KV10.out.cell 1).trans (by simp)
  have z2:w10.cell? ⟨w.heap.size+1,2,none⟩=some (.slice none 0 0):=(KV10.out.cell 2).trans (by simp)
  have zf0:=KV10.out.frozen 0
  have zf1:=KV10.out.frozen 1
  have zf2:=KV10.out.frozen 2
  have zlt:=KV10.out.lt
  have HS4:=jj hS4
  have hs10:∀ b,b≠w.heap.size→b≠w.heap.size+1→(((((w10.setCell ⟨w,0,none⟩ (.int .i64 (-1))).setCell ⟨w,1,none⟩ (.int .i64 0)).setCell ⟨w.heap.size+1,0,none⟩ (.int .i64 vA.c)).setCell ⟨w.heap.size+1,1,none⟩ (.int .i64 vA.n)).setCell ⟨w.heap.size+1,2,none⟩ (.slice A8 vA.ks.length cap8)).heap[b]?=w10.heap[b]?:=fun b h1 h2=>by
   rw [zz7 _ _ _ _ (by show b≠_;exact h2),zz7 _ _ _ _ (by show b≠_;exact h2),zz7 _ _ _ _ (by show b≠_;exact h2),zz7 _ _ _ _ (by show b≠_;exact h1),zz7 _ _ _ _ (by show b≠_;exact h1)]
  have HKE:Hid (∀ F:List Nat,(∀ b∈F,w.heap.size+2≤b)→Kept F w10 (((((w10.setCell ⟨w,0,none⟩ (.int .i64 (-1))).setCell ⟨w,1,none⟩ (.int .i64 0)).setCell ⟨w.heap.size+1,0,none⟩ (.int .i64 vA.c)).setCell ⟨w.heap.size+1,1,none⟩ (.int .i64 vA.n)).setCell ⟨w.heap.size+1,2,none⟩ (.slice A8 vA.ks.length cap8))):=fun F hF b hb=>hs10 b (by have:=hF b hb;omega) (by have:=hF b hb;omega)
  have hsz:(((((w10.setCell ⟨w,0,none⟩ (.int .i64 (-1))).setCell ⟨w,1,none⟩ (.int .i64 0)).setCell ⟨w.heap.size+1,0,none⟩ (.int .i64 vA.c)).setCell ⟨w.heap.size+1,1,none⟩ (.int .i64 vA.n)).setCell ⟨w.heap.size+1,2,none⟩ (.slice A8 vA.ks.length cap8)).heap.size=w10.heap.size:=by simp [World.setCell]
  have KTe:Hid (Blk (((((w10.setCell ⟨w,0,none⟩ (.int .i64 (-1))).setCell ⟨w,1,none⟩ (.int .i64 0)).setCell ⟨w.heap.size+1,0,none⟩ (.int .i64 vA.c)).setCell ⟨w.heap.size+1,1,none⟩ (.int .i64 vA.n)).setCell ⟨w.heap.size+1,2,none⟩ (.slice A8 vA.ks.length cap8)) w.heap.size 25 #[.int .i64 (-1),(0:Int)]):=(((KT10.out.set_ 0 _).set_ 1 _).same (by rw [zz7 _ _ _ _ (by show w.heap.size≠w.heap.size+1;omega),zz7 _ _ _ _ (by show w.heap.size≠w.heap.size+1;omega),zz7 _ _ _ _ (by show w.heap.size≠w.heap.size+1;omega)]))
  have KVe:Hid (Blk (((((w10.setCell ⟨w,0,none⟩ (.int .i64 (-1))).setCell ⟨w,1,none⟩ (.int .i64 0)).setCell ⟨w.heap.size+1,0,none⟩ (.int .i64 vA.c)).setCell ⟨w.heap.size+1,1,none⟩ (.int .i64 vA.n)).setCell ⟨w.heap.size+1,2,none⟩ (.slice A8 vA.ks.length cap8)) (w.heap.size+1) 46 #[vA.c,vA.n,.slice A8 vA.ks.length cap8]):=(((KV10.out.same (by rw [zz7 _ _ _ _ (by show w.heap.size+1≠w.heap.size;omega),zz7 _ _ _ _ (by show w.heap.size+1≠w.heap.size;omega)])).set_ 0 _).set_ 1 _).set_ 2 _
  have hCe:Chg [g] w (((((w10.setCell ⟨w,0,none⟩ (.int .i64 (-1))).setCell ⟨w,1,none⟩ (.int .i64 0)).setCell ⟨w.heap.size+1,0,none⟩ (.int .i64 vA.c)).setCell ⟨w.heap.size+1,1,none⟩ (.int .i64 vA.n)).setCell ⟨w.heap.size+1,2,none⟩ (.slice A8 vA.ks.length cap8)):=((((HC10.out.set_new (zz8 _)).set_new (zz8 _)).set_new (by omega)).set_new (by omega)).set_new (by omega)
  have HFin:Hid (DrewTypedF p 300 g w (.returned (.tuple #[.slice A1 xs.length cap1,.agg #[.int .i64 (-1),(0:Int)],.agg #[vA.c,vA.n,.slice A8 vA.ks.length cap8]])) (((((w10.setCell ⟨w,0,none⟩ (.int .i64 (-1))).setCell ⟨w,1,none⟩ (.int .i64 0)).setCell ⟨w.heap.size+1,0,none⟩ (.int .i64 vA.c)).setCell ⟨w.heap.size+1,1,none⟩ (.int .i64 vA.n)).setCell ⟨w.heap.size+1,2,none⟩ (.slice A8 vA.ks.length cap8))) :=
   ⟨xs,_,FA,⟨(-1),0⟩,vA,[vA.c,vA.n,.slice A8 vA.ks.length cap8],GA,q10,rfl,HOK.out,ArrDt.mono HA10.out (HKE.out _ HFA2.out),fun b hb=>⟨by have:=HFA2.out b hb;omega,by rw [hsz];exact HU10.out b hb⟩,VR.mono _ _ _ (HKE.out _ (fun b hb=>(HFA.out b hb).1)) HPA.out,fun b hb=>⟨by have:=(HFA.out b hb).1;omega,by rw [hsz];exact (HFA.out b hb).2⟩,(by have:=HNA.out;rwa [pow44] at this),HVF.out,HR10.out.keep (fun b hb=>hs10 b (by omega) (by omega)),by rw [pow44] at hq10;omega,hCe⟩
  clear hpA hfsA hnA hvF hR10 hC10 haA hs10 hsz hCe hC8 hC8u KT10 KV10 HA8 HU8 HT8 HTU8
  (try dsimp only)
  refine hK.out _ _ HS4.out (fun _=>trivial) ?_
  clear hK K
  (try simp only [zz])
  refine w1 10 rfl fun K hK=>?_
  go_simp
  (try dsimp only)
  refine hK.out _ _ HS4.out (fun _=>trivial) ?_
  clear hK K
  (try simp only [zz])
  refine w1 11 rfl fun K hK=>?_
  go_simp
  (try dsimp only)
  refine hK.out _ _ ⟨(World.cell?_setCell_far _ _ _ _ (by exact HK0.out)).trans ((World.cell?_setCell_far _ _ _ _ (by exact HK0.out)).trans (HS4.out.1)),(World.cell?_setCell_far _ _ _ _ (by exact HK0.out)).trans ((World.cell?_setCell_far _ _ _ _ (by exact HK0.out)).trans (HS4.out.2))⟩ (fun _=>trivial) ?_
  clear hK K
  (try simp only [zz])
  refine w1 12 rfl fun K hK=>?_
  go_simp
  (try dsimp only)
  refine hK.out _ _ ⟨(World.cell?_setCell_far _ _ _ _ (by exact HK1.out)).trans ((World.cell?_setCell_far _ _ _ _ (by exact HK1.out)).trans ((World.cell?_setCell_far _ _ _ _ (by exact HK1.out)).trans ((World.cell?_setCell_far _ _ _ _ (by exact HK0.out)).trans ((World.cell?_setCell_far _ _ _ _ (by exact HK0.out)).trans (HS4.out.1))))),(World.cell?_setCell_far _ _ _ _ (by exact HK1.out)).trans ((World.cell?_setCell_far _ _ _ _ (by exact HK1.out)).trans ((World.cell?_setCell_far _ _ _ _ (by exact HK1.out)).trans ((World.cell?_setCell_far _ _ _ _ (by exact HK0.out)).trans ((World.cell?_setCell_far _ _ _ _ (by exact HK0.out)).trans (HS4.out.2)))))⟩ (fun _=>trivial) ?_
  clear hK K
  (try simp only [zz])
  refine wE (by kernel_rfl) ?_
  clear hS1 hS2 hS3 hS4 hT1 x0 x1 xf0 xf1 z0 z1 z2 zf0 zf1 zf2 xlt zlt hbl
  go_wp2
  refine bodyPost_ret (zAR rfl _ _ w.heap.size (w.heap.size+1) 25 46 #[.int .i64 (-1),(0:Int)] #[vA.c,vA.n,.slice A8 vA.ks.length cap8] (0,0) (0,0) _ _ rfl KTe.out Try.underlying25 rfl rfl rfl KVe.out Try.underlying46 rfl rfl) rfl ?_
  exact HFin.out
theorem results_tcu {P:Program} {fn:Func} {u u2 p1 p2:Tmp} {ty1 ty2:TypeId} (h:fn.results=#[.tmp u,.cell p1 ty1,.tmp u2,.cell p2 ty2]) (tmps:Array Value) (w:World) (g1 g2:Nat) (t1 t2:TypeId) (cs1 cs2:Array Value) (fr1 fr2:Nat×Nat) (d1 d2:TypeDesc)
  (hp1:tmps.getD p1 undef=.pointer (some ⟨g1,0,none⟩)) (hg1:w.heap[g1]?=some (.cells cs1 t1 fr1)) (hu1:P.underlying ty1=some d1) (hd1:(match d1 with | .struct _ | .array _ _=>true | _=>false)=true) (hi1:(P.info? ty1).map (·.size)=some cs1.size)
  (hp2:tmps.getD p2 undef=.pointer (some ⟨g2,0,none⟩)) (hg2:w.heap[g2]?=some (.cells cs2 t2 fr2)) (hu2:P.underlying ty2=some d2) (hd2:(match d2 with | .struct _ | .array _ _=>true | _=>false)=true) (hi2:(P.info? ty2).map (·.size)=some cs2.size) :
  (results fn tmps).run P w=.ok (.tuple #[tmps.getD u undef,.agg cs1,tmps.getD u2 undef,.agg cs2]) w:=by
 have hp1':tmps[p1]?.getD undef=.pointer (some ⟨g1,0,none⟩):=by simpa using hp1
 have hp2':tmps[p2]?.getD undef=.pointer (some ⟨g2,0,none⟩):=by simpa using hp2
 simp [results,h,hp1',hp2',asAddr,run_loadVar_row w g1 t1 ty1 cs1 fr1 d1 hg1 hu1 hd1 hi1,run_loadVar_row w g2 t2 ty2 cs2 fr2 d2 hg2 hu2 hd2 hi2]
def DrewTC (p n g:Nat) (w:World) (e:Ending) (w':World):Prop:=∃ (xs:List Dt) (v:Value) (F:List Nat) (t:Ty) (cls:List Cl) (lv:Value) (Fl:List Nat) (va:V) (vA:Option Addr) (vcap:Nat) (Fv:List Nat) (q:Nat),e=.returned (.tuple #[v,.agg #[t.d,t.i],lv,.agg #[va.c,va.n,.slice vA va.ks.length vcap]])∧TypedOk xs t∧Arr w' (DtR w') xs v F∧Fresh w w' F∧Arr w' (ClR w') cls lv Fl∧(∀ b∈Fl,b<w'.heap.size∧b≠g∧w.heap.size≤b)∧cls.length≤5∧(∀ c∈cls,nodesP c.pat≤512∧patOkB xs t c.pat=true)∧VR w' va [va.c,va.n,.slice vA va.ks.length vcap] Fv∧(∀ b∈Fv,b<w'.heap.size∧b≠g∧w.heap.size≤b)∧fitsV xs 4 t va=true∧nodes va≤256∧Rd w' g q∧q≤p+n∧Chg [g] w w'
set_option maxHeartbeats 8000000 in
theorem spec_l4Typed (p g:Nat) (w:World) (h:Rd w g p) (hp:p≤500000) :
  Calls Try.prog 34 #[.pointer (some ⟨g,0,none⟩)] w (DrewTC p 12300 g w):=by
 have hgl:=h.lt
 have hB0:Below w w ((w.alloc (.cells #[(0:Int),(0:Int)] 25)).alloc (.cells #[(0:Int),(0:Int),.slice none 0 0] 46)):=((zy2 _ _).alloc (zz8 _) _).alloc (by simp) _
 have KT0:Hid (Blk ((w.alloc (.cells #[(0:Int),(0:Int)] 25)).alloc (.cells #[(0:Int),(0:Int),.slice none 0 0] 46)) w.heap.size 25 #[(0:Int),(0:Int)]):=(Blk.new w _ _).same (Below.heap_alloc _ _ _ (by simp))
 have KV0:Hid (Blk ((w.alloc (.cells #[(0:Int),(0:Int)] 25)).alloc (.cells #[(0:Int),(0:Int),.slice none 0 0] 46)) (w.heap.size+1) 46 #[(0:Int),(0:Int),.slice none 0 0]):=zA8 w _ 46 _
 have hs3:(((w.alloc (.cells #[(0:Int),(0:Int)] 25)).alloc (.cells #[(0:Int),(0:Int),.slice none 0 0] 46))).heap.size=w.heap.size+2:=by simp
 have HR0:=jj (h.below hB0)
 clear h
 go_enter Try.func34,Try.ntmps34
 go_wp2_with fail
 obtain ⟨w2,hw2⟩:∃ X,X=((w.alloc (.cells #[(0:Int),(0:Int)] 25)).alloc (.cells #[(0:Int),(0:Int),.slice none 0 0] 46)):=⟨_,rfl⟩
 rw [←hw2] at hB0 KT0 KV0 hs3 HR0 ⊢
 clear hw2
 refine (spec_l2TypedF p g w2 HR0.out (by omega)).mono ?_
 rintro e w5 ⟨xs,v5,FA,t,va,csv,Gv,q5,rfl,htok,ha5,hfs5,hv5,hgv5,hnv5,hfit,hR5,hq5,hC5⟩
 obtain ⟨kvv,rfl,hav⟩:=(VR_iff _ _ _).1 hv5
 obtain ⟨vA,vcap,rfl,-,-⟩:=hav.form
 obtain ⟨A1,cap1,rfl,hc1,hc2⟩:=ha5.form
 have hC25:Chg [g] w w5:=(Chg.of_below hB0).trans hC5
 have hz5:w.heap.size+2≤w5.heap.size:=by have:=hC5.size;omega
 have KT5:=jj (KT0.out.same (hC5.block _ KT0.out.lt (by rw [zy1];omega)))
 have KV5:=jj (KV0.out.same (hC5.block _ KV0.out.lt (by rw [zy1];omega)))
 have HTOK:=jj htok
 have HA5:=jj ha5
 have HV5:=jj hv5
 have HNV:=jj hnv5
 have HFIT:=jj hfit
 have HFA5:Hid (∀ b∈FA,w.heap.size+2≤b∧b<w5.heap.size):=fun b hb=>⟨by have:=(hfs5 b hb).1;omega,(hfs5 b hb).2⟩
 have HGV5:Hid (∀ b∈Gv,w.heap.size+2≤b∧b<w5.heap.size):=fun b hb=>⟨by have:=(hgv5 b hb).1;omega,(hgv5 b hb).2⟩
 have hb6:Below w5 w5 ((w5.alloc (.cells #[t.d,t.i] 25)).alloc (.cells #[va.c,va.n,.slice vA va.ks.length vcap] 46)):=((zy2 _ _).alloc (zz8 _) _).alloc (by simp) _
 have KB6:Hid (Blk ((w5.alloc (.cells #[t.d,t.i] 25)).alloc (.cells #[va.c,va.n,.slice vA va.ks.length vcap] 46)) w5.heap.size 25 #[t.d,t.i]):=(Blk.new w5 _ _).same (Below.heap_alloc _ _ _ (by simp))
 have KC6:Hid (Blk ((w5.alloc (.cells #[t.d,t.i] 25)).alloc (.cells #[va.c,va.n,.slice vA va.ks.length vcap] 46)) (w5.heap.size+1) 46 #[va.c,va.n,.slice vA va.ks.length vcap]):=zA8 w5 _ 46 _
 have HR6:Hid (Rd ((w5.alloc (.cells #[t.d,t.i] 25)).alloc (.cells #[va.c,va.n,.slice vA va.ks.length vcap] 46)) g q5):=hR5.below hb6
 clear htok ha5 hfs5 hv5 hgv5 hnv5 hfit hav hR5 hC5 KT0 KV0 HR0 hB0
 go_wp2_with fail
 obtain ⟨w6,hw6⟩:∃ X,X=((w5.alloc (.cells #[t.d,t.i] 25)).alloc (.cells #[va.c,va.n,.slice vA va.ks.length vcap] 46)):=⟨_,rfl⟩
 rw [←hw6] at hb6 KB6 KC6 HR6 ⊢
 clear hw6
 obtain ⟨k,hk⟩:∃ X,X=w5.heap.size:=⟨_,rfl⟩
 obtain ⟨k2,hk2⟩:∃ X,X=k+1:=⟨_,rfl⟩
 rw [←hk] at KB6 KC6 HFA5 HGV5 hz5 ⊢
 rw [←hk2] at KC6
 first | rw [←hk2] | skip
 have hkk:k2=k+1:=hk2
 have HK:=jj hk
 have HK2:=jj hk2
 have hkle:w.heap.size+2≤k:=hz5
 have hk2n:k<k2:=by omega
 have hk6:k2<w6.heap.size:=KC6.out.lt
 clear hk hk2 hkk
 have hb6':Below k w5 w6:=by rw [HK.out];exact hb6
 have hC6:Chg [g] w w6:=hC25.step hb6
 have HC6:=jj hC6
 have KT6:Hid (Blk w6.drew (w.heap.size) 25 #[(0:Int),(0:Int)]):=KT5.out.same (hb6.block _ KT5.out.lt)
 have KV6:Hid (Blk w6.drew (w.heap.size+1) 46 #[(0:Int),(0:Int),.slice none 0 0]):=KV5.out.same (hb6.block _ KV5.out.lt)
 have HA6:Hid (Arr w6.drew (DtR w6.drew) xs (.slice A1 xs.length cap1) FA):=ArrDt.drew (ArrDt.below HA5.out hb6 (fun b hb=>by rw [←HK.out];exact (HFA5.out b hb).2))
 have HU6:Hid (Under w6.drew.heap.size FA):=fun b hb=>zz9 (HFA5.out b hb).2 (Nat.le_of_lt (Nat.lt_trans hk2n hk6))
 have HV6:Hid (VR w6.drew va [va.c,va.n,.slice vA va.ks.length vcap] Gv):=VR.drew (HV5.out.below hb6 (fun b hb=>by rw [←HK.out];exact (HGV5.out b hb).2))
 have HUV6:Hid (Under w6.drew.heap.size Gv):=fun b hb=>zz9 (HGV5.out b hb).2 (Nat.le_of_lt (Nat.lt_trans hk2n hk6))
 have HFA:Hid (∀ b∈FA,w.heap.size+2≤b):=fun b hb=>(HFA5.out b hb).1
 have HFV:Hid (∀ b∈Gv,w.heap.size+2≤b):=fun b hb=>(HGV5.out b hb).1
 have HS:Hid (∀ C:World,Chg [g,w.heap.size,w.heap.size+1] w6 C→(C.cell? ⟨k,0,none⟩=t.d∧C.cell? ⟨k,1,none⟩=t.i∧C.cell? ⟨k2,0,none⟩=va.c∧C.cell? ⟨k2,1,none⟩=va.n∧C.cell? ⟨k2,2,none⟩=some (.slice vA va.ks.length vcap))):=fun C hC=>⟨(hC.cell (Nat.lt_trans hk2n hk6) (by simp;omega)).trans ((KB6.out.cell 0).trans (by simp)),(hC.cell (Nat.lt_trans hk2n hk6) (by simp;omega)).trans ((KB6.out.cell 1).trans (by simp)),(hC.cell hk6 (by simp;omega)).trans ((KC6.out.cell 0).trans (by simp)),(hC.cell hk6 (by simp;omega)).trans ((KC6.out.cell 1).trans (by simp)),(hC.cell hk6 (by simp;omega)).trans ((KC6.out.cell 2).trans (by simp))⟩
 have hC0:Chg [g,w.heap.size,w.heap.size+1] w6 w6.drew:=(Chg.refl _ _).drew
 have HRd:Hid (Rd w6.drew g q5):=HR6.out.keep (fun b hb=>rfl)
 have hzd:w6.drew.heap.size=w6.heap.size:=rfl
 clear hb6 hb6' hC25 HA5 HFA5 HV5 HGV5 KT5 KV5 KB6 KC6 hC6
 refine zA9 (S:=fun w'=>w'.cell? ⟨k,0,none⟩=t.d∧w'.cell? ⟨k,1,none⟩=t.i∧w'.cell? ⟨k2,0,none⟩=va.c∧w'.cell? ⟨k2,1,none⟩=va.n∧w'.cell? ⟨k2,2,none⟩=some (.slice vA va.ks.length vcap)) (T:=fun _=>True) (d:=99) (by kernel_rfl) ?_
 obtain ⟨wd,hwd⟩:∃ X,X=w6.drew:=⟨_,rfl⟩
 rw [←hwd] at hC0 KT6 KV6 HA6 HU6 HV6 HUV6 HRd hzd ⊢
 clear hwd
 have hS0:=HS.out _ hC0
 have hT0:True:=trivial
 refine wV 0 rfl hS0 hT0 ?_
 (try simp only [zz])
 refine wV 1 rfl hS0 hT0 ?_
 (try simp only [zz])
 refine wV 2 rfl hS0 hT0 ?_
 (try simp only [zz])
 refine wV 3 rfl hS0 hT0 ?_
 (try simp only [zz])
 refine wV 4 rfl hS0 hT0 ?_
 (try simp only [zz])
 refine wV 6 rfl hS0 hT0 ?_
 (try simp only [zz])
 refine w1 5 rfl fun K hK=>?_
 go_simp
 go_at_call 40
 refine (spec_l4List xs (worldOK HTOK.out.ok) t (zB4 HTOK.out.ty) wd q5 g _ FA HRd.out (by omega) HA6.out HU6.out (fun hg=>by have:=HFA.out g hg;omega)).mono ?_
 rintro e C1 ⟨cls,lv,Fl,q7,rfl,hl1,hf1,hn1,hcl1,hr1,hq1,hc1'⟩
 obtain ⟨lA,lcap,rfl,-,-⟩:=hl1.form
 have hC1:Chg [g,w.heap.size,w.heap.size+1] w6 C1:=hC0.trans (hc1'.mono (by simp))
 have hnA:∀ b,w.heap.size≤b→b∉[g]:=fun b hb h=>by rw [zy1] at h;omega
 have KT1:=jj (KT6.out.same (hc1'.block _ KT6.out.lt (hnA _ (by omega))))
 have KV1:=jj (KV6.out.same (hc1'.block _ KV6.out.lt (hnA _ (by omega))))
 have HA1:Hid (Arr C1 (DtR C1) xs (.slice A1 xs.length cap1) FA):=ArrDt.mono HA6.out (hc1'.kept HU6.out (fun b hb=>hnA b (by have:=HFA.out b hb;omega)))
 have HU1:Hid (Under C1 FA):=HU6.out.mono hc1'.size
 have HV1:=jj (VR.mono _ _ _ (hc1'.kept HUV6.out (fun b hb=>hnA b (by have:=HFV.out b hb;omega))) HV6.out)
 have HUV1:Hid (Under C1 Gv):=HUV6.out.mono hc1'.size
 have HL1:=jj hl1
 have HN1:=jj hn1
 have HCL1:=jj hcl1
 have HR1:=jj hr1
 have HF1:Hid (∀ b∈Fl,b<C1.heap.size∧b≠g):=fun b hb=>⟨(hf1 b hb).1,(hf1 b hb).2.1⟩
 have HFL:Hid (∀ b∈Fl,w.heap.size+2≤b):=fun b hb=>by have:=(hf1 b hb).2.2;omega
 have HQ1:Hid (q7≤p+12300):=by unfold Hid;omega
 clear hl1 hf1 hn1 hcl1 hr1 hq1 hc1' KT6 KV6 HA6 HU6 HV6 HUV6 HRd hnA
 (try dsimp only)
 refine hK.out _ _ (HS.out _ hC1) (fun _=>trivial) ?_
 clear hK K
 (try simp only [zz])
 refine w1 7 rfl fun K hK=>?_
 go_simp
 (try dsimp only)
 refine hK.out _ _ (HS.out _ hC1) (fun _=>trivial) ?_
 clear hK K
 (try simp only [zz])
 refine w1 8 rfl fun K hK=>?_
 have yy0:C1.cell? ⟨w,0,none⟩=some (.int .i64 0):=(KT1.out.cell 0).trans (by simp)
 have ff0:=KT1.out.frozen 0
 have yy1:C1.cell? ⟨w,1,none⟩=some (.int .i64 0):=(KT1.out.cell 1).trans (by simp)
 have ff1:=KT1.out.frozen 1
 have yylt:=KT1.out.lt
 have hC2:Chg [g,w.heap.size,w.heap.size+1] w6 ((C1.setCell ⟨w,0,none⟩ (.int .i64 t.d)).setCell ⟨w,1,none⟩ (.int .i64 t.i)):=((hC1.set (by simp)).set (by simp))
 have KK2:Hid (Blk ((C1.setCell ⟨w,0,none⟩ (.int .i64 t.d)).setCell ⟨w,1,none⟩ (.int .i64 t.i)) (w.heap.size) 25 #[t.d,t.i]):=((KT1.out.set_ 0 _).set_ 1 _)
 have KV12:Hid (Blk ((C1.setCell ⟨w,0,none⟩ (.int .i64 t.d)).setCell ⟨w,1,none⟩ (.int .i64 t.i)) (w.heap.size+1) 46 #[(0:Int),(0:Int),.slice none 0 0]):=((KV1.out.same (zz7 _ _ _ _ (by show w.heap.size+1≠w.heap.size;omega))).same (zz7 _ _ _ _ (by show w.heap.size+1≠w.heap.size;omega)))
 have hz2:(((C1.setCell ⟨w,0,none⟩ (.int .i64 t.d)).setCell ⟨w,1,none⟩ (.int .i64 t.i))).heap.size=C1.heap.size:=by simp [World.setCell]
 have hkA2:Kept FA C1 ((C1.setCell ⟨w,0,none⟩ (.int .i64 t.d)).setCell ⟨w,1,none⟩ (.int .i64 t.i)):=fun x hx=>by rw [zz7 _ _ _ _ (by show x≠w.heap.size;have:=HFA.out x hx;omega),zz7 _ _ _ _ (by show x≠w.heap.size;have:=HFA.out x hx;omega)]
 have hkL2:Kept Fl C1 ((C1.setCell ⟨w,0,none⟩ (.int .i64 t.d)).setCell ⟨w,1,none⟩ (.int .i64 t.i)):=fun x hx=>by rw [zz7 _ _ _ _ (by show x≠w.heap.size;have:=HFL.out x hx;omega),zz7 _ _ _ _ (by show x≠w.heap.size;have:=HFL.out x hx;omega)]
 have hkV2:Kept Gv C1 ((C1.setCell ⟨w,0,none⟩ (.int .i64 t.d)).setCell ⟨w,1,none⟩ (.int .i64 t.i)):=fun x hx=>by rw [zz7 _ _ _ _ (by show x≠w.heap.size;have:=HFV.out x hx;omega),zz7 _ _ _ _ (by show x≠w.heap.size;have:=HFV.out x hx;omega)]
 have hkR2:∀ x,x≤g→(((C1.setCell ⟨w,0,none⟩ (.int .i64 t.d)).setCell ⟨w,1,none⟩ (.int .i64 t.i))).heap[x]?=C1.heap[x]?:=fun x hx=>by rw [zz7 _ _ _ _ (by show x≠w.heap.size;omega),zz7 _ _ _ _ (by show x≠w.heap.size;omega)]
 go_simp
 refine hK.out _ _ (HS.out _ hC2) (fun _=>trivial) ?_
 clear hK K
 (try simp only [zz])
 clear yy0 ff0 yy1 ff1 yylt
 obtain ⟨C2,hX⟩:∃ X,X=((C1.setCell ⟨w,0,none⟩ (.int .i64 t.d)).setCell ⟨w,1,none⟩ (.int .i64 t.i)):=⟨_,rfl⟩
 rw [←hX] at hC2 KK2 KV12 hz2 hkA2 hkL2 hkV2 hkR2 ⊢
 clear hX
 refine w1 9 rfl fun K hK=>?_
 go_simp
 (try dsimp only)
 refine hK.out _ _ (HS.out _ hC2) (fun _=>trivial) ?_
 clear hK K
 (try simp only [zz])
 refine w1 10 rfl fun K hK=>?_
 have yy0:C2.cell? ⟨w.heap.size+1,0,none⟩=some (.int .i64 0):=(KV12.out.cell 0).trans (by simp)
 have ff0:=KV12.out.frozen 0
 have yy1:C2.cell? ⟨w.heap.size+1,1,none⟩=some (.int .i64 0):=(KV12.out.cell 1).trans (by simp)
 have ff1:=KV12.out.frozen 1
 have yy2:C2.cell? ⟨w.heap.size+1,2,none⟩=some (.slice none 0 0):=(KV12.out.cell 2).trans (by simp)
 have ff2:=KV12.out.frozen 2
 have yylt:=KV12.out.lt
 have hC3:Chg [g,w.heap.size,w.heap.size+1] w6 (((C2.setCell ⟨w.heap.size+1,0,none⟩ (.int .i64 va.c)).setCell ⟨w.heap.size+1,1,none⟩ (.int .i64 va.n)).setCell ⟨w.heap.size+1,2,none⟩ (.slice vA va.ks.length vcap)):=(((hC2.set (by simp)).set (by simp)).set (by simp))
 have KK3:Hid (Blk (((C2.setCell ⟨w.heap.size+1,0,none⟩ (.int .i64 va.c)).setCell ⟨w.heap.size+1,1,none⟩ (.int .i64 va.n)).setCell ⟨w.heap.size+1,2,none⟩ (.slice vA va.ks.length vcap)) (w.heap.size+1) 46 #[va.c,va.n,.slice vA va.ks.length vcap]):=(((KV12.out.set_ 0 _).set_ 1 _).set_ 2 _)
 have KK23:Hid (Blk (((C2.setCell ⟨w.heap.size+1,0,none⟩ (.int .i64 va.c)).setCell ⟨w.heap.size+1,1,none⟩ (.int .i64 va.n)).setCell ⟨w.heap.size+1,2,none⟩ (.slice vA va.ks.length vcap)) (w.heap.size) 25 #[t.d,t.i]):=(((KK2.out.same (zz7 _ _ _ _ (by show w.heap.size≠w.heap.size+1;omega))).same (zz7 _ _ _ _ (by show w.heap.size≠w.heap.size+1;omega))).same (zz7 _ _ _ _ (by show w.heap.size≠w.heap.size+1;omega)))
 have hz3:((((C2.setCell ⟨w.heap.size+1,0,none⟩ (.int .i64 va.c)).setCell ⟨w.heap.size+1,1,none⟩ (.int .i64 va.n)).setCell ⟨w.heap.size+1,2,none⟩ (.slice vA va.ks.length vcap))).heap.size=C2.heap.size:=by simp [World.setCell]
 have hkA3:Kept FA C2 (((C2.setCell ⟨w.heap.size+1,0,none⟩ (.int .i64 va.c)).setCell ⟨w.heap.size+1,1,none⟩ (.int .i64 va.n)).setCell ⟨w.heap.size+1,2,none⟩ (.slice vA va.ks.length vcap)):=fun x hx=>by rw [zz7 _ _ _ _ (by show x≠w.heap.size+1;have:=HFA.out x hx;omega),zz7 _ _ _ _ (by show x≠w.heap.size+1;have:=HFA.out x hx;omega),zz7 _ _ _ _ (by show x≠w.heap.size+1;have:=HFA.out x hx;omega)]
 have hkL3:Kept Fl C2 (((C2.setCell ⟨w.heap.size+1,0,none⟩ (.int .i64 va.c)).setCell ⟨w.heap.size+1,1,none⟩ (.int .i64 va.n)).setCell ⟨w.heap.size+1,2,none⟩ (.slice vA va.ks.length vcap)):=fun x hx=>by rw [zz7 _ _ _ _ (by show x≠w.heap.size+1;have:=HFL.out x hx;omega),zz7 _ _ _ _ (by show x≠w.heap.size+1;have:=HFL.out x hx;omega),zz7 _ _ _ _ (by show x≠w.heap.size+1;have:=HFL.out x hx;omega)]
 have hkV3:Kept Gv C2 (((C2.setCell ⟨w.heap.size+1,0,none⟩ (.int .i64 va.c)).setCell ⟨w.heap.size+1,1,none⟩ (.int .i64 va.n)).setCell ⟨w.heap.size+1,2,none⟩ (.slice vA va.ks.length vcap)):=fun x hx=>by rw [zz7 _ _ _ _ (by show x≠w.heap.size+1;have:=HFV.out x hx;omega),zz7 _ _ _ _ (by show x≠w.heap.size+1;have:=HFV.out x hx;omega),zz7 _ _ _ _ (by show x≠w.heap.size+1;have:=HFV.out x hx;omega)]
 have hkR3:∀ x,x≤g→((((C2.setCell ⟨w.heap.size+1,0,none⟩ (.int .i64 va.c)).setCell ⟨w.heap.size+1,1,none⟩ (.int .i64 va.n)).setCell ⟨w.heap.size+1,2,none⟩ (.slice vA va.ks.length vcap))).heap[x]?=C2.heap[x]?:=fun x hx=>by rw [zz7 _ _ _ _ (by show x≠w.heap.size+1;omega),zz7 _ _ _ _ (by show x≠w.heap.size+1;omega),zz7 _ _ _ _ (by show x≠w.heap.size+1;omega)]
 go_simp
 refine hK.out _ _ (HS.out _ hC3) (fun _=>trivial) ?_
 clear hK K
 (try simp only [zz])
 clear yy0 ff0 yy1 ff1 yy2 ff2 yylt
 obtain ⟨C3,hX⟩:∃ X,X=(((C2.setCell ⟨w.heap.size+1,0,none⟩ (.int .i64 va.c)).setCell ⟨w.heap.size+1,1,none⟩ (.int .i64 va.n)).setCell ⟨w.heap.size+1,2,none⟩ (.slice vA va.ks.length vcap)):=⟨_,rfl⟩
 rw [←hX] at hC3 KK3 KK23 hz3 hkA3 hkL3 hkV3 hkR3 ⊢
 clear hX
 refine wE (by kernel_rfl) ?_
 clear hS0 hT0
 have HFin:Hid (DrewTC p 12300 g w (.returned (.tuple #[.slice A1 xs.length cap1,.agg #[t.d,t.i],.slice lA cls.length lcap,.agg #[va.c,va.n,.slice vA va.ks.length vcap]])) C3):=by
  have hz:C3.heap.size=C1.heap.size:=by rw [hz3,hz2]
  have hC4':Chg [g] w C3:=⟨hC3.os.trans HC6.out.os,hC3.tape.trans HC6.out.tape,hC3.output.trans HC6.out.output,Nat.le_trans HC6.out.size hC3.size,fun b hb hn=>by
   rw [zy1] at hn
   exact (hC3.block b (zz9 hb HC6.out.size) (by simp;omega)).trans (HC6.out.block b hb (by simpa using hn))⟩
  refine ⟨xs,_,FA,t,cls,_,Fl,va,vA,vcap,Gv,q7,rfl,HTOK.out,?_,fun b hb=>⟨by have:=HFA.out b hb;omega,?_⟩,?_,fun b hb=>⟨?_,(HF1.out b hb).2,by have:=HFL.out b hb;omega⟩,HN1.out,HCL1.out,?_,fun b hb=>⟨?_,by have:=HFV.out b hb;omega,by have:=HFV.out b hb;omega⟩,HFIT.out,HNV.out,?_,HQ1.out,hC4'⟩
  ·exact ArrDt.mono (ArrDt.mono HA1.out hkA2) hkA3
  ·rw [hz];exact HU1.out b hb
  ·exact ArrCl.mono (ArrCl.mono HL1.out hkL2) hkL3
  ·rw [hz];exact (HF1.out b hb).1
  ·exact VR.mono _ _ _ hkV3 (VR.mono _ _ _ hkV2 HV1.out)
  ·rw [hz];exact HUV1.out b hb
  ·exact HR1.out.keep fun b hb=>(hkR3 b hb).trans (hkR2 b hb)
 clear hkA2 hkA3 hkL2 hkL3 hkV2 hkV3 hkR2 hkR3 hC1 hC2 hC3 hC0
 go_wp2
 refine bodyPost_ret (results_tcu rfl _ _ (w.heap.size) (w.heap.size+1) 25 46 #[t.d,t.i] #[va.c,va.n,.slice vA va.ks.length vcap] (0,0) (0,0) _ _ rfl KK23.out Try.underlying25 rfl rfl rfl KK3.out Try.underlying46 rfl rfl) rfl ?_
 exact HFin.out
theorem Flat.ones {α:Type} {R:α→List Value→List Nat→Prop} (hR:∀ x cs G,R x cs G→∀ u∈cs,u.oneCell'=true):∀ {xs:List α} {cs:List Value} {F:List Nat},Flat R xs cs F→∀ u∈cs,u.oneCell'=true
 |[],cs,F,h,u,hu=>by obtain ⟨rfl,-⟩:=h;cases hu
 |x :: xs,cs,F,h,u,hu=>by
  obtain ⟨c1,c2,F1,F2,rfl,rfl,h1,h2⟩:=h
  rcases List.mem_append.1 hu with h | h
  ·exact hR _ _ _ h1 u h
  ·exact Flat.ones hR h2 u h
/-! ### append of a whole slice that came in -/
section
variable {P : Program} {w : World}
end
theorem wpList_append_run {P:Program} {w:World} {ops:Array Oper} {rest:List Oper} {o:Oper} {a:Act} {Q:Exit→Act→World→Prop} (hgd:o.guard=none) (s x:Operand) (t:TypeId)
  (ho:o.op=.call { callee:=.builtin .append,args:=#[s,x],argTypes:=#[t,t] }) {sv xv v':Value} {w':World} (hs:a.eval s=sv) (hx:a.eval x=xv)
  (hr:(Builtin.append_ #[t,t] o.type #[sv,xv]).run P w=.ok v' w') (h:wpList P ops Q rest (a.put o.dst v') w'):wpList P ops Q (o :: rest) a w:=by
 refine wpList_plain hgd fun K hK=>?_
 unfold Oper.wp execOp
 simp only [ho,resolve,invoke,builtin,Sem.run_bind,Sem.run_pure,Result.andThen_ok,List.map_toArray,List.map_cons,List.map_nil,hs,hx,hr]
 exact hK _ _ h
section
variable {P : Program} {w : World}
theorem run_append_none (t ty e:TypeId) (i:TypeInfo) (ht:P.underlying t=some (.slice e)) (hi:P.info? e=some i) (A:Option Addr) (n cap c:Nat) (h:n≤cap) :
  (Builtin.append_ #[t,t] ty #[.slice A n cap,.slice none 0 c]).run P w=.ok (.slice A n cap) w:=by
 cases A <;> simp [Builtin.append_,run_underlying ht,sizeOf,typeInfo,hi,Builtin.lenOf,Builtin.firstCells,storeCells,h]
theorem run_append_all {α:Type} {R:World→α→List Value→List Nat→Prop} {B k:Nat} {E:TypeId} (t ty:TypeId) (i:TypeInfo) (z:Value) (bytes:Nat) (ht:P.underlying t=some (.slice E)) (hi:P.info? E=some i) (hz:i.zero=some z)
  (hsize:i.size=k) (hby:i.bytes=bytes) (hzs:z.cells.size=k) (hk:0<k) (hRl:∀ w x cs G,R w x cs G→cs.length=k) (hRm:∀ w w' x cs G,Kept G w w'→R w x cs G→R w' x cs G) (hR1:∀ w x cs G,R w x cs G→∀ u∈cs,u.oneCell'=true)
  {xs:List α} {sv:Value} {F0:List Nat} (hown:Own w B E k R xs sv F0) {ys:List α} {xv:Value} {F:List Nat} (hy:Arr w (R w) ys xv F) (hu:Under w F) (hvG:∀ g∈rowOf sv,g∉F)
  (h63:xs.length+ys.length≤1000000) (hbytes:(xs.length+ys.length)*bytes≤140737488355328) (hbase:B≤w.heap.size) :
  ∃ v' w' G,(Builtin.append_ #[t,t] ty #[sv,xv]).run P w=.ok v' w'∧Own w' B E k R (xs ++ ys) v' (F0 ++ G)∧(∀ b∈G,b∈F)∧w.grownBy w' sv.ownBlock∧(v'.ownBlock=sv.ownBlock∨v'.ownBlock=some w.heap.size):=by
 have key:∀ (a:Addr) (c:Nat) (cs1:List Value) (G:List Nat),xv=.slice (some a) ys.length c→Flat (R w) ys cs1 G→(∀ b∈G,b∈F)→(∀ j u,cs1[j]?=some u→w.cell? (a.add j)=some u) →
   ∃ v' w' G,(Builtin.append_ #[t,t] ty #[sv,xv]).run P w=.ok v' w'∧Own w' B E k R (xs ++ ys) v' (F0 ++ G)∧(∀ b∈G,b∈F)∧w.grownBy w' sv.ownBlock∧(v'.ownBlock=sv.ownBlock∨v'.ownBlock=some w.heap.size):=by
  intro a c cs1 G hxv hf hGF hc
  subst hxv
  obtain ⟨cs,o1,o2,o3,o4⟩:=id hown
  have hl:cs1.length=ys.length*k:=hf.length (hRl w)
  have hone:=hf.ones (hR1 w)
  have hG:Under w G:=hu.sub hGF
  obtain ⟨v',w',hr,q1,q2,q3,q4⟩:=run_append_own_at (P:=P) w B t ty E i z k bytes ht hi hz hsize hby hzs hk sv xs.length cs o1 a ys.length c cs1 hl hc hone (by unfold maxLen;omega) hbytes hbase
  refine ⟨v',w',G,hr,⟨cs ++ cs1,by rw [List.length_append];exact q1,?_,?_,?_⟩,hGF,q2,q4⟩
  ·exact (o2.mono fun x _ ds H hH hr=>hRm w w' x ds H (grown_kept q2 (o3.sub hH) fun g hg hn=>o4 g hg (hH g hn)) hr).append (hf.mono fun x _ ds H hH hr=>hRm w w' x ds H (grown_kept q2 (hG.sub hH) fun g hg hn=>hvG g hg (hGF g (hH g hn))) hr)
  ·intro b hb
   rcases List.mem_append.1 hb with hb | hb
   ·exact zz9 (o3 b hb) q2.size
   ·exact zz9 (hG b hb) q2.size
  ·intro b hb hbF
   have hb:=zA2.1 hb
   rcases q4 with q4 | q4
   ·rw [q4] at hb
    rcases List.mem_append.1 hbF with h | h
    ·exact o4 b (zA2.2 hb) h
    ·exact hvG b (zA2.2 hb) (hGF b h)
   ·rw [q4] at hb
    obtain rfl:=Option.some.inj hb
    rcases List.mem_append.1 hbF with h | h
    ·exact Nat.lt_irrefl _ (o3 _ h)
    ·exact Nat.lt_irrefl _ (hG _ h)
 obtain ⟨A,c,hv,h1,h2,h3⟩:=id hy
 rcases h3 with ⟨hys,hF⟩ | ⟨b,off,cs1,G,rfl,hc,hf,hF⟩
 ·cases A with
  |none =>
   subst hv
   obtain ⟨A',cap',rfl,hc1,hc2⟩:=hown.form
   refine ⟨.slice A' xs.length cap',w,[],?_,?_,fun b hb=>(by cases hb),⟨rfl,rfl,rfl,zz8 _,fun _ _ _=>rfl⟩,.inl rfl⟩
   ·subst hys
    exact run_append_none t ty E i ht hi A' xs.length cap' c hc1
   ·subst hys
    rw [List.append_nil,List.append_nil]
    exact hown
  |some a=>exact key a c [] [] hv (by subst hys;exact ⟨rfl,rfl⟩) (fun b hb=>by cases hb) (fun j u h=>by simp at h)
 ·exact key ⟨b,off,none⟩ c cs1 G hv hf (fun b hb=>by rw [hF];exact List.mem_cons_of_mem _ hb) (fun j u hj=>by rw [Addr.add_lit];exact hc j u hj)
end
end Go.Proofs.Ytjjclcmmfeegfaa
