/-
  Lemmas, and contracts of functions. Conditions: none.
-/
import Derived.Test.YtjjclcmmfeegfaaHAB
import Derived.Test.YtjjclcmmfeegfaaHAA
import Derived.Test.YtjjclcmmfeegfaaHAC
import Derived.Test.YtjjclcmmfeegfaaHAD
import Derived.Deep.RegionWith
import Derived.Deep.RegionHeld3

set_option linter.unusedVariables false
set_option linter.unusedSimpArgs false
set_option maxRecDepth 100000
set_option maxHeartbeats 1600000

namespace Go.Proofs.Ytjjclcmmfeegfaa
open Go.RowKit
def DrewV (b p n g:Nat) (w:World) (e:Ending) (w':World):Prop:=∃ (v:V) (cs:List Value) (F:List Nat) (q:Nat),e=.returned (.agg cs.toArray)∧VR w' v cs F∧Fresh w w' F∧nodes v≤b∧Rd w' g q∧q≤p+n∧Chg [g] w w'
def GoodK (xs:List Dt) (t:Ty) (N:Nat) (k:Int):Prop:=k∈ctorsL xs t∧mostIn xs (tableL xs) t k≠0∧mostIn xs (tableL xs) t k≤(N:Int)
theorem good_args {xs:List Dt} (hw:WorldOK xs) {t:Ty} (ht:TyIn xs.length t) {N:Nat} {k:Int} (h:GoodK xs t (N+1) k) {a:Ty} (ha:a∈argsOf xs t k):TyIn xs.length a∧depthIn (tableL xs) a≠0∧depthIn (tableL xs) a≤(N:Int):=by
 have hs:=sound_tableL hw
 have hne:=mostGo_ne (tab:=tableL xs) (ls:=argsOf xs t k) (m:=0) h.2.1
 have hp:=(mostGo_pos hs.dpos (Int.le_refl 0) hne).2 a ha
 have h2:mostGo (tableL xs) 0 (argsOf xs t k)=mostIn xs (tableL xs) t k:=rfl
 have h3:=h.2.2
 push_cast at h3
 exact ⟨argsOf_in hw ht h.1 ha,hne a ha,by omega⟩
theorem sizes_snoc' (vs:List V) (v:V) (q b:Nat) (h:V.sizes vs≤q*b) (hv:nodes v≤b):V.sizes (vs ++ [v])≤(q+1)*b:=by
 rw [V.sizes_eq] at h ⊢
 rw [V.subs_snoc,List.length_append,Nat.add_mul]
 unfold nodes at hv
 simp only [List.length_cons,List.length_nil]
 omega
theorem pow4 (N:Nat):1≤4 ^ N∧4 ^ (N+1)=4 ^ N*4:=⟨Nat.one_le_pow _ _ (by omega),Nat.pow_succ ..⟩
theorem pow4_le {N:Nat} (h:N≤8):4 ^ N≤65536:=Nat.le_trans (Nat.pow_le_pow_right (by omega) h) (by decide)
theorem spec_l2Draw:∀ (N:Nat),∀ (_:N≤8) (xs:List Dt) (_:WorldOK xs) (t:Ty) (_:TyIn xs.length t) (_:depthIn (tableL xs) t≠0) (dp:Int) (_:dp≤((N:Nat):Int)) (_:((N:Nat):Int)-30≤dp) (_:depthIn (tableL xs) t≤((N:Nat):Int)) (w:World) (p g:Nat) (x:Value) (F:List Nat) (u:Value) (H:List Nat),Rd w g p→p+4 ^ N≤900000→Arr w (DtR w) xs x F→Under w F→g∉F→Arr w (NatR w) (tableL xs) u H→Under w H→g∉H →
  Calls Try.prog 67 #[.pointer (some ⟨g,0,none⟩),x,u,.agg #[t.d,t.i],.int .i64 dp] w (DrewV (4 ^ N) p (4 ^ N) g w):=by
 intro N
 induction N with
 |zero =>
  intro _ xs hw t ht h0 dp _ _ hn
  exfalso
  have:=(tableL_small hw).dep t
  simp only [Int.natCast_zero] at hn
  omega
 |succ N ih =>
  intro h8 xs hw t ht h0 dp hdp hlo hn w p g x F u H hr hp hx hf hgf hy hh hgh
  have IH:=jj (ih (by omega))
  clear ih
  have hp4:=pow4 N
  have hp48:=pow4_le h8
  have hgl:=hr.lt
  obtain ⟨A,cap,rfl,hc1,hc2⟩:=hx.form
  obtain ⟨U,ucap,rfl,hu1,hu2⟩:=hy.form
  have HR:=jj hr
  have HGF:Hid (∀ b∈F,b∉[g]):=fun b hb h=>hgf (by rw [zy1] at h;rwa [←h])
  have HGH:Hid (∀ b∈H,b∉[g]):=fun b hb h=>hgh (by rw [zy1] at h;rwa [←h])
  have HGf:=jj hgf
  have HGh:=jj hgh
  clear hr hgf hgh
  rcases id ht with hti | ⟨d,i,rfl,hd4,hi4⟩
  ·have t0:(t.d == -1)=true:=by simp [hti]
   have K0:Hid (Blk ((w.alloc (.cells #[t.d,t.i] 25)).alloc (.cells #[(0:Int),(0:Int),.slice none 0 0] 46)) (w.heap.size+1) 46 #[(0:Int),(0:Int),.slice none 0 0]):=zA8 w _ 46 _
   have HB0:Hid (Below w w ((w.alloc (.cells #[t.d,t.i] 25)).alloc (.cells #[(0:Int),(0:Int),.slice none 0 0] 46))):=((zy2 _ _).alloc (zz8 _) _).alloc (by simp) _
   clear hn h0 ht hti hx hf hy hh hlo
   go_enter Try.func67,Try.ntmps67
   go_wp2_with fail
   obtain ⟨W2,hW2⟩:∃ W2,W2=((w.alloc (.cells #[t.d,t.i] 25)).alloc (.cells #[(0:Int),(0:Int),.slice none 0 0] 46)):=⟨_,rfl⟩
   rw [←hW2] at K0 HB0 ⊢
   clear hW2
   have hR2:=HR.out.below HB0.out
   refine (zAE 10 p g W2 hR2 (by omega) (by omega) (by omega)).mono ?_
   rintro e w3 ⟨r,rfl,hr10,hR3,hC3⟩
   have KR:=jj (K0.out.same (hC3.block _ K0.out.lt (by rw [zy1];omega)))
   have HR3:=jj hR3
   have hC:Chg [g] w w3:=(Chg.of_below HB0.out).trans hC3
   have HC:=jj hC
   have rc0:=(KR.out.cell 0).trans (show _=some (.int .i64 0) from by simp)
   have rf0:=KR.out.frozen 0
   have rc1:=(KR.out.cell 1).trans (show _=some (.int .i64 0) from by simp)
   have rf1:=KR.out.frozen 1
   have rc2:=(KR.out.cell 2).trans (show _=some (.slice none 0 0) from by simp)
   have rf2:=KR.out.frozen 2
   have rlt:=KR.out.lt
   clear K0 HB0 hR2 hR3 hC3 hC
   go_wp2
   clear rc0 rf0 rc1 rf1 rc2 rf2 rlt
   refine bodyPost_ret (zA2 rfl _ _ (w.heap.size+1) 46 #[.int .i64 (-1),(r:Int),.slice none 0 0] (0,0) _ rfl (KR.out.three _ _ _) Try.underlying46 rfl rfl) rfl ?_
   refine ⟨⟨-1,(r:Int),[]⟩,[.int .i64 (-1),(r:Int),.slice none 0 0],[],p+1,rfl,(VR_iff _ _ _).2 ⟨_,rfl,Arr.nil⟩,Fresh.nil _ _,by simp [nodes,V.size,V.sizes];omega,?_,by omega,((HC.out.set_new (by omega)).set_new (by omega)).set_new (by omega)⟩
   exact HR3.out.keep fun b hb=>by rw [zz7 _ _ _ _ (by show b≠w.heap.size+1;omega),zz7 _ _ _ _ (by show b≠w.heap.size+1;omega),zz7 _ _ _ _ (by show b≠w.heap.size+1;omega)]
  ·have t0:((d:Int) == -1)=false:=by rw [beq_eq_false_iff_ne];omega
   have hdn:¬(⟨(d:Int),(i:Int)⟩:Ty).d = -1:=by simp only;omega
   obtain ⟨kf,hkf⟩:=least_find hw ht hdn h0
   have HFI:=jj hkf
   have HW:=jj hw
   have HT:=jj ht
   have H0:=jj h0
   have HN:=jj hn
   have HKL:Hid ((ctorsL xs ⟨(d:Int),(i:Int)⟩).length≤4):=by
    have h:=ctorsL_len hw (s:=d*4+i) (by omega)
    rw [tyAt_mk hi4] at h
    exact h
   obtain ⟨i0,hi,hz0,hz1,hz2⟩:=info_parts info_int
   obtain ⟨v0,hvi,hv0,hv1,hv2⟩:=info_parts info_VE
   have HX:=jj hx
   have HF:=jj hf
   have HY:=jj hy
   have HH:=jj hh
   have HI:=jj hi
   have HZ0:=jj hz0
   have HZ1:=jj hz1
   have HZ2:=jj hz2
   have HVI:=jj hvi
   have HV0:=jj hv0
   have HV1:=jj hv1
   have HV2:=jj hv2
   clear hx hf hy hh hi hz0 hz1 hz2 hvi hv0 hv1 hv2
   clear hkf hdn hw ht h0 hn
   go_enter Try.func67,Try.ntmps67
   go_wp2_with fail
   obtain ⟨W2,hW2⟩:∃ W2,W2=((w.alloc (.cells #[(d:Int),(i:Int)] 25)).alloc (.cells #[(0:Int),(0:Int),.slice none 0 0] 46)):=⟨_,rfl⟩
   have hB0:Below w w W2:=by rw [hW2];exact ((zy2 _ _).alloc (zz8 _) _).alloc (by simp) _
   have KT:Hid (Blk W2 w 25 #[(d:Int),(i:Int)]):=by rw [hW2];exact (Blk.new w _ _).same (Below.heap_alloc _ _ _ (by simp))
   have KR:Hid (Blk W2 (w.heap.size+1) 46 #[(0:Int),(0:Int),.slice none 0 0]):=by rw [hW2];exact zA8 w _ _ _
   rw [←hW2]
   clear hW2
   have y0:W2.cell? ⟨w,0,none⟩=(d:Int):=(KT.out.cell 0).trans (by simp)
   have y1:W2.cell? ⟨w,1,none⟩=(i:Int):=(KT.out.cell 1).trans (by simp)
   have ylt:=KT.out.lt
   go_wp2_with fail
   refine (spec_l1Ctors xs ⟨(d:Int),(i:Int)⟩ W2 _ F (ArrDt.below HX.out hB0 HF.out) (HF.out.mono hB0.size) HW.out HT.out.inWorld).mono ?_
   rintro e w3 ⟨v3,F3,rfl,hb3,ha3,-,hfs3⟩
   have hB3:=hB0.trans (hb3.mono hB0.size)
   have KT3:=jj (KT.out.same (hb3.block _ KT.out.lt))
   have KR3:=jj (KR.out.same (hb3.block _ KR.out.lt))
   have HA3:=jj ha3
   have HU3:=jj hfs3.under
   have hW2s:=hB0.size
   have hW3s:=KR3.out.lt
   obtain ⟨C3,cap3,rfl,hl1,hl2⟩:=ha3.form
   have HO3:Hid (Own (w3.alloc (.cells #[] 3)) w3.heap.size 3 1 NatR ([]:List Int) (.slice (some ⟨w3,0,none⟩) 0 0) []):=Own.made w3 w3.heap.size 3 1 NatR #[] 0 (zz8 _) (by simp [maxLen]) rfl
   have HB34:Hid (Below w3 w3 (w3.alloc (.cells #[] 3))):=(zy2 _ _).alloc (zz8 _) _
   clear ha3 hfs3 hb3 KT KR y0 y1 ylt hB0
   go_wp2
   go_loopw [12,13] (fun fv iv wr=>∃ j:Nat,∃ fl:List Int,j≤(ctorsL xs ⟨(d:Int),(i:Int)⟩).length∧iv=.int .i64 j∧Hid (Own wr w3.heap.size 3 1 NatR fl fv [])∧Hid (∀ k∈fl,GoodK xs ⟨(d:Int),(i:Int)⟩ (N+1) k)∧Hid (((ctorsL xs ⟨(d:Int),(i:Int)⟩).drop j).find? (isLeast xs ⟨(d:Int),(i:Int)⟩)=some kf∨fl≠[])∧Hid (fl.length≤j)∧Hid (Below w3 w3 wr)∧w3.heap.size≤wr.heap.size) (fun _ iv _=>(ctorsL xs ⟨(d:Int),(i:Int)⟩).length-(intOf iv).toNat)
   case atStart=>exact ⟨0,[],Nat.zero_le _,rfl,HO3,(fun k hk=>by cases hk),.inl HFI.out,Nat.zero_le _,HB34.out,HB34.out.size⟩
   case round =>
    clear HO3 HB34
    obtain ⟨j,fl,hj,rfl,HO,HGK,HFJ,HFL,HBJ,hws⟩:=hrel
    obtain ⟨wo,hwo⟩:∃ wo,wo=wr:=⟨_,rfl⟩
    rw [←hwo] at HO HBJ hws ⊢
    clear hwo
    obtain ⟨fA,fcap,hfv,hfc1,hfc2⟩:=HO.out.form
    subst hfv
    have hB:=hB3.trans (HBJ.out.mono hB3.size)
    have KTo:=jj (KT3.out.same (HBJ.out.block _ KT3.out.lt))
    have y0:wo.cell? ⟨w,0,none⟩=(d:Int):=(KTo.out.cell 0).trans (by simp)
    have y1:wo.cell? ⟨w,1,none⟩=(i:Int):=(KTo.out.cell 1).trans (by simp)
    have ylt:=KTo.out.lt
    by_cases hjl:j<(ctorsL xs ⟨(d:Int),(i:Int)⟩).length
    ·have g1:(0:Int)≤(j:Int):=by omega
     have g2:(j:Int)<((ctorsL xs ⟨(d:Int),(i:Int)⟩).length:Int):=by omega
     obtain ⟨b3,off3,rfl⟩:=HA3.out.ptr (by omega)
     obtain ⟨hb3l,c3⟩:=ArrNat.at HA3.out HU3.out HBJ.out j hjl
     have hmj:=find_step (p:=isLeast xs ⟨(d:Int),(i:Int)⟩) hjl
     obtain ⟨d',m,e1,hkm,hd',hm⟩:=zB8 HT.out.inWorld (List.getElem_mem hjl)
     obtain rfl:d=d':=Int.ofNat.inj e1
     have hme:(ctorsL xs ⟨(d:Int),(i:Int)⟩)[j]∈(ctorsL xs ⟨(d:Int),(i:Int)⟩):=List.getElem_mem hjl
     rw [hkm] at hmj c3
     rw [hkm] at hme
     have HMJ:=jj hmj
     have HME:=jj hme
     have HIL:Hid (isLeast xs ⟨(d:Int),(i:Int)⟩ (m:Int)=((mostIn xs (tableL xs) ⟨(d:Int),(i:Int)⟩ (m:Int))==(depthIn (tableL xs) ⟨(d:Int),(i:Int)⟩))):=rfl
     have HKJ:=jj hkm
     have HNN:=jj (mostIn_nonneg HW.out ⟨(d:Int),(i:Int)⟩ (m:Int))
     clear hkm e1 hmj hme
     go_wp2_with fail
     have hkeep:Kp wo.heap.size (fun U=>U.cell? ⟨w,0,none⟩=(d:Int)∧U.cell? ⟨w,1,none⟩=(i:Int)∧U.cell? ⟨b3,off3+j,none⟩=(m:Int)):=fun U U' h hUU hU=>⟨(hUU.cell (zz9 (ylt) hU)).trans h.1,(hUU.cell (zz9 (ylt) hU)).trans h.2.1,(hUU.cell (zz9 (hb3l) hU)).trans h.2.2⟩
     have HKeep:=jj hkeep
     clear hkeep
     go_region_held3 (fun w'=>w'.cell? ⟨w,0,none⟩=(d:Int)∧w'.cell? ⟨w,1,none⟩=(i:Int)∧w'.cell? ⟨b3,off3+j,none⟩=(m:Int)) (first | assumption | (exact ⟨y0,y1,c3⟩) | (exact HKeep.out wo.drew w5 ⟨y0,y1,c3⟩ hb5 (zz8 _))) (first | (go_at_call 87;((with_reducible refine (spec_l1Most xs HW.out (tableL xs) (tableL_small HW.out) d i m hd4 hi4 hm _ _ _ F H (ArrDt.below HX.out hB.drew HF.out) (HF.out.mono hB.drew.size) (ArrNat.below HY.out hB.drew HH.out) (HH.out.mono hB.drew.size)).mono ?_);rintro e w5 ⟨rfl,hb5⟩)))
     have hb5u:=zAX hb5
     have hB5:=hB.drew.trans (hb5.mono hB.size)
     have HB35:Hid (Below w3 w3 w5):=HBJ.out.trans (hb5u.mono HBJ.out.size)
     have KT5:=jj (KTo.out.same (hb5u.block _ KTo.out.lt))
     have HO5:Hid (Own w5 w3.heap.size 3 1 NatR fl (.slice fA fl.length fcap) []):=Own.below (fun x cs G hk h=>zAY _ _ x cs G hk h) (w:=wo) HO.out hb5u
     obtain ⟨hb3l5,c35⟩:=ArrNat.at HA3.out HU3.out HB35.out j hjl
     rw [HKJ.out] at c35
     have hws5:=HB35.out.size
     have y0:w5.cell? ⟨w,0,none⟩=(d:Int):=(KT5.out.cell 0).trans (by simp)
     have y1:w5.cell? ⟨w,1,none⟩=(i:Int):=(KT5.out.cell 1).trans (by simp)
     have ylt:=KT5.out.lt
     clear hb5 hb5u c3 hb3l KTo HO HBJ
     obtain ⟨mo,hmo⟩:∃ q,q=(mostIn xs (tableL xs) ⟨(d:Int),(i:Int)⟩ (m:Int)):=⟨_,rfl⟩
     obtain ⟨de,hde⟩:∃ q,q=(depthIn (tableL xs) ⟨(d:Int),(i:Int)⟩):=⟨_,rfl⟩
     rw [←hmo] at HNN HIL ⊢
     rw [←hde] at HIL HN H0
     have HMO:=jj hmo
     have HDE:=jj hde
     clear hmo hde
     have hfl4:fl.length≤4:=by have h1:=HFL.out;have h2:=HKL.out;omega
     by_cases q1:mo>0
     ·have d1:decide (mo>0)=true:=decide_eq_true q1
      have d1':decide (0<mo)=true:=decide_eq_true q1
      by_cases q2:mo≤dp
      ·have d2:decide (mo≤dp)=true:=decide_eq_true q2
       have HG2:Hid (∀ k∈fl ++ [(m:Int)],GoodK xs ⟨(d:Int),(i:Int)⟩ (N+1) k):=fun k hk=>by
        rcases List.mem_append.1 hk with h | h
        ·exact HGK.out k h
        ·rw [zy1] at h
         subst h
         exact ⟨HME.out,by rw [←HMO.out];omega,by rw [←HMO.out];omega⟩
       clear q1 q2
       go_wp2_with (at_builtin;refine Halt.mk ?_)
       refine Halt.of (zA3 (P:=Try.prog) rfl _ _ 72 rfl i0 _ 8 Try.underlying72 HI.out HZ0.out HZ1.out HZ2.out rfl Nat.zero_lt_one NatR_len zAY (by rfl) HO5.out (m:Int) 3 [(m:Int)] [] _ (by rfl) (by simp) (by simp [Value.oneCell']) ⟨rfl,rfl⟩ (Under.nil _) (fun _ _ h=>by cases h) (by unfold maxLen;omega) (by omega) hws5 ?_)
       intro gz cp w8 hown8 hgr8 hat8
       have hrow:=HO5.out.row
       have HB38:Hid (Below w3 w3 w8):=(HB35.out.alloc hws5 _).grown hgr8 (by rw [World.size_alloc];omega) (fun g hg=>(hrow g (zA1.2 hg)).1)
       have HO8:Hid (Own w8 w3.heap.size 3 1 NatR (fl ++ [(m:Int)]) (.slice (some ⟨gz,0,none⟩) (fl ++ [(m:Int)]).length cp) []):=by rw [show (fl ++ [(m:Int)]).length=fl.length+1 from by rw [List.length_append];rfl];exact hown8
       have hws8:=HB38.out.size
       have HL2:Hid ((fl ++ [(m:Int)]).length≤j+1):=by have:=HFL.out;unfold Hid;rw [List.length_append];simp only [List.length_cons,List.length_nil];omega
       clear hown8 hgr8 hat8 hrow c35 hb3l5 y0 y1 ylt
       go_wp2
       go_roundw
       case rel=>exact ⟨j+1,fl ++ [(m:Int)],hjl,by go_num,(by rw [show (fl ++ [(m:Int)]).length=fl.length+1 from by rw [List.length_append];rfl] at HO8;exact HO8),HG2,.inr (by simp),HL2,HB38,hws8⟩
       case measure=>(simp [intOf] <;> omega)
      ·have d2:decide (mo≤dp)=false:=decide_eq_false q2
       go_wp2_with fail
       refine (spec_l1Depth xs.length HW.out.len (tableL xs) (tableL_small HW.out) ⟨(d:Int),(i:Int)⟩ HT.out w5 _ H (ArrNat.below HY.out hB5 HH.out) (HH.out.mono hB5.size)).mono ?_
       rintro e w6 ⟨rfl,hb6⟩
       rw [←HDE.out]
       have hB6:=hB5.trans (hb6.mono hB5.size)
       have HB36:Hid (Below w3 w3 w6):=HB35.out.trans (hb6.mono HB35.out.size)
       have HO6:Hid (Own w6 w3.heap.size 3 1 NatR fl (.slice fA fl.length fcap) []):=Own.below (fun x cs G hk h=>zAY _ _ x cs G hk h) (w:=w5) HO5.out hb6
       have hws6:=HB36.out.size
       obtain ⟨hb3l6,c36⟩:=ArrNat.at HA3.out HU3.out HB36.out j hjl
       rw [HKJ.out] at c36
       have KT6:=jj (KT5.out.same (hb6.block _ KT5.out.lt))
       clear hb6 c35 hb3l5 y0 y1 ylt KT5 HO5 HB35
       cases q3:(mo==de) with
       |false =>
        have HF2:Hid ((((ctorsL xs ⟨(d:Int),(i:Int)⟩).drop (j+1)).find? (isLeast xs ⟨(d:Int),(i:Int)⟩)=some kf)∨fl≠[]):=by
         rcases HFJ.out with h1 | h1
         ·rw [HMJ.out,HIL.out,q3,if_neg (by simp)] at h1
          exact .inl h1
         ·exact .inr h1
        clear q1 q2
        go_wp2
        go_roundw
        case rel=>exact ⟨j+1,fl,hjl,by go_num,HO6,HGK,HF2,by have:=HFL.out;unfold Hid;omega,HB36,hws6⟩
        case measure=>(simp [intOf] <;> omega)
       |true =>
        have HG2:Hid (∀ k∈fl ++ [(m:Int)],GoodK xs ⟨(d:Int),(i:Int)⟩ (N+1) k):=fun k hk=>by
         rcases List.mem_append.1 hk with h | h
         ·exact HGK.out k h
         ·rw [zy1] at h
          subst h
          have h3:=eq_of_beq q3
          have h4:=HN.out
          exact ⟨HME.out,by rw [←HMO.out];omega,by rw [←HMO.out];omega⟩
        clear q1 q2
        go_wp2_with (at_builtin;refine Halt.mk ?_)
        refine Halt.of (zA3 (P:=Try.prog) rfl _ _ 72 rfl i0 _ 8 Try.underlying72 HI.out HZ0.out HZ1.out HZ2.out rfl Nat.zero_lt_one NatR_len zAY (by rfl) HO6.out (m:Int) 3 [(m:Int)] [] _ (by rfl) (by simp) (by simp [Value.oneCell']) ⟨rfl,rfl⟩ (Under.nil _) (fun _ _ h=>by cases h) (by unfold maxLen;omega) (by omega) hws6 ?_)
        intro gz cp w8 hown8 hgr8 hat8
        have hrow:=HO6.out.row
        have HB38:Hid (Below w3 w3 w8):=(HB36.out.alloc hws6 _).grown hgr8 (by rw [World.size_alloc];omega) (fun g hg=>(hrow g (zA1.2 hg)).1)
        have HO8:Hid (Own w8 w3.heap.size 3 1 NatR (fl ++ [(m:Int)]) (.slice (some ⟨gz,0,none⟩) (fl ++ [(m:Int)]).length cp) []):=by rw [show (fl ++ [(m:Int)]).length=fl.length+1 from by rw [List.length_append];rfl];exact hown8
        have hws8:=HB38.out.size
        have HL2:Hid ((fl ++ [(m:Int)]).length≤j+1):=by have:=HFL.out;unfold Hid;rw [List.length_append];simp only [List.length_cons,List.length_nil];omega
        clear hown8 hgr8 hat8 hrow c36 hb3l6
        go_wp2
        go_roundw
        case rel=>exact ⟨j+1,fl ++ [(m:Int)],hjl,by go_num,(by rw [show (fl ++ [(m:Int)]).length=fl.length+1 from by rw [List.length_append];rfl] at HO8;exact HO8),HG2,.inr (by simp),HL2,HB38,hws8⟩
        case measure=>(simp [intOf] <;> omega)
     ·have d1:decide (mo>0)=false:=decide_eq_false q1
      have d1':decide (0<mo)=false:=decide_eq_false q1
      have HF2:Hid ((((ctorsL xs ⟨(d:Int),(i:Int)⟩).drop (j+1)).find? (isLeast xs ⟨(d:Int),(i:Int)⟩)=some kf)∨fl≠[]):=by
       rcases HFJ.out with h1 | h1
       ·have h0:=H0.out
        have hnn:=HNN.out
        rw [HMJ.out,HIL.out,if_neg (by rw [beq_iff_eq];omega)] at h1
        exact .inl h1
       ·exact .inr h1
      clear q1
      go_wp2
      go_roundw
      case rel=>exact ⟨j+1,fl,hjl,by go_num,HO5,HGK,HF2,by have:=HFL.out;unfold Hid;omega,HB35,hws5⟩
      case measure=>(simp [intOf] <;> omega)
    ·have hne:fl≠[]:=by
      rcases HFJ.out with h1 | h1
      ·rw [find_end (by omega)] at h1;cases h1
      ·exact h1
     have hfl1:1≤fl.length:=by cases fl with | nil=>exact absurd rfl hne | cons a l=>simp
     have hfl4:fl.length≤4:=by have h1:=HFL.out;have h2:=HKL.out;omega
     have harr:=HO.out.arr
     rw [if_neg hne] at harr
     have HAF:=jj harr
     have HAU:Hid (∀ b∈rowOf (.slice fA fl.length fcap) ++ [],w3.heap.size≤b∧b<wo.heap.size):=fun b hb=>HO.out.row b (by simpa using hb)
     have KRo:=jj (KR3.out.same (HBJ.out.block _ KR3.out.lt))
     have HRo:=jj (HR.out.below hB)
     clear harr hne
     go_wp2_with fail
     refine (zAE fl.length p g wo HRo.out (by omega) hfl1 (by omega)).mono ?_
     rintro e w6 ⟨r,rfl,hrl,hR6,hC6⟩
     have hg1:∀ b,g<b→b∉[g]:=fun b hb h=>by rw [zy1] at h;omega
     have HG1:=jj hg1
     clear hg1
     have KT6:=jj (KTo.out.same (hC6.block _ KTo.out.lt (HG1.out _ hgl)))
     have KR6:=jj (KRo.out.same (hC6.block _ KRo.out.lt (HG1.out _ (by omega))))
     have HC6:Hid (Chg [g] w w6):=(Chg.of_below hB).trans hC6
     have hz6:=hC6.size
     have hAF6:Arr w6 (NatR w6) fl (.slice fA fl.length fcap) (rowOf (.slice fA fl.length fcap) ++ []):=ArrNat.kept HAF.out (hC6.kept (fun b hb=>(HAU.out b hb).2) (fun b hb=>HG1.out _ (by have:=(HAU.out b hb).1;omega)))
     obtain ⟨bf,offf,rfl⟩:=hAF6.ptr (by omega)
     obtain ⟨hbfl,cf⟩:=ArrNat.at hAF6 (fun b hb=>zz9 (HAU.out b hb).2 hz6) (zy2 _ _) r hrl
     have hgk:=HGK.out fl[r] (List.getElem_mem hrl)
     obtain ⟨d',m,e1,hkm,hd',hm⟩:=zB8 HT.out.inWorld hgk.1
     obtain rfl:d=d':=Int.ofNat.inj e1
     rw [hkm] at cf hgk
     have HGM:=jj hgk
     have HR6:=jj hR6
     have g1:(0:Int)≤(r:Int):=by omega
     have g2:(r:Int)<(fl.length:Int):=by omega
     have hal:=argsOf_get (i:=(i:Int)) hd4 hm
     have HAL:Hid (∀ a∈argsL xs[d].ctors[m] (i:Int),TyIn xs.length a∧depthIn (tableL xs) a≠0∧depthIn (tableL xs) a≤((N:Nat):Int)):=fun a ha=>good_args HW.out HT.out HGM.out (by rw [hal];exact ha)
     have hl3:(argsL xs[d].ctors[m] (i:Int)).length≤3:=by rw [argsL_len];exact (HW.out.ctor hd4 hm).args
     have hca:=(HW.out.ctor hd4 hm).args
     clear hkm e1 hgk hR6 hC6 hAF6 hal y0 y1 ylt KTo KRo hB HO HAF HAU
     have y0:w6.cell? ⟨w,0,none⟩=(d:Int):=(KT6.out.cell 0).trans (by simp)
     have y1:w6.cell? ⟨w,1,none⟩=(i:Int):=(KT6.out.cell 1).trans (by simp)
     have ylt:=KT6.out.lt
     go_wp2_with fail
     clear y0 y1 ylt cf hbfl
     have hD0:=HC6.out.size
     obtain ⟨wn,hwn⟩:∃ wn,wn=w6.alloc (.cells #[(m:Int),(0:Int),.slice none 0 0] 46):=⟨_,rfl⟩
     have hbn:Below w6 w6 wn:=by rw [hwn];exact (zy2 _ _).alloc (zz8 _) _
     have KN:Hid (Blk wn w6 46 #[(m:Int),(0:Int),.slice none 0 0]):=by rw [hwn];exact Blk.new _ _ _
     rw [←hwn]
     clear hwn
     obtain ⟨D,hD⟩:∃ D,D=w6.heap.size:=⟨_,rfl⟩
     rw [←hD] at KN hbn hD0 hz6 ⊢
     have HCn:Hid (Chg [g] w wn):=HC6.out.trans (.of_below (by rw [←hD];exact hbn))
     have KRn:=jj (KR6.out.same (hbn.block _ (by rw [hD];exact KR6.out.lt)))
     have HRn:=jj (HR6.out.keep (w':=wn) (fun b hb=>hbn.block b (by omega)))
     clear hbn HC6 KT6 HR6 KR6 hD
     refine (spec_l1Args xs d m (i:Int) hd4 hm wn _ F (HX.out.mono (HCn.out.kept HF.out HGF.out) fun y _ cs G hk h=>DtR.mono y cs G hk h) (HF.out.mono HCn.out.size) hca).mono ?_
     rintro e w9 ⟨v7,F7,rfl,hb7,ha7,-,hfs7⟩
     have KN9:=jj (KN.out.same (hb7.block _ KN.out.lt))
     have KR9:=jj (KRn.out.same (hb7.block _ KRn.out.lt))
     have HC9:Hid (Chg [g] w w9):=HCn.out.step hb7
     have HR9:=jj (HRn.out.below hb7)
     have HA7:=jj ha7
     have HU7:=jj hfs7.under
     have HL7:Hid (∀ b∈F7,D<b):=fun b hb=>zz9 KN.out.lt (hfs7 b hb).1
     have hDw:D<w9.heap.size:=KN9.out.lt
     have hk3:=KR3.out.lt
     obtain ⟨C7,cap7,rfl,hl71,hl72⟩:=ha7.form
     obtain ⟨Bz,hBz⟩:∃ B,B=w9.heap.size:=⟨_,rfl⟩
     have HBZ:=jj hBz
     have hDB:D<Bz:=by rw [hBz];exact hDw
     have hwsD:w3.heap.size≤D:=by omega
     clear ha7 hfs7 hb7 KN HCn KRn HRn hBz
     generalize (argsL xs[d].ctors[m] (i:Int))=ls at *
     go_wp2
     go_loopw [17] (fun iv wr=>∃ q:Nat,∃ kv:Value,∃ Fk:List Nat,∃ vs:List V,∃ pq:Nat,q≤ls.length∧iv=.int .i64 q∧Hid (vs.length=q)∧Hid (V.sizes vs≤q*4 ^ N)∧Hid (Blk wr D 46 #[(m:Int),(0:Int),kv])∧Hid (Own wr Bz 46 3 VR vs kv Fk)∧Hid (∀ b∈Fk,Bz≤b)∧Hid (Chg [D,g] w9 wr)∧Hid (Chg [g] w wr)∧w9.heap.size≤wr.heap.size∧Hid (Rd wr g pq)∧pq≤p+1+q*4 ^ N) (fun iv _=>ls.length-(intOf iv).toNat)
     case atStart=>exact ⟨0,_,[],[],p+1,Nat.zero_le _,rfl,rfl,Nat.zero_le _,KN9,Own.nil _ _ _ _ _,(fun b hb=>by cases hb),Chg.refl _ _,HC9,zz8 _,HR9,by omega⟩
     case round =>
      clear HC9 KN9 HR9
      obtain ⟨q,kv,Fk,vs,pq,hql,rfl,HVL,HVS,KD,HO,HFh,HC,HCw,hws9,HRq,hpq⟩:=hrel
      obtain ⟨kA,kcap,hkv,hkc1,hkc2⟩:=HO.out.form
      subst hkv
      have klt:=KD.out.lt
      have HA7r:Hid (Arr wr (TyR wr) ls (.slice C7 ls.length cap7) F7):=HA7.out.mono (HC.out.kept HU7.out (fun b hb h=>by have h1:=HL7.out b hb;rcases List.mem_cons.1 h with h2 | h2;omega;rw [zy1] at h2;omega)) (fun y _ cs G _ h=>h)
      have HU7r:Hid (Under wr F7):=HU7.out.mono HC.out.size
      by_cases hil:q<ls.length
      ·have g1:(0:Int)≤(q:Int):=by omega
       have g2:(q:Int)<(ls.length:Int):=by omega
       obtain ⟨b7,off7,rfl⟩:=HA7r.out.ptr (by omega)
       have hb7z:D<b7∧b7<Bz:=by
        obtain ⟨_,_,_,_,e,hb,-⟩:=HA7r.out.get TyR_len hil
        cases e
        exact ⟨HL7.out _ hb,by have:=HU7.out _ hb;rw [HBZ.out];exact this⟩
       obtain ⟨hb7w,k0,k1⟩:=ArrTy.at HA7r.out HU7r.out (zy2 _ _) q hil
       have ha:=HAL.out ls[q] (List.getElem_mem hil)
       have hvl:=HVL.out
       have hvl3:vs.length≤3:=by omega
       clear hvl
       have HA1:=jj ha
       clear ha
       obtain ⟨aq,haq⟩:∃ a,a=ls[q]:=⟨_,rfl⟩
       rw [←haq] at HA1 k0 k1
       clear haq
       have hmx:vs.length+1≤maxLen:=by unfold maxLen;omega
       have hby:(vs.length+1)*40≤140737488355328:=by omega
       have hmul:q*4 ^ N≤2*4 ^ N:=Nat.mul_le_mul_right _ (by omega)
       have hmul1:(q+1)*4 ^ N=q*4 ^ N+4 ^ N:=by rw [Nat.add_mul];omega
       have zT:wr.drew.cell? ⟨D,2,none⟩=some (.slice kA vs.length kcap):=(KD.out.cell 2).trans (by simp)
       have zfT:wr.drew.frozen? ⟨D,2,none⟩=false:=KD.out.frozen 2
       have hkT:D<wr.drew.heap.size:=klt
       have hb7':b7<wr.drew.heap.size:=hb7w
       have hDg:D∉[g]:=HG1.out _ (by omega)
       have hb7g:b7∉[g]:=HG1.out _ (by omega)
       have hdw:IntKind.i64.wrap (dp-1)=dp-1:=IntWalk.i64_in _ (by omega)
       have HCd:=jj (HCw.out.drew)
       have HCALL:=jj (IH.out xs HW.out aq HA1.out.1 HA1.out.2.1 (dp-1) (by push_cast at hdp;omega) (by push_cast at hlo;omega) HA1.out.2.2 wr.drew pq g _ F _ H HRq.out.drew (by omega) (HX.out.mono (HCd.out.kept HF.out HGF.out) fun y _ cs G hk h=>DtR.mono y cs G hk h) (HF.out.mono HCd.out.size) HGf.out (HY.out.mono (HCd.out.kept HH.out HGH.out) fun _ _ _ _ _ h=>h) (HH.out.mono HCd.out.size) HGh.out)
       go_wp2_with fail
       refine zA6 (S:=fun w'=>w'.cell? ⟨b7,off7+q*2,none⟩=aq.d∧w'.cell? ⟨b7,off7+q*2+1,none⟩=aq.i) (T:=fun w'=>w'.cell? ⟨D,2,none⟩=some (.slice kA vs.length kcap)) (d:=13) (by kernel_rfl) ?_
       have hS1:wr.drew.cell? ⟨b7,off7+q*2,none⟩=aq.d∧wr.drew.cell? ⟨b7,off7+q*2+1,none⟩=aq.i:=⟨k0,k1⟩
       have hT1:wr.drew.cell? ⟨D,2,none⟩=some (.slice kA vs.length kcap):=zT
       refine wV 0 rfl hS1 hT1 ?_
       (try simp only [Act.put,zz4,zz5,zz6])
       refine zAM (i:=1) (v:=?_) rfl (by decide) rfl (by kernel_rfl) (by kernel_rfl) (by kernel_rfl) (by kernel_rfl) (fun _ _ _ h=>h) (Or.inl ⟨by rfl,?hy1⟩) (by rfl) hS1 hT1 ?_
       case hy1=>(intro W hSw;(try dsimp only at hSw);(obtain ⟨⟨s0,s1⟩,tT⟩:=hSw);go_simp;try with_reducible rfl)
       (try simp only [Act.put,zz4,zz5,zz6])
       refine wV 2 rfl hS1 hT1 ?_
       (try simp only [Act.put,zz4,zz5,zz6])
       refine wV 3 rfl hS1 hT1 ?_
       (try simp only [Act.put,zz4,zz5,zz6])
       refine wV 4 rfl hS1 hT1 ?_
       (try simp only [Act.put,zz4,zz5,zz6])
       refine wV 5 rfl hS1 hT1 ?_
       (try simp only [Act.put,zz4,zz5,zz6])
       refine wV 6 rfl hS1 hT1 ?_
       (try simp only [Act.put,zz4,zz5,zz6])
       refine wV 7 rfl hS1 hT1 ?_
       (try simp only [Act.put,zz4,zz5,zz6])
       refine wV 8 rfl hS1 hT1 ?_
       (try simp only [Act.put,zz4,zz5,zz6])
       refine wV 9 rfl hS1 hT1 ?_
       (try simp only [Act.put,zz4,zz5,zz6])
       refine wV 10 rfl hS1 hT1 ?_
       (try simp only [Act.put,zz4,zz5,zz6])
       refine w1 11 rfl fun K hK=>?_
       go_simp
       go_at_call 67
       with_reducible refine HCALL.out.mono ?_
       rintro e wA ⟨vA,csA,FA,qA,rfl,hpA,hfsA,hnA,hRA,hqA,hbA⟩
       obtain ⟨kvA,rfl,haA⟩:=(VR_iff _ _ _).1 hpA
       obtain ⟨A8,cap8,rfl,-,-⟩:=haA.form
       clear haA
       have HBu:Hid (Chg [g] wr wA):=hbA.undrew
       have HPA:=jj hpA
       have HRA:=jj hRA
       have HNA:=jj hnA
       have HFsA:Hid (∀ b∈FA,wr.heap.size≤b∧b<wA.heap.size):=fun b hb=>⟨(hfsA b hb).1,(hfsA b hb).2⟩
       have HOA:Hid (Own wA Bz 46 3 VR vs (.slice kA vs.length kcap) Fk):=HO.out.chg VR_mono' HBu.out (fun b hb=>by rw [zy1] at hb;omega) HFh.out
       have hbs:Bz≤wA.heap.size:=by have h1:=HBu.out.size;have h2:=HBZ.out;omega
       clear hpA hRA hnA hfsA
       have hSA:wA.cell? ⟨b7,off7+q*2,none⟩=aq.d∧wA.cell? ⟨b7,off7+q*2+1,none⟩=aq.i:=⟨(hbA.cell (p:=⟨b7,off7+q*2,none⟩) hb7' hb7g).trans k0,(hbA.cell (p:=⟨b7,off7+q*2+1,none⟩) hb7' hb7g).trans k1⟩
       have zA:wA.cell? ⟨D,2,none⟩=some (.slice kA vs.length kcap):=(hbA.cell (p:=⟨D,2,none⟩) hkT hDg).trans zT
       have zfA:wA.frozen? ⟨D,2,none⟩=false:=(hbA.frozen hkT hDg).trans zfT
       have hkA:D<wA.heap.size:=zz9 hkT hbA.size
       have kl1:b7<wA.heap.size:=zz9 hb7' hbA.size
       have kl2:b7<wA.heap.size:=zz9 hb7' hbA.size
       have hSB:(wA.alloc (.cells [.int .i64 vA.c,.int .i64 vA.n,.slice A8 vA.ks.length cap8].toArray 46)).cell? ⟨b7,off7+q*2,none⟩=aq.d∧(wA.alloc (.cells [.int .i64 vA.c,.int .i64 vA.n,.slice A8 vA.ks.length cap8].toArray 46)).cell? ⟨b7,off7+q*2+1,none⟩=aq.i:=⟨(World.cell?_alloc_lt _ _ _ kl1).trans hSA.1,(World.cell?_alloc_lt _ _ _ kl2).trans hSA.2⟩
       dsimp only
       refine hK.out _ _ hSA (fun _=>zA) ?_
       clear hK K
       (try simp only [Act.put,zz4,zz5,zz6])
       refine w1 12 rfl fun K hK=>?_
       go_simp
       refine hK.out _ _ hSB (fun _=>(World.cell?_alloc_lt _ _ _ hkA).trans zA) ?_
       clear hK K
       (try simp only [Act.put,zz4,zz5,zz6])
       refine w1 13 rfl fun K hK=>?_
       refine zAF (P:=Try.prog) rfl _ _ 44 rfl v0 _ 40 Try.underlying44 HVI.out HV0.out HV1.out HV2.out rfl (by decide) VR_len' VR_mono' (by rfl) HOA.out vA 46 [vA.c,vA.n,.slice A8 vA.ks.length cap8] FA wA.heap.size (by rfl) rfl (by simp [Value.oneCell']) HPA.out (fun b hb=>(HFsA.out b hb).2) (fun g hg hG=>Nat.lt_irrefl _ (zz9 (HO.out.row g hg).2 (HFsA.out g hG).1)) hmx hby hbs ?_
       intro g cp w7 hown7 hgr7 hat7
       have hrow7:=HOA.out.row
       have n7:∀ x,(x<Bz∨wr.heap.size≤x)→some x≠(Value.ownBlock (.slice kA vs.length kcap)):=fun x hx e=>by
        have h1:=(hrow7 x (zA1.2 e.symm)).1
        have h2:=(HO.out.row x (zA1.2 e.symm)).2
        omega
       have l7:wA.heap.size≤(wA.alloc (.cells [.int .i64 vA.c,.int .i64 vA.n,.slice A8 vA.ks.length cap8].toArray 46)).heap.size:=by rw [World.size_alloc];exact Nat.le_succ _
       have s7:w7.cell? ⟨b7,off7+q*2,none⟩=aq.d∧w7.cell? ⟨b7,off7+q*2+1,none⟩=aq.i:=⟨(World.grownBy.cell_far hgr7 ⟨b7,off7+q*2,none⟩ (zz9 kl1 l7) (n7 (b7) (by omega))).trans hSB.1,(World.grownBy.cell_far hgr7 ⟨b7,off7+q*2+1,none⟩ (zz9 kl2 l7) (n7 (b7) (by omega))).trans hSB.2⟩
       have z71:w7.cell? ⟨D,2,none⟩=some (.slice kA vs.length kcap):=(World.grownBy.cell_far hgr7 ⟨D,2,none⟩ (zz9 hkA l7) (n7 (D) (by omega))).trans ((World.cell?_alloc_lt _ _ _ hkA).trans zA)
       have zf71:w7.frozen? ⟨D,2,none⟩=false:=(World.grownBy.frozen_far hgr7 ⟨D,2,none⟩ (zz9 hkA l7) (n7 (D) (by omega))).trans (Eq.trans (World.frozen?_of_block (Below.heap_alloc _ _ _ hkA)) zfA)
       refine hK.out _ _ s7 (fun h=>by cases h) ?_
       clear hK K
       (try simp only [Act.put,zz4,zz5,zz6])
       refine wU (i:=14) (v:=?_) rfl (Or.inl ⟨by rfl,?hy14⟩) s7 (fun h=>by cases h) ?_
       case hy14=>(intro W hSw;(try dsimp only at hSw);(obtain ⟨s0,s1⟩:=hSw);go_simp;try with_reducible rfl)
       (try simp only [Act.put,zz4,zz5,zz6])
       refine w1 15 rfl fun K hK=>?_
       go_simp
       refine hK.out _ _ ⟨(World.cell?_setCell_far _ _ _ _ (by show D≠b7;omega)).trans s7.1,(World.cell?_setCell_far _ _ _ _ (by show D≠b7;omega)).trans s7.2⟩ (fun h=>by cases h) ?_
       clear hK K
       (try simp only [Act.put,zz4,zz5,zz6])
       refine wE (by kernel_rfl) ?_
       obtain ⟨r1,r2,r3,r4,r5,r6,r7⟩:=kid_round3 (w:=w) 2 VR_mono' HBZ.out.symm hDB hgl (by omega) KD.out HO.out HFh.out HC.out HCw.out HBu.out HFsA.out hown7 hgr7 HRA.out
       have R1:=jj r1
       have R2:=jj r2
       have R3:=jj r3
       have R4:=jj r4
       have R5:=jj r5
       have R7:=jj r7
       have HV2:Hid ((vs ++ [vA]).length=q+1):=by have:=HVL.out;unfold Hid;rw [List.length_append];simp only [List.length_cons,List.length_nil];omega
       have HS2:Hid (V.sizes (vs ++ [vA])≤(q+1)*4 ^ N):=sizes_snoc' vs vA q _ HVS.out HNA.out
       clear r1 r2 r3 r4 r5 r7 hown7 hgr7 hat7 hrow7 n7 l7 s7 z71 zf71 hSA zA zfA hkA hSB hS1 hT1 zT zfT hkT HCALL
       go_wp2
       go_roundw
       case rel=>exact ⟨q+1,_,_,vs ++ [vA],qA,hil,by go_num,HV2,HS2,R1,(by rw [show (vs ++ [vA]).length=vs.length+1 from by rw [List.length_append];rfl] at *;exact R2),R3,R4,R5,r6,R7,by omega⟩
       case measure=>(simp [intOf] <;> omega)
      ·have hq:q=ls.length:=by omega
       obtain ⟨FF,hf1,hf3⟩:=kid_done3 (H:=Bz) HO.out HFh.out (zz8 _)
       have HF1:=jj hf1
       have HF3:=jj hf3
       have e0:=(KD.out.cell 0).trans (show _=some (.int .i64 (m:Int)) from by simp)
       have e1:=(KD.out.cell 1).trans (show _=some (.int .i64 0) from by simp)
       have e2:=(KD.out.cell 2).trans (show _=some (.slice kA vs.length kcap) from by simp)
       have RR:=jj (KR9.out.same (HC.out.block _ KR9.out.lt (by intro h;rcases List.mem_cons.1 h with h2 | h2;omega;rw [zy1] at h2;omega)))
       have hmul:q*4 ^ N≤3*4 ^ N:=Nat.mul_le_mul_right _ (by omega)
       have HPQ:Hid (pq≤p+4 ^ (N+1)):=by unfold Hid;omega
       have HSZ:Hid (nodes ⟨(m:Int),0,vs⟩≤4 ^ (N+1)):=by have:=HVS.out;unfold Hid nodes;rw [V.size];omega
       have rc0:=(RR.out.cell 0).trans (show _=some (.int .i64 0) from by simp)
       have rf0:=RR.out.frozen 0
       have rc1:=(RR.out.cell 1).trans (show _=some (.int .i64 0) from by simp)
       have rf1:=RR.out.frozen 1
       have rc2:=(RR.out.cell 2).trans (show _=some (.slice none 0 0) from by simp)
       have rf2:=RR.out.frozen 2
       have rlt:=RR.out.lt
       clear hf1 hf3 hq
       go_wp2
       clear e0 e1 e2 rc0 rf0 rc1 rf1 rc2 rf2 rlt
       refine bodyPost_ret (zA2 rfl _ _ (w.heap.size+1) 46 #[(m:Int),(0:Int),.slice kA vs.length kcap] (0,0) _ rfl (RR.out.three _ _ _) Try.underlying46 rfl rfl) rfl ?_
       have hkp:Kept FF wr _:=kept_three (w:=wr) (H:=w.heap.size+1) (fun b hb=>by have:=(HF3.out b hb).1;omega) (.int .i64 (m:Int)) (.int .i64 0) (.slice kA vs.length kcap)
       refine ⟨⟨(m:Int),0,vs⟩,[(m:Int),(0:Int),.slice kA vs.length kcap],FF,pq,rfl,(VR_iff _ _ _).2 ⟨_,rfl,ArrV.mono HF1.out hkp⟩,fun b hb=>⟨by have:=(HF3.out b hb).1;omega,by rw [size_three];exact (HF3.out b hb).2⟩,HSZ.out,?_,HPQ.out,((HCw.out.set_new (by omega)).set_new (by omega)).set_new (by omega)⟩
       exact HRq.out.keep fun b hb=>by rw [zz7 _ _ _ _ (by show b≠w.heap.size+1;omega),zz7 _ _ _ _ (by show b≠w.heap.size+1;omega),zz7 _ _ _ _ (by show b≠w.heap.size+1;omega)]
theorem zAH {P:Program} {fn:Func} {u p1 p2:Tmp} {ty1 ty2:TypeId} (h:fn.results=#[.tmp u,.cell p1 ty1,.cell p2 ty2]) (tmps:Array Value) (w:World) (g1 g2:Nat) (t1 t2:TypeId) (cs1 cs2:Array Value) (fr1 fr2:Nat×Nat) (d1 d2:TypeDesc)
  (hp1:tmps.getD p1 undef=.pointer (some ⟨g1,0,none⟩)) (hg1:w.heap[g1]?=some (.cells cs1 t1 fr1)) (hu1:P.underlying ty1=some d1) (hd1:(match d1 with | .struct _ | .array _ _=>true | _=>false)=true) (hi1:(P.info? ty1).map (·.size)=some cs1.size)
  (hp2:tmps.getD p2 undef=.pointer (some ⟨g2,0,none⟩)) (hg2:w.heap[g2]?=some (.cells cs2 t2 fr2)) (hu2:P.underlying ty2=some d2) (hd2:(match d2 with | .struct _ | .array _ _=>true | _=>false)=true) (hi2:(P.info? ty2).map (·.size)=some cs2.size) :
  (results fn tmps).run P w=.ok (.tuple #[tmps.getD u undef,.agg cs1,.agg cs2]) w:=by
 have hp1':tmps[p1]?.getD undef=.pointer (some ⟨g1,0,none⟩):=by simpa using hp1
 have hp2':tmps[p2]?.getD undef=.pointer (some ⟨g2,0,none⟩):=by simpa using hp2
 simp [results,h,hp1',hp2',asAddr,run_loadVar_row w g1 t1 ty1 cs1 fr1 d1 hg1 hu1 hd1 hi1,run_loadVar_row w g2 t2 ty2 cs2 fr2 d2 hg2 hu2 hd2 hi2]
theorem pow44:4 ^ 4=256:=by decide
def smallTab (xs:List Dt):Bool:=(tableL xs).all fun x=>decide (x≤4)
theorem seven_tab:sevenT.all (fun t=>match parseW t with | some xs=>smallTab xs | none=>false)=true:=by decide +kernel
theorem seven_small {t:List UInt8} (h:t∈sevenT):∃ xs,parseB (bs t)=some xs∧worldOk xs=true∧0<xs.length∧smallTab xs=true:=by
 obtain ⟨xs,h1,h2,h3⟩:=fineW_ex (List.all_eq_true.1 sevenT_fine t h)
 have h4:=List.all_eq_true.1 seven_tab t h
 rw [h1] at h4
 obtain ⟨ys,g1,g2,g3⟩:=seven_parse h
 have hb:parseB (bs t)=parseW t:=by first | rfl | (unfold parseB;simp [bs_toList]) | (unfold parseB;rfl)
 exact ⟨xs,hb.trans h1,h2,h3,h4⟩
theorem depth_small {xs:List Dt} (h:smallTab xs=true) (t:Ty):depthIn (tableL xs) t≤4:=by
 unfold depthIn
 split
 ·omega
 ·unfold smallTab at h
  rw [List.all_eq_true] at h
  rw [List.getD_eq_getElem?_getD]
  cases e:(tableL xs)[slotOf t]? with
  |none=>simp
  |some x =>
   have:=h x (List.mem_of_getElem? e)
   simpa using this
structure TypedOk (xs:List Dt) (t:Ty):Prop where
 ok:worldOk xs=true
 pos:0<xs.length
 small:smallTab xs=true
 ty:typeOkB xs.length t=true
 dep:depthIn (tableL xs) t≠0
def DrewTyped (p n g:Nat) (w:World) (e:Ending) (w':World):Prop:=∃ (xs:List Dt) (v:Value) (F:List Nat) (t:Ty) (a:V) (cs:List Value) (G:List Nat) (q:Nat),e=.returned (.tuple #[v,.agg #[t.d,t.i],.agg cs.toArray])∧TypedOk xs t∧Arr w' (DtR w') xs v F∧Fresh w w' F∧VR w' a cs G∧Fresh w w' G∧nodes a≤256∧Rd w' g q∧q≤p+n∧Chg [g] w w'
theorem spec_l2Typed (p g:Nat) (w:World) (h:Rd w g p) (hp:p≤800000) :
  Calls Try.prog 44 #[.pointer (some ⟨g,0,none⟩)] w (DrewTyped p 300 g w):=by
 have hgl:=h.lt
 have hB0:Below w w ((w.alloc (.cells #[(0:Int),(0:Int)] 25)).alloc (.cells #[(0:Int),(0:Int),.slice none 0 0] 46)):=((zy2 _ _).alloc (zz8 _) _).alloc (by simp) _
 have HR0:Hid (Rd ((w.alloc (.cells #[(0:Int),(0:Int)] 25)).alloc (.cells #[(0:Int),(0:Int),.slice none 0 0] 46)) g p):=h.below hB0
 have KT0:Hid (Blk ((w.alloc (.cells #[(0:Int),(0:Int)] 25)).alloc (.cells #[(0:Int),(0:Int),.slice none 0 0] 46)) w.heap.size 25 #[(0:Int),(0:Int)]):=(Blk.new w _ _).same (Below.heap_alloc _ _ _ (by simp))
 have KV0:Hid (Blk ((w.alloc (.cells #[(0:Int),(0:Int)] 25)).alloc (.cells #[(0:Int),(0:Int),.slice none 0 0] 46)) (w.heap.size+1) 46 #[(0:Int),(0:Int),.slice none 0 0]):=zA8 w _ 46 _
 have hz0:((w.alloc (.cells #[(0:Int),(0:Int)] 25)).alloc (.cells #[(0:Int),(0:Int),.slice none 0 0] 46)).heap.size=w.heap.size+2:=by simp
 clear h
 go_enter Try.func44,Try.ntmps44
 go_wp2_with fail
 obtain ⟨w2,hw2⟩:∃ X,X=((w.alloc (.cells #[(0:Int),(0:Int)] 25)).alloc (.cells #[(0:Int),(0:Int),.slice none 0 0] 46)):=⟨_,rfl⟩
 rw [←hw2] at hB0 HR0 KT0 KV0 hz0 ⊢
 clear hw2
 refine (spec_l1WorldQ (fun xs=>worldOk xs=true∧0<xs.length∧smallTab xs=true) (fun t ht=>seven_small ht) p g w2 HR0.out (by omega)).mono ?_
 rintro e w3 ⟨xs,v3,FA,q3,rfl,⟨hok,hpos,hsm⟩,ha3,hfs3,hR3,hq3,hC3⟩
 have HW:=jj (worldOK hok)
 have HOKW:=jj hok
 have HSM:=jj hsm
 have HFA2:Hid (∀ b∈FA,w.heap.size+2≤b):=fun b hb=>by have:=(hfs3 b hb).1;omega
 have HGA:Hid (∀ b∈FA,b∉[g]):=fun b hb h=>by rw [zy1] at h;have:=(hfs3 b hb).1;omega
 have KT3:=jj (KT0.out.same (hC3.block _ KT0.out.lt (by rw [zy1];omega)))
 have KV3:=jj (KV0.out.same (hC3.block _ KV0.out.lt (by rw [zy1];omega)))
 have HC3:Hid (Chg [g] w w3):=(Chg.of_below hB0).trans hC3
 have HA3:=jj ha3
 have HU3:=jj hfs3.under
 have HR3:=jj hR3
 have hlen:=HW.out.len
 have hz3:=hC3.size
 obtain ⟨A1,cap1,rfl,hc1,hc2⟩:=ha3.form
 clear hok hsm ha3 hfs3 hR3 hC3 KT0 KV0 HR0 hB0
 go_wp2_with fail
 refine (spec_l1Table xs HW.out w3 _ FA HA3.out HU3.out).mono ?_
 rintro e w4 ⟨u4,HT,rfl,hb4,hy4,-,hfs4⟩
 have KT4:=jj (KT3.out.same (hb4.block _ KT3.out.lt))
 have KV4:=jj (KV3.out.same (hb4.block _ KV3.out.lt))
 have HC4:Hid (Chg [g] w w4):=HC3.out.step hb4
 have HA4:=jj (ArrDt.below HA3.out hb4 HU3.out)
 have HU4:=jj (HU3.out.mono hb4.size)
 have HY4:=jj hy4
 have HYU4:=jj hfs4.under
 have HGT:Hid (∀ b∈HT,b∉[g]):=fun b hb h=>by rw [zy1] at h;have:=(hfs4 b hb).1;omega
 have HR4:=jj (HR3.out.below hb4)
 have hz4:=hb4.size
 obtain ⟨U4,ucap,rfl,hu1,hu2⟩:=hy4.form
 clear hy4 hfs4 hb4 KT3 KV3 HC3 HA3 HU3 HR3
 go_wp2_with fail
 refine (zAE xs.length q3 g w4 HR4.out (by omega) (by omega) (by omega)).mono ?_
 rintro e w5 ⟨r,rfl,hr,hR5,hC5⟩
 have HR5:=jj hR5
 have HC5:=jj hC5
 clear hR5 hC5
 go_wp2_with fail
 refine (num_lit [0,0,1,2] (by decide) (by decide) (q3+1) g w5 HR5.out (by omega)).mono ?_
 rintro e w6 ⟨x,hx,rfl,hR6,hC6⟩
 have hx2:0≤x∧x≤2:=by
  simp only [List.mem_cons,List.mem_nil_iff,or_false] at hx
  omega
 have hC46:=HC5.out.trans hC6
 have HG1:Hid (∀ b,g<b→b∉[g]):=fun b hb h=>by rw [zy1] at h;omega
 have KT6:=jj (KT4.out.same (hC46.block _ KT4.out.lt (HG1.out _ hgl)))
 have KV6:=jj (KV4.out.same (hC46.block _ KV4.out.lt (HG1.out _ (by omega))))
 have HC6:=jj (HC4.out.trans hC46)
 have HA6:=jj (ArrDt.mono HA4.out (hC46.kept HU4.out HGA.out))
 have HU6:=jj (HU4.out.mono hC46.size)
 have HY6:=jj (ArrNat.kept HY4.out (hC46.kept HYU4.out HGT.out))
 have HYU6:=jj (HYU4.out.mono hC46.size)
 have HR6:=jj hR6
 have hz6:=hC46.size
 clear hx hC46 hR6 hC6 HR5 HC5 KT4 KV4 HC4 HA4 HU4 HY4 HYU4 HR4
 go_wp2_with fail
 obtain ⟨w7,hw7⟩:∃ X,X=w6.alloc (.cells #[(r:Int),.int .i64 x] 25):=⟨_,rfl⟩
 have hb7:Below w6 w6 w7:=by rw [hw7];exact (zy2 _ _).alloc (zz8 _) _
 have K7:Hid (Blk w7 w6 25 #[(r:Int),.int .i64 x]):=by rw [hw7];exact Blk.new _ _ _
 rw [←hw7]
 clear hw7
 obtain ⟨k7,hk7⟩:∃ X,X=w6.heap.size:=⟨_,rfl⟩
 rw [←hk7] at K7 ⊢
 have hk7w:w.heap.size+2≤k7:=by omega
 obtain ⟨x2,rfl⟩:∃ n:Nat,x=(n:Int):=⟨x.toNat,by omega⟩
 have HTI:Hid (TyIn xs.length ⟨(r:Int),(x2:Int)⟩):=.inr ⟨r,x2,rfl,hr,by omega⟩
 have KT7:=jj (KT6.out.same (hb7.block _ KT6.out.lt))
 have KV7:=jj (KV6.out.same (hb7.block _ KV6.out.lt))
 have HC7:=jj (HC6.out.step hb7)
 have HA7:=jj (ArrDt.below HA6.out hb7 HU6.out)
 have HU7:=jj (HU6.out.mono hb7.size)
 have HY7:=jj (ArrNat.below HY6.out hb7 HYU6.out)
 have HYU7:=jj (HYU6.out.mono hb7.size)
 have HR7:=jj (HR6.out.below hb7)
 have HK7A:Hid (∀ b∈FA,b≠k7):=fun b hb e=>by have:=HU6.out b hb;omega
 have HK7T:Hid (∀ b∈HT,b≠k7):=fun b hb e=>by have:=HYU6.out b hb;omega
 clear hb7 hk7 KT6 KV6 HC6 HA6 HU6 HY6 HYU6 HR6
 refine (spec_l1Depth xs.length HW.out.len (tableL xs) (tableL_small HW.out) ⟨(r:Int),(x2:Int)⟩ HTI.out w7 _ HT HY7.out HYU7.out).mono ?_
 rintro e w7' ⟨rfl,hb8⟩
 have KTR:=jj (KT7.out.same (hb8.block _ KT7.out.lt))
 have KVR:=jj (KV7.out.same (hb8.block _ KV7.out.lt))
 have HC8:=jj (HC7.out.step hb8)
 have HA8:=jj (ArrDt.below HA7.out hb8 HU7.out)
 have HU8:=jj (HU7.out.mono hb8.size)
 have HTT:=jj (ArrNat.below HY7.out hb8 HYU7.out)
 have HTU:=jj (HYU7.out.mono hb8.size)
 have HR8:=jj (HR7.out.below hb8)
 have K8:=jj (K7.out.same (hb8.block _ K7.out.lt))
 clear hb8 KT7 KV7 HC7 HA7 HU7 HY7 HYU7 HR7 K7
 obtain ⟨w7,hw7⟩:∃ X,X=w7':=⟨_,rfl⟩
 rw [←hw7] at KTR KVR HC8 HA8 HU8 HTT HTU HR8 K8 ⊢
 clear hw7
 have HC7:=HC8
 have HA7:=HA8
 have HU7:=HU8
 have HR7:=HR8
 have K7:=K8
 clear HC8 HA8 HU8 HR8 K8
 obtain ⟨p7,hp7⟩:∃ n,n=q3+1+1:=⟨_,rfl⟩
 rw [←hp7] at HR7
 obtain ⟨de,hde⟩:∃ n,n=depthIn (tableL xs) ⟨(r:Int),(x2:Int)⟩:=⟨_,rfl⟩
 rw [←hde]
 have HDE:=jj hde
 clear hde
 cases q0:(de==0) with
 |false =>
  have HOK:Hid (TypedOk xs ⟨(r:Int),(x2:Int)⟩):=⟨HOKW.out,hpos,HSM.out,by simp only [typeOkB,withinB];rw [if_neg (by omega),decide_eq_true (show (0:Int)≤(r:Int) from by omega),decide_eq_true (show (r:Int)≤(xs.length:Int)-1 from by omega),decide_eq_true (show (0:Int)≤(x2:Int) from by omega),decide_eq_true (show (x2:Int)≤3 from by omega)];rfl,by rw [←HDE.out];simpa using q0⟩
  have q0:w7.cell? ⟨k7,0,none⟩=(r:Int):=(K7.out.cell 0).trans (by simp)
  have q1:w7.cell? ⟨k7,1,none⟩=(x2:Int):=(K7.out.cell 1).trans (by simp)
  have qlt:=K7.out.lt
  go_wp2_with fail
  refine zA6 (S:=fun w'=>w'.cell? ⟨k7,0,none⟩=(r:Int)∧w'.cell? ⟨k7,1,none⟩=(x2:Int)) (T:=fun _=>True) (d:=99) (by kernel_rfl) ?_
  have hS1:w7.drew.cell? ⟨k7,0,none⟩=(r:Int)∧w7.drew.cell? ⟨k7,1,none⟩=(x2:Int):=⟨q0,q1⟩
  have hT1:True:=trivial
  clear q0 q1
  refine wV 0 rfl hS1 hT1 ?_
  (try simp only [zz])
  refine wV 1 rfl hS1 hT1 ?_
  (try simp only [zz])
  refine wV 2 rfl hS1 hT1 ?_
  (try simp only [zz])
  refine wV 3 rfl hS1 hT1 ?_
  (try simp only [zz])
  refine wV 4 rfl hS1 hT1 ?_
  (try simp only [zz])
  refine wV 5 rfl hS1 hT1 ?_
  (try simp only [zz])
  refine wV 6 rfl hS1 hT1 ?_
  (try simp only [zz])
  refine w1 7 rfl fun K hK=>?_
  have hbl:Below w7 w7 (w7.drew.alloc (.cells ([3,2,4,1].map (Value.int .i64)).toArray 3)):=(zy2 _ _).drew.alloc (zz8 _) _
  have hS2:(w7.drew.alloc (.cells ([3,2,4,1].map (Value.int .i64)).toArray 3)).cell? ⟨k7,0,none⟩=(r:Int)∧(w7.drew.alloc (.cells ([3,2,4,1].map (Value.int .i64)).toArray 3)).cell? ⟨k7,1,none⟩=(x2:Int):=⟨(hbl.cell (p:=⟨k7,0,none⟩) qlt).trans hS1.1,(hbl.cell (p:=⟨k7,1,none⟩) qlt).trans hS1.2⟩
  go_simp
  (try dsimp only)
  refine hK.out _ _ hS2 (fun _=>trivial) ?_
  clear hK K
  (try simp only [zz])
  refine w1 8 rfl fun K hK=>?_
  go_simp
  go_at_call 35
  refine (num_lit [3,2,4,1] (by decide) (by decide) p7 g w7.drew HR7.out.drew (by omega)).mono ?_
  rintro e w8 ⟨dp,hdp,rfl,hR8,hC8⟩
  have hdp4:1≤dp∧dp≤4:=by
   simp only [List.mem_cons,List.mem_nil_iff,or_false] at hdp
   omega
  have hC8u:Chg [g] w7 w8:=hC8.undrew
  have k7g:k7∉[g]:=by rw [zy1];omega
  have hS3:w8.cell? ⟨k7,0,none⟩=(r:Int)∧w8.cell? ⟨k7,1,none⟩=(x2:Int):=⟨(hC8u.cell (p:=⟨k7,0,none⟩) qlt k7g).trans hS1.1,(hC8u.cell (p:=⟨k7,1,none⟩) qlt k7g).trans hS1.2⟩
  have HR8:=jj hR8
  clear hdp hR8
  (try dsimp only)
  refine hK.out _ _ hS3 (fun _=>trivial) ?_
  clear hK K
  (try simp only [zz])
  refine w1 9 rfl fun K hK=>?_
  have HC8:=jj (HC7.out.trans hC8u)
  have HA8:=jj (ArrDt.mono HA7.out (hC8u.kept HU7.out HGA.out))
  have HU8:=jj (HU7.out.mono hC8u.size)
  have HT8:=jj (ArrNat.kept HTT.out (hC8u.kept HTU.out HGT.out))
  have HTU8:=jj (HTU.out.mono hC8u.size)
  have hz8:=hC8u.size
  go_simp
  go_at_call 67
  refine (spec_l2Draw 4 (by omega) xs HW.out ⟨(r:Int),(x2:Int)⟩ (zB9 HOK.out.ty) HOK.out.dep dp (by omega) (by omega) (depth_small HOK.out.small _) w8 (p7+1) g _ FA _ HT HR8.out (by rw [pow44];omega) HA8.out HU8.out (fun h=>HGA.out g h (by simp)) HT8.out HTU8.out (fun h=>HGT.out g h (by simp))).mono ?_
  rintro e w10 ⟨vA,csA,GA,q10,rfl,hpA,hfsA,hnA,hR10,hq10,hC10⟩
  obtain ⟨kvA,rfl,haA⟩:=(VR_iff _ _ _).1 hpA
  obtain ⟨A8,cap8,rfl,-,-⟩:=haA.form
  have k7g':k7∉[g]:=k7g
  have hS4:w10.cell? ⟨k7,0,none⟩=(r:Int)∧w10.cell? ⟨k7,1,none⟩=(x2:Int):=⟨(hC10.cell (p:=⟨k7,0,none⟩) (zz9 qlt hz8) k7g').trans hS3.1,(hC10.cell (p:=⟨k7,1,none⟩) (zz9 qlt hz8) k7g').trans hS3.2⟩
  have KT10:=jj (KTR.out.same ((hC8u.trans hC10).block _ KTR.out.lt (by rw [zy1];omega)))
  have KV10:=jj (KVR.out.same ((hC8u.trans hC10).block _ KVR.out.lt (by rw [zy1];omega)))
  have HC10:=jj (HC8.out.trans hC10)
  have HA10:=jj (ArrDt.mono HA8.out (hC10.kept HU8.out HGA.out))
  have HU10:=jj (HU8.out.mono hC10.size)
  have HPA:=jj hpA
  have HFA:Hid (∀ b∈GA,w.heap.size+2≤b∧b<w10.heap.size):=fun b hb=>⟨by have:=(hfsA b hb).1;omega,(hfsA b hb).2⟩
  have HNA:=jj hnA
  have HR10:=jj hR10
  have hk7:=hk7w
  have HK0:Hid (w.heap.size≠k7):=by unfold Hid;omega
  have HK1:Hid (w.heap.size+1≠k7):=by unfold Hid;omega
  have x0:w10.cell? ⟨w,0,none⟩=some (.int .i64 0):=(KT10.out.cell 0).trans (by simp)
  have x1:w10.cell? ⟨w,1,none⟩=some (.int .i64 0):=(KT10.out.cell 1).trans (by simp)
  have xf0:=KT10.out.frozen 0
  have xf1:=KT10.out.frozen 1
  have xlt:=KT10.out.lt
  have z0:w10.cell? ⟨w.heap.size+1,0,none⟩=some (.int .i64 0):=(KV10.out.cell 0).trans (by simp)
  have z1:w10.cell? ⟨w.heap.size+1,1,none⟩=some (.int .i64 0):=(KV10.out.cell 1).trans (by simp)
  have z2:w10.cell? ⟨w.heap.size+1,2,none⟩=some (.slice none 0 0):=(KV10.out.cell 2).trans (by simp)
  have zf0:=KV10.out.frozen 0
  have zf1:=KV10.out.frozen 1
  have zf2:=KV10.out.frozen 2
  have zlt:=KV10.out.lt
  have HS4:=jj hS4
  have hs10:∀ b,b≠w.heap.size→b≠w.heap.size+1→(((((w10.setCell ⟨w,0,none⟩ (.int .i64 (r:Int))).setCell ⟨w,1,none⟩ (.int .i64 (x2:Int))).setCell ⟨w.heap.size+1,0,none⟩ (.int .i64 vA.c)).setCell ⟨w.heap.size+1,1,none⟩ (.int .i64 vA.n)).setCell ⟨w.heap.size+1,2,none⟩ (.slice A8 vA.ks.length cap8)).heap[b]?=w10.heap[b]?:=fun b h1 h2=>by
   rw [zz7 _ _ _ _ (by show b≠_;exact h2),zz7 _ _ _ _ (by show b≠_;exact h2),zz7 _ _ _ _ (by show b≠_;exact h2),zz7 _ _ _ _ (by show b≠_;exact h1),zz7 _ _ _ _ (by show b≠_;exact h1)]
  have HKE:Hid (∀ F:List Nat,(∀ b∈F,w.heap.size+2≤b)→Kept F w10 (((((w10.setCell ⟨w,0,none⟩ (.int .i64 (r:Int))).setCell ⟨w,1,none⟩ (.int .i64 (x2:Int))).setCell ⟨w.heap.size+1,0,none⟩ (.int .i64 vA.c)).setCell ⟨w.heap.size+1,1,none⟩ (.int .i64 vA.n)).setCell ⟨w.heap.size+1,2,none⟩ (.slice A8 vA.ks.length cap8))):=fun F hF b hb=>hs10 b (by have:=hF b hb;omega) (by have:=hF b hb;omega)
  have hsz:(((((w10.setCell ⟨w,0,none⟩ (.int .i64 (r:Int))).setCell ⟨w,1,none⟩ (.int .i64 (x2:Int))).setCell ⟨w.heap.size+1,0,none⟩ (.int .i64 vA.c)).setCell ⟨w.heap.size+1,1,none⟩ (.int .i64 vA.n)).setCell ⟨w.heap.size+1,2,none⟩ (.slice A8 vA.ks.length cap8)).heap.size=w10.heap.size:=by simp [World.setCell]
  have KTe:Hid (Blk (((((w10.setCell ⟨w,0,none⟩ (.int .i64 (r:Int))).setCell ⟨w,1,none⟩ (.int .i64 (x2:Int))).setCell ⟨w.heap.size+1,0,none⟩ (.int .i64 vA.c)).setCell ⟨w.heap.size+1,1,none⟩ (.int .i64 vA.n)).setCell ⟨w.heap.size+1,2,none⟩ (.slice A8 vA.ks.length cap8)) w.heap.size 25 #[(r:Int),(x2:Int)]):=(((KT10.out.set_ 0 _).set_ 1 _).same (by rw [zz7 _ _ _ _ (by show w.heap.size≠w.heap.size+1;omega),zz7 _ _ _ _ (by show w.heap.size≠w.heap.size+1;omega),zz7 _ _ _ _ (by show w.heap.size≠w.heap.size+1;omega)]))
  have KVe:Hid (Blk (((((w10.setCell ⟨w,0,none⟩ (.int .i64 (r:Int))).setCell ⟨w,1,none⟩ (.int .i64 (x2:Int))).setCell ⟨w.heap.size+1,0,none⟩ (.int .i64 vA.c)).setCell ⟨w.heap.size+1,1,none⟩ (.int .i64 vA.n)).setCell ⟨w.heap.size+1,2,none⟩ (.slice A8 vA.ks.length cap8)) (w.heap.size+1) 46 #[vA.c,vA.n,.slice A8 vA.ks.length cap8]):=(((KV10.out.same (by rw [zz7 _ _ _ _ (by show w.heap.size+1≠w.heap.size;omega),zz7 _ _ _ _ (by show w.heap.size+1≠w.heap.size;omega)])).set_ 0 _).set_ 1 _).set_ 2 _
  have hCe:Chg [g] w (((((w10.setCell ⟨w,0,none⟩ (.int .i64 (r:Int))).setCell ⟨w,1,none⟩ (.int .i64 (x2:Int))).setCell ⟨w.heap.size+1,0,none⟩ (.int .i64 vA.c)).setCell ⟨w.heap.size+1,1,none⟩ (.int .i64 vA.n)).setCell ⟨w.heap.size+1,2,none⟩ (.slice A8 vA.ks.length cap8)):=((((HC10.out.set_new (zz8 _)).set_new (zz8 _)).set_new (by omega)).set_new (by omega)).set_new (by omega)
  have HFin:Hid (DrewTyped p 300 g w (.returned (.tuple #[.slice A1 xs.length cap1,.agg #[(r:Int),(x2:Int)],.agg #[vA.c,vA.n,.slice A8 vA.ks.length cap8]])) (((((w10.setCell ⟨w,0,none⟩ (.int .i64 (r:Int))).setCell ⟨w,1,none⟩ (.int .i64 (x2:Int))).setCell ⟨w.heap.size+1,0,none⟩ (.int .i64 vA.c)).setCell ⟨w.heap.size+1,1,none⟩ (.int .i64 vA.n)).setCell ⟨w.heap.size+1,2,none⟩ (.slice A8 vA.ks.length cap8))) :=
   ⟨xs,_,FA,⟨(r:Int),(x2:Int)⟩,vA,[vA.c,vA.n,.slice A8 vA.ks.length cap8],GA,q10,rfl,HOK.out,ArrDt.mono HA10.out (HKE.out _ HFA2.out),fun b hb=>⟨by have:=HFA2.out b hb;omega,by rw [hsz];exact HU10.out b hb⟩,VR.mono _ _ _ (HKE.out _ (fun b hb=>(HFA.out b hb).1)) HPA.out,fun b hb=>⟨by have:=(HFA.out b hb).1;omega,by rw [hsz];exact (HFA.out b hb).2⟩,(by have:=HNA.out;rwa [pow44] at this),HR10.out.keep (fun b hb=>hs10 b (by omega) (by omega)),by rw [pow44] at hq10;omega,hCe⟩
  clear hpA hfsA hnA hR10 hC10 haA hs10 hsz hCe hC8 hC8u KT10 KV10 HA8 HU8 HT8 HTU8
  (try dsimp only)
  refine hK.out _ _ HS4.out (fun _=>trivial) ?_
  clear hK K
  (try simp only [zz])
  refine w1 10 rfl fun K hK=>?_
  go_simp
  (try dsimp only)
  refine hK.out _ _ HS4.out (fun _=>trivial) ?_
  clear hK K
  (try simp only [zz])
  refine w1 11 rfl fun K hK=>?_
  go_simp
  (try dsimp only)
  refine hK.out _ _ ⟨(World.cell?_setCell_far _ _ _ _ (by exact HK0.out)).trans ((World.cell?_setCell_far _ _ _ _ (by exact HK0.out)).trans (HS4.out.1)),(World.cell?_setCell_far _ _ _ _ (by exact HK0.out)).trans ((World.cell?_setCell_far _ _ _ _ (by exact HK0.out)).trans (HS4.out.2))⟩ (fun _=>trivial) ?_
  clear hK K
  (try simp only [zz])
  refine w1 12 rfl fun K hK=>?_
  go_simp
  (try dsimp only)
  refine hK.out _ _ ⟨(World.cell?_setCell_far _ _ _ _ (by exact HK1.out)).trans ((World.cell?_setCell_far _ _ _ _ (by exact HK1.out)).trans ((World.cell?_setCell_far _ _ _ _ (by exact HK1.out)).trans ((World.cell?_setCell_far _ _ _ _ (by exact HK0.out)).trans ((World.cell?_setCell_far _ _ _ _ (by exact HK0.out)).trans (HS4.out.1))))),(World.cell?_setCell_far _ _ _ _ (by exact HK1.out)).trans ((World.cell?_setCell_far _ _ _ _ (by exact HK1.out)).trans ((World.cell?_setCell_far _ _ _ _ (by exact HK1.out)).trans ((World.cell?_setCell_far _ _ _ _ (by exact HK0.out)).trans ((World.cell?_setCell_far _ _ _ _ (by exact HK0.out)).trans (HS4.out.2)))))⟩ (fun _=>trivial) ?_
  clear hK K
  (try simp only [zz])
  refine wE (by kernel_rfl) ?_
  clear hS1 hS2 hS3 hS4 hT1 x0 x1 xf0 xf1 z0 z1 z2 zf0 zf1 zf2 xlt zlt hbl
  go_wp2
  refine bodyPost_ret (zAH rfl _ _ w.heap.size (w.heap.size+1) 25 46 #[(r:Int),(x2:Int)] #[vA.c,vA.n,.slice A8 vA.ks.length cap8] (0,0) (0,0) _ _ rfl KTe.out Try.underlying25 rfl rfl rfl KVe.out Try.underlying46 rfl rfl) rfl ?_
  exact HFin.out
 |true =>
  have HOK:Hid (TypedOk xs ⟨-1,0⟩):=⟨HOKW.out,hpos,HSM.out,by unfold typeOkB;rw [if_pos rfl];rfl,by rw [depthIn_int rfl];decide⟩
  have a0:w7.cell? ⟨k7,0,none⟩=(r:Int):=(K7.out.cell 0).trans (by simp)
  have a1:w7.cell? ⟨k7,1,none⟩=(x2:Int):=(K7.out.cell 1).trans (by simp)
  have af0:=K7.out.frozen 0
  have af1:=K7.out.frozen 1
  have alt:=K7.out.lt
  go_wp2_with fail
  clear a0 a1 af0 af1
  obtain ⟨wz,hwz⟩:∃ X,X=(w7.setCell ⟨k7,0,none⟩ (.int .i64 (-1))).setCell ⟨k7,1,none⟩ (.int .i64 0):=⟨_,rfl⟩
  have hkz:∀ b,b≠k7→wz.heap[b]?=w7.heap[b]?:=fun b hb=>by rw [hwz,zz7 _ _ _ _ (by show b≠_;exact hb),zz7 _ _ _ _ (by show b≠_;exact hb)]
  have hsz:wz.heap.size=w7.heap.size:=by rw [hwz];simp [World.setCell]
  have K7z:Hid (Blk wz k7 25 #[.int .i64 (-1),(0:Int)]):=by rw [hwz];exact (K7.out.set_ 0 _).set_ 1 _
  have HCz:Hid (Chg [g] w wz):=by rw [hwz];exact (HC7.out.set_new (by omega)).set_new (by omega)
  rw [←hwz]
  clear hwz
  have KTz:=jj (KTR.out.same (hkz _ (by omega)))
  have KVz:=jj (KVR.out.same (hkz _ (by omega)))
  have HAz:=jj (ArrDt.mono HA7.out (fun b hb=>hkz b (HK7A.out b hb)))
  have HUz:Hid (Under wz FA):=by rw [hsz];exact HU7.out
  have HTz:=jj (ArrNat.kept HTT.out (fun b hb=>hkz b (HK7T.out b hb)))
  have HTUz:Hid (Under wz HT):=by rw [hsz];exact HTU.out
  have HRz:=jj (HR7.out.keep (fun b hb=>hkz b (by omega)))
  clear KTR KVR HA7 HU7 HTT HTU HR7 K7 HC7 hkz hsz alt
  obtain ⟨w7o,hw7o⟩:∃ X,X=w7:=⟨_,rfl⟩
  clear hw7o w7o
  obtain ⟨w7,hw7⟩:∃ X,X=wz:=⟨_,rfl⟩
  rw [←hw7] at K7z HCz KTz KVz HAz HUz HTz HTUz HRz ⊢
  clear hw7
  have KTR:=KTz
  have KVR:=KVz
  have HC7:=HCz
  have HA7:=HAz
  have HU7:=HUz
  have HTT:=HTz
  have HTU:=HTUz
  have HR7:=HRz
  have K7:=K7z
  clear KTz KVz HCz HAz HUz HTz HTUz HRz K7z
  have q0:w7.cell? ⟨k7,0,none⟩=some (.int .i64 (-1)):=(K7.out.cell 0).trans (by simp)
  have q1:w7.cell? ⟨k7,1,none⟩=some (.int .i64 0):=(K7.out.cell 1).trans (by simp)
  have qlt:=K7.out.lt
  go_wp2_with fail
  refine zA6 (S:=fun w'=>w'.cell? ⟨k7,0,none⟩=some (.int .i64 (-1))∧w'.cell? ⟨k7,1,none⟩=some (.int .i64 0)) (T:=fun _=>True) (d:=99) (by kernel_rfl) ?_
  have hS1:w7.drew.cell? ⟨k7,0,none⟩=some (.int .i64 (-1))∧w7.drew.cell? ⟨k7,1,none⟩=some (.int .i64 0):=⟨q0,q1⟩
  have hT1:True:=trivial
  clear q0 q1
  refine wV 0 rfl hS1 hT1 ?_
  (try simp only [zz])
  refine wV 1 rfl hS1 hT1 ?_
  (try simp only [zz])
  refine wV 2 rfl hS1 hT1 ?_
  (try simp only [zz])
  refine wV 3 rfl hS1 hT1 ?_
  (try simp only [zz])
  refine wV 4 rfl hS1 hT1 ?_
  (try simp only [zz])
  refine wV 5 rfl hS1 hT1 ?_
  (try simp only [zz])
  refine wV 6 rfl hS1 hT1 ?_
  (try simp only [zz])
  refine w1 7 rfl fun K hK=>?_
  have hbl:Below w7 w7 (w7.drew.alloc (.cells ([3,2,4,1].map (Value.int .i64)).toArray 3)):=(zy2 _ _).drew.alloc (zz8 _) _
  have hS2:(w7.drew.alloc (.cells ([3,2,4,1].map (Value.int .i64)).toArray 3)).cell? ⟨k7,0,none⟩=some (.int .i64 (-1))∧(w7.drew.alloc (.cells ([3,2,4,1].map (Value.int .i64)).toArray 3)).cell? ⟨k7,1,none⟩=some (.int .i64 0):=⟨(hbl.cell (p:=⟨k7,0,none⟩) qlt).trans hS1.1,(hbl.cell (p:=⟨k7,1,none⟩) qlt).trans hS1.2⟩
  go_simp
  (try dsimp only)
  refine hK.out _ _ hS2 (fun _=>trivial) ?_
  clear hK K
  (try simp only [zz])
  refine w1 8 rfl fun K hK=>?_
  go_simp
  go_at_call 35
  refine (num_lit [3,2,4,1] (by decide) (by decide) p7 g w7.drew HR7.out.drew (by omega)).mono ?_
  rintro e w8 ⟨dp,hdp,rfl,hR8,hC8⟩
  have hdp4:1≤dp∧dp≤4:=by
   simp only [List.mem_cons,List.mem_nil_iff,or_false] at hdp
   omega
  have hC8u:Chg [g] w7 w8:=hC8.undrew
  have k7g:k7∉[g]:=by rw [zy1];omega
  have hS3:w8.cell? ⟨k7,0,none⟩=some (.int .i64 (-1))∧w8.cell? ⟨k7,1,none⟩=some (.int .i64 0):=⟨(hC8u.cell (p:=⟨k7,0,none⟩) qlt k7g).trans hS1.1,(hC8u.cell (p:=⟨k7,1,none⟩) qlt k7g).trans hS1.2⟩
  have HR8:=jj hR8
  clear hdp hR8
  (try dsimp only)
  refine hK.out _ _ hS3 (fun _=>trivial) ?_
  clear hK K
  (try simp only [zz])
  refine w1 9 rfl fun K hK=>?_
  have HC8:=jj (HC7.out.trans hC8u)
  have HA8:=jj (ArrDt.mono HA7.out (hC8u.kept HU7.out HGA.out))
  have HU8:=jj (HU7.out.mono hC8u.size)
  have HT8:=jj (ArrNat.kept HTT.out (hC8u.kept HTU.out HGT.out))
  have HTU8:=jj (HTU.out.mono hC8u.size)
  have hz8:=hC8u.size
  go_simp
  go_at_call 67
  refine (spec_l2Draw 4 (by omega) xs HW.out ⟨(-1),0⟩ (zB9 HOK.out.ty) HOK.out.dep dp (by omega) (by omega) (depth_small HOK.out.small _) w8 (p7+1) g _ FA _ HT HR8.out (by rw [pow44];omega) HA8.out HU8.out (fun h=>HGA.out g h (by simp)) HT8.out HTU8.out (fun h=>HGT.out g h (by simp))).mono ?_
  rintro e w10 ⟨vA,csA,GA,q10,rfl,hpA,hfsA,hnA,hR10,hq10,hC10⟩
  obtain ⟨kvA,rfl,haA⟩:=(VR_iff _ _ _).1 hpA
  obtain ⟨A8,cap8,rfl,-,-⟩:=haA.form
  have k7g':k7∉[g]:=k7g
  have hS4:w10.cell? ⟨k7,0,none⟩=some (.int .i64 (-1))∧w10.cell? ⟨k7,1,none⟩=some (.int .i64 0):=⟨(hC10.cell (p:=⟨k7,0,none⟩) (zz9 qlt hz8) k7g').trans hS3.1,(hC10.cell (p:=⟨k7,1,none⟩) (zz9 qlt hz8) k7g').trans hS3.2⟩
  have KT10:=jj (KTR.out.same ((hC8u.trans hC10).block _ KTR.out.lt (by rw [zy1];omega)))
  have KV10:=jj (KVR.out.same ((hC8u.trans hC10).block _ KVR.out.lt (by rw [zy1];omega)))
  have HC10:=jj (HC8.out.trans hC10)
  have HA10:=jj (ArrDt.mono HA8.out (hC10.kept HU8.out HGA.out))
  have HU10:=jj (HU8.out.mono hC10.size)
  have HPA:=jj hpA
  have HFA:Hid (∀ b∈GA,w.heap.size+2≤b∧b<w10.heap.size):=fun b hb=>⟨by have:=(hfsA b hb).1;omega,(hfsA b hb).2⟩
  have HNA:=jj hnA
  have HR10:=jj hR10
  have hk7:=hk7w
  have HK0:Hid (w.heap.size≠k7):=by unfold Hid;omega
  have HK1:Hid (w.heap.size+1≠k7):=by unfold Hid;omega
  have x0:w10.cell? ⟨w,0,none⟩=some (.int .i64 0):=(KT10.out.cell 0).trans (by simp)
  have x1:w10.cell? ⟨w,1,none⟩=some (.int .i64 0):=(KT10.out.cell 1).trans (by simp)
  have xf0:=KT10.out.frozen 0
  have xf1:=KT10.out.frozen 1
  have xlt:=KT10.out.lt
  have z0:w10.cell? ⟨w.heap.size+1,0,none⟩=some (.int .i64 0):=(KV10.out.cell 0).trans (by simp)
  have z1:w10.cell? ⟨w.heap.size+1,1,none⟩=some (.int .i64 0):=(KV10.out.cell 1).trans (by simp)
  have z2:w10.cell? ⟨w.heap.size+1,2,none⟩=some (.slice none 0 0):=(KV10.out.cell 2).trans (by simp)
  have zf0:=KV10.out.frozen 0
  have zf1:=KV10.out.frozen 1
  have zf2:=KV10.out.frozen 2
  have zlt:=KV10.out.lt
  have HS4:=jj hS4
  have hs10:∀ b,b≠w.heap.size→b≠w.heap.size+1→(((((w10.setCell ⟨w,0,none⟩ (.int .i64 (-1))).setCell ⟨w,1,none⟩ (.int .i64 0)).setCell ⟨w.heap.size+1,0,none⟩ (.int .i64 vA.c)).setCell ⟨w.heap.size+1,1,none⟩ (.int .i64 vA.n)).setCell ⟨w.heap.size+1,2,none⟩ (.slice A8 vA.ks.length cap8)).heap[b]?=w10.heap[b]?:=fun b h1 h2=>by
   rw [zz7 _ _ _ _ (by show b≠_;exact h2),zz7 _ _ _ _ (by show b≠_;exact h2),zz7 _ _ _ _ (by show b≠_;exact h2),zz7 _ _ _ _ (by show b≠_;exact h1),zz7 _ _ _ _ (by show b≠_;exact h1)]
  have HKE:Hid (∀ F:List Nat,(∀ b∈F,w.heap.size+2≤b)→Kept F w10 (((((w10.setCell ⟨w,0,none⟩ (.int .i64 (-1))).setCell ⟨w,1,none⟩ (.int .i64 0)).setCell ⟨w.heap.size+1,0,none⟩ (.int .i64 vA.c)).setCell ⟨w.heap.size+1,1,none⟩ (.int .i64 vA.n)).setCell ⟨w.heap.size+1,2,none⟩ (.slice A8 vA.ks.length cap8))):=fun F hF b hb=>hs10 b (by have:=hF b hb;omega) (by have:=hF b hb;omega)
  have hsz:(((((w10.setCell ⟨w,0,none⟩ (.int .i64 (-1))).setCell ⟨w,1,none⟩ (.int .i64 0)).setCell ⟨w.heap.size+1,0,none⟩ (.int .i64 vA.c)).setCell ⟨w.heap.size+1,1,none⟩ (.int .i64 vA.n)).setCell ⟨w.heap.size+1,2,none⟩ (.slice A8 vA.ks.length cap8)).heap.size=w10.heap.size:=by simp [World.setCell]
  have KTe:Hid (Blk (((((w10.setCell ⟨w,0,none⟩ (.int .i64 (-1))).setCell ⟨w,1,none⟩ (.int .i64 0)).setCell ⟨w.heap.size+1,0,none⟩ (.int .i64 vA.c)).setCell ⟨w.heap.size+1,1,none⟩ (.int .i64 vA.n)).setCell ⟨w.heap.size+1,2,none⟩ (.slice A8 vA.ks.length cap8)) w.heap.size 25 #[.int .i64 (-1),(0:Int)]):=(((KT10.out.set_ 0 _).set_ 1 _).same (by rw [zz7 _ _ _ _ (by show w.heap.size≠w.heap.size+1;omega),zz7 _ _ _ _ (by show w.heap.size≠w.heap.size+1;omega),zz7 _ _ _ _ (by show w.heap.size≠w.heap.size+1;omega)]))
  have KVe:Hid (Blk (((((w10.setCell ⟨w,0,none⟩ (.int .i64 (-1))).setCell ⟨w,1,none⟩ (.int .i64 0)).setCell ⟨w.heap.size+1,0,none⟩ (.int .i64 vA.c)).setCell ⟨w.heap.size+1,1,none⟩ (.int .i64 vA.n)).setCell ⟨w.heap.size+1,2,none⟩ (.slice A8 vA.ks.length cap8)) (w.heap.size+1) 46 #[vA.c,vA.n,.slice A8 vA.ks.length cap8]):=(((KV10.out.same (by rw [zz7 _ _ _ _ (by show w.heap.size+1≠w.heap.size;omega),zz7 _ _ _ _ (by show w.heap.size+1≠w.heap.size;omega)])).set_ 0 _).set_ 1 _).set_ 2 _
  have hCe:Chg [g] w (((((w10.setCell ⟨w,0,none⟩ (.int .i64 (-1))).setCell ⟨w,1,none⟩ (.int .i64 0)).setCell ⟨w.heap.size+1,0,none⟩ (.int .i64 vA.c)).setCell ⟨w.heap.size+1,1,none⟩ (.int .i64 vA.n)).setCell ⟨w.heap.size+1,2,none⟩ (.slice A8 vA.ks.length cap8)):=((((HC10.out.set_new (zz8 _)).set_new (zz8 _)).set_new (by omega)).set_new (by omega)).set_new (by omega)
  have HFin:Hid (DrewTyped p 300 g w (.returned (.tuple #[.slice A1 xs.length cap1,.agg #[.int .i64 (-1),(0:Int)],.agg #[vA.c,vA.n,.slice A8 vA.ks.length cap8]])) (((((w10.setCell ⟨w,0,none⟩ (.int .i64 (-1))).setCell ⟨w,1,none⟩ (.int .i64 0)).setCell ⟨w.heap.size+1,0,none⟩ (.int .i64 vA.c)).setCell ⟨w.heap.size+1,1,none⟩ (.int .i64 vA.n)).setCell ⟨w.heap.size+1,2,none⟩ (.slice A8 vA.ks.length cap8))) :=
   ⟨xs,_,FA,⟨(-1),0⟩,vA,[vA.c,vA.n,.slice A8 vA.ks.length cap8],GA,q10,rfl,HOK.out,ArrDt.mono HA10.out (HKE.out _ HFA2.out),fun b hb=>⟨by have:=HFA2.out b hb;omega,by rw [hsz];exact HU10.out b hb⟩,VR.mono _ _ _ (HKE.out _ (fun b hb=>(HFA.out b hb).1)) HPA.out,fun b hb=>⟨by have:=(HFA.out b hb).1;omega,by rw [hsz];exact (HFA.out b hb).2⟩,(by have:=HNA.out;rwa [pow44] at this),HR10.out.keep (fun b hb=>hs10 b (by omega) (by omega)),by rw [pow44] at hq10;omega,hCe⟩
  clear hpA hfsA hnA hR10 hC10 haA hs10 hsz hCe hC8 hC8u KT10 KV10 HA8 HU8 HT8 HTU8
  (try dsimp only)
  refine hK.out _ _ HS4.out (fun _=>trivial) ?_
  clear hK K
  (try simp only [zz])
  refine w1 10 rfl fun K hK=>?_
  go_simp
  (try dsimp only)
  refine hK.out _ _ HS4.out (fun _=>trivial) ?_
  clear hK K
  (try simp only [zz])
  refine w1 11 rfl fun K hK=>?_
  go_simp
  (try dsimp only)
  refine hK.out _ _ ⟨(World.cell?_setCell_far _ _ _ _ (by exact HK0.out)).trans ((World.cell?_setCell_far _ _ _ _ (by exact HK0.out)).trans (HS4.out.1)),(World.cell?_setCell_far _ _ _ _ (by exact HK0.out)).trans ((World.cell?_setCell_far _ _ _ _ (by exact HK0.out)).trans (HS4.out.2))⟩ (fun _=>trivial) ?_
  clear hK K
  (try simp only [zz])
  refine w1 12 rfl fun K hK=>?_
  go_simp
  (try dsimp only)
  refine hK.out _ _ ⟨(World.cell?_setCell_far _ _ _ _ (by exact HK1.out)).trans ((World.cell?_setCell_far _ _ _ _ (by exact HK1.out)).trans ((World.cell?_setCell_far _ _ _ _ (by exact HK1.out)).trans ((World.cell?_setCell_far _ _ _ _ (by exact HK0.out)).trans ((World.cell?_setCell_far _ _ _ _ (by exact HK0.out)).trans (HS4.out.1))))),(World.cell?_setCell_far _ _ _ _ (by exact HK1.out)).trans ((World.cell?_setCell_far _ _ _ _ (by exact HK1.out)).trans ((World.cell?_setCell_far _ _ _ _ (by exact HK1.out)).trans ((World.cell?_setCell_far _ _ _ _ (by exact HK0.out)).trans ((World.cell?_setCell_far _ _ _ _ (by exact HK0.out)).trans (HS4.out.2)))))⟩ (fun _=>trivial) ?_
  clear hK K
  (try simp only [zz])
  refine wE (by kernel_rfl) ?_
  clear hS1 hS2 hS3 hS4 hT1 x0 x1 xf0 xf1 z0 z1 z2 zf0 zf1 zf2 xlt zlt hbl
  go_wp2
  refine bodyPost_ret (zAH rfl _ _ w.heap.size (w.heap.size+1) 25 46 #[.int .i64 (-1),(0:Int)] #[vA.c,vA.n,.slice A8 vA.ks.length cap8] (0,0) (0,0) _ _ rfl KTe.out Try.underlying25 rfl rfl rfl KVe.out Try.underlying46 rfl rfl) rfl ?_
  exact HFin.out
structure Vt where
 var:Int
 ty:Ty
def VtR (_:World) (x:Vt) (cs:List Value) (F:List Nat):Prop:=cs=[.int .i64 x.var,.int .i64 x.ty.d,.int .i64 x.ty.i]∧F=[]
theorem VtR_len (w:World) (x:Vt) (cs:List Value) (F:List Nat) (h:VtR w x cs F):cs.length=3:=by rw [h.1];rfl
theorem zA9 (w w':World) (x:Vt) (cs:List Value) (F:List Nat) (_:Kept F w w') (h:VtR w x cs F):VtR w' x cs F:=h
def Vt.same (a b:Vt):Bool:=a.var==b.var && (a.ty.d==b.ty.d && a.ty.i==b.ty.i)
theorem Vt.same_iff (a b:Vt):Vt.same a b=true↔a=b:=by
 obtain ⟨v,d,i⟩:=a
 obtain ⟨v',d',i'⟩:=b
 simp [Vt.same]
def namedB (p:P):Bool:=p.op==2 || p.op==6
def kindB (xs:List Dt) (t:Ty) (p:P):Bool:=if p.op=3 then t.d == -1 && (decide (0≤p.n) && (decide (p.n≤p.m) && decide (p.m≤9))) else if p.op=4 then hasB (ctorsL xs t) p.ct else (p.op==1 || (p.op==2 || (p.op==5 || p.op==6)))
def ownB (xs:List Dt) (t:Ty) (p:P):Bool:=(if namedB p=true then decide (0≤p.va) && decide (p.va≤5) else p.va==0) && ((p.op==3 || (p.n==0 && p.m==0)) && ((p.op==4 || p.ct==0) && kindB xs t p))
def kidsN (op:Int):Nat:=if op=5 then 2 else if op=6 then 1 else 0
def typesP (xs:List Dt) (t:Ty) (p:P):List Ty:=if p.op=4 then argsOf xs t p.ct else List.replicate (kidsN p.op) t
def shapeB (xs:List Dt):Nat→Ty→P→Bool
 |0,_,_=>false
 |d+1,t,p=>ownB xs t p && (p.ks.length==(typesP xs t p).length && ((typesP xs t p).zip p.ks).all fun x=>shapeB xs d x.1 x.2)
def nodesP (p:P):Nat:=p.size+1
def kidsV (xs:List Dt) (t:Ty) (p:P):List (Ty×P):=((typesP xs t p).zip p.ks).take (if p.op=5 then 1 else p.ks.length)
def varsN (xs:List Dt):Nat→Ty→P→List Vt
 |0,_,_=>[]
 |d+1,t,p=>(if namedB p=true then [⟨p.va,t⟩] else []) ++ (kidsV xs t p).flatMap fun x=>varsN xs d x.1 x.2
def dupFree (l:List Vt):Bool:=decide ((l.map Vt.var).Nodup)
def alikeB (a b:List Vt):Bool:=(a.all fun v=>match b.find? fun u=>u.var==v.var with | some u=>(u.ty.d==v.ty.d && u.ty.i==v.ty.i) | none=>false) && a.length==b.length
def sameV (a b:List Vt):Bool:=a.length==b.length && a.all fun v=>b.any fun u=>Vt.same u v
def linB (xs:List Dt):Nat→Ty→P→Bool
 |0,_,_=>true
 |d+1,t,p=>(((typesP xs t p).zip p.ks).all fun x=>linB xs d x.1 x.2) && (if p.op=5 then (match p.ks with | [k0,k1]=>alikeB (varsN xs d t k0) (varsN xs d t k1) | _=>true) else dupFree (varsN xs (d+1) t p))
def patOkB (xs:List Dt) (t:Ty) (p:P):Bool:=shapeB xs 10 t p && (decide (nodesP p≤60) && linB xs 10 t p)
theorem zB0 {xs:List Dt} {t:Ty} {p:P} (h:p.op=5):typesP xs t p=[t,t]:=by
 unfold typesP kidsN
 rw [if_neg (by omega),if_pos h];rfl
theorem kids_two {α:Type} {l:List α} (h:l.length=2):∃ a b,l=[a,b]:=by
 match l,h with
 |[a,b],_=>exact ⟨a,b,rfl⟩
theorem lin_dup (xs:List Dt):∀ (d:Nat) (t:Ty) (p:P),shapeB xs d t p=true→linB xs d t p=true→dupFree (varsN xs d t p)=true
 |0,_,_,h,_=>by simp [shapeB] at h
 |d+1,t,p,hs,hl=>by
  simp only [shapeB,linB,Bool.and_eq_true] at hs hl
  by_cases h5:p.op=5
  ·have hty:=zB0 (xs:=xs) (t:=t) h5
   obtain ⟨h1,h2,h3⟩:=hs
   rw [hty] at h2 h3
   obtain ⟨k0,k1,hk⟩:=kids_two (by simpa using h2)
   have hv:varsN xs (d+1) t p=varsN xs d t k0:=by
    have e:varsN xs (d+1) t p=(if namedB p=true then [⟨p.va,t⟩] else []) ++ (kidsV xs t p).flatMap fun x=>varsN xs d x.1 x.2:=rfl
    have kv:kidsV xs t p=[(t,k0)]:=by unfold kidsV;rw [hty,hk,h5];rfl
    have nb:namedB p=false:=by unfold namedB;rw [h5];rfl
    rw [e,kv,nb]
    simp
   rw [hv]
   rw [hk] at h3
   have hl1:=hl.1
   rw [hty,hk] at hl1
   simp only [List.zip_cons_cons,List.zip_nil_right,List.all_cons,List.all_nil,Bool.and_true,Bool.and_eq_true] at h3 hl1
   exact lin_dup xs d t k0 h3.1 hl1.1
  ·have hl2:=hl.2
   rwa [if_neg h5] at hl2
theorem find_of_nodup:∀ {b:List Vt} {u:Vt},(b.map Vt.var).Nodup→u∈b→b.find? (fun x=>x.var==u.var)=some u
 |[],_,_,h=>by cases h
 |x :: b,u,hn,h=>by
  rw [List.map_cons,List.nodup_cons] at hn
  rcases List.mem_cons.1 h with rfl | h
  ·simp
  ·have hx:(x.var==u.var)=false:=by
    rw [beq_eq_false_iff_ne]
    intro e
    exact hn.1 (by rw [e];exact List.mem_map_of_mem h)
   rw [List.find?_cons,hx]
   exact find_of_nodup hn.2 h
theorem alike_same {a b:List Vt} (hb:dupFree b=true):alikeB a b=sameV a b:=by
 have hn:(b.map Vt.var).Nodup:=of_decide_eq_true hb
 have key:∀ v:Vt,(match b.find? fun u=>u.var==v.var with | some u=>(u.ty.d==v.ty.d && u.ty.i==v.ty.i) | none=>false)=b.any fun u=>Vt.same u v:=fun v=>by
  rw [Bool.eq_iff_iff,List.any_eq_true]
  constructor
  ·intro h
   split at h
   ·rename_i u hu
    have hm:=List.mem_of_find?_eq_some hu
    have hv:=List.find?_some hu
    exact ⟨u,hm,by
     unfold Vt.same
     rw [hv]
     simpa using h⟩
   ·cases h
  ·rintro ⟨u,hm,hu⟩
   obtain rfl:=(Vt.same_iff u v).1 hu
   rw [find_of_nodup hn hm]
   simp
 unfold alikeB sameV
 rw [Bool.and_comm]
 congr 1
 exact congrArg (fun f=>a.all f) (funext key)
theorem Own.chg2 {α:Type} {R:World→α→List Value→List Nat→Prop} {w w':World} {B k:Nat} {E:TypeId} {xs:List α} {v:Value} {F L:List Nat} (hRm:∀ w w' x cs G,Kept G w w'→R w x cs G→R w' x cs G) (h:Own w B E k R xs v F) (hc:Chg L w w') (hL:∀ b∈L,b<B) (hF:∀ b∈F,b∉L):Own w' B E k R xs v F :=
 h.mono (fun x cs G hk h=>hRm _ _ x cs G hk h) (hc.kept (fun b hb=>by
  rcases List.mem_append.1 hb with h1 | h1
  ·exact (h.row b h1).2
  ·exact h.under b h1) (fun b hb hl=>by
  have h2:=hL b hl
  rcases List.mem_append.1 hb with h1 | h1
  ·have:=(h.row b h1).1;omega
  ·exact hF b h1 hl)) hc.size
section
variable {α : Type} {w w9 wr wA w7 : World} {D Bz H k g : Nat} {T E : TypeId} {cells : Array Value} {R : World → α → List Value → List Nat → Prop} {xs ys : List α} {v v' : Value} {F G : List Nat} {o : Obj}
theorem kid_round4 (j:Nat) (hRm:∀ w w' x cs G,Kept G w w'→R w x cs G→R w' x cs G) (hw9:w9.heap.size=Bz) (hDB:D<Bz) (hgw:g<w.heap.size) (hwD:w.heap.size≤D) (KD:Blk wr D T cells) (HO:Own wr Bz E k R xs v F) (HFh:∀ b∈F,b≠D∧b≠g) (HC:Chg [D,g] w9 wr) (hB:Chg [g] w wr)
  (hBu:Chg [g] wr wA) (hfsA:∀ b∈G,b≠D∧b≠g) (hown:Own w7 Bz E k R ys v' (F ++ G)) (hgr:(wA.alloc o).grownBy w7 v.ownBlock) {p:Nat} (hR:Rd wA g p) :
  Blk (w7.setCell ⟨D,j,none⟩ v') D T (cells.setIfInBounds j v')∧Own (w7.setCell ⟨D,j,none⟩ v') Bz E k R ys v' (F ++ G)∧(∀ b∈F ++ G,b≠D∧b≠g)∧Chg [D,g] w9 (w7.setCell ⟨D,j,none⟩ v')∧Chg [g] w (w7.setCell ⟨D,j,none⟩ v')∧w9.heap.size≤(w7.setCell ⟨D,j,none⟩ v').heap.size∧Rd (w7.setCell ⟨D,j,none⟩ v') g p:=by
 have hlt:=KD.lt
 have hA:=hBu.size
 have hz:=HC.size
 rw [hw9] at hz
 have hws:=hB.size
 have hFG:∀ b∈F ++ G,b≠D∧b≠g:=fun b hb=>by
  rcases List.mem_append.1 hb with h | h
  ·exact HFh b h
  ·exact hfsA b h
 have hBA7:Below Bz wA w7:=((zy2 Bz wA).alloc (by omega) o).grown hgr (by rw [World.size_alloc];omega) (fun g hg=>(HO.row g (zA1.2 hg)).1)
 have hC7:Chg [D,g] w9 w7:=chg_under (HC.trans (hBu.mono (by simp))) (by rw [hw9];exact hBA7)
 have hC8:Chg [D,g] w9 (w7.setCell ⟨D,j,none⟩ v'):=hC7.set (by simp)
 have hD7:w7.heap[D]?=wr.heap[D]?:=(hBA7.block D (by omega)).trans (hBu.block D hlt (by rw [zy1];omega))
 refine ⟨(KD.same hD7).set_ j v',Own.set (j:=j) hRm hown v' (fun h=>by have:=(hown.row _ h).1;omega) (fun h=>(hFG _ h).1 rfl),hFG,hC8,?_,hC8.size,hR.keep fun b hb=>?_⟩
 ·exact (chg_under (hB.trans hBu) (hBA7.mono (by omega))).set_new hwD
 ·exact (zz7 w7 ⟨D,j,none⟩ v' b (by show b≠D;omega)).trans (hBA7.block b (by omega))
theorem kid_done4 (HO:Own wr Bz E k R xs v F) (HFh:∀ b∈F,b≠D∧b≠g) (hD:D<Bz) (hg:g<Bz):∃ FF,Arr wr (R wr) xs v FF∧∀ b∈FF,b≠D∧b≠g∧b<wr.heap.size∧(b∈F∨Bz≤b) :=
 ⟨_,HO.arr,fun b hb=>by
  split at hb
  ·cases hb
  ·rcases List.mem_append.1 hb with h | h
   ·have:=HO.row b h;exact ⟨by omega,by omega,this.2,.inr this.1⟩
   ·have:=HFh b h;exact ⟨this.1,this.2,HO.under b h,.inl h⟩⟩
end
def DrewP (b p n g:Nat) (w:World) (e:Ending) (w':World):Prop:=∃ (a:P) (cs:List Value) (F:List Nat) (q:Nat),e=.returned (.agg cs.toArray)∧PR w' a cs F∧(∀ b∈F,b<w'.heap.size∧b≠g∧(w.heap.size≤b))∧nodesP a≤b∧Rd w' g q∧q≤p+n∧Chg [g] w w'
theorem arr_pats2 {w:World} {g:Nat} {T:TypeId} {a b:P} {ca cb:List Value} {Fa Fb:List Nat} (h:Blk w g T (ca ++ cb).toArray) (ha:PR w a ca Fa) (hb:PR w b cb Fb):Arr w (PR w) [a,b] (.slice (some ⟨g,0,none⟩) 2 2) (g :: (Fa ++ Fb)) :=
 ⟨_,2,rfl,zz8 _,by simp [maxLen],.inr ⟨g,0,ca ++ cb,Fa ++ Fb,rfl,fun j u hj=>by rw [Nat.zero_add,h.cell];simpa using hj,⟨ca,cb,Fa,Fb,rfl,rfl,ha,⟨cb,[],Fb,[],by simp,by simp,hb,rfl,rfl⟩⟩,rfl⟩⟩
theorem arr_pat1 {w:World} {g:Nat} {T:TypeId} {a:P} {ca:List Value} {Fa:List Nat} (h:Blk w g T ca.toArray) (ha:PR w a ca Fa):Arr w (PR w) [a] (.slice (some ⟨g,0,none⟩) 1 1) (g :: Fa) :=
 ⟨_,1,rfl,zz8 _,by simp [maxLen],.inr ⟨g,0,ca,Fa,rfl,fun j u hj=>by rw [Nat.zero_add,h.cell];simpa using hj,⟨ca,[],Fa,[],by simp,by simp,ha,rfl,rfl⟩,rfl⟩⟩
theorem psizes_snoc (vs:List P) (v:P) (q b:Nat) (h:P.sizes vs≤q*b) (hv:nodesP v≤b):P.sizes (vs ++ [v])≤(q+1)*b:=by
 rw [P.sizes_eq] at h ⊢
 rw [P.subs_snoc,List.length_append,Nat.add_mul]
 unfold nodesP at hv
 simp only [List.length_cons,List.length_nil]
 omega
end Go.Proofs.Ytjjclcmmfeegfaa
