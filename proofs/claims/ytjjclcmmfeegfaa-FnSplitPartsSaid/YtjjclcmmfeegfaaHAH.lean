/-
  Lemmas, and contracts of functions. Conditions: none.
-/
import Derived.Test.YtjjclcmmfeegfaaHAG
import Derived.Test.YtjjclcmmfeegfaaHAB
import Derived.Deep.RegionHeld3
import Derived.Deep.RegionWith
import Derived.Deep.QuietTactic
import Derived.BigQuiet
import Derived.IntWalk
import Derived.Test.YtjjclcmmfeegfaaHAF
import Derived.Test.YtjjclcmmfeegfaaHAE
import Derived.Deep.Cut
import Derived.Test.YtjjclcmmfeegfaaHAA

set_option linter.unusedVariables false
set_option linter.unusedSimpArgs false
set_option maxRecDepth 100000
set_option maxHeartbeats 1600000

namespace Go.Proofs.Ytjjclcmmfeegfaa
open Go.RowKit
theorem spec_l3Is (xs:List Dt) (hw:WorldOK xs) (t:Ty) (ht:TyIn xs.length t) (p:P) (hz:p.size≤1048576) (w:World) (x:Value) (F:List Nat) (cs:List Value) (G:List Nat):Arr w (DtR w) xs x F→Under w F→PR w p cs G→Under w G →
  Calls Try.prog 58 #[x,.agg #[t.d,t.i],.agg cs.toArray] w fun e w'=>e=.returned (.bool (patOkB xs t p))∧Below w w w':=by
 intro hx hf hv hg
 obtain ⟨kv,rfl,ha⟩:=(zA4 _ _ _).1 hv
 obtain ⟨A,cap,rfl,hc1,hc2⟩:=hx.form
 obtain ⟨A4,cap4,rfl,hc3,hc4⟩:=ha.form
 have HV:=jj hv
 have HX:=jj hx
 have HF:=jj hf
 have HA:=jj ha
 have HG:=jj hg
 clear hx hf ha hg
 clear hv
 have HW:=jj hw
 have HT:=jj ht
 have hzn:nodesP p≤2000000:=by unfold nodesP;omega
 have HZ:=jj hzn
 clear hw ht hz hzn
 go_enter Try.func58,Try.ntmps58
 go_wp2_with fail
 obtain ⟨W2,hW2⟩:∃ W2,W2=((w.alloc (.cells #[t.d,t.i] 25)).alloc (.cells #[p.op,p.ct,p.n,p.m,p.va,.slice A4 p.ks.length cap4] 28)):=⟨_,rfl⟩
 have hB0:Below w w W2:=by rw [hW2];exact ((zy2 _ _).alloc (zz8 _) _).alloc (by simp) _
 have KT:Hid (Blk W2 w 25 #[t.d,t.i]):=by rw [hW2];exact (Blk.new w _ _).same (Below.heap_alloc _ _ _ (by simp))
 have KP:Hid (Blk W2 (w.heap.size+1) 28 #[p.op,p.ct,p.n,p.m,p.va,.slice A4 p.ks.length cap4]):=by rw [hW2];have h:=Blk.new (w.alloc (.cells #[t.d,t.i] 25)) 28 #[p.op,p.ct,p.n,p.m,p.va,.slice A4 p.ks.length cap4];rw [World.size_alloc] at h;exact h
 have hws:w.heap.size+2≤W2.heap.size:=by rw [hW2];simp
 have hws2:W2.heap.size=w.heap.size+1+1:=by rw [hW2];simp
 rw [←hW2]
 clear hW2
 obtain ⟨y0,y1,klt⟩:=KT.out.c2
 obtain ⟨z0,z1,z2,z3,z4,z5,klt2⟩:=KP.out.c6
 refine (spec_l3Shape p xs HW.out 10 (zz8 _) t HT.out W2 _ F _ G (ArrDt.below HX.out hB0 HF.out) (HF.out.mono hB0.size) (HV.out.below hB0 HG.out) (HG.out.mono hB0.size)).mono ?_
 rintro e w3 ⟨rfl,hb3⟩
 have hB3:=hB0.trans (hb3.mono hB0.size)
 have KT3:=jj (KT.out.same (hb3.block _ KT.out.lt))
 have KP3:=jj (KP.out.same (hb3.block _ KP.out.lt))
 clear y0 y1 z0 z1 z2 z3 z4 z5 klt klt2
 obtain ⟨y0,y1,klt⟩:=KT3.out.c2
 obtain ⟨z0,z1,z2,z3,z4,z5,klt2⟩:=KP3.out.c6
 clear hb3 KT KP hB0
 cases e1:shapeB xs 10 t p with
 |false =>
  have hf:Hid (patOkB xs t p=false):=by unfold Hid patOkB;rw [e1];rfl
  clear e1
  go_wp2
  go_ret
  exact ⟨zA0 hf.out.symm,hB3⟩
 |true =>
  have h1:patOkB xs t p=(decide (nodesP p≤60) && linB xs 10 t p):=by unfold patOkB;rw [e1];rfl
  have H1:=jj h1
  have HS:=jj e1
  clear h1 e1
  go_wp2_with fail
  refine (spec_l3Count p 60 (by omega) (by omega) w3 _ G (HV.out.below hB3 HG.out) (HG.out.mono hB3.size) HZ.out).mono ?_
  rintro e w4 ⟨c,rfl,hu,hb4⟩
  have hB4:=hB3.trans (hb4.mono hB3.size)
  have KT4:=jj (KT3.out.same (hb4.block _ KT3.out.lt))
  have KP4:=jj (KP3.out.same (hb4.block _ KP3.out.lt))
  clear y0 y1 z0 z1 z2 z3 z4 z5 klt klt2
  obtain ⟨y0,y1,klt⟩:=KT4.out.c2
  obtain ⟨z0,z1,z2,z3,z4,z5,klt2⟩:=KP4.out.c6
  clear hb4 KT3 KP3 hB3
  have hcd:decide (c≤60)=decide (nodesP p≤60):=by
   have h1:=hu.yes
   have h2:=hu.no
   by_cases h:nodesP p≤60
   ·rw [decide_eq_true h];exact decide_eq_true (by have:=h1 (by omega);omega)
   ·rw [decide_eq_false h];exact decide_eq_false (by have:=h2 (by omega);omega)
  have h2:=H1.out
  rw [←hcd] at h2
  clear hu hcd
  cases e2:decide (c≤60) with
  |false =>
   have hf:Hid (patOkB xs t p=false):=by rw [h2,e2];rfl
   clear h2
   go_wp2
   go_ret
   exact ⟨zA0 hf.out.symm,hB4⟩
  |true =>
   have hf:Hid (patOkB xs t p=linB xs 10 t p):=by rw [h2,e2];rfl
   clear h2
   go_wp2_with fail
   refine (spec_l3Linear p xs HW.out 10 t HT.out HS.out (by have:=HZ.out;omega) w4 _ F _ G (ArrDt.below HX.out hB4 HF.out) (HF.out.mono hB4.size) (HV.out.below hB4 HG.out) (HG.out.mono hB4.size)).mono ?_
   rintro e w5 ⟨rfl,hb5⟩
   have hB5:=hB4.trans (hb5.mono hB4.size)
   generalize linB xs 10 t p=bb at *
   clear hb5
   go_wp2
   go_ret
   exact ⟨zA0 hf.out.symm,hB5⟩
def patternValidB (xs:List Dt) (t:Ty) (p:P):Bool:=typeValidB xs t && patOkB xs t p
theorem spec_PatternValid (xs:List Dt) (t:Ty) (p:P) (hz:p.size≤1048576) (w:World) (x:Value) (F:List Nat) (cs:List Value) (G:List Nat):Arr w (DtR w) xs x F→Under w F→PR w p cs G→Under w G →
  Calls Try.prog 26 #[x,.agg #[t.d,t.i],.agg cs.toArray] w fun e w'=>e=.returned (.bool (patternValidB xs t p))∧Below w w w':=by
 intro hx hf hv hg
 obtain ⟨kv,rfl,ha⟩:=(zA4 _ _ _).1 hv
 obtain ⟨A,cap,rfl,hc1,hc2⟩:=hx.form
 obtain ⟨A4,cap4,rfl,hc3,hc4⟩:=ha.form
 have HV:=jj hv
 have HX:=jj hx
 have HF:=jj hf
 have HA:=jj ha
 have HG:=jj hg
 clear hx hf ha hg
 clear hv
 go_enter Try.func26,Try.ntmps26
 go_wp2_with fail
 obtain ⟨W2,hW2⟩:∃ W2,W2=((w.alloc (.cells #[t.d,t.i] 25)).alloc (.cells #[p.op,p.ct,p.n,p.m,p.va,.slice A4 p.ks.length cap4] 28)):=⟨_,rfl⟩
 have hB0:Below w w W2:=by rw [hW2];exact ((zy2 _ _).alloc (zz8 _) _).alloc (by simp) _
 have KT:Hid (Blk W2 w 25 #[t.d,t.i]):=by rw [hW2];exact (Blk.new w _ _).same (Below.heap_alloc _ _ _ (by simp))
 have KP:Hid (Blk W2 (w.heap.size+1) 28 #[p.op,p.ct,p.n,p.m,p.va,.slice A4 p.ks.length cap4]):=by rw [hW2];have h:=Blk.new (w.alloc (.cells #[t.d,t.i] 25)) 28 #[p.op,p.ct,p.n,p.m,p.va,.slice A4 p.ks.length cap4];rw [World.size_alloc] at h;exact h
 have hws:w.heap.size+2≤W2.heap.size:=by rw [hW2];simp
 have hws2:W2.heap.size=w.heap.size+1+1:=by rw [hW2];simp
 rw [←hW2]
 clear hW2
 obtain ⟨y0,y1,klt⟩:=KT.out.c2
 obtain ⟨z0,z1,z2,z3,z4,z5,klt2⟩:=KP.out.c6
 refine (spec_TypeValid xs t W2 _ F (ArrDt.below HX.out hB0 HF.out) (HF.out.mono hB0.size)).mono ?_
 rintro e w3 ⟨rfl,hb3⟩
 have hB3:=hB0.trans (hb3.mono hB0.size)
 have KT3:=jj (KT.out.same (hb3.block _ KT.out.lt))
 have KP3:=jj (KP.out.same (hb3.block _ KP.out.lt))
 clear y0 y1 z0 z1 z2 z3 z4 z5 klt klt2
 obtain ⟨y0,y1,klt⟩:=KT3.out.c2
 obtain ⟨z0,z1,z2,z3,z4,z5,klt2⟩:=KP3.out.c6
 clear hb3 KT KP
 cases e1:typeValidB xs t with
 |false =>
  have hf:Hid (patternValidB xs t p=false):=by unfold Hid patternValidB;rw [e1];rfl
  clear e1
  go_wp2
  go_ret
  exact ⟨zA0 hf.out.symm,hB3⟩
 |true =>
  have hf:Hid (patternValidB xs t p=patOkB xs t p):=by unfold Hid patternValidB;rw [e1];rfl
  obtain ⟨hw,hto⟩:=typeValid_split e1
  have HW:=jj hw
  have HT:=jj (zB9 hto)
  clear e1 hw hto
  go_wp2_with fail
  refine (spec_l3Is xs HW.out t HT.out p hz w3 _ F _ G (ArrDt.below HX.out hB3 HF.out) (HF.out.mono hB3.size) (HV.out.below hB3 HG.out) (HG.out.mono hB3.size)).mono ?_
  rintro e w4 ⟨rfl,hb4⟩
  have hB4:=hB3.trans (hb4.mono hB3.size)
  generalize patOkB xs t p=bb at *
  clear hb4
  go_wp2
  go_ret
  exact ⟨zA0 hf.out.symm,hB4⟩
def patternVarsL (xs:List Dt) (t:Ty) (p:P):List Vt:=if patternValidB xs t p=true then varsN xs 10 t p else []
set_option maxHeartbeats 8000000 in
theorem spec_l3Some (xs:List Dt) (hw:WorldOK xs) (t:Ty) (ht:TyIn xs.length t) (w:World) (p g:Nat) (x:Value) (F:List Nat) (hr:Rd w g p) (hp:p≤800000) (hx:Arr w (DtR w) xs x F) (hf:Under w F) (hgF:g∉F) :
  Calls Try.prog 68 #[.pointer (some ⟨g,0,none⟩),x,.agg #[t.d,t.i]] w (DrewP 512 p 2000 g w):=by
 have hgl:=hr.lt
 obtain ⟨A,cap,rfl,hc1,hc2⟩:=hx.form
 have HW:=jj hw
 have HT:=jj ht
 have HGF:=jj hgF
 have HPB:Hid (p+1+5*4 ^ 4≤900000):=by unfold Hid;rw [pow44];omega
 have HR:=jj hr
 have HX:=jj hx
 have HF:=jj hf
 clear hr hx hf
 clear hw ht hgF
 go_enter Try.func68,Try.ntmps68
 go_wp2_with fail
 obtain ⟨W2,hW2⟩:∃ W2,W2=((w.alloc (.cells #[t.d,t.i] 25)).alloc (.cells #[(0:Int),(0:Int),(0:Int),(0:Int),(0:Int),.slice none 0 0] 28)):=⟨_,rfl⟩
 have hB0:Below w w W2:=by rw [hW2];exact ((zy2 _ _).alloc (zz8 _) _).alloc (by simp) _
 have KT:Hid (Blk W2 w 25 #[t.d,t.i]):=by rw [hW2];exact (Blk.new w _ _).same (Below.heap_alloc _ _ _ (by simp))
 have KR:Hid (Blk W2 (w.heap.size+1) 28 #[(0:Int),(0:Int),(0:Int),(0:Int),(0:Int),.slice none 0 0]):=by rw [hW2];exact zA8 w _ 28 _
 have hws:W2.heap.size=w.heap.size+2:=by rw [hW2];simp
 have HR2:=jj (HR.out.below hB0)
 rw [←hW2]
 clear hW2
 clear HR
 have HR:=HR2
 clear HR2
 have HXK:Hid (∀ C,Chg [g] W2 C→Arr C (DtR C) xs (.slice A xs.length cap) F):=fun C hC=>ArrDt.mono (ArrDt.below HX.out hB0 HF.out) (hC.kept (HF.out.mono hB0.size) (fun b hb h=>HGF.out (by rw [zy1] at h;rw [←h];exact hb)))
 have HUK:Hid (∀ C,Chg [g] W2 C→Under C F):=fun C hC=>(HF.out.mono hB0.size).mono hC.size
 have HWS:=jj hws
 have hws2:w.heap.size+2≤W2.heap.size:=by omega
 clear hws
 go_cut [7] from 9 (fun pv wc=>∃ (gx:Nat) (a:P) (cs:List Value) (Fp:List Nat) (q:Nat),pv=.pointer (some ⟨gx,0,none⟩)∧Hid (Chg [g] W2 wc)∧Hid (Blk wc gx 28 cs.toArray)∧Hid (W2.heap.size≤gx)∧Hid (gx∉Fp)∧Hid (PR wc a cs Fp)∧Hid (∀ b∈Fp,b<wc.heap.size∧b≠g∧W2.heap.size≤b)∧Hid (nodesP a≤512)∧Hid (Rd wc g q)∧Hid (q≤p+2000))
 case first =>
  have HS:Hid (∀ C:World,Chg [g] W2 C→(C.cell? ⟨w,0,none⟩=t.d∧C.cell? ⟨w,1,none⟩=t.i)):=fun C hb=>⟨((KT.out.same (hb.block _ KT.out.lt (by rw [zy1];omega))).cell 0).trans (by simp),((KT.out.same (hb.block _ KT.out.lt (by rw [zy1];omega))).cell 1).trans (by simp)⟩
  have hC0:Chg [g] W2 W2.drew:=(Chg.refl _ _).drew
  refine zA6 (S:=fun w'=>w'.cell? ⟨w,0,none⟩=t.d∧w'.cell? ⟨w,1,none⟩=t.i) (T:=fun _=>True) (d:=99) (by kernel_rfl) ?_
  obtain ⟨wd,hwd⟩:∃ X,X=W2.drew:=⟨_,rfl⟩
  have HR0:=jj (HR.out.keep (w':=wd) (fun b hb=>by rw [hwd];rfl))
  rw [←hwd] at hC0 ⊢
  clear hwd
  have hS0:=HS.out _ hC0
  have hT0:True:=trivial
  refine wV 0 rfl hS0 hT0 ?_
  (try simp only [zz])
  refine wV 1 rfl hS0 hT0 ?_
  (try simp only [zz])
  refine wV 2 rfl hS0 hT0 ?_
  (try simp only [zz])
  refine wV 3 rfl hS0 hT0 ?_
  (try simp only [zz])
  refine wV 4 rfl hS0 hT0 ?_
  (try simp only [zz])
  refine wR (rs:=[5,12]) (by kernel_rfl) (by simp) ?_
  refine AllReadyB.c rfl (fun K hK=>?_) (AllReadyB.c rfl (fun K hK=>?_) AllReadyB.n)
  ·skip
   go_simp
   obtain ⟨C1,hX⟩:∃ X,X=wd.alloc (.cells ([3,2,4,1].map (Value.int .i64)).toArray 3):=⟨_,rfl⟩
   have hX2:=hX
   simp only [List.map_cons,List.map_nil] at hX2
   have hb1:Below wd wd C1:=by rw [hX];exact (zy2 _ _).alloc (zz8 _) _
   have HL1:Hid (LitN C1 wd.heap.size [3,2,4,1]):=by rw [hX];exact LitN.new _ _ (by decide)
   first | rw [←hX] | rw [←hX2]
   clear hX hX2
   have hC1:Chg [g] W2 C1:=hC0.step hb1
   have HLG1:Hid (wd.heap.size≠g):=by have:=hC0.size;unfold Hid;omega
   have HRb2:=jj (HR0.out.below hb1)
   (try dsimp only)
   refine hK.out _ _ (HS.out _ hC1) (fun _=>trivial) ?_
   clear hK K
   (try simp only [zz])
   refine wR (rs:=[6,12]) (by kernel_rfl) (by simp) ?_
   refine AllReadyB.c rfl (fun K hK=>?_) (AllReadyB.c rfl (fun K hK=>?_) AllReadyB.n)
   ·skip
    go_simp
    go_at_call 35
    refine (num_any [3,2,4,1] (by decide) (by decide) p g C1 HRb2.out (by omega) _ _ HL1.out.2 (fun x hx=>by rw [List.mem_singleton.1 hx];exact HL1.out.1) (fun e=>HLG1.out (List.mem_singleton.1 e).symm)).mono ?_
    rintro e C3 ⟨nd,hnd,rfl,hr3,hq3⟩
    have hC3:Chg [g] W2 C3:=hC1.trans hq3
    have HR3:=jj hr3
    have HND:Hid (nd≤((4:Nat):Int)∧((4:Nat):Int)-30≤nd):=by simp at hnd;unfold Hid;omega
    clear hr3 hnd
    (try dsimp only)
    refine hK.out _ _ (HS.out _ hC3) (fun _=>trivial) ?_
    clear hK K
    (try simp only [zz])
    refine wR (rs:=[7,12]) (by kernel_rfl) (by simp) ?_
    refine AllReadyB.c rfl (fun K hK=>?_) (AllReadyB.c rfl (fun K hK=>?_) AllReadyB.n)
    ·skip
     go_simp
     go_at_call 91
     refine (spec_l3Draw 4 (by omega) xs HW.out t HT.out nd HND.out.1 HND.out.2 C3 (p+1) g _ F HR3.out HPB.out (HXK.out _ hC3) (HUK.out _ hC3) HGF.out).mono ?_
     rintro e C4 ⟨ad,cs4,F4,qd,rfl,hp4,hf4,hn4,hr4,hqq4,hq4⟩
     have hC4:Chg [g] W2 C4:=hC3.trans hq4
     obtain ⟨kvd4,rfl,had4⟩:=(zA4 _ _ _).1 hp4
     obtain ⟨dA,dcap,rfl,-,-⟩:=had4.form
     have HP4:=jj hp4
     have HR4:=jj hr4
     have HN4:Hid (nodesP ad≤256):=by have h:=hn4;rw [pow44] at h;exact h
     have HQ4:Hid (qd≤p+1+1280):=by have h:=hqq4;rw [pow44] at h;exact h
     have HU4:Hid (∀ b∈F4,b<C4.heap.size∧b≠g∧W2.heap.size≤b):=fun b hb=>⟨(hf4 b hb).1,(hf4 b hb).2.1,Nat.le_trans hC3.size (hf4 b hb).2.2⟩
     clear hp4 hr4 hn4 hqq4 hf4 had4
     (try dsimp only)
     refine hK.out _ _ (HS.out _ hC4) (fun _=>trivial) ?_
     clear hK K
     (try simp only [zz])
     refine wR (rs:=[8,12]) (by kernel_rfl) (by simp) ?_
     refine AllReadyB.c rfl (fun K hK=>?_) (AllReadyB.c rfl (fun K hK=>?_) AllReadyB.n)
     ·skip
      go_simp
      go_at_call 90
      refine (spec_l3Name ad C4 qd g 0 _ F4 HR4.out (by have h1:=HN4.out;have h2:=HQ4.out;omega) (by omega) (by have h1:=HN4.out;omega) HP4.out (fun b hb=>(HU4.out b hb).1) (fun b hb=>(HU4.out b hb).2.1)).mono ?_
      rintro e C5 ⟨an,cs5,F5,qn,mn,rfl,hp5,hf5,hn5,hr5,hqq5,hq5,-,-⟩
      have hC5:Chg [g] W2 C5:=hC4.trans hq5
      obtain ⟨kvn5,rfl,han5⟩:=(zA4 _ _ _).1 hp5
      obtain ⟨nA,ncap,rfl,-,-⟩:=han5.form
      have HP5:=jj hp5
      have HR5:=jj hr5
      have HNN5:Hid (nodesP an≤512):=by have h1:=HN4.out;unfold Hid;omega
      have HQN5:Hid (qn≤p+2000):=by have h1:=HN4.out;have h2:=HQ4.out;unfold Hid;omega
      have HU5:Hid (∀ b∈F5,b<C5.heap.size∧b≠g∧W2.heap.size≤b):=fun b hb=>by
       obtain ⟨h1,h2⟩:=hf5 b hb
       rcases h2 with h2 | h2
       ·exact ⟨h1,(HU4.out b h2).2⟩
       ·have h3:=hC4.size
        exact ⟨h1,by omega,by omega⟩
      clear hp5 hr5 hn5 hqq5 hf5 han5
      (try dsimp only)
      refine hK.out _ _ (HS.out _ hC5) (fun _=>trivial) ?_
      clear hK K
      (try simp only [zz])
      have hSx5:=HS.out _ hC5
      refine wV 9 rfl hSx5 hT0 ?_
      (try simp only [zz])
      refine wV 10 rfl hSx5 hT0 ?_
      (try simp only [zz])
      refine wV 11 rfl hSx5 hT0 ?_
      (try simp only [zz])
      refine w1 12 rfl fun K hK=>?_
      go_simp
      obtain ⟨C6,hX⟩:∃ X,X=C5.alloc (.cells #[(0:Int),(0:Int),(0:Int),(0:Int),(0:Int),.slice none 0 0] 28):=⟨_,rfl⟩
      have hb6:Below C5 C5 C6:=by rw [hX];exact (zy2 _ _).alloc (zz8 _) _
      have cx6:Hid (Blk C6 C5 28 #[(0:Int),(0:Int),(0:Int),(0:Int),(0:Int),.slice none 0 0]):=by rw [hX];exact Blk.new _ _ _
      rw [←hX]
      clear hX
      have hC6:Chg [g] W2 C6:=hC5.step hb6
      have HGE6:Hid (W2.heap.size≤C5.heap.size):=hC5.size
      have HRb7:=jj (HR5.out.below hb6)
      have cp7:=jj (PR.below HP5.out hb6 (fun b hb=>(HU5.out b hb).1))
      have cu7:Hid (∀ b∈F5,b<C6.heap.size∧b≠g∧W2.heap.size≤b):=fun b hb=>⟨zz9 (HU5.out b hb).1 hb6.size,(HU5.out b hb).2⟩
      (try dsimp only)
      refine hK.out _ _ (HS.out _ hC6) (fun _=>trivial) ?_
      clear hK K
      (try simp only [zz])
      obtain ⟨yy0,yy1,yy2,yy3,yy4,yy5,yylt,ff0,ff1,ff2,ff3,ff4,ff5⟩:=cx6.out.q6
      have hCe:Hid (Chg [g] W2 ((((((C6.setCell ⟨C5,0,none⟩ (.int .i64 an.op)).setCell ⟨C5,1,none⟩ (.int .i64 an.ct)).setCell ⟨C5,2,none⟩ (.int .i64 an.n)).setCell ⟨C5,3,none⟩ (.int .i64 an.m)).setCell ⟨C5,4,none⟩ (.int .i64 an.va)).setCell ⟨C5,5,none⟩ (.slice nA an.ks.length ncap))):=((((((hC6.set_new HGE6.out).set_new HGE6.out).set_new HGE6.out).set_new HGE6.out).set_new HGE6.out).set_new HGE6.out)
      have cbe:Hid (Blk ((((((C6.setCell ⟨C5,0,none⟩ (.int .i64 an.op)).setCell ⟨C5,1,none⟩ (.int .i64 an.ct)).setCell ⟨C5,2,none⟩ (.int .i64 an.n)).setCell ⟨C5,3,none⟩ (.int .i64 an.m)).setCell ⟨C5,4,none⟩ (.int .i64 an.va)).setCell ⟨C5,5,none⟩ (.slice nA an.ks.length ncap)) (C5.heap.size) 28 #[an.op,an.ct,an.n,an.m,an.va,.slice nA an.ks.length ncap]):=((((((cx6.out.set_ 0 _).set_ 1 _).set_ 2 _).set_ 3 _).set_ 4 _).set_ 5 _)
      have hgF:∀ b∈F5,b≠C5.heap.size:=fun b hb e=>Nat.lt_irrefl _ (by have h1:=(HU5.out b hb).1;rw [e] at h1;exact h1)
      have hkp:Kept F5 C6 ((((((C6.setCell ⟨C5,0,none⟩ (.int .i64 an.op)).setCell ⟨C5,1,none⟩ (.int .i64 an.ct)).setCell ⟨C5,2,none⟩ (.int .i64 an.n)).setCell ⟨C5,3,none⟩ (.int .i64 an.m)).setCell ⟨C5,4,none⟩ (.int .i64 an.va)).setCell ⟨C5,5,none⟩ (.slice nA an.ks.length ncap)):=fun b hb=>by rw [zz7 _ _ _ _ (hgF b hb),zz7 _ _ _ _ (hgF b hb),zz7 _ _ _ _ (hgF b hb),zz7 _ _ _ _ (hgF b hb),zz7 _ _ _ _ (hgF b hb),zz7 _ _ _ _ (hgF b hb)]
      have hpe:=jj (PR.mono _ _ _ hkp cp7.out)
      have hse:Hid (∀ b∈F5,b<(((((((C6.setCell ⟨C5,0,none⟩ (.int .i64 an.op)).setCell ⟨C5,1,none⟩ (.int .i64 an.ct)).setCell ⟨C5,2,none⟩ (.int .i64 an.n)).setCell ⟨C5,3,none⟩ (.int .i64 an.m)).setCell ⟨C5,4,none⟩ (.int .i64 an.va)).setCell ⟨C5,5,none⟩ (.slice nA an.ks.length ncap))).heap.size∧b≠g∧W2.heap.size≤b):=fun b hb=>⟨by simpa [World.setCell] using (cu7.out b hb).1,(cu7.out b hb).2⟩
      have hre:=jj (HRb7.out.keep (w':=((((((C6.setCell ⟨C5,0,none⟩ (.int .i64 an.op)).setCell ⟨C5,1,none⟩ (.int .i64 an.ct)).setCell ⟨C5,2,none⟩ (.int .i64 an.n)).setCell ⟨C5,3,none⟩ (.int .i64 an.m)).setCell ⟨C5,4,none⟩ (.int .i64 an.va)).setCell ⟨C5,5,none⟩ (.slice nA an.ks.length ncap))) (fun b hb=>by rw [zz7 _ _ _ _ (by show b≠C5.heap.size;have:=HGE6.out;omega),zz7 _ _ _ _ (by show b≠C5.heap.size;have:=HGE6.out;omega),zz7 _ _ _ _ (by show b≠C5.heap.size;have:=HGE6.out;omega),zz7 _ _ _ _ (by show b≠C5.heap.size;have:=HGE6.out;omega),zz7 _ _ _ _ (by show b≠C5.heap.size;have:=HGE6.out;omega),zz7 _ _ _ _ (by show b≠C5.heap.size;have:=HGE6.out;omega)]))
      have hge:Hid (C5.heap.size∉F5):=fun h=>hgF _ h rfl
      clear hkp hgF
      refine w1 13 rfl fun K hK=>?_
      go_simp
      refine hK.out _ _ (HS.out _ hCe.out) (fun _=>trivial) ?_
      clear hK K
      (try simp only [zz])
      refine w1 14 rfl fun K hK=>?_
      go_simp
      refine hK.out _ _ (HS.out _ hCe.out) (fun _=>trivial) ?_
      clear hK K
      (try simp only [zz])
      refine wE (by kernel_rfl) ?_
      clear yy0 ff0 yy1 ff1 yy2 ff2 yy3 ff3 yy4 ff4 yy5 ff5 yylt
      go_wp2
      go_meet
      case rel=>exact ⟨_,an,_,_,qn,rfl,hCe,cbe,HGE6,hge,hpe,hse,HNN5,hre,HQN5⟩
     ·skip
      have DBX8:Hid (∀ b∈F4,b≠C4.heap.size):=fun b hb e=>Nat.lt_irrefl _ (by have h1:=(HU4.out b hb).1;rw [e] at h1;exact h1)
      go_simp
      obtain ⟨C9,hX⟩:∃ X,X=C4.alloc (.cells #[(0:Int),(0:Int),(0:Int),(0:Int),(0:Int),.slice none 0 0] 28):=⟨_,rfl⟩
      have hb9:Below C4 C4 C9:=by rw [hX];exact (zy2 _ _).alloc (zz8 _) _
      have cx9:Hid (Blk C9 C4 28 #[(0:Int),(0:Int),(0:Int),(0:Int),(0:Int),.slice none 0 0]):=by rw [hX];exact Blk.new _ _ _
      rw [←hX]
      clear hX
      have hC9:Chg [g] W2 C9:=hC4.step hb9
      have HGE9:Hid (W2.heap.size≤C4.heap.size):=hC4.size
      have HRb10:=jj (HR4.out.below hb9)
      have HDb10:=jj (PR.below HP4.out hb9 (fun b hb=>(HU4.out b hb).1))
      have HUb10:Hid (∀ b∈F4,b<C9.heap.size∧b≠g∧W2.heap.size≤b):=fun b hb=>⟨zz9 (HU4.out b hb).1 hb9.size,(HU4.out b hb).2⟩
      (try dsimp only)
      refine hK.out _ _ (HS.out _ hC9) (fun _=>trivial) ?_
      clear hK K
      (try simp only [zz])
      refine w1 8 rfl fun K hK=>?_
      go_simp
      go_at_call 90
      refine (spec_l3Name ad C9 qd g 0 _ F4 HRb10.out (by have h1:=HN4.out;have h2:=HQ4.out;omega) (by omega) (by have h1:=HN4.out;omega) HDb10.out (fun b hb=>(HUb10.out b hb).1) (fun b hb=>(HUb10.out b hb).2.1)).mono ?_
      rintro e C11 ⟨an,cs11,F11,qn,mn,rfl,hp11,hf11,hn11,hr11,hqq11,hq11,-,-⟩
      have hC11:Chg [g] W2 C11:=hC9.trans hq11
      have cb11:Hid (Blk C11 C4 28 #[(0:Int),(0:Int),(0:Int),(0:Int),(0:Int),.slice none 0 0]):=cx9.out.same (hq11.block _ cx9.out.lt (by rw [zy1];have:=HGE9.out;omega))
      obtain ⟨kvn11,rfl,han11⟩:=(zA4 _ _ _).1 hp11
      obtain ⟨nA,ncap,rfl,-,-⟩:=han11.form
      have HP11:=jj hp11
      have HR11:=jj hr11
      have HNN11:Hid (nodesP an≤512):=by have h1:=HN4.out;unfold Hid;omega
      have HQN11:Hid (qn≤p+2000):=by have h1:=HN4.out;have h2:=HQ4.out;unfold Hid;omega
      have HU11:Hid (∀ b∈F11,b<C11.heap.size∧b≠g∧W2.heap.size≤b):=fun b hb=>by
       obtain ⟨h1,h2⟩:=hf11 b hb
       rcases h2 with h2 | h2
       ·exact ⟨h1,(HUb10.out b h2).2⟩
       ·have h3:=hC9.size
        exact ⟨h1,by omega,by omega⟩
      have NBX11:∀ b∈F11,b≠C4.heap.size:=fun b hb e=>by
       rcases (hf11 b hb).2 with h2 | h2
       ·exact DBX8.out b h2 e
       ·exact Nat.lt_irrefl _ (zz9 cx9.out.lt (by rw [←e];exact h2))
      clear hp11 hr11 hn11 hqq11 hf11 han11
      (try dsimp only)
      refine hK.out _ _ (HS.out _ hC11) (fun _=>trivial) ?_
      clear hK K
      (try simp only [zz])
      have hSx11:=HS.out _ hC11
      refine wV 9 rfl hSx11 hT0 ?_
      (try simp only [zz])
      refine wV 10 rfl hSx11 hT0 ?_
      (try simp only [zz])
      refine wV 11 rfl hSx11 hT0 ?_
      (try simp only [zz])
      obtain ⟨yy0,yy1,yy2,yy3,yy4,yy5,yylt,ff0,ff1,ff2,ff3,ff4,ff5⟩:=cb11.out.q6
      have hCe:Hid (Chg [g] W2 ((((((C11.setCell ⟨C4,0,none⟩ (.int .i64 an.op)).setCell ⟨C4,1,none⟩ (.int .i64 an.ct)).setCell ⟨C4,2,none⟩ (.int .i64 an.n)).setCell ⟨C4,3,none⟩ (.int .i64 an.m)).setCell ⟨C4,4,none⟩ (.int .i64 an.va)).setCell ⟨C4,5,none⟩ (.slice nA an.ks.length ncap))):=((((((hC11.set_new HGE9.out).set_new HGE9.out).set_new HGE9.out).set_new HGE9.out).set_new HGE9.out).set_new HGE9.out)
      have cbe:Hid (Blk ((((((C11.setCell ⟨C4,0,none⟩ (.int .i64 an.op)).setCell ⟨C4,1,none⟩ (.int .i64 an.ct)).setCell ⟨C4,2,none⟩ (.int .i64 an.n)).setCell ⟨C4,3,none⟩ (.int .i64 an.m)).setCell ⟨C4,4,none⟩ (.int .i64 an.va)).setCell ⟨C4,5,none⟩ (.slice nA an.ks.length ncap)) (C4.heap.size) 28 #[an.op,an.ct,an.n,an.m,an.va,.slice nA an.ks.length ncap]):=((((((cb11.out.set_ 0 _).set_ 1 _).set_ 2 _).set_ 3 _).set_ 4 _).set_ 5 _)
      have hgF:∀ b∈F11,b≠C4.heap.size:=NBX11
      have hkp:Kept F11 C11 ((((((C11.setCell ⟨C4,0,none⟩ (.int .i64 an.op)).setCell ⟨C4,1,none⟩ (.int .i64 an.ct)).setCell ⟨C4,2,none⟩ (.int .i64 an.n)).setCell ⟨C4,3,none⟩ (.int .i64 an.m)).setCell ⟨C4,4,none⟩ (.int .i64 an.va)).setCell ⟨C4,5,none⟩ (.slice nA an.ks.length ncap)):=fun b hb=>by rw [zz7 _ _ _ _ (hgF b hb),zz7 _ _ _ _ (hgF b hb),zz7 _ _ _ _ (hgF b hb),zz7 _ _ _ _ (hgF b hb),zz7 _ _ _ _ (hgF b hb),zz7 _ _ _ _ (hgF b hb)]
      have hpe:=jj (PR.mono _ _ _ hkp HP11.out)
      have hse:Hid (∀ b∈F11,b<(((((((C11.setCell ⟨C4,0,none⟩ (.int .i64 an.op)).setCell ⟨C4,1,none⟩ (.int .i64 an.ct)).setCell ⟨C4,2,none⟩ (.int .i64 an.n)).setCell ⟨C4,3,none⟩ (.int .i64 an.m)).setCell ⟨C4,4,none⟩ (.int .i64 an.va)).setCell ⟨C4,5,none⟩ (.slice nA an.ks.length ncap))).heap.size∧b≠g∧W2.heap.size≤b):=fun b hb=>⟨by simpa [World.setCell] using (HU11.out b hb).1,(HU11.out b hb).2⟩
      have hre:=jj (HR11.out.keep (w':=((((((C11.setCell ⟨C4,0,none⟩ (.int .i64 an.op)).setCell ⟨C4,1,none⟩ (.int .i64 an.ct)).setCell ⟨C4,2,none⟩ (.int .i64 an.n)).setCell ⟨C4,3,none⟩ (.int .i64 an.m)).setCell ⟨C4,4,none⟩ (.int .i64 an.va)).setCell ⟨C4,5,none⟩ (.slice nA an.ks.length ncap))) (fun b hb=>by rw [zz7 _ _ _ _ (by show b≠C4.heap.size;have:=HGE9.out;omega),zz7 _ _ _ _ (by show b≠C4.heap.size;have:=HGE9.out;omega),zz7 _ _ _ _ (by show b≠C4.heap.size;have:=HGE9.out;omega),zz7 _ _ _ _ (by show b≠C4.heap.size;have:=HGE9.out;omega),zz7 _ _ _ _ (by show b≠C4.heap.size;have:=HGE9.out;omega),zz7 _ _ _ _ (by show b≠C4.heap.size;have:=HGE9.out;omega)]))
      have hge:Hid (C4.heap.size∉F11):=fun h=>hgF _ h rfl
      clear hkp hgF
      refine w1 13 rfl fun K hK=>?_
      go_simp
      refine hK.out _ _ (HS.out _ hCe.out) (fun _=>trivial) ?_
      clear hK K
      (try simp only [zz])
      refine w1 14 rfl fun K hK=>?_
      go_simp
      refine hK.out _ _ (HS.out _ hCe.out) (fun _=>trivial) ?_
      clear hK K
      (try simp only [zz])
      refine wE (by kernel_rfl) ?_
      clear yy0 ff0 yy1 ff1 yy2 ff2 yy3 ff3 yy4 ff4 yy5 ff5 yylt
      go_wp2
      go_meet
      case rel=>exact ⟨_,an,_,_,qn,rfl,hCe,cbe,HGE9,hge,hpe,hse,HNN11,hre,HQN11⟩
    ·skip
     go_simp
     obtain ⟨C12,hX⟩:∃ X,X=C3.alloc (.cells #[(0:Int),(0:Int),(0:Int),(0:Int),(0:Int),.slice none 0 0] 28):=⟨_,rfl⟩
     have hb12:Below C3 C3 C12:=by rw [hX];exact (zy2 _ _).alloc (zz8 _) _
     have cx12:Hid (Blk C12 C3 28 #[(0:Int),(0:Int),(0:Int),(0:Int),(0:Int),.slice none 0 0]):=by rw [hX];exact Blk.new _ _ _
     rw [←hX]
     clear hX
     have hC12:Chg [g] W2 C12:=hC3.step hb12
     have HGE12:Hid (W2.heap.size≤C3.heap.size):=hC3.size
     have HRb13:=jj (HR3.out.below hb12)
     (try dsimp only)
     refine hK.out _ _ (HS.out _ hC12) (fun _=>trivial) ?_
     clear hK K
     (try simp only [zz])
     refine w1 7 rfl fun K hK=>?_
     go_simp
     go_at_call 91
     refine (spec_l3Draw 4 (by omega) xs HW.out t HT.out nd HND.out.1 HND.out.2 C12 (p+1) g _ F HRb13.out HPB.out (HXK.out _ hC12) (HUK.out _ hC12) HGF.out).mono ?_
     rintro e C14 ⟨ad,cs14,F14,qd,rfl,hp14,hf14,hn14,hr14,hqq14,hq14⟩
     have hC14:Chg [g] W2 C14:=hC12.trans hq14
     have cb14:Hid (Blk C14 C3 28 #[(0:Int),(0:Int),(0:Int),(0:Int),(0:Int),.slice none 0 0]):=cx12.out.same (hq14.block _ cx12.out.lt (by rw [zy1];have:=HGE12.out;omega))
     obtain ⟨kvd14,rfl,had14⟩:=(zA4 _ _ _).1 hp14
     obtain ⟨dA,dcap,rfl,-,-⟩:=had14.form
     have HP14:=jj hp14
     have HR14:=jj hr14
     have HN14:Hid (nodesP ad≤256):=by have h:=hn14;rw [pow44] at h;exact h
     have HQ14:Hid (qd≤p+1+1280):=by have h:=hqq14;rw [pow44] at h;exact h
     have HU14:Hid (∀ b∈F14,b<C14.heap.size∧b≠g∧W2.heap.size≤b):=fun b hb=>⟨(hf14 b hb).1,(hf14 b hb).2.1,Nat.le_trans hC12.size (hf14 b hb).2.2⟩
     have DBX14:Hid (∀ b∈F14,b≠C3.heap.size):=fun b hb e=>Nat.lt_irrefl _ (zz9 cx12.out.lt (by rw [←e];exact (hf14 b hb).2.2))
     clear hp14 hr14 hn14 hqq14 hf14 had14
     (try dsimp only)
     refine hK.out _ _ (HS.out _ hC14) (fun _=>trivial) ?_
     clear hK K
     (try simp only [zz])
     refine w1 8 rfl fun K hK=>?_
     go_simp
     go_at_call 90
     refine (spec_l3Name ad C14 qd g 0 _ F14 HR14.out (by have h1:=HN14.out;have h2:=HQ14.out;omega) (by omega) (by have h1:=HN14.out;omega) HP14.out (fun b hb=>(HU14.out b hb).1) (fun b hb=>(HU14.out b hb).2.1)).mono ?_
     rintro e C15 ⟨an,cs15,F15,qn,mn,rfl,hp15,hf15,hn15,hr15,hqq15,hq15,-,-⟩
     have hC15:Chg [g] W2 C15:=hC14.trans hq15
     have cb15:Hid (Blk C15 C3 28 #[(0:Int),(0:Int),(0:Int),(0:Int),(0:Int),.slice none 0 0]):=cb14.out.same (hq15.block _ cb14.out.lt (by rw [zy1];have:=HGE12.out;omega))
     obtain ⟨kvn15,rfl,han15⟩:=(zA4 _ _ _).1 hp15
     obtain ⟨nA,ncap,rfl,-,-⟩:=han15.form
     have HP15:=jj hp15
     have HR15:=jj hr15
     have HNN15:Hid (nodesP an≤512):=by have h1:=HN14.out;unfold Hid;omega
     have HQN15:Hid (qn≤p+2000):=by have h1:=HN14.out;have h2:=HQ14.out;unfold Hid;omega
     have HU15:Hid (∀ b∈F15,b<C15.heap.size∧b≠g∧W2.heap.size≤b):=fun b hb=>by
      obtain ⟨h1,h2⟩:=hf15 b hb
      rcases h2 with h2 | h2
      ·exact ⟨h1,(HU14.out b h2).2⟩
      ·have h3:=hC14.size
       exact ⟨h1,by omega,by omega⟩
     have NBX15:∀ b∈F15,b≠C3.heap.size:=fun b hb e=>by
      rcases (hf15 b hb).2 with h2 | h2
      ·exact DBX14.out b h2 e
      ·exact Nat.lt_irrefl _ (zz9 cb14.out.lt (by rw [←e];exact h2))
     clear hp15 hr15 hn15 hqq15 hf15 han15
     (try dsimp only)
     refine hK.out _ _ (HS.out _ hC15) (fun _=>trivial) ?_
     clear hK K
     (try simp only [zz])
     have hSx15:=HS.out _ hC15
     refine wV 9 rfl hSx15 hT0 ?_
     (try simp only [zz])
     refine wV 10 rfl hSx15 hT0 ?_
     (try simp only [zz])
     refine wV 11 rfl hSx15 hT0 ?_
     (try simp only [zz])
     obtain ⟨yy0,yy1,yy2,yy3,yy4,yy5,yylt,ff0,ff1,ff2,ff3,ff4,ff5⟩:=cb15.out.q6
     have hCe:Hid (Chg [g] W2 ((((((C15.setCell ⟨C3,0,none⟩ (.int .i64 an.op)).setCell ⟨C3,1,none⟩ (.int .i64 an.ct)).setCell ⟨C3,2,none⟩ (.int .i64 an.n)).setCell ⟨C3,3,none⟩ (.int .i64 an.m)).setCell ⟨C3,4,none⟩ (.int .i64 an.va)).setCell ⟨C3,5,none⟩ (.slice nA an.ks.length ncap))):=((((((hC15.set_new HGE12.out).set_new HGE12.out).set_new HGE12.out).set_new HGE12.out).set_new HGE12.out).set_new HGE12.out)
     have cbe:Hid (Blk ((((((C15.setCell ⟨C3,0,none⟩ (.int .i64 an.op)).setCell ⟨C3,1,none⟩ (.int .i64 an.ct)).setCell ⟨C3,2,none⟩ (.int .i64 an.n)).setCell ⟨C3,3,none⟩ (.int .i64 an.m)).setCell ⟨C3,4,none⟩ (.int .i64 an.va)).setCell ⟨C3,5,none⟩ (.slice nA an.ks.length ncap)) (C3.heap.size) 28 #[an.op,an.ct,an.n,an.m,an.va,.slice nA an.ks.length ncap]):=((((((cb15.out.set_ 0 _).set_ 1 _).set_ 2 _).set_ 3 _).set_ 4 _).set_ 5 _)
     have hgF:∀ b∈F15,b≠C3.heap.size:=NBX15
     have hkp:Kept F15 C15 ((((((C15.setCell ⟨C3,0,none⟩ (.int .i64 an.op)).setCell ⟨C3,1,none⟩ (.int .i64 an.ct)).setCell ⟨C3,2,none⟩ (.int .i64 an.n)).setCell ⟨C3,3,none⟩ (.int .i64 an.m)).setCell ⟨C3,4,none⟩ (.int .i64 an.va)).setCell ⟨C3,5,none⟩ (.slice nA an.ks.length ncap)):=fun b hb=>by rw [zz7 _ _ _ _ (hgF b hb),zz7 _ _ _ _ (hgF b hb),zz7 _ _ _ _ (hgF b hb),zz7 _ _ _ _ (hgF b hb),zz7 _ _ _ _ (hgF b hb),zz7 _ _ _ _ (hgF b hb)]
     have hpe:=jj (PR.mono _ _ _ hkp HP15.out)
     have hse:Hid (∀ b∈F15,b<(((((((C15.setCell ⟨C3,0,none⟩ (.int .i64 an.op)).setCell ⟨C3,1,none⟩ (.int .i64 an.ct)).setCell ⟨C3,2,none⟩ (.int .i64 an.n)).setCell ⟨C3,3,none⟩ (.int .i64 an.m)).setCell ⟨C3,4,none⟩ (.int .i64 an.va)).setCell ⟨C3,5,none⟩ (.slice nA an.ks.length ncap))).heap.size∧b≠g∧W2.heap.size≤b):=fun b hb=>⟨by simpa [World.setCell] using (HU15.out b hb).1,(HU15.out b hb).2⟩
     have hre:=jj (HR15.out.keep (w':=((((((C15.setCell ⟨C3,0,none⟩ (.int .i64 an.op)).setCell ⟨C3,1,none⟩ (.int .i64 an.ct)).setCell ⟨C3,2,none⟩ (.int .i64 an.n)).setCell ⟨C3,3,none⟩ (.int .i64 an.m)).setCell ⟨C3,4,none⟩ (.int .i64 an.va)).setCell ⟨C3,5,none⟩ (.slice nA an.ks.length ncap))) (fun b hb=>by rw [zz7 _ _ _ _ (by show b≠C3.heap.size;have:=HGE12.out;omega),zz7 _ _ _ _ (by show b≠C3.heap.size;have:=HGE12.out;omega),zz7 _ _ _ _ (by show b≠C3.heap.size;have:=HGE12.out;omega),zz7 _ _ _ _ (by show b≠C3.heap.size;have:=HGE12.out;omega),zz7 _ _ _ _ (by show b≠C3.heap.size;have:=HGE12.out;omega),zz7 _ _ _ _ (by show b≠C3.heap.size;have:=HGE12.out;omega)]))
     have hge:Hid (C3.heap.size∉F15):=fun h=>hgF _ h rfl
     clear hkp hgF
     refine w1 13 rfl fun K hK=>?_
     go_simp
     refine hK.out _ _ (HS.out _ hCe.out) (fun _=>trivial) ?_
     clear hK K
     (try simp only [zz])
     refine w1 14 rfl fun K hK=>?_
     go_simp
     refine hK.out _ _ (HS.out _ hCe.out) (fun _=>trivial) ?_
     clear hK K
     (try simp only [zz])
     refine wE (by kernel_rfl) ?_
     clear yy0 ff0 yy1 ff1 yy2 ff2 yy3 ff3 yy4 ff4 yy5 ff5 yylt
     go_wp2
     go_meet
     case rel=>exact ⟨_,an,_,_,qn,rfl,hCe,cbe,HGE12,hge,hpe,hse,HNN15,hre,HQN15⟩
   ·skip
    go_simp
    obtain ⟨C16,hX⟩:∃ X,X=C1.alloc (.cells #[(0:Int),(0:Int),(0:Int),(0:Int),(0:Int),.slice none 0 0] 28):=⟨_,rfl⟩
    have hb16:Below C1 C1 C16:=by rw [hX];exact (zy2 _ _).alloc (zz8 _) _
    have cx16:Hid (Blk C16 C1 28 #[(0:Int),(0:Int),(0:Int),(0:Int),(0:Int),.slice none 0 0]):=by rw [hX];exact Blk.new _ _ _
    rw [←hX]
    clear hX
    have hC16:Chg [g] W2 C16:=hC1.step hb16
    have HGE16:Hid (W2.heap.size≤C1.heap.size):=hC1.size
    have HRb17:=jj (HRb2.out.below hb16)
    have HLb17:=jj (HL1.out.chg (F:=[]) (.of_below hb16) (by simp))
    (try dsimp only)
    refine hK.out _ _ (HS.out _ hC16) (fun _=>trivial) ?_
    clear hK K
    (try simp only [zz])
    refine w1 6 rfl fun K hK=>?_
    go_simp
    go_at_call 35
    refine (num_any [3,2,4,1] (by decide) (by decide) p g C16 HRb17.out (by omega) _ _ HLb17.out.2 (fun x hx=>by rw [List.mem_singleton.1 hx];exact HLb17.out.1) (fun e=>HLG1.out (List.mem_singleton.1 e).symm)).mono ?_
    rintro e C18 ⟨nd,hnd,rfl,hr18,hq18⟩
    have hC18:Chg [g] W2 C18:=hC16.trans hq18
    have cb18:Hid (Blk C18 C1 28 #[(0:Int),(0:Int),(0:Int),(0:Int),(0:Int),.slice none 0 0]):=cx16.out.same (hq18.block _ cx16.out.lt (by rw [zy1];have:=HGE16.out;omega))
    have HR18:=jj hr18
    have HND:Hid (nd≤((4:Nat):Int)∧((4:Nat):Int)-30≤nd):=by simp at hnd;unfold Hid;omega
    clear hr18 hnd
    (try dsimp only)
    refine hK.out _ _ (HS.out _ hC18) (fun _=>trivial) ?_
    clear hK K
    (try simp only [zz])
    refine w1 7 rfl fun K hK=>?_
    go_simp
    go_at_call 91
    refine (spec_l3Draw 4 (by omega) xs HW.out t HT.out nd HND.out.1 HND.out.2 C18 (p+1) g _ F HR18.out HPB.out (HXK.out _ hC18) (HUK.out _ hC18) HGF.out).mono ?_
    rintro e C19 ⟨ad,cs19,F19,qd,rfl,hp19,hf19,hn19,hr19,hqq19,hq19⟩
    have hC19:Chg [g] W2 C19:=hC18.trans hq19
    have cb19:Hid (Blk C19 C1 28 #[(0:Int),(0:Int),(0:Int),(0:Int),(0:Int),.slice none 0 0]):=cb18.out.same (hq19.block _ cb18.out.lt (by rw [zy1];have:=HGE16.out;omega))
    obtain ⟨kvd19,rfl,had19⟩:=(zA4 _ _ _).1 hp19
    obtain ⟨dA,dcap,rfl,-,-⟩:=had19.form
    have HP19:=jj hp19
    have HR19:=jj hr19
    have HN19:Hid (nodesP ad≤256):=by have h:=hn19;rw [pow44] at h;exact h
    have HQ19:Hid (qd≤p+1+1280):=by have h:=hqq19;rw [pow44] at h;exact h
    have HU19:Hid (∀ b∈F19,b<C19.heap.size∧b≠g∧W2.heap.size≤b):=fun b hb=>⟨(hf19 b hb).1,(hf19 b hb).2.1,Nat.le_trans hC18.size (hf19 b hb).2.2⟩
    have DBX19:Hid (∀ b∈F19,b≠C1.heap.size):=fun b hb e=>Nat.lt_irrefl _ (zz9 cb18.out.lt (by rw [←e];exact (hf19 b hb).2.2))
    clear hp19 hr19 hn19 hqq19 hf19 had19
    (try dsimp only)
    refine hK.out _ _ (HS.out _ hC19) (fun _=>trivial) ?_
    clear hK K
    (try simp only [zz])
    refine w1 8 rfl fun K hK=>?_
    go_simp
    go_at_call 90
    refine (spec_l3Name ad C19 qd g 0 _ F19 HR19.out (by have h1:=HN19.out;have h2:=HQ19.out;omega) (by omega) (by have h1:=HN19.out;omega) HP19.out (fun b hb=>(HU19.out b hb).1) (fun b hb=>(HU19.out b hb).2.1)).mono ?_
    rintro e C20 ⟨an,cs20,F20,qn,mn,rfl,hp20,hf20,hn20,hr20,hqq20,hq20,-,-⟩
    have hC20:Chg [g] W2 C20:=hC19.trans hq20
    have cb20:Hid (Blk C20 C1 28 #[(0:Int),(0:Int),(0:Int),(0:Int),(0:Int),.slice none 0 0]):=cb19.out.same (hq20.block _ cb19.out.lt (by rw [zy1];have:=HGE16.out;omega))
    obtain ⟨kvn20,rfl,han20⟩:=(zA4 _ _ _).1 hp20
    obtain ⟨nA,ncap,rfl,-,-⟩:=han20.form
    have HP20:=jj hp20
    have HR20:=jj hr20
    have HNN20:Hid (nodesP an≤512):=by have h1:=HN19.out;unfold Hid;omega
    have HQN20:Hid (qn≤p+2000):=by have h1:=HN19.out;have h2:=HQ19.out;unfold Hid;omega
    have HU20:Hid (∀ b∈F20,b<C20.heap.size∧b≠g∧W2.heap.size≤b):=fun b hb=>by
     obtain ⟨h1,h2⟩:=hf20 b hb
     rcases h2 with h2 | h2
     ·exact ⟨h1,(HU19.out b h2).2⟩
     ·have h3:=hC19.size
      exact ⟨h1,by omega,by omega⟩
    have NBX20:∀ b∈F20,b≠C1.heap.size:=fun b hb e=>by
     rcases (hf20 b hb).2 with h2 | h2
     ·exact DBX19.out b h2 e
     ·exact Nat.lt_irrefl _ (zz9 cb19.out.lt (by rw [←e];exact h2))
    clear hp20 hr20 hn20 hqq20 hf20 han20
    (try dsimp only)
    refine hK.out _ _ (HS.out _ hC20) (fun _=>trivial) ?_
    clear hK K
    (try simp only [zz])
    have hSx20:=HS.out _ hC20
    refine wV 9 rfl hSx20 hT0 ?_
    (try simp only [zz])
    refine wV 10 rfl hSx20 hT0 ?_
    (try simp only [zz])
    refine wV 11 rfl hSx20 hT0 ?_
    (try simp only [zz])
    obtain ⟨yy0,yy1,yy2,yy3,yy4,yy5,yylt,ff0,ff1,ff2,ff3,ff4,ff5⟩:=cb20.out.q6
    have hCe:Hid (Chg [g] W2 ((((((C20.setCell ⟨C1,0,none⟩ (.int .i64 an.op)).setCell ⟨C1,1,none⟩ (.int .i64 an.ct)).setCell ⟨C1,2,none⟩ (.int .i64 an.n)).setCell ⟨C1,3,none⟩ (.int .i64 an.m)).setCell ⟨C1,4,none⟩ (.int .i64 an.va)).setCell ⟨C1,5,none⟩ (.slice nA an.ks.length ncap))):=((((((hC20.set_new HGE16.out).set_new HGE16.out).set_new HGE16.out).set_new HGE16.out).set_new HGE16.out).set_new HGE16.out)
    have cbe:Hid (Blk ((((((C20.setCell ⟨C1,0,none⟩ (.int .i64 an.op)).setCell ⟨C1,1,none⟩ (.int .i64 an.ct)).setCell ⟨C1,2,none⟩ (.int .i64 an.n)).setCell ⟨C1,3,none⟩ (.int .i64 an.m)).setCell ⟨C1,4,none⟩ (.int .i64 an.va)).setCell ⟨C1,5,none⟩ (.slice nA an.ks.length ncap)) (C1.heap.size) 28 #[an.op,an.ct,an.n,an.m,an.va,.slice nA an.ks.length ncap]):=((((((cb20.out.set_ 0 _).set_ 1 _).set_ 2 _).set_ 3 _).set_ 4 _).set_ 5 _)
    have hgF:∀ b∈F20,b≠C1.heap.size:=NBX20
    have hkp:Kept F20 C20 ((((((C20.setCell ⟨C1,0,none⟩ (.int .i64 an.op)).setCell ⟨C1,1,none⟩ (.int .i64 an.ct)).setCell ⟨C1,2,none⟩ (.int .i64 an.n)).setCell ⟨C1,3,none⟩ (.int .i64 an.m)).setCell ⟨C1,4,none⟩ (.int .i64 an.va)).setCell ⟨C1,5,none⟩ (.slice nA an.ks.length ncap)):=fun b hb=>by rw [zz7 _ _ _ _ (hgF b hb),zz7 _ _ _ _ (hgF b hb),zz7 _ _ _ _ (hgF b hb),zz7 _ _ _ _ (hgF b hb),zz7 _ _ _ _ (hgF b hb),zz7 _ _ _ _ (hgF b hb)]
    have hpe:=jj (PR.mono _ _ _ hkp HP20.out)
    have hse:Hid (∀ b∈F20,b<(((((((C20.setCell ⟨C1,0,none⟩ (.int .i64 an.op)).setCell ⟨C1,1,none⟩ (.int .i64 an.ct)).setCell ⟨C1,2,none⟩ (.int .i64 an.n)).setCell ⟨C1,3,none⟩ (.int .i64 an.m)).setCell ⟨C1,4,none⟩ (.int .i64 an.va)).setCell ⟨C1,5,none⟩ (.slice nA an.ks.length ncap))).heap.size∧b≠g∧W2.heap.size≤b):=fun b hb=>⟨by simpa [World.setCell] using (HU20.out b hb).1,(HU20.out b hb).2⟩
    have hre:=jj (HR20.out.keep (w':=((((((C20.setCell ⟨C1,0,none⟩ (.int .i64 an.op)).setCell ⟨C1,1,none⟩ (.int .i64 an.ct)).setCell ⟨C1,2,none⟩ (.int .i64 an.n)).setCell ⟨C1,3,none⟩ (.int .i64 an.m)).setCell ⟨C1,4,none⟩ (.int .i64 an.va)).setCell ⟨C1,5,none⟩ (.slice nA an.ks.length ncap))) (fun b hb=>by rw [zz7 _ _ _ _ (by show b≠C1.heap.size;have:=HGE16.out;omega),zz7 _ _ _ _ (by show b≠C1.heap.size;have:=HGE16.out;omega),zz7 _ _ _ _ (by show b≠C1.heap.size;have:=HGE16.out;omega),zz7 _ _ _ _ (by show b≠C1.heap.size;have:=HGE16.out;omega),zz7 _ _ _ _ (by show b≠C1.heap.size;have:=HGE16.out;omega),zz7 _ _ _ _ (by show b≠C1.heap.size;have:=HGE16.out;omega)]))
    have hge:Hid (C1.heap.size∉F20):=fun h=>hgF _ h rfl
    clear hkp hgF
    refine w1 13 rfl fun K hK=>?_
    go_simp
    refine hK.out _ _ (HS.out _ hCe.out) (fun _=>trivial) ?_
    clear hK K
    (try simp only [zz])
    refine w1 14 rfl fun K hK=>?_
    go_simp
    refine hK.out _ _ (HS.out _ hCe.out) (fun _=>trivial) ?_
    clear hK K
    (try simp only [zz])
    refine wE (by kernel_rfl) ?_
    clear yy0 ff0 yy1 ff1 yy2 ff2 yy3 ff3 yy4 ff4 yy5 ff5 yylt
    go_wp2
    go_meet
    case rel=>exact ⟨_,an,_,_,qn,rfl,hCe,cbe,HGE16,hge,hpe,hse,HNN20,hre,HQN20⟩
  ·skip
   go_simp
   obtain ⟨C21,hX⟩:∃ X,X=wd.alloc (.cells #[(0:Int),(0:Int),(0:Int),(0:Int),(0:Int),.slice none 0 0] 28):=⟨_,rfl⟩
   have hb21:Below wd wd C21:=by rw [hX];exact (zy2 _ _).alloc (zz8 _) _
   have cx21:Hid (Blk C21 wd 28 #[(0:Int),(0:Int),(0:Int),(0:Int),(0:Int),.slice none 0 0]):=by rw [hX];exact Blk.new _ _ _
   rw [←hX]
   clear hX
   have hC21:Chg [g] W2 C21:=hC0.step hb21
   have HGE21:Hid (W2.heap.size≤wd.heap.size):=hC0.size
   have HRb22:=jj (HR0.out.below hb21)
   (try dsimp only)
   refine hK.out _ _ (HS.out _ hC21) (fun _=>trivial) ?_
   clear hK K
   (try simp only [zz])
   refine w1 5 rfl fun K hK=>?_
   go_simp
   obtain ⟨C23,hX⟩:∃ X,X=C21.alloc (.cells ([3,2,4,1].map (Value.int .i64)).toArray 3):=⟨_,rfl⟩
   have hX2:=hX
   simp only [List.map_cons,List.map_nil] at hX2
   have hb23:Below C21 C21 C23:=by rw [hX];exact (zy2 _ _).alloc (zz8 _) _
   have HL23:Hid (LitN C23 C21.heap.size [3,2,4,1]):=by rw [hX];exact LitN.new _ _ (by decide)
   first | rw [←hX] | rw [←hX2]
   clear hX hX2
   have hC23:Chg [g] W2 C23:=hC21.step hb23
   have HLG23:Hid (C21.heap.size≠g):=by have:=hC21.size;unfold Hid;omega
   have HRb24:=jj (HRb22.out.below hb23)
   have cb24:Hid (Blk C23 wd 28 #[(0:Int),(0:Int),(0:Int),(0:Int),(0:Int),.slice none 0 0]):=cx21.out.same (hb23.block _ cx21.out.lt)
   (try dsimp only)
   refine hK.out _ _ (HS.out _ hC23) (fun _=>trivial) ?_
   clear hK K
   (try simp only [zz])
   refine w1 6 rfl fun K hK=>?_
   go_simp
   go_at_call 35
   refine (num_any [3,2,4,1] (by decide) (by decide) p g C23 HRb24.out (by omega) _ _ HL23.out.2 (fun x hx=>by rw [List.mem_singleton.1 hx];exact HL23.out.1) (fun e=>HLG23.out (List.mem_singleton.1 e).symm)).mono ?_
   rintro e C25 ⟨nd,hnd,rfl,hr25,hq25⟩
   have hC25:Chg [g] W2 C25:=hC23.trans hq25
   have cb25:Hid (Blk C25 wd 28 #[(0:Int),(0:Int),(0:Int),(0:Int),(0:Int),.slice none 0 0]):=cb24.out.same (hq25.block _ cb24.out.lt (by rw [zy1];have:=HGE21.out;omega))
   have HR25:=jj hr25
   have HND:Hid (nd≤((4:Nat):Int)∧((4:Nat):Int)-30≤nd):=by simp at hnd;unfold Hid;omega
   clear hr25 hnd
   (try dsimp only)
   refine hK.out _ _ (HS.out _ hC25) (fun _=>trivial) ?_
   clear hK K
   (try simp only [zz])
   refine w1 7 rfl fun K hK=>?_
   go_simp
   go_at_call 91
   refine (spec_l3Draw 4 (by omega) xs HW.out t HT.out nd HND.out.1 HND.out.2 C25 (p+1) g _ F HR25.out HPB.out (HXK.out _ hC25) (HUK.out _ hC25) HGF.out).mono ?_
   rintro e C26 ⟨ad,cs26,F26,qd,rfl,hp26,hf26,hn26,hr26,hqq26,hq26⟩
   have hC26:Chg [g] W2 C26:=hC25.trans hq26
   have cb26:Hid (Blk C26 wd 28 #[(0:Int),(0:Int),(0:Int),(0:Int),(0:Int),.slice none 0 0]):=cb25.out.same (hq26.block _ cb25.out.lt (by rw [zy1];have:=HGE21.out;omega))
   obtain ⟨kvd26,rfl,had26⟩:=(zA4 _ _ _).1 hp26
   obtain ⟨dA,dcap,rfl,-,-⟩:=had26.form
   have HP26:=jj hp26
   have HR26:=jj hr26
   have HN26:Hid (nodesP ad≤256):=by have h:=hn26;rw [pow44] at h;exact h
   have HQ26:Hid (qd≤p+1+1280):=by have h:=hqq26;rw [pow44] at h;exact h
   have HU26:Hid (∀ b∈F26,b<C26.heap.size∧b≠g∧W2.heap.size≤b):=fun b hb=>⟨(hf26 b hb).1,(hf26 b hb).2.1,Nat.le_trans hC25.size (hf26 b hb).2.2⟩
   have DBX26:Hid (∀ b∈F26,b≠wd.heap.size):=fun b hb e=>Nat.lt_irrefl _ (zz9 cb25.out.lt (by rw [←e];exact (hf26 b hb).2.2))
   clear hp26 hr26 hn26 hqq26 hf26 had26
   (try dsimp only)
   refine hK.out _ _ (HS.out _ hC26) (fun _=>trivial) ?_
   clear hK K
   (try simp only [zz])
   refine w1 8 rfl fun K hK=>?_
   go_simp
   go_at_call 90
   refine (spec_l3Name ad C26 qd g 0 _ F26 HR26.out (by have h1:=HN26.out;have h2:=HQ26.out;omega) (by omega) (by have h1:=HN26.out;omega) HP26.out (fun b hb=>(HU26.out b hb).1) (fun b hb=>(HU26.out b hb).2.1)).mono ?_
   rintro e C27 ⟨an,cs27,F27,qn,mn,rfl,hp27,hf27,hn27,hr27,hqq27,hq27,-,-⟩
   have hC27:Chg [g] W2 C27:=hC26.trans hq27
   have cb27:Hid (Blk C27 wd 28 #[(0:Int),(0:Int),(0:Int),(0:Int),(0:Int),.slice none 0 0]):=cb26.out.same (hq27.block _ cb26.out.lt (by rw [zy1];have:=HGE21.out;omega))
   obtain ⟨kvn27,rfl,han27⟩:=(zA4 _ _ _).1 hp27
   obtain ⟨nA,ncap,rfl,-,-⟩:=han27.form
   have HP27:=jj hp27
   have HR27:=jj hr27
   have HNN27:Hid (nodesP an≤512):=by have h1:=HN26.out;unfold Hid;omega
   have HQN27:Hid (qn≤p+2000):=by have h1:=HN26.out;have h2:=HQ26.out;unfold Hid;omega
   have HU27:Hid (∀ b∈F27,b<C27.heap.size∧b≠g∧W2.heap.size≤b):=fun b hb=>by
    obtain ⟨h1,h2⟩:=hf27 b hb
    rcases h2 with h2 | h2
    ·exact ⟨h1,(HU26.out b h2).2⟩
    ·have h3:=hC26.size
     exact ⟨h1,by omega,by omega⟩
   have NBX27:∀ b∈F27,b≠wd.heap.size:=fun b hb e=>by
    rcases (hf27 b hb).2 with h2 | h2
    ·exact DBX26.out b h2 e
    ·exact Nat.lt_irrefl _ (zz9 cb26.out.lt (by rw [←e];exact h2))
   clear hp27 hr27 hn27 hqq27 hf27 han27
   (try dsimp only)
   refine hK.out _ _ (HS.out _ hC27) (fun _=>trivial) ?_
   clear hK K
   (try simp only [zz])
   have hSx27:=HS.out _ hC27
   refine wV 9 rfl hSx27 hT0 ?_
   (try simp only [zz])
   refine wV 10 rfl hSx27 hT0 ?_
   (try simp only [zz])
   refine wV 11 rfl hSx27 hT0 ?_
   (try simp only [zz])
   obtain ⟨yy0,yy1,yy2,yy3,yy4,yy5,yylt,ff0,ff1,ff2,ff3,ff4,ff5⟩:=cb27.out.q6
   have hCe:Hid (Chg [g] W2 ((((((C27.setCell ⟨wd,0,none⟩ (.int .i64 an.op)).setCell ⟨wd,1,none⟩ (.int .i64 an.ct)).setCell ⟨wd,2,none⟩ (.int .i64 an.n)).setCell ⟨wd,3,none⟩ (.int .i64 an.m)).setCell ⟨wd,4,none⟩ (.int .i64 an.va)).setCell ⟨wd,5,none⟩ (.slice nA an.ks.length ncap))):=((((((hC27.set_new HGE21.out).set_new HGE21.out).set_new HGE21.out).set_new HGE21.out).set_new HGE21.out).set_new HGE21.out)
   have cbe:Hid (Blk ((((((C27.setCell ⟨wd,0,none⟩ (.int .i64 an.op)).setCell ⟨wd,1,none⟩ (.int .i64 an.ct)).setCell ⟨wd,2,none⟩ (.int .i64 an.n)).setCell ⟨wd,3,none⟩ (.int .i64 an.m)).setCell ⟨wd,4,none⟩ (.int .i64 an.va)).setCell ⟨wd,5,none⟩ (.slice nA an.ks.length ncap)) (wd.heap.size) 28 #[an.op,an.ct,an.n,an.m,an.va,.slice nA an.ks.length ncap]):=((((((cb27.out.set_ 0 _).set_ 1 _).set_ 2 _).set_ 3 _).set_ 4 _).set_ 5 _)
   have hgF:∀ b∈F27,b≠wd.heap.size:=NBX27
   have hkp:Kept F27 C27 ((((((C27.setCell ⟨wd,0,none⟩ (.int .i64 an.op)).setCell ⟨wd,1,none⟩ (.int .i64 an.ct)).setCell ⟨wd,2,none⟩ (.int .i64 an.n)).setCell ⟨wd,3,none⟩ (.int .i64 an.m)).setCell ⟨wd,4,none⟩ (.int .i64 an.va)).setCell ⟨wd,5,none⟩ (.slice nA an.ks.length ncap)):=fun b hb=>by rw [zz7 _ _ _ _ (hgF b hb),zz7 _ _ _ _ (hgF b hb),zz7 _ _ _ _ (hgF b hb),zz7 _ _ _ _ (hgF b hb),zz7 _ _ _ _ (hgF b hb),zz7 _ _ _ _ (hgF b hb)]
   have hpe:=jj (PR.mono _ _ _ hkp HP27.out)
   have hse:Hid (∀ b∈F27,b<(((((((C27.setCell ⟨wd,0,none⟩ (.int .i64 an.op)).setCell ⟨wd,1,none⟩ (.int .i64 an.ct)).setCell ⟨wd,2,none⟩ (.int .i64 an.n)).setCell ⟨wd,3,none⟩ (.int .i64 an.m)).setCell ⟨wd,4,none⟩ (.int .i64 an.va)).setCell ⟨wd,5,none⟩ (.slice nA an.ks.length ncap))).heap.size∧b≠g∧W2.heap.size≤b):=fun b hb=>⟨by simpa [World.setCell] using (HU27.out b hb).1,(HU27.out b hb).2⟩
   have hre:=jj (HR27.out.keep (w':=((((((C27.setCell ⟨wd,0,none⟩ (.int .i64 an.op)).setCell ⟨wd,1,none⟩ (.int .i64 an.ct)).setCell ⟨wd,2,none⟩ (.int .i64 an.n)).setCell ⟨wd,3,none⟩ (.int .i64 an.m)).setCell ⟨wd,4,none⟩ (.int .i64 an.va)).setCell ⟨wd,5,none⟩ (.slice nA an.ks.length ncap))) (fun b hb=>by rw [zz7 _ _ _ _ (by show b≠wd.heap.size;have:=HGE21.out;omega),zz7 _ _ _ _ (by show b≠wd.heap.size;have:=HGE21.out;omega),zz7 _ _ _ _ (by show b≠wd.heap.size;have:=HGE21.out;omega),zz7 _ _ _ _ (by show b≠wd.heap.size;have:=HGE21.out;omega),zz7 _ _ _ _ (by show b≠wd.heap.size;have:=HGE21.out;omega),zz7 _ _ _ _ (by show b≠wd.heap.size;have:=HGE21.out;omega)]))
   have hge:Hid (wd.heap.size∉F27):=fun h=>hgF _ h rfl
   clear hkp hgF
   refine w1 13 rfl fun K hK=>?_
   go_simp
   refine hK.out _ _ (HS.out _ hCe.out) (fun _=>trivial) ?_
   clear hK K
   (try simp only [zz])
   refine w1 14 rfl fun K hK=>?_
   go_simp
   refine hK.out _ _ (HS.out _ hCe.out) (fun _=>trivial) ?_
   clear hK K
   (try simp only [zz])
   refine wE (by kernel_rfl) ?_
   clear yy0 ff0 yy1 ff1 yy2 ff2 yy3 ff3 yy4 ff4 yy5 ff5 yylt
   go_wp2
   go_meet
   case rel=>exact ⟨_,an,_,_,qn,rfl,hCe,cbe,HGE21,hge,hpe,hse,HNN27,hre,HQN27⟩
 case rest =>
  obtain ⟨gx,a,cs,Fp,q,rfl,HC,KX,HGX,HNX,HP,HU,HN,HRD,HQ⟩:=hcut
  obtain ⟨kva,rfl,haa⟩:=(zA4 _ _ _).1 HP.out
  obtain ⟨aA,acap,rfl,-,-⟩:=haa.form
  clear haa
  obtain ⟨w5,hw5⟩:∃ X,X=wc:=⟨_,rfl⟩
  rw [←hw5] at HC KX HP HU HRD ⊢
  clear hw5
  have KT5:Hid (Blk w5 w 25 #[t.d,t.i]):=KT.out.same (HC.out.block _ KT.out.lt (by rw [zy1];omega))
  have KR5:Hid (Blk w5 (w.heap.size+1) 28 #[(0:Int),(0:Int),(0:Int),(0:Int),(0:Int),.slice none 0 0]):=KR.out.same (HC.out.block _ KR.out.lt (by rw [zy1];omega))
  have hC5:Chg [g] w w5:=(Chg.of_below hB0).trans HC.out
  obtain ⟨y0,y1,ylt⟩:=KT5.out.c2
  obtain ⟨x0,x1,x2,x3,x4,x5,xlt⟩:=KX.out.c6
  have HSZ:Hid (a.size≤1048576):=by have:=HN.out;unfold nodesP at this;unfold Hid;omega
  go_wp2_with fail
  refine (spec_l3Is xs HW.out t HT.out a HSZ.out w5 _ F _ Fp (HXK.out _ HC.out) (HUK.out _ HC.out) HP.out (fun b hb=>(HU.out b hb).1)).mono ?_
  rintro e w6 ⟨rfl,hb6⟩
  have hC6:Chg [g] w w6:=hC5.step hb6
  have KR6:=jj (KR5.out.same (hb6.block _ KR5.out.lt))
  have KX6:=jj (KX.out.same (hb6.block _ KX.out.lt))
  have HP6:=jj (HP.out.below hb6 (fun b hb=>(HU.out b hb).1))
  have HR6:=jj (HRD.out.below hb6)
  have h56:=hb6.size
  clear y0 y1 ylt x0 x1 x2 x3 x4 x5 xlt hb6 HRD HP
  obtain ⟨rc0,rc1,rc2,rc3,rc4,rc5,rlt,rf0,rf1,rf2,rf3,rf4,rf5⟩:=KR6.out.q6
  cases hok:patOkB xs t a with
  |false =>
   clear hok
   go_wp2
   clear rc0 rf0 rc1 rf1 rc2 rf2 rc3 rf3 rc4 rf4 rc5 rf5 rlt
   refine bodyPost_ret (zA2 rfl _ _ (w.heap.size+1) 28 #[(1:Int),(0:Int),(0:Int),(0:Int),(0:Int),.slice none 0 0] (0,0) _ rfl (KR6.out.six _ _ _ _ _ _) Try.underlying28 rfl rfl) rfl ?_
   exact ⟨⟨1,0,0,0,0,[]⟩,[(1:Int),(0:Int),(0:Int),(0:Int),(0:Int),.slice none 0 0],[],q,rfl,(zA4 _ _ _).2 ⟨_,rfl,Arr.nil⟩,(fun b hb=>by cases hb),by simp [nodesP,P.size,P.sizes],zB3 HR6.out (by omega) _ _ _ _ _ _,HQ.out,zAO hC6 (by omega) _ _ _ _ _ _⟩
  |true =>
   clear hok
   obtain ⟨x0,x1,x2,x3,x4,x5,xlt⟩:=KX6.out.c6
   go_wp2
   clear x0 x1 x2 x3 x4 x5 xlt
   clear rc0 rf0 rc1 rf1 rc2 rf2 rc3 rf3 rc4 rf4 rc5 rf5 rlt
   refine bodyPost_ret (zA2 rfl _ _ (w.heap.size+1) 28 #[a.op,a.ct,a.n,a.m,a.va,.slice aA a.ks.length acap] (0,0) _ rfl (KR6.out.six _ _ _ _ _ _) Try.underlying28 rfl rfl) rfl ?_
   have hkp:Kept Fp w6 ((((((w6.setCell ⟨w.heap.size+1,0,none⟩ (.int .i64 a.op)).setCell ⟨w.heap.size+1,1,none⟩ (.int .i64 a.ct)).setCell ⟨w.heap.size+1,2,none⟩ (.int .i64 a.n)).setCell ⟨w.heap.size+1,3,none⟩ (.int .i64 a.m)).setCell ⟨w.heap.size+1,4,none⟩ (.int .i64 a.va)).setCell ⟨w.heap.size+1,5,none⟩ (.slice aA a.ks.length acap)):=zAI (fun b hb=>by have:=(HU.out b hb).2.2;omega) _ _ _ _ _ _
   refine ⟨a,[a.op,a.ct,a.n,a.m,a.va,.slice aA a.ks.length acap],Fp,q,rfl,PR.mono _ _ _ hkp HP6.out,(fun b hb=>?_),HN.out,zB3 HR6.out (by omega) _ _ _ _ _ _,HQ.out,zAO hC6 (by omega) _ _ _ _ _ _⟩
   rw [zAJ]
   exact ⟨zz9 (HU.out b hb).1 h56,(HU.out b hb).2.1,by have:=(HU.out b hb).2.2;omega⟩
theorem results_tmp_cell3 {P:Program} {fn:Func} {u p1 p2 p3:Tmp} {ty1 ty2 ty3:TypeId} (h:fn.results=#[.tmp u,.cell p1 ty1,.cell p2 ty2,.cell p3 ty3]) (tmps:Array Value) (w:World) (g1 g2 g3:Nat) (t1 t2 t3:TypeId) (cs1 cs2 cs3:Array Value) (fr1 fr2 fr3:Nat×Nat) (d1 d2 d3:TypeDesc)
  (hp1:tmps.getD p1 undef=.pointer (some ⟨g1,0,none⟩)) (hg1:w.heap[g1]?=some (.cells cs1 t1 fr1)) (hu1:P.underlying ty1=some d1) (hd1:(match d1 with | .struct _ | .array _ _=>true | _=>false)=true) (hi1:(P.info? ty1).map (·.size)=some cs1.size)
  (hp2:tmps.getD p2 undef=.pointer (some ⟨g2,0,none⟩)) (hg2:w.heap[g2]?=some (.cells cs2 t2 fr2)) (hu2:P.underlying ty2=some d2) (hd2:(match d2 with | .struct _ | .array _ _=>true | _=>false)=true) (hi2:(P.info? ty2).map (·.size)=some cs2.size)
  (hp3:tmps.getD p3 undef=.pointer (some ⟨g3,0,none⟩)) (hg3:w.heap[g3]?=some (.cells cs3 t3 fr3)) (hu3:P.underlying ty3=some d3) (hd3:(match d3 with | .struct _ | .array _ _=>true | _=>false)=true) (hi3:(P.info? ty3).map (·.size)=some cs3.size) :
  (results fn tmps).run P w=.ok (.tuple #[tmps.getD u undef,.agg cs1,.agg cs2,.agg cs3]) w:=by
 have hp1':tmps[p1]?.getD undef=.pointer (some ⟨g1,0,none⟩):=by simpa using hp1
 have hp2':tmps[p2]?.getD undef=.pointer (some ⟨g2,0,none⟩):=by simpa using hp2
 have hp3':tmps[p3]?.getD undef=.pointer (some ⟨g3,0,none⟩):=by simpa using hp3
 simp [results,h,hp1',hp2',hp3',asAddr,run_loadVar_row w g1 t1 ty1 cs1 fr1 d1 hg1 hu1 hd1 hi1,run_loadVar_row w g2 t2 ty2 cs2 fr2 d2 hg2 hu2 hd2 hi2,run_loadVar_row w g3 t3 ty3 cs3 fr3 d3 hg3 hu3 hd3 hi3]
def DrewTP (p n g:Nat) (w:World) (e:Ending) (w':World):Prop:=∃ (xs:List Dt) (v:Value) (F:List Nat) (t:Ty) (a:P) (cs:List Value) (Fp:List Nat) (va:V) (vA:Option Addr) (vcap:Nat) (q:Nat),e=.returned (.tuple #[v,.agg #[t.d,t.i],.agg cs.toArray,.agg #[va.c,va.n,.slice vA va.ks.length vcap]])∧TypedOk xs t∧Arr w' (DtR w') xs v F∧Fresh w w' F∧PR w' a cs Fp∧(∀ b∈Fp,b<w'.heap.size∧b≠g∧w.heap.size≤b)∧nodesP a≤512∧Rd w' g q∧q≤p+n∧Chg [g] w w'
set_option maxHeartbeats 8000000 in
theorem spec_l3Typed (p g:Nat) (w:World) (h:Rd w g p) (hp:p≤700000) :
  Calls Try.prog 52 #[.pointer (some ⟨g,0,none⟩)] w (DrewTP p 2300 g w):=by
 have hgl:=h.lt
 have hB0:Below w w (((w.alloc (.cells #[(0:Int),(0:Int)] 25)).alloc (.cells #[(0:Int),(0:Int),(0:Int),(0:Int),(0:Int),.slice none 0 0] 28)).alloc (.cells #[(0:Int),(0:Int),.slice none 0 0] 46)):=(((zy2 _ _).alloc (zz8 _) _).alloc (by simp) _).alloc (by simp;omega) _
 have KT0:Hid (Blk (((w.alloc (.cells #[(0:Int),(0:Int)] 25)).alloc (.cells #[(0:Int),(0:Int),(0:Int),(0:Int),(0:Int),.slice none 0 0] 28)).alloc (.cells #[(0:Int),(0:Int),.slice none 0 0] 46)) w.heap.size 25 #[(0:Int),(0:Int)]):=((Blk.new w _ _).same (Below.heap_alloc _ _ _ (by simp))).same (Below.heap_alloc _ _ _ (by simp;omega))
 have KP0:Hid (Blk (((w.alloc (.cells #[(0:Int),(0:Int)] 25)).alloc (.cells #[(0:Int),(0:Int),(0:Int),(0:Int),(0:Int),.slice none 0 0] 28)).alloc (.cells #[(0:Int),(0:Int),.slice none 0 0] 46)) (w.heap.size+1) 28 #[(0:Int),(0:Int),(0:Int),(0:Int),(0:Int),.slice none 0 0]):=(zA8 w _ 28 _).same (Below.heap_alloc _ _ _ (by simp))
 have KV0:Hid (Blk (((w.alloc (.cells #[(0:Int),(0:Int)] 25)).alloc (.cells #[(0:Int),(0:Int),(0:Int),(0:Int),(0:Int),.slice none 0 0] 28)).alloc (.cells #[(0:Int),(0:Int),.slice none 0 0] 46)) (w.heap.size+2) 46 #[(0:Int),(0:Int),.slice none 0 0]):=by
  have h:=zA8 (w.alloc (.cells #[(0:Int),(0:Int)] 25)) (.cells #[(0:Int),(0:Int),(0:Int),(0:Int),(0:Int),.slice none 0 0] 28) 46 #[(0:Int),(0:Int),.slice none 0 0]
  rw [World.size_alloc] at h
  exact h
 have hs3:((((w.alloc (.cells #[(0:Int),(0:Int)] 25)).alloc (.cells #[(0:Int),(0:Int),(0:Int),(0:Int),(0:Int),.slice none 0 0] 28)).alloc (.cells #[(0:Int),(0:Int),.slice none 0 0] 46))).heap.size=w.heap.size+3:=by simp
 have HR0:=jj (h.below hB0)
 clear h
 go_enter Try.func52,Try.ntmps52
 go_wp2_with fail
 obtain ⟨w2,hw2⟩:∃ X,X=(((w.alloc (.cells #[(0:Int),(0:Int)] 25)).alloc (.cells #[(0:Int),(0:Int),(0:Int),(0:Int),(0:Int),.slice none 0 0] 28)).alloc (.cells #[(0:Int),(0:Int),.slice none 0 0] 46)):=⟨_,rfl⟩
 rw [←hw2] at hB0 KT0 KP0 KV0 hs3 HR0 ⊢
 clear hw2
 refine (spec_l2Typed p g w2 HR0.out (by omega)).mono ?_
 rintro e w5 ⟨xs,v5,FA,t,va,csv,Gv,q5,rfl,htok,ha5,hfs5,hv5,-,-,hR5,hq5,hC5⟩
 obtain ⟨kvv,rfl,hav⟩:=(VR_iff _ _ _).1 hv5
 obtain ⟨vA,vcap,rfl,-,-⟩:=hav.form
 obtain ⟨A1,cap1,rfl,hc1,hc2⟩:=ha5.form
 have hC25:Chg [g] w w5:=(Chg.of_below hB0).trans hC5
 have hz5:w.heap.size+3≤w5.heap.size:=by have:=hC5.size;omega
 have KT5:=jj (KT0.out.same (hC5.block _ KT0.out.lt (by rw [zy1];omega)))
 have KP5:=jj (KP0.out.same (hC5.block _ KP0.out.lt (by rw [zy1];omega)))
 have KV5:=jj (KV0.out.same (hC5.block _ KV0.out.lt (by rw [zy1];omega)))
 have HTOK:=jj htok
 have HA5:=jj ha5
 have HFA5:Hid (∀ b∈FA,w.heap.size+3≤b∧b<w5.heap.size):=fun b hb=>⟨by have:=(hfs5 b hb).1;omega,(hfs5 b hb).2⟩
 have hb6:Below w5 w5 ((w5.alloc (.cells #[t.d,t.i] 25)).alloc (.cells #[va.c,va.n,.slice vA va.ks.length vcap] 46)):=((zy2 _ _).alloc (zz8 _) _).alloc (by simp) _
 have KB6:Hid (Blk ((w5.alloc (.cells #[t.d,t.i] 25)).alloc (.cells #[va.c,va.n,.slice vA va.ks.length vcap] 46)) w5.heap.size 25 #[t.d,t.i]):=(Blk.new w5 _ _).same (Below.heap_alloc _ _ _ (by simp))
 have KC6:Hid (Blk ((w5.alloc (.cells #[t.d,t.i] 25)).alloc (.cells #[va.c,va.n,.slice vA va.ks.length vcap] 46)) (w5.heap.size+1) 46 #[va.c,va.n,.slice vA va.ks.length vcap]):=zA8 w5 _ 46 _
 have HR6:Hid (Rd ((w5.alloc (.cells #[t.d,t.i] 25)).alloc (.cells #[va.c,va.n,.slice vA va.ks.length vcap] 46)) g q5):=hR5.below hb6
 clear htok ha5 hfs5 hv5 hav hR5 hC5 KT0 KP0 KV0 HR0 hB0
 go_wp2_with fail
 obtain ⟨w6,hw6⟩:∃ X,X=((w5.alloc (.cells #[t.d,t.i] 25)).alloc (.cells #[va.c,va.n,.slice vA va.ks.length vcap] 46)):=⟨_,rfl⟩
 rw [←hw6] at hb6 KB6 KC6 HR6 ⊢
 clear hw6
 obtain ⟨k,hk⟩:∃ X,X=w5.heap.size:=⟨_,rfl⟩
 obtain ⟨k2,hk2⟩:∃ X,X=k+1:=⟨_,rfl⟩
 rw [←hk] at KB6 KC6 HFA5 hz5 ⊢
 rw [←hk2] at KC6
 first | rw [←hk2] | skip
 have hkk:k2=k+1:=hk2
 have HK:=jj hk
 have HK2:=jj hk2
 have hkle:w.heap.size+3≤k:=hz5
 have hk2n:k<k2:=by omega
 have hk6:k2<w6.heap.size:=KC6.out.lt
 clear hk hk2 hkk
 have hb6':Below k w5 w6:=by rw [HK.out];exact hb6
 have hC6:Chg [g] w w6:=hC25.step hb6
 have HC6:=jj hC6
 have KT6:Hid (Blk w6.drew (w.heap.size) 25 #[(0:Int),(0:Int)]):=KT5.out.same (hb6.block _ KT5.out.lt)
 have KP6:Hid (Blk w6.drew (w.heap.size+1) 28 #[(0:Int),(0:Int),(0:Int),(0:Int),(0:Int),.slice none 0 0]):=KP5.out.same (hb6.block _ KP5.out.lt)
 have KV6:Hid (Blk w6.drew (w.heap.size+2) 46 #[(0:Int),(0:Int),.slice none 0 0]):=KV5.out.same (hb6.block _ KV5.out.lt)
 have HA6:Hid (Arr w6.drew (DtR w6.drew) xs (.slice A1 xs.length cap1) FA):=ArrDt.drew (ArrDt.below HA5.out hb6 (fun b hb=>by rw [←HK.out];exact (HFA5.out b hb).2))
 have HU6:Hid (Under w6.drew.heap.size FA):=fun b hb=>zz9 (HFA5.out b hb).2 (Nat.le_of_lt (Nat.lt_trans hk2n hk6))
 have HFA:Hid (∀ b∈FA,w.heap.size+3≤b):=fun b hb=>(HFA5.out b hb).1
 have HS:Hid (∀ C:World,Chg [g,w.heap.size,w.heap.size+1,w.heap.size+2] w6 C→(C.cell? ⟨k,0,none⟩=t.d∧C.cell? ⟨k,1,none⟩=t.i∧C.cell? ⟨k2,0,none⟩=va.c∧C.cell? ⟨k2,1,none⟩=va.n∧C.cell? ⟨k2,2,none⟩=some (.slice vA va.ks.length vcap))):=fun C hC=>⟨(hC.cell (Nat.lt_trans hk2n hk6) (by simp;omega)).trans ((KB6.out.cell 0).trans (by simp)),(hC.cell (Nat.lt_trans hk2n hk6) (by simp;omega)).trans ((KB6.out.cell 1).trans (by simp)),(hC.cell hk6 (by simp;omega)).trans ((KC6.out.cell 0).trans (by simp)),(hC.cell hk6 (by simp;omega)).trans ((KC6.out.cell 1).trans (by simp)),(hC.cell hk6 (by simp;omega)).trans ((KC6.out.cell 2).trans (by simp))⟩
 have hC0:Chg [g,w.heap.size,w.heap.size+1,w.heap.size+2] w6 w6.drew:=(Chg.refl _ _).drew
 have HRd:Hid (Rd w6.drew g q5):=HR6.out.keep (fun b hb=>rfl)
 have hzd:w6.drew.heap.size=w6.heap.size:=rfl
 clear hb6 hb6' hC25 HA5 HFA5 KT5 KP5 KV5 KB6 KC6 hC6
 refine zA6 (S:=fun w'=>w'.cell? ⟨k,0,none⟩=t.d∧w'.cell? ⟨k,1,none⟩=t.i∧w'.cell? ⟨k2,0,none⟩=va.c∧w'.cell? ⟨k2,1,none⟩=va.n∧w'.cell? ⟨k2,2,none⟩=some (.slice vA va.ks.length vcap)) (T:=fun _=>True) (d:=99) (by kernel_rfl) ?_
 obtain ⟨wd,hwd⟩:∃ X,X=w6.drew:=⟨_,rfl⟩
 rw [←hwd] at hC0 KT6 KP6 KV6 HA6 HU6 HRd hzd ⊢
 clear hwd
 have hS0:=HS.out _ hC0
 have hT0:True:=trivial
 refine wV 0 rfl hS0 hT0 ?_
 (try simp only [zz])
 refine wV 1 rfl hS0 hT0 ?_
 (try simp only [zz])
 refine wV 2 rfl hS0 hT0 ?_
 (try simp only [zz])
 refine wV 3 rfl hS0 hT0 ?_
 (try simp only [zz])
 refine wV 4 rfl hS0 hT0 ?_
 (try simp only [zz])
 refine wV 6 rfl hS0 hT0 ?_
 (try simp only [zz])
 refine w1 5 rfl fun K hK=>?_
 go_simp
 go_at_call 68
 refine (spec_l3Some xs (worldOK HTOK.out.ok) t (zB9 HTOK.out.ty) wd q5 g _ FA HRd.out (by omega) HA6.out HU6.out (fun hg=>by have:=HFA.out g hg;omega)).mono ?_
 rintro e C1 ⟨a,cs1,Fp,q7,rfl,hp1,hf1,hn1,hr1,hq1,hc1'⟩
 obtain ⟨kva,rfl,haa⟩:=(zA4 _ _ _).1 hp1
 obtain ⟨pA,pcap,rfl,-,-⟩:=haa.form
 have hC1:Chg [g,w.heap.size,w.heap.size+1,w.heap.size+2] w6 C1:=hC0.trans (hc1'.mono (by simp))
 have hnA:∀ b,w.heap.size≤b→b∉[g]:=fun b hb h=>by rw [zy1] at h;omega
 have KT1:=jj (KT6.out.same (hc1'.block _ KT6.out.lt (hnA _ (by omega))))
 have KP1:=jj (KP6.out.same (hc1'.block _ KP6.out.lt (hnA _ (by omega))))
 have KV1:=jj (KV6.out.same (hc1'.block _ KV6.out.lt (hnA _ (by omega))))
 have HA1:Hid (Arr C1 (DtR C1) xs (.slice A1 xs.length cap1) FA):=ArrDt.mono HA6.out (hc1'.kept HU6.out (fun b hb=>hnA b (by have:=HFA.out b hb;omega)))
 have HU1:Hid (Under C1 FA):=HU6.out.mono hc1'.size
 have HP1:=jj hp1
 have HN1:=jj hn1
 have HR1:=jj hr1
 have HF1:Hid (∀ b∈Fp,b<C1.heap.size∧b≠g):=fun b hb=>⟨(hf1 b hb).1,(hf1 b hb).2.1⟩
 have HFPL:Hid (∀ b∈Fp,w.heap.size+3≤b):=fun b hb=>by have:=(hf1 b hb).2.2;omega
 have HQ1:Hid (q7≤p+2300):=by unfold Hid;omega
 clear hp1 hf1 hn1 hr1 hq1 hc1' haa KT6 KP6 KV6 HA6 HU6 HRd hnA
 (try dsimp only)
 refine hK.out _ _ (HS.out _ hC1) (fun _=>trivial) ?_
 clear hK K
 (try simp only [zz])
 refine w1 7 rfl fun K hK=>?_
 go_simp
 (try dsimp only)
 refine hK.out _ _ (HS.out _ hC1) (fun _=>trivial) ?_
 clear hK K
 (try simp only [zz])
 refine w1 8 rfl fun K hK=>?_
 have yy0:C1.cell? ⟨w,0,none⟩=some (.int .i64 0):=(KT1.out.cell 0).trans (by simp)
 have ff0:=KT1.out.frozen 0
 have yy1:C1.cell? ⟨w,1,none⟩=some (.int .i64 0):=(KT1.out.cell 1).trans (by simp)
 have ff1:=KT1.out.frozen 1
 have yylt:=KT1.out.lt
 have hC2:Chg [g,w.heap.size,w.heap.size+1,w.heap.size+2] w6 ((C1.setCell ⟨w,0,none⟩ (.int .i64 t.d)).setCell ⟨w,1,none⟩ (.int .i64 t.i)):=((hC1.set (by simp)).set (by simp))
 have KK2:Hid (Blk ((C1.setCell ⟨w,0,none⟩ (.int .i64 t.d)).setCell ⟨w,1,none⟩ (.int .i64 t.i)) (w.heap.size) 25 #[t.d,t.i]):=((KT1.out.set_ 0 _).set_ 1 _)
 have KP12:Hid (Blk ((C1.setCell ⟨w,0,none⟩ (.int .i64 t.d)).setCell ⟨w,1,none⟩ (.int .i64 t.i)) (w.heap.size+1) 28 #[(0:Int),(0:Int),(0:Int),(0:Int),(0:Int),.slice none 0 0]):=((KP1.out.same (zz7 _ _ _ _ (by show w.heap.size+1≠w.heap.size;omega))).same (zz7 _ _ _ _ (by show w.heap.size+1≠w.heap.size;omega)))
 have KV12:Hid (Blk ((C1.setCell ⟨w,0,none⟩ (.int .i64 t.d)).setCell ⟨w,1,none⟩ (.int .i64 t.i)) (w.heap.size+2) 46 #[(0:Int),(0:Int),.slice none 0 0]):=((KV1.out.same (zz7 _ _ _ _ (by show w.heap.size+2≠w.heap.size;omega))).same (zz7 _ _ _ _ (by show w.heap.size+2≠w.heap.size;omega)))
 have hz2:(((C1.setCell ⟨w,0,none⟩ (.int .i64 t.d)).setCell ⟨w,1,none⟩ (.int .i64 t.i))).heap.size=C1.heap.size:=by simp [World.setCell]
 have hkA2:Kept FA C1 ((C1.setCell ⟨w,0,none⟩ (.int .i64 t.d)).setCell ⟨w,1,none⟩ (.int .i64 t.i)):=fun x hx=>by rw [zz7 _ _ _ _ (by show x≠w.heap.size;have:=HFA.out x hx;omega),zz7 _ _ _ _ (by show x≠w.heap.size;have:=HFA.out x hx;omega)]
 have hkP2:Kept Fp C1 ((C1.setCell ⟨w,0,none⟩ (.int .i64 t.d)).setCell ⟨w,1,none⟩ (.int .i64 t.i)):=fun x hx=>by rw [zz7 _ _ _ _ (by show x≠w.heap.size;have:=HFPL.out x hx;omega),zz7 _ _ _ _ (by show x≠w.heap.size;have:=HFPL.out x hx;omega)]
 have hkR2:∀ x,x≤g→(((C1.setCell ⟨w,0,none⟩ (.int .i64 t.d)).setCell ⟨w,1,none⟩ (.int .i64 t.i))).heap[x]?=C1.heap[x]?:=fun x hx=>by rw [zz7 _ _ _ _ (by show x≠w.heap.size;omega),zz7 _ _ _ _ (by show x≠w.heap.size;omega)]
 go_simp
 refine hK.out _ _ (HS.out _ hC2) (fun _=>trivial) ?_
 clear hK K
 (try simp only [zz])
 clear yy0 ff0 yy1 ff1 yylt
 obtain ⟨C2,hX⟩:∃ X,X=((C1.setCell ⟨w,0,none⟩ (.int .i64 t.d)).setCell ⟨w,1,none⟩ (.int .i64 t.i)):=⟨_,rfl⟩
 rw [←hX] at hC2 KK2 KP12 KV12 hz2 hkA2 hkP2 hkR2 ⊢
 clear hX
 refine w1 9 rfl fun K hK=>?_
 obtain ⟨yy0,yy1,yy2,yy3,yy4,yy5,yylt,ff0,ff1,ff2,ff3,ff4,ff5⟩:=KP12.out.q6
 have hC3:Chg [g,w.heap.size,w.heap.size+1,w.heap.size+2] w6 ((((((C2.setCell ⟨w.heap.size+1,0,none⟩ (.int .i64 a.op)).setCell ⟨w.heap.size+1,1,none⟩ (.int .i64 a.ct)).setCell ⟨w.heap.size+1,2,none⟩ (.int .i64 a.n)).setCell ⟨w.heap.size+1,3,none⟩ (.int .i64 a.m)).setCell ⟨w.heap.size+1,4,none⟩ (.int .i64 a.va)).setCell ⟨w.heap.size+1,5,none⟩ (.slice pA a.ks.length pcap)):=((((((hC2.set (by simp)).set (by simp)).set (by simp)).set (by simp)).set (by simp)).set (by simp))
 have KK3:Hid (Blk ((((((C2.setCell ⟨w.heap.size+1,0,none⟩ (.int .i64 a.op)).setCell ⟨w.heap.size+1,1,none⟩ (.int .i64 a.ct)).setCell ⟨w.heap.size+1,2,none⟩ (.int .i64 a.n)).setCell ⟨w.heap.size+1,3,none⟩ (.int .i64 a.m)).setCell ⟨w.heap.size+1,4,none⟩ (.int .i64 a.va)).setCell ⟨w.heap.size+1,5,none⟩ (.slice pA a.ks.length pcap)) (w.heap.size+1) 28 #[a.op,a.ct,a.n,a.m,a.va,.slice pA a.ks.length pcap]):=((((((KP12.out.set_ 0 _).set_ 1 _).set_ 2 _).set_ 3 _).set_ 4 _).set_ 5 _)
 have KK23:Hid (Blk ((((((C2.setCell ⟨w.heap.size+1,0,none⟩ (.int .i64 a.op)).setCell ⟨w.heap.size+1,1,none⟩ (.int .i64 a.ct)).setCell ⟨w.heap.size+1,2,none⟩ (.int .i64 a.n)).setCell ⟨w.heap.size+1,3,none⟩ (.int .i64 a.m)).setCell ⟨w.heap.size+1,4,none⟩ (.int .i64 a.va)).setCell ⟨w.heap.size+1,5,none⟩ (.slice pA a.ks.length pcap)) (w.heap.size) 25 #[t.d,t.i]):=((((((KK2.out.same (zz7 _ _ _ _ (by show w.heap.size≠w.heap.size+1;omega))).same (zz7 _ _ _ _ (by show w.heap.size≠w.heap.size+1;omega))).same (zz7 _ _ _ _ (by show w.heap.size≠w.heap.size+1;omega))).same (zz7 _ _ _ _ (by show w.heap.size≠w.heap.size+1;omega))).same (zz7 _ _ _ _ (by show w.heap.size≠w.heap.size+1;omega))).same (zz7 _ _ _ _ (by show w.heap.size≠w.heap.size+1;omega)))
 have KV123:Hid (Blk ((((((C2.setCell ⟨w.heap.size+1,0,none⟩ (.int .i64 a.op)).setCell ⟨w.heap.size+1,1,none⟩ (.int .i64 a.ct)).setCell ⟨w.heap.size+1,2,none⟩ (.int .i64 a.n)).setCell ⟨w.heap.size+1,3,none⟩ (.int .i64 a.m)).setCell ⟨w.heap.size+1,4,none⟩ (.int .i64 a.va)).setCell ⟨w.heap.size+1,5,none⟩ (.slice pA a.ks.length pcap)) (w.heap.size+2) 46 #[(0:Int),(0:Int),.slice none 0 0]):=((((((KV12.out.same (zz7 _ _ _ _ (by show w.heap.size+2≠w.heap.size+1;omega))).same (zz7 _ _ _ _ (by show w.heap.size+2≠w.heap.size+1;omega))).same (zz7 _ _ _ _ (by show w.heap.size+2≠w.heap.size+1;omega))).same (zz7 _ _ _ _ (by show w.heap.size+2≠w.heap.size+1;omega))).same (zz7 _ _ _ _ (by show w.heap.size+2≠w.heap.size+1;omega))).same (zz7 _ _ _ _ (by show w.heap.size+2≠w.heap.size+1;omega)))
 have hz3:(((((((C2.setCell ⟨w.heap.size+1,0,none⟩ (.int .i64 a.op)).setCell ⟨w.heap.size+1,1,none⟩ (.int .i64 a.ct)).setCell ⟨w.heap.size+1,2,none⟩ (.int .i64 a.n)).setCell ⟨w.heap.size+1,3,none⟩ (.int .i64 a.m)).setCell ⟨w.heap.size+1,4,none⟩ (.int .i64 a.va)).setCell ⟨w.heap.size+1,5,none⟩ (.slice pA a.ks.length pcap))).heap.size=C2.heap.size:=by simp [World.setCell]
 have hkA3:Kept FA C2 ((((((C2.setCell ⟨w.heap.size+1,0,none⟩ (.int .i64 a.op)).setCell ⟨w.heap.size+1,1,none⟩ (.int .i64 a.ct)).setCell ⟨w.heap.size+1,2,none⟩ (.int .i64 a.n)).setCell ⟨w.heap.size+1,3,none⟩ (.int .i64 a.m)).setCell ⟨w.heap.size+1,4,none⟩ (.int .i64 a.va)).setCell ⟨w.heap.size+1,5,none⟩ (.slice pA a.ks.length pcap)):=fun x hx=>by rw [zz7 _ _ _ _ (by show x≠w.heap.size+1;have:=HFA.out x hx;omega),zz7 _ _ _ _ (by show x≠w.heap.size+1;have:=HFA.out x hx;omega),zz7 _ _ _ _ (by show x≠w.heap.size+1;have:=HFA.out x hx;omega),zz7 _ _ _ _ (by show x≠w.heap.size+1;have:=HFA.out x hx;omega),zz7 _ _ _ _ (by show x≠w.heap.size+1;have:=HFA.out x hx;omega),zz7 _ _ _ _ (by show x≠w.heap.size+1;have:=HFA.out x hx;omega)]
 have hkP3:Kept Fp C2 ((((((C2.setCell ⟨w.heap.size+1,0,none⟩ (.int .i64 a.op)).setCell ⟨w.heap.size+1,1,none⟩ (.int .i64 a.ct)).setCell ⟨w.heap.size+1,2,none⟩ (.int .i64 a.n)).setCell ⟨w.heap.size+1,3,none⟩ (.int .i64 a.m)).setCell ⟨w.heap.size+1,4,none⟩ (.int .i64 a.va)).setCell ⟨w.heap.size+1,5,none⟩ (.slice pA a.ks.length pcap)):=fun x hx=>by rw [zz7 _ _ _ _ (by show x≠w.heap.size+1;have:=HFPL.out x hx;omega),zz7 _ _ _ _ (by show x≠w.heap.size+1;have:=HFPL.out x hx;omega),zz7 _ _ _ _ (by show x≠w.heap.size+1;have:=HFPL.out x hx;omega),zz7 _ _ _ _ (by show x≠w.heap.size+1;have:=HFPL.out x hx;omega),zz7 _ _ _ _ (by show x≠w.heap.size+1;have:=HFPL.out x hx;omega),zz7 _ _ _ _ (by show x≠w.heap.size+1;have:=HFPL.out x hx;omega)]
 have hkR3:∀ x,x≤g→(((((((C2.setCell ⟨w.heap.size+1,0,none⟩ (.int .i64 a.op)).setCell ⟨w.heap.size+1,1,none⟩ (.int .i64 a.ct)).setCell ⟨w.heap.size+1,2,none⟩ (.int .i64 a.n)).setCell ⟨w.heap.size+1,3,none⟩ (.int .i64 a.m)).setCell ⟨w.heap.size+1,4,none⟩ (.int .i64 a.va)).setCell ⟨w.heap.size+1,5,none⟩ (.slice pA a.ks.length pcap))).heap[x]?=C2.heap[x]?:=fun x hx=>by rw [zz7 _ _ _ _ (by show x≠w.heap.size+1;omega),zz7 _ _ _ _ (by show x≠w.heap.size+1;omega),zz7 _ _ _ _ (by show x≠w.heap.size+1;omega),zz7 _ _ _ _ (by show x≠w.heap.size+1;omega),zz7 _ _ _ _ (by show x≠w.heap.size+1;omega),zz7 _ _ _ _ (by show x≠w.heap.size+1;omega)]
 go_simp
 refine hK.out _ _ (HS.out _ hC3) (fun _=>trivial) ?_
 clear hK K
 (try simp only [zz])
 clear yy0 ff0 yy1 ff1 yy2 ff2 yy3 ff3 yy4 ff4 yy5 ff5 yylt
 obtain ⟨C3,hX⟩:∃ X,X=((((((C2.setCell ⟨w.heap.size+1,0,none⟩ (.int .i64 a.op)).setCell ⟨w.heap.size+1,1,none⟩ (.int .i64 a.ct)).setCell ⟨w.heap.size+1,2,none⟩ (.int .i64 a.n)).setCell ⟨w.heap.size+1,3,none⟩ (.int .i64 a.m)).setCell ⟨w.heap.size+1,4,none⟩ (.int .i64 a.va)).setCell ⟨w.heap.size+1,5,none⟩ (.slice pA a.ks.length pcap)):=⟨_,rfl⟩
 rw [←hX] at hC3 KK3 KK23 KV123 hz3 hkA3 hkP3 hkR3 ⊢
 clear hX
 refine w1 10 rfl fun K hK=>?_
 have yy0:C3.cell? ⟨w.heap.size+2,0,none⟩=some (.int .i64 0):=(KV123.out.cell 0).trans (by simp)
 have ff0:=KV123.out.frozen 0
 have yy1:C3.cell? ⟨w.heap.size+2,1,none⟩=some (.int .i64 0):=(KV123.out.cell 1).trans (by simp)
 have ff1:=KV123.out.frozen 1
 have yy2:C3.cell? ⟨w.heap.size+2,2,none⟩=some (.slice none 0 0):=(KV123.out.cell 2).trans (by simp)
 have ff2:=KV123.out.frozen 2
 have yylt:=KV123.out.lt
 have hC4:Chg [g,w.heap.size,w.heap.size+1,w.heap.size+2] w6 (((C3.setCell ⟨w.heap.size+2,0,none⟩ (.int .i64 va.c)).setCell ⟨w.heap.size+2,1,none⟩ (.int .i64 va.n)).setCell ⟨w.heap.size+2,2,none⟩ (.slice vA va.ks.length vcap)):=(((hC3.set (by simp)).set (by simp)).set (by simp))
 have KK4:Hid (Blk (((C3.setCell ⟨w.heap.size+2,0,none⟩ (.int .i64 va.c)).setCell ⟨w.heap.size+2,1,none⟩ (.int .i64 va.n)).setCell ⟨w.heap.size+2,2,none⟩ (.slice vA va.ks.length vcap)) (w.heap.size+2) 46 #[va.c,va.n,.slice vA va.ks.length vcap]):=(((KV123.out.set_ 0 _).set_ 1 _).set_ 2 _)
 have KK234:Hid (Blk (((C3.setCell ⟨w.heap.size+2,0,none⟩ (.int .i64 va.c)).setCell ⟨w.heap.size+2,1,none⟩ (.int .i64 va.n)).setCell ⟨w.heap.size+2,2,none⟩ (.slice vA va.ks.length vcap)) (w.heap.size) 25 #[t.d,t.i]):=(((KK23.out.same (zz7 _ _ _ _ (by show w.heap.size≠w.heap.size+2;omega))).same (zz7 _ _ _ _ (by show w.heap.size≠w.heap.size+2;omega))).same (zz7 _ _ _ _ (by show w.heap.size≠w.heap.size+2;omega)))
 have KK34:Hid (Blk (((C3.setCell ⟨w.heap.size+2,0,none⟩ (.int .i64 va.c)).setCell ⟨w.heap.size+2,1,none⟩ (.int .i64 va.n)).setCell ⟨w.heap.size+2,2,none⟩ (.slice vA va.ks.length vcap)) (w.heap.size+1) 28 #[a.op,a.ct,a.n,a.m,a.va,.slice pA a.ks.length pcap]):=(((KK3.out.same (zz7 _ _ _ _ (by show w.heap.size+1≠w.heap.size+2;omega))).same (zz7 _ _ _ _ (by show w.heap.size+1≠w.heap.size+2;omega))).same (zz7 _ _ _ _ (by show w.heap.size+1≠w.heap.size+2;omega)))
 have hz4:((((C3.setCell ⟨w.heap.size+2,0,none⟩ (.int .i64 va.c)).setCell ⟨w.heap.size+2,1,none⟩ (.int .i64 va.n)).setCell ⟨w.heap.size+2,2,none⟩ (.slice vA va.ks.length vcap))).heap.size=C3.heap.size:=by simp [World.setCell]
 have hkA4:Kept FA C3 (((C3.setCell ⟨w.heap.size+2,0,none⟩ (.int .i64 va.c)).setCell ⟨w.heap.size+2,1,none⟩ (.int .i64 va.n)).setCell ⟨w.heap.size+2,2,none⟩ (.slice vA va.ks.length vcap)):=fun x hx=>by rw [zz7 _ _ _ _ (by show x≠w.heap.size+2;have:=HFA.out x hx;omega),zz7 _ _ _ _ (by show x≠w.heap.size+2;have:=HFA.out x hx;omega),zz7 _ _ _ _ (by show x≠w.heap.size+2;have:=HFA.out x hx;omega)]
 have hkP4:Kept Fp C3 (((C3.setCell ⟨w.heap.size+2,0,none⟩ (.int .i64 va.c)).setCell ⟨w.heap.size+2,1,none⟩ (.int .i64 va.n)).setCell ⟨w.heap.size+2,2,none⟩ (.slice vA va.ks.length vcap)):=fun x hx=>by rw [zz7 _ _ _ _ (by show x≠w.heap.size+2;have:=HFPL.out x hx;omega),zz7 _ _ _ _ (by show x≠w.heap.size+2;have:=HFPL.out x hx;omega),zz7 _ _ _ _ (by show x≠w.heap.size+2;have:=HFPL.out x hx;omega)]
 have hkR4:∀ x,x≤g→((((C3.setCell ⟨w.heap.size+2,0,none⟩ (.int .i64 va.c)).setCell ⟨w.heap.size+2,1,none⟩ (.int .i64 va.n)).setCell ⟨w.heap.size+2,2,none⟩ (.slice vA va.ks.length vcap))).heap[x]?=C3.heap[x]?:=fun x hx=>by rw [zz7 _ _ _ _ (by show x≠w.heap.size+2;omega),zz7 _ _ _ _ (by show x≠w.heap.size+2;omega),zz7 _ _ _ _ (by show x≠w.heap.size+2;omega)]
 go_simp
 refine hK.out _ _ (HS.out _ hC4) (fun _=>trivial) ?_
 clear hK K
 (try simp only [zz])
 clear yy0 ff0 yy1 ff1 yy2 ff2 yylt
 obtain ⟨C4,hX⟩:∃ X,X=(((C3.setCell ⟨w.heap.size+2,0,none⟩ (.int .i64 va.c)).setCell ⟨w.heap.size+2,1,none⟩ (.int .i64 va.n)).setCell ⟨w.heap.size+2,2,none⟩ (.slice vA va.ks.length vcap)):=⟨_,rfl⟩
 rw [←hX] at hC4 KK4 KK234 KK34 hz4 hkA4 hkP4 hkR4 ⊢
 clear hX
 refine wE (by kernel_rfl) ?_
 clear hS0 hT0
 have HFin:Hid (DrewTP p 2300 g w (.returned (.tuple #[.slice A1 xs.length cap1,.agg #[t.d,t.i],.agg #[a.op,a.ct,a.n,a.m,a.va,.slice pA a.ks.length pcap],.agg #[va.c,va.n,.slice vA va.ks.length vcap]])) C4):=by
  have hz:C4.heap.size=C1.heap.size:=by rw [hz4,hz3,hz2]
  have hC4':Chg [g] w C4:=⟨hC4.os.trans HC6.out.os,hC4.tape.trans HC6.out.tape,hC4.output.trans HC6.out.output,Nat.le_trans HC6.out.size hC4.size,fun b hb hn=>by
   rw [zy1] at hn
   exact (hC4.block b (zz9 hb HC6.out.size) (by simp;omega)).trans (HC6.out.block b hb (by simpa using hn))⟩
  refine ⟨xs,_,FA,t,a,[a.op,a.ct,a.n,a.m,a.va,.slice pA a.ks.length pcap],Fp,va,vA,vcap,q7,rfl,HTOK.out,?_,fun b hb=>⟨by have:=HFA.out b hb;omega,?_⟩,?_,fun b hb=>⟨?_,(HF1.out b hb).2,by have:=HFPL.out b hb;omega⟩,HN1.out,?_,HQ1.out,hC4'⟩
  ·exact ArrDt.mono (ArrDt.mono (ArrDt.mono HA1.out hkA2) hkA3) hkA4
  ·rw [hz];exact HU1.out b hb
  ·exact PR.mono _ _ _ hkP4 (PR.mono _ _ _ hkP3 (PR.mono _ _ _ hkP2 HP1.out))
  ·rw [hz];exact (HF1.out b hb).1
  ·exact HR1.out.keep fun b hb=>(hkR4 b hb).trans ((hkR3 b hb).trans (hkR2 b hb))
 clear hkA2 hkA3 hkA4 hkP2 hkP3 hkP4 hkR2 hkR3 hkR4 hC1 hC2 hC3 hC4 hC0
 go_wp2
 refine bodyPost_ret (results_tmp_cell3 rfl _ _ (w.heap.size) (w.heap.size+1) (w.heap.size+2) 25 28 46 #[t.d,t.i] #[a.op,a.ct,a.n,a.m,a.va,.slice pA a.ks.length pcap] #[va.c,va.n,.slice vA va.ks.length vcap] (0,0) (0,0) (0,0) _ _ _ rfl KK234.out Try.underlying25 rfl rfl rfl KK34.out Try.underlying28 rfl rfl rfl KK4.out Try.underlying46 rfl rfl) rfl ?_
 exact HFin.out
theorem Flat.ones {α:Type} {R:α→List Value→List Nat→Prop} (hR:∀ x cs G,R x cs G→∀ u∈cs,u.oneCell'=true):∀ {xs:List α} {cs:List Value} {F:List Nat},Flat R xs cs F→∀ u∈cs,u.oneCell'=true
 |[],cs,F,h,u,hu=>by obtain ⟨rfl,-⟩:=h;cases hu
 |x :: xs,cs,F,h,u,hu=>by
  obtain ⟨c1,c2,F1,F2,rfl,rfl,h1,h2⟩:=h
  rcases List.mem_append.1 hu with h | h
  ·exact hR _ _ _ h1 u h
  ·exact Flat.ones hR h2 u h
theorem Flat.bare {α:Type} {R R':α→List Value→List Nat→Prop} (hR:∀ x cs G,R x cs G→R' x cs []):∀ {xs:List α} {cs:List Value} {F:List Nat},Flat R xs cs F→Flat R' xs cs []
 |[],cs,F,h=>⟨h.1,rfl⟩
 |x :: xs,cs,F,h=>by
  obtain ⟨c1,c2,F1,F2,rfl,rfl,h1,h2⟩:=h
  exact ⟨c1,c2,[],[],rfl,rfl,hR _ _ _ h1,Flat.bare hR h2⟩
/-! ### append of a whole slice that came in -/
section
variable {P : Program} {w : World}
theorem run_append_void (t ty e:TypeId) (i:TypeInfo) (ht:P.underlying t=some (.slice e)) (hi:P.info? e=some i) (g cap c:Nat) (A:Option Addr) (hA:A=none) :
  (Builtin.append_ #[t,t] ty #[.slice (some ⟨g,0,none⟩) 0 cap,.slice A 0 c]).run P w=.ok (.slice (some ⟨g,0,none⟩) 0 cap) w:=by
 subst hA
 simp [Builtin.append_,run_underlying ht,sizeOf,typeInfo,hi,Builtin.lenOf,Builtin.firstCells,storeCells]
theorem run_append_whole {α:Type} {R:α→List Value→List Nat→Prop} {RR:World→α→List Value→List Nat→Prop} {B k:Nat} {E:TypeId} (t ty:TypeId) (i:TypeInfo) (z:Value) (bytes:Nat) (ht:P.underlying t=some (.slice E)) (hi:P.info? E=some i) (hz:i.zero=some z)
  (hsize:i.size=k) (hby:i.bytes=bytes) (hzs:z.cells.size=k) (hk:0<k) (hRl:∀ x cs G,R x cs G→cs.length=k) (hR1:∀ x cs G,R x cs G→∀ u∈cs,u.oneCell'=true) (hRR:∀ w' x cs G,R x cs G→RR w' x cs [])
  {g:Nat} (hown:Own w B E k RR ([]:List α) (.slice (some ⟨g,0,none⟩) 0 0) []) {ys:List α} {A:Option Addr} {n c:Nat} {F:List Nat} (hy:Arr w R ys (.slice A n c) F)
  (h63:ys.length≤1000000) (hbytes:ys.length*bytes≤140737488355328) (hbase:B≤w.heap.size) :
  ∃ v' w',(Builtin.append_ #[t,t] ty #[.slice (some ⟨g,0,none⟩) 0 0,.slice A n c]).run P w=.ok v' w'∧Own w' B E k RR ys v' []∧w.grownBy w' (some g)∧∀ b∈rowOf v',b=g∨b=w.heap.size:=by
 obtain ⟨A',c',hv,h1,h2,h3⟩:=hy
 cases hv
 rcases h3 with ⟨rfl,-⟩ | ⟨b,off,cs,G,rfl,hc,hf,-⟩
 ·cases A with
  |none=>exact ⟨_,w,run_append_void t ty E i ht hi g 0 c none rfl,hown,⟨rfl,rfl,rfl,zz8 _,fun _ _ _=>rfl⟩,fun b hb=>by rw [zA5,zy1] at hb;exact .inl hb⟩
  |some a =>
   obtain ⟨cs,o1,o2,o3,o4⟩:=hown
   obtain ⟨v',w',hr,q1,q2,q3,q4⟩:=run_append_own_at (P:=P) w B t ty E i z k bytes ht hi hz hsize hby hzs hk _ 0 cs o1 a 0 c [] (by simp) (fun j u h=>by simp at h) (fun u h=>by cases h) (by simp [maxLen]) (by simp) hbase
   obtain ⟨rfl,-⟩:=o2
   refine ⟨v',w',hr,⟨[],q1,⟨rfl,rfl⟩,Under.nil _,fun g _ h=>by cases h⟩,q2,fun b hb=>?_⟩
   have hb:=zA1.1 hb
   rcases q4 with q4 | q4
   ·left;rw [q4] at hb;exact (Option.some.inj hb).symm
   ·right;rw [q4] at hb;exact (Option.some.inj hb).symm
 ·obtain ⟨cs0,o1,o2,o3,o4⟩:=hown
  obtain ⟨rfl,-⟩:=o2
  have hl:cs.length=ys.length*k:=hf.length hRl
  have hone:=hf.ones hR1
  obtain ⟨v',w',hr,q1,q2,q3,q4⟩:=run_append_own_at (P:=P) w B t ty E i z k bytes ht hi hz hsize hby hzs hk _ 0 [] o1 ⟨b,off,none⟩ ys.length c cs hl (fun j u hj=>by rw [Addr.add_lit];exact hc j u hj) hone (by unfold maxLen;omega) (by simpa using hbytes) hbase
  refine ⟨v',w',hr,⟨cs,by simpa using q1,?_,Under.nil _,fun g _ h=>by cases h⟩,q2,fun x hx=>?_⟩
  ·exact hf.bare (hRR w')
  ·have hb:=zA1.1 hx
   rcases q4 with q4 | q4
   ·left;rw [q4] at hb;exact (Option.some.inj hb).symm
   ·right;rw [q4] at hb;exact (Option.some.inj hb).symm
end
theorem wpList_append_run {P:Program} {w:World} {ops:Array Oper} {rest:List Oper} {o:Oper} {a:Act} {Q:Exit→Act→World→Prop} (hgd:o.guard=none) (s x:Operand) (t:TypeId)
  (ho:o.op=.call { callee:=.builtin .append,args:=#[s,x],argTypes:=#[t,t] }) {sv xv v':Value} {w':World} (hs:a.eval s=sv) (hx:a.eval x=xv)
  (hr:(Builtin.append_ #[t,t] o.type #[sv,xv]).run P w=.ok v' w') (h:wpList P ops Q rest (a.put o.dst v') w'):wpList P ops Q (o :: rest) a w:=by
 refine wpList_plain hgd fun K hK=>?_
 unfold Oper.wp execOp
 simp only [ho,resolve,invoke,builtin,Sem.run_bind,Sem.run_pure,Result.andThen_ok,List.map_toArray,List.map_cons,List.map_nil,hs,hx,hr]
 exact hK _ _ h
section
variable {P : Program} {w : World}
theorem run_append_none (t ty e:TypeId) (i:TypeInfo) (ht:P.underlying t=some (.slice e)) (hi:P.info? e=some i) (A:Option Addr) (n cap c:Nat) (h:n≤cap) :
  (Builtin.append_ #[t,t] ty #[.slice A n cap,.slice none 0 c]).run P w=.ok (.slice A n cap) w:=by
 cases A <;> simp [Builtin.append_,run_underlying ht,sizeOf,typeInfo,hi,Builtin.lenOf,Builtin.firstCells,storeCells,h]
theorem zAT {α:Type} {R:World→α→List Value→List Nat→Prop} {B k:Nat} {E:TypeId} (t ty:TypeId) (i:TypeInfo) (z:Value) (bytes:Nat) (ht:P.underlying t=some (.slice E)) (hi:P.info? E=some i) (hz:i.zero=some z)
  (hsize:i.size=k) (hby:i.bytes=bytes) (hzs:z.cells.size=k) (hk:0<k) (hRl:∀ w x cs G,R w x cs G→cs.length=k) (hRm:∀ w w' x cs G,Kept G w w'→R w x cs G→R w' x cs G) (hR1:∀ w x cs G,R w x cs G→∀ u∈cs,u.oneCell'=true)
  {xs:List α} {sv:Value} {F0:List Nat} (hown:Own w B E k R xs sv F0) {ys:List α} {xv:Value} {F:List Nat} (hy:Arr w (R w) ys xv F) (hu:Under w F) (hvG:∀ g∈rowOf sv,g∉F)
  (h63:xs.length+ys.length≤1000000) (hbytes:(xs.length+ys.length)*bytes≤140737488355328) (hbase:B≤w.heap.size) :
  ∃ v' w' G,(Builtin.append_ #[t,t] ty #[sv,xv]).run P w=.ok v' w'∧Own w' B E k R (xs ++ ys) v' (F0 ++ G)∧(∀ b∈G,b∈F)∧w.grownBy w' sv.ownBlock∧(v'.ownBlock=sv.ownBlock∨v'.ownBlock=some w.heap.size):=by
 have key:∀ (a:Addr) (c:Nat) (cs1:List Value) (G:List Nat),xv=.slice (some a) ys.length c→Flat (R w) ys cs1 G→(∀ b∈G,b∈F)→(∀ j u,cs1[j]?=some u→w.cell? (a.add j)=some u) →
   ∃ v' w' G,(Builtin.append_ #[t,t] ty #[sv,xv]).run P w=.ok v' w'∧Own w' B E k R (xs ++ ys) v' (F0 ++ G)∧(∀ b∈G,b∈F)∧w.grownBy w' sv.ownBlock∧(v'.ownBlock=sv.ownBlock∨v'.ownBlock=some w.heap.size):=by
  intro a c cs1 G hxv hf hGF hc
  subst hxv
  obtain ⟨cs,o1,o2,o3,o4⟩:=id hown
  have hl:cs1.length=ys.length*k:=hf.length (hRl w)
  have hone:=hf.ones (hR1 w)
  have hG:Under w G:=hu.sub hGF
  obtain ⟨v',w',hr,q1,q2,q3,q4⟩:=run_append_own_at (P:=P) w B t ty E i z k bytes ht hi hz hsize hby hzs hk sv xs.length cs o1 a ys.length c cs1 hl hc hone (by unfold maxLen;omega) hbytes hbase
  refine ⟨v',w',G,hr,⟨cs ++ cs1,by rw [List.length_append];exact q1,?_,?_,?_⟩,hGF,q2,q4⟩
  ·exact (o2.mono fun x _ ds H hH hr=>hRm w w' x ds H (grown_kept q2 (o3.sub hH) fun g hg hn=>o4 g hg (hH g hn)) hr).append (hf.mono fun x _ ds H hH hr=>hRm w w' x ds H (grown_kept q2 (hG.sub hH) fun g hg hn=>hvG g hg (hGF g (hH g hn))) hr)
  ·intro b hb
   rcases List.mem_append.1 hb with hb | hb
   ·exact zz9 (o3 b hb) q2.size
   ·exact zz9 (hG b hb) q2.size
  ·intro b hb hbF
   have hb:=zA1.1 hb
   rcases q4 with q4 | q4
   ·rw [q4] at hb
    rcases List.mem_append.1 hbF with h | h
    ·exact o4 b (zA1.2 hb) h
    ·exact hvG b (zA1.2 hb) (hGF b h)
   ·rw [q4] at hb
    obtain rfl:=Option.some.inj hb
    rcases List.mem_append.1 hbF with h | h
    ·exact Nat.lt_irrefl _ (o3 _ h)
    ·exact Nat.lt_irrefl _ (hG _ h)
 obtain ⟨A,c,hv,h1,h2,h3⟩:=id hy
 rcases h3 with ⟨hys,hF⟩ | ⟨b,off,cs1,G,rfl,hc,hf,hF⟩
 ·cases A with
  |none =>
   subst hv
   obtain ⟨A',cap',rfl,hc1,hc2⟩:=hown.form
   refine ⟨.slice A' xs.length cap',w,[],?_,?_,fun b hb=>(by cases hb),⟨rfl,rfl,rfl,zz8 _,fun _ _ _=>rfl⟩,.inl rfl⟩
   ·subst hys
    exact run_append_none t ty E i ht hi A' xs.length cap' c hc1
   ·subst hys
    rw [List.append_nil,List.append_nil]
    exact hown
  |some a=>exact key a c [] [] hv (by subst hys;exact ⟨rfl,rfl⟩) (fun b hb=>by cases hb) (fun j u h=>by simp at h)
 ·exact key ⟨b,off,none⟩ c cs1 G hv hf (fun b hb=>by rw [hF];exact List.mem_cons_of_mem _ hb) (fun j u hj=>by rw [Addr.add_lit];exact hc j u hj)
end
end Go.Proofs.Ytjjclcmmfeegfaa
