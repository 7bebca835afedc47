/-
  Lemmas, and contracts of functions. Conditions: none.
-/
import Derived.Test.YtjjclcmmfeegfaaHAL
import Derived.Test.YtjjclcmmfeegfaaHAG
import Derived.Deep.RegionHeld3
import Derived.Deep.RegionWith
import Derived.Deep.QuietTactic
import Derived.BigQuiet
import Derived.IntWalk
import Derived.Test.YtjjclcmmfeegfaaHAH
import Derived.Test.YtjjclcmmfeegfaaHAB
import Derived.Test.YtjjclcmmfeegfaaHAJ
import Derived.Test.YtjjclcmmfeegfaaHAK
import Derived.Test.YtjjclcmmfeegfaaHAF

set_option linter.unusedVariables false
set_option linter.unusedSimpArgs false
set_option maxRecDepth 100000
set_option maxHeartbeats 1600000

namespace Go.Proofs.Ytjjclcmmfeegfaa
open Go.RowKit
def ScanPP (xs:List Dt) (d:Nat) (t:Ty) (p:P) (c:Nat) (g:Nat) (w:World) (e:Ending) (w':World):Prop :=
 ∃ (v:Value) (F:List Nat) (c':Nat),e=.returned (.tuple #[v,.bool (scanPB xs d t p c)])∧Chg [g] w w'∧Blk w' g 3 #[.int .i64 (c':Int)]∧(scanPB xs d t p c=true→c'=c+nodesP p∧Arr w' (VtR w') (varsN xs d t p) v F∧Free w' F∧Fresh w w' F)∧(scanPB xs d t p c=false→v=.slice none 0 0)
def ScanIP (p:P):Prop:=∀ (xs:List Dt) (_:WorldOK xs) (d deep:Nat) (_:d+deep=11) (_:1≤deep) (t:Ty) (_:TyIn xs.length t) (w:World) (x:Value) (F:List Nat) (cs:List Value) (G:List Nat) (g:Nat) (c:Nat),Arr w (DtR w) xs x F→Under w F→PR w p cs G→Under w G →
 Blk w g 3 #[(c:Int)]→g∉F→g∉G→c≤60 →
 Calls Try.prog 63 #[x,.agg #[t.d,t.i],.agg cs.toArray,(deep:Int),.pointer (some ⟨g,0,none⟩)] w (ScanPP xs d t p c g w)
set_option maxHeartbeats 6400000 in
theorem patternScan_of (p:P) (ih:∀ k∈p.ks,ScanIP k):ScanIP p:=by
 intro xs hw d deep hdd hd1 t ht w x F cs G g c hx hf hv hg hgb hgF hgG hc60
 have IH:=jj ih
 clear ih
 obtain ⟨kv,rfl,ha⟩:=(zA4 _ _ _).1 hv
 obtain ⟨A,cap,rfl,hc1,hc2⟩:=hx.form
 obtain ⟨A4,cap4,rfl,hc3,hc4⟩:=ha.form
 have HV:=jj hv
 have HX:=jj hx
 have HF:=jj hf
 have HA:=jj ha
 have HG:=jj hg
 clear hx hf ha hg
 clear hv
 have HW:=jj hw
 have HT:=jj ht
 have HGF:=jj hgF
 have HGG:=jj hgG
 have hgl:=hgb.lt
 have gx:w.cell? ⟨g,0,none⟩=(c:Int):=(hgb.cell 0).trans (by simp)
 have gf:=hgb.frozen 0
 have HGB:=jj hgb
 have HGL:=jj hgl
 clear hw ht hgF hgG hgb
 have HBad:Hid (∀ W c',scanPB xs d t p c=false→Chg [g] w W→Blk W g 3 #[.int .i64 ((c':Nat):Int)]→ScanPP xs d t p c g w (.returned (.tuple #[.slice none 0 0,.bool false])) W):=fun W c' hT hC hK =>
  ⟨_,[],c',by rw [hT],hC,hK,(fun h=>by rw [hT] at h;cases h),fun _=>rfl⟩
 obtain ⟨W3,hW3⟩:∃ W3,W3=(((w.setCell ⟨g,0,none⟩ (.int .i64 ((c:Int)+1))).alloc (.cells #[t.d,t.i] 25)).alloc (.cells #[p.op,p.ct,p.n,p.m,p.va,.slice A4 p.ks.length cap4] 28)):=⟨_,rfl⟩
 have KG:Hid (Blk W3 g 3 #[.int .i64 ((c+1:Nat):Int)]):=by
  rw [hW3,←(show ((c:Int)+1)=((c+1:Nat):Int) from by omega)]
  have h1:Blk (w.setCell ⟨g,0,none⟩ (.int .i64 ((c:Int)+1))) g 3 #[.int .i64 ((c:Int)+1)]:=HGB.out.set_ 0 (.int .i64 ((c:Int)+1))
  exact (h1.same (Below.heap_alloc _ _ _ h1.lt)).same (Below.heap_alloc _ _ _ (by have:=h1.lt;simp;omega))
 have HCG:Hid (Chg [g] w W3):=by
  rw [hW3];exact (((Chg.refl [g] w).set (by simp)).step ((zy2 _ _).alloc (zz8 _) _)).step ((zy2 _ _).alloc (zz8 _) _)
 by_cases hcc:60<c+1
 ·have t9:decide ((c:Int)+1>60)=true:=by simp;omega
  have HFin:Hid (ScanPP xs d t p c g w (.returned (.tuple #[.slice none 0 0,.bool false])) W3):=HBad.out W3 (c+1) (scanPB_many hcc) HCG.out KG.out
  rw [hW3] at HFin
  clear hcc
  go_enter Try.func63,Try.ntmps63
  go_wp2
  go_ret2
  exact HFin.out
 ·have t9:decide ((c:Int)+1>60)=false:=by simp;omega
  cases d with
  |zero =>
   have t8:decide ((deep:Int)>10)=true:=by simp;omega
   have HFin:Hid (ScanPP xs 0 t p c g w (.returned (.tuple #[.slice none 0 0,.bool false])) W3):=HBad.out W3 (c+1) scanPB_deep HCG.out KG.out
   rw [hW3] at HFin
   go_enter Try.func63,Try.ntmps63
   go_wp2
   go_ret2
   exact HFin.out
  |succ d =>
  have t8:decide ((deep:Int)>10)=false:=by simp;omega
  have KT:Hid (Blk W3 w 25 #[t.d,t.i]):=by
   rw [hW3]
   have h:=Blk.new (w.setCell ⟨g,0,none⟩ (.int .i64 ((c:Int)+1))) 25 #[t.d,t.i]
   rw [show ((w.setCell ⟨g,0,none⟩ (.int .i64 ((c:Int)+1)))).heap.size=w.heap.size from by simp [World.setCell]] at h
   exact h.same (Below.heap_alloc _ _ _ (by simp [World.setCell]))
  have KP:Hid (Blk W3 (w.heap.size+1) 28 #[p.op,p.ct,p.n,p.m,p.va,.slice A4 p.ks.length cap4]):=by
   rw [hW3]
   have h:=Blk.new ((w.setCell ⟨g,0,none⟩ (.int .i64 ((c:Int)+1))).alloc (.cells #[t.d,t.i] 25)) 28 #[p.op,p.ct,p.n,p.m,p.va,.slice A4 p.ks.length cap4]
   rw [World.size_alloc,show ((w.setCell ⟨g,0,none⟩ (.int .i64 ((c:Int)+1)))).heap.size=w.heap.size from by simp [World.setCell]] at h
   exact h
  have hsz3:w.heap.size+2≤W3.heap.size:=by rw [hW3];simp [World.setCell]
  have HX3:Hid (Arr W3 (DtR W3) xs (.slice A xs.length cap) F):=ArrDt.mono HX.out (HCG.out.kept HF.out (fun b hb h=>HGF.out (by rw [←List.mem_singleton.1 h];exact hb)))
  have HF3:=jj (HF.out.mono HCG.out.size)
  have HV3:=jj (PR.mono _ _ _ (HCG.out.kept HG.out (fun b hb h=>HGG.out (by rw [←List.mem_singleton.1 h];exact hb))) HV.out)
  have HG3:=jj (HG.out.mono HCG.out.size)
  go_enter Try.func63,Try.ntmps63
  go_wp2_with fail
  rw [←hW3]
  clear hW3
  refine (impl_shape xs HW.out t HT.out p W3 _ F _ G HX3.out HF3.out HV3.out HG3.out).mono ?_
  rintro e w6 ⟨v6,F6,rfl,hb6,hfs6,hty6⟩
  have KT6:=jj (KT.out.same (hb6.block _ KT.out.lt))
  have KP6:=jj (KP.out.same (hb6.block _ KP.out.lt))
  have KG6:=jj (KG.out.same (hb6.block _ KG.out.lt))
  have HC6:=jj (HCG.out.step hb6)
  have hsz6:=Nat.le_trans hsz3 hb6.size
  have HN6:Hid (∀ b∈F6,b∉[g]):=fun b hb h=>by
   have h1:=(hfs6 b hb).1
   rw [List.mem_singleton.1 h] at h1
   have:=KG.out.lt
   omega
  have HU6:=jj hfs6.under
  clear hb6 hfs6 KT KP KG HCG HX3 HF3 HV3 HG3 hsz3
  cases e1:nodeB xs t p with
  |false =>
   have HFin:=jj (HBad.out w6 (c+1) (scanPB_node e1) HC6.out KG6.out)
   clear e1 hty6
   go_wp2
   go_ret2
   exact HFin.out
  |true =>
   have ha6:=hty6 e1
   have hown1:ownB xs t p=true:=by unfold nodeB at e1;rw [Bool.and_eq_true] at e1;exact e1.1
   have HK0:=jj (KidsOk.zero (d:=d) (c:=c) e1 (by omega))
   have HLN:=jj HK0.out.len
   have HAI:=jj (typesP_in HW.out HT.out hown1)
   have HL5:=jj (fun (h5:p.op=5)=>(show p.ks.length=2 by rw [HLN.out,zB0 h5];rfl))
   have HNext:=jj (fun (i:Nat) (hi:i<p.ks.length) (hil:i<(typesP xs t p).length) (h:KidsOk xs d t p c i) (hs:scanPB xs d (typesP xs t p)[i] p.ks[i] (c+1+kidSum p i)=true)=>h.next hi hil hs)
   have HFail:=jj (fun (i:Nat) (hi:i<p.ks.length) (hil:i<(typesP xs t p).length) (h:KidsOk xs d t p c i) (hs:scanPB xs d (typesP xs t p)[i] p.ks[i] (c+1+kidSum p i)=false)=>h.fail hi hil hs)
   have HAcc:=jj (fun (i:Nat) (hi:i<p.ks.length) (hil:i<(typesP xs t p).length) (hn:¬(p.op=5∧i=1))=>accI_next (d:=d) hn HL5.out hil hi)
   have HSame:=jj (fun (i:Nat) (hi:i<p.ks.length) (hil:i<(typesP xs t p).length) (h5:p.op=5) (h1:i=1)=>same_or (d:=d) h5 (HL5.out h5) hi hil h1)
   have HOrNo:Hid (∀ (i:Nat) (hi:i<p.ks.length) (h5:p.op=5) (h1:i=1) (h:KidsOk xs d t p c (i+1)) (ho:orOk xs d t p=false),scanPB xs (d+1) t p c=false):=fun i hi h5 h1 h ho=>by
    have h2:KidsOk xs d t p c p.ks.length:=by rwa [show i+1=p.ks.length by have:=HL5.out h5;omega] at h
    exact h2.or_no h5 ho
   clear hty6 e1 hown1
   generalize hass:typesP xs t p=ls at *
   clear hass
   obtain ⟨A6,cap6,rfl,hd3,hd4⟩:=ha6.form
   have HA6:Hid (Arr w6 (TyR w6) ls (.slice A6 ls.length cap6) F6∧Under w6 F6):=⟨ha6,HU6.out⟩
   clear ha6 HU6
   by_cases hnm:namedB p=true
   ·have hn2:p.op=2∨p.op=6:=by unfold namedB at hnm;simpa using hnm
    obtain ⟨i0,hi,hz0,hz1,hz2⟩:=info_parts info_VtE
    have HI:=jj hi
    have HZ0:=jj hz0
    have HZ1:=jj hz1
    have HZ2:=jj hz2
    clear hi hz0 hz1 hz2
    have HAC:=jj ((accI_zero xs d t p).trans (accP_named (ys:=[]) (xs:=xs) (d:=d) (t:=t) hnm))
    clear hnm
    rcases hn2 with h2 | h2
    have t2:(p.op==2)=true:=by simp [h2]
    rotate_left
    have t2:(p.op==2)=false:=by simp [h2]
    have t6:(p.op==6)=true:=by simp [h2]
    rotate_left
    all_goals (
     clear h2
     obtain ⟨y0,y1,klt⟩:=KT6.out.c2
     obtain ⟨z0,-,-,-,z4,z5,klt2⟩:=KP6.out.c6
     go_wp2_with (at_builtin;refine Halt.mk ?_)
     have HOB:Hid (Own w6 (w.heap.size+2) 107 3 VtR ([]:List Vt) (.slice none 0 0) []):=Own.nil _ _ _ _ _
     refine Halt.of (zA3 (P:=Try.prog) rfl _ _ 33 rfl i0 _ 24 Try.underlying33 HI.out HZ0.out HZ1.out HZ2.out rfl (by decide) VtR_len zA9 (by rfl) HOB.out ⟨p.va,t⟩ 107 [p.va,t.d,t.i] [] _ (by rfl) rfl (by simp [Value.oneCell']) ⟨rfl,rfl⟩ (Under.nil _) (fun _ _ h=>by cases h) (by simp [maxLen]) (by simp) hsz6 ?_)
     intro gr cp w5 hown5 hgr5 hat5
     have hC25:=grown_chg hgr5
     have KP5:=jj (KP6.out.same (hC25.block _ KP6.out.lt (by simp [zAW])))
     have KG5:=jj (KG6.out.same (hC25.block _ KG6.out.lt (by simp [zAW])))
     have HC5:Hid (Chg [g] w w5):=zB2 HC6.out hC25 (fun b hb=>by simp [zAW] at hb)
     have HA5:Hid (Arr w5 (TyR w5) ls (.slice A6 ls.length cap6) F6∧Under w5 F6):=⟨ArrTy.mono HA6.out.1 (hC25.kept HA6.out.2 (fun b _ h=>by simp [zAW] at h)),HA6.out.2.mono hC25.size⟩
     have HR5:Hid (∀ g'∈rowOf (.slice (some ⟨gr,0,none⟩) (([]:List Vt).length+1) cp),g'∉F6):=fun g' hg' hF=>by
      rcases grown_rows hat5 g' hg' with h | h
      ·simp [zAW] at h
      ·have:=HA6.out.2 g' hF;omega
     have HO5:Hid (Own w5 (w.heap.size+2) 107 3 VtR (accI xs d t p 0) (.slice (some ⟨gr,0,none⟩) (([]:List Vt).length+1) cp) []):=by rw [HAC.out];exact hown5
     have hsz5:=Nat.le_trans hsz6 hC25.size
     clear y0 y1 klt z0 z4 z5 klt2
     obtain ⟨-,-,-,-,-,z5,klt2⟩:=KP5.out.c6
     clear hown5 hgr5 hat5 hC25 HOB KG6 HC6 HA6 KP6 KT6 hsz6 gx gf hgl
     go_wp2
     go_loopw [14,62] (fun vv iv wr=>∃ i:Nat,i≤p.ks.length∧iv=.int .i64 i∧Hid (KidsOk xs d t p c i)∧Hid (p.op=5→1<i→orOk xs d t p=true)∧Hid (Own wr (w.heap.size+2) 107 3 VtR (accI xs d t p i) vv [])∧Hid (∀ g'∈rowOf vv,g'∉F6)∧Hid (Blk wr g 3 #[.int .i64 ((c+1+kidSum p i:Nat):Int)])∧Hid (Chg [g] w wr)∧Hid (Arr wr (TyR wr) ls (.slice A6 ls.length cap6) F6∧Under wr F6)∧Hid (Blk wr (w.heap.size+1) 28 #[p.op,p.ct,p.n,p.m,p.va,.slice A4 p.ks.length cap4])∧w.heap.size+2≤wr.heap.size) (fun _ iv _=>p.ks.length-(intOf iv).toNat)
     case atStart=>exact ⟨0,Nat.zero_le _,rfl,HK0,(fun _ h=>by omega),HO5,HR5,(show Blk _ _ _ #[.int .i64 ((c+1+0:Nat):Int)] from KG5.out),HC5,HA5,KP5,hsz5⟩
     case round =>
      clear hsz5
      obtain ⟨i,hi,rfl,HKI,HOR,HO,HRW,KG,HCG,HA6,KP,hsz⟩:=hrel
      have hrow0:=fun b hb=>(HO.out.row b hb).1
      have HGR:=jj (show g∉rowOf u14 from fun h=>by have:=hrow0 _ h;have:=HGL.out;omega)
      clear hrow0
      by_cases hik:i<p.ks.length
      ·have hil:i<ls.length:=by rw [←HLN.out];exact hik
       obtain ⟨b6,off6,rfl⟩:=HA6.out.1.ptr (by omega)
       have HAw:=jj (ArrP.mono HA.out (HCG.out.kept HG.out (fun b hb h=>HGG.out (by rw [←List.mem_singleton.1 h];exact hb))))
       have HGw:=jj (HG.out.mono HCG.out.size)
       have HXw:=jj (ArrDt.mono HX.out (HCG.out.kept HF.out (fun b hb h=>HGF.out (by rw [←List.mem_singleton.1 h];exact hb))))
       have HFw:=jj (HF.out.mono HCG.out.size)
       obtain ⟨b4,off4,rfl⟩:=HAw.out.ptr (by omega)
       obtain ⟨A7,cap7,G7,hb7,k0,k1,k2,k3,k4,k5,HV7,HG7,hG7G,-,-⟩:=ArrP.at HAw.out HGw.out (zy2 _ _) i hik
       have HN7:Hid (g∉G7):=fun h=>HGG.out (hG7G _ h)
       clear hG7G
       have g1:(0:Int)≤(i:Int):=by omega
       have g2:(i:Int)<(ls.length:Int):=by omega
       have g3:(i:Int)<(p.ks.length:Int):=by omega
       have hwr:IntKind.i64.wrap ((deep:Int)+1)=(deep:Int)+1:=IntWalk.i64_in _ (by omega)
       obtain ⟨W7,hW7⟩:∃ W7,W7=wr.alloc (.cells #[p.ks[i].op,p.ks[i].ct,p.ks[i].n,p.ks[i].m,p.ks[i].va,.slice A7 p.ks[i].ks.length cap7] 28):=⟨_,rfl⟩
       have hb77:Below wr wr W7:=by rw [hW7];exact (zy2 _ _).alloc (zz8 _) _
       have KX:Hid (Blk W7 wr 28 #[p.ks[i].op,p.ks[i].ct,p.ks[i].n,p.ks[i].m,p.ks[i].va,.slice A7 p.ks[i].ks.length cap7]):=by rw [hW7];exact Blk.new _ _ _
       have KG7:=jj (KG.out.same (hb77.block _ KG.out.lt))
       have KP7:=jj (KP.out.same (hb77.block _ KP.out.lt))
       have HCG7:=jj (HCG.out.step hb77)
       have HX7:=jj (ArrDt.below HXw.out hb77 HFw.out)
       have HF7:=jj (HFw.out.mono hb77.size)
       have HV77:=jj (HV7.out.below hb77 HG7.out)
       have HG77:=jj (HG7.out.mono hb77.size)
       have HA67:Hid (Arr W7 (TyR W7) ls (.slice (some ⟨b6,off6,none⟩) ls.length cap6) F6∧Under W7 F6):=⟨ArrTy.below HA6.out.1 hb77 HA6.out.2,HA6.out.2.mono hb77.size⟩
       have HO7:Hid (Own W7 (w.heap.size+2) 107 3 VtR (accI xs d t p i) u14 []):=HO.out.below (fun x cs G hk h=>zA9 _ _ x cs G hk h) hb77
       have hgw:g<wr.heap.size:=KG.out.lt
       have hne7:wr.heap.size≠g:=by omega
       have hsz7:=Nat.le_trans hsz hb77.size
       have hci:c+1+kidSum p i≤60:=HKI.out.fit
       go_wp2_with fail
       rw [←hW7]
       clear hW7 k0 k1 k2 k3 k4 k5 hb7 HAw HGw HXw HFw HV7 HG7 KG HCG HA6 KP HO
       obtain ⟨hb6,a0,a1⟩:=ArrTy.at HA67.out.1 HA67.out.2 (zy2 _ _) i hil
       have hb6n:b6≠g:=by
        obtain ⟨b',off',cs',G',e',hb',-⟩:=HA67.out.1.get TyR_len hil
        cases e'
        exact fun e=>HN6.out _ hb' (by rw [e];exact List.mem_singleton.2 rfl)
       obtain ⟨k0,k1,k2,k3,k4,k5,kxl⟩:=KX.out.c6
       have HNE:=jj (show b6∉[g] from fun h=>hb6n (List.mem_singleton.1 h))
       have HNE7:=jj (show wr.heap.size∉[g] from fun h=>hne7 (List.mem_singleton.1 h))
       clear hb6n hne7 hgw
       have HCALL:=jj (IH.out p.ks[i] (List.getElem_mem hik) xs HW.out d (deep+1) (by omega) (by omega) ls[i] (HAI.out _ (List.getElem_mem hil)) W7.drew _ F _ G7 g (c+1+kidSum p i) (ArrDt.drew HX7.out) HF7.out HV77.out.drew HG77.out KG7.out HGF.out HN7.out hci)
       rw [show ((deep+1:Nat):Int)=(deep:Int)+1 by omega] at HCALL
       go_region_held3 (fun w'=>w'.cell? ⟨b6,off6+i*2,none⟩=ls[i].d∧w'.cell? ⟨b6,off6+i*2+1,none⟩=ls[i].i∧w'.cell? ⟨wr,0,none⟩=p.ks[i].op∧w'.cell? ⟨wr,1,none⟩=p.ks[i].ct∧w'.cell? ⟨wr,2,none⟩=p.ks[i].n∧w'.cell? ⟨wr,3,none⟩=p.ks[i].m∧w'.cell? ⟨wr,4,none⟩=p.ks[i].va∧w'.cell? ⟨wr,5,none⟩=some (.slice A7 p.ks[i].ks.length cap7)) (first | assumption | (exact ⟨a0,a1,k0,k1,k2,k3,k4,k5⟩) | (exact ⟨(hC'.cell hb6 HNE.out).trans a0,(hC'.cell hb6 HNE.out).trans a1,(hC'.cell kxl HNE7.out).trans k0,(hC'.cell kxl HNE7.out).trans k1,(hC'.cell kxl HNE7.out).trans k2,(hC'.cell kxl HNE7.out).trans k3,(hC'.cell kxl HNE7.out).trans k4,(hC'.cell kxl HNE7.out).trans k5⟩)) (first | (go_at_call 63;((with_reducible refine HCALL.out.mono ?_);rintro e w' ⟨v',F',c',rfl,hC',hK',hy',-⟩)))
       have hC2:=hC'.undrew
       have HCG8:=jj (HCG7.out.trans hC2)
       have HK8:=jj hK'
       have HA68:Hid (Arr w' (TyR w') ls (.slice (some ⟨b6,off6,none⟩) ls.length cap6) F6∧Under w'.heap.size F6):=⟨ArrTy.mono HA67.out.1 (hC2.kept HA67.out.2 HN6.out),HA67.out.2.mono hC2.size⟩
       have KP8:=jj (KP7.out.same (hC2.block _ KP7.out.lt (fun h=>by have:=List.mem_singleton.1 h;have:=HGL.out;omega)))
       have HO8:Hid (Own w' (w.heap.size+2) 107 3 VtR (accI xs d t p i) u14 []):=HO7.out.mono (fun x cs G hk h=>zA9 _ _ x cs G hk h) (hC2.kept (fun b hb=>(HO7.out.row b (by simpa using hb)).2) (fun b hb h=>HGR.out (by rw [←List.mem_singleton.1 h];simpa using hb))) hC2.size
       have hsz8:=Nat.le_trans hsz7 hC2.size
       have HY:=jj hy'
       have HSW:=jj (show w.heap.size≤W7.heap.size from by omega)
       clear hwr hC' hC2 hK' hy' a0 a1 k0 k1 k2 k3 k4 k5 kxl hb6 HCALL KG7 HCG7 HX7 HF7 HV77 HG77 HA67 HO7 hsz7 hb77 KX
       cases e3:scanPB xs d ls[i] p.ks[i] (c+1+kidSum p i) with
       |false =>
        have HFin:=jj (HBad.out w' c' (HFail.out i hik hil HKI.out e3) HCG8.out HK8.out)
        clear e3
        go_wp2
        go_ret2
        exact HFin.out
       |true =>
        obtain ⟨hcc,hav,hfrv,hfsv⟩:=HY.out e3
        have HKN:=jj (HNext.out i hik hil HKI.out e3)
        have hks:=zAS p i hik
        obtain rfl:c'=c+1+kidSum p (i+1):=by omega
        have HAV:=jj hav
        have HUV:=jj hfsv.under
        have HLY:=jj (varsN_len xs d ls[i] p.ks[i])
        have HNK:=jj (nodesP_mem hik)
        clear hav hfrv hfsv hks e3 HY hcc
        obtain ⟨z0,-,-,-,-,-,klt2⟩:=KP8.out.c6
        by_cases hor:p.op=5∧i=1
        ·have t5:(p.op==5)=true:=by simp [hor.1]
         have t6:((i:Int)==1)=true:=by simp [hor.2]
         have HOR1:=jj hor.1
         have HOR2:=jj hor.2
         clear hor
         go_wp2_with fail
         refine (impl_sameVars (accI xs d t p i) (varsN xs d ls[i] p.ks[i]) w' _ _ _ F' HO8.out.arr (fun b hb=>by
          split at hb
          ·cases hb
          ·exact (HO8.out.row b (by simpa using hb)).2) HAV.out HUV.out).mono ?_
         rintro e w9 ⟨rfl,hb9⟩
         have hok:sameV (accI xs d t p i) (varsN xs d ls[i] p.ks[i])=orOk xs d t p:=HSame.out i hik hil HOR1.out HOR2.out
         rw [hok]
         have KP9:=jj (KP8.out.same (hb9.block _ KP8.out.lt))
         have KG9:=jj (HK8.out.same (hb9.block _ HK8.out.lt))
         have HC9:=jj (HCG8.out.step hb9)
         have HA9:Hid (Arr w9 (TyR w9) ls (.slice (some ⟨b6,off6,none⟩) ls.length cap6) F6∧Under w9 F6):=⟨ArrTy.below HA68.out.1 hb9 HA68.out.2,HA68.out.2.mono hb9.size⟩
         have HO9:Hid (Own w9 (w.heap.size+2) 107 3 VtR (accI xs d t p (i+1)) u14 []):=by
          have h:=HO8.out.below (fun x cs G hk h=>zA9 _ _ x cs G hk h) hb9
          rw [accI_or HOR1.out (by omega)]
          rw [HOR2.out] at h
          exact h
         have hsz9:=Nat.le_trans hsz8 hb9.size
         clear hok hb9 z0 klt2
         cases e4:orOk xs d t p with
         |false =>
          have HFin:=jj (HBad.out w9 _ (HOrNo.out i hik HOR1.out HOR2.out HKN.out e4) HC9.out KG9.out)
          clear e4
          go_wp2
          go_ret2
          exact HFin.out
         |true =>
          have HE4:=jj e4
          clear e4
          go_wp2
          go_roundw
          case rel=>exact ⟨i+1,by omega,by go_num,HKN,(fun _ _=>HE4.out),HO9,HRW,KG9,HC9,HA9,KP9,hsz9⟩
          case measure=>(simp [intOf] <;> omega)
        ·obtain ⟨A9,cap9,rfl,h91,h92⟩:=HAV.out.form
         obtain ⟨i0,hi0,hz0,hz1,hz2⟩:=info_parts info_VtE
         have hn60:=HKN.out.fit
         have HL60:=jj (accI_len xs d t p i)
         have hpl:(accI xs d t p i).length+(varsN xs d ls[i] p.ks[i]).length≤200:=by
          have h1:=HL60.out
          have h2:=HLY.out
          have h3:=zAS p i hik
          omega
         obtain ⟨v8,w8,hrun,ho8,hg8,hr8⟩:=run_append_vars (P:=Try.prog) 33 33 i0 _ 24 Try.underlying33 hi0 hz0 hz1 hz2 rfl HO8.out HAV.out (by unfold maxLen;omega) (by omega) hsz8
         have HRUN:=jj hrun
         have hC8:=grown_chg' hg8
         have hgr8:g∉rowOf u14:=HGR.out
         have HO9:Hid (Own w8 (w.heap.size+2) 107 3 VtR (accI xs d t p (i+1)) v8 []):=by rw [HAcc.out i hik hil hor];exact ho8
         have HRW9:Hid (∀ g'∈rowOf v8,g'∉F6):=fun g' hg' hF=>by
          rcases hr8 g' hg' with h | h
          ·exact HRW.out g' h hF
          ·have:=HA68.out.2 g' hF;omega
         have KG9:=jj (HK8.out.same (hC8.block _ HK8.out.lt hgr8))
         have KP9:=jj (KP8.out.same (hC8.block _ KP8.out.lt (fun h=>by have:=(HO8.out.row _ h).1;omega)))
         have HC9:Hid (Chg [g] w w8):=zB2 HCG8.out hC8 (fun b hb=>.inr (by have:=(HO8.out.row _ hb).1;omega))
         have HA9:Hid (Arr w8 (TyR w8) ls (.slice (some ⟨b6,off6,none⟩) ls.length cap6) F6∧Under w8 F6):=⟨ArrTy.mono HA68.out.1 (hC8.kept HA68.out.2 (fun b hb h=>HRW.out b h hb)),HA68.out.2.mono hC8.size⟩
         have hsz9:=Nat.le_trans hsz8 hC8.size
         have HORn:Hid (p.op=5→1<i+1→orOk xs d t p=true):=fun h5 h1=>by
          have:=HL5.out h5
          exact absurd ⟨h5,by omega⟩ hor
         clear hrun ho8 hg8 hr8 hC8 hgr8 hi0 hz0 hz1 hz2 HAV HUV hpl hn60
         by_cases h5:p.op=5
         ·have t5:(p.op==5)=true:=by simp [h5]
          have t6:((i:Int)==1)=false:=by rw [beq_eq_false_iff_ne];intro h;exact hor ⟨h5,by omega⟩
          clear h5 hor
          go_wp2_with (at_builtin;refine Halt.mk ?_)
          refine Halt.of (zB1 rfl _ _ 33 rfl (by rfl) (by rfl) HRUN.out ?_)
          clear HRUN z0 klt2 t5
          go_wp2
          go_roundw
          case rel=>exact ⟨i+1,by omega,by go_num,HKN,HORn,HO9,HRW9,KG9,HC9,HA9,KP9,hsz9⟩
          case measure=>(simp [intOf] <;> omega)
         ·have t5:(p.op==5)=false:=by simpa using h5
          clear h5 hor
          go_wp2_with (at_builtin;refine Halt.mk ?_)
          refine Halt.of (zB1 rfl _ _ 33 rfl (by rfl) (by rfl) HRUN.out ?_)
          clear HRUN z0 klt2 t5
          go_wp2
          go_roundw
          case rel=>exact ⟨i+1,by omega,by go_num,HKN,HORn,HO9,HRW9,KG9,HC9,HA9,KP9,hsz9⟩
          case measure=>(simp [intOf] <;> omega)
      ·obtain ⟨wo,hwo⟩:∃ wo,wo=wr:=⟨_,rfl⟩
       subst hwo
       have HKE:Hid (KidsOk xs d t p c p.ks.length):=by have h:=HKI.out;rwa [show i=p.ks.length by omega] at h
       have HOE:Hid (Own wo (w.heap.size+2) 107 3 VtR (accI xs d t p p.ks.length) u14 []):=by have h:=HO.out;rwa [show i=p.ks.length by omega] at h
       have KGE:Hid (Blk wo g 3 #[.int .i64 ((c+nodesP p:Nat):Int)]):=by have h:=KG.out;rw [show i=p.ks.length by omega] at h;rwa [zAN p (zz8 _),←Nat.add_assoc]
       have HFS:=jj (HKE.out.fin (fun h5=>HOR.out h5 (by have:=HL5.out h5;omega)))
       have HRG:=jj (vars_range xs (d+1) t p HKE.out.shape)
       have HLL:=jj (varsN_len xs (d+1) t p)
       have hln60:(varsN xs (d+1) t p).length≤60:=by have h1:=HLL.out;have h2:=HKE.out.fit;have h3:=zAN p (zz8 p.ks.length);omega
       have hacc:=accI_done (xs:=xs) (d:=d) (t:=t) (p:=p) HL5.out
       rw [hacc] at HOE
       have hfinT:Hid (dupFree (varsN xs (d+1) t p)=true→∀ W,Below wo wo W→ScanPP xs (d+1) t p c g w (.returned (.tuple #[u14,.bool true])) W):=fun hd W hW=>by
        have hT:=HFS.out.trans hd
        have hO:=HOE.out.below (fun x cs G hk h=>zA9 _ _ x cs G hk h) hW
        exact ⟨u14,_,c+nodesP p,by rw [hT],HCG.out.step hW,KGE.out.same (hW.block _ KGE.out.lt),fun _=>⟨rfl,hO.arr,hO.free (Free.nil _),hO.fresh (by omega) (fun b hb=>by cases hb)⟩,fun h=>by rw [hT] at h;cases h⟩
       have hfinF:Hid (dupFree (varsN xs (d+1) t p)=false→∀ W,Below wo wo W→ScanPP xs (d+1) t p c g w (.returned (.tuple #[.slice none 0 0,.bool false])) W):=fun hd W hW=>HBad.out W _ (HFS.out.trans hd) (HCG.out.step hW) (KGE.out.same (hW.block _ KGE.out.lt))
       clear hacc HFS HLL
       generalize varsN xs (d+1) t p=L at *
       obtain ⟨oA,ocap,hov,ho1,ho2⟩:=HOE.out.form
       subst hov
       have HAL:=jj HOE.out.arr
       have HUL:Hid (Under wo (if L=[] then [] else rowOf (.slice oA L.length ocap) ++ [])):=fun b hb=>by
        split at hb
        ·cases hb
        ·exact (HOE.out.row b (by simpa using hb)).2
       generalize (if L=[] then [] else rowOf (.slice oA L.length ocap) ++ [])=FL at *
       have hbm:Below wo wo (wo.alloc (.cells #[.bool false,.bool false,.bool false,.bool false,.bool false,.bool false] 127)):=(zy2 _ _).alloc (zz8 _) _
       have KM:Hid (Blk (wo.alloc (.cells #[.bool false,.bool false,.bool false,.bool false,.bool false,.bool false] 127)) wo.heap.size 127 (metTo L 0)):=Blk.new _ _ _
       clear HO KG HRW HA6 KP HKI HOR HGR HKE HOE KGE HCG
       go_wp2
       go_loopw [101] (fun iv ws=>∃ i:Nat,i≤L.length∧iv=.int .i64 i∧Hid (∀ j (hj:j<L.length),j<i→∀ k (hk:k<L.length),k<j→L[k].var≠L[j].var)∧Hid (Blk ws wo 127 (metTo L i))∧Hid (Below wo wo ws)) (fun iv _=>L.length-(intOf iv).toNat)
       case atStart=>exact ⟨0,Nat.zero_le _,rfl,(fun j hj h=>by omega),KM,hbm⟩
       case round =>
        clear KM hbm
        obtain ⟨i,hi,rfl,HN,KM,HB⟩:=hrel
        by_cases hil:i<L.length
        ·obtain ⟨bL,offL,rfl⟩:=HAL.out.ptr (by omega)
         obtain ⟨hbL,c0,c1,c2⟩:=ArrVt.at HAL.out HUL.out HB.out i hil
         have hrg:=HRG.out L[i] (List.getElem_mem hil)
         obtain ⟨k,hk⟩:∃ k:Nat,L[i].var=(k:Int):=⟨L[i].var.toNat,by omega⟩
         have hk6:k<6:=by omega
         have HNY:=jj (fun (h:metB (L.take i) k=false)=>met_yes hil hk h)
         have HNN:=jj (fun (h:metB (L.take i) k=true)=>met_no hil hk h)
         have HMS:=jj (metTo_succ L hil hk6 hk)
         have g1:(0:Int)≤(i:Int):=by omega
         have g2:(i:Int)<(L.length:Int):=by omega
         have g3:(0:Int)≤(k:Int):=by omega
         have g4:(k:Int)<6:=by omega
         rw [hk] at c0
         have hml:=KM.out.lt
         have hBv:Below wr wr (wr.alloc (.cells #[(k:Int),L[i].ty.d,L[i].ty.i] 107)):=(zy2 _ _).alloc (zz8 _) _
         have KMv:Blk (wr.alloc (.cells #[(k:Int),L[i].ty.d,L[i].ty.i] 107)) wo.heap.size 127 (metTo L i):=KM.out.same (hBv.block _ hml)
         have m0:(wr.alloc (.cells #[(k:Int),L[i].ty.d,L[i].ty.i] 107)).cell? ⟨wo.heap.size,k,none⟩=some (.bool (metB (L.take i) k)):=(KMv.cell k).trans (metRow_get _ hk6)
         have mf0:(wr.alloc (.cells #[(k:Int),L[i].ty.d,L[i].ty.i] 107)).frozen? ⟨wo.heap.size,k,none⟩=false:=KMv.frozen k
         have n0:wr.cell? ⟨wo.heap.size,k,none⟩=some (.bool (metB (L.take i) k)):=(KM.out.cell k).trans (metRow_get _ hk6)
         have nf0:wr.frozen? ⟨wo.heap.size,k,none⟩=false:=KM.out.frozen k
         have hmlv:=KMv.lt
         have HBv:=jj (HB.out.trans (hBv.mono HB.out.size))
         have HKMv:=jj KMv
         clear hrg hk KMv
         cases hm:metB (L.take i) k with
         |true =>
          rw [hm] at m0 n0
          have HFin:=jj (hfinF.out (HNN.out hm) _ HBv.out)
          clear hm
          go_wp2
          go_ret2
          exact HFin.out
         |false =>
          rw [hm] at m0 n0
          have hny:=HNY.out hm
          have HN2:Hid (∀ j (hj:j<L.length),j<i+1→∀ k (hk:k<L.length),k<j→L[k].var≠L[j].var):=fun j hj hji=>by
           rcases Nat.lt_or_ge j i with h | h
           ·exact HN.out j hj h
           ·obtain rfl:j=i:=by omega
            exact hny
          have KM1:Blk (wr.setCell ⟨wo.heap.size,k,none⟩ (.bool true)) wo.heap.size 127 (metTo L (i+1)):=by rw [←HMS.out];exact KM.out.set_ k (.bool true)
          have KM2:Hid (Blk ((wr.setCell ⟨wo.heap.size,k,none⟩ (.bool true)).alloc (.cells #[(k:Int),L[i].ty.d,L[i].ty.i] 107)) wo.heap.size 127 (metTo L (i+1))):=KM1.same (Below.heap_alloc _ _ _ KM1.lt)
          have HB2:Hid (Below wo wo ((wr.setCell ⟨wo.heap.size,k,none⟩ (.bool true)).alloc (.cells #[(k:Int),L[i].ty.d,L[i].ty.i] 107))):=(HB.out.setCell (zz8 _) _).alloc (by have:=HB.out.size;simpa [World.setCell] using this) _
          clear KM1
          clear hm hny
          go_wp2
          go_roundw
          case rel=>exact ⟨i+1,by omega,by go_num,HN2,KM2,HB2⟩
          case measure=>(simp [intOf] <;> omega)
        ·have HFin:=jj (hfinT.out (dup_yes (fun j hj=>HN.out j hj (by omega))) _ HB.out)
         go_wp2
         go_ret2
         exact HFin.out)
   ·have hn2:¬p.op=2:=fun h=>hnm (by unfold namedB;simp [h])
    have hn6:¬p.op=6:=fun h=>hnm (by unfold namedB;simp [h])
    have t2:(p.op==2)=false:=by simpa using hn2
    have t6:(p.op==6)=false:=by simpa using hn6
    have HAC:=jj ((accI_zero xs d t p).trans (accP_bare (ys:=[]) (xs:=xs) (d:=d) (t:=t) (Bool.eq_false_iff.2 hnm)))
    clear hnm
    have HO5:Hid (Own w6 (w.heap.size+2) 107 3 VtR (accI xs d t p 0) (.slice none 0 0) []):=by rw [HAC.out];exact Own.nil _ _ _ _ _
    have HR5:Hid (∀ g'∈rowOf (.slice none 0 0),g'∉F6):=fun g' hg'=>by simp [zAW] at hg'
    obtain ⟨z0,-,-,-,-,z5,klt2⟩:=KP6.out.c6
    have KG5:=KG6
    have HC5:=HC6
    have HA5:=HA6
    have KP5:=KP6
    have hsz5:=hsz6
    clear KG6 HC6 HA6 KP6 KT6 hsz6 gx gf hgl
    clear hn2 hn6
    go_wp2
    go_loopw [14,62] (fun vv iv wr=>∃ i:Nat,i≤p.ks.length∧iv=.int .i64 i∧Hid (KidsOk xs d t p c i)∧Hid (p.op=5→1<i→orOk xs d t p=true)∧Hid (Own wr (w.heap.size+2) 107 3 VtR (accI xs d t p i) vv [])∧Hid (∀ g'∈rowOf vv,g'∉F6)∧Hid (Blk wr g 3 #[.int .i64 ((c+1+kidSum p i:Nat):Int)])∧Hid (Chg [g] w wr)∧Hid (Arr wr (TyR wr) ls (.slice A6 ls.length cap6) F6∧Under wr F6)∧Hid (Blk wr (w.heap.size+1) 28 #[p.op,p.ct,p.n,p.m,p.va,.slice A4 p.ks.length cap4])∧w.heap.size+2≤wr.heap.size) (fun _ iv _=>p.ks.length-(intOf iv).toNat)
    case atStart=>exact ⟨0,Nat.zero_le _,rfl,HK0,(fun _ h=>by omega),HO5,HR5,(show Blk _ _ _ #[.int .i64 ((c+1+0:Nat):Int)] from KG5.out),HC5,HA5,KP5,hsz5⟩
    case round =>
     clear hsz5
     obtain ⟨i,hi,rfl,HKI,HOR,HO,HRW,KG,HCG,HA6,KP,hsz⟩:=hrel
     have hrow0:=fun b hb=>(HO.out.row b hb).1
     have HGR:=jj (show g∉rowOf u14 from fun h=>by have:=hrow0 _ h;have:=HGL.out;omega)
     clear hrow0
     by_cases hik:i<p.ks.length
     ·have hil:i<ls.length:=by rw [←HLN.out];exact hik
      obtain ⟨b6,off6,rfl⟩:=HA6.out.1.ptr (by omega)
      have HAw:=jj (ArrP.mono HA.out (HCG.out.kept HG.out (fun b hb h=>HGG.out (by rw [←List.mem_singleton.1 h];exact hb))))
      have HGw:=jj (HG.out.mono HCG.out.size)
      have HXw:=jj (ArrDt.mono HX.out (HCG.out.kept HF.out (fun b hb h=>HGF.out (by rw [←List.mem_singleton.1 h];exact hb))))
      have HFw:=jj (HF.out.mono HCG.out.size)
      obtain ⟨b4,off4,rfl⟩:=HAw.out.ptr (by omega)
      obtain ⟨A7,cap7,G7,hb7,k0,k1,k2,k3,k4,k5,HV7,HG7,hG7G,-,-⟩:=ArrP.at HAw.out HGw.out (zy2 _ _) i hik
      have HN7:Hid (g∉G7):=fun h=>HGG.out (hG7G _ h)
      clear hG7G
      have g1:(0:Int)≤(i:Int):=by omega
      have g2:(i:Int)<(ls.length:Int):=by omega
      have g3:(i:Int)<(p.ks.length:Int):=by omega
      have hwr:IntKind.i64.wrap ((deep:Int)+1)=(deep:Int)+1:=IntWalk.i64_in _ (by omega)
      obtain ⟨W7,hW7⟩:∃ W7,W7=wr.alloc (.cells #[p.ks[i].op,p.ks[i].ct,p.ks[i].n,p.ks[i].m,p.ks[i].va,.slice A7 p.ks[i].ks.length cap7] 28):=⟨_,rfl⟩
      have hb77:Below wr wr W7:=by rw [hW7];exact (zy2 _ _).alloc (zz8 _) _
      have KX:Hid (Blk W7 wr 28 #[p.ks[i].op,p.ks[i].ct,p.ks[i].n,p.ks[i].m,p.ks[i].va,.slice A7 p.ks[i].ks.length cap7]):=by rw [hW7];exact Blk.new _ _ _
      have KG7:=jj (KG.out.same (hb77.block _ KG.out.lt))
      have KP7:=jj (KP.out.same (hb77.block _ KP.out.lt))
      have HCG7:=jj (HCG.out.step hb77)
      have HX7:=jj (ArrDt.below HXw.out hb77 HFw.out)
      have HF7:=jj (HFw.out.mono hb77.size)
      have HV77:=jj (HV7.out.below hb77 HG7.out)
      have HG77:=jj (HG7.out.mono hb77.size)
      have HA67:Hid (Arr W7 (TyR W7) ls (.slice (some ⟨b6,off6,none⟩) ls.length cap6) F6∧Under W7 F6):=⟨ArrTy.below HA6.out.1 hb77 HA6.out.2,HA6.out.2.mono hb77.size⟩
      have HO7:Hid (Own W7 (w.heap.size+2) 107 3 VtR (accI xs d t p i) u14 []):=HO.out.below (fun x cs G hk h=>zA9 _ _ x cs G hk h) hb77
      have hgw:g<wr.heap.size:=KG.out.lt
      have hne7:wr.heap.size≠g:=by omega
      have hsz7:=Nat.le_trans hsz hb77.size
      have hci:c+1+kidSum p i≤60:=HKI.out.fit
      go_wp2_with fail
      rw [←hW7]
      clear hW7 k0 k1 k2 k3 k4 k5 hb7 HAw HGw HXw HFw HV7 HG7 KG HCG HA6 KP HO
      obtain ⟨hb6,a0,a1⟩:=ArrTy.at HA67.out.1 HA67.out.2 (zy2 _ _) i hil
      have hb6n:b6≠g:=by
       obtain ⟨b',off',cs',G',e',hb',-⟩:=HA67.out.1.get TyR_len hil
       cases e'
       exact fun e=>HN6.out _ hb' (by rw [e];exact List.mem_singleton.2 rfl)
      obtain ⟨k0,k1,k2,k3,k4,k5,kxl⟩:=KX.out.c6
      have HNE:=jj (show b6∉[g] from fun h=>hb6n (List.mem_singleton.1 h))
      have HNE7:=jj (show wr.heap.size∉[g] from fun h=>hne7 (List.mem_singleton.1 h))
      clear hb6n hne7 hgw
      have HCALL:=jj (IH.out p.ks[i] (List.getElem_mem hik) xs HW.out d (deep+1) (by omega) (by omega) ls[i] (HAI.out _ (List.getElem_mem hil)) W7.drew _ F _ G7 g (c+1+kidSum p i) (ArrDt.drew HX7.out) HF7.out HV77.out.drew HG77.out KG7.out HGF.out HN7.out hci)
      rw [show ((deep+1:Nat):Int)=(deep:Int)+1 by omega] at HCALL
      go_region_held3 (fun w'=>w'.cell? ⟨b6,off6+i*2,none⟩=ls[i].d∧w'.cell? ⟨b6,off6+i*2+1,none⟩=ls[i].i∧w'.cell? ⟨wr,0,none⟩=p.ks[i].op∧w'.cell? ⟨wr,1,none⟩=p.ks[i].ct∧w'.cell? ⟨wr,2,none⟩=p.ks[i].n∧w'.cell? ⟨wr,3,none⟩=p.ks[i].m∧w'.cell? ⟨wr,4,none⟩=p.ks[i].va∧w'.cell? ⟨wr,5,none⟩=some (.slice A7 p.ks[i].ks.length cap7)) (first | assumption | (exact ⟨a0,a1,k0,k1,k2,k3,k4,k5⟩) | (exact ⟨(hC'.cell hb6 HNE.out).trans a0,(hC'.cell hb6 HNE.out).trans a1,(hC'.cell kxl HNE7.out).trans k0,(hC'.cell kxl HNE7.out).trans k1,(hC'.cell kxl HNE7.out).trans k2,(hC'.cell kxl HNE7.out).trans k3,(hC'.cell kxl HNE7.out).trans k4,(hC'.cell kxl HNE7.out).trans k5⟩)) (first | (go_at_call 63;((with_reducible refine HCALL.out.mono ?_);rintro e w' ⟨v',F',c',rfl,hC',hK',hy',-⟩)))
      have hC2:=hC'.undrew
      have HCG8:=jj (HCG7.out.trans hC2)
      have HK8:=jj hK'
      have HA68:Hid (Arr w' (TyR w') ls (.slice (some ⟨b6,off6,none⟩) ls.length cap6) F6∧Under w'.heap.size F6):=⟨ArrTy.mono HA67.out.1 (hC2.kept HA67.out.2 HN6.out),HA67.out.2.mono hC2.size⟩
      have KP8:=jj (KP7.out.same (hC2.block _ KP7.out.lt (fun h=>by have:=List.mem_singleton.1 h;have:=HGL.out;omega)))
      have HO8:Hid (Own w' (w.heap.size+2) 107 3 VtR (accI xs d t p i) u14 []):=HO7.out.mono (fun x cs G hk h=>zA9 _ _ x cs G hk h) (hC2.kept (fun b hb=>(HO7.out.row b (by simpa using hb)).2) (fun b hb h=>HGR.out (by rw [←List.mem_singleton.1 h];simpa using hb))) hC2.size
      have hsz8:=Nat.le_trans hsz7 hC2.size
      have HY:=jj hy'
      have HSW:=jj (show w.heap.size≤W7.heap.size from by omega)
      clear hwr hC' hC2 hK' hy' a0 a1 k0 k1 k2 k3 k4 k5 kxl hb6 HCALL KG7 HCG7 HX7 HF7 HV77 HG77 HA67 HO7 hsz7 hb77 KX
      cases e3:scanPB xs d ls[i] p.ks[i] (c+1+kidSum p i) with
      |false =>
       have HFin:=jj (HBad.out w' c' (HFail.out i hik hil HKI.out e3) HCG8.out HK8.out)
       clear e3
       go_wp2
       go_ret2
       exact HFin.out
      |true =>
       obtain ⟨hcc,hav,hfrv,hfsv⟩:=HY.out e3
       have HKN:=jj (HNext.out i hik hil HKI.out e3)
       have hks:=zAS p i hik
       obtain rfl:c'=c+1+kidSum p (i+1):=by omega
       have HAV:=jj hav
       have HUV:=jj hfsv.under
       have HLY:=jj (varsN_len xs d ls[i] p.ks[i])
       have HNK:=jj (nodesP_mem hik)
       clear hav hfrv hfsv hks e3 HY hcc
       obtain ⟨z0,-,-,-,-,-,klt2⟩:=KP8.out.c6
       by_cases hor:p.op=5∧i=1
       ·have t5:(p.op==5)=true:=by simp [hor.1]
        have t6:((i:Int)==1)=true:=by simp [hor.2]
        have HOR1:=jj hor.1
        have HOR2:=jj hor.2
        clear hor
        go_wp2_with fail
        refine (impl_sameVars (accI xs d t p i) (varsN xs d ls[i] p.ks[i]) w' _ _ _ F' HO8.out.arr (fun b hb=>by
         split at hb
         ·cases hb
         ·exact (HO8.out.row b (by simpa using hb)).2) HAV.out HUV.out).mono ?_
        rintro e w9 ⟨rfl,hb9⟩
        have hok:sameV (accI xs d t p i) (varsN xs d ls[i] p.ks[i])=orOk xs d t p:=HSame.out i hik hil HOR1.out HOR2.out
        rw [hok]
        have KP9:=jj (KP8.out.same (hb9.block _ KP8.out.lt))
        have KG9:=jj (HK8.out.same (hb9.block _ HK8.out.lt))
        have HC9:=jj (HCG8.out.step hb9)
        have HA9:Hid (Arr w9 (TyR w9) ls (.slice (some ⟨b6,off6,none⟩) ls.length cap6) F6∧Under w9 F6):=⟨ArrTy.below HA68.out.1 hb9 HA68.out.2,HA68.out.2.mono hb9.size⟩
        have HO9:Hid (Own w9 (w.heap.size+2) 107 3 VtR (accI xs d t p (i+1)) u14 []):=by
         have h:=HO8.out.below (fun x cs G hk h=>zA9 _ _ x cs G hk h) hb9
         rw [accI_or HOR1.out (by omega)]
         rw [HOR2.out] at h
         exact h
        have hsz9:=Nat.le_trans hsz8 hb9.size
        clear hok hb9 z0 klt2
        cases e4:orOk xs d t p with
        |false =>
         have HFin:=jj (HBad.out w9 _ (HOrNo.out i hik HOR1.out HOR2.out HKN.out e4) HC9.out KG9.out)
         clear e4
         go_wp2
         go_ret2
         exact HFin.out
        |true =>
         have HE4:=jj e4
         clear e4
         go_wp2
         go_roundw
         case rel=>exact ⟨i+1,by omega,by go_num,HKN,(fun _ _=>HE4.out),HO9,HRW,KG9,HC9,HA9,KP9,hsz9⟩
         case measure=>(simp [intOf] <;> omega)
       ·obtain ⟨A9,cap9,rfl,h91,h92⟩:=HAV.out.form
        obtain ⟨i0,hi0,hz0,hz1,hz2⟩:=info_parts info_VtE
        have hn60:=HKN.out.fit
        have HL60:=jj (accI_len xs d t p i)
        have hpl:(accI xs d t p i).length+(varsN xs d ls[i] p.ks[i]).length≤200:=by
         have h1:=HL60.out
         have h2:=HLY.out
         have h3:=zAS p i hik
         omega
        obtain ⟨v8,w8,hrun,ho8,hg8,hr8⟩:=run_append_vars (P:=Try.prog) 33 33 i0 _ 24 Try.underlying33 hi0 hz0 hz1 hz2 rfl HO8.out HAV.out (by unfold maxLen;omega) (by omega) hsz8
        have HRUN:=jj hrun
        have hC8:=grown_chg' hg8
        have hgr8:g∉rowOf u14:=HGR.out
        have HO9:Hid (Own w8 (w.heap.size+2) 107 3 VtR (accI xs d t p (i+1)) v8 []):=by rw [HAcc.out i hik hil hor];exact ho8
        have HRW9:Hid (∀ g'∈rowOf v8,g'∉F6):=fun g' hg' hF=>by
         rcases hr8 g' hg' with h | h
         ·exact HRW.out g' h hF
         ·have:=HA68.out.2 g' hF;omega
        have KG9:=jj (HK8.out.same (hC8.block _ HK8.out.lt hgr8))
        have KP9:=jj (KP8.out.same (hC8.block _ KP8.out.lt (fun h=>by have:=(HO8.out.row _ h).1;omega)))
        have HC9:Hid (Chg [g] w w8):=zB2 HCG8.out hC8 (fun b hb=>.inr (by have:=(HO8.out.row _ hb).1;omega))
        have HA9:Hid (Arr w8 (TyR w8) ls (.slice (some ⟨b6,off6,none⟩) ls.length cap6) F6∧Under w8 F6):=⟨ArrTy.mono HA68.out.1 (hC8.kept HA68.out.2 (fun b hb h=>HRW.out b h hb)),HA68.out.2.mono hC8.size⟩
        have hsz9:=Nat.le_trans hsz8 hC8.size
        have HORn:Hid (p.op=5→1<i+1→orOk xs d t p=true):=fun h5 h1=>by
         have:=HL5.out h5
         exact absurd ⟨h5,by omega⟩ hor
        clear hrun ho8 hg8 hr8 hC8 hgr8 hi0 hz0 hz1 hz2 HAV HUV hpl hn60
        by_cases h5:p.op=5
        ·have t5:(p.op==5)=true:=by simp [h5]
         have t6:((i:Int)==1)=false:=by rw [beq_eq_false_iff_ne];intro h;exact hor ⟨h5,by omega⟩
         clear h5 hor
         go_wp2_with (at_builtin;refine Halt.mk ?_)
         refine Halt.of (zB1 rfl _ _ 33 rfl (by rfl) (by rfl) HRUN.out ?_)
         clear HRUN z0 klt2 t5
         go_wp2
         go_roundw
         case rel=>exact ⟨i+1,by omega,by go_num,HKN,HORn,HO9,HRW9,KG9,HC9,HA9,KP9,hsz9⟩
         case measure=>(simp [intOf] <;> omega)
        ·have t5:(p.op==5)=false:=by simpa using h5
         clear h5 hor
         go_wp2_with (at_builtin;refine Halt.mk ?_)
         refine Halt.of (zB1 rfl _ _ 33 rfl (by rfl) (by rfl) HRUN.out ?_)
         clear HRUN z0 klt2 t5
         go_wp2
         go_roundw
         case rel=>exact ⟨i+1,by omega,by go_num,HKN,HORn,HO9,HRW9,KG9,HC9,HA9,KP9,hsz9⟩
         case measure=>(simp [intOf] <;> omega)
     ·obtain ⟨wo,hwo⟩:∃ wo,wo=wr:=⟨_,rfl⟩
      subst hwo
      have HKE:Hid (KidsOk xs d t p c p.ks.length):=by have h:=HKI.out;rwa [show i=p.ks.length by omega] at h
      have HOE:Hid (Own wo (w.heap.size+2) 107 3 VtR (accI xs d t p p.ks.length) u14 []):=by have h:=HO.out;rwa [show i=p.ks.length by omega] at h
      have KGE:Hid (Blk wo g 3 #[.int .i64 ((c+nodesP p:Nat):Int)]):=by have h:=KG.out;rw [show i=p.ks.length by omega] at h;rwa [zAN p (zz8 _),←Nat.add_assoc]
      have HFS:=jj (HKE.out.fin (fun h5=>HOR.out h5 (by have:=HL5.out h5;omega)))
      have HRG:=jj (vars_range xs (d+1) t p HKE.out.shape)
      have HLL:=jj (varsN_len xs (d+1) t p)
      have hln60:(varsN xs (d+1) t p).length≤60:=by have h1:=HLL.out;have h2:=HKE.out.fit;have h3:=zAN p (zz8 p.ks.length);omega
      have hacc:=accI_done (xs:=xs) (d:=d) (t:=t) (p:=p) HL5.out
      rw [hacc] at HOE
      have hfinT:Hid (dupFree (varsN xs (d+1) t p)=true→∀ W,Below wo wo W→ScanPP xs (d+1) t p c g w (.returned (.tuple #[u14,.bool true])) W):=fun hd W hW=>by
       have hT:=HFS.out.trans hd
       have hO:=HOE.out.below (fun x cs G hk h=>zA9 _ _ x cs G hk h) hW
       exact ⟨u14,_,c+nodesP p,by rw [hT],HCG.out.step hW,KGE.out.same (hW.block _ KGE.out.lt),fun _=>⟨rfl,hO.arr,hO.free (Free.nil _),hO.fresh (by omega) (fun b hb=>by cases hb)⟩,fun h=>by rw [hT] at h;cases h⟩
      have hfinF:Hid (dupFree (varsN xs (d+1) t p)=false→∀ W,Below wo wo W→ScanPP xs (d+1) t p c g w (.returned (.tuple #[.slice none 0 0,.bool false])) W):=fun hd W hW=>HBad.out W _ (HFS.out.trans hd) (HCG.out.step hW) (KGE.out.same (hW.block _ KGE.out.lt))
      clear hacc HFS HLL
      generalize varsN xs (d+1) t p=L at *
      obtain ⟨oA,ocap,hov,ho1,ho2⟩:=HOE.out.form
      subst hov
      have HAL:=jj HOE.out.arr
      have HUL:Hid (Under wo (if L=[] then [] else rowOf (.slice oA L.length ocap) ++ [])):=fun b hb=>by
       split at hb
       ·cases hb
       ·exact (HOE.out.row b (by simpa using hb)).2
      generalize (if L=[] then [] else rowOf (.slice oA L.length ocap) ++ [])=FL at *
      have hbm:Below wo wo (wo.alloc (.cells #[.bool false,.bool false,.bool false,.bool false,.bool false,.bool false] 127)):=(zy2 _ _).alloc (zz8 _) _
      have KM:Hid (Blk (wo.alloc (.cells #[.bool false,.bool false,.bool false,.bool false,.bool false,.bool false] 127)) wo.heap.size 127 (metTo L 0)):=Blk.new _ _ _
      clear HO KG HRW HA6 KP HKI HOR HGR HKE HOE KGE HCG
      go_wp2
      go_loopw [101] (fun iv ws=>∃ i:Nat,i≤L.length∧iv=.int .i64 i∧Hid (∀ j (hj:j<L.length),j<i→∀ k (hk:k<L.length),k<j→L[k].var≠L[j].var)∧Hid (Blk ws wo 127 (metTo L i))∧Hid (Below wo wo ws)) (fun iv _=>L.length-(intOf iv).toNat)
      case atStart=>exact ⟨0,Nat.zero_le _,rfl,(fun j hj h=>by omega),KM,hbm⟩
      case round =>
       clear KM hbm
       obtain ⟨i,hi,rfl,HN,KM,HB⟩:=hrel
       by_cases hil:i<L.length
       ·obtain ⟨bL,offL,rfl⟩:=HAL.out.ptr (by omega)
        obtain ⟨hbL,c0,c1,c2⟩:=ArrVt.at HAL.out HUL.out HB.out i hil
        have hrg:=HRG.out L[i] (List.getElem_mem hil)
        obtain ⟨k,hk⟩:∃ k:Nat,L[i].var=(k:Int):=⟨L[i].var.toNat,by omega⟩
        have hk6:k<6:=by omega
        have HNY:=jj (fun (h:metB (L.take i) k=false)=>met_yes hil hk h)
        have HNN:=jj (fun (h:metB (L.take i) k=true)=>met_no hil hk h)
        have HMS:=jj (metTo_succ L hil hk6 hk)
        have g1:(0:Int)≤(i:Int):=by omega
        have g2:(i:Int)<(L.length:Int):=by omega
        have g3:(0:Int)≤(k:Int):=by omega
        have g4:(k:Int)<6:=by omega
        rw [hk] at c0
        have hml:=KM.out.lt
        have hBv:Below wr wr (wr.alloc (.cells #[(k:Int),L[i].ty.d,L[i].ty.i] 107)):=(zy2 _ _).alloc (zz8 _) _
        have KMv:Blk (wr.alloc (.cells #[(k:Int),L[i].ty.d,L[i].ty.i] 107)) wo.heap.size 127 (metTo L i):=KM.out.same (hBv.block _ hml)
        have m0:(wr.alloc (.cells #[(k:Int),L[i].ty.d,L[i].ty.i] 107)).cell? ⟨wo.heap.size,k,none⟩=some (.bool (metB (L.take i) k)):=(KMv.cell k).trans (metRow_get _ hk6)
        have mf0:(wr.alloc (.cells #[(k:Int),L[i].ty.d,L[i].ty.i] 107)).frozen? ⟨wo.heap.size,k,none⟩=false:=KMv.frozen k
        have n0:wr.cell? ⟨wo.heap.size,k,none⟩=some (.bool (metB (L.take i) k)):=(KM.out.cell k).trans (metRow_get _ hk6)
        have nf0:wr.frozen? ⟨wo.heap.size,k,none⟩=false:=KM.out.frozen k
        have hmlv:=KMv.lt
        have HBv:=jj (HB.out.trans (hBv.mono HB.out.size))
        have HKMv:=jj KMv
        clear hrg hk KMv
        cases hm:metB (L.take i) k with
        |true =>
         rw [hm] at m0 n0
         have HFin:=jj (hfinF.out (HNN.out hm) _ HBv.out)
         clear hm
         go_wp2
         go_ret2
         exact HFin.out
        |false =>
         rw [hm] at m0 n0
         have hny:=HNY.out hm
         have HN2:Hid (∀ j (hj:j<L.length),j<i+1→∀ k (hk:k<L.length),k<j→L[k].var≠L[j].var):=fun j hj hji=>by
          rcases Nat.lt_or_ge j i with h | h
          ·exact HN.out j hj h
          ·obtain rfl:j=i:=by omega
           exact hny
         have KM1:Blk (wr.setCell ⟨wo.heap.size,k,none⟩ (.bool true)) wo.heap.size 127 (metTo L (i+1)):=by rw [←HMS.out];exact KM.out.set_ k (.bool true)
         have KM2:Hid (Blk ((wr.setCell ⟨wo.heap.size,k,none⟩ (.bool true)).alloc (.cells #[(k:Int),L[i].ty.d,L[i].ty.i] 107)) wo.heap.size 127 (metTo L (i+1))):=KM1.same (Below.heap_alloc _ _ _ KM1.lt)
         have HB2:Hid (Below wo wo ((wr.setCell ⟨wo.heap.size,k,none⟩ (.bool true)).alloc (.cells #[(k:Int),L[i].ty.d,L[i].ty.i] 107))):=(HB.out.setCell (zz8 _) _).alloc (by have:=HB.out.size;simpa [World.setCell] using this) _
         clear KM1
         clear hm hny
         go_wp2
         go_roundw
         case rel=>exact ⟨i+1,by omega,by go_num,HN2,KM2,HB2⟩
         case measure=>(simp [intOf] <;> omega)
       ·have HFin:=jj (hfinT.out (dup_yes (fun j hj=>HN.out j hj (by omega))) _ HB.out)
        go_wp2
        go_ret2
        exact HFin.out
theorem impl_patternScan:∀ p,ScanIP p:=P.indv patternScan_of
def VarsIP (xs:List Dt) (t:Ty) (p:P) (w:World) (e:Ending) (w':World):Prop :=
 ∃ (v:Value) (F:List Nat),e=.returned (.tuple #[v,.bool (patOkB xs t p)])∧Below w w w'∧(patOkB xs t p=true→Arr w' (VtR w') (varsN xs 10 t p) v F∧Free w' F∧Fresh w w' F)∧(patOkB xs t p=false→v=.slice none 0 0)
theorem patOk_scan (xs:List Dt) (t:Ty) (p:P):scanPB xs 10 t p 0=patOkB xs t p:=by unfold scanPB patOkB;rw [Nat.zero_add]
theorem impl_patternVars (xs:List Dt) (hw:WorldOK xs) (t:Ty) (ht:TyIn xs.length t) (p:P) (w:World) (x:Value) (F:List Nat) (cs:List Value) (G:List Nat):Arr w (DtR w) xs x F→Under w F→PR w p cs G→Under w G →
  Calls Try.prog 30 #[x,.agg #[t.d,t.i],.agg cs.toArray] w (VarsIP xs t p w):=by
 intro hx hf hv hg
 obtain ⟨kv,rfl,ha⟩:=(zA4 _ _ _).1 hv
 obtain ⟨A,cap,rfl,hc1,hc2⟩:=hx.form
 obtain ⟨A4,cap4,rfl,hc3,hc4⟩:=ha.form
 have HV:=jj hv
 have HX:=jj hx
 have HF:=jj hf
 have HA:=jj ha
 have HG:=jj hg
 clear hx hf ha hg
 clear hv
 have HW:=jj hw
 have HT:=jj ht
 clear hw ht
 go_enter Try.func30,Try.ntmps30
 go_wp2_with fail
 obtain ⟨W2,hW2⟩:∃ W2,W2=(((w.alloc (.cells #[t.d,t.i] 25)).alloc (.cells #[p.op,p.ct,p.n,p.m,p.va,.slice A4 p.ks.length cap4] 28)).alloc (.cells #[(0:Int)] 3)):=⟨_,rfl⟩
 have hB0:Below w w W2:=by rw [hW2];exact (((zy2 _ _).alloc (zz8 _) _).alloc (by simp) _).alloc (by simp;omega) _
 have KG:Hid (Blk W2 (w.heap.size+2) 3 #[.int .i64 ((0:Nat):Int)]):=by
  rw [hW2]
  have h:=Blk.new ((w.alloc (.cells #[t.d,t.i] 25)).alloc (.cells #[p.op,p.ct,p.n,p.m,p.va,.slice A4 p.ks.length cap4] 28)) 3 #[(0:Int)]
  rw [show (((w.alloc (.cells #[t.d,t.i] 25)).alloc (.cells #[p.op,p.ct,p.n,p.m,p.va,.slice A4 p.ks.length cap4] 28))).heap.size=w.heap.size+2 from by simp] at h
  exact h
 rw [←hW2]
 clear hW2
 refine (impl_patternScan p xs HW.out 10 1 rfl (zz8 _) t HT.out W2 _ F _ G (w.heap.size+2) 0 (ArrDt.below HX.out hB0 HF.out) (HF.out.mono hB0.size) (HV.out.below hB0 HG.out) (HG.out.mono hB0.size) KG.out (fun h=>by have:=HF.out _ h;omega) (fun h=>by have:=HG.out _ h;omega) (by omega)).mono ?_
 rintro e w3 ⟨v3,F3,c',rfl,hC,-,hy,hn⟩
 rw [patOk_scan] at hy hn
 have hB3:=hB0.trans (hC.below (B:=w.heap.size) (fun b hb=>by rw [List.mem_singleton.1 hb];omega) hB0.size)
 have HFin:Hid (VarsIP xs t p w (.returned (.tuple #[v3,.bool (patOkB xs t p)])) w3):=⟨v3,F3,rfl,hB3,fun h=>⟨(hy h).2.1,(hy h).2.2.1,fun b hb=>⟨Nat.le_trans hB0.size ((hy h).2.2.2 b hb).1,((hy h).2.2.2 b hb).2⟩⟩,hn⟩
 rw [patOk_scan]
 generalize patOkB xs t p=bb at *
 clear hC hy hn
 go_wp2
 go_ret2
 exact HFin.out
theorem impl_patternOk (xs:List Dt) (hw:WorldOK xs) (t:Ty) (ht:TyIn xs.length t) (p:P) (_:p.size≤1048576) (w:World) (x:Value) (F:List Nat) (cs:List Value) (G:List Nat):Arr w (DtR w) xs x F→Under w F→PR w p cs G→Under w G →
  Calls Try.prog 32 #[x,.agg #[t.d,t.i],.agg cs.toArray] w fun e w'=>e=.returned (.bool (patOkB xs t p))∧Below w w w':=by
 intro hx hf hv hg
 obtain ⟨kv,rfl,ha⟩:=(zA4 _ _ _).1 hv
 obtain ⟨A,cap,rfl,hc1,hc2⟩:=hx.form
 obtain ⟨A4,cap4,rfl,hc3,hc4⟩:=ha.form
 have HV:=jj hv
 have HX:=jj hx
 have HF:=jj hf
 have HA:=jj ha
 have HG:=jj hg
 clear hx hf ha hg
 clear hv
 have HW:=jj hw
 have HT:=jj ht
 clear hw ht
 go_enter Try.func32,Try.ntmps32
 go_wp2_with fail
 obtain ⟨W2,hW2⟩:∃ W2,W2=((w.alloc (.cells #[t.d,t.i] 25)).alloc (.cells #[p.op,p.ct,p.n,p.m,p.va,.slice A4 p.ks.length cap4] 28)):=⟨_,rfl⟩
 have hB0:Below w w W2:=by rw [hW2];exact ((zy2 _ _).alloc (zz8 _) _).alloc (by simp) _
 have KT:Hid (Blk W2 w 25 #[t.d,t.i]):=by rw [hW2];exact (Blk.new w _ _).same (Below.heap_alloc _ _ _ (by simp))
 have KP:Hid (Blk W2 (w.heap.size+1) 28 #[p.op,p.ct,p.n,p.m,p.va,.slice A4 p.ks.length cap4]):=by rw [hW2];have h:=Blk.new (w.alloc (.cells #[t.d,t.i] 25)) 28 #[p.op,p.ct,p.n,p.m,p.va,.slice A4 p.ks.length cap4];rw [World.size_alloc] at h;exact h
 have hws:w.heap.size+2≤W2.heap.size:=by rw [hW2];simp
 have hws2:W2.heap.size=w.heap.size+1+1:=by rw [hW2];simp
 rw [←hW2]
 clear hW2
 refine (impl_patternVars xs HW.out t HT.out p W2 _ F _ G (ArrDt.below HX.out hB0 HF.out) (HF.out.mono hB0.size) (HV.out.below hB0 HG.out) (HG.out.mono hB0.size)).mono ?_
 rintro e w3 ⟨v3,F3,rfl,hb3,-,-⟩
 have hB3:=hB0.trans (hb3.mono hB0.size)
 generalize hbb:patOkB xs t p=bb
 have HBB:=jj hbb
 clear hb3 hbb
 go_wp2
 go_ret
 exact ⟨zA0 HBB.out.symm,hB3⟩
theorem impl_PatternValid (xs:List Dt) (t:Ty) (p:P) (hz:p.size≤1048576) (w:World) (x:Value) (F:List Nat) (cs:List Value) (G:List Nat):Arr w (DtR w) xs x F→Under w F→PR w p cs G→Under w G →
  Calls Try.prog 11 #[x,.agg #[t.d,t.i],.agg cs.toArray] w fun e w'=>e=.returned (.bool (patternValidB xs t p))∧Below w w w':=by
 intro hx hf hv hg
 obtain ⟨kv,rfl,ha⟩:=(zA4 _ _ _).1 hv
 obtain ⟨A,cap,rfl,hc1,hc2⟩:=hx.form
 obtain ⟨A4,cap4,rfl,hc3,hc4⟩:=ha.form
 have HV:=jj hv
 have HX:=jj hx
 have HF:=jj hf
 have HA:=jj ha
 have HG:=jj hg
 clear hx hf ha hg
 clear hv
 go_enter Try.func11,Try.ntmps11
 go_wp2_with fail
 obtain ⟨W2,hW2⟩:∃ W2,W2=((w.alloc (.cells #[t.d,t.i] 25)).alloc (.cells #[p.op,p.ct,p.n,p.m,p.va,.slice A4 p.ks.length cap4] 28)):=⟨_,rfl⟩
 have hB0:Below w w W2:=by rw [hW2];exact ((zy2 _ _).alloc (zz8 _) _).alloc (by simp) _
 have KT:Hid (Blk W2 w 25 #[t.d,t.i]):=by rw [hW2];exact (Blk.new w _ _).same (Below.heap_alloc _ _ _ (by simp))
 have KP:Hid (Blk W2 (w.heap.size+1) 28 #[p.op,p.ct,p.n,p.m,p.va,.slice A4 p.ks.length cap4]):=by rw [hW2];have h:=Blk.new (w.alloc (.cells #[t.d,t.i] 25)) 28 #[p.op,p.ct,p.n,p.m,p.va,.slice A4 p.ks.length cap4];rw [World.size_alloc] at h;exact h
 have hws:w.heap.size+2≤W2.heap.size:=by rw [hW2];simp
 have hws2:W2.heap.size=w.heap.size+1+1:=by rw [hW2];simp
 rw [←hW2]
 clear hW2
 obtain ⟨y0,y1,klt⟩:=KT.out.c2
 obtain ⟨z0,z1,z2,z3,z4,z5,klt2⟩:=KP.out.c6
 refine (impl_TypeValid xs t W2 _ F (ArrDt.below HX.out hB0 HF.out) (HF.out.mono hB0.size)).mono ?_
 rintro e w3 ⟨rfl,hb3⟩
 have hB3:=hB0.trans (hb3.mono hB0.size)
 have KT3:=jj (KT.out.same (hb3.block _ KT.out.lt))
 have KP3:=jj (KP.out.same (hb3.block _ KP.out.lt))
 clear y0 y1 z0 z1 z2 z3 z4 z5 klt klt2
 obtain ⟨y0,y1,klt⟩:=KT3.out.c2
 obtain ⟨z0,z1,z2,z3,z4,z5,klt2⟩:=KP3.out.c6
 clear hb3 KT KP
 cases e1:typeValidB xs t with
 |false =>
  have hf:Hid (patternValidB xs t p=false):=by unfold Hid patternValidB;rw [e1];rfl
  clear e1
  go_wp2
  go_ret
  exact ⟨zA0 hf.out.symm,hB3⟩
 |true =>
  have hf:Hid (patternValidB xs t p=patOkB xs t p):=by unfold Hid patternValidB;rw [e1];rfl
  obtain ⟨hw,hto⟩:=typeValid_split e1
  have HW:=jj hw
  have HT:=jj (zB9 hto)
  clear e1 hw hto
  go_wp2_with fail
  refine (impl_patternOk xs HW.out t HT.out p hz w3 _ F _ G (ArrDt.below HX.out hB3 HF.out) (HF.out.mono hB3.size) (HV.out.below hB3 HG.out) (HG.out.mono hB3.size)).mono ?_
  rintro e w4 ⟨rfl,hb4⟩
  have hB4:=hB3.trans (hb4.mono hB3.size)
  generalize patOkB xs t p=bb at *
  clear hb4
  go_wp2
  go_ret
  exact ⟨zA0 hf.out.symm,hB4⟩
set_option maxHeartbeats 6400000 in
theorem impl_SplitOr (xs:List Dt) (t:Ty) (p:P) (hpz:p.size≤1048576) (w:World) (x:Value) (F:List Nat) (cs:List Value) (G:List Nat) (hx:Arr w (DtR w) xs x F) (hf:Under w F) (hp:PR w p cs G) (hg:Under w G) :
  Calls Try.prog 7 #[x,.agg #[t.d,t.i],.agg cs.toArray] w (MadeSps (splitV xs t p) (splitB xs t p) w):=by
 obtain ⟨xA,xcap,rfl,-,-⟩:=hx.form
 obtain ⟨kp,rfl,hka⟩:=(zA4 _ _ _).1 hp
 obtain ⟨pA,pcap,rfl,-,-⟩:=hka.form
 clear hka
 have HX:=jj hx
 have HF:=jj hf
 have HP:=jj hp
 have HG:=jj hg
 clear hx hf hp hg
 go_enter Try.func7,Try.ntmps7
 go_wp2_with fail
 obtain ⟨w2,hw2⟩:∃ X,X=((w.alloc (.cells #[t.d,t.i] 25)).alloc (.cells #[p.op,p.ct,p.n,p.m,p.va,.slice pA p.ks.length pcap] 28)):=⟨_,rfl⟩
 have hB2:Below w w w2:=by rw [hw2];exact ((zy2 _ _).alloc (zz8 _) _).alloc (by simp) _
 have KT2:Hid (Blk w2 w 25 #[t.d,t.i]):=by rw [hw2];exact (Blk.new w _ _).same (Below.heap_alloc _ _ _ (by simp))
 have KP2:Hid (Blk w2 (w.heap.size+1) 28 #[p.op,p.ct,p.n,p.m,p.va,.slice pA p.ks.length pcap]):=by rw [hw2];exact zA8 w _ 28 _
 rw [←hw2]
 clear hw2
 obtain ⟨a0,a1,al⟩:=KT2.out.c2
 obtain ⟨c0,c1,c2,c3,c4,c5,cl⟩:=KP2.out.c6
 go_wp2_with fail
 clear a0 a1 al c0 c1 c2 c3 c4 c5 cl
 refine (impl_PatternValid xs t p hpz w2 _ F _ G (ArrDt.below HX.out hB2 HF.out) (HF.out.mono hB2.size) (HP.out.below hB2 HG.out) (HG.out.mono hB2.size)).mono ?_
 rintro e w3 ⟨rfl,hb3⟩
 have KT3:=jj (KT2.out.same (hb3.block _ KT2.out.lt))
 have KP3:=jj (KP2.out.same (hb3.block _ KP2.out.lt))
 have hB3:=hB2.trans (hb3.mono hB2.size)
 clear hB2 hb3 KT2 KP2
 cases hpv:patternValidB xs t p with
 |false =>
  have hno:splitB xs t p=false:=by unfold splitB;rw [hpv];rfl
  have HFin:Hid (MadeSps (splitV xs t p) (splitB xs t p) w (.returned (.tuple #[.slice none 0 0,.bool false])) w3):=by
   rw [splitV_no hno,hno]
   exact ⟨_,[],rfl,hB3,Arr.nil,Free.nil _,Fresh.nil _ _⟩
  clear hno hpv
  go_wp2
  go_ret2
  exact HFin.out
 |true =>
  obtain ⟨hsh,hsz⟩:=valid_shp hpv
  have HSH:=jj hsh
  have HEQ:Hid (splitB xs t p=decide ((P.spl p).length≤400)):=by unfold Hid splitB;rw [hpv];rfl
  clear hsh hpv
  obtain ⟨a0,a1,al⟩:=KT3.out.c2
  obtain ⟨c0,c1,c2,c3,c4,c5,cl⟩:=KP3.out.c6
  go_wp2_with fail
  clear a0 a1 al c0 c1 c2 c3 c4 c5 cl
  refine (impl_countSplit p w3 _ G (HP.out.below hB3 HG.out) (HG.out.mono hB3.size)).mono ?_
  rintro e w4 ⟨rfl,hb4⟩
  have KT4:=jj (KT3.out.same (hb4.block _ KT3.out.lt))
  have KP4:=jj (KP3.out.same (hb4.block _ KP3.out.lt))
  have hB4:=hB3.trans (hb4.mono hB3.size)
  have hbig:=cut4_big (P.spl p).length
  clear hb4 KT3 KP3
  by_cases hc:(P.spl p).length≤400
  ·have e3:decide ((cut4 (P.spl p).length:Int)>400)=false:=by simp;omega
   have hyes:splitB xs t p=true:=by rw [HEQ.out];exact decide_eq_true hc
   have HE:Hid (splitB xs t p=true):=hyes
   have HV:=jj (splitV_yes hyes)
   have HSM:Hid (∀ q∈P.spl p,q.size≤1048576):=fun q hq=>by have:=spl_size p q hq;omega
   clear hbig hyes
   generalize cut4 (P.spl p).length=cv at *
   obtain ⟨a0,a1,al⟩:=KT4.out.c2
   obtain ⟨c0,c1,c2,c3,c4,c5,cl⟩:=KP4.out.c6
   go_wp2_with fail
   clear a0 a1 al c0 c1 c2 c3 c4 c5 cl
   refine (impl_split p w4 _ G (HP.out.below hB4 HG.out) (HG.out.mono hB4.size) HSH.out (by omega) hc).mono ?_
   rintro e w5 ⟨v5,F5,rfl,hb5,ho5,hF5⟩
   have hB5:=hB4.trans (hb5.mono hB4.size)
   have HA5:=jj ho5.arr
   have HU5:=jj ho5.under_ifP
   clear ho5 hF5 hb5
   go_wp2_with fail
   refine (impl_ownPatterns (P.spl p) w5 _ _ HA5.out HU5.out HSM.out (by omega)).mono ?_
   rintro e w6 ⟨v6,F6,rfl,hb6,ha6,hfr6,hfs6⟩
   have HFin:Hid (MadeSps (splitV xs t p) (splitB xs t p) w (.returned (.tuple #[v6,.bool true])) w6):=by
    rw [HV.out,HE.out]
    exact ⟨v6,F6,rfl,hB5.trans (hb6.mono hB5.size),ha6,hfr6,fun b hb=>⟨Nat.le_trans hB5.size (hfs6 b hb).1,(hfs6 b hb).2⟩⟩
   clear hb6 ha6 hfr6 hfs6
   go_wp2
   go_ret2
   exact HFin.out
  ·have e3:decide ((cut4 (P.spl p).length:Int)>400)=true:=by simp;omega
   have hno:splitB xs t p=false:=by rw [HEQ.out];exact decide_eq_false hc
   have HFin:Hid (MadeSps (splitV xs t p) (splitB xs t p) w (.returned (.tuple #[.slice none 0 0,.bool false])) w4):=by
    rw [splitV_no hno,hno]
    exact ⟨_,[],rfl,hB4,Arr.nil,Free.nil _,Fresh.nil _ _⟩
   clear hbig hc hno
   generalize cut4 (P.spl p).length=cv at *
   go_wp2
   go_ret2
   exact HFin.out
set_option maxHeartbeats 6400000 in
theorem spec_l3Copy_of (p:P) (ih:∀ k∈p.ks,CopyP 60 k):CopyP 60 p:=by
 intro w cs G hv hg hz
 obtain ⟨kv,rfl,ha⟩:=(zA4 _ _ _).1 hv
 obtain ⟨A4,cap4,rfl,hc3,hc4⟩:=ha.form
 obtain ⟨i0,hi,hz0,hz1,hz2⟩:=info_parts info_PE
 have IH:=jj ih
 have HI:=jj hi
 have HZ0:=jj hz0
 have HZ1:=jj hz1
 have HZ2:=jj hz2
 have HA:=jj ha
 have HG:=jj hg
 clear hi hz0 hz1 hz2 ha hg
 have hzk:P.sizes p.ks≤1048576:=by obtain ⟨op,ct,n,m,va,ks⟩:=p;exact hz
 have hkl:p.ks.length≤1048576:=by rw [P.sizes_eq] at hzk;omega
 have HZ:=jj hzk
 clear ih hv hz hzk
 have hB0:Below w w (((w.alloc (.cells #[p.op,p.ct,p.n,p.m,p.va,.slice A4 p.ks.length cap4] 28)).alloc (.cells #[(0:Int),(0:Int),(0:Int),(0:Int),(0:Int),.slice none 0 0] 28)).alloc (.cells #[p.op,p.ct,p.n,p.m,p.va,.slice none 0 0] 28)):=(((zy2 _ _).alloc (zz8 _) _).alloc (by simp) _).alloc (by simp;omega) _
 have K0:Hid (Blk (((w.alloc (.cells #[p.op,p.ct,p.n,p.m,p.va,.slice A4 p.ks.length cap4] 28)).alloc (.cells #[(0:Int),(0:Int),(0:Int),(0:Int),(0:Int),.slice none 0 0] 28)).alloc (.cells #[p.op,p.ct,p.n,p.m,p.va,.slice none 0 0] 28)) (w.heap.size+2) 28 #[p.op,p.ct,p.n,p.m,p.va,.slice none 0 0]):=by
  have h:=Blk.new ((w.alloc (.cells #[p.op,p.ct,p.n,p.m,p.va,.slice A4 p.ks.length cap4] 28)).alloc (.cells #[(0:Int),(0:Int),(0:Int),(0:Int),(0:Int),.slice none 0 0] 28)) 28 #[p.op,p.ct,p.n,p.m,p.va,.slice none 0 0]
  rw [show ((w.alloc (.cells #[p.op,p.ct,p.n,p.m,p.va,.slice A4 p.ks.length cap4] 28)).alloc (.cells #[(0:Int),(0:Int),(0:Int),(0:Int),(0:Int),.slice none 0 0] 28)).heap.size=w.heap.size+2 from by simp] at h
  exact h
 have R0:Hid (Blk (((w.alloc (.cells #[p.op,p.ct,p.n,p.m,p.va,.slice A4 p.ks.length cap4] 28)).alloc (.cells #[(0:Int),(0:Int),(0:Int),(0:Int),(0:Int),.slice none 0 0] 28)).alloc (.cells #[p.op,p.ct,p.n,p.m,p.va,.slice none 0 0] 28)) (w.heap.size+1) 28 #[(0:Int),(0:Int),(0:Int),(0:Int),(0:Int),.slice none 0 0]):=(zA8 w _ 28 #[(0:Int),(0:Int),(0:Int),(0:Int),(0:Int),.slice none 0 0]).same (Below.heap_alloc _ _ _ (by simp))
 have V0:Hid (Blk (((w.alloc (.cells #[p.op,p.ct,p.n,p.m,p.va,.slice A4 p.ks.length cap4] 28)).alloc (.cells #[(0:Int),(0:Int),(0:Int),(0:Int),(0:Int),.slice none 0 0] 28)).alloc (.cells #[p.op,p.ct,p.n,p.m,p.va,.slice none 0 0] 28)) w.heap.size 28 #[p.op,p.ct,p.n,p.m,p.va,.slice A4 p.ks.length cap4]):=((Blk.new w _ _).same (Below.heap_alloc _ _ _ (by simp))).same (Below.heap_alloc _ _ _ (by simp;omega))
 have hs0:(((w.alloc (.cells #[p.op,p.ct,p.n,p.m,p.va,.slice A4 p.ks.length cap4] 28)).alloc (.cells #[(0:Int),(0:Int),(0:Int),(0:Int),(0:Int),.slice none 0 0] 28)).alloc (.cells #[p.op,p.ct,p.n,p.m,p.va,.slice none 0 0] 28)).heap.size=w.heap.size+2+1:=by simp
 go_enter Try.func60,Try.ntmps60
 go_wp2_with fail
 obtain ⟨w9,hw9⟩:∃ w9,w9=(((w.alloc (.cells #[p.op,p.ct,p.n,p.m,p.va,.slice A4 p.ks.length cap4] 28)).alloc (.cells #[(0:Int),(0:Int),(0:Int),(0:Int),(0:Int),.slice none 0 0] 28)).alloc (.cells #[p.op,p.ct,p.n,p.m,p.va,.slice none 0 0] 28)):=⟨_,rfl⟩
 rw [←hw9] at hB0 K0 V0 R0 hs0 ⊢
 clear hw9
 obtain ⟨-,-,-,-,-,y2,vlt⟩:=V0.out.c6
 go_wp2
 clear y2 vlt
 go_loopw [4] (fun iv wr=>∃ i:Nat,∃ kv:Value,∃ Fk:List Nat,i≤p.ks.length∧iv=.int .i64 i∧Hid (Blk wr (w.heap.size+2) 28 #[p.op,p.ct,p.n,p.m,p.va,kv])∧Hid (Own wr (w.heap.size+2+1) 28 6 PR (kipTo p.ks i) kv Fk)∧Hid (Free wr Fk)∧Hid (∀ b∈Fk,w.heap.size+2+1≤b)∧Hid (Chg [w.heap.size+2] w9 wr)∧Below w w wr∧w9.heap.size≤wr.heap.size) (fun iv _=>p.ks.length-(intOf iv).toNat)
 case atStart=>exact ⟨0,_,[],Nat.zero_le _,rfl,K0,(show Own _ _ _ _ _ (kipTo p.ks 0) _ _ from Own.nil _ _ _ _ _),Free.nil _,(fun b hb=>by cases hb),Chg.refl _ _,hB0,zz8 _⟩
 case round =>
  clear hB0 K0
  obtain ⟨i,kv,Fk,hi,rfl,KD,HO,HFk,HFh,HC,hB,hws⟩:=hrel
  obtain ⟨kA,kcap,hkv,hkc1,hkc2⟩:=HO.out.form
  subst hkv
  have klt:=KD.out.lt
  have V9:=jj (V0.out.same (HC.out.block _ V0.out.lt (by simp)))
  obtain ⟨-,-,-,-,-,y2,-⟩:=V9.out.c6
  have vlt:w.heap.size<wr.drew.heap.size:=V9.out.lt
  by_cases hil:i<p.ks.length
  ·obtain ⟨b4,off4,rfl⟩:=HA.out.ptr (by omega)
   have hb4w:b4<w.heap.size:=by obtain ⟨_,_,_,_,e,hb,-⟩:=HA.out.get PR_len hil;cases e;exact HG.out _ hb
   obtain ⟨A7,cap7,G7,hb7,k0,k1,k2,k3,k4,k5,HV7,HG7,-,-,-⟩:=ArrP.at HA.out HG.out hB i hil
   have g1:(0:Int)≤(i:Int):=by omega
   have g2:(i:Int)<(p.ks.length:Int):=by omega
   have hkk:=kipTo_len p.ks i
   have HKS:Hid (p.ks[i].size≤1048576):=by have h1:=P.sizes_mem2 p.ks i hil;have h2:=HZ.out;unfold Hid;omega
   have hmx:(kipTo p.ks i).length+1≤maxLen:=by unfold maxLen;omega
   have hby:((kipTo p.ks i).length+1)*64≤140737488355328:=by omega
   have zT:wr.drew.cell? ⟨w.heap.size+2,5,none⟩=some (.slice kA (kipTo p.ks i).length kcap):=(KD.out.cell 5).trans (by simp)
   have zfT:wr.drew.frozen? ⟨w.heap.size+2,5,none⟩=false:=KD.out.frozen 5
   have hkT:w.heap.size+2<wr.drew.heap.size:=klt
   have hb7':b4<wr.drew.heap.size:=hb7
   have HBk:Hid (Below wr wr wr.drew):=(zy2 _ _).drew
   have HCALL:=jj (IH.out p.ks[i] (List.getElem_mem hil) wr.drew _ G7 (HV7.out.below hB.drew HG7.out) (HG7.out.mono hB.drew.size) HKS.out)
   go_wp2_with fail
   refine zA6 (S:=fun w'=>w'.cell? ⟨w,5,none⟩=some (.slice (some ⟨b4,off4,none⟩) p.ks.length cap4)∧w'.cell? ⟨b4,off4+i*6,none⟩=p.ks[i].op∧w'.cell? ⟨b4,off4+i*6+1,none⟩=p.ks[i].ct∧w'.cell? ⟨b4,off4+i*6+2,none⟩=p.ks[i].n∧w'.cell? ⟨b4,off4+i*6+3,none⟩=p.ks[i].m∧w'.cell? ⟨b4,off4+i*6+4,none⟩=p.ks[i].va∧w'.cell? ⟨b4,off4+i*6+5,none⟩=some (.slice A7 p.ks[i].ks.length cap7)) (T:=fun w'=>w'.cell? ⟨w.heap.size+2,5,none⟩=some (.slice kA (kipTo p.ks i).length kcap)) (d:=9) (by kernel_rfl) ?_
   have hS1:wr.drew.cell? ⟨w,5,none⟩=some (.slice (some ⟨b4,off4,none⟩) p.ks.length cap4)∧wr.drew.cell? ⟨b4,off4+i*6,none⟩=p.ks[i].op∧wr.drew.cell? ⟨b4,off4+i*6+1,none⟩=p.ks[i].ct∧wr.drew.cell? ⟨b4,off4+i*6+2,none⟩=p.ks[i].n∧wr.drew.cell? ⟨b4,off4+i*6+3,none⟩=p.ks[i].m∧wr.drew.cell? ⟨b4,off4+i*6+4,none⟩=p.ks[i].va∧wr.drew.cell? ⟨b4,off4+i*6+5,none⟩=some (.slice A7 p.ks[i].ks.length cap7):=⟨y2,k0,k1,k2,k3,k4,k5⟩
   have hT1:wr.drew.cell? ⟨w.heap.size+2,5,none⟩=some (.slice kA (kipTo p.ks i).length kcap):=zT
   refine wV 0 rfl hS1 hT1 ?_
   (try simp only [Act.put,zz4,zz5,zz6])
   refine zAM (i:=1) (v:=?_) rfl (by decide) rfl (by kernel_rfl) (by kernel_rfl) (by kernel_rfl) (by kernel_rfl) (fun _ _ _ h=>h) (Or.inl ⟨by rfl,?hy1⟩) (by rfl) hS1 hT1 ?_
   case hy1=>(intro W hSw;(try dsimp only at hSw);(obtain ⟨⟨s0,s1,s2,s3,s4,s5,s6⟩,tT⟩:=hSw);go_simp;try with_reducible rfl)
   (try simp only [Act.put,zz4,zz5,zz6])
   refine wV 2 rfl hS1 hT1 ?_
   (try simp only [Act.put,zz4,zz5,zz6])
   refine wV 3 rfl hS1 hT1 ?_
   (try simp only [Act.put,zz4,zz5,zz6])
   refine wV 4 rfl hS1 hT1 ?_
   (try simp only [Act.put,zz4,zz5,zz6])
   refine wV 5 rfl hS1 hT1 ?_
   (try simp only [Act.put,zz4,zz5,zz6])
   refine wV 6 rfl hS1 hT1 ?_
   (try simp only [Act.put,zz4,zz5,zz6])
   refine w1 7 rfl fun K hK=>?_
   go_simp
   go_at_call 60
   with_reducible refine HCALL.out.mono ?_
   rintro e wA ⟨csA,FA,rfl,hbA,hpA,hfrA,hfsA⟩
   obtain ⟨kvA,rfl,haA⟩:=(zA4 _ _ _).1 hpA
   obtain ⟨A8,cap8,rfl,-,-⟩:=haA.form
   clear haA
   have HBu:=jj (HBk.out.trans (hbA.mono HBk.out.size))
   have HPA:=jj hpA
   have HFrA:=jj hfrA
   have HFsA:Hid (∀ b∈FA,wr.heap.size≤b∧b<wA.heap.size):=fun b hb=>⟨Nat.le_trans HBk.out.size (hfsA b hb).1,(hfsA b hb).2⟩
   have HOA:Hid (Own wA (w.heap.size+2+1) 28 6 PR (kipTo p.ks i) (.slice kA (kipTo p.ks i).length kcap) Fk):=HO.out.below (fun x cs G hk h=>PR_mono' _ _ x cs G hk h) HBu.out
   have hbs:w.heap.size+2+1≤wA.heap.size:=by have:=HBu.out.size;omega
   have hSA:wA.cell? ⟨w,5,none⟩=some (.slice (some ⟨b4,off4,none⟩) p.ks.length cap4)∧wA.cell? ⟨b4,off4+i*6,none⟩=p.ks[i].op∧wA.cell? ⟨b4,off4+i*6+1,none⟩=p.ks[i].ct∧wA.cell? ⟨b4,off4+i*6+2,none⟩=p.ks[i].n∧wA.cell? ⟨b4,off4+i*6+3,none⟩=p.ks[i].m∧wA.cell? ⟨b4,off4+i*6+4,none⟩=p.ks[i].va∧wA.cell? ⟨b4,off4+i*6+5,none⟩=some (.slice A7 p.ks[i].ks.length cap7):=⟨(hbA.cell (p:=⟨w,5,none⟩) vlt).trans y2,(hbA.cell (p:=⟨b4,off4+i*6,none⟩) hb7').trans k0,(hbA.cell (p:=⟨b4,off4+i*6+1,none⟩) hb7').trans k1,(hbA.cell (p:=⟨b4,off4+i*6+2,none⟩) hb7').trans k2,(hbA.cell (p:=⟨b4,off4+i*6+3,none⟩) hb7').trans k3,(hbA.cell (p:=⟨b4,off4+i*6+4,none⟩) hb7').trans k4,(hbA.cell (p:=⟨b4,off4+i*6+5,none⟩) hb7').trans k5⟩
   have zA:wA.cell? ⟨w.heap.size+2,5,none⟩=some (.slice kA (kipTo p.ks i).length kcap):=(hbA.cell (p:=⟨w.heap.size+2,5,none⟩) hkT).trans zT
   have zfA:wA.frozen? ⟨w.heap.size+2,5,none⟩=false:=(hbA.frozen hkT).trans zfT
   have hkA:w.heap.size+2<wA.heap.size:=zz9 hkT hbA.size
   have kl0:w.heap.size<wA.heap.size:=zz9 vlt hbA.size
   have kl1:b4<wA.heap.size:=zz9 hb7' hbA.size
   have kl2:b4<wA.heap.size:=zz9 hb7' hbA.size
   have kl3:b4<wA.heap.size:=zz9 hb7' hbA.size
   have kl4:b4<wA.heap.size:=zz9 hb7' hbA.size
   have kl5:b4<wA.heap.size:=zz9 hb7' hbA.size
   have kl6:b4<wA.heap.size:=zz9 hb7' hbA.size
   have hSB:(wA.alloc (.cells [.int .i64 p.ks[i].op,.int .i64 p.ks[i].ct,.int .i64 p.ks[i].n,.int .i64 p.ks[i].m,.int .i64 p.ks[i].va,.slice A8 p.ks[i].ks.length cap8].toArray 28)).cell? ⟨w,5,none⟩=some (.slice (some ⟨b4,off4,none⟩) p.ks.length cap4)∧(wA.alloc (.cells [.int .i64 p.ks[i].op,.int .i64 p.ks[i].ct,.int .i64 p.ks[i].n,.int .i64 p.ks[i].m,.int .i64 p.ks[i].va,.slice A8 p.ks[i].ks.length cap8].toArray 28)).cell? ⟨b4,off4+i*6,none⟩=p.ks[i].op∧(wA.alloc (.cells [.int .i64 p.ks[i].op,.int .i64 p.ks[i].ct,.int .i64 p.ks[i].n,.int .i64 p.ks[i].m,.int .i64 p.ks[i].va,.slice A8 p.ks[i].ks.length cap8].toArray 28)).cell? ⟨b4,off4+i*6+1,none⟩=p.ks[i].ct∧(wA.alloc (.cells [.int .i64 p.ks[i].op,.int .i64 p.ks[i].ct,.int .i64 p.ks[i].n,.int .i64 p.ks[i].m,.int .i64 p.ks[i].va,.slice A8 p.ks[i].ks.length cap8].toArray 28)).cell? ⟨b4,off4+i*6+2,none⟩=p.ks[i].n∧(wA.alloc (.cells [.int .i64 p.ks[i].op,.int .i64 p.ks[i].ct,.int .i64 p.ks[i].n,.int .i64 p.ks[i].m,.int .i64 p.ks[i].va,.slice A8 p.ks[i].ks.length cap8].toArray 28)).cell? ⟨b4,off4+i*6+3,none⟩=p.ks[i].m∧(wA.alloc (.cells [.int .i64 p.ks[i].op,.int .i64 p.ks[i].ct,.int .i64 p.ks[i].n,.int .i64 p.ks[i].m,.int .i64 p.ks[i].va,.slice A8 p.ks[i].ks.length cap8].toArray 28)).cell? ⟨b4,off4+i*6+4,none⟩=p.ks[i].va∧(wA.alloc (.cells [.int .i64 p.ks[i].op,.int .i64 p.ks[i].ct,.int .i64 p.ks[i].n,.int .i64 p.ks[i].m,.int .i64 p.ks[i].va,.slice A8 p.ks[i].ks.length cap8].toArray 28)).cell? ⟨b4,off4+i*6+5,none⟩=some (.slice A7 p.ks[i].ks.length cap7):=⟨(World.cell?_alloc_lt _ _ _ kl0).trans hSA.1,(World.cell?_alloc_lt _ _ _ kl1).trans hSA.2.1,(World.cell?_alloc_lt _ _ _ kl2).trans hSA.2.2.1,(World.cell?_alloc_lt _ _ _ kl3).trans hSA.2.2.2.1,(World.cell?_alloc_lt _ _ _ kl4).trans hSA.2.2.2.2.1,(World.cell?_alloc_lt _ _ _ kl5).trans hSA.2.2.2.2.2.1,(World.cell?_alloc_lt _ _ _ kl6).trans hSA.2.2.2.2.2.2⟩
   dsimp only
   refine hK.out _ _ hSA (fun _=>zA) ?_
   clear hK K
   (try simp only [Act.put,zz4,zz5,zz6])
   refine w1 8 rfl fun K hK=>?_
   go_simp
   refine hK.out _ _ hSB (fun _=>(World.cell?_alloc_lt _ _ _ hkA).trans zA) ?_
   clear hK K
   (try simp only [Act.put,zz4,zz5,zz6])
   refine w1 9 rfl fun K hK=>?_
   refine zAF (P:=Try.prog) rfl _ _ 26 rfl i0 _ 64 Try.underlying26 HI.out HZ0.out HZ1.out HZ2.out rfl (by decide) PR_len' PR_mono' (by rfl) HOA.out p.ks[i] 28 [p.ks[i].op,p.ks[i].ct,p.ks[i].n,p.ks[i].m,p.ks[i].va,.slice A8 p.ks[i].ks.length cap8] FA wA.heap.size (by rfl) rfl (by simp [Value.oneCell']) HPA.out (fun b hb=>(HFsA.out b hb).2) (fun g hg hG=>Nat.lt_irrefl _ (zz9 (HO.out.row g hg).2 (HFsA.out g hG).1)) hmx hby hbs ?_
   intro g cp w7 hown7 hgr7 hat7
   have hrow7:=HOA.out.row
   have n7:∀ x,(x<w.heap.size+2+1∨wr.heap.size≤x)→some x≠(Value.ownBlock (.slice kA (kipTo p.ks i).length kcap)):=fun x hx e=>by
    have h1:=(hrow7 x (zA1.2 e.symm)).1
    have h2:=(HO.out.row x (zA1.2 e.symm)).2
    omega
   have l7:wA.heap.size≤(wA.alloc (.cells [.int .i64 p.ks[i].op,.int .i64 p.ks[i].ct,.int .i64 p.ks[i].n,.int .i64 p.ks[i].m,.int .i64 p.ks[i].va,.slice A8 p.ks[i].ks.length cap8].toArray 28)).heap.size:=by rw [World.size_alloc];exact Nat.le_succ _
   have s7:w7.cell? ⟨w,5,none⟩=some (.slice (some ⟨b4,off4,none⟩) p.ks.length cap4)∧w7.cell? ⟨b4,off4+i*6,none⟩=p.ks[i].op∧w7.cell? ⟨b4,off4+i*6+1,none⟩=p.ks[i].ct∧w7.cell? ⟨b4,off4+i*6+2,none⟩=p.ks[i].n∧w7.cell? ⟨b4,off4+i*6+3,none⟩=p.ks[i].m∧w7.cell? ⟨b4,off4+i*6+4,none⟩=p.ks[i].va∧w7.cell? ⟨b4,off4+i*6+5,none⟩=some (.slice A7 p.ks[i].ks.length cap7):=⟨(World.grownBy.cell_far hgr7 ⟨w,5,none⟩ (zz9 kl0 l7) (n7 (w.heap.size) (by omega))).trans hSB.1,(World.grownBy.cell_far hgr7 ⟨b4,off4+i*6,none⟩ (zz9 kl1 l7) (n7 (b4) (by omega))).trans hSB.2.1,(World.grownBy.cell_far hgr7 ⟨b4,off4+i*6+1,none⟩ (zz9 kl2 l7) (n7 (b4) (by omega))).trans hSB.2.2.1,(World.grownBy.cell_far hgr7 ⟨b4,off4+i*6+2,none⟩ (zz9 kl3 l7) (n7 (b4) (by omega))).trans hSB.2.2.2.1,(World.grownBy.cell_far hgr7 ⟨b4,off4+i*6+3,none⟩ (zz9 kl4 l7) (n7 (b4) (by omega))).trans hSB.2.2.2.2.1,(World.grownBy.cell_far hgr7 ⟨b4,off4+i*6+4,none⟩ (zz9 kl5 l7) (n7 (b4) (by omega))).trans hSB.2.2.2.2.2.1,(World.grownBy.cell_far hgr7 ⟨b4,off4+i*6+5,none⟩ (zz9 kl6 l7) (n7 (b4) (by omega))).trans hSB.2.2.2.2.2.2⟩
   have z71:w7.cell? ⟨w.heap.size+2,5,none⟩=some (.slice kA (kipTo p.ks i).length kcap):=(World.grownBy.cell_far hgr7 ⟨w.heap.size+2,5,none⟩ (zz9 hkA l7) (n7 (w.heap.size+2) (by omega))).trans ((World.cell?_alloc_lt _ _ _ hkA).trans zA)
   have zf71:w7.frozen? ⟨w.heap.size+2,5,none⟩=false:=(World.grownBy.frozen_far hgr7 ⟨w.heap.size+2,5,none⟩ (zz9 hkA l7) (n7 (w.heap.size+2) (by omega))).trans (Eq.trans (World.frozen?_of_block (Below.heap_alloc _ _ _ hkA)) zfA)
   refine hK.out _ _ s7 (fun h=>by cases h) ?_
   clear hK K
   (try simp only [Act.put,zz4,zz5,zz6])
   refine wU (i:=10) (v:=?_) rfl (Or.inl ⟨by rfl,?hy10⟩) s7 (fun h=>by cases h) ?_
   case hy10=>(intro W hSw;(try dsimp only at hSw);(obtain ⟨s0,s1,s2,s3,s4,s5,s6⟩:=hSw);go_simp;try with_reducible rfl)
   (try simp only [Act.put,zz4,zz5,zz6])
   refine w1 11 rfl fun K hK=>?_
   go_simp
   refine hK.out _ _ ⟨(World.cell?_setCell_far _ _ _ _ (by show w.heap.size+2≠w.heap.size;omega)).trans s7.1,(World.cell?_setCell_far _ _ _ _ (by show w.heap.size+2≠b4;omega)).trans s7.2.1,(World.cell?_setCell_far _ _ _ _ (by show w.heap.size+2≠b4;omega)).trans s7.2.2.1,(World.cell?_setCell_far _ _ _ _ (by show w.heap.size+2≠b4;omega)).trans s7.2.2.2.1,(World.cell?_setCell_far _ _ _ _ (by show w.heap.size+2≠b4;omega)).trans s7.2.2.2.2.1,(World.cell?_setCell_far _ _ _ _ (by show w.heap.size+2≠b4;omega)).trans s7.2.2.2.2.2.1,(World.cell?_setCell_far _ _ _ _ (by show w.heap.size+2≠b4;omega)).trans s7.2.2.2.2.2.2⟩ (fun h=>by cases h) ?_
   clear hK K
   (try simp only [Act.put,zz4,zz5,zz6])
   refine wE (by kernel_rfl) ?_
   have HF2:=jj (kipTo_succ p.ks i hil)
   obtain ⟨r1,r2,r3,r4,r5,r6,r7⟩:=kid_round2 5 PR_mono' hs0 (by omega) KD.out HO.out HFk.out HFh.out HC.out hB (by omega) (zz8 _) HBu.out HFrA.out HFsA.out hown7 hgr7
   have R1:=jj r1
   have R2:=jj r2
   have R3:=jj r3
   have R4:=jj r4
   have R5:=jj r5
   have R6:=jj r6
   clear r1 r2 r3 r4 r5 r6 hown7 hgr7 hat7 hrow7 n7 l7 s7 z71 zf71 hSA zA zfA hkA hSB hS1 hT1 zT zfT hkT HCALL
   go_wp2
   go_roundw
   case rel=>exact ⟨i+1,_,_,hil,by go_num,R1,by rw [HF2.out];exact R2.out,R3,R4,R5,R6.out,r7⟩
   case measure=>(simp [intOf] <;> omega)
  ·have HO2:=HO.out
   rw [kipTo_all p.ks (by omega)] at HO2
   have hln:=congrArg List.length (kipTo_all p.ks (i:=i) (by omega))
   obtain ⟨FF,hf1,hf2,hf3⟩:=kid_done (H:=w.heap.size+2+1) HO2 HFk.out HFh.out (zz8 _)
   have HF1:=jj hf1
   have HF2:=jj hf2
   have HF3:=jj hf3
   have e0:=(KD.out.cell 0).trans (show _=some (.int .i64 p.op) from by simp)
   have e1:=(KD.out.cell 1).trans (show _=some (.int .i64 p.ct) from by simp)
   have e2:=(KD.out.cell 2).trans (show _=some (.int .i64 p.n) from by simp)
   have e3:=(KD.out.cell 3).trans (show _=some (.int .i64 p.m) from by simp)
   have e4:=(KD.out.cell 4).trans (show _=some (.int .i64 p.va) from by simp)
   have e5:=(KD.out.cell 5).trans (show _=some (.slice kA (kipTo p.ks i).length kcap) from by simp)
   have HLN:=jj hln
   have RR:=jj (R0.out.same (HC.out.block _ R0.out.lt (by simp)))
   have rlt:=RR.out.lt
   have rc0:=(RR.out.cell 0).trans (show _=some (.int .i64 0) from by simp)
   have rf0:=RR.out.frozen 0
   have rc1:=(RR.out.cell 1).trans (show _=some (.int .i64 0) from by simp)
   have rf1:=RR.out.frozen 1
   have rc2:=(RR.out.cell 2).trans (show _=some (.int .i64 0) from by simp)
   have rf2:=RR.out.frozen 2
   have rc3:=(RR.out.cell 3).trans (show _=some (.int .i64 0) from by simp)
   have rf3:=RR.out.frozen 3
   have rc4:=(RR.out.cell 4).trans (show _=some (.int .i64 0) from by simp)
   have rf4:=RR.out.frozen 4
   have rc5:=(RR.out.cell 5).trans (show _=some (.slice none 0 0) from by simp)
   have rf5:=RR.out.frozen 5
   clear hf1 hf2 hf3 HO2 hln
   go_wp2
   clear e0 e1 e2 e3 e4 e5 rc0 rf0 rc1 rf1 rc2 rf2 rc3 rf3 rc4 rf4 rc5 rf5
   refine bodyPost_ret (zA2 rfl _ _ (w.heap.size+1) 28 #[p.op,p.ct,p.n,p.m,p.va,.slice kA (kipTo p.ks i).length kcap] (0,0) _ rfl (RR.out.six _ _ _ _ _ _) Try.underlying28 rfl rfl) rfl ?_
   have hkp:Kept FF wr _:=zAI (w:=wr) (H:=w.heap.size+1) (fun b hb=>by have:=(HF3.out b hb).1;omega) (.int .i64 p.op) (.int .i64 p.ct) (.int .i64 p.n) (.int .i64 p.m) (.int .i64 p.va) (.slice kA (kipTo p.ks i).length kcap)
   refine ⟨[p.op,p.ct,p.n,p.m,p.va,.slice kA (kipTo p.ks i).length kcap],FF,rfl,below_six hB (by omega) _ _ _ _ _ _,?_,HF2.out.kept hkp,fun b hb=>⟨by have:=(HF3.out b hb).1;omega,?_⟩⟩
   ·exact (zA4 _ _ _).2 ⟨_,rfl,ArrP.mono (by rw [HLN.out];exact HF1.out) hkp⟩
   ·rw [zAJ];exact (HF3.out b hb).2
theorem spec_l3Copy:∀ p,CopyP 60 p:=P.indv spec_l3Copy_of
set_option maxHeartbeats 6400000 in
theorem spec_l3All (ps:List P):OwnPs 28 ps:=by
 intro w x F hx hf hz hl
 obtain ⟨A4,cap4,rfl,hc3,hc4⟩:=hx.form
 obtain ⟨i0,hi,hz0,hz1,hz2⟩:=info_parts info_PE
 have HZ:=jj hz
 clear hz
 have HI:=jj hi
 have HZ0:=jj hz0
 have HZ1:=jj hz1
 have HZ2:=jj hz2
 have HX:=jj hx
 have HF:=jj hf
 clear hi hz0 hz1 hz2 hx hf
 go_enter Try.func28,Try.ntmps28
 go_wp2_with fail
 have HO0:Hid (Own (w.alloc (.cells #[] 28)) w.heap.size 28 6 PR (kipTo ps 0) (.slice (some ⟨w,0,none⟩) 0 0) []):=(show Own _ _ _ _ _ [] _ _ from Own.made w _ _ _ _ _ 0 (zz8 _) (by simp [maxLen]) rfl)
 have hB0:Below w w (w.alloc (.cells #[] 28)):=(zy2 _ _).alloc (zz8 _) _
 generalize w.alloc (.cells #[] 28)=w1 at *
 go_loopw [3,4] (fun ov iv wr=>∃ i:Nat,∃ Fo:List Nat,i≤ps.length∧iv=.int .i64 i∧Hid (Own wr w.heap.size 28 6 PR (kipTo ps i) ov Fo)∧Hid (Free wr Fo)∧Hid (∀ b∈Fo,w.heap.size≤b)∧Below w w wr) (fun _ iv _=>ps.length-(intOf iv).toNat)
 case atStart=>exact ⟨0,[],Nat.zero_le _,rfl,HO0.out,Free.nil _,(fun b hb=>by cases hb),hB0⟩
 case round =>
  clear HO0 hB0
  obtain ⟨i,Fo,hi,rfl,HO,HFr,HFo,hB⟩:=hrel
  obtain ⟨oA,ocap,hov,-,-⟩:=HO.out.form
  subst hov
  have hkk:=kipTo_len ps i
  by_cases hil:i<ps.length
  ·obtain ⟨b4,off4,rfl⟩:=HX.out.ptr (by omega)
   obtain ⟨A7,cap7,G7,hb7,k0,k1,k2,k3,k4,k5,HV7,HG7,-,-,-⟩:=ArrP.at HX.out HF.out hB i hil
   have g1:(0:Int)≤(i:Int):=by omega
   have g2:(i:Int)<(ps.length:Int):=by omega
   have HKS:=jj (HZ.out ps[i] (List.getElem_mem hil))
   have HF2:=jj (kipTo_succ ps i hil)
   have hmx:(kipTo ps i).length+1≤maxLen:=by unfold maxLen;omega
   have hby:((kipTo ps i).length+1)*64≤140737488355328:=by omega
   obtain ⟨q,hq⟩:∃ u,u=ps[i]:=⟨_,rfl⟩
   rw [←hq] at k0 k1 k2 k3 k4 k5 HV7 HKS HF2
   clear hq
   go_wp2_with fail
   refine (spec_l3Copy q wr _ G7 (HV7.out.below hB HG7.out) (HG7.out.mono hB.size) HKS.out).mono ?_
   rintro e wA ⟨csA,FA,rfl,hbA,hpA,hfrA,hfsA⟩
   obtain ⟨kvA,rfl,haA⟩:=(zA4 _ _ _).1 hpA
   obtain ⟨A8,cap8,rfl,-,-⟩:=haA.form
   clear haA k0 k1 k2 k3 k4 k5 hb7
   have HBA:=jj (hB.trans (hbA.mono hB.size))
   have HOA:=jj (HO.out.below (fun x cs G hk h=>PR_mono' _ _ x cs G hk h) hbA)
   have HPA:=jj hpA
   have HFrA:Hid (Free wA (Fo ++ FA)):=free_app (HFr.out.kept (.of_below hbA HO.out.under)) hfrA (fun b hb hG=>by have h1:=HO.out.under b hb;have h2:=(hfsA b hG).1;omega)
   have HFsA:Hid (∀ b∈FA,wr.heap.size≤b∧b<wA.heap.size):=fun b hb=>hfsA b hb
   have HFO2:Hid (∀ b∈Fo ++ FA,w.heap.size≤b):=fun b hb=>by
    rcases List.mem_append.1 hb with h | h
    ·exact HFo.out b h
    ·exact Nat.le_trans hB.size (HFsA.out b h).1
   have HRW:Hid (∀ g∈rowOf (.slice oA (kipTo ps i).length ocap),g∉Fo ++ FA∧w.heap.size≤g):=fun g hg=>⟨fun h=>by
    rcases List.mem_append.1 h with h | h
    ·exact HO.out.apart g hg h
    ·exact Nat.lt_irrefl _ (zz9 (HO.out.row g hg).2 (HFsA.out g h).1),(HO.out.row g hg).1⟩
   have HUA:Hid (Under wA (Fo ++ FA)):=fun b hb=>by
    rcases List.mem_append.1 hb with h | h
    ·exact zz9 (HO.out.under b h) hbA.size
    ·exact (HFsA.out b h).2
   have hbs:=HBA.out.size
   clear hbA hpA hfrA hfsA hB
   go_wp2_with (at_builtin;refine Halt.mk ?_)
   refine Halt.of (zA3 (P:=Try.prog) rfl _ _ 26 rfl i0 _ 64 Try.underlying26 HI.out HZ0.out HZ1.out HZ2.out rfl (by decide) PR_len' PR_mono' (by rfl) HOA.out q 28 [q.op,q.ct,q.n,q.m,q.va,.slice A8 q.ks.length cap8] FA _ (by rfl) (by simp) (by simp [Value.oneCell']) HPA.out (fun b hb=>(HFsA.out b hb).2) (fun g hg h=>(HRW.out g hg).1 (List.mem_append.2 (.inr h))) hmx hby hbs ?_)
   intro g cp w7 hown7 hgr7 hat7
   have hB7:Below w w w7:=(HBA.out.alloc HBA.out.size _).grown hgr7 (by simp;omega) (fun g hg=>(HRW.out g (zA1.2 hg)).2)
   have HFr7:Hid (Free w7 (Fo ++ FA)):=HFrA.out.kept fun b hb=>(hgr7.block b (by have:=HUA.out b hb;rw [World.size_alloc];omega) (fun e=>(HRW.out b (zA1.2 e.symm)).1 hb)).trans (Below.heap_alloc _ _ _ (HUA.out b hb))
   have HO7:=jj hown7
   clear hown7 hgr7 hat7
   go_wp2
   go_roundw
   case rel=>exact ⟨i+1,_,hil,by go_num,(by rw [HF2.out];exact HO7.out),HFr7.out,HFO2.out,hB7⟩
   case measure=>(simp [intOf] <;> omega)
  ·have HO2:=HO.out
   rw [kipTo_all ps (by omega)] at HO2
   have HLN:=jj (congrArg List.length (kipTo_all ps (i:=i) (by omega)))
   have HFin:Hid (∃ v G,Ending.returned (.slice oA (kipTo ps i).length ocap)=.returned v∧Below w w wr∧Arr wr (PR wr) ps v G∧Free wr G∧Fresh w wr G):=by
    obtain ⟨FF,hf1,hf2,hf3⟩:=kid_done (H:=w.heap.size) HO2 HFr.out HFo.out (zz8 _)
    exact ⟨_,FF,rfl,hB,(by rw [HLN.out];exact hf1),hf2,hf3⟩
   clear HO2
   go_wp2
   go_ret
   exact HFin.out
theorem info_PSE:(Try.prog.info? 26).map (fun i=>(i.zero,i.size,i.bytes))=some (some (.slice none 0 0),1,24):=by kernel_rfl
def LpR (w:World) (vs:List P) (cs:List Value) (F:List Nat):Prop:=∃ v,cs=[v]∧Arr w (PR w) vs v F
theorem LpR_len (w:World) (x:List P) (cs:List Value) (G:List Nat) (h:LpR w x cs G):cs.length=1:=by obtain ⟨v,rfl,-⟩:=h;rfl
theorem LpR_mono (w w':World) (x:List P) (cs:List Value) (G:List Nat) (hk:Kept G w w') (h:LpR w x cs G):LpR w' x cs G:=by
 obtain ⟨v,rfl,h⟩:=h
 exact ⟨v,rfl,ArrP.mono h hk⟩
theorem ArrLp.at {w0 w:World} {b off n cap:Nat} {F:List Nat} {xs:List (List P)} (h:Arr w0 (LpR w0) xs (.slice (some ⟨b,off,none⟩) n cap) F) (hF:Under w0 F) (hB:Below w0 w0 w) (i:Nat) (hi:i<xs.length) :
  ∃ A1 cap1 G,b<w.heap.size∧w.cell? ⟨b,off+i,none⟩=some (.slice A1 xs[i].length cap1)∧Hid (Arr w0 (PR w0) xs[i] (.slice A1 xs[i].length cap1) G)∧Hid (Under w0 G)∧(∀ b∈G,b∈F)∧b∈F:=by
 obtain ⟨b',off',cs,G,e,hb,hcs,hv,hG⟩:=h.get (LpR_len _) hi
 cases e
 have hbl:=hF _ hb
 have hc:=hcs.same (hB.block _ hbl)
 obtain ⟨v,rfl,ha⟩:=hv
 obtain ⟨A1,cap1,rfl,h1,h2⟩:=ha.form
 have h0:=hc 0 _ rfl
 rw [Nat.mul_one] at h0
 exact ⟨A1,cap1,G,zz9 hbl hB.size,h0,ha,hF.sub hG,hG,hb⟩
theorem ArrLp.of {w0:World} {b off n cap:Nat} {F:List Nat} {xs:List (List P)} (h:Arr w0 (LpR w0) xs (.slice (some ⟨b,off,none⟩) n cap) F) (hF:Under w0 F) (i:Nat) (hi:i<xs.length) :
  ∃ A1 cap1 G,b<w0.heap.size∧(∀ C,Below w0 w0 C→C.cell? ⟨b,off+i,none⟩=some (.slice A1 xs[i].length cap1))∧Arr w0 (PR w0) xs[i] (.slice A1 xs[i].length cap1) G∧Under w0 G∧∀ b∈G,b∈F:=by
 obtain ⟨A1,cap1,G,hb,hc,ha,hu,hg,-⟩:=ArrLp.at h hF (zy2 _ _) i hi
 exact ⟨A1,cap1,G,hb,fun C hC=>(hC.cell (p:=⟨b,off+i,none⟩) hb).trans hc,ha.out,hu.out,hg⟩
def ListsPP (vs:List (List P)) (F0:List Nat) (w:World) (e:Ending) (w':World):Prop:=∃ v F,e=.returned v∧Below w w w'∧Arr w' (LpR w') vs v F∧Under w'.heap.size F∧∀ b∈F,b∈F0∨w.heap.size≤b
theorem Own.under_anyP {α:Type} {w:World} {B k:Nat} {E:TypeId} {R:World→α→List Value→List Nat→Prop} {vs:List α} {v:Value} {F:List Nat} (h:Own w B E k R vs v F):Under w (if vs=[] then [] else rowOf v ++ F):=by
 by_cases hx:vs=[]
 ·rw [if_pos hx];exact Under.nil _
 ·rw [if_neg hx]
  intro b hb
  rcases List.mem_append.1 hb with hb | hb
  ·exact (h.row b hb).2
  ·exact h.under b hb
end Go.Proofs.Ytjjclcmmfeegfaa
