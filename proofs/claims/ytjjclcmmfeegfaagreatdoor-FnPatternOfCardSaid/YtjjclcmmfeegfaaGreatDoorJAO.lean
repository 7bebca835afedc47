/-
  Lemmas, and contracts of functions. Conditions: none.
-/
import Derived.Test.YtjjclcmmfeegfaaGreatDoorJAN
import Derived.Test.YtjjclcmmfeegfaaGreatDoorJAI
import Derived.Test.YtjjclcmmfeegfaaGreatDoorJAM
import Derived.Test.YtjjclcmmfeegfaaGreatDoorJAB
import Derived.Test.YtjjclcmmfeegfaaGreatDoorJAC
import Derived.Deep.RegionWith
import Derived.Test.YtjjclcmmfeegfaaGreatDoorChecked
import Derived.Deep.RegionHeld3
import Derived.BigQuiet
import Derived.Test.YtjjclcmmfeegfaaGreatDoorJAA
import Derived.ProofKit
import Derived.ChangeArms
import Derived.Deep.Fields

set_option linter.unusedVariables false
set_option linter.unusedSimpArgs false
set_option maxRecDepth 100000
set_option maxHeartbeats 1600000

namespace Go.Proofs.YtjjclcmmfeegfaaGreatDoor
open Go.RowKit
set_option maxHeartbeats 16000000 in
theorem patternText_4 (p:P) (ih:∀ k∈p.ks,TxtPI k) (hop:p.op=4):TxtPI p:=by
 intro xs hw d hd t ht hsh hn60 w x F cs G hx hf hv hg
 obtain ⟨kv,rfl,ha⟩:=(zAE _ _ _).1 hv
 obtain ⟨A,cap,rfl,hc1,hc2⟩:=hx.form
 obtain ⟨A4,cap4,rfl,hc3,hc4⟩:=ha.form
 cases d with
 |zero=>rw [shapeB] at hsh;cases hsh
 |succ d =>
 have hlen:=pT_len hw (d+1) t p ht hsh
 obtain ⟨ho,hl,hall⟩:=zB3 hsh
 have HKN:Hid (∀ k∈p.ks,nodesP k≤60):=fun k hk=>Nat.le_trans (nodesP_kid hk) hn60
 have HW:=jj hw
 have ArrP_PR:Hid (∀ W,Below w w W→PR W p _ G):=fun W hb=>PR.below hv hb hg
 have IH:=jj ih
 have HT:=jj ht
 have HO:=jj ho
 have HLN:=jj hl
 have HTI:=jj (typesP_in hw ht ho)
 have HAG:=jj (fun i h1 h2=>allP_get hall i h1 h2)
 have HX:=jj hx
 have HF:=jj hf
 have HA:=jj ha
 have HG:=jj hg
 clear hx hf ha hg
 clear hw ih hv hsh ht hl hall
 have HLEN:Hid ((pT xs (d+1) t p).length≤480):=by unfold Hid;omega
 have HND:Hid (nodeB xs t p=true):=by unfold Hid nodeB;rw [Bool.and_eq_true];exact ⟨HO.out,by rw [HLN.out];simp⟩
 have htl:=typesP_len HW.out HT.out HO.out
 have hkl3:p.ks.length≤3:=by rw [HLN.out];exact htl
 have e1:(p.op==1)=false:=by rw [hop];decide
 have e2:(p.op==2)=false:=by rw [hop];decide
 have e3:(p.op==3)=false:=by rw [hop];decide
 have e4:(p.op==4)=true:=by rw [hop];decide
 obtain ⟨q,r,htq,hql,hrl⟩:=ctor_data HT.out HO.out hop
 obtain ⟨k,hvc,hkl,-⟩:=ctor_parts (r:=r) hql (htq▸HO.out) hop
 have HPT:Hid (pT xs (d+1) t p=tl xs[q].ctors[k].name ++ listedT ((List.zipWith (pT xs d) (typesP xs t p) p.ks).map bs)):=by
  unfold Hid;rw [pT_succ,nodeT_4 hop,listedT_lst,hvc]
  have hcn:ctorN xs t (k:Int)=tl xs[q].ctors[k].name:=by rw [htq];exact ctorN_get hql hkl
  rw [hcn]
 have HTD:Hid (t.d=(q:Int)):=by unfold Hid;rw [htq]
 have HVC:=jj hvc
 have hn5:=nameOk_len (HW.out.ctor hql hkl).name
 clear hop htq hvc hrl
 clear htl hlen
 obtain ⟨i0,hi,hz0,hz1,hz2⟩:=info_parts info_strE
 have HI:=jj hi
 have HZ0:=jj hz0
 have HZ1:=jj hz1
 have HZ2:=jj hz2
 clear hi hz0 hz1 hz2
 have hB0:Below w w ((w.alloc (.cells #[t.d,t.i] 25)).alloc (.cells #[p.op,p.ct,p.n,p.m,p.va,.slice A4 p.ks.length cap4] 28)):=((zy2 _ _).alloc (zz8 _) _).alloc (by simp) _
 have KT:Hid (Blk ((w.alloc (.cells #[t.d,t.i] 25)).alloc (.cells #[p.op,p.ct,p.n,p.m,p.va,.slice A4 p.ks.length cap4] 28)) w.heap.size 25 #[t.d,t.i]):=(Blk.new w _ _).same (Below.heap_alloc _ _ _ (by simp))
 have KV:Hid (Blk ((w.alloc (.cells #[t.d,t.i] 25)).alloc (.cells #[p.op,p.ct,p.n,p.m,p.va,.slice A4 p.ks.length cap4] 28)) (w.heap.size+1) 28 #[p.op,p.ct,p.n,p.m,p.va,.slice A4 p.ks.length cap4]):=by have h:=Blk.new (w.alloc (.cells #[t.d,t.i] 25)) 28 #[p.op,p.ct,p.n,p.m,p.va,.slice A4 p.ks.length cap4];rw [World.size_alloc] at h;exact h
 go_enter Tryz.func32,Tryz.ntmps32
 go_wp2_with fail
 obtain ⟨W2,hW2⟩:∃ W2,W2=((w.alloc (.cells #[t.d,t.i] 25)).alloc (.cells #[p.op,p.ct,p.n,p.m,p.va,.slice A4 p.ks.length cap4] 28)):=⟨_,rfl⟩
 rw [←hW2] at hB0 KT KV ⊢
 clear hW2
 refine (zB5 xs HW.out t HT.out p HND.out W2 _ F _ G (ArrDt.below HX.out hB0 HF.out) (HF.out.mono hB0.size) (ArrP_PR.out W2 hB0) (HG.out.mono hB0.size)).mono ?_
 rintro e w6 ⟨v6,F6,rfl,hb6,hfs6,ha6⟩
 have hB6:=hB0.trans (hb6.mono hB0.size)
 have KT6:=jj (KT.out.same (hb6.block _ KT.out.lt))
 have KV6:=jj (KV.out.same (hb6.block _ KV.out.lt))
 generalize hass:typesP xs t p=ls at *
 clear hass
 obtain ⟨A6,cap6,rfl,hd3,hd4⟩:=ha6.form
 have HA6:=jj ha6
 have HU6:=jj hfs6.under
 clear ha6 hfs6 hb6 KT KV hB0
 obtain ⟨-,-,-,-,-,z5,klt2⟩:=KV6.out.c6
 have HNIL:Hid (Own w6 w6.heap.size 9 1 StrR (psB xs d ls p.ks 0) (.slice none 0 0) []):=(show Own _ _ _ _ _ (psB xs d ls p.ks 0) _ _ from Own.nil _ _ _ _ _)
 go_wp2
 clear z5 klt2
 go_loopw [8,18] (fun ov iv wr=>∃ i:Nat,i≤p.ks.length∧iv=.int .i64 i∧Hid (Own wr w6.heap.size 9 1 StrR (psB xs d ls p.ks i) ov [])∧Below w6 w6 wr) (fun _ iv _=>p.ks.length-(intOf iv).toNat)
 case atStart=>exact ⟨0,Nat.zero_le _,rfl,HNIL,zy2 _ _⟩
 case round =>
  clear HNIL
  obtain ⟨i,hi,rfl,HOw,hBr⟩:=hrel
  have hBw0:Below w w wr:=hB6.trans (hBr.mono hB6.size)
  by_cases hik:i<p.ks.length
  ·have hil:i<ls.length:=by rw [←HLN.out];exact hik
   obtain ⟨b6,off6,rfl⟩:=HA6.out.ptr (by omega)
   obtain ⟨b4,off4,rfl⟩:=HA.out.ptr (by omega)
   obtain ⟨A7,cap7,G7,hb7,k0,k1,k2,k3,k4,k5,HV7,HG7,-,-,-⟩:=ArrP.at HA.out HG.out hBw0 i hik
   have g1:(0:Int)≤(i:Int):=by omega
   have g2:(i:Int)<(ls.length:Int):=by omega
   have g3:(i:Int)<(p.ks.length:Int):=by omega
   have e1':decide (i<p.ks.length)=true:=by simpa using hik
   have HFI:Hid (shapeB xs d ls[i] p.ks[i]=true):=HAG.out i hil hik
   have HMK:Hid (p.ks[i]∈p.ks):=List.getElem_mem hik
   have HNI:Hid (nodesP p.ks[i]≤60):=HKN.out _ HMK.out
   have HTI2:=jj (HTI.out _ (List.getElem_mem hil))
   have HSC:=jj (psB_succ xs d ls p.ks i hil hik)
   obtain ⟨Z,hZ⟩:∃ z,bs (pT xs d ls[i] p.ks[i])=z:=⟨_,rfl⟩
   have HZ:=jj hZ
   have HSU:Hid (psB xs d ls p.ks (i+1)=psB xs d ls p.ks i ++ [Z]):=by rw [←HZ.out];exact HSC.out
   clear hZ HSC
   have hlm:=psB_len xs d ls p.ks i
   have hmx:(psB xs d ls p.ks i).length+1≤maxLen:=by unfold maxLen;omega
   have hby:((psB xs d ls p.ks i).length+1)*16≤140737488355328:=by omega
   have hbe:Below wr wr (wr.alloc (.cells #[p.ks[i].op,p.ks[i].ct,p.ks[i].n,p.ks[i].m,p.ks[i].va,.slice A7 p.ks[i].ks.length cap7] 28)):=(zy2 _ _).alloc (zz8 _) _
   have HOq:Hid (Own (wr.alloc (.cells #[p.ks[i].op,p.ks[i].ct,p.ks[i].n,p.ks[i].m,p.ks[i].va,.slice A7 p.ks[i].ks.length cap7] 28)) w6.heap.size 9 1 StrR (psB xs d ls p.ks i) u8 []):=HOw.out.below (fun x cs G hk h=>zA7 _ _ x cs G hk h) hbe
   have hBq:Below w6 w6 (wr.alloc (.cells #[p.ks[i].op,p.ks[i].ct,p.ks[i].n,p.ks[i].m,p.ks[i].va,.slice A7 p.ks[i].ks.length cap7] 28)):=hBr.trans (hbe.mono hBr.size)
   have hBwq:Below w w (wr.alloc (.cells #[p.ks[i].op,p.ks[i].ct,p.ks[i].n,p.ks[i].m,p.ks[i].va,.slice A7 p.ks[i].ks.length cap7] 28)):=hBw0.trans (hbe.mono hBw0.size)
   have KD:Hid (Blk (wr.alloc (.cells #[p.ks[i].op,p.ks[i].ct,p.ks[i].n,p.ks[i].m,p.ks[i].va,.slice A7 p.ks[i].ks.length cap7] 28)) wr.heap.size 28 #[p.ks[i].op,p.ks[i].ct,p.ks[i].n,p.ks[i].m,p.ks[i].va,.slice A7 p.ks[i].ks.length cap7]):=Blk.new _ _ _
   have HKD:Hid (wr.heap.size∉rowOf u8):=fun h=>Nat.lt_irrefl _ (HOw.out.row _ h).2
   obtain ⟨kA,kcap,hkv,-,-⟩:=HOw.out.form
   subst hkv
   go_wp2_with fail
   clear k0 k1 k2 k3 k4 k5 hb7
   generalize (wr.alloc (.cells #[p.ks[i].op,p.ks[i].ct,p.ks[i].n,p.ks[i].m,p.ks[i].va,.slice A7 p.ks[i].ks.length cap7] 28))=wq at *
   generalize wr.heap.size=kd at *
   obtain ⟨hb6q,a0,a1⟩:=ArrTy.at HA6.out HU6.out hBq i hil
   have hb6l:b6<w6.heap.size:=ArrTy_lt HA6.out HU6.out i hil
   have k0:=(KD.out.cell 0).trans (show _=some (.int .i64 p.ks[i].op) from by simp)
   have k1:=(KD.out.cell 1).trans (show _=some (.int .i64 p.ks[i].ct) from by simp)
   have k2:=(KD.out.cell 2).trans (show _=some (.int .i64 p.ks[i].n) from by simp)
   have k3:=(KD.out.cell 3).trans (show _=some (.int .i64 p.ks[i].m) from by simp)
   have k4:=(KD.out.cell 4).trans (show _=some (.int .i64 p.ks[i].va) from by simp)
   have k5:=(KD.out.cell 5).trans (show _=some (.slice A7 p.ks[i].ks.length cap7) from by simp)
   have klt:=KD.out.lt
   have hBw:Below w w wq.drew:=hBwq.drew
   have HS:Hid (∀ C:World,Below wq wq C→(C.cell? ⟨b6,off6+i*2,none⟩=ls[i].d∧C.cell? ⟨b6,off6+i*2+1,none⟩=ls[i].i∧C.cell? ⟨kd,0,none⟩=p.ks[i].op∧C.cell? ⟨kd,1,none⟩=p.ks[i].ct∧C.cell? ⟨kd,2,none⟩=p.ks[i].n∧C.cell? ⟨kd,3,none⟩=p.ks[i].m∧C.cell? ⟨kd,4,none⟩=p.ks[i].va∧C.cell? ⟨kd,5,none⟩=some (.slice A7 p.ks[i].ks.length cap7))):=fun C hb=>⟨(hb.cell (hb6q)).trans a0,(hb.cell (hb6q)).trans a1,(hb.cell (klt)).trans k0,(hb.cell (klt)).trans k1,(hb.cell (klt)).trans k2,(hb.cell (klt)).trans k3,(hb.cell (klt)).trans k4,(hb.cell (klt)).trans k5⟩
   have hC0:Below wq wq wq.drew:=(zy2 _ _).drew
   refine wpBS HS.out (T:=fun _=>True) (d:=99) (by kernel_rfl) ?_
   obtain ⟨wd,hwd⟩:∃ X,X=wq.drew:=⟨_,rfl⟩
   rw [←hwd] at hC0 hBw  ⊢
   clear hwd
   have hS0:=HS.out _ hC0
   have hT0:True:=trivial
   refine wV 0 rfl hS0 hT0 ?_
   (try simp only [zz])
   refine wV 1 rfl hS0 hT0 ?_
   (try simp only [zz])
   refine wV 2 rfl hS0 hT0 ?_
   (try simp only [zz])
   refine wV 3 rfl hS0 hT0 ?_
   (try simp only [zz])
   refine wV 4 rfl hS0 hT0 ?_
   (try simp only [zz])
   refine wV 5 rfl hS0 hT0 ?_
   (try simp only [zz])
   refine wV 6 rfl hS0 hT0 ?_
   (try simp only [zz])
   refine w1 7 rfl fun K hK=>?_
   go_simp
   go_at_call 32
   refine (IH.out p.ks[i] HMK.out xs HW.out d (by omega) ls[i] HTI2.out HFI.out HNI.out wd _ F _ G7 (ArrDt.below HX.out hBw HF.out) (HF.out.mono hBw.size) (HV7.out.below hBw HG7.out) (HG7.out.mono hBw.size)).mono ?_
   rintro e w4 ⟨rfl,hb4⟩
   have hC1:Below wq wq w4:=hC0.trans (hb4.mono hC0.size)
   have hS1:=HS.out _ hC1
   rw [HZ.out]
   (try dsimp only)
   refine hK.out _ _ hS1 (fun _=>trivial) ?_
   clear hK K
   (try simp only [zz])
   have HO5:Hid (Own w4 w6.heap.size 9 1 StrR (psB xs d ls p.ks i) (.slice kA (psB xs d ls p.ks i).length kcap) []):=HOq.out.below (fun x cs G hk h=>zA7 _ _ x cs G hk h) (hC1)
   have hB5:Below w6 w6 w4:=hBq.trans (hC1.mono hBq.size)
   have hbs5:w6.heap.size≤w4.heap.size:=hB5.size
   have hb6w:b6<w4.heap.size:=zz9 hb6q hC1.size
   have klt4:kd<w4.heap.size:=zz9 klt hC1.size
   refine w1 8 rfl fun K hK=>?_
   go_simp
   have hSa:(w4.alloc (.cells #[.string Z] 9)).cell? ⟨b6,off6+i*2,none⟩=ls[i].d∧(w4.alloc (.cells #[.string Z] 9)).cell? ⟨b6,off6+i*2+1,none⟩=ls[i].i∧(w4.alloc (.cells #[.string Z] 9)).cell? ⟨kd,0,none⟩=p.ks[i].op∧(w4.alloc (.cells #[.string Z] 9)).cell? ⟨kd,1,none⟩=p.ks[i].ct∧(w4.alloc (.cells #[.string Z] 9)).cell? ⟨kd,2,none⟩=p.ks[i].n∧(w4.alloc (.cells #[.string Z] 9)).cell? ⟨kd,3,none⟩=p.ks[i].m∧(w4.alloc (.cells #[.string Z] 9)).cell? ⟨kd,4,none⟩=p.ks[i].va∧(w4.alloc (.cells #[.string Z] 9)).cell? ⟨kd,5,none⟩=some (.slice A7 p.ks[i].ks.length cap7):=⟨(World.cell?_alloc_lt _ _ _ hb6w).trans hS1.1,(World.cell?_alloc_lt _ _ _ hb6w).trans hS1.2.1,(World.cell?_alloc_lt _ _ _ klt4).trans hS1.2.2.1,(World.cell?_alloc_lt _ _ _ klt4).trans hS1.2.2.2.1,(World.cell?_alloc_lt _ _ _ klt4).trans hS1.2.2.2.2.1,(World.cell?_alloc_lt _ _ _ klt4).trans hS1.2.2.2.2.2.1,(World.cell?_alloc_lt _ _ _ klt4).trans hS1.2.2.2.2.2.2.1,(World.cell?_alloc_lt _ _ _ klt4).trans hS1.2.2.2.2.2.2.2⟩
   refine hK.out _ _ hSa (fun _=>trivial) ?_
   clear hK K
   (try simp only [zz])
   refine w1 9 rfl fun K hK=>?_
   refine zAB (P:=Tryz.prog) rfl _ _ 60 rfl i0 _ 16 Tryz.underlying60 HI.out HZ0.out HZ1.out HZ2.out rfl Nat.zero_lt_one zAH zA7 (by rfl) HO5.out Z 9 [.string Z] [] _ (by rfl) rfl (by simp [Value.oneCell']) ⟨rfl,rfl⟩ (Under.nil _) (fun _ _ h=>by cases h) hmx hby hbs5 ?_
   intro g cp w8 hown8 hgr8 hat8
   have hrow:=HO5.out.row
   have hB8:Below w6 w6 w8:=(hB5.alloc hbs5 _).grown hgr8 (by simp;omega) (fun g hg=>(hrow g (zA1.2 hg)).1)
   have l7:w4.heap.size≤(w4.alloc (.cells #[.string Z] 9)).heap.size:=by rw [World.size_alloc];exact Nat.le_succ _
   have hnb6:some b6≠(Value.slice kA (psB xs d ls p.ks i).length kcap).ownBlock:=fun e=>by
    have:=(hrow b6 (zA1.2 e.symm)).1;omega
   have hnkd:some kd≠(Value.slice kA (psB xs d ls p.ks i).length kcap).ownBlock:=fun e=>HKD.out (zA1.2 e.symm)
   have hfar:∀ p':Addr,p'.block<w4.heap.size→some p'.block≠(Value.slice kA (psB xs d ls p.ks i).length kcap).ownBlock→w8.cell? p'=w4.cell? p':=fun p' h1 h2=>(World.grownBy.cell_far hgr8 p' (zz9 h1 l7) h2).trans (World.cell?_alloc_lt _ _ _ h1)
   have hS8:w8.cell? ⟨b6,off6+i*2,none⟩=ls[i].d∧w8.cell? ⟨b6,off6+i*2+1,none⟩=ls[i].i∧w8.cell? ⟨kd,0,none⟩=p.ks[i].op∧w8.cell? ⟨kd,1,none⟩=p.ks[i].ct∧w8.cell? ⟨kd,2,none⟩=p.ks[i].n∧w8.cell? ⟨kd,3,none⟩=p.ks[i].m∧w8.cell? ⟨kd,4,none⟩=p.ks[i].va∧w8.cell? ⟨kd,5,none⟩=some (.slice A7 p.ks[i].ks.length cap7):=⟨(hfar ⟨b6,off6+i*2,none⟩ hb6w hnb6).trans hS1.1,(hfar ⟨b6,off6+i*2+1,none⟩ hb6w hnb6).trans hS1.2.1,(hfar ⟨kd,0,none⟩ klt4 hnkd).trans hS1.2.2.1,(hfar ⟨kd,1,none⟩ klt4 hnkd).trans hS1.2.2.2.1,(hfar ⟨kd,2,none⟩ klt4 hnkd).trans hS1.2.2.2.2.1,(hfar ⟨kd,3,none⟩ klt4 hnkd).trans hS1.2.2.2.2.2.1,(hfar ⟨kd,4,none⟩ klt4 hnkd).trans hS1.2.2.2.2.2.2.1,(hfar ⟨kd,5,none⟩ klt4 hnkd).trans hS1.2.2.2.2.2.2.2⟩
   have HO8:=jj hown8
   refine hK.out _ _ hS8 (fun _=>trivial) ?_
   clear hK K
   (try simp only [zz])
   refine wV 10 rfl hS8 hT0 ?_
   (try simp only [zz])
   refine wE (by kernel_rfl) ?_
   clear hS0 hS1 hS8 hT0 hfar hnkd hnb6 l7 hrow hgr8 hat8 hown8 hbe hb4 HO5 hB5 HOq hBq hBwq hBw HS hC0 hC1
   go_wp2
   go_roundw
   case rel=>exact ⟨i+1,hik,by go_num,by rw [HSU.out];exact HO8.out,hB8⟩
   case measure=>(simp [intOf] <;> omega)
  ·have e1':decide (i<p.ks.length)=false:=by simpa using hik
   have hta:=psB_all xs d ls p.ks (i:=i) (by have:=HLN.out;omega) (by omega)
   obtain ⟨SS,hSS⟩:∃ s,s=(List.zipWith (pT xs d) ls p.ks).map bs:=⟨_,rfl⟩
   rw [←hSS] at hta
   have HSS:=jj hSS
   have HAR:Hid (Arr wr (StrR wr) SS u8 (if psB xs d ls p.ks i=[] then [] else rowOf u8 ++ [])):=by rw [←hta];exact HOw.out.arr
   have HRW:=jj HOw.out.row
   have HUA:Hid (Under wr (if psB xs d ls p.ks i=[] then [] else rowOf u8 ++ [])):=fun b hb=>by
    split at hb
    ·cases hb
    ·rw [List.append_nil] at hb;exact (HRW.out b hb).2
   have hsl:SS.length≤1000:=by rw [←hta];have:=psB_len xs d ls p.ks i;omega
   have HSL:=jj hsl
   generalize (if psB xs d ls p.ks i=[] then [] else rowOf u8 ++ [])=FA at HAR HUA
   have KT:=jj (KT6.out.same (hBr.block _ KT6.out.lt))
   have KV:=jj (KV6.out.same (hBr.block _ KV6.out.lt))
   clear hta hSS HOw hsl HRW
   obtain ⟨y0,y1,klt⟩:=KT.out.c2
   obtain ⟨z0,z1,z2,z3,z4,z5,klt2⟩:=KV.out.c6
   have hpt:=HPT.out
   rw [←HSS.out] at hpt
   have HP2:=jj hpt
   have hl4:=HLEN.out
   rw [hpt,List.length_append] at hl4
   have hjl:=join_le SS
   have HSJ:Hid ((Lib.join (SS.map tl) [44]).length≤1000000):=by unfold Hid;omega
   have hll:(bs (listedT SS)).size≤480:=by rw [bs_size];omega
   obtain ⟨L,hL⟩:∃ l,bs (listedT SS)=l:=⟨_,rfl⟩
   rw [hL] at hll
   have HL:=jj hL
   have hf:Hid (bs (pT xs (d+1) t p)=xs[q].ctors[k].name ++ L):=by unfold Hid;rw [HP2.out,bs_app,HL.out]
   clear hL hpt hl4 hjl
   have s1:xs[q].ctors[k].name.size+L.size≤9223372036854775807:=by omega
   have s2:(xs[q].ctors[k].name.size:Int)+(L.size:Int)≤9223372036854775807:=by omega
   have s3:¬9223372036854775807<xs[q].ctors[k].name.size+L.size:=by omega
   clear hll hn5
   obtain ⟨b,off,rfl⟩:=HX.out.ptr (by omega)
   obtain ⟨A1,cap1,G1,hbA,n0,n1,HK,HG1,-,hn1,hn2⟩:=ArrDt.at HX.out HF.out hBw0 q hql
   obtain ⟨b3,off3,rfl⟩:=HK.out.ptr (by omega)
   obtain ⟨A9,cap9,G9,hb9,p0,p1,p2,HT9,HTG9,-,-,-⟩:=ArrKt.at HK.out HG1.out hBw0 k hkl
   have g1:(0:Int)≤(q:Int):=by omega
   have g2:(q:Int)<(xs.length:Int):=by omega
   have g3:(0:Int)≤(k:Int):=by omega
   have g4:(k:Int)<(xs[q].ctors.length:Int):=by omega
   have y0':wr.cell? ⟨w,0,none⟩=(q:Int):=by rw [←HTD.out];exact y0
   have z1':wr.cell? ⟨w.heap.size+1,1,none⟩=(k:Int):=by rw [←HVC.out];exact z1
   have HUAd:Hid (Under wr.drew.heap.size FA):=HUA.out
   have HARd:Hid (Arr wr.drew (StrR wr.drew) SS u8 FA):=ArrStr.mono HAR.out (fun _ _=>rfl)
   clear n0 p1 p2 HAR HUA y0 z1
   go_wp2_with fail
   have HS:Hid (∀ C:World,Below wr wr C→(C.cell? ⟨w,0,none⟩=(q:Int)∧C.cell? ⟨b,off+q*2+1,none⟩=some (.slice (some ⟨b3,off3,none⟩) xs[q].ctors.length cap1)∧C.cell? ⟨w.heap.size+1,1,none⟩=(k:Int)∧C.cell? ⟨b3,off3+k*3,none⟩=some (.string xs[q].ctors[k].name))):=fun C hb=>⟨(hb.cell (klt)).trans y0',(hb.cell (hbA)).trans n1,(hb.cell (klt2)).trans z1',(hb.cell (hb9)).trans p0⟩
   have hC0:Below wr wr wr.drew:=(zy2 _ _).drew
   refine wpBS HS.out (T:=fun _=>True) (d:=99) (by kernel_rfl) ?_
   obtain ⟨wd,hwd⟩:∃ X,X=wr.drew:=⟨_,rfl⟩
   rw [←hwd] at hC0 HARd HUAd  ⊢
   clear hwd
   have hS0:=HS.out _ hC0
   have hT0:True:=trivial
   refine wV 0 rfl hS0 hT0 ?_
   (try simp only [zz])
   refine wV 1 rfl hS0 hT0 ?_
   (try simp only [zz])
   refine wV 2 rfl hS0 hT0 ?_
   (try simp only [zz])
   refine wV 3 rfl hS0 hT0 ?_
   (try simp only [zz])
   refine wV 4 rfl hS0 hT0 ?_
   (try simp only [zz])
   refine wV 5 rfl hS0 hT0 ?_
   (try simp only [zz])
   refine wV 6 rfl hS0 hT0 ?_
   (try simp only [zz])
   refine wV 7 rfl hS0 hT0 ?_
   (try simp only [zz])
   refine wV 8 rfl hS0 hT0 ?_
   (try simp only [zz])
   refine wV 9 rfl hS0 hT0 ?_
   (try simp only [zz])
   refine wV 10 rfl hS0 hT0 ?_
   (try simp only [zz])
   refine wV 11 rfl hS0 hT0 ?_
   (try simp only [zz])
   refine w1 12 rfl fun K hK=>?_
   go_simp
   go_at_call 83
   refine (impl_listed SS HSL.out HSJ.out wd _ FA HARd.out HUAd.out).mono ?_
   rintro e w4 ⟨rfl,hb4⟩
   have hC1:Below wr wr w4:=hC0.trans (hb4.mono hC0.size)
   have hS1:=HS.out _ hC1
   rw [HL.out]
   (try dsimp only)
   refine hK.out _ _ hS1 (fun _=>trivial) ?_
   clear hK K
   (try simp only [zz])
   refine w1 13 rfl fun K hK=>?_
   go_simp
   refine hK.out _ _ hS1 (fun _=>trivial) ?_
   clear hK K
   (try simp only [zz])
   refine wV 14 rfl hS1 hT0 ?_
   (try simp only [zz])
   refine wE (by kernel_rfl) ?_
   have hB9:Below w w w4:=hBw0.trans (hC1.mono hBw0.size)
   clear hS0 hS1 hT0 HS hC0 hC1
   go_wp2
   go_ret
   exact ⟨zAK hf.out.symm,hB9⟩
theorem impl_patternText_of (p:P) (ih:∀ k∈p.ks,TxtPI k):TxtPI p:=by
 intro xs hw d hd t ht hsh
 cases d with
 |zero=>rw [shapeB] at hsh;cases hsh
 |succ d =>
  obtain ⟨ho,-,-⟩:=zB3 hsh
  rcases ops_of ho with h | h | h | h | h | h
  ·exact patternText_1 p ih h xs hw (d+1) hd t ht hsh
  ·exact patternText_2 p ih h xs hw (d+1) hd t ht hsh
  ·exact patternText_3 p ih h xs hw (d+1) hd t ht hsh
  ·exact patternText_4 p ih h xs hw (d+1) hd t ht hsh
  ·exact patternText_5 p ih h xs hw (d+1) hd t ht hsh
  ·exact patternText_6 p ih h xs hw (d+1) hd t ht hsh
theorem impl_patternText:∀ p,TxtPI p:=P.indv impl_patternText_of
theorem impl_FormatPattern (xs:List Dt) (t:Ty) (p:P) (hz:p.size≤1048576) (w:World) (x:Value) (F:List Nat) (cs:List Value) (G:List Nat) (hx:Arr w (DtR w) xs x F) (hf:Under w F) (hv:PR w p cs G) (hg:Under w G) :
  Calls Tryz.prog 8 #[x,.agg #[t.d,t.i],.agg cs.toArray] w fun e w'=>e=.returned (.string (fmtP xs t p))∧Below w w w':=by
 obtain ⟨kv,rfl,ha⟩:=(zAE _ _ _).1 hv
 obtain ⟨A,cap,rfl,hc1,hc2⟩:=hx.form
 obtain ⟨A4,cap4,rfl,hc3,hc4⟩:=ha.form
 have HX:=jj hx
 have HF:=jj hf
 have HV:=jj hv
 have HG:=jj hg
 clear hx hf hv hg
 clear ha
 have hB0:Below w w ((w.alloc (.cells #[t.d,t.i] 25)).alloc (.cells #[p.op,p.ct,p.n,p.m,p.va,.slice A4 p.ks.length cap4] 28)):=((zy2 _ _).alloc (zz8 _) _).alloc (by simp) _
 have KT:Hid (Blk ((w.alloc (.cells #[t.d,t.i] 25)).alloc (.cells #[p.op,p.ct,p.n,p.m,p.va,.slice A4 p.ks.length cap4] 28)) w.heap.size 25 #[t.d,t.i]):=(Blk.new w _ _).same (Below.heap_alloc _ _ _ (by simp))
 have KV:Hid (Blk ((w.alloc (.cells #[t.d,t.i] 25)).alloc (.cells #[p.op,p.ct,p.n,p.m,p.va,.slice A4 p.ks.length cap4] 28)) (w.heap.size+1) 28 #[p.op,p.ct,p.n,p.m,p.va,.slice A4 p.ks.length cap4]):=by have h:=Blk.new (w.alloc (.cells #[t.d,t.i] 25)) 28 #[p.op,p.ct,p.n,p.m,p.va,.slice A4 p.ks.length cap4];rw [World.size_alloc] at h;exact h
 go_enter Tryz.func8,Tryz.ntmps8
 go_wp2_with fail
 obtain ⟨W2,hW2⟩:∃ W2,W2=((w.alloc (.cells #[t.d,t.i] 25)).alloc (.cells #[p.op,p.ct,p.n,p.m,p.va,.slice A4 p.ks.length cap4] 28)):=⟨_,rfl⟩
 rw [←hW2] at hB0 KT KV ⊢
 clear hW2
 refine (impl_PatternValid xs t p hz W2 _ F _ G (ArrDt.below HX.out hB0 HF.out) (HF.out.mono hB0.size) (HV.out.below hB0 HG.out) (HG.out.mono hB0.size)).mono ?_
 rintro e w1 ⟨rfl,hb1⟩
 have hB1:=hB0.trans (hb1.mono hB0.size)
 have KT1:=jj (KT.out.same (hb1.block _ KT.out.lt))
 have KV1:=jj (KV.out.same (hb1.block _ KV.out.lt))
 obtain ⟨y0,y1,klt⟩:=KT1.out.c2
 obtain ⟨z0,z1,z2,z3,z4,z5,klt2⟩:=KV1.out.c6
 cases q0:patternValidB xs t p with
 |false =>
  have hf:Hid (fmtP xs t p=⟨#[]⟩):=if_neg (by simp [q0])
  clear q0
  go_wp2
  go_ret
  exact ⟨zAK hf.out.symm,hB1⟩
 |true =>
  have hf:Hid (fmtP xs t p=bs (pT xs 10 t p)):=if_pos q0
  obtain ⟨h1,h2,h3,h4⟩:=patValid_split q0
  have H1:=jj h1
  have H2:=jj h2
  have H3:=jj h3
  have H4:=jj h4
  clear h1 h2 h3 h4
  clear q0
  go_wp2_with fail
  refine (impl_patternText p xs H1.out 10 (zz8 _) t H2.out H3.out H4.out w1 _ F _ G (ArrDt.below HX.out hB1 HF.out) (HF.out.mono hB1.size) (HV.out.below hB1 HG.out) (HG.out.mono hB1.size)).mono ?_
  rintro e w2 ⟨rfl,hb2⟩
  have hB2:=hB1.trans (hb2.mono hB1.size)
  go_wp2
  go_ret
  exact ⟨zAK hf.out.symm,hB2⟩
theorem nodes_kid {v:V} {k:V} (h:k∈v.ks):nodes k≤nodes v:=by
 obtain ⟨i,hi,rfl⟩:=List.getElem_of_mem h
 have h1:=sizes_step hi
 have h2:=sizes_take_le v.ks (i+1)
 rw [zAI v]
 omega
def vsB (xs:List Dt) (d:Nat) (ls:List Ty) (ks:List V) (i:Nat):List ByteArray:=(List.zipWith (vT xs d) (ls.take i) (ks.take i)).map bs
theorem vsB_len (xs:List Dt) (d:Nat) (ls:List Ty) (ks:List V) (i:Nat):(vsB xs d ls ks i).length≤i:=by
 unfold vsB;rw [List.length_map,List.length_zipWith,List.length_take];omega
theorem vsB_succ (xs:List Dt) (d:Nat) (ls:List Ty) (ks:List V) (i:Nat) (h1:i<ls.length) (h2:i<ks.length):vsB xs d ls ks (i+1)=vsB xs d ls ks i ++ [bs (vT xs d ls[i] ks[i])]:=by
 unfold vsB
 rw [take_snoc' ls i h1,take_snoc' ks i h2,List.zipWith_append (by rw [List.length_take,List.length_take];omega),List.map_append]
 rfl
theorem vsB_all (xs:List Dt) (d:Nat) (ls:List Ty) (ks:List V) {i:Nat} (h1:ls.length≤i) (h2:ks.length≤i):vsB xs d ls ks i=(List.zipWith (vT xs d) ls ks).map bs:=by
 unfold vsB;rw [List.take_of_length_le h1,List.take_of_length_le h2]
theorem vT_listed {xs:List Dt} {d q k:Nat} {i:Int} {v:V} (hq:q<xs.length) (hk:k<xs[q].ctors.length) (hvc:v.c=(k:Int)) (hl:v.ks.length=(argsL xs[q].ctors[k] i).length):vT xs (d+1) ⟨(q:Int),i⟩ v=tl xs[q].ctors[k].name ++ listedT ((List.zipWith (vT xs d) (argsL xs[q].ctors[k] i) v.ks).map bs):=by
 rw [vT_data (by show ¬((q:Int) = -1);omega),hvc,zAF hq hk,ctorN_get hq hk,listedT_lst,List.length_zipWith,hl,Nat.min_self]
def TxtI (v:V):Prop:=∀ (xs:List Dt) (_:WorldOK xs) (d:Nat) (_:d≤10) (t:Ty) (_:TyIn xs.length t) (_:fitsV xs d t v=true) (_:nodes v≤60) (w:World) (x:Value) (F:List Nat) (cs:List Value) (G:List Nat),Arr w (DtR w) xs x F→Under w F→VR w v cs G→Under w G →
 Calls Tryz.prog 74 #[x,.agg #[t.d,t.i],.agg cs.toArray] w fun e w'=>e=.returned (.string (bs (vT xs d t v)))∧Below w w w'
set_option maxHeartbeats 16000000 in
theorem valueText_of (v:V) (ih:∀ k∈v.ks,TxtI k):TxtI v:=by
 intro xs hw d hd t ht hfit hn60 w x F cs G hx hf hv hg
 obtain ⟨kv,rfl,ha⟩:=(zA6 _ _ _).1 hv
 obtain ⟨A,cap,rfl,hc1,hc2⟩:=hx.form
 obtain ⟨A4,cap4,rfl,hc3,hc4⟩:=ha.form
 have hlen:=vT_len hw d t v ht hfit
 have HKN60:Hid (∀ k∈v.ks,nodes k≤60):=fun k hk=>Nat.le_trans (nodes_kid hk) hn60
 have HW:=jj hw
 have IH:=jj ih
 have HX:=jj hx
 have HF:=jj hf
 have HA:=jj ha
 have HG:=jj hg
 clear hx hf ha hg
 clear hw ih hv
 cases d with
 |zero=>rw [fitsV] at hfit;cases hfit
 |succ d =>
 rcases ht with ht | ⟨q,r,rfl,hql,hrl⟩
 ·have hB0:Below w w ((w.alloc (.cells #[t.d,t.i] 25)).alloc (.cells #[v.c,v.n,.slice A4 v.ks.length cap4] 45)):=((zy2 _ _).alloc (zz8 _) _).alloc (by simp) _
  rw [zB9 ht] at hfit
  unfold isNum at hfit
  rw [Bool.and_eq_true,Bool.and_eq_true] at hfit
  have t0:(v.c == -1)=true:=hfit.1
  have hq:=(zA8 _ _ _).1 hfit.2.1
  have hf:Hid (bs (vT xs (d+1) t v)=bs (digT v.n)):=by unfold Hid;rw [vT_int ht]
  obtain ⟨n,hn⟩:∃ n:Nat,v.n=(n:Int):=⟨v.n.toNat,by omega⟩
  have hn10:n<10:=by omega
  have HN:=jj hn
  clear hfit hlen hn60 hn hq ht
  go_enter Tryz.func74,Tryz.ntmps74
  go_wp2_with fail
  rw [HN.out]
  refine (strconv_Itoa n hn10 _).mono ?_
  rintro e w' ⟨rfl,hB'⟩
  rw [←HN.out] at hB' ⊢
  have hB1:=hB0.trans (hB'.mono hB0.size)
  go_wp2
  go_ret
  exact ⟨zAK hf.out.symm,hB1⟩
 ·obtain ⟨k,hvc,hkl,h1,h2,h3⟩:=fits_parts hql hfit
  have t0:(v.c == -1)=false:=by rw [hvc,beq_eq_false_iff_ne];omega
  have hvt:=vT_listed (d:=d) hql hkl hvc h2
  have HVT:=jj hvt
  have HAI:=jj (fun a ha=>argTy_in (HW.out.ctor hql hkl) (i:=(r:Int)) (by omega) (by omega) (a:=a) ha)
  have HLA:=jj (HW.out.ctor hql hkl).args
  have hla3:v.ks.length≤3:=by rw [h2,argsL_len];exact HLA.out
  have HZA:=jj (fun i h1 h2=>zipAll_get h3 i h1 h2)
  have HLN:=jj h2
  have HVC:=jj hvc
  have hn5:=nameOk_len (HW.out.ctor hql hkl).name
  have HL5:Hid ((vT xs (d+1) ⟨(q:Int),(r:Int)⟩ v).length≤480):=by unfold Hid;omega
  clear hfit h1 h2 h3 hvt hvc hlen hn60
  obtain ⟨i0,hi,hz0,hz1,hz2⟩:=info_parts info_strE
  have HI:=jj hi
  have HZ0:=jj hz0
  have HZ1:=jj hz1
  have HZ2:=jj hz2
  clear hi hz0 hz1 hz2
  have hB0:Below w w ((w.alloc (.cells #[(q:Int),(r:Int)] 25)).alloc (.cells #[v.c,v.n,.slice A4 v.ks.length cap4] 45)):=((zy2 _ _).alloc (zz8 _) _).alloc (by simp) _
  have KT:Hid (Blk ((w.alloc (.cells #[(q:Int),(r:Int)] 25)).alloc (.cells #[v.c,v.n,.slice A4 v.ks.length cap4] 45)) w.heap.size 25 #[(q:Int),(r:Int)]):=(Blk.new w _ _).same (Below.heap_alloc _ _ _ (by simp))
  have KV:Hid (Blk ((w.alloc (.cells #[(q:Int),(r:Int)] 25)).alloc (.cells #[v.c,v.n,.slice A4 v.ks.length cap4] 45)) (w.heap.size+1) 45 #[v.c,v.n,.slice A4 v.ks.length cap4]):=by have h:=Blk.new (w.alloc (.cells #[(q:Int),(r:Int)] 25)) 45 #[v.c,v.n,.slice A4 v.ks.length cap4];rw [World.size_alloc] at h;exact h
  go_enter Tryz.func74,Tryz.ntmps74
  go_wp2_with fail
  obtain ⟨W2,hW2⟩:∃ W2,W2=((w.alloc (.cells #[(q:Int),(r:Int)] 25)).alloc (.cells #[v.c,v.n,.slice A4 v.ks.length cap4] 45)):=⟨_,rfl⟩
  rw [←hW2] at hB0 KT KV ⊢
  clear hW2
  rw [HVC.out]
  refine (impl_argTypes xs q k (r:Int) hql hkl _ _ F (ArrDt.below HX.out hB0 HF.out) (HF.out.mono hB0.size) HLA.out).mono ?_
  rintro e w6 ⟨v6,F6,rfl,hb6,ha6,-,hfs6⟩
  have hB6:=hB0.trans (hb6.mono hB0.size)
  have KT6:=jj (KT.out.same (hb6.block _ KT.out.lt))
  have KV6:=jj (KV.out.same (hb6.block _ KV.out.lt))
  generalize hass:argsL xs[q].ctors[k] (r:Int)=ls at *
  clear hass
  obtain ⟨A6,cap6,rfl,hd3,hd4⟩:=ha6.form
  have HA6:=jj ha6
  have HU6:=jj hfs6.under
  clear ha6 hfs6 hb6 KT KV hB0
  have z2:w6.cell? ⟨w.heap.size+1,2,none⟩=some (.slice A4 v.ks.length cap4):=(KV6.out.cell 2).trans (by simp)
  have klt2:=KV6.out.lt
  have HNIL:Hid (Own w6 w6.heap.size 9 1 StrR (vsB xs d ls v.ks 0) (.slice none 0 0) []):=(show Own _ _ _ _ _ (vsB xs d ls v.ks 0) _ _ from Own.nil _ _ _ _ _)
  go_wp2
  clear z2 klt2
  go_loopw [8,25] (fun ov iv wr=>∃ i:Nat,i≤v.ks.length∧iv=.int .i64 i∧Hid (Own wr w6.heap.size 9 1 StrR (vsB xs d ls v.ks i) ov [])∧Below w6 w6 wr) (fun _ iv _=>v.ks.length-(intOf iv).toNat)
  case atStart=>exact ⟨0,Nat.zero_le _,rfl,HNIL,zy2 _ _⟩
  case round =>
   clear HNIL
   obtain ⟨i,hi,rfl,HO,hBr⟩:=hrel
   have hBw0:Below w w wr:=hB6.trans (hBr.mono hB6.size)
   by_cases hik:i<v.ks.length
   ·have hil:i<ls.length:=by rw [←HLN.out];exact hik
    obtain ⟨b6,off6,rfl⟩:=HA6.out.ptr (by omega)
    obtain ⟨b4,off4,rfl⟩:=HA.out.ptr (by omega)
    obtain ⟨A7,cap7,G7,hb7,k0,k1,k2,HV7,HG7,-,-,-⟩:=ArrV.at HA.out HG.out hBw0 i hik
    have g1:(0:Int)≤(i:Int):=by omega
    have g2:(i:Int)<(ls.length:Int):=by omega
    have g3:(i:Int)<(v.ks.length:Int):=by omega
    have e1:decide (i<v.ks.length)=true:=by simpa using hik
    have HFI:Hid (fitsV xs d ls[i] v.ks[i]=true):=HZA.out i hil hik
    have HMK:Hid (v.ks[i]∈v.ks):=List.getElem_mem hik
    have HNI:Hid (nodes v.ks[i]≤60):=HKN60.out _ HMK.out
    have HTI:=jj (HAI.out _ (List.getElem_mem hil))
    have HZ0':=jj (vsB_succ xs d ls v.ks i hil hik)
    obtain ⟨Z,hZ⟩:∃ z,bs (vT xs d ls[i] v.ks[i])=z:=⟨_,rfl⟩
    have HZ:=jj hZ
    have HSU:Hid (vsB xs d ls v.ks (i+1)=vsB xs d ls v.ks i ++ [Z]):=by rw [←HZ.out];exact HZ0'.out
    clear hZ HZ0'
    have hlm:=vsB_len xs d ls v.ks i
    have hmx:(vsB xs d ls v.ks i).length+1≤maxLen:=by unfold maxLen;omega
    have hby:((vsB xs d ls v.ks i).length+1)*16≤140737488355328:=by omega
    have hbe:Below wr wr (wr.alloc (.cells #[v.ks[i].c,v.ks[i].n,.slice A7 v.ks[i].ks.length cap7] 45)):=(zy2 _ _).alloc (zz8 _) _
    have HOq:Hid (Own (wr.alloc (.cells #[v.ks[i].c,v.ks[i].n,.slice A7 v.ks[i].ks.length cap7] 45)) w6.heap.size 9 1 StrR (vsB xs d ls v.ks i) u8 []):=HO.out.below (fun x cs G hk h=>zA7 _ _ x cs G hk h) hbe
    have hBq:Below w6 w6 (wr.alloc (.cells #[v.ks[i].c,v.ks[i].n,.slice A7 v.ks[i].ks.length cap7] 45)):=hBr.trans (hbe.mono hBr.size)
    have hBwq:Below w w (wr.alloc (.cells #[v.ks[i].c,v.ks[i].n,.slice A7 v.ks[i].ks.length cap7] 45)):=hBw0.trans (hbe.mono hBw0.size)
    have KD:Hid (Blk (wr.alloc (.cells #[v.ks[i].c,v.ks[i].n,.slice A7 v.ks[i].ks.length cap7] 45)) wr.heap.size 45 #[v.ks[i].c,v.ks[i].n,.slice A7 v.ks[i].ks.length cap7]):=Blk.new _ _ _
    have HKN:Hid (wr.heap.size∉rowOf u8):=fun h=>Nat.lt_irrefl _ (HO.out.row _ h).2
    obtain ⟨kA,kcap,hkv,-,-⟩:=HO.out.form
    subst hkv
    go_wp2_with fail
    clear k0 k1 k2 hb7
    generalize (wr.alloc (.cells #[v.ks[i].c,v.ks[i].n,.slice A7 v.ks[i].ks.length cap7] 45))=wq at *
    generalize wr.heap.size=kd at *
    obtain ⟨hb6q,a0,a1⟩:=ArrTy.at HA6.out HU6.out hBq i hil
    have hb6l:b6<w6.heap.size:=ArrTy_lt HA6.out HU6.out i hil
    have k0:=(KD.out.cell 0).trans (show _=some (.int .i64 v.ks[i].c) from by simp)
    have k1:=(KD.out.cell 1).trans (show _=some (.int .i64 v.ks[i].n) from by simp)
    have k2:=(KD.out.cell 2).trans (show _=some (.slice A7 v.ks[i].ks.length cap7) from by simp)
    have klt:=KD.out.lt
    have hBw:Below w w wq.drew:=hBwq.drew
    have HS:Hid (∀ C:World,Below wq wq C→(C.cell? ⟨b6,off6+i*2,none⟩=ls[i].d∧C.cell? ⟨b6,off6+i*2+1,none⟩=ls[i].i∧C.cell? ⟨kd,0,none⟩=v.ks[i].c∧C.cell? ⟨kd,1,none⟩=v.ks[i].n∧C.cell? ⟨kd,2,none⟩=some (.slice A7 v.ks[i].ks.length cap7))):=fun C hb=>⟨(hb.cell (hb6q)).trans a0,(hb.cell (hb6q)).trans a1,(hb.cell (klt)).trans k0,(hb.cell (klt)).trans k1,(hb.cell (klt)).trans k2⟩
    have hC0:Below wq wq wq.drew:=(zy2 _ _).drew
    refine wpBS HS.out (T:=fun _=>True) (d:=99) (by kernel_rfl) ?_
    obtain ⟨wd,hwd⟩:∃ X,X=wq.drew:=⟨_,rfl⟩
    rw [←hwd] at hC0 hBw  ⊢
    clear hwd
    have hS0:=HS.out _ hC0
    have hT0:True:=trivial
    refine wV 0 rfl hS0 hT0 ?_
    (try simp only [zz])
    refine wV 1 rfl hS0 hT0 ?_
    (try simp only [zz])
    refine wV 2 rfl hS0 hT0 ?_
    (try simp only [zz])
    refine wV 3 rfl hS0 hT0 ?_
    (try simp only [zz])
    refine wV 4 rfl hS0 hT0 ?_
    (try simp only [zz])
    refine wV 5 rfl hS0 hT0 ?_
    (try simp only [zz])
    refine wV 6 rfl hS0 hT0 ?_
    (try simp only [zz])
    refine w1 7 rfl fun K hK=>?_
    go_simp
    go_at_call 74
    refine (IH.out v.ks[i] HMK.out xs HW.out d (by omega) ls[i] HTI.out HFI.out HNI.out wd _ F _ G7 (ArrDt.below HX.out hBw HF.out) (HF.out.mono hBw.size) (HV7.out.below hBw HG7.out) (HG7.out.mono hBw.size)).mono ?_
    rintro e w4 ⟨rfl,hb4⟩
    have hC1:Below wq wq w4:=hC0.trans (hb4.mono hC0.size)
    have hS1:=HS.out _ hC1
    rw [HZ.out]
    (try dsimp only)
    refine hK.out _ _ hS1 (fun _=>trivial) ?_
    clear hK K
    (try simp only [zz])
    have HO5:Hid (Own w4 w6.heap.size 9 1 StrR (vsB xs d ls v.ks i) (.slice kA (vsB xs d ls v.ks i).length kcap) []):=HOq.out.below (fun x cs G hk h=>zA7 _ _ x cs G hk h) (hC1)
    have hB5:Below w6 w6 w4:=hBq.trans (hC1.mono hBq.size)
    have hbs5:w6.heap.size≤w4.heap.size:=hB5.size
    have hb6w:b6<w4.heap.size:=zz9 hb6q hC1.size
    have klt4:kd<w4.heap.size:=zz9 klt hC1.size
    refine w1 8 rfl fun K hK=>?_
    go_simp
    have hSa:(w4.alloc (.cells #[.string Z] 9)).cell? ⟨b6,off6+i*2,none⟩=ls[i].d∧(w4.alloc (.cells #[.string Z] 9)).cell? ⟨b6,off6+i*2+1,none⟩=ls[i].i∧(w4.alloc (.cells #[.string Z] 9)).cell? ⟨kd,0,none⟩=v.ks[i].c∧(w4.alloc (.cells #[.string Z] 9)).cell? ⟨kd,1,none⟩=v.ks[i].n∧(w4.alloc (.cells #[.string Z] 9)).cell? ⟨kd,2,none⟩=some (.slice A7 v.ks[i].ks.length cap7):=⟨(World.cell?_alloc_lt _ _ _ hb6w).trans hS1.1,(World.cell?_alloc_lt _ _ _ hb6w).trans hS1.2.1,(World.cell?_alloc_lt _ _ _ klt4).trans hS1.2.2.1,(World.cell?_alloc_lt _ _ _ klt4).trans hS1.2.2.2.1,(World.cell?_alloc_lt _ _ _ klt4).trans hS1.2.2.2.2⟩
    refine hK.out _ _ hSa (fun _=>trivial) ?_
    clear hK K
    (try simp only [zz])
    refine w1 9 rfl fun K hK=>?_
    refine zAB (P:=Tryz.prog) rfl _ _ 60 rfl i0 _ 16 Tryz.underlying60 HI.out HZ0.out HZ1.out HZ2.out rfl Nat.zero_lt_one zAH zA7 (by rfl) HO5.out Z 9 [.string Z] [] _ (by rfl) rfl (by simp [Value.oneCell']) ⟨rfl,rfl⟩ (Under.nil _) (fun _ _ h=>by cases h) hmx hby hbs5 ?_
    intro g cp w8 hown8 hgr8 hat8
    have hrow:=HO5.out.row
    have hB8:Below w6 w6 w8:=(hB5.alloc hbs5 _).grown hgr8 (by simp;omega) (fun g hg=>(hrow g (zA1.2 hg)).1)
    have l7:w4.heap.size≤(w4.alloc (.cells #[.string Z] 9)).heap.size:=by rw [World.size_alloc];exact Nat.le_succ _
    have hnb6:some b6≠(Value.slice kA (vsB xs d ls v.ks i).length kcap).ownBlock:=fun e=>by
     have:=(hrow b6 (zA1.2 e.symm)).1;omega
    have hnkd:some kd≠(Value.slice kA (vsB xs d ls v.ks i).length kcap).ownBlock:=fun e=>HKN.out (zA1.2 e.symm)
    have hfar:∀ p:Addr,p.block<w4.heap.size→some p.block≠(Value.slice kA (vsB xs d ls v.ks i).length kcap).ownBlock→w8.cell? p=w4.cell? p:=fun p h1 h2=>(World.grownBy.cell_far hgr8 p (zz9 h1 l7) h2).trans (World.cell?_alloc_lt _ _ _ h1)
    have hS8:w8.cell? ⟨b6,off6+i*2,none⟩=ls[i].d∧w8.cell? ⟨b6,off6+i*2+1,none⟩=ls[i].i∧w8.cell? ⟨kd,0,none⟩=v.ks[i].c∧w8.cell? ⟨kd,1,none⟩=v.ks[i].n∧w8.cell? ⟨kd,2,none⟩=some (.slice A7 v.ks[i].ks.length cap7):=⟨(hfar ⟨b6,off6+i*2,none⟩ hb6w hnb6).trans hS1.1,(hfar ⟨b6,off6+i*2+1,none⟩ hb6w hnb6).trans hS1.2.1,(hfar ⟨kd,0,none⟩ klt4 hnkd).trans hS1.2.2.1,(hfar ⟨kd,1,none⟩ klt4 hnkd).trans hS1.2.2.2.1,(hfar ⟨kd,2,none⟩ klt4 hnkd).trans hS1.2.2.2.2⟩
    have HO8:=jj hown8
    refine hK.out _ _ hS8 (fun _=>trivial) ?_
    clear hK K
    (try simp only [zz])
    refine wV 10 rfl hS8 hT0 ?_
    (try simp only [zz])
    refine wE (by kernel_rfl) ?_
    clear hS0 hS1 hS8 hT0 hfar hnkd hnb6 l7 hrow hgr8 hat8 hown8 hbe hb4 HO5 hB5 HOq hBq hBwq hBw HS hC0 hC1
    go_wp2
    go_roundw
    case rel=>exact ⟨i+1,hik,by go_num,by rw [HSU.out];exact HO8.out,hB8⟩
    case measure=>(simp [intOf] <;> omega)
   ·have e1:decide (i<v.ks.length)=false:=by simpa using hik
    have hta:=vsB_all xs d ls v.ks (i:=i) (by have:=HLN.out;omega) (by omega)
    obtain ⟨SS,hSS⟩:∃ s,s=(List.zipWith (vT xs d) ls v.ks).map bs:=⟨_,rfl⟩
    rw [←hSS] at hta HVT
    have HAR:Hid (Arr wr (StrR wr) SS u8 (if vsB xs d ls v.ks i=[] then [] else rowOf u8 ++ [])):=by rw [←hta];exact HO.out.arr
    have HRW:=jj HO.out.row
    have HUA:Hid (Under wr (if vsB xs d ls v.ks i=[] then [] else rowOf u8 ++ [])):=fun b hb=>by
     split at hb
     ·cases hb
     ·rw [List.append_nil] at hb;exact (HRW.out b hb).2
    have hsl:SS.length≤1000:=by rw [←hta];have:=vsB_len xs d ls v.ks i;omega
    have HSL:=jj hsl
    generalize (if vsB xs d ls v.ks i=[] then [] else rowOf u8 ++ [])=FA at HAR HUA
    have hl4:=HL5.out
    rw [HVT.out,List.length_append] at hl4
    have hjl:=join_le SS
    have HSJ:Hid ((Lib.join (SS.map tl) [44]).length≤1000000):=by unfold Hid;omega
    have hll:(bs (listedT SS)).size≤480:=by rw [bs_size];omega
    obtain ⟨L,hL⟩:∃ l,bs (listedT SS)=l:=⟨_,rfl⟩
    rw [hL] at hll
    have HL:=jj hL
    have hf:Hid (bs (vT xs (d+1) ⟨(q:Int),(r:Int)⟩ v)=xs[q].ctors[k].name ++ L):=by unfold Hid;rw [HVT.out,bs_app,HL.out]
    clear hL hta HO hSS hl4 hjl hsl HRW
    have s1:xs[q].ctors[k].name.size+L.size≤9223372036854775807:=by omega
    have s2:(xs[q].ctors[k].name.size:Int)+(L.size:Int)≤9223372036854775807:=by omega
    have s3:¬9223372036854775807<xs[q].ctors[k].name.size+L.size:=by omega
    clear hll hn5
    obtain ⟨b,off,rfl⟩:=HX.out.ptr (by omega)
    obtain ⟨A1,cap1,G1,hbA,n0,n1,HK,HG1,-,hn1,hn2⟩:=ArrDt.at HX.out HF.out hBw0 q hql
    obtain ⟨b3,off3,rfl⟩:=HK.out.ptr (by omega)
    obtain ⟨A9,cap9,G9,hb9,p0,p1,p2,HT9,HTG9,-,-,-⟩:=ArrKt.at HK.out HG1.out hBw0 k hkl
    have g1:(0:Int)≤(q:Int):=by omega
    have g2:(q:Int)<(xs.length:Int):=by omega
    have g3:(0:Int)≤(k:Int):=by omega
    have g4:(k:Int)<(xs[q].ctors.length:Int):=by omega
    have KTr:=jj (KT6.out.same (hBr.block _ KT6.out.lt))
    have KVr:=jj (KV6.out.same (hBr.block _ KV6.out.lt))
    have y0:wr.cell? ⟨w,0,none⟩=(q:Int):=(KTr.out.cell 0).trans (by simp)
    have x0:wr.cell? ⟨w.heap.size+1,0,none⟩=(k:Int):=(KVr.out.cell 0).trans (by simp [HVC.out])
    have klt:=KTr.out.lt
    have klt2:=KVr.out.lt
    have HUAd:Hid (Under wr.drew.heap.size FA):=HUA.out
    have HARd:Hid (Arr wr.drew (StrR wr.drew) SS u8 FA):=ArrStr.mono HAR.out (fun _ _=>rfl)
    clear n0 p1 p2 HAR HUA
    go_wp2_with fail
    have HS:Hid (∀ C:World,Below wr wr C→(C.cell? ⟨w,0,none⟩=(q:Int)∧C.cell? ⟨b,off+q*2+1,none⟩=some (.slice (some ⟨b3,off3,none⟩) xs[q].ctors.length cap1)∧C.cell? ⟨w.heap.size+1,0,none⟩=(k:Int)∧C.cell? ⟨b3,off3+k*3,none⟩=some (.string xs[q].ctors[k].name))):=fun C hb=>⟨(hb.cell (klt)).trans y0,(hb.cell (hbA)).trans n1,(hb.cell (klt2)).trans x0,(hb.cell (hb9)).trans p0⟩
    have hC0:Below wr wr wr.drew:=(zy2 _ _).drew
    refine wpBS HS.out (T:=fun _=>True) (d:=99) (by kernel_rfl) ?_
    obtain ⟨wd,hwd⟩:∃ X,X=wr.drew:=⟨_,rfl⟩
    rw [←hwd] at hC0 HARd HUAd  ⊢
    clear hwd
    have hS0:=HS.out _ hC0
    have hT0:True:=trivial
    refine wV 0 rfl hS0 hT0 ?_
    (try simp only [zz])
    refine wV 1 rfl hS0 hT0 ?_
    (try simp only [zz])
    refine wV 2 rfl hS0 hT0 ?_
    (try simp only [zz])
    refine wV 3 rfl hS0 hT0 ?_
    (try simp only [zz])
    refine wV 4 rfl hS0 hT0 ?_
    (try simp only [zz])
    refine wV 5 rfl hS0 hT0 ?_
    (try simp only [zz])
    refine wV 6 rfl hS0 hT0 ?_
    (try simp only [zz])
    refine wV 7 rfl hS0 hT0 ?_
    (try simp only [zz])
    refine wV 8 rfl hS0 hT0 ?_
    (try simp only [zz])
    refine wV 9 rfl hS0 hT0 ?_
    (try simp only [zz])
    refine wV 10 rfl hS0 hT0 ?_
    (try simp only [zz])
    refine wV 11 rfl hS0 hT0 ?_
    (try simp only [zz])
    refine w1 12 rfl fun K hK=>?_
    go_simp
    go_at_call 83
    refine (impl_listed SS HSL.out HSJ.out wd _ FA HARd.out HUAd.out).mono ?_
    rintro e w4 ⟨rfl,hb4⟩
    have hC1:Below wr wr w4:=hC0.trans (hb4.mono hC0.size)
    have hS1:=HS.out _ hC1
    rw [HL.out]
    (try dsimp only)
    refine hK.out _ _ hS1 (fun _=>trivial) ?_
    clear hK K
    (try simp only [zz])
    refine w1 13 rfl fun K hK=>?_
    go_simp
    refine hK.out _ _ hS1 (fun _=>trivial) ?_
    clear hK K
    (try simp only [zz])
    refine wV 14 rfl hS1 hT0 ?_
    (try simp only [zz])
    refine wE (by kernel_rfl) ?_
    have hB9:Below w w w4:=hBw0.trans (hC1.mono hBw0.size)
    clear hS0 hS1 hT0 HS hC0 hC1
    go_wp2
    go_ret
    exact ⟨zAK hf.out.symm,hB9⟩
theorem impl_valueText:∀ v,TxtI v:=V.indv valueText_of
theorem impl_FormatValue (xs:List Dt) (t:Ty) (v:V) (w:World) (x:Value) (F:List Nat) (cs:List Value) (G:List Nat) (hx:Arr w (DtR w) xs x F) (hf:Under w F) (hv:VR w v cs G) (hg:Under w G) (hz:v.size≤1048576) :
  Calls Tryz.prog 29 #[x,.agg #[t.d,t.i],.agg cs.toArray] w fun e w'=>e=.returned (.string (fmtV xs t v))∧Below w w w':=by
 obtain ⟨kv,rfl,ha⟩:=(zA6 _ _ _).1 hv
 obtain ⟨A,cap,rfl,hc1,hc2⟩:=hx.form
 obtain ⟨A4,cap4,rfl,hc3,hc4⟩:=ha.form
 have HX:=jj hx
 have HF:=jj hf
 have HV:=jj hv
 have HG:=jj hg
 clear hx hf hv hg
 clear ha
 go_enter Tryz.func29,Tryz.ntmps29
 go_wp2_with fail
 obtain ⟨W2,hW2⟩:∃ W2,W2=((w.alloc (.cells #[t.d,t.i] 25)).alloc (.cells #[v.c,v.n,.slice A4 v.ks.length cap4] 45)):=⟨_,rfl⟩
 have hB0:Below w w W2:=by rw [hW2];exact ((zy2 _ _).alloc (zz8 _) _).alloc (by simp) _
 have KT:Hid (Blk W2 w 25 #[t.d,t.i]):=by rw [hW2];exact (Blk.new w _ _).same (Below.heap_alloc _ _ _ (by simp))
 have KV:Hid (Blk W2 (w.heap.size+1) 45 #[v.c,v.n,.slice A4 v.ks.length cap4]):=by rw [hW2];have h:=Blk.new (w.alloc (.cells #[t.d,t.i] 25)) 45 #[v.c,v.n,.slice A4 v.ks.length cap4];rw [World.size_alloc] at h;exact h
 rw [←hW2]
 clear hW2
 refine (impl_ValueValid xs t v W2 _ F _ G (ArrDt.below HX.out hB0 HF.out) (HF.out.mono hB0.size) (HV.out.below hB0 HG.out) (HG.out.mono hB0.size) hz).mono ?_
 rintro e w1 ⟨rfl,hb1⟩
 have hB1:=hB0.trans (hb1.mono hB0.size)
 have KT1:=jj (KT.out.same (hb1.block _ KT.out.lt))
 have KV1:=jj (KV.out.same (hb1.block _ KV.out.lt))
 obtain ⟨y0,y1,-⟩:=KT1.out.c2
 obtain ⟨x0,x1,x2,-⟩:=KV1.out.c3
 have klt:=KT1.out.lt
 have klt2:=KV1.out.lt
 cases q0:valueValidB xs t v with
 |false =>
  have hf:Hid (fmtV xs t v=⟨#[]⟩):=if_neg (by simp [q0])
  clear q0
  go_wp2
  go_ret
  exact ⟨zAK hf.out.symm,hB1⟩
 |true =>
  have hf:Hid (fmtV xs t v=bs (vT xs 10 t v)):=if_pos q0
  obtain ⟨h1,h2,h3,h4⟩:=valid_parts q0
  have H1:=jj h1
  have H2:=jj h2
  have H3:=jj h3
  have H4:=jj h4
  clear h1 h2 h3 h4
  clear q0
  go_wp2_with fail
  refine (impl_valueText v xs H1.out 10 (zz8 _) t H2.out H3.out H4.out w1 _ F _ G (ArrDt.below HX.out hB1 HF.out) (HF.out.mono hB1.size) (HV.out.below hB1 HG.out) (HG.out.mono hB1.size)).mono ?_
  rintro e w2 ⟨rfl,hb2⟩
  have hB2:=hB1.trans (hb2.mono hB1.size)
  go_wp2
  go_ret
  exact ⟨zAK hf.out.symm,hB2⟩
mutual
def P.same:P→P→Bool
 |⟨op,ct,n,m,va,ks⟩,⟨op',ct',n',m',va',ks'⟩=>(op==op') && (ct==ct') && (n==n') && (m==m') && (va==va') && P.sames ks ks'
def P.sames:List P→List P→Bool
 |[],[]=>true
 |x :: xs,y :: ys=>P.same x y && P.sames xs ys
 |[],_ :: _=>false
 |_ :: _,[]=>false
end
theorem P.sames_iff_of (ks:List P) (h:∀ k∈ks,∀ b,P.same k b=true↔k=b):∀ ks',P.sames ks ks'=true↔ks=ks':=by
 induction ks with
 |nil=>intro ks';cases ks' <;> simp [P.sames]
 |cons x xs ih =>
  intro ks'
  cases ks' with
  |nil=>simp [P.sames]
  |cons y ys =>
   simp only [P.sames,Bool.and_eq_true,List.cons.injEq]
   rw [h x (by simp) y,ih (fun k hk=>h k (by simp [hk])) ys]
theorem P.same_iff:∀ a b:P,P.same a b=true↔a=b:=P.ind fun op ct n m va ks ih b=>by
 obtain ⟨op',ct',n',m',va',ks'⟩:=b
 simp only [P.same,Bool.and_eq_true,P.sames_iff_of ks ih,beq_iff_eq,P.mk.injEq,and_assoc]
theorem P.same_false {a b:P} (h:a≠b):P.same a b=false:=by
 rw [Bool.eq_false_iff]
 exact fun e=>h ((P.same_iff a b).1 e)
theorem P.sames_iff (ks ks':List P):P.sames ks ks'=true↔ks=ks':=P.sames_iff_of ks (fun k _=>P.same_iff k) ks'
theorem P.sames_false {ks ks':List P} (h:ks≠ks'):P.sames ks ks'=false:=by
 rw [Bool.eq_false_iff]
 exact fun e=>h ((P.sames_iff ks ks').1 e)
def SameImplP (a:P):Prop:=∀ (b:P) (w:World) (cs ds:List Value) (F G:List Nat),PR w a cs F→PR w b ds G→Under w F→Under w G →
 Calls Tryz.prog 10 #[.agg cs.toArray,.agg ds.toArray] w fun e w'=>e=.returned (.bool (P.same a b))∧Below w w w'
theorem EqualFunc_ofP (ks:List P) (ih:∀ k∈ks,SameImplP k) (ks':List P) (w:World) (x y:Value) (F G:List Nat) (hx:Arr w (PR w) ks x F) (hy:Arr w (PR w) ks' y G) (hF:Under w F) (hG:Under w G) :
  Calls Tryz.prog 35 #[x,y,.func (.func 10) #[] #[]] w fun e w'=>e=.returned (.bool (P.sames ks ks'))∧Below w w w':=by
 have HX:=jj hx
 have HY:=jj hy
 obtain ⟨A,cap,rfl,hc1,hc2⟩:=hx.form
 obtain ⟨A',cap',rfl,hc3,hc4⟩:=hy.form
 clear hx hy
 have IH:=jj ih
 clear ih
 have HF:=jj hF
 have HG:=jj hG
 clear hF hG
 by_cases hl:ks.length=ks'.length
 ·have tl:((ks.length:Int) != (ks'.length:Int))=false:=by rw [hl];simp
  have HL:=jj hl
  have hle1:ks.length≤ks'.length:=by omega
  have hle2:ks'.length≤ks.length:=by omega
  clear hl
  go_enter Tryz.func35,Tryz.ntmps35
  go_wp2
  go_loopw [17] (fun i wr=>∃ k:Nat,k≤ks.length∧i=.int .i64 k∧Hid (ks.take k=ks'.take k)∧Below w w wr) (fun i _=>ks.length-(intOf i).toNat)
  case atStart=>exact ⟨0,Nat.zero_le _,rfl,rfl,zy2 _ _⟩
  case round =>
   obtain ⟨k,hk,rfl,HT,hB⟩:=hrel
   by_cases hlt:k<ks.length
   ·have hlt':k<ks'.length:=by omega
    obtain ⟨b,off,cs,F1,rfl,hb,hcs,hv,hF1⟩:=HX.out.get PR_len hlt
    obtain ⟨b',off',ds,G1,rfl,hb',hds,hv',hG1⟩:=HY.out.get PR_len hlt'
    have hv1:=hv.below hB (HF.out.sub hF1)
    have hv2:=hv'.below hB (HG.out.sub hG1)
    have hbl:=zz9 (HF.out b hb) hB.size
    have hbl':=zz9 (HG.out b' hb') hB.size
    have hcs1:=hcs.same (hB.block b (HF.out b hb))
    have hds1:=hds.same (hB.block b' (HG.out b' hb'))
    obtain ⟨kv,rfl,hka⟩:=(zAE _ _ _).1 hv
    obtain ⟨kv',rfl,hka'⟩:=(zAE _ _ _).1 hv'
    obtain ⟨A1,cap1,rfl,-,-⟩:=hka.form
    obtain ⟨A2,cap2,rfl,-,-⟩:=hka'.form
    have c0:=hcs1 0 _ rfl
    have c1:=hcs1 1 _ rfl
    have c2:=hcs1 2 _ rfl
    have c3:=hcs1 3 _ rfl
    have c4:=hcs1 4 _ rfl
    have c5:=hcs1 5 _ rfl
    have d0:=hds1 0 _ rfl
    have d1:=hds1 1 _ rfl
    have d2:=hds1 2 _ rfl
    have d3:=hds1 3 _ rfl
    have d4:=hds1 4 _ rfl
    have d5:=hds1 5 _ rfl
    simp only [Nat.add_zero] at c0 d0
    clear hcs hcs1 hv hds hds1 hv' hka hka'
    have HV:=jj hv1
    have HV2:=jj hv2
    have HF1:=jj (HF.out.sub hF1)
    have HG1:=jj (HG.out.sub hG1)
    clear hv1 hv2 hF1 hG1
    go_wp2_with fail
    obtain ⟨W2,hW2⟩:∃ W2,W2=(wr.alloc (.cells #[ks[k].op,ks[k].ct,ks[k].n,ks[k].m,ks[k].va,.slice A1 ks[k].ks.length cap1] 28)).alloc (.cells #[ks'[k].op,ks'[k].ct,ks'[k].n,ks'[k].m,ks'[k].va,.slice A2 ks'[k].ks.length cap2] 28):=⟨_,rfl⟩
    have hb2:Below wr wr W2:=by rw [hW2];exact ((zy2 _ _).alloc (zz8 _) _).alloc (by simp) _
    rw [←hW2]
    clear hW2
    have hB2:=hB.trans (hb2.mono hB.size)
    refine (IH.out _ (List.getElem_mem hlt) ks'[k] W2 _ _ F1 G1 (HV.out.below hb2 (HF1.out.mono hB.size)) (HV2.out.below hb2 (HG1.out.mono hB.size)) (HF1.out.mono hB2.size) (HG1.out.mono hB2.size)).mono ?_
    rintro e w' ⟨rfl,hB'⟩
    have hB3:=hB2.trans (hB'.mono hB2.size)
    by_cases he:ks[k]=ks'[k]
    ·rw [(P.same_iff _ _).2 he]
     have hT2:Hid (ks.take (k+1)=ks'.take (k+1)):=by rw [take_snoc' ks k hlt,take_snoc' ks' k hlt',HT.out,he];rfl
     clear he
     go_wp2
     go_roundw
     case rel=>exact ⟨k+1,by omega,by go_num,hT2,hB3⟩
     case measure=>simp [intOf];omega
    ·rw [P.same_false he]
     have hf:=jj (P.sames_false (ks:=ks) (ks':=ks') (fun h=>he (by simp only [h])))
     clear he
     go_wp2
     go_ret
     exact ⟨zA0 hf.out.symm,hB3⟩
   ·have hT:=HT.out
    rw [List.take_of_length_le (by omega),List.take_of_length_le (by omega)] at hT
    have hf:=jj ((P.sames_iff ks ks').2 hT)
    clear hT
    go_wp2
    go_ret
    exact ⟨zA0 hf.out.symm,hB⟩
 ·have tl:((ks.length:Int) != (ks'.length:Int))=true:=by rw [bne_iff_ne];omega
  have hf:=jj (P.sames_false (ks:=ks) (ks':=ks') (fun h=>hl (by rw [h])))
  clear hl
  go_enter Tryz.func35,Tryz.ntmps35
  go_wp2
  go_ret
  exact ⟨zA0 hf.out.symm,zy2 _ _⟩
theorem impl_PatternSame_all:∀ a,SameImplP a:=P.ind fun op ct n m va ks ih b w cs ds F G hv hv' hF hG=>by
 obtain ⟨op',ct',n',m',va',ks'⟩:=b
 obtain ⟨kv,rfl,hk⟩:=(zAE _ _ _).1 hv
 obtain ⟨kv',rfl,hk'⟩:=(zAE _ _ _).1 hv'
 have IH:=jj ih
 clear ih hv hv'
 have HK:=jj hk
 have HK':=jj hk'
 obtain ⟨A,cap,rfl,hc1,hc2⟩:=hk.form
 obtain ⟨A',cap',rfl,hc3,hc4⟩:=hk'.form
 clear hk hk'
 have HF:=jj hF
 have HG:=jj hG
 clear hF hG
 by_cases e0:op=op'
 ·subst e0
  have t0:(op != op)=false:=by simp
  have s0:(op==op)=true:=by simp
  by_cases e1:ct=ct'
  ·subst e1
   have t1:(ct != ct)=false:=by simp
   have s1:(ct==ct)=true:=by simp
   by_cases e2:n=n'
   ·subst e2
    have t2:(n != n)=false:=by simp
    have s2:(n==n)=true:=by simp
    by_cases e3:m=m'
    ·subst e3
     have t3:(m != m)=false:=by simp
     have s3:(m==m)=true:=by simp
     by_cases e4:va=va'
     ·subst e4
      have t4:(va != va)=false:=by simp
      have s4:(va==va)=true:=by simp
      go_enter Tryz.func10,Tryz.ntmps10
      go_wp2_with fail
      obtain ⟨W2,hW2⟩:∃ W2,W2=(w.alloc (.cells #[.int .i64 op,.int .i64 ct,.int .i64 n,.int .i64 m,.int .i64 va,.slice A ks.length cap] 28)).alloc (.cells #[.int .i64 op,.int .i64 ct,.int .i64 n,.int .i64 m,.int .i64 va,.slice A' ks'.length cap'] 28):=⟨_,rfl⟩
      have hB2:Below w w W2:=by rw [hW2];exact ((zy2 _ _).alloc (zz8 _) _).alloc (by simp) _
      rw [←hW2]
      clear hW2
      refine (EqualFunc_ofP ks IH.out ks' W2 _ _ F G (ArrP.below HK.out hB2 HF.out) (ArrP.below HK'.out hB2 HG.out) (HF.out.mono hB2.size) (HG.out.mono hB2.size)).mono ?_
      rintro e w' ⟨rfl,hB'⟩
      have hB3:=hB2.trans (hB'.mono hB2.size)
      have hf:Hid (P.sames ks ks'=P.same ⟨op,ct,n,m,va,ks⟩ ⟨op,ct,n,m,va,ks'⟩):=by simp [Hid,P.same]
      generalize P.sames ks ks'=bb at *
      go_wp2
      go_ret
      exact ⟨zA0 hf.out,hB3⟩
     ·have t4:(va != va')=true:=by simpa using e4
      have s4:(va==va')=false:=by simpa using e4
      have hf:=jj (P.same_false (a:=⟨op,ct,n,m,va,ks⟩) (b:=⟨op,ct,n,m,va',ks'⟩) (fun h=>e4 (by injection h)))
      clear e4
      go_enter Tryz.func10,Tryz.ntmps10
      go_wp2
      go_ret
      exact ⟨zA0 hf.out.symm,((zy2 _ _).alloc (zz8 _) _).alloc (by simp) _⟩
    ·have t3:(m != m')=true:=by simpa using e3
     have s3:(m==m')=false:=by simpa using e3
     have hf:=jj (P.same_false (a:=⟨op,ct,n,m,va,ks⟩) (b:=⟨op,ct,n,m',va',ks'⟩) (fun h=>e3 (by injection h)))
     clear e3
     go_enter Tryz.func10,Tryz.ntmps10
     go_wp2
     go_ret
     exact ⟨zA0 hf.out.symm,((zy2 _ _).alloc (zz8 _) _).alloc (by simp) _⟩
   ·have t2:(n != n')=true:=by simpa using e2
    have s2:(n==n')=false:=by simpa using e2
    have hf:=jj (P.same_false (a:=⟨op,ct,n,m,va,ks⟩) (b:=⟨op,ct,n',m',va',ks'⟩) (fun h=>e2 (by injection h)))
    clear e2
    go_enter Tryz.func10,Tryz.ntmps10
    go_wp2
    go_ret
    exact ⟨zA0 hf.out.symm,((zy2 _ _).alloc (zz8 _) _).alloc (by simp) _⟩
  ·have t1:(ct != ct')=true:=by simpa using e1
   have s1:(ct==ct')=false:=by simpa using e1
   have hf:=jj (P.same_false (a:=⟨op,ct,n,m,va,ks⟩) (b:=⟨op,ct',n',m',va',ks'⟩) (fun h=>e1 (by injection h)))
   clear e1
   go_enter Tryz.func10,Tryz.ntmps10
   go_wp2
   go_ret
   exact ⟨zA0 hf.out.symm,((zy2 _ _).alloc (zz8 _) _).alloc (by simp) _⟩
 ·have t0:(op != op')=true:=by simpa using e0
  have s0:(op==op')=false:=by simpa using e0
  have hf:=jj (P.same_false (a:=⟨op,ct,n,m,va,ks⟩) (b:=⟨op',ct',n',m',va',ks'⟩) (fun h=>e0 (by injection h)))
  clear e0
  go_enter Tryz.func10,Tryz.ntmps10
  go_wp2
  go_ret
  exact ⟨zA0 hf.out.symm,((zy2 _ _).alloc (zz8 _) _).alloc (by simp) _⟩
theorem impl_PatternSame (a b:P) (w:World) (cs ds:List Value) (F G:List Nat) (hx:PR w a cs F) (hy:PR w b ds G) (hF:Under w F) (hG:Under w G) :
  Calls Tryz.prog 10 #[.agg cs.toArray,.agg ds.toArray] w fun e w'=>e=.returned (.bool (P.same a b))∧Below w w w':=impl_PatternSame_all a b w cs ds F G hx hy hF hG
theorem V.sames_iff (ks ks':List V):V.sames ks ks'=true↔ks=ks':=V.sames_iff_of ks (fun k _=>V.same_iff k) ks'
theorem V.sames_false {ks ks':List V} (h:ks≠ks'):V.sames ks ks'=false:=by
 rw [Bool.eq_false_iff]
 exact fun e=>h ((V.sames_iff ks ks').1 e)
def SameImplV (a:V):Prop:=∀ (b:V) (w:World) (cs ds:List Value) (F G:List Nat),VR w a cs F→VR w b ds G→Under w F→Under w G →
 Calls Tryz.prog 28 #[.agg cs.toArray,.agg ds.toArray] w fun e w'=>e=.returned (.bool (V.same a b))∧Below w w w'
theorem EqualFunc_ofV (ks:List V) (ih:∀ k∈ks,SameImplV k) (ks':List V) (w:World) (x y:Value) (F G:List Nat) (hx:Arr w (VR w) ks x F) (hy:Arr w (VR w) ks' y G) (hF:Under w F) (hG:Under w G) :
  Calls Tryz.prog 73 #[x,y,.func (.func 28) #[] #[]] w fun e w'=>e=.returned (.bool (V.sames ks ks'))∧Below w w w':=by
 have HX:=jj hx
 have HY:=jj hy
 obtain ⟨A,cap,rfl,hc1,hc2⟩:=hx.form
 obtain ⟨A',cap',rfl,hc3,hc4⟩:=hy.form
 clear hx hy
 have IH:=jj ih
 clear ih
 have HF:=jj hF
 have HG:=jj hG
 clear hF hG
 by_cases hl:ks.length=ks'.length
 ·have tl:((ks.length:Int) != (ks'.length:Int))=false:=by rw [hl];simp
  have HL:=jj hl
  have hle1:ks.length≤ks'.length:=by omega
  have hle2:ks'.length≤ks.length:=by omega
  clear hl
  go_enter Tryz.func73,Tryz.ntmps73
  go_wp2
  go_loopw [17] (fun i wr=>∃ k:Nat,k≤ks.length∧i=.int .i64 k∧Hid (ks.take k=ks'.take k)∧Below w w wr) (fun i _=>ks.length-(intOf i).toNat)
  case atStart=>exact ⟨0,Nat.zero_le _,rfl,rfl,zy2 _ _⟩
  case round =>
   obtain ⟨k,hk,rfl,HT,hB⟩:=hrel
   by_cases hlt:k<ks.length
   ·have hlt':k<ks'.length:=by omega
    obtain ⟨b,off,cs,F1,rfl,hb,hcs,hv,hF1⟩:=HX.out.get VR_len hlt
    obtain ⟨b',off',ds,G1,rfl,hb',hds,hv',hG1⟩:=HY.out.get VR_len hlt'
    have hv1:=hv.below hB (HF.out.sub hF1)
    have hv2:=hv'.below hB (HG.out.sub hG1)
    have hbl:=zz9 (HF.out b hb) hB.size
    have hbl':=zz9 (HG.out b' hb') hB.size
    have hcs1:=hcs.same (hB.block b (HF.out b hb))
    have hds1:=hds.same (hB.block b' (HG.out b' hb'))
    obtain ⟨kv,rfl,hka⟩:=(zA6 _ _ _).1 hv
    obtain ⟨kv',rfl,hka'⟩:=(zA6 _ _ _).1 hv'
    obtain ⟨A1,cap1,rfl,-,-⟩:=hka.form
    obtain ⟨A2,cap2,rfl,-,-⟩:=hka'.form
    have c0:=hcs1 0 _ rfl
    have c1:=hcs1 1 _ rfl
    have c2:=hcs1 2 _ rfl
    have d0:=hds1 0 _ rfl
    have d1:=hds1 1 _ rfl
    have d2:=hds1 2 _ rfl
    simp only [Nat.add_zero] at c0 d0
    clear hcs hcs1 hv hds hds1 hv' hka hka'
    have HV:=jj hv1
    have HV2:=jj hv2
    have HF1:=jj (HF.out.sub hF1)
    have HG1:=jj (HG.out.sub hG1)
    clear hv1 hv2 hF1 hG1
    go_wp2_with fail
    obtain ⟨W2,hW2⟩:∃ W2,W2=(wr.alloc (.cells #[ks[k].c,ks[k].n,.slice A1 ks[k].ks.length cap1] 45)).alloc (.cells #[ks'[k].c,ks'[k].n,.slice A2 ks'[k].ks.length cap2] 45):=⟨_,rfl⟩
    have hb2:Below wr wr W2:=by rw [hW2];exact ((zy2 _ _).alloc (zz8 _) _).alloc (by simp) _
    rw [←hW2]
    clear hW2
    have hB2:=hB.trans (hb2.mono hB.size)
    refine (IH.out _ (List.getElem_mem hlt) ks'[k] W2 _ _ F1 G1 (HV.out.below hb2 (HF1.out.mono hB.size)) (HV2.out.below hb2 (HG1.out.mono hB.size)) (HF1.out.mono hB2.size) (HG1.out.mono hB2.size)).mono ?_
    rintro e w' ⟨rfl,hB'⟩
    have hB3:=hB2.trans (hB'.mono hB2.size)
    by_cases he:ks[k]=ks'[k]
    ·rw [(V.same_iff _ _).2 he]
     have hT2:Hid (ks.take (k+1)=ks'.take (k+1)):=by rw [take_snoc' ks k hlt,take_snoc' ks' k hlt',HT.out,he];rfl
     clear he
     go_wp2
     go_roundw
     case rel=>exact ⟨k+1,by omega,by go_num,hT2,hB3⟩
     case measure=>simp [intOf];omega
    ·rw [V.same_false he]
     have hf:=jj (V.sames_false (ks:=ks) (ks':=ks') (fun h=>he (by simp only [h])))
     clear he
     go_wp2
     go_ret
     exact ⟨zA0 hf.out.symm,hB3⟩
   ·have hT:=HT.out
    rw [List.take_of_length_le (by omega),List.take_of_length_le (by omega)] at hT
    have hf:=jj ((V.sames_iff ks ks').2 hT)
    clear hT
    go_wp2
    go_ret
    exact ⟨zA0 hf.out.symm,hB⟩
 ·have tl:((ks.length:Int) != (ks'.length:Int))=true:=by rw [bne_iff_ne];omega
  have hf:=jj (V.sames_false (ks:=ks) (ks':=ks') (fun h=>hl (by rw [h])))
  clear hl
  go_enter Tryz.func73,Tryz.ntmps73
  go_wp2
  go_ret
  exact ⟨zA0 hf.out.symm,zy2 _ _⟩
theorem impl_ValueSame_all:∀ a,SameImplV a:=V.ind fun c n ks ih b w cs ds F G hv hv' hF hG=>by
 obtain ⟨c',n',ks'⟩:=b
 obtain ⟨kv,rfl,hk⟩:=(zA6 _ _ _).1 hv
 obtain ⟨kv',rfl,hk'⟩:=(zA6 _ _ _).1 hv'
 have IH:=jj ih
 clear ih hv hv'
 have HK:=jj hk
 have HK':=jj hk'
 obtain ⟨A,cap,rfl,hc1,hc2⟩:=hk.form
 obtain ⟨A',cap',rfl,hc3,hc4⟩:=hk'.form
 clear hk hk'
 have HF:=jj hF
 have HG:=jj hG
 clear hF hG
 by_cases e0:c=c'
 ·subst e0
  have t0:(c != c)=false:=by simp
  have s0:(c==c)=true:=by simp
  by_cases e1:n=n'
  ·subst e1
   have t1:(n != n)=false:=by simp
   have s1:(n==n)=true:=by simp
   go_enter Tryz.func28,Tryz.ntmps28
   go_wp2_with fail
   obtain ⟨W2,hW2⟩:∃ W2,W2=(w.alloc (.cells #[.int .i64 c,.int .i64 n,.slice A ks.length cap] 45)).alloc (.cells #[.int .i64 c,.int .i64 n,.slice A' ks'.length cap'] 45):=⟨_,rfl⟩
   have hB2:Below w w W2:=by rw [hW2];exact ((zy2 _ _).alloc (zz8 _) _).alloc (by simp) _
   rw [←hW2]
   clear hW2
   refine (EqualFunc_ofV ks IH.out ks' W2 _ _ F G (ArrV.below HK.out hB2 HF.out) (ArrV.below HK'.out hB2 HG.out) (HF.out.mono hB2.size) (HG.out.mono hB2.size)).mono ?_
   rintro e w' ⟨rfl,hB'⟩
   have hB3:=hB2.trans (hB'.mono hB2.size)
   have hf:Hid (V.sames ks ks'=V.same ⟨c,n,ks⟩ ⟨c,n,ks'⟩):=by simp [Hid,V.same]
   generalize V.sames ks ks'=bb at *
   go_wp2
   go_ret
   exact ⟨zA0 hf.out,hB3⟩
  ·have t1:(n != n')=true:=by simpa using e1
   have s1:(n==n')=false:=by simpa using e1
   have hf:=jj (V.same_false (a:=⟨c,n,ks⟩) (b:=⟨c,n',ks'⟩) (fun h=>e1 (by injection h)))
   clear e1
   go_enter Tryz.func28,Tryz.ntmps28
   go_wp2
   go_ret
   exact ⟨zA0 hf.out.symm,((zy2 _ _).alloc (zz8 _) _).alloc (by simp) _⟩
 ·have t0:(c != c')=true:=by simpa using e0
  have s0:(c==c')=false:=by simpa using e0
  have hf:=jj (V.same_false (a:=⟨c,n,ks⟩) (b:=⟨c',n',ks'⟩) (fun h=>e0 (by injection h)))
  clear e0
  go_enter Tryz.func28,Tryz.ntmps28
  go_wp2
  go_ret
  exact ⟨zA0 hf.out.symm,((zy2 _ _).alloc (zz8 _) _).alloc (by simp) _⟩
theorem impl_ValueSame (a b:V) (w:World) (cs ds:List Value) (F G:List Nat) (hx:VR w a cs F) (hy:VR w b ds G) (hF:Under w F) (hG:Under w G) :
  Calls Tryz.prog 28 #[.agg cs.toArray,.agg ds.toArray] w fun e w'=>e=.returned (.bool (V.same a b))∧Below w w w':=impl_ValueSame_all a b w cs ds F G hx hy hF hG
end Go.Proofs.YtjjclcmmfeegfaaGreatDoor
namespace Go.Proofs.YtjjclcmmfeegfaaGreatDoor
open Go.ChangeShapes Go.WideShapes Go.ChangeAt Go.RowKit
section
variable {H : Type} {enc : TypeId × Value → H} {P : Program} {w : World} {base : Nat} {spare : Nat → Bool} {held : Bool}
theorem cell_lt {w:World} {a:Addr} {v:Value} (h:w.cell? a=some v):a.block<w.heap.size:=by
 rcases Nat.lt_or_ge a.block w.heap.size with hl | hl
 ·exact hl
 ·unfold World.cell? at h
  rw [Array.getElem?_eq_none hl] at h
  cases h
theorem open_Arr {α:Type} (R:α→List Value→List Nat→Prop) {t e:TypeId} {k n fuel:Nat} {cs:List Value} {x:DataW H×List MemPlace} (ht:P.underlying t=some (.slice e)) (hk:P.cellsOf e=k) (hk0:0<k) (hf:fuel=n+1)
  (hR:∀ ds y,DataW.trod enc P w base spare held n e ds=some y→ds.length=k→∃ a F,R a ds F∧Under w F)
  (h:DataW.trod enc P w base spare held fuel t cs=some x):∃ xs v F,cs=[v]∧Arr w R xs v F∧Under w F:=by
 subst hf
 rcases DataW.trod_slice ht h with ⟨rfl,-⟩ | ⟨a,len,cap,elems,rest,m,hm,rfl,-,-,hl,hmax,hlen,hel,-,-⟩
 ·exact ⟨[],_,[],rfl,Arr.nil,Under.nil _⟩
 ·obtain rfl:n=m:=by omega
  by_cases h0:len=0
  ·subst h0
   exact ⟨[],_,[],rfl,⟨_,_,rfl,hl,hmax,.inl ⟨rfl,rfl⟩⟩,Under.nil _⟩
  ·have get:∀ i,i<len→∃ ds y,(∀ j,j<k→w.cell? (a.add (i*k+j))=ds[j]?)∧ds.length=k∧DataW.trod enc P w base spare held n e ds=some y:=fun i hi=>by
    have h1:=hel i hi
    rw [List.getElem?_eq_getElem (by omega),Option.bind_eq_some_iff] at h1
    obtain ⟨ds,h2,h3⟩:=h1
    obtain ⟨-,h4,h5⟩:=World.cells?_some h2
    rw [hk] at h4 h5
    refine ⟨ds,_,fun j hj=>?_,h4,h3⟩
    rw [←h5 j hj]
    congr 1
    unfold Addr.add
    by_cases e1:i*k=0 <;> by_cases e2:j=0 <;> simp [e1,e2,Nat.add_assoc]
   obtain ⟨b,off,spot⟩:=a
   obtain ⟨ds0,y0,g1,g2,-⟩:=get 0 (by omega)
   have hc0:w.cell? ⟨b,off,spot⟩=some (ds0[0]'(by omega)):=by
    have:=g1 0 hk0
    simpa [Addr.add,List.getElem?_eq_getElem (show 0<ds0.length by omega)] using this
   have hspot:spot=none:=by simpa using World.cell?_spot hc0
   subst hspot
   have hb:b<w.heap.size:=cell_lt hc0
   have key:∀ m,m≤len→∃ (xs:List α) (cs:List Value) (F:List Nat),xs.length=m∧cs.length=m*k∧CellsAt w b off cs∧Flat R xs cs F∧Under w F:=by
    intro m
    induction m with
    |zero=>intro _;exact ⟨[],[],[],rfl,by simp,fun j u hj=>by simp at hj,⟨rfl,rfl⟩,Under.nil _⟩
    |succ m ih =>
     intro hm
     obtain ⟨xs,cs,F,h1,h2,h3,h4,h5⟩:=ih (by omega)
     obtain ⟨ds,y,g1,g2,g3⟩:=get m (by omega)
     obtain ⟨z,G,r1,r2⟩:=hR ds y g3 g2
     refine ⟨xs ++ [z],cs ++ ds,F ++ G,by simp [h1],by simp [h2,g2,Nat.add_mul],h3.append (fun j u hj=>?_),h4.append (Flat.one r1),fun c hc=>?_⟩
     ·have hjk:j<k:=by rw [←g2];exact (List.getElem?_eq_some_iff.1 hj).1
      have:=g1 j hjk
      rw [hj,Addr.add_lit] at this
      rw [h2,←this]
      congr 2
      omega
     ·rcases List.mem_append.1 hc with hc | hc
      ·exact h5 c hc
      ·exact r2 c hc
   obtain ⟨xs,cs,F,h1,h2,h3,h4,h5⟩:=key len (zz8 _)
   refine ⟨xs,_,b :: F,rfl,⟨_,_,by rw [h1],by omega,hmax,.inr ⟨b,off,cs,F,rfl,h3,h4,rfl⟩⟩,fun c hc=>?_⟩
   rcases List.mem_cons.1 hc with rfl | hc
   ·exact hb
   ·exact h5 c hc
theorem open_slice_arg {α:Type} (R:α→List Value→List Nat→Prop) {t e:TypeId} {k:Nat} {r:Reach} {b0:Nat} {v:Value} {d:DataW H} {ps:List MemPlace} (ht:P.underlying t=some (.slice e)) (hk:P.cellsOf e=k) (hk0:0<k)
  (hR:∀ n ds y,DataW.trod enc P w base spare held n e ds=some y→∃ a F,R a ds F∧Under w F)
  (hval:Value.okWide P w r b0 t v) (h:DataW.Trod enc P w base spare held t v d ps):∃ xs F,Arr w R xs v F∧Under w F:=by
 obtain ⟨a,len,cap,rfl⟩:=okWide_slice ht hval
 obtain ⟨fuel,hf⟩:=h
 cases fuel with
 |zero=>simp [DataW.trod] at hf
 |succ n =>
  obtain ⟨xs,v,F,hv,ha,hF⟩:=open_Arr R ht hk hk0 rfl (fun ds y hd _=>hR n ds y hd) hf
  have:v=.slice a len cap:=by simpa [Value.cells] using hv.symm
  subst this
  exact ⟨xs,F,ha,hF⟩
end
end Go.Proofs.YtjjclcmmfeegfaaGreatDoor
namespace Go.Proofs.YtjjclcmmfeegfaaGreatDoor
open Go.ChangeShapes Go.WideShapes Go.ChangeAt Go.RowKit
set_option maxRecDepth 100000
theorem cellsOf_u8:Tryz.prog.cellsOf 5=1:=by kernel_rfl
theorem open_By_cells {H:Type} {enc:TypeId×Value→H} {w:World} {base:Nat} {spare:Nat→Bool} {held:Bool} (fuel:Nat) (cs:List Value) (x:DataW H×List MemPlace)
  (h:DataW.trod enc Tryz.prog w base spare held fuel 5 cs=some x):∃ v F,ByR w v cs F∧Under w F:=by
 cases fuel with
 |zero=>simp [DataW.trod] at h
 |succ n =>
 obtain ⟨i0,e0,-,e2⟩:=DataW.trod_int Tryz.underlying5 h
 have hw:IntKind.u8.min≤i0∧i0≤IntKind.u8.max:=by simpa [Lit.wf] using e2
 have h0:IntKind.u8.min=0:=rfl
 have h1:IntKind.u8.max=255:=rfl
 exact ⟨i0,[],⟨e0,rfl,by omega,by omega⟩,Under.nil _⟩
theorem open_Bytes {H:Type} {enc:TypeId×Value→H} {w:World} {base:Nat} {spare:Nat→Bool} {held:Bool} {r:Reach} {b0:Nat} {v:Value} {d:DataW H} {ps:List MemPlace} (hval:Value.okWide Tryz.prog w r b0 22 v)
  (h:DataW.Trod enc Tryz.prog w base spare held 22 v d ps):∃ (x:List Int) (F:List Nat),Arr w (ByR w) x v F∧Under w F :=
 open_slice_arg (ByR w) Tryz.underlying22 cellsOf_u8 (by decide) (fun n ds y hd=>open_By_cells n ds y hd) hval h
end Go.Proofs.YtjjclcmmfeegfaaGreatDoor
