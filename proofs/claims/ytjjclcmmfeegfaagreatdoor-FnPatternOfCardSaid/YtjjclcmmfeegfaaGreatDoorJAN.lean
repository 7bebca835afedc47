/-
  Lemmas, and contracts of functions. Conditions: none.
-/
import Derived.Test.YtjjclcmmfeegfaaGreatDoorJAM
import Derived.Test.YtjjclcmmfeegfaaGreatDoorJAL
import Derived.Test.YtjjclcmmfeegfaaGreatDoorJAB
import Derived.Test.YtjjclcmmfeegfaaGreatDoorJAC
import Derived.Deep.RegionWith

set_option linter.unusedVariables false
set_option linter.unusedSimpArgs false
set_option maxRecDepth 100000
set_option maxHeartbeats 1600000

namespace Go.Proofs.YtjjclcmmfeegfaaGreatDoor
open Go.RowKit
def psB (xs:List Dt) (d:Nat) (ls:List Ty) (ks:List P) (i:Nat):List ByteArray:=(List.zipWith (pT xs d) (ls.take i) (ks.take i)).map bs
theorem psB_len (xs:List Dt) (d:Nat) (ls:List Ty) (ks:List P) (i:Nat):(psB xs d ls ks i).length≤i:=by
 unfold psB;rw [List.length_map,List.length_zipWith,List.length_take];omega
theorem psB_succ (xs:List Dt) (d:Nat) (ls:List Ty) (ks:List P) (i:Nat) (h1:i<ls.length) (h2:i<ks.length):psB xs d ls ks (i+1)=psB xs d ls ks i ++ [bs (pT xs d ls[i] ks[i])]:=by
 unfold psB
 rw [take_snoc' ls i h1,take_snoc' ks i h2,List.zipWith_append (by rw [List.length_take,List.length_take];omega),List.map_append]
 rfl
theorem psB_all (xs:List Dt) (d:Nat) (ls:List Ty) (ks:List P) {i:Nat} (h1:ls.length≤i) (h2:ks.length≤i):psB xs d ls ks i=(List.zipWith (pT xs d) ls ks).map bs:=by
 unfold psB;rw [List.take_of_length_le h1,List.take_of_length_le h2]
theorem join_le (ss:List ByteArray):(Lib.join (ss.map tl) [44]).length≤(listedT ss).length:=by
 unfold listedT
 cases ss with
 |nil=>simp [Lib.join]
 |cons a l=>rw [if_neg (by simp)];simp only [List.length_cons,List.length_append];omega
theorem bs_app (s:ByteArray) (l:List UInt8):bs (tl s ++ l)=s ++ bs l:=by rw [←bs_append,bs_tl]
theorem ArrTy_lt {w0:World} {b off n cap:Nat} {F:List Nat} {xs:List Ty} (h:Arr w0 (TyR w0) xs (.slice (some ⟨b,off,none⟩) n cap) F) (hF:Under w0 F) (i:Nat) (hi:i<xs.length):b<w0.heap.size:=(ArrTy.at h hF (zy2 _ _) i hi).1
theorem zB5 (xs:List Dt) (hw:WorldOK xs) (t:Ty) (ht:TyIn xs.length t) (p:P) (hn:nodeB xs t p=true) (w:World) (x:Value) (F:List Nat) (cs:List Value) (G:List Nat):Arr w (DtR w) xs x F→Under w F→PR w p cs G→Under w G →
  Calls Tryz.prog 80 #[x,.agg #[t.d,t.i],.agg cs.toArray] w fun e w'=>∃ v F,e=.returned v∧Below w w w'∧Fresh w w' F∧Arr w' (TyR w') (typesP xs t p) v F:=by
 intro hx hf hv hg
 obtain ⟨kv,rfl,ha⟩:=(zAE _ _ _).1 hv
 obtain ⟨A,cap,rfl,hc1,hc2⟩:=hx.form
 obtain ⟨A4,cap4,rfl,hc3,hc4⟩:=ha.form
 have HX:=jj hx
 have HF:=jj hf
 have HV:=jj hv
 have HG:=jj hg
 clear hx hf hv hg
 clear ha
 have HW:=jj hw
 have HN:=jj hn
 clear hn hw
 have hB0:Below w w ((w.alloc (.cells #[t.d,t.i] 25)).alloc (.cells #[p.op,p.ct,p.n,p.m,p.va,.slice A4 p.ks.length cap4] 28)):=((zy2 _ _).alloc (zz8 _) _).alloc (by simp) _
 have KT:Hid (Blk ((w.alloc (.cells #[t.d,t.i] 25)).alloc (.cells #[p.op,p.ct,p.n,p.m,p.va,.slice A4 p.ks.length cap4] 28)) w.heap.size 25 #[t.d,t.i]):=(Blk.new w _ _).same (Below.heap_alloc _ _ _ (by simp))
 have KV:Hid (Blk ((w.alloc (.cells #[t.d,t.i] 25)).alloc (.cells #[p.op,p.ct,p.n,p.m,p.va,.slice A4 p.ks.length cap4] 28)) (w.heap.size+1) 28 #[p.op,p.ct,p.n,p.m,p.va,.slice A4 p.ks.length cap4]):=by have h:=Blk.new (w.alloc (.cells #[t.d,t.i] 25)) 28 #[p.op,p.ct,p.n,p.m,p.va,.slice A4 p.ks.length cap4];rw [World.size_alloc] at h;exact h
 go_enter Tryz.func80,Tryz.ntmps80
 go_wp2_with fail
 obtain ⟨W2,hW2⟩:∃ W2,W2=((w.alloc (.cells #[t.d,t.i] 25)).alloc (.cells #[p.op,p.ct,p.n,p.m,p.va,.slice A4 p.ks.length cap4] 28)):=⟨_,rfl⟩
 rw [←hW2] at hB0 KT KV ⊢
 clear hW2
 refine (impl_shape xs HW.out t ht p W2 _ F _ G (ArrDt.below HX.out hB0 HF.out) (HF.out.mono hB0.size) (HV.out.below hB0 HG.out) (HG.out.mono hB0.size)).mono ?_
 rintro e w1 ⟨v1,F1,rfl,hb1,hf1,ha1⟩
 rw [HN.out]
 have HA1:=jj (ha1 HN.out)
 have HF1:Hid (Fresh w w1 F1):=fun b hb=>⟨Nat.le_trans hB0.size (hf1 b hb).1,(hf1 b hb).2⟩
 have hB1:=hB0.trans (hb1.mono hB0.size)
 clear hf1 ha1 hb1
 go_wp2
 go_ret
 exact ⟨v1,F1,rfl,hB1,HF1,HA1.out⟩
def TxtPI (p:P):Prop:=∀ (xs:List Dt) (_:WorldOK xs) (d:Nat) (_:d≤10) (t:Ty) (_:TyIn xs.length t) (_:shapeB xs d t p=true) (_:nodesP p≤60) (w:World) (x:Value) (F:List Nat) (cs:List Value) (G:List Nat),Arr w (DtR w) xs x F→Under w F→PR w p cs G→Under w G →
 Calls Tryz.prog 32 #[x,.agg #[t.d,t.i],.agg cs.toArray] w fun e w'=>e=.returned (.string (bs (pT xs d t p)))∧Below w w w'
set_option maxHeartbeats 16000000 in
theorem patternText_1 (p:P) (ih:∀ k∈p.ks,TxtPI k) (hop:p.op=1):TxtPI p:=by
 intro xs hw d hd t ht hsh hn60 w x F cs G hx hf hv hg
 obtain ⟨kv,rfl,ha⟩:=(zAE _ _ _).1 hv
 obtain ⟨A,cap,rfl,hc1,hc2⟩:=hx.form
 obtain ⟨A4,cap4,rfl,hc3,hc4⟩:=ha.form
 cases d with
 |zero=>rw [shapeB] at hsh;cases hsh
 |succ d =>
 have hlen:=pT_len hw (d+1) t p ht hsh
 obtain ⟨ho,hl,hall⟩:=zB3 hsh
 have HKN:Hid (∀ k∈p.ks,nodesP k≤60):=fun k hk=>Nat.le_trans (nodesP_kid hk) hn60
 have HW:=jj hw
 have ArrP_PR:Hid (∀ W,Below w w W→PR W p _ G):=fun W hb=>PR.below hv hb hg
 have IH:=jj ih
 have HT:=jj ht
 have HO:=jj ho
 have HLN:=jj hl
 have HTI:=jj (typesP_in hw ht ho)
 have HAG:=jj (fun i h1 h2=>allP_get hall i h1 h2)
 have HX:=jj hx
 have HF:=jj hf
 have HA:=jj ha
 have HG:=jj hg
 clear hx hf ha hg
 clear hw ih hv hsh ht hl hall
 have HLEN:Hid ((pT xs (d+1) t p).length≤480):=by unfold Hid;omega
 have HND:Hid (nodeB xs t p=true):=by unfold Hid nodeB;rw [Bool.and_eq_true];exact ⟨HO.out,by rw [HLN.out];simp⟩
 have htl:=typesP_len HW.out HT.out HO.out
 have hkl3:p.ks.length≤3:=by rw [HLN.out];exact htl
 have e1:(p.op==1)=true:=by rw [hop];decide
 have HFT:Hid (bs (pT xs (d+1) t p)=⟨#[95]⟩):=by
  unfold Hid;rw [pT_succ,nodeT_1 hop];rfl
 clear hop
 clear htl hlen
 obtain ⟨i0,hi,hz0,hz1,hz2⟩:=info_parts info_strE
 have HI:=jj hi
 have HZ0:=jj hz0
 have HZ1:=jj hz1
 have HZ2:=jj hz2
 clear hi hz0 hz1 hz2
 have hB0:Below w w ((w.alloc (.cells #[t.d,t.i] 25)).alloc (.cells #[p.op,p.ct,p.n,p.m,p.va,.slice A4 p.ks.length cap4] 28)):=((zy2 _ _).alloc (zz8 _) _).alloc (by simp) _
 have KT:Hid (Blk ((w.alloc (.cells #[t.d,t.i] 25)).alloc (.cells #[p.op,p.ct,p.n,p.m,p.va,.slice A4 p.ks.length cap4] 28)) w.heap.size 25 #[t.d,t.i]):=(Blk.new w _ _).same (Below.heap_alloc _ _ _ (by simp))
 have KV:Hid (Blk ((w.alloc (.cells #[t.d,t.i] 25)).alloc (.cells #[p.op,p.ct,p.n,p.m,p.va,.slice A4 p.ks.length cap4] 28)) (w.heap.size+1) 28 #[p.op,p.ct,p.n,p.m,p.va,.slice A4 p.ks.length cap4]):=by have h:=Blk.new (w.alloc (.cells #[t.d,t.i] 25)) 28 #[p.op,p.ct,p.n,p.m,p.va,.slice A4 p.ks.length cap4];rw [World.size_alloc] at h;exact h
 go_enter Tryz.func32,Tryz.ntmps32
 go_wp2_with fail
 obtain ⟨W2,hW2⟩:∃ W2,W2=((w.alloc (.cells #[t.d,t.i] 25)).alloc (.cells #[p.op,p.ct,p.n,p.m,p.va,.slice A4 p.ks.length cap4] 28)):=⟨_,rfl⟩
 rw [←hW2] at hB0 KT KV ⊢
 clear hW2
 refine (zB5 xs HW.out t HT.out p HND.out W2 _ F _ G (ArrDt.below HX.out hB0 HF.out) (HF.out.mono hB0.size) (ArrP_PR.out W2 hB0) (HG.out.mono hB0.size)).mono ?_
 rintro e w6 ⟨v6,F6,rfl,hb6,hfs6,ha6⟩
 have hB6:=hB0.trans (hb6.mono hB0.size)
 have KT6:=jj (KT.out.same (hb6.block _ KT.out.lt))
 have KV6:=jj (KV.out.same (hb6.block _ KV.out.lt))
 generalize hass:typesP xs t p=ls at *
 clear hass
 obtain ⟨A6,cap6,rfl,hd3,hd4⟩:=ha6.form
 have HA6:=jj ha6
 have HU6:=jj hfs6.under
 clear ha6 hfs6 hb6 KT KV hB0
 obtain ⟨-,-,-,-,-,z5,klt2⟩:=KV6.out.c6
 have HNIL:Hid (Own w6 w6.heap.size 9 1 StrR (psB xs d ls p.ks 0) (.slice none 0 0) []):=(show Own _ _ _ _ _ (psB xs d ls p.ks 0) _ _ from Own.nil _ _ _ _ _)
 go_wp2
 clear z5 klt2
 go_loopw [8,18] (fun ov iv wr=>∃ i:Nat,i≤p.ks.length∧iv=.int .i64 i∧Hid (Own wr w6.heap.size 9 1 StrR (psB xs d ls p.ks i) ov [])∧Below w6 w6 wr) (fun _ iv _=>p.ks.length-(intOf iv).toNat)
 case atStart=>exact ⟨0,Nat.zero_le _,rfl,HNIL,zy2 _ _⟩
 case round =>
  clear HNIL
  obtain ⟨i,hi,rfl,HOw,hBr⟩:=hrel
  have hBw0:Below w w wr:=hB6.trans (hBr.mono hB6.size)
  by_cases hik:i<p.ks.length
  ·have hil:i<ls.length:=by rw [←HLN.out];exact hik
   obtain ⟨b6,off6,rfl⟩:=HA6.out.ptr (by omega)
   obtain ⟨b4,off4,rfl⟩:=HA.out.ptr (by omega)
   obtain ⟨A7,cap7,G7,hb7,k0,k1,k2,k3,k4,k5,HV7,HG7,-,-,-⟩:=ArrP.at HA.out HG.out hBw0 i hik
   have g1:(0:Int)≤(i:Int):=by omega
   have g2:(i:Int)<(ls.length:Int):=by omega
   have g3:(i:Int)<(p.ks.length:Int):=by omega
   have e1':decide (i<p.ks.length)=true:=by simpa using hik
   have HFI:Hid (shapeB xs d ls[i] p.ks[i]=true):=HAG.out i hil hik
   have HMK:Hid (p.ks[i]∈p.ks):=List.getElem_mem hik
   have HNI:Hid (nodesP p.ks[i]≤60):=HKN.out _ HMK.out
   have HTI2:=jj (HTI.out _ (List.getElem_mem hil))
   have HSC:=jj (psB_succ xs d ls p.ks i hil hik)
   obtain ⟨Z,hZ⟩:∃ z,bs (pT xs d ls[i] p.ks[i])=z:=⟨_,rfl⟩
   have HZ:=jj hZ
   have HSU:Hid (psB xs d ls p.ks (i+1)=psB xs d ls p.ks i ++ [Z]):=by rw [←HZ.out];exact HSC.out
   clear hZ HSC
   have hlm:=psB_len xs d ls p.ks i
   have hmx:(psB xs d ls p.ks i).length+1≤maxLen:=by unfold maxLen;omega
   have hby:((psB xs d ls p.ks i).length+1)*16≤140737488355328:=by omega
   have hbe:Below wr wr (wr.alloc (.cells #[p.ks[i].op,p.ks[i].ct,p.ks[i].n,p.ks[i].m,p.ks[i].va,.slice A7 p.ks[i].ks.length cap7] 28)):=(zy2 _ _).alloc (zz8 _) _
   have HOq:Hid (Own (wr.alloc (.cells #[p.ks[i].op,p.ks[i].ct,p.ks[i].n,p.ks[i].m,p.ks[i].va,.slice A7 p.ks[i].ks.length cap7] 28)) w6.heap.size 9 1 StrR (psB xs d ls p.ks i) u8 []):=HOw.out.below (fun x cs G hk h=>zA7 _ _ x cs G hk h) hbe
   have hBq:Below w6 w6 (wr.alloc (.cells #[p.ks[i].op,p.ks[i].ct,p.ks[i].n,p.ks[i].m,p.ks[i].va,.slice A7 p.ks[i].ks.length cap7] 28)):=hBr.trans (hbe.mono hBr.size)
   have hBwq:Below w w (wr.alloc (.cells #[p.ks[i].op,p.ks[i].ct,p.ks[i].n,p.ks[i].m,p.ks[i].va,.slice A7 p.ks[i].ks.length cap7] 28)):=hBw0.trans (hbe.mono hBw0.size)
   have KD:Hid (Blk (wr.alloc (.cells #[p.ks[i].op,p.ks[i].ct,p.ks[i].n,p.ks[i].m,p.ks[i].va,.slice A7 p.ks[i].ks.length cap7] 28)) wr.heap.size 28 #[p.ks[i].op,p.ks[i].ct,p.ks[i].n,p.ks[i].m,p.ks[i].va,.slice A7 p.ks[i].ks.length cap7]):=Blk.new _ _ _
   have HKD:Hid (wr.heap.size∉rowOf u8):=fun h=>Nat.lt_irrefl _ (HOw.out.row _ h).2
   obtain ⟨kA,kcap,hkv,-,-⟩:=HOw.out.form
   subst hkv
   go_wp2_with fail
   clear k0 k1 k2 k3 k4 k5 hb7
   generalize (wr.alloc (.cells #[p.ks[i].op,p.ks[i].ct,p.ks[i].n,p.ks[i].m,p.ks[i].va,.slice A7 p.ks[i].ks.length cap7] 28))=wq at *
   generalize wr.heap.size=kd at *
   obtain ⟨hb6q,a0,a1⟩:=ArrTy.at HA6.out HU6.out hBq i hil
   have hb6l:b6<w6.heap.size:=ArrTy_lt HA6.out HU6.out i hil
   have k0:=(KD.out.cell 0).trans (show _=some (.int .i64 p.ks[i].op) from by simp)
   have k1:=(KD.out.cell 1).trans (show _=some (.int .i64 p.ks[i].ct) from by simp)
   have k2:=(KD.out.cell 2).trans (show _=some (.int .i64 p.ks[i].n) from by simp)
   have k3:=(KD.out.cell 3).trans (show _=some (.int .i64 p.ks[i].m) from by simp)
   have k4:=(KD.out.cell 4).trans (show _=some (.int .i64 p.ks[i].va) from by simp)
   have k5:=(KD.out.cell 5).trans (show _=some (.slice A7 p.ks[i].ks.length cap7) from by simp)
   have klt:=KD.out.lt
   have hBw:Below w w wq.drew:=hBwq.drew
   have HS:Hid (∀ C:World,Below wq wq C→(C.cell? ⟨b6,off6+i*2,none⟩=ls[i].d∧C.cell? ⟨b6,off6+i*2+1,none⟩=ls[i].i∧C.cell? ⟨kd,0,none⟩=p.ks[i].op∧C.cell? ⟨kd,1,none⟩=p.ks[i].ct∧C.cell? ⟨kd,2,none⟩=p.ks[i].n∧C.cell? ⟨kd,3,none⟩=p.ks[i].m∧C.cell? ⟨kd,4,none⟩=p.ks[i].va∧C.cell? ⟨kd,5,none⟩=some (.slice A7 p.ks[i].ks.length cap7))):=fun C hb=>⟨(hb.cell (hb6q)).trans a0,(hb.cell (hb6q)).trans a1,(hb.cell (klt)).trans k0,(hb.cell (klt)).trans k1,(hb.cell (klt)).trans k2,(hb.cell (klt)).trans k3,(hb.cell (klt)).trans k4,(hb.cell (klt)).trans k5⟩
   have hC0:Below wq wq wq.drew:=(zy2 _ _).drew
   refine wpBS HS.out (T:=fun _=>True) (d:=99) (by kernel_rfl) ?_
   obtain ⟨wd,hwd⟩:∃ X,X=wq.drew:=⟨_,rfl⟩
   rw [←hwd] at hC0 hBw  ⊢
   clear hwd
   have hS0:=HS.out _ hC0
   have hT0:True:=trivial
   refine wV 0 rfl hS0 hT0 ?_
   (try simp only [zz])
   refine wV 1 rfl hS0 hT0 ?_
   (try simp only [zz])
   refine wV 2 rfl hS0 hT0 ?_
   (try simp only [zz])
   refine wV 3 rfl hS0 hT0 ?_
   (try simp only [zz])
   refine wV 4 rfl hS0 hT0 ?_
   (try simp only [zz])
   refine wV 5 rfl hS0 hT0 ?_
   (try simp only [zz])
   refine wV 6 rfl hS0 hT0 ?_
   (try simp only [zz])
   refine w1 7 rfl fun K hK=>?_
   go_simp
   go_at_call 32
   refine (IH.out p.ks[i] HMK.out xs HW.out d (by omega) ls[i] HTI2.out HFI.out HNI.out wd _ F _ G7 (ArrDt.below HX.out hBw HF.out) (HF.out.mono hBw.size) (HV7.out.below hBw HG7.out) (HG7.out.mono hBw.size)).mono ?_
   rintro e w4 ⟨rfl,hb4⟩
   have hC1:Below wq wq w4:=hC0.trans (hb4.mono hC0.size)
   have hS1:=HS.out _ hC1
   rw [HZ.out]
   (try dsimp only)
   refine hK.out _ _ hS1 (fun _=>trivial) ?_
   clear hK K
   (try simp only [zz])
   have HO5:Hid (Own w4 w6.heap.size 9 1 StrR (psB xs d ls p.ks i) (.slice kA (psB xs d ls p.ks i).length kcap) []):=HOq.out.below (fun x cs G hk h=>zA7 _ _ x cs G hk h) (hC1)
   have hB5:Below w6 w6 w4:=hBq.trans (hC1.mono hBq.size)
   have hbs5:w6.heap.size≤w4.heap.size:=hB5.size
   have hb6w:b6<w4.heap.size:=zz9 hb6q hC1.size
   have klt4:kd<w4.heap.size:=zz9 klt hC1.size
   refine w1 8 rfl fun K hK=>?_
   go_simp
   have hSa:(w4.alloc (.cells #[.string Z] 9)).cell? ⟨b6,off6+i*2,none⟩=ls[i].d∧(w4.alloc (.cells #[.string Z] 9)).cell? ⟨b6,off6+i*2+1,none⟩=ls[i].i∧(w4.alloc (.cells #[.string Z] 9)).cell? ⟨kd,0,none⟩=p.ks[i].op∧(w4.alloc (.cells #[.string Z] 9)).cell? ⟨kd,1,none⟩=p.ks[i].ct∧(w4.alloc (.cells #[.string Z] 9)).cell? ⟨kd,2,none⟩=p.ks[i].n∧(w4.alloc (.cells #[.string Z] 9)).cell? ⟨kd,3,none⟩=p.ks[i].m∧(w4.alloc (.cells #[.string Z] 9)).cell? ⟨kd,4,none⟩=p.ks[i].va∧(w4.alloc (.cells #[.string Z] 9)).cell? ⟨kd,5,none⟩=some (.slice A7 p.ks[i].ks.length cap7):=⟨(World.cell?_alloc_lt _ _ _ hb6w).trans hS1.1,(World.cell?_alloc_lt _ _ _ hb6w).trans hS1.2.1,(World.cell?_alloc_lt _ _ _ klt4).trans hS1.2.2.1,(World.cell?_alloc_lt _ _ _ klt4).trans hS1.2.2.2.1,(World.cell?_alloc_lt _ _ _ klt4).trans hS1.2.2.2.2.1,(World.cell?_alloc_lt _ _ _ klt4).trans hS1.2.2.2.2.2.1,(World.cell?_alloc_lt _ _ _ klt4).trans hS1.2.2.2.2.2.2.1,(World.cell?_alloc_lt _ _ _ klt4).trans hS1.2.2.2.2.2.2.2⟩
   refine hK.out _ _ hSa (fun _=>trivial) ?_
   clear hK K
   (try simp only [zz])
   refine w1 9 rfl fun K hK=>?_
   refine zAB (P:=Tryz.prog) rfl _ _ 60 rfl i0 _ 16 Tryz.underlying60 HI.out HZ0.out HZ1.out HZ2.out rfl Nat.zero_lt_one zAH zA7 (by rfl) HO5.out Z 9 [.string Z] [] _ (by rfl) rfl (by simp [Value.oneCell']) ⟨rfl,rfl⟩ (Under.nil _) (fun _ _ h=>by cases h) hmx hby hbs5 ?_
   intro g cp w8 hown8 hgr8 hat8
   have hrow:=HO5.out.row
   have hB8:Below w6 w6 w8:=(hB5.alloc hbs5 _).grown hgr8 (by simp;omega) (fun g hg=>(hrow g (zA1.2 hg)).1)
   have l7:w4.heap.size≤(w4.alloc (.cells #[.string Z] 9)).heap.size:=by rw [World.size_alloc];exact Nat.le_succ _
   have hnb6:some b6≠(Value.slice kA (psB xs d ls p.ks i).length kcap).ownBlock:=fun e=>by
    have:=(hrow b6 (zA1.2 e.symm)).1;omega
   have hnkd:some kd≠(Value.slice kA (psB xs d ls p.ks i).length kcap).ownBlock:=fun e=>HKD.out (zA1.2 e.symm)
   have hfar:∀ p':Addr,p'.block<w4.heap.size→some p'.block≠(Value.slice kA (psB xs d ls p.ks i).length kcap).ownBlock→w8.cell? p'=w4.cell? p':=fun p' h1 h2=>(World.grownBy.cell_far hgr8 p' (zz9 h1 l7) h2).trans (World.cell?_alloc_lt _ _ _ h1)
   have hS8:w8.cell? ⟨b6,off6+i*2,none⟩=ls[i].d∧w8.cell? ⟨b6,off6+i*2+1,none⟩=ls[i].i∧w8.cell? ⟨kd,0,none⟩=p.ks[i].op∧w8.cell? ⟨kd,1,none⟩=p.ks[i].ct∧w8.cell? ⟨kd,2,none⟩=p.ks[i].n∧w8.cell? ⟨kd,3,none⟩=p.ks[i].m∧w8.cell? ⟨kd,4,none⟩=p.ks[i].va∧w8.cell? ⟨kd,5,none⟩=some (.slice A7 p.ks[i].ks.length cap7):=⟨(hfar ⟨b6,off6+i*2,none⟩ hb6w hnb6).trans hS1.1,(hfar ⟨b6,off6+i*2+1,none⟩ hb6w hnb6).trans hS1.2.1,(hfar ⟨kd,0,none⟩ klt4 hnkd).trans hS1.2.2.1,(hfar ⟨kd,1,none⟩ klt4 hnkd).trans hS1.2.2.2.1,(hfar ⟨kd,2,none⟩ klt4 hnkd).trans hS1.2.2.2.2.1,(hfar ⟨kd,3,none⟩ klt4 hnkd).trans hS1.2.2.2.2.2.1,(hfar ⟨kd,4,none⟩ klt4 hnkd).trans hS1.2.2.2.2.2.2.1,(hfar ⟨kd,5,none⟩ klt4 hnkd).trans hS1.2.2.2.2.2.2.2⟩
   have HO8:=jj hown8
   refine hK.out _ _ hS8 (fun _=>trivial) ?_
   clear hK K
   (try simp only [zz])
   refine wV 10 rfl hS8 hT0 ?_
   (try simp only [zz])
   refine wE (by kernel_rfl) ?_
   clear hS0 hS1 hS8 hT0 hfar hnkd hnb6 l7 hrow hgr8 hat8 hown8 hbe hb4 HO5 hB5 HOq hBq hBwq hBw HS hC0 hC1
   go_wp2
   go_roundw
   case rel=>exact ⟨i+1,hik,by go_num,by rw [HSU.out];exact HO8.out,hB8⟩
   case measure=>(simp [intOf] <;> omega)
  ·have e1':decide (i<p.ks.length)=false:=by simpa using hik
   have hta:=psB_all xs d ls p.ks (i:=i) (by have:=HLN.out;omega) (by omega)
   obtain ⟨SS,hSS⟩:∃ s,s=(List.zipWith (pT xs d) ls p.ks).map bs:=⟨_,rfl⟩
   rw [←hSS] at hta
   have HSS:=jj hSS
   have HAR:Hid (Arr wr (StrR wr) SS u8 (if psB xs d ls p.ks i=[] then [] else rowOf u8 ++ [])):=by rw [←hta];exact HOw.out.arr
   have HRW:=jj HOw.out.row
   have HUA:Hid (Under wr (if psB xs d ls p.ks i=[] then [] else rowOf u8 ++ [])):=fun b hb=>by
    split at hb
    ·cases hb
    ·rw [List.append_nil] at hb;exact (HRW.out b hb).2
   have hsl:SS.length≤1000:=by rw [←hta];have:=psB_len xs d ls p.ks i;omega
   have HSL:=jj hsl
   generalize (if psB xs d ls p.ks i=[] then [] else rowOf u8 ++ [])=FA at HAR HUA
   have KT:=jj (KT6.out.same (hBr.block _ KT6.out.lt))
   have KV:=jj (KV6.out.same (hBr.block _ KV6.out.lt))
   clear hta hSS HOw hsl HRW
   obtain ⟨y0,y1,klt⟩:=KT.out.c2
   obtain ⟨z0,z1,z2,z3,z4,z5,klt2⟩:=KV.out.c6
   go_wp2
   go_ret
   exact ⟨zAK HFT.out.symm,hBw0⟩
set_option maxHeartbeats 16000000 in
theorem patternText_2 (p:P) (ih:∀ k∈p.ks,TxtPI k) (hop:p.op=2):TxtPI p:=by
 intro xs hw d hd t ht hsh hn60 w x F cs G hx hf hv hg
 obtain ⟨kv,rfl,ha⟩:=(zAE _ _ _).1 hv
 obtain ⟨A,cap,rfl,hc1,hc2⟩:=hx.form
 obtain ⟨A4,cap4,rfl,hc3,hc4⟩:=ha.form
 cases d with
 |zero=>rw [shapeB] at hsh;cases hsh
 |succ d =>
 have hlen:=pT_len hw (d+1) t p ht hsh
 obtain ⟨ho,hl,hall⟩:=zB3 hsh
 have HKN:Hid (∀ k∈p.ks,nodesP k≤60):=fun k hk=>Nat.le_trans (nodesP_kid hk) hn60
 have HW:=jj hw
 have ArrP_PR:Hid (∀ W,Below w w W→PR W p _ G):=fun W hb=>PR.below hv hb hg
 have IH:=jj ih
 have HT:=jj ht
 have HO:=jj ho
 have HLN:=jj hl
 have HTI:=jj (typesP_in hw ht ho)
 have HAG:=jj (fun i h1 h2=>allP_get hall i h1 h2)
 have HX:=jj hx
 have HF:=jj hf
 have HA:=jj ha
 have HG:=jj hg
 clear hx hf ha hg
 clear hw ih hv hsh ht hl hall
 have HLEN:Hid ((pT xs (d+1) t p).length≤480):=by unfold Hid;omega
 have HND:Hid (nodeB xs t p=true):=by unfold Hid nodeB;rw [Bool.and_eq_true];exact ⟨HO.out,by rw [HLN.out];simp⟩
 have htl:=typesP_len HW.out HT.out HO.out
 have hkl3:p.ks.length≤3:=by rw [HLN.out];exact htl
 have e1:(p.op==1)=false:=by rw [hop];decide
 have e2:(p.op==2)=true:=by rw [hop];decide
 have HFT:Hid (bs (pT xs (d+1) t p)=bs (letT p.va)):=by
  unfold Hid;rw [pT_succ,nodeT_2 hop]
 have hva:=own_var HO.out (by unfold namedB;rw [hop];rfl)
 clear hop
 clear htl hlen
 obtain ⟨i0,hi,hz0,hz1,hz2⟩:=info_parts info_strE
 have HI:=jj hi
 have HZ0:=jj hz0
 have HZ1:=jj hz1
 have HZ2:=jj hz2
 clear hi hz0 hz1 hz2
 have hB0:Below w w ((w.alloc (.cells #[t.d,t.i] 25)).alloc (.cells #[p.op,p.ct,p.n,p.m,p.va,.slice A4 p.ks.length cap4] 28)):=((zy2 _ _).alloc (zz8 _) _).alloc (by simp) _
 have KT:Hid (Blk ((w.alloc (.cells #[t.d,t.i] 25)).alloc (.cells #[p.op,p.ct,p.n,p.m,p.va,.slice A4 p.ks.length cap4] 28)) w.heap.size 25 #[t.d,t.i]):=(Blk.new w _ _).same (Below.heap_alloc _ _ _ (by simp))
 have KV:Hid (Blk ((w.alloc (.cells #[t.d,t.i] 25)).alloc (.cells #[p.op,p.ct,p.n,p.m,p.va,.slice A4 p.ks.length cap4] 28)) (w.heap.size+1) 28 #[p.op,p.ct,p.n,p.m,p.va,.slice A4 p.ks.length cap4]):=by have h:=Blk.new (w.alloc (.cells #[t.d,t.i] 25)) 28 #[p.op,p.ct,p.n,p.m,p.va,.slice A4 p.ks.length cap4];rw [World.size_alloc] at h;exact h
 go_enter Tryz.func32,Tryz.ntmps32
 go_wp2_with fail
 obtain ⟨W2,hW2⟩:∃ W2,W2=((w.alloc (.cells #[t.d,t.i] 25)).alloc (.cells #[p.op,p.ct,p.n,p.m,p.va,.slice A4 p.ks.length cap4] 28)):=⟨_,rfl⟩
 rw [←hW2] at hB0 KT KV ⊢
 clear hW2
 refine (zB5 xs HW.out t HT.out p HND.out W2 _ F _ G (ArrDt.below HX.out hB0 HF.out) (HF.out.mono hB0.size) (ArrP_PR.out W2 hB0) (HG.out.mono hB0.size)).mono ?_
 rintro e w6 ⟨v6,F6,rfl,hb6,hfs6,ha6⟩
 have hB6:=hB0.trans (hb6.mono hB0.size)
 have KT6:=jj (KT.out.same (hb6.block _ KT.out.lt))
 have KV6:=jj (KV.out.same (hb6.block _ KV.out.lt))
 generalize hass:typesP xs t p=ls at *
 clear hass
 obtain ⟨A6,cap6,rfl,hd3,hd4⟩:=ha6.form
 have HA6:=jj ha6
 have HU6:=jj hfs6.under
 clear ha6 hfs6 hb6 KT KV hB0
 obtain ⟨-,-,-,-,-,z5,klt2⟩:=KV6.out.c6
 have HNIL:Hid (Own w6 w6.heap.size 9 1 StrR (psB xs d ls p.ks 0) (.slice none 0 0) []):=(show Own _ _ _ _ _ (psB xs d ls p.ks 0) _ _ from Own.nil _ _ _ _ _)
 go_wp2
 clear z5 klt2
 go_loopw [8,18] (fun ov iv wr=>∃ i:Nat,i≤p.ks.length∧iv=.int .i64 i∧Hid (Own wr w6.heap.size 9 1 StrR (psB xs d ls p.ks i) ov [])∧Below w6 w6 wr) (fun _ iv _=>p.ks.length-(intOf iv).toNat)
 case atStart=>exact ⟨0,Nat.zero_le _,rfl,HNIL,zy2 _ _⟩
 case round =>
  clear HNIL
  obtain ⟨i,hi,rfl,HOw,hBr⟩:=hrel
  have hBw0:Below w w wr:=hB6.trans (hBr.mono hB6.size)
  by_cases hik:i<p.ks.length
  ·have hil:i<ls.length:=by rw [←HLN.out];exact hik
   obtain ⟨b6,off6,rfl⟩:=HA6.out.ptr (by omega)
   obtain ⟨b4,off4,rfl⟩:=HA.out.ptr (by omega)
   obtain ⟨A7,cap7,G7,hb7,k0,k1,k2,k3,k4,k5,HV7,HG7,-,-,-⟩:=ArrP.at HA.out HG.out hBw0 i hik
   have g1:(0:Int)≤(i:Int):=by omega
   have g2:(i:Int)<(ls.length:Int):=by omega
   have g3:(i:Int)<(p.ks.length:Int):=by omega
   have e1':decide (i<p.ks.length)=true:=by simpa using hik
   have HFI:Hid (shapeB xs d ls[i] p.ks[i]=true):=HAG.out i hil hik
   have HMK:Hid (p.ks[i]∈p.ks):=List.getElem_mem hik
   have HNI:Hid (nodesP p.ks[i]≤60):=HKN.out _ HMK.out
   have HTI2:=jj (HTI.out _ (List.getElem_mem hil))
   have HSC:=jj (psB_succ xs d ls p.ks i hil hik)
   obtain ⟨Z,hZ⟩:∃ z,bs (pT xs d ls[i] p.ks[i])=z:=⟨_,rfl⟩
   have HZ:=jj hZ
   have HSU:Hid (psB xs d ls p.ks (i+1)=psB xs d ls p.ks i ++ [Z]):=by rw [←HZ.out];exact HSC.out
   clear hZ HSC
   have hlm:=psB_len xs d ls p.ks i
   have hmx:(psB xs d ls p.ks i).length+1≤maxLen:=by unfold maxLen;omega
   have hby:((psB xs d ls p.ks i).length+1)*16≤140737488355328:=by omega
   have hbe:Below wr wr (wr.alloc (.cells #[p.ks[i].op,p.ks[i].ct,p.ks[i].n,p.ks[i].m,p.ks[i].va,.slice A7 p.ks[i].ks.length cap7] 28)):=(zy2 _ _).alloc (zz8 _) _
   have HOq:Hid (Own (wr.alloc (.cells #[p.ks[i].op,p.ks[i].ct,p.ks[i].n,p.ks[i].m,p.ks[i].va,.slice A7 p.ks[i].ks.length cap7] 28)) w6.heap.size 9 1 StrR (psB xs d ls p.ks i) u8 []):=HOw.out.below (fun x cs G hk h=>zA7 _ _ x cs G hk h) hbe
   have hBq:Below w6 w6 (wr.alloc (.cells #[p.ks[i].op,p.ks[i].ct,p.ks[i].n,p.ks[i].m,p.ks[i].va,.slice A7 p.ks[i].ks.length cap7] 28)):=hBr.trans (hbe.mono hBr.size)
   have hBwq:Below w w (wr.alloc (.cells #[p.ks[i].op,p.ks[i].ct,p.ks[i].n,p.ks[i].m,p.ks[i].va,.slice A7 p.ks[i].ks.length cap7] 28)):=hBw0.trans (hbe.mono hBw0.size)
   have KD:Hid (Blk (wr.alloc (.cells #[p.ks[i].op,p.ks[i].ct,p.ks[i].n,p.ks[i].m,p.ks[i].va,.slice A7 p.ks[i].ks.length cap7] 28)) wr.heap.size 28 #[p.ks[i].op,p.ks[i].ct,p.ks[i].n,p.ks[i].m,p.ks[i].va,.slice A7 p.ks[i].ks.length cap7]):=Blk.new _ _ _
   have HKD:Hid (wr.heap.size∉rowOf u8):=fun h=>Nat.lt_irrefl _ (HOw.out.row _ h).2
   obtain ⟨kA,kcap,hkv,-,-⟩:=HOw.out.form
   subst hkv
   go_wp2_with fail
   clear k0 k1 k2 k3 k4 k5 hb7
   generalize (wr.alloc (.cells #[p.ks[i].op,p.ks[i].ct,p.ks[i].n,p.ks[i].m,p.ks[i].va,.slice A7 p.ks[i].ks.length cap7] 28))=wq at *
   generalize wr.heap.size=kd at *
   obtain ⟨hb6q,a0,a1⟩:=ArrTy.at HA6.out HU6.out hBq i hil
   have hb6l:b6<w6.heap.size:=ArrTy_lt HA6.out HU6.out i hil
   have k0:=(KD.out.cell 0).trans (show _=some (.int .i64 p.ks[i].op) from by simp)
   have k1:=(KD.out.cell 1).trans (show _=some (.int .i64 p.ks[i].ct) from by simp)
   have k2:=(KD.out.cell 2).trans (show _=some (.int .i64 p.ks[i].n) from by simp)
   have k3:=(KD.out.cell 3).trans (show _=some (.int .i64 p.ks[i].m) from by simp)
   have k4:=(KD.out.cell 4).trans (show _=some (.int .i64 p.ks[i].va) from by simp)
   have k5:=(KD.out.cell 5).trans (show _=some (.slice A7 p.ks[i].ks.length cap7) from by simp)
   have klt:=KD.out.lt
   have hBw:Below w w wq.drew:=hBwq.drew
   have HS:Hid (∀ C:World,Below wq wq C→(C.cell? ⟨b6,off6+i*2,none⟩=ls[i].d∧C.cell? ⟨b6,off6+i*2+1,none⟩=ls[i].i∧C.cell? ⟨kd,0,none⟩=p.ks[i].op∧C.cell? ⟨kd,1,none⟩=p.ks[i].ct∧C.cell? ⟨kd,2,none⟩=p.ks[i].n∧C.cell? ⟨kd,3,none⟩=p.ks[i].m∧C.cell? ⟨kd,4,none⟩=p.ks[i].va∧C.cell? ⟨kd,5,none⟩=some (.slice A7 p.ks[i].ks.length cap7))):=fun C hb=>⟨(hb.cell (hb6q)).trans a0,(hb.cell (hb6q)).trans a1,(hb.cell (klt)).trans k0,(hb.cell (klt)).trans k1,(hb.cell (klt)).trans k2,(hb.cell (klt)).trans k3,(hb.cell (klt)).trans k4,(hb.cell (klt)).trans k5⟩
   have hC0:Below wq wq wq.drew:=(zy2 _ _).drew
   refine wpBS HS.out (T:=fun _=>True) (d:=99) (by kernel_rfl) ?_
   obtain ⟨wd,hwd⟩:∃ X,X=wq.drew:=⟨_,rfl⟩
   rw [←hwd] at hC0 hBw  ⊢
   clear hwd
   have hS0:=HS.out _ hC0
   have hT0:True:=trivial
   refine wV 0 rfl hS0 hT0 ?_
   (try simp only [zz])
   refine wV 1 rfl hS0 hT0 ?_
   (try simp only [zz])
   refine wV 2 rfl hS0 hT0 ?_
   (try simp only [zz])
   refine wV 3 rfl hS0 hT0 ?_
   (try simp only [zz])
   refine wV 4 rfl hS0 hT0 ?_
   (try simp only [zz])
   refine wV 5 rfl hS0 hT0 ?_
   (try simp only [zz])
   refine wV 6 rfl hS0 hT0 ?_
   (try simp only [zz])
   refine w1 7 rfl fun K hK=>?_
   go_simp
   go_at_call 32
   refine (IH.out p.ks[i] HMK.out xs HW.out d (by omega) ls[i] HTI2.out HFI.out HNI.out wd _ F _ G7 (ArrDt.below HX.out hBw HF.out) (HF.out.mono hBw.size) (HV7.out.below hBw HG7.out) (HG7.out.mono hBw.size)).mono ?_
   rintro e w4 ⟨rfl,hb4⟩
   have hC1:Below wq wq w4:=hC0.trans (hb4.mono hC0.size)
   have hS1:=HS.out _ hC1
   rw [HZ.out]
   (try dsimp only)
   refine hK.out _ _ hS1 (fun _=>trivial) ?_
   clear hK K
   (try simp only [zz])
   have HO5:Hid (Own w4 w6.heap.size 9 1 StrR (psB xs d ls p.ks i) (.slice kA (psB xs d ls p.ks i).length kcap) []):=HOq.out.below (fun x cs G hk h=>zA7 _ _ x cs G hk h) (hC1)
   have hB5:Below w6 w6 w4:=hBq.trans (hC1.mono hBq.size)
   have hbs5:w6.heap.size≤w4.heap.size:=hB5.size
   have hb6w:b6<w4.heap.size:=zz9 hb6q hC1.size
   have klt4:kd<w4.heap.size:=zz9 klt hC1.size
   refine w1 8 rfl fun K hK=>?_
   go_simp
   have hSa:(w4.alloc (.cells #[.string Z] 9)).cell? ⟨b6,off6+i*2,none⟩=ls[i].d∧(w4.alloc (.cells #[.string Z] 9)).cell? ⟨b6,off6+i*2+1,none⟩=ls[i].i∧(w4.alloc (.cells #[.string Z] 9)).cell? ⟨kd,0,none⟩=p.ks[i].op∧(w4.alloc (.cells #[.string Z] 9)).cell? ⟨kd,1,none⟩=p.ks[i].ct∧(w4.alloc (.cells #[.string Z] 9)).cell? ⟨kd,2,none⟩=p.ks[i].n∧(w4.alloc (.cells #[.string Z] 9)).cell? ⟨kd,3,none⟩=p.ks[i].m∧(w4.alloc (.cells #[.string Z] 9)).cell? ⟨kd,4,none⟩=p.ks[i].va∧(w4.alloc (.cells #[.string Z] 9)).cell? ⟨kd,5,none⟩=some (.slice A7 p.ks[i].ks.length cap7):=⟨(World.cell?_alloc_lt _ _ _ hb6w).trans hS1.1,(World.cell?_alloc_lt _ _ _ hb6w).trans hS1.2.1,(World.cell?_alloc_lt _ _ _ klt4).trans hS1.2.2.1,(World.cell?_alloc_lt _ _ _ klt4).trans hS1.2.2.2.1,(World.cell?_alloc_lt _ _ _ klt4).trans hS1.2.2.2.2.1,(World.cell?_alloc_lt _ _ _ klt4).trans hS1.2.2.2.2.2.1,(World.cell?_alloc_lt _ _ _ klt4).trans hS1.2.2.2.2.2.2.1,(World.cell?_alloc_lt _ _ _ klt4).trans hS1.2.2.2.2.2.2.2⟩
   refine hK.out _ _ hSa (fun _=>trivial) ?_
   clear hK K
   (try simp only [zz])
   refine w1 9 rfl fun K hK=>?_
   refine zAB (P:=Tryz.prog) rfl _ _ 60 rfl i0 _ 16 Tryz.underlying60 HI.out HZ0.out HZ1.out HZ2.out rfl Nat.zero_lt_one zAH zA7 (by rfl) HO5.out Z 9 [.string Z] [] _ (by rfl) rfl (by simp [Value.oneCell']) ⟨rfl,rfl⟩ (Under.nil _) (fun _ _ h=>by cases h) hmx hby hbs5 ?_
   intro g cp w8 hown8 hgr8 hat8
   have hrow:=HO5.out.row
   have hB8:Below w6 w6 w8:=(hB5.alloc hbs5 _).grown hgr8 (by simp;omega) (fun g hg=>(hrow g (zA1.2 hg)).1)
   have l7:w4.heap.size≤(w4.alloc (.cells #[.string Z] 9)).heap.size:=by rw [World.size_alloc];exact Nat.le_succ _
   have hnb6:some b6≠(Value.slice kA (psB xs d ls p.ks i).length kcap).ownBlock:=fun e=>by
    have:=(hrow b6 (zA1.2 e.symm)).1;omega
   have hnkd:some kd≠(Value.slice kA (psB xs d ls p.ks i).length kcap).ownBlock:=fun e=>HKD.out (zA1.2 e.symm)
   have hfar:∀ p':Addr,p'.block<w4.heap.size→some p'.block≠(Value.slice kA (psB xs d ls p.ks i).length kcap).ownBlock→w8.cell? p'=w4.cell? p':=fun p' h1 h2=>(World.grownBy.cell_far hgr8 p' (zz9 h1 l7) h2).trans (World.cell?_alloc_lt _ _ _ h1)
   have hS8:w8.cell? ⟨b6,off6+i*2,none⟩=ls[i].d∧w8.cell? ⟨b6,off6+i*2+1,none⟩=ls[i].i∧w8.cell? ⟨kd,0,none⟩=p.ks[i].op∧w8.cell? ⟨kd,1,none⟩=p.ks[i].ct∧w8.cell? ⟨kd,2,none⟩=p.ks[i].n∧w8.cell? ⟨kd,3,none⟩=p.ks[i].m∧w8.cell? ⟨kd,4,none⟩=p.ks[i].va∧w8.cell? ⟨kd,5,none⟩=some (.slice A7 p.ks[i].ks.length cap7):=⟨(hfar ⟨b6,off6+i*2,none⟩ hb6w hnb6).trans hS1.1,(hfar ⟨b6,off6+i*2+1,none⟩ hb6w hnb6).trans hS1.2.1,(hfar ⟨kd,0,none⟩ klt4 hnkd).trans hS1.2.2.1,(hfar ⟨kd,1,none⟩ klt4 hnkd).trans hS1.2.2.2.1,(hfar ⟨kd,2,none⟩ klt4 hnkd).trans hS1.2.2.2.2.1,(hfar ⟨kd,3,none⟩ klt4 hnkd).trans hS1.2.2.2.2.2.1,(hfar ⟨kd,4,none⟩ klt4 hnkd).trans hS1.2.2.2.2.2.2.1,(hfar ⟨kd,5,none⟩ klt4 hnkd).trans hS1.2.2.2.2.2.2.2⟩
   have HO8:=jj hown8
   refine hK.out _ _ hS8 (fun _=>trivial) ?_
   clear hK K
   (try simp only [zz])
   refine wV 10 rfl hS8 hT0 ?_
   (try simp only [zz])
   refine wE (by kernel_rfl) ?_
   clear hS0 hS1 hS8 hT0 hfar hnkd hnb6 l7 hrow hgr8 hat8 hown8 hbe hb4 HO5 hB5 HOq hBq hBwq hBw HS hC0 hC1
   go_wp2
   go_roundw
   case rel=>exact ⟨i+1,hik,by go_num,by rw [HSU.out];exact HO8.out,hB8⟩
   case measure=>(simp [intOf] <;> omega)
  ·have e1':decide (i<p.ks.length)=false:=by simpa using hik
   have hta:=psB_all xs d ls p.ks (i:=i) (by have:=HLN.out;omega) (by omega)
   obtain ⟨SS,hSS⟩:∃ s,s=(List.zipWith (pT xs d) ls p.ks).map bs:=⟨_,rfl⟩
   rw [←hSS] at hta
   have HSS:=jj hSS
   have HAR:Hid (Arr wr (StrR wr) SS u8 (if psB xs d ls p.ks i=[] then [] else rowOf u8 ++ [])):=by rw [←hta];exact HOw.out.arr
   have HRW:=jj HOw.out.row
   have HUA:Hid (Under wr (if psB xs d ls p.ks i=[] then [] else rowOf u8 ++ [])):=fun b hb=>by
    split at hb
    ·cases hb
    ·rw [List.append_nil] at hb;exact (HRW.out b hb).2
   have hsl:SS.length≤1000:=by rw [←hta];have:=psB_len xs d ls p.ks i;omega
   have HSL:=jj hsl
   generalize (if psB xs d ls p.ks i=[] then [] else rowOf u8 ++ [])=FA at HAR HUA
   have KT:=jj (KT6.out.same (hBr.block _ KT6.out.lt))
   have KV:=jj (KV6.out.same (hBr.block _ KV6.out.lt))
   clear hta hSS HOw hsl HRW
   obtain ⟨y0,y1,klt⟩:=KT.out.c2
   obtain ⟨z0,z1,z2,z3,z4,z5,klt2⟩:=KV.out.c6
   go_wp2_with fail
   refine (impl_letter p.va hva.1 hva.2 _).mono ?_
   rintro e w9 ⟨rfl,hb9⟩
   have hB9:=hBw0.trans (hb9.mono hBw0.size)
   go_wp2
   go_ret
   exact ⟨zAK HFT.out.symm,hB9⟩
set_option maxHeartbeats 16000000 in
theorem patternText_3 (p:P) (ih:∀ k∈p.ks,TxtPI k) (hop:p.op=3):TxtPI p:=by
 intro xs hw d hd t ht hsh hn60 w x F cs G hx hf hv hg
 obtain ⟨kv,rfl,ha⟩:=(zAE _ _ _).1 hv
 obtain ⟨A,cap,rfl,hc1,hc2⟩:=hx.form
 obtain ⟨A4,cap4,rfl,hc3,hc4⟩:=ha.form
 cases d with
 |zero=>rw [shapeB] at hsh;cases hsh
 |succ d =>
 have hlen:=pT_len hw (d+1) t p ht hsh
 obtain ⟨ho,hl,hall⟩:=zB3 hsh
 have HKN:Hid (∀ k∈p.ks,nodesP k≤60):=fun k hk=>Nat.le_trans (nodesP_kid hk) hn60
 have HW:=jj hw
 have ArrP_PR:Hid (∀ W,Below w w W→PR W p _ G):=fun W hb=>PR.below hv hb hg
 have IH:=jj ih
 have HT:=jj ht
 have HO:=jj ho
 have HLN:=jj hl
 have HTI:=jj (typesP_in hw ht ho)
 have HAG:=jj (fun i h1 h2=>allP_get hall i h1 h2)
 have HX:=jj hx
 have HF:=jj hf
 have HA:=jj ha
 have HG:=jj hg
 clear hx hf ha hg
 clear hw ih hv hsh ht hl hall
 have HLEN:Hid ((pT xs (d+1) t p).length≤480):=by unfold Hid;omega
 have HND:Hid (nodeB xs t p=true):=by unfold Hid nodeB;rw [Bool.and_eq_true];exact ⟨HO.out,by rw [HLN.out];simp⟩
 have htl:=typesP_len HW.out HT.out HO.out
 have hkl3:p.ks.length≤3:=by rw [HLN.out];exact htl
 have e1:(p.op==1)=false:=by rw [hop];decide
 have e2:(p.op==2)=false:=by rw [hop];decide
 have e3:(p.op==3)=true:=by rw [hop];decide
 have hpn:=own_int HO.out hop
 obtain ⟨na,hna⟩:∃ n:Nat,p.n=(n:Int):=⟨p.n.toNat,by omega⟩
 obtain ⟨mb,hmb⟩:∃ n:Nat,p.m=(n:Int):=⟨p.m.toNat,by omega⟩
 have hna10:na<10:=by omega
 have hmb10:mb<10:=by omega
 have HNA:=jj hna
 have HMB:=jj hmb
 have HFT:Hid (bs (pT xs (d+1) t p)=bs (if (na:Int)=(mb:Int) then digT (na:Int) else digT (na:Int) ++ (45 :: digT (mb:Int)))):=by
  unfold Hid;rw [pT_succ,nodeT_3 hop,hna,hmb]
 obtain ⟨Z3,hZ3⟩:∃ z,bs (if (na:Int)=(mb:Int) then digT (na:Int) else digT (na:Int) ++ (45 :: digT (mb:Int)))=z:=⟨_,rfl⟩
 have HZ3:=jj hZ3
 rw [hZ3] at HFT
 clear hop hna hmb hZ3 hpn
 clear htl hlen
 obtain ⟨i0,hi,hz0,hz1,hz2⟩:=info_parts info_strE
 have HI:=jj hi
 have HZ0:=jj hz0
 have HZ1:=jj hz1
 have HZ2:=jj hz2
 clear hi hz0 hz1 hz2
 have hB0:Below w w ((w.alloc (.cells #[t.d,t.i] 25)).alloc (.cells #[p.op,p.ct,p.n,p.m,p.va,.slice A4 p.ks.length cap4] 28)):=((zy2 _ _).alloc (zz8 _) _).alloc (by simp) _
 have KT:Hid (Blk ((w.alloc (.cells #[t.d,t.i] 25)).alloc (.cells #[p.op,p.ct,p.n,p.m,p.va,.slice A4 p.ks.length cap4] 28)) w.heap.size 25 #[t.d,t.i]):=(Blk.new w _ _).same (Below.heap_alloc _ _ _ (by simp))
 have KV:Hid (Blk ((w.alloc (.cells #[t.d,t.i] 25)).alloc (.cells #[p.op,p.ct,p.n,p.m,p.va,.slice A4 p.ks.length cap4] 28)) (w.heap.size+1) 28 #[p.op,p.ct,p.n,p.m,p.va,.slice A4 p.ks.length cap4]):=by have h:=Blk.new (w.alloc (.cells #[t.d,t.i] 25)) 28 #[p.op,p.ct,p.n,p.m,p.va,.slice A4 p.ks.length cap4];rw [World.size_alloc] at h;exact h
 go_enter Tryz.func32,Tryz.ntmps32
 go_wp2_with fail
 obtain ⟨W2,hW2⟩:∃ W2,W2=((w.alloc (.cells #[t.d,t.i] 25)).alloc (.cells #[p.op,p.ct,p.n,p.m,p.va,.slice A4 p.ks.length cap4] 28)):=⟨_,rfl⟩
 rw [←hW2] at hB0 KT KV ⊢
 clear hW2
 refine (zB5 xs HW.out t HT.out p HND.out W2 _ F _ G (ArrDt.below HX.out hB0 HF.out) (HF.out.mono hB0.size) (ArrP_PR.out W2 hB0) (HG.out.mono hB0.size)).mono ?_
 rintro e w6 ⟨v6,F6,rfl,hb6,hfs6,ha6⟩
 have hB6:=hB0.trans (hb6.mono hB0.size)
 have KT6:=jj (KT.out.same (hb6.block _ KT.out.lt))
 have KV6:=jj (KV.out.same (hb6.block _ KV.out.lt))
 generalize hass:typesP xs t p=ls at *
 clear hass
 obtain ⟨A6,cap6,rfl,hd3,hd4⟩:=ha6.form
 have HA6:=jj ha6
 have HU6:=jj hfs6.under
 clear ha6 hfs6 hb6 KT KV hB0
 obtain ⟨-,-,-,-,-,z5,klt2⟩:=KV6.out.c6
 have HNIL:Hid (Own w6 w6.heap.size 9 1 StrR (psB xs d ls p.ks 0) (.slice none 0 0) []):=(show Own _ _ _ _ _ (psB xs d ls p.ks 0) _ _ from Own.nil _ _ _ _ _)
 go_wp2
 clear z5 klt2
 go_loopw [8,18] (fun ov iv wr=>∃ i:Nat,i≤p.ks.length∧iv=.int .i64 i∧Hid (Own wr w6.heap.size 9 1 StrR (psB xs d ls p.ks i) ov [])∧Below w6 w6 wr) (fun _ iv _=>p.ks.length-(intOf iv).toNat)
 case atStart=>exact ⟨0,Nat.zero_le _,rfl,HNIL,zy2 _ _⟩
 case round =>
  clear HNIL
  obtain ⟨i,hi,rfl,HOw,hBr⟩:=hrel
  have hBw0:Below w w wr:=hB6.trans (hBr.mono hB6.size)
  by_cases hik:i<p.ks.length
  ·have hil:i<ls.length:=by rw [←HLN.out];exact hik
   obtain ⟨b6,off6,rfl⟩:=HA6.out.ptr (by omega)
   obtain ⟨b4,off4,rfl⟩:=HA.out.ptr (by omega)
   obtain ⟨A7,cap7,G7,hb7,k0,k1,k2,k3,k4,k5,HV7,HG7,-,-,-⟩:=ArrP.at HA.out HG.out hBw0 i hik
   have g1:(0:Int)≤(i:Int):=by omega
   have g2:(i:Int)<(ls.length:Int):=by omega
   have g3:(i:Int)<(p.ks.length:Int):=by omega
   have e1':decide (i<p.ks.length)=true:=by simpa using hik
   have HFI:Hid (shapeB xs d ls[i] p.ks[i]=true):=HAG.out i hil hik
   have HMK:Hid (p.ks[i]∈p.ks):=List.getElem_mem hik
   have HNI:Hid (nodesP p.ks[i]≤60):=HKN.out _ HMK.out
   have HTI2:=jj (HTI.out _ (List.getElem_mem hil))
   have HSC:=jj (psB_succ xs d ls p.ks i hil hik)
   obtain ⟨Z,hZ⟩:∃ z,bs (pT xs d ls[i] p.ks[i])=z:=⟨_,rfl⟩
   have HZ:=jj hZ
   have HSU:Hid (psB xs d ls p.ks (i+1)=psB xs d ls p.ks i ++ [Z]):=by rw [←HZ.out];exact HSC.out
   clear hZ HSC
   have hlm:=psB_len xs d ls p.ks i
   have hmx:(psB xs d ls p.ks i).length+1≤maxLen:=by unfold maxLen;omega
   have hby:((psB xs d ls p.ks i).length+1)*16≤140737488355328:=by omega
   have hbe:Below wr wr (wr.alloc (.cells #[p.ks[i].op,p.ks[i].ct,p.ks[i].n,p.ks[i].m,p.ks[i].va,.slice A7 p.ks[i].ks.length cap7] 28)):=(zy2 _ _).alloc (zz8 _) _
   have HOq:Hid (Own (wr.alloc (.cells #[p.ks[i].op,p.ks[i].ct,p.ks[i].n,p.ks[i].m,p.ks[i].va,.slice A7 p.ks[i].ks.length cap7] 28)) w6.heap.size 9 1 StrR (psB xs d ls p.ks i) u8 []):=HOw.out.below (fun x cs G hk h=>zA7 _ _ x cs G hk h) hbe
   have hBq:Below w6 w6 (wr.alloc (.cells #[p.ks[i].op,p.ks[i].ct,p.ks[i].n,p.ks[i].m,p.ks[i].va,.slice A7 p.ks[i].ks.length cap7] 28)):=hBr.trans (hbe.mono hBr.size)
   have hBwq:Below w w (wr.alloc (.cells #[p.ks[i].op,p.ks[i].ct,p.ks[i].n,p.ks[i].m,p.ks[i].va,.slice A7 p.ks[i].ks.length cap7] 28)):=hBw0.trans (hbe.mono hBw0.size)
   have KD:Hid (Blk (wr.alloc (.cells #[p.ks[i].op,p.ks[i].ct,p.ks[i].n,p.ks[i].m,p.ks[i].va,.slice A7 p.ks[i].ks.length cap7] 28)) wr.heap.size 28 #[p.ks[i].op,p.ks[i].ct,p.ks[i].n,p.ks[i].m,p.ks[i].va,.slice A7 p.ks[i].ks.length cap7]):=Blk.new _ _ _
   have HKD:Hid (wr.heap.size∉rowOf u8):=fun h=>Nat.lt_irrefl _ (HOw.out.row _ h).2
   obtain ⟨kA,kcap,hkv,-,-⟩:=HOw.out.form
   subst hkv
   go_wp2_with fail
   clear k0 k1 k2 k3 k4 k5 hb7
   generalize (wr.alloc (.cells #[p.ks[i].op,p.ks[i].ct,p.ks[i].n,p.ks[i].m,p.ks[i].va,.slice A7 p.ks[i].ks.length cap7] 28))=wq at *
   generalize wr.heap.size=kd at *
   obtain ⟨hb6q,a0,a1⟩:=ArrTy.at HA6.out HU6.out hBq i hil
   have hb6l:b6<w6.heap.size:=ArrTy_lt HA6.out HU6.out i hil
   have k0:=(KD.out.cell 0).trans (show _=some (.int .i64 p.ks[i].op) from by simp)
   have k1:=(KD.out.cell 1).trans (show _=some (.int .i64 p.ks[i].ct) from by simp)
   have k2:=(KD.out.cell 2).trans (show _=some (.int .i64 p.ks[i].n) from by simp)
   have k3:=(KD.out.cell 3).trans (show _=some (.int .i64 p.ks[i].m) from by simp)
   have k4:=(KD.out.cell 4).trans (show _=some (.int .i64 p.ks[i].va) from by simp)
   have k5:=(KD.out.cell 5).trans (show _=some (.slice A7 p.ks[i].ks.length cap7) from by simp)
   have klt:=KD.out.lt
   have hBw:Below w w wq.drew:=hBwq.drew
   have HS:Hid (∀ C:World,Below wq wq C→(C.cell? ⟨b6,off6+i*2,none⟩=ls[i].d∧C.cell? ⟨b6,off6+i*2+1,none⟩=ls[i].i∧C.cell? ⟨kd,0,none⟩=p.ks[i].op∧C.cell? ⟨kd,1,none⟩=p.ks[i].ct∧C.cell? ⟨kd,2,none⟩=p.ks[i].n∧C.cell? ⟨kd,3,none⟩=p.ks[i].m∧C.cell? ⟨kd,4,none⟩=p.ks[i].va∧C.cell? ⟨kd,5,none⟩=some (.slice A7 p.ks[i].ks.length cap7))):=fun C hb=>⟨(hb.cell (hb6q)).trans a0,(hb.cell (hb6q)).trans a1,(hb.cell (klt)).trans k0,(hb.cell (klt)).trans k1,(hb.cell (klt)).trans k2,(hb.cell (klt)).trans k3,(hb.cell (klt)).trans k4,(hb.cell (klt)).trans k5⟩
   have hC0:Below wq wq wq.drew:=(zy2 _ _).drew
   refine wpBS HS.out (T:=fun _=>True) (d:=99) (by kernel_rfl) ?_
   obtain ⟨wd,hwd⟩:∃ X,X=wq.drew:=⟨_,rfl⟩
   rw [←hwd] at hC0 hBw  ⊢
   clear hwd
   have hS0:=HS.out _ hC0
   have hT0:True:=trivial
   refine wV 0 rfl hS0 hT0 ?_
   (try simp only [zz])
   refine wV 1 rfl hS0 hT0 ?_
   (try simp only [zz])
   refine wV 2 rfl hS0 hT0 ?_
   (try simp only [zz])
   refine wV 3 rfl hS0 hT0 ?_
   (try simp only [zz])
   refine wV 4 rfl hS0 hT0 ?_
   (try simp only [zz])
   refine wV 5 rfl hS0 hT0 ?_
   (try simp only [zz])
   refine wV 6 rfl hS0 hT0 ?_
   (try simp only [zz])
   refine w1 7 rfl fun K hK=>?_
   go_simp
   go_at_call 32
   refine (IH.out p.ks[i] HMK.out xs HW.out d (by omega) ls[i] HTI2.out HFI.out HNI.out wd _ F _ G7 (ArrDt.below HX.out hBw HF.out) (HF.out.mono hBw.size) (HV7.out.below hBw HG7.out) (HG7.out.mono hBw.size)).mono ?_
   rintro e w4 ⟨rfl,hb4⟩
   have hC1:Below wq wq w4:=hC0.trans (hb4.mono hC0.size)
   have hS1:=HS.out _ hC1
   rw [HZ.out]
   (try dsimp only)
   refine hK.out _ _ hS1 (fun _=>trivial) ?_
   clear hK K
   (try simp only [zz])
   have HO5:Hid (Own w4 w6.heap.size 9 1 StrR (psB xs d ls p.ks i) (.slice kA (psB xs d ls p.ks i).length kcap) []):=HOq.out.below (fun x cs G hk h=>zA7 _ _ x cs G hk h) (hC1)
   have hB5:Below w6 w6 w4:=hBq.trans (hC1.mono hBq.size)
   have hbs5:w6.heap.size≤w4.heap.size:=hB5.size
   have hb6w:b6<w4.heap.size:=zz9 hb6q hC1.size
   have klt4:kd<w4.heap.size:=zz9 klt hC1.size
   refine w1 8 rfl fun K hK=>?_
   go_simp
   have hSa:(w4.alloc (.cells #[.string Z] 9)).cell? ⟨b6,off6+i*2,none⟩=ls[i].d∧(w4.alloc (.cells #[.string Z] 9)).cell? ⟨b6,off6+i*2+1,none⟩=ls[i].i∧(w4.alloc (.cells #[.string Z] 9)).cell? ⟨kd,0,none⟩=p.ks[i].op∧(w4.alloc (.cells #[.string Z] 9)).cell? ⟨kd,1,none⟩=p.ks[i].ct∧(w4.alloc (.cells #[.string Z] 9)).cell? ⟨kd,2,none⟩=p.ks[i].n∧(w4.alloc (.cells #[.string Z] 9)).cell? ⟨kd,3,none⟩=p.ks[i].m∧(w4.alloc (.cells #[.string Z] 9)).cell? ⟨kd,4,none⟩=p.ks[i].va∧(w4.alloc (.cells #[.string Z] 9)).cell? ⟨kd,5,none⟩=some (.slice A7 p.ks[i].ks.length cap7):=⟨(World.cell?_alloc_lt _ _ _ hb6w).trans hS1.1,(World.cell?_alloc_lt _ _ _ hb6w).trans hS1.2.1,(World.cell?_alloc_lt _ _ _ klt4).trans hS1.2.2.1,(World.cell?_alloc_lt _ _ _ klt4).trans hS1.2.2.2.1,(World.cell?_alloc_lt _ _ _ klt4).trans hS1.2.2.2.2.1,(World.cell?_alloc_lt _ _ _ klt4).trans hS1.2.2.2.2.2.1,(World.cell?_alloc_lt _ _ _ klt4).trans hS1.2.2.2.2.2.2.1,(World.cell?_alloc_lt _ _ _ klt4).trans hS1.2.2.2.2.2.2.2⟩
   refine hK.out _ _ hSa (fun _=>trivial) ?_
   clear hK K
   (try simp only [zz])
   refine w1 9 rfl fun K hK=>?_
   refine zAB (P:=Tryz.prog) rfl _ _ 60 rfl i0 _ 16 Tryz.underlying60 HI.out HZ0.out HZ1.out HZ2.out rfl Nat.zero_lt_one zAH zA7 (by rfl) HO5.out Z 9 [.string Z] [] _ (by rfl) rfl (by simp [Value.oneCell']) ⟨rfl,rfl⟩ (Under.nil _) (fun _ _ h=>by cases h) hmx hby hbs5 ?_
   intro g cp w8 hown8 hgr8 hat8
   have hrow:=HO5.out.row
   have hB8:Below w6 w6 w8:=(hB5.alloc hbs5 _).grown hgr8 (by simp;omega) (fun g hg=>(hrow g (zA1.2 hg)).1)
   have l7:w4.heap.size≤(w4.alloc (.cells #[.string Z] 9)).heap.size:=by rw [World.size_alloc];exact Nat.le_succ _
   have hnb6:some b6≠(Value.slice kA (psB xs d ls p.ks i).length kcap).ownBlock:=fun e=>by
    have:=(hrow b6 (zA1.2 e.symm)).1;omega
   have hnkd:some kd≠(Value.slice kA (psB xs d ls p.ks i).length kcap).ownBlock:=fun e=>HKD.out (zA1.2 e.symm)
   have hfar:∀ p':Addr,p'.block<w4.heap.size→some p'.block≠(Value.slice kA (psB xs d ls p.ks i).length kcap).ownBlock→w8.cell? p'=w4.cell? p':=fun p' h1 h2=>(World.grownBy.cell_far hgr8 p' (zz9 h1 l7) h2).trans (World.cell?_alloc_lt _ _ _ h1)
   have hS8:w8.cell? ⟨b6,off6+i*2,none⟩=ls[i].d∧w8.cell? ⟨b6,off6+i*2+1,none⟩=ls[i].i∧w8.cell? ⟨kd,0,none⟩=p.ks[i].op∧w8.cell? ⟨kd,1,none⟩=p.ks[i].ct∧w8.cell? ⟨kd,2,none⟩=p.ks[i].n∧w8.cell? ⟨kd,3,none⟩=p.ks[i].m∧w8.cell? ⟨kd,4,none⟩=p.ks[i].va∧w8.cell? ⟨kd,5,none⟩=some (.slice A7 p.ks[i].ks.length cap7):=⟨(hfar ⟨b6,off6+i*2,none⟩ hb6w hnb6).trans hS1.1,(hfar ⟨b6,off6+i*2+1,none⟩ hb6w hnb6).trans hS1.2.1,(hfar ⟨kd,0,none⟩ klt4 hnkd).trans hS1.2.2.1,(hfar ⟨kd,1,none⟩ klt4 hnkd).trans hS1.2.2.2.1,(hfar ⟨kd,2,none⟩ klt4 hnkd).trans hS1.2.2.2.2.1,(hfar ⟨kd,3,none⟩ klt4 hnkd).trans hS1.2.2.2.2.2.1,(hfar ⟨kd,4,none⟩ klt4 hnkd).trans hS1.2.2.2.2.2.2.1,(hfar ⟨kd,5,none⟩ klt4 hnkd).trans hS1.2.2.2.2.2.2.2⟩
   have HO8:=jj hown8
   refine hK.out _ _ hS8 (fun _=>trivial) ?_
   clear hK K
   (try simp only [zz])
   refine wV 10 rfl hS8 hT0 ?_
   (try simp only [zz])
   refine wE (by kernel_rfl) ?_
   clear hS0 hS1 hS8 hT0 hfar hnkd hnb6 l7 hrow hgr8 hat8 hown8 hbe hb4 HO5 hB5 HOq hBq hBwq hBw HS hC0 hC1
   go_wp2
   go_roundw
   case rel=>exact ⟨i+1,hik,by go_num,by rw [HSU.out];exact HO8.out,hB8⟩
   case measure=>(simp [intOf] <;> omega)
  ·have e1':decide (i<p.ks.length)=false:=by simpa using hik
   have hta:=psB_all xs d ls p.ks (i:=i) (by have:=HLN.out;omega) (by omega)
   obtain ⟨SS,hSS⟩:∃ s,s=(List.zipWith (pT xs d) ls p.ks).map bs:=⟨_,rfl⟩
   rw [←hSS] at hta
   have HSS:=jj hSS
   have HAR:Hid (Arr wr (StrR wr) SS u8 (if psB xs d ls p.ks i=[] then [] else rowOf u8 ++ [])):=by rw [←hta];exact HOw.out.arr
   have HRW:=jj HOw.out.row
   have HUA:Hid (Under wr (if psB xs d ls p.ks i=[] then [] else rowOf u8 ++ [])):=fun b hb=>by
    split at hb
    ·cases hb
    ·rw [List.append_nil] at hb;exact (HRW.out b hb).2
   have hsl:SS.length≤1000:=by rw [←hta];have:=psB_len xs d ls p.ks i;omega
   have HSL:=jj hsl
   generalize (if psB xs d ls p.ks i=[] then [] else rowOf u8 ++ [])=FA at HAR HUA
   have KT:=jj (KT6.out.same (hBr.block _ KT6.out.lt))
   have KV:=jj (KV6.out.same (hBr.block _ KV6.out.lt))
   clear hta hSS HOw hsl HRW
   obtain ⟨y0,y1,klt⟩:=KT.out.c2
   obtain ⟨z0,z1,z2,z3,z4,z5,klt2⟩:=KV.out.c6
   go_wp2_with fail
   rw [HNA.out,HMB.out]
   refine (impl_rangeText na mb hna10 hmb10 _).mono ?_
   rintro e w9 ⟨rfl,hb9⟩
   rw [HZ3.out]
   have hB9:=hBw0.trans (hb9.mono hBw0.size)
   go_wp2
   go_ret
   exact ⟨zAK HFT.out.symm,hB9⟩
set_option maxHeartbeats 16000000 in
theorem patternText_5 (p:P) (ih:∀ k∈p.ks,TxtPI k) (hop:p.op=5):TxtPI p:=by
 intro xs hw d hd t ht hsh hn60 w x F cs G hx hf hv hg
 obtain ⟨kv,rfl,ha⟩:=(zAE _ _ _).1 hv
 obtain ⟨A,cap,rfl,hc1,hc2⟩:=hx.form
 obtain ⟨A4,cap4,rfl,hc3,hc4⟩:=ha.form
 cases d with
 |zero=>rw [shapeB] at hsh;cases hsh
 |succ d =>
 have hlen:=pT_len hw (d+1) t p ht hsh
 obtain ⟨ho,hl,hall⟩:=zB3 hsh
 have HKN:Hid (∀ k∈p.ks,nodesP k≤60):=fun k hk=>Nat.le_trans (nodesP_kid hk) hn60
 have HW:=jj hw
 have ArrP_PR:Hid (∀ W,Below w w W→PR W p _ G):=fun W hb=>PR.below hv hb hg
 have IH:=jj ih
 have HT:=jj ht
 have HO:=jj ho
 have HLN:=jj hl
 have HTI:=jj (typesP_in hw ht ho)
 have HAG:=jj (fun i h1 h2=>allP_get hall i h1 h2)
 have HX:=jj hx
 have HF:=jj hf
 have HA:=jj ha
 have HG:=jj hg
 clear hx hf ha hg
 clear hw ih hv hsh ht hl hall
 have HLEN:Hid ((pT xs (d+1) t p).length≤480):=by unfold Hid;omega
 have HND:Hid (nodeB xs t p=true):=by unfold Hid nodeB;rw [Bool.and_eq_true];exact ⟨HO.out,by rw [HLN.out];simp⟩
 have htl:=typesP_len HW.out HT.out HO.out
 have hkl3:p.ks.length≤3:=by rw [HLN.out];exact htl
 have e1:(p.op==1)=false:=by rw [hop];decide
 have e2:(p.op==2)=false:=by rw [hop];decide
 have e3:(p.op==3)=false:=by rw [hop];decide
 have e4:(p.op==4)=false:=by rw [hop];decide
 have e5:(p.op==5)=true:=by rw [hop];decide
 have hty:=typesP_or (xs:=xs) (t:=t) hop
 have hk2:p.ks.length=2:=by rw [HLN.out,hty];rfl
 have hik0:0<p.ks.length:=by omega
 have hil0:0<(typesP xs t p).length:=by rw [←HLN.out];omega
 have HS0:Hid (shapeB xs d t p.ks[0]=true):=by have h:=HAG.out 0 hil0 hik0;simp only [hty,zz2,zz3] at h;exact h
 have HN0:Hid (nodesP p.ks[0]≤60):=HKN.out _ (List.getElem_mem hik0)
 have HM0:Hid (p.ks[0]∈p.ks):=List.getElem_mem hik0
 have hXs:(bs (pT xs d t p.ks[0])).size≤480:=by
  have h1:=pT_len HW.out d t p.ks[0] HT.out HS0.out
  have h2:=HN0.out
  rw [bs_size];omega
 obtain ⟨X,hX⟩:∃ z,bs (pT xs d t p.ks[0])=z:=⟨_,rfl⟩
 rw [hX] at hXs
 have HX':=jj hX
 clear hX
 have hik1:1<p.ks.length:=by omega
 have hil1:1<(typesP xs t p).length:=by rw [←HLN.out];omega
 have HS1:Hid (shapeB xs d t p.ks[1]=true):=by have h:=HAG.out 1 hil1 hik1;simp only [hty,zz2,zz3] at h;exact h
 have HN1:Hid (nodesP p.ks[1]≤60):=HKN.out _ (List.getElem_mem hik1)
 have HM1:Hid (p.ks[1]∈p.ks):=List.getElem_mem hik1
 have hYs:(bs (pT xs d t p.ks[1])).size≤480:=by
  have h1:=pT_len HW.out d t p.ks[1] HT.out HS1.out
  have h2:=HN1.out
  rw [bs_size];omega
 obtain ⟨Y,hY⟩:∃ z,bs (pT xs d t p.ks[1])=z:=⟨_,rfl⟩
 rw [hY] at hYs
 have HY':=jj hY
 clear hY
 have hz:List.zipWith (pT xs d) (typesP xs t p) p.ks=[pT xs d t p.ks[0],pT xs d t p.ks[1]]:=by
  rw [hty]
  obtain ⟨u0,u1,hq⟩:=kids_two hk2
  simp only [hq,zz2,zz3,List.zipWith_cons_cons,List.zipWith_nil_left]
 have HZW:Hid ((List.zipWith (pT xs d) (typesP xs t p) p.ks).map bs=[X,Y]):=by unfold Hid;rw [hz,List.map_cons,List.map_cons,List.map_nil,HX'.out,HY'.out]
 have HFT:Hid (bs (pT xs (d+1) t p)=(((⟨#[40]⟩ ++ X) ++ ⟨#[124]⟩) ++ Y) ++ ⟨#[41]⟩):=by
  unfold Hid;rw [pT_succ,nodeT_5 hop,hz,←HX'.out,←HY'.out]
  apply tl_inj;simp only [zA9,tl_bs];simp [tl]
 have c0a:1+X.size≤9223372036854775807:=by omega
 have c0b:¬9223372036854775807<1+X.size:=by omega
 have c1a:1+X.size+1≤9223372036854775807:=by omega
 have c1b:¬9223372036854775807<1+X.size+1:=by omega
 have c2a:1+X.size+1+Y.size≤9223372036854775807:=by omega
 have c2b:¬9223372036854775807<1+X.size+1+Y.size:=by omega
 have c3a:1+X.size+1+Y.size+1≤9223372036854775807:=by omega
 have c3b:¬9223372036854775807<1+X.size+1+Y.size+1:=by omega
 clear hop hty hk2 hXs hYs hz HX' HY' HS0 HS1 HN0 HN1 HM0 HM1 hik0 hik1 hil0 hil1
 clear htl hlen
 obtain ⟨i0,hi,hz0,hz1,hz2⟩:=info_parts info_strE
 have HI:=jj hi
 have HZ0:=jj hz0
 have HZ1:=jj hz1
 have HZ2:=jj hz2
 clear hi hz0 hz1 hz2
 have hB0:Below w w ((w.alloc (.cells #[t.d,t.i] 25)).alloc (.cells #[p.op,p.ct,p.n,p.m,p.va,.slice A4 p.ks.length cap4] 28)):=((zy2 _ _).alloc (zz8 _) _).alloc (by simp) _
 have KT:Hid (Blk ((w.alloc (.cells #[t.d,t.i] 25)).alloc (.cells #[p.op,p.ct,p.n,p.m,p.va,.slice A4 p.ks.length cap4] 28)) w.heap.size 25 #[t.d,t.i]):=(Blk.new w _ _).same (Below.heap_alloc _ _ _ (by simp))
 have KV:Hid (Blk ((w.alloc (.cells #[t.d,t.i] 25)).alloc (.cells #[p.op,p.ct,p.n,p.m,p.va,.slice A4 p.ks.length cap4] 28)) (w.heap.size+1) 28 #[p.op,p.ct,p.n,p.m,p.va,.slice A4 p.ks.length cap4]):=by have h:=Blk.new (w.alloc (.cells #[t.d,t.i] 25)) 28 #[p.op,p.ct,p.n,p.m,p.va,.slice A4 p.ks.length cap4];rw [World.size_alloc] at h;exact h
 go_enter Tryz.func32,Tryz.ntmps32
 go_wp2_with fail
 obtain ⟨W2,hW2⟩:∃ W2,W2=((w.alloc (.cells #[t.d,t.i] 25)).alloc (.cells #[p.op,p.ct,p.n,p.m,p.va,.slice A4 p.ks.length cap4] 28)):=⟨_,rfl⟩
 rw [←hW2] at hB0 KT KV ⊢
 clear hW2
 refine (zB5 xs HW.out t HT.out p HND.out W2 _ F _ G (ArrDt.below HX.out hB0 HF.out) (HF.out.mono hB0.size) (ArrP_PR.out W2 hB0) (HG.out.mono hB0.size)).mono ?_
 rintro e w6 ⟨v6,F6,rfl,hb6,hfs6,ha6⟩
 have hB6:=hB0.trans (hb6.mono hB0.size)
 have KT6:=jj (KT.out.same (hb6.block _ KT.out.lt))
 have KV6:=jj (KV.out.same (hb6.block _ KV.out.lt))
 generalize hass:typesP xs t p=ls at *
 clear hass
 obtain ⟨A6,cap6,rfl,hd3,hd4⟩:=ha6.form
 have HA6:=jj ha6
 have HU6:=jj hfs6.under
 clear ha6 hfs6 hb6 KT KV hB0
 obtain ⟨-,-,-,-,-,z5,klt2⟩:=KV6.out.c6
 have HNIL:Hid (Own w6 w6.heap.size 9 1 StrR (psB xs d ls p.ks 0) (.slice none 0 0) []):=(show Own _ _ _ _ _ (psB xs d ls p.ks 0) _ _ from Own.nil _ _ _ _ _)
 go_wp2
 clear z5 klt2
 go_loopw [8,18] (fun ov iv wr=>∃ i:Nat,i≤p.ks.length∧iv=.int .i64 i∧Hid (Own wr w6.heap.size 9 1 StrR (psB xs d ls p.ks i) ov [])∧Below w6 w6 wr) (fun _ iv _=>p.ks.length-(intOf iv).toNat)
 case atStart=>exact ⟨0,Nat.zero_le _,rfl,HNIL,zy2 _ _⟩
 case round =>
  clear HNIL
  obtain ⟨i,hi,rfl,HOw,hBr⟩:=hrel
  have hBw0:Below w w wr:=hB6.trans (hBr.mono hB6.size)
  by_cases hik:i<p.ks.length
  ·have hil:i<ls.length:=by rw [←HLN.out];exact hik
   obtain ⟨b6,off6,rfl⟩:=HA6.out.ptr (by omega)
   obtain ⟨b4,off4,rfl⟩:=HA.out.ptr (by omega)
   obtain ⟨A7,cap7,G7,hb7,k0,k1,k2,k3,k4,k5,HV7,HG7,-,-,-⟩:=ArrP.at HA.out HG.out hBw0 i hik
   have g1:(0:Int)≤(i:Int):=by omega
   have g2:(i:Int)<(ls.length:Int):=by omega
   have g3:(i:Int)<(p.ks.length:Int):=by omega
   have e1':decide (i<p.ks.length)=true:=by simpa using hik
   have HFI:Hid (shapeB xs d ls[i] p.ks[i]=true):=HAG.out i hil hik
   have HMK:Hid (p.ks[i]∈p.ks):=List.getElem_mem hik
   have HNI:Hid (nodesP p.ks[i]≤60):=HKN.out _ HMK.out
   have HTI2:=jj (HTI.out _ (List.getElem_mem hil))
   have HSC:=jj (psB_succ xs d ls p.ks i hil hik)
   obtain ⟨Z,hZ⟩:∃ z,bs (pT xs d ls[i] p.ks[i])=z:=⟨_,rfl⟩
   have HZ:=jj hZ
   have HSU:Hid (psB xs d ls p.ks (i+1)=psB xs d ls p.ks i ++ [Z]):=by rw [←HZ.out];exact HSC.out
   clear hZ HSC
   have hlm:=psB_len xs d ls p.ks i
   have hmx:(psB xs d ls p.ks i).length+1≤maxLen:=by unfold maxLen;omega
   have hby:((psB xs d ls p.ks i).length+1)*16≤140737488355328:=by omega
   have hbe:Below wr wr (wr.alloc (.cells #[p.ks[i].op,p.ks[i].ct,p.ks[i].n,p.ks[i].m,p.ks[i].va,.slice A7 p.ks[i].ks.length cap7] 28)):=(zy2 _ _).alloc (zz8 _) _
   have HOq:Hid (Own (wr.alloc (.cells #[p.ks[i].op,p.ks[i].ct,p.ks[i].n,p.ks[i].m,p.ks[i].va,.slice A7 p.ks[i].ks.length cap7] 28)) w6.heap.size 9 1 StrR (psB xs d ls p.ks i) u8 []):=HOw.out.below (fun x cs G hk h=>zA7 _ _ x cs G hk h) hbe
   have hBq:Below w6 w6 (wr.alloc (.cells #[p.ks[i].op,p.ks[i].ct,p.ks[i].n,p.ks[i].m,p.ks[i].va,.slice A7 p.ks[i].ks.length cap7] 28)):=hBr.trans (hbe.mono hBr.size)
   have hBwq:Below w w (wr.alloc (.cells #[p.ks[i].op,p.ks[i].ct,p.ks[i].n,p.ks[i].m,p.ks[i].va,.slice A7 p.ks[i].ks.length cap7] 28)):=hBw0.trans (hbe.mono hBw0.size)
   have KD:Hid (Blk (wr.alloc (.cells #[p.ks[i].op,p.ks[i].ct,p.ks[i].n,p.ks[i].m,p.ks[i].va,.slice A7 p.ks[i].ks.length cap7] 28)) wr.heap.size 28 #[p.ks[i].op,p.ks[i].ct,p.ks[i].n,p.ks[i].m,p.ks[i].va,.slice A7 p.ks[i].ks.length cap7]):=Blk.new _ _ _
   have HKD:Hid (wr.heap.size∉rowOf u8):=fun h=>Nat.lt_irrefl _ (HOw.out.row _ h).2
   obtain ⟨kA,kcap,hkv,-,-⟩:=HOw.out.form
   subst hkv
   go_wp2_with fail
   clear k0 k1 k2 k3 k4 k5 hb7
   generalize (wr.alloc (.cells #[p.ks[i].op,p.ks[i].ct,p.ks[i].n,p.ks[i].m,p.ks[i].va,.slice A7 p.ks[i].ks.length cap7] 28))=wq at *
   generalize wr.heap.size=kd at *
   obtain ⟨hb6q,a0,a1⟩:=ArrTy.at HA6.out HU6.out hBq i hil
   have hb6l:b6<w6.heap.size:=ArrTy_lt HA6.out HU6.out i hil
   have k0:=(KD.out.cell 0).trans (show _=some (.int .i64 p.ks[i].op) from by simp)
   have k1:=(KD.out.cell 1).trans (show _=some (.int .i64 p.ks[i].ct) from by simp)
   have k2:=(KD.out.cell 2).trans (show _=some (.int .i64 p.ks[i].n) from by simp)
   have k3:=(KD.out.cell 3).trans (show _=some (.int .i64 p.ks[i].m) from by simp)
   have k4:=(KD.out.cell 4).trans (show _=some (.int .i64 p.ks[i].va) from by simp)
   have k5:=(KD.out.cell 5).trans (show _=some (.slice A7 p.ks[i].ks.length cap7) from by simp)
   have klt:=KD.out.lt
   have hBw:Below w w wq.drew:=hBwq.drew
   have HS:Hid (∀ C:World,Below wq wq C→(C.cell? ⟨b6,off6+i*2,none⟩=ls[i].d∧C.cell? ⟨b6,off6+i*2+1,none⟩=ls[i].i∧C.cell? ⟨kd,0,none⟩=p.ks[i].op∧C.cell? ⟨kd,1,none⟩=p.ks[i].ct∧C.cell? ⟨kd,2,none⟩=p.ks[i].n∧C.cell? ⟨kd,3,none⟩=p.ks[i].m∧C.cell? ⟨kd,4,none⟩=p.ks[i].va∧C.cell? ⟨kd,5,none⟩=some (.slice A7 p.ks[i].ks.length cap7))):=fun C hb=>⟨(hb.cell (hb6q)).trans a0,(hb.cell (hb6q)).trans a1,(hb.cell (klt)).trans k0,(hb.cell (klt)).trans k1,(hb.cell (klt)).trans k2,(hb.cell (klt)).trans k3,(hb.cell (klt)).trans k4,(hb.cell (klt)).trans k5⟩
   have hC0:Below wq wq wq.drew:=(zy2 _ _).drew
   refine wpBS HS.out (T:=fun _=>True) (d:=99) (by kernel_rfl) ?_
   obtain ⟨wd,hwd⟩:∃ X,X=wq.drew:=⟨_,rfl⟩
   rw [←hwd] at hC0 hBw  ⊢
   clear hwd
   have hS0:=HS.out _ hC0
   have hT0:True:=trivial
   refine wV 0 rfl hS0 hT0 ?_
   (try simp only [zz])
   refine wV 1 rfl hS0 hT0 ?_
   (try simp only [zz])
   refine wV 2 rfl hS0 hT0 ?_
   (try simp only [zz])
   refine wV 3 rfl hS0 hT0 ?_
   (try simp only [zz])
   refine wV 4 rfl hS0 hT0 ?_
   (try simp only [zz])
   refine wV 5 rfl hS0 hT0 ?_
   (try simp only [zz])
   refine wV 6 rfl hS0 hT0 ?_
   (try simp only [zz])
   refine w1 7 rfl fun K hK=>?_
   go_simp
   go_at_call 32
   refine (IH.out p.ks[i] HMK.out xs HW.out d (by omega) ls[i] HTI2.out HFI.out HNI.out wd _ F _ G7 (ArrDt.below HX.out hBw HF.out) (HF.out.mono hBw.size) (HV7.out.below hBw HG7.out) (HG7.out.mono hBw.size)).mono ?_
   rintro e w4 ⟨rfl,hb4⟩
   have hC1:Below wq wq w4:=hC0.trans (hb4.mono hC0.size)
   have hS1:=HS.out _ hC1
   rw [HZ.out]
   (try dsimp only)
   refine hK.out _ _ hS1 (fun _=>trivial) ?_
   clear hK K
   (try simp only [zz])
   have HO5:Hid (Own w4 w6.heap.size 9 1 StrR (psB xs d ls p.ks i) (.slice kA (psB xs d ls p.ks i).length kcap) []):=HOq.out.below (fun x cs G hk h=>zA7 _ _ x cs G hk h) (hC1)
   have hB5:Below w6 w6 w4:=hBq.trans (hC1.mono hBq.size)
   have hbs5:w6.heap.size≤w4.heap.size:=hB5.size
   have hb6w:b6<w4.heap.size:=zz9 hb6q hC1.size
   have klt4:kd<w4.heap.size:=zz9 klt hC1.size
   refine w1 8 rfl fun K hK=>?_
   go_simp
   have hSa:(w4.alloc (.cells #[.string Z] 9)).cell? ⟨b6,off6+i*2,none⟩=ls[i].d∧(w4.alloc (.cells #[.string Z] 9)).cell? ⟨b6,off6+i*2+1,none⟩=ls[i].i∧(w4.alloc (.cells #[.string Z] 9)).cell? ⟨kd,0,none⟩=p.ks[i].op∧(w4.alloc (.cells #[.string Z] 9)).cell? ⟨kd,1,none⟩=p.ks[i].ct∧(w4.alloc (.cells #[.string Z] 9)).cell? ⟨kd,2,none⟩=p.ks[i].n∧(w4.alloc (.cells #[.string Z] 9)).cell? ⟨kd,3,none⟩=p.ks[i].m∧(w4.alloc (.cells #[.string Z] 9)).cell? ⟨kd,4,none⟩=p.ks[i].va∧(w4.alloc (.cells #[.string Z] 9)).cell? ⟨kd,5,none⟩=some (.slice A7 p.ks[i].ks.length cap7):=⟨(World.cell?_alloc_lt _ _ _ hb6w).trans hS1.1,(World.cell?_alloc_lt _ _ _ hb6w).trans hS1.2.1,(World.cell?_alloc_lt _ _ _ klt4).trans hS1.2.2.1,(World.cell?_alloc_lt _ _ _ klt4).trans hS1.2.2.2.1,(World.cell?_alloc_lt _ _ _ klt4).trans hS1.2.2.2.2.1,(World.cell?_alloc_lt _ _ _ klt4).trans hS1.2.2.2.2.2.1,(World.cell?_alloc_lt _ _ _ klt4).trans hS1.2.2.2.2.2.2.1,(World.cell?_alloc_lt _ _ _ klt4).trans hS1.2.2.2.2.2.2.2⟩
   refine hK.out _ _ hSa (fun _=>trivial) ?_
   clear hK K
   (try simp only [zz])
   refine w1 9 rfl fun K hK=>?_
   refine zAB (P:=Tryz.prog) rfl _ _ 60 rfl i0 _ 16 Tryz.underlying60 HI.out HZ0.out HZ1.out HZ2.out rfl Nat.zero_lt_one zAH zA7 (by rfl) HO5.out Z 9 [.string Z] [] _ (by rfl) rfl (by simp [Value.oneCell']) ⟨rfl,rfl⟩ (Under.nil _) (fun _ _ h=>by cases h) hmx hby hbs5 ?_
   intro g cp w8 hown8 hgr8 hat8
   have hrow:=HO5.out.row
   have hB8:Below w6 w6 w8:=(hB5.alloc hbs5 _).grown hgr8 (by simp;omega) (fun g hg=>(hrow g (zA1.2 hg)).1)
   have l7:w4.heap.size≤(w4.alloc (.cells #[.string Z] 9)).heap.size:=by rw [World.size_alloc];exact Nat.le_succ _
   have hnb6:some b6≠(Value.slice kA (psB xs d ls p.ks i).length kcap).ownBlock:=fun e=>by
    have:=(hrow b6 (zA1.2 e.symm)).1;omega
   have hnkd:some kd≠(Value.slice kA (psB xs d ls p.ks i).length kcap).ownBlock:=fun e=>HKD.out (zA1.2 e.symm)
   have hfar:∀ p':Addr,p'.block<w4.heap.size→some p'.block≠(Value.slice kA (psB xs d ls p.ks i).length kcap).ownBlock→w8.cell? p'=w4.cell? p':=fun p' h1 h2=>(World.grownBy.cell_far hgr8 p' (zz9 h1 l7) h2).trans (World.cell?_alloc_lt _ _ _ h1)
   have hS8:w8.cell? ⟨b6,off6+i*2,none⟩=ls[i].d∧w8.cell? ⟨b6,off6+i*2+1,none⟩=ls[i].i∧w8.cell? ⟨kd,0,none⟩=p.ks[i].op∧w8.cell? ⟨kd,1,none⟩=p.ks[i].ct∧w8.cell? ⟨kd,2,none⟩=p.ks[i].n∧w8.cell? ⟨kd,3,none⟩=p.ks[i].m∧w8.cell? ⟨kd,4,none⟩=p.ks[i].va∧w8.cell? ⟨kd,5,none⟩=some (.slice A7 p.ks[i].ks.length cap7):=⟨(hfar ⟨b6,off6+i*2,none⟩ hb6w hnb6).trans hS1.1,(hfar ⟨b6,off6+i*2+1,none⟩ hb6w hnb6).trans hS1.2.1,(hfar ⟨kd,0,none⟩ klt4 hnkd).trans hS1.2.2.1,(hfar ⟨kd,1,none⟩ klt4 hnkd).trans hS1.2.2.2.1,(hfar ⟨kd,2,none⟩ klt4 hnkd).trans hS1.2.2.2.2.1,(hfar ⟨kd,3,none⟩ klt4 hnkd).trans hS1.2.2.2.2.2.1,(hfar ⟨kd,4,none⟩ klt4 hnkd).trans hS1.2.2.2.2.2.2.1,(hfar ⟨kd,5,none⟩ klt4 hnkd).trans hS1.2.2.2.2.2.2.2⟩
   have HO8:=jj hown8
   refine hK.out _ _ hS8 (fun _=>trivial) ?_
   clear hK K
   (try simp only [zz])
   refine wV 10 rfl hS8 hT0 ?_
   (try simp only [zz])
   refine wE (by kernel_rfl) ?_
   clear hS0 hS1 hS8 hT0 hfar hnkd hnb6 l7 hrow hgr8 hat8 hown8 hbe hb4 HO5 hB5 HOq hBq hBwq hBw HS hC0 hC1
   go_wp2
   go_roundw
   case rel=>exact ⟨i+1,hik,by go_num,by rw [HSU.out];exact HO8.out,hB8⟩
   case measure=>(simp [intOf] <;> omega)
  ·have e1':decide (i<p.ks.length)=false:=by simpa using hik
   have hta:=psB_all xs d ls p.ks (i:=i) (by have:=HLN.out;omega) (by omega)
   obtain ⟨SS,hSS⟩:∃ s,s=(List.zipWith (pT xs d) ls p.ks).map bs:=⟨_,rfl⟩
   rw [←hSS] at hta
   have HSS:=jj hSS
   have HAR:Hid (Arr wr (StrR wr) SS u8 (if psB xs d ls p.ks i=[] then [] else rowOf u8 ++ [])):=by rw [←hta];exact HOw.out.arr
   have HRW:=jj HOw.out.row
   have HUA:Hid (Under wr (if psB xs d ls p.ks i=[] then [] else rowOf u8 ++ [])):=fun b hb=>by
    split at hb
    ·cases hb
    ·rw [List.append_nil] at hb;exact (HRW.out b hb).2
   have hsl:SS.length≤1000:=by rw [←hta];have:=psB_len xs d ls p.ks i;omega
   have HSL:=jj hsl
   generalize (if psB xs d ls p.ks i=[] then [] else rowOf u8 ++ [])=FA at HAR HUA
   have KT:=jj (KT6.out.same (hBr.block _ KT6.out.lt))
   have KV:=jj (KV6.out.same (hBr.block _ KV6.out.lt))
   clear hta hSS HOw hsl HRW
   obtain ⟨y0,y1,klt⟩:=KT.out.c2
   obtain ⟨z0,z1,z2,z3,z4,z5,klt2⟩:=KV.out.c6
   obtain rfl:SS=[X,Y]:=HSS.out.trans HZW.out
   obtain ⟨kA,kcap,hkv,-,-⟩:=HAR.out.form
   subst hkv
   obtain ⟨bK,offK,rfl⟩:=HAR.out.ptr (by simp)
   obtain ⟨hbK,s0⟩:=ArrStr.at HAR.out HUA.out (zy2 _ _) 0 (by simp)
   obtain ⟨-,s1⟩:=ArrStr.at HAR.out HUA.out (zy2 _ _) 1 (by simp)
   simp only [zz2,zz3,Nat.add_zero] at s0 s1
   have HBQ:=jj (fun n=>zBD hBw0 n)
   go_wp2_with fail
   go_quiet (fail)
   go_wp2
   go_ret
   exact ⟨zAK HFT.out.symm,HBQ.out _⟩
set_option maxHeartbeats 16000000 in
theorem patternText_6 (p:P) (ih:∀ k∈p.ks,TxtPI k) (hop:p.op=6):TxtPI p:=by
 intro xs hw d hd t ht hsh hn60 w x F cs G hx hf hv hg
 obtain ⟨kv,rfl,ha⟩:=(zAE _ _ _).1 hv
 obtain ⟨A,cap,rfl,hc1,hc2⟩:=hx.form
 obtain ⟨A4,cap4,rfl,hc3,hc4⟩:=ha.form
 cases d with
 |zero=>rw [shapeB] at hsh;cases hsh
 |succ d =>
 have hlen:=pT_len hw (d+1) t p ht hsh
 obtain ⟨ho,hl,hall⟩:=zB3 hsh
 have HKN:Hid (∀ k∈p.ks,nodesP k≤60):=fun k hk=>Nat.le_trans (nodesP_kid hk) hn60
 have HW:=jj hw
 have ArrP_PR:Hid (∀ W,Below w w W→PR W p _ G):=fun W hb=>PR.below hv hb hg
 have IH:=jj ih
 have HT:=jj ht
 have HO:=jj ho
 have HLN:=jj hl
 have HTI:=jj (typesP_in hw ht ho)
 have HAG:=jj (fun i h1 h2=>allP_get hall i h1 h2)
 have HX:=jj hx
 have HF:=jj hf
 have HA:=jj ha
 have HG:=jj hg
 clear hx hf ha hg
 clear hw ih hv hsh ht hl hall
 have HLEN:Hid ((pT xs (d+1) t p).length≤480):=by unfold Hid;omega
 have HND:Hid (nodeB xs t p=true):=by unfold Hid nodeB;rw [Bool.and_eq_true];exact ⟨HO.out,by rw [HLN.out];simp⟩
 have htl:=typesP_len HW.out HT.out HO.out
 have hkl3:p.ks.length≤3:=by rw [HLN.out];exact htl
 have e1:(p.op==1)=false:=by rw [hop];decide
 have e2:(p.op==2)=false:=by rw [hop];decide
 have e3:(p.op==3)=false:=by rw [hop];decide
 have e4:(p.op==4)=false:=by rw [hop];decide
 have e5:(p.op==5)=false:=by rw [hop];decide
 have hva:=own_var HO.out (by unfold namedB;rw [hop];rfl)
 have hty:=typesP_as (xs:=xs) (t:=t) hop
 have hk1:p.ks.length=1:=by rw [HLN.out,hty];rfl
 have hik0:0<p.ks.length:=by omega
 have hil0:0<(typesP xs t p).length:=by rw [←HLN.out];omega
 have HS0:Hid (shapeB xs d t p.ks[0]=true):=by have h:=HAG.out 0 hil0 hik0;simp only [hty,zz2,zz3] at h;exact h
 have HN0:Hid (nodesP p.ks[0]≤60):=HKN.out _ (List.getElem_mem hik0)
 have HM0:Hid (p.ks[0]∈p.ks):=List.getElem_mem hik0
 have hXs:(bs (pT xs d t p.ks[0])).size≤480:=by
  have h1:=pT_len HW.out d t p.ks[0] HT.out HS0.out
  have h2:=HN0.out
  rw [bs_size];omega
 obtain ⟨X,hX⟩:∃ z,bs (pT xs d t p.ks[0])=z:=⟨_,rfl⟩
 rw [hX] at hXs
 have HX':=jj hX
 clear hX
 have hz:List.zipWith (pT xs d) (typesP xs t p) p.ks=[pT xs d t p.ks[0]]:=by
  rw [hty]
  obtain ⟨u0,hq⟩:∃ k0,p.ks=[k0]:=List.length_eq_one_iff.1 hk1
  simp only [hq,zz2,List.zipWith_cons_cons,List.zipWith_nil_left]
 have HZW:Hid ((List.zipWith (pT xs d) (typesP xs t p) p.ks).map bs=[X]):=by unfold Hid;rw [hz,List.map_cons,List.map_nil,HX'.out]
 obtain ⟨L,hL⟩:∃ x,bs (letT p.va)=x:=⟨_,rfl⟩
 have hl1:L.size=1:=by rw [←hL];rfl
 have HL:=jj hL
 have HFT:Hid (bs (pT xs (d+1) t p)=(L ++ ⟨#[64]⟩) ++ X):=by
  unfold Hid;rw [pT_succ,nodeT_6 hop,hz,←HX'.out,←HL.out]
  apply tl_inj;simp only [zA9,tl_bs];simp [tl]
 have c0a:L.size+1≤9223372036854775807:=by omega
 have c0b:¬9223372036854775807<L.size+1:=by omega
 have c1a:L.size+1+X.size≤9223372036854775807:=by omega
 have c1b:¬9223372036854775807<L.size+1+X.size:=by omega
 clear hop hty hk1 hXs hz HX' HS0 HN0 HM0 hik0 hil0 hl1 hL
 clear htl hlen
 obtain ⟨i0,hi,hz0,hz1,hz2⟩:=info_parts info_strE
 have HI:=jj hi
 have HZ0:=jj hz0
 have HZ1:=jj hz1
 have HZ2:=jj hz2
 clear hi hz0 hz1 hz2
 have hB0:Below w w ((w.alloc (.cells #[t.d,t.i] 25)).alloc (.cells #[p.op,p.ct,p.n,p.m,p.va,.slice A4 p.ks.length cap4] 28)):=((zy2 _ _).alloc (zz8 _) _).alloc (by simp) _
 have KT:Hid (Blk ((w.alloc (.cells #[t.d,t.i] 25)).alloc (.cells #[p.op,p.ct,p.n,p.m,p.va,.slice A4 p.ks.length cap4] 28)) w.heap.size 25 #[t.d,t.i]):=(Blk.new w _ _).same (Below.heap_alloc _ _ _ (by simp))
 have KV:Hid (Blk ((w.alloc (.cells #[t.d,t.i] 25)).alloc (.cells #[p.op,p.ct,p.n,p.m,p.va,.slice A4 p.ks.length cap4] 28)) (w.heap.size+1) 28 #[p.op,p.ct,p.n,p.m,p.va,.slice A4 p.ks.length cap4]):=by have h:=Blk.new (w.alloc (.cells #[t.d,t.i] 25)) 28 #[p.op,p.ct,p.n,p.m,p.va,.slice A4 p.ks.length cap4];rw [World.size_alloc] at h;exact h
 go_enter Tryz.func32,Tryz.ntmps32
 go_wp2_with fail
 obtain ⟨W2,hW2⟩:∃ W2,W2=((w.alloc (.cells #[t.d,t.i] 25)).alloc (.cells #[p.op,p.ct,p.n,p.m,p.va,.slice A4 p.ks.length cap4] 28)):=⟨_,rfl⟩
 rw [←hW2] at hB0 KT KV ⊢
 clear hW2
 refine (zB5 xs HW.out t HT.out p HND.out W2 _ F _ G (ArrDt.below HX.out hB0 HF.out) (HF.out.mono hB0.size) (ArrP_PR.out W2 hB0) (HG.out.mono hB0.size)).mono ?_
 rintro e w6 ⟨v6,F6,rfl,hb6,hfs6,ha6⟩
 have hB6:=hB0.trans (hb6.mono hB0.size)
 have KT6:=jj (KT.out.same (hb6.block _ KT.out.lt))
 have KV6:=jj (KV.out.same (hb6.block _ KV.out.lt))
 generalize hass:typesP xs t p=ls at *
 clear hass
 obtain ⟨A6,cap6,rfl,hd3,hd4⟩:=ha6.form
 have HA6:=jj ha6
 have HU6:=jj hfs6.under
 clear ha6 hfs6 hb6 KT KV hB0
 obtain ⟨-,-,-,-,-,z5,klt2⟩:=KV6.out.c6
 have HNIL:Hid (Own w6 w6.heap.size 9 1 StrR (psB xs d ls p.ks 0) (.slice none 0 0) []):=(show Own _ _ _ _ _ (psB xs d ls p.ks 0) _ _ from Own.nil _ _ _ _ _)
 go_wp2
 clear z5 klt2
 go_loopw [8,18] (fun ov iv wr=>∃ i:Nat,i≤p.ks.length∧iv=.int .i64 i∧Hid (Own wr w6.heap.size 9 1 StrR (psB xs d ls p.ks i) ov [])∧Below w6 w6 wr) (fun _ iv _=>p.ks.length-(intOf iv).toNat)
 case atStart=>exact ⟨0,Nat.zero_le _,rfl,HNIL,zy2 _ _⟩
 case round =>
  clear HNIL
  obtain ⟨i,hi,rfl,HOw,hBr⟩:=hrel
  have hBw0:Below w w wr:=hB6.trans (hBr.mono hB6.size)
  by_cases hik:i<p.ks.length
  ·have hil:i<ls.length:=by rw [←HLN.out];exact hik
   obtain ⟨b6,off6,rfl⟩:=HA6.out.ptr (by omega)
   obtain ⟨b4,off4,rfl⟩:=HA.out.ptr (by omega)
   obtain ⟨A7,cap7,G7,hb7,k0,k1,k2,k3,k4,k5,HV7,HG7,-,-,-⟩:=ArrP.at HA.out HG.out hBw0 i hik
   have g1:(0:Int)≤(i:Int):=by omega
   have g2:(i:Int)<(ls.length:Int):=by omega
   have g3:(i:Int)<(p.ks.length:Int):=by omega
   have e1':decide (i<p.ks.length)=true:=by simpa using hik
   have HFI:Hid (shapeB xs d ls[i] p.ks[i]=true):=HAG.out i hil hik
   have HMK:Hid (p.ks[i]∈p.ks):=List.getElem_mem hik
   have HNI:Hid (nodesP p.ks[i]≤60):=HKN.out _ HMK.out
   have HTI2:=jj (HTI.out _ (List.getElem_mem hil))
   have HSC:=jj (psB_succ xs d ls p.ks i hil hik)
   obtain ⟨Z,hZ⟩:∃ z,bs (pT xs d ls[i] p.ks[i])=z:=⟨_,rfl⟩
   have HZ:=jj hZ
   have HSU:Hid (psB xs d ls p.ks (i+1)=psB xs d ls p.ks i ++ [Z]):=by rw [←HZ.out];exact HSC.out
   clear hZ HSC
   have hlm:=psB_len xs d ls p.ks i
   have hmx:(psB xs d ls p.ks i).length+1≤maxLen:=by unfold maxLen;omega
   have hby:((psB xs d ls p.ks i).length+1)*16≤140737488355328:=by omega
   have hbe:Below wr wr (wr.alloc (.cells #[p.ks[i].op,p.ks[i].ct,p.ks[i].n,p.ks[i].m,p.ks[i].va,.slice A7 p.ks[i].ks.length cap7] 28)):=(zy2 _ _).alloc (zz8 _) _
   have HOq:Hid (Own (wr.alloc (.cells #[p.ks[i].op,p.ks[i].ct,p.ks[i].n,p.ks[i].m,p.ks[i].va,.slice A7 p.ks[i].ks.length cap7] 28)) w6.heap.size 9 1 StrR (psB xs d ls p.ks i) u8 []):=HOw.out.below (fun x cs G hk h=>zA7 _ _ x cs G hk h) hbe
   have hBq:Below w6 w6 (wr.alloc (.cells #[p.ks[i].op,p.ks[i].ct,p.ks[i].n,p.ks[i].m,p.ks[i].va,.slice A7 p.ks[i].ks.length cap7] 28)):=hBr.trans (hbe.mono hBr.size)
   have hBwq:Below w w (wr.alloc (.cells #[p.ks[i].op,p.ks[i].ct,p.ks[i].n,p.ks[i].m,p.ks[i].va,.slice A7 p.ks[i].ks.length cap7] 28)):=hBw0.trans (hbe.mono hBw0.size)
   have KD:Hid (Blk (wr.alloc (.cells #[p.ks[i].op,p.ks[i].ct,p.ks[i].n,p.ks[i].m,p.ks[i].va,.slice A7 p.ks[i].ks.length cap7] 28)) wr.heap.size 28 #[p.ks[i].op,p.ks[i].ct,p.ks[i].n,p.ks[i].m,p.ks[i].va,.slice A7 p.ks[i].ks.length cap7]):=Blk.new _ _ _
   have HKD:Hid (wr.heap.size∉rowOf u8):=fun h=>Nat.lt_irrefl _ (HOw.out.row _ h).2
   obtain ⟨kA,kcap,hkv,-,-⟩:=HOw.out.form
   subst hkv
   go_wp2_with fail
   clear k0 k1 k2 k3 k4 k5 hb7
   generalize (wr.alloc (.cells #[p.ks[i].op,p.ks[i].ct,p.ks[i].n,p.ks[i].m,p.ks[i].va,.slice A7 p.ks[i].ks.length cap7] 28))=wq at *
   generalize wr.heap.size=kd at *
   obtain ⟨hb6q,a0,a1⟩:=ArrTy.at HA6.out HU6.out hBq i hil
   have hb6l:b6<w6.heap.size:=ArrTy_lt HA6.out HU6.out i hil
   have k0:=(KD.out.cell 0).trans (show _=some (.int .i64 p.ks[i].op) from by simp)
   have k1:=(KD.out.cell 1).trans (show _=some (.int .i64 p.ks[i].ct) from by simp)
   have k2:=(KD.out.cell 2).trans (show _=some (.int .i64 p.ks[i].n) from by simp)
   have k3:=(KD.out.cell 3).trans (show _=some (.int .i64 p.ks[i].m) from by simp)
   have k4:=(KD.out.cell 4).trans (show _=some (.int .i64 p.ks[i].va) from by simp)
   have k5:=(KD.out.cell 5).trans (show _=some (.slice A7 p.ks[i].ks.length cap7) from by simp)
   have klt:=KD.out.lt
   have hBw:Below w w wq.drew:=hBwq.drew
   have HS:Hid (∀ C:World,Below wq wq C→(C.cell? ⟨b6,off6+i*2,none⟩=ls[i].d∧C.cell? ⟨b6,off6+i*2+1,none⟩=ls[i].i∧C.cell? ⟨kd,0,none⟩=p.ks[i].op∧C.cell? ⟨kd,1,none⟩=p.ks[i].ct∧C.cell? ⟨kd,2,none⟩=p.ks[i].n∧C.cell? ⟨kd,3,none⟩=p.ks[i].m∧C.cell? ⟨kd,4,none⟩=p.ks[i].va∧C.cell? ⟨kd,5,none⟩=some (.slice A7 p.ks[i].ks.length cap7))):=fun C hb=>⟨(hb.cell (hb6q)).trans a0,(hb.cell (hb6q)).trans a1,(hb.cell (klt)).trans k0,(hb.cell (klt)).trans k1,(hb.cell (klt)).trans k2,(hb.cell (klt)).trans k3,(hb.cell (klt)).trans k4,(hb.cell (klt)).trans k5⟩
   have hC0:Below wq wq wq.drew:=(zy2 _ _).drew
   refine wpBS HS.out (T:=fun _=>True) (d:=99) (by kernel_rfl) ?_
   obtain ⟨wd,hwd⟩:∃ X,X=wq.drew:=⟨_,rfl⟩
   rw [←hwd] at hC0 hBw  ⊢
   clear hwd
   have hS0:=HS.out _ hC0
   have hT0:True:=trivial
   refine wV 0 rfl hS0 hT0 ?_
   (try simp only [zz])
   refine wV 1 rfl hS0 hT0 ?_
   (try simp only [zz])
   refine wV 2 rfl hS0 hT0 ?_
   (try simp only [zz])
   refine wV 3 rfl hS0 hT0 ?_
   (try simp only [zz])
   refine wV 4 rfl hS0 hT0 ?_
   (try simp only [zz])
   refine wV 5 rfl hS0 hT0 ?_
   (try simp only [zz])
   refine wV 6 rfl hS0 hT0 ?_
   (try simp only [zz])
   refine w1 7 rfl fun K hK=>?_
   go_simp
   go_at_call 32
   refine (IH.out p.ks[i] HMK.out xs HW.out d (by omega) ls[i] HTI2.out HFI.out HNI.out wd _ F _ G7 (ArrDt.below HX.out hBw HF.out) (HF.out.mono hBw.size) (HV7.out.below hBw HG7.out) (HG7.out.mono hBw.size)).mono ?_
   rintro e w4 ⟨rfl,hb4⟩
   have hC1:Below wq wq w4:=hC0.trans (hb4.mono hC0.size)
   have hS1:=HS.out _ hC1
   rw [HZ.out]
   (try dsimp only)
   refine hK.out _ _ hS1 (fun _=>trivial) ?_
   clear hK K
   (try simp only [zz])
   have HO5:Hid (Own w4 w6.heap.size 9 1 StrR (psB xs d ls p.ks i) (.slice kA (psB xs d ls p.ks i).length kcap) []):=HOq.out.below (fun x cs G hk h=>zA7 _ _ x cs G hk h) (hC1)
   have hB5:Below w6 w6 w4:=hBq.trans (hC1.mono hBq.size)
   have hbs5:w6.heap.size≤w4.heap.size:=hB5.size
   have hb6w:b6<w4.heap.size:=zz9 hb6q hC1.size
   have klt4:kd<w4.heap.size:=zz9 klt hC1.size
   refine w1 8 rfl fun K hK=>?_
   go_simp
   have hSa:(w4.alloc (.cells #[.string Z] 9)).cell? ⟨b6,off6+i*2,none⟩=ls[i].d∧(w4.alloc (.cells #[.string Z] 9)).cell? ⟨b6,off6+i*2+1,none⟩=ls[i].i∧(w4.alloc (.cells #[.string Z] 9)).cell? ⟨kd,0,none⟩=p.ks[i].op∧(w4.alloc (.cells #[.string Z] 9)).cell? ⟨kd,1,none⟩=p.ks[i].ct∧(w4.alloc (.cells #[.string Z] 9)).cell? ⟨kd,2,none⟩=p.ks[i].n∧(w4.alloc (.cells #[.string Z] 9)).cell? ⟨kd,3,none⟩=p.ks[i].m∧(w4.alloc (.cells #[.string Z] 9)).cell? ⟨kd,4,none⟩=p.ks[i].va∧(w4.alloc (.cells #[.string Z] 9)).cell? ⟨kd,5,none⟩=some (.slice A7 p.ks[i].ks.length cap7):=⟨(World.cell?_alloc_lt _ _ _ hb6w).trans hS1.1,(World.cell?_alloc_lt _ _ _ hb6w).trans hS1.2.1,(World.cell?_alloc_lt _ _ _ klt4).trans hS1.2.2.1,(World.cell?_alloc_lt _ _ _ klt4).trans hS1.2.2.2.1,(World.cell?_alloc_lt _ _ _ klt4).trans hS1.2.2.2.2.1,(World.cell?_alloc_lt _ _ _ klt4).trans hS1.2.2.2.2.2.1,(World.cell?_alloc_lt _ _ _ klt4).trans hS1.2.2.2.2.2.2.1,(World.cell?_alloc_lt _ _ _ klt4).trans hS1.2.2.2.2.2.2.2⟩
   refine hK.out _ _ hSa (fun _=>trivial) ?_
   clear hK K
   (try simp only [zz])
   refine w1 9 rfl fun K hK=>?_
   refine zAB (P:=Tryz.prog) rfl _ _ 60 rfl i0 _ 16 Tryz.underlying60 HI.out HZ0.out HZ1.out HZ2.out rfl Nat.zero_lt_one zAH zA7 (by rfl) HO5.out Z 9 [.string Z] [] _ (by rfl) rfl (by simp [Value.oneCell']) ⟨rfl,rfl⟩ (Under.nil _) (fun _ _ h=>by cases h) hmx hby hbs5 ?_
   intro g cp w8 hown8 hgr8 hat8
   have hrow:=HO5.out.row
   have hB8:Below w6 w6 w8:=(hB5.alloc hbs5 _).grown hgr8 (by simp;omega) (fun g hg=>(hrow g (zA1.2 hg)).1)
   have l7:w4.heap.size≤(w4.alloc (.cells #[.string Z] 9)).heap.size:=by rw [World.size_alloc];exact Nat.le_succ _
   have hnb6:some b6≠(Value.slice kA (psB xs d ls p.ks i).length kcap).ownBlock:=fun e=>by
    have:=(hrow b6 (zA1.2 e.symm)).1;omega
   have hnkd:some kd≠(Value.slice kA (psB xs d ls p.ks i).length kcap).ownBlock:=fun e=>HKD.out (zA1.2 e.symm)
   have hfar:∀ p':Addr,p'.block<w4.heap.size→some p'.block≠(Value.slice kA (psB xs d ls p.ks i).length kcap).ownBlock→w8.cell? p'=w4.cell? p':=fun p' h1 h2=>(World.grownBy.cell_far hgr8 p' (zz9 h1 l7) h2).trans (World.cell?_alloc_lt _ _ _ h1)
   have hS8:w8.cell? ⟨b6,off6+i*2,none⟩=ls[i].d∧w8.cell? ⟨b6,off6+i*2+1,none⟩=ls[i].i∧w8.cell? ⟨kd,0,none⟩=p.ks[i].op∧w8.cell? ⟨kd,1,none⟩=p.ks[i].ct∧w8.cell? ⟨kd,2,none⟩=p.ks[i].n∧w8.cell? ⟨kd,3,none⟩=p.ks[i].m∧w8.cell? ⟨kd,4,none⟩=p.ks[i].va∧w8.cell? ⟨kd,5,none⟩=some (.slice A7 p.ks[i].ks.length cap7):=⟨(hfar ⟨b6,off6+i*2,none⟩ hb6w hnb6).trans hS1.1,(hfar ⟨b6,off6+i*2+1,none⟩ hb6w hnb6).trans hS1.2.1,(hfar ⟨kd,0,none⟩ klt4 hnkd).trans hS1.2.2.1,(hfar ⟨kd,1,none⟩ klt4 hnkd).trans hS1.2.2.2.1,(hfar ⟨kd,2,none⟩ klt4 hnkd).trans hS1.2.2.2.2.1,(hfar ⟨kd,3,none⟩ klt4 hnkd).trans hS1.2.2.2.2.2.1,(hfar ⟨kd,4,none⟩ klt4 hnkd).trans hS1.2.2.2.2.2.2.1,(hfar ⟨kd,5,none⟩ klt4 hnkd).trans hS1.2.2.2.2.2.2.2⟩
   have HO8:=jj hown8
   refine hK.out _ _ hS8 (fun _=>trivial) ?_
   clear hK K
   (try simp only [zz])
   refine wV 10 rfl hS8 hT0 ?_
   (try simp only [zz])
   refine wE (by kernel_rfl) ?_
   clear hS0 hS1 hS8 hT0 hfar hnkd hnb6 l7 hrow hgr8 hat8 hown8 hbe hb4 HO5 hB5 HOq hBq hBwq hBw HS hC0 hC1
   go_wp2
   go_roundw
   case rel=>exact ⟨i+1,hik,by go_num,by rw [HSU.out];exact HO8.out,hB8⟩
   case measure=>(simp [intOf] <;> omega)
  ·have e1':decide (i<p.ks.length)=false:=by simpa using hik
   have hta:=psB_all xs d ls p.ks (i:=i) (by have:=HLN.out;omega) (by omega)
   obtain ⟨SS,hSS⟩:∃ s,s=(List.zipWith (pT xs d) ls p.ks).map bs:=⟨_,rfl⟩
   rw [←hSS] at hta
   have HSS:=jj hSS
   have HAR:Hid (Arr wr (StrR wr) SS u8 (if psB xs d ls p.ks i=[] then [] else rowOf u8 ++ [])):=by rw [←hta];exact HOw.out.arr
   have HRW:=jj HOw.out.row
   have HUA:Hid (Under wr (if psB xs d ls p.ks i=[] then [] else rowOf u8 ++ [])):=fun b hb=>by
    split at hb
    ·cases hb
    ·rw [List.append_nil] at hb;exact (HRW.out b hb).2
   have hsl:SS.length≤1000:=by rw [←hta];have:=psB_len xs d ls p.ks i;omega
   have HSL:=jj hsl
   generalize (if psB xs d ls p.ks i=[] then [] else rowOf u8 ++ [])=FA at HAR HUA
   have KT:=jj (KT6.out.same (hBr.block _ KT6.out.lt))
   have KV:=jj (KV6.out.same (hBr.block _ KV6.out.lt))
   clear hta hSS HOw hsl HRW
   obtain ⟨y0,y1,klt⟩:=KT.out.c2
   obtain ⟨z0,z1,z2,z3,z4,z5,klt2⟩:=KV.out.c6
   obtain rfl:SS=[X]:=HSS.out.trans HZW.out
   obtain ⟨kA,kcap,hkv,-,-⟩:=HAR.out.form
   subst hkv
   obtain ⟨bK,offK,rfl⟩:=HAR.out.ptr (by simp)
   obtain ⟨hbK,s0⟩:=ArrStr.at HAR.out HUA.out (zy2 _ _) 0 (by simp)
   simp only [zz2,Nat.add_zero] at s0
   go_wp2_with fail
   have HS:Hid (∀ C:World,Below wr wr C→(C.cell? ⟨w.heap.size+1,4,none⟩=p.va∧C.cell? ⟨bK,offK,none⟩=some (.string X))):=fun C hb=>⟨(hb.cell (klt2)).trans z4,(hb.cell (hbK)).trans s0⟩
   have hC0:Below wr wr wr.drew:=(zy2 _ _).drew
   refine wpBS HS.out (T:=fun _=>True) (d:=99) (by kernel_rfl) ?_
   obtain ⟨wd,hwd⟩:∃ X,X=wr.drew:=⟨_,rfl⟩
   rw [←hwd] at hC0  ⊢
   clear hwd
   have hS0:=HS.out _ hC0
   have hT0:True:=trivial
   refine wV 0 rfl hS0 hT0 ?_
   (try simp only [zz])
   refine wV 1 rfl hS0 hT0 ?_
   (try simp only [zz])
   refine wV 4 rfl hS0 hT0 ?_
   (try simp only [zz])
   refine wV 5 rfl hS0 hT0 ?_
   (try simp only [zz])
   refine wV 6 rfl hS0 hT0 ?_
   (try simp only [zz])
   refine w1 2 rfl fun K hK=>?_
   go_simp
   go_at_call 81
   refine (impl_letter p.va hva.1 hva.2 wd).mono ?_
   rintro e w9 ⟨rfl,hb9⟩
   have hC1:Below wr wr w9:=hC0.trans (hb9.mono hC0.size)
   have hS1:=HS.out _ hC1
   rw [HL.out]
   (try dsimp only)
   refine hK.out _ _ hS1 (fun _=>trivial) ?_
   clear hK K
   (try simp only [zz])
   refine wV 3 rfl hS1 hT0 ?_
   (try simp only [zz])
   refine wV 7 rfl hS1 hT0 ?_
   (try simp only [zz])
   refine wV 8 rfl hS1 hT0 ?_
   (try simp only [zz])
   refine wE (by kernel_rfl) ?_
   have hB9:Below w w w9:=hBw0.trans (hC1.mono hBw0.size)
   clear hS0 hS1 hT0
   clear HS hC0 hC1
   go_wp2
   go_ret
   exact ⟨zAK HFT.out.symm,hB9⟩
end Go.Proofs.YtjjclcmmfeegfaaGreatDoor
