/-
  Lemmas, and contracts of functions. Conditions: none.
-/
import Derived.Test.YtjjclcmmfeegfaaGreatDoorJAI
import Derived.Test.YtjjclcmmfeegfaaGreatDoorJAA
import Derived.Deep.RegionWith
import Derived.Test.YtjjclcmmfeegfaaGreatDoorJAB
import Derived.Test.YtjjclcmmfeegfaaGreatDoorChecked
import Derived.Shelf.Small.Bits
import Derived.Shelf.Small.Wraps
import Derived.Shelf.SlSortCmp.SmallK
import Derived.Shelf.SlSortCmp.NoneTotal
import Derived.Test.YtjjclcmmfeegfaaGreatDoorJAC

set_option linter.unusedVariables false
set_option linter.unusedSimpArgs false
set_option maxRecDepth 100000
set_option maxHeartbeats 1600000

namespace Go.Proofs.YtjjclcmmfeegfaaGreatDoor
open Go.RowKit
theorem own_one (w:World) (B:Nat) (hB:B≤w.heap.size) (y:Bd) (cs:List Value) (G:List Nat) (hl:cs.length=4) (hR:BdR (w.alloc (.cells cs.toArray 137)) y cs G) (hG:Under w G):Own (w.alloc (.cells cs.toArray 137)) B 137 4 BdR [y] (.slice (some ⟨w,0,none⟩) 1 1) G:=by
 refine ⟨cs,⟨by rw [hl];rfl,.inr ⟨w.heap.size,1,cs.toArray,rfl,hB,Blk.new w 137 cs.toArray,zz8 _,by simp [maxLen],by simpa using hl,?_⟩⟩,Flat.one hR,hG.mono (by simp),fun g hg hn=>?_⟩
 ·simp only [List.length_cons,List.length_nil,Nat.zero_add,Nat.one_mul]
  rw [←hl,List.take_length]
 ·rw [zA3,zy1] at hg
  subst hg
  exact Nat.lt_irrefl _ (hG _ hn)
def MatI (p:P) (v:V) (H:List Nat) (w:World) (e:Ending) (w':World):Prop:=∃ (l:List Bd) (x:Value) (ok:Bool) (F:List Nat),e=.returned (.tuple #[x,.bool ok])∧Below w w w'∧Own w' w.heap.size 137 4 BdR l x F∧(∀ b∈F,b∈H∨w.heap.size≤b)∧ok=(P.mat p v).isSome∧(∀ m,P.mat p v=some m→l=m)∧l.length≤nodesP p
def MatG (p:P):Prop:=∀ (d e:Nat) (xs:List Dt) (t:Ty) (v:V) (_:shapeB xs d t p=true) (_:fitsV xs e t v=true) (w:World) (cs:List Value) (G:List Nat) (ds:List Value) (H:List Nat) (_:PR w p cs G) (_:Under w G) (_:VR w v ds H) (_:Under w H) (_:nodesP p≤100000),
  Calls Tryz.prog 121 #[.agg cs.toArray,.agg ds.toArray] w (MatI p v H w)
theorem matI_none {p:P} {v:V} {H:List Nat} {w w':World} {ok:Bool} (hb:Below w w w') (hok:ok=(P.mat p v).isSome) (hm:∀ m,P.mat p v=some m→m=[]):MatI p v H w (.returned (.tuple #[.slice none 0 0,.bool ok])) w' :=
 ⟨[],_,ok,[],rfl,hb,Own.nil _ _ _ _ _,fun b hb=>(by cases hb),hok,fun m h=>(hm m h).symm,Nat.zero_le _⟩
set_option maxHeartbeats 16000000 in
theorem impl_match_of (p:P) (ih:∀ k∈p.ks,MatG k):MatG p:=by
 intro d e xs t v hs hfv w cs G ds H hp hg hv hh hlen
 obtain ⟨kp,rfl,hka⟩:=(zAE _ _ _).1 hp
 obtain ⟨pA,pcap,rfl,-,-⟩:=hka.form
 obtain ⟨kv,rfl,hva⟩:=(zA6 _ _ _).1 hv
 obtain ⟨vA,vcap,rfl,-,-⟩:=hva.form
 obtain ⟨d,rfl⟩:∃ k,d=k+1:=by
  cases d with
  |zero=>rw [shapeB] at hs;cases hs
  |succ k=>exact ⟨k,rfl⟩
 obtain ⟨e,rfl⟩:∃ k,e=k+1:=by
  cases e with
  |zero=>rw [fitsV] at hfv;cases hfv
  |succ k=>exact ⟨k,rfl⟩
 obtain ⟨i0,hi,hz0,hz1,hz2⟩:=info_parts info_BE
 obtain ⟨ho,hl,hsk⟩:=shape_parts2 hs
 have hop:=ops_of2 ho
 have IH:=jj ih
 have hws:(((w.alloc (.cells #[p.op,p.ct,p.n,p.m,p.va,.slice pA p.ks.length pcap] 28)).alloc (.cells #[v.c,v.n,.slice vA v.ks.length vcap] 45))).heap.size=w.heap.size+2:=by simp
 have hB0:Below w w ((w.alloc (.cells #[p.op,p.ct,p.n,p.m,p.va,.slice pA p.ks.length pcap] 28)).alloc (.cells #[v.c,v.n,.slice vA v.ks.length vcap] 45)):=((zy2 _ _).alloc (zz8 _) _).alloc (by simp) _
 have KP:Hid (Blk ((w.alloc (.cells #[p.op,p.ct,p.n,p.m,p.va,.slice pA p.ks.length pcap] 28)).alloc (.cells #[v.c,v.n,.slice vA v.ks.length vcap] 45)) w.heap.size 28 #[p.op,p.ct,p.n,p.m,p.va,.slice pA p.ks.length pcap]):=(Blk.new w _ _).same (Below.heap_alloc _ _ _ (by simp))
 have KV:Hid (Blk ((w.alloc (.cells #[p.op,p.ct,p.n,p.m,p.va,.slice pA p.ks.length pcap] 28)).alloc (.cells #[v.c,v.n,.slice vA v.ks.length vcap] 45)) (w.heap.size+1) 45 #[v.c,v.n,.slice vA v.ks.length vcap]):=zAG w _ 45 _
 have HKP:Hid (Arr ((w.alloc (.cells #[p.op,p.ct,p.n,p.m,p.va,.slice pA p.ks.length pcap] 28)).alloc (.cells #[v.c,v.n,.slice vA v.ks.length vcap] 45)) (PR ((w.alloc (.cells #[p.op,p.ct,p.n,p.m,p.va,.slice pA p.ks.length pcap] 28)).alloc (.cells #[v.c,v.n,.slice vA v.ks.length vcap] 45))) p.ks (.slice pA p.ks.length pcap) G):=ArrP.below hka hB0 hg
 have HKV:Hid (Arr ((w.alloc (.cells #[p.op,p.ct,p.n,p.m,p.va,.slice pA p.ks.length pcap] 28)).alloc (.cells #[v.c,v.n,.slice vA v.ks.length vcap] 45)) (VR ((w.alloc (.cells #[p.op,p.ct,p.n,p.m,p.va,.slice pA p.ks.length pcap] 28)).alloc (.cells #[v.c,v.n,.slice vA v.ks.length vcap] 45))) v.ks (.slice vA v.ks.length vcap) H):=ArrV.below hva hB0 hh
 have HV:Hid (VR ((w.alloc (.cells #[p.op,p.ct,p.n,p.m,p.va,.slice pA p.ks.length pcap] 28)).alloc (.cells #[v.c,v.n,.slice vA v.ks.length vcap] 45)) v [v.c,v.n,.slice vA v.ks.length vcap] H):=hv.below hB0 hh
 have HG:=jj hg
 have HH:=jj hh
 have HGU:Hid (Under (((w.alloc (.cells #[p.op,p.ct,p.n,p.m,p.va,.slice pA p.ks.length pcap] 28)).alloc (.cells #[v.c,v.n,.slice vA v.ks.length vcap] 45))).heap.size G):=hg.mono hB0.size
 have HHU:Hid (Under (((w.alloc (.cells #[p.op,p.ct,p.n,p.m,p.va,.slice pA p.ks.length pcap] 28)).alloc (.cells #[v.c,v.n,.slice vA v.ks.length vcap] 45))).heap.size H):=hh.mono hB0.size
 have HFV:=jj hfv
 have HI:=jj hi
 have HZ0:=jj hz0
 have HZ1:=jj hz1
 have HZ2:=jj hz2
 clear hi hz0 hz1 hz2
 clear hp hg hv hh hka hva ih
 rcases hop with h1 | h2 | h3 | h4 | h5 | h6
 ·clear hs hfv ho hl hsk
  have q1:(p.op==1)=true:=beq_iff_eq.2 (by omega)
  have q2:(p.op==2)=false:=beq_eq_false_iff_ne.2 (by omega)
  have q3:(p.op==3)=false:=beq_eq_false_iff_ne.2 (by omega)
  have q5:(p.op==5)=false:=beq_eq_false_iff_ne.2 (by omega)
  have q6:(p.op==6)=false:=beq_eq_false_iff_ne.2 (by omega)
  have H1_:=jj h1
  clear h1
  obtain ⟨y0,y1,y2,y3,y4,y5,-⟩:=KP.out.c6
  obtain ⟨u0,u1,u2,-⟩:=KV.out.c3
  have yl:=KP.out.lt
  have ul:=KV.out.lt
  go_enter Tryz.func121,Tryz.ntmps121
  go_wp2
  go_ret2
  exact matI_none hB0 (by rw [mat_1 H1_.out];rfl) (fun m h=>by rw [mat_1 H1_.out] at h;cases h;rfl)
 ·clear hs hfv ho hl hsk
  have q1:(p.op==1)=false:=beq_eq_false_iff_ne.2 (by omega)
  have q2:(p.op==2)=true:=beq_iff_eq.2 (by omega)
  have q3:(p.op==3)=false:=beq_eq_false_iff_ne.2 (by omega)
  have q5:(p.op==5)=false:=beq_eq_false_iff_ne.2 (by omega)
  have q6:(p.op==6)=false:=beq_eq_false_iff_ne.2 (by omega)
  have H2_:=jj h2
  clear h2
  have hO:Own (((w.alloc (.cells #[p.op,p.ct,p.n,p.m,p.va,.slice pA p.ks.length pcap] 28)).alloc (.cells #[v.c,v.n,.slice vA v.ks.length vcap] 45)).alloc (.cells #[p.va,v.c,v.n,.slice vA v.ks.length vcap] 137)) w.heap.size 137 4 BdR [(⟨p.va,v⟩:Bd)] (.slice (some ⟨w.heap.size+2,0,none⟩) 1 1) H:=by
   have hb1:=(zy2 (((w.alloc (.cells #[p.op,p.ct,p.n,p.m,p.va,.slice pA p.ks.length pcap] 28)).alloc (.cells #[v.c,v.n,.slice vA v.ks.length vcap] 45))).heap.size ((w.alloc (.cells #[p.op,p.ct,p.n,p.m,p.va,.slice pA p.ks.length pcap] 28)).alloc (.cells #[v.c,v.n,.slice vA v.ks.length vcap] 45))).alloc (zz8 _) (.cells #[p.va,v.c,v.n,.slice vA v.ks.length vcap] 137)
   have h:=own_one ((w.alloc (.cells #[p.op,p.ct,p.n,p.m,p.va,.slice pA p.ks.length pcap] 28)).alloc (.cells #[v.c,v.n,.slice vA v.ks.length vcap] 45)) w.heap.size (by rw [hws];omega) (⟨p.va,v⟩:Bd) [p.va,v.c,v.n,.slice vA v.ks.length vcap] H rfl (BdR_of (HV.out.below hb1 HHU.out)) HHU.out
   rw [hws] at h
   exact h
  have HO:=jj hO
  have hB1:=hB0.alloc hB0.size (.cells #[p.va,v.c,v.n,.slice vA v.ks.length vcap] 137)
  clear hO
  obtain ⟨y0,y1,y2,y3,y4,y5,-⟩:=KP.out.c6
  obtain ⟨u0,u1,u2,-⟩:=KV.out.c3
  have yl:=KP.out.lt
  have ul:=KV.out.lt
  go_enter Tryz.func121,Tryz.ntmps121
  go_wp2
  go_ret2
  exact ⟨[(⟨p.va,v⟩:Bd)],_,true,H,rfl,hB1,HO.out,fun b hb=>.inl hb,by rw [mat_2 H2_.out];rfl,fun m h=>by rw [mat_2 H2_.out] at h;cases h;rfl,by unfold nodesP;simp⟩
 ·clear hs hfv ho hl hsk
  have q1:(p.op==1)=false:=beq_eq_false_iff_ne.2 (by omega)
  have q2:(p.op==2)=false:=beq_eq_false_iff_ne.2 (by omega)
  have q3:(p.op==3)=true:=beq_iff_eq.2 (by omega)
  have q5:(p.op==5)=false:=beq_eq_false_iff_ne.2 (by omega)
  have q6:(p.op==6)=false:=beq_eq_false_iff_ne.2 (by omega)
  have H3_:=jj h3
  clear h3
  obtain ⟨y0,y1,y2,y3,y4,y5,-⟩:=KP.out.c6
  obtain ⟨u0,u1,u2,-⟩:=KV.out.c3
  have yl:=KP.out.lt
  have ul:=KV.out.lt
  go_enter Tryz.func121,Tryz.ntmps121
  go_wp2_with fail
  clear y0 y1 y2 y3 y4 y5 u0 u1 u2 yl ul
  refine (zAC v.n p.n p.m _).mono ?_
  rintro e3 w3 ⟨rfl,rfl⟩
  obtain ⟨wi,hwi⟩:∃ b,withinB v.n p.n p.m=b:=⟨_,rfl⟩
  have HWI:=jj hwi
  rw [hwi]
  clear hwi
  go_wp2
  go_ret2
  exact matI_none hB0 (by rw [mat_3 H3_.out,HWI.out];cases wi <;> rfl) (fun m h=>by
   rw [mat_3 H3_.out] at h
   split at h
   ·cases h;rfl
   ·cases h)
 ·clear ho hl hsk
  have hks:p.ks.length≤100000:=by
   have h1:=nodesP_ks p
   have h2:=P.sizes_eq p.ks
   omega
  cases hce:(v.c != p.ct) with
  |true =>
   have hce2:(p.ct != v.c)=true:=bne_iff_ne.2 (fun h=>bne_iff_ne.1 hce h.symm)
   have hno:P.mat p v=none:=by rw [mat_4 h4,if_neg (bne_iff_ne.1 hce)]
   have HNO:=jj hno
   clear hno hce
   have q1:(p.op==1)=false:=beq_eq_false_iff_ne.2 (by omega)
   have q2:(p.op==2)=false:=beq_eq_false_iff_ne.2 (by omega)
   have q3:(p.op==3)=false:=beq_eq_false_iff_ne.2 (by omega)
   have q5:(p.op==5)=false:=beq_eq_false_iff_ne.2 (by omega)
   have q6:(p.op==6)=false:=beq_eq_false_iff_ne.2 (by omega)
   have H4_:=jj h4
   clear h4
   obtain ⟨y0,y1,y2,y3,y4,y5,-⟩:=KP.out.c6
   obtain ⟨u0,u1,u2,-⟩:=KV.out.c3
   have yl:=KP.out.lt
   have ul:=KV.out.lt
   go_enter Tryz.func121,Tryz.ntmps121
   go_wp2
   go_ret2
   exact matI_none hB0 (by rw [HNO.out];rfl) (fun m h=>by rw [HNO.out] at h;cases h)
  |false =>
   have hct:v.c=p.ct:=by
    have:=bne_eq_false_iff_eq.1 hce
    exact this
   have hce2:(p.ct != v.c)=false:=bne_eq_false_iff_eq.2 hct.symm
   obtain ⟨hvl,hkid⟩:=ctor_kids hs hfv h4 hct
   have HKID:=jj hkid
   have HVL:=jj hvl
   have hmat:P.mat p v=P.mats p.ks v.ks:=by rw [mat_4 h4,if_pos hct]
   have HMAT:=jj hmat
   clear hkid hmat hvl hct hce
   have q1:(p.op==1)=false:=beq_eq_false_iff_ne.2 (by omega)
   have q2:(p.op==2)=false:=beq_eq_false_iff_ne.2 (by omega)
   have q3:(p.op==3)=false:=beq_eq_false_iff_ne.2 (by omega)
   have q5:(p.op==5)=false:=beq_eq_false_iff_ne.2 (by omega)
   have q6:(p.op==6)=false:=beq_eq_false_iff_ne.2 (by omega)
   have H4_:=jj h4
   clear h4
   obtain ⟨y0,y1,y2,y3,y4,y5,-⟩:=KP.out.c6
   obtain ⟨u0,u1,u2,-⟩:=KV.out.c3
   have yl:=KP.out.lt
   have ul:=KV.out.lt
   go_enter Tryz.func121,Tryz.ntmps121
   go_wp2
   clear y0 y1 y2 y3 y4 y5 u0 u1 u2 yl ul
   obtain ⟨W0,hW0⟩:∃ X,X=((w.alloc (.cells #[p.op,p.ct,p.n,p.m,p.va,.slice pA p.ks.length pcap] 28)).alloc (.cells #[v.c,v.n,.slice vA v.ks.length vcap] 45)):=⟨_,rfl⟩
   rw [←hW0] at hws hB0 KP KV HKP HKV HV HGU HHU ⊢
   clear hW0
   have hwz:w.heap.size+2≤W0.heap.size:=by omega
   have hwz1:w.heap.size<W0.heap.size:=by omega
   have hwz2:w.heap.size≤W0.heap.size:=by omega
   clear hws
   go_loopw [10,83] (fun ov iv wr=>∃ (i:Nat) (li:List Bd) (Fo:List Nat),i≤p.ks.length∧iv=.int .i64 i∧Hid (P.mats (p.ks.take i) (v.ks.take i)=some li)∧li.length≤P.sizes (p.ks.take i)∧Hid (Own wr W0.heap.size 137 4 BdR li ov Fo)∧Hid (∀ b∈Fo,b∈H∨w.heap.size≤b)∧Below W0 W0 wr) (fun _ iv _=>p.ks.length-(intOf iv).toNat)
   case atStart=>exact ⟨0,[],[],Nat.zero_le _,rfl,by rw [List.take_zero,mats_nil];rfl,Nat.zero_le _,Own.nil _ _ _ _ _,(fun b hb=>by cases hb),zy2 _ _⟩
   case round =>
    obtain ⟨i,li,Fo,hi,rfl,HMI,hll,HO,HFo,hbr⟩:=hrel
    obtain ⟨oA,ocap,hov,-,-⟩:=HO.out.form
    subst hov
    have hwr:=hbr.size
    have KPr:=jj (KP.out.same (hbr.block _ KP.out.lt))
    have KVr:=jj (KV.out.same (hbr.block _ KV.out.lt))
    obtain ⟨y0,y1,y2,y3,y4,y5,-⟩:=KPr.out.c6
    obtain ⟨u0,u1,u2,-⟩:=KVr.out.c3
    have yl:=KPr.out.lt
    have ul:=KVr.out.lt
    by_cases hlt:i<p.ks.length
    ·have hlv:i<v.ks.length:=by have:=HVL.out;omega
     obtain ⟨ai,hsi,hfi⟩:=HKID.out i hlt hlv
     obtain ⟨kb,koff,rfl⟩:=HKP.out.ptr (by omega)
     obtain ⟨vb,voff,rfl⟩:=HKV.out.ptr (by omega)
     obtain ⟨kiA,kicap,Gi,hkb,kiz0,kiz1,kiz2,kiz3,kiz4,kiz5,HKi,HGi,-,-,-⟩:=ArrP.at HKP.out HGU.out hbr i hlt
     obtain ⟨viA,vicap,Wi,hvb,viz0,viz1,viz2,HVi,HWi,hWH,-,-⟩:=ArrV.at HKV.out HHU.out hbr i hlv
     have hmt:=mats_take hlt hlv
     rw [HMI.out] at hmt
     have hst:=sizesP_step hlt
     have hsl:=zBA p.ks (i+1)
     have hn1:=nodesP_ks p
     have hmi:p.ks[i]∈p.ks:=List.getElem_mem hlt
     have HBAD:Hid (∀ (h:P.mats (p.ks.take (i+1)) (v.ks.take (i+1))=none),P.mat p v=none):=fun h=>by rw [HMAT.out];exact mats_bad _ _ _ h
     have HMT:=jj hmt
     have HSi:=jj hsi
     have HFi:=jj hfi
     clear hmt hsi hfi
     generalize p.ks[i]=ki at kiz0 kiz1 kiz2 kiz3 kiz4 kiz5 HKi hmi HMT HSi hst
     generalize v.ks[i]=vi at viz0 viz1 viz2 HVi HMT HFi
     have g1:(0:Int)≤(i:Int):=by omega
     have g2:(i:Int)<(p.ks.length:Int):=by omega
     have g3:(i:Int)<(v.ks.length:Int):=by omega
     obtain ⟨W7,hW7⟩:∃ W7,W7=(wr.alloc (.cells #[ki.op,ki.ct,ki.n,ki.m,ki.va,.slice kiA ki.ks.length kicap] 28)):=⟨_,rfl⟩
     have hb77:Below wr wr W7:=by rw [hW7];exact (zy2 _ _).alloc (zz8 _) _
     have KX:Hid (Blk W7 wr 28 #[ki.op,ki.ct,ki.n,ki.m,ki.va,.slice kiA ki.ks.length kicap]):=by rw [hW7];exact Blk.new _ _ _
     have hwz7:W0.heap.size≤W7.heap.size:=Nat.le_trans hwr hb77.size
     have KV7:=jj (KVr.out.same (hb77.block _ KVr.out.lt))
     have hb07:=hbr.trans (hb77.mono hwr)
     go_wp2_with fail
     rw [←hW7]
     clear hW7 y0 y1 y2 y3 y4 y5 u0 u1 u2 yl ul
     have HS:Hid (∀ C:World,Below W7 W7 C→(C.cell? ⟨wr,0,none⟩=ki.op∧C.cell? ⟨wr,1,none⟩=ki.ct∧C.cell? ⟨wr,2,none⟩=ki.n∧C.cell? ⟨wr,3,none⟩=ki.m∧C.cell? ⟨wr,4,none⟩=ki.va∧C.cell? ⟨wr,5,none⟩=some (.slice kiA ki.ks.length kicap)∧C.cell? ⟨w.heap.size+1,2,none⟩=some (.slice (some ⟨vb,voff,none⟩) v.ks.length vcap)∧C.cell? ⟨vb,voff+i*3,none⟩=vi.c∧C.cell? ⟨vb,voff+i*3+1,none⟩=vi.n∧C.cell? ⟨vb,voff+i*3+2,none⟩=some (.slice viA vi.ks.length vicap))):=fun C hb=>⟨(hb.cell (KX.out.lt)).trans ((KX.out.cell 0).trans (by simp)),(hb.cell (KX.out.lt)).trans ((KX.out.cell 1).trans (by simp)),(hb.cell (KX.out.lt)).trans ((KX.out.cell 2).trans (by simp)),(hb.cell (KX.out.lt)).trans ((KX.out.cell 3).trans (by simp)),(hb.cell (KX.out.lt)).trans ((KX.out.cell 4).trans (by simp)),(hb.cell (KX.out.lt)).trans ((KX.out.cell 5).trans (by simp)),(hb.cell (KV7.out.lt)).trans ((KV7.out.cell 2).trans (by simp)),(hb.cell ((zz9 hvb hb77.size))).trans ((hb77.cell hvb).trans viz0),(hb.cell ((zz9 hvb hb77.size))).trans ((hb77.cell hvb).trans viz1),(hb.cell ((zz9 hvb hb77.size))).trans ((hb77.cell hvb).trans viz2)⟩
     have hC0:Below W7 W7 W7.drew:=(zy2 _ _).drew
     refine wpBS HS.out (T:=fun _=>True) (d:=99) (by kernel_rfl) ?_
     obtain ⟨wd,hwd⟩:∃ X,X=W7.drew:=⟨_,rfl⟩
     rw [←hwd] at hC0  ⊢
     clear hwd
     have hS0:=HS.out _ hC0
     have hT0:True:=trivial
     refine wV 0 rfl hS0 hT0 ?_
     (try simp only [zz])
     refine wV 1 rfl hS0 hT0 ?_
     (try simp only [zz])
     refine wV 2 rfl hS0 hT0 ?_
     (try simp only [zz])
     refine wV 3 rfl hS0 hT0 ?_
     (try simp only [zz])
     refine wV 4 rfl hS0 hT0 ?_
     (try simp only [zz])
     refine wV 5 rfl hS0 hT0 ?_
     (try simp only [zz])
     have hbd:=hb07.trans (hC0.mono hwz7)
     refine w1 6 rfl fun K hK=>?_
     go_simp
     go_at_call 121
     refine (IH.out ki hmi d e xs ai vi HSi.out HFi.out wd _ _ _ _ (HKi.out.below hbd HGi.out) (HGi.out.mono hbd.size) (HVi.out.below hbd HWi.out) (HWi.out.mono hbd.size) (by omega)).mono ?_
     rintro e C8 ⟨l8,x8,ok8,F8,rfl,hb8,ho8,hF8,hok8,hl8,hn8⟩
     have hC1:Below W7 W7 C8:=hC0.trans (hb8.mono hC0.size)
     have hS1:=HS.out _ hC1
     have HO8:=jj ho8
     have HF8:Hid (∀ b∈F8,b∈H∨w.heap.size≤b):=fun b hb=>(hF8 b hb).imp (hWH b) fun h=>Nat.le_trans (Nat.le_trans hwz2 hbd.size) h
     have HD8:Hid (∀ g∈F8,W0.heap.size≤g→g<wr.heap.size→False):=fun g hg h1 h2=>by
      rcases hF8 g hg with h | h
      ·exact Nat.lt_irrefl _ (zz9 (HWi.out g h) h1)
      ·have:=hb77.size;have:=hC0.size;omega
     have HOK8:=jj hok8
     have HL8:=jj hl8
     clear ho8 hF8 hok8 hl8
     (try dsimp only)
     refine hK.out _ _ hS1 (fun _=>trivial) ?_
     clear hK K
     (try simp only [zz])
     refine wV 7 rfl hS1 hT0 ?_
     (try simp only [zz])
     refine wV 8 rfl hS1 hT0 ?_
     (try simp only [zz])
     refine wV 9 rfl hS1 hT0 ?_
     (try simp only [zz])
     refine wV 10 rfl hS1 hT0 ?_
     (try simp only [zz])
     refine wV 11 rfl hS1 hT0 ?_
     (try simp only [zz])
     refine wE (by kernel_rfl) ?_
     clear hS0 hS1 hT0
     have hbr8:=hb07.trans (hC1.mono hwz7)
     have HO7:=jj (HO.out.below (fun x cs G hk h=>BdR_mono2 _ _ x cs G hk h) (hb77.trans (hC1.mono hb77.size)))
     have hdsz:W7.heap.size≤wd.heap.size:=hC0.size
     have hrsz:wr.heap.size+1≤W7.heap.size:=KX.out.lt
     clear kiz0 kiz1 kiz2 kiz3 kiz4 kiz5 viz0 viz1 viz2 hkb hvb hC0 hC1 hbd
     obtain ⟨w8,hw8⟩:∃ X,X=C8:=⟨_,rfl⟩
     rw [←hw8] at hbr8 HO7 HO8 ⊢
     clear hw8
     cases ok8 with
     |false =>
      have hno:P.mat ki vi=none:=by
       cases hm:P.mat ki vi with
       |none=>rfl
       |some a=>have:=HOK8.out;rw [hm] at this;cases this
      have hno2:P.mat p v=none:=HBAD.out (by have:=HMT.out;rw [hno] at this;exact this)
      have HNO:=jj hno2
      have hB9:=hB0.trans (hbr8.mono hB0.size)
      clear hno hno2
      go_wp2
      go_ret2
      exact matI_none hB9 (by rw [HNO.out];rfl) (fun m h=>by rw [HNO.out] at h;cases h)
     |true =>
      obtain ⟨a,ha⟩:∃ a,P.mat ki vi=some a:=by
       cases hm:P.mat ki vi with
       |none=>have:=HOK8.out;rw [hm] at this;cases this
       |some a=>exact ⟨a,rfl⟩
      have hla:=HL8.out a ha
      have hm2:P.mats (p.ks.take (i+1)) (v.ks.take (i+1))=some (li ++ l8):=by have:=HMT.out;rw [ha,←hla] at this;exact this
      have HM2:=jj hm2
      clear ha hm2 hla
      obtain ⟨A8,cap8,rfl,hA8a,hA8b⟩:=HO8.out.form
      have hfw:∀ b∈(if l8=[] then [] else rowOf (.slice A8 l8.length cap8) ++ F8),b∈H∨w.heap.size≤b:=fun b hb=>by
       split at hb
       ·cases hb
       ·rcases List.mem_append.1 hb with hb | hb
        ·exact .inr (by have:=(HO8.out.row b hb).1;omega)
        ·exact HF8.out b hb
      have hdis:∀ g∈rowOf (.slice oA li.length ocap),g∉(if l8=[] then [] else rowOf (.slice A8 l8.length cap8) ++ F8):=fun g hg hb=>by
       have hr:=HO.out.row g hg
       split at hb
       ·cases hb
       ·rcases List.mem_append.1 hb with hb | hb
        ·have:=(HO8.out.row g hb).1;omega
        ·exact HD8.out g hb hr.1 hr.2
      obtain ⟨x9,C9,G9,hr9,ho9,hG9,hgr9,hat9⟩:=zAW (P:=Tryz.prog) 52 52 i0 _ 48 Tryz.underlying52 HI.out HZ0.out HZ1.out HZ2.out rfl (by decide) BdR_len2 BdR_mono2 BdR_one HO7.out HO8.out.arr (under_ifA HO8.out) hdis (by omega) (by omega) (by have:=hbr8.size;omega)
      have HR9:=jj hr9
      have HO9:=jj ho9
      have HF9:Hid (∀ b∈Fo ++ G9,b∈H∨w.heap.size≤b):=fun b hb=>by
       rcases List.mem_append.1 hb with hb | hb
       ·exact HFo.out b hb
       ·exact hfw b (hG9 b hb)
      have hbr9:Below W0 W0 C9:=hbr8.grown hgr9 hbr8.size (fun x hx=>(HO7.out.row x (zA1.2 hx)).1)
      clear hr9 ho9 hG9 hgr9 hat9 hfw hdis hbr8
      go_wp2_with (at_builtin;refine Halt.mk ?_)
      refine Halt.of (zAQ rfl _ _ 52 rfl (by rfl) (by rfl) HR9.out ?_)
      clear HR9
      go_wp2
      go_roundw
      case rel=>exact ⟨i+1,li ++ l8,_,by omega,by go_num,HM2,by rw [List.length_append];omega,HO9,HF9,hbr9⟩
      case measure=>(simp [intOf] <;> omega)
    ·have hm:P.mat p v=some li:=by
      have:=HMI.out
      rw [List.take_of_length_le (by omega),List.take_of_length_le (by have:=HVL.out;omega)] at this
      rw [HMAT.out,this]
     have HM:=jj hm
     have hB9:=hB0.trans (hbr.mono hB0.size)
     have hbase:=HO.out.base (B':=w.heap.size) (fun g hg=>by have:=(HO.out.row g hg).1;omega)
     have HBS:=jj hbase
     have hfn:li.length≤nodesP p:=mat_len p v li hm
     clear hm hbase
     go_wp2
     go_ret2
     exact ⟨li,_,true,Fo,rfl,hB9,HBS.out,HFo.out,by rw [HM.out];rfl,fun m h=>by rw [HM.out] at h;cases h;rfl,hfn⟩
 ·have hty:=typesP_or (xs:=xs) (t:=t) h5
  rw [hty] at hl
  obtain ⟨k0,k1,hk0⟩:=kids_two hl
  have hl2:p.ks.length=2:=hl
  have hs0:=hsk 0 (by rw [hty];simp) (by omega)
  have hs1:=hsk 1 (by rw [hty];simp) (by omega)
  simp only [hty,hk0,zz2,zz3] at hs0 hs1
  have HS0:=jj hs0
  have HS1:=jj hs1
  have hm0:k0∈p.ks:=by rw [hk0];simp
  have hm1:k1∈p.ks:=by rw [hk0];simp
  have hnn:nodesP p=1+nodesP k0+nodesP k1:=by rw [nodesP_ks,hk0];simp only [P.sizes,nodesP];omega
  obtain ⟨kb,koff,rfl⟩:=HKP.out.ptr (by omega)
  obtain ⟨k0A,k0cap,G0,hk0b,k0z0,k0z1,k0z2,k0z3,k0z4,k0z5,HK0,HG0,-,-,-⟩:=ArrP.at HKP.out HGU.out (zy2 _ _) 0 (by omega)
  obtain ⟨k1A,k1cap,G1,-,k1z0,k1z1,k1z2,k1z3,k1z4,k1z5,HK1,HG1,-,-,-⟩:=ArrP.at HKP.out HGU.out (zy2 _ _) 1 (by omega)
  have e0:p.ks[0]'(by omega)=k0:=by simp [hk0]
  have e1:p.ks[1]'(by omega)=k1:=by simp [hk0]
  simp only [e0,e1,Nat.zero_mul,Nat.one_mul,Nat.add_zero] at k0z0 k1z0 k0z1 k1z1 k0z2 k1z2 k0z3 k1z3 k0z4 k1z4 k0z5 k1z5 HK0 HK1
  have g1:(0:Int)<(p.ks.length:Int):=by omega
  have g2:(1:Int)<(p.ks.length:Int):=by omega
  have g1n:0<p.ks.length:=by omega
  have g2n:1<p.ks.length:=by omega
  have HKL:=jj hk0
  clear hl2 hk0 e0 e1
  clear hs hfv ho hl hsk hs0 hs1 hty
  have q1:(p.op==1)=false:=beq_eq_false_iff_ne.2 (by omega)
  have q2:(p.op==2)=false:=beq_eq_false_iff_ne.2 (by omega)
  have q3:(p.op==3)=false:=beq_eq_false_iff_ne.2 (by omega)
  have q5:(p.op==5)=true:=beq_iff_eq.2 (by omega)
  have q6:(p.op==6)=false:=beq_eq_false_iff_ne.2 (by omega)
  have H5_:=jj h5
  clear h5
  obtain ⟨y0,y1,y2,y3,y4,y5,-⟩:=KP.out.c6
  obtain ⟨u0,u1,u2,-⟩:=KV.out.c3
  have yl:=KP.out.lt
  have ul:=KV.out.lt
  go_enter Tryz.func121,Tryz.ntmps121
  go_wp2_with fail
  clear y0 y1 y2 y3 y4 y5 u0 u1 u2 yl ul
  obtain ⟨W0,hW0⟩:∃ X,X=((w.alloc (.cells #[p.op,p.ct,p.n,p.m,p.va,.slice (some ⟨kb,koff,none⟩) p.ks.length pcap] 28)).alloc (.cells #[v.c,v.n,.slice vA v.ks.length vcap] 45)):=⟨_,rfl⟩
  rw [←hW0] at hws hB0 KP KV HKP HKV HV HGU HHU k0z0 k1z0 k0z1 k1z1 k0z2 k1z2 k0z3 k1z3 k0z4 k1z4 k0z5 k1z5 HK0 HK1 HG0 HG1 hk0b ⊢
  clear hW0
  have hwz:w.heap.size+2≤W0.heap.size:=by omega
  have hwz1:w.heap.size<W0.heap.size:=by omega
  have hwz2:w.heap.size≤W0.heap.size:=by omega
  clear hws
  have HS:Hid (∀ C:World,Below W0 W0 C→(C.cell? ⟨w,5,none⟩=some (.slice (some ⟨kb,koff,none⟩) p.ks.length pcap)∧C.cell? ⟨w.heap.size+1,0,none⟩=v.c∧C.cell? ⟨w.heap.size+1,1,none⟩=v.n∧C.cell? ⟨w.heap.size+1,2,none⟩=some (.slice vA v.ks.length vcap)∧C.cell? ⟨kb,koff,none⟩=k0.op∧C.cell? ⟨kb,koff+1,none⟩=k0.ct∧C.cell? ⟨kb,koff+2,none⟩=k0.n∧C.cell? ⟨kb,koff+3,none⟩=k0.m∧C.cell? ⟨kb,koff+4,none⟩=k0.va∧C.cell? ⟨kb,koff+5,none⟩=some (.slice k0A k0.ks.length k0cap))):=fun C hb=>⟨(hb.cell (KP.out.lt)).trans ((KP.out.cell 5).trans (by simp)),(hb.cell (KV.out.lt)).trans ((KV.out.cell 0).trans (by simp)),(hb.cell (KV.out.lt)).trans ((KV.out.cell 1).trans (by simp)),(hb.cell (KV.out.lt)).trans ((KV.out.cell 2).trans (by simp)),(hb.cell (hk0b)).trans k0z0,(hb.cell (hk0b)).trans k0z1,(hb.cell (hk0b)).trans k0z2,(hb.cell (hk0b)).trans k0z3,(hb.cell (hk0b)).trans k0z4,(hb.cell (hk0b)).trans k0z5⟩
  have hC0:Below W0 W0 W0.drew:=(zy2 _ _).drew
  refine wpBS HS.out (T:=fun _=>True) (d:=99) (by kernel_rfl) ?_
  obtain ⟨wd,hwd⟩:∃ X,X=W0.drew:=⟨_,rfl⟩
  rw [←hwd] at hC0  ⊢
  clear hwd
  have hS0:=HS.out _ hC0
  have hT0:True:=trivial
  refine wV 0 rfl hS0 hT0 ?_
  (try simp only [zz])
  refine wV 1 rfl hS0 hT0 ?_
  (try simp only [zz])
  refine wV 2 rfl hS0 hT0 ?_
  (try simp only [zz])
  refine wV 3 rfl hS0 hT0 ?_
  (try simp only [zz])
  refine wV 4 rfl hS0 hT0 ?_
  (try simp only [zz])
  refine w1 5 rfl fun K hK=>?_
  go_simp
  go_at_call 121
  refine (IH.out k0 hm0 d (e+1) xs t v HS0.out HFV.out wd _ _ _ H (HK0.out.below hC0 HG0.out) (HG0.out.mono hC0.size) (HV.out.below hC0 (HH.out.mono hwz2)) ((HH.out.mono hwz2).mono hC0.size) (by omega)).mono ?_
  rintro e C8 ⟨l8,x8,ok8,F8,rfl,hb8,ho8,hF8,hok8,hl8,hn8⟩
  have hC1:Below W0 W0 C8:=hC0.trans (hb8.mono hC0.size)
  have hS1:=HS.out _ hC1
  have HO8:=jj ho8
  have HF8:Hid (∀ b∈F8,b∈H∨w.heap.size≤b):=fun b hb=>(hF8 b hb).imp id fun h=>Nat.le_trans (Nat.le_trans hwz2 hC0.size) h
  have HOK8:=jj hok8
  have HL8:=jj hl8
  clear ho8 hF8 hok8 hl8
  (try dsimp only)
  refine hK.out _ _ hS1 (fun _=>trivial) ?_
  clear hK K
  (try simp only [zz])
  refine wV 6 rfl hS1 hT0 ?_
  (try simp only [zz])
  refine wV 7 rfl hS1 hT0 ?_
  (try simp only [zz])
  refine wV 8 rfl hS1 hT0 ?_
  (try simp only [zz])
  refine wV 9 rfl hS1 hT0 ?_
  (try simp only [zz])
  refine wV 10 rfl hS1 hT0 ?_
  (try simp only [zz])
  refine wE (by kernel_rfl) ?_
  clear hS0 hS1 hT0
  cases ok8 with
  |true =>
   have hB8:=hB0.trans (hC1.mono hB0.size)
   have hsm:∃ a,P.mat k0 v=some a:=by
    cases hm:P.mat k0 v with
    |none=>have:=HOK8.out;rw [hm] at this;cases this
    |some a=>exact ⟨a,rfl⟩
   obtain ⟨a,ha⟩:=hsm
   have HA:=jj ha
   clear ha
   have hbase:=HO8.out.base (B':=w.heap.size) (fun g hg=>by have:=(HO8.out.row g hg).1;have:=hC0.size;omega)
   have HBS:=jj hbase
   clear hbase
   go_wp2
   go_ret2
   exact ⟨l8,x8,true,F8,rfl,hB8,HBS.out,HF8.out,by rw [mat_5 H5_.out HKL.out,HA.out];rfl,fun m h=>by
    rw [mat_5 H5_.out HKL.out,HA.out] at h
    cases h
    exact HL8.out a HA.out,by omega⟩
  |false =>
   have hno:P.mat k0 v=none:=by
    cases hm:P.mat k0 v with
    |none=>rfl
    |some a=>have:=HOK8.out;rw [hm] at this;cases this
   have HNO:=jj hno
   clear hno
   have KP8:=jj (KP.out.same (hC1.block _ KP.out.lt))
   have KV8:=jj (KV.out.same (hC1.block _ KV.out.lt))
   have HK1b:=jj (HK1.out.below hC1 HG1.out)
   have HG1b:=jj (HG1.out.mono hC1.size)
   have HV8:=jj (HV.out.below hC1 (HH.out.mono hwz2))
   have HH8:=jj ((HH.out.mono hwz2).mono hC1.size)
   obtain ⟨y0,y1,y2,y3,y4,y5,-⟩:=KP8.out.c6
   obtain ⟨u0,u1,u2,-⟩:=KV8.out.c3
   have yl:=KP8.out.lt
   have ul:=KV8.out.lt
   go_wp2_with fail
   clear y0 y1 y2 y3 y4 y5 u0 u1 u2 yl ul
   have hQ1:=hC1
   have HS:Hid (∀ C:World,Below C8 C8 C→(C.cell? ⟨w,5,none⟩=some (.slice (some ⟨kb,koff,none⟩) p.ks.length pcap)∧C.cell? ⟨w.heap.size+1,0,none⟩=v.c∧C.cell? ⟨w.heap.size+1,1,none⟩=v.n∧C.cell? ⟨w.heap.size+1,2,none⟩=some (.slice vA v.ks.length vcap)∧C.cell? ⟨kb,koff+6,none⟩=k1.op∧C.cell? ⟨kb,koff+6+1,none⟩=k1.ct∧C.cell? ⟨kb,koff+6+2,none⟩=k1.n∧C.cell? ⟨kb,koff+6+3,none⟩=k1.m∧C.cell? ⟨kb,koff+6+4,none⟩=k1.va∧C.cell? ⟨kb,koff+6+5,none⟩=some (.slice k1A k1.ks.length k1cap))):=fun C hb=>⟨(hb.cell (KP8.out.lt)).trans ((KP8.out.cell 5).trans (by simp)),(hb.cell (KV8.out.lt)).trans ((KV8.out.cell 0).trans (by simp)),(hb.cell (KV8.out.lt)).trans ((KV8.out.cell 1).trans (by simp)),(hb.cell (KV8.out.lt)).trans ((KV8.out.cell 2).trans (by simp)),(hb.cell ((zz9 hk0b hQ1.size))).trans ((hQ1.cell hk0b).trans k1z0),(hb.cell ((zz9 hk0b hQ1.size))).trans ((hQ1.cell hk0b).trans k1z1),(hb.cell ((zz9 hk0b hQ1.size))).trans ((hQ1.cell hk0b).trans k1z2),(hb.cell ((zz9 hk0b hQ1.size))).trans ((hQ1.cell hk0b).trans k1z3),(hb.cell ((zz9 hk0b hQ1.size))).trans ((hQ1.cell hk0b).trans k1z4),(hb.cell ((zz9 hk0b hQ1.size))).trans ((hQ1.cell hk0b).trans k1z5)⟩
   have hD0:Below C8 C8 C8.drew:=(zy2 _ _).drew
   refine wpBS HS.out (T:=fun _=>True) (d:=99) (by kernel_rfl) ?_
   obtain ⟨wd,hwd⟩:∃ X,X=C8.drew:=⟨_,rfl⟩
   rw [←hwd] at hD0  ⊢
   clear hwd
   have hS0:=HS.out _ hD0
   have hT0:True:=trivial
   refine wV 0 rfl hS0 hT0 ?_
   (try simp only [zz])
   refine wV 1 rfl hS0 hT0 ?_
   (try simp only [zz])
   refine wV 2 rfl hS0 hT0 ?_
   (try simp only [zz])
   refine wV 3 rfl hS0 hT0 ?_
   (try simp only [zz])
   refine wV 4 rfl hS0 hT0 ?_
   (try simp only [zz])
   refine w1 5 rfl fun K hK=>?_
   go_simp
   go_at_call 121
   refine (IH.out k1 hm1 d (e+1) xs t v HS1.out HFV.out wd _ _ _ H (HK1b.out.below hD0 HG1b.out) (HG1b.out.mono hD0.size) (HV8.out.below hD0 HH8.out) (HH8.out.mono hD0.size) (by omega)).mono ?_
   rintro e C9 ⟨l9,x9,ok9,F9,rfl,hb9,ho9,hF9,hok9,hl9,hn9⟩
   have hD1:Below C8 C8 C9:=hD0.trans (hb9.mono hD0.size)
   have hS1:=HS.out _ hD1
   have HO9:=jj ho9
   have HF9:Hid (∀ b∈F9,b∈H∨w.heap.size≤b):=fun b hb=>(hF9 b hb).imp id fun h=>Nat.le_trans (Nat.le_trans (Nat.le_trans hwz2 hQ1.size) hD0.size) h
   have HOK9:=jj hok9
   have HL9:=jj hl9
   clear ho9 hF9 hok9 hl9
   (try dsimp only)
   refine hK.out _ _ hS1 (fun _=>trivial) ?_
   clear hK K
   (try simp only [zz])
   refine wV 6 rfl hS1 hT0 ?_
   (try simp only [zz])
   refine wV 7 rfl hS1 hT0 ?_
   (try simp only [zz])
   refine wV 8 rfl hS1 hT0 ?_
   (try simp only [zz])
   refine wV 9 rfl hS1 hT0 ?_
   (try simp only [zz])
   refine wE (by kernel_rfl) ?_
   clear hS0 hS1 hT0
   have hC8:=hC1.trans (hD1.mono hC1.size)
   have hB9:=hB0.trans (hC8.mono hB0.size)
   have hbase:=HO9.out.base (B':=w.heap.size) (fun g hg=>by have:=(HO9.out.row g hg).1;have:=hD0.size;have:=hC1.size;omega)
   have HBS:=jj hbase
   clear hbase
   go_wp2
   go_ret2
   exact ⟨l9,x9,ok9,F9,rfl,hB9,HBS.out,HF9.out,by rw [HOK9.out,mat_5 H5_.out HKL.out,HNO.out],fun m h=>by
    rw [mat_5 H5_.out HKL.out,HNO.out] at h
    exact HL9.out m h,by omega⟩
 ·have hty:=typesP_as (xs:=xs) (t:=t) h6
  rw [hty] at hl
  obtain ⟨k0,hk0⟩:∃ k0,p.ks=[k0]:=List.length_eq_one_iff.1 hl
  have hl1:p.ks.length=1:=hl
  have hs0:=hsk 0 (by rw [hty];simp) (by omega)
  simp only [hty,hk0,zz2] at hs0
  have HSK:=jj hs0
  have hkm:k0∈p.ks:=by rw [hk0];simp
  have hnn:nodesP p=1+nodesP k0:=by rw [nodesP_ks,hk0];simp only [P.sizes,nodesP];omega
  obtain ⟨kb,koff,rfl⟩:=HKP.out.ptr (by omega)
  obtain ⟨k0A,k0cap,G0,hk0b,k0z0,k0z1,k0z2,k0z3,k0z4,k0z5,HK0,HG0,hgg0,-,-⟩:=ArrP.at HKP.out HGU.out (zy2 _ _) 0 (by omega)
  have e0:p.ks[0]'(by omega)=k0:=by simp [hk0]
  simp only [e0,Nat.zero_mul,Nat.add_zero] at k0z0 k0z1 k0z2 k0z3 k0z4 k0z5 HK0
  have hkb:kb<w.heap.size:=by
   obtain ⟨b',off',cs',G',e',hb',-⟩:=HKP.out.get PR_len (show 0<p.ks.length by omega)
   cases e'
   exact HG.out _ hb'
  have gz1:(0:Int)<(p.ks.length:Int):=by omega
  have gz2:0<p.ks.length:=by omega
  have HKL:=jj hk0
  clear hl1 hk0 e0
  clear hs hfv ho hl hsk hs0 hty
  have q1:(p.op==1)=false:=beq_eq_false_iff_ne.2 (by omega)
  have q2:(p.op==2)=false:=beq_eq_false_iff_ne.2 (by omega)
  have q3:(p.op==3)=false:=beq_eq_false_iff_ne.2 (by omega)
  have q5:(p.op==5)=false:=beq_eq_false_iff_ne.2 (by omega)
  have q6:(p.op==6)=true:=beq_iff_eq.2 (by omega)
  have H6_:=jj h6
  clear h6
  obtain ⟨y0,y1,y2,y3,y4,y5,-⟩:=KP.out.c6
  obtain ⟨u0,u1,u2,-⟩:=KV.out.c3
  have yl:=KP.out.lt
  have ul:=KV.out.lt
  go_enter Tryz.func121,Tryz.ntmps121
  go_wp2_with fail
  clear y0 y1 y2 y3 y4 y5 u0 u1 u2 yl ul
  obtain ⟨W0,hW0⟩:∃ X,X=((w.alloc (.cells #[p.op,p.ct,p.n,p.m,p.va,.slice (some ⟨kb,koff,none⟩) p.ks.length pcap] 28)).alloc (.cells #[v.c,v.n,.slice vA v.ks.length vcap] 45)):=⟨_,rfl⟩
  rw [←hW0] at hws hB0 KP KV HKP HKV HV HGU HHU k0z0 k0z1 k0z2 k0z3 k0z4 k0z5 HK0 HG0 hk0b ⊢
  clear hW0
  have hwz:w.heap.size+2≤W0.heap.size:=by omega
  have hwz1:w.heap.size<W0.heap.size:=by omega
  have hwz2:w.heap.size≤W0.heap.size:=by omega
  clear hws
  have HS:Hid (∀ C:World,Below W0 W0 C→(C.cell? ⟨w,5,none⟩=some (.slice (some ⟨kb,koff,none⟩) p.ks.length pcap)∧C.cell? ⟨w.heap.size+1,0,none⟩=v.c∧C.cell? ⟨w.heap.size+1,1,none⟩=v.n∧C.cell? ⟨w.heap.size+1,2,none⟩=some (.slice vA v.ks.length vcap)∧C.cell? ⟨kb,koff,none⟩=k0.op∧C.cell? ⟨kb,koff+1,none⟩=k0.ct∧C.cell? ⟨kb,koff+2,none⟩=k0.n∧C.cell? ⟨kb,koff+3,none⟩=k0.m∧C.cell? ⟨kb,koff+4,none⟩=k0.va∧C.cell? ⟨kb,koff+5,none⟩=some (.slice k0A k0.ks.length k0cap))):=fun C hb=>⟨(hb.cell (KP.out.lt)).trans ((KP.out.cell 5).trans (by simp)),(hb.cell (KV.out.lt)).trans ((KV.out.cell 0).trans (by simp)),(hb.cell (KV.out.lt)).trans ((KV.out.cell 1).trans (by simp)),(hb.cell (KV.out.lt)).trans ((KV.out.cell 2).trans (by simp)),(hb.cell (hk0b)).trans k0z0,(hb.cell (hk0b)).trans k0z1,(hb.cell (hk0b)).trans k0z2,(hb.cell (hk0b)).trans k0z3,(hb.cell (hk0b)).trans k0z4,(hb.cell (hk0b)).trans k0z5⟩
  have hC0:Below W0 W0 W0.drew:=(zy2 _ _).drew
  refine wpBS HS.out (T:=fun _=>True) (d:=99) (by kernel_rfl) ?_
  obtain ⟨wd,hwd⟩:∃ X,X=W0.drew:=⟨_,rfl⟩
  rw [←hwd] at hC0  ⊢
  clear hwd
  have hS0:=HS.out _ hC0
  have hT0:True:=trivial
  refine wV 0 rfl hS0 hT0 ?_
  (try simp only [zz])
  refine wV 1 rfl hS0 hT0 ?_
  (try simp only [zz])
  refine wV 2 rfl hS0 hT0 ?_
  (try simp only [zz])
  refine wV 3 rfl hS0 hT0 ?_
  (try simp only [zz])
  refine wV 4 rfl hS0 hT0 ?_
  (try simp only [zz])
  refine w1 5 rfl fun K hK=>?_
  go_simp
  go_at_call 121
  refine (IH.out k0 hkm d (e+1) xs t v HSK.out HFV.out wd _ _ _ H (HK0.out.below hC0 HG0.out) (HG0.out.mono hC0.size) (HV.out.below hC0 (HH.out.mono hwz2)) ((HH.out.mono hwz2).mono hC0.size) (by omega)).mono ?_
  rintro e C8 ⟨l8,x8,ok8,F8,rfl,hb8,ho8,hF8,hok8,hl8,hn8⟩
  have hC1:Below W0 W0 C8:=hC0.trans (hb8.mono hC0.size)
  have hS1:=HS.out _ hC1
  have HO8:=jj ho8
  have HF8:Hid (∀ b∈F8,b∈H∨w.heap.size≤b):=fun b hb=>(hF8 b hb).imp id fun h=>Nat.le_trans (Nat.le_trans hwz2 hC0.size) h
  have HOK8:=jj hok8
  have HL8:=jj hl8
  clear ho8 hF8 hok8 hl8
  (try dsimp only)
  refine hK.out _ _ hS1 (fun _=>trivial) ?_
  clear hK K
  (try simp only [zz])
  refine wV 6 rfl hS1 hT0 ?_
  (try simp only [zz])
  refine wV 7 rfl hS1 hT0 ?_
  (try simp only [zz])
  refine wV 8 rfl hS1 hT0 ?_
  (try simp only [zz])
  refine wV 9 rfl hS1 hT0 ?_
  (try simp only [zz])
  refine wV 10 rfl hS1 hT0 ?_
  (try simp only [zz])
  refine wE (by kernel_rfl) ?_
  clear hS0 hS1 hT0
  have hB8:=hB0.trans (hC1.mono hB0.size)
  have KP8:=jj (KP.out.same (hC1.block _ KP.out.lt))
  have KV8:=jj (KV.out.same (hC1.block _ KV.out.lt))
  have HV8:=jj (HV.out.below hC1 (HH.out.mono hwz2))
  have HH8:=jj ((HH.out.mono hwz2).mono hC1.size)
  have hz8:w.heap.size≤C8.heap.size:=Nat.le_trans hwz2 hC1.size
  have hb9:Below C8 C8 (C8.alloc (.cells #[p.va,v.c,v.n,.slice vA v.ks.length vcap] 137)):=(zy2 _ _).alloc (zz8 _) _
  obtain ⟨A8,cap8,rfl,hA8a,hA8b⟩:=HO8.out.form
  have HN8:=jj (own_one C8 w.heap.size hz8 (⟨p.va,v⟩:Bd) [p.va,v.c,v.n,.slice vA v.ks.length vcap] H rfl (BdR_of (HV8.out.below hb9 HH8.out)) HH8.out)
  have HO8b:=jj (HO8.out.below (fun x cs G hk h=>BdR_mono2 _ _ x cs G hk h) hb9)
  have hsz9:(C8.alloc (.cells #[p.va,v.c,v.n,.slice vA v.ks.length vcap] 137)).heap.size=C8.heap.size+1:=by simp
  have hfz:∀ b∈(if l8=[] then [] else rowOf (.slice A8 l8.length cap8) ++ F8),b<C8.heap.size:=under_ifA HO8.out
  have hfw:∀ b∈(if l8=[] then [] else rowOf (.slice A8 l8.length cap8) ++ F8),b∈H∨w.heap.size≤b:=fun b hb=>by
   split at hb
   ·cases hb
   ·rcases List.mem_append.1 hb with hb | hb
    ·exact .inr (by have:=(HO8.out.row b hb).1;have:=hC0.size;omega)
    ·exact HF8.out b hb
  obtain ⟨x9,C9,G9,hr9,ho9,hG9,hgr9,hat9⟩:=zAW (P:=Tryz.prog) 52 52 i0 _ 48 Tryz.underlying52 HI.out HZ0.out HZ1.out HZ2.out rfl (by decide) BdR_len2 BdR_mono2 BdR_one HN8.out HO8b.out.arr (under_ifA HO8b.out) (fun x hx hxG=>by rw [zA3,zy1] at hx;subst hx;exact Nat.lt_irrefl _ (hfz _ hxG)) (by simp;omega) (by simp;omega) (by omega)
  have HR9:=jj hr9
  have HO9:=jj ho9
  have HF9:Hid (∀ b∈H ++ G9,b∈H∨w.heap.size≤b):=fun b hb=>by
   rcases List.mem_append.1 hb with hb | hb
   ·exact .inl hb
   ·exact hfw b (hG9 b hb)
  have hB9:Below w w C9:=(hB8.trans (hb9.mono hz8)).grown hgr9 (by omega) (fun x hx=>(HN8.out.row x (zA1.2 hx)).1)
  have HB9:=jj hB9
  clear hr9 ho9 hG9 hgr9 hat9 hfz hfw hb9 hsz9 HN8 HO8b hB9
  obtain ⟨y0,y1,y2,y3,y4,y5,-⟩:=KP8.out.c6
  obtain ⟨u0,u1,u2,-⟩:=KV8.out.c3
  have yl:=KP8.out.lt
  have ul:=KV8.out.lt
  go_wp2_with (at_builtin;refine Halt.mk ?_)
  refine Halt.of (zAQ rfl _ _ 52 rfl (by rfl) (by rfl) HR9.out ?_)
  clear HR9
  clear y0 y1 y2 y3 y4 y5 u0 u1 u2 yl ul
  go_wp2
  go_ret2
  exact ⟨[(⟨p.va,v⟩:Bd)] ++ l8,x9,ok8,_,rfl,HB9.out,HO9.out,HF9.out,by rw [HOK8.out,mat_6 H6_.out HKL.out];cases P.mat k0 v <;> rfl,fun m h=>by
   rw [mat_6 H6_.out HKL.out] at h
   cases hm:P.mat k0 v with
   |none=>rw [hm] at h;cases h
   |some a =>
    rw [hm] at h
    cases h
    rw [HL8.out a hm];rfl,by rw [List.length_append];simp only [List.length_cons,List.length_nil];omega⟩
theorem impl_match:∀ p,MatG p:=P.ind fun op ct n m va ks ih=>impl_match_of ⟨op,ct,n,m,va,ks⟩ ih
end Go.Proofs.YtjjclcmmfeegfaaGreatDoor
namespace Go.Proofs.YtjjclcmmfeegfaaGreatDoor
open Go.Shelf Go.RowKit Go.Sort
def Shelflays125_ren:Go.Shelf.Ren:=⟨fun | 125=>158 | 128=>201 | 129=>202 | n=>n,fun | 46=>170 | 3=>3 | 51=>206 | 53=>208 | 4=>4 | 5=>5 | 9=>9 | n=>n,fun | n=>n⟩
theorem Shelflays125:Go.Proofs.Lays.n125 Tryz.prog Shelflays125_ren:={
 mixed:=by kernel_rfl
 f125:=Tryz.func158.trans (congrArg some (by kernel_rfl))
 f128:=Tryz.func201.trans (congrArg some (by kernel_rfl))
 f129:=Tryz.func202.trans (congrArg some (by kernel_rfl))
 t3:=Tryz.underlying3
 a3:=Tryz.isAgg3
 z3:=Tryz.sizeOf3
 v3:=Tryz.zeroValue3
 t4:=Tryz.underlying4
 a4:=Tryz.isAgg4
 z4:=Tryz.sizeOf4
 v4:=Tryz.zeroValue4
 t5:=Tryz.underlying5
 a5:=Tryz.isAgg5
 z5:=Tryz.sizeOf5
 v5:=Tryz.zeroValue5
 t9:=Tryz.underlying9
 a9:=Tryz.isAgg9
 z9:=Tryz.sizeOf9
 v9:=Tryz.zeroValue9
 t46:=Tryz.underlying170
 a46:=Tryz.isAgg170
 z46:=Tryz.sizeOf170
 v46:=Tryz.zeroValue170
 t51:=Tryz.underlying206
 a51:=Tryz.isAgg206
 z51:=Tryz.sizeOf206
 v51:=Tryz.zeroValue206
 t53:=Tryz.underlying208
 a53:=Tryz.isAgg208
 z53:=Tryz.sizeOf208
 v53:=Tryz.zeroValue208 }
theorem Shelfbits_Len (x:Int) (w:World) (h0:0≤x) (h1:x≤18446744073709551615) :
  Calls Tryz.prog 158 #[.int .u64 x] w fun e w'=>e=.returned (.int .i64 (Lib.bitLen x.toNat))∧w'=w:=Any.bits_Len Shelflays125 x w h0 h1
def Shelflays122_ren:Go.Shelf.Ren:=⟨fun | 122=>124 | 215=>159 | n=>n,fun | 3=>3 | 4=>4 | n=>n,fun | n=>n⟩
theorem Shelflays122:Go.Proofs.Lays.n122 Tryz.prog Shelflays122_ren:={
 mixed:=by kernel_rfl
 f122:=Tryz.func124.trans (congrArg some (by kernel_rfl))
 f215:=Tryz.func159.trans (congrArg some (by kernel_rfl))
 t3:=Tryz.underlying3
 a3:=Tryz.isAgg3
 z3:=Tryz.sizeOf3
 v3:=Tryz.zeroValue3
 t4:=Tryz.underlying4
 a4:=Tryz.isAgg4
 z4:=Tryz.sizeOf4
 v4:=Tryz.zeroValue4 }
theorem Shelfcmp_Compare_int (x y:Int) (w:World) :
  Calls Tryz.prog 124 #[.int .i64 x,.int .i64 y] w fun e w'=>e=.returned (.int .i64 (Lib.compareInt x y))∧w'=w:=Any.cmp_Compare_int Shelflays122 x y w
def ShelfsortBind_ren:Go.Shelf.Ren:=⟨fun | 6=>122 | 15=>158 | 14=>157 | 28=>201 | 29=>202 | 20=>193 | 21=>194 | 22=>195 | 23=>196 | 24=>197 | 25=>198 | 26=>199 | 27=>200 | 46=>219 | 47=>220 | 48=>221 | 49=>222 | 50=>223 | 57=>233 | n=>n,fun | 22=>52 | 24=>137 | 25=>139 | 3=>3 | 39=>170 | 0=>0 | 53=>206 | 55=>208 | 4=>4 | 46=>199 | 45=>198 | 50=>203 | 5=>5 | 9=>9 | 66=>227 | 70=>134 | 76=>246 | 77=>247 | n=>n,fun | n=>n⟩
theorem ShelfsortBind:Go.Proofs.SlLaysF0.n6 Tryz.prog ShelfsortBind_ren:={
 mixed:=by kernel_rfl
 f6:=⟨Tryz.f122.name,by decide,Tryz.func122.trans (congrArg some (by kernel_rfl))⟩
 f14:=⟨Tryz.f157.name,by decide,Tryz.func157.trans (congrArg some (by kernel_rfl))⟩
 f15:=Tryz.func158.trans (congrArg some (by kernel_rfl))
 f20:=⟨Tryz.f193.name,by decide,Tryz.func193.trans (congrArg some (by kernel_rfl))⟩
 f21:=⟨Tryz.f194.name,by decide,Tryz.func194.trans (congrArg some (by kernel_rfl))⟩
 f22:=⟨Tryz.f195.name,by decide,Tryz.func195.trans (congrArg some (by kernel_rfl))⟩
 f23:=⟨Tryz.f196.name,by decide,Tryz.func196.trans (congrArg some (by kernel_rfl))⟩
 f24:=⟨Tryz.f197.name,by decide,Tryz.func197.trans (congrArg some (by kernel_rfl))⟩
 f25:=⟨Tryz.f198.name,by decide,Tryz.func198.trans (congrArg some (by kernel_rfl))⟩
 f26:=⟨Tryz.f199.name,by decide,Tryz.func199.trans (congrArg some (by kernel_rfl))⟩
 f27:=⟨Tryz.f200.name,by decide,Tryz.func200.trans (congrArg some (by kernel_rfl))⟩
 f28:=Tryz.func201.trans (congrArg some (by kernel_rfl))
 f29:=Tryz.func202.trans (congrArg some (by kernel_rfl))
 f46:=⟨Tryz.f219.name,by decide,Tryz.func219.trans (congrArg some (by kernel_rfl))⟩
 f47:=Tryz.func220.trans (congrArg some (by kernel_rfl))
 f48:=Tryz.func221.trans (congrArg some (by kernel_rfl))
 f49:=⟨Tryz.f222.name,by decide,Tryz.func222.trans (congrArg some (by kernel_rfl))⟩
 f50:=⟨Tryz.f223.name,by decide,Tryz.func223.trans (congrArg some (by kernel_rfl))⟩
 f57:=⟨Tryz.f233.name,by decide,Tryz.func233.trans (congrArg some (by kernel_rfl))⟩
 t0:=Tryz.underlying0
 a0:=Tryz.isAgg0
 z0:=Tryz.sizeOf0
 v0:=Tryz.zeroValue0
 t3:=Tryz.underlying3
 a3:=Tryz.isAgg3
 z3:=Tryz.sizeOf3
 v3:=Tryz.zeroValue3
 t4:=Tryz.underlying4
 a4:=Tryz.isAgg4
 z4:=Tryz.sizeOf4
 v4:=Tryz.zeroValue4
 t5:=Tryz.underlying5
 a5:=Tryz.isAgg5
 z5:=Tryz.sizeOf5
 v5:=Tryz.zeroValue5
 t9:=Tryz.underlying9
 a9:=Tryz.isAgg9
 z9:=Tryz.sizeOf9
 v9:=Tryz.zeroValue9
 t22:=Tryz.underlying52
 a22:=Tryz.isAgg52
 z22:=Tryz.sizeOf52
 v22:=Tryz.zeroValue52
 t25:=Tryz.underlying139
 a25:=Tryz.isAgg139
 z25:=Tryz.sizeOf139
 v25:=Tryz.zeroValue139
 t39:=Tryz.underlying170
 a39:=Tryz.isAgg170
 z39:=Tryz.sizeOf170
 v39:=Tryz.zeroValue170
 t45:=Tryz.underlying198
 a45:=Tryz.isAgg198
 z45:=Tryz.sizeOf198
 v45:=Tryz.zeroValue198
 t46:=Tryz.underlying199
 a46:=Tryz.isAgg199
 z46:=Tryz.sizeOf199
 v46:=Tryz.zeroValue199
 t50:=Tryz.underlying203
 a50:=Tryz.isAgg203
 z50:=Tryz.sizeOf203
 v50:=Tryz.zeroValue203
 t53:=Tryz.underlying206
 a53:=Tryz.isAgg206
 z53:=Tryz.sizeOf206
 v53:=Tryz.zeroValue206
 t55:=Tryz.underlying208
 a55:=Tryz.isAgg208
 z55:=Tryz.sizeOf208
 v55:=Tryz.zeroValue208
 t66:=Tryz.underlying227
 a66:=Tryz.isAgg227
 z66:=Tryz.sizeOf227
 v66:=Tryz.zeroValue227
 t70:=Tryz.underlying134
 a70:=Tryz.isAgg134
 z70:=Tryz.sizeOf134
 v70:=Tryz.zeroValue134
 t76:=Tryz.underlying246
 a76:=Tryz.isAgg246
 z76:=Tryz.sizeOf246
 v76:=Tryz.zeroValue246
 t77:=Tryz.underlying247
 a77:=Tryz.isAgg247
 z77:=Tryz.sizeOf247
 v77:=Tryz.zeroValue247 }
instance:Inhabited Bd:=⟨⟨0,⟨0,0,[]⟩⟩⟩
abbrev BdC:Type:=Bd×Option Addr×Nat
def encB (x:BdC):List Value:=[.int .i64 x.1.var,.int .i64 x.1.val.c,.int .i64 x.1.val.n,.slice x.2.1 x.1.val.ks.length x.2.2]
theorem encB_len (x:BdC):(encB x).length=4:=rfl
theorem encB_one (x:BdC):∀ v∈encB x,v.oneCell'=true:=fun v hv=>by
 simp [encB] at hv
 rcases hv with rfl | rfl | rfl | rfl <;> rfl
set_option maxHeartbeats 1000000 in
theorem closure_sort (x y:BdC) (W:World):Calls Tryz.prog 123 #[.agg (encB x).toArray,.agg (encB y).toArray] W fun e w'=>e=.returned (.int .i64 (Lib.compareInt x.1.var y.1.var))∧∃ q os',w'=Sort.grow (W.drewN q) os':=by
 have hcon:=fun W'=>Shelfcmp_Compare_int x.1.var y.1.var W'
 unfold encB
 generalize Lib.compareInt x.1.var y.1.var=r at hcon ⊢
 go_enter Tryz.func123,Tryz.ntmps123
 go_wp2_with (go_at_call 124;refine (hcon _).mono ?_;rintro e w' ⟨rfl,rfl⟩)
 go_ret
 exact ⟨rfl,0,_,by rw [Sort.alloc_eq_grow,Sort.alloc_eq_grow,Sort.grow_grow];rfl⟩
theorem lays_sort (blk off size:Nat) (w:World):CmpLays Tryz.prog 123 #[] encB 4 (fun x y=>Lib.compareInt x.1.var y.1.var) blk off size w :=
 fun _ _ _ _ x y=>closure_sort x y _
theorem len_sort (n:Nat) (W:World) (h:n≤12):Calls Tryz.prog 158 #[.int .u64 n] W fun e w'=>(∃ l:Int,e=.returned (.int .i64 l))∧w'=W :=
 (Shelfbits_Len n W (by omega) (by omega)).mono fun _ _ ⟨he,hw⟩=>⟨⟨_,he⟩,hw⟩
theorem lt_sort (x y:BdC):ltOf (fun x y:BdC=>Lib.compareInt x.1.var y.1.var) x y=decide (x.1.var<y.1.var):=by
 show decide (Lib.compareInt x.1.var y.1.var<0)=_
 unfold Lib.compareInt
 by_cases h:x.1.var<y.1.var
 ·rw [if_pos h];simp [h]
 ·rw [if_neg h]
  split <;> simp [h]
theorem swo_sort:Sort.SWO (ltOf fun x y:BdC=>Lib.compareInt x.1.var y.1.var):=by
 have key:=lt_sort
 exact ⟨fun x=>by rw [key];simp,fun x y z h1 h2=>by rw [key] at *;simp at *;omega,fun x y z h1 h2=>by rw [key] at *;simp at *;omega⟩
theorem enc_cells {w:World}:∀ {l:List Bd} {cs:List Value} {F:List Nat},Flat (BdR w) l cs F→∃ d:List BdC,d.map (·.1)=l∧cs=d.flatMap encB∧∀ x∈d,∃ G,BdR w x.1 (encB x) G∧∀ b∈G,b∈F
 |[],cs,F,h=>⟨[],rfl,h.1,fun x hx=>(by cases hx)⟩
 |y :: l,cs,F,h=>by
  obtain ⟨c1,c2,F1,F2,rfl,rfl,h1,h2⟩:=h
  obtain ⟨d,e1,e2,e3⟩:=enc_cells h2
  obtain ⟨A,cap,e⟩:=BdR_form h1
  refine ⟨(y,A,cap) :: d,by rw [List.map_cons,e1],by rw [List.flatMap_cons,←e2,e];rfl,fun x hx=>?_⟩
  rcases List.mem_cons.1 hx with hx | hx
  ·subst hx
   exact ⟨F1,by rw [e] at h1;exact h1,fun b hb=>List.mem_append.2 (.inl hb)⟩
  ·obtain ⟨G,g1,g2⟩:=e3 x hx
   exact ⟨G,g1,fun b hb=>List.mem_append.2 (.inr (g2 b hb))⟩
theorem cells_enc {w:World} {F:List Nat}:∀ {d:List BdC},(∀ x∈d,∃ G,BdR w x.1 (encB x) G∧∀ b∈G,b∈F)→∃ F',Flat (BdR w) (d.map (·.1)) (d.flatMap encB) F'∧∀ b∈F',b∈F
 |[],_=>⟨[],⟨rfl,rfl⟩,fun b hb=>(by cases hb)⟩
 |x :: d,h=>by
  obtain ⟨F2,f1,f2⟩:=cells_enc (d:=d) (fun y hy=>h y (by simp [hy]))
  obtain ⟨G,g1,g2⟩:=h x (by simp)
  refine ⟨G ++ F2,⟨_,_,G,F2,rfl,rfl,g1,f1⟩,fun b hb=>?_⟩
  rcases List.mem_append.1 hb with hb | hb
  ·exact g2 b hb
  ·exact f2 b hb
theorem flat_cells:∀ (d:List BdC) (j:Nat),j<d.length*4→(d.flatMap encB)[j]?=some ((encB (d.toArray[j / 4]!))[j % 4]!)
 |[],j,h=>by simp at h
 |x :: d,j,h=>by
  rw [List.flatMap_cons]
  rcases Nat.lt_or_ge j 4 with h4 | h4
  ·rw [List.getElem?_append_left (by rw [encB_len];exact h4),Nat.div_eq_of_lt h4,Nat.mod_eq_of_lt h4]
   have hx:(x :: d).toArray[0]! = x:=by simp
   rw [hx,List.getElem!_eq_getElem?_getD,List.getElem?_eq_getElem (by rw [encB_len];exact h4)]
   rfl
  ·rw [List.getElem?_append_right (by rw [encB_len];exact h4),encB_len,flat_cells d (j-4) (by simp at h;omega)]
   have e1:j / 4=(j-4) / 4+1:=by omega
   have e2:j % 4=(j-4) % 4:=by omega
   rw [e2,e1]
   simp
theorem flatK_cells (d:List BdC) (j:Nat) (h:j<d.length*4):(d.flatMap encB)[j]?=some ((Sort.flatK encB 4 d.toArray)[j]!):=by
 rw [Sort.get_flatK encB 4 d.toArray j (by simpa using h)]
 exact flat_cells d j h
theorem flat_len (d:List BdC):(d.flatMap encB).length=d.length*4:=by
 induction d with
 |nil=>rfl
 |cons x d ih=>rw [List.flatMap_cons,List.length_append,ih,encB_len,List.length_cons];omega
theorem heap_put {w:World} {g n:Nat} {os:Array Obj} {cur:Array Value} {e:TypeId} {fr:Nat×Nat} (D:Array Value) (hb:w.heap[g]?=some (.cells cur e fr)) :
  (Sort.grow (Sort.putRow id (Sort.ahead w n) g 0 D) os).heap[g]?=some (.cells (Sort.putCells id 0 D cur) e fr):=by
 have hg:g<w.heap.size:=(Array.getElem?_eq_some_iff.1 hb).1
 rw [Sort.heap_grow_old _ _ (by simpa using hg)]
 simp [Sort.putRow,Sort.mapBlock,Sort.ahead,Array.getElem?_modify,hb,Sort.onCells]
theorem grown_put {w:World} {g n:Nat} {os:Array Obj} (D:Array Value):w.grownBy (Sort.grow (Sort.putRow id (Sort.ahead w n) g 0 D) os) (some g):=by
 refine ⟨rfl,rfl,rfl,by simp,fun k hk hne=>?_⟩
 rw [Sort.heap_grow_old _ _ (by simpa using hk)]
 have:g≠k:=fun e=>hne (by rw [e])
 simp [Sort.putRow,Sort.mapBlock,Sort.ahead,Array.getElem?_modify,this]
theorem sort_binds (l:List Bd) (h12:l.length≤12) (w:World) (B:Nat) (x:Value) (F:List Nat) (hO:Own w B 137 4 BdR l x F):Calls Tryz.prog 122 #[x,.func (.func 123) #[] #[]] w fun e w'=>e=.returned (.tuple #[]) ∧
  ∃ l' F',l'.Perm l∧l'.Pairwise (fun a b=>a.var≤b.var)∧Own w' B 137 4 BdR l' x F'∧(∀ b∈F',b∈F)∧Chg (rowOf x) w w':=by
 obtain ⟨cs,ho,hf,hu,hap⟩:=id hO
 rcases ho.2 with ⟨rfl,hn0⟩ | ⟨g,cap,cur,rfl,hBg,hb,h1,h2,h3,h4⟩
 ·have hl:l=[]:=List.eq_nil_of_length_eq_zero hn0
  subst hl
  refine (AnyF.slices_SortFunc_none ShelfsortBind none 0 _ w).mono ?_
  rintro e w' ⟨rfl,rfl⟩
  exact ⟨rfl,[],F,.refl _,.nil,hO,fun b hb=>hb,Chg.refl _ _⟩
 ·obtain ⟨d,hd1,hd2,hd3⟩:=enc_cells hf
  have hdl:d.length=l.length:=by rw [←hd1,List.length_map]
  have hg:g<w.heap.size:=(Array.getElem?_eq_some_iff.1 hb).1
  have hcur:cur.toList.take (d.length*4)=d.flatMap encB:=by rw [hdl,h4,hd2]
  have hH:HoldsK encB 4 w g 0 d.toArray:=fun j hj=>by
   have hj':j<d.length*4:=by simpa using hj
   refine ⟨?_,Blk.frozen (C:=cur) hb _⟩
   rw [Nat.zero_add,Blk.cell (C:=cur) hb j]
   have:=flatK_cells d j hj'
   rw [←hcur,List.getElem?_take_of_lt hj',Array.getElem?_toList] at this
   rw [this];rfl
  have eg:∀ args w,(callFunc 123 args).run Tryz.prog w=.ok (.enter 123 args) w:=enters_of Tryz.func123 (by kernel_rfl) rfl
  have hcon:=AnyQ.slices_SortFunc_small_sorted ShelfsortBind 4 Tryz.isAgg137 Tryz.sizeOf137 encB encB_len encB_one (fun x y=>Lib.compareInt x.1.var y.1.var) 123 #[] swo_sort g 0 cap d.toArray w eg (lays_sort g 0 d.toArray.size w) hH hg (by simpa [hdl] using h12) len_sort
  have hsz:d.toArray.size=l.length:=by simpa using hdl
  rw [hsz] at hcon
  refine Calls.mono hcon ?_
  rintro e w' ⟨he,d',n,os,hp,hs,hw⟩
  refine ⟨he,d'.toList.map (·.1),?_⟩
  have hd's:d'.size=l.length:=hp.1.trans hsz
  have hperm:d'.toList.Perm d:=by
   have h:=hp.2.2
   rw [show d'.extract 0 l.length=d' by rw [←hd's];simp,show d.toArray.extract 0 l.length=d.toArray by rw [←hsz];simp] at h
   exact h
  obtain ⟨F',f1,f2⟩:=cells_enc (d:=d'.toList) (F:=F) (fun x hx=>hd3 x (hperm.mem_iff.1 hx))
  have hgrown:w.grownBy w' (some g):=by rw [hw];exact grown_put _
  have hblk:w'.heap[g]?=some (.cells (Sort.putCells id 0 (Sort.flatK encB 4 d') cur) 137 (0,0)):=by rw [hw];exact heap_put _ hb
  have hgF:∀ b∈F',b≠g:=fun b hbF e=>by
   subst e
   exact hap b (by rw [zA3];simp) (f2 b hbF)
  have hkept:Kept F' w w':=fun b hb'=>hgrown.block b (hu b (f2 b hb')) (fun e=>hgF b hb' (Option.some.inj e))
  refine ⟨F',?_,?_,⟨d'.toList.flatMap encB,⟨?_,.inr ⟨g,cap,_,?_,hBg,hblk,?_,h2,?_,?_⟩⟩,?_,?_,?_⟩,f2,?_⟩
  ·rw [←hd1];exact hperm.map _
  ·rw [List.pairwise_map,List.pairwise_iff_getElem]
   intro i j hi hj hij
   have hj':j<l.length:=by rw [←hd's];simpa using hj
   have h:=hs i j (Nat.zero_le _) hij hj'
   have e1:d'[i]! = d'.toList[i]:=by rw [getElem!_pos d' i (by simpa using hi)];rfl
   have e2:d'[j]! = d'.toList[j]:=by rw [getElem!_pos d' j (by simpa using hj)];rfl
   rw [e1,e2] at h
   rw [lt_sort] at h
   have:=of_decide_eq_false h
   omega
  ·rw [flat_len];simp
  ·rw [List.length_map];simp [hd's]
  ·rw [List.length_map];simpa [hd's] using h1
  ·simpa [Sort.putCells] using h3
  ·have hlen:(d'.toList.map (·.1)).length*4=d'.toList.length*4:=by rw [List.length_map]
   rw [hlen]
   have hl':d'.toList.length=l.length:=by simpa using hd's
   apply List.ext_getElem?
   intro j
   by_cases hj:j<d'.toList.length*4
   ·rw [List.getElem?_take_of_lt hj,Array.getElem?_toList,flatK_cells d'.toList j hj]
    have hjc:j<cur.size:=by rw [h3];rw [hl'] at hj;exact zz9 hj (Nat.mul_le_mul_right 4 h1)
    have hjs:j<d'.size*4:=by rw [hd's];rw [hl'] at hj;exact hj
    simp [Sort.putCells,hjc,hjs]
   ·rw [List.getElem?_take_eq_none (by omega),List.getElem?_eq_none (by rw [flat_len];omega)]
  ·exact f1.mono fun x _ cs G hG hr=>BdR_mono2 _ _ x cs G (fun b hb=>hkept b (hG b hb)) hr
  ·exact fun b hb=>zz9 (hu b (f2 b hb)) hgrown.size
  ·intro b hb hbF
   rw [zA3,zy1] at hb
   exact hgF b hbF hb
  ·exact ⟨hgrown.os,hgrown.tape,hgrown.output,hgrown.size,fun b hb hF=>hgrown.block b hb (fun e=>hF (by rw [zA3,Option.some.inj e];simp))⟩
end Go.Proofs.YtjjclcmmfeegfaaGreatDoor
namespace Go.Proofs.YtjjclcmmfeegfaaGreatDoor
open Go.RowKit
theorem nodup_sub:∀ (a b:List Int),a.Nodup→(∀ x∈a,x∈b)→b.length≤a.length→∀ x∈b,x∈a
 |[],b,_,_,hl,x,hx=>by
  have:b=[]:=List.eq_nil_of_length_eq_zero (by simpa using hl)
  subst this;cases hx
 |y :: a,b,hn,hs,hl,x,hx=>by
  rw [List.nodup_cons] at hn
  by_cases he:x=y
  ·subst he;simp
  ·have hy:y∈b:=hs y (by simp)
   have h1:∀ z∈a,z∈b.erase y:=fun z hz=>(List.mem_erase_of_ne (fun e=>hn.1 (by rw [←e];exact hz))).2 (hs z (by simp [hz]))
   have h2:(b.erase y).length≤a.length:=by rw [List.length_erase_of_mem hy];simp at hl;omega
   have:=nodup_sub a (b.erase y) hn.2 h1 h2 x ((List.mem_erase_of_ne he).2 hx)
   simp [this]
theorem alike_sub {a b:List Vt} (h:alikeB a b=true):a.length=b.length∧∀ x∈a.map Vt.var,x∈b.map Vt.var:=by
 unfold alikeB at h
 rw [Bool.and_eq_true,beq_iff_eq,List.all_eq_true] at h
 refine ⟨h.2,fun x hx=>?_⟩
 obtain ⟨v,hv,rfl⟩:=List.mem_map.1 hx
 have:=h.1 v hv
 cases hf:b.find? (fun u=>u.var==v.var) with
 |none=>rw [hf] at this;cases this
 |some u =>
  have h1:=List.mem_of_find?_eq_some hf
  have h2:=List.find?_some hf
  exact List.mem_map.2 ⟨u,h1,by simpa using h2⟩
def VarsOf (l:List Bd) (vs:List Vt):Prop:=(l.map Bd.var).Nodup∧∀ x,x∈l.map Bd.var↔x∈vs.map Vt.var
theorem VarsOf.nil:VarsOf [] []:=⟨List.nodup_nil,fun x=>by simp⟩
theorem VarsOf.append {a b:List Bd} {va vb:List Vt} (ha:VarsOf a va) (hb:VarsOf b vb) (hd:dupFree (va ++ vb)=true):VarsOf (a ++ b) (va ++ vb):=by
 unfold dupFree at hd
 rw [decide_eq_true_iff,List.map_append,List.nodup_append] at hd
 refine ⟨?_,fun x=>?_⟩
 ·rw [List.map_append,List.nodup_append]
  exact ⟨ha.1,hb.1,fun x hx y hy=>hd.2.2 x ((ha.2 x).1 hx) y ((hb.2 y).1 hy)⟩
 ·rw [List.map_append,List.map_append,List.mem_append,List.mem_append,ha.2,hb.2]
theorem dup_left {a b:List Vt} (h:dupFree (a ++ b)=true):dupFree a=true∧dupFree b=true:=by
 unfold dupFree at h ⊢
 rw [decide_eq_true_iff,List.map_append,List.nodup_append] at h
 exact ⟨decide_eq_true h.1,decide_eq_true h.2.1⟩
theorem mats_vars (f:Ty→P→List Vt):∀ (ks:List P) (ts:List Ty) (vs:List V) (l:List Bd),ks.length=ts.length→(∀ (i:Nat) (h1:i<ts.length) (h2:i<ks.length) (v:V) (l:List Bd),P.mat ks[i] v=some l→VarsOf l (f ts[i] ks[i])) →
  dupFree ((ts.zip ks).flatMap fun x=>f x.1 x.2)=true→P.mats ks vs=some l→VarsOf l ((ts.zip ks).flatMap fun x=>f x.1 x.2)
 |[],ts,vs,l,hl,_,_,h=>by
  rw [mats_nil] at h;cases h
  have:ts=[]:=List.eq_nil_of_length_eq_zero (by simpa using hl.symm)
  subst this
  exact VarsOf.nil
 |k :: ks,[],vs,l,hl,_,_,h=>by cases hl
 |k :: ks,t :: ts,[],l,hl,hk,hd,h=>by cases h
 |k :: ks,t :: ts,v :: vs,l,hl,hk,hd,h=>by
  rw [P.mats] at h
  rw [List.zip_cons_cons,List.flatMap_cons] at hd ⊢
  cases hm:P.mat k v with
  |none=>rw [hm] at h;cases h
  |some a =>
   rw [hm] at h
   cases hn:P.mats ks vs with
   |none=>rw [hn] at h;cases h
   |some b =>
    rw [hn] at h
    cases h
    have h1:=hk 0 (by simp) (by simp) v a hm
    have h2:=mats_vars f ks ts vs b (by simpa using hl) (fun i h1 h2 v l hh=>hk (i+1) (by simp;omega) (by simp;omega) v l hh) (dup_left hd).2 hn
    exact h1.append h2 hd
theorem mat_vars (xs:List Dt):∀ (d:Nat) (t:Ty) (p:P) (v:V) (l:List Bd),shapeB xs d t p=true→linB xs d t p=true→P.mat p v=some l→VarsOf l (varsN xs d t p)
 |0,t,p,v,l,hs,hl,h=>by cases hs
 |d+1,t,p,v,l,hs,hl,h=>by
  have hdf:=lin_dup xs (d+1) t p hs hl
  obtain ⟨ho,hlen,hks⟩:=shape_parts2 hs
  have hlk:∀ (i:Nat) (h1:i<(typesP xs t p).length) (h2:i<p.ks.length),linB xs d (typesP xs t p)[i] p.ks[i]=true:=fun i h1 h2=>by
   have h0:linB xs (d+1) t p=((((typesP xs t p).zip p.ks).all fun x=>linB xs d x.1 x.2) && (if p.op=5 then (match p.ks with | [k0,k1]=>alikeB (varsN xs d t k0) (varsN xs d t k1) | _=>true) else dupFree (varsN xs (d+1) t p))):=rfl
   rw [h0,Bool.and_eq_true,List.all_eq_true] at hl
   have hz:i<((typesP xs t p).zip p.ks).length:=by rw [List.length_zip];omega
   have:=hl.1 _ (List.getElem_mem hz)
   rwa [List.getElem_zip] at this
  have hal:p.op=5→∀ k0 k1,p.ks=[k0,k1]→alikeB (varsN xs d t k0) (varsN xs d t k1)=true:=fun h5 k0 k1 hk=>by
   have h0:linB xs (d+1) t p=((((typesP xs t p).zip p.ks).all fun x=>linB xs d x.1 x.2) && (if p.op=5 then (match p.ks with | [k0,k1]=>alikeB (varsN xs d t k0) (varsN xs d t k1) | _=>true) else dupFree (varsN xs (d+1) t p))):=rfl
   rw [h0,Bool.and_eq_true,if_pos h5,hk] at hl
   exact hl.2
  have hV:varsN xs (d+1) t p=(if namedB p=true then [⟨p.va,t⟩] else []) ++ (kidsV xs t p).flatMap fun x=>varsN xs d x.1 x.2:=rfl
  rw [hV] at hdf ⊢
  rcases ops_of2 ho with h1 | h2 | h3 | h4 | h5 | h6
  ·rw [mat_1 h1] at h
   cases h
   have e:typesP xs t p=[]:=by unfold typesP kidsN;rw [if_neg (by omega),if_neg (by omega),if_neg (by omega)];rfl
   rw [show namedB p=false by unfold namedB;simp [h1]]
   rw [show kidsV xs t p=[] by unfold kidsV;rw [e];simp]
   exact VarsOf.nil
  ·rw [mat_2 h2] at h
   cases h
   have e:typesP xs t p=[]:=by unfold typesP kidsN;rw [if_neg (by omega),if_neg (by omega),if_neg (by omega)];rfl
   rw [show namedB p=true by unfold namedB;simp [h2]]
   rw [show kidsV xs t p=[] by unfold kidsV;rw [e];simp]
   exact ⟨by simp,fun x=>by simp⟩
  ·rw [mat_3 h3] at h
   have e:typesP xs t p=[]:=by unfold typesP kidsN;rw [if_neg (by omega),if_neg (by omega),if_neg (by omega)];rfl
   rw [show namedB p=false by unfold namedB;simp [h3]]
   rw [show kidsV xs t p=[] by unfold kidsV;rw [e];simp]
   split at h
   ·cases h;exact VarsOf.nil
   ·cases h
  ·rw [mat_4 h4] at h
   rw [show namedB p=false by unfold namedB;simp [h4]] at hdf ⊢
   have e3:kidsV xs t p=(typesP xs t p).zip p.ks:=by
    unfold kidsV
    rw [if_neg (show ¬p.op=5 by omega)]
    exact List.take_of_length_le (by rw [List.length_zip];omega)
   rw [e3] at hdf ⊢
   split at h
   ·exact mats_vars (varsN xs d) p.ks (typesP xs t p) v.ks l hlen (fun i h1 h2 v l hm=>mat_vars xs d _ _ v l (hks i h1 h2) (hlk i h1 h2) hm) hdf h
   ·cases h
  ·have hty:=typesP_or (xs:=xs) (t:=t) h5
   have hl2:p.ks.length=2:=by rw [hlen,hty];rfl
   obtain ⟨k0,k1,hk⟩:=kids_two hl2
   have ha:=hal h5 k0 k1 hk
   have hs0:=hks 0 (by rw [hty];simp) (by omega)
   have hs1:=hks 1 (by rw [hty];simp) (by omega)
   have hl0:=hlk 0 (by rw [hty];simp) (by omega)
   have hl1:=hlk 1 (by rw [hty];simp) (by omega)
   simp only [hty,hk,zz2,zz3] at hs0 hs1 hl0 hl1
   rw [mat_5 h5 hk] at h
   rw [show namedB p=false by unfold namedB;simp [h5]]
   have e:kidsV xs t p=[(t,k0)]:=by unfold kidsV;rw [if_pos h5,hty,hk];rfl
   rw [e]
   have e2:(if false=true then [(⟨p.va,t⟩:Vt)] else []) ++ [(t,k0)].flatMap (fun x=>varsN xs d x.1 x.2)=varsN xs d t k0:=by simp
   rw [e2]
   cases hm:P.mat k0 v with
   |some a=>rw [hm] at h;cases h;exact mat_vars xs d t k0 v _ hs0 hl0 hm
   |none =>
    rw [hm] at h
    have h1:=mat_vars xs d t k1 v l hs1 hl1 h
    obtain ⟨q1,q2⟩:=alike_sub ha
    have d0:=lin_dup xs d t k0 hs0 hl0
    unfold dupFree at d0
    rw [decide_eq_true_iff] at d0
    refine ⟨h1.1,fun x=>?_⟩
    rw [h1.2]
    exact ⟨nodup_sub _ _ d0 q2 (by rw [List.length_map,List.length_map];omega) x,q2 x⟩
  ·have hty:=typesP_as (xs:=xs) (t:=t) h6
   have hl1:p.ks.length=1:=by rw [hlen,hty];rfl
   obtain ⟨k0,hk⟩:∃ k0,p.ks=[k0]:=List.length_eq_one_iff.1 hl1
   have hs0:=hks 0 (by rw [hty];simp) (by omega)
   have hl0:=hlk 0 (by rw [hty];simp) (by omega)
   simp only [hty,hk,zz2] at hs0 hl0
   rw [mat_6 h6 hk] at h
   have e:kidsV xs t p=[(t,k0)]:=by unfold kidsV;rw [if_neg (by omega),hty,hk];rfl
   rw [show namedB p=true by unfold namedB;simp [h6],e] at hdf ⊢
   have e2:(if true=true then [(⟨p.va,t⟩:Vt)] else []) ++ [(t,k0)].flatMap (fun x=>varsN xs d x.1 x.2)=[⟨p.va,t⟩] ++ varsN xs d t k0:=by simp
   rw [e2] at hdf ⊢
   cases hm:P.mat k0 v with
   |none=>rw [hm] at h;cases h
   |some a =>
    rw [hm] at h
    cases h
    have h1:=mat_vars xs d t k0 v a hs0 hl0 hm
    exact VarsOf.append (a:=[⟨p.va,v⟩]) ⟨by simp,fun x=>by simp⟩ h1 hdf
theorem filter_upto:∀ (l:List Bd) (m:Nat),l.Pairwise (fun a b=>a.var<b.var)→(l.filter fun b=>decide (b.var<(m:Int)+1))=(l.filter fun b=>decide (b.var<(m:Int))) ++ l.filter fun b=>b.var==(m:Int)
 |[],m,_=>rfl
 |a :: l,m,h=>by
  rw [List.pairwise_cons] at h
  have ih:=filter_upto l m h.2
  by_cases h1:a.var<(m:Int)
  ·rw [List.filter_cons_of_pos (by simp;omega),List.filter_cons_of_pos (by simpa using h1),List.filter_cons_of_neg (by simp;omega),ih];rfl
  ·have e1:∀ q:Int,q≤a.var+1→(l.filter fun b=>decide (b.var<q))=[]:=fun q hq=>List.filter_eq_nil_iff.2 fun b hb=>by have:=h.1 b hb;simp;omega
   have e2:(l.filter fun b=>b.var==(m:Int))=[]:=List.filter_eq_nil_iff.2 fun b hb=>by have:=h.1 b hb;simp;omega
   by_cases h2:a.var=(m:Int)
   ·rw [List.filter_cons_of_pos (by simp;omega),List.filter_cons_of_neg (by simpa using h1),List.filter_cons_of_pos (by simpa using h2),e1 _ (by omega),e1 _ (by omega),e2];rfl
   ·rw [List.filter_cons_of_neg (by simp;omega),List.filter_cons_of_neg (by simpa using h1),List.filter_cons_of_neg (by simpa using h2),e1 _ (by omega),e1 _ (by omega),e2];rfl
theorem range_upto (l:List Bd) (h:l.Pairwise (fun a b=>a.var<b.var)) (h0:∀ b∈l,0≤b.var):∀ m:Nat,((List.range m).flatMap fun (n:Nat)=>l.filter fun b=>b.var==(n:Int))=l.filter fun b=>decide (b.var<(m:Int))
 |0=>by
  rw [List.range_zero]
  exact (List.filter_eq_nil_iff.2 fun b hb=>by have:=h0 b hb;simp;omega).symm
 |m+1=>by
  rw [List.range_succ,List.flatMap_append,range_upto l h h0 m]
  have:=filter_upto l m h
  rw [show ((m+1:Nat):Int)=(m:Int)+1 by omega,this]
  simp
theorem sortB_sorted {l:List Bd} (h:l.Pairwise (fun a b=>a.var<b.var)) (h0:∀ b∈l,0≤b.var∧b.var≤5):sortB l=l:=by
 unfold sortB
 rw [range_upto l h (fun b hb=>(h0 b hb).1) 6]
 exact List.filter_eq_self.2 fun b hb=>by have:=h0 b hb;simp;omega
theorem perm_one:∀ {a b:List Bd},a.Perm b→a.length≤1→a=b
 |[],b,h,_=>(List.Perm.nil_eq h)
 |[x],b,h,_=>(List.singleton_perm.1 h)
 |_ :: _ :: _,_,_,h=>by simp at h
theorem filter_one:∀ {l:List Bd} (n:Int),l.Pairwise (fun a b=>a.var<b.var)→(l.filter fun b=>b.var==n).length≤1
 |[],n,_=>by simp
 |a :: l,n,h=>by
  rw [List.pairwise_cons] at h
  by_cases h2:a.var=n
  ·rw [List.filter_cons_of_pos (by simpa using h2),List.filter_eq_nil_iff.2 fun b hb=>by have:=h.1 b hb;simp;omega]
   simp
  ·rw [List.filter_cons_of_neg (by simpa using h2)]
   exact filter_one n h.2
theorem sorted_is {l l':List Bd} (hp:l'.Perm l) (hs:l'.Pairwise (fun a b=>a.var≤b.var)) (hn:(l.map Bd.var).Nodup) (h0:∀ b∈l,0≤b.var∧b.var≤5):l'=sortB l:=by
 have hn':(l'.map Bd.var).Nodup:=(hp.map Bd.var).nodup_iff.2 hn
 have hs':l'.Pairwise (fun a b=>a.var<b.var):=by
  have h1:l'.Pairwise (fun a b=>a.var≠b.var):=List.pairwise_map.1 hn'
  exact (hs.and h1).imp fun ⟨a,b⟩=>by omega
 have h1:=sortB_sorted hs' (fun b hb=>h0 b (hp.mem_iff.1 hb))
 rw [←h1]
 unfold sortB
 congr 1
 funext n
 exact perm_one (hp.filter _) (filter_one _ hs')
def Half (w:World) (B:Nat) (E:TypeId) (x:Value) (l:List Bd) (i:Nat) (F1 F2:List Nat):Prop :=
 ∃ cs1 cs2,w.ownsRow B E 4 x l.length (cs1 ++ cs2)∧Flat (BdR w) (l.take i) cs1 F1∧Flat (BdR w) (l.drop i) cs2 F2∧Free w F1∧(∀ b∈F1,B≤b∧b<w.heap.size)∧Under w F2∧∀ g∈rowOf x,g∉F1∧g∉F2
theorem Half.zero {w:World} {B:Nat} {E:TypeId} {x:Value} {l:List Bd} {F:List Nat} (h:Own w B E 4 BdR l x F):Half w B E x l 0 [] F:=by
 obtain ⟨cs,h1,h2,h3,h4⟩:=h
 exact ⟨[],cs,h1,⟨rfl,rfl⟩,h2,Free.nil _,(fun b hb=>by cases hb),h3,fun g hg=>⟨(fun hb=>by cases hb),h4 g hg⟩⟩
theorem Half.form {w:World} {B:Nat} {E:TypeId} {x:Value} {l:List Bd} {i:Nat} {F1 F2:List Nat} (h:Half w B E x l i F1 F2) (hi:i<l.length):∃ g cap,x=.slice (some ⟨g,0,none⟩) l.length cap∧B≤g∧g<w.heap.size∧l.length≤cap∧cap≤9223372036854775807:=by
 obtain ⟨cs1,cs2,h1,-⟩:=h
 rcases h1.2 with ⟨-,h0⟩ | ⟨g,cap,cur,rfl,hB,hb,h1,h2,-,-⟩
 ·omega
 ·exact ⟨g,cap,rfl,hB,(Array.getElem?_eq_some_iff.1 hb).1,h1,by unfold maxLen at h2;omega⟩
theorem row_below {w w':World} {B k:Nat} {E:TypeId} {x:Value} {n:Nat} {cs:List Value} (h:w.ownsRow B E k x n cs) (hb:Below w w w'):w'.ownsRow B E k x n cs:=by
 refine ⟨h.1,?_⟩
 rcases h.2 with hn | ⟨g,cap,cur,rfl,hB,hg,rest⟩
 ·exact .inl hn
 ·exact .inr ⟨g,cap,cur,rfl,hB,(hb.block g (Array.getElem?_eq_some_iff.1 hg).1).trans hg,rest⟩
theorem Half.below {w w':World} {B:Nat} {E:TypeId} {x:Value} {l:List Bd} {i:Nat} {F1 F2:List Nat} (h:Half w B E x l i F1 F2) (hb:Below w w w'):Half w' B E x l i F1 F2:=by
 obtain ⟨cs1,cs2,h1,h2,h3,h4,h5,h6,h7⟩:=h
 have k1:Kept F1 w w':=.of_below hb fun b h=>(h5 b h).2
 have k2:Kept F2 w w':=.of_below hb h6
 exact ⟨cs1,cs2,row_below h1 hb,h2.mono fun x _ cs G hG hr=>BdR_mono2 _ _ x cs G (fun b h=>k1 b (hG b h)) hr,h3.mono fun x _ cs G hG hr=>BdR_mono2 _ _ x cs G (fun b h=>k2 b (hG b h)) hr,h4.kept k1,
  fun b hb'=>⟨(h5 b hb').1,zz9 (h5 b hb').2 hb.size⟩,h6.mono hb.size,h7⟩
theorem Half.at {w:World} {B:Nat} {E:TypeId} {g cap n:Nat} {l:List Bd} {i:Nat} {F1 F2:List Nat} (h:Half w B E (.slice (some ⟨g,0,none⟩) n cap) l i F1 F2) (hi:i<l.length) :
  ∃ A c G,w.cell? ⟨g,i*4,none⟩=l[i].var∧w.cell? ⟨g,i*4+1,none⟩=l[i].val.c∧w.cell? ⟨g,i*4+2,none⟩=l[i].val.n∧w.cell? ⟨g,i*4+3,none⟩=some (.slice A l[i].val.ks.length c) ∧
   (∀ j,w.frozen? ⟨g,j,none⟩=false)∧VR w l[i].val [l[i].val.c,l[i].val.n,.slice A l[i].val.ks.length c] G∧Under w G:=by
 obtain ⟨cs1,cs2,h1,h2,h3,h4,h5,h6,h7⟩:=h
 rcases h1.2 with ⟨-,h0⟩ | ⟨g',cap',cur,he,hB,hb,q1,q2,q3,q4⟩
 ·omega
 cases he
 rw [List.drop_eq_getElem_cons hi] at h3
 obtain ⟨c1,c2,G1,G2,rfl,rfl,r1,r2⟩:=h3
 obtain ⟨A,c,e⟩:=BdR_form r1
 have hl1:cs1.length=i*4:=by rw [h2.length (fun x cs F h=>BdR_len2 _ x cs F h),List.length_take,Nat.min_eq_left (by omega)]
 obtain ⟨ds,e2,hv⟩:=r1
 have hds:ds=[.int .i64 l[i].val.c,.int .i64 l[i].val.n,.slice A l[i].val.ks.length c]:=by
  rw [e] at e2
  exact (List.cons.inj e2).2.symm
 subst hds
 have hcell:∀ j,j<4→w.cell? ⟨g,i*4+j,none⟩=c1[j]?:=fun j hj=>by
  have hb':Blk w g E cur:=hb
  rw [hb'.cell,←Array.getElem?_toList]
  have hlt:i*4+j<l.length*4:=by omega
  rw [←List.getElem?_take_of_lt hlt,q4,List.getElem?_append_right (by omega),hl1,Nat.add_sub_cancel_left,List.getElem?_append_left (by rw [e];exact hj)]
 refine ⟨A,c,G1,?_,?_,?_,?_,fun j=>Blk.frozen (C:=cur) hb j,hv,h6.left⟩
 ·have:=hcell 0 (by omega);rw [e] at this;exact this
 ·have:=hcell 1 (by omega);rw [e] at this;exact this
 ·have:=hcell 2 (by omega);rw [e] at this;exact this
 ·have:=hcell 3 (by omega);rw [e] at this;exact this
theorem set_mid (cs1 c2:List Value) (a b c d b' c' d':Value) {k:Nat} (hk:cs1.length=k):(((cs1 ++ ([a,b,c,d] ++ c2)).set (k+1) b').set (k+2) c').set (k+3) d'=cs1 ++ ([a,b',c',d'] ++ c2):=by
 subst hk
 rw [List.set_append_right _ _ (by omega),List.set_append_right _ _ (by omega),List.set_append_right _ _ (by omega)]
 simp [Nat.add_sub_cancel_left]
theorem Half.step {w w1:World} {B:Nat} {E:TypeId} {g cap n:Nat} {l:List Bd} {i:Nat} {F1 F2:List Nat} (h:Half w B E (.slice (some ⟨g,0,none⟩) n cap) l i F1 F2) (hi:i<l.length) (hb1:Below w w w1) {A:Option Addr} {c:Nat} {G:List Nat}
  (hv:VR w1 l[i].val [l[i].val.c,l[i].val.n,.slice A l[i].val.ks.length c] G) (hf:Free w1 G) (hfr:∀ b∈G,w.heap.size≤b∧b<w1.heap.size) (hBw:B≤w.heap.size) :
  ∃ F2',Half (((w1.setCell ⟨g,i*4+1,none⟩ (.int .i64 l[i].val.c)).setCell ⟨g,i*4+2,none⟩ (.int .i64 l[i].val.n)).setCell ⟨g,i*4+3,none⟩ (.slice A l[i].val.ks.length c)) B E (.slice (some ⟨g,0,none⟩) n cap) l (i+1) (F1 ++ G) F2':=by
 obtain ⟨cs1,cs2,h1,h2,h3,h4,h5,h6,h7⟩:=h
 rcases h1.2 with ⟨-,h0⟩ | ⟨g',cap',cur,he,hB,hb,q1,q2,q3,q4⟩
 ·omega
 cases he
 have hgw:g<w.heap.size:=(Array.getElem?_eq_some_iff.1 hb).1
 obtain ⟨hg1,hg2⟩:=h7 g (by rw [zA3];simp)
 rw [List.drop_eq_getElem_cons hi] at h3
 obtain ⟨c1,c2,G1,G2,rfl,rfl,r1,r2⟩:=h3
 obtain ⟨A0,c0,e⟩:=BdR_form r1
 have hl1:cs1.length=i*4:=by rw [h2.length (fun x cs F h=>BdR_len2 _ x cs F h),List.length_take,Nat.min_eq_left (by omega)]
 generalize hW:(((w1.setCell ⟨g,i*4+1,none⟩ (.int .i64 l[i].val.c)).setCell ⟨g,i*4+2,none⟩ (.int .i64 l[i].val.n)).setCell ⟨g,i*4+3,none⟩ (.slice A l[i].val.ks.length c))=W
 have hbk:Blk W g E (((cur.setIfInBounds (i*4+1) (.int .i64 l[i].val.c)).setIfInBounds (i*4+2) (.int .i64 l[i].val.n)).setIfInBounds (i*4+3) (.slice A l[i].val.ks.length c)):=by
  rw [←hW]
  have hb':Blk w1 g E cur:=(hb1.block g hgw).trans hb
  exact ((hb'.set_ _ _).set_ _ _).set_ _ _
 have hkw:∀ F:List Nat,g∉F→Kept F w1 W:=fun F hn=>by
  rw [←hW]
  exact (((Kept.refl F w1).set hn).set hn).set hn
 have hsz:W.heap.size=w1.heap.size:=by rw [←hW];simp [World.setCell]
 have hgG:g∉G:=fun hb=>by have:=(hfr g hb).1;omega
 have hg22:g∉G2:=fun hb=>hg2 (List.mem_append.2 (.inr hb))
 have k1:Kept F1 w W:=fun b hb=>(hkw F1 hg1 b hb).trans (hb1.block b (h5 b hb).2)
 have k2:Kept G2 w W:=fun b hb=>(hkw G2 hg22 b hb).trans (hb1.block b (h6 b (List.mem_append.2 (.inr hb))))
 refine ⟨G2,cs1 ++ [.int .i64 l[i].var,.int .i64 l[i].val.c,.int .i64 l[i].val.n,.slice A l[i].val.ks.length c],c2,⟨?_,.inr ⟨g,cap,_,rfl,hB,hbk,q1,q2,?_,?_⟩⟩,?_,?_,⟨?_,?_⟩,?_,?_,?_⟩
 ·have:=h1.1
  rw [e] at this
  simpa using this
 ·simpa using q3
 ·have ht:∀ (L:List Value) (N k:Nat) (u:Value),(L.set k u).take N=(L.take N).set k u:=fun L N k u=>by rw [List.take_set]
  rw [Array.toList_setIfInBounds,Array.toList_setIfInBounds,Array.toList_setIfInBounds,ht,ht,ht,q4,e,set_mid _ _ _ _ _ _ _ _ _ hl1]
  simp
 ·rw [take_snoc' l i hi]
  refine Flat.append (h2.mono fun x _ cs G' hG hr=>BdR_mono2 _ _ x cs G' (fun b h=>k1 b (hG b h)) hr) (Flat.one ?_)
  exact BdR_of (va:=l[i].var) (VR.mono _ _ _ (hkw G hgG) hv)
 ·exact r2.mono fun x _ cs G' hG hr=>BdR_mono2 _ _ x cs G' (fun b h=>k2 b (hG b h)) hr
 ·rw [List.nodup_append]
  exact ⟨h4.1,hf.1,fun x hx y hy e=>by have a:=(h5 x hx).2;have b:=(hfr y hy).1;omega⟩
 ·intro b hb' j
  rcases List.mem_append.1 hb' with h | h
  ·exact (h4.kept k1).2 b h j
  ·exact (hf.kept (hkw G hgG)).2 b h j
 ·intro b hb'
  rw [hsz]
  rcases List.mem_append.1 hb' with h | h
  ·exact ⟨(h5 b h).1,zz9 (h5 b h).2 hb1.size⟩
  ·exact ⟨Nat.le_trans hBw (hfr b h).1,(hfr b h).2⟩
 ·intro b hb'
  rw [hsz]
  exact zz9 (h6 b (List.mem_append.2 (.inr hb'))) hb1.size
 ·intro x hx
  rw [zA3,zy1] at hx
  subst hx
  exact ⟨fun hb=>by rcases List.mem_append.1 hb with h | h;exact hg1 h;exact hgG h,hg22⟩
theorem Half.done {w0 w:World} {B:Nat} {E:TypeId} {x:Value} {l:List Bd} {i:Nat} {F1 F2:List Nat} (h:Half w B E x l i F1 F2) (hi:l.length≤i) (hB:w0.heap.size≤B):∃ F,Arr w (BdR w) l x F∧Free w F∧Fresh w0 w F:=by
 obtain ⟨cs1,cs2,h1,h2,h3,h4,h5,h6,h7⟩:=h
 rw [List.drop_of_length_le hi] at h3
 obtain ⟨rfl,rfl⟩:=h3
 rw [List.append_nil] at h1
 rw [List.take_of_length_le hi] at h2
 have ho:Own w B E 4 BdR l x F1:=⟨cs1,h1,h2,fun b hb=>(h5 b hb).2,fun g hg=>(h7 g hg).1⟩
 exact ⟨_,ho.arr,ho.free h4,ho.fresh hB (fun b hb=>Nat.le_trans hB (h5 b hb).1)⟩
theorem nodup_len:∀ (a b:List Int),a.Nodup→(∀ x∈a,x∈b)→a.length≤b.length
 |[],b,_,_=>Nat.zero_le _
 |y :: a,b,hn,hs=>by
  rw [List.nodup_cons] at hn
  have hy:y∈b:=hs y (by simp)
  have h1:∀ z∈a,z∈b.erase y:=fun z hz=>(List.mem_erase_of_ne (fun e=>hn.1 (by rw [←e];exact hz))).2 (hs z (by simp [hz]))
  have:=nodup_len a (b.erase y) hn.2 h1
  rw [List.length_erase_of_mem hy] at this
  have:=List.length_pos_of_mem hy
  simp only [List.length_cons];omega
theorem mat_six {xs:List Dt} {d:Nat} {t:Ty} {p:P} {v:V} {l:List Bd} (hr:∀ u∈varsN xs d t p,0≤u.var∧u.var≤5) (hs:shapeB xs d t p=true) (hl:linB xs d t p=true) (h:P.mat p v=some l):(l.map Bd.var).Nodup∧(∀ b∈l,0≤b.var∧b.var≤5)∧l.length≤6:=by
 obtain ⟨h1,h2⟩:=mat_vars xs d t p v l hs hl h
 have h3:∀ b∈l,0≤b.var∧b.var≤5:=fun b hb=>by
  obtain ⟨u,hu,e⟩:=List.mem_map.1 ((h2 b.var).1 (List.mem_map_of_mem hb))
  have:=hr u hu
  omega
 refine ⟨h1,h3,?_⟩
 have:=nodup_len (l.map Bd.var) [0,1,2,3,4,5] h1 (fun x hx=>by
  obtain ⟨b,hb,rfl⟩:=List.mem_map.1 hx
  have:=h3 b hb
  simp
  omega)
 simpa using this
def accI (xs:List Dt) (d:Nat) (t:Ty) (p:P) (i:Nat):List Vt:=accP [] xs d t p (if p.op=5 then min i 1 else i)
theorem accI_zero (xs:List Dt) (d:Nat) (t:Ty) (p:P):accI xs d t p 0=accP [] xs d t p 0:=by unfold accI;split <;> rfl
theorem accI_next {xs:List Dt} {d:Nat} {t:Ty} {p:P} {i:Nat} (hn:¬(p.op=5∧i=1)) (h2:p.op=5→p.ks.length=2) (h1:i<(typesP xs t p).length) (hi:i<p.ks.length):accI xs d t p (i+1)=accI xs d t p i ++ varsN xs d (typesP xs t p)[i] p.ks[i]:=by
 unfold accI
 by_cases h5:p.op=5
 ·have:=h2 h5
  have h0:i=0:=by
   rcases Nat.lt_or_ge i 1 with h | h
   ·omega
   ·exact absurd ⟨h5,by omega⟩ hn
  subst h0
  rw [if_pos h5,if_pos h5]
  exact accP_succ [] d h1 hi
 ·rw [if_neg h5,if_neg h5]
  exact accP_succ [] d h1 hi
theorem accI_or {xs:List Dt} {d:Nat} {t:Ty} {p:P} (h5:p.op=5) {i:Nat} (h:1≤i):accI xs d t p i=accI xs d t p 1:=by
 unfold accI
 rw [if_pos h5,if_pos h5]
 congr 1
 omega
theorem accI_done {xs:List Dt} {d:Nat} {t:Ty} {p:P} (h2:p.op=5→p.ks.length=2):accI xs d t p p.ks.length=varsN xs (d+1) t p:=by
 unfold accI
 rw [accP_done]
 ·rfl
 ·split
  ·rename_i h5
   rw [h2 h5];rfl
  ·rfl
theorem vars_or {xs:List Dt} {d:Nat} {t:Ty} {p:P} {k0 k1:P} (h5:p.op=5) (hk:p.ks=[k0,k1]):varsN xs (d+1) t p=varsN xs d t k0:=by
 have e:varsN xs (d+1) t p=(if namedB p=true then [⟨p.va,t⟩] else []) ++ (kidsV xs t p).flatMap fun x=>varsN xs d x.1 x.2:=rfl
 have kv:kidsV xs t p=[(t,k0)]:=by unfold kidsV;rw [typesP_or h5,hk,h5];rfl
 have nb:namedB p=false:=by unfold namedB;rw [h5];rfl
 rw [e,kv,nb]
 simp
theorem accI_one {xs:List Dt} {d:Nat} {t:Ty} {p:P} {k0 k1:P} (h5:p.op=5) (hk:p.ks=[k0,k1]):accI xs d t p 1=varsN xs d t k0:=by
 rw [←vars_or (xs:=xs) (d:=d) (t:=t) h5 hk,←accI_done (fun _=>by rw [hk];rfl),accI_or h5 (i:=p.ks.length) (by rw [hk];exact Nat.le_succ 1)]
def orOk (xs:List Dt) (d:Nat) (t:Ty) (p:P):Bool:=match p.ks with | [k0,k1]=>sameV (varsN xs d t k0) (varsN xs d t k1) | _=>true
section
variable {xs : List Dt} {d c : Nat} {t : Ty} {p : P}
theorem KidsOk.two (h:KidsOk xs d t p c p.ks.length) (h5:p.op=5):∃ k0 k1,p.ks=[k0,k1]∧dupFree (varsN xs d t k0)=true∧dupFree (varsN xs d t k1)=true:=by
 have hl:=h.len
 have hty:=typesP_or (xs:=xs) (t:=t) h5
 rw [hty] at hl
 obtain ⟨k0,k1,hk⟩:=kids_two (show p.ks.length=2 from hl)
 have a0:=h.all 0 (by rw [hl];exact Nat.zero_lt_two) (by rw [hty];exact Nat.zero_lt_two) (by rw [hl];exact Nat.zero_lt_two)
 have a1:=h.all 1 (by rw [hl];exact Nat.one_lt_two) (by rw [hty];exact Nat.one_lt_two) (by rw [hl];exact Nat.one_lt_two)
 simp only [hty,hk,zz2,zz3] at a0 a1
 exact ⟨k0,k1,hk,lin_dup xs d t k0 a0.1 a0.2,lin_dup xs d t k1 a1.1 a1.2⟩
theorem KidsOk.or_no (h:KidsOk xs d t p c p.ks.length) (h5:p.op=5) (ho:orOk xs d t p=false):scanPB xs (d+1) t p c=false:=by
 obtain ⟨k0,k1,hk,-,d1⟩:=h.two h5
 rw [h.done,if_pos h5,hk]
 unfold orOk at ho
 rw [hk] at ho
 simp only at ho ⊢
 rw [alike_same d1];exact ho
theorem KidsOk.fin (h:KidsOk xs d t p c p.ks.length) (ho:p.op=5→orOk xs d t p=true):scanPB xs (d+1) t p c=dupFree (varsN xs (d+1) t p):=by
 rw [h.done]
 by_cases h5:p.op=5
 ·obtain ⟨k0,k1,hk,d0,d1⟩:=h.two h5
  have ho:=ho h5
  unfold orOk at ho
  rw [hk] at ho
  rw [if_pos h5,vars_or h5 hk,d0,hk]
  simp only at ho ⊢
  rw [alike_same d1];exact ho
 ·rw [if_neg h5]
end
theorem kidSum_sizes (p:P) (i:Nat):kidSum p i=P.sizes (p.ks.take i):=by
 unfold kidSum
 rw [foldl_nodes,P.sizes_eq];omega
theorem accI_len (xs:List Dt) (d:Nat) (t:Ty) (p:P) (i:Nat):(accI xs d t p i).length≤1+kidSum p i:=by
 have key:∀ j,j≤i→(accP [] xs d t p j).length≤1+kidSum p i:=fun j hj=>by
  have h1:=accP_len [] xs d t p j
  have h2:=zBA (p.ks.take i) j
  rw [List.take_take,Nat.min_eq_left hj] at h2
  rw [kidSum_sizes]
  simp only [List.length_nil] at h1
  omega
 unfold accI
 split
 ·exact key _ (Nat.min_le_left _ _)
 ·exact key _ (zz8 _)
theorem same_or {xs:List Dt} {d:Nat} {t:Ty} {p:P} {i:Nat} (h5:p.op=5) (hl:p.ks.length=2) (hi:i<p.ks.length) (hil:i<(typesP xs t p).length) (h1:i=1):sameV (accI xs d t p i) (varsN xs d (typesP xs t p)[i] p.ks[i])=orOk xs d t p:=by
 subst h1
 obtain ⟨k0,k1,hk⟩:=kids_two hl
 have hty:=typesP_or (xs:=xs) (t:=t) h5
 rw [accI_one h5 hk]
 unfold orOk
 simp only [hty,hk,zz3,zz2]
theorem grown_chg' {w w7:World} {v:Value} (hgr:w.grownBy w7 v.ownBlock):Chg (rowOf v) w w7 :=
 ⟨hgr.os,hgr.tape,hgr.output,hgr.size,fun b hb hF=>hgr.block b hb (fun e=>hF (zA1.2 e.symm))⟩
theorem vars_range (xs:List Dt):∀ (d:Nat) (t:Ty) (p:P),shapeB xs d t p=true→∀ v∈varsN xs d t p,0≤v.var∧v.var≤5
 |0,_,_,h,_,_=>by cases h
 |d+1,t,p,h,v,hv=>by
  rw [shapeB_succ] at h
  simp only [Bool.and_eq_true,beq_iff_eq] at h
  obtain ⟨ho,hl,ha⟩:=h
  have e:varsN xs (d+1) t p=(if namedB p=true then [⟨p.va,t⟩] else []) ++ (kidsV xs t p).flatMap fun x=>varsN xs d x.1 x.2:=rfl
  rw [e] at hv
  rcases List.mem_append.1 hv with h | h
  ·split at h
   ·rename_i hn
    rw [zy1] at h
    subst h
    unfold ownB at ho
    rw [if_pos hn] at ho
    simp only [Bool.and_eq_true,decide_eq_true_eq] at ho
    exact ho.1
   ·cases h
  ·obtain ⟨x,hx,hv⟩:=List.mem_flatMap.1 h
   have hx:=List.mem_of_mem_take hx
   obtain ⟨j,hj,rfl⟩:=List.mem_iff_getElem.1 hx
   rw [List.length_zip] at hj
   rw [List.getElem_zip] at hv
   exact vars_range xs d _ _ (allP_at ha (by omega) (by omega)) v hv
/-! the row of marks -/
def metB (l:List Vt) (j:Nat):Bool:=l.any fun v=>v.var==(j:Int)
def metRow (l:List Vt):Array Value:=#[.bool (metB l 0),.bool (metB l 1),.bool (metB l 2),.bool (metB l 3),.bool (metB l 4),.bool (metB l 5)]
theorem metB_snoc (l:List Vt) (v:Vt) (j:Nat):metB (l ++ [v]) j=(metB l j || v.var==(j:Int)):=by unfold metB;rw [List.any_append];simp
theorem metRow_get (l:List Vt) {j:Nat} (h:j<6):(metRow l)[j]?=some (.bool (metB l j)):=by
 rcases j with _ | _ | _ | _ | _ | _ | j
 all_goals first | rfl | omega
theorem metRow_set (l:List Vt) (v:Vt) {j:Nat} (hj:j<6) (hv:v.var=(j:Int)):(metRow l).setIfInBounds j (.bool true)=metRow (l ++ [v]):=by
 unfold metRow
 simp only [metB_snoc,hv]
 rcases j with _ | _ | _ | _ | _ | _ | j
 all_goals first | omega | simp
def metTo (l:List Vt) (i:Nat):Array Value:=metRow (l.take i)
theorem metTo_succ (l:List Vt) {i:Nat} (h:i<l.length) {j:Nat} (hj:j<6) (hv:l[i].var=(j:Int)):(metTo l i).setIfInBounds j (.bool true)=metTo l (i+1):=by
 unfold metTo
 rw [take_snoc' l i h,metRow_set _ _ hj hv]
theorem met_no {l:List Vt} {i j:Nat} (h:i<l.length) (hv:l[i].var=(j:Int)) (hm:metB (l.take i) j=true):dupFree l=false:=by
 unfold metB at hm
 rw [List.any_eq_true] at hm
 obtain ⟨x,hx,he⟩:=hm
 obtain ⟨k,hk,rfl⟩:=List.mem_iff_getElem.1 hx
 rw [List.length_take] at hk
 rw [List.getElem_take,beq_iff_eq] at he
 exact dup_no (i:=k) (j:=i) (by omega) h (by omega) (by rw [he,hv])
theorem met_yes {l:List Vt} {i j:Nat} (h:i<l.length) (hv:l[i].var=(j:Int)) (hm:metB (l.take i) j=false):∀ k (hk:k<l.length),k<i→l[k].var≠l[i].var:=fun k hk hki e=>by
 unfold metB at hm
 rw [List.any_eq_false] at hm
 have:=hm l[k] (List.mem_iff_getElem.2 ⟨k,by rw [List.length_take];omega,by rw [List.getElem_take]⟩)
 rw [e,hv] at this
 simp at this
theorem impl_ownValue_of (v:V) (ih:∀ k∈v.ks,CopyV 70 k):CopyV 70 v:=by
 intro w cs G hv hg hz
 obtain ⟨kv,rfl,ha⟩:=(zA6 _ _ _).1 hv
 obtain ⟨A4,cap4,rfl,hc3,hc4⟩:=ha.form
 obtain ⟨i0,hi,hz0,hz1,hz2⟩:=info_parts info_VE
 have IH:=jj ih
 have HI:=jj hi
 have HZ0:=jj hz0
 have HZ1:=jj hz1
 have HZ2:=jj hz2
 have HA:=jj ha
 have HG:=jj hg
 clear hi hz0 hz1 hz2 ha hg
 have hzk:V.sizes v.ks≤1048576:=by obtain ⟨c,n,ks⟩:=v;exact hz
 have hkl:v.ks.length≤1048576:=by rw [V.sizes_eq] at hzk;omega
 have HZ:=jj hzk
 clear ih hv hz hzk
 have hB0:Below w w (((w.alloc (.cells #[v.c,v.n,.slice A4 v.ks.length cap4] 45)).alloc (.cells #[(0:Int),(0:Int),.slice none 0 0] 45)).alloc (.cells #[v.c,v.n,.slice none 0 0] 45)):=(((zy2 _ _).alloc (zz8 _) _).alloc (by simp) _).alloc (by simp;omega) _
 have K0:Hid (Blk (((w.alloc (.cells #[v.c,v.n,.slice A4 v.ks.length cap4] 45)).alloc (.cells #[(0:Int),(0:Int),.slice none 0 0] 45)).alloc (.cells #[v.c,v.n,.slice none 0 0] 45)) (w.heap.size+2) 45 #[v.c,v.n,.slice none 0 0]):=by
  have h:=Blk.new ((w.alloc (.cells #[v.c,v.n,.slice A4 v.ks.length cap4] 45)).alloc (.cells #[(0:Int),(0:Int),.slice none 0 0] 45)) 45 #[v.c,v.n,.slice none 0 0]
  rw [show ((w.alloc (.cells #[v.c,v.n,.slice A4 v.ks.length cap4] 45)).alloc (.cells #[(0:Int),(0:Int),.slice none 0 0] 45)).heap.size=w.heap.size+2 from by simp] at h
  exact h
 have R0:Hid (Blk (((w.alloc (.cells #[v.c,v.n,.slice A4 v.ks.length cap4] 45)).alloc (.cells #[(0:Int),(0:Int),.slice none 0 0] 45)).alloc (.cells #[v.c,v.n,.slice none 0 0] 45)) (w.heap.size+1) 45 #[(0:Int),(0:Int),.slice none 0 0]):=by
  have h:=Blk.new (w.alloc (.cells #[v.c,v.n,.slice A4 v.ks.length cap4] 45)) 45 #[(0:Int),(0:Int),.slice none 0 0]
  rw [World.size_alloc] at h
  exact h.same (Below.heap_alloc _ _ _ (by simp))
 have V0:Hid (Blk (((w.alloc (.cells #[v.c,v.n,.slice A4 v.ks.length cap4] 45)).alloc (.cells #[(0:Int),(0:Int),.slice none 0 0] 45)).alloc (.cells #[v.c,v.n,.slice none 0 0] 45)) w.heap.size 45 #[v.c,v.n,.slice A4 v.ks.length cap4]):=((Blk.new w _ _).same (Below.heap_alloc _ _ _ (by simp))).same (Below.heap_alloc _ _ _ (by simp;omega))
 have hs0:(((w.alloc (.cells #[v.c,v.n,.slice A4 v.ks.length cap4] 45)).alloc (.cells #[(0:Int),(0:Int),.slice none 0 0] 45)).alloc (.cells #[v.c,v.n,.slice none 0 0] 45)).heap.size=w.heap.size+2+1:=by simp
 go_enter Tryz.func70,Tryz.ntmps70
 go_wp2_with fail
 obtain ⟨w9,hw9⟩:∃ w9,w9=(((w.alloc (.cells #[v.c,v.n,.slice A4 v.ks.length cap4] 45)).alloc (.cells #[(0:Int),(0:Int),.slice none 0 0] 45)).alloc (.cells #[v.c,v.n,.slice none 0 0] 45)):=⟨_,rfl⟩
 rw [←hw9] at hB0 K0 V0 R0 hs0 ⊢
 clear hw9
 have y2:w9.cell? ⟨w,2,none⟩=some (.slice A4 v.ks.length cap4):=(V0.out.cell 2).trans (by simp)
 have vlt:w.heap.size<w9.heap.size:=V0.out.lt
 go_wp2
 clear y2 vlt
 go_loopw [14] (fun iv wr=>∃ i:Nat,∃ kv:Value,∃ Fk:List Nat,i≤v.ks.length∧iv=.int .i64 i∧Hid (Blk wr (w.heap.size+2) 45 #[v.c,v.n,kv])∧Hid (Own wr (w.heap.size+2+1) 45 3 VR (kidTo v.ks i) kv Fk)∧Hid (Free wr Fk)∧Hid (∀ b∈Fk,w.heap.size+2+1≤b)∧Hid (Chg [w.heap.size+2] w9 wr)∧Below w w wr∧w9.heap.size≤wr.heap.size) (fun iv _=>v.ks.length-(intOf iv).toNat)
 case atStart=>exact ⟨0,_,[],Nat.zero_le _,rfl,K0,(show Own _ _ _ _ _ (kidTo v.ks 0) _ _ from Own.nil _ _ _ _ _),Free.nil _,(fun b hb=>by cases hb),Chg.refl _ _,hB0,zz8 _⟩
 case round =>
  clear hB0 K0
  obtain ⟨i,kv,Fk,hi,rfl,KD,HO,HFk,HFh,HC,hB,hws⟩:=hrel
  obtain ⟨kA,kcap,hkv,hkc1,hkc2⟩:=HO.out.form
  subst hkv
  have klt:=KD.out.lt
  by_cases hil:i<v.ks.length
  ·obtain ⟨b4,off4,rfl⟩:=HA.out.ptr (by omega)
   have hb4w:b4<w.heap.size:=by obtain ⟨_,_,_,_,e,hb,-⟩:=HA.out.get VR_len hil;cases e;exact HG.out _ hb
   obtain ⟨A7,cap7,G7,hb7,k0,k1,k2,HV7,HG7,-,-,-⟩:=ArrV.at HA.out HG.out hB i hil
   have g1:(0:Int)≤(i:Int):=by omega
   have g2:(i:Int)<(v.ks.length:Int):=by omega
   have hkk:=kidTo_len v.ks i
   have HKS:Hid (v.ks[i].size≤1048576):=by have h1:=V.sizes_mem2 v.ks i hil;have h2:=HZ.out;unfold Hid;omega
   have hmx:(kidTo v.ks i).length+1≤maxLen:=by unfold maxLen;omega
   have hby:((kidTo v.ks i).length+1)*40≤140737488355328:=by omega
   go_wp2_with fail
   obtain ⟨wk,hwk⟩:∃ wk,wk=wr.alloc (.cells #[v.ks[i].c,v.ks[i].n,.slice A7 v.ks[i].ks.length cap7] 45):=⟨_,rfl⟩
   have hBk:Below wr wr wk:=by rw [hwk];exact (zy2 _ _).alloc (zz8 _) _
   have KK:Blk wk wr 45 #[v.ks[i].c,v.ks[i].n,.slice A7 v.ks[i].ks.length cap7]:=by rw [hwk];exact Blk.new _ _ _
   have hwks:wk.heap.size=wr.heap.size+1:=by rw [hwk];simp
   rw [←hwk]
   clear hwk
   obtain ⟨z0,z1,z2,-⟩:=KK.c3
   have KDk:=KD.out.same (hBk.block _ KD.out.lt)
   have zT:wk.drew.cell? ⟨w.heap.size+2,2,none⟩=some (.slice kA (kidTo v.ks i).length kcap):=(KDk.cell 2).trans (by simp)
   have zfT:wk.drew.frozen? ⟨w.heap.size+2,2,none⟩=false:=KDk.frozen 2
   have kklt:wr.heap.size<wk.drew.heap.size:=KK.lt
   have hkT:w.heap.size+2<wk.drew.heap.size:=KDk.lt
   clear KK KDk k0 k1 k2
   have HBk:=jj hBk.drew
   clear hBk
   have HCALL:=jj (IH.out v.ks[i] (List.getElem_mem hil) wk.drew _ G7 ((HV7.out.below hB HG7.out).below HBk.out (HG7.out.mono hB.size)) (HG7.out.mono (Nat.le_trans hB.size HBk.out.size)) HKS.out)
   refine zA4 (S:=fun w'=>w'.cell? ⟨wr,0,none⟩=v.ks[i].c∧w'.cell? ⟨wr,1,none⟩=v.ks[i].n∧w'.cell? ⟨wr,2,none⟩=some (.slice A7 v.ks[i].ks.length cap7)) (T:=fun w'=>w'.cell? ⟨w.heap.size+2,2,none⟩=some (.slice kA (kidTo v.ks i).length kcap)) (d:=5) (by kernel_rfl) ?_
   have hS1:wk.drew.cell? ⟨wr,0,none⟩=v.ks[i].c∧wk.drew.cell? ⟨wr,1,none⟩=v.ks[i].n∧wk.drew.cell? ⟨wr,2,none⟩=some (.slice A7 v.ks[i].ks.length cap7):=⟨z0,z1,z2⟩
   have hT1:wk.drew.cell? ⟨w.heap.size+2,2,none⟩=some (.slice kA (kidTo v.ks i).length kcap):=zT
   refine wV 0 rfl hS1 hT1 ?_
   (try simp only [Act.put,zz4,zz5,zz6])
   refine zAP (i:=1) (v:=?_) rfl (by decide) rfl (by kernel_rfl) (by kernel_rfl) (by kernel_rfl) (by kernel_rfl) (fun _ _ _ h=>h) (Or.inl ⟨by rfl,?hy1⟩) (by rfl) hS1 hT1 ?_
   case hy1=>(intro W hSw;(try dsimp only at hSw);(obtain ⟨⟨s0,s1,s2⟩,tT⟩:=hSw);go_simp;try with_reducible rfl)
   (try simp only [Act.put,zz4,zz5,zz6])
   refine wV 2 rfl hS1 hT1 ?_
   (try simp only [Act.put,zz4,zz5,zz6])
   refine w1 3 rfl fun K hK=>?_
   go_simp
   go_at_call 70
   with_reducible refine HCALL.out.mono ?_
   rintro e wA ⟨csA,FA,rfl,hbA,hpA,hfrA,hfsA⟩
   obtain ⟨kvA,rfl,haA⟩:=(zA6 _ _ _).1 hpA
   obtain ⟨A8,cap8,rfl,-,-⟩:=haA.form
   clear haA
   have HBu:=jj (HBk.out.trans (hbA.mono HBk.out.size))
   have HPA:=jj hpA
   have HFrA:=jj hfrA
   have HFsA:Hid (∀ b∈FA,wr.heap.size≤b∧b<wA.heap.size):=fun b hb=>⟨Nat.le_trans HBk.out.size (hfsA b hb).1,(hfsA b hb).2⟩
   have HOA:Hid (Own wA (w.heap.size+2+1) 45 3 VR (kidTo v.ks i) (.slice kA (kidTo v.ks i).length kcap) Fk):=HO.out.below (fun x cs G hk h=>VR_mono' _ _ x cs G hk h) HBu.out
   have hbs:w.heap.size+2+1≤wA.heap.size:=by have:=HBu.out.size;omega
   have hSA:wA.cell? ⟨wr,0,none⟩=v.ks[i].c∧wA.cell? ⟨wr,1,none⟩=v.ks[i].n∧wA.cell? ⟨wr,2,none⟩=some (.slice A7 v.ks[i].ks.length cap7):=⟨(hbA.cell (p:=⟨wr,0,none⟩) kklt).trans z0,(hbA.cell (p:=⟨wr,1,none⟩) kklt).trans z1,(hbA.cell (p:=⟨wr,2,none⟩) kklt).trans z2⟩
   have zA:wA.cell? ⟨w.heap.size+2,2,none⟩=some (.slice kA (kidTo v.ks i).length kcap):=(hbA.cell (p:=⟨w.heap.size+2,2,none⟩) hkT).trans zT
   have zfA:wA.frozen? ⟨w.heap.size+2,2,none⟩=false:=(hbA.frozen hkT).trans zfT
   have hkA:w.heap.size+2<wA.heap.size:=zz9 hkT hbA.size
   have kl0:wr.heap.size<wA.heap.size:=zz9 kklt hbA.size
   have kl1:wr.heap.size<wA.heap.size:=zz9 kklt hbA.size
   have kl2:wr.heap.size<wA.heap.size:=zz9 kklt hbA.size
   have hSB:(wA.alloc (.cells [.int .i64 v.ks[i].c,.int .i64 v.ks[i].n,.slice A8 v.ks[i].ks.length cap8].toArray 45)).cell? ⟨wr,0,none⟩=v.ks[i].c∧(wA.alloc (.cells [.int .i64 v.ks[i].c,.int .i64 v.ks[i].n,.slice A8 v.ks[i].ks.length cap8].toArray 45)).cell? ⟨wr,1,none⟩=v.ks[i].n∧(wA.alloc (.cells [.int .i64 v.ks[i].c,.int .i64 v.ks[i].n,.slice A8 v.ks[i].ks.length cap8].toArray 45)).cell? ⟨wr,2,none⟩=some (.slice A7 v.ks[i].ks.length cap7):=⟨(World.cell?_alloc_lt _ _ _ kl0).trans hSA.1,(World.cell?_alloc_lt _ _ _ kl1).trans hSA.2.1,(World.cell?_alloc_lt _ _ _ kl2).trans hSA.2.2⟩
   dsimp only
   refine hK.out _ _ hSA (fun _=>zA) ?_
   clear hK K
   (try simp only [Act.put,zz4,zz5,zz6])
   refine w1 4 rfl fun K hK=>?_
   go_simp
   refine hK.out _ _ hSB (fun _=>(World.cell?_alloc_lt _ _ _ hkA).trans zA) ?_
   clear hK K
   (try simp only [Act.put,zz4,zz5,zz6])
   refine w1 5 rfl fun K hK=>?_
   refine zAB (P:=Tryz.prog) rfl _ _ 43 rfl i0 _ 40 Tryz.underlying43 HI.out HZ0.out HZ1.out HZ2.out rfl (by decide) VR_len' VR_mono' (by rfl) HOA.out v.ks[i] 45 [v.ks[i].c,v.ks[i].n,.slice A8 v.ks[i].ks.length cap8] FA wA.heap.size (by rfl) rfl (by simp [Value.oneCell']) HPA.out (fun b hb=>(HFsA.out b hb).2) (fun g hg hG=>Nat.lt_irrefl _ (zz9 (HO.out.row g hg).2 (HFsA.out g hG).1)) hmx hby hbs ?_
   intro g cp w7 hown7 hgr7 hat7
   have hrow7:=HOA.out.row
   have n7:∀ x,(x<w.heap.size+2+1∨wr.heap.size≤x)→some x≠(Value.ownBlock (.slice kA (kidTo v.ks i).length kcap)):=fun x hx e=>by
    have h1:=(hrow7 x (zA1.2 e.symm)).1
    have h2:=(HO.out.row x (zA1.2 e.symm)).2
    omega
   have l7:wA.heap.size≤(wA.alloc (.cells [.int .i64 v.ks[i].c,.int .i64 v.ks[i].n,.slice A8 v.ks[i].ks.length cap8].toArray 45)).heap.size:=by rw [World.size_alloc];exact Nat.le_succ _
   have s7:w7.cell? ⟨wr,0,none⟩=v.ks[i].c∧w7.cell? ⟨wr,1,none⟩=v.ks[i].n∧w7.cell? ⟨wr,2,none⟩=some (.slice A7 v.ks[i].ks.length cap7):=⟨(World.grownBy.cell_far hgr7 ⟨wr,0,none⟩ (zz9 kl0 l7) (n7 (wr.heap.size) (by omega))).trans hSB.1,(World.grownBy.cell_far hgr7 ⟨wr,1,none⟩ (zz9 kl1 l7) (n7 (wr.heap.size) (by omega))).trans hSB.2.1,(World.grownBy.cell_far hgr7 ⟨wr,2,none⟩ (zz9 kl2 l7) (n7 (wr.heap.size) (by omega))).trans hSB.2.2⟩
   have z71:w7.cell? ⟨w.heap.size+2,2,none⟩=some (.slice kA (kidTo v.ks i).length kcap):=(World.grownBy.cell_far hgr7 ⟨w.heap.size+2,2,none⟩ (zz9 hkA l7) (n7 (w.heap.size+2) (by omega))).trans ((World.cell?_alloc_lt _ _ _ hkA).trans zA)
   have zf71:w7.frozen? ⟨w.heap.size+2,2,none⟩=false:=(World.grownBy.frozen_far hgr7 ⟨w.heap.size+2,2,none⟩ (zz9 hkA l7) (n7 (w.heap.size+2) (by omega))).trans (Eq.trans (World.frozen?_of_block (Below.heap_alloc _ _ _ hkA)) zfA)
   refine hK.out _ _ s7 (fun h=>by cases h) ?_
   clear hK K
   (try simp only [Act.put,zz4,zz5,zz6])
   refine wU (i:=6) (v:=?_) rfl (Or.inl ⟨by rfl,?hy6⟩) s7 (fun h=>by cases h) ?_
   case hy6=>(intro W hSw;(try dsimp only at hSw);(obtain ⟨s0,s1,s2⟩:=hSw);go_simp;try with_reducible rfl)
   (try simp only [Act.put,zz4,zz5,zz6])
   refine w1 7 rfl fun K hK=>?_
   go_simp
   refine hK.out _ _ ⟨(World.cell?_setCell_far _ _ _ _ (by show w.heap.size+2≠wr.heap.size;omega)).trans s7.1,(World.cell?_setCell_far _ _ _ _ (by show w.heap.size+2≠wr.heap.size;omega)).trans s7.2.1,(World.cell?_setCell_far _ _ _ _ (by show w.heap.size+2≠wr.heap.size;omega)).trans s7.2.2⟩ (fun h=>by cases h) ?_
   clear hK K
   (try simp only [Act.put,zz4,zz5,zz6])
   refine wE (by kernel_rfl) ?_
   have HF2:=jj (kidTo_succ v.ks i hil)
   obtain ⟨r1,r2,r3,r4,r5,r6,r7⟩:=kid_round 2 VR_mono' hs0 KD.out HO.out HFk.out HFh.out HC.out hB (by omega) (zz8 _) HBu.out HFrA.out HFsA.out hown7 hgr7
   have R1:=jj r1
   have R2:=jj r2
   have R3:=jj r3
   have R4:=jj r4
   have R5:=jj r5
   have R6:=jj r6
   clear r1 r2 r3 r4 r5 r6 hown7 hgr7 hat7 hrow7 n7 l7 s7 z71 zf71 hSA zA zfA hkA hSB hS1 hT1 zT zfT hkT HCALL
   go_wp2
   go_roundw
   case rel=>exact ⟨i+1,_,_,hil,by go_num,R1,by rw [HF2.out];exact R2.out,R3,R4,R5,R6.out,r7⟩
   case measure=>(simp [intOf] <;> omega)
  ·have HO2:=HO.out
   rw [kidTo_all v.ks (by omega)] at HO2
   have hln:=congrArg List.length (kidTo_all v.ks (i:=i) (by omega))
   obtain ⟨FF,hf1,hf2,hf3⟩:=kid_done (H:=w.heap.size+2+1) HO2 HFk.out HFh.out (zz8 _)
   have HF1:=jj hf1
   have HF2:=jj hf2
   have HF3:=jj hf3
   have e0:=(KD.out.cell 0).trans (show _=some (.int .i64 v.c) from by simp)
   have e1:=(KD.out.cell 1).trans (show _=some (.int .i64 v.n) from by simp)
   have e2:=(KD.out.cell 2).trans (show _=some (.slice kA (kidTo v.ks i).length kcap) from by simp)
   have HLN:=jj hln
   have RR:=jj (R0.out.same (HC.out.block _ R0.out.lt (by simp)))
   have rlt:=RR.out.lt
   have rc0:=(RR.out.cell 0).trans (show _=some (.int .i64 0) from by simp)
   have rf0:=RR.out.frozen 0
   have rc1:=(RR.out.cell 1).trans (show _=some (.int .i64 0) from by simp)
   have rf1:=RR.out.frozen 1
   have rc2:=(RR.out.cell 2).trans (show _=some (.slice none 0 0) from by simp)
   have rf2:=RR.out.frozen 2
   clear hf1 hf2 hf3 HO2 hln
   go_wp2
   clear e0 e1 e2 rc0 rf0 rc1 rf1 rc2 rf2
   refine bodyPost_ret (zA2 rfl _ _ (w.heap.size+1) 45 #[v.c,v.n,.slice kA (kidTo v.ks i).length kcap] (0,0) _ rfl (RR.out.three _ _ _) Tryz.underlying45 rfl rfl) rfl ?_
   have hkp:Kept FF wr _:=zBE (w:=wr) (H:=w.heap.size+1) (fun b hb=>by have:=(HF3.out b hb).1;omega) (.int .i64 v.c) (.int .i64 v.n) (.slice kA (kidTo v.ks i).length kcap)
   refine ⟨[v.c,v.n,.slice kA (kidTo v.ks i).length kcap],FF,rfl,below_three hB (by omega) _ _ _,?_,HF2.out.kept hkp,fun b hb=>⟨by have:=(HF3.out b hb).1;omega,?_⟩⟩
   ·exact (zA6 _ _ _).2 ⟨_,rfl,ArrV.mono (by rw [HLN.out];exact HF1.out) hkp⟩
   ·rw [zBG];exact (HF3.out b hb).2
theorem impl_ownValue:∀ v,CopyV 70 v:=V.indv impl_ownValue_of
end Go.Proofs.YtjjclcmmfeegfaaGreatDoor
