/-
  Lemmas, and contracts of functions. Conditions: none.
-/
import Derived.Test.YtghekinfoadcoaaGreatJAB
import Derived.Test.YtghekinfoadcoaaGreatJAC
import Derived.Deep.RegionWith
import Derived.Test.YtghekinfoadcoaaGreatJAA
import Derived.Test.YtghekinfoadcoaaGreatJAJ
import Derived.Deep.RegionHeld3
import Derived.Deep.QuietTactic
import Derived.BigQuiet
import Derived.IntWalk
import Derived.Test.YtghekinfoadcoaaGreatJAK
import Derived.Test.YtghekinfoadcoaaGreatJAH
import Derived.Test.YtghekinfoadcoaaGreatJAE
import Derived.Maps.AppendAt

set_option linter.unusedVariables false
set_option linter.unusedSimpArgs false
set_option maxRecDepth 100000
set_option maxHeartbeats 1600000

namespace Go.Proofs.YtghekinfoadcoaaGreat
open Go.RowKit
def kidTo (ks:List V) (i:Nat):List V:=ks.take i
theorem kidTo_len (ks:List V) (i:Nat):(kidTo ks i).length≤i:=by unfold kidTo;rw [List.length_take];omega
theorem kidTo_succ (ks:List V) (i:Nat) (h:i<ks.length):kidTo ks (i+1)=kidTo ks i ++ [ks[i]]:=take_snoc' ks i h
theorem kidTo_all (ks:List V) {i:Nat} (h:ks.length≤i):kidTo ks i=ks:=List.take_of_length_le h
theorem V.sizes_mem2 (l:List V) (k:Nat) (h:k<l.length):l[k].size≤V.sizes l:=by
 have:=V.size_lt l k h
 omega
def CopyV (fn:FuncId) (v:V):Prop:=∀ (w:World) (cs:List Value) (G:List Nat),VR w v cs G→Under w G→v.size≤1048576 →
 Calls Tryz.prog fn #[.agg cs.toArray] w (MadeVt v w)
theorem spec_l2Copy_of (v:V) (ih:∀ k∈v.ks,CopyV 73 k):CopyV 73 v:=by
 intro w cs G hv hg hz
 obtain ⟨kv,rfl,ha⟩:=(zAF _ _ _).1 hv
 obtain ⟨A4,cap4,rfl,hc3,hc4⟩:=ha.form
 obtain ⟨i0,hi,hz0,hz1,hz2⟩:=info_parts info_VE
 have IH:=jj ih
 have HI:=jj hi
 have HZ0:=jj hz0
 have HZ1:=jj hz1
 have HZ2:=jj hz2
 have HA:=jj ha
 have HG:=jj hg
 clear hi hz0 hz1 hz2 ha hg
 have hzk:V.sizes v.ks≤1048576:=by obtain ⟨c,n,ks⟩:=v;exact hz
 have hkl:v.ks.length≤1048576:=by rw [V.sizes_eq] at hzk;omega
 have HZ:=jj hzk
 clear ih hv hz hzk
 have hB0:Below w w (((w.alloc (.cells #[v.c,v.n,.slice A4 v.ks.length cap4] 47)).alloc (.cells #[(0:Int),(0:Int),.slice none 0 0] 47)).alloc (.cells #[v.c,v.n,.slice none 0 0] 47)):=(((zy2 _ _).alloc (zz8 _) _).alloc (by simp) _).alloc (by simp;omega) _
 have K0:Hid (Blk (((w.alloc (.cells #[v.c,v.n,.slice A4 v.ks.length cap4] 47)).alloc (.cells #[(0:Int),(0:Int),.slice none 0 0] 47)).alloc (.cells #[v.c,v.n,.slice none 0 0] 47)) (w.heap.size+2) 47 #[v.c,v.n,.slice none 0 0]):=by
  have h:=Blk.new ((w.alloc (.cells #[v.c,v.n,.slice A4 v.ks.length cap4] 47)).alloc (.cells #[(0:Int),(0:Int),.slice none 0 0] 47)) 47 #[v.c,v.n,.slice none 0 0]
  rw [show ((w.alloc (.cells #[v.c,v.n,.slice A4 v.ks.length cap4] 47)).alloc (.cells #[(0:Int),(0:Int),.slice none 0 0] 47)).heap.size=w.heap.size+2 from by simp] at h
  exact h
 have R0:Hid (Blk (((w.alloc (.cells #[v.c,v.n,.slice A4 v.ks.length cap4] 47)).alloc (.cells #[(0:Int),(0:Int),.slice none 0 0] 47)).alloc (.cells #[v.c,v.n,.slice none 0 0] 47)) (w.heap.size+1) 47 #[(0:Int),(0:Int),.slice none 0 0]):=by
  have h:=Blk.new (w.alloc (.cells #[v.c,v.n,.slice A4 v.ks.length cap4] 47)) 47 #[(0:Int),(0:Int),.slice none 0 0]
  rw [World.size_alloc] at h
  exact h.same (Below.heap_alloc _ _ _ (by simp))
 have V0:Hid (Blk (((w.alloc (.cells #[v.c,v.n,.slice A4 v.ks.length cap4] 47)).alloc (.cells #[(0:Int),(0:Int),.slice none 0 0] 47)).alloc (.cells #[v.c,v.n,.slice none 0 0] 47)) w.heap.size 47 #[v.c,v.n,.slice A4 v.ks.length cap4]):=((Blk.new w _ _).same (Below.heap_alloc _ _ _ (by simp))).same (Below.heap_alloc _ _ _ (by simp;omega))
 have hs0:(((w.alloc (.cells #[v.c,v.n,.slice A4 v.ks.length cap4] 47)).alloc (.cells #[(0:Int),(0:Int),.slice none 0 0] 47)).alloc (.cells #[v.c,v.n,.slice none 0 0] 47)).heap.size=w.heap.size+2+1:=by simp
 go_enter Tryz.func73,Tryz.ntmps73
 go_wp2_with fail
 obtain ⟨w9,hw9⟩:∃ w9,w9=(((w.alloc (.cells #[v.c,v.n,.slice A4 v.ks.length cap4] 47)).alloc (.cells #[(0:Int),(0:Int),.slice none 0 0] 47)).alloc (.cells #[v.c,v.n,.slice none 0 0] 47)):=⟨_,rfl⟩
 rw [←hw9] at hB0 K0 V0 R0 hs0 ⊢
 clear hw9
 have y2:w9.cell? ⟨w,2,none⟩=some (.slice A4 v.ks.length cap4):=(V0.out.cell 2).trans (by simp)
 have vlt:w.heap.size<w9.heap.size:=V0.out.lt
 go_wp2
 clear y2 vlt
 go_loopw [4] (fun iv wr=>∃ i:Nat,∃ kv:Value,∃ Fk:List Nat,i≤v.ks.length∧iv=.int .i64 i∧Hid (Blk wr (w.heap.size+2) 47 #[v.c,v.n,kv])∧Hid (Own wr (w.heap.size+2+1) 47 3 VR (kidTo v.ks i) kv Fk)∧Hid (Free wr Fk)∧Hid (∀ b∈Fk,w.heap.size+2+1≤b)∧Hid (Chg [w.heap.size+2] w9 wr)∧Below w w wr∧w9.heap.size≤wr.heap.size) (fun iv _=>v.ks.length-(intOf iv).toNat)
 case atStart=>exact ⟨0,_,[],Nat.zero_le _,rfl,K0,(show Own _ _ _ _ _ (kidTo v.ks 0) _ _ from Own.nil _ _ _ _ _),Free.nil _,(fun b hb=>by cases hb),Chg.refl _ _,hB0,zz8 _⟩
 case round =>
  clear hB0 K0
  obtain ⟨i,kv,Fk,hi,rfl,KD,HO,HFk,HFh,HC,hB,hws⟩:=hrel
  obtain ⟨kA,kcap,hkv,hkc1,hkc2⟩:=HO.out.form
  subst hkv
  have klt:=KD.out.lt
  have V9:=jj (V0.out.same (HC.out.block _ V0.out.lt (by simp)))
  have y2:wr.cell? ⟨w,2,none⟩=some (.slice A4 v.ks.length cap4):=(V9.out.cell 2).trans (by simp)
  have vlt:w.heap.size<wr.drew.heap.size:=V9.out.lt
  by_cases hil:i<v.ks.length
  ·obtain ⟨b4,off4,rfl⟩:=HA.out.ptr (by omega)
   have hb4w:b4<w.heap.size:=by obtain ⟨_,_,_,_,e,hb,-⟩:=HA.out.get VR_len hil;cases e;exact HG.out _ hb
   obtain ⟨A7,cap7,G7,hb7,k0,k1,k2,HV7,HG7,-,-,-⟩:=ArrV.at HA.out HG.out hB i hil
   have g1:(0:Int)≤(i:Int):=by omega
   have g2:(i:Int)<(v.ks.length:Int):=by omega
   have hkk:=kidTo_len v.ks i
   have HKS:Hid (v.ks[i].size≤1048576):=by have h1:=V.sizes_mem2 v.ks i hil;have h2:=HZ.out;unfold Hid;omega
   have hmx:(kidTo v.ks i).length+1≤maxLen:=by unfold maxLen;omega
   have hby:((kidTo v.ks i).length+1)*40≤140737488355328:=by omega
   have zT:wr.drew.cell? ⟨w.heap.size+2,2,none⟩=some (.slice kA (kidTo v.ks i).length kcap):=(KD.out.cell 2).trans (by simp)
   have zfT:wr.drew.frozen? ⟨w.heap.size+2,2,none⟩=false:=KD.out.frozen 2
   have hkT:w.heap.size+2<wr.drew.heap.size:=klt
   have hb7':b4<wr.drew.heap.size:=hb7
   have HBk:Hid (Below wr wr wr.drew):=(zy2 _ _).drew
   have HCALL:=jj (IH.out v.ks[i] (List.getElem_mem hil) wr.drew _ G7 (HV7.out.below hB.drew HG7.out) (HG7.out.mono hB.drew.size) HKS.out)
   go_wp2_with fail
   refine zA5 (S:=fun w'=>w'.cell? ⟨w,2,none⟩=some (.slice (some ⟨b4,off4,none⟩) v.ks.length cap4)∧w'.cell? ⟨b4,off4+i*3,none⟩=v.ks[i].c∧w'.cell? ⟨b4,off4+i*3+1,none⟩=v.ks[i].n∧w'.cell? ⟨b4,off4+i*3+2,none⟩=some (.slice A7 v.ks[i].ks.length cap7)) (T:=fun w'=>w'.cell? ⟨w.heap.size+2,2,none⟩=some (.slice kA (kidTo v.ks i).length kcap)) (d:=9) (by kernel_rfl) ?_
   have hS1:wr.drew.cell? ⟨w,2,none⟩=some (.slice (some ⟨b4,off4,none⟩) v.ks.length cap4)∧wr.drew.cell? ⟨b4,off4+i*3,none⟩=v.ks[i].c∧wr.drew.cell? ⟨b4,off4+i*3+1,none⟩=v.ks[i].n∧wr.drew.cell? ⟨b4,off4+i*3+2,none⟩=some (.slice A7 v.ks[i].ks.length cap7):=⟨y2,k0,k1,k2⟩
   have hT1:wr.drew.cell? ⟨w.heap.size+2,2,none⟩=some (.slice kA (kidTo v.ks i).length kcap):=zT
   refine wV 0 rfl hS1 hT1 ?_
   (try simp only [Act.put,zz4,zz5,zz6])
   refine zAP (i:=1) (v:=?_) rfl (by decide) rfl (by kernel_rfl) (by kernel_rfl) (by kernel_rfl) (by kernel_rfl) (fun _ _ _ h=>h) (Or.inl ⟨by rfl,?hy1⟩) (by rfl) hS1 hT1 ?_
   case hy1=>(intro W hSw;(try dsimp only at hSw);(obtain ⟨⟨s0,s1,s2,s3⟩,tT⟩:=hSw);go_simp;try with_reducible rfl)
   (try simp only [Act.put,zz4,zz5,zz6])
   refine wV 2 rfl hS1 hT1 ?_
   (try simp only [Act.put,zz4,zz5,zz6])
   refine wV 3 rfl hS1 hT1 ?_
   (try simp only [Act.put,zz4,zz5,zz6])
   refine wV 4 rfl hS1 hT1 ?_
   (try simp only [Act.put,zz4,zz5,zz6])
   refine wV 5 rfl hS1 hT1 ?_
   (try simp only [Act.put,zz4,zz5,zz6])
   refine wV 6 rfl hS1 hT1 ?_
   (try simp only [Act.put,zz4,zz5,zz6])
   refine w1 7 rfl fun K hK=>?_
   go_simp
   go_at_call 73
   with_reducible refine HCALL.out.mono ?_
   rintro e wA ⟨csA,FA,rfl,hbA,hpA,hfrA,hfsA⟩
   obtain ⟨kvA,rfl,haA⟩:=(zAF _ _ _).1 hpA
   obtain ⟨A8,cap8,rfl,-,-⟩:=haA.form
   clear haA
   have HBu:=jj (HBk.out.trans (hbA.mono HBk.out.size))
   have HPA:=jj hpA
   have HFrA:=jj hfrA
   have HFsA:Hid (∀ b∈FA,wr.heap.size≤b∧b<wA.heap.size):=fun b hb=>⟨Nat.le_trans HBk.out.size (hfsA b hb).1,(hfsA b hb).2⟩
   have HOA:Hid (Own wA (w.heap.size+2+1) 47 3 VR (kidTo v.ks i) (.slice kA (kidTo v.ks i).length kcap) Fk):=HO.out.below (fun x cs G hk h=>VR_mono' _ _ x cs G hk h) HBu.out
   have hbs:w.heap.size+2+1≤wA.heap.size:=by have:=HBu.out.size;omega
   have hSA:wA.cell? ⟨w,2,none⟩=some (.slice (some ⟨b4,off4,none⟩) v.ks.length cap4)∧wA.cell? ⟨b4,off4+i*3,none⟩=v.ks[i].c∧wA.cell? ⟨b4,off4+i*3+1,none⟩=v.ks[i].n∧wA.cell? ⟨b4,off4+i*3+2,none⟩=some (.slice A7 v.ks[i].ks.length cap7):=⟨(hbA.cell (p:=⟨w,2,none⟩) vlt).trans y2,(hbA.cell (p:=⟨b4,off4+i*3,none⟩) hb7').trans k0,(hbA.cell (p:=⟨b4,off4+i*3+1,none⟩) hb7').trans k1,(hbA.cell (p:=⟨b4,off4+i*3+2,none⟩) hb7').trans k2⟩
   have zA:wA.cell? ⟨w.heap.size+2,2,none⟩=some (.slice kA (kidTo v.ks i).length kcap):=(hbA.cell (p:=⟨w.heap.size+2,2,none⟩) hkT).trans zT
   have zfA:wA.frozen? ⟨w.heap.size+2,2,none⟩=false:=(hbA.frozen hkT).trans zfT
   have hkA:w.heap.size+2<wA.heap.size:=zz9 hkT hbA.size
   have kl0:w.heap.size<wA.heap.size:=zz9 vlt hbA.size
   have kl1:b4<wA.heap.size:=zz9 hb7' hbA.size
   have kl2:b4<wA.heap.size:=zz9 hb7' hbA.size
   have kl3:b4<wA.heap.size:=zz9 hb7' hbA.size
   have hSB:(wA.alloc (.cells [.int .i64 v.ks[i].c,.int .i64 v.ks[i].n,.slice A8 v.ks[i].ks.length cap8].toArray 47)).cell? ⟨w,2,none⟩=some (.slice (some ⟨b4,off4,none⟩) v.ks.length cap4)∧(wA.alloc (.cells [.int .i64 v.ks[i].c,.int .i64 v.ks[i].n,.slice A8 v.ks[i].ks.length cap8].toArray 47)).cell? ⟨b4,off4+i*3,none⟩=v.ks[i].c∧(wA.alloc (.cells [.int .i64 v.ks[i].c,.int .i64 v.ks[i].n,.slice A8 v.ks[i].ks.length cap8].toArray 47)).cell? ⟨b4,off4+i*3+1,none⟩=v.ks[i].n∧(wA.alloc (.cells [.int .i64 v.ks[i].c,.int .i64 v.ks[i].n,.slice A8 v.ks[i].ks.length cap8].toArray 47)).cell? ⟨b4,off4+i*3+2,none⟩=some (.slice A7 v.ks[i].ks.length cap7):=⟨(World.cell?_alloc_lt _ _ _ kl0).trans hSA.1,(World.cell?_alloc_lt _ _ _ kl1).trans hSA.2.1,(World.cell?_alloc_lt _ _ _ kl2).trans hSA.2.2.1,(World.cell?_alloc_lt _ _ _ kl3).trans hSA.2.2.2⟩
   dsimp only
   refine hK.out _ _ hSA (fun _=>zA) ?_
   clear hK K
   (try simp only [Act.put,zz4,zz5,zz6])
   refine w1 8 rfl fun K hK=>?_
   go_simp
   refine hK.out _ _ hSB (fun _=>(World.cell?_alloc_lt _ _ _ hkA).trans zA) ?_
   clear hK K
   (try simp only [Act.put,zz4,zz5,zz6])
   refine w1 9 rfl fun K hK=>?_
   refine zB7 (P:=Tryz.prog) rfl _ _ 45 rfl i0 _ 40 Tryz.underlying45 HI.out HZ0.out HZ1.out HZ2.out rfl (by decide) VR_len' VR_mono' (by rfl) HOA.out v.ks[i] 47 [v.ks[i].c,v.ks[i].n,.slice A8 v.ks[i].ks.length cap8] FA wA.heap.size (by rfl) rfl (by simp [Value.oneCell']) HPA.out (fun b hb=>(HFsA.out b hb).2) (fun g hg hG=>Nat.lt_irrefl _ (zz9 (HO.out.row g hg).2 (HFsA.out g hG).1)) hmx hby hbs ?_
   intro g cp w7 hown7 hgr7 hat7
   have hrow7:=HOA.out.row
   have n7:∀ x,(x<w.heap.size+2+1∨wr.heap.size≤x)→some x≠(Value.ownBlock (.slice kA (kidTo v.ks i).length kcap)):=fun x hx e=>by
    have h1:=(hrow7 x (zA1.2 e.symm)).1
    have h2:=(HO.out.row x (zA1.2 e.symm)).2
    omega
   have l7:wA.heap.size≤(wA.alloc (.cells [.int .i64 v.ks[i].c,.int .i64 v.ks[i].n,.slice A8 v.ks[i].ks.length cap8].toArray 47)).heap.size:=by rw [World.size_alloc];exact Nat.le_succ _
   have s7:w7.cell? ⟨w,2,none⟩=some (.slice (some ⟨b4,off4,none⟩) v.ks.length cap4)∧w7.cell? ⟨b4,off4+i*3,none⟩=v.ks[i].c∧w7.cell? ⟨b4,off4+i*3+1,none⟩=v.ks[i].n∧w7.cell? ⟨b4,off4+i*3+2,none⟩=some (.slice A7 v.ks[i].ks.length cap7):=⟨(World.grownBy.cell_far hgr7 ⟨w,2,none⟩ (zz9 kl0 l7) (n7 (w.heap.size) (by omega))).trans hSB.1,(World.grownBy.cell_far hgr7 ⟨b4,off4+i*3,none⟩ (zz9 kl1 l7) (n7 (b4) (by omega))).trans hSB.2.1,(World.grownBy.cell_far hgr7 ⟨b4,off4+i*3+1,none⟩ (zz9 kl2 l7) (n7 (b4) (by omega))).trans hSB.2.2.1,(World.grownBy.cell_far hgr7 ⟨b4,off4+i*3+2,none⟩ (zz9 kl3 l7) (n7 (b4) (by omega))).trans hSB.2.2.2⟩
   have z71:w7.cell? ⟨w.heap.size+2,2,none⟩=some (.slice kA (kidTo v.ks i).length kcap):=(World.grownBy.cell_far hgr7 ⟨w.heap.size+2,2,none⟩ (zz9 hkA l7) (n7 (w.heap.size+2) (by omega))).trans ((World.cell?_alloc_lt _ _ _ hkA).trans zA)
   have zf71:w7.frozen? ⟨w.heap.size+2,2,none⟩=false:=(World.grownBy.frozen_far hgr7 ⟨w.heap.size+2,2,none⟩ (zz9 hkA l7) (n7 (w.heap.size+2) (by omega))).trans (Eq.trans (World.frozen?_of_block (Below.heap_alloc _ _ _ hkA)) zfA)
   refine hK.out _ _ s7 (fun h=>by cases h) ?_
   clear hK K
   (try simp only [Act.put,zz4,zz5,zz6])
   refine wU (i:=10) (v:=?_) rfl (Or.inl ⟨by rfl,?hy10⟩) s7 (fun h=>by cases h) ?_
   case hy10=>(intro W hSw;(try dsimp only at hSw);(obtain ⟨s0,s1,s2,s3⟩:=hSw);go_simp;try with_reducible rfl)
   (try simp only [Act.put,zz4,zz5,zz6])
   refine w1 11 rfl fun K hK=>?_
   go_simp
   refine hK.out _ _ ⟨(World.cell?_setCell_far _ _ _ _ (by show w.heap.size+2≠w.heap.size;omega)).trans s7.1,(World.cell?_setCell_far _ _ _ _ (by show w.heap.size+2≠b4;omega)).trans s7.2.1,(World.cell?_setCell_far _ _ _ _ (by show w.heap.size+2≠b4;omega)).trans s7.2.2.1,(World.cell?_setCell_far _ _ _ _ (by show w.heap.size+2≠b4;omega)).trans s7.2.2.2⟩ (fun h=>by cases h) ?_
   clear hK K
   (try simp only [Act.put,zz4,zz5,zz6])
   refine wE (by kernel_rfl) ?_
   have HF2:=jj (kidTo_succ v.ks i hil)
   obtain ⟨r1,r2,r3,r4,r5,r6,r7⟩:=kid_round 2 VR_mono' hs0 KD.out HO.out HFk.out HFh.out HC.out hB (by omega) (zz8 _) HBu.out HFrA.out HFsA.out hown7 hgr7
   have R1:=jj r1
   have R2:=jj r2
   have R3:=jj r3
   have R4:=jj r4
   have R5:=jj r5
   have R6:=jj r6
   clear r1 r2 r3 r4 r5 r6 hown7 hgr7 hat7 hrow7 n7 l7 s7 z71 zf71 hSA zA zfA hkA hSB hS1 hT1 zT zfT hkT HCALL
   go_wp2
   go_roundw
   case rel=>exact ⟨i+1,_,_,hil,by go_num,R1,by rw [HF2.out];exact R2.out,R3,R4,R5,R6.out,r7⟩
   case measure=>(simp [intOf] <;> omega)
  ·have HO2:=HO.out
   rw [kidTo_all v.ks (by omega)] at HO2
   have hln:=congrArg List.length (kidTo_all v.ks (i:=i) (by omega))
   obtain ⟨FF,hf1,hf2,hf3⟩:=kid_done (H:=w.heap.size+2+1) HO2 HFk.out HFh.out (zz8 _)
   have HF1:=jj hf1
   have HF2:=jj hf2
   have HF3:=jj hf3
   have e0:=(KD.out.cell 0).trans (show _=some (.int .i64 v.c) from by simp)
   have e1:=(KD.out.cell 1).trans (show _=some (.int .i64 v.n) from by simp)
   have e2:=(KD.out.cell 2).trans (show _=some (.slice kA (kidTo v.ks i).length kcap) from by simp)
   have HLN:=jj hln
   have RR:=jj (R0.out.same (HC.out.block _ R0.out.lt (by simp)))
   have rlt:=RR.out.lt
   have rc0:=(RR.out.cell 0).trans (show _=some (.int .i64 0) from by simp)
   have rf0:=RR.out.frozen 0
   have rc1:=(RR.out.cell 1).trans (show _=some (.int .i64 0) from by simp)
   have rf1:=RR.out.frozen 1
   have rc2:=(RR.out.cell 2).trans (show _=some (.slice none 0 0) from by simp)
   have rf2:=RR.out.frozen 2
   clear hf1 hf2 hf3 HO2 hln
   go_wp2
   clear e0 e1 e2 rc0 rf0 rc1 rf1 rc2 rf2
   refine bodyPost_ret (zA2 rfl _ _ (w.heap.size+1) 47 #[v.c,v.n,.slice kA (kidTo v.ks i).length kcap] (0,0) _ rfl (RR.out.three _ _ _) Tryz.underlying47 rfl rfl) rfl ?_
   have hkp:Kept FF wr _:=zBE (w:=wr) (H:=w.heap.size+1) (fun b hb=>by have:=(HF3.out b hb).1;omega) (.int .i64 v.c) (.int .i64 v.n) (.slice kA (kidTo v.ks i).length kcap)
   refine ⟨[v.c,v.n,.slice kA (kidTo v.ks i).length kcap],FF,rfl,below_three hB (by omega) _ _ _,?_,HF2.out.kept hkp,fun b hb=>⟨by have:=(HF3.out b hb).1;omega,?_⟩⟩
   ·exact (zAF _ _ _).2 ⟨_,rfl,ArrV.mono (by rw [HLN.out];exact HF1.out) hkp⟩
   ·rw [zBG];exact (HF3.out b hb).2
theorem spec_l2Copy:∀ v,CopyV 73 v:=V.indv spec_l2Copy_of
theorem push_free {w w1 w2:World} {v:Value} {F G:List Nat} {o:Obj} (hF:Free w F) (hFu:Under w F) (hb:Below w w w1) (hG:Free w1 G) (hGf:∀ b∈G,w.heap.size≤b∧b<w1.heap.size)
  (hg:(w1.alloc o).grownBy w2 v.ownBlock) (hv:∀ g∈rowOf v,g∉F) (hvl:∀ g∈rowOf v,g<w.heap.size):Free w2 (F ++ G):=by
 have h1:Under (w1.alloc o).heap.size (F ++ G):=fun b hb'=>by
  rw [World.size_alloc]
  rcases List.mem_append.1 hb' with h | h
  ·have:=hFu b h;have:=hb.size;omega
  ·have:=(hGf b h).2;omega
 have hkF:Kept F w (w1.alloc o):=fun b h=>(Below.heap_alloc _ _ _ (zz9 (hFu b h) hb.size)).trans (hb.block b (hFu b h))
 have hkG:Kept G w1 (w1.alloc o):=fun b h=>Below.heap_alloc _ _ _ (hGf b h).2
 have h2:Free (w1.alloc o) (F ++ G):=by
  refine ⟨List.nodup_append.2 ⟨hF.1,hG.1,fun a ha c hc hac=>?_⟩,fun b hb' i=>?_⟩
  ·subst hac
   exact Nat.lt_irrefl _ (zz9 (hFu _ ha) (hGf _ hc).1)
  ·rcases List.mem_append.1 hb' with h | h
   ·exact (hF.kept hkF).2 b h i
   ·exact (hG.kept hkG).2 b h i
 exact h2.kept (grown_kept hg h1 fun g hg hgF=>by
  rcases List.mem_append.1 hgF with h | h
  ·exact hv g hg h
  ·exact Nat.lt_irrefl _ (zz9 (hvl g hg) (hGf g h).1))
def sortB (bs:List Bd):List Bd:=(List.range 6).flatMap fun (n:Nat)=>bs.filter fun b=>b.var==(n:Int)
def sortTo (bs:List Bd) (n i:Nat):List Bd:=((List.range n).flatMap fun (n:Nat)=>bs.filter fun b=>b.var==(n:Int)) ++ (bs.take i).filter fun b=>b.var==(n:Int)
theorem sortTo_next (bs:List Bd) {n i:Nat} (h:bs.length≤i):sortTo bs n i=sortTo bs (n+1) 0:=by
 unfold sortTo
 rw [List.take_of_length_le h,List.take_zero,List.range_succ,List.flatMap_append]
 simp
theorem sortTo_end (bs:List Bd):sortTo bs 6 0=sortB bs:=by
 unfold sortTo sortB
 simp
theorem sortTo_hit {bs:List Bd} {n i:Nat} (h:i<bs.length) (e:(bs[i].var==(n:Int))=true):sortTo bs n (i+1)=sortTo bs n i ++ [bs[i]]:=by
 unfold sortTo
 rw [List.take_succ_eq_append_getElem h,List.filter_append,List.append_assoc]
 congr 2
 rw [List.filter_cons,if_pos e]
 rfl
theorem sortTo_miss {bs:List Bd} {n i:Nat} (h:i<bs.length) (e:(bs[i].var==(n:Int))=false):sortTo bs n (i+1)=sortTo bs n i:=by
 unfold sortTo
 rw [List.take_succ_eq_append_getElem h,List.filter_append]
 congr 1
 rw [List.filter_cons,if_neg (by simp [e])]
 simp
theorem sortTo_len (bs:List Bd) (n i:Nat):(sortTo bs n i).length≤(n+1)*bs.length:=by
 unfold sortTo
 have h1:∀ n,((List.range n).flatMap fun (n:Nat)=>bs.filter fun b=>b.var==(n:Int)).length≤n*bs.length:=by
  intro n
  induction n with
  |zero=>simp
  |succ n ih =>
   rw [List.range_succ,List.flatMap_append,List.length_append,Nat.succ_mul]
   have:([n].flatMap fun (n:Nat)=>bs.filter fun b=>b.var==(n:Int)).length≤bs.length:=by
    simp only [List.flatMap_cons,List.flatMap_nil,List.append_nil]
    exact List.length_filter_le _ _
   omega
 have h2:((bs.take i).filter fun b=>b.var==(n:Int)).length≤bs.length:=Nat.le_trans (List.length_filter_le _ _) (by rw [List.length_take];omega)
 rw [List.length_append,Nat.succ_mul]
 have:=h1 n
 omega
theorem ArrBd.at {w0 w:World} {b off n cap:Nat} {F:List Nat} {xs:List Bd} (h:Arr w0 (BdR w0) xs (.slice (some ⟨b,off,none⟩) n cap) F) (hF:Under w0 F) (hB:Below w0 w0 w) (i:Nat) (hi:i<xs.length) :
  ∃ A1 cap1 G,b<w.heap.size∧w.cell? ⟨b,off+i*4,none⟩=xs[i].var∧w.cell? ⟨b,off+i*4+1,none⟩=xs[i].val.c∧w.cell? ⟨b,off+i*4+2,none⟩=xs[i].val.n∧w.cell? ⟨b,off+i*4+3,none⟩=some (.slice A1 xs[i].val.ks.length cap1) ∧
   Hid (VR w0 xs[i].val [xs[i].val.c,xs[i].val.n,.slice A1 xs[i].val.ks.length cap1] G)∧Hid (Under w0 G):=by
 obtain ⟨b',off',cs,G,e,hb,hcs,hv,hG⟩:=h.get (fun x cs G h=>BdR_len x cs G h) hi
 cases e
 have hbl:=hF _ hb
 have hc:=hcs.same (hB.block _ hbl)
 obtain ⟨ds,rfl,hv⟩:=hv
 obtain ⟨kv,rfl,ha⟩:=(zAF _ _ _).1 hv
 obtain ⟨A1,cap1,rfl,h1,h2⟩:=ha.form
 exact ⟨A1,cap1,G,zz9 hbl hB.size,hc 0 _ rfl,hc 1 _ rfl,hc 2 _ rfl,hc 3 _ rfl,hv,hF.sub hG⟩
set_option maxHeartbeats 8000000 in
theorem spec_l3Sort (bs:List Bd) (hbl:bs.length≤1000) (hzs:∀ b∈bs,b.val.size≤1048576) (w:World) (x:Value) (F:List Nat) (hx:Arr w (BdR w) bs x F) (hf:Under w F) :
  Calls Tryz.prog 39 #[x] w (MadeArr BdR w (sortB bs)):=by
 obtain ⟨xA,xcap,rfl,-,-⟩:=hx.form
 obtain ⟨i0,hi,hz0,hz1,hz2⟩:=info_parts info_BE
 have HI:=jj hi
 have HZ0:=jj hz0
 have HZ1:=jj hz1
 have HZ2:=jj hz2
 have HZS:=jj hzs
 have HX:=jj hx
 have HF:=jj hf
 clear hi hz0 hz1 hz2 hzs hx hf
 have hB0:Below w w (w.alloc (.cells #[] 69)):=(zy2 _ _).alloc (zz8 _) _
 have HO0:Hid (Own (w.alloc (.cells #[] 69)) w.heap.size 69 4 BdR (sortTo bs 0 0) (.slice (some ⟨w,0,none⟩) 0 0) []):=Own.made w w.heap.size 69 4 BdR #[] 0 (zz8 _) (by simp [maxLen]) rfl
 go_enter Tryz.func39,Tryz.ntmps39
 go_wp2
 go_loopw [3,4] (fun ov nv wr=>∃ (n:Nat) (Fo:List Nat),n≤6∧nv=.int .i64 n∧Hid (Own wr w.heap.size 69 4 BdR (sortTo bs n 0) ov Fo)∧Hid (Free wr Fo)∧Hid (∀ b∈Fo,w.heap.size≤b)∧Below w w wr) (fun _ nv _=>6-(intOf nv).toNat)
 case atStart=>exact ⟨0,[],Nat.zero_le _,rfl,HO0,Free.nil _,(fun b hb=>by cases hb),hB0⟩
 case round =>
  clear HO0 hB0
  obtain ⟨n,Fo,hn,rfl,HO,HFr,HLo,hB⟩:=hrel
  obtain ⟨oA,ocap,hov,-,-⟩:=HO.out.form
  subst hov
  by_cases hn6:n<6
  ·have g1:decide ((n:Int)≤5)=true:=by simp;omega
   go_wp2
   obtain ⟨wo,hwo⟩:∃ wo:World,wo=wr:=⟨_,rfl⟩
   go_loopw [3,5] (fun ov iv ws=>∃ (i:Nat) (Fo:List Nat),i≤bs.length∧iv=.int .i64 i∧Hid (Own ws w.heap.size 69 4 BdR (sortTo bs n i) ov Fo)∧Hid (Free ws Fo)∧Hid (∀ b∈Fo,w.heap.size≤b)∧Below w w ws) (fun _ iv _=>bs.length-(intOf iv).toNat)
   case atStart=>exact ⟨0,Fo,Nat.zero_le _,rfl,HO,HFr,HLo,hB⟩
   case round =>
    clear hwo HO HFr HLo hB
    obtain ⟨i,Fi,hi,rfl,HO,HFr,HLo,hB⟩:=hrel
    obtain ⟨oA,ocap,hov,-,-⟩:=HO.out.form
    subst hov
    have hsl:=sortTo_len bs n i
    have hsl2:(sortTo bs n i).length≤7000:=by
     have h1:(n+1)*bs.length≤7*1000:=Nat.mul_le_mul (by omega) hbl
     omega
    clear hsl
    by_cases hil:i<bs.length
    ·obtain ⟨xb,xoff,rfl⟩:=HX.out.ptr (by omega)
     obtain ⟨A1,cap1,G,hxb,c0,c1,c2,c3,HV,HG⟩:=ArrBd.at HX.out HF.out hB i hil
     have g2:(0:Int)≤(i:Int):=by omega
     have g3:(i:Int)<(bs.length:Int):=by omega
     have HZ:=jj (HZS.out _ (List.getElem_mem hil))
     cases q1:(bs[i].var==(n:Int)) with
     |false =>
      have HS:=jj (sortTo_miss hil q1)
      clear c1 c2 c3
      go_wp2
      go_roundw
      case rel=>exact ⟨i+1,Fi,by omega,by go_num,by rw [HS.out];exact HO,HFr,HLo,hB⟩
      case measure=>(simp [intOf] <;> omega)
     |true =>
      have hs:=sortTo_hit hil q1
      have he:bs[i]=⟨(n:Int),bs[i].val⟩:=Bd.ext (beq_iff_eq.1 q1) rfl
      have hs2:sortTo bs n (i+1)=sortTo bs n i ++ [⟨(n:Int),bs[i].val⟩]:=by rw [hs,←he]
      have HS:=jj hs2
      clear hs hs2 he
      generalize bs[i].val=vi at c1 c2 c3 HV HZ HS
      go_wp2_with fail
      clear c0 c1 c2 c3 hxb
      refine (spec_l2Copy vi wr _ G (HV.out.below hB HG.out) (HG.out.mono hB.size) HZ.out).mono ?_
      rintro e w8 ⟨cs8,F8,rfl,hb8,hp8,hfr8,hfs8⟩
      obtain ⟨kv8,rfl,ha8⟩:=(zAF _ _ _).1 hp8
      obtain ⟨A8,cap8,rfl,-,-⟩:=ha8.form
      have HO8:=jj (HO.out.below (fun x cs G hk h=>zA4 _ _ x cs G hk h) hb8)
      have HP8:=jj hp8
      have HFR8:=jj hfr8
      have HFS8:Hid (∀ b∈F8,wr.heap.size≤b∧b<w8.heap.size):=fun b hb=>hfs8 b hb
      have hB8:Below w w w8:=hB.trans (hb8.mono hB.size)
      have HBR:=jj hb8
      clear ha8 hp8 hfr8 hfs8 hb8
      go_wp2_with (at_builtin;refine Halt.mk ?_)
      refine Halt.of (zA6 (P:=Tryz.prog) rfl _ _ 34 rfl i0 _ 48 Tryz.underlying34 HI.out HZ0.out HZ1.out HZ2.out rfl (by decide) zAY zA4 (by rfl) HO8.out ⟨(n:Int),vi⟩ 69 [(n:Int),vi.c,vi.n,.slice A8 vi.ks.length cap8] F8 _ (by rfl) (by simp) (by simp [Value.oneCell']) (BdR_of HP8.out) (fun b hb=>(HFS8.out b hb).2) (fun g hg hgF=>Nat.lt_irrefl _ (zz9 (HO.out.row g hg).2 (HFS8.out g hgF).1)) (by unfold maxLen;omega) (by omega) hB8.size ?_)
      intro g cp w9 hown9 hgr9 hat9
      have hB9:Below w w w9:=(hB8.alloc hB8.size _).grown hgr9 (by have:=hB8.size;simp;omega) (fun g hg=>(HO.out.row g (zA1.2 hg)).1)
      have HF9:Hid (Free w9 (Fi ++ F8)):=push_free HFr.out HO.out.under HBR.out HFR8.out HFS8.out hgr9 HO.out.apart (fun g hg=>(HO.out.row g hg).2)
      have HL9:Hid (∀ b∈Fi ++ F8,w.heap.size≤b):=fun b hb=>by
       rcases List.mem_append.1 hb with hb | hb
       ·exact HLo.out b hb
       ·exact Nat.le_trans hB.size (HFS8.out b hb).1
      have HO9:=jj hown9
      clear hown9 hgr9 hat9
      go_wp2
      go_roundw
      case rel=>exact ⟨i+1,_,by omega,by go_num,(by rw [HS.out];exact HO9.out),HF9,HL9,hB9⟩
      case measure=>(simp [intOf] <;> omega)
    ·have HS:=jj (sortTo_next bs (n:=n) (Nat.le_of_not_lt hil))
     clear hsl2
     go_wp2
     go_roundw
     case rel=>exact ⟨n+1,Fi,by omega,by go_num,(by rw [←HS.out];exact HO),HFr,HLo,hB⟩
     case measure=>(simp [intOf] <;> omega)
  ·have hn6':n=6:=by omega
   subst hn6'
   have HFin:Hid (MadeArr BdR w (sortB bs) (.returned (.slice oA (sortTo bs 6 0).length ocap)) wr):=by
    have h:=HO.out.gives hB (zz8 _) HLo.out HFr.out
    rw [sortTo_end] at h ⊢
    exact h
   go_wp2
   go_ret
   exact HFin.out
structure Upto (v:V) (most:Int) (c:Int):Prop where
 lo:1≤c
 hi:c≤nodes v
 yes:(nodes v:Int)≤most→c=nodes v
 no:most<nodes v→most<c
def CountPost (v:V) (most:Int) (w:World) (e:Ending) (w':World):Prop:=∃ c:Int,e=.returned (.int .i64 c)∧Upto v most c∧Below w w w'
def CountS (v:V):Prop:=∀ (most:Int) (_:0≤most) (_:most≤1000) (w:World) (cs:List Value) (G:List Nat),VR w v cs G→Under w G→nodes v≤2000000 →
 Calls Tryz.prog 72 #[.agg cs.toArray,.int .i64 most] w (CountPost v most w)
theorem l2Count_of (v:V) (ih:∀ k∈v.ks,CountS k):CountS v:=by
 intro most hm0 hm1 w cs G hv hg hz
 obtain ⟨kv,rfl,ha⟩:=(zAF _ _ _).1 hv
 obtain ⟨A4,cap4,rfl,hc3,hc4⟩:=ha.form
 have IH:=jj ih
 have HZ:=jj hz
 have HA:=jj ha
 have HG:=jj hg
 clear ha hg
 clear ih hv hz
 have hkl:v.ks.length≤2000000:=by have:=HZ.out;rw [zAN,V.sizes_eq] at this;omega
 go_enter Tryz.func72,Tryz.ntmps72
 go_wp2
 have hB0:Below w w (w.alloc (.cells #[v.c,v.n,.slice A4 v.ks.length cap4] 47)):=(zy2 _ _).alloc (zz8 _) _
 have K0:Hid (Blk (w.alloc (.cells #[v.c,v.n,.slice A4 v.ks.length cap4] 47)) w.heap.size 47 #[v.c,v.n,.slice A4 v.ks.length cap4]):=Blk.new _ _ _
 go_loopw [5,6] (fun nv iv wr=>∃ i:Nat,∃ n:Int,i≤v.ks.length∧iv=.int .i64 i∧nv=.int .i64 n∧1≤n∧n≤2000000∧Hid (n≤1+(V.sizes (v.ks.take i):Nat)∧(1+((V.sizes (v.ks.take i):Nat):Int)≤most→n=1+(V.sizes (v.ks.take i):Nat))∧(most<1+((V.sizes (v.ks.take i):Nat):Int)→most<n))∧Hid (Blk wr w 47 #[v.c,v.n,.slice A4 v.ks.length cap4])∧Below w w wr) (fun _ iv _=>v.ks.length-(intOf iv).toNat)
 case atStart=>exact ⟨0,1,Nat.zero_le _,rfl,rfl,by omega,by omega,⟨by simp [V.sizes],fun _=>by simp [V.sizes],fun h=>by simpa [V.sizes] using h⟩,K0,hB0⟩
 case round =>
  clear hB0 K0
  obtain ⟨i,n,hi,rfl,rfl,hn1,hn2,HN,KV,hB⟩:=hrel
  have z2:wr.cell? ⟨w,2,none⟩=some (.slice A4 v.ks.length cap4):=(KV.out.cell 2).trans (by simp)
  have klt:=KV.out.lt
  have hend:(¬(i<v.ks.length∧n≤most))→CountPost v most w (.returned (.int .i64 n)) wr:=fun h=>by
   have h1:=HN.out
   have h2:=sizes_take_le v.ks i
   have h3:=zAN v
   refine ⟨n,rfl,⟨hn1,by omega,fun hy=>?_,fun hno=>?_⟩,hB⟩
   ·by_cases hil:i<v.ks.length
    ·have:¬n≤most:=fun hnm=>h ⟨hil,hnm⟩
     have:=h1.2.1 (by omega)
     omega
    ·rw [List.take_of_length_le (by omega)] at h1
     have:=h1.2.1 (by omega)
     omega
   ·by_cases hil:i<v.ks.length
    ·have:¬n≤most:=fun hnm=>h ⟨hil,hnm⟩
     omega
    ·rw [List.take_of_length_le (by omega)] at h1
     exact h1.2.2 (by omega)
  have HEnd:=jj hend
  clear hend
  by_cases hil:i<v.ks.length
  ·have t1:decide ((i:Int)<(v.ks.length:Int))=true:=by simp;omega
   by_cases hnm:n≤most
   ·have t2:decide (n≤most)=true:=by simpa using hnm
    obtain ⟨b4,off4,rfl⟩:=HA.out.ptr (by omega)
    obtain ⟨A7,cap7,G7,hb7,k0,k1,k2,HV7,HG7,-,-,-⟩:=ArrV.at HA.out HG.out hB i hil
    have g1:(0:Int)≤(i:Int):=by omega
    have g2:(i:Int)<(v.ks.length:Int):=by omega
    have hst:=sizes_step hil
    have hsl:=sizes_take_le v.ks (i+1)
    have hnk:=zAN v
    have hz:=HZ.out
    have hkz:nodes v.ks[i]≤2000000:=by omega
    have HKZ:=jj hkz
    have HST:=jj (And.intro hst (And.intro hsl hnk))
    clear hst hsl hnk hz hkz
    go_wp2_with fail
    refine (IH.out v.ks[i] (List.getElem_mem hil) (most-n) (by omega) (by omega) wr _ G7 (HV7.out.below hB HG7.out) (HG7.out.mono hB.size) HKZ.out).mono ?_
    rintro e w' ⟨c,rfl,hu,hB'⟩
    have hB3:=hB.trans (hB'.mono hB.size)
    have KV3:=jj (KV.out.same (hB'.block _ KV.out.lt))
    have hc1:=hu.lo
    have hN2:Hid (n+c≤1+(V.sizes (v.ks.take (i+1)):Nat)∧(1+((V.sizes (v.ks.take (i+1)):Nat):Int)≤most→n+c=1+(V.sizes (v.ks.take (i+1)):Nat))∧(most<1+((V.sizes (v.ks.take (i+1)):Nat):Int)→most<n+c)):=by
     have h1:=HN.out
     obtain ⟨h2,h3,h4⟩:=HST.out
     have h5:=hu.hi
     have h6:=hu.yes
     have h7:=hu.no
     have h8:n=1+((V.sizes (v.ks.take i):Nat):Int):=by
      rcases Int.lt_or_le most (1+((V.sizes (v.ks.take i):Nat):Int)) with h | h
      ·have:=h1.2.2 h;omega
      ·exact h1.2.1 h
     refine ⟨by omega,fun hy=>?_,fun hno=>?_⟩
     ·have:=h6 (by omega);omega
     ·have:=h7 (by omega);omega
    have hn3:n+c≤2000000:=by
     have h1:=hN2.out.1
     obtain ⟨h2,h3,h4⟩:=HST.out
     have:=HZ.out
     omega
    clear hu t1 t2 z2 klt k0 k1 k2 hB'
    go_wp2
    go_roundw
    case rel=>exact ⟨i+1,n+c,by omega,by go_num,rfl,by omega,hn3,hN2,KV3,hB3⟩
    case measure=>(simp [intOf] <;> omega)
   ·have t2:decide (n≤most)=false:=by simpa using hnm
    have HFin:=jj (HEnd.out (fun h=>hnm h.2))
    go_wp2
    go_ret
    exact HFin.out
  ·have t1:decide ((i:Int)<(v.ks.length:Int))=false:=by simp;omega
   have HFin:=jj (HEnd.out (fun h=>hil h.1))
   go_wp2
   go_ret
   exact HFin.out
theorem spec_l2Count:∀ v,CountS v:=V.indv l2Count_of
def scanB (xs:List Dt) (d:Nat) (t:Ty) (v:V) (c:Int):Bool:=fitsV xs d t v && decide (c+nodes v≤60)
def ScanPost (xs:List Dt) (d:Nat) (t:Ty) (v:V) (c:Int) (g:Nat) (w:World) (e:Ending) (w':World):Prop :=
 ∃ c':Int,e=.returned (.bool (scanB xs d t v c))∧Chg [g] w w'∧Blk w' g 3 #[.int .i64 c']∧(scanB xs d t v c=true→c'=c+nodes v)∧0≤c'
def ScanI (v:V):Prop:=∀ (xs:List Dt) (_:WorldOK xs) (d deep:Nat) (_:d+deep=11) (_:1≤deep) (t:Ty) (_:TyIn xs.length t) (w:World) (x:Value) (F:List Nat) (cs:List Value) (G:List Nat) (g:Nat) (c:Int),Arr w (DtR w) xs x F→Under w F→VR w v cs G→Under w G →
 Blk w g 3 #[.int .i64 c]→g∉F→g∉G→0≤c→c≤60 →
 Calls Tryz.prog 75 #[x,.agg #[t.d,t.i],.agg cs.toArray,(deep:Int),.bool false,.pointer (some ⟨g,0,none⟩)] w (ScanPost xs d t v c g w)
theorem isNum_nodes {v:V} (h:isNum v=true):nodes v=1:=by
 unfold isNum at h
 simp only [Bool.and_eq_true,decide_eq_true_eq] at h
 rw [zAN,List.length_eq_zero_iff.1 h.2.2];rfl
theorem valueScan_of (v:V) (ih:∀ k∈v.ks,ScanI k):ScanI v:=by
 intro xs hw d deep hdd hdp t ht w x F cs G g c hx hf hv hg hgb hgF hgG hc0 hc60
 obtain ⟨kv,rfl,ha⟩:=(zAF _ _ _).1 hv
 obtain ⟨A,cap,rfl,hc1,hc2⟩:=hx.form
 obtain ⟨A4,cap4,rfl,hc3,hc4⟩:=ha.form
 have HW:=jj hw
 have IH:=jj ih
 have HGF:=jj hgF
 have HGG:=jj hgG
 have hgl:=hgb.lt
 have gx:w.cell? ⟨g,0,none⟩=some (.int .i64 c):=(hgb.cell 0).trans (by simp)
 have gf:=hgb.frozen 0
 have HGB:=jj hgb
 have HNP:Hid (1≤nodes v):=by unfold nodes;exact Nat.le_add_right _ _
 have HX:=jj hx
 have HF:=jj hf
 have HA:=jj ha
 have HG:=jj hg
 clear hx hf ha hg
 clear hw ih hv hgF hgG hgb
 by_cases hcc:60<c+1
 ·have t9:decide (c+1>60)=true:=by simpa using hcc
  have HT:Hid (scanB xs d t v c=false):=by
   have:=HNP.out
   unfold Hid scanB;rw [decide_eq_false (by omega),Bool.and_false]
  have KG:Hid (Blk (((w.setCell ⟨g,0,none⟩ (.int .i64 (c+1))).alloc (.cells #[t.d,t.i] 39)).alloc (.cells #[v.c,v.n,.slice A4 v.ks.length cap4] 47)) g 3 #[.int .i64 (c+1)]):=by
   have h1:Blk (w.setCell ⟨g,0,none⟩ (.int .i64 (c+1))) g 3 #[.int .i64 (c+1)]:=HGB.out.set_ 0 (.int .i64 (c+1))
   exact (h1.same (Below.heap_alloc _ _ _ h1.lt)).same (Below.heap_alloc _ _ _ (by have:=h1.lt;simp;omega))
  have HCG:Hid (Chg [g] w (((w.setCell ⟨g,0,none⟩ (.int .i64 (c+1))).alloc (.cells #[t.d,t.i] 39)).alloc (.cells #[v.c,v.n,.slice A4 v.ks.length cap4] 47))):=(((Chg.refl [g] w).set (by simp)).step ((zy2 _ _).alloc (zz8 _) _)).step ((zy2 _ _).alloc (zz8 _) _)
  have hfin:ScanPost xs d t v c g w (.returned (.bool false)) (((w.setCell ⟨g,0,none⟩ (.int .i64 (c+1))).alloc (.cells #[t.d,t.i] 39)).alloc (.cells #[v.c,v.n,.slice A4 v.ks.length cap4] 47)):=⟨c+1,by rw [HT.out],HCG.out,KG.out,(fun h=>by rw [HT.out] at h;cases h),by omega⟩
  have HFin:=jj hfin
  clear hfin
  go_enter Tryz.func75,Tryz.ntmps75
  go_wp2
  go_ret
  exact HFin.out
 ·have t9:decide (c+1>60)=false:=by simp;omega
  cases d with
  |zero =>
   have t8:decide ((deep:Int)>10)=true:=by simp;omega
   have HT:Hid (scanB xs 0 t v c=false):=rfl
   have KG:Hid (Blk (((w.setCell ⟨g,0,none⟩ (.int .i64 (c+1))).alloc (.cells #[t.d,t.i] 39)).alloc (.cells #[v.c,v.n,.slice A4 v.ks.length cap4] 47)) g 3 #[.int .i64 (c+1)]):=by
    have h1:Blk (w.setCell ⟨g,0,none⟩ (.int .i64 (c+1))) g 3 #[.int .i64 (c+1)]:=HGB.out.set_ 0 (.int .i64 (c+1))
    exact (h1.same (Below.heap_alloc _ _ _ h1.lt)).same (Below.heap_alloc _ _ _ (by have:=h1.lt;simp;omega))
   have HCG:Hid (Chg [g] w (((w.setCell ⟨g,0,none⟩ (.int .i64 (c+1))).alloc (.cells #[t.d,t.i] 39)).alloc (.cells #[v.c,v.n,.slice A4 v.ks.length cap4] 47))):=(((Chg.refl [g] w).set (by simp)).step ((zy2 _ _).alloc (zz8 _) _)).step ((zy2 _ _).alloc (zz8 _) _)
   have hfin:ScanPost xs 0 t v c g w (.returned (.bool false)) (((w.setCell ⟨g,0,none⟩ (.int .i64 (c+1))).alloc (.cells #[t.d,t.i] 39)).alloc (.cells #[v.c,v.n,.slice A4 v.ks.length cap4] 47)):=⟨c+1,by rw [HT.out],HCG.out,KG.out,(fun h=>by rw [HT.out] at h;cases h),by omega⟩
   have HFin:=jj hfin
   clear hfin
   go_enter Tryz.func75,Tryz.ntmps75
   go_wp2
   go_ret
   exact HFin.out
  |succ d =>
  have t8:decide ((deep:Int)>10)=false:=by simp;omega
  obtain ⟨W3,hW3⟩:∃ W3,W3=(((w.setCell ⟨g,0,none⟩ (.int .i64 (c+1))).alloc (.cells #[t.d,t.i] 39)).alloc (.cells #[v.c,v.n,.slice A4 v.ks.length cap4] 47)):=⟨_,rfl⟩
  have KT:Hid (Blk W3 w 39 #[t.d,t.i]):=by
   rw [hW3]
   have h:=Blk.new (w.setCell ⟨g,0,none⟩ (.int .i64 (c+1))) 39 #[t.d,t.i]
   rw [show ((w.setCell ⟨g,0,none⟩ (.int .i64 (c+1)))).heap.size=w.heap.size from by simp [World.setCell]] at h
   exact h.same (Below.heap_alloc _ _ _ (by simp [World.setCell]))
  have KV:Hid (Blk W3 (w.heap.size+1) 47 #[v.c,v.n,.slice A4 v.ks.length cap4]):=by
   rw [hW3]
   have h:=Blk.new ((w.setCell ⟨g,0,none⟩ (.int .i64 (c+1))).alloc (.cells #[t.d,t.i] 39)) 47 #[v.c,v.n,.slice A4 v.ks.length cap4]
   rw [World.size_alloc,show ((w.setCell ⟨g,0,none⟩ (.int .i64 (c+1)))).heap.size=w.heap.size from by simp [World.setCell]] at h
   exact h
  have KG:Hid (Blk W3 g 3 #[.int .i64 (c+1)]):=by
   rw [hW3]
   have h1:Blk (w.setCell ⟨g,0,none⟩ (.int .i64 (c+1))) g 3 #[.int .i64 (c+1)]:=HGB.out.set_ 0 (.int .i64 (c+1))
   exact (h1.same (Below.heap_alloc _ _ _ h1.lt)).same (Below.heap_alloc _ _ _ (by have:=h1.lt;simp;omega))
  have HCG:Hid (Chg [g] w W3):=by
   rw [hW3];exact (((Chg.refl [g] w).set (by simp)).step ((zy2 _ _).alloc (zz8 _) _)).step ((zy2 _ _).alloc (zz8 _) _)
  have HX3:Hid (Arr W3 (DtR W3) xs (.slice A xs.length cap) F):=ArrDt.mono HX.out (HCG.out.kept HF.out (fun b hb h=>HGF.out (by rw [←List.mem_singleton.1 h];exact hb)))
  have HF3:=jj (HF.out.mono HCG.out.size)
  have HA3:Hid (Arr W3 (VR W3) v.ks (.slice A4 v.ks.length cap4) G):=ArrV.mono HA.out (HCG.out.kept HG.out (fun b hb h=>HGG.out (by rw [←List.mem_singleton.1 h];exact hb)))
  have HG3:=jj (HG.out.mono HCG.out.size)
  obtain ⟨y0,y1,-⟩:=KT.out.c2
  obtain ⟨z0,z1,z2,-⟩:=KV.out.c3
  have klt:=KT.out.lt
  have klt2:=KV.out.lt
  have hgl3:=KG.out.lt
  rcases ht with ht | ⟨q,r,rfl,hql,hrl⟩
  ·have t0:(t.d == -1)=true:=by simp [ht]
   have hfi:=fitsV_int (xs:=xs) (d:=d) (v:=v) ht
   have hEnd:∀ r:Bool,isNum v=r→ScanPost xs (d+1) t v c g w (.returned (.bool r)) W3:=fun r hr=>by
    have hT:scanB xs (d+1) t v c=r:=by
     unfold scanB
     rw [hfi,hr]
     cases r with
     |false=>rfl
     |true=>rw [isNum_nodes hr,Bool.true_and];exact decide_eq_true (by omega)
    exact ⟨c+1,by rw [hT],HCG.out,KG.out,(fun h=>by rw [hT] at h;rw [isNum_nodes (hr.trans h)];rfl),by omega⟩
   have HEnd:=jj hEnd
   clear hEnd hfi ht
   cases q0:(v.c == -1) with
   |false =>
    have HFin:=jj (HEnd.out false (by unfold isNum;rw [q0];rfl))
    go_enter Tryz.func75,Tryz.ntmps75
    go_wp2_with fail
    rw [←hW3]
    clear hW3
    go_wp2
    go_ret
    exact HFin.out
   |true =>
    cases q1:withinB v.n 0 9 with
    |false =>
     have HFin:=jj (HEnd.out false (by unfold isNum;rw [q0,q1];rfl))
     have HQ1:=jj q1
     clear q1
     go_enter Tryz.func75,Tryz.ntmps75
     go_wp2_with fail
     rw [←hW3]
     clear hW3
     refine (zAH v.n 0 9 W3).mono ?_
     rintro e w5 ⟨rfl,rfl⟩
     rw [HQ1.out]
     go_wp2
     go_ret
     exact HFin.out
    |true =>
     by_cases q2:v.ks.length=0
     ·have HFin:=jj (HEnd.out true (by unfold isNum;rw [q0,q1,decide_eq_true q2];rfl))
      have t3:((v.ks.length:Int)==0)=true:=by simp [q2]
      have HQ1:=jj q1
      clear q1 q2
      go_enter Tryz.func75,Tryz.ntmps75
      go_wp2_with fail
      rw [←hW3]
      clear hW3
      refine (zAH v.n 0 9 W3).mono ?_
      rintro e w5 ⟨rfl,rfl⟩
      rw [HQ1.out]
      go_wp2
      go_ret
      exact HFin.out
     ·have HFin:=jj (HEnd.out false (by unfold isNum;rw [q0,q1,decide_eq_false q2];rfl))
      have t3:((v.ks.length:Int)==0)=false:=by simp;simpa using q2
      have HQ1:=jj q1
      clear q1 q2
      go_enter Tryz.func75,Tryz.ntmps75
      go_wp2_with fail
      rw [←hW3]
      clear hW3
      refine (zAH v.n 0 9 W3).mono ?_
      rintro e w5 ⟨rfl,rfl⟩
      rw [HQ1.out]
      go_wp2
      go_ret
      exact HFin.out
  ·have t0:((q:Int) == -1)=false:=by rw [beq_eq_false_iff_ne];omega
   have hfd:=fitsV_data (xs:=xs) (d:=d) (v:=v) (t:=⟨(q:Int),(r:Int)⟩) (by show ¬((q:Int) = -1);omega)
   have HFD:=jj hfd
   clear hfd
   have HBad:Hid (∀ W c',fitsV xs (d+1) ⟨(q:Int),(r:Int)⟩ v=false∨(60:Int)<c+nodes v→Chg [g] w W→Blk W g 3 #[.int .i64 c']→0≤c'→ScanPost xs (d+1) ⟨(q:Int),(r:Int)⟩ v c g w (.returned (.bool false)) W):=fun W c' h hC hK hc'=>by
    have hT:scanB xs (d+1) ⟨(q:Int),(r:Int)⟩ v c=false:=by
     unfold scanB
     rcases h with h | h
     ·rw [h];rfl
     ·rw [decide_eq_false (by omega),Bool.and_false]
    exact ⟨c',by rw [hT],hC,hK,(fun h=>by rw [hT] at h;cases h),hc'⟩
   go_enter Tryz.func75,Tryz.ntmps75
   go_wp2_with fail
   rw [←hW3]
   clear hW3
   cases q0:(v.n==0) with
   |false =>
    have t1:(v.n != 0)=true:=by rw [bne,q0];rfl
    have HFin:Hid (∀ n,ScanPost xs (d+1) ⟨(q:Int),(r:Int)⟩ v c g w (.returned (.bool false)) (W3.drewN n)):=fun n=>HBad.out _ (c+1) (.inl (by rw [HFD.out,q0];rfl)) (HCG.out.drewN n) KG.out (by omega)
    clear q0
    go_quiet (fail)
    go_wp2
    go_ret
    exact HFin.out _
   |true =>
    have t1:(v.n != 0)=false:=by rw [bne,q0];rfl
    have h1:fitsV xs (d+1) ⟨(q:Int),(r:Int)⟩ v=(hasB (ctorsL xs ⟨(q:Int),(r:Int)⟩) v.c && (decide (v.ks.length=(argsOf xs ⟨(q:Int),(r:Int)⟩ v.c).length) && zipAll (fitsV xs d) (argsOf xs ⟨(q:Int),(r:Int)⟩ v.c) v.ks)):=by rw [HFD.out,q0,Bool.true_and]
    have H1:=jj h1
    have HIW:Hid (InWorld xs.length ⟨(q:Int),(r:Int)⟩):=.inr ⟨q,rfl,hql⟩
    clear h1 q0
    have hBr:=zy2 W3.heap.size W3
    have hkeep:Kp W3.heap.size (fun U=>U.cell? ⟨w,0,none⟩=(q:Int)∧U.cell? ⟨w,1,none⟩=(r:Int)∧U.cell? ⟨w.heap.size+1,0,none⟩=v.c∧U.cell? ⟨w.heap.size+1,1,none⟩=v.n∧U.cell? ⟨w.heap.size+1,2,none⟩=some (.slice A4 v.ks.length cap4)):=fun U U' h hUU hU=>⟨(hUU.cell (zz9 (klt) hU)).trans h.1,(hUU.cell (zz9 (klt) hU)).trans h.2.1,(hUU.cell (zz9 (klt2) hU)).trans h.2.2.1,(hUU.cell (zz9 (klt2) hU)).trans h.2.2.2.1,(hUU.cell (zz9 (klt2) hU)).trans h.2.2.2.2⟩
    have HKeep:=jj hkeep
    clear hkeep
    go_region_held3 (fun w'=>w'.cell? ⟨w,0,none⟩=(q:Int)∧w'.cell? ⟨w,1,none⟩=(r:Int)∧w'.cell? ⟨w.heap.size+1,0,none⟩=v.c∧w'.cell? ⟨w.heap.size+1,1,none⟩=v.n∧w'.cell? ⟨w.heap.size+1,2,none⟩=some (.slice A4 v.ks.length cap4)) (first | assumption | (exact ⟨y0,y1,z0,z1,z2⟩) | (exact HKeep.out W3.drew w4 ⟨y0,y1,z0,z1,z2⟩ hb4 (zz8 _)) | (exact HKeep.out w4 w5 (by assumption) hb5 hlew4)) (first | (go_at_call 90;((with_reducible refine (impl_ctorsOf xs ⟨(q:Int),(r:Int)⟩ _ _ F (ArrDt.below HX3.out hBr.drew HF3.out) (HF3.out.mono hBr.drew.size) HW.out HIW.out).mono ?_);rintro e w4 ⟨v4,F4,rfl,hb4,ha4,-,hfs4⟩);have hlew4:W3.heap.size≤w4.heap.size:=hb4.size) | (go_at_call 60;((with_reducible refine (impl_has (ctorsL xs ⟨(q:Int),(r:Int)⟩) v.c _ _ F4 ha4 hfs4.under).mono ?_);rintro e w5 ⟨rfl,hb5⟩)))
    have hBa:=hBr.drew.trans (hb4.mono hBr.drew.size)
    have hB5:=hBa.trans (hb5.mono hBa.size)
    have KT5:=jj (KT.out.same (hB5.block _ KT.out.lt))
    have KV5:=jj (KV.out.same (hB5.block _ KV.out.lt))
    have KG5:=jj (KG.out.same (hB5.block _ KG.out.lt))
    have HCG5:=jj (HCG.out.step hB5)
    have HX5:=jj (ArrDt.below HX3.out hB5 HF3.out)
    have HF5:=jj (HF3.out.mono hB5.size)
    have HA5:=jj (ArrV.below HA3.out hB5 HG3.out)
    have HG5:=jj (HG3.out.mono hB5.size)
    clear HKeep KT KV KG HCG HX3 HF3 HA3 HG3 y0 y1 z0 z1 z2 klt klt2 hBa hb4 hb5 ha4 hfs4 hBr t1 hgl3 gx gf
    cases e1:hasB (ctorsL xs ⟨(q:Int),(r:Int)⟩) v.c with
    |false =>
     have HFin:=jj (HBad.out w5 (c+1) (.inl (by rw [H1.out,e1];rfl)) HCG5.out KG5.out (by omega))
     clear e1
     go_wp2
     go_ret
     exact HFin.out
    |true =>
     obtain ⟨q',k,e2,hvc,hq',hkl⟩:=zB6 (xs:=xs) (t:=⟨(q:Int),(r:Int)⟩) (.inr ⟨q,rfl,hql⟩) ((hasB_iff _ _).1 e1)
     obtain rfl:q=q':=Int.ofNat.inj e2
     have h2:=H1.out
     rw [e1,Bool.true_and,hvc,zBD hql hkl] at h2
     have H2:=jj h2
     clear h2 e1 e2
     have HAI:=jj (fun a ha=>argTy_in (HW.out.ctor hql hkl) (i:=(r:Int)) (by omega) (by omega) (a:=a) ha)
     have HLA:=jj (HW.out.ctor hql hkl).args
     obtain ⟨y0,y1,-⟩:=KT5.out.c2
     have z0:w5.cell? ⟨w.heap.size+1,0,none⟩=v.c:=(KV5.out.cell 0).trans (by simp)
     have klt:=KT5.out.lt
     have klt2:=KV5.out.lt
     have HVC:=jj hvc
     clear hvc
     go_wp2_with fail
     rw [HVC.out]
     refine (impl_argTypes xs q k (r:Int) hql hkl w5 _ F HX5.out HF5.out HLA.out).mono ?_
     rintro e w6 ⟨v6,F6,rfl,hb6,ha6,-,hfs6⟩
     have KV6:=jj (KV5.out.same (hb6.block _ KV5.out.lt))
     have KG6:=jj (KG5.out.same (hb6.block _ KG5.out.lt))
     have HCG6:=jj (HCG5.out.step hb6)
     generalize hass:argsL xs[q].ctors[k] (r:Int)=ls at *
     clear hass
     obtain ⟨A6,cap6,rfl,hd3,hd4⟩:=ha6.form
     have HA6:Hid (Arr w6 (TyR w6) ls (.slice A6 ls.length cap6) F6∧Under w6 F6):=⟨ha6,hfs6.under⟩
     have HN6:Hid (∀ b∈F6,b∉[g]):=fun b hb h=>by
      have h1:=(hfs6 b hb).1
      rw [List.mem_singleton.1 h] at h1
      have:=KG5.out.lt
      omega
     clear ha6 hfs6 KT5 KV5 KG5 HCG5 HX5 HF5 HA5 HG5 y0 y1 z0 klt klt2 hB5 hb6
     have z2:w6.cell? ⟨w.heap.size+1,2,none⟩=some (.slice A4 v.ks.length cap4):=(KV6.out.cell 2).trans (by simp)
     have klt2:=KV6.out.lt
     by_cases hln:v.ks.length=ls.length
     ·have t2:((ls.length:Int) != (v.ks.length:Int))=false:=by simp [hln]
      have h3:fitsV xs (d+1) ⟨(q:Int),(r:Int)⟩ v=zipAll (fitsV xs d) ls v.ks:=by rw [H2.out,decide_eq_true hln,Bool.true_and]
      have H3:=jj h3
      have HLN:=jj hln
      clear h3 hln
      go_wp2
      clear z2 klt2 t2
      go_loopw [90] (fun iv wr=>∃ i:Nat,∃ ci:Int,i≤v.ks.length∧iv=.int .i64 i∧0≤ci∧ci≤60∧Hid (ci=c+1+(V.sizes (v.ks.take i):Nat))∧Hid (fitsV xs (d+1) ⟨(q:Int),(r:Int)⟩ v=zipAll (fitsV xs d) (ls.drop i) (v.ks.drop i))∧Hid (Blk wr g 3 #[.int .i64 ci])∧Hid (Chg [g] w wr)∧Hid (Arr wr (TyR wr) ls (.slice A6 ls.length cap6) F6∧Under wr F6)) (fun iv _=>v.ks.length-(intOf iv).toNat)
      case atStart=>exact ⟨0,c+1,Nat.zero_le _,rfl,by omega,by omega,(by show c+1=c+1+((0:Nat):Int);omega),H3,KG6,HCG6,HA6⟩
      case round =>
       clear KG6 HCG6 HA6 KV6
       obtain ⟨i,ci,hi,rfl,hci0,hci1,HCI,HR,KG,HCG,HA6⟩:=hrel
       by_cases hik:i<v.ks.length
       ·have hil:i<ls.length:=by rw [←HLN.out];exact hik
        obtain ⟨b6,off6,rfl⟩:=HA6.out.1.ptr (by omega)
        have HAw:=jj (ArrV.mono HA.out (HCG.out.kept HG.out (fun b hb h=>HGG.out (by rw [←List.mem_singleton.1 h];exact hb))))
        have HGw:=jj (HG.out.mono HCG.out.size)
        have HXw:=jj (ArrDt.mono HX.out (HCG.out.kept HF.out (fun b hb h=>HGF.out (by rw [←List.mem_singleton.1 h];exact hb))))
        have HFw:=jj (HF.out.mono HCG.out.size)
        obtain ⟨b4,off4,rfl⟩:=HAw.out.ptr (by omega)
        obtain ⟨A7,cap7,G7,hb7,k0,k1,k2,HV7,HG7,hG7G,-,-⟩:=ArrV.at HAw.out HGw.out (zy2 _ _) i hik
        have HN7:Hid (g∉G7):=fun h=>HGG.out (hG7G _ h)
        clear hG7G
        have g1:(0:Int)≤(i:Int):=by omega
        have g2:(i:Int)<(ls.length:Int):=by omega
        have g3:(i:Int)<(v.ks.length:Int):=by omega
        have hstep:=HR.out
        rw [zipAll_step hil hik] at hstep
        have HST:=jj hstep
        clear hstep
        have hwr:IntKind.i64.wrap ((deep:Int)+1)=(deep:Int)+1:=IntWalk.i64_in _ (by omega)
        obtain ⟨W7,hW7⟩:∃ W7,W7=wr.alloc (.cells #[v.ks[i].c,v.ks[i].n,.slice A7 v.ks[i].ks.length cap7] 47):=⟨_,rfl⟩
        have hb77:Below wr wr W7:=by rw [hW7];exact (zy2 _ _).alloc (zz8 _) _
        have KX:Hid (Blk W7 wr 47 #[v.ks[i].c,v.ks[i].n,.slice A7 v.ks[i].ks.length cap7]):=by rw [hW7];exact Blk.new _ _ _
        have KG7:=jj (KG.out.same (hb77.block _ KG.out.lt))
        have HCG7:=jj (HCG.out.step hb77)
        have HX7:=jj (ArrDt.below HXw.out hb77 HFw.out)
        have HF7:=jj (HFw.out.mono hb77.size)
        have HV77:=jj (HV7.out.below hb77 HG7.out)
        have HG77:=jj (HG7.out.mono hb77.size)
        have HA67:Hid (Arr W7 (TyR W7) ls (.slice (some ⟨b6,off6,none⟩) ls.length cap6) F6∧Under W7 F6):=⟨ArrTy.below HA6.out.1 hb77 HA6.out.2,HA6.out.2.mono hb77.size⟩
        have hgw:g<wr.heap.size:=KG.out.lt
        have hne7:wr.heap.size≠g:=by omega
        go_wp2_with fail
        rw [←hW7]
        clear hW7 k0 k1 k2 hb7 HAw HGw HXw HFw HV7 HG7 KG HCG HA6
        obtain ⟨hb6,a0,a1⟩:=ArrTy.at HA67.out.1 HA67.out.2 (zy2 _ _) i hil
        have hb6n:b6≠g:=by
         obtain ⟨b',off',cs',G',e',hb',-⟩:=HA67.out.1.get TyR_len hil
         cases e'
         exact fun e=>HN6.out _ hb' (by rw [e];exact List.mem_singleton.2 rfl)
        obtain ⟨k0,k1,k2,kxl⟩:=KX.out.c3
        have HNE:=jj (show b6∉[g] from fun h=>hb6n (List.mem_singleton.1 h))
        have HNE7:=jj (show wr.heap.size∉[g] from fun h=>hne7 (List.mem_singleton.1 h))
        clear hb6n hne7 hgw
        have HCALL:=jj (IH.out v.ks[i] (List.getElem_mem hik) xs HW.out d (deep+1) (by omega) (by omega) ls[i] (HAI.out _ (List.getElem_mem hil)) W7.drew _ F _ G7 g ci (ArrDt.drew HX7.out) HF7.out HV77.out.drew HG77.out KG7.out HGF.out HN7.out hci0 hci1)
        rw [show ((deep+1:Nat):Int)=(deep:Int)+1 by omega] at HCALL
        go_region_held3 (fun w'=>w'.cell? ⟨b6,off6+i*2,none⟩=ls[i].d∧w'.cell? ⟨b6,off6+i*2+1,none⟩=ls[i].i∧w'.cell? ⟨wr,0,none⟩=v.ks[i].c∧w'.cell? ⟨wr,1,none⟩=v.ks[i].n∧w'.cell? ⟨wr,2,none⟩=some (.slice A7 v.ks[i].ks.length cap7)) (first | assumption | (exact ⟨a0,a1,k0,k1,k2⟩) | (exact ⟨(hC'.cell hb6 HNE.out).trans a0,(hC'.cell hb6 HNE.out).trans a1,(hC'.cell kxl HNE7.out).trans k0,(hC'.cell kxl HNE7.out).trans k1,(hC'.cell kxl HNE7.out).trans k2⟩)) (first | (go_at_call 75;((with_reducible refine HCALL.out.mono ?_);rintro e w' ⟨c',rfl,hC',hK',hy',hp'⟩)))
        have hC2:=hC'.undrew
        have HCG8:=jj (HCG7.out.trans hC2)
        have HK8:=jj hK'
        have HA68:Hid (Arr w' (TyR w') ls (.slice (some ⟨b6,off6,none⟩) ls.length cap6) F6∧Under w'.heap.size F6):=⟨ArrTy.mono HA67.out.1 (hC2.kept HA67.out.2 HN6.out),HA67.out.2.mono hC2.size⟩
        clear hwr hC' hC2 hK' a0 a1 k0 k1 k2
        cases e3:scanB xs d ls[i] v.ks[i] ci with
        |false =>
         have HFin:=jj (HBad.out w' c' (by
          unfold scanB at e3
          rw [Bool.and_eq_false_iff] at e3
          rcases e3 with h | h
          ·left;rw [HST.out,h];rfl
          ·right
           have h1:=of_decide_eq_false h
           have h2:=HCI.out
           have h3:=sizes_step hik
           have h4:=sizes_take_le v.ks (i+1)
           have h5:=zAN v
           omega) HCG8.out HK8.out hp')
         clear e3 hy'
         go_wp2
         go_ret
         exact HFin.out
        |true =>
         have hcc2:=hy' e3
         unfold scanB at e3
         rw [Bool.and_eq_true] at e3
         have h60:=of_decide_eq_true e3.2
         have hR2:Hid (fitsV xs (d+1) ⟨(q:Int),(r:Int)⟩ v=zipAll (fitsV xs d) (ls.drop (i+1)) (v.ks.drop (i+1))):=by rw [HST.out,e3.1,Bool.true_and];rfl
         have hCI2:Hid (c'=c+1+(V.sizes (v.ks.take (i+1)):Nat)):=by
          have h2:=HCI.out
          have h3:=sizes_step hik
          unfold Hid
          omega
         have hc60':c'≤60:=by omega
         clear e3 hy' hcc2 h60
         go_wp2
         go_roundw
         case rel=>exact ⟨i+1,c',by omega,by go_num,hp',hc60',hCI2,hR2,HK8,HCG8,HA68⟩
         case measure=>(simp [intOf] <;> omega)
       ·have hT:scanB xs (d+1) ⟨(q:Int),(r:Int)⟩ v c=true:=by
         unfold scanB
         have h1:=HCI.out
         have h5:=zAN v
         rw [List.take_of_length_le (by omega)] at h1
         rw [HR.out,zipAll_end (by have:=HLN.out;omega),Bool.true_and]
         exact decide_eq_true (by omega)
        have hfin:ScanPost xs (d+1) ⟨(q:Int),(r:Int)⟩ v c g w (.returned (.bool true)) wr:=⟨ci,by rw [hT],HCG.out,KG.out,fun _=>by
         have h1:=HCI.out
         have h5:=zAN v
         rw [List.take_of_length_le (by omega)] at h1
         omega,hci0⟩
        have HFin:=jj hfin
        clear hfin hT
        go_wp2
        go_ret
        exact HFin.out
     ·have t2:((ls.length:Int) != (v.ks.length:Int))=true:=by rw [bne_iff_ne];omega
      have HFin:=jj (HBad.out w6 (c+1) (.inl (by rw [H2.out,decide_eq_false hln];rfl)) HCG6.out KG6.out (by omega))
      clear hln
      go_wp2
      go_ret
      exact HFin.out
theorem impl_valueScan:∀ v,ScanI v:=V.indv valueScan_of
theorem spec_l2Is (xs:List Dt) (t:Ty) (v:V) (w:World) (x:Value) (F:List Nat) (cs:List Value) (G:List Nat) (hx:Arr w (DtR w) xs x F) (hf:Under w F) (hv:VR w v cs G) (hg:Under w G) (hw:WorldOK xs) (ht:TyIn xs.length t) (hz:v.size≤1048576) :
  Calls Tryz.prog 37 #[x,.agg #[t.d,t.i],.agg cs.toArray] w fun e w'=>e=.returned (.bool (valueOkB xs t v))∧Below w w w':=by
 obtain ⟨kv,rfl,ha⟩:=(zAF _ _ _).1 hv
 obtain ⟨A,cap,rfl,hc1,hc2⟩:=hx.form
 obtain ⟨A4,cap4,rfl,hc3,hc4⟩:=ha.form
 have HV:=jj hv
 have HX:=jj hx
 have HF:=jj hf
 have HG:=jj hg
 clear hx hf hg
 clear ha hv
 go_enter Tryz.func37,Tryz.ntmps37
 go_wp2_with fail
 obtain ⟨W2,hW2⟩:∃ W2,W2=((w.alloc (.cells #[t.d,t.i] 39)).alloc (.cells #[v.c,v.n,.slice A4 v.ks.length cap4] 47)):=⟨_,rfl⟩
 have hB0:Below w w W2:=by rw [hW2];exact ((zy2 _ _).alloc (zz8 _) _).alloc (by simp) _
 have KT:Hid (Blk W2 w 39 #[t.d,t.i]):=by rw [hW2];exact (Blk.new w _ _).same (Below.heap_alloc _ _ _ (by simp))
 have KV:Hid (Blk W2 (w.heap.size+1) 47 #[v.c,v.n,.slice A4 v.ks.length cap4]):=by rw [hW2];have h:=Blk.new (w.alloc (.cells #[t.d,t.i] 39)) 47 #[v.c,v.n,.slice A4 v.ks.length cap4];rw [World.size_alloc] at h;exact h
 rw [←hW2]
 clear hW2
 refine (spec_l2Fits v xs hw 10 (zz8 _) t ht W2 _ F _ G (ArrDt.below HX.out hB0 HF.out) (HF.out.mono hB0.size) (HV.out.below hB0 HG.out) (HG.out.mono hB0.size)).mono ?_
 rintro e w3 ⟨rfl,hb3⟩
 have hB3:=hB0.trans (hb3.mono hB0.size)
 have KV3:=jj (KV.out.same (hb3.block _ KV.out.lt))
 have KT3:=jj (KT.out.same (hb3.block _ KT.out.lt))
 obtain ⟨y0,y1,-⟩:=KT3.out.c2
 obtain ⟨z0,z1,z2,-⟩:=KV3.out.c3
 have klt:=KT3.out.lt
 have klt2:=KV3.out.lt
 clear hb3 KT KV
 cases e1:fitsV xs 10 t v with
 |false =>
  have hf:Hid (valueOkB xs t v=false):=by unfold Hid valueOkB;rw [e1];rfl
  clear e1
  go_wp2
  go_ret
  exact ⟨zA0 hf.out.symm,hB3⟩
 |true =>
  have hf:Hid (valueOkB xs t v=decide (nodes v≤60)):=by unfold Hid valueOkB;rw [e1];rfl
  clear e1
  go_wp2_with fail
  refine (spec_l2Count v 60 (by omega) (by omega) w3 _ G (HV.out.below hB3 HG.out) (HG.out.mono hB3.size) (by unfold nodes;omega)).mono ?_
  rintro e w4 ⟨c,rfl,hu,hb4⟩
  have hB4:=hB3.trans (hb4.mono hB3.size)
  have hcd:decide (c≤60)=decide (nodes v≤60):=by
   have h1:=hu.yes
   have h2:=hu.no
   by_cases h:nodes v≤60
   ·rw [decide_eq_true h];exact decide_eq_true (by have:=h1 (by omega);omega)
   ·rw [decide_eq_false h];exact decide_eq_false (by have:=h2 (by omega);omega)
  have HCD:=jj hcd
  clear hu hcd hb4
  go_wp2
  go_ret
  exact ⟨zA0 (hf.out.trans HCD.out.symm).symm,hB4⟩
theorem impl_valueOk (xs:List Dt) (t:Ty) (v:V) (w:World) (x:Value) (F:List Nat) (cs:List Value) (G:List Nat) (hx:Arr w (DtR w) xs x F) (hf:Under w F) (hv:VR w v cs G) (hg:Under w G) (hw:WorldOK xs) (ht:TyIn xs.length t) (hz:v.size≤1048576) :
  Calls Tryz.prog 43 #[x,.agg #[t.d,t.i],.agg cs.toArray] w fun e w'=>e=.returned (.bool (valueOkB xs t v))∧Below w w w':=by
 obtain ⟨kv,rfl,ha⟩:=(zAF _ _ _).1 hv
 obtain ⟨A,cap,rfl,hc1,hc2⟩:=hx.form
 obtain ⟨A4,cap4,rfl,hc3,hc4⟩:=ha.form
 have HV:=jj hv
 have HX:=jj hx
 have HF:=jj hf
 have HG:=jj hg
 clear hx hf hg
 clear ha hv
 go_enter Tryz.func43,Tryz.ntmps43
 go_wp2_with fail
 obtain ⟨W2,hW2⟩:∃ W2,W2=(((w.alloc (.cells #[t.d,t.i] 39)).alloc (.cells #[v.c,v.n,.slice A4 v.ks.length cap4] 47)).alloc (.cells #[(0:Int)] 3)):=⟨_,rfl⟩
 have hB0:Below w w W2:=by rw [hW2];exact (((zy2 _ _).alloc (zz8 _) _).alloc (by simp) _).alloc (by simp;omega) _
 have KG:Hid (Blk W2 (w.heap.size+2) 3 #[(0:Int)]):=by
  rw [hW2]
  have h:=Blk.new ((w.alloc (.cells #[t.d,t.i] 39)).alloc (.cells #[v.c,v.n,.slice A4 v.ks.length cap4] 47)) 3 #[(0:Int)]
  rw [show (((w.alloc (.cells #[t.d,t.i] 39)).alloc (.cells #[v.c,v.n,.slice A4 v.ks.length cap4] 47))).heap.size=w.heap.size+2 from by simp] at h
  exact h
 rw [←hW2]
 clear hW2
 refine (impl_valueScan v xs hw 10 1 rfl (zz8 _) t ht W2 _ F _ G (w.heap.size+2) 0 (ArrDt.below HX.out hB0 HF.out) (HF.out.mono hB0.size) (HV.out.below hB0 HG.out) (HG.out.mono hB0.size) KG.out (fun h=>by have:=HF.out _ h;omega) (fun h=>by have:=HG.out _ h;omega) (by omega) (by omega)).mono ?_
 rintro e w3 ⟨c',rfl,hC,-,-,-⟩
 have hB3:=hB0.trans (hC.below (B:=w.heap.size) (fun b hb=>by rw [List.mem_singleton.1 hb];omega) hB0.size)
 have hf:Hid (valueOkB xs t v=scanB xs 10 t v 0):=by
  unfold Hid valueOkB scanB
  congr 1
  exact decide_eq_decide.2 (by omega)
 generalize hbb:scanB xs 10 t v 0=bb at *
 clear hbb hC
 go_wp2
 go_ret
 exact ⟨zA0 hf.out.symm,hB3⟩
def matchB (xs:List Dt) (t:Ty) (p:P) (v:V):Bool:=patternValidB xs t p && (valueOkB xs t v && (P.mat p v).isSome)
def matchV (xs:List Dt) (t:Ty) (p:P) (v:V):List Bd:=if matchB xs t p v=true then sortB ((P.mat p v).getD []) else []
theorem matchV_no {xs:List Dt} {t:Ty} {p:P} {v:V} (h:matchB xs t p v=false):matchV xs t p v=[]:=if_neg (by simp [h])
def MadeBd (bs:List Bd) (b:Bool) (w:World) (e:Ending) (w':World):Prop:=∃ x F,e=.returned (.tuple #[x,.bool b])∧Below w w w'∧Arr w' (BdR w') bs x F∧Free w' F∧Fresh w w' F
theorem mat_small:∀ (p:P) (v:V) (l:List Bd),P.mat p v=some l→∀ b∈l,b.val.size≤v.size:=P.ind fun op ct n m va ks ih v l h=>by
 have hs:∀ (ks:List P) (_:∀ k∈ks,∀ (v:V) (l:List Bd),P.mat k v=some l→∀ b∈l,b.val.size≤v.size) (vs:List V) (l:List Bd),P.mats ks vs=some l→∀ b∈l,b.val.size≤V.sizes vs:=by
  intro ks
  induction ks with
  |nil=>intro _ vs l h;rw [mats_nil] at h;cases h;intro b hb;cases hb
  |cons k ks ih2 =>
   intro hk vs l h
   cases vs with
   |nil=>cases h
   |cons v vs =>
    rw [P.mats] at h
    have h3:V.sizes (v :: vs)=1+v.size+V.sizes vs:=by simp only [V.sizes]
    cases hm:P.mat k v with
    |none=>rw [hm] at h;cases h
    |some a =>
     rw [hm] at h
     cases hn:P.mats ks vs with
     |none=>rw [hn] at h;cases h
     |some b =>
      rw [hn] at h
      cases h
      intro x hx
      rw [h3]
      rcases List.mem_append.1 hx with hx | hx
      ·have:=hk k (by simp) v a hm x hx;omega
      ·have:=ih2 (fun y hy=>hk y (by simp [hy])) vs b hn x hx;omega
 have ho:∀ (ks:List P) (_:∀ k∈ks,∀ (v:V) (l:List Bd),P.mat k v=some l→∀ b∈l,b.val.size≤v.size) (v:V) (l:List Bd),P.mator ks v=some l→∀ b∈l,b.val.size≤v.size:=by
  intro ks
  induction ks with
  |nil=>intro _ v l h;cases h
  |cons k ks ih2 =>
   intro hk v l h
   rw [P.mator] at h
   cases hm:P.mat k v with
   |none=>rw [hm] at h;exact ih2 (fun y hy=>hk y (by simp [hy])) v l h
   |some a=>rw [hm] at h;cases h;exact hk k (by simp) v _ hm
 rw [P.mat] at h
 split at h
 ·cases h;intro b hb;cases hb
 ·split at h
  ·cases h;intro b hb;rw [List.mem_singleton.1 hb];exact zz8 _
  ·split at h
   ·split at h
    ·cases h;intro b hb;cases hb
    ·cases h
   ·split at h
    ·exact ho ks ih v l h
    ·split at h
     ·cases hm:P.mator ks v with
      |none=>rw [hm] at h;cases h
      |some a =>
       rw [hm] at h
       cases h
       intro b hb
       rcases List.mem_cons.1 hb with e | e
       ·rw [e];exact zz8 _
       ·exact ho ks ih v a hm b e
     ·split at h
      ·intro b hb
       have h1:=hs ks ih v.ks l h b hb
       have h2:v.size=V.sizes v.ks:=by obtain ⟨a,b,c⟩:=v;rfl
       omega
      ·cases h
set_option maxHeartbeats 6400000 in
theorem spec_MatchPattern (xs:List Dt) (t:Ty) (p:P) (v:V) (hpz:p.size≤1048576) (hvz:v.size≤1048576) (w:World) (x:Value) (F:List Nat) (cs:List Value) (G:List Nat) (ds:List Value) (H:List Nat) (hx:Arr w (DtR w) xs x F) (hf:Under w F) (hp:PR w p cs G) (hg:Under w G) (hv:VR w v ds H) (hh:Under w H) :
  Calls Tryz.prog 11 #[x,.agg #[t.d,t.i],.agg cs.toArray,.agg ds.toArray] w (MadeBd (matchV xs t p v) (matchB xs t p v) w):=by
 obtain ⟨xA,xcap,rfl,-,-⟩:=hx.form
 obtain ⟨kp,rfl,hka⟩:=(zA8 _ _ _).1 hp
 obtain ⟨pA,pcap,rfl,-,-⟩:=hka.form
 obtain ⟨kv,rfl,hva⟩:=(zAF _ _ _).1 hv
 obtain ⟨vA,vcap,rfl,-,-⟩:=hva.form
 have hB2:Below w w (((w.alloc (.cells #[t.d,t.i] 39)).alloc (.cells #[p.op,p.ct,p.n,p.m,p.va,.slice pA p.ks.length pcap] 43)).alloc (.cells #[v.c,v.n,.slice vA v.ks.length vcap] 47)):=(((zy2 _ _).alloc (zz8 _) _).alloc (by simp) _).alloc (by simp;omega) _
 have KT2:Hid (Blk (((w.alloc (.cells #[t.d,t.i] 39)).alloc (.cells #[p.op,p.ct,p.n,p.m,p.va,.slice pA p.ks.length pcap] 43)).alloc (.cells #[v.c,v.n,.slice vA v.ks.length vcap] 47)) w.heap.size 39 #[t.d,t.i]):=((Blk.new w _ _).same (Below.heap_alloc _ _ _ (by simp))).same (Below.heap_alloc _ _ _ (by simp;omega))
 have KP2:Hid (Blk (((w.alloc (.cells #[t.d,t.i] 39)).alloc (.cells #[p.op,p.ct,p.n,p.m,p.va,.slice pA p.ks.length pcap] 43)).alloc (.cells #[v.c,v.n,.slice vA v.ks.length vcap] 47)) (w.heap.size+1) 43 #[p.op,p.ct,p.n,p.m,p.va,.slice pA p.ks.length pcap]):=(zA9 w _ 43 _).same (Below.heap_alloc _ _ _ (by simp))
 have KV2:Hid (Blk (((w.alloc (.cells #[t.d,t.i] 39)).alloc (.cells #[p.op,p.ct,p.n,p.m,p.va,.slice pA p.ks.length pcap] 43)).alloc (.cells #[v.c,v.n,.slice vA v.ks.length vcap] 47)) (w.heap.size+2) 47 #[v.c,v.n,.slice vA v.ks.length vcap]):=by
  have h:=zA9 (w.alloc (.cells #[t.d,t.i] 39)) (.cells #[p.op,p.ct,p.n,p.m,p.va,.slice pA p.ks.length pcap] 43) 47 #[v.c,v.n,.slice vA v.ks.length vcap]
  rw [World.size_alloc] at h
  exact h
 have HX2:=jj (ArrDt.below hx hB2 hf)
 have UX2:Hid (Under ((((w.alloc (.cells #[t.d,t.i] 39)).alloc (.cells #[p.op,p.ct,p.n,p.m,p.va,.slice pA p.ks.length pcap] 43)).alloc (.cells #[v.c,v.n,.slice vA v.ks.length vcap] 47))).heap.size F):=hf.mono hB2.size
 have HP2:=jj (hp.below hB2 hg)
 have UP2:Hid (Under ((((w.alloc (.cells #[t.d,t.i] 39)).alloc (.cells #[p.op,p.ct,p.n,p.m,p.va,.slice pA p.ks.length pcap] 43)).alloc (.cells #[v.c,v.n,.slice vA v.ks.length vcap] 47))).heap.size G):=hg.mono hB2.size
 have HV2:=jj (hv.below hB2 hh)
 have UV2:Hid (Under ((((w.alloc (.cells #[t.d,t.i] 39)).alloc (.cells #[p.op,p.ct,p.n,p.m,p.va,.slice pA p.ks.length pcap] 43)).alloc (.cells #[v.c,v.n,.slice vA v.ks.length vcap] 47))).heap.size H):=hh.mono hB2.size
 have HPZ:=jj hpz
 have HVZ:=jj hvz
 clear hx hf hp hg hv hh hka hva hpz hvz
 obtain ⟨cT0,cT1,lT⟩:=KT2.out.c2
 obtain ⟨cP0,cP1,cP2,cP3,cP4,cP5,lP⟩:=KP2.out.c6
 go_enter Tryz.func11,Tryz.ntmps11
 go_wp2_with fail
 clear cT0 cT1 lT cP0 cP1 cP2 cP3 cP4 cP5 lP
 obtain ⟨w2,hw2⟩:∃ X,X=(((w.alloc (.cells #[t.d,t.i] 39)).alloc (.cells #[p.op,p.ct,p.n,p.m,p.va,.slice pA p.ks.length pcap] 43)).alloc (.cells #[v.c,v.n,.slice vA v.ks.length vcap] 47)):=⟨_,rfl⟩
 rw [←hw2] at hB2 KT2 KP2 KV2 HX2 UX2 HP2 UP2 HV2 UV2 ⊢
 clear hw2
 refine (spec_PatternValid xs t p HPZ.out w2 _ F _ G HX2.out UX2.out HP2.out UP2.out).mono ?_
 rintro e w3 ⟨rfl,hb3⟩
 have hB3:=hB2.trans (hb3.mono hB2.size)
 have KT3:=jj (KT2.out.same (hb3.block _ KT2.out.lt))
 have KP3:=jj (KP2.out.same (hb3.block _ KP2.out.lt))
 have KV3:=jj (KV2.out.same (hb3.block _ KV2.out.lt))
 have HX3:=jj (ArrDt.below HX2.out hb3 UX2.out)
 have UX3:=jj (UX2.out.mono hb3.size)
 have HP3:=jj (HP2.out.below hb3 UP2.out)
 have UP3:=jj (UP2.out.mono hb3.size)
 have HV3:=jj (HV2.out.below hb3 UV2.out)
 have UV3:=jj (UV2.out.mono hb3.size)
 clear hB2 hb3 KT2 KP2 KV2 HX2 UX2 HP2 UP2 HV2 UV2
 cases hpv:patternValidB xs t p with
 |false =>
  have hno:matchB xs t p v=false:=by unfold matchB;rw [hpv];rfl
  have HNO:=jj hno
  clear hno hpv
  have hb9:Below w3 w3 (w3.alloc (.cells #[] 69)):=(zy2 _ _).alloc (zz8 _) _
  have hB9:=hB3.trans (hb9.mono hB3.size)
  go_wp2
  go_ret2
  rw [HNO.out,matchV_no HNO.out]
  exact ⟨_,[],rfl,hB9,⟨_,_,rfl,zz8 _,by simp [maxLen],.inl ⟨rfl,rfl⟩⟩,Free.nil _,Fresh.nil _ _⟩
 |true =>
  have hpv0:=hpv
  unfold patternValidB patOkB at hpv0
  simp only [Bool.and_eq_true] at hpv0
  obtain ⟨hw,hto⟩:=typeValid_split hpv0.1
  have HSH:=jj hpv0.2.1
  have hpn:nodesP p≤60:=by simpa using hpv0.2.2.1
  have HPN:=jj hpn
  clear hpn
  have HW:=jj hw
  have HTO:=jj hto
  have HPV:=jj hpv
  clear hpv hpv0 hw hto
  obtain ⟨cT0,cT1,lT⟩:=KT3.out.c2
  obtain ⟨cV0,cV1,cV2,lV⟩:=KV3.out.c3
  go_wp2_with fail
  clear cT0 cT1 lT cV0 cV1 cV2 lV
  refine (spec_l2Is xs t v w3 _ F _ H HX3.out UX3.out HV3.out UV3.out HW.out (zBC HTO.out) HVZ.out).mono ?_
  rintro e w4 ⟨rfl,hb4⟩
  have hB4:=hB3.trans (hb4.mono hB3.size)
  have KT4:=jj (KT3.out.same (hb4.block _ KT3.out.lt))
  have KP4:=jj (KP3.out.same (hb4.block _ KP3.out.lt))
  have KV4:=jj (KV3.out.same (hb4.block _ KV3.out.lt))
  have HX4:=jj (ArrDt.below HX3.out hb4 UX3.out)
  have UX4:=jj (UX3.out.mono hb4.size)
  have HP4:=jj (HP3.out.below hb4 UP3.out)
  have UP4:=jj (UP3.out.mono hb4.size)
  have HV4:=jj (HV3.out.below hb4 UV3.out)
  have UV4:=jj (UV3.out.mono hb4.size)
  clear hB3 hb4 KT3 KP3 KV3 HX3 UX3 HP3 UP3 HV3 UV3
  cases hvo:valueOkB xs t v with
  |false =>
   have hno:matchB xs t p v=false:=by unfold matchB;rw [hvo,Bool.false_and,Bool.and_false]
   have HNO:=jj hno
   clear hno hvo
   have hb9:Below w4 w4 (w4.alloc (.cells #[] 69)):=(zy2 _ _).alloc (zz8 _) _
   have hB9:=hB4.trans (hb9.mono hB4.size)
   go_wp2
   go_ret2
   rw [HNO.out,matchV_no HNO.out]
   exact ⟨_,[],rfl,hB9,⟨_,_,rfl,zz8 _,by simp [maxLen],.inl ⟨rfl,rfl⟩⟩,Free.nil _,Fresh.nil _ _⟩
  |true =>
   have hvo0:=hvo
   unfold valueOkB at hvo0
   simp only [Bool.and_eq_true] at hvo0
   have HFI:=jj hvo0.1
   have HVO:=jj hvo
   clear hvo hvo0
   obtain ⟨cP0,cP1,cP2,cP3,cP4,cP5,lP⟩:=KP4.out.c6
   obtain ⟨cV0,cV1,cV2,lV⟩:=KV4.out.c3
   go_wp2_with fail
   clear cP0 cP1 cP2 cP3 cP4 cP5 lP cV0 cV1 cV2 lV
   refine (spec_l3Match p 10 10 xs t v HSH.out HFI.out w4 _ [] [] _ G _ H ⟨_,_,rfl,zz8 _,by simp [maxLen],.inl ⟨rfl,rfl⟩⟩ (Under.nil _) HP4.out UP4.out HV4.out UV4.out (by have:=HPN.out;simp;omega)).mono ?_
   rintro e w5 ⟨x5,ok,F5,rfl,hb5,hok5,hl5⟩
   have HOK:=jj hok5
   have HL:=jj hl5
   clear hok5 hl5
   have hB5:=hB4.trans (hb5.mono hB4.size)
   have KT5:=jj (KT4.out.same (hb5.block _ KT4.out.lt))
   have KP5:=jj (KP4.out.same (hb5.block _ KP4.out.lt))
   have KV5:=jj (KV4.out.same (hb5.block _ KV4.out.lt))
   have HX5:=jj (ArrDt.below HX4.out hb5 UX4.out)
   have UX5:=jj (UX4.out.mono hb5.size)
   have HP5:=jj (HP4.out.below hb5 UP4.out)
   have UP5:=jj (UP4.out.mono hb5.size)
   have HV5:=jj (HV4.out.below hb5 UV4.out)
   have UV5:=jj (UV4.out.mono hb5.size)
   clear hB4 hb5 KT4 KP4 KV4 HX4 UX4 HP4 UP4 HV4 UV4
   cases ok with
   |false =>
    have hno:matchB xs t p v=false:=by unfold matchB;rw [←HOK.out,Bool.and_false,Bool.and_false]
    have HNO:=jj hno
    clear hno
    have hb9:Below w5 w5 (w5.alloc (.cells #[] 69)):=(zy2 _ _).alloc (zz8 _) _
    have hB9:=hB5.trans (hb9.mono hB5.size)
    go_wp2
    go_ret2
    rw [HNO.out,matchV_no HNO.out]
    exact ⟨_,[],rfl,hB9,⟨_,_,rfl,zz8 _,by simp [maxLen],.inl ⟨rfl,rfl⟩⟩,Free.nil _,Fresh.nil _ _⟩
   |true =>
    obtain ⟨l,hm⟩:∃ l,P.mat p v=some l:=by
     cases hm:P.mat p v with
     |none=>have:=HOK.out;rw [hm] at this;cases this
     |some l=>exact ⟨l,rfl⟩
    obtain ⟨ha5,hu5⟩:=HL.out l hm
    rw [List.nil_append] at ha5
    have hyes:matchB xs t p v=true:=by unfold matchB;rw [HPV.out,HVO.out,hm];rfl
    have hmv:matchV xs t p v=sortB l:=by unfold matchV;rw [if_pos hyes,hm];rfl
    have hll:=mat_len p v l hm
    have hls:∀ b∈l,b.val.size≤1048576:=fun b hb=>Nat.le_trans (mat_small p v l hm b hb) HVZ.out
    have HYES:=jj hyes
    have HMV:=jj hmv
    have HA5:=jj ha5
    have HU5:=jj hu5
    have HLS:=jj hls
    clear hm ha5 hu5 hyes hmv hls
    obtain ⟨lA,lcap,rfl,-,-⟩:=HA5.out.form
    go_wp2_with fail
    refine (spec_l3Sort l (by have:=HPN.out;omega) HLS.out w5 _ F5 HA5.out HU5.out).mono ?_
    rintro e w6 ⟨x6,F6,rfl,hb6,ha6,hfr6,hfs6⟩
    have hB6:=hB5.trans (hb6.mono hB5.size)
    have HFin:Hid (MadeBd (matchV xs t p v) (matchB xs t p v) w (.returned (.tuple #[x6,.bool true])) w6):=by
     rw [HMV.out,HYES.out]
     exact ⟨x6,F6,rfl,hB6,ha6,hfr6,fun b hb=>⟨Nat.le_trans hB5.size (hfs6 b hb).1,(hfs6 b hb).2⟩⟩
    clear ha6 hfr6 hfs6
    go_wp2
    go_ret2
    exact HFin.out
theorem run_app_void {P:Program} {w:World} (t ty e:TypeId) (i:TypeInfo) (ht:P.underlying t=some (.slice e)) (hi:P.info? e=some i) (A0:Option Addr) (n cap c:Nat) (hle:n≤cap) :
  (Builtin.append_ #[t,t] ty #[.slice A0 n cap,.slice none 0 c]).run P w=.ok (.slice A0 n cap) w:=by
 cases A0 <;> simp [Builtin.append_,run_underlying ht,sizeOf,typeInfo,hi,Builtin.lenOf,Builtin.firstCells,storeCells,hle]
theorem VtR_ones {w:World}:∀ {ys:List Vt} {cs:List Value} {G:List Nat},Flat (VtR w) ys cs G→∀ u∈cs,u.oneCell'=true
 |[],cs,G,h=>by rw [h.1];intro u hu;cases hu
 |y :: ys,cs,G,h=>by
  obtain ⟨c1,c2,F1,F2,rfl,rfl,h1,h2⟩:=h
  obtain ⟨rfl,rfl⟩:=h1
  intro u hu
  rcases List.mem_append.1 hu with h | h
  ·simp at h
   rcases h with rfl | rfl | rfl <;> rfl
  ·exact VtR_ones h2 u h
theorem run_append_vars {P:Program} {w:World} {B:Nat} {E:TypeId} (t ty:TypeId) (i:TypeInfo) (z:Value) (bytes:Nat) (ht:P.underlying t=some (.slice E)) (hi:P.info? E=some i) (hz:i.zero=some z)
  (hsize:i.size=3) (hby:i.bytes=bytes) (hzs:z.cells.size=3) {xs:List Vt} {v:Value}
  (hown:Own w B E 3 VtR xs v []) {ys:List Vt} {A:Option Addr} {n c:Nat} {F:List Nat} (hy:Arr w (VtR w) ys (.slice A n c) F)
  (h63:xs.length+ys.length≤maxLen) (hbytes:(xs.length+ys.length)*bytes≤140737488355328) (hbase:B≤w.heap.size) :
  ∃ v' w',(Builtin.append_ #[t,t] ty #[v,.slice A n c]).run P w=.ok v' w'∧Own w' B E 3 VtR (xs ++ ys) v' []∧w.grownBy w' v.ownBlock∧∀ b∈rowOf v',b∈rowOf v∨w.heap.size≤b:=by
 obtain ⟨A',c',hv,h1,h2,h3⟩:=hy
 cases hv
 have hrow:∀ {v':Value},(v'.ownBlock=v.ownBlock∨v'.ownBlock=some w.heap.size)→∀ b∈rowOf v',b∈rowOf v∨w.heap.size≤b:=fun {v'} h b hb=>by
  have hb:=zA1.1 hb
  rcases h with h | h
  ·left;rw [h] at hb;exact zA1.2 hb
  ·right;rw [h] at hb;have:=Option.some.inj hb;omega
 rcases h3 with ⟨rfl,-⟩ | ⟨b,off,cs,G,rfl,hc,hf,-⟩
 ·cases A with
  |none =>
   obtain ⟨A0,cap,rfl,hc1,hc2⟩:=hown.form
   exact ⟨_,w,run_app_void t ty E i ht hi A0 _ cap c hc1,by rw [List.append_nil];exact hown,⟨rfl,rfl,rfl,zz8 _,fun _ _ _=>rfl⟩,fun b hb=>.inl hb⟩
  |some a =>
   obtain ⟨cs,o1,o2,o3,o4⟩:=hown
   obtain ⟨v',w',hr,q1,q2,q3,q4⟩:=run_append_own_at (P:=P) w B t ty E i z 3 bytes ht hi hz hsize hby hzs (by decide) _ xs.length cs o1 a 0 c [] (by simp) (fun j u h=>by simp at h) (fun u h=>by cases h) (by simpa using h63) (by simpa using hbytes) hbase
   exact ⟨v',w',hr,⟨cs,by simpa using q1,by rw [List.append_nil];exact o2,Under.nil _,fun g _ h=>by cases h⟩,q2,hrow q4⟩
 ·obtain ⟨cs0,o1,o2,o3,o4⟩:=hown
  have hl:cs.length=ys.length*3:=hf.length (VtR_len w)
  have hG:=hf.nilF (fun x cs G h=>h.2)
  subst hG
  obtain ⟨v',w',hr,q1,q2,q3,q4⟩:=run_append_own_at (P:=P) w B t ty E i z 3 bytes ht hi hz hsize hby hzs (by decide) _ xs.length cs0 o1 ⟨b,off,none⟩ ys.length c cs hl (fun j u hj=>by rw [Addr.add_lit];exact hc j u hj) (VtR_ones hf) h63 hbytes hbase
  refine ⟨v',w',hr,⟨cs0 ++ cs,by rw [List.length_append];exact q1,?_,Under.nil _,fun g _ h=>by cases h⟩,q2,hrow q4⟩
  have h:=Flat.append o2 hf
  exact h
theorem zAQ {P:Program} {w:World} {ops:Array Oper} {rest:List Oper} {o:Oper} {a:Act} {Q:Exit→Act→World→Prop} (hgd:o.guard=none) (s x:Operand) (t:TypeId)
  (ho:o.op=.call { callee:=.builtin .append,args:=#[s,x],argTypes:=#[t,t] }) {sv xv v':Value} {w':World} (hs:a.eval s=sv) (hx:a.eval x=xv)
  (hr:(Builtin.append_ #[t,t] o.type #[sv,xv]).run P w=.ok v' w') (h:wpList P ops Q rest (a.put o.dst v') w'):wpList P ops Q (o :: rest) a w:=by
 refine wpList_plain hgd fun K hK=>?_
 unfold Oper.wp execOp
 simp only [ho,resolve,invoke,builtin,Sem.run_bind,Sem.run_pure,Result.andThen_ok,List.map_toArray,List.map_cons,List.map_nil,hs,hx,hr]
 exact hK _ _ h
end Go.Proofs.YtghekinfoadcoaaGreat
