/-
  Lemmas, and contracts of functions. Conditions: none.
-/
import Derived.Test.YtjjclcmmfeegfaaHAB
import Derived.Test.YtjjclcmmfeegfaaHAF
import Derived.Deep.RegionWith
import Derived.Test.YtjjclcmmfeegfaaHAJ
import Derived.Test.YtjjclcmmfeegfaaHAH
import Derived.Lib.SliceRun
import Derived.IntWalk
import Derived.Test.YtjjclcmmfeegfaaHAG
import Derived.Test.YtjjclcmmfeegfaaHAA
import Derived.Deep.RegionHeld3
import Derived.Deep.QuietTactic
import Derived.BigQuiet

set_option linter.unusedVariables false
set_option linter.unusedSimpArgs false
set_option maxRecDepth 100000
set_option maxHeartbeats 1600000

namespace Go.Proofs.Ytjjclcmmfeegfaa
open Go.RowKit
set_option maxHeartbeats 6400000 in
theorem impl_ownPattern_of (p:P) (ih:∀ k∈p.ks,CopyP 56 k):CopyP 56 p:=by
 intro w cs G hv hg hz
 obtain ⟨kv,rfl,ha⟩:=(zA4 _ _ _).1 hv
 obtain ⟨A4,cap4,rfl,hc3,hc4⟩:=ha.form
 obtain ⟨i0,hi,hz0,hz1,hz2⟩:=info_parts info_PE
 have IH:=jj ih
 have HI:=jj hi
 have HZ0:=jj hz0
 have HZ1:=jj hz1
 have HZ2:=jj hz2
 have HA:=jj ha
 have HG:=jj hg
 clear hi hz0 hz1 hz2 ha hg
 have hzk:P.sizes p.ks≤1048576:=by obtain ⟨op,ct,n,m,va,ks⟩:=p;exact hz
 have hkl:p.ks.length≤1048576:=by rw [P.sizes_eq] at hzk;omega
 have HZ:=jj hzk
 clear ih hv hz hzk
 have hB0:Below w w ((w.alloc (.cells #[p.op,p.ct,p.n,p.m,p.va,.slice none 0 0] 28)).alloc (.cells #[(0:Int),(0:Int),(0:Int),(0:Int),(0:Int),.slice none 0 0] 28)):=((zy2 _ _).alloc (zz8 _) _).alloc (by simp) _
 have K0:Hid (Blk ((w.alloc (.cells #[p.op,p.ct,p.n,p.m,p.va,.slice none 0 0] 28)).alloc (.cells #[(0:Int),(0:Int),(0:Int),(0:Int),(0:Int),.slice none 0 0] 28)) (w.heap.size) 28 #[p.op,p.ct,p.n,p.m,p.va,.slice none 0 0]):=(Blk.new w 28 #[p.op,p.ct,p.n,p.m,p.va,.slice none 0 0]).same (Below.heap_alloc _ _ _ (by simp))
 have R0:Hid (Blk ((w.alloc (.cells #[p.op,p.ct,p.n,p.m,p.va,.slice none 0 0] 28)).alloc (.cells #[(0:Int),(0:Int),(0:Int),(0:Int),(0:Int),.slice none 0 0] 28)) (w.heap.size+1) 28 #[(0:Int),(0:Int),(0:Int),(0:Int),(0:Int),.slice none 0 0]):=zA8 w _ 28 #[(0:Int),(0:Int),(0:Int),(0:Int),(0:Int),.slice none 0 0]
 have hs0:((w.alloc (.cells #[p.op,p.ct,p.n,p.m,p.va,.slice none 0 0] 28)).alloc (.cells #[(0:Int),(0:Int),(0:Int),(0:Int),(0:Int),.slice none 0 0] 28)).heap.size=w.heap.size+2:=by simp
 go_enter Try.func56,Try.ntmps56
 go_wp2_with fail
 obtain ⟨w9,hw9⟩:∃ w9,w9=((w.alloc (.cells #[p.op,p.ct,p.n,p.m,p.va,.slice none 0 0] 28)).alloc (.cells #[(0:Int),(0:Int),(0:Int),(0:Int),(0:Int),.slice none 0 0] 28)):=⟨_,rfl⟩
 rw [←hw9] at hB0 K0 R0 hs0 ⊢
 clear hw9
 go_loopw [11] (fun iv wr=>∃ i:Nat,∃ kv:Value,∃ Fk:List Nat,i≤p.ks.length∧iv=.int .i64 i∧Hid (Blk wr (w.heap.size) 28 #[p.op,p.ct,p.n,p.m,p.va,kv])∧Hid (Own wr (w.heap.size+2) 28 6 PR (kipTo p.ks i) kv Fk)∧Hid (Free wr Fk)∧Hid (∀ b∈Fk,w.heap.size+2≤b)∧Hid (Chg [w.heap.size] w9 wr)∧Below w w wr∧w9.heap.size≤wr.heap.size) (fun iv _=>p.ks.length-(intOf iv).toNat)
 case atStart=>exact ⟨0,_,[],Nat.zero_le _,rfl,K0,(show Own _ _ _ _ _ (kipTo p.ks 0) _ _ from Own.nil _ _ _ _ _),Free.nil _,(fun b hb=>by cases hb),Chg.refl _ _,hB0,zz8 _⟩
 case round =>
  clear hB0 K0
  obtain ⟨i,kv,Fk,hi,rfl,KD,HO,HFk,HFh,HC,hB,hws⟩:=hrel
  obtain ⟨kA,kcap,hkv,hkc1,hkc2⟩:=HO.out.form
  subst hkv
  have klt:=KD.out.lt
  by_cases hil:i<p.ks.length
  ·obtain ⟨b4,off4,rfl⟩:=HA.out.ptr (by omega)
   have hb4w:b4<w.heap.size:=by obtain ⟨_,_,_,_,e,hb,-⟩:=HA.out.get PR_len hil;cases e;exact HG.out _ hb
   obtain ⟨A7,cap7,G7,hb7,k0,k1,k2,k3,k4,k5,HV7,HG7,-,-,-⟩:=ArrP.at HA.out HG.out hB i hil
   have g1:(0:Int)≤(i:Int):=by omega
   have g2:(i:Int)<(p.ks.length:Int):=by omega
   have hkk:=kipTo_len p.ks i
   have HKS:Hid (p.ks[i].size≤1048576):=by have h1:=P.sizes_mem2 p.ks i hil;have h2:=HZ.out;unfold Hid;omega
   have hmx:(kipTo p.ks i).length+1≤maxLen:=by unfold maxLen;omega
   have hby:((kipTo p.ks i).length+1)*64≤140737488355328:=by omega
   go_wp2_with fail
   obtain ⟨wk,hwk⟩:∃ wk,wk=wr.alloc (.cells #[p.ks[i].op,p.ks[i].ct,p.ks[i].n,p.ks[i].m,p.ks[i].va,.slice A7 p.ks[i].ks.length cap7] 28):=⟨_,rfl⟩
   have hBk:Below wr wr wk:=by rw [hwk];exact (zy2 _ _).alloc (zz8 _) _
   have KK:Blk wk wr 28 #[p.ks[i].op,p.ks[i].ct,p.ks[i].n,p.ks[i].m,p.ks[i].va,.slice A7 p.ks[i].ks.length cap7]:=by rw [hwk];exact Blk.new _ _ _
   have hwks:wk.heap.size=wr.heap.size+1:=by rw [hwk];simp
   rw [←hwk]
   clear hwk
   obtain ⟨z0,z1,z2,z3,z4,z5,-⟩:=KK.c6
   have KDk:=KD.out.same (hBk.block _ KD.out.lt)
   have zT:wk.drew.cell? ⟨w,5,none⟩=some (.slice kA (kipTo p.ks i).length kcap):=(KDk.cell 5).trans (by simp)
   have zfT:wk.drew.frozen? ⟨w,5,none⟩=false:=KDk.frozen 5
   have kklt:wr.heap.size<wk.drew.heap.size:=KK.lt
   have hkT:w.heap.size<wk.drew.heap.size:=KDk.lt
   clear KK KDk k0 k1 k2 k3 k4 k5
   have HBk:=jj hBk.drew
   clear hBk
   have HCALL:=jj (IH.out p.ks[i] (List.getElem_mem hil) wk.drew _ G7 ((HV7.out.below hB HG7.out).below HBk.out (HG7.out.mono hB.size)) (HG7.out.mono (Nat.le_trans hB.size HBk.out.size)) HKS.out)
   refine zA6 (S:=fun w'=>w'.cell? ⟨wr,0,none⟩=p.ks[i].op∧w'.cell? ⟨wr,1,none⟩=p.ks[i].ct∧w'.cell? ⟨wr,2,none⟩=p.ks[i].n∧w'.cell? ⟨wr,3,none⟩=p.ks[i].m∧w'.cell? ⟨wr,4,none⟩=p.ks[i].va∧w'.cell? ⟨wr,5,none⟩=some (.slice A7 p.ks[i].ks.length cap7)) (T:=fun w'=>w'.cell? ⟨w,5,none⟩=some (.slice kA (kipTo p.ks i).length kcap)) (d:=5) (by kernel_rfl) ?_
   have hS1:wk.drew.cell? ⟨wr,0,none⟩=p.ks[i].op∧wk.drew.cell? ⟨wr,1,none⟩=p.ks[i].ct∧wk.drew.cell? ⟨wr,2,none⟩=p.ks[i].n∧wk.drew.cell? ⟨wr,3,none⟩=p.ks[i].m∧wk.drew.cell? ⟨wr,4,none⟩=p.ks[i].va∧wk.drew.cell? ⟨wr,5,none⟩=some (.slice A7 p.ks[i].ks.length cap7):=⟨z0,z1,z2,z3,z4,z5⟩
   have hT1:wk.drew.cell? ⟨w,5,none⟩=some (.slice kA (kipTo p.ks i).length kcap):=zT
   refine wV 0 rfl hS1 hT1 ?_
   (try simp only [Act.put,zz4,zz5,zz6])
   refine zAM (i:=1) (v:=?_) rfl (by decide) rfl (by kernel_rfl) (by kernel_rfl) (by kernel_rfl) (by kernel_rfl) (fun _ _ _ h=>h) (Or.inl ⟨by rfl,?hy1⟩) (by rfl) hS1 hT1 ?_
   case hy1=>(intro W hSw;(try dsimp only at hSw);(obtain ⟨⟨s0,s1,s2,s3,s4,s5⟩,tT⟩:=hSw);go_simp;try with_reducible rfl)
   (try simp only [Act.put,zz4,zz5,zz6])
   refine wV 2 rfl hS1 hT1 ?_
   (try simp only [Act.put,zz4,zz5,zz6])
   refine w1 3 rfl fun K hK=>?_
   go_simp
   go_at_call 56
   with_reducible refine HCALL.out.mono ?_
   rintro e wA ⟨csA,FA,rfl,hbA,hpA,hfrA,hfsA⟩
   obtain ⟨kvA,rfl,haA⟩:=(zA4 _ _ _).1 hpA
   obtain ⟨A8,cap8,rfl,-,-⟩:=haA.form
   clear haA
   have HBu:=jj (HBk.out.trans (hbA.mono HBk.out.size))
   have HPA:=jj hpA
   have HFrA:=jj hfrA
   have HFsA:Hid (∀ b∈FA,wr.heap.size≤b∧b<wA.heap.size):=fun b hb=>⟨Nat.le_trans HBk.out.size (hfsA b hb).1,(hfsA b hb).2⟩
   have HOA:Hid (Own wA (w.heap.size+2) 28 6 PR (kipTo p.ks i) (.slice kA (kipTo p.ks i).length kcap) Fk):=HO.out.below (fun x cs G hk h=>PR_mono' _ _ x cs G hk h) HBu.out
   have hbs:w.heap.size+2≤wA.heap.size:=by have:=HBu.out.size;omega
   have hSA:wA.cell? ⟨wr,0,none⟩=p.ks[i].op∧wA.cell? ⟨wr,1,none⟩=p.ks[i].ct∧wA.cell? ⟨wr,2,none⟩=p.ks[i].n∧wA.cell? ⟨wr,3,none⟩=p.ks[i].m∧wA.cell? ⟨wr,4,none⟩=p.ks[i].va∧wA.cell? ⟨wr,5,none⟩=some (.slice A7 p.ks[i].ks.length cap7):=⟨(hbA.cell (p:=⟨wr,0,none⟩) kklt).trans z0,(hbA.cell (p:=⟨wr,1,none⟩) kklt).trans z1,(hbA.cell (p:=⟨wr,2,none⟩) kklt).trans z2,(hbA.cell (p:=⟨wr,3,none⟩) kklt).trans z3,(hbA.cell (p:=⟨wr,4,none⟩) kklt).trans z4,(hbA.cell (p:=⟨wr,5,none⟩) kklt).trans z5⟩
   have zA:wA.cell? ⟨w,5,none⟩=some (.slice kA (kipTo p.ks i).length kcap):=(hbA.cell (p:=⟨w,5,none⟩) hkT).trans zT
   have zfA:wA.frozen? ⟨w,5,none⟩=false:=(hbA.frozen hkT).trans zfT
   have hkA:w.heap.size<wA.heap.size:=zz9 hkT hbA.size
   have kl0:wr.heap.size<wA.heap.size:=zz9 kklt hbA.size
   have kl1:wr.heap.size<wA.heap.size:=zz9 kklt hbA.size
   have kl2:wr.heap.size<wA.heap.size:=zz9 kklt hbA.size
   have kl3:wr.heap.size<wA.heap.size:=zz9 kklt hbA.size
   have kl4:wr.heap.size<wA.heap.size:=zz9 kklt hbA.size
   have kl5:wr.heap.size<wA.heap.size:=zz9 kklt hbA.size
   have hSB:(wA.alloc (.cells [.int .i64 p.ks[i].op,.int .i64 p.ks[i].ct,.int .i64 p.ks[i].n,.int .i64 p.ks[i].m,.int .i64 p.ks[i].va,.slice A8 p.ks[i].ks.length cap8].toArray 28)).cell? ⟨wr,0,none⟩=p.ks[i].op∧(wA.alloc (.cells [.int .i64 p.ks[i].op,.int .i64 p.ks[i].ct,.int .i64 p.ks[i].n,.int .i64 p.ks[i].m,.int .i64 p.ks[i].va,.slice A8 p.ks[i].ks.length cap8].toArray 28)).cell? ⟨wr,1,none⟩=p.ks[i].ct∧(wA.alloc (.cells [.int .i64 p.ks[i].op,.int .i64 p.ks[i].ct,.int .i64 p.ks[i].n,.int .i64 p.ks[i].m,.int .i64 p.ks[i].va,.slice A8 p.ks[i].ks.length cap8].toArray 28)).cell? ⟨wr,2,none⟩=p.ks[i].n∧(wA.alloc (.cells [.int .i64 p.ks[i].op,.int .i64 p.ks[i].ct,.int .i64 p.ks[i].n,.int .i64 p.ks[i].m,.int .i64 p.ks[i].va,.slice A8 p.ks[i].ks.length cap8].toArray 28)).cell? ⟨wr,3,none⟩=p.ks[i].m∧(wA.alloc (.cells [.int .i64 p.ks[i].op,.int .i64 p.ks[i].ct,.int .i64 p.ks[i].n,.int .i64 p.ks[i].m,.int .i64 p.ks[i].va,.slice A8 p.ks[i].ks.length cap8].toArray 28)).cell? ⟨wr,4,none⟩=p.ks[i].va∧(wA.alloc (.cells [.int .i64 p.ks[i].op,.int .i64 p.ks[i].ct,.int .i64 p.ks[i].n,.int .i64 p.ks[i].m,.int .i64 p.ks[i].va,.slice A8 p.ks[i].ks.length cap8].toArray 28)).cell? ⟨wr,5,none⟩=some (.slice A7 p.ks[i].ks.length cap7):=⟨(World.cell?_alloc_lt _ _ _ kl0).trans hSA.1,(World.cell?_alloc_lt _ _ _ kl1).trans hSA.2.1,(World.cell?_alloc_lt _ _ _ kl2).trans hSA.2.2.1,(World.cell?_alloc_lt _ _ _ kl3).trans hSA.2.2.2.1,(World.cell?_alloc_lt _ _ _ kl4).trans hSA.2.2.2.2.1,(World.cell?_alloc_lt _ _ _ kl5).trans hSA.2.2.2.2.2⟩
   dsimp only
   refine hK.out _ _ hSA (fun _=>zA) ?_
   clear hK K
   (try simp only [Act.put,zz4,zz5,zz6])
   refine w1 4 rfl fun K hK=>?_
   go_simp
   refine hK.out _ _ hSB (fun _=>(World.cell?_alloc_lt _ _ _ hkA).trans zA) ?_
   clear hK K
   (try simp only [Act.put,zz4,zz5,zz6])
   refine w1 5 rfl fun K hK=>?_
   refine zAF (P:=Try.prog) rfl _ _ 26 rfl i0 _ 64 Try.underlying26 HI.out HZ0.out HZ1.out HZ2.out rfl (by decide) PR_len' PR_mono' (by rfl) HOA.out p.ks[i] 28 [p.ks[i].op,p.ks[i].ct,p.ks[i].n,p.ks[i].m,p.ks[i].va,.slice A8 p.ks[i].ks.length cap8] FA wA.heap.size (by rfl) rfl (by simp [Value.oneCell']) HPA.out (fun b hb=>(HFsA.out b hb).2) (fun g hg hG=>Nat.lt_irrefl _ (zz9 (HO.out.row g hg).2 (HFsA.out g hG).1)) hmx hby hbs ?_
   intro g cp w7 hown7 hgr7 hat7
   have hrow7:=HOA.out.row
   have n7:∀ x,(x<w.heap.size+2∨wr.heap.size≤x)→some x≠(Value.ownBlock (.slice kA (kipTo p.ks i).length kcap)):=fun x hx e=>by
    have h1:=(hrow7 x (zA1.2 e.symm)).1
    have h2:=(HO.out.row x (zA1.2 e.symm)).2
    omega
   have l7:wA.heap.size≤(wA.alloc (.cells [.int .i64 p.ks[i].op,.int .i64 p.ks[i].ct,.int .i64 p.ks[i].n,.int .i64 p.ks[i].m,.int .i64 p.ks[i].va,.slice A8 p.ks[i].ks.length cap8].toArray 28)).heap.size:=by rw [World.size_alloc];exact Nat.le_succ _
   have s7:w7.cell? ⟨wr,0,none⟩=p.ks[i].op∧w7.cell? ⟨wr,1,none⟩=p.ks[i].ct∧w7.cell? ⟨wr,2,none⟩=p.ks[i].n∧w7.cell? ⟨wr,3,none⟩=p.ks[i].m∧w7.cell? ⟨wr,4,none⟩=p.ks[i].va∧w7.cell? ⟨wr,5,none⟩=some (.slice A7 p.ks[i].ks.length cap7):=⟨(World.grownBy.cell_far hgr7 ⟨wr,0,none⟩ (zz9 kl0 l7) (n7 (wr.heap.size) (by omega))).trans hSB.1,(World.grownBy.cell_far hgr7 ⟨wr,1,none⟩ (zz9 kl1 l7) (n7 (wr.heap.size) (by omega))).trans hSB.2.1,(World.grownBy.cell_far hgr7 ⟨wr,2,none⟩ (zz9 kl2 l7) (n7 (wr.heap.size) (by omega))).trans hSB.2.2.1,(World.grownBy.cell_far hgr7 ⟨wr,3,none⟩ (zz9 kl3 l7) (n7 (wr.heap.size) (by omega))).trans hSB.2.2.2.1,(World.grownBy.cell_far hgr7 ⟨wr,4,none⟩ (zz9 kl4 l7) (n7 (wr.heap.size) (by omega))).trans hSB.2.2.2.2.1,(World.grownBy.cell_far hgr7 ⟨wr,5,none⟩ (zz9 kl5 l7) (n7 (wr.heap.size) (by omega))).trans hSB.2.2.2.2.2⟩
   have z71:w7.cell? ⟨w,5,none⟩=some (.slice kA (kipTo p.ks i).length kcap):=(World.grownBy.cell_far hgr7 ⟨w,5,none⟩ (zz9 hkA l7) (n7 (w.heap.size) (by omega))).trans ((World.cell?_alloc_lt _ _ _ hkA).trans zA)
   have zf71:w7.frozen? ⟨w,5,none⟩=false:=(World.grownBy.frozen_far hgr7 ⟨w,5,none⟩ (zz9 hkA l7) (n7 (w.heap.size) (by omega))).trans (Eq.trans (World.frozen?_of_block (Below.heap_alloc _ _ _ hkA)) zfA)
   refine hK.out _ _ s7 (fun h=>by cases h) ?_
   clear hK K
   (try simp only [Act.put,zz4,zz5,zz6])
   refine wU (i:=6) (v:=?_) rfl (Or.inl ⟨by rfl,?hy6⟩) s7 (fun h=>by cases h) ?_
   case hy6=>(intro W hSw;(try dsimp only at hSw);(obtain ⟨s0,s1,s2,s3,s4,s5⟩:=hSw);go_simp;try with_reducible rfl)
   (try simp only [Act.put,zz4,zz5,zz6])
   refine w1 7 rfl fun K hK=>?_
   go_simp
   refine hK.out _ _ ⟨(World.cell?_setCell_far _ _ _ _ (by show w.heap.size≠wr.heap.size;omega)).trans s7.1,(World.cell?_setCell_far _ _ _ _ (by show w.heap.size≠wr.heap.size;omega)).trans s7.2.1,(World.cell?_setCell_far _ _ _ _ (by show w.heap.size≠wr.heap.size;omega)).trans s7.2.2.1,(World.cell?_setCell_far _ _ _ _ (by show w.heap.size≠wr.heap.size;omega)).trans s7.2.2.2.1,(World.cell?_setCell_far _ _ _ _ (by show w.heap.size≠wr.heap.size;omega)).trans s7.2.2.2.2.1,(World.cell?_setCell_far _ _ _ _ (by show w.heap.size≠wr.heap.size;omega)).trans s7.2.2.2.2.2⟩ (fun h=>by cases h) ?_
   clear hK K
   (try simp only [Act.put,zz4,zz5,zz6])
   refine wE (by kernel_rfl) ?_
   have HF2:=jj (kipTo_succ p.ks i hil)
   obtain ⟨r1,r2,r3,r4,r5,r6,r7⟩:=kid_round2 5 PR_mono' hs0 (by omega) KD.out HO.out HFk.out HFh.out HC.out hB (by omega) (zz8 _) HBu.out HFrA.out HFsA.out hown7 hgr7
   have R1:=jj r1
   have R2:=jj r2
   have R3:=jj r3
   have R4:=jj r4
   have R5:=jj r5
   have R6:=jj r6
   clear r1 r2 r3 r4 r5 r6 hown7 hgr7 hat7 hrow7 n7 l7 s7 z71 zf71 hSA zA zfA hkA hSB hS1 hT1 zT zfT hkT HCALL
   go_wp2
   go_roundw
   case rel=>exact ⟨i+1,_,_,hil,by go_num,R1,by rw [HF2.out];exact R2.out,R3,R4,R5,R6.out,r7⟩
   case measure=>(simp [intOf] <;> omega)
  ·have HO2:=HO.out
   rw [kipTo_all p.ks (by omega)] at HO2
   have hln:=congrArg List.length (kipTo_all p.ks (i:=i) (by omega))
   obtain ⟨FF,hf1,hf2,hf3⟩:=kid_done (H:=w.heap.size+2) HO2 HFk.out HFh.out (zz8 _)
   have HF1:=jj hf1
   have HF2:=jj hf2
   have HF3:=jj hf3
   have e0:=(KD.out.cell 0).trans (show _=some (.int .i64 p.op) from by simp)
   have e1:=(KD.out.cell 1).trans (show _=some (.int .i64 p.ct) from by simp)
   have e2:=(KD.out.cell 2).trans (show _=some (.int .i64 p.n) from by simp)
   have e3:=(KD.out.cell 3).trans (show _=some (.int .i64 p.m) from by simp)
   have e4:=(KD.out.cell 4).trans (show _=some (.int .i64 p.va) from by simp)
   have e5:=(KD.out.cell 5).trans (show _=some (.slice kA (kipTo p.ks i).length kcap) from by simp)
   have HLN:=jj hln
   have RR:=jj (R0.out.same (HC.out.block _ R0.out.lt (by simp)))
   have rlt:=RR.out.lt
   have rc0:=(RR.out.cell 0).trans (show _=some (.int .i64 0) from by simp)
   have rf0:=RR.out.frozen 0
   have rc1:=(RR.out.cell 1).trans (show _=some (.int .i64 0) from by simp)
   have rf1:=RR.out.frozen 1
   have rc2:=(RR.out.cell 2).trans (show _=some (.int .i64 0) from by simp)
   have rf2:=RR.out.frozen 2
   have rc3:=(RR.out.cell 3).trans (show _=some (.int .i64 0) from by simp)
   have rf3:=RR.out.frozen 3
   have rc4:=(RR.out.cell 4).trans (show _=some (.int .i64 0) from by simp)
   have rf4:=RR.out.frozen 4
   have rc5:=(RR.out.cell 5).trans (show _=some (.slice none 0 0) from by simp)
   have rf5:=RR.out.frozen 5
   clear hf1 hf2 hf3 HO2 hln
   go_wp2
   clear e0 e1 e2 e3 e4 e5 rc0 rf0 rc1 rf1 rc2 rf2 rc3 rf3 rc4 rf4 rc5 rf5
   refine bodyPost_ret (zA2 rfl _ _ (w.heap.size+1) 28 #[p.op,p.ct,p.n,p.m,p.va,.slice kA (kipTo p.ks i).length kcap] (0,0) _ rfl (RR.out.six _ _ _ _ _ _) Try.underlying28 rfl rfl) rfl ?_
   have hkp:Kept FF wr _:=zAI (w:=wr) (H:=w.heap.size+1) (fun b hb=>by have:=(HF3.out b hb).1;omega) (.int .i64 p.op) (.int .i64 p.ct) (.int .i64 p.n) (.int .i64 p.m) (.int .i64 p.va) (.slice kA (kipTo p.ks i).length kcap)
   refine ⟨[p.op,p.ct,p.n,p.m,p.va,.slice kA (kipTo p.ks i).length kcap],FF,rfl,below_six hB (by omega) _ _ _ _ _ _,?_,HF2.out.kept hkp,fun b hb=>⟨by have:=(HF3.out b hb).1;omega,?_⟩⟩
   ·exact (zA4 _ _ _).2 ⟨_,rfl,ArrP.mono (by rw [HLN.out];exact HF1.out) hkp⟩
   ·rw [zAJ];exact (HF3.out b hb).2
theorem impl_ownPattern:∀ p,CopyP 56 p:=P.indv impl_ownPattern_of
def OwnPs (fn:FuncId) (ps:List P):Prop:=∀ (w:World) (x:Value) (F:List Nat),Arr w (PR w) ps x F→Under w F→(∀ q∈ps,q.size≤1048576)→ps.length≤1000 →
 Calls Try.prog fn #[x] w fun e w'=>∃ v G,e=.returned v∧Below w w w'∧Arr w' (PR w') ps v G∧Free w' G∧Fresh w w' G
set_option maxHeartbeats 6400000 in
theorem impl_ownPatterns (ps:List P):OwnPs 24 ps:=by
 intro w x F hx hf hz hl
 obtain ⟨A4,cap4,rfl,hc3,hc4⟩:=hx.form
 obtain ⟨i0,hi,hz0,hz1,hz2⟩:=info_parts info_PE
 have HZ:=jj hz
 clear hz
 have HI:=jj hi
 have HZ0:=jj hz0
 have HZ1:=jj hz1
 have HZ2:=jj hz2
 have HX:=jj hx
 have HF:=jj hf
 clear hi hz0 hz1 hz2 hx hf
 go_enter Try.func24,Try.ntmps24
 go_wp2
 go_loopw [3,8] (fun ov iv wr=>∃ i:Nat,∃ Fo:List Nat,i≤ps.length∧iv=.int .i64 i∧Hid (Own wr w.heap.size 28 6 PR (kipTo ps i) ov Fo)∧Hid (Free wr Fo)∧Hid (∀ b∈Fo,w.heap.size≤b)∧Below w w wr) (fun _ iv _=>ps.length-(intOf iv).toNat)
 case atStart=>exact ⟨0,[],Nat.zero_le _,rfl,(show Own _ _ _ _ _ (kipTo ps 0) _ _ from Own.nil _ _ _ _ _),Free.nil _,(fun b hb=>by cases hb),zy2 _ _⟩
 case round =>
  obtain ⟨i,Fo,hi,rfl,HO,HFr,HFo,hB⟩:=hrel
  obtain ⟨oA,ocap,hov,-,-⟩:=HO.out.form
  subst hov
  have hkk:=kipTo_len ps i
  by_cases hil:i<ps.length
  ·obtain ⟨b4,off4,rfl⟩:=HX.out.ptr (by omega)
   obtain ⟨A7,cap7,G7,hb7,k0,k1,k2,k3,k4,k5,HV7,HG7,-,-,-⟩:=ArrP.at HX.out HF.out hB i hil
   have g1:(0:Int)≤(i:Int):=by omega
   have g2:(i:Int)<(ps.length:Int):=by omega
   have HKS:=jj (HZ.out ps[i] (List.getElem_mem hil))
   have HF2:=jj (kipTo_succ ps i hil)
   have hmx:(kipTo ps i).length+1≤maxLen:=by unfold maxLen;omega
   have hby:((kipTo ps i).length+1)*64≤140737488355328:=by omega
   obtain ⟨q,hq⟩:∃ u,u=ps[i]:=⟨_,rfl⟩
   rw [←hq] at k0 k1 k2 k3 k4 k5 HV7 HKS HF2
   clear hq
   go_wp2_with fail
   obtain ⟨wk,hwk⟩:∃ wk,wk=wr.alloc (.cells #[q.op,q.ct,q.n,q.m,q.va,.slice A7 q.ks.length cap7] 28):=⟨_,rfl⟩
   have hBk:Below wr wr wk:=by rw [hwk];exact (zy2 _ _).alloc (zz8 _) _
   rw [←hwk]
   clear hwk
   have hBw:=hB.trans (hBk.mono hB.size)
   refine (impl_ownPattern q wk _ G7 (HV7.out.below hBw HG7.out) (HG7.out.mono hBw.size) HKS.out).mono ?_
   rintro e wA ⟨csA,FA,rfl,hbA,hpA,hfrA,hfsA⟩
   obtain ⟨kvA,rfl,haA⟩:=(zA4 _ _ _).1 hpA
   obtain ⟨A8,cap8,rfl,-,-⟩:=haA.form
   clear haA k0 k1 k2 k3 k4 k5 hb7
   have hBu:=hBk.trans (hbA.mono hBk.size)
   have HBA:=jj (hB.trans (hBu.mono hB.size))
   have HOA:=jj (HO.out.below (fun x cs G hk h=>PR_mono' _ _ x cs G hk h) hBu)
   have HPA:=jj hpA
   have HFrA:Hid (Free wA (Fo ++ FA)):=free_app (HFr.out.kept (.of_below hBu HO.out.under)) hfrA (fun b hb hG=>by have h1:=HO.out.under b hb;have h2:=(hfsA b hG).1;have h3:=hBk.size;omega)
   have HFsA:Hid (∀ b∈FA,wr.heap.size≤b∧b<wA.heap.size):=fun b hb=>⟨Nat.le_trans hBk.size (hfsA b hb).1,(hfsA b hb).2⟩
   have HFO2:Hid (∀ b∈Fo ++ FA,w.heap.size≤b):=fun b hb=>by
    rcases List.mem_append.1 hb with h | h
    ·exact HFo.out b h
    ·exact Nat.le_trans hB.size (HFsA.out b h).1
   have HRW:Hid (∀ g∈rowOf (.slice oA (kipTo ps i).length ocap),g∉Fo ++ FA∧w.heap.size≤g):=fun g hg=>⟨fun h=>by
    rcases List.mem_append.1 h with h | h
    ·exact HO.out.apart g hg h
    ·exact Nat.lt_irrefl _ (zz9 (HO.out.row g hg).2 (HFsA.out g h).1),(HO.out.row g hg).1⟩
   have HUA:Hid (Under wA (Fo ++ FA)):=fun b hb=>by
    rcases List.mem_append.1 hb with h | h
    ·exact zz9 (HO.out.under b h) hBu.size
    ·exact (HFsA.out b h).2
   have hbs:=HBA.out.size
   clear hBu hBk hBw hbA hpA hfrA hfsA hB
   go_wp2_with (at_builtin;refine Halt.mk ?_)
   refine Halt.of (zA3 (P:=Try.prog) rfl _ _ 26 rfl i0 _ 64 Try.underlying26 HI.out HZ0.out HZ1.out HZ2.out rfl (by decide) PR_len' PR_mono' (by rfl) HOA.out q 28 [q.op,q.ct,q.n,q.m,q.va,.slice A8 q.ks.length cap8] FA _ (by rfl) (by simp) (by simp [Value.oneCell']) HPA.out (fun b hb=>(HFsA.out b hb).2) (fun g hg h=>(HRW.out g hg).1 (List.mem_append.2 (.inr h))) hmx hby hbs ?_)
   intro g cp w7 hown7 hgr7 hat7
   have hB7:Below w w w7:=(HBA.out.alloc HBA.out.size _).grown hgr7 (by simp;omega) (fun g hg=>(HRW.out g (zA1.2 hg)).2)
   have HFr7:Hid (Free w7 (Fo ++ FA)):=HFrA.out.kept fun b hb=>(hgr7.block b (by have:=HUA.out b hb;rw [World.size_alloc];omega) (fun e=>(HRW.out b (zA1.2 e.symm)).1 hb)).trans (Below.heap_alloc _ _ _ (HUA.out b hb))
   have HO7:=jj hown7
   clear hown7 hgr7 hat7
   go_wp2
   go_roundw
   case rel=>exact ⟨i+1,_,hil,by go_num,(by rw [HF2.out];exact HO7.out),HFr7.out,HFO2.out,hB7⟩
   case measure=>(simp [intOf] <;> omega)
  ·have HO2:=HO.out
   rw [kipTo_all ps (by omega)] at HO2
   have HLN:=jj (congrArg List.length (kipTo_all ps (i:=i) (by omega)))
   have HFin:Hid (∃ v G,Ending.returned (.slice oA (kipTo ps i).length ocap)=.returned v∧Below w w wr∧Arr wr (PR wr) ps v G∧Free wr G∧Fresh w wr G):=by
    obtain ⟨FF,hf1,hf2,hf3⟩:=kid_done (H:=w.heap.size) HO2 HFr.out HFo.out (zz8 _)
    exact ⟨_,FF,rfl,hB,(by rw [HLN.out];exact hf1),hf2,hf3⟩
   clear HO2
   go_wp2
   go_ret
   exact HFin.out
theorem zB4 {P:Program} {w:World} {ops:Array Oper} {o:Oper} {a:Act} {K:Act→World→Prop} {Q:Exit→Act→World→Prop} {EE:Prop} (hgd:o.guard=none) (s x:Operand) (t:TypeId)
  (ho:o.op=.call { callee:=.builtin .append,args:=#[s,x],argTypes:=#[t,t] }) {sv xv v':Value} {w':World} (hs:a.eval s=sv) (hx:a.eval x=xv)
  (hr:(Builtin.append_ #[t,t] o.type #[sv,xv]).run P w=.ok v' w') (h:K (a.put o.dst v') w'):if Region.wanted o (yielded ops a.tmps)=true then Oper.wp P o a w K Q else EE:=by
 rw [if_pos (by simp [Region.wanted,hgd])]
 unfold Oper.wp execOp
 simp only [ho,resolve,invoke,builtin,Sem.run_bind,Sem.run_pure,Result.andThen_ok,List.map_toArray,List.map_cons,List.map_nil,hs,hx,hr]
 exact h
theorem step_pushP {α:Type} {w:World} {B k:Nat} {E:TypeId} {R:World→α→List Value→List Nat→Prop} {xs:List α} {v:Value} {F:List Nat} {P:Program} {ops:Array Oper} {o:Oper} {a:Act} {K:Act→World→Prop} {Q:Exit→Act→World→Prop} {EE:Prop} (hgd:o.guard=none) (s x:Operand) (t:TypeId)
  (ho:o.op=.call { callee:=.builtin .append,args:=#[s,x],argTypes:=#[t,t] })
  (i:TypeInfo) (z:Value) (bytes:Nat) (ht:P.underlying t=some (.slice E)) (hi:P.info? E=some i) (hz:i.zero=some z)
  (hsize:i.size=k) (hby:i.bytes=bytes) (hzs:z.cells.size=k) (hk:0<k)
  (hRl:∀ w x cs G,R w x cs G→cs.length=k) (hRm:∀ w w' x cs G,Kept G w w'→R w x cs G→R w' x cs G)
  (hs:a.eval s=v) (hown:Own w B E k R xs v F) (y:α) (T:TypeId) (news:List Value) (G:List Nat)
  (H:Nat) (hx:a.eval x=.slice (some ⟨H,0,none⟩) 1 1) (hH:Blk w H T news.toArray) (h1:∀ u∈news,u.oneCell'=true)
  (hy:R w y news G) (hG:Under w G) (hvG:∀ g∈rowOf v,g∉G)
  (h63:xs.length+1≤maxLen) (hbytes:(xs.length+1)*bytes≤140737488355328) (hbase:B≤w.heap.size)
  (h:∀ g cap w',Own w' B E k R (xs ++ [y]) (.slice (some ⟨g,0,none⟩) (xs.length+1) cap) (F ++ G)→w.grownBy w' v.ownBlock→(v.ownBlock=some g∨g=w.heap.size) →
   K (a.put o.dst (.slice (some ⟨g,0,none⟩) (xs.length+1) cap)) w'):if Region.wanted o (yielded ops a.tmps)=true then Oper.wp P o a w K Q else EE :=
 step_push hgd s x t ho i z bytes ht hi hz hsize hby hzs hk (hRl _) (fun w'=>hRm _ w') hs hown [y] ⟨H,0,none⟩ 1 news G hx (fun j u hj=>by
   rw [Addr.add_lit,Nat.zero_add,hH.cell]
   simpa using hj) h1 (Flat.one hy) hG hvG Nat.zero_lt_one h63 hbytes hbase
  (fun g cap w' h2 h3 h4=>h g cap w' h2 h3 h4)
theorem wpList_append_runP {P:Program} {w:World} {ops:Array Oper} {rest:List Oper} {o:Oper} {a:Act} {Q:Exit→Act→World→Prop} (hgd:o.guard=none) (s x:Operand) (t:TypeId)
  (ho:o.op=.call { callee:=.builtin .append,args:=#[s,x],argTypes:=#[t,t] }) {sv xv v':Value} {w':World} (hs:a.eval s=sv) (hx:a.eval x=xv)
  (hr:(Builtin.append_ #[t,t] o.type #[sv,xv]).run P w=.ok v' w') (h:wpList P ops Q rest (a.put o.dst v') w'):wpList P ops Q (o :: rest) a w:=by
 refine wpList_plain hgd fun K hK=>?_
 unfold Oper.wp execOp
 simp only [ho,resolve,invoke,builtin,Sem.run_bind,Sem.run_pure,Result.andThen_ok,List.map_toArray,List.map_cons,List.map_nil,hs,hx,hr]
 exact hK _ _ h
def ClonedP (ks:List P) (w:World) (F:List Nat) (e:Ending) (w':World):Prop:=∃ v G,e=.returned v∧Below w w w'∧Own w' w.heap.size 28 6 PR ks v G∧∀ b∈G,b∈F
theorem Clone_P (ks:List P) (hk:ks.length≤1000) (w:World) (x:Value) (F:List Nat) (hx:Arr w (PR w) ks x F) (hf:Under w F):Calls Try.prog 57 #[x] w (ClonedP ks w F):=by
 obtain ⟨A,cap,rfl,hc1,hc2⟩:=hx.form
 obtain ⟨i0,hi,hz0,hz1,hz2⟩:=info_parts info_PE
 have HI:=jj hi
 have HZ0:=jj hz0
 have HZ1:=jj hz1
 have HZ2:=jj hz2
 have HX:=jj hx
 have HF:=jj hf
 clear hi hz0 hz1 hz2 hx hf
 have qT:∀ (w:World) (a:Option Addr) (n c n' c':Nat),(binOp .eql 26 (.slice a n c) (.slice none n' c')).run Try.prog w=.ok (.bool a.isNone) w:=fun w a n c n' c'=>Lib.run_eql_slice_nil w _ _ a n c n' c' Try.underlying26
 cases A with
 |none =>
  have hz:ks=[]:=by
   obtain ⟨A',cap',hv,h1,h2,h3⟩:=HX.out
   cases hv
   rcases h3 with ⟨h,-⟩ | ⟨b,off,cs,G,h,-⟩
   ·exact h
   ·cases h
  subst hz
  go_enter Try.func57,Try.ntmps57
  go_wp2
  go_ret
  exact ⟨_,[],rfl,zy2 _ _,Own.nil _ _ _ _ _,fun b hb=>by cases hb⟩
 |some ad =>
  have hB0:Below w w (w.alloc (.cells #[] 28)):=(zy2 _ _).alloc (zz8 _) _
  have hO0:Own (w.alloc (.cells #[] 28)) w.heap.size 28 6 PR ([]:List P) (.slice (some ⟨w,0,none⟩) 0 0) []:=Own.made w _ _ _ _ _ 0 (zz8 _) (by simp [maxLen]) rfl
  have hX0:Arr (w.alloc (.cells #[] 28)) (PR (w.alloc (.cells #[] 28))) ks (.slice (some ad) ks.length cap) F:=ArrP.below HX.out hB0 HF.out
  obtain ⟨v',w',G,hr,ho,hG,hgr,hat⟩:=zAT (P:=Try.prog) 26 26 i0 _ 64 Try.underlying26 HI.out HZ0.out HZ1.out HZ2.out rfl (by decide) PR_len' PR_mono' PR_one hO0 hX0 (HF.out.mono hB0.size) (fun g hg hgF=>by rw [zA5,zy1] at hg;subst hg;exact Nat.lt_irrefl _ (HF.out _ hgF)) (by simp;omega) (by simp;omega) hB0.size
  rw [List.nil_append,List.nil_append] at ho
  have hB':Below w w w':=hB0.grown hgr hB0.size (fun g hg=>by
   have hg:some w.heap.size=some g:=hg
   cases hg;exact zz8 _)
  have HFin:Hid (ClonedP ks w F (.returned v') w'):=⟨v',G,rfl,hB',ho,hG⟩
  have HRUN:=jj hr
  clear hr ho hB' hgr hat hG hX0 hO0 hB0
  go_enter Try.func57,Try.ntmps57
  go_wp2_with (at_builtin;refine Halt.mk ?_)
  refine Halt.of (wpList_append_runP rfl _ _ 26 rfl (by rfl) (by rfl) HRUN.out ?_)
  go_wp2
  go_ret
  exact HFin.out
def MadeSp (vs:List P) (w:World) (e:Ending) (w':World):Prop:=∃ v F,e=.returned v∧Below w w w'∧Own w' w.heap.size 28 6 PR vs v F∧∀ b∈F,w.heap.size≤b
def SpP (p:P):Prop:=∀ (w:World) (cs:List Value) (G:List Nat),PR w p cs G→Under w G→Shp p→p.size≤900→(P.spl p).length≤400→Calls Try.prog 25 #[.agg cs.toArray] w (MadeSp (P.spl p) w)
theorem ks_len (p:P):p.ks.length≤p.size:=by
 obtain ⟨op,ct,n,m,va,ks⟩:=p
 show ks.length≤P.sizes ks
 rw [P.sizes_eq];omega
theorem Own.under_ifP {w:World} {B:Nat} {E:TypeId} {vs:List P} {v:Value} {F:List Nat} (h:Own w B E 6 PR vs v F):Under w (if vs=[] then [] else rowOf v ++ F):=by
 by_cases hx:vs=[]
 ·rw [if_pos hx];exact Under.nil _
 ·rw [if_neg hx]
  intro b hb
  rcases List.mem_append.1 hb with hb | hb
  ·exact (h.row b hb).2
  ·exact h.under b hb
theorem Own.ge_ifP {w:World} {B L:Nat} {E:TypeId} {vs:List P} {v:Value} {F:List Nat} (h:Own w B E 6 PR vs v F) (hB:L≤B) (hF:∀ b∈F,L≤b):∀ b∈(if vs=[] then [] else rowOf v ++ F),L≤b:=fun b hb=>by
 split at hb
 ·cases hb
 ·rcases List.mem_append.1 hb with hb | hb
  ·exact Nat.le_trans hB (h.row b hb).1
  ·exact hF b hb
theorem own_oneP (w:World) (B:Nat) (hB:B≤w.heap.size) (y:P) (cs:List Value) (hl:cs.length=6) (hR:PR (w.alloc (.cells cs.toArray 28)) y cs []):Own (w.alloc (.cells cs.toArray 28)) B 28 6 PR [y] (.slice (some ⟨w,0,none⟩) 1 1) []:=by
 refine ⟨cs,⟨by rw [hl];rfl,.inr ⟨w.heap.size,1,cs.toArray,rfl,hB,Blk.new w 28 cs.toArray,zz8 _,by simp [maxLen],by simpa using hl,?_⟩⟩,Flat.one hR,Under.nil _,fun g hg hn=>by cases hn⟩
 simp only [List.length_cons,List.length_nil,Nat.zero_add,Nat.one_mul]
 rw [←hl,List.take_length]
set_option maxHeartbeats 8000000 in
theorem split_of (p:P) (ih:∀ k∈p.ks,SpP k):SpP p:=by
 intro w cs G hp hg hs hz hn
 obtain ⟨kv,rfl,ha⟩:=(zA4 _ _ _).1 hp
 obtain ⟨A4,cap4,rfl,hc3,hc4⟩:=ha.form
 obtain ⟨i0,hi,hz0,hz1,hz2⟩:=info_parts info_PE
 have IH:=jj ih
 have HI:=jj hi
 have HZ0:=jj hz0
 have HZ1:=jj hz1
 have HZ2:=jj hz2
 have HA:=jj ha
 have HG:=jj hg
 clear hi hz0 hz1 hz2 ha hg
 clear ih hp
 by_cases h5:p.op=5
 ·have t5:(p.op==5)=true:=by simp [h5]
  obtain ⟨hl2,heq⟩:=Shp.or hs h5
  have hlen:(P.spl p).length=(P.spl (p.ks[0]'(by omega))).length+(P.spl (p.ks[1]'(by omega))).length:=by rw [heq,List.length_append]
  have hm0:p.ks[0]'(by omega)∈p.ks:=List.getElem_mem _
  have hm1:p.ks[1]'(by omega)∈p.ks:=List.getElem_mem _
  have HSH0:=jj (hs.kid hm0)
  have HSH1:=jj (hs.kid hm1)
  have hz0:=Nat.le_trans (Nat.le_of_lt (size_kid hm0)) hz
  have hz1:=Nat.le_trans (Nat.le_of_lt (size_kid hm1)) hz
  have g0:(0:Int)<(p.ks.length:Int):=by omega
  have g1:(1:Int)<(p.ks.length:Int):=by omega
  have gn0:0<p.ks.length:=by omega
  have gn1:1<p.ks.length:=by omega
  obtain ⟨W2,hW2⟩:∃ W2,W2=(w.alloc (.cells #[p.op,p.ct,p.n,p.m,p.va,.slice A4 p.ks.length cap4] 28)):=⟨_,rfl⟩
  have hB0:Below w w W2:=by rw [hW2];exact (zy2 _ _).alloc (zz8 _) _
  have KP:Hid (Blk W2 w 28 #[p.op,p.ct,p.n,p.m,p.va,.slice A4 p.ks.length cap4]):=by rw [hW2];exact Blk.new _ _ _
  obtain ⟨kb,koff,rfl⟩:=HA.out.ptr (by omega)
  obtain ⟨k0A,k0cap,G0,hkb,k0z0,k0z1,k0z2,k0z3,k0z4,k0z5,HK0,HG0,-,-,-⟩:=ArrP.at HA.out HG.out hB0 0 (by omega)
  obtain ⟨k1A,k1cap,G1,-,k1z0,k1z1,k1z2,k1z3,k1z4,k1z5,HK1,HG1,-,-,-⟩:=ArrP.at HA.out HG.out hB0 1 (by omega)
  simp only [Nat.zero_mul,Nat.add_zero,Nat.one_mul] at k0z0 k0z1 k0z2 k0z3 k0z4 k0z5 k1z0 k1z1 k1z2 k1z3 k1z4 k1z5
  obtain ⟨k0,hk0⟩:∃ u,u=p.ks[0]'(by omega):=⟨_,rfl⟩
  obtain ⟨k1,hk1⟩:∃ u,u=p.ks[1]'(by omega):=⟨_,rfl⟩
  rw [←hk0,←hk1] at heq hlen
  rw [←hk0] at hm0 hz0 HSH0 HK0 k0z0 k0z1 k0z2 k0z3 k0z4 k0z5
  rw [←hk1] at hm1 hz1 HSH1 HK1 k1z0 k1z1 k1z2 k1z3 k1z4 k1z5
  clear hk0 hk1
  have HEQ:=jj heq
  clear h5 heq hl2 hs
  have z0:(w.alloc (.cells #[p.op,p.ct,p.n,p.m,p.va,.slice (some ⟨kb,koff,none⟩) p.ks.length cap4] 28)).cell? ⟨w,0,none⟩=p.op:=((Blk.new w 28 _).cell 0).trans (by simp)
  go_enter Try.func25,Try.ntmps25
  go_wp2_with fail
  rw [←hW2]
  clear hW2
  go_wp2_with fail
  have HS:Hid (∀ C:World,Below W2 W2 C→(C.cell? ⟨w,5,none⟩=some (.slice (some ⟨kb,koff,none⟩) p.ks.length cap4)∧C.cell? ⟨kb,koff,none⟩=k0.op∧C.cell? ⟨kb,koff+1,none⟩=k0.ct∧C.cell? ⟨kb,koff+2,none⟩=k0.n∧C.cell? ⟨kb,koff+3,none⟩=k0.m∧C.cell? ⟨kb,koff+4,none⟩=k0.va∧C.cell? ⟨kb,koff+5,none⟩=some (.slice k0A k0.ks.length k0cap)∧C.cell? ⟨kb,koff+6,none⟩=k1.op∧C.cell? ⟨kb,koff+6+1,none⟩=k1.ct∧C.cell? ⟨kb,koff+6+2,none⟩=k1.n∧C.cell? ⟨kb,koff+6+3,none⟩=k1.m∧C.cell? ⟨kb,koff+6+4,none⟩=k1.va∧C.cell? ⟨kb,koff+6+5,none⟩=some (.slice k1A k1.ks.length k1cap))):=fun C hb=>⟨(hb.cell (KP.out.lt)).trans ((KP.out.cell 5).trans (by simp)),(hb.cell (hkb)).trans k0z0,(hb.cell (hkb)).trans k0z1,(hb.cell (hkb)).trans k0z2,(hb.cell (hkb)).trans k0z3,(hb.cell (hkb)).trans k0z4,(hb.cell (hkb)).trans k0z5,(hb.cell (hkb)).trans k1z0,(hb.cell (hkb)).trans k1z1,(hb.cell (hkb)).trans k1z2,(hb.cell (hkb)).trans k1z3,(hb.cell (hkb)).trans k1z4,(hb.cell (hkb)).trans k1z5⟩
  have hC0:Below W2 W2 W2.drew:=(zy2 _ _).drew
  refine wpBS HS.out (T:=fun _=>True) (d:=99) (by kernel_rfl) ?_
  obtain ⟨wd,hwd⟩:∃ X,X=W2.drew:=⟨_,rfl⟩
  rw [←hwd] at hC0  ⊢
  clear hwd
  have hS0:=HS.out _ hC0
  have hT0:True:=trivial
  refine wV 0 rfl hS0 hT0 ?_
  (try simp only [zz])
  refine wV 1 rfl hS0 hT0 ?_
  (try simp only [zz])
  refine wV 2 rfl hS0 hT0 ?_
  (try simp only [zz])
  refine wV 3 rfl hS0 hT0 ?_
  (try simp only [zz])
  refine wV 5 rfl hS0 hT0 ?_
  (try simp only [zz])
  refine wV 6 rfl hS0 hT0 ?_
  (try simp only [zz])
  refine wV 7 rfl hS0 hT0 ?_
  (try simp only [zz])
  refine wV 8 rfl hS0 hT0 ?_
  (try simp only [zz])
  refine w1 4 rfl fun K hK=>?_
  go_simp
  go_at_call 25
  refine (IH.out k0 hm0 wd _ G0 (HK0.out.below (hB0.trans (hC0.mono hB0.size)) HG0.out) (HG0.out.mono (Nat.le_trans hB0.size hC0.size)) HSH0.out hz0 (by omega)).mono ?_
  rintro e C8 ⟨v8,F8,rfl,hb8,ho8,hF8⟩
  have hC1:Below W2 W2 C8:=hC0.trans (hb8.mono hC0.size)
  have hS1:=HS.out _ hC1
  have HO8:=jj (ho8.base (B':=W2.heap.size) (fun g hg=>Nat.le_trans hC0.size (ho8.row g hg).1))
  have HF8:Hid (∀ b∈F8,w.heap.size≤b):=fun b hb=>Nat.le_trans (Nat.le_trans hB0.size hC0.size) (hF8 b hb)
  clear ho8 hF8
  (try dsimp only)
  refine hK.out _ _ hS1 (fun _=>trivial) ?_
  clear hK K
  (try simp only [zz])
  refine w1 9 rfl fun K hK=>?_
  go_simp
  go_at_call 25
  refine (IH.out k1 hm1 C8 _ G1 (HK1.out.below (hB0.trans (hC1.mono hB0.size)) HG1.out) (HG1.out.mono (Nat.le_trans hB0.size hC1.size)) HSH1.out hz1 (by omega)).mono ?_
  rintro e C9 ⟨v9,F9,rfl,hb9,ho9,hF9⟩
  have hC2:Below W2 W2 C9:=hC1.trans (hb9.mono hC1.size)
  have hS2:=HS.out _ hC2
  obtain ⟨A8,cap8,rfl,-,-⟩:=HO8.out.form
  obtain ⟨A9,cap9,rfl,-,-⟩:=ho9.form
  have HR8:Hid (∀ g∈rowOf (.slice A8 (P.spl k0).length cap8),g<C8.heap.size):=fun g hg=>(HO8.out.row g hg).2
  have HOa:=jj (HO8.out.below (fun x cs G hk h=>PR_mono' _ _ x cs G hk h) hb9)
  have HF9:Hid (∀ b∈(if P.spl k1=[] then [] else rowOf (.slice A9 (P.spl k1).length cap9) ++ F9),C8.heap.size≤b):=ho9.ge_ifP (zz8 _) hF9
  have hcs8:=hC1.size
  obtain ⟨v7,C7,F7,hr7,ho7,hG7,hgr7,hat7⟩:=zAT (P:=Try.prog) 26 26 i0 _ 64 Try.underlying26 HI.out HZ0.out HZ1.out HZ2.out rfl (by decide) PR_len' PR_mono' PR_one HOa.out ho9.arr ho9.under_ifP (fun g hg hgF=>Nat.lt_irrefl _ (zz9 (HR8.out g hg) (HF9.out g hgF))) (by omega) (by omega) hC2.size
  have hC7:Below W2 W2 C7:=hC2.grown hgr7 hC2.size (fun g hg=>(HO8.out.row g (zA1.2 hg)).1)
  have HR7:=jj hr7
  rw [←HEQ.out] at ho7
  have HO7:=jj (ho7.base (B':=w.heap.size) (fun g hg=>Nat.le_trans hB0.size (ho7.row g hg).1))
  have HF7:Hid (∀ b∈F8 ++ F7,w.heap.size≤b):=fun b hb=>by
   rcases List.mem_append.1 hb with hb | hb
   ·exact HF8.out b hb
   ·exact Nat.le_trans (Nat.le_trans hB0.size hcs8) (HF9.out b (hG7 b hb))
  clear ho9 hF9 hr7 ho7 hG7 hgr7 hat7
  (try dsimp only)
  refine hK.out _ _ hS2 (fun _=>trivial) ?_
  clear hK K
  (try simp only [zz])
  refine w1 10 rfl fun K hK=>?_
  refine zB4 (P:=Try.prog) rfl _ _ 26 rfl (by rfl) (by rfl) HR7.out ?_
  (try dsimp only)
  refine hK.out _ _ (HS.out _ hC7) (fun _=>trivial) ?_
  clear hK K
  (try simp only [zz])
  refine wV 11 rfl (HS.out _ hC7) hT0 ?_
  (try simp only [zz])
  refine wE (by kernel_rfl) ?_
  clear hS0 hS1 hS2 hT0
  go_wp2
  go_ret
  exact ⟨_,_,rfl,hB0.trans (hC7.mono hB0.size),HO7.out,HF7.out⟩
 ·have t5:(p.op==5)=false:=by simp [h5]
  have H5:=jj h5
  have HSO:=jj hs.ok
  have HSH:=jj hs
  have HN:=jj hn
  have hkz:=Nat.le_trans (ks_len p) hz
  clear h5 hs hn
  go_enter Try.func25,Try.ntmps25
  go_wp2_with fail
  obtain ⟨w3,hw3⟩:∃ X,X=w.alloc (.cells #[p.op,p.ct,p.n,p.m,p.va,.slice none 0 0] 28):=⟨_,rfl⟩
  have hB3:Below w w w3:=by rw [hw3];exact (zy2 _ _).alloc (zz8 _) _
  have h23:w.heap.size≤w3.heap.size:=hB3.size
  have e3:w3.heap.size=w.heap.size+1:=by rw [hw3];simp
  rw [←hw3]
  clear hw3
  obtain ⟨w4,hw4⟩:∃ X,X=w3.alloc (.cells [.int .i64 p.op,.int .i64 p.ct,.int .i64 p.n,.int .i64 p.m,.int .i64 p.va,.slice none 0 0].toArray 28):=⟨_,rfl⟩
  have hB4:Below w w w4:=by rw [hw4];exact hB3.alloc hB3.size _
  have HL0:Hid (Own w4 w.heap.size 28 6 PR (splTo p 0) (.slice (some ⟨w3,0,none⟩) 1 1) []):=by
   rw [splTo_zero,hw4]
   exact own_oneP w3 w.heap.size h23 (p.re []) [p.op,p.ct,p.n,p.m,p.va,.slice none 0 0] rfl ((zA4 _ _ _).2 ⟨_,rfl,Arr.nil⟩)
  rw [e3] at HL0
  clear e3
  have hw4':=hw4
  simp only [List.toArray] at hw4'
  first | rw [←hw4] | rw [←hw4']
  clear hw4 hw4'
  go_wp2
  go_loopw [4,35] (fun lv jv wr=>∃ j:Nat,∃ Fl:List Nat,j≤p.ks.length∧jv=.int .i64 j∧Hid (Own wr w.heap.size 28 6 PR (splTo p j) lv Fl)∧Hid (∀ b∈Fl,w.heap.size≤b)∧Hid (Below w4 w4 wr)) (fun _ jv _=>p.ks.length-(intOf jv).toNat)
  case atStart=>exact ⟨0,[],Nat.zero_le _,rfl,HL0.out,(fun b hb=>by cases hb),zy2 _ _⟩
  case round =>
   clear HL0
   obtain ⟨j,Fl,hj,rfl,HL,HFl,HB⟩:=hrel
   obtain ⟨lA,lcap,hlv,-,-⟩:=HL.out.form
   subst hlv
   obtain ⟨wp,hwp⟩:∃ wp,wp=wr:=⟨_,rfl⟩
   rw [←hwp] at HL HB ⊢
   clear hwp
   have hB:=hB4.trans (HB.out.mono hB4.size)
   by_cases hjl:j<p.ks.length
   ·have g1:(0:Int)≤(j:Int):=by omega
    have g2:(j:Int)<(p.ks.length:Int):=by omega
    obtain ⟨b4,off4,rfl⟩:=HA.out.ptr (by omega)
    obtain ⟨A7,cap7,G7,hb7,k0,k1,k2,k3,k4,k5,HV7,HG7,hgs7,-,-⟩:=ArrP.at HA.out HG.out hB j hjl
    have hkm:p.ks[j]∈p.ks:=List.getElem_mem hjl
    have HSK:=jj (HSH.out.kid hkm)
    have hkz2:=Nat.le_trans (Nat.le_of_lt (size_kid hkm)) hz
    have hls:=splTo_le H5.out HSO.out.pos (j+1)
    have hl0:=splTo_le H5.out HSO.out.pos j
    have hsl:=splTo_len_succ p j hjl
    have hkl:=spl_kid_le H5.out HSO.out.pos j hjl
    have hn4:=HN.out
    have HKJ:Hid ((P.spl p.ks[j]).length≤400):=by unfold Hid;omega
    have HPR:Hid ((splTo p j).length*(P.spl p.ks[j]).length≤400):=by unfold Hid;omega
    have hll:(splTo p j).length≤400:=by omega
    have HSU:=jj (splTo_succ p j hjl)
    have HHD:=jj (splTo_each p j)
    clear hls hl0 hsl hkl hn4
    obtain ⟨kj,hkj⟩:∃ u,u=p.ks[j]:=⟨_,rfl⟩
    rw [←hkj] at k0 k1 k2 k3 k4 k5 HV7 hkm HSK hkz2 HKJ HPR HSU
    clear hkj
    go_wp2_with fail
    obtain ⟨w9,hw9⟩:∃ w9,w9=wp.alloc (.cells #[kj.op,kj.ct,kj.n,kj.m,kj.va,.slice A7 kj.ks.length cap7] 28):=⟨_,rfl⟩
    have hb9:Below wp wp w9:=by rw [hw9];exact (zy2 _ _).alloc (zz8 _) _
    have K9:Blk w9 wp 28 #[kj.op,kj.ct,kj.n,kj.m,kj.va,.slice A7 kj.ks.length cap7]:=by rw [hw9];exact Blk.new _ _ _
    rw [←hw9]
    clear hw9
    obtain ⟨z0,z1,z2,z3,z4,z5,klt⟩:=K9.c6
    have HB9:Hid (Below w4 w4 w9):=HB.out.trans (hb9.mono HB.out.size)
    have hB9:=hB.trans (hb9.mono hB.size)
    have HL9:=jj (HL.out.below (fun x cs G hk h=>PR_mono' _ _ x cs G hk h) hb9)
    clear hb9 HL HB hB k0 k1 k2 k3 k4 k5 hb7 K9
    go_wp2_with fail
    refine (IH.out kj hkm w9 _ G7 (HV7.out.below hB9 HG7.out) (HG7.out.mono hB9.size) HSK.out hkz2 HKJ.out).mono ?_
    rintro e w10 ⟨kv0,Fk,rfl,hb10,hok,hfk⟩
    clear z0 z1 z2 z3 z4 z5 klt
    have hB10:=hB9.trans (hb10.mono hB9.size)
    have HB10:Hid (Below w4 w4 w10):=HB9.out.trans (hb10.mono HB9.out.size)
    have HLa:=jj (HL9.out.below (fun x cs G hk h=>PR_mono' _ _ x cs G hk h) hb10)
    have h210:w.heap.size≤w10.heap.size:=hB10.size
    have HKA:=jj hok.arr
    have HKU:=jj hok.under_ifP
    have HKL:Hid (∀ b∈(if P.spl kj=[] then [] else rowOf kv0 ++ Fk),w.heap.size≤b):=hok.ge_ifP hB9.size (fun b hb=>Nat.le_trans hB9.size (hfk b hb))
    obtain ⟨kA,kcap,rfl,-,-⟩:=hok.form
    generalize hFK:(if P.spl kj=[] then [] else rowOf (.slice kA (P.spl kj).length kcap) ++ Fk)=FK at *
    clear hok hfk hb10 HL9 HB9 hB9 hFK
    have HLR:=jj HLa.out.arr
    have HLU:=jj HLa.out.under_ifP
    have HLL:Hid (∀ b∈(if splTo p j=[] then [] else rowOf (.slice lA (splTo p j).length lcap) ++ Fl),w.heap.size≤b):=HLa.out.ge_ifP (zz8 _) HFl.out
    generalize hFL:(if splTo p j=[] then [] else rowOf (.slice lA (splTo p j).length lcap) ++ Fl)=FL at *
    clear hFL HLa
    generalize hki:P.spl kj=ki at *
    clear hki
    generalize hli:splTo p j=li at *
    clear hli
    go_wp2
    go_loopw [8,43] (fun mv pv wr=>∃ a:Nat,∃ Fm:List Nat,a≤li.length∧pv=.int .i64 a∧Hid (Own wr w10.heap.size 28 6 PR (growRTo li ki a) mv Fm)∧Hid (∀ b∈Fm,w.heap.size≤b)∧Hid (Below w10 w10 wr)) (fun _ pv _=>li.length-(intOf pv).toNat)
    case atStart=>exact ⟨0,[],Nat.zero_le _,rfl,(show Own _ _ _ _ _ (growRTo li ki 0) _ _ from Own.nil _ _ _ _ _),(fun b hb=>by cases hb),zy2 _ _⟩
    case round =>
     obtain ⟨a,Fm,ha,rfl,HM,HFM,HBM⟩:=hrel
     obtain ⟨mA,mcap,hmv,-,-⟩:=HM.out.form
     subst hmv
     have hpl:=growRTo_len li ki a ha
     have HPL:=jj hpl
     obtain ⟨wq,hwq⟩:∃ wq,wq=wr:=⟨_,rfl⟩
     rw [←hwq] at HM HBM ⊢
     clear hwq hpl
     by_cases hal:a<li.length
     ·have g5:(0:Int)≤(a:Int):=by omega
      have g6:(a:Int)<(li.length:Int):=by omega
      obtain ⟨b8,off8,rfl⟩:=HLR.out.ptr (by omega)
      obtain ⟨vA,vcap,Gv,hb8l,v0,v1,v2,v3,v4,v5,HVv,HVu,HVs,-,-⟩:=ArrP.at HLR.out HLU.out HBM.out a hal
      have HGS:=jj (growRTo_succ li ki a hal)
      have hhd:=HHD.out li[a] (List.getElem_mem hal)
      have hmul:(a+1)*ki.length≤li.length*ki.length:=Nat.mul_le_mul_right _ hal
      have hpr:=HPR.out
      have hpl2:=HPL.out
      have hms:(a+1)*ki.length=a*ki.length+ki.length:=by rw [Nat.succ_mul]
      have HPQ:Hid ((growRTo li ki a).length+ki.length≤400):=by unfold Hid;omega
      have HVS:=jj HVs
      clear hmul hpr hpl2 hms HVs HPL
      obtain ⟨lp,hlp⟩:∃ u,u=li[a]:=⟨_,rfl⟩
      rw [←hlp] at v0 v1 v2 v3 v4 v5 HVv HGS hhd
      clear hlp
      have hlk:lp.ks.length≤900:=by omega
      clear hhd
      go_wp2_with fail
      obtain ⟨w11,hw11⟩:∃ X,X=(wq.alloc (.cells #[lp.op,lp.ct,lp.n,lp.m,lp.va,.slice vA lp.ks.length vcap] 28)):=⟨_,rfl⟩
      have hb11:Below wq wq w11:=by rw [hw11];exact (zy2 _ _).alloc (zz8 _) _
      have hK11:Blk w11 wq 28 #[lp.op,lp.ct,lp.n,lp.m,lp.va,.slice vA lp.ks.length vcap]:=by rw [hw11];exact Blk.new _ _ _
      rw [←hw11]
      clear hw11
      have HB11:Hid (Below w10 w10 w11):=HBM.out.trans (hb11.mono HBM.out.size)
      have HM11:=jj (HM.out.below (fun x cs G hk h=>PR_mono' _ _ x cs G hk h) hb11)
      have HN11:Hid (wq.heap.size∉rowOf (.slice mA (growRTo li ki a).length mcap)):=fun h=>Nat.lt_irrefl _ (HM.out.row _ h).2
      have h10q:w10.heap.size≤wq.heap.size:=HBM.out.size
      have HK11:=jj hK11
      obtain ⟨bb,hbb⟩:∃ X,X=wq.heap.size:=⟨_,rfl⟩
      rw [←hbb] at HK11 HN11 h10q ⊢
      clear hb11 hK11 HM HBM v0 v1 v2 v3 v4 v5 hb8l hbb
      generalize hgp:growRTo li ki a=gp at *
      clear hgp
      go_wp2
      go_loopw [8,49] (fun mv sv wr=>∃ s:Nat,∃ Fn:List Nat,s≤ki.length∧sv=.int .i64 s∧Hid (Own wr w10.heap.size 28 6 PR (moreR gp lp ki s) mv Fn)∧Hid (∀ b∈Fn,w.heap.size≤b)∧Hid (Below w10 w10 wr)∧Hid (Blk wr bb 28 #[lp.op,lp.ct,lp.n,lp.m,lp.va,.slice vA lp.ks.length vcap])∧Hid (bb∉rowOf mv)) (fun _ sv _=>ki.length-(intOf sv).toNat)
      case atStart=>exact ⟨0,Fm,Nat.zero_le _,rfl,(by rw [moreR_zero];exact HM11.out),HFM.out,HB11.out,HK11.out,HN11.out⟩
      case round =>
       clear HM11 HFM HB11 HK11 HN11
       obtain ⟨s,Fn,hs,rfl,HM,HFM,HBM,HK,HNB⟩:=hrel
       obtain ⟨mA,mcap,hmv,-,-⟩:=HM.out.form
       subst hmv
       by_cases hsl:s<ki.length
       ·have hk400:=HKJ.out
        have g7:(0:Int)≤(s:Int):=by omega
        have g8:(s:Int)<(ki.length:Int):=by omega
        obtain ⟨b9,off9,rfl⟩:=HKA.out.ptr (by omega)
        obtain ⟨nA,ncap,Gk,hb9l,n0,n1,n2,n3,n4,n5,HVk,HKu,hks,-,-⟩:=ArrP.at HKA.out HKU.out HBM.out s hsl
        have HKs:=jj hks
        have hml:=moreR_len gp lp ki s
        have hpq:=HPQ.out
        have hmx:(moreR gp lp ki s).length+1≤maxLen:=by unfold maxLen;omega
        have hby:((moreR gp lp ki s).length+1)*64≤140737488355328:=by omega
        have HMS:=jj (moreR_succ gp lp ki s hsl)
        obtain ⟨kq,hkq⟩:∃ u,u=ki[s]:=⟨_,rfl⟩
        rw [←hkq] at n0 n1 n2 n3 n4 n5 HVk HMS
        clear hkq hks hml hpq
        obtain ⟨v0,v1,v2,v3,v4,v5,vlt⟩:=HK.out.c6
        go_wp2_with fail
        obtain ⟨w13,hw13⟩:∃ X,X=(wr.alloc (.cells #[kq.op,kq.ct,kq.n,kq.m,kq.va,.slice nA kq.ks.length ncap] 28)):=⟨_,rfl⟩
        obtain ⟨b20,hb20⟩:∃ X,X=wr.heap.size:=⟨_,rfl⟩
        have hb13:Below wr wr w13:=by rw [hw13];exact (zy2 _ _).alloc (zz8 _) _
        have hK13:Blk w13 b20 28 #[kq.op,kq.ct,kq.n,kq.m,kq.va,.slice nA kq.ks.length ncap]:=by rw [hw13,hb20];exact Blk.new _ _ _
        have hs13:w13.heap.size=b20+1:=by rw [hw13,hb20];simp
        rw [←hw13,←hb20]
        clear hw13
        obtain ⟨w14,hw14⟩:∃ X,X=(w13.alloc (.cells #[lp.op,lp.ct,lp.n,lp.m,lp.va,.slice vA lp.ks.length vcap] 28)):=⟨_,rfl⟩
        have hb14:Below w13 w13 w14:=by rw [hw14];exact (zy2 _ _).alloc (zz8 _) _
        have hK21:Blk w14 w13 28 #[lp.op,lp.ct,lp.n,lp.m,lp.va,.slice vA lp.ks.length vcap]:=by rw [hw14];exact Blk.new _ _ _
        rw [hs13] at hK21
        obtain ⟨b21,hb21⟩:∃ X,X=b20+1:=⟨_,rfl⟩
        rw [←hw14,←hb21]
        rw [←hb21] at hK21
        clear hw14
        have hb34':Below wr wr w14:=hb13.trans (hb14.mono hb13.size)
        have HK14:Hid (Blk w14 bb 28 #[lp.op,lp.ct,lp.n,lp.m,lp.va,.slice vA lp.ks.length vcap]):=HK.out.same (hb34'.block _ HK.out.lt)
        have HM14:=jj (HM.out.below (fun x cs G hk h=>PR_mono' _ _ x cs G hk h) hb34')
        have HB14:Hid (Below w10 w10 w14):=HBM.out.trans (hb34'.mono HBM.out.size)
        have hs14:w10.heap.size≤w14.heap.size:=HB14.out.size
        have hbbl:bb<b20:=by rw [hb20];exact HK.out.lt
        have hl2021:b20<b21:=by omega
        have hl21r:wr.heap.size<b21:=by omega
        have hs10r:w10.heap.size≤wr.heap.size:=HBM.out.size
        have hb21l:b21=b20+1:=hb21
        have hb20e:b20=wr.heap.size:=hb20
        have HB2R:=jj (And.intro hb21l hb20e)
        clear hb21l hb20e hb21 hb20
        obtain ⟨-,-,-,-,-,x0,-⟩:=HK14.out.c6
        have hK20:=hK13.same (hb14.block _ hK13.lt)
        obtain ⟨q0,q1,q2,q3,q4,q5,-⟩:=hK20.c6
        have x1:=q0
        have x2:=q1
        have x3:=q2
        have x4:=q3
        have x5:=q4
        have x6:=q5
        have klt20:b20<w14.heap.size:=hK20.lt
        have kltb:bb<w14.heap.size:=HK14.out.lt
        have HK21:=jj hK21
        have HVk2:Hid (∀ C,Below w14 w14 C→PR C kq [kq.op,kq.ct,kq.n,kq.m,kq.va,.slice nA kq.ks.length ncap] Gk):=fun C hC=>HVk.out.below (HB14.out.trans (hC.mono HB14.out.size)) HKu.out
        have HVA:Hid (∀ C,Below w14 w14 C→Arr C (PR C) lp.ks (.slice vA lp.ks.length vcap) Gv):=fun C hC=>by
         obtain ⟨kv,e,h⟩:=(zA4 _ _ _).1 HVv.out
         simp only [List.cons.injEq,true_and,and_true] at e
         subst e
         exact ArrP.below h (HB14.out.trans (hC.mono HB14.out.size)) HVu.out
        clear n0 n1 n2 n3 n4 n5 hb9l hK13 HVk v0 v1 v2 v3 v4 v5 vlt q0 q1 q2 q3 q4 q5 hK20 hK21 hb13 hb14 hb34' hs13
        go_wp2_with fail
        have HS:Hid (∀ C:World,Below w14 w14 C→(C.cell? ⟨bb,5,none⟩=some (.slice vA lp.ks.length vcap)∧C.cell? ⟨b20,0,none⟩=kq.op∧C.cell? ⟨b20,1,none⟩=kq.ct∧C.cell? ⟨b20,2,none⟩=kq.n∧C.cell? ⟨b20,3,none⟩=kq.m∧C.cell? ⟨b20,4,none⟩=kq.va∧C.cell? ⟨b20,5,none⟩=some (.slice nA kq.ks.length ncap))):=fun C hb=>⟨(hb.cell (kltb)).trans x0,(hb.cell (klt20)).trans x1,(hb.cell (klt20)).trans x2,(hb.cell (klt20)).trans x3,(hb.cell (klt20)).trans x4,(hb.cell (klt20)).trans x5,(hb.cell (klt20)).trans x6⟩
        have hC0:Below w14 w14 w14.drew:=(zy2 _ _).drew
        refine wpBS HS.out (T:=fun _=>True) (d:=99) (by kernel_rfl) ?_
        obtain ⟨wd,hwd⟩:∃ X,X=w14.drew:=⟨_,rfl⟩
        rw [←hwd] at hC0  ⊢
        clear hwd
        have hS0:=HS.out _ hC0
        have hT0:True:=trivial
        refine wV 0 rfl hS0 hT0 ?_
        (try simp only [zz])
        refine wV 1 rfl hS0 hT0 ?_
        (try simp only [zz])
        refine wV 3 rfl hS0 hT0 ?_
        (try simp only [zz])
        refine wR (rs:=[2,4]) (by kernel_rfl) (by simp) ?_
        refine AllReadyB.c rfl (fun K hK=>?_) (AllReadyB.c rfl (fun K hK=>?_) AllReadyB.n)
        focus
         go_simp
         go_at_call 57
         refine (Clone_P lp.ks (by omega) wd _ Gv (HVA.out wd hC0) (HVu.out.mono (Nat.le_trans hs14 hC0.size))).mono ?_
         rintro e C1 ⟨cv,Gc,rfl,hb1,ho1,hG1⟩
         have hC1:Below w14 w14 C1:=hC0.trans (hb1.mono hC0.size)
         obtain ⟨cA,ccap,rfl,-,-⟩:=ho1.form
         have HGc:=jj hG1
         have HOc1:=jj (ho1.base (B':=w14.heap.size) (fun g hg=>Nat.le_trans hC0.size (ho1.row g hg).1))
         clear ho1 hG1
         (try dsimp only)
         refine hK.out _ _ (HS.out _ hC1) (fun _=>trivial) ?_
         clear hK K
         (try simp only [zz])
         refine w1 4 rfl fun K hK=>?_
         go_simp
         obtain ⟨C2,hX⟩:∃ X,X=C1.alloc (.cells [.int .i64 kq.op,.int .i64 kq.ct,.int .i64 kq.n,.int .i64 kq.m,.int .i64 kq.va,.slice nA kq.ks.length ncap].toArray 28):=⟨_,rfl⟩
         have hb2:Below C1 C1 C2:=by rw [hX];exact (zy2 _ _).alloc (zz8 _) _
         have hkb2:Blk C2 C1 28 [.int .i64 kq.op,.int .i64 kq.ct,.int .i64 kq.n,.int .i64 kq.m,.int .i64 kq.va,.slice nA kq.ks.length ncap].toArray:=by rw [hX];exact Blk.new _ _ _
         have hX2:=hX
         simp only [List.toArray] at hX2
         first | rw [←hX] | rw [←hX2]
         clear hX hX2
         have hC2:Below w14 w14 C2:=hC1.trans (hb2.mono hC1.size)
         have HKb2:=jj hkb2
         obtain ⟨kb,hkb⟩:∃ X,X=C1.heap.size:=⟨_,rfl⟩
         rw [←hkb] at HKb2 ⊢
         clear hkb hkb2
         have HOc:=jj (HOc1.out.below (fun x cs G hk h=>PR_mono' _ _ x cs G hk h) hb2)
         have HKb:=HKb2
        rotate_left
        focus
         go_simp
         obtain ⟨C1,hX⟩:∃ X,X=wd.alloc (.cells [.int .i64 kq.op,.int .i64 kq.ct,.int .i64 kq.n,.int .i64 kq.m,.int .i64 kq.va,.slice nA kq.ks.length ncap].toArray 28):=⟨_,rfl⟩
         have hb1:Below wd wd C1:=by rw [hX];exact (zy2 _ _).alloc (zz8 _) _
         have hkb1:Blk C1 wd 28 [.int .i64 kq.op,.int .i64 kq.ct,.int .i64 kq.n,.int .i64 kq.m,.int .i64 kq.va,.slice nA kq.ks.length ncap].toArray:=by rw [hX];exact Blk.new _ _ _
         have hX2:=hX
         simp only [List.toArray] at hX2
         first | rw [←hX] | rw [←hX2]
         clear hX hX2
         have hC1:Below w14 w14 C1:=hC0.trans (hb1.mono hC0.size)
         have HKb1:=jj hkb1
         obtain ⟨kb,hkb⟩:∃ X,X=wd.heap.size:=⟨_,rfl⟩
         rw [←hkb] at HKb1 ⊢
         clear hkb hkb1
         (try dsimp only)
         refine hK.out _ _ (HS.out _ hC1) (fun _=>trivial) ?_
         clear hK K
         (try simp only [zz])
         refine w1 2 rfl fun K hK=>?_
         go_simp
         go_at_call 57
         refine (Clone_P lp.ks (by omega) C1 _ Gv (HVA.out C1 hC1) (HVu.out.mono (Nat.le_trans hs14 hC1.size))).mono ?_
         rintro e C2 ⟨cv,Gc,rfl,hb2,ho2,hG2⟩
         have hC2:Below w14 w14 C2:=hC1.trans (hb2.mono hC1.size)
         obtain ⟨cA,ccap,rfl,-,-⟩:=ho2.form
         have HGc:=jj hG2
         have HOc2:=jj (ho2.base (B':=w14.heap.size) (fun g hg=>Nat.le_trans hC1.size (ho2.row g hg).1))
         clear ho2 hG2
         have HOc:=HOc2
         have HKb:=jj (HKb1.out.same (hb2.block _ HKb1.out.lt))
        rotate_left
        all_goals (
         (try dsimp only)
         refine hK.out _ _ (HS.out _ hC2) (fun _=>trivial) ?_
         clear hK K
         (try simp only [zz])
         refine w1 5 rfl fun K hK=>?_
         refine step_pushP (P:=Try.prog) rfl _ _ 26 rfl i0 _ 64 Try.underlying26 HI.out HZ0.out HZ1.out HZ2.out rfl (by decide) PR_len' PR_mono' (by rfl) HOc.out kq 28 [kq.op,kq.ct,kq.n,kq.m,kq.va,.slice nA kq.ks.length ncap] Gk kb (by rfl) HKb.out (by simp [Value.oneCell']) (HVk2.out C2 hC2) (HKu.out.mono (Nat.le_trans hs14 hC2.size)) (fun g hg hgG=>Nat.lt_irrefl _ (zz9 (HKu.out g hgG) (Nat.le_trans hs14 (HOc.out.row g hg).1))) (by unfold maxLen;omega) (by omega) hC2.size ?_
         intro g7 cp7 C3 hown3 hgr3 hat3
         have hC3:Below w14 w14 C3:=hC2.grown hgr3 hC2.size (fun g hg=>(HOc.out.row g (zA1.2 hg)).1)
         have HO3:=jj hown3
         have H3R:Hid (∀ g∈rowOf (.slice (some ⟨g7,0,none⟩) (lp.ks.length+1) cp7),w14.heap.size≤g∧g<C3.heap.size):=fun g hg=>HO3.out.row g hg
         clear hown3 hgr3 hat3
         (try dsimp only)
         refine hK.out _ _ (HS.out _ hC3) (fun _=>trivial) ?_
         clear hK K
         (try simp only [zz])
         have hS3:=HS.out _ hC3
         refine wV 6 rfl hS3 hT0 ?_
         (try simp only [zz])
         refine w1 7 rfl fun K hK=>?_
         have K3:=HK21.out.same (hC3.block _ HK21.out.lt)
         have xf5:=K3.frozen 5
         obtain ⟨-,-,-,-,-,xc5,xlt⟩:=K3.c6
         have hS7:(C3.setCell ⟨b21,5,none⟩ (.slice (some ⟨g7,0,none⟩) (lp.ks.length+1) cp7)).cell? ⟨bb,5,none⟩=some (.slice vA lp.ks.length vcap)∧(C3.setCell ⟨b21,5,none⟩ (.slice (some ⟨g7,0,none⟩) (lp.ks.length+1) cp7)).cell? ⟨b20,0,none⟩=kq.op∧(C3.setCell ⟨b21,5,none⟩ (.slice (some ⟨g7,0,none⟩) (lp.ks.length+1) cp7)).cell? ⟨b20,1,none⟩=kq.ct∧(C3.setCell ⟨b21,5,none⟩ (.slice (some ⟨g7,0,none⟩) (lp.ks.length+1) cp7)).cell? ⟨b20,2,none⟩=kq.n∧(C3.setCell ⟨b21,5,none⟩ (.slice (some ⟨g7,0,none⟩) (lp.ks.length+1) cp7)).cell? ⟨b20,3,none⟩=kq.m∧(C3.setCell ⟨b21,5,none⟩ (.slice (some ⟨g7,0,none⟩) (lp.ks.length+1) cp7)).cell? ⟨b20,4,none⟩=kq.va∧(C3.setCell ⟨b21,5,none⟩ (.slice (some ⟨g7,0,none⟩) (lp.ks.length+1) cp7)).cell? ⟨b20,5,none⟩=some (.slice nA kq.ks.length ncap):=⟨(World.cell?_setCell_far _ _ _ _ (show b21≠bb by omega)).trans hS3.1,(World.cell?_setCell_far _ _ _ _ (show b21≠b20 by omega)).trans hS3.2.1,(World.cell?_setCell_far _ _ _ _ (show b21≠b20 by omega)).trans hS3.2.2.1,(World.cell?_setCell_far _ _ _ _ (show b21≠b20 by omega)).trans hS3.2.2.2.1,(World.cell?_setCell_far _ _ _ _ (show b21≠b20 by omega)).trans hS3.2.2.2.2.1,(World.cell?_setCell_far _ _ _ _ (show b21≠b20 by omega)).trans hS3.2.2.2.2.2.1,(World.cell?_setCell_far _ _ _ _ (show b21≠b20 by omega)).trans hS3.2.2.2.2.2.2⟩
         go_simp
         refine hK.out _ _ hS7 (fun _=>trivial) ?_
         clear hK K
         (try simp only [zz])
         refine wE (by kernel_rfl) ?_
         clear hS0 hS3 hS7 hT0 x0 x1 x2 x3 x4 x5 x6 xf5 xc5 xlt
         obtain ⟨C4,hC4e⟩:∃ X,X=C3.setCell ⟨b21,5,none⟩ (.slice (some ⟨g7,0,none⟩) (lp.ks.length+1) cp7):=⟨_,rfl⟩
         have hb34:Below b21 C3 C4:=by rw [hC4e];exact (zy2 b21 C3).setCell (show b21≤(⟨b21,5,none⟩:Addr).block from zz8 _) _
         have K4:Blk C4 b21 28 #[lp.op,lp.ct,lp.n,lp.m,lp.va,.slice (some ⟨g7,0,none⟩) (lp.ks.length+1) cp7]:=by rw [hC4e];simpa using K3.set_ 5 (.slice (some ⟨g7,0,none⟩) (lp.ks.length+1) cp7)
         have hsz4:C4.heap.size=C3.heap.size:=by rw [hC4e];simp [World.setCell]
         have hfar:∀ b,b≠b21→C4.heap[b]?=C3.heap[b]?:=fun b hb=>by rw [hC4e];exact zz7 _ _ _ _ hb
         rw [←hC4e]
         clear hC4e K3
         have hY3:PR C3 (lp.re (lp.ks ++ [kq])) [lp.op,lp.ct,lp.n,lp.m,lp.va,.slice (some ⟨g7,0,none⟩) (lp.ks.length+1) cp7] (rowOf (.slice (some ⟨g7,0,none⟩) (lp.ks.length+1) cp7) ++ (Gc ++ Gk)):=by
          have h:=HO3.out.arr
          rw [if_neg (by simp)] at h
          rw [show lp.ks.length+1=(lp.ks ++ [kq]).length by simp] at h ⊢
          exact (zA4 _ _ _).2 ⟨_,rfl,h⟩
         have hYU3:∀ b∈(rowOf (.slice (some ⟨g7,0,none⟩) (lp.ks.length+1) cp7) ++ (Gc ++ Gk)),b<C3.heap.size∧b≠b21∧w.heap.size≤b∧b∉rowOf (.slice mA (moreR gp lp ki s).length mcap):=fun b hb=>by
          have h2:=hC3.size
          have h3:=HK21.out.lt
          rcases List.mem_append.1 hb with hb | hb
          ·have h1:=H3R.out b hb
           exact ⟨h1.2,by omega,by omega,fun h=>by have:=(HM.out.row b h).2;omega⟩
          ·have h1:b<w10.heap.size∧w.heap.size≤b:=by
            rcases List.mem_append.1 hb with hb | hb
            ·exact ⟨HVu.out b (HGc.out b hb),HLL.out b (HVS.out b (HGc.out b hb))⟩
            ·exact ⟨HKu.out b hb,HKL.out b (HKs.out b hb)⟩
           exact ⟨by omega,by omega,h1.2,fun h=>by have:=(HM.out.row b h).1;omega⟩
         have hYR:PR C4 (lp.re (lp.ks ++ [kq])) [lp.op,lp.ct,lp.n,lp.m,lp.va,.slice (some ⟨g7,0,none⟩) (lp.ks.length+1) cp7] (rowOf (.slice (some ⟨g7,0,none⟩) (lp.ks.length+1) cp7) ++ (Gc ++ Gk)):=PR_mono' _ _ _ _ _ (fun b hb=>hfar b (hYU3 b hb).2.1) hY3
         have hYU:Under C4 (rowOf (.slice (some ⟨g7,0,none⟩) (lp.ks.length+1) cp7) ++ (Gc ++ Gk)):=fun b hb=>by rw [hsz4];exact (hYU3 b hb).1
         have hB14:Below w10 w10 C4:=(HB14.out.trans (hC3.mono HB14.out.size)).trans (hb34.mono (by omega))
         have hM4:Own C4 w10.heap.size 28 6 PR (moreR gp lp ki s) (.slice mA (moreR gp lp ki s).length mcap) Fn:=by
          refine (HM14.out.below (fun x cs G hk h=>PR_mono' _ _ x cs G hk h) hC3).mono (fun x cs G hk h=>PR_mono' _ _ x cs G hk h) (fun b hb=>hfar b ?_) (by omega)
          rcases List.mem_append.1 hb with hb | hb
          ·have:=(HM.out.row b hb).2;omega
          ·have:=HM.out.under b hb;omega
         have hK4b:Blk C4 bb 28 #[lp.op,lp.ct,lp.n,lp.m,lp.va,.slice vA lp.ks.length vcap]:=(HK14.out.same (hC3.block _ HK14.out.lt)).same (hfar bb (by omega))
         have HY:=jj hYR
         have HYU:=jj hYU
         have HYN:Hid (∀ g∈rowOf (.slice mA (moreR gp lp ki s).length mcap),g∉(rowOf (.slice (some ⟨g7,0,none⟩) (lp.ks.length+1) cp7) ++ (Gc ++ Gk))):=fun g hg hgG=>(hYU3 g hgG).2.2.2 hg
         have HYL:Hid (∀ b∈(rowOf (.slice (some ⟨g7,0,none⟩) (lp.ks.length+1) cp7) ++ (Gc ++ Gk)),w.heap.size≤b):=fun b hb=>(hYU3 b hb).2.2.1
         have HM4:=jj hM4
         have HK4b:=jj hK4b
         have hbs4:=hB14.size
         have HB4:=jj hB14
         obtain ⟨x0,x1,x2,x3,x4,x5,xlt⟩:=K4.c6
         have HMS2:=jj HMS.out
         clear hsz4 hYR hYU hYU3 hY3 hM4 hK4b hB14 hfar hb34 K4 HO3 H3R hC3 hC2 hC1 hC0 hb1 hb2
         go_wp2_with (at_builtin;refine Halt.mk ?_)
         refine Halt.of (zA3 (P:=Try.prog) rfl _ _ 26 rfl i0 _ 64 Try.underlying26 HI.out HZ0.out HZ1.out HZ2.out rfl (by decide) PR_len' PR_mono' (by rfl) HM4.out (lp.re (lp.ks ++ [kq])) 28 [lp.op,lp.ct,lp.n,lp.m,lp.va,.slice (some ⟨g7,0,none⟩) (lp.ks.length+1) cp7] (rowOf (.slice (some ⟨g7,0,none⟩) (lp.ks.length+1) cp7) ++ (Gc ++ Gk)) C4.heap.size (by rfl) rfl (by simp [Value.oneCell']) HY.out HYU.out HYN.out hmx hby hbs4 ?_)
         intro g10 cp10 C5 hown5 hgr5 hat5
         clear x0 x1 x2 x3 x4 x5 xlt
         have hrow:=HM4.out.row
         have hB5:Below w10 w10 C5:=(HB4.out.alloc HB4.out.size _).grown hgr5 (by simp;omega) (fun g hg=>(hrow g (zA1.2 hg)).1)
         have nbb:some bb≠(Value.ownBlock (.slice mA (moreR gp lp ki s).length mcap)):=fun e=>HNB.out (zA1.2 e.symm)
         have HK5:Hid (Blk C5 bb 28 #[lp.op,lp.ct,lp.n,lp.m,lp.va,.slice vA lp.ks.length vcap]):=(HK4b.out.same (Below.heap_alloc _ _ _ HK4b.out.lt)).same (hgr5.block _ (by rw [World.size_alloc];have:=HK4b.out.lt;omega) nbb)
         have HN5:Hid (bb∉rowOf (.slice (some ⟨g10,0,none⟩) ((moreR gp lp ki s).length+1) cp10)):=fun h=>by
          rw [zA5,zy1] at h
          have h3:=HK4b.out.lt
          rcases hat5 with h1 | h1
          ·exact nbb (by rw [h1,h])
          ·omega
         have HF5:Hid (∀ b∈Fn ++ (rowOf (.slice (some ⟨g7,0,none⟩) (lp.ks.length+1) cp7) ++ (Gc ++ Gk)),w.heap.size≤b):=fun b hb=>by
          rcases List.mem_append.1 hb with hb | hb
          ·exact HFM.out b hb
          ·exact HYL.out b hb
         have HO5:=jj hown5
         clear hown5 hgr5 hat5 hrow nbb
         go_wp2
         go_roundw
         case rel=>exact ⟨s+1,_,hsl,by go_num,(by rw [HMS.out];exact HO5.out),HF5.out,hB5,HK5.out,HN5.out⟩
         case measure=>(simp [intOf] <;> omega))
       ·have hs2:s=ki.length:=by omega
        subst hs2
        have HOM:Hid (Own wr w10.heap.size 28 6 PR (growRTo li ki (a+1)) (.slice mA (moreR gp lp ki ki.length).length mcap) Fn):=by rw [HGS.out,←moreR_all gp lp ki (zz8 _)];exact HM.out
        go_wp2
        go_roundw
        case rel=>exact ⟨a+1,Fn,hal,by go_num,HOM.out,HFM.out,HBM.out⟩
        case measure=>(simp [intOf] <;> omega)
     ·have ha2:a=li.length:=by omega
      subst ha2
      have hga:=growRTo_all li ki (zz8 _)
      have HOM:Hid (Own wq w.heap.size 28 6 PR (splTo p (j+1)) (.slice mA (growRTo li ki li.length).length mcap) Fm):=by rw [HSU.out,←hga];exact HM.out.base (fun g hg=>Nat.le_trans h210 (HM.out.row g hg).1)
      have HB4:Hid (Below w4 w4 wq):=HB10.out.trans (HBM.out.mono HB10.out.size)
      clear hga
      go_wp2
      go_roundw
      case rel=>exact ⟨j+1,_,hjl,by go_num,HOM.out,HFM.out,HB4⟩
      case measure=>(simp [intOf] <;> omega)
   ·have HALL:=jj (splTo_all H5.out (Nat.le_of_not_lt hjl))
    have HFin:Hid (MadeSp (P.spl p) w (.returned (.slice lA (splTo p j).length lcap)) wp):=by
     rw [←HALL.out]
     exact ⟨_,Fl,rfl,hB,HL.out,HFl.out⟩
    go_wp2
    go_ret
    exact HFin.out
theorem impl_split:∀ p,SpP p:=P.indv split_of
def CntP (p:P):Prop:=∀ (w:World) (cs:List Value) (G:List Nat),PR w p cs G→Under w G →
 Calls Try.prog 23 #[.agg cs.toArray] w fun e w'=>e=.returned (.int .i64 (cut4 (P.spl p).length:Nat))∧Below w w w'
set_option maxHeartbeats 6400000 in
theorem countSplit_of (p:P) (ih:∀ k∈p.ks,CntP k):CntP p:=by
 intro w cs G hp hg
 obtain ⟨kv,rfl,ha⟩:=(zA4 _ _ _).1 hp
 obtain ⟨A4,cap4,rfl,hc3,hc4⟩:=ha.form
 have IH:=jj ih
 have HA:=jj ha
 have HG:=jj hg
 clear ha hg
 clear ih hp
 by_cases h5:p.op=5
 ·have t5:(p.op==5)=true:=by simp [h5]
  have H5:=jj h5
  clear h5
  go_enter Try.func23,Try.ntmps23
  go_wp2_with fail
  obtain ⟨W2,hW2⟩:∃ W2,W2=w.alloc (.cells #[p.op,p.ct,p.n,p.m,p.va,.slice A4 p.ks.length cap4] 28):=⟨_,rfl⟩
  have hB0:Below w w W2:=by rw [hW2];exact (zy2 _ _).alloc (zz8 _) _
  have KP:Hid (Blk W2 w 28 #[p.op,p.ct,p.n,p.m,p.va,.slice A4 p.ks.length cap4]):=by rw [hW2];exact Blk.new _ _ _
  rw [←hW2]
  clear hW2
  obtain ⟨z0,-,-,-,-,z5,klt⟩:=KP.out.c6
  go_wp2
  clear z0 z5 klt
  go_loopw [3,12] (fun nv iv wr=>∃ i:Nat,i≤p.ks.length∧iv=.int .i64 i∧nv=.int .i64 (cut4 (lenTo p i):Nat)∧Hid (Below W2 W2 wr)) (fun _ iv _=>p.ks.length-(intOf iv).toNat)
  case atStart=>exact ⟨0,Nat.zero_le _,rfl,by rw [lenTo_or H5.out];rfl,zy2 _ _⟩
  case round =>
   obtain ⟨i,hi,rfl,rfl,HB⟩:=hrel
   have hB:=hB0.trans (HB.out.mono hB0.size)
   by_cases hil:i<p.ks.length
   ·obtain ⟨b4,off4,rfl⟩:=HA.out.ptr (by omega)
    obtain ⟨A7,cap7,G7,hb7,k0,k1,k2,k3,k4,k5,HV7,HG7,hgs7,-,-⟩:=ArrP.at HA.out HG.out hB i hil
    have g1:(0:Int)≤(i:Int):=by omega
    have g2:(i:Int)<(p.ks.length:Int):=by omega
    have KPr:=KP.out.same (HB.out.block _ KP.out.lt)
    obtain ⟨y0,-,-,-,-,-,klt⟩:=KPr.c6
    go_wp2_with fail
    obtain ⟨wk,hwk⟩:∃ wk,wk=wr.alloc (.cells #[p.ks[i].op,p.ks[i].ct,p.ks[i].n,p.ks[i].m,p.ks[i].va,.slice A7 p.ks[i].ks.length cap7] 28):=⟨_,rfl⟩
    have hBk:Below wr wr wk:=by rw [hwk];exact (zy2 _ _).alloc (zz8 _) _
    have KK:Blk wk wr 28 #[p.ks[i].op,p.ks[i].ct,p.ks[i].n,p.ks[i].m,p.ks[i].va,.slice A7 p.ks[i].ks.length cap7]:=by rw [hwk];exact Blk.new _ _ _
    rw [←hwk]
    clear hwk
    have HBw:Hid (Below W2 W2 wk):=HB.out.trans (hBk.mono HB.out.size)
    have hBw:=hB.trans (hBk.mono hB.size)
    clear KK KPr k0 k1 k2 k3 k4 k5 hb7 hBk y0 klt
    refine (IH.out p.ks[i] (List.getElem_mem hil) wk _ G7 (HV7.out.below hBw HG7.out) (HG7.out.mono hBw.size)).mono ?_
    rintro e w8 ⟨rfl,hb8⟩
    have hcs:cut4 (lenTo p (i+1))=min (cut4 (lenTo p i)+cut4 (P.spl p.ks[i]).length) 401:=by rw [lenTo_add H5.out i hil,cut4_add]
    have h1:=cut4_le (lenTo p i)
    have h2:=cut4_le (P.spl p.ks[i]).length
    have HCS:=jj hcs
    have HB8:Hid (Below W2 W2 w8):=HBw.out.trans (hb8.mono HBw.out.size)
    generalize cut4 (P.spl p.ks[i]).length=cv at *
    generalize cut4 (lenTo p i)=nv at *
    clear hcs hb8 hBw HBw
    go_wp2
    go_roundw
    case rel=>exact ⟨i+1,hil,by go_num,by rw [HCS.out];first | (rw [←min4_add];done) | (congr 1;omega),HB8.out⟩
    case measure=>(simp [intOf] <;> omega)
   ·have HALL:=jj (lenTo_all (p:=p) (i:=i) (Nat.le_of_not_lt hil))
    go_wp2
    go_ret
    exact ⟨zAQ (congrArg (fun n:Nat=>((cut4 n:Nat):Int)) HALL.out),hB⟩
 ·have t5:(p.op==5)=false:=by simp [h5]
  have H5:=jj h5
  clear h5
  go_enter Try.func23,Try.ntmps23
  go_wp2_with fail
  obtain ⟨W2,hW2⟩:∃ W2,W2=w.alloc (.cells #[p.op,p.ct,p.n,p.m,p.va,.slice A4 p.ks.length cap4] 28):=⟨_,rfl⟩
  have hB0:Below w w W2:=by rw [hW2];exact (zy2 _ _).alloc (zz8 _) _
  have KP:Hid (Blk W2 w 28 #[p.op,p.ct,p.n,p.m,p.va,.slice A4 p.ks.length cap4]):=by rw [hW2];exact Blk.new _ _ _
  rw [←hW2]
  clear hW2
  obtain ⟨z0,-,-,-,-,z5,klt⟩:=KP.out.c6
  go_wp2
  clear z0 z5 klt
  go_loopw [3,12] (fun nv iv wr=>∃ i:Nat,i≤p.ks.length∧iv=.int .i64 i∧nv=.int .i64 (cut4 (lenTo p i):Nat)∧Hid (Below W2 W2 wr)) (fun _ iv _=>p.ks.length-(intOf iv).toNat)
  case atStart=>exact ⟨0,Nat.zero_le _,rfl,by rw [lenTo_no H5.out];rfl,zy2 _ _⟩
  case round =>
   obtain ⟨i,hi,rfl,rfl,HB⟩:=hrel
   have hB:=hB0.trans (HB.out.mono hB0.size)
   by_cases hil:i<p.ks.length
   ·obtain ⟨b4,off4,rfl⟩:=HA.out.ptr (by omega)
    obtain ⟨A7,cap7,G7,hb7,k0,k1,k2,k3,k4,k5,HV7,HG7,hgs7,-,-⟩:=ArrP.at HA.out HG.out hB i hil
    have g1:(0:Int)≤(i:Int):=by omega
    have g2:(i:Int)<(p.ks.length:Int):=by omega
    have KPr:=KP.out.same (HB.out.block _ KP.out.lt)
    obtain ⟨y0,-,-,-,-,-,klt⟩:=KPr.c6
    go_wp2_with fail
    obtain ⟨wk,hwk⟩:∃ wk,wk=wr.alloc (.cells #[p.ks[i].op,p.ks[i].ct,p.ks[i].n,p.ks[i].m,p.ks[i].va,.slice A7 p.ks[i].ks.length cap7] 28):=⟨_,rfl⟩
    have hBk:Below wr wr wk:=by rw [hwk];exact (zy2 _ _).alloc (zz8 _) _
    have KK:Blk wk wr 28 #[p.ks[i].op,p.ks[i].ct,p.ks[i].n,p.ks[i].m,p.ks[i].va,.slice A7 p.ks[i].ks.length cap7]:=by rw [hwk];exact Blk.new _ _ _
    rw [←hwk]
    clear hwk
    have HBw:Hid (Below W2 W2 wk):=HB.out.trans (hBk.mono HB.out.size)
    have hBw:=hB.trans (hBk.mono hB.size)
    clear KK KPr k0 k1 k2 k3 k4 k5 hb7 hBk y0 klt
    refine (IH.out p.ks[i] (List.getElem_mem hil) wk _ G7 (HV7.out.below hBw HG7.out) (HG7.out.mono hBw.size)).mono ?_
    rintro e w8 ⟨rfl,hb8⟩
    have hcs:cut4 (lenTo p (i+1))=min (cut4 (lenTo p i)*cut4 (P.spl p.ks[i]).length) 401:=by rw [lenTo_mul H5.out i hil,cut4_mul]
    have h1:=cut4_le (lenTo p i)
    have h2:=cut4_le (P.spl p.ks[i]).length
    have HCS:=jj hcs
    have HB8:Hid (Below W2 W2 w8):=HBw.out.trans (hb8.mono HBw.out.size)
    generalize cut4 (P.spl p.ks[i]).length=cv at *
    generalize cut4 (lenTo p i)=nv at *
    have hmul:nv*cv≤401*401:=Nat.mul_le_mul h1 h2
    have hw2:IntKind.i64.wrap ((nv:Int)*(cv:Int))=((nv*cv:Nat):Int):=by rw [←Int.natCast_mul];exact IntWalk.i64_in _ (by omega)
    clear hcs hb8 hBw HBw
    go_wp2
    go_roundw
    case rel=>exact ⟨i+1,hil,by go_num,by rw [HCS.out];first | (rw [←min4_mul];done) | (congr 1;rw [←Int.natCast_mul];omega),HB8.out⟩
    case measure=>(simp [intOf] <;> omega)
   ·have HALL:=jj (lenTo_all (p:=p) (i:=i) (Nat.le_of_not_lt hil))
    go_wp2
    go_ret
    exact ⟨zAQ (congrArg (fun n:Nat=>((cut4 n:Nat):Int)) HALL.out),hB⟩
theorem impl_countSplit:∀ p,CntP p:=P.indv countSplit_of
def onlyB (p:P) (c n v:Bool) (k:Int):Bool:=(c || p.ct==0) && ((n || (p.n==0 && p.m==0)) && ((v || p.va==0) && ((p.ks.length:Int)==k)))
theorem impl_only (p:P) (A4:Option Addr) (cap4:Nat) (c n v:Bool) (k:Int) (w:World) :
  Calls Try.prog 105 #[.agg #[p.op,p.ct,p.n,p.m,p.va,.slice A4 p.ks.length cap4],.bool c,.bool n,.bool v,.int .i64 k] w fun e w'=>e=.returned (.bool (onlyB p c n v k))∧Below w w w':=by
 have HB:Hid (Below w w (w.alloc (.cells #[p.op,p.ct,p.n,p.m,p.va,.slice A4 p.ks.length cap4] 28))):=(zy2 _ _).alloc (zz8 _) _
 cases c with
 |false =>
  cases n with
  |false =>
   cases v with
   |false =>
    cases q1:(p.ct==0) with
    |false =>
     have hf:Hid (onlyB p false false false k=false):=by unfold Hid onlyB;rw [q1];rfl
     go_enter Try.func105,Try.ntmps105
     go_wp2
     go_ret
     exact ⟨zA0 hf.out.symm,HB.out⟩
    |true =>
     cases q2:(p.n==0) with
     |false =>
      have hf:Hid (onlyB p false false false k=false):=by unfold Hid onlyB;rw [q1,q2];rfl
      go_enter Try.func105,Try.ntmps105
      go_wp2
      go_ret
      exact ⟨zA0 hf.out.symm,HB.out⟩
     |true =>
      cases q3:(p.m==0) with
      |false =>
       have hf:Hid (onlyB p false false false k=false):=by unfold Hid onlyB;rw [q1,q2,q3];rfl
       go_enter Try.func105,Try.ntmps105
       go_wp2
       go_ret
       exact ⟨zA0 hf.out.symm,HB.out⟩
      |true =>
       cases q4:(p.va==0) with
       |false =>
        have hf:Hid (onlyB p false false false k=false):=by unfold Hid onlyB;rw [q1,q2,q3,q4];rfl
        go_enter Try.func105,Try.ntmps105
        go_wp2
        go_ret
        exact ⟨zA0 hf.out.symm,HB.out⟩
       |true =>
        have hf:Hid (onlyB p false false false k=((p.ks.length:Int)==k)):=by unfold Hid onlyB;rw [q1,q2,q3,q4];rfl
        go_enter Try.func105,Try.ntmps105
        go_wp2
        go_ret
        exact ⟨zA0 hf.out.symm,HB.out⟩
   |true =>
    cases q1:(p.ct==0) with
    |false =>
     have hf:Hid (onlyB p false false true k=false):=by unfold Hid onlyB;rw [q1];rfl
     go_enter Try.func105,Try.ntmps105
     go_wp2
     go_ret
     exact ⟨zA0 hf.out.symm,HB.out⟩
    |true =>
     cases q2:(p.n==0) with
     |false =>
      have hf:Hid (onlyB p false false true k=false):=by unfold Hid onlyB;rw [q1,q2];rfl
      go_enter Try.func105,Try.ntmps105
      go_wp2
      go_ret
      exact ⟨zA0 hf.out.symm,HB.out⟩
     |true =>
      cases q3:(p.m==0) with
      |false =>
       have hf:Hid (onlyB p false false true k=false):=by unfold Hid onlyB;rw [q1,q2,q3];rfl
       go_enter Try.func105,Try.ntmps105
       go_wp2
       go_ret
       exact ⟨zA0 hf.out.symm,HB.out⟩
      |true =>
       have hf:Hid (onlyB p false false true k=((p.ks.length:Int)==k)):=by unfold Hid onlyB;rw [q1,q2,q3];rfl
       go_enter Try.func105,Try.ntmps105
       go_wp2
       go_ret
       exact ⟨zA0 hf.out.symm,HB.out⟩
  |true =>
   cases v with
   |false =>
    cases q1:(p.ct==0) with
    |false =>
     have hf:Hid (onlyB p false true false k=false):=by unfold Hid onlyB;rw [q1];rfl
     go_enter Try.func105,Try.ntmps105
     go_wp2
     go_ret
     exact ⟨zA0 hf.out.symm,HB.out⟩
    |true =>
     cases q4:(p.va==0) with
     |false =>
      have hf:Hid (onlyB p false true false k=false):=by unfold Hid onlyB;rw [q1,q4];rfl
      go_enter Try.func105,Try.ntmps105
      go_wp2
      go_ret
      exact ⟨zA0 hf.out.symm,HB.out⟩
     |true =>
      have hf:Hid (onlyB p false true false k=((p.ks.length:Int)==k)):=by unfold Hid onlyB;rw [q1,q4];rfl
      go_enter Try.func105,Try.ntmps105
      go_wp2
      go_ret
      exact ⟨zA0 hf.out.symm,HB.out⟩
   |true =>
    cases q1:(p.ct==0) with
    |false =>
     have hf:Hid (onlyB p false true true k=false):=by unfold Hid onlyB;rw [q1];rfl
     go_enter Try.func105,Try.ntmps105
     go_wp2
     go_ret
     exact ⟨zA0 hf.out.symm,HB.out⟩
    |true =>
     have hf:Hid (onlyB p false true true k=((p.ks.length:Int)==k)):=by unfold Hid onlyB;rw [q1];rfl
     go_enter Try.func105,Try.ntmps105
     go_wp2
     go_ret
     exact ⟨zA0 hf.out.symm,HB.out⟩
 |true =>
  cases n with
  |false =>
   cases v with
   |false =>
    cases q2:(p.n==0) with
    |false =>
     have hf:Hid (onlyB p true false false k=false):=by unfold Hid onlyB;rw [q2];rfl
     go_enter Try.func105,Try.ntmps105
     go_wp2
     go_ret
     exact ⟨zA0 hf.out.symm,HB.out⟩
    |true =>
     cases q3:(p.m==0) with
     |false =>
      have hf:Hid (onlyB p true false false k=false):=by unfold Hid onlyB;rw [q2,q3];rfl
      go_enter Try.func105,Try.ntmps105
      go_wp2
      go_ret
      exact ⟨zA0 hf.out.symm,HB.out⟩
     |true =>
      cases q4:(p.va==0) with
      |false =>
       have hf:Hid (onlyB p true false false k=false):=by unfold Hid onlyB;rw [q2,q3,q4];rfl
       go_enter Try.func105,Try.ntmps105
       go_wp2
       go_ret
       exact ⟨zA0 hf.out.symm,HB.out⟩
      |true =>
       have hf:Hid (onlyB p true false false k=((p.ks.length:Int)==k)):=by unfold Hid onlyB;rw [q2,q3,q4];rfl
       go_enter Try.func105,Try.ntmps105
       go_wp2
       go_ret
       exact ⟨zA0 hf.out.symm,HB.out⟩
   |true =>
    cases q2:(p.n==0) with
    |false =>
     have hf:Hid (onlyB p true false true k=false):=by unfold Hid onlyB;rw [q2];rfl
     go_enter Try.func105,Try.ntmps105
     go_wp2
     go_ret
     exact ⟨zA0 hf.out.symm,HB.out⟩
    |true =>
     cases q3:(p.m==0) with
     |false =>
      have hf:Hid (onlyB p true false true k=false):=by unfold Hid onlyB;rw [q2,q3];rfl
      go_enter Try.func105,Try.ntmps105
      go_wp2
      go_ret
      exact ⟨zA0 hf.out.symm,HB.out⟩
     |true =>
      have hf:Hid (onlyB p true false true k=((p.ks.length:Int)==k)):=by unfold Hid onlyB;rw [q2,q3];rfl
      go_enter Try.func105,Try.ntmps105
      go_wp2
      go_ret
      exact ⟨zA0 hf.out.symm,HB.out⟩
  |true =>
   cases v with
   |false =>
    cases q4:(p.va==0) with
    |false =>
     have hf:Hid (onlyB p true true false k=false):=by unfold Hid onlyB;rw [q4];rfl
     go_enter Try.func105,Try.ntmps105
     go_wp2
     go_ret
     exact ⟨zA0 hf.out.symm,HB.out⟩
    |true =>
     have hf:Hid (onlyB p true true false k=((p.ks.length:Int)==k)):=by unfold Hid onlyB;rw [q4];rfl
     go_enter Try.func105,Try.ntmps105
     go_wp2
     go_ret
     exact ⟨zA0 hf.out.symm,HB.out⟩
   |true =>
    have hf:Hid (onlyB p true true true k=((p.ks.length:Int)==k)):=by unfold Hid onlyB;rfl
    go_enter Try.func105,Try.ntmps105
    go_wp2
    go_ret
    exact ⟨zA0 hf.out.symm,HB.out⟩
theorem impl_isVar (n:Int) (w:World):Calls Try.prog 106 #[.int .i64 n] w fun e w'=>e=.returned (.bool (withinB n 0 5))∧w'=w:=by
 go_enter Try.func106,Try.ntmps106
 go_wp2_with fail
 refine (zAK n 0 5 w).mono ?_
 rintro e w' ⟨rfl,hw'⟩
 generalize hq:withinB n 0 5=q
 have HQ:=jj hq
 clear hq
 go_wp2
 go_ret
 exact ⟨zA0 HQ.out.symm,hw'.symm⟩
theorem arr_tys1 {w:World} {g:Nat} {T:TypeId} {t:Ty} (h:Blk w g T #[t.d,t.i]):Arr w (TyR w) [t] (.slice (some ⟨g,0,none⟩) 1 1) [g] :=
 ⟨_,1,rfl,zz8 _,by simp [maxLen],.inr ⟨g,0,[t.d,t.i],[],rfl,fun j u hj=>by rw [Nat.zero_add,h.cell];simpa using hj,⟨[t.d,t.i],[],[],[],rfl,rfl,⟨rfl,rfl⟩,rfl,rfl⟩,rfl⟩⟩
theorem arr_tys2 {w:World} {g:Nat} {T:TypeId} {t:Ty} (h:Blk w g T #[t.d,t.i,t.d,t.i]):Arr w (TyR w) [t,t] (.slice (some ⟨g,0,none⟩) 2 2) [g] :=
 ⟨_,2,rfl,zz8 _,by simp [maxLen],.inr ⟨g,0,[t.d,t.i,t.d,t.i],[],rfl,fun j u hj=>by rw [Nat.zero_add,h.cell];simpa using hj,⟨[t.d,t.i],[t.d,t.i],[],[],rfl,rfl,⟨rfl,rfl⟩,⟨[t.d,t.i],[],[],[],rfl,rfl,⟨rfl,rfl⟩,rfl,rfl⟩⟩,rfl⟩⟩
theorem node_len {xs:List Dt} {t:Ty} {p:P} (h:¬p.op=4):(typesP xs t p).length=kidsN p.op:=by rw [typesP_no h,repTo_len]
theorem nodeB_1 {xs:List Dt} {t:Ty} {p:P} (h:p.op=1):nodeB xs t p=(onlyB p false false false 0):=by
 unfold nodeB ownB namedB kindB onlyB
 rw [node_len (by omega),h]
 unfold kidsN
 rw [Bool.eq_iff_iff]
 simp [zAU] <;> first | omega | (constructor <;> intro h <;> (try simp_all) <;> (try omega))
theorem nodeB_2 {xs:List Dt} {t:Ty} {p:P} (h:p.op=2):nodeB xs t p=(onlyB p false false true 0 && withinB p.va 0 5):=by
 unfold nodeB ownB namedB kindB onlyB
 rw [node_len (by omega),h]
 unfold kidsN
 rw [Bool.eq_iff_iff]
 simp [zAU] <;> first | omega | (constructor <;> intro h <;> (try simp_all) <;> (try omega))
theorem nodeB_3 {xs:List Dt} {t:Ty} {p:P} (h:p.op=3):nodeB xs t p=(t.d == -1 && (onlyB p false true false 0 && (decide (0≤p.n) && (decide (p.n≤p.m) && decide (p.m≤9))))):=by
 unfold nodeB ownB namedB kindB onlyB
 rw [node_len (by omega),h]
 unfold kidsN
 rw [Bool.eq_iff_iff]
 simp [zAU] <;> first | omega | (constructor <;> intro h <;> (try simp_all) <;> (try omega))
theorem nodeB_5 {xs:List Dt} {t:Ty} {p:P} (h:p.op=5):nodeB xs t p=(onlyB p false false false 2):=by
 unfold nodeB ownB namedB kindB onlyB
 rw [node_len (by omega),h]
 unfold kidsN
 rw [Bool.eq_iff_iff]
 simp [zAU] <;> first | omega | (constructor <;> intro h <;> (try simp_all) <;> (try omega))
theorem nodeB_6 {xs:List Dt} {t:Ty} {p:P} (h:p.op=6):nodeB xs t p=(onlyB p false false true 1 && withinB p.va 0 5):=by
 unfold nodeB ownB namedB kindB onlyB
 rw [node_len (by omega),h]
 unfold kidsN
 rw [Bool.eq_iff_iff]
 simp [zAU] <;> first | omega | (constructor <;> intro h <;> (try simp_all) <;> (try omega))
theorem nodeB_4 {xs:List Dt} {t:Ty} {p:P} (h:p.op=4):nodeB xs t p=(hasB (ctorsL xs t) p.ct && onlyB p true false false ((argsOf xs t p.ct).length:Nat)):=by
 unfold nodeB ownB namedB kindB onlyB typesP
 rw [h]
 rw [Bool.eq_iff_iff]
 simp <;> first | omega | (constructor <;> intro h <;> (try simp_all) <;> (try omega))
theorem nodeB_no {xs:List Dt} {t:Ty} {p:P} (h1:¬p.op=1) (h2:¬p.op=2) (h3:¬p.op=3) (h4:¬p.op=4) (h5:¬p.op=5) (h6:¬p.op=6):nodeB xs t p=false:=by
 unfold nodeB ownB kindB
 simp [h1,h2,h3,h4,h5,h6]
theorem shape_endA {w W2 w3:World} {T:TypeId} {C:Array Value} (hB0:Below w w W2) (hws2:W2.heap.size=w.heap.size+1+1) (hb3:Below (W2.drew.alloc (.cells C T)).heap.size (W2.drew.alloc (.cells C T)) w3) :
  Below w w w3∧Fresh w w3 [w.heap.size+1+1]∧Blk w3 (w.heap.size+1+1) T C:=by
 have hd:W2.drew.heap.size=w.heap.size+1+1:=hws2
 have hsz:(W2.drew.alloc (.cells C T)).heap.size=w.heap.size+1+1+1:=by rw [World.size_alloc,hd]
 have h1:=Blk.new W2.drew T C
 rw [hd] at h1
 have h3:=hb3.size
 refine ⟨(hB0.drew.alloc (by omega) _).trans (hb3.mono (by omega)),fun b hb=>?_,h1.same (hb3.block _ (by omega))⟩
 rw [zy1] at hb
 omega
theorem shape_endB {w W2 w3:World} (hB0:Below w w W2) (hb3:Below W2.drew.heap.size W2.drew w3) (o:Obj) :
  Below w w (w3.alloc o)∧Fresh w (w3.alloc o) [w3.heap.size]:=by
 have h3:W2.heap.size≤w3.heap.size:=hb3.size
 have h0:=hB0.size
 refine ⟨(hB0.drew.trans (hb3.mono hB0.size)).alloc (by omega) _,fun b hb=>?_⟩
 rw [zy1] at hb
 rw [World.size_alloc]
 omega
def ShapePost (xs:List Dt) (t:Ty) (p:P) (w:World) (e:Ending) (w':World):Prop:=∃ v F,e=.returned (.tuple #[v,.bool (nodeB xs t p)])∧Below w w w'∧Fresh w w' F∧(nodeB xs t p=true→Arr w' (TyR w') (typesP xs t p) v F)
theorem shape_1 (xs:List Dt) (hw:WorldOK xs) (t:Ty) (ht:TyIn xs.length t) (p:P) (h1:p.op=1) (w:World) (x:Value) (F:List Nat) (cs:List Value) (G:List Nat):Arr w (DtR w) xs x F→Under w F→PR w p cs G→Under w G →
  Calls Try.prog 82 #[x,.agg #[t.d,t.i],.agg cs.toArray] w (ShapePost xs t p w):=by
 intro hx hf hv hg
 obtain ⟨kv,rfl,ha⟩:=(zA4 _ _ _).1 hv
 obtain ⟨A,cap,rfl,hc1,hc2⟩:=hx.form
 obtain ⟨A4,cap4,rfl,hc3,hc4⟩:=ha.form
 have HV:=jj hv
 have HX:=jj hx
 have HF:=jj hf
 have HA:=jj ha
 have HG:=jj hg
 clear hx hf ha hg
 clear hv
 have HW:=jj hw
 have HT:=jj ht
 clear hw ht
 have o1:(p.op==1)=true:=by simp [h1]
 have HNB:=jj (nodeB_1 (xs:=xs) (t:=t) h1)
 have HTY:=jj (show typesP xs t p=[] from by rw [typesP_no (by omega),h1];rfl)
 clear h1
 go_enter Try.func82,Try.ntmps82
 go_wp2_with fail
 obtain ⟨W2,hW2⟩:∃ W2,W2=((w.alloc (.cells #[t.d,t.i] 25)).alloc (.cells #[p.op,p.ct,p.n,p.m,p.va,.slice A4 p.ks.length cap4] 28)):=⟨_,rfl⟩
 have hB0:Below w w W2:=by rw [hW2];exact ((zy2 _ _).alloc (zz8 _) _).alloc (by simp) _
 have KT:Hid (Blk W2 w 25 #[t.d,t.i]):=by rw [hW2];exact (Blk.new w _ _).same (Below.heap_alloc _ _ _ (by simp))
 have KP:Hid (Blk W2 (w.heap.size+1) 28 #[p.op,p.ct,p.n,p.m,p.va,.slice A4 p.ks.length cap4]):=by rw [hW2];have h:=Blk.new (w.alloc (.cells #[t.d,t.i] 25)) 28 #[p.op,p.ct,p.n,p.m,p.va,.slice A4 p.ks.length cap4];rw [World.size_alloc] at h;exact h
 have hws:w.heap.size+2≤W2.heap.size:=by rw [hW2];simp
 have hws2:W2.heap.size=w.heap.size+1+1:=by rw [hW2];simp
 rw [←hW2]
 clear hW2
 obtain ⟨y0,y1,klt⟩:=KT.out.c2
 obtain ⟨z0,z1,z2,z3,z4,z5,klt2⟩:=KP.out.c6
 refine (impl_only p A4 cap4 false false false 0 _).mono ?_
 rintro e w3 ⟨rfl,hb3⟩
 have hB3:=hB0.trans (hb3.mono hB0.size)
 generalize hbb:onlyB p false false false 0=bb at *
 clear hbb
 have HFin:Hid (ShapePost xs t p w (.returned (.tuple #[.slice none 0 0,.bool bb])) w3):=⟨_,[],by rw [HNB.out] <;> rfl,hB3,Fresh.nil _ _,fun _=>by rw [HTY.out];exact Arr.nil⟩
 clear y0 y1 z0 z1 z2 z3 z4 z5 klt klt2
 clear hb3 KT KP hB0
 go_wp2
 go_ret2
 exact HFin.out
theorem shape_2 (xs:List Dt) (hw:WorldOK xs) (t:Ty) (ht:TyIn xs.length t) (p:P) (h2:p.op=2) (w:World) (x:Value) (F:List Nat) (cs:List Value) (G:List Nat):Arr w (DtR w) xs x F→Under w F→PR w p cs G→Under w G →
  Calls Try.prog 82 #[x,.agg #[t.d,t.i],.agg cs.toArray] w (ShapePost xs t p w):=by
 intro hx hf hv hg
 obtain ⟨kv,rfl,ha⟩:=(zA4 _ _ _).1 hv
 obtain ⟨A,cap,rfl,hc1,hc2⟩:=hx.form
 obtain ⟨A4,cap4,rfl,hc3,hc4⟩:=ha.form
 have HV:=jj hv
 have HX:=jj hx
 have HF:=jj hf
 have HA:=jj ha
 have HG:=jj hg
 clear hx hf ha hg
 clear hv
 have HW:=jj hw
 have HT:=jj ht
 clear hw ht
 have o1:(p.op==1)=false:=by simp [h2]
 have o2:(p.op==2)=true:=by simp [h2]
 have HNB:=jj (nodeB_2 (xs:=xs) (t:=t) h2)
 have HTY:=jj (show typesP xs t p=[] from by rw [typesP_no (by omega),h2];rfl)
 clear h2
 go_enter Try.func82,Try.ntmps82
 go_wp2_with fail
 obtain ⟨W2,hW2⟩:∃ W2,W2=((w.alloc (.cells #[t.d,t.i] 25)).alloc (.cells #[p.op,p.ct,p.n,p.m,p.va,.slice A4 p.ks.length cap4] 28)):=⟨_,rfl⟩
 have hB0:Below w w W2:=by rw [hW2];exact ((zy2 _ _).alloc (zz8 _) _).alloc (by simp) _
 have KT:Hid (Blk W2 w 25 #[t.d,t.i]):=by rw [hW2];exact (Blk.new w _ _).same (Below.heap_alloc _ _ _ (by simp))
 have KP:Hid (Blk W2 (w.heap.size+1) 28 #[p.op,p.ct,p.n,p.m,p.va,.slice A4 p.ks.length cap4]):=by rw [hW2];have h:=Blk.new (w.alloc (.cells #[t.d,t.i] 25)) 28 #[p.op,p.ct,p.n,p.m,p.va,.slice A4 p.ks.length cap4];rw [World.size_alloc] at h;exact h
 have hws:w.heap.size+2≤W2.heap.size:=by rw [hW2];simp
 have hws2:W2.heap.size=w.heap.size+1+1:=by rw [hW2];simp
 rw [←hW2]
 clear hW2
 obtain ⟨y0,y1,klt⟩:=KT.out.c2
 obtain ⟨z0,z1,z2,z3,z4,z5,klt2⟩:=KP.out.c6
 refine (impl_only p A4 cap4 false false true 0 _).mono ?_
 rintro e w3 ⟨rfl,hb3⟩
 have hB3:=hB0.trans (hb3.mono hB0.size)
 have KT3:=jj (KT.out.same (hb3.block _ KT.out.lt))
 have KP3:=jj (KP.out.same (hb3.block _ KP.out.lt))
 clear y0 y1 z0 z1 z2 z3 z4 z5 klt klt2
 clear hb3 KT KP hB0
 obtain ⟨-,-,-,-,z4,-,klt2⟩:=KP3.out.c6
 cases e2:onlyB p false false true 0 with
 |false =>
  have HFin:Hid (ShapePost xs t p w (.returned (.tuple #[.slice none 0 0,.bool false])) w3):=⟨_,[],by rw [HNB.out,e2] <;> rfl,hB3,Fresh.nil _ _,fun _=>by rw [HTY.out];exact Arr.nil⟩
  clear e2
  go_wp2
  go_ret2
  exact HFin.out
 |true =>
  have HE2:=jj e2
  clear e2
  go_wp2_with fail
  refine (impl_isVar p.va w3).mono ?_
  rintro e w4 ⟨rfl,hw4⟩
  rw [hw4]
  clear hw4 w4
  generalize hbb:withinB p.va 0 5=bb at *
  clear hbb
  have HFin:Hid (ShapePost xs t p w (.returned (.tuple #[.slice none 0 0,.bool bb])) w3):=⟨_,[],by rw [HNB.out,HE2.out,Bool.true_and] <;> rfl,hB3,Fresh.nil _ _,fun _=>by rw [HTY.out];exact Arr.nil⟩
  clear z4 klt2
  go_wp2
  go_ret2
  exact HFin.out
theorem shape_4 (xs:List Dt) (hw:WorldOK xs) (t:Ty) (ht:TyIn xs.length t) (p:P) (h4:p.op=4) (w:World) (x:Value) (F:List Nat) (cs:List Value) (G:List Nat):Arr w (DtR w) xs x F→Under w F→PR w p cs G→Under w G →
  Calls Try.prog 82 #[x,.agg #[t.d,t.i],.agg cs.toArray] w (ShapePost xs t p w):=by
 intro hx hf hv hg
 obtain ⟨kv,rfl,ha⟩:=(zA4 _ _ _).1 hv
 obtain ⟨A,cap,rfl,hc1,hc2⟩:=hx.form
 obtain ⟨A4,cap4,rfl,hc3,hc4⟩:=ha.form
 have HV:=jj hv
 have HX:=jj hx
 have HF:=jj hf
 have HA:=jj ha
 have HG:=jj hg
 clear hx hf ha hg
 clear hv
 have HW:=jj hw
 have HT:=jj ht
 clear hw ht
 have o1:(p.op==1)=false:=by simp [h4]
 have o2:(p.op==2)=false:=by simp [h4]
 have o3:(p.op==3)=false:=by simp [h4]
 have o4:(p.op==4)=true:=by simp [h4]
 have HNB:=jj (nodeB_4 (xs:=xs) (t:=t) h4)
 clear h4
 have H4:=jj (show p.op=4 from by simpa using o4)
 go_enter Try.func82,Try.ntmps82
 go_wp2_with fail
 obtain ⟨W2,hW2⟩:∃ W2,W2=((w.alloc (.cells #[t.d,t.i] 25)).alloc (.cells #[p.op,p.ct,p.n,p.m,p.va,.slice A4 p.ks.length cap4] 28)):=⟨_,rfl⟩
 have hB0:Below w w W2:=by rw [hW2];exact ((zy2 _ _).alloc (zz8 _) _).alloc (by simp) _
 have KT:Hid (Blk W2 w 25 #[t.d,t.i]):=by rw [hW2];exact (Blk.new w _ _).same (Below.heap_alloc _ _ _ (by simp))
 have KP:Hid (Blk W2 (w.heap.size+1) 28 #[p.op,p.ct,p.n,p.m,p.va,.slice A4 p.ks.length cap4]):=by rw [hW2];have h:=Blk.new (w.alloc (.cells #[t.d,t.i] 25)) 28 #[p.op,p.ct,p.n,p.m,p.va,.slice A4 p.ks.length cap4];rw [World.size_alloc] at h;exact h
 have hws:w.heap.size+2≤W2.heap.size:=by rw [hW2];simp
 have hws2:W2.heap.size=w.heap.size+1+1:=by rw [hW2];simp
 rw [←hW2]
 clear hW2
 obtain ⟨y0,y1,klt⟩:=KT.out.c2
 obtain ⟨z0,z1,z2,z3,z4,z5,klt2⟩:=KP.out.c6
 have hkeep:Kp W2.heap.size (fun U=>U.cell? ⟨w,0,none⟩=t.d∧U.cell? ⟨w,1,none⟩=t.i∧U.cell? ⟨w.heap.size+1,1,none⟩=p.ct):=fun U U' h hUU hU=>⟨(hUU.cell (zz9 (klt) hU)).trans h.1,(hUU.cell (zz9 (klt) hU)).trans h.2.1,(hUU.cell (zz9 (klt2) hU)).trans h.2.2⟩
 have HKeep:=jj hkeep
 clear hkeep
 go_region_held3 (fun w'=>w'.cell? ⟨w,0,none⟩=t.d∧w'.cell? ⟨w,1,none⟩=t.i∧w'.cell? ⟨w.heap.size+1,1,none⟩=p.ct) (first | assumption | (exact ⟨y0,y1,z1⟩) | (exact HKeep.out W2.drew w4 ⟨y0,y1,z1⟩ hb4 (zz8 _)) | (exact HKeep.out w4 w5 (by assumption) hb5 hlew4)) (first | (go_at_call 108;((with_reducible refine (impl_ctorsOf xs t _ _ F (ArrDt.below HX.out hB0.drew HF.out) (HF.out.mono hB0.drew.size) HW.out HT.out.inWorld).mono ?_);rintro e w4 ⟨v4,F4,rfl,hb4,ha4,-,hfs4⟩);have hlew4:W2.heap.size≤w4.heap.size:=hb4.size) | (go_at_call 107;((with_reducible refine (impl_has (ctorsL xs t) p.ct _ _ F4 ha4 hfs4.under).mono ?_);rintro e w5 ⟨rfl,hb5⟩)))
 have hBa:=hB0.drew.trans (hb4.mono hB0.drew.size)
 have hB5:=hBa.trans (hb5.mono hBa.size)
 have KT5:=jj ((KT.out.same (hb4.block _ KT.out.lt)).same (hb5.block _ (KT.out.same (hb4.block _ KT.out.lt)).lt))
 have KP5:=jj ((KP.out.same (hb4.block _ KP.out.lt)).same (hb5.block _ (KP.out.same (hb4.block _ KP.out.lt)).lt))
 clear y0 y1 z0 z1 z2 z3 z4 z5 klt klt2
 clear HKeep ha4 hfs4 hb4 hb5 hBa hB0 KT KP
 cases e1:hasB (ctorsL xs t) p.ct with
 |false =>
  have HFin:Hid (ShapePost xs t p w (.returned (.tuple #[.slice none 0 0,.bool false])) w5):=⟨_,[],by rw [HNB.out,e1];rfl,hB5,Fresh.nil _ _,fun h=>by rw [HNB.out,e1] at h;cases h⟩
  clear e1
  go_wp2
  go_ret2
  exact HFin.out
 |true =>
  obtain ⟨q,k,e2,hvc,hq',hkl⟩:=zB8 (xs:=xs) (t:=t) HT.out.inWorld ((hasB_iff _ _).1 e1)
  have hty:argsOf xs t p.ct=argsL xs[q].ctors[k] t.i:=by
   rw [hvc]
   obtain ⟨td,ti⟩:=t
   simp only at e2
   subst e2
   exact argsOf_get hq' hkl
  have hnb:=HNB.out
  rw [e1,Bool.true_and,hty] at hnb
  have HNB2:=jj hnb
  have HTY:Hid (typesP xs t p=argsL xs[q].ctors[k] t.i):=by unfold Hid typesP;rw [if_pos H4.out,hty]
  have HVC:=jj hvc
  have HE2:=jj e2
  have HLA:=jj (HW.out.ctor hq' hkl).args
  clear hnb hty hvc e2 e1 HNB
  obtain ⟨y0,y1,klt⟩:=KT5.out.c2
  obtain ⟨-,z1,-,-,-,-,klt2⟩:=KP5.out.c6
  go_wp2_with fail
  rw [HVC.out,HE2.out]
  refine (impl_argTypes xs q k t.i hq' hkl w5 _ F (ArrDt.below HX.out hB5 HF.out) (HF.out.mono hB5.size) HLA.out).mono ?_
  rintro e w6 ⟨v6,F6,rfl,hb6,ha6,hfr6,hfs6⟩
  have hB6:=hB5.trans (hb6.mono hB5.size)
  have KT6:=jj (KT5.out.same (hb6.block _ KT5.out.lt))
  have KP6:=jj (KP5.out.same (hb6.block _ KP5.out.lt))
  generalize argsL xs[q].ctors[k] t.i=ls at *
  obtain ⟨A6,cap6,rfl,hd3,hd4⟩:=ha6.form
  have HA6:=jj ha6
  have HFS6:=jj hfs6
  clear ha6 hfr6 hfs6 hb6 y0 y1 z1 klt klt2
  obtain ⟨z0,z1,z2,z3,z4,z5,klt2⟩:=KP6.out.c6
  go_wp2_with fail
  refine (impl_only p A4 cap4 true false false (ls.length:Nat) _).mono ?_
  rintro e w7 ⟨rfl,hb7⟩
  have HB7:=jj (hB6.trans (hb7.mono hB6.size))
  have HA7:=jj (ArrTy.below HA6.out hb7 HFS6.out.under)
  have HFS7:Hid (Fresh w w7 F6):=fun b hb=>⟨Nat.le_trans hB5.size (HFS6.out b hb).1,zz9 (HFS6.out b hb).2 hb7.size⟩
  generalize hbb:onlyB p true false false ((ls.length:Nat):Int)=bb at *
  clear hbb
  have HFin:Hid (ShapePost xs t p w (.returned (.tuple #[.slice A6 ls.length cap6,.bool bb])) w7):=⟨_,F6,by rw [HNB2.out],HB7.out,HFS7.out,fun _=>by rw [HTY.out];exact HA7.out⟩
  clear z0 z1 z2 z3 z4 z5 klt2 hb7
  go_wp2
  go_ret2
  exact HFin.out
theorem shape_5 (xs:List Dt) (hw:WorldOK xs) (t:Ty) (ht:TyIn xs.length t) (p:P) (h5:p.op=5) (w:World) (x:Value) (F:List Nat) (cs:List Value) (G:List Nat):Arr w (DtR w) xs x F→Under w F→PR w p cs G→Under w G →
  Calls Try.prog 82 #[x,.agg #[t.d,t.i],.agg cs.toArray] w (ShapePost xs t p w):=by
 intro hx hf hv hg
 obtain ⟨kv,rfl,ha⟩:=(zA4 _ _ _).1 hv
 obtain ⟨A,cap,rfl,hc1,hc2⟩:=hx.form
 obtain ⟨A4,cap4,rfl,hc3,hc4⟩:=ha.form
 have HV:=jj hv
 have HX:=jj hx
 have HF:=jj hf
 have HA:=jj ha
 have HG:=jj hg
 clear hx hf ha hg
 clear hv
 have HW:=jj hw
 have HT:=jj ht
 clear hw ht
 have o1:(p.op==1)=false:=by simp [h5]
 have o2:(p.op==2)=false:=by simp [h5]
 have o3:(p.op==3)=false:=by simp [h5]
 have o4:(p.op==4)=false:=by simp [h5]
 have o5:(p.op==5)=true:=by simp [h5]
 have HNB:=jj (nodeB_5 (xs:=xs) (t:=t) h5)
 have HTY:=jj (show typesP xs t p=[t,t] from by rw [typesP_no (by omega),h5];rfl)
 clear h5
 go_enter Try.func82,Try.ntmps82
 go_wp2_with fail
 obtain ⟨W2,hW2⟩:∃ W2,W2=((w.alloc (.cells #[t.d,t.i] 25)).alloc (.cells #[p.op,p.ct,p.n,p.m,p.va,.slice A4 p.ks.length cap4] 28)):=⟨_,rfl⟩
 have hB0:Below w w W2:=by rw [hW2];exact ((zy2 _ _).alloc (zz8 _) _).alloc (by simp) _
 have KT:Hid (Blk W2 w 25 #[t.d,t.i]):=by rw [hW2];exact (Blk.new w _ _).same (Below.heap_alloc _ _ _ (by simp))
 have KP:Hid (Blk W2 (w.heap.size+1) 28 #[p.op,p.ct,p.n,p.m,p.va,.slice A4 p.ks.length cap4]):=by rw [hW2];have h:=Blk.new (w.alloc (.cells #[t.d,t.i] 25)) 28 #[p.op,p.ct,p.n,p.m,p.va,.slice A4 p.ks.length cap4];rw [World.size_alloc] at h;exact h
 have hws:w.heap.size+2≤W2.heap.size:=by rw [hW2];simp
 have hws2:W2.heap.size=w.heap.size+1+1:=by rw [hW2];simp
 rw [←hW2]
 clear hW2
 obtain ⟨y0,y1,klt⟩:=KT.out.c2
 obtain ⟨z0,z1,z2,z3,z4,z5,klt2⟩:=KP.out.c6
 generalize hbb:onlyB p false false false 2=bb at *
 have HC:Hid (∀ w1:World,Calls Try.prog 105 #[.agg #[p.op,p.ct,p.n,p.m,p.va,.slice A4 p.ks.length cap4],.bool false,.bool false,.bool false,(2:Int)] w1 fun e w'=>e=.returned (.bool bb)∧Below w1 w1 w'):=fun w1=>by rw [←hbb];exact impl_only p A4 cap4 false false false 2 w1
 clear hbb
 have HNV:Hid (nodeB xs t p=bb):=HNB.out
 go_wp2_with fail
 refine zA6 (S:=fun w'=>Blk w' w.heap.size 25 #[t.d,t.i]∧Blk w' (w.heap.size+1) 28 #[p.op,p.ct,p.n,p.m,p.va,.slice A4 p.ks.length cap4]) (T:=fun _=>True) (d:=99) (by kernel_rfl) ?_
 have hS1:Blk W2.drew w.heap.size 25 #[t.d,t.i]∧Blk W2.drew (w.heap.size+1) 28 #[p.op,p.ct,p.n,p.m,p.va,.slice A4 p.ks.length cap4]:=⟨KT.out,KP.out⟩
 have hT1:True:=trivial
 refine wU (i:=0) (v:=?_) rfl (Or.inl ⟨by rfl,?hy0⟩) hS1 (fun _=>trivial) ?_
 case hy0=>(intro W hSw;(try dsimp only at hSw);obtain ⟨kt,kp⟩:=hSw;have y0:W.cell? ⟨w,0,none⟩=t.d:=(kt.cell 0).trans (by simp);have y1:W.cell? ⟨w,1,none⟩=t.i:=(kt.cell 1).trans (by simp);have z0:W.cell? ⟨w.heap.size+1,0,none⟩=p.op:=(kp.cell 0).trans (by simp);have z1:W.cell? ⟨w.heap.size+1,1,none⟩=p.ct:=(kp.cell 1).trans (by simp);have z2:W.cell? ⟨w.heap.size+1,2,none⟩=p.n:=(kp.cell 2).trans (by simp);have z3:W.cell? ⟨w.heap.size+1,3,none⟩=p.m:=(kp.cell 3).trans (by simp);have z4:W.cell? ⟨w.heap.size+1,4,none⟩=p.va:=(kp.cell 4).trans (by simp);have z5:W.cell? ⟨w.heap.size+1,5,none⟩=some (.slice A4 p.ks.length cap4):=(kp.cell 5).trans (by simp);go_simp;try with_reducible rfl)
 (try simp only [zz])
 refine wU (i:=1) (v:=?_) rfl (Or.inl ⟨by rfl,?hy1⟩) hS1 (fun _=>trivial) ?_
 case hy1=>(intro W hSw;(try dsimp only at hSw);obtain ⟨kt,kp⟩:=hSw;have y0:W.cell? ⟨w,0,none⟩=t.d:=(kt.cell 0).trans (by simp);have y1:W.cell? ⟨w,1,none⟩=t.i:=(kt.cell 1).trans (by simp);have z0:W.cell? ⟨w.heap.size+1,0,none⟩=p.op:=(kp.cell 0).trans (by simp);have z1:W.cell? ⟨w.heap.size+1,1,none⟩=p.ct:=(kp.cell 1).trans (by simp);have z2:W.cell? ⟨w.heap.size+1,2,none⟩=p.n:=(kp.cell 2).trans (by simp);have z3:W.cell? ⟨w.heap.size+1,3,none⟩=p.m:=(kp.cell 3).trans (by simp);have z4:W.cell? ⟨w.heap.size+1,4,none⟩=p.va:=(kp.cell 4).trans (by simp);have z5:W.cell? ⟨w.heap.size+1,5,none⟩=some (.slice A4 p.ks.length cap4):=(kp.cell 5).trans (by simp);go_simp;try with_reducible rfl)
 (try simp only [zz])
 refine wU (i:=3) (v:=?_) rfl (Or.inl ⟨by rfl,?hy3⟩) hS1 (fun _=>trivial) ?_
 case hy3=>(intro W hSw;(try dsimp only at hSw);obtain ⟨kt,kp⟩:=hSw;have y0:W.cell? ⟨w,0,none⟩=t.d:=(kt.cell 0).trans (by simp);have y1:W.cell? ⟨w,1,none⟩=t.i:=(kt.cell 1).trans (by simp);have z0:W.cell? ⟨w.heap.size+1,0,none⟩=p.op:=(kp.cell 0).trans (by simp);have z1:W.cell? ⟨w.heap.size+1,1,none⟩=p.ct:=(kp.cell 1).trans (by simp);have z2:W.cell? ⟨w.heap.size+1,2,none⟩=p.n:=(kp.cell 2).trans (by simp);have z3:W.cell? ⟨w.heap.size+1,3,none⟩=p.m:=(kp.cell 3).trans (by simp);have z4:W.cell? ⟨w.heap.size+1,4,none⟩=p.va:=(kp.cell 4).trans (by simp);have z5:W.cell? ⟨w.heap.size+1,5,none⟩=some (.slice A4 p.ks.length cap4):=(kp.cell 5).trans (by simp);go_simp;try with_reducible rfl)
 (try simp only [zz])
 refine wR (rs:=[2,4]) (by kernel_rfl) (by simp) ?_
 refine AllReadyB.c rfl (fun K hK=>?_) (AllReadyB.c rfl (fun K hK=>?_) AllReadyB.n)
 ·go_simp
  have hS2:=And.intro (hS1.1.same (Below.heap_alloc _ (.cells #[t.d,t.i,t.d,t.i] 25) _ hS1.1.lt)) (hS1.2.same (Below.heap_alloc _ (.cells #[t.d,t.i,t.d,t.i] 25) _ hS1.2.lt))
  refine hK.out _ _ hS2 (fun _=>trivial) ?_
  clear hK K
  (try simp only [zz])
  refine Go.Proofs.Ytjjclcmmfeegfaa.w1 4 rfl fun K hK=>?_
  go_simp
  go_at_call 105
  with_reducible refine (HC.out _).mono ?_
  rintro e w3 ⟨rfl,hb3⟩
  have hS3:Blk w3 w 25 #[t.d,t.i]∧Blk w3 (w.heap.size+1) 28 #[p.op,p.ct,p.n,p.m,p.va,.slice A4 p.ks.length cap4]:=⟨hS2.1.same (hb3.block _ hS2.1.lt),hS2.2.same (hb3.block _ hS2.2.lt)⟩
  dsimp only
  refine hK.out _ _ hS3 (fun _=>trivial) ?_
  clear hK K
  (try simp only [zz])
  refine wV 5 rfl hS3 trivial ?_
  (try simp only [zz])
  refine wV 6 rfl hS3 trivial ?_
  (try simp only [zz])
  refine wE (by kernel_rfl) ?_
  obtain ⟨q1,q2,q3⟩:=shape_endA hB0 hws2 hb3
  have HFin:Hid (ShapePost xs t p w (.returned (.tuple #[.slice (some ⟨w.heap.size+1+1,0,none⟩) 2 2,.bool bb])) w3):=⟨_,[w.heap.size+1+1],by rw [HNV.out],q1,q2,fun _=>by rw [HTY.out];exact arr_tys2 q3⟩
  clear y0 y1 z0 z1 z2 z3 z4 z5 klt klt2
  clear hS1 hS3 hb3 q1 q2 q3
  go_wp2
  go_ret2
  exact HFin.out
 ·go_simp
  go_at_call 105
  with_reducible refine (HC.out _).mono ?_
  rintro e w3 ⟨rfl,hb3⟩
  have hS3:Blk w3 w 25 #[t.d,t.i]∧Blk w3 (w.heap.size+1) 28 #[p.op,p.ct,p.n,p.m,p.va,.slice A4 p.ks.length cap4]:=⟨hS1.1.same (hb3.block _ hS1.1.lt),hS1.2.same (hb3.block _ hS1.2.lt)⟩
  dsimp only
  refine hK.out _ _ hS3 (fun _=>trivial) ?_
  clear hK K
  (try simp only [zz])
  refine Go.Proofs.Ytjjclcmmfeegfaa.w1 2 rfl fun K hK=>?_
  go_simp
  have hS4:=And.intro (hS3.1.same (Below.heap_alloc _ (.cells #[t.d,t.i,t.d,t.i] 25) _ hS3.1.lt)) (hS3.2.same (Below.heap_alloc _ (.cells #[t.d,t.i,t.d,t.i] 25) _ hS3.2.lt))
  refine hK.out _ _ hS4 (fun _=>trivial) ?_
  clear hK K
  (try simp only [zz])
  refine wV 5 rfl hS4 trivial ?_
  (try simp only [zz])
  refine wV 6 rfl hS4 trivial ?_
  (try simp only [zz])
  refine wE (by kernel_rfl) ?_
  obtain ⟨q1,q2⟩:=shape_endB hB0 hb3 (.cells #[t.d,t.i,t.d,t.i] 25)
  have HFin:Hid (ShapePost xs t p w (.returned (.tuple #[.slice (some ⟨w3,0,none⟩) 2 2,.bool bb])) (w3.alloc (.cells #[t.d,t.i,t.d,t.i] 25))):=⟨_,[w3.heap.size],by rw [HNV.out],q1,q2,fun _=>by rw [HTY.out];exact arr_tys2 (Blk.new w3 _ _)⟩
  clear y0 y1 z0 z1 z2 z3 z4 z5 klt klt2
  clear hS1 hS3 hb3 q1 q2
  go_wp2
  go_ret2
  exact HFin.out
end Go.Proofs.Ytjjclcmmfeegfaa
