/-
  Lemmas, and contracts of functions. Conditions: none.
-/
import Derived.Test.YtjjclcmmfeegfaaHAM
import Derived.Test.YtjjclcmmfeegfaaHAF
import Derived.Test.YtjjclcmmfeegfaaHAB
import Derived.Test.YtjjclcmmfeegfaaHAK
import Derived.Test.YtjjclcmmfeegfaaHAJ
import Derived.Test.YtjjclcmmfeegfaaHAH
import Derived.Test.YtjjclcmmfeegfaaHAG
import Derived.Test.YtjjclcmmfeegfaaHAE
import Derived.Deep.RegionHeld3
import Derived.Deep.RegionWith
import Derived.Deep.QuietTactic
import Derived.BigQuiet
import Derived.IntWalk
import Derived.Test.YtjjclcmmfeegfaaChecked
import Derived.Test.YtjjclcmmfeegfaaHAA
import Derived.ProofKit
import Derived.ChangeArms
import Derived.Deep.Fields
import Derived.Test.YtjjclcmmfeegfaaHAC

set_option linter.unusedVariables false
set_option linter.unusedSimpArgs false
set_option maxRecDepth 100000
set_option maxHeartbeats 1600000

namespace Go.Proofs.Ytjjclcmmfeegfaa
open Go.RowKit
set_option maxHeartbeats 6400000 in
theorem spec_l3Tuples (ls:List (List P)) (h3:ls.length≤900) (h4:∀ l∈ls,l.length≤401) (w:World) (x:Value) (F:List Nat) (hx:Arr w (LpR w) ls x F) (hf:Under w F) :
  Calls Try.prog 59 #[x] w (ListsPP (cutVP (pairAllP ls)) F w):=by
 obtain ⟨lsA,lscap,rfl,hc1,hc2⟩:=hx.form
 obtain ⟨i0,hi,hz0,hz1,hz2⟩:=info_parts info_PE
 obtain ⟨j0,hj,hy0,hy1,hy2⟩:=info_parts info_PSE
 have H4:=jj h4
 have HI:=jj hi
 have HZ0:=jj hz0
 have HZ1:=jj hz1
 have HZ2:=jj hz2
 have HJ:=jj hj
 have HY0:=jj hy0
 have HY1:=jj hy1
 have HY2:=jj hy2
 have HX:=jj hx
 have HF:=jj hf
 clear hi hz0 hz1 hz2 hj hy0 hy1 hy2 hx hf
 clear h4
 go_enter Try.func59,Try.ntmps59
 go_wp2_with fail
 obtain ⟨W2,hW2⟩:∃ W2,W2=((w.alloc (.cells #[] 28)).alloc (.cells #[.slice (some ⟨w,0,none⟩) 0 0] 26)):=⟨_,rfl⟩
 have hB0:Below w w W2:=by rw [hW2];exact ((zy2 _ _).alloc (zz8 _) _).alloc (by simp) _
 have K1:Blk W2 (w.heap.size+1) 26 #[.slice (some ⟨w,0,none⟩) 0 0]:=by rw [hW2];exact zA8 w _ _ _
 have HO0:Hid (Arr W2 (LpR W2) (pairToP ls 0) (.slice (some ⟨w.heap.size+1,0,none⟩) 1 1) [w.heap.size+1]):=by
  rw [pairToP_zero]
  exact ⟨_,_,rfl,zz8 _,by simp [maxLen],.inr ⟨_,0,[.slice (some ⟨w,0,none⟩) 0 0],[],rfl,(fun j u hj=>by rw [Nat.zero_add,K1.cell];simpa using hj),Flat.one ⟨_,rfl,_,_,rfl,zz8 _,by simp [maxLen],.inl ⟨rfl,rfl⟩⟩,rfl⟩⟩
 have HU0:Hid (Under W2 [w.heap.size+1]):=fun b hb=>by rw [zy1] at hb;subst hb;exact K1.lt
 rw [←hW2]
 clear hW2 K1
 go_wp2
 go_loopw [3,4] (fun ov iv wr=>∃ i:Nat,∃ Fo:List Nat,i≤ls.length∧iv=.int .i64 i∧Hid (Arr wr (LpR wr) (pairToP ls i) ov Fo)∧Hid (Under wr Fo)∧Hid (∀ b∈Fo,b∈F∨w.heap.size≤b)∧Hid (Below W2 W2 wr)) (fun _ iv _=>ls.length-(intOf iv).toNat)
 case atStart=>exact ⟨0,_,Nat.zero_le _,rfl,HO0.out,HU0.out,(fun b hb=>by rw [zy1] at hb;exact .inr (by omega)),zy2 _ _⟩
 case round =>
  clear HO0 HU0
  obtain ⟨i,Fo,hi,rfl,HO,HOU,HOP,HBI⟩:=hrel
  obtain ⟨oA,ocap,hov,-,-⟩:=HO.out.form
  subst hov
  have hpt:=pairToP_len ls i
  obtain ⟨wo,hwo⟩:∃ wo,wo=wr:=⟨_,rfl⟩
  rw [←hwo] at HO HOU HBI ⊢
  clear hwo
  have hBwo:=hB0.trans (HBI.out.mono hB0.size)
  by_cases hil:i<ls.length
  ·have q1:(0:Int)≤(i:Int):=by omega
   have q2:(i:Int)<(ls.length:Int):=by omega
   obtain ⟨bl,offl,rfl⟩:=HX.out.ptr (by omega)
   have HPS:=jj (pairToP_succ ls i hil)
   have hl4:=H4.out ls[i] (List.getElem_mem hil)
   obtain ⟨lA,lcap,Gl,hblw,hlc,hla,hlu,hls⟩:=ArrLp.of HX.out HF.out i hil
   have HLC:=jj hlc
   have HLA:=jj hla
   have HLU:=jj hlu
   have HLS:=jj hls
   clear hlc hla hlu hls
   obtain ⟨l,hl⟩:∃ u,u=ls[i]:=⟨_,rfl⟩
   rw [←hl] at HPS hl4 HLA HLC
   have HALL:Hid (∀ o∈pairToP ls i,o.length≤i):=fun o ho=>pairToP_each ls i o ho
   generalize hAs:pairToP ls i=As at *
   have HB0:=jj hB0
   clear hAs hl
   go_wp2_with fail
   have HM0:Hid (Own (wo.alloc (.cells #[] 26)) wo.heap.size 26 1 LpR (nextLP As l 0) (.slice (some ⟨wo,0,none⟩) 0 0) []):=(show Own _ _ _ _ _ (nextLP As l 0) _ _ from Own.made wo _ _ _ _ _ 0 (zz8 _) (by simp [maxLen]) rfl)
   have hB05:Below wo wo (wo.alloc (.cells #[] 26)):=(zy2 _ _).alloc (zz8 _) _
   generalize wo.alloc (.cells #[] 26)=w5 at *
   go_loopw [5,6] (fun nv kv wr=>∃ k:Nat,∃ Fn:List Nat,k≤As.length∧kv=.int .i64 k∧Hid (Own wr wo.heap.size 26 1 LpR (nextLP As l k) nv Fn)∧Hid (∀ b∈Fn,b∈F∨w.heap.size≤b)∧Below wo wo wr) (fun _ kv _=>As.length-(intOf kv).toNat)
   case atStart=>exact ⟨0,[],Nat.zero_le _,rfl,HM0.out,(fun b hb=>by cases hb),hB05⟩
   case round =>
    clear HM0 hB05
    obtain ⟨k,Fn,hk,rfl,HM,HFN,hBo⟩:=hrel
    obtain ⟨mA,mcap,hmv,-,-⟩:=HM.out.form
    subst hmv
    have hnl:=nextLP_len As l k
    have HEND:=jj (fun h=>nextLP_end (A:=As) (l:=l) (k:=k) h)
    by_cases hk2:k<As.length∧(nextLP As l k).length≤400
    ·obtain ⟨hkl,hn4⟩:=hk2
     have t1:decide ((k:Int)<(As.length:Int))=true:=by simp;omega
     have t2:decide (((nextLP As l k).length:Int)≤400)=true:=by simp;omega
     have q3:(0:Int)≤(k:Int):=by omega
     have q4:(k:Int)<(As.length:Int):=by omega
     obtain ⟨b5,off5,rfl⟩:=HO.out.ptr (by omega)
     obtain ⟨pA,pcap,Gp,lo5,hpc,hpa,hpu,hps⟩:=ArrLp.of HO.out HOU.out k hkl
     have hpl:As[k].length≤pcap:=by obtain ⟨_,_,e,h1,-⟩:=hpa;cases e;exact h1
     have hnr:=fun j h=>nextRP_end (A:=As) (l:=l) (k:=k) (j:=j) hkl h
     obtain ⟨o,ho⟩:∃ u,u=As[k]:=⟨_,rfl⟩
     rw [←ho] at hpc hpa hpl hnr
     have HPC:=jj hpc
     have HPA0:=jj hpa
     have HPU:=jj hpu
     have HPSB:=jj hps
     have HNR:=jj hnr
     have HO3:Hid (o.length≤900):=by
      have:=HALL.out o (by rw [ho];exact List.getElem_mem hkl)
      unfold Hid;omega
     have HM0:Hid (Own wr wo.heap.size 26 1 LpR (nextRP (preLP As l k) o l 0) (.slice mA (nextLP As l k).length mcap) Fn):=by
      rw [nextRP_zero];exact HM.out
     clear hpc hpa hpu hnr ho hps
     generalize hpre:preLP As l k=pre at *
     clear hpre
     go_wp2
     go_loopw [5,7] (fun nv jv wr=>∃ j:Nat,∃ Fn:List Nat,j≤l.length∧jv=.int .i64 j∧Hid (Own wr wo.heap.size 26 1 LpR (nextRP pre o l j) nv Fn)∧Hid (∀ b∈Fn,b∈F∨w.heap.size≤b)∧Below wo wo wr) (fun _ jv _=>l.length-(intOf jv).toNat)
     case atStart=>exact ⟨0,Fn,Nat.zero_le _,rfl,HM0.out,HFN.out,hBo⟩
     case round =>
      clear HM0 HM HFN hBo
      obtain ⟨j,Fm,hj,rfl,HM,HFN,hBo⟩:=hrel
      obtain ⟨mA,mcap,hmv,-,-⟩:=HM.out.form
      subst hmv
      have hrl:=nextRP_len pre o l j
      have hBr:Below w w wr:=hBwo.trans (hBo.mono hBwo.size)
      have cl:wr.cell? ⟨bl,offl+i,none⟩=some (.slice lA l.length lcap):=HLC.out wr hBr
      have ltl:bl<wr.heap.size:=zz9 hblw hBr.size
      by_cases hj2:j<l.length∧(nextRP pre o l j).length≤400
      ·obtain ⟨hjl,hr4⟩:=hj2
       have t3:decide ((j:Int)<(l.length:Int))=true:=by simp;omega
       have t4:decide (((nextRP pre o l j).length:Int)≤400)=true:=by simp;omega
       have q5:(0:Int)≤(j:Int):=by omega
       have q6:(j:Int)<(l.length:Int):=by omega
       obtain ⟨b9,off9,rfl⟩:=HLA.out.ptr (by omega)
       obtain ⟨nA,ncap,Gk,lt9,n0,n1,n2,n3,n4,n5,HVk,HKu,hks,-,-⟩:=ArrP.at HLA.out HLU.out hBr j hjl
       have HKS:=jj hks
       clear hks
       have HMS:=jj (nextRP_succ (pre:=pre) (o:=o) hjl hr4)
       have c5:wr.cell? ⟨b5,off5+k,none⟩=some (.slice pA o.length pcap):=HPC.out wr hBo
       have lt5:b5<wr.heap.size:=zz9 lo5 hBo.size
       have lol:bl<wo.heap.size:=zz9 hblw hBwo.size
       have lo9:b9<wo.heap.size:=by
        obtain ⟨_,_,_,_,e,hb,-⟩:=HLA.out.get PR_len hjl
        cases e;exact zz9 (HLU.out _ hb) hBwo.size
       have hmx:(nextRP pre o l j).length+1≤maxLen:=by unfold maxLen;omega
       have hby:((nextRP pre o l j).length+1)*24≤140737488355328:=by omega
       obtain ⟨kq,hkq⟩:∃ u,u=l[j]:=⟨_,rfl⟩
       rw [←hkq] at n0 n1 n2 n3 n4 n5 HVk HMS
       have HPA:Hid (∀ C,Below wr wr C→Arr C (PR C) o (.slice pA o.length pcap) Gp):=fun C hC=>ArrP.below HPA0.out (hBo.trans (hC.mono hBo.size)) HPU.out
       have HVk2:Hid (∀ C,Below wr wr C→PR C kq [kq.op,kq.ct,kq.n,kq.m,kq.va,.slice nA kq.ks.length ncap] Gk):=fun C hC=>HVk.out.below (hBr.trans (hC.mono hBr.size)) HKu.out
       have ho3:=HO3.out
       clear hkq HVk
       go_wp2_with fail
       have HS:Hid (∀ C:World,Below wr wr C→(C.cell? ⟨b5,off5+k,none⟩=some (.slice pA o.length pcap)∧C.cell? ⟨bl,offl+i,none⟩=some (.slice (some ⟨b9,off9,none⟩) l.length lcap)∧C.cell? ⟨b9,off9+j*6,none⟩=kq.op∧C.cell? ⟨b9,off9+j*6+1,none⟩=kq.ct∧C.cell? ⟨b9,off9+j*6+2,none⟩=kq.n∧C.cell? ⟨b9,off9+j*6+3,none⟩=kq.m∧C.cell? ⟨b9,off9+j*6+4,none⟩=kq.va∧C.cell? ⟨b9,off9+j*6+5,none⟩=some (.slice nA kq.ks.length ncap))):=fun C hb=>⟨(hb.cell (lt5)).trans c5,(hb.cell (ltl)).trans cl,(hb.cell (lt9)).trans n0,(hb.cell (lt9)).trans n1,(hb.cell (lt9)).trans n2,(hb.cell (lt9)).trans n3,(hb.cell (lt9)).trans n4,(hb.cell (lt9)).trans n5⟩
       have hC0:Below wr wr wr.drew:=(zy2 _ _).drew
       refine wpBS HS.out (T:=fun _=>True) (d:=99) (by kernel_rfl) ?_
       obtain ⟨wd,hwd⟩:∃ X,X=wr.drew:=⟨_,rfl⟩
       rw [←hwd] at hC0  ⊢
       clear hwd
       have hS0:=HS.out _ hC0
       have hT0:True:=trivial
       refine wV 0 rfl hS0 hT0 ?_
       (try simp only [zz])
       refine wV 2 rfl hS0 hT0 ?_
       (try simp only [zz])
       refine wV 3 rfl hS0 hT0 ?_
       (try simp only [zz])
       refine wV 4 rfl hS0 hT0 ?_
       (try simp only [zz])
       refine wV 5 rfl hS0 hT0 ?_
       (try simp only [zz])
       refine wV 7 rfl hS0 hT0 ?_
       (try simp only [zz])
       refine wV 8 rfl hS0 hT0 ?_
       (try simp only [zz])
       refine wV 9 rfl hS0 hT0 ?_
       (try simp only [zz])
       refine wV 10 rfl hS0 hT0 ?_
       (try simp only [zz])
       refine wV 11 rfl hS0 hT0 ?_
       (try simp only [zz])
       refine wV 12 rfl hS0 hT0 ?_
       (try simp only [zz])
       refine wV 13 rfl hS0 hT0 ?_
       (try simp only [zz])
       refine wR (rs:=[1,14]) (by kernel_rfl) (by simp) ?_
       refine AllReadyB.c rfl (fun K hK=>?_) (AllReadyB.c rfl (fun K hK=>?_) (AllReadyB.n))
       focus
        go_simp
        obtain ⟨C1,hX⟩:∃ X,X=wd.alloc (.cells #[] 28):=⟨_,rfl⟩
        have hb1:Below wd wd C1:=by rw [hX];exact (zy2 _ _).alloc (zz8 _) _
        have ho1:Own C1 wr.heap.size 28 6 PR ([]:List P) (.slice (some ⟨wd,0,none⟩) 0 0) []:=by rw [hX];exact Own.made wd _ _ _ _ _ 0 hC0.size (by simp [maxLen]) rfl
        rw [←hX]
        clear hX
        have hC1:Below wr wr C1:=hC0.trans (hb1.mono hC0.size)
        have HE1:=jj ho1
        obtain ⟨eb,heb⟩:∃ X,X=wd.heap.size:=⟨_,rfl⟩
        rw [←heb] at HE1 ⊢
        have HEL:=jj heb
        clear heb ho1
        (try dsimp only)
        refine hK.out _ _ (HS.out _ hC1) (fun _=>trivial) ?_
        clear hK K
        (try simp only [zz])
        refine wR (rs:=[6,14]) (by kernel_rfl) (by simp) ?_
        refine AllReadyB.c rfl (fun K hK=>?_) (AllReadyB.c rfl (fun K hK=>?_) (AllReadyB.n))
        focus
         obtain ⟨cv,C2,Gc,hr2,ho2,hG2,hgr2,hat2⟩:=zAT (P:=Try.prog) 26 26 i0 _ 64 Try.underlying26 HI.out HZ0.out HZ1.out HZ2.out rfl (by decide) PR_len' PR_mono' PR_one HE1.out (HPA.out C1 hC1) (HPU.out.mono (Nat.le_trans hBo.size hC1.size)) (fun g hg hgF=>Nat.lt_irrefl _ (zz9 (HPU.out g hgF) (Nat.le_trans hBo.size (HE1.out.row g hg).1))) (by simp;omega) (by simp;omega) hC1.size
         rw [List.nil_append,List.nil_append] at ho2
         have hC2:Below wr wr C2:=hC1.grown hgr2 hC1.size (fun g hg=>(HE1.out.row g (zA1.2 hg)).1)
         have hcb2:∀ (b:Nat) (T:TypeId) (cs:Array Value),b<C1.heap.size→b≠eb→Blk C1 b T cs→Blk C2 b T cs:=fun b T cs hl hne h=>h.same (hgr2.block _ hl (fun e=>hne (Option.some.inj e)))
         obtain ⟨cA,ccap,hcv,-,-⟩:=ho2.form
         subst hcv
         have HGc:=jj hG2
         have HOc2:=jj ho2
         have HRUN:=jj hr2
         clear ho2 hG2 hgr2 hat2 hr2
         refine zB4 (P:=Try.prog) rfl _ _ 26 rfl (by rfl) (by rfl) HRUN.out ?_
         clear HRUN
         (try dsimp only)
         refine hK.out _ _ (HS.out _ hC2) (fun _=>trivial) ?_
         clear hK K
         (try simp only [zz])
         refine wR (rs:=[14]) (by kernel_rfl) (by simp) ?_
         refine AllReadyB.c rfl (fun K hK=>?_) (AllReadyB.n)
         go_simp
         obtain ⟨C3,hX⟩:∃ X,X=C2.alloc (.cells [.int .i64 kq.op,.int .i64 kq.ct,.int .i64 kq.n,.int .i64 kq.m,.int .i64 kq.va,.slice nA kq.ks.length ncap].toArray 28):=⟨_,rfl⟩
         have hb3:Below C2 C2 C3:=by rw [hX];exact (zy2 _ _).alloc (zz8 _) _
         have hkb3:Blk C3 C2 28 [.int .i64 kq.op,.int .i64 kq.ct,.int .i64 kq.n,.int .i64 kq.m,.int .i64 kq.va,.slice nA kq.ks.length ncap].toArray:=by rw [hX];exact Blk.new _ _ _
         have hX2:=hX
         simp only [List.toArray] at hX2
         first | rw [←hX] | rw [←hX2]
         clear hX hX2
         have hC3:Below wr wr C3:=hC2.trans (hb3.mono hC2.size)
         have HKb3:=jj hkb3
         have HKL3:Hid (∀ g,g<C2.heap.size→C2.heap.size≠g):=fun g hg e=>by omega
         obtain ⟨kb,hkb⟩:∃ X,X=C2.heap.size:=⟨_,rfl⟩
         rw [←hkb] at HKb3 HKL3 ⊢
         clear hkb3
         have HKB:=jj hkb
         clear hkb
         have HOc:=jj (HOc2.out.below (fun x cs G hk h=>PR_mono' _ _ x cs G hk h) hb3)
         have HKb:=HKb3
        rotate_left
        focus
         go_simp
         obtain ⟨C2,hX⟩:∃ X,X=C1.alloc (.cells [.int .i64 kq.op,.int .i64 kq.ct,.int .i64 kq.n,.int .i64 kq.m,.int .i64 kq.va,.slice nA kq.ks.length ncap].toArray 28):=⟨_,rfl⟩
         have hb2:Below C1 C1 C2:=by rw [hX];exact (zy2 _ _).alloc (zz8 _) _
         have hkb2:Blk C2 C1 28 [.int .i64 kq.op,.int .i64 kq.ct,.int .i64 kq.n,.int .i64 kq.m,.int .i64 kq.va,.slice nA kq.ks.length ncap].toArray:=by rw [hX];exact Blk.new _ _ _
         have hX2:=hX
         simp only [List.toArray] at hX2
         first | rw [←hX] | rw [←hX2]
         clear hX hX2
         have hC2:Below wr wr C2:=hC1.trans (hb2.mono hC1.size)
         have HKb2:=jj hkb2
         have HKL2:Hid (∀ g,g<C1.heap.size→C1.heap.size≠g):=fun g hg e=>by omega
         obtain ⟨kb,hkb⟩:∃ X,X=C1.heap.size:=⟨_,rfl⟩
         rw [←hkb] at HKb2 HKL2 ⊢
         clear hkb2
         have HKB:=jj hkb
         clear hkb
         have HE2:=jj (HE1.out.below (fun x cs G hk h=>PR_mono' _ _ x cs G hk h) hb2)
         have hne:kb≠eb:=fun e=>by have h1:=(HE1.out.row eb (by simp [zA5])).2;have h2:=HKB.out;omega
         have hkl2:=HKb2.out.lt
         (try dsimp only)
         refine hK.out _ _ (HS.out _ hC2) (fun _=>trivial) ?_
         clear hK K
         (try simp only [zz])
         refine wR (rs:=[6]) (by kernel_rfl) (by simp) ?_
         refine AllReadyB.c rfl (fun K hK=>?_) (AllReadyB.n)
         obtain ⟨cv,C3,Gc,hr3,ho3,hG3,hgr3,hat3⟩:=zAT (P:=Try.prog) 26 26 i0 _ 64 Try.underlying26 HI.out HZ0.out HZ1.out HZ2.out rfl (by decide) PR_len' PR_mono' PR_one HE2.out (HPA.out C2 hC2) (HPU.out.mono (Nat.le_trans hBo.size hC2.size)) (fun g hg hgF=>Nat.lt_irrefl _ (zz9 (HPU.out g hgF) (Nat.le_trans hBo.size (HE2.out.row g hg).1))) (by simp;omega) (by simp;omega) hC2.size
         rw [List.nil_append,List.nil_append] at ho3
         have hC3:Below wr wr C3:=hC2.grown hgr3 hC2.size (fun g hg=>(HE2.out.row g (zA1.2 hg)).1)
         have hcb3:∀ (b:Nat) (T:TypeId) (cs:Array Value),b<C2.heap.size→b≠eb→Blk C2 b T cs→Blk C3 b T cs:=fun b T cs hl hne h=>h.same (hgr3.block _ hl (fun e=>hne (Option.some.inj e)))
         obtain ⟨cA,ccap,hcv,-,-⟩:=ho3.form
         subst hcv
         have HGc:=jj hG3
         have HOc3:=jj ho3
         have HRUN:=jj hr3
         clear ho3 hG3 hgr3 hat3 hr3
         refine zB4 (P:=Try.prog) rfl _ _ 26 rfl (by rfl) (by rfl) HRUN.out ?_
         clear HRUN
         have HOc:=HOc3
         have HKb:=jj (hcb3 kb _ _ hkl2 hne HKb2.out)
        rotate_left
       rotate_left 2
       focus
        go_simp
        obtain ⟨C1,hX⟩:∃ X,X=wd.alloc (.cells [.int .i64 kq.op,.int .i64 kq.ct,.int .i64 kq.n,.int .i64 kq.m,.int .i64 kq.va,.slice nA kq.ks.length ncap].toArray 28):=⟨_,rfl⟩
        have hb1:Below wd wd C1:=by rw [hX];exact (zy2 _ _).alloc (zz8 _) _
        have hkb1:Blk C1 wd 28 [.int .i64 kq.op,.int .i64 kq.ct,.int .i64 kq.n,.int .i64 kq.m,.int .i64 kq.va,.slice nA kq.ks.length ncap].toArray:=by rw [hX];exact Blk.new _ _ _
        have hX2:=hX
        simp only [List.toArray] at hX2
        first | rw [←hX] | rw [←hX2]
        clear hX hX2
        have hC1:Below wr wr C1:=hC0.trans (hb1.mono hC0.size)
        have HKb1:=jj hkb1
        have HKL1:Hid (∀ g,g<wd.heap.size→wd.heap.size≠g):=fun g hg e=>by omega
        obtain ⟨kb,hkb⟩:∃ X,X=wd.heap.size:=⟨_,rfl⟩
        rw [←hkb] at HKb1 HKL1 ⊢
        clear hkb1
        have HKB:=jj hkb
        clear hkb
        have hkl1:=HKb1.out.lt
        (try dsimp only)
        refine hK.out _ _ (HS.out _ hC1) (fun _=>trivial) ?_
        clear hK K
        (try simp only [zz])
        refine wR (rs:=[1]) (by kernel_rfl) (by simp) ?_
        refine AllReadyB.c rfl (fun K hK=>?_) (AllReadyB.n)
        go_simp
        obtain ⟨C2,hX⟩:∃ X,X=C1.alloc (.cells #[] 28):=⟨_,rfl⟩
        have hb2:Below C1 C1 C2:=by rw [hX];exact (zy2 _ _).alloc (zz8 _) _
        have ho2:Own C2 wr.heap.size 28 6 PR ([]:List P) (.slice (some ⟨C1,0,none⟩) 0 0) []:=by rw [hX];exact Own.made C1 _ _ _ _ _ 0 hC1.size (by simp [maxLen]) rfl
        rw [←hX]
        clear hX
        have hC2:Below wr wr C2:=hC1.trans (hb2.mono hC1.size)
        have HE2:=jj ho2
        obtain ⟨eb,heb⟩:∃ X,X=C1.heap.size:=⟨_,rfl⟩
        rw [←heb] at HE2 ⊢
        have HEL:=jj heb
        clear heb ho2
        have HKb2:=jj (HKb1.out.same (hb2.block _ hkl1))
        have hne:kb≠eb:=fun e=>by have h1:=(HE2.out.row eb (by simp [zA5]));have h2:=HEL.out;omega
        have hkl2:=HKb2.out.lt
        (try dsimp only)
        refine hK.out _ _ (HS.out _ hC2) (fun _=>trivial) ?_
        clear hK K
        (try simp only [zz])
        refine wR (rs:=[6]) (by kernel_rfl) (by simp) ?_
        refine AllReadyB.c rfl (fun K hK=>?_) (AllReadyB.n)
        obtain ⟨cv,C3,Gc,hr3,ho3,hG3,hgr3,hat3⟩:=zAT (P:=Try.prog) 26 26 i0 _ 64 Try.underlying26 HI.out HZ0.out HZ1.out HZ2.out rfl (by decide) PR_len' PR_mono' PR_one HE2.out (HPA.out C2 hC2) (HPU.out.mono (Nat.le_trans hBo.size hC2.size)) (fun g hg hgF=>Nat.lt_irrefl _ (zz9 (HPU.out g hgF) (Nat.le_trans hBo.size (HE2.out.row g hg).1))) (by simp;omega) (by simp;omega) hC2.size
        rw [List.nil_append,List.nil_append] at ho3
        have hC3:Below wr wr C3:=hC2.grown hgr3 hC2.size (fun g hg=>(HE2.out.row g (zA1.2 hg)).1)
        have hcb3:∀ (b:Nat) (T:TypeId) (cs:Array Value),b<C2.heap.size→b≠eb→Blk C2 b T cs→Blk C3 b T cs:=fun b T cs hl hne h=>h.same (hgr3.block _ hl (fun e=>hne (Option.some.inj e)))
        obtain ⟨cA,ccap,hcv,-,-⟩:=ho3.form
        subst hcv
        have HGc:=jj hG3
        have HOc3:=jj ho3
        have HRUN:=jj hr3
        clear ho3 hG3 hgr3 hat3 hr3
        refine zB4 (P:=Try.prog) rfl _ _ 26 rfl (by rfl) (by rfl) HRUN.out ?_
        clear HRUN
        have HOc:=HOc3
        have HKb:=jj (hcb3 kb _ _ hkl2 hne HKb2.out)
       rotate_left
       all_goals (
        (try dsimp only)
        refine hK.out _ _ (HS.out _ hC3) (fun _=>trivial) ?_
        clear hK K
        (try simp only [zz])
        refine wR (rs:=[15]) (by kernel_rfl) (by simp) ?_
        refine AllReadyB.c rfl (fun K hK=>?_) (AllReadyB.n)
        refine step_pushP (P:=Try.prog) rfl _ _ 26 rfl i0 _ 64 Try.underlying26 HI.out HZ0.out HZ1.out HZ2.out rfl (by decide) PR_len' PR_mono' (by rfl) HOc.out kq 28 [kq.op,kq.ct,kq.n,kq.m,kq.va,.slice nA kq.ks.length ncap] Gk kb (by rfl) HKb.out (by simp [Value.oneCell']) (HVk2.out C3 hC3) (HKu.out.mono (Nat.le_trans hBr.size hC3.size)) (fun g hg hgG=>Nat.lt_irrefl _ (zz9 (HKu.out g hgG) (Nat.le_trans hBr.size (HOc.out.row g hg).1))) (by unfold maxLen;omega) (by omega) hC3.size ?_
        intro g7 cp7 C4 hown4 hgr4 hat4
        have hC4:Below wr wr C4:=hC3.grown hgr4 hC3.size (fun g hg=>(HOc.out.row g (zA1.2 hg)).1)
        have HO4:=jj hown4
        have H4R:Hid (∀ g∈rowOf (.slice (some ⟨g7,0,none⟩) (o.length+1) cp7),wr.heap.size≤g∧g<C4.heap.size):=fun g hg=>HO4.out.row g hg
        have HYR:Hid (LpR C4 (o ++ [kq]) [.slice (some ⟨g7,0,none⟩) (o.length+1) cp7] (rowOf (.slice (some ⟨g7,0,none⟩) (o.length+1) cp7) ++ (Gc ++ Gk))):=by
         have h:=HO4.out.arr
         rw [if_neg (by simp)] at h
         exact ⟨_,rfl,h⟩
        have hbo4:Below wo wo C4:=hBo.trans (hC4.mono hBo.size)
        have HM4:=jj (HM.out.below (fun x cs G hk h=>LpR_mono _ _ x cs G hk h) hC4)
        have HYU:Hid (Under C4 (rowOf (.slice (some ⟨g7,0,none⟩) (o.length+1) cp7) ++ (Gc ++ Gk))):=fun b hb=>by
         rcases List.mem_append.1 hb with hb | hb
         ·exact (H4R.out b hb).2
         ·rcases List.mem_append.1 hb with hb | hb
          ·exact zz9 (HPU.out b (HGc.out b hb)) (Nat.le_trans hBo.size hC4.size)
          ·exact zz9 (HKu.out b hb) (Nat.le_trans hBr.size hC4.size)
        have HYP:Hid (∀ b∈Fm ++ (rowOf (.slice (some ⟨g7,0,none⟩) (o.length+1) cp7) ++ (Gc ++ Gk)),b∈F∨w.heap.size≤b):=fun b hb=>by
         rcases List.mem_append.1 hb with hb | hb
         ·exact HFN.out b hb
         ·rcases List.mem_append.1 hb with hb | hb
          ·exact .inr (Nat.le_trans hBr.size (H4R.out b hb).1)
          ·rcases List.mem_append.1 hb with hb | hb
           ·exact HOP.out b (HPSB.out b (HGc.out b hb))
           ·exact .inl (HLS.out b (HKS.out b hb))
        have HYN:Hid (∀ g∈rowOf (.slice mA (nextRP pre o l j).length mcap),g∉(rowOf (.slice (some ⟨g7,0,none⟩) (o.length+1) cp7) ++ (Gc ++ Gk))):=fun g hg hgG=>by
         have h1:=HM.out.row g hg
         rcases List.mem_append.1 hgG with hb | hb
         ·have:=(H4R.out g hb).1;omega
         ·rcases List.mem_append.1 hb with hb | hb
          ·have:=HPU.out g (HGc.out g hb);omega
          ·have:=HKu.out g hb;have:=hBwo.size;omega
        clear hown4 hgr4 hat4
        (try dsimp only)
        refine hK.out _ _ (HS.out _ hC4) (fun _=>trivial) ?_
        clear hK K
        (try simp only [zz])
        refine wR (rs:=[16]) (by kernel_rfl) (by simp) ?_
        refine AllReadyB.c rfl (fun K hK=>?_) (AllReadyB.n)
        go_simp
        (try dsimp only)
        refine hK.out _ _ (HS.out _ (hC4.alloc hC4.size _)) (fun _=>trivial) ?_
        clear hK K
        (try simp only [zz])
        refine wR (rs:=[17]) (by kernel_rfl) (by simp) ?_
        refine AllReadyB.c rfl (fun K hK=>?_) (AllReadyB.n)
        refine zAF (P:=Try.prog) rfl _ _ 93 rfl j0 _ 24 Try.underlying93 HJ.out HY0.out HY1.out HY2.out rfl (by decide) LpR_len LpR_mono (by rfl) HM4.out (o ++ [kq]) 26 [.slice (some ⟨g7,0,none⟩) (o.length+1) cp7] (rowOf (.slice (some ⟨g7,0,none⟩) (o.length+1) cp7) ++ (Gc ++ Gk)) C4.heap.size (by rfl) rfl (by simp [Value.oneCell']) HYR.out HYU.out HYN.out hmx hby hbo4.size ?_
        intro g10 cp10 C5 hown5 hgr5 hat5
        have hrow:=HM4.out.row
        have hB5:Below wo wo C5:=(hbo4.alloc hbo4.size _).grown hgr5 (by simp;have:=hbo4.size;omega) (fun g hg=>(hrow g (zA1.2 hg)).1)
        have hS4:=HS.out _ hC4
        have hS5:C5.cell? ⟨b5,off5+k,none⟩=some (.slice pA o.length pcap)∧C5.cell? ⟨bl,offl+i,none⟩=some (.slice (some ⟨b9,off9,none⟩) l.length lcap)∧C5.cell? ⟨b9,off9+j*6,none⟩=kq.op∧C5.cell? ⟨b9,off9+j*6+1,none⟩=kq.ct∧C5.cell? ⟨b9,off9+j*6+2,none⟩=kq.n∧C5.cell? ⟨b9,off9+j*6+3,none⟩=kq.m∧C5.cell? ⟨b9,off9+j*6+4,none⟩=kq.va∧C5.cell? ⟨b9,off9+j*6+5,none⟩=some (.slice nA kq.ks.length ncap):=⟨(hB5.cell lo5).trans ((hBo.cell lo5).symm.trans c5),(hB5.cell lol).trans ((hBo.cell lol).symm.trans cl),(hB5.cell lo9).trans ((hBo.cell lo9).symm.trans n0),(hB5.cell lo9).trans ((hBo.cell lo9).symm.trans n1),(hB5.cell lo9).trans ((hBo.cell lo9).symm.trans n2),(hB5.cell lo9).trans ((hBo.cell lo9).symm.trans n3),(hB5.cell lo9).trans ((hBo.cell lo9).symm.trans n4),(hB5.cell lo9).trans ((hBo.cell lo9).symm.trans n5)⟩
        have HO5:=jj hown5
        clear hown5 hgr5 hat5 hrow
        (try dsimp only)
        refine hK.out _ _ (hS5) (fun _=>trivial) ?_
        clear hK K
        (try simp only [zz])
        refine wV 18 rfl hS5 hT0 ?_
        (try simp only [zz])
        refine wE (by kernel_rfl) ?_
        clear hS4 hS5 hS0 hT0 c5 cl n0 n1 n2 n3 n4 n5
        go_wp2
        go_roundw
        case rel=>exact ⟨j+1,_,hjl,by go_num,(by rw [HMS.out];exact HO5.out),HYP.out,hB5⟩
        case measure=>(simp [intOf] <;> omega))
      ·have HOM:Hid (Own wr wo.heap.size 26 1 LpR (nextLP As l (k+1)) (.slice mA (nextRP pre o l j).length mcap) Fm):=by rw [←HNR.out j hj2];exact HM.out
       by_cases hjl:j<l.length
       ·have t3:decide ((j:Int)<(l.length:Int))=true:=by simp;omega
        have t4:decide (((nextRP pre o l j).length:Int)≤400)=false:=by simp;omega
        go_wp2
        go_roundw
        case rel=>exact ⟨k+1,Fm,hkl,by go_num,HOM.out,HFN.out,hBo⟩
        case measure=>(simp [intOf] <;> omega)
       ·have t3:decide ((j:Int)<(l.length:Int))=false:=by simp;omega
        go_wp2
        go_roundw
        case rel=>exact ⟨k+1,Fm,hkl,by go_num,HOM.out,HFN.out,hBo⟩
        case measure=>(simp [intOf] <;> omega)
    ·have HON:Hid (Arr wr (LpR wr) (pairToP ls (i+1)) (.slice mA (nextLP As l k).length mcap) (if nextLP As l k=[] then [] else rowOf (.slice mA (nextLP As l k).length mcap) ++ Fn)):=by
      rw [HPS.out,←HEND.out hk2];exact HM.out.arr
     have HUN:=jj HM.out.under_anyP
     have HPN:Hid (∀ b∈(if nextLP As l k=[] then [] else rowOf (.slice mA (nextLP As l k).length mcap) ++ Fn),b∈F∨w.heap.size≤b):=fun b hb=>by
      by_cases hx:nextLP As l k=[]
      ·rw [if_pos hx] at hb;cases hb
      ·rw [if_neg hx] at hb
       rcases List.mem_append.1 hb with hb | hb
       ·exact .inr (Nat.le_trans hBwo.size (HM.out.row b hb).1)
       ·exact HFN.out b hb
     have HB2:Hid (Below W2 W2 wr):=HBI.out.trans (hBo.mono HBI.out.size)
     by_cases hkl:k<As.length
     ·have t1:decide ((k:Int)<(As.length:Int))=true:=by simp;omega
      have t2:decide (((nextLP As l k).length:Int)≤400)=false:=by simp;omega
      go_wp2
      go_roundw
      case rel=>exact ⟨i+1,_,hil,by go_num,HON.out,HUN.out,HPN.out,HB2⟩
      case measure=>(simp [intOf] <;> omega)
     ·have t1:decide ((k:Int)<(As.length:Int))=false:=by simp;omega
      go_wp2
      go_roundw
      case rel=>exact ⟨i+1,_,hil,by go_num,HON.out,HUN.out,HPN.out,HB2⟩
      case measure=>(simp [intOf] <;> omega)
  ·have HFin:Hid (ListsPP (cutVP (pairAllP ls)) F w (.returned (.slice oA (pairToP ls i).length ocap)) wo):=by
    have h:=HO.out
    refine ⟨_,Fo,rfl,hBwo,?_,HOU.out,HOP.out⟩
    rw [←pairToP_all ls (Nat.le_of_not_lt hil)]
    exact h
   go_wp2
   go_ret
   exact HFin.out
theorem Own.takeP {α:Type} {w:World} {B k:Nat} {E:TypeId} {R:World→α→List Value→List Nat→Prop} {xs:List α} {A:Option Addr} {n cap:Nat} {F:List Nat} (hk:∀ x cs F,R w x cs F→cs.length=k) (h:Own w B E k R xs (.slice A n cap) F) (m:Nat) (h0:0<m) (hm:m≤xs.length) :
  m≤cap∧∃ G,Own w B E k R (xs.take m) (.slice A m cap) G∧∀ b∈G,b∈F:=by
 obtain ⟨cs,h1,h2,h3,h4⟩:=h
 have hl:(xs.take m).length=m:=by rw [List.length_take];omega
 rw [←List.take_append_drop m xs] at h2
 obtain ⟨c1,c2,F1,F2,rfl,rfl,h5,h6⟩:=Flat.split (xs.take m) h2
 have hc1:=h5.length hk
 rw [hl] at hc1
 rcases h1.2 with ⟨hv,hn⟩ | ⟨g,cap',cur,hv,hb,hg,hc,hm',hs,hr⟩
 ·omega
 ·cases hv
  refine ⟨by omega,F1,⟨c1,⟨by rw [hl];exact hc1,.inr ⟨g,cap,cur,by rw [hl],hb,hg,by omega,hm',hs,?_⟩⟩,h5,fun b hb=>h3 b (List.mem_append.2 (.inl hb)),fun x hx hF=>h4 x (by simpa [zA5] using hx) (List.mem_append.2 (.inl hF))⟩,fun b hb=>List.mem_append.2 (.inl hb)⟩
  rw [hl]
  have e:=congrArg (List.take (m*k)) hr
  rw [List.take_take,Nat.min_eq_left (Nat.mul_le_mul_right _ hm),←hc1,List.take_left'] at e
  ·rw [←hc1];exact e
  ·rfl
theorem map_takeP {α β:Type} (f:α→β) (l:List α) (i:Nat) (h:i<l.length):(l.take (i+1)).map f=(l.take i).map f ++ [f l[i]]:=by rw [take_snoc' l i h,List.map_append];rfl
def SpSP (p:P):Prop:=∀ (w:World) (cs:List Value) (G:List Nat),PR w p cs G→Under w G→Shp p→p.size≤900→Calls Try.prog 27 #[.agg cs.toArray] w (MadeSp (cutVP (P.spl p)) w)
set_option maxHeartbeats 8000000 in
theorem l3Split_of (p:P) (ih:∀ k∈p.ks,SpSP k):SpSP p:=by
 intro w cs G hp hg hs hz
 obtain ⟨kv,rfl,ha⟩:=(zA4 _ _ _).1 hp
 obtain ⟨A4,cap4,rfl,hc3,hc4⟩:=ha.form
 obtain ⟨i0,hi,hz0,hz1,hz2⟩:=info_parts info_PE
 obtain ⟨j0,hj,hy0,hy1,hy2⟩:=info_parts info_PSE
 have IH:=jj ih
 have HI:=jj hi
 have HZ0:=jj hz0
 have HZ1:=jj hz1
 have HZ2:=jj hz2
 have HJ:=jj hj
 have HY0:=jj hy0
 have HY1:=jj hy1
 have HY2:=jj hy2
 have HA:=jj ha
 have HG:=jj hg
 clear hi hz0 hz1 hz2 hj hy0 hy1 hy2 ha hg
 clear ih hp
 by_cases h5:p.op=5
 ·have t5:(p.op==5)=true:=by simp [h5]
  obtain ⟨hl2,heq⟩:=Shp.or2 hs h5
  have hm0:p.ks[0]'(by omega)∈p.ks:=List.getElem_mem _
  have hm1:p.ks[1]'(by omega)∈p.ks:=List.getElem_mem _
  have HSH0:=jj (hs.kid hm0)
  have HSH1:=jj (hs.kid hm1)
  have hz0:=Nat.le_trans (Nat.le_of_lt (size_kid hm0)) hz
  have hz1:=Nat.le_trans (Nat.le_of_lt (size_kid hm1)) hz
  have g0:(0:Int)<(p.ks.length:Int):=by omega
  have g1:(1:Int)<(p.ks.length:Int):=by omega
  have gn0:0<p.ks.length:=by omega
  have gn1:1<p.ks.length:=by omega
  obtain ⟨W2,hW2⟩:∃ W2,W2=(w.alloc (.cells #[p.op,p.ct,p.n,p.m,p.va,.slice A4 p.ks.length cap4] 28)):=⟨_,rfl⟩
  have hB0:Below w w W2:=by rw [hW2];exact (zy2 _ _).alloc (zz8 _) _
  have KP:Hid (Blk W2 w 28 #[p.op,p.ct,p.n,p.m,p.va,.slice A4 p.ks.length cap4]):=by rw [hW2];exact Blk.new _ _ _
  obtain ⟨kb,koff,rfl⟩:=HA.out.ptr (by omega)
  obtain ⟨k0A,k0cap,G0,hkb,k0z0,k0z1,k0z2,k0z3,k0z4,k0z5,HK0,HG0,-,-,-⟩:=ArrP.at HA.out HG.out hB0 0 (by omega)
  obtain ⟨k1A,k1cap,G1,-,k1z0,k1z1,k1z2,k1z3,k1z4,k1z5,HK1,HG1,-,-,-⟩:=ArrP.at HA.out HG.out hB0 1 (by omega)
  simp only [Nat.zero_mul,Nat.add_zero,Nat.one_mul] at k0z0 k0z1 k0z2 k0z3 k0z4 k0z5 k1z0 k1z1 k1z2 k1z3 k1z4 k1z5
  obtain ⟨k0,hk0⟩:∃ u,u=p.ks[0]'(by omega):=⟨_,rfl⟩
  obtain ⟨k1,hk1⟩:∃ u,u=p.ks[1]'(by omega):=⟨_,rfl⟩
  rw [←hk0,←hk1] at heq
  rw [←hk0] at hm0 hz0 HSH0 HK0 k0z0 k0z1 k0z2 k0z3 k0z4 k0z5
  rw [←hk1] at hm1 hz1 HSH1 HK1 k1z0 k1z1 k1z2 k1z3 k1z4 k1z5
  clear hk0 hk1
  have HEQ:=jj heq
  clear h5 heq hl2 hs
  have z0:(w.alloc (.cells #[p.op,p.ct,p.n,p.m,p.va,.slice (some ⟨kb,koff,none⟩) p.ks.length cap4] 28)).cell? ⟨w,0,none⟩=p.op:=((Blk.new w 28 _).cell 0).trans (by simp)
  go_enter Try.func27,Try.ntmps27
  go_wp2_with fail
  rw [←hW2]
  clear hW2
  go_wp2_with fail
  have HS:Hid (∀ C:World,Below W2 W2 C→(C.cell? ⟨w,5,none⟩=some (.slice (some ⟨kb,koff,none⟩) p.ks.length cap4)∧C.cell? ⟨kb,koff,none⟩=k0.op∧C.cell? ⟨kb,koff+1,none⟩=k0.ct∧C.cell? ⟨kb,koff+2,none⟩=k0.n∧C.cell? ⟨kb,koff+3,none⟩=k0.m∧C.cell? ⟨kb,koff+4,none⟩=k0.va∧C.cell? ⟨kb,koff+5,none⟩=some (.slice k0A k0.ks.length k0cap)∧C.cell? ⟨kb,koff+6,none⟩=k1.op∧C.cell? ⟨kb,koff+6+1,none⟩=k1.ct∧C.cell? ⟨kb,koff+6+2,none⟩=k1.n∧C.cell? ⟨kb,koff+6+3,none⟩=k1.m∧C.cell? ⟨kb,koff+6+4,none⟩=k1.va∧C.cell? ⟨kb,koff+6+5,none⟩=some (.slice k1A k1.ks.length k1cap))):=fun C hb=>⟨(hb.cell (KP.out.lt)).trans ((KP.out.cell 5).trans (by simp)),(hb.cell (hkb)).trans k0z0,(hb.cell (hkb)).trans k0z1,(hb.cell (hkb)).trans k0z2,(hb.cell (hkb)).trans k0z3,(hb.cell (hkb)).trans k0z4,(hb.cell (hkb)).trans k0z5,(hb.cell (hkb)).trans k1z0,(hb.cell (hkb)).trans k1z1,(hb.cell (hkb)).trans k1z2,(hb.cell (hkb)).trans k1z3,(hb.cell (hkb)).trans k1z4,(hb.cell (hkb)).trans k1z5⟩
  have hC0:Below W2 W2 W2.drew:=(zy2 _ _).drew
  refine wpBS HS.out (T:=fun _=>True) (d:=99) (by kernel_rfl) ?_
  obtain ⟨wd,hwd⟩:∃ X,X=W2.drew:=⟨_,rfl⟩
  rw [←hwd] at hC0  ⊢
  clear hwd
  have hS0:=HS.out _ hC0
  have hT0:True:=trivial
  refine wV 0 rfl hS0 hT0 ?_
  (try simp only [zz])
  refine wV 1 rfl hS0 hT0 ?_
  (try simp only [zz])
  refine wV 2 rfl hS0 hT0 ?_
  (try simp only [zz])
  refine wV 3 rfl hS0 hT0 ?_
  (try simp only [zz])
  refine wV 5 rfl hS0 hT0 ?_
  (try simp only [zz])
  refine wV 6 rfl hS0 hT0 ?_
  (try simp only [zz])
  refine wV 7 rfl hS0 hT0 ?_
  (try simp only [zz])
  refine wV 8 rfl hS0 hT0 ?_
  (try simp only [zz])
  refine w1 4 rfl fun K hK=>?_
  go_simp
  go_at_call 27
  refine (IH.out k0 hm0 wd _ G0 (HK0.out.below (hB0.trans (hC0.mono hB0.size)) HG0.out) (HG0.out.mono (Nat.le_trans hB0.size hC0.size)) HSH0.out hz0).mono ?_
  rintro e C8 ⟨v8,F8,rfl,hb8,ho8,hF8⟩
  have hC1:Below W2 W2 C8:=hC0.trans (hb8.mono hC0.size)
  have hS1:=HS.out _ hC1
  have HO8:=jj (ho8.base (B':=W2.heap.size) (fun g hg=>Nat.le_trans hC0.size (ho8.row g hg).1))
  have HF8:Hid (∀ b∈F8,w.heap.size≤b):=fun b hb=>Nat.le_trans (Nat.le_trans hB0.size hC0.size) (hF8 b hb)
  clear ho8 hF8
  (try dsimp only)
  refine hK.out _ _ hS1 (fun _=>trivial) ?_
  clear hK K
  (try simp only [zz])
  refine w1 9 rfl fun K hK=>?_
  go_simp
  go_at_call 27
  refine (IH.out k1 hm1 C8 _ G1 (HK1.out.below (hB0.trans (hC1.mono hB0.size)) HG1.out) (HG1.out.mono (Nat.le_trans hB0.size hC1.size)) HSH1.out hz1).mono ?_
  rintro e C9 ⟨v9,F9,rfl,hb9,ho9,hF9⟩
  have hC2:Below W2 W2 C9:=hC1.trans (hb9.mono hC1.size)
  have hS2:=HS.out _ hC2
  obtain ⟨A8,cap8,rfl,-,-⟩:=HO8.out.form
  obtain ⟨A9,cap9,rfl,-,-⟩:=ho9.form
  have hq0:=cutVP_len (P.spl k0)
  have hq1:=cutVP_len (P.spl k1)
  have HR8:Hid (∀ g∈rowOf (.slice A8 (cutVP (P.spl k0)).length cap8),g<C8.heap.size):=fun g hg=>(HO8.out.row g hg).2
  have HOa:=jj (HO8.out.below (fun x cs G hk h=>PR_mono' _ _ x cs G hk h) hb9)
  have HF9:Hid (∀ b∈(if cutVP (P.spl k1)=[] then [] else rowOf (.slice A9 (cutVP (P.spl k1)).length cap9) ++ F9),C8.heap.size≤b):=ho9.ge_ifP (zz8 _) hF9
  have hcs8:=hC1.size
  obtain ⟨v7,C7,F7,hr7,ho7,hG7,hgr7,hat7⟩:=zAT (P:=Try.prog) 26 26 i0 _ 64 Try.underlying26 HI.out HZ0.out HZ1.out HZ2.out rfl (by decide) PR_len' PR_mono' PR_one HOa.out ho9.arr ho9.under_ifP (fun g hg hgF=>Nat.lt_irrefl _ (zz9 (HR8.out g hg) (HF9.out g hgF))) (by omega) (by omega) hC2.size
  have hC7:Below W2 W2 C7:=hC2.grown hgr7 hC2.size (fun g hg=>(HO8.out.row g (zA1.2 hg)).1)
  have HR7:=jj hr7
  have HO7:=jj (ho7.base (B':=w.heap.size) (fun g hg=>Nat.le_trans hB0.size (ho7.row g hg).1))
  have HF7:Hid (∀ b∈F8 ++ F7,w.heap.size≤b):=fun b hb=>by
   rcases List.mem_append.1 hb with hb | hb
   ·exact HF8.out b hb
   ·exact Nat.le_trans (Nat.le_trans hB0.size hcs8) (HF9.out b (hG7 b hb))
  clear ho9 hF9 hr7 ho7 hG7 hgr7 hat7
  (try dsimp only)
  refine hK.out _ _ hS2 (fun _=>trivial) ?_
  clear hK K
  (try simp only [zz])
  refine w1 10 rfl fun K hK=>?_
  refine zB4 (P:=Try.prog) rfl _ _ 26 rfl (by rfl) (by rfl) HR7.out ?_
  (try dsimp only)
  refine hK.out _ _ (HS.out _ hC7) (fun _=>trivial) ?_
  clear hK K
  (try simp only [zz])
  refine wV 11 rfl (HS.out _ hC7) hT0 ?_
  (try simp only [zz])
  refine wE (by kernel_rfl) ?_
  clear hS0 hS1 hS2 hT0
  have hBE:=jj (hB0.trans (hC7.mono hB0.size))
  obtain ⟨A7,cap7,rfl,hc71,hc72⟩:=HO7.out.form
  clear hC0 hC1 hC2 hC7 hb8 hb9 hcs8 k0z0 k0z1 k0z2 k0z3 k0z4 k0z5 k1z0 k1z1 k1z2 k1z3 k1z4 k1z5 hkb
  by_cases hbig:(cutVP (P.spl k0) ++ cutVP (P.spl k1)).length≤401
  ·have hres:Hid (MadeSp (cutVP (P.spl p)) w (.returned (.slice A7 (cutVP (P.spl k0) ++ cutVP (P.spl k1)).length cap7)) C7):=by
    refine ⟨_,F8 ++ F7,rfl,hBE.out,?_,HF7.out⟩
    rw [←HEQ.out,cutVP_short hbig]
    exact HO7.out
   generalize (cutVP (P.spl k0) ++ cutVP (P.spl k1))=L at *
   have e1:decide ((L.length:Int)>401)=false:=by simp;omega
   clear HR7 HO7 HF7 HEQ HOa hq0 hq1 HR8 HO8 HF8 HF9
   go_wp2
   go_ret
   exact hres.out
  ·obtain ⟨hcap,G,ho,hG⟩:=HO7.out.takeP PR_len 401 (by omega) (by omega)
   have hres:Hid (MadeSp (cutVP (P.spl p)) w (.returned (.slice A7 401 cap7)) C7):=by
    refine ⟨_,G,rfl,hBE.out,?_,fun b hb=>HF7.out b (hG b hb)⟩
    rw [←HEQ.out]
    exact ho
   generalize (cutVP (P.spl k0) ++ cutVP (P.spl k1))=L at *
   have e1:decide ((L.length:Int)>401)=true:=by simp;omega
   have e2:(401:Int)≤(cap7:Int):=by omega
   clear HR7 HO7 HF7 HEQ HOa hq0 hq1 HR8 HO8 HF8 HF9 ho hG
   go_wp2
   go_ret
   exact hres.out
 ·have t5:(p.op==5)=false:=by simp [h5]
  have H5:=jj h5
  have HSH:=jj hs
  have hkz:=Nat.le_trans (ks_len p) hz
  clear h5 hs
  obtain ⟨W2,hW2⟩:∃ W2,W2=((w.alloc (.cells #[p.op,p.ct,p.n,p.m,p.va,.slice A4 p.ks.length cap4] 28)).alloc (.cells #[] 26)):=⟨_,rfl⟩
  have hB0:Below w w W2:=by rw [hW2];exact ((zy2 _ _).alloc (zz8 _) _).alloc (by simp) _
  have KP:Hid (Blk W2 w 28 #[p.op,p.ct,p.n,p.m,p.va,.slice A4 p.ks.length cap4]):=by rw [hW2];exact (Blk.new w _ _).same (Below.heap_alloc _ _ _ (by simp))
  have HL0:Hid (Own W2 (w.heap.size+1) 26 1 LpR ([]:List (List P)) (.slice (some ⟨w.heap.size+1,0,none⟩) 0 0) []):=by
   rw [hW2]
   have h:=Own.made (w.alloc (.cells #[p.op,p.ct,p.n,p.m,p.va,.slice A4 p.ks.length cap4] 28)) (w.heap.size+1) 26 1 LpR #[] 0 (by simp) (by simp [maxLen]) rfl
   rw [World.size_alloc] at h
   exact h
  have hs2:w.heap.size+2≤W2.heap.size:=by rw [hW2];simp
  go_enter Try.func27,Try.ntmps27
  go_wp2_with fail
  rw [←hW2]
  clear hW2
  have hB1:Below (w.heap.size+1) W2 W2:=zy2 _ _
  go_loopw [4,5] (fun lv jv wr=>∃ j:Nat,∃ Fl:List Nat,j≤p.ks.length∧jv=.int .i64 j∧Hid (Own wr (w.heap.size+1) 26 1 LpR ((p.ks.take j).map fun k=>cutVP (P.spl k)) lv Fl)∧Hid (∀ b∈Fl,w.heap.size+1≤b)∧Hid (Below (w.heap.size+1) W2 wr)) (fun _ jv _=>p.ks.length-(intOf jv).toNat)
  case atStart=>exact ⟨0,[],Nat.zero_le _,rfl,HL0.out,(fun b hb=>by cases hb),hB1⟩
  case round =>
   clear HL0 hB1
   obtain ⟨j,Fl,hj,rfl,HL,HFl,HB⟩:=hrel
   obtain ⟨lA,lcap,hlv,-,-⟩:=HL.out.form
   subst hlv
   have hlj:((p.ks.take j).map fun k=>cutVP (P.spl k)).length≤j:=by rw [List.length_map,List.length_take];omega
   obtain ⟨wp,hwp⟩:∃ wp,wp=wr:=⟨_,rfl⟩
   rw [←hwp] at HL HB ⊢
   clear hwp
   have hB:=hB0.trans (HB.out.mono (Nat.le_succ _))
   have hsp:w.heap.size+2≤wp.heap.size:=Nat.le_trans hs2 HB.out.size
   have KPj:=jj (KP.out.same (HB.out.block _ (Nat.lt_succ_self _)))
   obtain ⟨-,-,-,-,-,z5,klt⟩:=KPj.out.c6
   by_cases hjl:j<p.ks.length
   ·have g1:(0:Int)≤(j:Int):=by omega
    have g2:(j:Int)<(p.ks.length:Int):=by omega
    obtain ⟨b4,off4,rfl⟩:=HA.out.ptr (by omega)
    obtain ⟨A7,cap7,G7,hb7,k0,k1,k2,k3,k4,k5,HV7,HG7,hgs7,-,-⟩:=ArrP.at HA.out HG.out hB j hjl
    have hkm:p.ks[j]∈p.ks:=List.getElem_mem hjl
    have HSK:=jj (HSH.out.kid hkm)
    have hkz2:=Nat.le_trans (Nat.le_of_lt (size_kid hkm)) hz
    have HLS:=jj (map_takeP (fun k=>cutVP (P.spl k)) p.ks j hjl)
    have hmx:((p.ks.take j).map fun k=>cutVP (P.spl k)).length+1≤maxLen:=by unfold maxLen;omega
    have hby:(((p.ks.take j).map fun k=>cutVP (P.spl k)).length+1)*24≤140737488355328:=by omega
    obtain ⟨kj,hkj⟩:∃ u,u=p.ks[j]:=⟨_,rfl⟩
    rw [←hkj] at k0 k1 k2 k3 k4 k5 HV7 hkm HSK hkz2 HLS
    clear hkj
    generalize hL:((p.ks.take j).map fun k=>cutVP (P.spl k))=L at *
    clear hL
    go_wp2_with fail
    refine (IH.out kj hkm wp _ G7 (HV7.out.below hB HG7.out) (HG7.out.mono hB.size) HSK.out hkz2).mono ?_
    rintro e w8 ⟨v8,F8,rfl,hb8,ho8,hF8⟩
    clear k0 k1 k2 k3 k4 k5 hb7 z5 klt
    have HB8:Hid (Below (w.heap.size+1) W2 w8):=HB.out.trans (hb8.mono (by omega))
    have HR8:Hid (LpR w8 (cutVP (P.spl kj)) [v8] (if cutVP (P.spl kj)=[] then [] else rowOf v8 ++ F8)):=⟨v8,rfl,ho8.arr⟩
    have HU8:=jj ho8.under_ifP
    have HF8:Hid (∀ b∈(if cutVP (P.spl kj)=[] then [] else rowOf v8 ++ F8),wp.heap.size≤b):=ho8.ge_ifP (zz8 _) hF8
    have HO8:=jj (HL.out.below (fun x cs G hk h=>LpR_mono _ _ x cs G hk h) hb8)
    have HN8:Hid (∀ g∈rowOf (.slice lA L.length lcap),g∉(if cutVP (P.spl kj)=[] then [] else rowOf v8 ++ F8)):=fun g hg hF=>Nat.lt_irrefl _ (zz9 (HL.out.row g hg).2 (HF8.out g hF))
    obtain ⟨A8,cap8,rfl,-,-⟩:=ho8.form
    generalize hGG:(if cutVP (P.spl kj)=[] then [] else rowOf (.slice A8 (cutVP (P.spl kj)).length cap8) ++ F8)=GG at *
    generalize hTT:cutVP (P.spl kj)=TT at *
    have hbs:w.heap.size+1≤w8.heap.size:=by have:=hb8.size;omega
    clear hGG hTT ho8 hF8 hb8
    go_wp2_with (at_builtin;refine Halt.mk ?_)
    refine Halt.of (zA3 (P:=Try.prog) rfl _ _ 93 rfl j0 _ 24 Try.underlying93 HJ.out HY0.out HY1.out HY2.out rfl (by decide) LpR_len LpR_mono (by rfl) HO8.out TT 26 [.slice A8 TT.length cap8] GG _ (by rfl) (by simp) (by simp [Value.oneCell']) HR8.out HU8.out HN8.out hmx hby hbs ?_)
    intro g cp w9 hown9 hgr9 hat9
    have hrow:=HO8.out.row
    have HB9:Hid (Below (w.heap.size+1) W2 w9):=(HB8.out.alloc hbs _).grown hgr9 (by simp;omega) (fun g hg=>(hrow g (zA1.2 hg)).1)
    have HF9:Hid (∀ b∈Fl ++ GG,w.heap.size+1≤b):=fun b hb=>by
     rcases List.mem_append.1 hb with hb | hb
     ·exact HFl.out b hb
     ·have:=HF8.out b hb;omega
    have HO9:=jj hown9
    clear hown9 hgr9 hat9 hrow
    go_wp2
    go_roundw
    case rel=>exact ⟨j+1,_,hjl,by go_num,(by rw [HLS.out];exact HO9.out),HF9.out,HB9.out⟩
    case measure=>(simp [intOf] <;> omega)
   ·have hall:((p.ks.take j).map fun k=>cutVP (P.spl k))=p.ks.map fun k=>cutVP (P.spl k):=by rw [List.take_of_length_le (Nat.le_of_not_lt hjl)]
    rw [hall] at HL hlj ⊢
    clear hall
    have hl9:(p.ks.map fun k=>cutVP (P.spl k)).length≤900:=by omega
    have hl4:∀ l∈(p.ks.map fun k=>cutVP (P.spl k)),l.length≤401:=fun l hl=>by obtain ⟨k,-,rfl⟩:=List.mem_map.1 hl;exact cutVP_len _
    have HRES:=jj (cutVP_no H5.out)
    have HLA:=jj HL.out.arr
    have HLU:=jj HL.out.under_anyP
    have HLF:Hid (∀ b∈(if (p.ks.map fun k=>cutVP (P.spl k))=[] then [] else rowOf (.slice lA (p.ks.map fun k=>cutVP (P.spl k)).length lcap) ++ Fl),w.heap.size≤b):=fun b hb=>by
     split at hb
     ·cases hb
     ·rcases List.mem_append.1 hb with hb | hb
      ·have:=(HL.out.row b hb).1;omega
      ·have:=HFl.out b hb;omega
    generalize hGG:(if (p.ks.map fun k=>cutVP (P.spl k))=[] then [] else rowOf (.slice lA (p.ks.map fun k=>cutVP (P.spl k)).length lcap) ++ Fl)=GG at *
    clear hGG HL HFl
    generalize (p.ks.map fun k=>cutVP (P.spl k))=L at *
    go_wp2_with fail
    refine (spec_l3Tuples L hl9 hl4 wp _ GG HLA.out HLU.out).mono ?_
    rintro e w8 ⟨v8,F8,rfl,hb8,ha8,hu8,hF8⟩
    clear z5 klt
    have hB8:=hB.trans (hb8.mono hB.size)
    have KP8:=jj (KPj.out.same (hb8.block _ KPj.out.lt))
    have HF8:Hid (∀ b∈F8,w.heap.size≤b):=fun b hb=>(hF8 b hb).elim (HLF.out b) (fun h=>by omega)
    have hT4:=cutVP_len (pairAllP L)
    generalize hT:cutVP (pairAllP L)=TS at *
    have HTA:=jj ha8
    have HTU:=jj hu8
    obtain ⟨tA,tcap,rfl,-,-⟩:=ha8.form
    have hs8:w.heap.size<w8.heap.size:=KP8.out.lt
    clear hT ha8 hu8 hF8 hb8 HLA HLU HLF hl9 hl4 KPj HB hB hsp
    go_wp2_with fail
    have HM0:Hid (Own (w8.alloc (.cells #[] 28)) w8.heap.size 28 6 PR ((TS.take 0).map p.re) (.slice (some ⟨w8,0,none⟩) 0 0) []):=(show Own _ _ _ _ _ [] _ _ from Own.made w8 _ _ _ _ _ 0 (zz8 _) (by simp [maxLen]) rfl)
    have HB0:Hid (Below w8 w8 (w8.alloc (.cells #[] 28))):=(zy2 _ _).alloc (zz8 _) _
    generalize w8.alloc (.cells #[] 28)=w9 at *
    go_loopw [7,8] (fun ov iv wr=>∃ i:Nat,∃ Fo:List Nat,i≤TS.length∧iv=.int .i64 i∧Hid (Own wr w8.heap.size 28 6 PR ((TS.take i).map p.re) ov Fo)∧Hid (∀ b∈Fo,w.heap.size≤b)∧Hid (Below w8 w8 wr)) (fun _ iv _=>TS.length-(intOf iv).toNat)
    case atStart=>exact ⟨0,[],Nat.zero_le _,rfl,HM0.out,(fun b hb=>by cases hb),HB0.out⟩
    case round =>
     clear HM0 HB0
     obtain ⟨i,Fo,hi,rfl,HO,HFo,HB⟩:=hrel
     obtain ⟨oA,ocap,hov,-,-⟩:=HO.out.form
     subst hov
     have hli:((TS.take i).map p.re).length≤i:=by rw [List.length_map,List.length_take];omega
     by_cases hil:i<TS.length
     ·have g1:(0:Int)≤(i:Int):=by omega
      have g2:(i:Int)<(TS.length:Int):=by omega
      obtain ⟨b8,off8,rfl⟩:=HTA.out.ptr (by omega)
      obtain ⟨qA,qcap,Gq,hb8l,hqc,hqa,hqu,hqs⟩:=ArrLp.of HTA.out HTU.out i hil
      have HLS:=jj (map_takeP p.re TS i hil)
      obtain ⟨o,ho⟩:∃ u,u=TS[i]:=⟨_,rfl⟩
      rw [←ho] at hqc hqa HLS
      have x0:wr.cell? ⟨b8,off8+i,none⟩=some (.slice qA o.length qcap):=hqc wr HB.out
      have xlt:b8<wr.heap.size:=zz9 hb8l HB.out.size
      have KPr:=jj (KP8.out.same (HB.out.block _ KP8.out.lt))
      obtain ⟨z0,z1,z2,z3,z4,z5,klt⟩:=KPr.out.c6
      have hbx:Below wr wr (wr.alloc (.cells #[p.op,p.ct,p.n,p.m,p.va,.slice qA o.length qcap] 28)):=(zy2 _ _).alloc (zz8 _) _
      have HOx:=jj (HO.out.below (fun x cs G hk h=>PR_mono' _ _ x cs G hk h) hbx)
      have hbw:Below w8 w8 (wr.alloc (.cells #[p.op,p.ct,p.n,p.m,p.va,.slice qA o.length qcap] 28)):=HB.out.trans (hbx.mono HB.out.size)
      have HRx:Hid (PR (wr.alloc (.cells #[p.op,p.ct,p.n,p.m,p.va,.slice qA o.length qcap] 28)) (p.re o) [p.op,p.ct,p.n,p.m,p.va,.slice qA o.length qcap] Gq):=(zA4 _ _ _).2 ⟨_,rfl,ArrP.below hqa hbw hqu⟩
      have HUx:Hid (Under (wr.alloc (.cells #[p.op,p.ct,p.n,p.m,p.va,.slice qA o.length qcap] 28)).heap.size Gq):=hqu.mono hbw.size
      have HNx:Hid (∀ g∈rowOf (.slice oA ((TS.take i).map p.re).length ocap),g∉Gq):=fun g hg hG=>Nat.lt_irrefl _ (zz9 (hqu g hG) (HO.out.row g hg).1)
      have HFx:Hid (∀ b∈Gq,w.heap.size≤b):=fun b hb=>HF8.out b (hqs b hb)
      have hmx:((TS.take i).map p.re).length+1≤maxLen:=by unfold maxLen;omega
      have hby:(((TS.take i).map p.re).length+1)*64≤140737488355328:=by omega
      have hbs:=hbw.size
      have HBW:=jj hbw
      have hwr:=HB.out.size
      clear ho hqc hqa hqu hqs hbx hbw HO
      generalize (TS.take i).map p.re=pre at *
      go_wp2_with (at_builtin;refine Halt.mk ?_)
      refine Halt.of (zA3 (P:=Try.prog) rfl _ _ 26 rfl i0 _ 64 Try.underlying26 HI.out HZ0.out HZ1.out HZ2.out rfl (by decide) PR_len' PR_mono' (by rfl) HOx.out (p.re o) 28 [p.op,p.ct,p.n,p.m,p.va,.slice qA o.length qcap] Gq _ (by rfl) (by simp) (by simp [Value.oneCell']) HRx.out HUx.out HNx.out hmx hby hbs ?_)
      intro g cp w10 hown hgr hat
      have hrow:=HOx.out.row
      have HB10:Hid (Below w8 w8 w10):=(HBW.out.alloc HBW.out.size _).grown hgr (by simp;omega) (fun g hg=>(hrow g (zA1.2 hg)).1)
      have HF10:Hid (∀ b∈Fo ++ Gq,w.heap.size≤b):=fun b hb=>by
       rcases List.mem_append.1 hb with hb | hb
       ·exact HFo.out b hb
       ·exact HFx.out b hb
      have HO10:=jj hown
      clear hown hgr hat hrow x0 xlt z0 z1 z2 z3 z4 z5 klt
      go_wp2
      go_roundw
      case rel=>exact ⟨i+1,_,hil,by go_num,(by rw [HLS.out];exact HO10.out),HF10.out,HB10.out⟩
      case measure=>(simp [intOf] <;> omega)
     ·have hall:(TS.take i).map p.re=cutVP (P.spl p):=by rw [List.take_of_length_le (Nat.le_of_not_lt hil)];exact HRES.out
      have HFin:Hid (MadeSp (cutVP (P.spl p)) w (.returned (.slice oA ((TS.take i).map p.re).length ocap)) wr):=by
       have ho:=HO.out
       rw [hall] at ho ⊢
       exact ⟨_,Fo,rfl,hB8.trans (HB.out.mono hB8.size),ho.base (fun g hg=>by have:=(ho.row g hg).1;omega),HFo.out⟩
      clear hall
      go_wp2
      go_ret
      exact HFin.out
theorem spec_l3Split:∀ p,SpSP p:=P.indv l3Split_of
set_option maxHeartbeats 6400000 in
theorem spec_SplitOr (xs:List Dt) (t:Ty) (p:P) (hpz:p.size≤1048576) (w:World) (x:Value) (F:List Nat) (cs:List Value) (G:List Nat) (hx:Arr w (DtR w) xs x F) (hf:Under w F) (hp:PR w p cs G) (hg:Under w G) :
  Calls Try.prog 8 #[x,.agg #[t.d,t.i],.agg cs.toArray] w (MadeSps (splitV xs t p) (splitB xs t p) w):=by
 obtain ⟨xA,xcap,rfl,-,-⟩:=hx.form
 obtain ⟨kp,rfl,hka⟩:=(zA4 _ _ _).1 hp
 obtain ⟨pA,pcap,rfl,-,-⟩:=hka.form
 clear hka
 have HX:=jj hx
 have HF:=jj hf
 have HP:=jj hp
 have HG:=jj hg
 clear hx hf hp hg
 go_enter Try.func8,Try.ntmps8
 go_wp2_with fail
 obtain ⟨w2,hw2⟩:∃ X,X=((w.alloc (.cells #[t.d,t.i] 25)).alloc (.cells #[p.op,p.ct,p.n,p.m,p.va,.slice pA p.ks.length pcap] 28)):=⟨_,rfl⟩
 have hB2:Below w w w2:=by rw [hw2];exact ((zy2 _ _).alloc (zz8 _) _).alloc (by simp) _
 have KT2:Hid (Blk w2 w 25 #[t.d,t.i]):=by rw [hw2];exact (Blk.new w _ _).same (Below.heap_alloc _ _ _ (by simp))
 have KP2:Hid (Blk w2 (w.heap.size+1) 28 #[p.op,p.ct,p.n,p.m,p.va,.slice pA p.ks.length pcap]):=by rw [hw2];exact zA8 w _ 28 _
 rw [←hw2]
 clear hw2
 obtain ⟨a0,a1,al⟩:=KT2.out.c2
 obtain ⟨c0,c1,c2,c3,c4,c5,cl⟩:=KP2.out.c6
 go_wp2_with fail
 clear a0 a1 al c0 c1 c2 c3 c4 c5 cl
 refine (spec_PatternValid xs t p hpz w2 _ F _ G (ArrDt.below HX.out hB2 HF.out) (HF.out.mono hB2.size) (HP.out.below hB2 HG.out) (HG.out.mono hB2.size)).mono ?_
 rintro e w3 ⟨rfl,hb3⟩
 have KT3:=jj (KT2.out.same (hb3.block _ KT2.out.lt))
 have KP3:=jj (KP2.out.same (hb3.block _ KP2.out.lt))
 have hB3:=hB2.trans (hb3.mono hB2.size)
 clear hB2 hb3 KT2 KP2
 cases hpv:patternValidB xs t p with
 |false =>
  have hno:splitB xs t p=false:=by unfold splitB;rw [hpv];rfl
  have HNO:=jj hno
  clear hno hpv
  have HFin:Hid (MadeSps (splitV xs t p) (splitB xs t p) w (.returned (.tuple #[.slice (some ⟨w3,0,none⟩) 0 0,.bool false])) (w3.alloc (.cells #[] 28))):=by
   rw [splitV_no HNO.out,HNO.out]
   exact ⟨_,[],rfl,hB3.alloc hB3.size _,⟨_,_,rfl,zz8 _,by simp [maxLen],.inl ⟨rfl,rfl⟩⟩,Free.nil _,Fresh.nil _ _⟩
  go_wp2
  go_ret2
  exact HFin.out
 |true =>
  obtain ⟨hsh,hsz⟩:=valid_shp hpv
  have HSH:=jj hsh
  have HEQ:Hid (splitB xs t p=decide ((P.spl p).length≤400)):=by unfold Hid splitB;rw [hpv];rfl
  clear hsh hpv
  obtain ⟨a0,a1,al⟩:=KT3.out.c2
  obtain ⟨c0,c1,c2,c3,c4,c5,cl⟩:=KP3.out.c6
  go_wp2_with fail
  clear a0 a1 al c0 c1 c2 c3 c4 c5 cl
  refine (spec_l3Split p w3 _ G (HP.out.below hB3 HG.out) (HG.out.mono hB3.size) HSH.out (by omega)).mono ?_
  rintro e w4 ⟨v4,F4,rfl,hb4,ho4,hF4⟩
  have hB4:=hB3.trans (hb4.mono hB3.size)
  have HA4:=jj ho4.arr
  have HU4:=jj ho4.under_ifP
  obtain ⟨A4,cap4,rfl,-,-⟩:=ho4.form
  have hbig:=cutVP_big (P.spl p)
  clear hb4 ho4 hF4 KT3 KP3
  by_cases hc:(P.spl p).length≤400
  ·have e3:decide (((cutVP (P.spl p)).length:Int)>400)=false:=by simp;omega
   have hyes:splitB xs t p=true:=by rw [HEQ.out];exact decide_eq_true hc
   have HE:Hid (splitB xs t p=true):=hyes
   have HV:=jj (splitV_yes hyes)
   have HSM:Hid (∀ q∈cutVP (P.spl p),q.size≤1048576):=fun q hq=>by have:=spl_size p q (List.mem_of_mem_take hq);omega
   have HCS:=jj (cutVP_short (l:=P.spl p) (by omega))
   have hl5:=cutVP_len (P.spl p)
   clear hbig hyes
   generalize hK:(if cutVP (P.spl p)=[] then [] else rowOf (.slice A4 (cutVP (P.spl p)).length cap4) ++ F4)=GG at *
   clear hK
   generalize cutVP (P.spl p)=L at *
   go_wp2_with fail
   refine (spec_l3All L w4 _ _ HA4.out HU4.out HSM.out (by omega)).mono ?_
   rintro e w6 ⟨v6,F6,rfl,hb6,ha6,hfr6,hfs6⟩
   have HFin:Hid (MadeSps (splitV xs t p) (splitB xs t p) w (.returned (.tuple #[v6,.bool true])) w6):=by
    rw [HV.out,HE.out,←HCS.out]
    exact ⟨v6,F6,rfl,hB4.trans (hb6.mono hB4.size),ha6,hfr6,fun b hb=>⟨Nat.le_trans hB4.size (hfs6 b hb).1,(hfs6 b hb).2⟩⟩
   clear hb6 ha6 hfr6 hfs6
   go_wp2
   go_ret2
   exact HFin.out
  ·have e3:decide (((cutVP (P.spl p)).length:Int)>400)=true:=by simp;omega
   have hno:splitB xs t p=false:=by rw [HEQ.out];exact decide_eq_false hc
   have HNO:=jj hno
   clear hbig hc hno
   have HFin:Hid (MadeSps (splitV xs t p) (splitB xs t p) w (.returned (.tuple #[.slice (some ⟨w4,0,none⟩) 0 0,.bool false])) (w4.alloc (.cells #[] 28))):=by
    rw [splitV_no HNO.out,HNO.out]
    exact ⟨_,[],rfl,hB4.alloc hB4.size _,⟨_,_,rfl,zz8 _,by simp [maxLen],.inl ⟨rfl,rfl⟩⟩,Free.nil _,Fresh.nil _ _⟩
   clear HA4 HU4
   generalize cutVP (P.spl p)=L at *
   go_wp2
   go_ret2
   exact HFin.out
theorem flatMap_eq2 {α β:Type} {f g:α→List β}:∀ {l:List α},(∀ a∈l,f a=g a)→l.flatMap f=l.flatMap g
 |[],_=>rfl
 |a :: l,h=>by rw [List.flatMap_cons,List.flatMap_cons,h a (by simp),flatMap_eq2 fun b hb=>h b (by simp [hb])]
theorem shapeB_def (xs:List Dt) (d:Nat) (t:Ty) (p:P):shapeB xs (d+1) t p=(ownB xs t p && (p.ks.length==(typesP xs t p).length && ((typesP xs t p).zip p.ks).all fun x=>shapeB xs d x.1 x.2)):=rfl
theorem linB_def (xs:List Dt) (d:Nat) (t:Ty) (p:P):linB xs (d+1) t p=((((typesP xs t p).zip p.ks).all fun x=>linB xs d x.1 x.2) && (if p.op=5 then (match p.ks with | [k0,k1]=>alikeB (varsN xs d t k0) (varsN xs d t k1) | _=>true) else dupFree (varsN xs (d+1) t p))):=rfl
theorem varsN_def (xs:List Dt) (d:Nat) (t:Ty) (p:P):varsN xs (d+1) t p=(if namedB p=true then [⟨p.va,t⟩] else []) ++ (kidsV xs t p).flatMap fun x=>varsN xs d x.1 x.2:=rfl
theorem shape_more (xs:List Dt):∀ (d:Nat) (t:Ty) (p:P),shapeB xs d t p=true→shapeB xs (d+1) t p=true
 |0,_,_,h=>by cases h
 |d+1,t,p,h=>by
  rw [shapeB_def,Bool.and_eq_true,Bool.and_eq_true,List.all_eq_true] at h ⊢
  exact ⟨h.1,h.2.1,fun x hx=>shape_more xs d _ _ (h.2.2 x hx)⟩
theorem vars_more (xs:List Dt):∀ (d:Nat) (t:Ty) (p:P),shapeB xs d t p=true→varsN xs (d+1) t p=varsN xs d t p
 |0,_,_,h=>by cases h
 |d+1,t,p,h=>by
  rw [shapeB_def,Bool.and_eq_true,Bool.and_eq_true,List.all_eq_true] at h
  rw [varsN_def,varsN_def xs d]
  congr 1
  exact flatMap_eq2 fun x hx=>vars_more xs d _ _ (h.2.2 x (List.mem_of_mem_take hx))
theorem shape_two {xs:List Dt} {d:Nat} {t:Ty} {p:P} {a b:P} (h:shapeB xs (d+1) t p=true) (h5:p.op=5) (hk:p.ks=[a,b]):shapeB xs d t a=true∧shapeB xs d t b=true:=by
 rw [shapeB_def,Bool.and_eq_true,Bool.and_eq_true,zB0 h5,hk] at h
 simpa using h.2.2
theorem lin_more (xs:List Dt):∀ (d:Nat) (t:Ty) (p:P),shapeB xs d t p=true→linB xs d t p=true→linB xs (d+1) t p=true
 |0,_,_,h,_=>by cases h
 |d+1,t,p,h,hl=>by
  have hs:=h
  rw [shapeB_def,Bool.and_eq_true,Bool.and_eq_true,List.all_eq_true] at h
  rw [linB_def,Bool.and_eq_true,List.all_eq_true] at hl ⊢
  refine ⟨fun x hx=>lin_more xs d _ _ (h.2.2 x hx) (hl.1 x hx),?_⟩
  have h2:=hl.2
  by_cases h5:p.op=5
  ·rw [if_pos h5] at h2 ⊢
   have hl2:p.ks.length=2:=by rw [beq_iff_eq.1 h.2.1,zB0 h5];rfl
   obtain ⟨k0,k1,hk⟩:=kids_two hl2
   obtain ⟨s0,s1⟩:=shape_two hs h5 hk
   rw [hk] at h2 ⊢
   simp only at h2 ⊢
   rw [vars_more xs d t k0 s0,vars_more xs d t k1 s1]
   exact h2
  ·rw [if_neg h5] at h2 ⊢
   rw [vars_more xs (d+1) t p hs]
   exact h2
theorem foldP_pair {α:Type}:∀ (ls:List (List α)) (A:List (List α)),ls.foldl pairLP A=A.flatMap fun o=>(ls.foldl pairLP [[]]).map (o ++ ·)
 |[],A=>by
  simp only [List.foldl_nil,List.map_cons,List.append_nil,List.map_nil]
  induction A with
  |nil=>rfl
  |cons a A ih=>rw [List.flatMap_cons,←ih];rfl
 |l :: ls,A=>by
  rw [List.foldl_cons,List.foldl_cons,foldP_pair ls (pairLP A l),foldP_pair ls (pairLP [[]] l)]
  unfold pairLP pairKP
  simp [List.flatMap_assoc,List.map_flatMap,List.flatMap_map,List.map_map,Function.comp_def]
theorem pairAllP_cons {α:Type} (l:List α) (ls:List (List α)):pairAllP (l :: ls)=l.flatMap fun x=>(pairAllP ls).map (x :: ·):=by
 unfold pairAllP
 rw [List.foldl_cons,foldP_pair ls (pairLP [[]] l)]
 unfold pairLP pairKP
 simp [List.flatMap_map]
theorem mem_pairAll {α:Type} {ls:List (List α)} {o:List α} (h:o∈pairAllP ls):EachIn o ls:=by
 have:=mem_pairAllP ls ls.length o (by rw [List.take_length];exact h)
 rwa [List.take_length] at this
theorem eachIn_len {α:Type}:∀ {o:List α} {ls:List (List α)},EachIn o ls→o.length=ls.length
 |[],[],_=>rfl
 |a :: o,l :: ls,h=>by rw [List.length_cons,List.length_cons,eachIn_len h.2]
 |[],_ :: _,h=>h.elim
 |_ :: _,[],h=>h.elim
theorem perm_alike:∀ (a b:List Vt),(a.map Vt.var).Nodup→(∀ x∈a,x∈b)→a.length=b.length→a.Perm b
 |[],b,_,_,h=>by
  have:b=[]:=List.eq_nil_of_length_eq_zero h.symm
  subst this
  exact .nil
 |x :: a,b,hn,hs,hl=>by
  obtain ⟨s,t,rfl⟩:=List.append_of_mem (hs x (by simp))
  rw [List.map_cons,List.nodup_cons] at hn
  refine .trans (.cons x (perm_alike a (s ++ t) hn.2 (fun y hy=>?_) ?_)) List.perm_middle.symm
  ·have h1:=hs y (by simp [hy])
   have h2:y≠x:=fun e=>hn.1 (by rw [←e];exact List.mem_map_of_mem hy)
   simp only [List.mem_append,List.mem_cons] at h1 ⊢
   rcases h1 with h | h | h
   ·exact .inl h
   ·exact absurd h h2
   ·exact .inr h
  ·simp only [List.length_cons,List.length_append] at hl ⊢
   omega
theorem alike_perm {a b:List Vt} (hn:dupFree a=true) (h:alikeB a b=true):a.Perm b:=by
 unfold alikeB at h
 rw [Bool.and_eq_true,List.all_eq_true,beq_iff_eq] at h
 refine perm_alike a b (by unfold dupFree at hn;exact of_decide_eq_true hn) (fun v hv=>?_) h.2
 have h1:=h.1 v hv
 cases hf:b.find? (fun u=>u.var==v.var) with
 |none=>rw [hf] at h1;cases h1
 |some u =>
  rw [hf] at h1
  simp only [Bool.and_eq_true,beq_iff_eq] at h1
  have h2:=List.find?_some hf
  have h3:=List.mem_of_find?_eq_some hf
  rw [beq_iff_eq] at h2
  have:u=v:=by
   obtain ⟨uv,⟨ud,ui⟩⟩:=u
   obtain ⟨vv,⟨vd,vi⟩⟩:=v
   simp only at h1 h2
   rw [h1.1,h1.2,h2]
  rw [←this]
  exact h3
theorem dup_perm {a b:List Vt} (h:a.Perm b) (hd:dupFree b=true):dupFree a=true:=by
 unfold dupFree at *
 have:=(h.map Vt.var).nodup_iff
 rw [decide_eq_true_iff] at *
 exact this.2 hd
structure Part (xs:List Dt) (d:Nat) (t:Ty) (q p:P):Prop where
 shape:shapeB xs d t q=true
 lin:linB xs d t q=true
 vars:(varsN xs d t q).Perm (varsN xs d t p)
 one:P.spl q=[q]
theorem parts_zip {xs:List Dt} {d:Nat} (ih:∀ (t:Ty) (p:P),shapeB xs d t p=true→linB xs d t p=true→∀ q∈P.spl p,Part xs d t q p) :
  ∀ (ts:List Ty) (ks o:List P),EachIn o (ks.map P.spl)→ts.length=ks.length→((ts.zip ks).all fun x=>shapeB xs d x.1 x.2)=true→((ts.zip ks).all fun x=>linB xs d x.1 x.2)=true →
   ((ts.zip o).all fun x=>shapeB xs d x.1 x.2)=true∧((ts.zip o).all fun x=>linB xs d x.1 x.2)=true∧((ts.zip o).flatMap fun x=>varsN xs d x.1 x.2).Perm ((ts.zip ks).flatMap fun x=>varsN xs d x.1 x.2)∧pairAllP (o.map P.spl)=[o]
 |[],[],[],_,_,_,_=>⟨rfl,rfl,.nil,rfl⟩
 |t :: ts,k :: ks,q :: o,he,hl,hs,hn=>by
  simp only [List.zip_cons_cons,List.all_cons,Bool.and_eq_true] at hs hn
  have h1:=ih t k hs.1 hn.1 q he.1
  obtain ⟨h2,h3,h4,h5⟩:=parts_zip ih ts ks o he.2 (by simpa using hl) hs.2 hn.2
  refine ⟨?_,?_,?_,?_⟩
  ·simp only [List.zip_cons_cons,List.all_cons,Bool.and_eq_true]
   exact ⟨h1.shape,h2⟩
  ·simp only [List.zip_cons_cons,List.all_cons,Bool.and_eq_true]
   exact ⟨h1.lin,h3⟩
  ·simp only [List.zip_cons_cons,List.flatMap_cons]
   exact h1.vars.append h4
  ·rw [List.map_cons,pairAllP_cons,h1.one,h5]
   rfl
 |[],_ :: _,_,_,hl,_,_=>by cases hl
 |_ :: _,[],_,_,hl,_,_=>by cases hl
 |_,[],_ :: _,he,_,_,_=>he.elim
 |_,_ :: _,[],he,_,_,_=>he.elim
theorem spl_part (xs:List Dt):∀ (d:Nat) (t:Ty) (p:P),shapeB xs d t p=true→linB xs d t p=true→∀ q∈P.spl p,Part xs d t q p
 |0,_,_,h,_,_,_=>by cases h
 |d+1,t,p,h,hl,q,hq=>by
  have hs:=h
  have hln:=hl
  rw [linB_def,Bool.and_eq_true] at hl
  by_cases h5:p.op=5
  ·obtain ⟨a,b,hk,ha,hb⟩:=shape_or h h5
   have hz:=hl.1
   rw [zB0 h5,hk] at hz
   simp only [List.zip_cons_cons,List.zip_nil_right,List.all_cons,List.all_nil,Bool.and_eq_true,Bool.and_true] at hz
   have h2:=hl.2
   rw [if_pos h5,hk] at h2
   simp only at h2
   have hv:varsN xs (d+1) t p=varsN xs d t a:=by
    rw [varsN_def,show namedB p=false from by unfold namedB;rw [h5];rfl]
    unfold kidsV
    rw [if_pos h5,zB0 h5,hk]
    simp
   rw [spl_or h5,hk] at hq
   simp only [List.flatMap_cons,List.flatMap_nil,List.append_nil,List.mem_append] at hq
   rcases hq with hq | hq
   ·have ih:=spl_part xs d t a ha hz.1 q hq
    exact ⟨shape_more xs d t q ih.shape,lin_more xs d t q ih.shape ih.lin,by rw [hv,vars_more xs d t q ih.shape];exact ih.vars,ih.one⟩
   ·have ih:=spl_part xs d t b hb hz.2 q hq
    exact ⟨shape_more xs d t q ih.shape,lin_more xs d t q ih.shape ih.lin,by rw [hv,vars_more xs d t q ih.shape];exact ih.vars.trans (alike_perm (lin_dup xs d t a ha hz.1) h2).symm,ih.one⟩
  ·rw [shapeB_def,Bool.and_eq_true,Bool.and_eq_true,beq_iff_eq] at h
   have h2:=hl.2
   rw [if_neg h5] at h2
   rw [spl_no h5] at hq
   obtain ⟨o,ho,rfl⟩:=List.mem_map.1 hq
   have he:=mem_pairAll ho
   have hlen:o.length=p.ks.length:=by rw [eachIn_len he,List.length_map]
   obtain ⟨z1,z2,z3,z4⟩:=parts_zip (spl_part xs d) (typesP xs t p) p.ks o he h.2.1.symm h.2.2 hl.1
   have ety:typesP xs t (p.re o)=typesP xs t p:=rfl
   have e5:¬(p.re o).op=5:=h5
   have eks:(p.re o).ks=o:=rfl
   have kv:∀ r:P,¬r.op=5→r.ks.length=(typesP xs t r).length→kidsV xs t r=(typesP xs t r).zip r.ks:=fun r hr hrl=>by
    unfold kidsV
    rw [if_neg hr]
    exact List.take_of_length_le (by simp;omega)
   have hv:(varsN xs (d+1) t (p.re o)).Perm (varsN xs (d+1) t p):=by
    rw [varsN_def,varsN_def xs d t p,kv p h5 h.2.1,kv (p.re o) e5 (by rw [eks,ety,hlen];exact h.2.1),ety,eks]
    exact .append_left _ z3
   refine ⟨?_,?_,hv,?_⟩
   ·rw [shapeB_def,Bool.and_eq_true,Bool.and_eq_true,beq_iff_eq]
    exact ⟨h.1,by rw [eks,ety,hlen];exact h.2.1,z1⟩
   ·rw [linB_def,Bool.and_eq_true]
    refine ⟨z2,?_⟩
    rw [if_neg e5]
    exact dup_perm hv h2
   ·rw [spl_no e5,eks,z4]
    rfl
theorem split_part {xs:List Dt} {t:Ty} {p q:P} (h:patternValidB xs t p=true) (hq:q∈P.spl p):patternValidB xs t q=true∧(varsN xs 10 t q).Perm (varsN xs 10 t p)∧P.spl q=[q]:=by
 unfold patternValidB patOkB at *
 simp only [Bool.and_eq_true,decide_eq_true_iff] at h ⊢
 have h1:=spl_part xs 10 t p h.2.1 h.2.2.2 q hq
 have h2:=spl_size p q hq
 have h3:=h.2.2.1
 exact ⟨⟨h.1,h1.shape,by unfold nodesP at *;omega,h1.lin⟩,h1.vars,h1.one⟩
theorem splitB_valid {xs:List Dt} {t:Ty} {p:P} (h:splitB xs t p=true):patternValidB xs t p=true:=by
 unfold splitB at h
 rw [Bool.and_eq_true] at h
 exact h.1
theorem split_again {xs:List Dt} {t:Ty} {p q:P} (h:splitB xs t p=true) (hq:q∈splitV xs t p):splitB xs t q=true∧splitV xs t q=[q]:=by
 rw [splitV_yes h] at hq
 obtain ⟨h1,-,h3⟩:=split_part (splitB_valid h) hq
 have e:splitB xs t q=true:=by unfold splitB;rw [h1,h3];rfl
 exact ⟨e,by rw [splitV_yes e,h3]⟩
theorem split_some {xs:List Dt} {t:Ty} {p:P} (h:splitB xs t p=true):1≤(splitV xs t p).length:=by
 rw [splitV_yes h]
 have:=splitB_valid h
 unfold patternValidB patOkB at this
 simp only [Bool.and_eq_true,decide_eq_true_iff] at this
 exact spl_pos xs 10 t p this.2.1
theorem split_big {xs:List Dt} {t:Ty} {p q:P} (h:q∈splitV xs t p):q.size≤p.size:=by
 unfold splitV at h
 split at h
 ·exact spl_size p q h
 ·cases h
theorem impl_PatternVars (xs:List Dt) (t:Ty) (p:P) (w:World) (x:Value) (F:List Nat) (cs:List Value) (G:List Nat):Arr w (DtR w) xs x F→Under w F→PR w p cs G→Under w G →
  Calls Try.prog 9 #[x,.agg #[t.d,t.i],.agg cs.toArray] w (MadeArr VtR w (patternVarsL xs t p)):=by
 intro hx hf hv hg
 obtain ⟨kv,rfl,ha⟩:=(zA4 _ _ _).1 hv
 obtain ⟨A,cap,rfl,hc1,hc2⟩:=hx.form
 obtain ⟨A4,cap4,rfl,hc3,hc4⟩:=ha.form
 have HV:=jj hv
 have HX:=jj hx
 have HF:=jj hf
 have HA:=jj ha
 have HG:=jj hg
 clear hx hf ha hg
 clear hv
 go_enter Try.func9,Try.ntmps9
 go_wp2_with fail
 obtain ⟨W2,hW2⟩:∃ W2,W2=((w.alloc (.cells #[t.d,t.i] 25)).alloc (.cells #[p.op,p.ct,p.n,p.m,p.va,.slice A4 p.ks.length cap4] 28)):=⟨_,rfl⟩
 have hB0:Below w w W2:=by rw [hW2];exact ((zy2 _ _).alloc (zz8 _) _).alloc (by simp) _
 have KT:Hid (Blk W2 w 25 #[t.d,t.i]):=by rw [hW2];exact (Blk.new w _ _).same (Below.heap_alloc _ _ _ (by simp))
 have KP:Hid (Blk W2 (w.heap.size+1) 28 #[p.op,p.ct,p.n,p.m,p.va,.slice A4 p.ks.length cap4]):=by rw [hW2];have h:=Blk.new (w.alloc (.cells #[t.d,t.i] 25)) 28 #[p.op,p.ct,p.n,p.m,p.va,.slice A4 p.ks.length cap4];rw [World.size_alloc] at h;exact h
 have hws:w.heap.size+2≤W2.heap.size:=by rw [hW2];simp
 have hws2:W2.heap.size=w.heap.size+1+1:=by rw [hW2];simp
 rw [←hW2]
 clear hW2
 obtain ⟨y0,y1,klt⟩:=KT.out.c2
 obtain ⟨z0,z1,z2,z3,z4,z5,klt2⟩:=KP.out.c6
 refine (impl_TypeValid xs t W2 _ F (ArrDt.below HX.out hB0 HF.out) (HF.out.mono hB0.size)).mono ?_
 rintro e w3 ⟨rfl,hb3⟩
 have hB3:=hB0.trans (hb3.mono hB0.size)
 have KT3:=jj (KT.out.same (hb3.block _ KT.out.lt))
 have KP3:=jj (KP.out.same (hb3.block _ KP.out.lt))
 clear y0 y1 z0 z1 z2 z3 z4 z5 klt klt2
 obtain ⟨y0,y1,klt⟩:=KT3.out.c2
 obtain ⟨z0,z1,z2,z3,z4,z5,klt2⟩:=KP3.out.c6
 clear hb3 KT KP
 cases e1:typeValidB xs t with
 |false =>
  have hf:Hid (patternVarsL xs t p=[]):=by unfold Hid patternVarsL patternValidB;rw [e1];rfl
  have HFin:Hid (MadeArr VtR w (patternVarsL xs t p) (.returned (.slice none 0 0)) w3):=by rw [hf.out];exact ⟨_,[],rfl,hB3,Arr.nil,Free.nil _,Fresh.nil _ _⟩
  clear e1
  go_wp2
  go_ret
  exact HFin.out
 |true =>
  obtain ⟨hw,hto⟩:=typeValid_split e1
  have HW:=jj hw
  have HT:=jj (zB9 hto)
  have HE1:=jj e1
  clear e1 hw hto
  go_wp2_with fail
  refine (impl_patternVars xs HW.out t HT.out p w3 _ F _ G (ArrDt.below HX.out hB3 HF.out) (HF.out.mono hB3.size) (HV.out.below hB3 HG.out) (HG.out.mono hB3.size)).mono ?_
  rintro e w4 ⟨v4,F4,rfl,hb4,hy,hn⟩
  have hB4:=hB3.trans (hb4.mono hB3.size)
  have HFin:Hid (MadeArr VtR w (patternVarsL xs t p) (.returned v4) w4):=by
   unfold Hid patternVarsL patternValidB
   rw [HE1.out,Bool.true_and]
   cases h:patOkB xs t p with
   |false=>rw [hn h];exact ⟨_,[],rfl,hB4,Arr.nil,Free.nil _,Fresh.nil _ _⟩
   |true=>exact ⟨v4,F4,rfl,hB4,(hy h).1,(hy h).2.1,fun b hb=>⟨Nat.le_trans hB3.size ((hy h).2.2 b hb).1,((hy h).2.2 b hb).2⟩⟩
  generalize patOkB xs t p=bb at *
  clear hb4 hy hn
  go_wp2
  go_ret
  exact HFin.out
mutual
def P.same:P→P→Bool
 |⟨op,ct,n,m,va,ks⟩,⟨op',ct',n',m',va',ks'⟩=>(op==op') && (ct==ct') && (n==n') && (m==m') && (va==va') && P.sames ks ks'
def P.sames:List P→List P→Bool
 |[],[]=>true
 |x :: xs,y :: ys=>P.same x y && P.sames xs ys
 |[],_ :: _=>false
 |_ :: _,[]=>false
end
theorem P.sames_iff_of (ks:List P) (h:∀ k∈ks,∀ b,P.same k b=true↔k=b):∀ ks',P.sames ks ks'=true↔ks=ks':=by
 induction ks with
 |nil=>intro ks';cases ks' <;> simp [P.sames]
 |cons x xs ih =>
  intro ks'
  cases ks' with
  |nil=>simp [P.sames]
  |cons y ys =>
   simp only [P.sames,Bool.and_eq_true,List.cons.injEq]
   rw [h x (by simp) y,ih (fun k hk=>h k (by simp [hk])) ys]
theorem P.same_iff:∀ a b:P,P.same a b=true↔a=b:=P.ind fun op ct n m va ks ih b=>by
 obtain ⟨op',ct',n',m',va',ks'⟩:=b
 simp only [P.same,Bool.and_eq_true,P.sames_iff_of ks ih,beq_iff_eq,P.mk.injEq,and_assoc]
theorem P.same_false {a b:P} (h:a≠b):P.same a b=false:=by
 rw [Bool.eq_false_iff]
 exact fun e=>h ((P.same_iff a b).1 e)
def SameSpecP (a:P):Prop:=∀ (b:P) (w:World) (cs ds:List Value) (F G:List Nat),PR w a cs F→PR w b ds G→Under w F→Under w G →
 Calls Try.prog 47 #[.agg cs.toArray,.agg ds.toArray] w fun e w'=>e=.returned (.bool (P.same a b))∧Below w w w'
theorem P.sames_iff (ks ks':List P):P.sames ks ks'=true↔ks=ks':=P.sames_iff_of ks (fun k _=>P.same_iff k) ks'
theorem P.sames_false {ks ks':List P} (h:ks≠ks'):P.sames ks ks'=false:=by
 rw [Bool.eq_false_iff]
 exact fun e=>h ((P.sames_iff ks ks').1 e)
def SameImplP (a:P):Prop:=∀ (b:P) (w:World) (cs ds:List Value) (F G:List Nat),PR w a cs F→PR w b ds G→Under w F→Under w G →
 Calls Try.prog 10 #[.agg cs.toArray,.agg ds.toArray] w fun e w'=>e=.returned (.bool (P.same a b))∧Below w w w'
theorem EqualFunc_ofP (ks:List P) (ih:∀ k∈ks,SameImplP k) (ks':List P) (w:World) (x y:Value) (F G:List Nat) (hx:Arr w (PR w) ks x F) (hy:Arr w (PR w) ks' y G) (hF:Under w F) (hG:Under w G) :
  Calls Try.prog 31 #[x,y,.func (.func 10) #[] #[]] w fun e w'=>e=.returned (.bool (P.sames ks ks'))∧Below w w w':=by
 have HX:=jj hx
 have HY:=jj hy
 obtain ⟨A,cap,rfl,hc1,hc2⟩:=hx.form
 obtain ⟨A',cap',rfl,hc3,hc4⟩:=hy.form
 clear hx hy
 have IH:=jj ih
 clear ih
 have HF:=jj hF
 have HG:=jj hG
 clear hF hG
 by_cases hl:ks.length=ks'.length
 ·have tl:((ks.length:Int) != (ks'.length:Int))=false:=by rw [hl];simp
  have HL:=jj hl
  have hle1:ks.length≤ks'.length:=by omega
  have hle2:ks'.length≤ks.length:=by omega
  clear hl
  go_enter Try.func31,Try.ntmps31
  go_wp2
  go_loopw [17] (fun i wr=>∃ k:Nat,k≤ks.length∧i=.int .i64 k∧Hid (ks.take k=ks'.take k)∧Below w w wr) (fun i _=>ks.length-(intOf i).toNat)
  case atStart=>exact ⟨0,Nat.zero_le _,rfl,rfl,zy2 _ _⟩
  case round =>
   obtain ⟨k,hk,rfl,HT,hB⟩:=hrel
   by_cases hlt:k<ks.length
   ·have hlt':k<ks'.length:=by omega
    obtain ⟨b,off,cs,F1,rfl,hb,hcs,hv,hF1⟩:=HX.out.get PR_len hlt
    obtain ⟨b',off',ds,G1,rfl,hb',hds,hv',hG1⟩:=HY.out.get PR_len hlt'
    have hv1:=hv.below hB (HF.out.sub hF1)
    have hv2:=hv'.below hB (HG.out.sub hG1)
    have hbl:=zz9 (HF.out b hb) hB.size
    have hbl':=zz9 (HG.out b' hb') hB.size
    have hcs1:=hcs.same (hB.block b (HF.out b hb))
    have hds1:=hds.same (hB.block b' (HG.out b' hb'))
    obtain ⟨kv,rfl,hka⟩:=(zA4 _ _ _).1 hv
    obtain ⟨kv',rfl,hka'⟩:=(zA4 _ _ _).1 hv'
    obtain ⟨A1,cap1,rfl,-,-⟩:=hka.form
    obtain ⟨A2,cap2,rfl,-,-⟩:=hka'.form
    have c0:=hcs1 0 _ rfl
    have c1:=hcs1 1 _ rfl
    have c2:=hcs1 2 _ rfl
    have c3:=hcs1 3 _ rfl
    have c4:=hcs1 4 _ rfl
    have c5:=hcs1 5 _ rfl
    have d0:=hds1 0 _ rfl
    have d1:=hds1 1 _ rfl
    have d2:=hds1 2 _ rfl
    have d3:=hds1 3 _ rfl
    have d4:=hds1 4 _ rfl
    have d5:=hds1 5 _ rfl
    simp only [Nat.add_zero] at c0 d0
    clear hcs hcs1 hv hds hds1 hv' hka hka'
    have HV:=jj hv1
    have HV2:=jj hv2
    have HF1:=jj (HF.out.sub hF1)
    have HG1:=jj (HG.out.sub hG1)
    clear hv1 hv2 hF1 hG1
    go_wp2_with fail
    obtain ⟨W2,hW2⟩:∃ W2,W2=(wr.alloc (.cells #[ks[k].op,ks[k].ct,ks[k].n,ks[k].m,ks[k].va,.slice A1 ks[k].ks.length cap1] 28)).alloc (.cells #[ks'[k].op,ks'[k].ct,ks'[k].n,ks'[k].m,ks'[k].va,.slice A2 ks'[k].ks.length cap2] 28):=⟨_,rfl⟩
    have hb2:Below wr wr W2:=by rw [hW2];exact ((zy2 _ _).alloc (zz8 _) _).alloc (by simp) _
    rw [←hW2]
    clear hW2
    have hB2:=hB.trans (hb2.mono hB.size)
    refine (IH.out _ (List.getElem_mem hlt) ks'[k] W2 _ _ F1 G1 (HV.out.below hb2 (HF1.out.mono hB.size)) (HV2.out.below hb2 (HG1.out.mono hB.size)) (HF1.out.mono hB2.size) (HG1.out.mono hB2.size)).mono ?_
    rintro e w' ⟨rfl,hB'⟩
    have hB3:=hB2.trans (hB'.mono hB2.size)
    by_cases he:ks[k]=ks'[k]
    ·rw [(P.same_iff _ _).2 he]
     have hT2:Hid (ks.take (k+1)=ks'.take (k+1)):=by rw [take_snoc' ks k hlt,take_snoc' ks' k hlt',HT.out,he];rfl
     clear he
     go_wp2
     go_roundw
     case rel=>exact ⟨k+1,by omega,by go_num,hT2,hB3⟩
     case measure=>simp [intOf];omega
    ·rw [P.same_false he]
     have hf:=jj (P.sames_false (ks:=ks) (ks':=ks') (fun h=>he (by simp only [h])))
     clear he
     go_wp2
     go_ret
     exact ⟨zA0 hf.out.symm,hB3⟩
   ·have hT:=HT.out
    rw [List.take_of_length_le (by omega),List.take_of_length_le (by omega)] at hT
    have hf:=jj ((P.sames_iff ks ks').2 hT)
    clear hT
    go_wp2
    go_ret
    exact ⟨zA0 hf.out.symm,hB⟩
 ·have tl:((ks.length:Int) != (ks'.length:Int))=true:=by rw [bne_iff_ne];omega
  have hf:=jj (P.sames_false (ks:=ks) (ks':=ks') (fun h=>hl (by rw [h])))
  clear hl
  go_enter Try.func31,Try.ntmps31
  go_wp2
  go_ret
  exact ⟨zA0 hf.out.symm,zy2 _ _⟩
theorem impl_PatternSame_all:∀ a,SameImplP a:=P.ind fun op ct n m va ks ih b w cs ds F G hv hv' hF hG=>by
 obtain ⟨op',ct',n',m',va',ks'⟩:=b
 obtain ⟨kv,rfl,hk⟩:=(zA4 _ _ _).1 hv
 obtain ⟨kv',rfl,hk'⟩:=(zA4 _ _ _).1 hv'
 have IH:=jj ih
 clear ih hv hv'
 have HK:=jj hk
 have HK':=jj hk'
 obtain ⟨A,cap,rfl,hc1,hc2⟩:=hk.form
 obtain ⟨A',cap',rfl,hc3,hc4⟩:=hk'.form
 clear hk hk'
 have HF:=jj hF
 have HG:=jj hG
 clear hF hG
 by_cases e0:op=op'
 ·subst e0
  have t0:(op != op)=false:=by simp
  have s0:(op==op)=true:=by simp
  by_cases e1:ct=ct'
  ·subst e1
   have t1:(ct != ct)=false:=by simp
   have s1:(ct==ct)=true:=by simp
   by_cases e2:n=n'
   ·subst e2
    have t2:(n != n)=false:=by simp
    have s2:(n==n)=true:=by simp
    by_cases e3:m=m'
    ·subst e3
     have t3:(m != m)=false:=by simp
     have s3:(m==m)=true:=by simp
     by_cases e4:va=va'
     ·subst e4
      have t4:(va != va)=false:=by simp
      have s4:(va==va)=true:=by simp
      go_enter Try.func10,Try.ntmps10
      go_wp2_with fail
      obtain ⟨W2,hW2⟩:∃ W2,W2=(w.alloc (.cells #[.int .i64 op,.int .i64 ct,.int .i64 n,.int .i64 m,.int .i64 va,.slice A ks.length cap] 28)).alloc (.cells #[.int .i64 op,.int .i64 ct,.int .i64 n,.int .i64 m,.int .i64 va,.slice A' ks'.length cap'] 28):=⟨_,rfl⟩
      have hB2:Below w w W2:=by rw [hW2];exact ((zy2 _ _).alloc (zz8 _) _).alloc (by simp) _
      rw [←hW2]
      clear hW2
      refine (EqualFunc_ofP ks IH.out ks' W2 _ _ F G (ArrP.below HK.out hB2 HF.out) (ArrP.below HK'.out hB2 HG.out) (HF.out.mono hB2.size) (HG.out.mono hB2.size)).mono ?_
      rintro e w' ⟨rfl,hB'⟩
      have hB3:=hB2.trans (hB'.mono hB2.size)
      have hf:Hid (P.sames ks ks'=P.same ⟨op,ct,n,m,va,ks⟩ ⟨op,ct,n,m,va,ks'⟩):=by simp [Hid,P.same]
      generalize P.sames ks ks'=bb at *
      go_wp2
      go_ret
      exact ⟨zA0 hf.out,hB3⟩
     ·have t4:(va != va')=true:=by simpa using e4
      have s4:(va==va')=false:=by simpa using e4
      have hf:=jj (P.same_false (a:=⟨op,ct,n,m,va,ks⟩) (b:=⟨op,ct,n,m,va',ks'⟩) (fun h=>e4 (by injection h)))
      clear e4
      go_enter Try.func10,Try.ntmps10
      go_wp2
      go_ret
      exact ⟨zA0 hf.out.symm,((zy2 _ _).alloc (zz8 _) _).alloc (by simp) _⟩
    ·have t3:(m != m')=true:=by simpa using e3
     have s3:(m==m')=false:=by simpa using e3
     have hf:=jj (P.same_false (a:=⟨op,ct,n,m,va,ks⟩) (b:=⟨op,ct,n,m',va',ks'⟩) (fun h=>e3 (by injection h)))
     clear e3
     go_enter Try.func10,Try.ntmps10
     go_wp2
     go_ret
     exact ⟨zA0 hf.out.symm,((zy2 _ _).alloc (zz8 _) _).alloc (by simp) _⟩
   ·have t2:(n != n')=true:=by simpa using e2
    have s2:(n==n')=false:=by simpa using e2
    have hf:=jj (P.same_false (a:=⟨op,ct,n,m,va,ks⟩) (b:=⟨op,ct,n',m',va',ks'⟩) (fun h=>e2 (by injection h)))
    clear e2
    go_enter Try.func10,Try.ntmps10
    go_wp2
    go_ret
    exact ⟨zA0 hf.out.symm,((zy2 _ _).alloc (zz8 _) _).alloc (by simp) _⟩
  ·have t1:(ct != ct')=true:=by simpa using e1
   have s1:(ct==ct')=false:=by simpa using e1
   have hf:=jj (P.same_false (a:=⟨op,ct,n,m,va,ks⟩) (b:=⟨op,ct',n',m',va',ks'⟩) (fun h=>e1 (by injection h)))
   clear e1
   go_enter Try.func10,Try.ntmps10
   go_wp2
   go_ret
   exact ⟨zA0 hf.out.symm,((zy2 _ _).alloc (zz8 _) _).alloc (by simp) _⟩
 ·have t0:(op != op')=true:=by simpa using e0
  have s0:(op==op')=false:=by simpa using e0
  have hf:=jj (P.same_false (a:=⟨op,ct,n,m,va,ks⟩) (b:=⟨op',ct',n',m',va',ks'⟩) (fun h=>e0 (by injection h)))
  clear e0
  go_enter Try.func10,Try.ntmps10
  go_wp2
  go_ret
  exact ⟨zA0 hf.out.symm,((zy2 _ _).alloc (zz8 _) _).alloc (by simp) _⟩
theorem impl_PatternSame (a b:P) (w:World) (cs ds:List Value) (F G:List Nat) (hx:PR w a cs F) (hy:PR w b ds G) (hF:Under w F) (hG:Under w G) :
  Calls Try.prog 10 #[.agg cs.toArray,.agg ds.toArray] w fun e w'=>e=.returned (.bool (P.same a b))∧Below w w w':=impl_PatternSame_all a b w cs ds F G hx hy hF hG
end Go.Proofs.Ytjjclcmmfeegfaa
namespace Go.Proofs.Ytjjclcmmfeegfaa
open Go.ChangeShapes Go.WideShapes Go.ChangeAt Go.RowKit
section
variable {H : Type} {enc : TypeId × Value → H} {P : Program} {w : World} {base : Nat} {spare : Nat → Bool} {held : Bool}
theorem cell_lt {w:World} {a:Addr} {v:Value} (h:w.cell? a=some v):a.block<w.heap.size:=by
 rcases Nat.lt_or_ge a.block w.heap.size with hl | hl
 ·exact hl
 ·unfold World.cell? at h
  rw [Array.getElem?_eq_none hl] at h
  cases h
theorem open_Arr {α:Type} (R:α→List Value→List Nat→Prop) {t e:TypeId} {k n fuel:Nat} {cs:List Value} {x:DataW H×List MemPlace} (ht:P.underlying t=some (.slice e)) (hk:P.cellsOf e=k) (hk0:0<k) (hf:fuel=n+1)
  (hR:∀ ds y,DataW.trod enc P w base spare held n e ds=some y→ds.length=k→∃ a F,R a ds F∧Under w F)
  (h:DataW.trod enc P w base spare held fuel t cs=some x):∃ xs v F,cs=[v]∧Arr w R xs v F∧Under w F:=by
 subst hf
 rcases DataW.trod_slice ht h with ⟨rfl,-⟩ | ⟨a,len,cap,elems,rest,m,hm,rfl,-,-,hl,hmax,hlen,hel,-,-⟩
 ·exact ⟨[],_,[],rfl,Arr.nil,Under.nil _⟩
 ·obtain rfl:n=m:=by omega
  by_cases h0:len=0
  ·subst h0
   exact ⟨[],_,[],rfl,⟨_,_,rfl,hl,hmax,.inl ⟨rfl,rfl⟩⟩,Under.nil _⟩
  ·have get:∀ i,i<len→∃ ds y,(∀ j,j<k→w.cell? (a.add (i*k+j))=ds[j]?)∧ds.length=k∧DataW.trod enc P w base spare held n e ds=some y:=fun i hi=>by
    have h1:=hel i hi
    rw [List.getElem?_eq_getElem (by omega),Option.bind_eq_some_iff] at h1
    obtain ⟨ds,h2,h3⟩:=h1
    obtain ⟨-,h4,h5⟩:=World.cells?_some h2
    rw [hk] at h4 h5
    refine ⟨ds,_,fun j hj=>?_,h4,h3⟩
    rw [←h5 j hj]
    congr 1
    unfold Addr.add
    by_cases e1:i*k=0 <;> by_cases e2:j=0 <;> simp [e1,e2,Nat.add_assoc]
   obtain ⟨b,off,spot⟩:=a
   obtain ⟨ds0,y0,g1,g2,-⟩:=get 0 (by omega)
   have hc0:w.cell? ⟨b,off,spot⟩=some (ds0[0]'(by omega)):=by
    have:=g1 0 hk0
    simpa [Addr.add,List.getElem?_eq_getElem (show 0<ds0.length by omega)] using this
   have hspot:spot=none:=by simpa using World.cell?_spot hc0
   subst hspot
   have hb:b<w.heap.size:=cell_lt hc0
   have key:∀ m,m≤len→∃ (xs:List α) (cs:List Value) (F:List Nat),xs.length=m∧cs.length=m*k∧CellsAt w b off cs∧Flat R xs cs F∧Under w F:=by
    intro m
    induction m with
    |zero=>intro _;exact ⟨[],[],[],rfl,by simp,fun j u hj=>by simp at hj,⟨rfl,rfl⟩,Under.nil _⟩
    |succ m ih =>
     intro hm
     obtain ⟨xs,cs,F,h1,h2,h3,h4,h5⟩:=ih (by omega)
     obtain ⟨ds,y,g1,g2,g3⟩:=get m (by omega)
     obtain ⟨z,G,r1,r2⟩:=hR ds y g3 g2
     refine ⟨xs ++ [z],cs ++ ds,F ++ G,by simp [h1],by simp [h2,g2,Nat.add_mul],h3.append (fun j u hj=>?_),h4.append (Flat.one r1),fun c hc=>?_⟩
     ·have hjk:j<k:=by rw [←g2];exact (List.getElem?_eq_some_iff.1 hj).1
      have:=g1 j hjk
      rw [hj,Addr.add_lit] at this
      rw [h2,←this]
      congr 2
      omega
     ·rcases List.mem_append.1 hc with hc | hc
      ·exact h5 c hc
      ·exact r2 c hc
   obtain ⟨xs,cs,F,h1,h2,h3,h4,h5⟩:=key len (zz8 _)
   refine ⟨xs,_,b :: F,rfl,⟨_,_,by rw [h1],by omega,hmax,.inr ⟨b,off,cs,F,rfl,h3,h4,rfl⟩⟩,fun c hc=>?_⟩
   rcases List.mem_cons.1 hc with rfl | hc
   ·exact hb
   ·exact h5 c hc
theorem open_slice_arg {α:Type} (R:α→List Value→List Nat→Prop) {t e:TypeId} {k:Nat} {r:Reach} {b0:Nat} {v:Value} {d:DataW H} {ps:List MemPlace} (ht:P.underlying t=some (.slice e)) (hk:P.cellsOf e=k) (hk0:0<k)
  (hR:∀ n ds y,DataW.trod enc P w base spare held n e ds=some y→∃ a F,R a ds F∧Under w F)
  (hval:Value.okWide P w r b0 t v) (h:DataW.Trod enc P w base spare held t v d ps):∃ xs F,Arr w R xs v F∧Under w F:=by
 obtain ⟨a,len,cap,rfl⟩:=okWide_slice ht hval
 obtain ⟨fuel,hf⟩:=h
 cases fuel with
 |zero=>simp [DataW.trod] at hf
 |succ n =>
  obtain ⟨xs,v,F,hv,ha,hF⟩:=open_Arr R ht hk hk0 rfl (fun ds y hd _=>hR n ds y hd) hf
  have:v=.slice a len cap:=by simpa [Value.cells] using hv.symm
  subst this
  exact ⟨xs,F,ha,hF⟩
end
end Go.Proofs.Ytjjclcmmfeegfaa
namespace Go.Proofs.Ytjjclcmmfeegfaa
open Go.ChangeShapes Go.WideShapes Go.ChangeAt Go.RowKit
set_option maxRecDepth 100000
theorem cellsOf_u8:Try.prog.cellsOf 5=1:=by kernel_rfl
theorem open_By_cells {H:Type} {enc:TypeId×Value→H} {w:World} {base:Nat} {spare:Nat→Bool} {held:Bool} (fuel:Nat) (cs:List Value) (x:DataW H×List MemPlace)
  (h:DataW.trod enc Try.prog w base spare held fuel 5 cs=some x):∃ v F,ByR w v cs F∧Under w F:=by
 cases fuel with
 |zero=>simp [DataW.trod] at h
 |succ n =>
 obtain ⟨i0,e0,-,e2⟩:=DataW.trod_int Try.underlying5 h
 have hw:IntKind.u8.min≤i0∧i0≤IntKind.u8.max:=by simpa [Lit.wf] using e2
 have h0:IntKind.u8.min=0:=rfl
 have h1:IntKind.u8.max=255:=rfl
 exact ⟨i0,[],⟨e0,rfl,by omega,by omega⟩,Under.nil _⟩
theorem open_Bytes {H:Type} {enc:TypeId×Value→H} {w:World} {base:Nat} {spare:Nat→Bool} {held:Bool} {r:Reach} {b0:Nat} {v:Value} {d:DataW H} {ps:List MemPlace} (hval:Value.okWide Try.prog w r b0 22 v)
  (h:DataW.Trod enc Try.prog w base spare held 22 v d ps):∃ (x:List Int) (F:List Nat),Arr w (ByR w) x v F∧Under w F :=
 open_slice_arg (ByR w) Try.underlying22 cellsOf_u8 (by decide) (fun n ds y hd=>open_By_cells n ds y hd) hval h
end Go.Proofs.Ytjjclcmmfeegfaa
