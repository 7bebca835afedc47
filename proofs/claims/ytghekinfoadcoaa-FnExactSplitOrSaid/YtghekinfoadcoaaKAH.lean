/-
  Lemmas and contracts of functions: l3Tuples of the reference. Conditions: at most three lists, each of at most 401 patterns. The patterns that the choices give, as the reference lists them: l3Split. Conditions: the pattern is of the right shape and small. SplitOr of the reference. Conditions: the pattern is not too great. A byte as a text; texts behind one another. Conditions: none. markText: a text for a number. Conditions: the number is between 0 and 1099511627776. markPatternS: every part is written anew. Conditions: the parts are no more than 1099511627776. Sizes of trees. Conditions: none. How many marks the result of SplitOr takes. Conditions: none. markTypeS: every part is written anew. Conditions: the parts are no more than 1099511627776. markCtorS: every part is written anew. Conditions: the parts are no more than 1099511627776. markDataS: every part is written anew. Conditions: the parts are no more than 1099511627776. heldPatternS: what mark wrote is there. Conditions: the parts are no more than 1099511627776.
-/
import Derived.Test.YtghekinfoadcoaaKAG
import Derived.Test.YtghekinfoadcoaaKAC
import Derived.Test.YtghekinfoadcoaaKAD
import Derived.Test.YtghekinfoadcoaaKAE
import Derived.Test.YtghekinfoadcoaaKAA
import Derived.Test.YtghekinfoadcoaaChecked
import Derived.Laws.BytesArg
import Derived.Deep.RegionWith

set_option linter.unusedVariables false
set_option linter.unusedSimpArgs false
set_option maxRecDepth 100000
set_option maxHeartbeats 1600000

namespace Go.Proofs.Ytghekinfoadcoaa
open Go.RowKit
set_option maxHeartbeats 6400000 in
theorem spec_l3Tuples (ls:List (List P)) (h3:ls.length≤900) (h4:∀ l∈ls,l.length≤401) (w:World) (x:Value) (F:List Nat) (hx:Arr w (LpR w) ls x F) (hf:Under w.heap.size F) :
  Calls Try.prog 35 #[x] w (ListsPP (cutVP (pairAllP ls)) F w):=by
 obtain ⟨lsA,lscap,rfl,hc1,hc2⟩:=hx.form
 obtain ⟨i0,hi,hz0,hz1,hz2⟩:=info_parts info_PE
 obtain ⟨j0,hj,hy0,hy1,hy2⟩:=info_parts info_PSE
 have H4:=jj h4
 have HI:=jj hi
 have HZ0:=jj hz0
 have HZ1:=jj hz1
 have HZ2:=jj hz2
 have HJ:=jj hj
 have HY0:=jj hy0
 have HY1:=jj hy1
 have HY2:=jj hy2
 have HX:=jj hx
 have HF:=jj hf
 clear hi hz0 hz1 hz2 hj hy0 hy1 hy2 hx hf
 clear h4
 go_enter Try.func35,Try.ntmps35
 go_wp2_with fail
 obtain ⟨W2,hW2⟩:∃ W2,W2=((w.alloc (.cells #[] 38)).alloc (.cells #[.slice (some ⟨w.heap.size,0,none⟩) 0 0] 30)):=⟨_,rfl⟩
 have hB0:Below w.heap.size w W2:=by rw [hW2];exact ((zy2 _ _).alloc (zz8 _) _).alloc (by simp) _
 have K1:Blk W2 (w.heap.size+1) 30 #[.slice (some ⟨w.heap.size,0,none⟩) 0 0]:=by rw [hW2];exact blk_second w _ _ _
 have HO0:Hid (Arr W2 (LpR W2) (pairToP ls 0) (.slice (some ⟨w.heap.size+1,0,none⟩) 1 1) [w.heap.size+1]):=by
  rw [pairToP_zero]
  exact ⟨_,_,rfl,zz8 _,by simp [maxLen],.inr ⟨_,0,[.slice (some ⟨w.heap.size,0,none⟩) 0 0],[],rfl,(fun j u hj=>by rw [Nat.zero_add,K1.cell];simpa using hj),Flat.one ⟨_,rfl,_,_,rfl,zz8 _,by simp [maxLen],.inl ⟨rfl,rfl⟩⟩,rfl⟩⟩
 have HU0:Hid (Under W2.heap.size [w.heap.size+1]):=fun b hb=>by rw [zy1] at hb;subst hb;exact K1.lt
 rw [←hW2]
 clear hW2 K1
 go_wp2
 go_loopw [3,4] (fun ov iv wr=>∃ i:Nat,∃ Fo:List Nat,i≤ls.length∧iv=.int .i64 i∧Hid (Arr wr (LpR wr) (pairToP ls i) ov Fo)∧Hid (Under wr.heap.size Fo)∧Hid (∀ b∈Fo,b∈F∨w.heap.size≤b)∧Hid (Below W2.heap.size W2 wr)) (fun _ iv _=>ls.length-(intOf iv).toNat)
 case atStart=>exact ⟨0,_,Nat.zero_le _,rfl,HO0.out,HU0.out,(fun b hb=>by rw [zy1] at hb;exact .inr (by omega)),zy2 _ _⟩
 case round =>
  clear HO0 HU0
  obtain ⟨i,Fo,hi,rfl,HO,HOU,HOP,HBI⟩:=hrel
  obtain ⟨oA,ocap,hov,-,-⟩:=HO.out.form
  subst hov
  have hpt:=pairToP_len ls i
  obtain ⟨wo,hwo⟩:∃ wo,wo=wr:=⟨_,rfl⟩
  rw [←hwo] at HO HOU HBI ⊢
  clear hwo
  have hBwo:=hB0.trans (HBI.out.mono hB0.size)
  by_cases hil:i<ls.length
  ·have q1:(0:Int)≤(i:Int):=by omega
   have q2:(i:Int)<(ls.length:Int):=by omega
   obtain ⟨bl,offl,rfl⟩:=HX.out.ptr (by omega)
   have HPS:=jj (pairToP_succ ls i hil)
   have hl4:=H4.out ls[i] (List.getElem_mem hil)
   obtain ⟨lA,lcap,Gl,hblw,hlc,hla,hlu,hls⟩:=ArrLp.of HX.out HF.out i hil
   have HLC:=jj hlc
   have HLA:=jj hla
   have HLU:=jj hlu
   have HLS:=jj hls
   clear hlc hla hlu hls
   obtain ⟨l,hl⟩:∃ u,u=ls[i]:=⟨_,rfl⟩
   rw [←hl] at HPS hl4 HLA HLC
   have HALL:Hid (∀ o∈pairToP ls i,o.length≤i):=fun o ho=>pairToP_each ls i o ho
   generalize hAs:pairToP ls i=As at *
   have HB0:=jj hB0
   clear hAs hl
   go_wp2_with fail
   have HM0:Hid (Own (wo.alloc (.cells #[] 30)) wo.heap.size 30 1 LpR (nextLP As l 0) (.slice (some ⟨wo.heap.size,0,none⟩) 0 0) []):=(show Own _ _ _ _ _ (nextLP As l 0) _ _ from Own.made wo _ _ _ _ _ 0 (zz8 _) (by simp [maxLen]) rfl)
   have hB05:Below wo.heap.size wo (wo.alloc (.cells #[] 30)):=(zy2 _ _).alloc (zz8 _) _
   generalize wo.alloc (.cells #[] 30)=w5 at *
   go_loopw [5,6] (fun nv kv wr=>∃ k:Nat,∃ Fn:List Nat,k≤As.length∧kv=.int .i64 k∧Hid (Own wr wo.heap.size 30 1 LpR (nextLP As l k) nv Fn)∧Hid (∀ b∈Fn,b∈F∨w.heap.size≤b)∧Below wo.heap.size wo wr) (fun _ kv _=>As.length-(intOf kv).toNat)
   case atStart=>exact ⟨0,[],Nat.zero_le _,rfl,HM0.out,(fun b hb=>by cases hb),hB05⟩
   case round =>
    clear HM0 hB05
    obtain ⟨k,Fn,hk,rfl,HM,HFN,hBo⟩:=hrel
    obtain ⟨mA,mcap,hmv,-,-⟩:=HM.out.form
    subst hmv
    have hnl:=nextLP_len As l k
    have HEND:=jj (fun h=>nextLP_end (A:=As) (l:=l) (k:=k) h)
    by_cases hk2:k<As.length∧(nextLP As l k).length≤400
    ·obtain ⟨hkl,hn4⟩:=hk2
     have t1:decide ((k:Int)<(As.length:Int))=true:=by simp;omega
     have t2:decide (((nextLP As l k).length:Int)≤400)=true:=by simp;omega
     have q3:(0:Int)≤(k:Int):=by omega
     have q4:(k:Int)<(As.length:Int):=by omega
     obtain ⟨b5,off5,rfl⟩:=HO.out.ptr (by omega)
     obtain ⟨pA,pcap,Gp,lo5,hpc,hpa,hpu,hps⟩:=ArrLp.of HO.out HOU.out k hkl
     have hpl:As[k].length≤pcap:=by obtain ⟨_,_,e,h1,-⟩:=hpa;cases e;exact h1
     have hnr:=fun j h=>nextRP_end (A:=As) (l:=l) (k:=k) (j:=j) hkl h
     obtain ⟨o,ho⟩:∃ u,u=As[k]:=⟨_,rfl⟩
     rw [←ho] at hpc hpa hpl hnr
     have HPC:=jj hpc
     have HPA0:=jj hpa
     have HPU:=jj hpu
     have HPSB:=jj hps
     have HNR:=jj hnr
     have HO3:Hid (o.length≤900):=by
      have:=HALL.out o (by rw [ho];exact List.getElem_mem hkl)
      unfold Hid;omega
     have HM0:Hid (Own wr wo.heap.size 30 1 LpR (nextRP (preLP As l k) o l 0) (.slice mA (nextLP As l k).length mcap) Fn):=by
      rw [nextRP_zero];exact HM.out
     clear hpc hpa hpu hnr ho hps
     generalize hpre:preLP As l k=pre at *
     clear hpre
     go_wp2
     go_loopw [5,7] (fun nv jv wr=>∃ j:Nat,∃ Fn:List Nat,j≤l.length∧jv=.int .i64 j∧Hid (Own wr wo.heap.size 30 1 LpR (nextRP pre o l j) nv Fn)∧Hid (∀ b∈Fn,b∈F∨w.heap.size≤b)∧Below wo.heap.size wo wr) (fun _ jv _=>l.length-(intOf jv).toNat)
     case atStart=>exact ⟨0,Fn,Nat.zero_le _,rfl,HM0.out,HFN.out,hBo⟩
     case round =>
      clear HM0 HM HFN hBo
      obtain ⟨j,Fm,hj,rfl,HM,HFN,hBo⟩:=hrel
      obtain ⟨mA,mcap,hmv,-,-⟩:=HM.out.form
      subst hmv
      have hrl:=nextRP_len pre o l j
      have hBr:Below w.heap.size w wr:=hBwo.trans (hBo.mono hBwo.size)
      have cl:wr.cell? ⟨bl,offl+i,none⟩=some (.slice lA l.length lcap):=HLC.out wr hBr
      have ltl:bl<wr.heap.size:=zz9 hblw hBr.size
      by_cases hj2:j<l.length∧(nextRP pre o l j).length≤400
      ·obtain ⟨hjl,hr4⟩:=hj2
       have t3:decide ((j:Int)<(l.length:Int))=true:=by simp;omega
       have t4:decide (((nextRP pre o l j).length:Int)≤400)=true:=by simp;omega
       have q5:(0:Int)≤(j:Int):=by omega
       have q6:(j:Int)<(l.length:Int):=by omega
       obtain ⟨b9,off9,rfl⟩:=HLA.out.ptr (by omega)
       obtain ⟨nA,ncap,Gk,lt9,n0,n1,n2,n3,n4,n5,HVk,HKu,hks,-,-⟩:=ArrP.at HLA.out HLU.out hBr j hjl
       have HKS:=jj hks
       clear hks
       have HMS:=jj (nextRP_succ (pre:=pre) (o:=o) hjl hr4)
       have c5:wr.cell? ⟨b5,off5+k,none⟩=some (.slice pA o.length pcap):=HPC.out wr hBo
       have lt5:b5<wr.heap.size:=zz9 lo5 hBo.size
       have lol:bl<wo.heap.size:=zz9 hblw hBwo.size
       have lo9:b9<wo.heap.size:=by
        obtain ⟨_,_,_,_,e,hb,-⟩:=HLA.out.get PR_len hjl
        cases e;exact zz9 (HLU.out _ hb) hBwo.size
       have hmx:(nextRP pre o l j).length+1≤maxLen:=by unfold maxLen;omega
       have hby:((nextRP pre o l j).length+1)*24≤140737488355328:=by omega
       obtain ⟨kq,hkq⟩:∃ u,u=l[j]:=⟨_,rfl⟩
       rw [←hkq] at n0 n1 n2 n3 n4 n5 HVk HMS
       have HPA:Hid (∀ C,Below wr.heap.size wr C→Arr C (PR C) o (.slice pA o.length pcap) Gp):=fun C hC=>ArrP.below HPA0.out (hBo.trans (hC.mono hBo.size)) HPU.out
       have HVk2:Hid (∀ C,Below wr.heap.size wr C→PR C kq [.int .i64 kq.op,.int .i64 kq.ct,.int .i64 kq.n,.int .i64 kq.m,.int .i64 kq.va,.slice nA kq.ks.length ncap] Gk):=fun C hC=>HVk.out.below (hBr.trans (hC.mono hBr.size)) HKu.out
       have ho3:=HO3.out
       clear hkq HVk
       go_wp2_with fail
       have HS:Hid (∀ C:World,Below wr.heap.size wr C→(C.cell? ⟨b5,off5+k,none⟩=some (.slice pA o.length pcap)∧C.cell? ⟨bl,offl+i,none⟩=some (.slice (some ⟨b9,off9,none⟩) l.length lcap)∧C.cell? ⟨b9,off9+j*6,none⟩=some (.int .i64 kq.op)∧C.cell? ⟨b9,off9+j*6+1,none⟩=some (.int .i64 kq.ct)∧C.cell? ⟨b9,off9+j*6+2,none⟩=some (.int .i64 kq.n)∧C.cell? ⟨b9,off9+j*6+3,none⟩=some (.int .i64 kq.m)∧C.cell? ⟨b9,off9+j*6+4,none⟩=some (.int .i64 kq.va)∧C.cell? ⟨b9,off9+j*6+5,none⟩=some (.slice nA kq.ks.length ncap))):=fun C hb=>⟨(hb.cell (lt5)).trans c5,(hb.cell (ltl)).trans cl,(hb.cell (lt9)).trans n0,(hb.cell (lt9)).trans n1,(hb.cell (lt9)).trans n2,(hb.cell (lt9)).trans n3,(hb.cell (lt9)).trans n4,(hb.cell (lt9)).trans n5⟩
       have hC0:Below wr.heap.size wr wr.drew:=(zy2 _ _).drew
       refine zAG (S:=fun w'=>w'.cell? ⟨b5,off5+k,none⟩=some (.slice pA o.length pcap)∧w'.cell? ⟨bl,offl+i,none⟩=some (.slice (some ⟨b9,off9,none⟩) l.length lcap)∧w'.cell? ⟨b9,off9+j*6,none⟩=some (.int .i64 kq.op)∧w'.cell? ⟨b9,off9+j*6+1,none⟩=some (.int .i64 kq.ct)∧w'.cell? ⟨b9,off9+j*6+2,none⟩=some (.int .i64 kq.n)∧w'.cell? ⟨b9,off9+j*6+3,none⟩=some (.int .i64 kq.m)∧w'.cell? ⟨b9,off9+j*6+4,none⟩=some (.int .i64 kq.va)∧w'.cell? ⟨b9,off9+j*6+5,none⟩=some (.slice nA kq.ks.length ncap)) (T:=fun _=>True) (d:=99) (by kernel_rfl) ?_
       obtain ⟨wd,hwd⟩:∃ X,X=wr.drew:=⟨_,rfl⟩
       rw [←hwd] at hC0  ⊢
       clear hwd
       have hS0:=HS.out _ hC0
       have hT0:True:=trivial
       refine wU (i:=0) (v:=?_) rfl (Or.inl ⟨by rfl,?hy0⟩) hS0 (fun _=>hT0) ?_
       case hy0=>(intro W hSw;(try dsimp only at hSw);(try obtain ⟨hSw0,hSw1,hSw2,hSw3,hSw4,hSw5,hSw6,hSw7⟩:=hSw);go_simp;try with_reducible rfl)
       (try simp only [Act.put,zz1,zz2,zz3,zz4,zz5,zz6])
       refine wU (i:=2) (v:=?_) rfl (Or.inl ⟨by rfl,?hy2⟩) hS0 (fun _=>hT0) ?_
       case hy2=>(intro W hSw;(try dsimp only at hSw);(try obtain ⟨hSw0,hSw1,hSw2,hSw3,hSw4,hSw5,hSw6,hSw7⟩:=hSw);go_simp;try with_reducible rfl)
       (try simp only [Act.put,zz1,zz2,zz3,zz4,zz5,zz6])
       refine wU (i:=3) (v:=?_) rfl (Or.inl ⟨by rfl,?hy3⟩) hS0 (fun _=>hT0) ?_
       case hy3=>(intro W hSw;(try dsimp only at hSw);(try obtain ⟨hSw0,hSw1,hSw2,hSw3,hSw4,hSw5,hSw6,hSw7⟩:=hSw);go_simp;try with_reducible rfl)
       (try simp only [Act.put,zz1,zz2,zz3,zz4,zz5,zz6])
       refine wU (i:=4) (v:=?_) rfl (Or.inl ⟨by rfl,?hy4⟩) hS0 (fun _=>hT0) ?_
       case hy4=>(intro W hSw;(try dsimp only at hSw);(try obtain ⟨hSw0,hSw1,hSw2,hSw3,hSw4,hSw5,hSw6,hSw7⟩:=hSw);go_simp;try with_reducible rfl)
       (try simp only [Act.put,zz1,zz2,zz3,zz4,zz5,zz6])
       refine wU (i:=5) (v:=?_) rfl (Or.inl ⟨by rfl,?hy5⟩) hS0 (fun _=>hT0) ?_
       case hy5=>(intro W hSw;(try dsimp only at hSw);(try obtain ⟨hSw0,hSw1,hSw2,hSw3,hSw4,hSw5,hSw6,hSw7⟩:=hSw);go_simp;try with_reducible rfl)
       (try simp only [Act.put,zz1,zz2,zz3,zz4,zz5,zz6])
       refine wU (i:=7) (v:=?_) rfl (Or.inl ⟨by rfl,?hy7⟩) hS0 (fun _=>hT0) ?_
       case hy7=>(intro W hSw;(try dsimp only at hSw);(try obtain ⟨hSw0,hSw1,hSw2,hSw3,hSw4,hSw5,hSw6,hSw7⟩:=hSw);go_simp;try with_reducible rfl)
       (try simp only [Act.put,zz1,zz2,zz3,zz4,zz5,zz6])
       refine wU (i:=8) (v:=?_) rfl (Or.inl ⟨by rfl,?hy8⟩) hS0 (fun _=>hT0) ?_
       case hy8=>(intro W hSw;(try dsimp only at hSw);(try obtain ⟨hSw0,hSw1,hSw2,hSw3,hSw4,hSw5,hSw6,hSw7⟩:=hSw);go_simp;try with_reducible rfl)
       (try simp only [Act.put,zz1,zz2,zz3,zz4,zz5,zz6])
       refine wU (i:=9) (v:=?_) rfl (Or.inl ⟨by rfl,?hy9⟩) hS0 (fun _=>hT0) ?_
       case hy9=>(intro W hSw;(try dsimp only at hSw);(try obtain ⟨hSw0,hSw1,hSw2,hSw3,hSw4,hSw5,hSw6,hSw7⟩:=hSw);go_simp;try with_reducible rfl)
       (try simp only [Act.put,zz1,zz2,zz3,zz4,zz5,zz6])
       refine wU (i:=10) (v:=?_) rfl (Or.inl ⟨by rfl,?hy10⟩) hS0 (fun _=>hT0) ?_
       case hy10=>(intro W hSw;(try dsimp only at hSw);(try obtain ⟨hSw0,hSw1,hSw2,hSw3,hSw4,hSw5,hSw6,hSw7⟩:=hSw);go_simp;try with_reducible rfl)
       (try simp only [Act.put,zz1,zz2,zz3,zz4,zz5,zz6])
       refine wU (i:=11) (v:=?_) rfl (Or.inl ⟨by rfl,?hy11⟩) hS0 (fun _=>hT0) ?_
       case hy11=>(intro W hSw;(try dsimp only at hSw);(try obtain ⟨hSw0,hSw1,hSw2,hSw3,hSw4,hSw5,hSw6,hSw7⟩:=hSw);go_simp;try with_reducible rfl)
       (try simp only [Act.put,zz1,zz2,zz3,zz4,zz5,zz6])
       refine wU (i:=12) (v:=?_) rfl (Or.inl ⟨by rfl,?hy12⟩) hS0 (fun _=>hT0) ?_
       case hy12=>(intro W hSw;(try dsimp only at hSw);(try obtain ⟨hSw0,hSw1,hSw2,hSw3,hSw4,hSw5,hSw6,hSw7⟩:=hSw);go_simp;try with_reducible rfl)
       (try simp only [Act.put,zz1,zz2,zz3,zz4,zz5,zz6])
       refine wU (i:=13) (v:=?_) rfl (Or.inl ⟨by rfl,?hy13⟩) hS0 (fun _=>hT0) ?_
       case hy13=>(intro W hSw;(try dsimp only at hSw);(try obtain ⟨hSw0,hSw1,hSw2,hSw3,hSw4,hSw5,hSw6,hSw7⟩:=hSw);go_simp;try with_reducible rfl)
       (try simp only [Act.put,zz1,zz2,zz3,zz4,zz5,zz6])
       refine wR (rs:=[1,14]) (by kernel_rfl) (by simp) ?_
       refine AllReadyB.c rfl (fun K hK=>?_) (AllReadyB.c rfl (fun K hK=>?_) (AllReadyB.n))
       focus
        go_simp
        obtain ⟨C1,hX⟩:∃ X,X=wd.alloc (.cells #[] 38):=⟨_,rfl⟩
        have hb1:Below wd.heap.size wd C1:=by rw [hX];exact (zy2 _ _).alloc (zz8 _) _
        have ho1:Own C1 wr.heap.size 38 6 PR ([]:List P) (.slice (some ⟨wd.heap.size,0,none⟩) 0 0) []:=by rw [hX];exact Own.made wd _ _ _ _ _ 0 hC0.size (by simp [maxLen]) rfl
        rw [←hX]
        clear hX
        have hC1:Below wr.heap.size wr C1:=hC0.trans (hb1.mono hC0.size)
        have HE1:=jj ho1
        obtain ⟨eb,heb⟩:∃ X,X=wd.heap.size:=⟨_,rfl⟩
        rw [←heb] at HE1 ⊢
        have HEL:=jj heb
        clear heb ho1
        (try dsimp only)
        refine hK.out _ _ (HS.out _ hC1) (fun _=>trivial) ?_
        clear hK K
        (try simp only [Act.put,zz1,zz2,zz3,zz4,zz5,zz6])
        refine wR (rs:=[6,14]) (by kernel_rfl) (by simp) ?_
        refine AllReadyB.c rfl (fun K hK=>?_) (AllReadyB.c rfl (fun K hK=>?_) (AllReadyB.n))
        focus
         obtain ⟨cv,C2,Gc,hr2,ho2,hG2,hgr2,hat2⟩:=zAI (P:=Try.prog) 30 30 i0 _ 64 Try.underlying30 HI.out HZ0.out HZ1.out HZ2.out rfl (by decide) PR_len' PR_mono' PR_one HE1.out (HPA.out C1 hC1) (HPU.out.mono (Nat.le_trans hBo.size hC1.size)) (fun g hg hgF=>Nat.lt_irrefl _ (zz9 (HPU.out g hgF) (Nat.le_trans hBo.size (HE1.out.row g hg).1))) (by simp;omega) (by simp;omega) hC1.size
         rw [List.nil_append,List.nil_append] at ho2
         have hC2:Below wr.heap.size wr C2:=hC1.grown hgr2 hC1.size (fun g hg=>(HE1.out.row g (zA1.2 hg)).1)
         have hcb2:∀ (b:Nat) (T:TypeId) (cs:Array Value),b<C1.heap.size→b≠eb→Blk C1 b T cs→Blk C2 b T cs:=fun b T cs hl hne h=>h.same (hgr2.block _ hl (fun e=>hne (Option.some.inj e)))
         obtain ⟨cA,ccap,hcv,-,-⟩:=ho2.form
         subst hcv
         have HGc:=jj hG2
         have HOc2:=jj ho2
         have HRUN:=jj hr2
         clear ho2 hG2 hgr2 hat2 hr2
         refine zAM (P:=Try.prog) rfl _ _ 30 rfl (by rfl) (by rfl) HRUN.out ?_
         clear HRUN
         (try dsimp only)
         refine hK.out _ _ (HS.out _ hC2) (fun _=>trivial) ?_
         clear hK K
         (try simp only [Act.put,zz1,zz2,zz3,zz4,zz5,zz6])
         refine wR (rs:=[14]) (by kernel_rfl) (by simp) ?_
         refine AllReadyB.c rfl (fun K hK=>?_) (AllReadyB.n)
         go_simp
         obtain ⟨C3,hX⟩:∃ X,X=C2.alloc (.cells [.int .i64 kq.op,.int .i64 kq.ct,.int .i64 kq.n,.int .i64 kq.m,.int .i64 kq.va,.slice nA kq.ks.length ncap].toArray 38):=⟨_,rfl⟩
         have hb3:Below C2.heap.size C2 C3:=by rw [hX];exact (zy2 _ _).alloc (zz8 _) _
         have hkb3:Blk C3 C2.heap.size 38 [.int .i64 kq.op,.int .i64 kq.ct,.int .i64 kq.n,.int .i64 kq.m,.int .i64 kq.va,.slice nA kq.ks.length ncap].toArray:=by rw [hX];exact Blk.new _ _ _
         have hX2:=hX
         simp only [List.toArray] at hX2
         first | rw [←hX] | rw [←hX2]
         clear hX hX2
         have hC3:Below wr.heap.size wr C3:=hC2.trans (hb3.mono hC2.size)
         have HKb3:=jj hkb3
         have HKL3:Hid (∀ g,g<C2.heap.size→C2.heap.size≠g):=fun g hg e=>by omega
         obtain ⟨kb,hkb⟩:∃ X,X=C2.heap.size:=⟨_,rfl⟩
         rw [←hkb] at HKb3 HKL3 ⊢
         clear hkb3
         have HKB:=jj hkb
         clear hkb
         have HOc:=jj (HOc2.out.below (fun x cs G hk h=>PR_mono' _ _ x cs G hk h) hb3)
         have HKb:=HKb3
        rotate_left
        focus
         go_simp
         obtain ⟨C2,hX⟩:∃ X,X=C1.alloc (.cells [.int .i64 kq.op,.int .i64 kq.ct,.int .i64 kq.n,.int .i64 kq.m,.int .i64 kq.va,.slice nA kq.ks.length ncap].toArray 38):=⟨_,rfl⟩
         have hb2:Below C1.heap.size C1 C2:=by rw [hX];exact (zy2 _ _).alloc (zz8 _) _
         have hkb2:Blk C2 C1.heap.size 38 [.int .i64 kq.op,.int .i64 kq.ct,.int .i64 kq.n,.int .i64 kq.m,.int .i64 kq.va,.slice nA kq.ks.length ncap].toArray:=by rw [hX];exact Blk.new _ _ _
         have hX2:=hX
         simp only [List.toArray] at hX2
         first | rw [←hX] | rw [←hX2]
         clear hX hX2
         have hC2:Below wr.heap.size wr C2:=hC1.trans (hb2.mono hC1.size)
         have HKb2:=jj hkb2
         have HKL2:Hid (∀ g,g<C1.heap.size→C1.heap.size≠g):=fun g hg e=>by omega
         obtain ⟨kb,hkb⟩:∃ X,X=C1.heap.size:=⟨_,rfl⟩
         rw [←hkb] at HKb2 HKL2 ⊢
         clear hkb2
         have HKB:=jj hkb
         clear hkb
         have HE2:=jj (HE1.out.below (fun x cs G hk h=>PR_mono' _ _ x cs G hk h) hb2)
         have hne:kb≠eb:=fun e=>by have h1:=(HE1.out.row eb (by simp [zA7])).2;have h2:=HKB.out;omega
         have hkl2:=HKb2.out.lt
         (try dsimp only)
         refine hK.out _ _ (HS.out _ hC2) (fun _=>trivial) ?_
         clear hK K
         (try simp only [Act.put,zz1,zz2,zz3,zz4,zz5,zz6])
         refine wR (rs:=[6]) (by kernel_rfl) (by simp) ?_
         refine AllReadyB.c rfl (fun K hK=>?_) (AllReadyB.n)
         obtain ⟨cv,C3,Gc,hr3,ho3,hG3,hgr3,hat3⟩:=zAI (P:=Try.prog) 30 30 i0 _ 64 Try.underlying30 HI.out HZ0.out HZ1.out HZ2.out rfl (by decide) PR_len' PR_mono' PR_one HE2.out (HPA.out C2 hC2) (HPU.out.mono (Nat.le_trans hBo.size hC2.size)) (fun g hg hgF=>Nat.lt_irrefl _ (zz9 (HPU.out g hgF) (Nat.le_trans hBo.size (HE2.out.row g hg).1))) (by simp;omega) (by simp;omega) hC2.size
         rw [List.nil_append,List.nil_append] at ho3
         have hC3:Below wr.heap.size wr C3:=hC2.grown hgr3 hC2.size (fun g hg=>(HE2.out.row g (zA1.2 hg)).1)
         have hcb3:∀ (b:Nat) (T:TypeId) (cs:Array Value),b<C2.heap.size→b≠eb→Blk C2 b T cs→Blk C3 b T cs:=fun b T cs hl hne h=>h.same (hgr3.block _ hl (fun e=>hne (Option.some.inj e)))
         obtain ⟨cA,ccap,hcv,-,-⟩:=ho3.form
         subst hcv
         have HGc:=jj hG3
         have HOc3:=jj ho3
         have HRUN:=jj hr3
         clear ho3 hG3 hgr3 hat3 hr3
         refine zAM (P:=Try.prog) rfl _ _ 30 rfl (by rfl) (by rfl) HRUN.out ?_
         clear HRUN
         have HOc:=HOc3
         have HKb:=jj (hcb3 kb _ _ hkl2 hne HKb2.out)
        rotate_left
       rotate_left 2
       focus
        go_simp
        obtain ⟨C1,hX⟩:∃ X,X=wd.alloc (.cells [.int .i64 kq.op,.int .i64 kq.ct,.int .i64 kq.n,.int .i64 kq.m,.int .i64 kq.va,.slice nA kq.ks.length ncap].toArray 38):=⟨_,rfl⟩
        have hb1:Below wd.heap.size wd C1:=by rw [hX];exact (zy2 _ _).alloc (zz8 _) _
        have hkb1:Blk C1 wd.heap.size 38 [.int .i64 kq.op,.int .i64 kq.ct,.int .i64 kq.n,.int .i64 kq.m,.int .i64 kq.va,.slice nA kq.ks.length ncap].toArray:=by rw [hX];exact Blk.new _ _ _
        have hX2:=hX
        simp only [List.toArray] at hX2
        first | rw [←hX] | rw [←hX2]
        clear hX hX2
        have hC1:Below wr.heap.size wr C1:=hC0.trans (hb1.mono hC0.size)
        have HKb1:=jj hkb1
        have HKL1:Hid (∀ g,g<wd.heap.size→wd.heap.size≠g):=fun g hg e=>by omega
        obtain ⟨kb,hkb⟩:∃ X,X=wd.heap.size:=⟨_,rfl⟩
        rw [←hkb] at HKb1 HKL1 ⊢
        clear hkb1
        have HKB:=jj hkb
        clear hkb
        have hkl1:=HKb1.out.lt
        (try dsimp only)
        refine hK.out _ _ (HS.out _ hC1) (fun _=>trivial) ?_
        clear hK K
        (try simp only [Act.put,zz1,zz2,zz3,zz4,zz5,zz6])
        refine wR (rs:=[1]) (by kernel_rfl) (by simp) ?_
        refine AllReadyB.c rfl (fun K hK=>?_) (AllReadyB.n)
        go_simp
        obtain ⟨C2,hX⟩:∃ X,X=C1.alloc (.cells #[] 38):=⟨_,rfl⟩
        have hb2:Below C1.heap.size C1 C2:=by rw [hX];exact (zy2 _ _).alloc (zz8 _) _
        have ho2:Own C2 wr.heap.size 38 6 PR ([]:List P) (.slice (some ⟨C1.heap.size,0,none⟩) 0 0) []:=by rw [hX];exact Own.made C1 _ _ _ _ _ 0 hC1.size (by simp [maxLen]) rfl
        rw [←hX]
        clear hX
        have hC2:Below wr.heap.size wr C2:=hC1.trans (hb2.mono hC1.size)
        have HE2:=jj ho2
        obtain ⟨eb,heb⟩:∃ X,X=C1.heap.size:=⟨_,rfl⟩
        rw [←heb] at HE2 ⊢
        have HEL:=jj heb
        clear heb ho2
        have HKb2:=jj (HKb1.out.same (hb2.block _ hkl1))
        have hne:kb≠eb:=fun e=>by have h1:=(HE2.out.row eb (by simp [zA7]));have h2:=HEL.out;omega
        have hkl2:=HKb2.out.lt
        (try dsimp only)
        refine hK.out _ _ (HS.out _ hC2) (fun _=>trivial) ?_
        clear hK K
        (try simp only [Act.put,zz1,zz2,zz3,zz4,zz5,zz6])
        refine wR (rs:=[6]) (by kernel_rfl) (by simp) ?_
        refine AllReadyB.c rfl (fun K hK=>?_) (AllReadyB.n)
        obtain ⟨cv,C3,Gc,hr3,ho3,hG3,hgr3,hat3⟩:=zAI (P:=Try.prog) 30 30 i0 _ 64 Try.underlying30 HI.out HZ0.out HZ1.out HZ2.out rfl (by decide) PR_len' PR_mono' PR_one HE2.out (HPA.out C2 hC2) (HPU.out.mono (Nat.le_trans hBo.size hC2.size)) (fun g hg hgF=>Nat.lt_irrefl _ (zz9 (HPU.out g hgF) (Nat.le_trans hBo.size (HE2.out.row g hg).1))) (by simp;omega) (by simp;omega) hC2.size
        rw [List.nil_append,List.nil_append] at ho3
        have hC3:Below wr.heap.size wr C3:=hC2.grown hgr3 hC2.size (fun g hg=>(HE2.out.row g (zA1.2 hg)).1)
        have hcb3:∀ (b:Nat) (T:TypeId) (cs:Array Value),b<C2.heap.size→b≠eb→Blk C2 b T cs→Blk C3 b T cs:=fun b T cs hl hne h=>h.same (hgr3.block _ hl (fun e=>hne (Option.some.inj e)))
        obtain ⟨cA,ccap,hcv,-,-⟩:=ho3.form
        subst hcv
        have HGc:=jj hG3
        have HOc3:=jj ho3
        have HRUN:=jj hr3
        clear ho3 hG3 hgr3 hat3 hr3
        refine zAM (P:=Try.prog) rfl _ _ 30 rfl (by rfl) (by rfl) HRUN.out ?_
        clear HRUN
        have HOc:=HOc3
        have HKb:=jj (hcb3 kb _ _ hkl2 hne HKb2.out)
       rotate_left
       all_goals (
        (try dsimp only)
        refine hK.out _ _ (HS.out _ hC3) (fun _=>trivial) ?_
        clear hK K
        (try simp only [Act.put,zz1,zz2,zz3,zz4,zz5,zz6])
        refine wR (rs:=[15]) (by kernel_rfl) (by simp) ?_
        refine AllReadyB.c rfl (fun K hK=>?_) (AllReadyB.n)
        refine step_pushP (P:=Try.prog) rfl _ _ 30 rfl i0 _ 64 Try.underlying30 HI.out HZ0.out HZ1.out HZ2.out rfl (by decide) PR_len' PR_mono' (by rfl) HOc.out kq 38 [.int .i64 kq.op,.int .i64 kq.ct,.int .i64 kq.n,.int .i64 kq.m,.int .i64 kq.va,.slice nA kq.ks.length ncap] Gk kb (by rfl) HKb.out (by simp [Value.oneCell']) (HVk2.out C3 hC3) (HKu.out.mono (Nat.le_trans hBr.size hC3.size)) (fun g hg hgG=>Nat.lt_irrefl _ (zz9 (HKu.out g hgG) (Nat.le_trans hBr.size (HOc.out.row g hg).1))) (by unfold maxLen;omega) (by omega) hC3.size ?_
        intro g7 cp7 C4 hown4 hgr4 hat4
        have hC4:Below wr.heap.size wr C4:=hC3.grown hgr4 hC3.size (fun g hg=>(HOc.out.row g (zA1.2 hg)).1)
        have HO4:=jj hown4
        have H4R:Hid (∀ g∈rowOf (.slice (some ⟨g7,0,none⟩) (o.length+1) cp7),wr.heap.size≤g∧g<C4.heap.size):=fun g hg=>HO4.out.row g hg
        have HYR:Hid (LpR C4 (o ++ [kq]) [.slice (some ⟨g7,0,none⟩) (o.length+1) cp7] (rowOf (.slice (some ⟨g7,0,none⟩) (o.length+1) cp7) ++ (Gc ++ Gk))):=by
         have h:=HO4.out.arr
         rw [if_neg (by simp)] at h
         exact ⟨_,rfl,h⟩
        have hbo4:Below wo.heap.size wo C4:=hBo.trans (hC4.mono hBo.size)
        have HM4:=jj (HM.out.below (fun x cs G hk h=>LpR_mono _ _ x cs G hk h) hC4)
        have HYU:Hid (Under C4.heap.size (rowOf (.slice (some ⟨g7,0,none⟩) (o.length+1) cp7) ++ (Gc ++ Gk))):=fun b hb=>by
         rcases List.mem_append.1 hb with hb | hb
         ·exact (H4R.out b hb).2
         ·rcases List.mem_append.1 hb with hb | hb
          ·exact zz9 (HPU.out b (HGc.out b hb)) (Nat.le_trans hBo.size hC4.size)
          ·exact zz9 (HKu.out b hb) (Nat.le_trans hBr.size hC4.size)
        have HYP:Hid (∀ b∈Fm ++ (rowOf (.slice (some ⟨g7,0,none⟩) (o.length+1) cp7) ++ (Gc ++ Gk)),b∈F∨w.heap.size≤b):=fun b hb=>by
         rcases List.mem_append.1 hb with hb | hb
         ·exact HFN.out b hb
         ·rcases List.mem_append.1 hb with hb | hb
          ·exact .inr (Nat.le_trans hBr.size (H4R.out b hb).1)
          ·rcases List.mem_append.1 hb with hb | hb
           ·exact HOP.out b (HPSB.out b (HGc.out b hb))
           ·exact .inl (HLS.out b (HKS.out b hb))
        have HYN:Hid (∀ g∈rowOf (.slice mA (nextRP pre o l j).length mcap),g∉(rowOf (.slice (some ⟨g7,0,none⟩) (o.length+1) cp7) ++ (Gc ++ Gk))):=fun g hg hgG=>by
         have h1:=HM.out.row g hg
         rcases List.mem_append.1 hgG with hb | hb
         ·have:=(H4R.out g hb).1;omega
         ·rcases List.mem_append.1 hb with hb | hb
          ·have:=HPU.out g (HGc.out g hb);omega
          ·have:=HKu.out g hb;have:=hBwo.size;omega
        clear hown4 hgr4 hat4
        (try dsimp only)
        refine hK.out _ _ (HS.out _ hC4) (fun _=>trivial) ?_
        clear hK K
        (try simp only [Act.put,zz1,zz2,zz3,zz4,zz5,zz6])
        refine wR (rs:=[16]) (by kernel_rfl) (by simp) ?_
        refine AllReadyB.c rfl (fun K hK=>?_) (AllReadyB.n)
        go_simp
        (try dsimp only)
        refine hK.out _ _ (HS.out _ (hC4.alloc hC4.size _)) (fun _=>trivial) ?_
        clear hK K
        (try simp only [Act.put,zz1,zz2,zz3,zz4,zz5,zz6])
        refine wR (rs:=[17]) (by kernel_rfl) (by simp) ?_
        refine AllReadyB.c rfl (fun K hK=>?_) (AllReadyB.n)
        refine step_push1 (P:=Try.prog) rfl _ _ 66 rfl j0 _ 24 Try.underlying66 HJ.out HY0.out HY1.out HY2.out rfl (by decide) LpR_len LpR_mono (by rfl) HM4.out (o ++ [kq]) 30 [.slice (some ⟨g7,0,none⟩) (o.length+1) cp7] (rowOf (.slice (some ⟨g7,0,none⟩) (o.length+1) cp7) ++ (Gc ++ Gk)) C4.heap.size (by rfl) rfl (by simp [Value.oneCell']) HYR.out HYU.out HYN.out hmx hby hbo4.size ?_
        intro g10 cp10 C5 hown5 hgr5 hat5
        have hrow:=HM4.out.row
        have hB5:Below wo.heap.size wo C5:=(hbo4.alloc hbo4.size _).grown hgr5 (by simp;have:=hbo4.size;omega) (fun g hg=>(hrow g (zA1.2 hg)).1)
        have hS4:=HS.out _ hC4
        have hS5:C5.cell? ⟨b5,off5+k,none⟩=some (.slice pA o.length pcap)∧C5.cell? ⟨bl,offl+i,none⟩=some (.slice (some ⟨b9,off9,none⟩) l.length lcap)∧C5.cell? ⟨b9,off9+j*6,none⟩=some (.int .i64 kq.op)∧C5.cell? ⟨b9,off9+j*6+1,none⟩=some (.int .i64 kq.ct)∧C5.cell? ⟨b9,off9+j*6+2,none⟩=some (.int .i64 kq.n)∧C5.cell? ⟨b9,off9+j*6+3,none⟩=some (.int .i64 kq.m)∧C5.cell? ⟨b9,off9+j*6+4,none⟩=some (.int .i64 kq.va)∧C5.cell? ⟨b9,off9+j*6+5,none⟩=some (.slice nA kq.ks.length ncap):=⟨(hB5.cell lo5).trans ((hBo.cell lo5).symm.trans c5),(hB5.cell lol).trans ((hBo.cell lol).symm.trans cl),(hB5.cell lo9).trans ((hBo.cell lo9).symm.trans n0),(hB5.cell lo9).trans ((hBo.cell lo9).symm.trans n1),(hB5.cell lo9).trans ((hBo.cell lo9).symm.trans n2),(hB5.cell lo9).trans ((hBo.cell lo9).symm.trans n3),(hB5.cell lo9).trans ((hBo.cell lo9).symm.trans n4),(hB5.cell lo9).trans ((hBo.cell lo9).symm.trans n5)⟩
        have HO5:=jj hown5
        clear hown5 hgr5 hat5 hrow
        (try dsimp only)
        refine hK.out _ _ (hS5) (fun _=>trivial) ?_
        clear hK K
        (try simp only [Act.put,zz1,zz2,zz3,zz4,zz5,zz6])
        refine wU (i:=18) (v:=?_) rfl (Or.inl ⟨by rfl,?hy18⟩) hS5 (fun _=>hT0) ?_
        case hy18=>(intro W hSw;(try dsimp only at hSw);(try obtain ⟨hSw0,hSw1,hSw2,hSw3,hSw4,hSw5,hSw6,hSw7⟩:=hSw);go_simp;try with_reducible rfl)
        (try simp only [Act.put,zz1,zz2,zz3,zz4,zz5,zz6])
        refine wE (by kernel_rfl) ?_
        clear hS4 hS5 hS0 hT0 c5 cl n0 n1 n2 n3 n4 n5
        go_wp2
        go_roundw
        case rel=>exact ⟨j+1,_,hjl,by go_num,(by rw [HMS.out];exact HO5.out),HYP.out,hB5⟩
        case measure=>(simp [intOf] <;> omega))
      ·have HOM:Hid (Own wr wo.heap.size 30 1 LpR (nextLP As l (k+1)) (.slice mA (nextRP pre o l j).length mcap) Fm):=by rw [←HNR.out j hj2];exact HM.out
       by_cases hjl:j<l.length
       ·have t3:decide ((j:Int)<(l.length:Int))=true:=by simp;omega
        have t4:decide (((nextRP pre o l j).length:Int)≤400)=false:=by simp;omega
        go_wp2
        go_roundw
        case rel=>exact ⟨k+1,Fm,hkl,by go_num,HOM.out,HFN.out,hBo⟩
        case measure=>(simp [intOf] <;> omega)
       ·have t3:decide ((j:Int)<(l.length:Int))=false:=by simp;omega
        go_wp2
        go_roundw
        case rel=>exact ⟨k+1,Fm,hkl,by go_num,HOM.out,HFN.out,hBo⟩
        case measure=>(simp [intOf] <;> omega)
    ·have HON:Hid (Arr wr (LpR wr) (pairToP ls (i+1)) (.slice mA (nextLP As l k).length mcap) (if nextLP As l k=[] then [] else rowOf (.slice mA (nextLP As l k).length mcap) ++ Fn)):=by
      rw [HPS.out,←HEND.out hk2];exact HM.out.arr
     have HUN:=jj HM.out.under_anyP
     have HPN:Hid (∀ b∈(if nextLP As l k=[] then [] else rowOf (.slice mA (nextLP As l k).length mcap) ++ Fn),b∈F∨w.heap.size≤b):=fun b hb=>by
      by_cases hx:nextLP As l k=[]
      ·rw [if_pos hx] at hb;cases hb
      ·rw [if_neg hx] at hb
       rcases List.mem_append.1 hb with hb | hb
       ·exact .inr (Nat.le_trans hBwo.size (HM.out.row b hb).1)
       ·exact HFN.out b hb
     have HB2:Hid (Below W2.heap.size W2 wr):=HBI.out.trans (hBo.mono HBI.out.size)
     by_cases hkl:k<As.length
     ·have t1:decide ((k:Int)<(As.length:Int))=true:=by simp;omega
      have t2:decide (((nextLP As l k).length:Int)≤400)=false:=by simp;omega
      go_wp2
      go_roundw
      case rel=>exact ⟨i+1,_,hil,by go_num,HON.out,HUN.out,HPN.out,HB2⟩
      case measure=>(simp [intOf] <;> omega)
     ·have t1:decide ((k:Int)<(As.length:Int))=false:=by simp;omega
      go_wp2
      go_roundw
      case rel=>exact ⟨i+1,_,hil,by go_num,HON.out,HUN.out,HPN.out,HB2⟩
      case measure=>(simp [intOf] <;> omega)
  ·have HFin:Hid (ListsPP (cutVP (pairAllP ls)) F w (.returned (.slice oA (pairToP ls i).length ocap)) wo):=by
    have h:=HO.out
    refine ⟨_,Fo,rfl,hBwo,?_,HOU.out,HOP.out⟩
    rw [←pairToP_all ls (Nat.le_of_not_lt hil)]
    exact h
   go_wp2
   go_ret
   exact HFin.out
theorem Own.takeP {α:Type} {w:World} {B k:Nat} {E:TypeId} {R:World→α→List Value→List Nat→Prop} {xs:List α} {A:Option Addr} {n cap:Nat} {F:List Nat} (hk:∀ x cs F,R w x cs F→cs.length=k) (h:Own w B E k R xs (.slice A n cap) F) (m:Nat) (h0:0<m) (hm:m≤xs.length) :
  m≤cap∧∃ G,Own w B E k R (xs.take m) (.slice A m cap) G∧∀ b∈G,b∈F:=by
 obtain ⟨cs,h1,h2,h3,h4⟩:=h
 have hl:(xs.take m).length=m:=by rw [List.length_take];omega
 rw [←List.take_append_drop m xs] at h2
 obtain ⟨c1,c2,F1,F2,rfl,rfl,h5,h6⟩:=Flat.split (xs.take m) h2
 have hc1:=h5.length hk
 rw [hl] at hc1
 rcases h1.2 with ⟨hv,hn⟩ | ⟨g,cap',cur,hv,hb,hg,hc,hm',hs,hr⟩
 ·omega
 ·cases hv
  refine ⟨by omega,F1,⟨c1,⟨by rw [hl];exact hc1,.inr ⟨g,cap,cur,by rw [hl],hb,hg,by omega,hm',hs,?_⟩⟩,h5,fun b hb=>h3 b (List.mem_append.2 (.inl hb)),fun x hx hF=>h4 x (by simpa [zA7] using hx) (List.mem_append.2 (.inl hF))⟩,fun b hb=>List.mem_append.2 (.inl hb)⟩
  rw [hl]
  have e:=congrArg (List.take (m*k)) hr
  rw [List.take_take,Nat.min_eq_left (Nat.mul_le_mul_right _ hm),←hc1,List.take_left'] at e
  ·rw [←hc1];exact e
  ·rfl
theorem map_takeP {α β:Type} (f:α→β) (l:List α) (i:Nat) (h:i<l.length):(l.take (i+1)).map f=(l.take i).map f ++ [f l[i]]:=by rw [take_snoc' l i h,List.map_append];rfl
def SpSP (p:P):Prop:=∀ (w:World) (cs:List Value) (G:List Nat),PR w p cs G→Under w.heap.size G→Shp p→p.size≤900→Calls Try.prog 21 #[.agg cs.toArray] w (MadeSp (cutVP (P.spl p)) w)
set_option maxHeartbeats 8000000 in
theorem l3Split_of (p:P) (ih:∀ k∈p.ks,SpSP k):SpSP p:=by
 intro w cs G hp hg hs hz
 obtain ⟨kv,rfl,ha⟩:=(zA4 _ _ _).1 hp
 obtain ⟨A4,cap4,rfl,hc3,hc4⟩:=ha.form
 obtain ⟨i0,hi,hz0,hz1,hz2⟩:=info_parts info_PE
 obtain ⟨j0,hj,hy0,hy1,hy2⟩:=info_parts info_PSE
 have IH:=jj ih
 have HI:=jj hi
 have HZ0:=jj hz0
 have HZ1:=jj hz1
 have HZ2:=jj hz2
 have HJ:=jj hj
 have HY0:=jj hy0
 have HY1:=jj hy1
 have HY2:=jj hy2
 have HA:=jj ha
 have HG:=jj hg
 clear hi hz0 hz1 hz2 hj hy0 hy1 hy2 ha hg
 clear ih hp
 by_cases h5:p.op=5
 ·have t5:(p.op==5)=true:=by simp [h5]
  obtain ⟨hl2,heq⟩:=Shp.or2 hs h5
  have hm0:p.ks[0]'(by omega)∈p.ks:=List.getElem_mem _
  have hm1:p.ks[1]'(by omega)∈p.ks:=List.getElem_mem _
  have HSH0:=jj (hs.kid hm0)
  have HSH1:=jj (hs.kid hm1)
  have hz0:=Nat.le_trans (Nat.le_of_lt (size_kid hm0)) hz
  have hz1:=Nat.le_trans (Nat.le_of_lt (size_kid hm1)) hz
  have g0:(0:Int)<(p.ks.length:Int):=by omega
  have g1:(1:Int)<(p.ks.length:Int):=by omega
  have gn0:0<p.ks.length:=by omega
  have gn1:1<p.ks.length:=by omega
  obtain ⟨W2,hW2⟩:∃ W2,W2=(w.alloc (.cells #[.int .i64 p.op,.int .i64 p.ct,.int .i64 p.n,.int .i64 p.m,.int .i64 p.va,.slice A4 p.ks.length cap4] 38)):=⟨_,rfl⟩
  have hB0:Below w.heap.size w W2:=by rw [hW2];exact (zy2 _ _).alloc (zz8 _) _
  have KP:Hid (Blk W2 w.heap.size 38 #[.int .i64 p.op,.int .i64 p.ct,.int .i64 p.n,.int .i64 p.m,.int .i64 p.va,.slice A4 p.ks.length cap4]):=by rw [hW2];exact Blk.new _ _ _
  obtain ⟨kb,koff,rfl⟩:=HA.out.ptr (by omega)
  obtain ⟨k0A,k0cap,G0,hkb,k0z0,k0z1,k0z2,k0z3,k0z4,k0z5,HK0,HG0,-,-,-⟩:=ArrP.at HA.out HG.out hB0 0 (by omega)
  obtain ⟨k1A,k1cap,G1,-,k1z0,k1z1,k1z2,k1z3,k1z4,k1z5,HK1,HG1,-,-,-⟩:=ArrP.at HA.out HG.out hB0 1 (by omega)
  simp only [Nat.zero_mul,Nat.add_zero,Nat.one_mul] at k0z0 k0z1 k0z2 k0z3 k0z4 k0z5 k1z0 k1z1 k1z2 k1z3 k1z4 k1z5
  obtain ⟨k0,hk0⟩:∃ u,u=p.ks[0]'(by omega):=⟨_,rfl⟩
  obtain ⟨k1,hk1⟩:∃ u,u=p.ks[1]'(by omega):=⟨_,rfl⟩
  rw [←hk0,←hk1] at heq
  rw [←hk0] at hm0 hz0 HSH0 HK0 k0z0 k0z1 k0z2 k0z3 k0z4 k0z5
  rw [←hk1] at hm1 hz1 HSH1 HK1 k1z0 k1z1 k1z2 k1z3 k1z4 k1z5
  clear hk0 hk1
  have HEQ:=jj heq
  clear h5 heq hl2 hs
  have z0:(w.alloc (.cells #[.int .i64 p.op,.int .i64 p.ct,.int .i64 p.n,.int .i64 p.m,.int .i64 p.va,.slice (some ⟨kb,koff,none⟩) p.ks.length cap4] 38)).cell? ⟨w.heap.size,0,none⟩=some (.int .i64 p.op):=((Blk.new w 38 _).cell 0).trans (by simp)
  go_enter Try.func21,Try.ntmps21
  go_wp2_with fail
  rw [←hW2]
  clear hW2
  go_wp2_with fail
  have HS:Hid (∀ C:World,Below W2.heap.size W2 C→(C.cell? ⟨w.heap.size,5,none⟩=some (.slice (some ⟨kb,koff,none⟩) p.ks.length cap4)∧C.cell? ⟨kb,koff,none⟩=some (.int .i64 k0.op)∧C.cell? ⟨kb,koff+1,none⟩=some (.int .i64 k0.ct)∧C.cell? ⟨kb,koff+2,none⟩=some (.int .i64 k0.n)∧C.cell? ⟨kb,koff+3,none⟩=some (.int .i64 k0.m)∧C.cell? ⟨kb,koff+4,none⟩=some (.int .i64 k0.va)∧C.cell? ⟨kb,koff+5,none⟩=some (.slice k0A k0.ks.length k0cap)∧C.cell? ⟨kb,koff+6,none⟩=some (.int .i64 k1.op)∧C.cell? ⟨kb,koff+6+1,none⟩=some (.int .i64 k1.ct)∧C.cell? ⟨kb,koff+6+2,none⟩=some (.int .i64 k1.n)∧C.cell? ⟨kb,koff+6+3,none⟩=some (.int .i64 k1.m)∧C.cell? ⟨kb,koff+6+4,none⟩=some (.int .i64 k1.va)∧C.cell? ⟨kb,koff+6+5,none⟩=some (.slice k1A k1.ks.length k1cap))):=fun C hb=>⟨(hb.cell (KP.out.lt)).trans ((KP.out.cell 5).trans (by simp)),(hb.cell (hkb)).trans k0z0,(hb.cell (hkb)).trans k0z1,(hb.cell (hkb)).trans k0z2,(hb.cell (hkb)).trans k0z3,(hb.cell (hkb)).trans k0z4,(hb.cell (hkb)).trans k0z5,(hb.cell (hkb)).trans k1z0,(hb.cell (hkb)).trans k1z1,(hb.cell (hkb)).trans k1z2,(hb.cell (hkb)).trans k1z3,(hb.cell (hkb)).trans k1z4,(hb.cell (hkb)).trans k1z5⟩
  have hC0:Below W2.heap.size W2 W2.drew:=(zy2 _ _).drew
  refine zAG (S:=fun w'=>w'.cell? ⟨w.heap.size,5,none⟩=some (.slice (some ⟨kb,koff,none⟩) p.ks.length cap4)∧w'.cell? ⟨kb,koff,none⟩=some (.int .i64 k0.op)∧w'.cell? ⟨kb,koff+1,none⟩=some (.int .i64 k0.ct)∧w'.cell? ⟨kb,koff+2,none⟩=some (.int .i64 k0.n)∧w'.cell? ⟨kb,koff+3,none⟩=some (.int .i64 k0.m)∧w'.cell? ⟨kb,koff+4,none⟩=some (.int .i64 k0.va)∧w'.cell? ⟨kb,koff+5,none⟩=some (.slice k0A k0.ks.length k0cap)∧w'.cell? ⟨kb,koff+6,none⟩=some (.int .i64 k1.op)∧w'.cell? ⟨kb,koff+6+1,none⟩=some (.int .i64 k1.ct)∧w'.cell? ⟨kb,koff+6+2,none⟩=some (.int .i64 k1.n)∧w'.cell? ⟨kb,koff+6+3,none⟩=some (.int .i64 k1.m)∧w'.cell? ⟨kb,koff+6+4,none⟩=some (.int .i64 k1.va)∧w'.cell? ⟨kb,koff+6+5,none⟩=some (.slice k1A k1.ks.length k1cap)) (T:=fun _=>True) (d:=99) (by kernel_rfl) ?_
  obtain ⟨wd,hwd⟩:∃ X,X=W2.drew:=⟨_,rfl⟩
  rw [←hwd] at hC0  ⊢
  clear hwd
  have hS0:=HS.out _ hC0
  have hT0:True:=trivial
  refine wU (i:=0) (v:=?_) rfl (Or.inl ⟨by rfl,?hy0⟩) hS0 (fun _=>hT0) ?_
  case hy0=>(intro W hSw;(try dsimp only at hSw);(try obtain ⟨hSw0,hSw1,hSw2,hSw3,hSw4,hSw5,hSw6,hSw7,hSw8,hSw9,hSw10,hSw11,hSw12⟩:=hSw);go_simp;try with_reducible rfl)
  (try simp only [Act.put,zz1,zz2,zz3,zz4,zz5,zz6])
  refine wU (i:=1) (v:=?_) rfl (Or.inl ⟨by rfl,?hy1⟩) hS0 (fun _=>hT0) ?_
  case hy1=>(intro W hSw;(try dsimp only at hSw);(try obtain ⟨hSw0,hSw1,hSw2,hSw3,hSw4,hSw5,hSw6,hSw7,hSw8,hSw9,hSw10,hSw11,hSw12⟩:=hSw);go_simp;try with_reducible rfl)
  (try simp only [Act.put,zz1,zz2,zz3,zz4,zz5,zz6])
  refine wU (i:=2) (v:=?_) rfl (Or.inl ⟨by rfl,?hy2⟩) hS0 (fun _=>hT0) ?_
  case hy2=>(intro W hSw;(try dsimp only at hSw);(try obtain ⟨hSw0,hSw1,hSw2,hSw3,hSw4,hSw5,hSw6,hSw7,hSw8,hSw9,hSw10,hSw11,hSw12⟩:=hSw);go_simp;try with_reducible rfl)
  (try simp only [Act.put,zz1,zz2,zz3,zz4,zz5,zz6])
  refine wU (i:=3) (v:=?_) rfl (Or.inl ⟨by rfl,?hy3⟩) hS0 (fun _=>hT0) ?_
  case hy3=>(intro W hSw;(try dsimp only at hSw);(try obtain ⟨hSw0,hSw1,hSw2,hSw3,hSw4,hSw5,hSw6,hSw7,hSw8,hSw9,hSw10,hSw11,hSw12⟩:=hSw);go_simp;try with_reducible rfl)
  (try simp only [Act.put,zz1,zz2,zz3,zz4,zz5,zz6])
  refine wU (i:=5) (v:=?_) rfl (Or.inl ⟨by rfl,?hy5⟩) hS0 (fun _=>hT0) ?_
  case hy5=>(intro W hSw;(try dsimp only at hSw);(try obtain ⟨hSw0,hSw1,hSw2,hSw3,hSw4,hSw5,hSw6,hSw7,hSw8,hSw9,hSw10,hSw11,hSw12⟩:=hSw);go_simp;try with_reducible rfl)
  (try simp only [Act.put,zz1,zz2,zz3,zz4,zz5,zz6])
  refine wU (i:=6) (v:=?_) rfl (Or.inl ⟨by rfl,?hy6⟩) hS0 (fun _=>hT0) ?_
  case hy6=>(intro W hSw;(try dsimp only at hSw);(try obtain ⟨hSw0,hSw1,hSw2,hSw3,hSw4,hSw5,hSw6,hSw7,hSw8,hSw9,hSw10,hSw11,hSw12⟩:=hSw);go_simp;try with_reducible rfl)
  (try simp only [Act.put,zz1,zz2,zz3,zz4,zz5,zz6])
  refine wU (i:=7) (v:=?_) rfl (Or.inl ⟨by rfl,?hy7⟩) hS0 (fun _=>hT0) ?_
  case hy7=>(intro W hSw;(try dsimp only at hSw);(try obtain ⟨hSw0,hSw1,hSw2,hSw3,hSw4,hSw5,hSw6,hSw7,hSw8,hSw9,hSw10,hSw11,hSw12⟩:=hSw);go_simp;try with_reducible rfl)
  (try simp only [Act.put,zz1,zz2,zz3,zz4,zz5,zz6])
  refine wU (i:=8) (v:=?_) rfl (Or.inl ⟨by rfl,?hy8⟩) hS0 (fun _=>hT0) ?_
  case hy8=>(intro W hSw;(try dsimp only at hSw);(try obtain ⟨hSw0,hSw1,hSw2,hSw3,hSw4,hSw5,hSw6,hSw7,hSw8,hSw9,hSw10,hSw11,hSw12⟩:=hSw);go_simp;try with_reducible rfl)
  (try simp only [Act.put,zz1,zz2,zz3,zz4,zz5,zz6])
  refine wR (rs:=[4]) (by kernel_rfl) (by simp) ?_
  refine AllReadyB.c rfl (fun K hK=>?_) AllReadyB.n
  go_simp
  go_at_call 21
  refine (IH.out k0 hm0 wd _ G0 (HK0.out.below (hB0.trans (hC0.mono hB0.size)) HG0.out) (HG0.out.mono (Nat.le_trans hB0.size hC0.size)) HSH0.out hz0).mono ?_
  rintro e C8 ⟨v8,F8,rfl,hb8,ho8,hF8⟩
  have hC1:Below W2.heap.size W2 C8:=hC0.trans (hb8.mono hC0.size)
  have hS1:=HS.out _ hC1
  have HO8:=jj (ho8.base (B':=W2.heap.size) (fun g hg=>Nat.le_trans hC0.size (ho8.row g hg).1))
  have HF8:Hid (∀ b∈F8,w.heap.size≤b):=fun b hb=>Nat.le_trans (Nat.le_trans hB0.size hC0.size) (hF8 b hb)
  clear ho8 hF8
  (try dsimp only)
  refine hK.out _ _ hS1 (fun _=>trivial) ?_
  clear hK K
  (try simp only [Act.put,zz1,zz2,zz3,zz4,zz5,zz6])
  refine wR (rs:=[9]) (by kernel_rfl) (by simp) ?_
  refine AllReadyB.c rfl (fun K hK=>?_) AllReadyB.n
  go_simp
  go_at_call 21
  refine (IH.out k1 hm1 C8 _ G1 (HK1.out.below (hB0.trans (hC1.mono hB0.size)) HG1.out) (HG1.out.mono (Nat.le_trans hB0.size hC1.size)) HSH1.out hz1).mono ?_
  rintro e C9 ⟨v9,F9,rfl,hb9,ho9,hF9⟩
  have hC2:Below W2.heap.size W2 C9:=hC1.trans (hb9.mono hC1.size)
  have hS2:=HS.out _ hC2
  obtain ⟨A8,cap8,rfl,-,-⟩:=HO8.out.form
  obtain ⟨A9,cap9,rfl,-,-⟩:=ho9.form
  have hq0:=cutVP_len (P.spl k0)
  have hq1:=cutVP_len (P.spl k1)
  have HR8:Hid (∀ g∈rowOf (.slice A8 (cutVP (P.spl k0)).length cap8),g<C8.heap.size):=fun g hg=>(HO8.out.row g hg).2
  have HOa:=jj (HO8.out.below (fun x cs G hk h=>PR_mono' _ _ x cs G hk h) hb9)
  have HF9:Hid (∀ b∈(if cutVP (P.spl k1)=[] then [] else rowOf (.slice A9 (cutVP (P.spl k1)).length cap9) ++ F9),C8.heap.size≤b):=ho9.ge_ifP (zz8 _) hF9
  have hcs8:=hC1.size
  obtain ⟨v7,C7,F7,hr7,ho7,hG7,hgr7,hat7⟩:=zAI (P:=Try.prog) 30 30 i0 _ 64 Try.underlying30 HI.out HZ0.out HZ1.out HZ2.out rfl (by decide) PR_len' PR_mono' PR_one HOa.out ho9.arr ho9.under_ifP (fun g hg hgF=>Nat.lt_irrefl _ (zz9 (HR8.out g hg) (HF9.out g hgF))) (by omega) (by omega) hC2.size
  have hC7:Below W2.heap.size W2 C7:=hC2.grown hgr7 hC2.size (fun g hg=>(HO8.out.row g (zA1.2 hg)).1)
  have HR7:=jj hr7
  have HO7:=jj (ho7.base (B':=w.heap.size) (fun g hg=>Nat.le_trans hB0.size (ho7.row g hg).1))
  have HF7:Hid (∀ b∈F8 ++ F7,w.heap.size≤b):=fun b hb=>by
   rcases List.mem_append.1 hb with hb | hb
   ·exact HF8.out b hb
   ·exact Nat.le_trans (Nat.le_trans hB0.size hcs8) (HF9.out b (hG7 b hb))
  clear ho9 hF9 hr7 ho7 hG7 hgr7 hat7
  (try dsimp only)
  refine hK.out _ _ hS2 (fun _=>trivial) ?_
  clear hK K
  (try simp only [Act.put,zz1,zz2,zz3,zz4,zz5,zz6])
  refine wR (rs:=[10]) (by kernel_rfl) (by simp) ?_
  refine AllReadyB.c rfl (fun K hK=>?_) AllReadyB.n
  refine zAM (P:=Try.prog) rfl _ _ 30 rfl (by rfl) (by rfl) HR7.out ?_
  (try dsimp only)
  refine hK.out _ _ (HS.out _ hC7) (fun _=>trivial) ?_
  clear hK K
  (try simp only [Act.put,zz1,zz2,zz3,zz4,zz5,zz6])
  refine wU (i:=11) (v:=?_) rfl (Or.inl ⟨by rfl,?hy11⟩) (HS.out _ hC7) (fun _=>hT0) ?_
  case hy11=>(intro W hSw;(try dsimp only at hSw);(try obtain ⟨hSw0,hSw1,hSw2,hSw3,hSw4,hSw5,hSw6,hSw7,hSw8,hSw9,hSw10,hSw11,hSw12⟩:=hSw);go_simp;try with_reducible rfl)
  (try simp only [Act.put,zz1,zz2,zz3,zz4,zz5,zz6])
  refine wE (by kernel_rfl) ?_
  clear hS0 hS1 hS2 hT0
  have hBE:=jj (hB0.trans (hC7.mono hB0.size))
  obtain ⟨A7,cap7,rfl,hc71,hc72⟩:=HO7.out.form
  clear hC0 hC1 hC2 hC7 hb8 hb9 hcs8 k0z0 k0z1 k0z2 k0z3 k0z4 k0z5 k1z0 k1z1 k1z2 k1z3 k1z4 k1z5 hkb
  by_cases hbig:(cutVP (P.spl k0) ++ cutVP (P.spl k1)).length≤401
  ·have hres:Hid (MadeSp (cutVP (P.spl p)) w (.returned (.slice A7 (cutVP (P.spl k0) ++ cutVP (P.spl k1)).length cap7)) C7):=by
    refine ⟨_,F8 ++ F7,rfl,hBE.out,?_,HF7.out⟩
    rw [←HEQ.out,cutVP_short hbig]
    exact HO7.out
   generalize (cutVP (P.spl k0) ++ cutVP (P.spl k1))=L at *
   have e1:decide ((L.length:Int)>401)=false:=by simp;omega
   clear HR7 HO7 HF7 HEQ HOa hq0 hq1 HR8 HO8 HF8 HF9
   go_wp2
   go_ret
   exact hres.out
  ·obtain ⟨hcap,G,ho,hG⟩:=HO7.out.takeP PR_len 401 (by omega) (by omega)
   have hres:Hid (MadeSp (cutVP (P.spl p)) w (.returned (.slice A7 401 cap7)) C7):=by
    refine ⟨_,G,rfl,hBE.out,?_,fun b hb=>HF7.out b (hG b hb)⟩
    rw [←HEQ.out]
    exact ho
   generalize (cutVP (P.spl k0) ++ cutVP (P.spl k1))=L at *
   have e1:decide ((L.length:Int)>401)=true:=by simp;omega
   have e2:(401:Int)≤(cap7:Int):=by omega
   clear HR7 HO7 HF7 HEQ HOa hq0 hq1 HR8 HO8 HF8 HF9 ho hG
   go_wp2
   go_ret
   exact hres.out
 ·have t5:(p.op==5)=false:=by simp [h5]
  have H5:=jj h5
  have HSH:=jj hs
  have hkz:=Nat.le_trans (ks_len p) hz
  clear h5 hs
  obtain ⟨W2,hW2⟩:∃ W2,W2=((w.alloc (.cells #[.int .i64 p.op,.int .i64 p.ct,.int .i64 p.n,.int .i64 p.m,.int .i64 p.va,.slice A4 p.ks.length cap4] 38)).alloc (.cells #[] 30)):=⟨_,rfl⟩
  have hB0:Below w.heap.size w W2:=by rw [hW2];exact ((zy2 _ _).alloc (zz8 _) _).alloc (by simp) _
  have KP:Hid (Blk W2 w.heap.size 38 #[.int .i64 p.op,.int .i64 p.ct,.int .i64 p.n,.int .i64 p.m,.int .i64 p.va,.slice A4 p.ks.length cap4]):=by rw [hW2];exact (Blk.new w _ _).same (Below.heap_alloc _ _ _ (by simp))
  have HL0:Hid (Own W2 (w.heap.size+1) 30 1 LpR ([]:List (List P)) (.slice (some ⟨w.heap.size+1,0,none⟩) 0 0) []):=by
   rw [hW2]
   have h:=Own.made (w.alloc (.cells #[.int .i64 p.op,.int .i64 p.ct,.int .i64 p.n,.int .i64 p.m,.int .i64 p.va,.slice A4 p.ks.length cap4] 38)) (w.heap.size+1) 30 1 LpR #[] 0 (by simp) (by simp [maxLen]) rfl
   rw [World.size_alloc] at h
   exact h
  have hs2:w.heap.size+2≤W2.heap.size:=by rw [hW2];simp
  go_enter Try.func21,Try.ntmps21
  go_wp2_with fail
  rw [←hW2]
  clear hW2
  have hB1:Below (w.heap.size+1) W2 W2:=zy2 _ _
  go_loopw [4,5] (fun lv jv wr=>∃ j:Nat,∃ Fl:List Nat,j≤p.ks.length∧jv=.int .i64 j∧Hid (Own wr (w.heap.size+1) 30 1 LpR ((p.ks.take j).map fun k=>cutVP (P.spl k)) lv Fl)∧Hid (∀ b∈Fl,w.heap.size+1≤b)∧Hid (Below (w.heap.size+1) W2 wr)) (fun _ jv _=>p.ks.length-(intOf jv).toNat)
  case atStart=>exact ⟨0,[],Nat.zero_le _,rfl,HL0.out,(fun b hb=>by cases hb),hB1⟩
  case round =>
   clear HL0 hB1
   obtain ⟨j,Fl,hj,rfl,HL,HFl,HB⟩:=hrel
   obtain ⟨lA,lcap,hlv,-,-⟩:=HL.out.form
   subst hlv
   have hlj:((p.ks.take j).map fun k=>cutVP (P.spl k)).length≤j:=by rw [List.length_map,List.length_take];omega
   obtain ⟨wp,hwp⟩:∃ wp,wp=wr:=⟨_,rfl⟩
   rw [←hwp] at HL HB ⊢
   clear hwp
   have hB:=hB0.trans (HB.out.mono (Nat.le_succ _))
   have hsp:w.heap.size+2≤wp.heap.size:=Nat.le_trans hs2 HB.out.size
   have KPj:=jj (KP.out.same (HB.out.block _ (Nat.lt_succ_self _)))
   have z5:wp.cell? ⟨w.heap.size,5,none⟩=some (.slice A4 p.ks.length cap4):=(KPj.out.cell 5).trans (by simp)
   have klt:=KPj.out.lt
   by_cases hjl:j<p.ks.length
   ·have g1:(0:Int)≤(j:Int):=by omega
    have g2:(j:Int)<(p.ks.length:Int):=by omega
    obtain ⟨b4,off4,rfl⟩:=HA.out.ptr (by omega)
    obtain ⟨A7,cap7,G7,hb7,k0,k1,k2,k3,k4,k5,HV7,HG7,hgs7,-,-⟩:=ArrP.at HA.out HG.out hB j hjl
    have hkm:p.ks[j]∈p.ks:=List.getElem_mem hjl
    have HSK:=jj (HSH.out.kid hkm)
    have hkz2:=Nat.le_trans (Nat.le_of_lt (size_kid hkm)) hz
    have HLS:=jj (map_takeP (fun k=>cutVP (P.spl k)) p.ks j hjl)
    have hmx:((p.ks.take j).map fun k=>cutVP (P.spl k)).length+1≤maxLen:=by unfold maxLen;omega
    have hby:(((p.ks.take j).map fun k=>cutVP (P.spl k)).length+1)*24≤140737488355328:=by omega
    obtain ⟨kj,hkj⟩:∃ u,u=p.ks[j]:=⟨_,rfl⟩
    rw [←hkj] at k0 k1 k2 k3 k4 k5 HV7 hkm HSK hkz2 HLS
    clear hkj
    generalize hL:((p.ks.take j).map fun k=>cutVP (P.spl k))=L at *
    clear hL
    go_wp2_with fail
    refine (IH.out kj hkm wp _ G7 (HV7.out.below hB HG7.out) (HG7.out.mono hB.size) HSK.out hkz2).mono ?_
    rintro e w8 ⟨v8,F8,rfl,hb8,ho8,hF8⟩
    clear k0 k1 k2 k3 k4 k5 hb7 z5 klt
    have HB8:Hid (Below (w.heap.size+1) W2 w8):=HB.out.trans (hb8.mono (by omega))
    have HR8:Hid (LpR w8 (cutVP (P.spl kj)) [v8] (if cutVP (P.spl kj)=[] then [] else rowOf v8 ++ F8)):=⟨v8,rfl,ho8.arr⟩
    have HU8:=jj ho8.under_ifP
    have HF8:Hid (∀ b∈(if cutVP (P.spl kj)=[] then [] else rowOf v8 ++ F8),wp.heap.size≤b):=ho8.ge_ifP (zz8 _) hF8
    have HO8:=jj (HL.out.below (fun x cs G hk h=>LpR_mono _ _ x cs G hk h) hb8)
    have HN8:Hid (∀ g∈rowOf (.slice lA L.length lcap),g∉(if cutVP (P.spl kj)=[] then [] else rowOf v8 ++ F8)):=fun g hg hF=>Nat.lt_irrefl _ (zz9 (HL.out.row g hg).2 (HF8.out g hF))
    obtain ⟨A8,cap8,rfl,-,-⟩:=ho8.form
    generalize hGG:(if cutVP (P.spl kj)=[] then [] else rowOf (.slice A8 (cutVP (P.spl kj)).length cap8) ++ F8)=GG at *
    generalize hTT:cutVP (P.spl kj)=TT at *
    have hbs:w.heap.size+1≤w8.heap.size:=by have:=hb8.size;omega
    clear hGG hTT ho8 hF8 hb8
    go_wp2_with (at_builtin;refine Halt.mk ?_)
    refine Halt.of (zA2 (P:=Try.prog) rfl _ _ 66 rfl j0 _ 24 Try.underlying66 HJ.out HY0.out HY1.out HY2.out rfl (by decide) LpR_len LpR_mono (by rfl) HO8.out TT 30 [.slice A8 TT.length cap8] GG _ (by rfl) (by simp) (by simp [Value.oneCell']) HR8.out HU8.out HN8.out hmx hby hbs ?_)
    intro g cp w9 hown9 hgr9 hat9
    have hrow:=HO8.out.row
    have HB9:Hid (Below (w.heap.size+1) W2 w9):=(HB8.out.alloc hbs _).grown hgr9 (by simp;omega) (fun g hg=>(hrow g (zA1.2 hg)).1)
    have HF9:Hid (∀ b∈Fl ++ GG,w.heap.size+1≤b):=fun b hb=>by
     rcases List.mem_append.1 hb with hb | hb
     ·exact HFl.out b hb
     ·have:=HF8.out b hb;omega
    have HO9:=jj hown9
    clear hown9 hgr9 hat9 hrow
    go_wp2
    go_roundw
    case rel=>exact ⟨j+1,_,hjl,by go_num,(by rw [HLS.out];exact HO9.out),HF9.out,HB9.out⟩
    case measure=>(simp [intOf] <;> omega)
   ·have hall:((p.ks.take j).map fun k=>cutVP (P.spl k))=p.ks.map fun k=>cutVP (P.spl k):=by rw [List.take_of_length_le (Nat.le_of_not_lt hjl)]
    rw [hall] at HL hlj ⊢
    clear hall
    have hl9:(p.ks.map fun k=>cutVP (P.spl k)).length≤900:=by omega
    have hl4:∀ l∈(p.ks.map fun k=>cutVP (P.spl k)),l.length≤401:=fun l hl=>by obtain ⟨k,-,rfl⟩:=List.mem_map.1 hl;exact cutVP_len _
    have HRES:=jj (cutVP_no H5.out)
    have HLA:=jj HL.out.arr
    have HLU:=jj HL.out.under_anyP
    have HLF:Hid (∀ b∈(if (p.ks.map fun k=>cutVP (P.spl k))=[] then [] else rowOf (.slice lA (p.ks.map fun k=>cutVP (P.spl k)).length lcap) ++ Fl),w.heap.size≤b):=fun b hb=>by
     split at hb
     ·cases hb
     ·rcases List.mem_append.1 hb with hb | hb
      ·have:=(HL.out.row b hb).1;omega
      ·have:=HFl.out b hb;omega
    generalize hGG:(if (p.ks.map fun k=>cutVP (P.spl k))=[] then [] else rowOf (.slice lA (p.ks.map fun k=>cutVP (P.spl k)).length lcap) ++ Fl)=GG at *
    clear hGG HL HFl
    generalize (p.ks.map fun k=>cutVP (P.spl k))=L at *
    go_wp2_with fail
    refine (spec_l3Tuples L hl9 hl4 wp _ GG HLA.out HLU.out).mono ?_
    rintro e w8 ⟨v8,F8,rfl,hb8,ha8,hu8,hF8⟩
    clear z5 klt
    have hB8:=hB.trans (hb8.mono hB.size)
    have KP8:=jj (KPj.out.same (hb8.block _ KPj.out.lt))
    have HF8:Hid (∀ b∈F8,w.heap.size≤b):=fun b hb=>(hF8 b hb).elim (HLF.out b) (fun h=>by omega)
    have hT4:=cutVP_len (pairAllP L)
    generalize hT:cutVP (pairAllP L)=TS at *
    have HTA:=jj ha8
    have HTU:=jj hu8
    obtain ⟨tA,tcap,rfl,-,-⟩:=ha8.form
    have hs8:w.heap.size<w8.heap.size:=KP8.out.lt
    clear hT ha8 hu8 hF8 hb8 HLA HLU HLF hl9 hl4 KPj HB hB hsp
    go_wp2_with fail
    have HM0:Hid (Own (w8.alloc (.cells #[] 38)) w8.heap.size 38 6 PR ((TS.take 0).map p.re) (.slice (some ⟨w8.heap.size,0,none⟩) 0 0) []):=(show Own _ _ _ _ _ [] _ _ from Own.made w8 _ _ _ _ _ 0 (zz8 _) (by simp [maxLen]) rfl)
    have HB0:Hid (Below w8.heap.size w8 (w8.alloc (.cells #[] 38))):=(zy2 _ _).alloc (zz8 _) _
    generalize w8.alloc (.cells #[] 38)=w9 at *
    go_loopw [7,8] (fun ov iv wr=>∃ i:Nat,∃ Fo:List Nat,i≤TS.length∧iv=.int .i64 i∧Hid (Own wr w8.heap.size 38 6 PR ((TS.take i).map p.re) ov Fo)∧Hid (∀ b∈Fo,w.heap.size≤b)∧Hid (Below w8.heap.size w8 wr)) (fun _ iv _=>TS.length-(intOf iv).toNat)
    case atStart=>exact ⟨0,[],Nat.zero_le _,rfl,HM0.out,(fun b hb=>by cases hb),HB0.out⟩
    case round =>
     clear HM0 HB0
     obtain ⟨i,Fo,hi,rfl,HO,HFo,HB⟩:=hrel
     obtain ⟨oA,ocap,hov,-,-⟩:=HO.out.form
     subst hov
     have hli:((TS.take i).map p.re).length≤i:=by rw [List.length_map,List.length_take];omega
     by_cases hil:i<TS.length
     ·have g1:(0:Int)≤(i:Int):=by omega
      have g2:(i:Int)<(TS.length:Int):=by omega
      obtain ⟨b8,off8,rfl⟩:=HTA.out.ptr (by omega)
      obtain ⟨qA,qcap,Gq,hb8l,hqc,hqa,hqu,hqs⟩:=ArrLp.of HTA.out HTU.out i hil
      have HLS:=jj (map_takeP p.re TS i hil)
      obtain ⟨o,ho⟩:∃ u,u=TS[i]:=⟨_,rfl⟩
      rw [←ho] at hqc hqa HLS
      have x0:wr.cell? ⟨b8,off8+i,none⟩=some (.slice qA o.length qcap):=hqc wr HB.out
      have xlt:b8<wr.heap.size:=zz9 hb8l HB.out.size
      have KPr:=jj (KP8.out.same (HB.out.block _ KP8.out.lt))
      have z0:wr.cell? ⟨w.heap.size,0,none⟩=some (.int .i64 p.op):=(KPr.out.cell 0).trans (by simp)
      have z1:wr.cell? ⟨w.heap.size,1,none⟩=some (.int .i64 p.ct):=(KPr.out.cell 1).trans (by simp)
      have z2:wr.cell? ⟨w.heap.size,2,none⟩=some (.int .i64 p.n):=(KPr.out.cell 2).trans (by simp)
      have z3:wr.cell? ⟨w.heap.size,3,none⟩=some (.int .i64 p.m):=(KPr.out.cell 3).trans (by simp)
      have z4:wr.cell? ⟨w.heap.size,4,none⟩=some (.int .i64 p.va):=(KPr.out.cell 4).trans (by simp)
      have z5:wr.cell? ⟨w.heap.size,5,none⟩=some (.slice A4 p.ks.length cap4):=(KPr.out.cell 5).trans (by simp)
      have klt:=KPr.out.lt
      have hbx:Below wr.heap.size wr (wr.alloc (.cells #[.int .i64 p.op,.int .i64 p.ct,.int .i64 p.n,.int .i64 p.m,.int .i64 p.va,.slice qA o.length qcap] 38)):=(zy2 _ _).alloc (zz8 _) _
      have HOx:=jj (HO.out.below (fun x cs G hk h=>PR_mono' _ _ x cs G hk h) hbx)
      have hbw:Below w8.heap.size w8 (wr.alloc (.cells #[.int .i64 p.op,.int .i64 p.ct,.int .i64 p.n,.int .i64 p.m,.int .i64 p.va,.slice qA o.length qcap] 38)):=HB.out.trans (hbx.mono HB.out.size)
      have HRx:Hid (PR (wr.alloc (.cells #[.int .i64 p.op,.int .i64 p.ct,.int .i64 p.n,.int .i64 p.m,.int .i64 p.va,.slice qA o.length qcap] 38)) (p.re o) [.int .i64 p.op,.int .i64 p.ct,.int .i64 p.n,.int .i64 p.m,.int .i64 p.va,.slice qA o.length qcap] Gq):=(zA4 _ _ _).2 ⟨_,rfl,ArrP.below hqa hbw hqu⟩
      have HUx:Hid (Under (wr.alloc (.cells #[.int .i64 p.op,.int .i64 p.ct,.int .i64 p.n,.int .i64 p.m,.int .i64 p.va,.slice qA o.length qcap] 38)).heap.size Gq):=hqu.mono hbw.size
      have HNx:Hid (∀ g∈rowOf (.slice oA ((TS.take i).map p.re).length ocap),g∉Gq):=fun g hg hG=>Nat.lt_irrefl _ (zz9 (hqu g hG) (HO.out.row g hg).1)
      have HFx:Hid (∀ b∈Gq,w.heap.size≤b):=fun b hb=>HF8.out b (hqs b hb)
      have hmx:((TS.take i).map p.re).length+1≤maxLen:=by unfold maxLen;omega
      have hby:(((TS.take i).map p.re).length+1)*64≤140737488355328:=by omega
      have hbs:=hbw.size
      have HBW:=jj hbw
      have hwr:=HB.out.size
      clear ho hqc hqa hqu hqs hbx hbw HO
      generalize (TS.take i).map p.re=pre at *
      go_wp2_with (at_builtin;refine Halt.mk ?_)
      refine Halt.of (zA2 (P:=Try.prog) rfl _ _ 30 rfl i0 _ 64 Try.underlying30 HI.out HZ0.out HZ1.out HZ2.out rfl (by decide) PR_len' PR_mono' (by rfl) HOx.out (p.re o) 38 [.int .i64 p.op,.int .i64 p.ct,.int .i64 p.n,.int .i64 p.m,.int .i64 p.va,.slice qA o.length qcap] Gq _ (by rfl) (by simp) (by simp [Value.oneCell']) HRx.out HUx.out HNx.out hmx hby hbs ?_)
      intro g cp w10 hown hgr hat
      have hrow:=HOx.out.row
      have HB10:Hid (Below w8.heap.size w8 w10):=(HBW.out.alloc HBW.out.size _).grown hgr (by simp;omega) (fun g hg=>(hrow g (zA1.2 hg)).1)
      have HF10:Hid (∀ b∈Fo ++ Gq,w.heap.size≤b):=fun b hb=>by
       rcases List.mem_append.1 hb with hb | hb
       ·exact HFo.out b hb
       ·exact HFx.out b hb
      have HO10:=jj hown
      clear hown hgr hat hrow x0 xlt z0 z1 z2 z3 z4 z5 klt
      go_wp2
      go_roundw
      case rel=>exact ⟨i+1,_,hil,by go_num,(by rw [HLS.out];exact HO10.out),HF10.out,HB10.out⟩
      case measure=>(simp [intOf] <;> omega)
     ·have hall:(TS.take i).map p.re=cutVP (P.spl p):=by rw [List.take_of_length_le (Nat.le_of_not_lt hil)];exact HRES.out
      have HFin:Hid (MadeSp (cutVP (P.spl p)) w (.returned (.slice oA ((TS.take i).map p.re).length ocap)) wr):=by
       have ho:=HO.out
       rw [hall] at ho ⊢
       exact ⟨_,Fo,rfl,hB8.trans (HB.out.mono hB8.size),ho.base (fun g hg=>by have:=(ho.row g hg).1;omega),HFo.out⟩
      clear hall
      go_wp2
      go_ret
      exact HFin.out
theorem spec_l3Split:∀ p,SpSP p:=P.indv l3Split_of
set_option maxHeartbeats 6400000 in
theorem spec_SplitOr (xs:List Dt) (t:Ty) (p:P) (hpz:p.size≤1048576) (w:World) (x:Value) (F:List Nat) (cs:List Value) (G:List Nat) (hx:Arr w (DtR w) xs x F) (hf:Under w.heap.size F) (hp:PR w p cs G) (hg:Under w.heap.size G) :
  Calls Try.prog 6 #[x,.agg #[.int .i64 t.d,.int .i64 t.i],.agg cs.toArray] w (MadeSps (splitV xs t p) (splitB xs t p) w):=by
 obtain ⟨xA,xcap,rfl,-,-⟩:=hx.form
 obtain ⟨kp,rfl,hka⟩:=(zA4 _ _ _).1 hp
 obtain ⟨pA,pcap,rfl,-,-⟩:=hka.form
 clear hka
 have HX:=jj hx
 have HF:=jj hf
 have HP:=jj hp
 have HG:=jj hg
 clear hx hf hp hg
 go_enter Try.func6,Try.ntmps6
 go_wp2_with fail
 obtain ⟨w2,hw2⟩:∃ X,X=((w.alloc (.cells #[.int .i64 t.d,.int .i64 t.i] 35)).alloc (.cells #[.int .i64 p.op,.int .i64 p.ct,.int .i64 p.n,.int .i64 p.m,.int .i64 p.va,.slice pA p.ks.length pcap] 38)):=⟨_,rfl⟩
 have hB2:Below w.heap.size w w2:=by rw [hw2];exact ((zy2 _ _).alloc (zz8 _) _).alloc (by simp) _
 have KT2:Hid (Blk w2 w.heap.size 35 #[.int .i64 t.d,.int .i64 t.i]):=by rw [hw2];exact (Blk.new w _ _).same (Below.heap_alloc _ _ _ (by simp))
 have KP2:Hid (Blk w2 (w.heap.size+1) 38 #[.int .i64 p.op,.int .i64 p.ct,.int .i64 p.n,.int .i64 p.m,.int .i64 p.va,.slice pA p.ks.length pcap]):=by rw [hw2];exact blk_second w _ 38 _
 rw [←hw2]
 clear hw2
 have a0:w2.cell? ⟨w.heap.size,0,none⟩=some (.int .i64 t.d):=(KT2.out.cell 0).trans (by simp)
 have a1:w2.cell? ⟨w.heap.size,1,none⟩=some (.int .i64 t.i):=(KT2.out.cell 1).trans (by simp)
 have al:=KT2.out.lt
 have c0:w2.cell? ⟨w.heap.size+1,0,none⟩=some (.int .i64 p.op):=(KP2.out.cell 0).trans (by simp)
 have c1:w2.cell? ⟨w.heap.size+1,1,none⟩=some (.int .i64 p.ct):=(KP2.out.cell 1).trans (by simp)
 have c2:w2.cell? ⟨w.heap.size+1,2,none⟩=some (.int .i64 p.n):=(KP2.out.cell 2).trans (by simp)
 have c3:w2.cell? ⟨w.heap.size+1,3,none⟩=some (.int .i64 p.m):=(KP2.out.cell 3).trans (by simp)
 have c4:w2.cell? ⟨w.heap.size+1,4,none⟩=some (.int .i64 p.va):=(KP2.out.cell 4).trans (by simp)
 have c5:w2.cell? ⟨w.heap.size+1,5,none⟩=some (.slice pA p.ks.length pcap):=(KP2.out.cell 5).trans (by simp)
 have cl:=KP2.out.lt
 go_wp2_with fail
 clear a0 a1 al c0 c1 c2 c3 c4 c5 cl
 refine (spec_PatternValid xs t p hpz w2 _ F _ G (ArrDt.below HX.out hB2 HF.out) (HF.out.mono hB2.size) (HP.out.below hB2 HG.out) (HG.out.mono hB2.size)).mono ?_
 rintro e w3 ⟨rfl,hb3⟩
 have KT3:=jj (KT2.out.same (hb3.block _ KT2.out.lt))
 have KP3:=jj (KP2.out.same (hb3.block _ KP2.out.lt))
 have hB3:=hB2.trans (hb3.mono hB2.size)
 clear hB2 hb3 KT2 KP2
 cases hpv:patternValidB xs t p with
 |false =>
  have hno:splitB xs t p=false:=by unfold splitB;rw [hpv];rfl
  have HNO:=jj hno
  clear hno hpv
  have HFin:Hid (MadeSps (splitV xs t p) (splitB xs t p) w (.returned (.tuple #[.slice (some ⟨w3.heap.size,0,none⟩) 0 0,.bool false])) (w3.alloc (.cells #[] 38))):=by
   rw [splitV_no HNO.out,HNO.out]
   exact ⟨_,[],rfl,hB3.alloc hB3.size _,⟨_,_,rfl,zz8 _,by simp [maxLen],.inl ⟨rfl,rfl⟩⟩,Free.nil _,Fresh.nil _ _⟩
  go_wp2
  go_ret2
  exact HFin.out
 |true =>
  obtain ⟨hsh,hsz⟩:=valid_shp hpv
  have HSH:=jj hsh
  have HEQ:Hid (splitB xs t p=decide ((P.spl p).length≤400)):=by unfold Hid splitB;rw [hpv];rfl
  clear hsh hpv
  have a0:w3.cell? ⟨w.heap.size,0,none⟩=some (.int .i64 t.d):=(KT3.out.cell 0).trans (by simp)
  have a1:w3.cell? ⟨w.heap.size,1,none⟩=some (.int .i64 t.i):=(KT3.out.cell 1).trans (by simp)
  have al:=KT3.out.lt
  have c0:w3.cell? ⟨w.heap.size+1,0,none⟩=some (.int .i64 p.op):=(KP3.out.cell 0).trans (by simp)
  have c1:w3.cell? ⟨w.heap.size+1,1,none⟩=some (.int .i64 p.ct):=(KP3.out.cell 1).trans (by simp)
  have c2:w3.cell? ⟨w.heap.size+1,2,none⟩=some (.int .i64 p.n):=(KP3.out.cell 2).trans (by simp)
  have c3:w3.cell? ⟨w.heap.size+1,3,none⟩=some (.int .i64 p.m):=(KP3.out.cell 3).trans (by simp)
  have c4:w3.cell? ⟨w.heap.size+1,4,none⟩=some (.int .i64 p.va):=(KP3.out.cell 4).trans (by simp)
  have c5:w3.cell? ⟨w.heap.size+1,5,none⟩=some (.slice pA p.ks.length pcap):=(KP3.out.cell 5).trans (by simp)
  have cl:=KP3.out.lt
  go_wp2_with fail
  clear a0 a1 al c0 c1 c2 c3 c4 c5 cl
  refine (spec_l3Split p w3 _ G (HP.out.below hB3 HG.out) (HG.out.mono hB3.size) HSH.out (by omega)).mono ?_
  rintro e w4 ⟨v4,F4,rfl,hb4,ho4,hF4⟩
  have hB4:=hB3.trans (hb4.mono hB3.size)
  have HA4:=jj ho4.arr
  have HU4:=jj ho4.under_ifP
  obtain ⟨A4,cap4,rfl,-,-⟩:=ho4.form
  have hbig:=cutVP_big (P.spl p)
  clear hb4 ho4 hF4 KT3 KP3
  by_cases hc:(P.spl p).length≤400
  ·have e3:decide (((cutVP (P.spl p)).length:Int)>400)=false:=by simp;omega
   have hyes:splitB xs t p=true:=by rw [HEQ.out];exact decide_eq_true hc
   have HE:Hid (splitB xs t p=true):=hyes
   have HV:=jj (splitV_yes hyes)
   have HSM:Hid (∀ q∈cutVP (P.spl p),q.size≤1048576):=fun q hq=>by have:=spl_size p q (List.mem_of_mem_take hq);omega
   have HCS:=jj (cutVP_short (l:=P.spl p) (by omega))
   have hl5:=cutVP_len (P.spl p)
   clear hbig hyes
   generalize hK:(if cutVP (P.spl p)=[] then [] else rowOf (.slice A4 (cutVP (P.spl p)).length cap4) ++ F4)=GG at *
   clear hK
   generalize cutVP (P.spl p)=L at *
   go_wp2_with fail
   refine (spec_l3All L w4 _ _ HA4.out HU4.out HSM.out (by omega)).mono ?_
   rintro e w6 ⟨v6,F6,rfl,hb6,ha6,hfr6,hfs6⟩
   have HFin:Hid (MadeSps (splitV xs t p) (splitB xs t p) w (.returned (.tuple #[v6,.bool true])) w6):=by
    rw [HV.out,HE.out,←HCS.out]
    exact ⟨v6,F6,rfl,hB4.trans (hb6.mono hB4.size),ha6,hfr6,fun b hb=>⟨Nat.le_trans hB4.size (hfs6 b hb).1,(hfs6 b hb).2⟩⟩
   clear hb6 ha6 hfr6 hfs6
   go_wp2
   go_ret2
   exact HFin.out
  ·have e3:decide (((cutVP (P.spl p)).length:Int)>400)=true:=by simp;omega
   have hno:splitB xs t p=false:=by rw [HEQ.out];exact decide_eq_false hc
   have HNO:=jj hno
   clear hbig hc hno
   have HFin:Hid (MadeSps (splitV xs t p) (splitB xs t p) w (.returned (.tuple #[.slice (some ⟨w4.heap.size,0,none⟩) 0 0,.bool false])) (w4.alloc (.cells #[] 38))):=by
    rw [splitV_no HNO.out,HNO.out]
    exact ⟨_,[],rfl,hB4.alloc hB4.size _,⟨_,_,rfl,zz8 _,by simp [maxLen],.inl ⟨rfl,rfl⟩⟩,Free.nil _,Fresh.nil _ _⟩
   clear HA4 HU4
   generalize cutVP (P.spl p)=L at *
   go_wp2
   go_ret2
   exact HFin.out
theorem conv1 (w:World) (x:Int):(convert 71 9 (.slice (some ⟨w.heap.size,0,none⟩) 1 1)).run Try.prog (w.alloc (.cells #[.int .u8 x] 5))=.ok (.string (strOfNums [x])) (w.alloc (.cells #[.int .u8 x] 5)) :=
 run_convert_bytes_arg _ 71 5 Try.underlying71 Try.underlying5 w.heap.size 0 1 1 [x] rfl (fun i hi=>by
  obtain rfl:i=0:=by omega
  exact ((Blk.new w 5 #[.int .u8 x]).cell 0).trans (by simp)) 9 Try.underlying9
theorem data_append (a b:ByteArray):(a ++ b).data.toList=a.data.toList ++ b.data.toList:=by rw [ByteArray.data_append,Array.toList_append]
theorem size_append (a b:ByteArray):(a ++ b).size=a.size+b.size:=by show (a ++ b).data.size=_;rw [ByteArray.data_append,Array.size_append];rfl
theorem bytes_ext {a b:ByteArray} (h:a.data.toList=b.data.toList):a=b:=by
 cases a;cases b
 simp at h
 rw [h]
def digs (n:Nat):List UInt8:=if h:n=0 then [] else digs (n / 10) ++ [UInt8.ofNat (48+n % 10)]
termination_by n
decreasing_by omega
def mtext (k:Int):ByteArray:=if k≤0 then ⟨#[109,48]⟩ else ⟨(109 :: digs k.toNat).toArray⟩
theorem digs_zero:digs 0=[]:=by rw [digs];rfl
theorem digs_pos (n:Nat) (h:0<n):digs n=digs (n / 10) ++ [UInt8.ofNat (48+n % 10)]:=by rw [digs,dif_neg (by omega)]
theorem digs_len (n:Nat):(digs n).length≤n:=by
 induction n using Nat.strongRecOn with
 |ind n ih =>
  rcases Nat.eq_zero_or_pos n with rfl | h
  ·rw [digs_zero];exact zz8 _
  ·rw [digs_pos n h,List.length_append,List.length_singleton]
   have:=ih (n / 10) (by omega)
   omega
theorem mtext_le (k:Int) (h0:0≤k) (h:k≤1099511627776):(mtext k).size≤9223372036854775807:=by
 unfold mtext
 split
 ·decide
 ·have:=digs_len k.toNat
  show (109 :: digs k.toNat).toArray.size≤_
  rw [List.size_toArray,List.length_cons]
  omega
theorem markText_any (k:Int) (w:World) (h0:0≤k) (hk:k≤1099511627776):Calls Try.prog 30 #[.int .i64 k] w fun e w'=>e=.returned (.string (mtext k))∧Below w.heap.size w w':=by
 by_cases hz:k≤0
 ·have hf:Hid (mtext k=⟨#[109,48]⟩):=by unfold Hid mtext;rw [if_pos hz]
  go_enter Try.func30,Try.ntmps30
  go_wp2
  go_ret
  exact ⟨by rw [hf.out];rfl,zy2 _ _⟩
 ·obtain ⟨n0,rfl⟩:=Int.eq_ofNat_of_zero_le h0
  have hf:Hid (mtext (n0:Int)=⟨(109 :: digs n0).toArray⟩):=by unfold Hid mtext;rw [if_neg hz];rfl
  have hkn:n0≤1099511627776:=by omega
  go_enter Try.func30,Try.ntmps30
  go_wp2
  go_loopw [0,3] (fun kv ov wr=>∃ n:Nat,∃ out:ByteArray,kv=.int .i64 n∧ov=.string out∧n≤1099511627776∧Hid (digs n0=digs n ++ out.data.toList)∧out.size+n≤n0∧Below w.heap.size w wr) (fun kv _ _=>(intOf kv).toNat)
  case atStart=>exact ⟨n0,⟨#[]⟩,rfl,rfl,hkn,(show digs n0=digs n0 ++ [] from (List.append_nil _).symm),(by show 0+n0≤n0;omega),zy2 _ _⟩
  case round =>
   obtain ⟨n,out,rfl,rfl,hn,HD,hsz,hB⟩:=hrel
   by_cases hlt:0<n
   ·have g1:(0:Int)≤(n:Int):=by omega
    have g2:(0:Int)<(n:Int):=by omega
    have hcv:=conv1 wr (48+(n:Int) % 10)
    have hdg:=digs_pos n hlt
    have HD2:Hid (digs n0=digs (n / 10) ++ (strOfNums [48+(n:Int) % 10] ++ out).data.toList):=by
     unfold Hid
     rw [HD.out,hdg,data_append,strOfNums_data,List.append_assoc]
     congr 3
     all_goals (simp only [List.map_cons,List.map_nil];try (congr 2;omega))
    have hs2:(strOfNums [48+(n:Int) % 10] ++ out).size+n / 10≤n0:=by rw [size_append,strOfNums_size];simp only [List.length_singleton];omega
    have HS2:=jj hs2
    have hcat:(strOfNums [48+(n:Int) % 10]).size+out.size≤9223372036854775807:=by rw [strOfNums_size];simp only [List.length_singleton];omega
    clear hs2 hdg
    go_wp2
    go_roundw
    case rel=>exact ⟨n / 10,_,(by go_num),rfl,by omega,HD2,HS2.out,hB.alloc hB.size _⟩
    case measure=>(simp [intOf] <;> omega)
   ·obtain rfl:n=0:=by omega
    have hfin:mtext (n0:Int)=⟨#[109]⟩ ++ out:=by
     rw [hf.out]
     refine bytes_ext ?_
     rw [data_append]
     have h:=HD.out
     rw [digs_zero,List.nil_append] at h
     rw [←h]
     simp
    have HFin:=jj hfin
    clear hfin
    go_wp2
    go_ret
    exact ⟨by rw [HFin.out];rfl,hB⟩
mutual
def cntP:P→Nat
 |⟨_,_,_,_,_,ks⟩=>5+cntsP ks
def cntsP:List P→Nat
 |[]=>0
 |x :: xs=>cntP x+cntsP xs
end
mutual
def mkP (k:Int):P→P
 |⟨_,_,_,_,_,ks⟩=>⟨k,k+1,k+1+1,k+1+1+1,k+1+1+1+1,mksP (k+1+1+1+1+1) ks⟩
def mksP (k:Int):List P→List P
 |[]=>[]
 |x :: xs=>mkP k x :: mksP (k+cntP x) xs
end
theorem cntsP_eq (xs:List P):cntsP xs=sumBy cntP xs:=by
 induction xs with
 |nil=>rfl
 |cons x xs ih=>rw [cntsP,sumBy,ih]
theorem mksP_eq (xs:List P):∀ k,mksP k xs=mkS mkP cntP k xs:=by
 induction xs with
 |nil=>intro k;rfl
 |cons x xs ih=>intro k;rw [mksP,mkS,ih]
theorem cntP_def (x:P):cntP x=5+sumBy cntP x.ks:=by obtain ⟨a0,a1,a2,a3,a4,ks⟩:=x;rw [cntP,cntsP_eq]
theorem mkP_def (k:Int) (x:P):mkP k x=⟨k,k+1,k+1+1,k+1+1+1,k+1+1+1+1,mkS mkP cntP (k+1+1+1+1+1) x.ks⟩:=by obtain ⟨a0,a1,a2,a3,a4,ks⟩:=x;rw [mkP,mksP_eq]
theorem cntsP_le (xs:List P):sumBy cntP xs≤16*P.sizes xs:=by
 have h:∀ x:P,cntP x≤16+16*x.size:=P.ind fun a0 a1 a2 a3 a4 ks ih=>by
  have h2:∀ l:List P,(∀ x∈l,cntP x≤16+16*x.size)→sumBy cntP l≤16*P.sizes l:=by
   intro l
   induction l with
   |nil=>intro _;exact Nat.zero_le _
   |cons x l ih2 =>
    intro hl
    have h3:=ih2 fun y hy=>hl y (by simp [hy])
    have h4:=hl x (by simp)
    simp only [sumBy,P.sizes]
    omega
  have h5:=h2 ks ih
  rw [cntP_def]
  show _≤16+16*P.sizes ks
  simp only
  omega
 induction xs with
 |nil=>exact Nat.zero_le _
 |cons x xs ih =>
  have h1:=h x
  simp only [sumBy,P.sizes]
  omega
def MarkP (x:P):Prop:=∀ (w:World) (v:Value) (F:List Nat) (k0:Int),0≤k0→k0+(sumBy cntP x.ks:Nat)≤1099511627776→Arr w (PR w) x.ks v F→Free w F→Under w.heap.size F →
 Calls Try.prog 16 #[v,.int .i64 k0] w fun e w'=>e=.returned (.int .i64 (k0+(sumBy cntP x.ks:Nat)))∧Chg F w w'∧Arr w' (PR w') (mkS mkP cntP k0 x.ks) v F∧Free w' F
theorem markPatternS_of (xs:List P) (ih:∀ x∈xs,MarkP x) (w:World) (v:Value) (F:List Nat) (k0:Int) (h0:0≤k0) (hk:k0+(sumBy cntP xs:Nat)≤1099511627776) (hx:Arr w (PR w) xs v F) (hfr:Free w F) (hf:Under w.heap.size F) :
  Calls Try.prog 16 #[v,.int .i64 k0] w fun e w'=>e=.returned (.int .i64 (k0+(sumBy cntP xs:Nat)))∧Chg F w w'∧Arr w' (PR w') (mkS mkP cntP k0 xs) v F∧Free w' F:=by
 have HX:=jj (And.intro hx (And.intro hfr (Chg.refl F w)))
 obtain ⟨A,cap,rfl,hc1,hc2⟩:=hx.form
 have HF:=jj hf
 have HK:=jj hk
 have IH:=jj ih
 clear hx hfr hf hk ih
 go_enter Try.func16,Try.ntmps16
 go_wp2
 go_loopw [1,5] (fun kv iv wr=>∃ i:Nat,∃ m:Int,i≤xs.length∧iv=.int .i64 i∧kv=.int .i64 m∧0≤m∧Hid (m=k0+(sumBy cntP (xs.take i):Nat))∧Hid (Arr wr (PR wr) (mkTo mkP cntP k0 xs i) (.slice A xs.length cap) F∧Free wr F∧Chg F w wr)) (fun _ iv _=>xs.length-(intOf iv).toNat)
 case atStart=>exact ⟨0,k0,Nat.zero_le _,rfl,rfl,h0,(by simp [Hid,sumBy]),HX⟩
 case round =>
  obtain ⟨i,m,hi,rfl,rfl,hm0,HM,HR⟩:=hrel
  by_cases hlt:i<xs.length
  ·have g1:(0:Int)≤(i:Int):=by omega
   have g2:(i:Int)<(xs.length:Int):=by omega
   obtain ⟨b,off,c,F1,F2,F3,cap',hv,hFe,hc,hr,hfr2,hnb,hbl,hfz,hu2,hclose⟩:=HR.out.1.focus (fun w=>PR_len (w:=w)) (fun w w' x cs G hk h=>PR.mono (w:=w) (w':=w') x cs G hk h) HR.out.2.1 (HF.out.mono HR.out.2.2.size) (i:=i) (by rw [mkTo_length];exact hlt)
   obtain rfl:A=some ⟨b,off,none⟩:=by injection hv
   rw [mkTo_get hlt] at hr
   have hsum:m+(cntP xs[i]:Nat)≤1099511627776:=by
    have h1:=HM.out
    have h2:=HK.out
    have h3:=zAD cntP xs (i+1)
    rw [zA3 cntP xs i hlt] at h3
    omega
   have HCl:=jj hclose
   have HHv:=jj hv
   have HFe:=jj hFe
   clear hclose hv hFe
   obtain ⟨kv,rfl,ha⟩:=(zA4 _ _ _).1 hr
   obtain ⟨A1,cap1,rfl,-,-⟩:=ha.form
   have hcd:=cntP_def xs[i]
   rw [hcd] at hsum
   have x0:wr.cell? ⟨b,off+i*6,none⟩=some (.int .i64 xs[i].op):=hc 0 _ rfl
   have x1:wr.cell? ⟨b,off+i*6+1,none⟩=some (.int .i64 xs[i].ct):=hc 1 _ rfl
   have x2:wr.cell? ⟨b,off+i*6+2,none⟩=some (.int .i64 xs[i].n):=hc 2 _ rfl
   have x3:wr.cell? ⟨b,off+i*6+3,none⟩=some (.int .i64 xs[i].m):=hc 3 _ rfl
   have x4:wr.cell? ⟨b,off+i*6+4,none⟩=some (.int .i64 xs[i].va):=hc 4 _ rfl
   have x5:wr.cell? ⟨b,off+i*6+5,none⟩=some (.slice A1 xs[i].ks.length cap1):=hc 5 _ rfl
   clear hc
   have HA:=jj ha
   have HFr2:=jj hfr2
   have HU2:=jj hu2
   have HNB:=jj hnb
   clear ha hfr2 hu2 hnb
   have hsn:(0:Int)≤(sumBy cntP xs[i].ks:Nat):=by omega
   generalize hsg:sumBy cntP xs[i].ks=s at *
   have HSG:=jj hsg
   have HCD:=jj hcd
   clear hsg hcd
   have HFz:=jj hfz
   clear hfz
   have U0:=jj (Upd.refl b (off+i*6) 6 F2 wr)
   have K0:=jj (Kept.refl F2 wr)
   have z0:wr.frozen? ⟨b,off+i*6,none⟩=false:=(U0.out.froz _).trans (HFz.out _)
   have z1:wr.frozen? ⟨b,off+i*6+1,none⟩=false:=(U0.out.froz _).trans (HFz.out _)
   have z2:wr.frozen? ⟨b,off+i*6+2,none⟩=false:=(U0.out.froz _).trans (HFz.out _)
   have z3:wr.frozen? ⟨b,off+i*6+3,none⟩=false:=(U0.out.froz _).trans (HFz.out _)
   have z4:wr.frozen? ⟨b,off+i*6+4,none⟩=false:=(U0.out.froz _).trans (HFz.out _)
   go_wp2_with fail
   have U1:=jj (U0.out.set (j:=off+i*6) (by omega) (by omega) (.int .i64 (m)))
   have K1:=jj (K0.out.set (b:=b) (j:=off+i*6) (u:=.int .i64 (m)) HNB.out)
   have y0:(wr.setCell ⟨b,off+i*6,none⟩ (.int .i64 (m))).cell? ⟨b,off+i*6,none⟩=some (.int .i64 (m)):=World.cell?_setCell_same _ _ _ x0
   have y1:=(World.cell?_setCell_other _ ⟨b,off+i*6,none⟩ ⟨b,off+i*6+1,none⟩ (.int .i64 (m)) (by intro e;injection e;omega)).trans x1
   have y2:=(World.cell?_setCell_other _ ⟨b,off+i*6,none⟩ ⟨b,off+i*6+2,none⟩ (.int .i64 (m)) (by intro e;injection e;omega)).trans x2
   have y3:=(World.cell?_setCell_other _ ⟨b,off+i*6,none⟩ ⟨b,off+i*6+3,none⟩ (.int .i64 (m)) (by intro e;injection e;omega)).trans x3
   have y4:=(World.cell?_setCell_other _ ⟨b,off+i*6,none⟩ ⟨b,off+i*6+4,none⟩ (.int .i64 (m)) (by intro e;injection e;omega)).trans x4
   have y5:=(World.cell?_setCell_other _ ⟨b,off+i*6,none⟩ ⟨b,off+i*6+5,none⟩ (.int .i64 (m)) (by intro e;injection e;omega)).trans x5
   clear x0 x1 x2 x3 x4 x5
   have x0:=y0
   have x1:=y1
   have x2:=y2
   have x3:=y3
   have x4:=y4
   have x5:=y5
   clear y0 y1 y2 y3 y4 y5
   have U2:=jj (U1.out.set (j:=off+i*6+1) (by omega) (by omega) (.int .i64 (m+1)))
   have K2:=jj (K1.out.set (b:=b) (j:=off+i*6+1) (u:=.int .i64 (m+1)) HNB.out)
   have y0:=(World.cell?_setCell_other _ ⟨b,off+i*6+1,none⟩ ⟨b,off+i*6,none⟩ (.int .i64 (m+1)) (by intro e;injection e;omega)).trans x0
   have y1:((wr.setCell ⟨b,off+i*6,none⟩ (.int .i64 (m))).setCell ⟨b,off+i*6+1,none⟩ (.int .i64 (m+1))).cell? ⟨b,off+i*6+1,none⟩=some (.int .i64 (m+1)):=World.cell?_setCell_same _ _ _ x1
   have y2:=(World.cell?_setCell_other _ ⟨b,off+i*6+1,none⟩ ⟨b,off+i*6+2,none⟩ (.int .i64 (m+1)) (by intro e;injection e;omega)).trans x2
   have y3:=(World.cell?_setCell_other _ ⟨b,off+i*6+1,none⟩ ⟨b,off+i*6+3,none⟩ (.int .i64 (m+1)) (by intro e;injection e;omega)).trans x3
   have y4:=(World.cell?_setCell_other _ ⟨b,off+i*6+1,none⟩ ⟨b,off+i*6+4,none⟩ (.int .i64 (m+1)) (by intro e;injection e;omega)).trans x4
   have y5:=(World.cell?_setCell_other _ ⟨b,off+i*6+1,none⟩ ⟨b,off+i*6+5,none⟩ (.int .i64 (m+1)) (by intro e;injection e;omega)).trans x5
   clear x0 x1 x2 x3 x4 x5
   have x0:=y0
   have x1:=y1
   have x2:=y2
   have x3:=y3
   have x4:=y4
   have x5:=y5
   clear y0 y1 y2 y3 y4 y5
   have U3:=jj (U2.out.set (j:=off+i*6+2) (by omega) (by omega) (.int .i64 (m+1+1)))
   have K3:=jj (K2.out.set (b:=b) (j:=off+i*6+2) (u:=.int .i64 (m+1+1)) HNB.out)
   have y0:=(World.cell?_setCell_other _ ⟨b,off+i*6+2,none⟩ ⟨b,off+i*6,none⟩ (.int .i64 (m+1+1)) (by intro e;injection e;omega)).trans x0
   have y1:=(World.cell?_setCell_other _ ⟨b,off+i*6+2,none⟩ ⟨b,off+i*6+1,none⟩ (.int .i64 (m+1+1)) (by intro e;injection e;omega)).trans x1
   have y2:(((wr.setCell ⟨b,off+i*6,none⟩ (.int .i64 (m))).setCell ⟨b,off+i*6+1,none⟩ (.int .i64 (m+1))).setCell ⟨b,off+i*6+2,none⟩ (.int .i64 (m+1+1))).cell? ⟨b,off+i*6+2,none⟩=some (.int .i64 (m+1+1)):=World.cell?_setCell_same _ _ _ x2
   have y3:=(World.cell?_setCell_other _ ⟨b,off+i*6+2,none⟩ ⟨b,off+i*6+3,none⟩ (.int .i64 (m+1+1)) (by intro e;injection e;omega)).trans x3
   have y4:=(World.cell?_setCell_other _ ⟨b,off+i*6+2,none⟩ ⟨b,off+i*6+4,none⟩ (.int .i64 (m+1+1)) (by intro e;injection e;omega)).trans x4
   have y5:=(World.cell?_setCell_other _ ⟨b,off+i*6+2,none⟩ ⟨b,off+i*6+5,none⟩ (.int .i64 (m+1+1)) (by intro e;injection e;omega)).trans x5
   clear x0 x1 x2 x3 x4 x5
   have x0:=y0
   have x1:=y1
   have x2:=y2
   have x3:=y3
   have x4:=y4
   have x5:=y5
   clear y0 y1 y2 y3 y4 y5
   have U4:=jj (U3.out.set (j:=off+i*6+3) (by omega) (by omega) (.int .i64 (m+1+1+1)))
   have K4:=jj (K3.out.set (b:=b) (j:=off+i*6+3) (u:=.int .i64 (m+1+1+1)) HNB.out)
   have y0:=(World.cell?_setCell_other _ ⟨b,off+i*6+3,none⟩ ⟨b,off+i*6,none⟩ (.int .i64 (m+1+1+1)) (by intro e;injection e;omega)).trans x0
   have y1:=(World.cell?_setCell_other _ ⟨b,off+i*6+3,none⟩ ⟨b,off+i*6+1,none⟩ (.int .i64 (m+1+1+1)) (by intro e;injection e;omega)).trans x1
   have y2:=(World.cell?_setCell_other _ ⟨b,off+i*6+3,none⟩ ⟨b,off+i*6+2,none⟩ (.int .i64 (m+1+1+1)) (by intro e;injection e;omega)).trans x2
   have y3:((((wr.setCell ⟨b,off+i*6,none⟩ (.int .i64 (m))).setCell ⟨b,off+i*6+1,none⟩ (.int .i64 (m+1))).setCell ⟨b,off+i*6+2,none⟩ (.int .i64 (m+1+1))).setCell ⟨b,off+i*6+3,none⟩ (.int .i64 (m+1+1+1))).cell? ⟨b,off+i*6+3,none⟩=some (.int .i64 (m+1+1+1)):=World.cell?_setCell_same _ _ _ x3
   have y4:=(World.cell?_setCell_other _ ⟨b,off+i*6+3,none⟩ ⟨b,off+i*6+4,none⟩ (.int .i64 (m+1+1+1)) (by intro e;injection e;omega)).trans x4
   have y5:=(World.cell?_setCell_other _ ⟨b,off+i*6+3,none⟩ ⟨b,off+i*6+5,none⟩ (.int .i64 (m+1+1+1)) (by intro e;injection e;omega)).trans x5
   clear x0 x1 x2 x3 x4 x5
   have x0:=y0
   have x1:=y1
   have x2:=y2
   have x3:=y3
   have x4:=y4
   have x5:=y5
   clear y0 y1 y2 y3 y4 y5
   have U5:=jj (U4.out.set (j:=off+i*6+4) (by omega) (by omega) (.int .i64 (m+1+1+1+1)))
   have K5:=jj (K4.out.set (b:=b) (j:=off+i*6+4) (u:=.int .i64 (m+1+1+1+1)) HNB.out)
   have y0:=(World.cell?_setCell_other _ ⟨b,off+i*6+4,none⟩ ⟨b,off+i*6,none⟩ (.int .i64 (m+1+1+1+1)) (by intro e;injection e;omega)).trans x0
   have y1:=(World.cell?_setCell_other _ ⟨b,off+i*6+4,none⟩ ⟨b,off+i*6+1,none⟩ (.int .i64 (m+1+1+1+1)) (by intro e;injection e;omega)).trans x1
   have y2:=(World.cell?_setCell_other _ ⟨b,off+i*6+4,none⟩ ⟨b,off+i*6+2,none⟩ (.int .i64 (m+1+1+1+1)) (by intro e;injection e;omega)).trans x2
   have y3:=(World.cell?_setCell_other _ ⟨b,off+i*6+4,none⟩ ⟨b,off+i*6+3,none⟩ (.int .i64 (m+1+1+1+1)) (by intro e;injection e;omega)).trans x3
   have y4:(((((wr.setCell ⟨b,off+i*6,none⟩ (.int .i64 (m))).setCell ⟨b,off+i*6+1,none⟩ (.int .i64 (m+1))).setCell ⟨b,off+i*6+2,none⟩ (.int .i64 (m+1+1))).setCell ⟨b,off+i*6+3,none⟩ (.int .i64 (m+1+1+1))).setCell ⟨b,off+i*6+4,none⟩ (.int .i64 (m+1+1+1+1))).cell? ⟨b,off+i*6+4,none⟩=some (.int .i64 (m+1+1+1+1)):=World.cell?_setCell_same _ _ _ x4
   have y5:=(World.cell?_setCell_other _ ⟨b,off+i*6+4,none⟩ ⟨b,off+i*6+5,none⟩ (.int .i64 (m+1+1+1+1)) (by intro e;injection e;omega)).trans x5
   clear x0 x1 x2 x3 x4 x5
   have x0:=y0
   have x1:=y1
   have x2:=y2
   have x3:=y3
   have x4:=y4
   have x5:=y5
   clear y0 y1 y2 y3 y4 y5
   refine (IH.out _ (List.getElem_mem hlt) _ _ F2 (m+1+1+1+1+1) (by omega) (by rw [HSG.out];omega) (HA.out.mono K5.out (fun x _ cs G hk h=>(fun w w' x cs G hk h=>PR.mono (w:=w) (w':=w') x cs G hk h) _ _ x cs G hk h)) (HFr2.out.kept K5.out) (HU2.out.mono U5.out.size)).mono ?_
   rintro e v1 ⟨rfl,hg1,hm1,hfr1⟩
   have hlE1:b<(((((wr.setCell ⟨b,off+i*6,none⟩ (.int .i64 (m))).setCell ⟨b,off+i*6+1,none⟩ (.int .i64 (m+1))).setCell ⟨b,off+i*6+2,none⟩ (.int .i64 (m+1+1))).setCell ⟨b,off+i*6+3,none⟩ (.int .i64 (m+1+1+1))).setCell ⟨b,off+i*6+4,none⟩ (.int .i64 (m+1+1+1+1))).heap.size:=zz9 hbl U5.out.size
   have U6:=jj (U5.out.sub hg1 HNB.out hlE1)
   have y0:=(World.cell?_of_block (w:=(((((wr.setCell ⟨b,off+i*6,none⟩ (.int .i64 (m))).setCell ⟨b,off+i*6+1,none⟩ (.int .i64 (m+1))).setCell ⟨b,off+i*6+2,none⟩ (.int .i64 (m+1+1))).setCell ⟨b,off+i*6+3,none⟩ (.int .i64 (m+1+1+1))).setCell ⟨b,off+i*6+4,none⟩ (.int .i64 (m+1+1+1+1)))) (a:=⟨b,off+i*6,none⟩) (hg1.block b hlE1 HNB.out)).trans x0
   have y1:=(World.cell?_of_block (w:=(((((wr.setCell ⟨b,off+i*6,none⟩ (.int .i64 (m))).setCell ⟨b,off+i*6+1,none⟩ (.int .i64 (m+1))).setCell ⟨b,off+i*6+2,none⟩ (.int .i64 (m+1+1))).setCell ⟨b,off+i*6+3,none⟩ (.int .i64 (m+1+1+1))).setCell ⟨b,off+i*6+4,none⟩ (.int .i64 (m+1+1+1+1)))) (a:=⟨b,off+i*6+1,none⟩) (hg1.block b hlE1 HNB.out)).trans x1
   have y2:=(World.cell?_of_block (w:=(((((wr.setCell ⟨b,off+i*6,none⟩ (.int .i64 (m))).setCell ⟨b,off+i*6+1,none⟩ (.int .i64 (m+1))).setCell ⟨b,off+i*6+2,none⟩ (.int .i64 (m+1+1))).setCell ⟨b,off+i*6+3,none⟩ (.int .i64 (m+1+1+1))).setCell ⟨b,off+i*6+4,none⟩ (.int .i64 (m+1+1+1+1)))) (a:=⟨b,off+i*6+2,none⟩) (hg1.block b hlE1 HNB.out)).trans x2
   have y3:=(World.cell?_of_block (w:=(((((wr.setCell ⟨b,off+i*6,none⟩ (.int .i64 (m))).setCell ⟨b,off+i*6+1,none⟩ (.int .i64 (m+1))).setCell ⟨b,off+i*6+2,none⟩ (.int .i64 (m+1+1))).setCell ⟨b,off+i*6+3,none⟩ (.int .i64 (m+1+1+1))).setCell ⟨b,off+i*6+4,none⟩ (.int .i64 (m+1+1+1+1)))) (a:=⟨b,off+i*6+3,none⟩) (hg1.block b hlE1 HNB.out)).trans x3
   have y4:=(World.cell?_of_block (w:=(((((wr.setCell ⟨b,off+i*6,none⟩ (.int .i64 (m))).setCell ⟨b,off+i*6+1,none⟩ (.int .i64 (m+1))).setCell ⟨b,off+i*6+2,none⟩ (.int .i64 (m+1+1))).setCell ⟨b,off+i*6+3,none⟩ (.int .i64 (m+1+1+1))).setCell ⟨b,off+i*6+4,none⟩ (.int .i64 (m+1+1+1+1)))) (a:=⟨b,off+i*6+4,none⟩) (hg1.block b hlE1 HNB.out)).trans x4
   have y5:=(World.cell?_of_block (w:=(((((wr.setCell ⟨b,off+i*6,none⟩ (.int .i64 (m))).setCell ⟨b,off+i*6+1,none⟩ (.int .i64 (m+1))).setCell ⟨b,off+i*6+2,none⟩ (.int .i64 (m+1+1))).setCell ⟨b,off+i*6+3,none⟩ (.int .i64 (m+1+1+1))).setCell ⟨b,off+i*6+4,none⟩ (.int .i64 (m+1+1+1+1)))) (a:=⟨b,off+i*6+5,none⟩) (hg1.block b hlE1 HNB.out)).trans x5
   clear x0 x1 x2 x3 x4 x5 z0 z1 z2 z3 z4
   have x0:=y0
   have x1:=y1
   have x2:=y2
   have x3:=y3
   have x4:=y4
   have x5:=y5
   clear y0 y1 y2 y3 y4 y5
   have hb11:b<v1.heap.size:=zz9 hbl U6.out.size
   have z0:v1.frozen? ⟨b,off+i*6,none⟩=false:=(U6.out.froz _).trans (HFz.out _)
   have z1:v1.frozen? ⟨b,off+i*6+1,none⟩=false:=(U6.out.froz _).trans (HFz.out _)
   have z2:v1.frozen? ⟨b,off+i*6+2,none⟩=false:=(U6.out.froz _).trans (HFz.out _)
   have z3:v1.frozen? ⟨b,off+i*6+3,none⟩=false:=(U6.out.froz _).trans (HFz.out _)
   have z4:v1.frozen? ⟨b,off+i*6+4,none⟩=false:=(U6.out.froz _).trans (HFz.out _)
   have HMk:=jj hm1
   have HFrk:=jj hfr1
   have hgs1:=hg1.size
   clear hm1 hfr1 hg1 hlE1
   have K6:=jj (Kept.refl F2 v1)
   rw [HSG.out]
   have X0:=jj x0
   have X1:=jj x1
   have X2:=jj x2
   have X3:=jj x3
   have X4:=jj x4
   have X5:=jj x5
   have hfin:=HCl.out v1 (mkP m xs[i]) _ U6.out (CellsAt.cons X0.out (CellsAt.cons X1.out (CellsAt.cons X2.out (CellsAt.cons X3.out (CellsAt.cons X4.out (CellsAt.cons X5.out (CellsAt.nil _ _ _))))))) (by obtain rfl:=HSG.out;rw [mkP_def];exact (zA4 _ _ _).2 ⟨_,rfl,(HMk.out.mono K6.out (fun x _ cs G hk h=>(fun w w' x cs G hk h=>PR.mono (w:=w) (w':=w') x cs G hk h) _ _ x cs G hk h))⟩) (HFrk.out.kept K6.out)
   have hst:(mkTo mkP cntP k0 xs i).set i (mkP m xs[i])=mkTo mkP cntP k0 xs (i+1):=by rw [HM.out];exact mkTo_step hlt
   rw [hst] at hfin
   clear hst
   have HFin:=jj (And.intro hfin.1 (And.intro hfin.2.1 (HR.out.2.2.trans hfin.2.2)))
   clear hfin
   have HM2:Hid (m+1+1+1+1+1+(s:Int)=k0+(sumBy cntP (xs.take (i+1)):Nat)):=by
    have h1:=HM.out
    have h2:=HCD.out
    unfold Hid
    rw [zA3 cntP xs i hlt]
    omega
   go_wp2
   go_roundw
   case rel=>exact ⟨i+1,m+1+1+1+1+1+(s:Int),by omega,by go_num,rfl,by omega,HM2,HFin.out⟩
   case measure=>(simp [intOf] <;> omega)
  ·have HEnd:Hid (Chg F w wr∧Arr wr (PR wr) (mkS mkP cntP k0 xs) (.slice A xs.length cap) F∧Free wr F):=by
    have h:=HR.out
    rw [mkTo_all k0 xs (by omega)] at h
    exact ⟨h.2.2,h.1,h.2.1⟩
   have hf:Hid (m=k0+(sumBy cntP xs:Nat)):=by
    have h:=HM.out
    rwa [List.take_of_length_le (by omega)] at h
   go_wp2
   go_ret
   exact ⟨zA6 hf.out,HEnd.out⟩
theorem markP_all:∀ x,MarkP x:=P.ind fun a0 a1 a2 a3 a4 ks ih w v F k0 h0 hk hx hfr hf=>markPatternS_of ks ih w v F k0 h0 hk hx hfr hf
theorem markPatternS_any (xs:List P) (w:World) (v:Value) (F:List Nat) (k0:Int) (h0:0≤k0) (hk:k0+(sumBy cntP xs:Nat)≤1099511627776) (hx:Arr w (PR w) xs v F) (hfr:Free w F) (hf:Under w.heap.size F) :
  Calls Try.prog 16 #[v,.int .i64 k0] w fun e w'=>e=.returned (.int .i64 (k0+(sumBy cntP xs:Nat)))∧Chg F w w'∧Arr w' (PR w') (mkS mkP cntP k0 xs) v F∧Free w' F:=markPatternS_of xs (fun x _=>markP_all x) w v F k0 h0 hk hx hfr hf
def mkTopP (k:Int) (x:P):P:=⟨x.op,x.ct,x.n,x.m,x.va,mkS mkP cntP k x.ks⟩
theorem markPattern_any (x:P) (w:World) (cs:List Value) (F:List Nat) (k0:Int) (h0:0≤k0) (hk:k0+(sumBy cntP x.ks:Nat)≤1099511627776) (hx:PR w x cs F) (hfr:Free w F) (hf:Under w.heap.size F) :
  Calls Try.prog 15 #[.agg cs.toArray,.int .i64 k0] w fun e w'=>e=.returned (.int .i64 (k0+(sumBy cntP x.ks:Nat)))∧Chg F w w'∧PR w' (mkTopP k0 x) cs F∧Free w' F:=by
 obtain ⟨kv,rfl,ha⟩:=(zA4 _ _ _).1 hx
 obtain ⟨A,cap,rfl,-,-⟩:=ha.form
 have HA:=jj ha
 have HF:=jj hf
 have HFR:=jj hfr
 have HK:=jj hk
 clear hx ha hf hfr hk
 go_enter Try.func15,Try.ntmps15
 go_wp2_with fail
 obtain ⟨w1,hw1⟩:∃ w1,w1=w.alloc (.cells #[.int .i64 x.op,.int .i64 x.ct,.int .i64 x.n,.int .i64 x.m,.int .i64 x.va,.slice A x.ks.length cap] 38):=⟨_,rfl⟩
 have hb1:Below w.heap.size w w1:=by rw [hw1];exact (zy2 _ _).alloc (zz8 _) _
 have KV:Blk w1 w.heap.size 38 #[.int .i64 x.op,.int .i64 x.ct,.int .i64 x.n,.int .i64 x.m,.int .i64 x.va,.slice A x.ks.length cap]:=by rw [hw1];exact Blk.new _ _ _
 rw [←hw1]
 clear hw1
 have z0:w1.cell? ⟨w.heap.size,5,none⟩=some (.slice A x.ks.length cap):=(KV.cell 5).trans (by simp)
 have klt:=KV.lt
 clear KV
 go_wp2_with fail
 refine (markPatternS_any x.ks w1 _ F k0 h0 HK.out (ArrP.below HA.out hb1 HF.out) (HFR.out.kept (.of_below hb1 HF.out)) (HF.out.mono hb1.size)).mono ?_
 rintro e w2 ⟨rfl,hg,hm,hfr2⟩
 have hfin:Chg F w w2∧PR w2 (mkTopP k0 x) [.int .i64 x.op,.int .i64 x.ct,.int .i64 x.n,.int .i64 x.m,.int .i64 x.va,.slice A x.ks.length cap] F∧Free w2 F:=⟨(Chg.of_below hb1).trans hg,(zA4 _ _ _).2 ⟨_,rfl,hm⟩,hfr2⟩
 have HFin:=jj hfin
 clear hfin hm hfr2 hg
 go_wp2
 go_ret
 exact ⟨rfl,HFin.out⟩
theorem P.size_sizes (p:P):p.size=P.sizes p.ks:=by
 obtain ⟨op,c,n,m,a,ks⟩:=p
 rw [P.size]
theorem subs_le (n:Nat):∀ (l:List P),(∀ x∈l,x.size≤n)→P.subs l≤l.length*n
 |[],_=>by simp [P.subs]
 |x :: l,h=>by
  have h1:=subs_le n l (fun y hy=>h y (by simp [hy]))
  have h2:=h x (by simp)
  rw [P.subs,List.length_cons,Nat.add_mul,Nat.one_mul]
  omega
theorem split_bound (xs:List Dt) (t:Ty) (p:P):sumBy cntP (splitV xs t p)≤16777216:=by
 have h1:=cntsP_le (splitV xs t p)
 rw [P.sizes_eq] at h1
 cases hb:splitB xs t p with
 |false=>rw [splitV_no hb] at h1 ⊢;simp [sumBy]
 |true =>
  rw [splitV_yes hb] at h1 ⊢
  unfold splitB at hb
  rw [Bool.and_eq_true,decide_eq_true_iff] at hb
  have h2:=(valid_shp hb.1).2
  have h3:=subs_le 59 (P.spl p) (fun q hq=>Nat.le_trans (spl_size p q hq) h2)
  have h4:(P.spl p).length*59≤400*59:=Nat.mul_le_mul_right _ hb.2
  omega
def cntTy (x:Ty):Nat:=2
def mkTy (k:Int) (x:Ty):Ty:=⟨k,k+1⟩
theorem cntTy_def (x:Ty):cntTy x=2:=rfl
theorem cntsTy_len (xs:List Ty):sumBy cntTy xs=2*xs.length:=by
 induction xs with
 |nil=>rfl
 |cons x xs ih=>simp only [sumBy,ih,List.length_cons,cntTy];omega
theorem markTypeS_any (xs:List Ty) (w:World) (v:Value) (F:List Nat) (k0:Int) (h0:0≤k0) (hk:k0+(sumBy cntTy xs:Nat)≤1099511627776) (hx:Arr w (TyR w) xs v F) (hfr:Free w F) (hf:Under w.heap.size F) :
  Calls Try.prog 43 #[v,.int .i64 k0] w fun e w'=>e=.returned (.int .i64 (k0+(sumBy cntTy xs:Nat)))∧Chg F w w'∧Arr w' (TyR w') (mkS mkTy cntTy k0 xs) v F∧Free w' F:=by
 have HX:=jj (And.intro hx (And.intro hfr (Chg.refl F w)))
 obtain ⟨A,cap,rfl,hc1,hc2⟩:=hx.form
 have HF:=jj hf
 have HK:=jj hk
 clear hx hfr hf hk
 go_enter Try.func43,Try.ntmps43
 go_wp2
 go_loopw [1,5] (fun kv iv wr=>∃ i:Nat,∃ m:Int,i≤xs.length∧iv=.int .i64 i∧kv=.int .i64 m∧0≤m∧Hid (m=k0+(sumBy cntTy (xs.take i):Nat))∧Hid (Arr wr (TyR wr) (mkTo mkTy cntTy k0 xs i) (.slice A xs.length cap) F∧Free wr F∧Chg F w wr)) (fun _ iv _=>xs.length-(intOf iv).toNat)
 case atStart=>exact ⟨0,k0,Nat.zero_le _,rfl,rfl,h0,(by simp [Hid,sumBy]),HX⟩
 case round =>
  obtain ⟨i,m,hi,rfl,rfl,hm0,HM,HR⟩:=hrel
  by_cases hlt:i<xs.length
  ·have g1:(0:Int)≤(i:Int):=by omega
   have g2:(i:Int)<(xs.length:Int):=by omega
   obtain ⟨b,off,c,F1,F2,F3,cap',hv,hFe,hc,hr,hfr2,hnb,hbl,hfz,hu2,hclose⟩:=HR.out.1.focus (fun w=>zAQ (w:=w)) (fun w w' x cs G hk h=>TyR.mono (w:=w) (w':=w') x cs G hk h) HR.out.2.1 (HF.out.mono HR.out.2.2.size) (i:=i) (by rw [mkTo_length];exact hlt)
   obtain rfl:A=some ⟨b,off,none⟩:=by injection hv
   rw [mkTo_get hlt] at hr
   have hsum:m+(cntTy xs[i]:Nat)≤1099511627776:=by
    have h1:=HM.out
    have h2:=HK.out
    have h3:=zAD cntTy xs (i+1)
    rw [zA3 cntTy xs i hlt] at h3
    omega
   have HCl:=jj hclose
   have HHv:=jj hv
   have HFe:=jj hFe
   clear hclose hv hFe
   obtain ⟨rfl,rfl⟩:=hr
   have hcd:=cntTy_def xs[i]
   rw [hcd] at hsum
   have x0:wr.cell? ⟨b,off+i*2,none⟩=some (.int .i64 xs[i].d):=hc 0 _ rfl
   have x1:wr.cell? ⟨b,off+i*2+1,none⟩=some (.int .i64 xs[i].i):=hc 1 _ rfl
   clear hc
   have HFr2:=jj hfr2
   have HU2:=jj hu2
   have HNB:=jj hnb
   have HCD:=jj hcd
   clear hfr2 hu2 hnb hcd
   have HFz:=jj hfz
   clear hfz
   have U0:=jj (Upd.refl b (off+i*2) 2 [] wr)
   have K0:=jj (Kept.refl [] wr)
   have z0:wr.frozen? ⟨b,off+i*2,none⟩=false:=(U0.out.froz _).trans (HFz.out _)
   have z1:wr.frozen? ⟨b,off+i*2+1,none⟩=false:=(U0.out.froz _).trans (HFz.out _)
   have X0:=jj x0
   have X1:=jj x1
   have U1:=jj (U0.out.set (j:=off+i*2) (by omega) (by omega) (.int .i64 (m)))
   have Y0:=jj (show (wr.setCell ⟨b,off+i*2,none⟩ (.int .i64 (m))).cell? ⟨b,off+i*2,none⟩=some (.int .i64 (m)) from World.cell?_setCell_same _ _ _ X0.out)
   have Y1:=jj ((World.cell?_setCell_other _ ⟨b,off+i*2,none⟩ ⟨b,off+i*2+1,none⟩ (.int .i64 (m)) (by intro e;injection e;omega)).trans X1.out)
   clear X0 X1
   have X0:=Y0
   have X1:=Y1
   clear Y0 Y1
   have U2:=jj (U1.out.set (j:=off+i*2+1) (by omega) (by omega) (.int .i64 (m+1)))
   have Y0:=jj ((World.cell?_setCell_other _ ⟨b,off+i*2+1,none⟩ ⟨b,off+i*2,none⟩ (.int .i64 (m+1)) (by intro e;injection e;omega)).trans X0.out)
   have Y1:=jj (show ((wr.setCell ⟨b,off+i*2,none⟩ (.int .i64 (m))).setCell ⟨b,off+i*2+1,none⟩ (.int .i64 (m+1))).cell? ⟨b,off+i*2+1,none⟩=some (.int .i64 (m+1)) from World.cell?_setCell_same _ _ _ X1.out)
   clear X0 X1
   have X0:=Y0
   have X1:=Y1
   clear Y0 Y1
   have hfin:=HCl.out ((wr.setCell ⟨b,off+i*2,none⟩ (.int .i64 (m))).setCell ⟨b,off+i*2+1,none⟩ (.int .i64 (m+1))) (mkTy m xs[i]) _ U2.out (CellsAt.cons X0.out (CellsAt.cons X1.out (CellsAt.nil _ _ _))) (⟨rfl,rfl⟩) (Free.nil _)
   have hst:(mkTo mkTy cntTy k0 xs i).set i (mkTy m xs[i])=mkTo mkTy cntTy k0 xs (i+1):=by rw [HM.out];exact mkTo_step hlt
   rw [hst] at hfin
   clear hst
   have HFin:=jj (And.intro hfin.1 (And.intro hfin.2.1 (HR.out.2.2.trans hfin.2.2)))
   clear hfin
   have HM2:Hid (m+1+1=k0+(sumBy cntTy (xs.take (i+1)):Nat)):=by
    have h1:=HM.out
    have h2:=HCD.out
    unfold Hid
    rw [zA3 cntTy xs i hlt]
    omega
   go_wp2
   go_roundw
   case rel=>exact ⟨i+1,m+1+1,by omega,by go_num,rfl,by omega,HM2,HFin.out⟩
   case measure=>(simp [intOf] <;> omega)
  ·have HEnd:Hid (Chg F w wr∧Arr wr (TyR wr) (mkS mkTy cntTy k0 xs) (.slice A xs.length cap) F∧Free wr F):=by
    have h:=HR.out
    rw [mkTo_all k0 xs (by omega)] at h
    exact ⟨h.2.2,h.1,h.2.1⟩
   have hf:Hid (m=k0+(sumBy cntTy xs:Nat)):=by
    have h:=HM.out
    rwa [List.take_of_length_le (by omega)] at h
   go_wp2
   go_ret
   exact ⟨zA6 hf.out,HEnd.out⟩
def cntKt (x:Kt):Nat:=2+sumBy cntTy x.args
def mkKt (k:Int) (x:Kt):Kt:=⟨mtext (k),mkS mkTy cntTy (k+1) x.args,k+1+(sumBy cntTy x.args:Nat)⟩
theorem cntKt_def (x:Kt):cntKt x=2+sumBy cntTy x.args:=rfl
theorem markCtorS_any (xs:List Kt) (w:World) (v:Value) (F:List Nat) (k0:Int) (h0:0≤k0) (hk:k0+(sumBy cntKt xs:Nat)≤1099511627776) (hx:Arr w (KtR w) xs v F) (hfr:Free w F) (hf:Under w.heap.size F) :
  Calls Try.prog 31 #[v,.int .i64 k0] w fun e w'=>e=.returned (.int .i64 (k0+(sumBy cntKt xs:Nat)))∧Chg F w w'∧Arr w' (KtR w') (mkS mkKt cntKt k0 xs) v F∧Free w' F:=by
 have HX:=jj (And.intro hx (And.intro hfr (Chg.refl F w)))
 obtain ⟨A,cap,rfl,hc1,hc2⟩:=hx.form
 have HF:=jj hf
 have HK:=jj hk
 clear hx hfr hf hk
 go_enter Try.func31,Try.ntmps31
 go_wp2
 go_loopw [1,5] (fun kv iv wr=>∃ i:Nat,∃ m:Int,i≤xs.length∧iv=.int .i64 i∧kv=.int .i64 m∧0≤m∧Hid (m=k0+(sumBy cntKt (xs.take i):Nat))∧Hid (Arr wr (KtR wr) (mkTo mkKt cntKt k0 xs i) (.slice A xs.length cap) F∧Free wr F∧Chg F w wr)) (fun _ iv _=>xs.length-(intOf iv).toNat)
 case atStart=>exact ⟨0,k0,Nat.zero_le _,rfl,rfl,h0,(by simp [Hid,sumBy]),HX⟩
 case round =>
  obtain ⟨i,m,hi,rfl,rfl,hm0,HM,HR⟩:=hrel
  by_cases hlt:i<xs.length
  ·have g1:(0:Int)≤(i:Int):=by omega
   have g2:(i:Int)<(xs.length:Int):=by omega
   obtain ⟨b,off,c,F1,F2,F3,cap',hv,hFe,hc,hr,hfr2,hnb,hbl,hfz,hu2,hclose⟩:=HR.out.1.focus (fun w=>KtR_len (w:=w)) (fun w w' x cs G hk h=>KtR.mono (w:=w) (w':=w') x cs G hk h) HR.out.2.1 (HF.out.mono HR.out.2.2.size) (i:=i) (by rw [mkTo_length];exact hlt)
   obtain rfl:A=some ⟨b,off,none⟩:=by injection hv
   rw [mkTo_get hlt] at hr
   have hsum:m+(cntKt xs[i]:Nat)≤1099511627776:=by
    have h1:=HM.out
    have h2:=HK.out
    have h3:=zAD cntKt xs (i+1)
    rw [zA3 cntKt xs i hlt] at h3
    omega
   have HCl:=jj hclose
   have HHv:=jj hv
   have HFe:=jj hFe
   clear hclose hv hFe
   obtain ⟨kv,rfl,ha,hs0⟩:=hr
   obtain ⟨A1,cap1,rfl,-,-⟩:=ha.form
   have hcd:=cntKt_def xs[i]
   rw [hcd] at hsum
   have x0:wr.cell? ⟨b,off+i*3,none⟩=some (.string xs[i].name):=hc 0 _ rfl
   have x1:wr.cell? ⟨b,off+i*3+1,none⟩=some (.slice A1 xs[i].args.length cap1):=hc 1 _ rfl
   have x2:wr.cell? ⟨b,off+i*3+2,none⟩=some (.int .i64 xs[i].idx):=hc 2 _ rfl
   clear hc
   have HA:=jj ha
   have HFr2:=jj hfr2
   have HU2:=jj hu2
   have HNB:=jj hnb
   clear ha hfr2 hu2 hnb
   have hsn:(0:Int)≤(sumBy cntTy xs[i].args:Nat):=by omega
   generalize hsg:sumBy cntTy xs[i].args=s at *
   have HSG:=jj hsg
   have HCD:=jj hcd
   clear hsg hcd
   have HFz:=jj hfz
   clear hfz
   have U0:=jj (Upd.refl b (off+i*3) 3 F2 wr)
   have K0:=jj (Kept.refl F2 wr)
   have z0:wr.frozen? ⟨b,off+i*3,none⟩=false:=(U0.out.froz _).trans (HFz.out _)
   have z2:wr.frozen? ⟨b,off+i*3+2,none⟩=false:=(U0.out.froz _).trans (HFz.out _)
   go_wp2_with fail
   refine (markText_any (m) _ (by omega) (by omega)).mono ?_
   rintro e v1 ⟨rfl,hb1⟩
   have hlE1:b<wr.heap.size:=zz9 hbl U0.out.size
   have U1:=jj (U0.out.below hb1 hlE1)
   have K1:=jj (K0.out.step hb1 (HU2.out.mono U0.out.size))
   have y0:=(hb1.cell (p:=⟨b,off+i*3,none⟩) hlE1).trans x0
   have y1:=(hb1.cell (p:=⟨b,off+i*3+1,none⟩) hlE1).trans x1
   have y2:=(hb1.cell (p:=⟨b,off+i*3+2,none⟩) hlE1).trans x2
   clear x0 x1 x2 z0 z2
   have x0:=y0
   have x1:=y1
   have x2:=y2
   clear y0 y1 y2
   have hb11:b<v1.heap.size:=zz9 hbl U1.out.size
   have z0:v1.frozen? ⟨b,off+i*3,none⟩=false:=(U1.out.froz _).trans (HFz.out _)
   have z2:v1.frozen? ⟨b,off+i*3+2,none⟩=false:=(U1.out.froz _).trans (HFz.out _)
   clear hb1 hlE1
   go_wp2_with fail
   have U2:=jj (U1.out.set (j:=off+i*3) (by omega) (by omega) (.string (mtext (m))))
   have K2:=jj (K1.out.set (b:=b) (j:=off+i*3) (u:=.string (mtext (m))) HNB.out)
   have y0:(v1.setCell ⟨b,off+i*3,none⟩ (.string (mtext (m)))).cell? ⟨b,off+i*3,none⟩=some (.string (mtext (m))):=World.cell?_setCell_same _ _ _ x0
   have y1:=(World.cell?_setCell_other _ ⟨b,off+i*3,none⟩ ⟨b,off+i*3+1,none⟩ (.string (mtext (m))) (by intro e;injection e;omega)).trans x1
   have y2:=(World.cell?_setCell_other _ ⟨b,off+i*3,none⟩ ⟨b,off+i*3+2,none⟩ (.string (mtext (m))) (by intro e;injection e;omega)).trans x2
   clear x0 x1 x2
   have x0:=y0
   have x1:=y1
   have x2:=y2
   clear y0 y1 y2
   refine (markTypeS_any xs[i].args _ _ F2 (m+1) (by omega) (by rw [HSG.out];omega) (HA.out.mono K2.out (fun x _ cs G hk h=>(fun w w' x cs G hk h=>TyR.mono (w:=w) (w':=w') x cs G hk h) _ _ x cs G hk h)) (HFr2.out.kept K2.out) (HU2.out.mono U2.out.size)).mono ?_
   rintro e v2 ⟨rfl,hg2,hm2,hfr2⟩
   have hlE2:b<(v1.setCell ⟨b,off+i*3,none⟩ (.string (mtext (m)))).heap.size:=zz9 hbl U2.out.size
   have U3:=jj (U2.out.sub hg2 HNB.out hlE2)
   have y0:=(World.cell?_of_block (w:=(v1.setCell ⟨b,off+i*3,none⟩ (.string (mtext (m))))) (a:=⟨b,off+i*3,none⟩) (hg2.block b hlE2 HNB.out)).trans x0
   have y1:=(World.cell?_of_block (w:=(v1.setCell ⟨b,off+i*3,none⟩ (.string (mtext (m))))) (a:=⟨b,off+i*3+1,none⟩) (hg2.block b hlE2 HNB.out)).trans x1
   have y2:=(World.cell?_of_block (w:=(v1.setCell ⟨b,off+i*3,none⟩ (.string (mtext (m))))) (a:=⟨b,off+i*3+2,none⟩) (hg2.block b hlE2 HNB.out)).trans x2
   clear x0 x1 x2 z0 z2
   have x0:=y0
   have x1:=y1
   have x2:=y2
   clear y0 y1 y2
   have hb12:b<v2.heap.size:=zz9 hbl U3.out.size
   have z0:v2.frozen? ⟨b,off+i*3,none⟩=false:=(U3.out.froz _).trans (HFz.out _)
   have z2:v2.frozen? ⟨b,off+i*3+2,none⟩=false:=(U3.out.froz _).trans (HFz.out _)
   have HMk:=jj hm2
   have HFrk:=jj hfr2
   have hgs2:=hg2.size
   clear hm2 hfr2 hg2 hlE2
   have K3:=jj (Kept.refl F2 v2)
   rw [HSG.out]
   have X0:=jj x0
   have X1:=jj x1
   have X2:=jj x2
   have U4:=jj (U3.out.set (j:=off+i*3+2) (by omega) (by omega) (.int .i64 (m+1+(s:Int))))
   have K4:=jj (K3.out.set (b:=b) (j:=off+i*3+2) (u:=.int .i64 (m+1+(s:Int))) HNB.out)
   have Y0:=jj ((World.cell?_setCell_other _ ⟨b,off+i*3+2,none⟩ ⟨b,off+i*3,none⟩ (.int .i64 (m+1+(s:Int))) (by intro e;injection e;omega)).trans X0.out)
   have Y1:=jj ((World.cell?_setCell_other _ ⟨b,off+i*3+2,none⟩ ⟨b,off+i*3+1,none⟩ (.int .i64 (m+1+(s:Int))) (by intro e;injection e;omega)).trans X1.out)
   have Y2:=jj (show (v2.setCell ⟨b,off+i*3+2,none⟩ (.int .i64 (m+1+(s:Int)))).cell? ⟨b,off+i*3+2,none⟩=some (.int .i64 (m+1+(s:Int))) from World.cell?_setCell_same _ _ _ X2.out)
   clear X0 X1 X2
   have X0:=Y0
   have X1:=Y1
   have X2:=Y2
   clear Y0 Y1 Y2
   have hfin:=HCl.out (v2.setCell ⟨b,off+i*3+2,none⟩ (.int .i64 (m+1+(s:Int)))) (mkKt m xs[i]) _ U4.out (CellsAt.cons X0.out (CellsAt.cons X1.out (CellsAt.cons X2.out (CellsAt.nil _ _ _)))) (by obtain rfl:=HSG.out;exact ⟨_,rfl,(HMk.out.mono K4.out (fun x _ cs G hk h=>(fun w w' x cs G hk h=>TyR.mono (w:=w) (w':=w') x cs G hk h) _ _ x cs G hk h)),mtext_le _ (by omega) (by omega)⟩) (HFrk.out.kept K4.out)
   have hst:(mkTo mkKt cntKt k0 xs i).set i (mkKt m xs[i])=mkTo mkKt cntKt k0 xs (i+1):=by rw [HM.out];exact mkTo_step hlt
   rw [hst] at hfin
   clear hst
   have HFin:=jj (And.intro hfin.1 (And.intro hfin.2.1 (HR.out.2.2.trans hfin.2.2)))
   clear hfin
   have HM2:Hid (m+1+(s:Int)+1=k0+(sumBy cntKt (xs.take (i+1)):Nat)):=by
    have h1:=HM.out
    have h2:=HCD.out
    unfold Hid
    rw [zA3 cntKt xs i hlt]
    omega
   go_wp2
   go_roundw
   case rel=>exact ⟨i+1,m+1+(s:Int)+1,by omega,by go_num,rfl,by omega,HM2,HFin.out⟩
   case measure=>(simp [intOf] <;> omega)
  ·have HEnd:Hid (Chg F w wr∧Arr wr (KtR wr) (mkS mkKt cntKt k0 xs) (.slice A xs.length cap) F∧Free wr F):=by
    have h:=HR.out
    rw [mkTo_all k0 xs (by omega)] at h
    exact ⟨h.2.2,h.1,h.2.1⟩
   have hf:Hid (m=k0+(sumBy cntKt xs:Nat)):=by
    have h:=HM.out
    rwa [List.take_of_length_le (by omega)] at h
   go_wp2
   go_ret
   exact ⟨zA6 hf.out,HEnd.out⟩
def cntDt (x:Dt):Nat:=1+sumBy cntKt x.ctors
def mkDt (k:Int) (x:Dt):Dt:=⟨mtext (k),mkS mkKt cntKt (k+1) x.ctors⟩
theorem cntDt_def (x:Dt):cntDt x=1+sumBy cntKt x.ctors:=rfl
theorem cntsTy_le (xs:List Ty):sumBy cntTy xs≤16*Ty.sizes xs:=by
 rw [cntsTy_len];unfold Ty.sizes;omega
theorem cntsKt_le (xs:List Kt):sumBy cntKt xs≤16*Kt.sizes xs:=by
 induction xs with
 |nil=>exact Nat.zero_le _
 |cons x xs ih =>
  have h:=cntsTy_le x.args
  have h1:cntKt x=2+sumBy cntTy x.args:=rfl
  have h2:Kt.size x=x.name.size+Ty.sizes x.args:=rfl
  simp only [Kt.sizes,sumBy,List.length_cons] at ih ⊢
  omega
theorem cntsDt_le (xs:List Dt):sumBy cntDt xs≤16*Dt.sizes xs:=by
 induction xs with
 |nil=>exact Nat.zero_le _
 |cons x xs ih =>
  have h:=cntsKt_le x.ctors
  have h1:cntDt x=1+sumBy cntKt x.ctors:=rfl
  have h2:Dt.size x=x.name.size+Kt.sizes x.ctors:=rfl
  simp only [Dt.sizes,sumBy,List.length_cons] at ih ⊢
  omega
theorem markDataS_any (xs:List Dt) (w:World) (v:Value) (F:List Nat) (k0:Int) (h0:0≤k0) (hk:k0+(sumBy cntDt xs:Nat)≤1099511627776) (hx:Arr w (DtR w) xs v F) (hfr:Free w F) (hf:Under w.heap.size F) :
  Calls Try.prog 14 #[v,.int .i64 k0] w fun e w'=>e=.returned (.int .i64 (k0+(sumBy cntDt xs:Nat)))∧Chg F w w'∧Arr w' (DtR w') (mkS mkDt cntDt k0 xs) v F∧Free w' F:=by
 have HX:=jj (And.intro hx (And.intro hfr (Chg.refl F w)))
 obtain ⟨A,cap,rfl,hc1,hc2⟩:=hx.form
 have HF:=jj hf
 have HK:=jj hk
 clear hx hfr hf hk
 go_enter Try.func14,Try.ntmps14
 go_wp2
 go_loopw [1,5] (fun kv iv wr=>∃ i:Nat,∃ m:Int,i≤xs.length∧iv=.int .i64 i∧kv=.int .i64 m∧0≤m∧Hid (m=k0+(sumBy cntDt (xs.take i):Nat))∧Hid (Arr wr (DtR wr) (mkTo mkDt cntDt k0 xs i) (.slice A xs.length cap) F∧Free wr F∧Chg F w wr)) (fun _ iv _=>xs.length-(intOf iv).toNat)
 case atStart=>exact ⟨0,k0,Nat.zero_le _,rfl,rfl,h0,(by simp [Hid,sumBy]),HX⟩
 case round =>
  obtain ⟨i,m,hi,rfl,rfl,hm0,HM,HR⟩:=hrel
  by_cases hlt:i<xs.length
  ·have g1:(0:Int)≤(i:Int):=by omega
   have g2:(i:Int)<(xs.length:Int):=by omega
   obtain ⟨b,off,c,F1,F2,F3,cap',hv,hFe,hc,hr,hfr2,hnb,hbl,hfz,hu2,hclose⟩:=HR.out.1.focus (fun w=>DtR_len (w:=w)) (fun w w' x cs G hk h=>DtR.mono (w:=w) (w':=w') x cs G hk h) HR.out.2.1 (HF.out.mono HR.out.2.2.size) (i:=i) (by rw [mkTo_length];exact hlt)
   obtain rfl:A=some ⟨b,off,none⟩:=by injection hv
   rw [mkTo_get hlt] at hr
   have hsum:m+(cntDt xs[i]:Nat)≤1099511627776:=by
    have h1:=HM.out
    have h2:=HK.out
    have h3:=zAD cntDt xs (i+1)
    rw [zA3 cntDt xs i hlt] at h3
    omega
   have HCl:=jj hclose
   have HHv:=jj hv
   have HFe:=jj hFe
   clear hclose hv hFe
   obtain ⟨kv,rfl,ha,hs0⟩:=hr
   obtain ⟨A1,cap1,rfl,-,-⟩:=ha.form
   have hcd:=cntDt_def xs[i]
   rw [hcd] at hsum
   have x0:wr.cell? ⟨b,off+i*2,none⟩=some (.string xs[i].name):=hc 0 _ rfl
   have x1:wr.cell? ⟨b,off+i*2+1,none⟩=some (.slice A1 xs[i].ctors.length cap1):=hc 1 _ rfl
   clear hc
   have HA:=jj ha
   have HFr2:=jj hfr2
   have HU2:=jj hu2
   have HNB:=jj hnb
   clear ha hfr2 hu2 hnb
   have hsn:(0:Int)≤(sumBy cntKt xs[i].ctors:Nat):=by omega
   generalize hsg:sumBy cntKt xs[i].ctors=s at *
   have HSG:=jj hsg
   have HCD:=jj hcd
   clear hsg hcd
   have HFz:=jj hfz
   clear hfz
   have U0:=jj (Upd.refl b (off+i*2) 2 F2 wr)
   have K0:=jj (Kept.refl F2 wr)
   have z0:wr.frozen? ⟨b,off+i*2,none⟩=false:=(U0.out.froz _).trans (HFz.out _)
   go_wp2_with fail
   refine (markText_any (m) _ (by omega) (by omega)).mono ?_
   rintro e v1 ⟨rfl,hb1⟩
   have hlE1:b<wr.heap.size:=zz9 hbl U0.out.size
   have U1:=jj (U0.out.below hb1 hlE1)
   have K1:=jj (K0.out.step hb1 (HU2.out.mono U0.out.size))
   have y0:=(hb1.cell (p:=⟨b,off+i*2,none⟩) hlE1).trans x0
   have y1:=(hb1.cell (p:=⟨b,off+i*2+1,none⟩) hlE1).trans x1
   clear x0 x1 z0
   have x0:=y0
   have x1:=y1
   clear y0 y1
   have hb11:b<v1.heap.size:=zz9 hbl U1.out.size
   have z0:v1.frozen? ⟨b,off+i*2,none⟩=false:=(U1.out.froz _).trans (HFz.out _)
   clear hb1 hlE1
   go_wp2_with fail
   have U2:=jj (U1.out.set (j:=off+i*2) (by omega) (by omega) (.string (mtext (m))))
   have K2:=jj (K1.out.set (b:=b) (j:=off+i*2) (u:=.string (mtext (m))) HNB.out)
   have y0:(v1.setCell ⟨b,off+i*2,none⟩ (.string (mtext (m)))).cell? ⟨b,off+i*2,none⟩=some (.string (mtext (m))):=World.cell?_setCell_same _ _ _ x0
   have y1:=(World.cell?_setCell_other _ ⟨b,off+i*2,none⟩ ⟨b,off+i*2+1,none⟩ (.string (mtext (m))) (by intro e;injection e;omega)).trans x1
   clear x0 x1
   have x0:=y0
   have x1:=y1
   clear y0 y1
   refine (markCtorS_any xs[i].ctors _ _ F2 (m+1) (by omega) (by rw [HSG.out];omega) (HA.out.mono K2.out (fun x _ cs G hk h=>(fun w w' x cs G hk h=>KtR.mono (w:=w) (w':=w') x cs G hk h) _ _ x cs G hk h)) (HFr2.out.kept K2.out) (HU2.out.mono U2.out.size)).mono ?_
   rintro e v2 ⟨rfl,hg2,hm2,hfr2⟩
   have hlE2:b<(v1.setCell ⟨b,off+i*2,none⟩ (.string (mtext (m)))).heap.size:=zz9 hbl U2.out.size
   have U3:=jj (U2.out.sub hg2 HNB.out hlE2)
   have y0:=(World.cell?_of_block (w:=(v1.setCell ⟨b,off+i*2,none⟩ (.string (mtext (m))))) (a:=⟨b,off+i*2,none⟩) (hg2.block b hlE2 HNB.out)).trans x0
   have y1:=(World.cell?_of_block (w:=(v1.setCell ⟨b,off+i*2,none⟩ (.string (mtext (m))))) (a:=⟨b,off+i*2+1,none⟩) (hg2.block b hlE2 HNB.out)).trans x1
   clear x0 x1 z0
   have x0:=y0
   have x1:=y1
   clear y0 y1
   have hb12:b<v2.heap.size:=zz9 hbl U3.out.size
   have z0:v2.frozen? ⟨b,off+i*2,none⟩=false:=(U3.out.froz _).trans (HFz.out _)
   have HMk:=jj hm2
   have HFrk:=jj hfr2
   have hgs2:=hg2.size
   clear hm2 hfr2 hg2 hlE2
   have K3:=jj (Kept.refl F2 v2)
   rw [HSG.out]
   have X0:=jj x0
   have X1:=jj x1
   have hfin:=HCl.out v2 (mkDt m xs[i]) _ U3.out (CellsAt.cons X0.out (CellsAt.cons X1.out (CellsAt.nil _ _ _))) (by obtain rfl:=HSG.out;exact ⟨_,rfl,(HMk.out.mono K3.out (fun x _ cs G hk h=>(fun w w' x cs G hk h=>KtR.mono (w:=w) (w':=w') x cs G hk h) _ _ x cs G hk h)),mtext_le _ (by omega) (by omega)⟩) (HFrk.out.kept K3.out)
   have hst:(mkTo mkDt cntDt k0 xs i).set i (mkDt m xs[i])=mkTo mkDt cntDt k0 xs (i+1):=by rw [HM.out];exact mkTo_step hlt
   rw [hst] at hfin
   clear hst
   have HFin:=jj (And.intro hfin.1 (And.intro hfin.2.1 (HR.out.2.2.trans hfin.2.2)))
   clear hfin
   have HM2:Hid (m+1+(s:Int)=k0+(sumBy cntDt (xs.take (i+1)):Nat)):=by
    have h1:=HM.out
    have h2:=HCD.out
    unfold Hid
    rw [zA3 cntDt xs i hlt]
    omega
   go_wp2
   go_roundw
   case rel=>exact ⟨i+1,m+1+(s:Int),by omega,by go_num,rfl,by omega,HM2,HFin.out⟩
   case measure=>(simp [intOf] <;> omega)
  ·have HEnd:Hid (Chg F w wr∧Arr wr (DtR wr) (mkS mkDt cntDt k0 xs) (.slice A xs.length cap) F∧Free wr F):=by
    have h:=HR.out
    rw [mkTo_all k0 xs (by omega)] at h
    exact ⟨h.2.2,h.1,h.2.1⟩
   have hf:Hid (m=k0+(sumBy cntDt xs:Nat)):=by
    have h:=HM.out
    rwa [List.take_of_length_le (by omega)] at h
   go_wp2
   go_ret
   exact ⟨zA6 hf.out,HEnd.out⟩
def HeldP (x:P):Prop:=∀ (w:World) (v:Value) (F:List Nat) (k0:Int),0≤k0→k0+(sumBy cntP x.ks:Nat)≤1099511627776→Arr w (PR w) (mkS mkP cntP k0 x.ks) v F→Under w.heap.size F →
 Calls Try.prog 17 #[v,.int .i64 k0] w fun e w'=>e=.returned (.int .i64 (k0+(sumBy cntP x.ks:Nat)))∧Below w.heap.size w w'
theorem heldPatternS_of (xs:List P) (ih:∀ x∈xs,HeldP x) (w:World) (v:Value) (F:List Nat) (k0:Int) (h0:0≤k0) (hk:k0+(sumBy cntP xs:Nat)≤1099511627776) (hx:Arr w (PR w) (mkS mkP cntP k0 xs) v F) (hf:Under w.heap.size F) :
  Calls Try.prog 17 #[v,.int .i64 k0] w fun e w'=>e=.returned (.int .i64 (k0+(sumBy cntP xs:Nat)))∧Below w.heap.size w w':=by
 obtain ⟨A,cap,rfl,hc1,hc2⟩:=hx.form
 rw [zAB] at hx hc1
 rw [zAB]
 have HX:=jj hx
 have HF:=jj hf
 have HK:=jj hk
 have IH:=jj ih
 clear hx hf hk ih
 go_enter Try.func17,Try.ntmps17
 go_wp2
 go_loopw [1,5] (fun kv iv wr=>∃ i:Nat,∃ m:Int,i≤xs.length∧iv=.int .i64 i∧kv=.int .i64 m∧0≤m∧Hid (m=k0+(sumBy cntP (xs.take i):Nat))∧Below w.heap.size w wr) (fun _ iv _=>xs.length-(intOf iv).toNat)
 case atStart=>exact ⟨0,k0,Nat.zero_le _,rfl,rfl,h0,(by simp [Hid,sumBy]),zy2 _ _⟩
 case round =>
  obtain ⟨i,m,hi,rfl,rfl,hm0,HM,hB⟩:=hrel
  by_cases hlt:i<xs.length
  ·have g1:(0:Int)≤(i:Int):=by omega
   have g2:(i:Int)<(xs.length:Int):=by omega
   obtain ⟨b,off,c,F2,rfl,hb,hc,hr,hG⟩:=HX.out.get ((fun w=>PR_len (w:=w)) _) (i:=i) (by rw [zAB];exact hlt)
   have hge:(mkS mkP cntP k0 xs)[i]'(by rw [zAB];exact hlt)=mkP m xs[i]:=by
    have h:=mkS_get (mk:=mkP) (cnt:=cntP) (k:=k0) hlt
    rw [←HM.out,List.getElem?_eq_getElem (by rw [zAB];exact hlt)] at h
    exact Option.some.inj h
   rw [hge] at hr
   clear hge
   have hbl:=HF.out b hb
   have hc:=hc.same (hB.block b hbl)
   have hu2:=HF.out.sub hG
   clear hG hb
   have hbw:=zz9 hbl hB.size
   have hsum:m+(cntP xs[i]:Nat)≤1099511627776:=by
    have h1:=HM.out
    have h2:=HK.out
    have h3:=zAD cntP xs (i+1)
    rw [zA3 cntP xs i hlt] at h3
    omega
   rw [mkP_def] at hr
   obtain ⟨kv,rfl,ha⟩:=(zA4 _ _ _).1 hr
   obtain ⟨A1,cap1,rfl,-,-⟩:=ha.form
   have hcd:=cntP_def xs[i]
   rw [hcd] at hsum
   simp only [zAB] at hc
   have x0:wr.cell? ⟨b,off+i*6,none⟩=some (.int .i64 (m)):=hc 0 _ rfl
   have x1:wr.cell? ⟨b,off+i*6+1,none⟩=some (.int .i64 (m+1)):=hc 1 _ rfl
   have x2:wr.cell? ⟨b,off+i*6+2,none⟩=some (.int .i64 (m+1+1)):=hc 2 _ rfl
   have x3:wr.cell? ⟨b,off+i*6+3,none⟩=some (.int .i64 (m+1+1+1)):=hc 3 _ rfl
   have x4:wr.cell? ⟨b,off+i*6+4,none⟩=some (.int .i64 (m+1+1+1+1)):=hc 4 _ rfl
   have x5:wr.cell? ⟨b,off+i*6+5,none⟩=some (.slice A1 xs[i].ks.length cap1):=hc 5 _ rfl
   clear hc
   simp only [zAB] at ha
   have HA:=jj ha
   have HU2:=jj hu2
   clear ha hu2
   have hsn:(0:Int)≤(sumBy cntP xs[i].ks:Nat):=by omega
   generalize hsg:sumBy cntP xs[i].ks=s at *
   have HSG:=jj hsg
   have HCD:=jj hcd
   clear hsg hcd
   go_wp2_with fail
   refine (IH.out _ (List.getElem_mem hlt) _ _ F2 (m+1+1+1+1+1) (by omega) (by rw [HSG.out];omega) (HA.out.mono (.of_below hB HU2.out) (fun x _ cs G hk h=>(fun w w' x cs G hk h=>PR.mono (w:=w) (w':=w') x cs G hk h) _ _ x cs G hk h)) (HU2.out.mono hB.size)).mono ?_
   rintro e v1 ⟨rfl,hb1⟩
   rw [HSG.out]
   have y0:=(hb1.cell (p:=⟨b,off+i*6,none⟩) hbw).trans x0
   have y1:=(hb1.cell (p:=⟨b,off+i*6+1,none⟩) hbw).trans x1
   have y2:=(hb1.cell (p:=⟨b,off+i*6+2,none⟩) hbw).trans x2
   have y3:=(hb1.cell (p:=⟨b,off+i*6+3,none⟩) hbw).trans x3
   have y4:=(hb1.cell (p:=⟨b,off+i*6+4,none⟩) hbw).trans x4
   have y5:=(hb1.cell (p:=⟨b,off+i*6+5,none⟩) hbw).trans x5
   clear x0 x1 x2 x3 x4 x5
   have x0:=y0
   have x1:=y1
   have x2:=y2
   have x3:=y3
   have x4:=y4
   have x5:=y5
   clear y0 y1 y2 y3 y4 y5
   have hB1:=hB.trans (hb1.mono hB.size)
   have hbw:=zz9 hbw hb1.size
   clear hb1
   have HM2:Hid (m+1+1+1+1+1+(s:Int)=k0+(sumBy cntP (xs.take (i+1)):Nat)):=by
    have h1:=HM.out
    have h2:=HCD.out
    unfold Hid
    rw [zA3 cntP xs i hlt]
    omega
   have hnn:0≤m+1+1+1+1+1+(s:Int):=by omega
   go_wp2
   go_roundw
   case rel=>exact ⟨i+1,m+1+1+1+1+1+(s:Int),by omega,by go_num,rfl,by omega,HM2,hB1⟩
   case measure=>(simp [intOf] <;> omega)
  ·have hf:Hid (m=k0+(sumBy cntP xs:Nat)):=by
    have h:=HM.out
    rwa [List.take_of_length_le (by omega)] at h
   go_wp2
   go_ret
   exact ⟨zA6 hf.out,hB⟩
theorem heldP_all:∀ x,HeldP x:=P.ind fun a0 a1 a2 a3 a4 ks ih w v F k0 h0 hk hx hf=>heldPatternS_of ks ih w v F k0 h0 hk hx hf
theorem heldPatternS_any (xs:List P) (w:World) (v:Value) (F:List Nat) (k0:Int) (h0:0≤k0) (hk:k0+(sumBy cntP xs:Nat)≤1099511627776) (hx:Arr w (PR w) (mkS mkP cntP k0 xs) v F) (hf:Under w.heap.size F) :
  Calls Try.prog 17 #[v,.int .i64 k0] w fun e w'=>e=.returned (.int .i64 (k0+(sumBy cntP xs:Nat)))∧Below w.heap.size w w':=heldPatternS_of xs (fun x _=>heldP_all x) w v F k0 h0 hk hx hf
end Go.Proofs.Ytghekinfoadcoaa
