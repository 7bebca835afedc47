/-
  Lemmas and contracts of functions: l3Linear of the reference: each variable stands once. Conditions: the world is valid, the pattern well-formed. l3Count of the reference: the nodes of a pattern, up to a number. Conditions: no more than two million nodes. PatternValid of the reference. Conditions: no more than a million nodes. l2Count of the reference. Conditions: no more than two million nodes. valueScan of the program, without holes. Conditions: the world is valid. ValueValid of both. Conditions: no more than a million nodes. MatchPattern of the reference. Conditions: the arguments are not too great. append of a slice of variables to one of the call. Conditions: none.
-/
import Derived.Test.YtghekinfoadcoaaGreatKAE
import Derived.Deep.RegionHeld3
import Derived.Deep.RegionWith
import Derived.Deep.QuietTactic
import Derived.BigQuiet
import Derived.IntWalk
import Derived.Test.YtghekinfoadcoaaGreatKAC
import Derived.Test.YtghekinfoadcoaaGreatKAB
import Derived.Test.YtghekinfoadcoaaGreatKAD
import Derived.Maps.AppendAt

set_option linter.unusedVariables false
set_option linter.unusedSimpArgs false
set_option maxRecDepth 100000
set_option maxHeartbeats 1600000

namespace Go.Proofs.YtghekinfoadcoaaGreat
open Go.RowKit
theorem spec_l3VarsNil {xs:List Dt} (hw:WorldOK xs) {d:Nat} {t:Ty} (ht:TyIn xs.length t) {p:P} (hs:shapeB xs d t p=true) (hz:nodesP p≤4000000) {w:World} {x:Value} {F:List Nat} {cs:List Value} {G:List Nat} (hx:Arr w (DtR w) xs x F) (hf:Under w.heap.size F) (hv:PR w p cs G) (hg:Under w.heap.size G) :
  Calls Tryz.prog 127 #[.slice none 0 0,x,.agg #[.int .i64 t.d,.int .i64 t.i],.agg cs.toArray] w (MadeArr VtR w (varsN xs d t p)):=by
 refine (spec_l3Vars p xs hw d t ht hs w x F cs G w.heap.size [] (.slice none 0 0) (Own.nil _ _ _ _ _) (zz8 _) (by simpa using hz) hx hf hv hg).mono ?_
 rintro e w' ⟨ov',rfl,ho,hc,hr⟩
 rw [List.nil_append] at ho
 exact Own.gives ho (hc.below (fun b hb=>by simp [zAO] at hb) (zz8 _)) (zz8 _) (fun b hb=>by cases hb) (Free.nil _)
theorem linB_succ (xs:List Dt) (d:Nat) (t:Ty) (p:P):linB xs (d+1) t p=(allP (linB xs d) (typesP xs t p) p.ks && (if p.op=5 then (match p.ks with | [k0,k1]=>alikeB (varsN xs d t k0) (varsN xs d t k1) | _=>true) else dupFree (varsN xs (d+1) t p))):=rfl
theorem dup_no {l:List Vt} {i j:Nat} (hi:i<l.length) (hj:j<l.length) (hij:i<j) (h:l[i].var=l[j].var):dupFree l=false:=by
 unfold dupFree
 rw [decide_eq_false_iff_not]
 intro hn
 have:=List.pairwise_iff_getElem.1 hn i j (by simpa using hi) (by simpa using hj) hij
 simp [h] at this
theorem dup_yes {l:List Vt} (h:∀ j (hj:j<l.length),∀ i (hi:i<l.length),i<j→l[i].var≠l[j].var):dupFree l=true:=by
 unfold dupFree
 rw [decide_eq_true_eq]
 refine List.pairwise_iff_getElem.2 fun i j hi hj hij=>?_
 simp only [List.getElem_map]
 exact h j (by simpa using hj) i (by simpa using hi) hij
def LinS (p:P):Prop:=∀ (xs:List Dt) (_:WorldOK xs) (d:Nat) (t:Ty) (_:TyIn xs.length t) (_:shapeB xs d t p=true) (_:nodesP p≤4000000) (w:World) (x:Value) (F:List Nat) (cs:List Value) (G:List Nat),Arr w (DtR w) xs x F→Under w.heap.size F→PR w p cs G→Under w.heap.size G →
 Calls Tryz.prog 100 #[x,.agg #[.int .i64 t.d,.int .i64 t.i],.agg cs.toArray] w fun e w'=>e=.returned (.bool (linB xs d t p))∧Below w.heap.size w w'
theorem l3Linear_of (p:P) (ih:∀ k∈p.ks,LinS k):LinS p:=by
 intro xs hw d t ht hs hz w x F cs G hx hf hv hg
 have IH:=jj ih
 have HS:=jj hs
 have HZ:=jj hz
 clear ih hz
 obtain ⟨kv,rfl,ha⟩:=(zAF _ _ _).1 hv
 obtain ⟨A,cap,rfl,hc1,hc2⟩:=hx.form
 obtain ⟨A4,cap4,rfl,hc3,hc4⟩:=ha.form
 have HV:=jj hv
 have HX:=jj hx
 have HF:=jj hf
 have HA:=jj ha
 have HG:=jj hg
 clear hx hf ha hg
 clear hv
 have HW:=jj hw
 have HT:=jj ht
 clear hw ht
 cases d with
 |zero=>cases hs
 |succ d =>
 rw [shapeB_succ] at hs
 simp only [Bool.and_eq_true,beq_iff_eq] at hs
 obtain ⟨ho,hlen,hsh⟩:=hs
 have HO:=jj ho
 have HAI:=jj (typesP_in HW.out HT.out ho)
 have hl3:=typesP_len HW.out HT.out ho
 have HSH:=jj (fun (i:Nat) (h1:i<(typesP xs t p).length) (h2:i<p.ks.length)=>allP_at hsh h1 h2)
 have HL5:=jj (fun (h:p.op=5)=>zAU (xs:=xs) (t:=t) h)
 have HLB:=jj (linB_succ xs d t p)
 have HLN:=jj hlen
 clear ho hsh hlen
 go_enter Tryz.func100,Tryz.ntmps100
 go_wp2_with fail
 obtain ⟨W2,hW2⟩:∃ W2,W2=((w.alloc (.cells #[.int .i64 t.d,.int .i64 t.i] 39)).alloc (.cells #[.int .i64 p.op,.int .i64 p.ct,.int .i64 p.n,.int .i64 p.m,.int .i64 p.va,.slice A4 p.ks.length cap4] 43)):=⟨_,rfl⟩
 have hB0:Below w.heap.size w W2:=by rw [hW2];exact ((zy2 _ _).alloc (zz8 _) _).alloc (by simp) _
 have KT:Hid (Blk W2 w.heap.size 39 #[.int .i64 t.d,.int .i64 t.i]):=by rw [hW2];exact (Blk.new w _ _).same (Below.heap_alloc _ _ _ (by simp))
 have KP:Hid (Blk W2 (w.heap.size+1) 43 #[.int .i64 p.op,.int .i64 p.ct,.int .i64 p.n,.int .i64 p.m,.int .i64 p.va,.slice A4 p.ks.length cap4]):=by rw [hW2];have h:=Blk.new (w.alloc (.cells #[.int .i64 t.d,.int .i64 t.i] 39)) 43 #[.int .i64 p.op,.int .i64 p.ct,.int .i64 p.n,.int .i64 p.m,.int .i64 p.va,.slice A4 p.ks.length cap4];rw [World.size_alloc] at h;exact h
 have hws:w.heap.size+2≤W2.heap.size:=by rw [hW2];simp
 have hws2:W2.heap.size=w.heap.size+1+1:=by rw [hW2];simp
 rw [←hW2]
 clear hW2
 have y0:W2.cell? ⟨w.heap.size,0,none⟩=some (.int .i64 t.d):=(KT.out.cell 0).trans (by simp)
 have y1:W2.cell? ⟨w.heap.size,1,none⟩=some (.int .i64 t.i):=(KT.out.cell 1).trans (by simp)
 have klt:=KT.out.lt
 have z0:W2.cell? ⟨w.heap.size+1,0,none⟩=some (.int .i64 p.op):=(KP.out.cell 0).trans (by simp)
 have z1:W2.cell? ⟨w.heap.size+1,1,none⟩=some (.int .i64 p.ct):=(KP.out.cell 1).trans (by simp)
 have z2:W2.cell? ⟨w.heap.size+1,2,none⟩=some (.int .i64 p.n):=(KP.out.cell 2).trans (by simp)
 have z3:W2.cell? ⟨w.heap.size+1,3,none⟩=some (.int .i64 p.m):=(KP.out.cell 3).trans (by simp)
 have z4:W2.cell? ⟨w.heap.size+1,4,none⟩=some (.int .i64 p.va):=(KP.out.cell 4).trans (by simp)
 have z5:W2.cell? ⟨w.heap.size+1,5,none⟩=some (.slice A4 p.ks.length cap4):=(KP.out.cell 5).trans (by simp)
 have klt2:=KP.out.lt
 refine (spec_l3Types xs HW.out t HT.out p HO.out W2 _ F _ G (ArrDt.below HX.out hB0 HF.out) (HF.out.mono hB0.size) (HV.out.below hB0 HG.out) (HG.out.mono hB0.size)).mono ?_
 rintro e w6 ⟨v6,F6,rfl,hb6,ha6,-,hfs6⟩
 have hB6:=hB0.trans (hb6.mono hB0.size)
 have KT6:=jj (KT.out.same (hb6.block _ KT.out.lt))
 have KP6:=jj (KP.out.same (hb6.block _ KP.out.lt))
 generalize hass:typesP xs t p=ls at *
 clear hass
 obtain ⟨A6,cap6,rfl,hd3,hd4⟩:=ha6.form
 have HA6:=jj ha6
 have HU6:=jj hfs6.under
 clear y0 y1 z0 z1 z2 z3 z4 z5 klt klt2
 clear ha6 hfs6 hb6 KT KP hB0
 go_wp2
 go_loopw [8] (fun iv wr=>∃ i:Nat,i≤ls.length∧iv=.int .i64 i∧Hid (allP (linB xs d) ls p.ks=allP (linB xs d) (ls.drop i) (p.ks.drop i))∧Hid (Blk wr w.heap.size 39 #[.int .i64 t.d,.int .i64 t.i])∧Hid (Blk wr (w.heap.size+1) 43 #[.int .i64 p.op,.int .i64 p.ct,.int .i64 p.n,.int .i64 p.m,.int .i64 p.va,.slice A4 p.ks.length cap4])∧Below w.heap.size w wr∧Hid (Below w6.heap.size w6 wr)) (fun iv _=>ls.length-(intOf iv).toNat)
 case atStart=>exact ⟨0,Nat.zero_le _,rfl,rfl,KT6,KP6,hB6,zy2 _ _⟩
 case round =>
  clear hB6
  obtain ⟨i,hi,rfl,HR,KT,KP,hB,HB6⟩:=hrel
  by_cases hil:i<ls.length
  ·have hik:i<p.ks.length:=by rw [HLN.out];exact hil
   obtain ⟨b6,off6,rfl⟩:=HA6.out.ptr (by omega)
   obtain ⟨hb6,a0,a1⟩:=ArrTy.at HA6.out HU6.out HB6.out i hil
   obtain ⟨b4,off4,rfl⟩:=HA.out.ptr (by omega)
   obtain ⟨A7,cap7,G7,hb7,k0,k1,k2,k3,k4,k5,HV7,HG7,-,-,-⟩:=ArrP.at HA.out HG.out hB i hik
   have z5:wr.cell? ⟨w.heap.size+1,5,none⟩=some (.slice (some ⟨b4,off4,none⟩) p.ks.length cap4):=(KP.out.cell 5).trans (by simp)
   have klt2:=KP.out.lt
   have g1:(0:Int)≤(i:Int):=by omega
   have g2:(i:Int)<(ls.length:Int):=by omega
   have g3:(i:Int)<(p.ks.length:Int):=by omega
   have hstep:=HR.out
   rw [allP_step hil hik] at hstep
   have HST:=jj hstep
   clear hstep
   have HCALL:=jj (IH.out p.ks[i] (List.getElem_mem hik) xs HW.out d ls[i] (HAI.out _ (List.getElem_mem hil)) (HSH.out i hil hik) (by have h1:=nodesP_mem hik;have h2:=zAI p;have h3:=HZ.out;omega) wr.drew _ F _ G7 (ArrDt.below HX.out hB.drew HF.out) (HF.out.mono hB.drew.size) (HV7.out.below hB.drew HG7.out) (HG7.out.mono hB.drew.size))
   go_wp2_with fail
   have hkeep:∀ U U':World,(U.cell? ⟨b6,off6+i*2,none⟩=some (.int .i64 ls[i].d)∧U.cell? ⟨b6,off6+i*2+1,none⟩=some (.int .i64 ls[i].i)∧U.cell? ⟨w.heap.size+1,5,none⟩=some (.slice (some ⟨b4,off4,none⟩) p.ks.length cap4)∧U.cell? ⟨b4,off4+i*6,none⟩=some (.int .i64 p.ks[i].op)∧U.cell? ⟨b4,off4+i*6+1,none⟩=some (.int .i64 p.ks[i].ct)∧U.cell? ⟨b4,off4+i*6+2,none⟩=some (.int .i64 p.ks[i].n)∧U.cell? ⟨b4,off4+i*6+3,none⟩=some (.int .i64 p.ks[i].m)∧U.cell? ⟨b4,off4+i*6+4,none⟩=some (.int .i64 p.ks[i].va)∧U.cell? ⟨b4,off4+i*6+5,none⟩=some (.slice A7 p.ks[i].ks.length cap7))→Below U.heap.size U U'→wr.heap.size≤U.heap.size→(U'.cell? ⟨b6,off6+i*2,none⟩=some (.int .i64 ls[i].d)∧U'.cell? ⟨b6,off6+i*2+1,none⟩=some (.int .i64 ls[i].i)∧U'.cell? ⟨w.heap.size+1,5,none⟩=some (.slice (some ⟨b4,off4,none⟩) p.ks.length cap4)∧U'.cell? ⟨b4,off4+i*6,none⟩=some (.int .i64 p.ks[i].op)∧U'.cell? ⟨b4,off4+i*6+1,none⟩=some (.int .i64 p.ks[i].ct)∧U'.cell? ⟨b4,off4+i*6+2,none⟩=some (.int .i64 p.ks[i].n)∧U'.cell? ⟨b4,off4+i*6+3,none⟩=some (.int .i64 p.ks[i].m)∧U'.cell? ⟨b4,off4+i*6+4,none⟩=some (.int .i64 p.ks[i].va)∧U'.cell? ⟨b4,off4+i*6+5,none⟩=some (.slice A7 p.ks[i].ks.length cap7)):=fun U U' h hUU hU=>⟨(hUU.cell (zz9 (hb6) hU)).trans h.1,(hUU.cell (zz9 (hb6) hU)).trans h.2.1,(hUU.cell (zz9 (klt2) hU)).trans h.2.2.1,(hUU.cell (zz9 (hb7) hU)).trans h.2.2.2.1,(hUU.cell (zz9 (hb7) hU)).trans h.2.2.2.2.1,(hUU.cell (zz9 (hb7) hU)).trans h.2.2.2.2.2.1,(hUU.cell (zz9 (hb7) hU)).trans h.2.2.2.2.2.2.1,(hUU.cell (zz9 (hb7) hU)).trans h.2.2.2.2.2.2.2.1,(hUU.cell (zz9 (hb7) hU)).trans h.2.2.2.2.2.2.2.2⟩
   have HKeep:=jj hkeep
   clear hkeep
   go_region_held3 (fun w'=>w'.cell? ⟨b6,off6+i*2,none⟩=some (.int .i64 ls[i].d)∧w'.cell? ⟨b6,off6+i*2+1,none⟩=some (.int .i64 ls[i].i)∧w'.cell? ⟨w.heap.size+1,5,none⟩=some (.slice (some ⟨b4,off4,none⟩) p.ks.length cap4)∧w'.cell? ⟨b4,off4+i*6,none⟩=some (.int .i64 p.ks[i].op)∧w'.cell? ⟨b4,off4+i*6+1,none⟩=some (.int .i64 p.ks[i].ct)∧w'.cell? ⟨b4,off4+i*6+2,none⟩=some (.int .i64 p.ks[i].n)∧w'.cell? ⟨b4,off4+i*6+3,none⟩=some (.int .i64 p.ks[i].m)∧w'.cell? ⟨b4,off4+i*6+4,none⟩=some (.int .i64 p.ks[i].va)∧w'.cell? ⟨b4,off4+i*6+5,none⟩=some (.slice A7 p.ks[i].ks.length cap7)) (first | assumption | (exact ⟨a0,a1,z5,k0,k1,k2,k3,k4,k5⟩) | (exact HKeep.out wr.drew w' ⟨a0,a1,z5,k0,k1,k2,k3,k4,k5⟩ hB' (zz8 _))) (first | (go_at_call 100;((with_reducible refine HCALL.out.mono ?_);rintro e w' ⟨rfl,hB'⟩)))
   have hB3:=hB.drew.trans (hB'.mono hB.size)
   have HB3:=jj (HB6.out.drew.trans (hB'.mono HB6.out.size))
   have KP3:=jj (KP.out.same (hB'.block _ KP.out.lt))
   have KT3:=jj (KT.out.same (hB'.block _ KT.out.lt))
   clear HKeep
   cases e3:linB xs d ls[i] p.ks[i] with
   |false =>
    have hf:Hid (linB xs (d+1) t p=false):=by rw [HLB.out,HST.out,e3];rfl
    clear e3
    go_wp2
    go_ret
    exact ⟨zA0 hf.out.symm,hB3⟩
   |true =>
    have hR2:Hid (allP (linB xs d) ls p.ks=allP (linB xs d) (ls.drop (i+1)) (p.ks.drop (i+1))):=by rw [HST.out,e3,Bool.true_and];rfl
    clear e3
    go_wp2
    go_roundw
    case rel=>exact ⟨i+1,by omega,by go_num,hR2,KT3,KP3,hB3,HB3⟩
    case measure=>(simp [intOf] <;> omega)
  ·have HLT:Hid (linB xs (d+1) t p=(if p.op=5 then (match p.ks with | [k0,k1]=>alikeB (varsN xs d t k0) (varsN xs d t k1) | _=>true) else dupFree (varsN xs (d+1) t p))):=by
    rw [HLB.out,HR.out,allP_end (by omega)];rfl
   clear HLB HR
   have y0:wr.cell? ⟨w.heap.size,0,none⟩=some (.int .i64 t.d):=(KT.out.cell 0).trans (by simp)
   have y1:wr.cell? ⟨w.heap.size,1,none⟩=some (.int .i64 t.i):=(KT.out.cell 1).trans (by simp)
   have klt:=KT.out.lt
   have z0:wr.cell? ⟨w.heap.size+1,0,none⟩=some (.int .i64 p.op):=(KP.out.cell 0).trans (by simp)
   have z1:wr.cell? ⟨w.heap.size+1,1,none⟩=some (.int .i64 p.ct):=(KP.out.cell 1).trans (by simp)
   have z2:wr.cell? ⟨w.heap.size+1,2,none⟩=some (.int .i64 p.n):=(KP.out.cell 2).trans (by simp)
   have z3:wr.cell? ⟨w.heap.size+1,3,none⟩=some (.int .i64 p.m):=(KP.out.cell 3).trans (by simp)
   have z4:wr.cell? ⟨w.heap.size+1,4,none⟩=some (.int .i64 p.va):=(KP.out.cell 4).trans (by simp)
   have z5:wr.cell? ⟨w.heap.size+1,5,none⟩=some (.slice A4 p.ks.length cap4):=(KP.out.cell 5).trans (by simp)
   have klt2:=KP.out.lt
   by_cases h5:p.op=5
   ·have t5:(p.op==5)=true:=by simp [h5]
    have hl5:=HL5.out h5
    have hk2:p.ks.length=2:=by rw [HLN.out,hl5];rfl
    have hl2:ls.length=2:=by rw [hl5];rfl
    have s0:=HSH.out 0 (by omega) (by omega)
    have s1:=HSH.out 1 (by omega) (by omega)
    simp only [hl5,zz2,zz3] at s0 s1
    have hlt2:linB xs (d+1) t p=alikeB (varsN xs d t p.ks[0]) (varsN xs d t p.ks[1]):=by
     rw [HLT.out,if_pos h5]
     obtain ⟨q0,q1,hq⟩:=kids_two hk2
     simp only [hq,zz2,zz3]
    have HL2:=jj hlt2
    have hik0:0<p.ks.length:=by omega
    have hik1:1<p.ks.length:=by omega
    obtain ⟨b4,off4,rfl⟩:=HA.out.ptr (by omega)
    obtain ⟨A7,cap7,G7,hb7,k0,k1,k2,k3,k4,k5,HV7,HG7,-,-,-⟩:=ArrP.at HA.out HG.out hB 0 hik0
    obtain ⟨A8,cap8,G8,hb8,m0,m1,m2,m3,m4,m5,HV8,HG8,-,-,-⟩:=ArrP.at HA.out HG.out hB 1 hik1
    simp only [Nat.zero_mul,Nat.one_mul,Nat.add_zero] at k0 k1 k2 k3 k4 k5 m0 m1 m2 m3 m4 m5
    have g0:(0:Int)<(p.ks.length:Int):=by omega
    have g1:(1:Int)<(p.ks.length:Int):=by omega
    have hz0:nodesP p.ks[0]≤4000000:=by have h1:=nodesP_mem hik0;have h2:=zAI p;have h3:=HZ.out;omega
    have hz1:nodesP p.ks[1]≤4000000:=by have h1:=nodesP_mem hik1;have h2:=zAI p;have h3:=HZ.out;omega
    generalize p.ks[0]=q0 at *
    generalize p.ks[1]=q1 at *
    have S0:=jj s0
    have S1:=jj s1
    have Z0:=jj hz0
    have Z1:=jj hz1
    clear h5 hl5 hk2 hl2 s0 s1 hz0 hz1 hlt2 HLT
    go_wp2_with fail
    have hkeep:∀ U U':World,(U.cell? ⟨w.heap.size,0,none⟩=some (.int .i64 t.d)∧U.cell? ⟨w.heap.size,1,none⟩=some (.int .i64 t.i)∧U.cell? ⟨w.heap.size+1,5,none⟩=some (.slice (some ⟨b4,off4,none⟩) p.ks.length cap4)∧U.cell? ⟨b4,off4,none⟩=some (.int .i64 q0.op)∧U.cell? ⟨b4,off4+1,none⟩=some (.int .i64 q0.ct)∧U.cell? ⟨b4,off4+2,none⟩=some (.int .i64 q0.n)∧U.cell? ⟨b4,off4+3,none⟩=some (.int .i64 q0.m)∧U.cell? ⟨b4,off4+4,none⟩=some (.int .i64 q0.va)∧U.cell? ⟨b4,off4+5,none⟩=some (.slice A7 q0.ks.length cap7)∧U.cell? ⟨b4,off4+6,none⟩=some (.int .i64 q1.op)∧U.cell? ⟨b4,off4+6+1,none⟩=some (.int .i64 q1.ct)∧U.cell? ⟨b4,off4+6+2,none⟩=some (.int .i64 q1.n)∧U.cell? ⟨b4,off4+6+3,none⟩=some (.int .i64 q1.m)∧U.cell? ⟨b4,off4+6+4,none⟩=some (.int .i64 q1.va)∧U.cell? ⟨b4,off4+6+5,none⟩=some (.slice A8 q1.ks.length cap8))→Below U.heap.size U U'→wr.heap.size≤U.heap.size→(U'.cell? ⟨w.heap.size,0,none⟩=some (.int .i64 t.d)∧U'.cell? ⟨w.heap.size,1,none⟩=some (.int .i64 t.i)∧U'.cell? ⟨w.heap.size+1,5,none⟩=some (.slice (some ⟨b4,off4,none⟩) p.ks.length cap4)∧U'.cell? ⟨b4,off4,none⟩=some (.int .i64 q0.op)∧U'.cell? ⟨b4,off4+1,none⟩=some (.int .i64 q0.ct)∧U'.cell? ⟨b4,off4+2,none⟩=some (.int .i64 q0.n)∧U'.cell? ⟨b4,off4+3,none⟩=some (.int .i64 q0.m)∧U'.cell? ⟨b4,off4+4,none⟩=some (.int .i64 q0.va)∧U'.cell? ⟨b4,off4+5,none⟩=some (.slice A7 q0.ks.length cap7)∧U'.cell? ⟨b4,off4+6,none⟩=some (.int .i64 q1.op)∧U'.cell? ⟨b4,off4+6+1,none⟩=some (.int .i64 q1.ct)∧U'.cell? ⟨b4,off4+6+2,none⟩=some (.int .i64 q1.n)∧U'.cell? ⟨b4,off4+6+3,none⟩=some (.int .i64 q1.m)∧U'.cell? ⟨b4,off4+6+4,none⟩=some (.int .i64 q1.va)∧U'.cell? ⟨b4,off4+6+5,none⟩=some (.slice A8 q1.ks.length cap8)):=fun U U' h hUU hU=>⟨(hUU.cell (zz9 (klt) hU)).trans h.1,(hUU.cell (zz9 (klt) hU)).trans h.2.1,(hUU.cell (zz9 (klt2) hU)).trans h.2.2.1,(hUU.cell (zz9 (hb7) hU)).trans h.2.2.2.1,(hUU.cell (zz9 (hb7) hU)).trans h.2.2.2.2.1,(hUU.cell (zz9 (hb7) hU)).trans h.2.2.2.2.2.1,(hUU.cell (zz9 (hb7) hU)).trans h.2.2.2.2.2.2.1,(hUU.cell (zz9 (hb7) hU)).trans h.2.2.2.2.2.2.2.1,(hUU.cell (zz9 (hb7) hU)).trans h.2.2.2.2.2.2.2.2.1,(hUU.cell (zz9 (hb8) hU)).trans h.2.2.2.2.2.2.2.2.2.1,(hUU.cell (zz9 (hb8) hU)).trans h.2.2.2.2.2.2.2.2.2.2.1,(hUU.cell (zz9 (hb8) hU)).trans h.2.2.2.2.2.2.2.2.2.2.2.1,(hUU.cell (zz9 (hb8) hU)).trans h.2.2.2.2.2.2.2.2.2.2.2.2.1,(hUU.cell (zz9 (hb8) hU)).trans h.2.2.2.2.2.2.2.2.2.2.2.2.2.1,(hUU.cell (zz9 (hb8) hU)).trans h.2.2.2.2.2.2.2.2.2.2.2.2.2.2⟩
    have HKeep:=jj hkeep
    clear hkeep
    go_region_held3 (fun w'=>w'.cell? ⟨w.heap.size,0,none⟩=some (.int .i64 t.d)∧w'.cell? ⟨w.heap.size,1,none⟩=some (.int .i64 t.i)∧w'.cell? ⟨w.heap.size+1,5,none⟩=some (.slice (some ⟨b4,off4,none⟩) p.ks.length cap4)∧w'.cell? ⟨b4,off4,none⟩=some (.int .i64 q0.op)∧w'.cell? ⟨b4,off4+1,none⟩=some (.int .i64 q0.ct)∧w'.cell? ⟨b4,off4+2,none⟩=some (.int .i64 q0.n)∧w'.cell? ⟨b4,off4+3,none⟩=some (.int .i64 q0.m)∧w'.cell? ⟨b4,off4+4,none⟩=some (.int .i64 q0.va)∧w'.cell? ⟨b4,off4+5,none⟩=some (.slice A7 q0.ks.length cap7)∧w'.cell? ⟨b4,off4+6,none⟩=some (.int .i64 q1.op)∧w'.cell? ⟨b4,off4+6+1,none⟩=some (.int .i64 q1.ct)∧w'.cell? ⟨b4,off4+6+2,none⟩=some (.int .i64 q1.n)∧w'.cell? ⟨b4,off4+6+3,none⟩=some (.int .i64 q1.m)∧w'.cell? ⟨b4,off4+6+4,none⟩=some (.int .i64 q1.va)∧w'.cell? ⟨b4,off4+6+5,none⟩=some (.slice A8 q1.ks.length cap8)) (first | assumption | (exact ⟨y0,y1,z5,k0,k1,k2,k3,k4,k5,m0,m1,m2,m3,m4,m5⟩) | (exact HKeep.out wr.drew w3 ⟨y0,y1,z5,k0,k1,k2,k3,k4,k5,m0,m1,m2,m3,m4,m5⟩ hb3 (zz8 _)) | (exact HKeep.out w3 w4 (by assumption) hb4 hlew3) | (exact HKeep.out w4 w5 (by assumption) hb5 hlew4)) (first | (go_at_call 127;((with_reducible refine (spec_l3VarsNil HW.out HT.out S0.out Z0.out (ArrDt.below HX.out hB.drew HF.out) (HF.out.mono hB.drew.size) (HV7.out.below hB.drew HG7.out) (HG7.out.mono hB.drew.size)).mono ?_);rintro e w3 ⟨v3,F3,rfl,hb3,ha3,-,hfs3⟩);have hB3:=hB.drew.trans (hb3.mono hB.drew.size);have hlew3:wr.heap.size≤w3.heap.size:=hb3.size) | (go_at_call 127;((with_reducible refine (spec_l3VarsNil HW.out HT.out S1.out Z1.out (ArrDt.below HX.out hB3 HF.out) (HF.out.mono hB3.size) (HV8.out.below hB3 HG8.out) (HG8.out.mono hB3.size)).mono ?_);rintro e w4 ⟨v4,F4,rfl,hb4,ha4,-,hfs4⟩);have hlew4:wr.heap.size≤w4.heap.size:=Nat.le_trans hlew3 hb4.size) | (go_at_call 126;((with_reducible refine (spec_l3Alike (varsN xs d t q0) (varsN xs d t q1) _ _ _ F3 F4 (Arr.mono (w:=w3) ha3 (.of_below hb4 hfs3.under) (fun x _ cs G hk h=>zA6 _ _ x cs G hk h)) (hfs3.under.mono hb4.size) ha4 hfs4.under).mono ?_);rintro e w5 ⟨rfl,hb5⟩)))
    have hBy:=hB3.trans (hb4.mono hB3.size)
    have hBz:=hBy.trans (hb5.mono hBy.size)
    clear HKeep ha3 hfs3 ha4 hfs4 hb3 hb4 hb5 hB3 hBy
    generalize alikeB (varsN xs d t q0) (varsN xs d t q1)=bb at *
    clear y0 y1 z0 z1 z2 z3 z4 z5 klt klt2
    clear k0 k1 k2 k3 k4 k5 m0 m1 m2 m3 m4 m5 t5
    go_wp2
    go_ret
    exact ⟨zA0 HL2.out.symm,hBz⟩
   ·have t5:(p.op==5)=false:=by simpa using h5
    have hl2:=HLT.out
    rw [if_neg h5] at hl2
    have HL2:=jj hl2
    clear hl2 h5 HLT
    go_wp2_with fail
    refine (spec_l3VarsNil HW.out HT.out HS.out HZ.out (ArrDt.below HX.out hB HF.out) (HF.out.mono hB.size) (HV.out.below hB HG.out) (HG.out.mono hB.size)).mono ?_
    rintro e w3 ⟨v3,F3,rfl,hb3,ha3,-,hfs3⟩
    have hB3:=hB.trans (hb3.mono hB.size)
    generalize hll:varsN xs (d+1) t p=l at *
    clear hll
    obtain ⟨A3,cap3,rfl,he3,he4⟩:=ha3.form
    have HA3:=jj ha3
    have HU3:=jj hfs3.under
    clear y0 y1 z0 z1 z2 z3 z4 z5 klt klt2
    clear ha3 hfs3 hb3 t5
    go_wp2
    obtain ⟨wo,hwo⟩:∃ wo,wo=w3:=⟨_,rfl⟩
    go_loopw [10] (fun iv ws=>∃ i:Nat,i≤l.length∧iv=.int .i64 i∧Hid (∀ j (hj:j<l.length),j<i→∀ k (hk:k<l.length),k<j→l[k].var≠l[j].var)∧Below w.heap.size w ws∧Hid (Below w3.heap.size w3 ws)) (fun iv _=>l.length-(intOf iv).toNat)
    case atStart=>exact ⟨0,Nat.zero_le _,rfl,(fun j hj h=>by omega),hB3,zy2 _ _⟩
    case round =>
     clear hwo hB3 hB HB6
     obtain ⟨i,hi,rfl,HN,hB,HB6⟩:=hrel
     by_cases hil:i<l.length
     ·obtain ⟨b3,off3,rfl⟩:=HA3.out.ptr (by omega)
      obtain ⟨hb3,c0,c1,c2⟩:=ArrVt.at HA3.out HU3.out HB6.out i hil
      have g1:(0:Int)≤(i:Int):=by omega
      have g2:(i:Int)<(l.length:Int):=by omega
      obtain ⟨r,hr⟩:=FirstAt.ex (fun x:Vt=>x.var==l[i].var) l
      have HCALL:=jj (spec_l3Find l l[i].var r hr wr _ F3 (Arr.mono (w:=w3) HA3.out (.of_below HB6.out HU3.out) (fun x _ cs G hk h=>zA6 _ _ x cs G hk h)) (HU3.out.mono HB6.out.size))
      have HRR:Hid (∃ (m:Nat) (hm:m<l.length),r=(m:Int)∧l[m].var=l[i].var∧m≤i):=by
       rcases hr with ⟨m,hm,e,h1,h2⟩ | ⟨e,h2⟩
       ·refine ⟨m,hm,e,by simpa using h1,?_⟩
        rcases Nat.lt_or_ge i m with h | h
        ·have:=h2 i hil h;simp at this
        ·exact h
       ·have:=h2 i hil;simp at this
      have HR2:=jj hr
      clear hr
      go_wp2_with fail
      refine HCALL.out.mono ?_
      rintro e w4 ⟨rfl,hb4⟩
      have hB4:=hB.trans (hb4.mono hB.size)
      have HB4:=jj (HB6.out.trans (hb4.mono HB6.out.size))
      obtain ⟨m,hm,rfl,hmv,hmi⟩:=HRR.out
      by_cases hmi2:m=i
      ·have t6:((m:Int) != (i:Int))=false:=by simp [hmi2]
       have HN2:Hid (∀ j (hj:j<l.length),j<i+1→∀ k (hk:k<l.length),k<j→l[k].var≠l[j].var):=fun j hj hji=>by
        rcases Nat.lt_or_ge j i with h | h
        ·exact HN.out j hj h
        ·obtain rfl:j=i:=by omega
         intro k hk hkj e
         rcases HR2.out with ⟨m',hm',e',h1,h2⟩ | ⟨e',h2⟩
         ·have:=h2 k hk (by omega)
          simp [e] at this
         ·omega
       clear hmi2 hmv hmi
       go_wp2
       go_roundw
       case rel=>exact ⟨i+1,by omega,by go_num,HN2,hB4,HB4⟩
       case measure=>(simp [intOf] <;> omega)
      ·have t6:((m:Int) != (i:Int))=true:=by rw [bne_iff_ne];omega
       have hf:Hid (linB xs (d+1) t p=false):=by rw [HL2.out];exact dup_no hm hil (by omega) hmv
       clear hmi2 hmv hmi
       go_wp2
       go_ret
       exact ⟨zA0 hf.out.symm,hB4⟩
     ·have hf:Hid (linB xs (d+1) t p=true):=by rw [HL2.out];exact dup_yes (fun j hj=>HN.out j hj (by omega))
      go_wp2
      go_ret
      exact ⟨zA0 hf.out.symm,hB⟩
theorem spec_l3Linear:∀ p,LinS p:=P.indv l3Linear_of
structure UptoP (v:P) (most:Int) (c:Int):Prop where
 lo:1≤c
 hi:c≤nodesP v
 yes:(nodesP v:Int)≤most→c=nodesP v
 no:most<nodesP v→most<c
def CountPostP (v:P) (most:Int) (w:World) (e:Ending) (w':World):Prop:=∃ c:Int,e=.returned (.int .i64 c)∧UptoP v most c∧Below w.heap.size w w'
def CountP (v:P):Prop:=∀ (most:Int) (_:0≤most) (_:most≤1000) (w:World) (cs:List Value) (G:List Nat),PR w v cs G→Under w.heap.size G→nodesP v≤2000000 →
 Calls Tryz.prog 99 #[.agg cs.toArray,.int .i64 most] w (CountPostP v most w)
theorem l3Count_of (p:P) (ih:∀ k∈p.ks,CountP k):CountP p:=by
 intro most hm0 hm1 w cs G hv hg hz
 obtain ⟨kv,rfl,ha⟩:=(zAF _ _ _).1 hv
 obtain ⟨A4,cap4,rfl,hc3,hc4⟩:=ha.form
 have IH:=jj ih
 have HZ:=jj hz
 have HA:=jj ha
 have HG:=jj hg
 clear ha hg
 clear ih hv hz
 have hkl:p.ks.length≤2000000:=by have:=HZ.out;rw [zAI,P.sizes_eq] at this;omega
 go_enter Tryz.func99,Tryz.ntmps99
 go_wp2
 have hB0:Below w.heap.size w (w.alloc (.cells #[.int .i64 p.op,.int .i64 p.ct,.int .i64 p.n,.int .i64 p.m,.int .i64 p.va,.slice A4 p.ks.length cap4] 43)):=(zy2 _ _).alloc (zz8 _) _
 have K0:Hid (Blk (w.alloc (.cells #[.int .i64 p.op,.int .i64 p.ct,.int .i64 p.n,.int .i64 p.m,.int .i64 p.va,.slice A4 p.ks.length cap4] 43)) w.heap.size 43 #[.int .i64 p.op,.int .i64 p.ct,.int .i64 p.n,.int .i64 p.m,.int .i64 p.va,.slice A4 p.ks.length cap4]):=Blk.new _ _ _
 go_loopw [5,6] (fun nv iv wr=>∃ i:Nat,∃ n:Int,i≤p.ks.length∧iv=.int .i64 i∧nv=.int .i64 n∧1≤n∧n≤2000000∧Hid (n≤1+(P.sizes (p.ks.take i):Nat)∧(1+((P.sizes (p.ks.take i):Nat):Int)≤most→n=1+(P.sizes (p.ks.take i):Nat))∧(most<1+((P.sizes (p.ks.take i):Nat):Int)→most<n))∧Hid (Blk wr w.heap.size 43 #[.int .i64 p.op,.int .i64 p.ct,.int .i64 p.n,.int .i64 p.m,.int .i64 p.va,.slice A4 p.ks.length cap4])∧Below w.heap.size w wr) (fun _ iv _=>p.ks.length-(intOf iv).toNat)
 case atStart=>exact ⟨0,1,Nat.zero_le _,rfl,rfl,by omega,by omega,⟨by simp [P.sizes],fun _=>by simp [P.sizes],fun h=>by simpa [P.sizes] using h⟩,K0,hB0⟩
 case round =>
  clear hB0 K0
  obtain ⟨i,n,hi,rfl,rfl,hn1,hn2,HN,KV,hB⟩:=hrel
  have z2:wr.cell? ⟨w.heap.size,5,none⟩=some (.slice A4 p.ks.length cap4):=(KV.out.cell 5).trans (by simp)
  have klt:=KV.out.lt
  have hend:(¬(i<p.ks.length∧n≤most))→CountPostP p most w (.returned (.int .i64 n)) wr:=fun h=>by
   have h1:=HN.out
   have h2:=zAG p.ks i
   have h3:=zAI p
   refine ⟨n,rfl,⟨hn1,by omega,fun hy=>?_,fun hno=>?_⟩,hB⟩
   ·by_cases hil:i<p.ks.length
    ·have:¬n≤most:=fun hnm=>h ⟨hil,hnm⟩
     have:=h1.2.1 (by omega)
     omega
    ·rw [List.take_of_length_le (by omega)] at h1
     have:=h1.2.1 (by omega)
     omega
   ·by_cases hil:i<p.ks.length
    ·have:¬n≤most:=fun hnm=>h ⟨hil,hnm⟩
     omega
    ·rw [List.take_of_length_le (by omega)] at h1
     exact h1.2.2 (by omega)
  have HEnd:=jj hend
  clear hend
  by_cases hil:i<p.ks.length
  ·have t1:decide ((i:Int)<(p.ks.length:Int))=true:=by simp;omega
   by_cases hnm:n≤most
   ·have t2:decide (n≤most)=true:=by simpa using hnm
    obtain ⟨b4,off4,rfl⟩:=HA.out.ptr (by omega)
    obtain ⟨A7,cap7,G7,hb7,k0,k1,k2,k3,k4,k5,HV7,HG7,-,-,-⟩:=ArrP.at HA.out HG.out hB i hil
    have g1:(0:Int)≤(i:Int):=by omega
    have g2:(i:Int)<(p.ks.length:Int):=by omega
    have hst:=zAX hil
    have hsl:=zAG p.ks (i+1)
    have hnk:=zAI p
    have hz:=HZ.out
    have hkz:nodesP p.ks[i]≤2000000:=by omega
    have HKZ:=jj hkz
    have HST:=jj (And.intro hst (And.intro hsl hnk))
    clear hst hsl hnk hz hkz
    go_wp2_with fail
    refine (IH.out p.ks[i] (List.getElem_mem hil) (most-n) (by omega) (by omega) wr _ G7 (HV7.out.below hB HG7.out) (HG7.out.mono hB.size) HKZ.out).mono ?_
    rintro e w' ⟨c,rfl,hu,hB'⟩
    have hB3:=hB.trans (hB'.mono hB.size)
    have KV3:=jj (KV.out.same (hB'.block _ KV.out.lt))
    have hc1:=hu.lo
    have hN2:Hid (n+c≤1+(P.sizes (p.ks.take (i+1)):Nat)∧(1+((P.sizes (p.ks.take (i+1)):Nat):Int)≤most→n+c=1+(P.sizes (p.ks.take (i+1)):Nat))∧(most<1+((P.sizes (p.ks.take (i+1)):Nat):Int)→most<n+c)):=by
     have h1:=HN.out
     obtain ⟨h2,h3,h4⟩:=HST.out
     have h5:=hu.hi
     have h6:=hu.yes
     have h7:=hu.no
     have h8:n=1+((P.sizes (p.ks.take i):Nat):Int):=by
      rcases Int.lt_or_le most (1+((P.sizes (p.ks.take i):Nat):Int)) with h | h
      ·have:=h1.2.2 h;omega
      ·exact h1.2.1 h
     refine ⟨by omega,fun hy=>?_,fun hno=>?_⟩
     ·have:=h6 (by omega);omega
     ·have:=h7 (by omega);omega
    have hn3:n+c≤2000000:=by
     have h1:=hN2.out.1
     obtain ⟨h2,h3,h4⟩:=HST.out
     have:=HZ.out
     omega
    clear hu t1 t2 z2 klt k0 k1 k2 k3 k4 k5 hB'
    go_wp2
    go_roundw
    case rel=>exact ⟨i+1,n+c,by omega,by go_num,rfl,by omega,hn3,hN2,KV3,hB3⟩
    case measure=>(simp [intOf] <;> omega)
   ·have t2:decide (n≤most)=false:=by simpa using hnm
    have HFin:=jj (HEnd.out (fun h=>hnm h.2))
    go_wp2
    go_ret
    exact HFin.out
  ·have t1:decide ((i:Int)<(p.ks.length:Int))=false:=by simp;omega
   have HFin:=jj (HEnd.out (fun h=>hil h.1))
   go_wp2
   go_ret
   exact HFin.out
theorem spec_l3Count:∀ v,CountP v:=P.indv l3Count_of
theorem spec_l3Is (xs:List Dt) (hw:WorldOK xs) (t:Ty) (ht:TyIn xs.length t) (p:P) (hz:p.size≤1048576) (w:World) (x:Value) (F:List Nat) (cs:List Value) (G:List Nat):Arr w (DtR w) xs x F→Under w.heap.size F→PR w p cs G→Under w.heap.size G →
  Calls Tryz.prog 70 #[x,.agg #[.int .i64 t.d,.int .i64 t.i],.agg cs.toArray] w fun e w'=>e=.returned (.bool (patOkB xs t p))∧Below w.heap.size w w':=by
 intro hx hf hv hg
 obtain ⟨kv,rfl,ha⟩:=(zAF _ _ _).1 hv
 obtain ⟨A,cap,rfl,hc1,hc2⟩:=hx.form
 obtain ⟨A4,cap4,rfl,hc3,hc4⟩:=ha.form
 have HV:=jj hv
 have HX:=jj hx
 have HF:=jj hf
 have HA:=jj ha
 have HG:=jj hg
 clear hx hf ha hg
 clear hv
 have HW:=jj hw
 have HT:=jj ht
 have hzn:nodesP p≤2000000:=by unfold nodesP;omega
 have HZ:=jj hzn
 clear hw ht hz hzn
 go_enter Tryz.func70,Tryz.ntmps70
 go_wp2_with fail
 obtain ⟨W2,hW2⟩:∃ W2,W2=((w.alloc (.cells #[.int .i64 t.d,.int .i64 t.i] 39)).alloc (.cells #[.int .i64 p.op,.int .i64 p.ct,.int .i64 p.n,.int .i64 p.m,.int .i64 p.va,.slice A4 p.ks.length cap4] 43)):=⟨_,rfl⟩
 have hB0:Below w.heap.size w W2:=by rw [hW2];exact ((zy2 _ _).alloc (zz8 _) _).alloc (by simp) _
 have KT:Hid (Blk W2 w.heap.size 39 #[.int .i64 t.d,.int .i64 t.i]):=by rw [hW2];exact (Blk.new w _ _).same (Below.heap_alloc _ _ _ (by simp))
 have KP:Hid (Blk W2 (w.heap.size+1) 43 #[.int .i64 p.op,.int .i64 p.ct,.int .i64 p.n,.int .i64 p.m,.int .i64 p.va,.slice A4 p.ks.length cap4]):=by rw [hW2];have h:=Blk.new (w.alloc (.cells #[.int .i64 t.d,.int .i64 t.i] 39)) 43 #[.int .i64 p.op,.int .i64 p.ct,.int .i64 p.n,.int .i64 p.m,.int .i64 p.va,.slice A4 p.ks.length cap4];rw [World.size_alloc] at h;exact h
 have hws:w.heap.size+2≤W2.heap.size:=by rw [hW2];simp
 have hws2:W2.heap.size=w.heap.size+1+1:=by rw [hW2];simp
 rw [←hW2]
 clear hW2
 have y0:W2.cell? ⟨w.heap.size,0,none⟩=some (.int .i64 t.d):=(KT.out.cell 0).trans (by simp)
 have y1:W2.cell? ⟨w.heap.size,1,none⟩=some (.int .i64 t.i):=(KT.out.cell 1).trans (by simp)
 have klt:=KT.out.lt
 have z0:W2.cell? ⟨w.heap.size+1,0,none⟩=some (.int .i64 p.op):=(KP.out.cell 0).trans (by simp)
 have z1:W2.cell? ⟨w.heap.size+1,1,none⟩=some (.int .i64 p.ct):=(KP.out.cell 1).trans (by simp)
 have z2:W2.cell? ⟨w.heap.size+1,2,none⟩=some (.int .i64 p.n):=(KP.out.cell 2).trans (by simp)
 have z3:W2.cell? ⟨w.heap.size+1,3,none⟩=some (.int .i64 p.m):=(KP.out.cell 3).trans (by simp)
 have z4:W2.cell? ⟨w.heap.size+1,4,none⟩=some (.int .i64 p.va):=(KP.out.cell 4).trans (by simp)
 have z5:W2.cell? ⟨w.heap.size+1,5,none⟩=some (.slice A4 p.ks.length cap4):=(KP.out.cell 5).trans (by simp)
 have klt2:=KP.out.lt
 refine (spec_l3Shape p xs HW.out 10 (zz8 _) t HT.out W2 _ F _ G (ArrDt.below HX.out hB0 HF.out) (HF.out.mono hB0.size) (HV.out.below hB0 HG.out) (HG.out.mono hB0.size)).mono ?_
 rintro e w3 ⟨rfl,hb3⟩
 have hB3:=hB0.trans (hb3.mono hB0.size)
 have KT3:=jj (KT.out.same (hb3.block _ KT.out.lt))
 have KP3:=jj (KP.out.same (hb3.block _ KP.out.lt))
 clear y0 y1 z0 z1 z2 z3 z4 z5 klt klt2
 have y0:w3.cell? ⟨w.heap.size,0,none⟩=some (.int .i64 t.d):=(KT3.out.cell 0).trans (by simp)
 have y1:w3.cell? ⟨w.heap.size,1,none⟩=some (.int .i64 t.i):=(KT3.out.cell 1).trans (by simp)
 have klt:=KT3.out.lt
 have z0:w3.cell? ⟨w.heap.size+1,0,none⟩=some (.int .i64 p.op):=(KP3.out.cell 0).trans (by simp)
 have z1:w3.cell? ⟨w.heap.size+1,1,none⟩=some (.int .i64 p.ct):=(KP3.out.cell 1).trans (by simp)
 have z2:w3.cell? ⟨w.heap.size+1,2,none⟩=some (.int .i64 p.n):=(KP3.out.cell 2).trans (by simp)
 have z3:w3.cell? ⟨w.heap.size+1,3,none⟩=some (.int .i64 p.m):=(KP3.out.cell 3).trans (by simp)
 have z4:w3.cell? ⟨w.heap.size+1,4,none⟩=some (.int .i64 p.va):=(KP3.out.cell 4).trans (by simp)
 have z5:w3.cell? ⟨w.heap.size+1,5,none⟩=some (.slice A4 p.ks.length cap4):=(KP3.out.cell 5).trans (by simp)
 have klt2:=KP3.out.lt
 clear hb3 KT KP hB0
 cases e1:shapeB xs 10 t p with
 |false =>
  have hf:Hid (patOkB xs t p=false):=by unfold Hid patOkB;rw [e1];rfl
  clear e1
  go_wp2
  go_ret
  exact ⟨zA0 hf.out.symm,hB3⟩
 |true =>
  have h1:patOkB xs t p=(decide (nodesP p≤60) && linB xs 10 t p):=by unfold patOkB;rw [e1];rfl
  have H1:=jj h1
  have HS:=jj e1
  clear h1 e1
  go_wp2_with fail
  refine (spec_l3Count p 60 (by omega) (by omega) w3 _ G (HV.out.below hB3 HG.out) (HG.out.mono hB3.size) HZ.out).mono ?_
  rintro e w4 ⟨c,rfl,hu,hb4⟩
  have hB4:=hB3.trans (hb4.mono hB3.size)
  have KT4:=jj (KT3.out.same (hb4.block _ KT3.out.lt))
  have KP4:=jj (KP3.out.same (hb4.block _ KP3.out.lt))
  clear y0 y1 z0 z1 z2 z3 z4 z5 klt klt2
  have y0:w4.cell? ⟨w.heap.size,0,none⟩=some (.int .i64 t.d):=(KT4.out.cell 0).trans (by simp)
  have y1:w4.cell? ⟨w.heap.size,1,none⟩=some (.int .i64 t.i):=(KT4.out.cell 1).trans (by simp)
  have klt:=KT4.out.lt
  have z0:w4.cell? ⟨w.heap.size+1,0,none⟩=some (.int .i64 p.op):=(KP4.out.cell 0).trans (by simp)
  have z1:w4.cell? ⟨w.heap.size+1,1,none⟩=some (.int .i64 p.ct):=(KP4.out.cell 1).trans (by simp)
  have z2:w4.cell? ⟨w.heap.size+1,2,none⟩=some (.int .i64 p.n):=(KP4.out.cell 2).trans (by simp)
  have z3:w4.cell? ⟨w.heap.size+1,3,none⟩=some (.int .i64 p.m):=(KP4.out.cell 3).trans (by simp)
  have z4:w4.cell? ⟨w.heap.size+1,4,none⟩=some (.int .i64 p.va):=(KP4.out.cell 4).trans (by simp)
  have z5:w4.cell? ⟨w.heap.size+1,5,none⟩=some (.slice A4 p.ks.length cap4):=(KP4.out.cell 5).trans (by simp)
  have klt2:=KP4.out.lt
  clear hb4 KT3 KP3 hB3
  have hcd:decide (c≤60)=decide (nodesP p≤60):=by
   have h1:=hu.yes
   have h2:=hu.no
   by_cases h:nodesP p≤60
   ·rw [decide_eq_true h];exact decide_eq_true (by have:=h1 (by omega);omega)
   ·rw [decide_eq_false h];exact decide_eq_false (by have:=h2 (by omega);omega)
  have h2:=H1.out
  rw [←hcd] at h2
  clear hu hcd
  cases e2:decide (c≤60) with
  |false =>
   have hf:Hid (patOkB xs t p=false):=by rw [h2,e2];rfl
   clear h2
   go_wp2
   go_ret
   exact ⟨zA0 hf.out.symm,hB4⟩
  |true =>
   have hf:Hid (patOkB xs t p=linB xs 10 t p):=by rw [h2,e2];rfl
   clear h2
   go_wp2_with fail
   refine (spec_l3Linear p xs HW.out 10 t HT.out HS.out (by have:=HZ.out;omega) w4 _ F _ G (ArrDt.below HX.out hB4 HF.out) (HF.out.mono hB4.size) (HV.out.below hB4 HG.out) (HG.out.mono hB4.size)).mono ?_
   rintro e w5 ⟨rfl,hb5⟩
   have hB5:=hB4.trans (hb5.mono hB4.size)
   generalize linB xs 10 t p=bb at *
   clear hb5
   go_wp2
   go_ret
   exact ⟨zA0 hf.out.symm,hB5⟩
def patternValidB (xs:List Dt) (t:Ty) (p:P):Bool:=typeValidB xs t && patOkB xs t p
theorem spec_PatternValid (xs:List Dt) (t:Ty) (p:P) (hz:p.size≤1048576) (w:World) (x:Value) (F:List Nat) (cs:List Value) (G:List Nat):Arr w (DtR w) xs x F→Under w.heap.size F→PR w p cs G→Under w.heap.size G →
  Calls Tryz.prog 36 #[x,.agg #[.int .i64 t.d,.int .i64 t.i],.agg cs.toArray] w fun e w'=>e=.returned (.bool (patternValidB xs t p))∧Below w.heap.size w w':=by
 intro hx hf hv hg
 obtain ⟨kv,rfl,ha⟩:=(zAF _ _ _).1 hv
 obtain ⟨A,cap,rfl,hc1,hc2⟩:=hx.form
 obtain ⟨A4,cap4,rfl,hc3,hc4⟩:=ha.form
 have HV:=jj hv
 have HX:=jj hx
 have HF:=jj hf
 have HA:=jj ha
 have HG:=jj hg
 clear hx hf ha hg
 clear hv
 go_enter Tryz.func36,Tryz.ntmps36
 go_wp2_with fail
 obtain ⟨W2,hW2⟩:∃ W2,W2=((w.alloc (.cells #[.int .i64 t.d,.int .i64 t.i] 39)).alloc (.cells #[.int .i64 p.op,.int .i64 p.ct,.int .i64 p.n,.int .i64 p.m,.int .i64 p.va,.slice A4 p.ks.length cap4] 43)):=⟨_,rfl⟩
 have hB0:Below w.heap.size w W2:=by rw [hW2];exact ((zy2 _ _).alloc (zz8 _) _).alloc (by simp) _
 have KT:Hid (Blk W2 w.heap.size 39 #[.int .i64 t.d,.int .i64 t.i]):=by rw [hW2];exact (Blk.new w _ _).same (Below.heap_alloc _ _ _ (by simp))
 have KP:Hid (Blk W2 (w.heap.size+1) 43 #[.int .i64 p.op,.int .i64 p.ct,.int .i64 p.n,.int .i64 p.m,.int .i64 p.va,.slice A4 p.ks.length cap4]):=by rw [hW2];have h:=Blk.new (w.alloc (.cells #[.int .i64 t.d,.int .i64 t.i] 39)) 43 #[.int .i64 p.op,.int .i64 p.ct,.int .i64 p.n,.int .i64 p.m,.int .i64 p.va,.slice A4 p.ks.length cap4];rw [World.size_alloc] at h;exact h
 have hws:w.heap.size+2≤W2.heap.size:=by rw [hW2];simp
 have hws2:W2.heap.size=w.heap.size+1+1:=by rw [hW2];simp
 rw [←hW2]
 clear hW2
 have y0:W2.cell? ⟨w.heap.size,0,none⟩=some (.int .i64 t.d):=(KT.out.cell 0).trans (by simp)
 have y1:W2.cell? ⟨w.heap.size,1,none⟩=some (.int .i64 t.i):=(KT.out.cell 1).trans (by simp)
 have klt:=KT.out.lt
 have z0:W2.cell? ⟨w.heap.size+1,0,none⟩=some (.int .i64 p.op):=(KP.out.cell 0).trans (by simp)
 have z1:W2.cell? ⟨w.heap.size+1,1,none⟩=some (.int .i64 p.ct):=(KP.out.cell 1).trans (by simp)
 have z2:W2.cell? ⟨w.heap.size+1,2,none⟩=some (.int .i64 p.n):=(KP.out.cell 2).trans (by simp)
 have z3:W2.cell? ⟨w.heap.size+1,3,none⟩=some (.int .i64 p.m):=(KP.out.cell 3).trans (by simp)
 have z4:W2.cell? ⟨w.heap.size+1,4,none⟩=some (.int .i64 p.va):=(KP.out.cell 4).trans (by simp)
 have z5:W2.cell? ⟨w.heap.size+1,5,none⟩=some (.slice A4 p.ks.length cap4):=(KP.out.cell 5).trans (by simp)
 have klt2:=KP.out.lt
 refine (spec_TypeValid xs t W2 _ F (ArrDt.below HX.out hB0 HF.out) (HF.out.mono hB0.size)).mono ?_
 rintro e w3 ⟨rfl,hb3⟩
 have hB3:=hB0.trans (hb3.mono hB0.size)
 have KT3:=jj (KT.out.same (hb3.block _ KT.out.lt))
 have KP3:=jj (KP.out.same (hb3.block _ KP.out.lt))
 clear y0 y1 z0 z1 z2 z3 z4 z5 klt klt2
 have y0:w3.cell? ⟨w.heap.size,0,none⟩=some (.int .i64 t.d):=(KT3.out.cell 0).trans (by simp)
 have y1:w3.cell? ⟨w.heap.size,1,none⟩=some (.int .i64 t.i):=(KT3.out.cell 1).trans (by simp)
 have klt:=KT3.out.lt
 have z0:w3.cell? ⟨w.heap.size+1,0,none⟩=some (.int .i64 p.op):=(KP3.out.cell 0).trans (by simp)
 have z1:w3.cell? ⟨w.heap.size+1,1,none⟩=some (.int .i64 p.ct):=(KP3.out.cell 1).trans (by simp)
 have z2:w3.cell? ⟨w.heap.size+1,2,none⟩=some (.int .i64 p.n):=(KP3.out.cell 2).trans (by simp)
 have z3:w3.cell? ⟨w.heap.size+1,3,none⟩=some (.int .i64 p.m):=(KP3.out.cell 3).trans (by simp)
 have z4:w3.cell? ⟨w.heap.size+1,4,none⟩=some (.int .i64 p.va):=(KP3.out.cell 4).trans (by simp)
 have z5:w3.cell? ⟨w.heap.size+1,5,none⟩=some (.slice A4 p.ks.length cap4):=(KP3.out.cell 5).trans (by simp)
 have klt2:=KP3.out.lt
 clear hb3 KT KP
 cases e1:typeValidB xs t with
 |false =>
  have hf:Hid (patternValidB xs t p=false):=by unfold Hid patternValidB;rw [e1];rfl
  clear e1
  go_wp2
  go_ret
  exact ⟨zA0 hf.out.symm,hB3⟩
 |true =>
  have hf:Hid (patternValidB xs t p=patOkB xs t p):=by unfold Hid patternValidB;rw [e1];rfl
  obtain ⟨hw,hto⟩:=typeValid_split e1
  have HW:=jj hw
  have HT:=jj (typeOkB_tyIn hto)
  clear e1 hw hto
  go_wp2_with fail
  refine (spec_l3Is xs HW.out t HT.out p hz w3 _ F _ G (ArrDt.below HX.out hB3 HF.out) (HF.out.mono hB3.size) (HV.out.below hB3 HG.out) (HG.out.mono hB3.size)).mono ?_
  rintro e w4 ⟨rfl,hb4⟩
  have hB4:=hB3.trans (hb4.mono hB3.size)
  generalize patOkB xs t p=bb at *
  clear hb4
  go_wp2
  go_ret
  exact ⟨zA0 hf.out.symm,hB4⟩
def patternVarsL (xs:List Dt) (t:Ty) (p:P):List Vt:=if patternValidB xs t p=true then varsN xs 10 t p else []
structure Upto (v:V) (most:Int) (c:Int):Prop where
 lo:1≤c
 hi:c≤nodes v
 yes:(nodes v:Int)≤most→c=nodes v
 no:most<nodes v→most<c
def CountPost (v:V) (most:Int) (w:World) (e:Ending) (w':World):Prop:=∃ c:Int,e=.returned (.int .i64 c)∧Upto v most c∧Below w.heap.size w w'
def CountS (v:V):Prop:=∀ (most:Int) (_:0≤most) (_:most≤1000) (w:World) (cs:List Value) (G:List Nat),VR w v cs G→Under w.heap.size G→nodes v≤2000000 →
 Calls Tryz.prog 72 #[.agg cs.toArray,.int .i64 most] w (CountPost v most w)
theorem l2Count_of (v:V) (ih:∀ k∈v.ks,CountS k):CountS v:=by
 intro most hm0 hm1 w cs G hv hg hz
 obtain ⟨kv,rfl,ha⟩:=(zAD _ _ _).1 hv
 obtain ⟨A4,cap4,rfl,hc3,hc4⟩:=ha.form
 have IH:=jj ih
 have HZ:=jj hz
 have HA:=jj ha
 have HG:=jj hg
 clear ha hg
 clear ih hv hz
 have hkl:v.ks.length≤2000000:=by have:=HZ.out;rw [nodes_ks,V.sizes_eq] at this;omega
 go_enter Tryz.func72,Tryz.ntmps72
 go_wp2
 have hB0:Below w.heap.size w (w.alloc (.cells #[.int .i64 v.c,.int .i64 v.n,.slice A4 v.ks.length cap4] 47)):=(zy2 _ _).alloc (zz8 _) _
 have K0:Hid (Blk (w.alloc (.cells #[.int .i64 v.c,.int .i64 v.n,.slice A4 v.ks.length cap4] 47)) w.heap.size 47 #[.int .i64 v.c,.int .i64 v.n,.slice A4 v.ks.length cap4]):=Blk.new _ _ _
 go_loopw [5,6] (fun nv iv wr=>∃ i:Nat,∃ n:Int,i≤v.ks.length∧iv=.int .i64 i∧nv=.int .i64 n∧1≤n∧n≤2000000∧Hid (n≤1+(V.sizes (v.ks.take i):Nat)∧(1+((V.sizes (v.ks.take i):Nat):Int)≤most→n=1+(V.sizes (v.ks.take i):Nat))∧(most<1+((V.sizes (v.ks.take i):Nat):Int)→most<n))∧Hid (Blk wr w.heap.size 47 #[.int .i64 v.c,.int .i64 v.n,.slice A4 v.ks.length cap4])∧Below w.heap.size w wr) (fun _ iv _=>v.ks.length-(intOf iv).toNat)
 case atStart=>exact ⟨0,1,Nat.zero_le _,rfl,rfl,by omega,by omega,⟨by simp [V.sizes],fun _=>by simp [V.sizes],fun h=>by simpa [V.sizes] using h⟩,K0,hB0⟩
 case round =>
  clear hB0 K0
  obtain ⟨i,n,hi,rfl,rfl,hn1,hn2,HN,KV,hB⟩:=hrel
  have z2:wr.cell? ⟨w.heap.size,2,none⟩=some (.slice A4 v.ks.length cap4):=(KV.out.cell 2).trans (by simp)
  have klt:=KV.out.lt
  have hend:(¬(i<v.ks.length∧n≤most))→CountPost v most w (.returned (.int .i64 n)) wr:=fun h=>by
   have h1:=HN.out
   have h2:=sizes_take_le v.ks i
   have h3:=nodes_ks v
   refine ⟨n,rfl,⟨hn1,by omega,fun hy=>?_,fun hno=>?_⟩,hB⟩
   ·by_cases hil:i<v.ks.length
    ·have:¬n≤most:=fun hnm=>h ⟨hil,hnm⟩
     have:=h1.2.1 (by omega)
     omega
    ·rw [List.take_of_length_le (by omega)] at h1
     have:=h1.2.1 (by omega)
     omega
   ·by_cases hil:i<v.ks.length
    ·have:¬n≤most:=fun hnm=>h ⟨hil,hnm⟩
     omega
    ·rw [List.take_of_length_le (by omega)] at h1
     exact h1.2.2 (by omega)
  have HEnd:=jj hend
  clear hend
  by_cases hil:i<v.ks.length
  ·have t1:decide ((i:Int)<(v.ks.length:Int))=true:=by simp;omega
   by_cases hnm:n≤most
   ·have t2:decide (n≤most)=true:=by simpa using hnm
    obtain ⟨b4,off4,rfl⟩:=HA.out.ptr (by omega)
    obtain ⟨A7,cap7,G7,hb7,k0,k1,k2,HV7,HG7,-,-,-⟩:=ArrV.at HA.out HG.out hB i hil
    have g1:(0:Int)≤(i:Int):=by omega
    have g2:(i:Int)<(v.ks.length:Int):=by omega
    have hst:=sizes_step hil
    have hsl:=sizes_take_le v.ks (i+1)
    have hnk:=nodes_ks v
    have hz:=HZ.out
    have hkz:nodes v.ks[i]≤2000000:=by omega
    have HKZ:=jj hkz
    have HST:=jj (And.intro hst (And.intro hsl hnk))
    clear hst hsl hnk hz hkz
    go_wp2_with fail
    refine (IH.out v.ks[i] (List.getElem_mem hil) (most-n) (by omega) (by omega) wr _ G7 (HV7.out.below hB HG7.out) (HG7.out.mono hB.size) HKZ.out).mono ?_
    rintro e w' ⟨c,rfl,hu,hB'⟩
    have hB3:=hB.trans (hB'.mono hB.size)
    have KV3:=jj (KV.out.same (hB'.block _ KV.out.lt))
    have hc1:=hu.lo
    have hN2:Hid (n+c≤1+(V.sizes (v.ks.take (i+1)):Nat)∧(1+((V.sizes (v.ks.take (i+1)):Nat):Int)≤most→n+c=1+(V.sizes (v.ks.take (i+1)):Nat))∧(most<1+((V.sizes (v.ks.take (i+1)):Nat):Int)→most<n+c)):=by
     have h1:=HN.out
     obtain ⟨h2,h3,h4⟩:=HST.out
     have h5:=hu.hi
     have h6:=hu.yes
     have h7:=hu.no
     have h8:n=1+((V.sizes (v.ks.take i):Nat):Int):=by
      rcases Int.lt_or_le most (1+((V.sizes (v.ks.take i):Nat):Int)) with h | h
      ·have:=h1.2.2 h;omega
      ·exact h1.2.1 h
     refine ⟨by omega,fun hy=>?_,fun hno=>?_⟩
     ·have:=h6 (by omega);omega
     ·have:=h7 (by omega);omega
    have hn3:n+c≤2000000:=by
     have h1:=hN2.out.1
     obtain ⟨h2,h3,h4⟩:=HST.out
     have:=HZ.out
     omega
    clear hu t1 t2 z2 klt k0 k1 k2 hB'
    go_wp2
    go_roundw
    case rel=>exact ⟨i+1,n+c,by omega,by go_num,rfl,by omega,hn3,hN2,KV3,hB3⟩
    case measure=>(simp [intOf] <;> omega)
   ·have t2:decide (n≤most)=false:=by simpa using hnm
    have HFin:=jj (HEnd.out (fun h=>hnm h.2))
    go_wp2
    go_ret
    exact HFin.out
  ·have t1:decide ((i:Int)<(v.ks.length:Int))=false:=by simp;omega
   have HFin:=jj (HEnd.out (fun h=>hil h.1))
   go_wp2
   go_ret
   exact HFin.out
theorem spec_l2Count:∀ v,CountS v:=V.indv l2Count_of
def scanB (xs:List Dt) (d:Nat) (t:Ty) (v:V) (c:Int):Bool:=fitsV xs d t v && decide (c+nodes v≤60)
def ScanPost (xs:List Dt) (d:Nat) (t:Ty) (v:V) (c:Int) (g:Nat) (w:World) (e:Ending) (w':World):Prop :=
 ∃ c':Int,e=.returned (.bool (scanB xs d t v c))∧Chg [g] w w'∧Blk w' g 3 #[.int .i64 c']∧(scanB xs d t v c=true→c'=c+nodes v)∧0≤c'
def ScanI (v:V):Prop:=∀ (xs:List Dt) (_:WorldOK xs) (d deep:Nat) (_:d+deep=11) (_:1≤deep) (t:Ty) (_:TyIn xs.length t) (w:World) (x:Value) (F:List Nat) (cs:List Value) (G:List Nat) (g:Nat) (c:Int),Arr w (DtR w) xs x F→Under w.heap.size F→VR w v cs G→Under w.heap.size G →
 Blk w g 3 #[.int .i64 c]→g∉F→g∉G→0≤c→c≤60 →
 Calls Tryz.prog 75 #[x,.agg #[.int .i64 t.d,.int .i64 t.i],.agg cs.toArray,.int .i64 (deep:Int),.bool false,.pointer (some ⟨g,0,none⟩)] w (ScanPost xs d t v c g w)
theorem isNum_nodes {v:V} (h:isNum v=true):nodes v=1:=by
 unfold isNum at h
 simp only [Bool.and_eq_true,decide_eq_true_eq] at h
 rw [nodes_ks,List.length_eq_zero_iff.1 h.2.2];rfl
theorem valueScan_of (v:V) (ih:∀ k∈v.ks,ScanI k):ScanI v:=by
 intro xs hw d deep hdd hdp t ht w x F cs G g c hx hf hv hg hgb hgF hgG hc0 hc60
 obtain ⟨kv,rfl,ha⟩:=(zAD _ _ _).1 hv
 obtain ⟨A,cap,rfl,hc1,hc2⟩:=hx.form
 obtain ⟨A4,cap4,rfl,hc3,hc4⟩:=ha.form
 have HW:=jj hw
 have IH:=jj ih
 have HGF:=jj hgF
 have HGG:=jj hgG
 have hgl:=hgb.lt
 have gx:w.cell? ⟨g,0,none⟩=some (.int .i64 c):=(hgb.cell 0).trans (by simp)
 have gf:=hgb.frozen 0
 have HGB:=jj hgb
 have HNP:Hid (1≤nodes v):=by unfold nodes;exact Nat.le_add_right _ _
 have HX:=jj hx
 have HF:=jj hf
 have HA:=jj ha
 have HG:=jj hg
 clear hx hf ha hg
 clear hw ih hv hgF hgG hgb
 by_cases hcc:60<c+1
 ·have t9:decide (c+1>60)=true:=by simpa using hcc
  have HT:Hid (scanB xs d t v c=false):=by
   have:=HNP.out
   unfold Hid scanB;rw [decide_eq_false (by omega),Bool.and_false]
  have KG:Hid (Blk (((w.setCell ⟨g,0,none⟩ (.int .i64 (c+1))).alloc (.cells #[.int .i64 t.d,.int .i64 t.i] 39)).alloc (.cells #[.int .i64 v.c,.int .i64 v.n,.slice A4 v.ks.length cap4] 47)) g 3 #[.int .i64 (c+1)]):=by
   have h1:Blk (w.setCell ⟨g,0,none⟩ (.int .i64 (c+1))) g 3 #[.int .i64 (c+1)]:=HGB.out.set_ 0 (.int .i64 (c+1))
   exact (h1.same (Below.heap_alloc _ _ _ h1.lt)).same (Below.heap_alloc _ _ _ (by have:=h1.lt;simp;omega))
  have HCG:Hid (Chg [g] w (((w.setCell ⟨g,0,none⟩ (.int .i64 (c+1))).alloc (.cells #[.int .i64 t.d,.int .i64 t.i] 39)).alloc (.cells #[.int .i64 v.c,.int .i64 v.n,.slice A4 v.ks.length cap4] 47))):=(((Chg.refl [g] w).set (by simp)).step ((zy2 _ _).alloc (zz8 _) _)).step ((zy2 _ _).alloc (zz8 _) _)
  have hfin:ScanPost xs d t v c g w (.returned (.bool false)) (((w.setCell ⟨g,0,none⟩ (.int .i64 (c+1))).alloc (.cells #[.int .i64 t.d,.int .i64 t.i] 39)).alloc (.cells #[.int .i64 v.c,.int .i64 v.n,.slice A4 v.ks.length cap4] 47)):=⟨c+1,by rw [HT.out],HCG.out,KG.out,(fun h=>by rw [HT.out] at h;cases h),by omega⟩
  have HFin:=jj hfin
  clear hfin
  go_enter Tryz.func75,Tryz.ntmps75
  go_wp2
  go_ret
  exact HFin.out
 ·have t9:decide (c+1>60)=false:=by simp;omega
  cases d with
  |zero =>
   have t8:decide ((deep:Int)>10)=true:=by simp;omega
   have HT:Hid (scanB xs 0 t v c=false):=rfl
   have KG:Hid (Blk (((w.setCell ⟨g,0,none⟩ (.int .i64 (c+1))).alloc (.cells #[.int .i64 t.d,.int .i64 t.i] 39)).alloc (.cells #[.int .i64 v.c,.int .i64 v.n,.slice A4 v.ks.length cap4] 47)) g 3 #[.int .i64 (c+1)]):=by
    have h1:Blk (w.setCell ⟨g,0,none⟩ (.int .i64 (c+1))) g 3 #[.int .i64 (c+1)]:=HGB.out.set_ 0 (.int .i64 (c+1))
    exact (h1.same (Below.heap_alloc _ _ _ h1.lt)).same (Below.heap_alloc _ _ _ (by have:=h1.lt;simp;omega))
   have HCG:Hid (Chg [g] w (((w.setCell ⟨g,0,none⟩ (.int .i64 (c+1))).alloc (.cells #[.int .i64 t.d,.int .i64 t.i] 39)).alloc (.cells #[.int .i64 v.c,.int .i64 v.n,.slice A4 v.ks.length cap4] 47))):=(((Chg.refl [g] w).set (by simp)).step ((zy2 _ _).alloc (zz8 _) _)).step ((zy2 _ _).alloc (zz8 _) _)
   have hfin:ScanPost xs 0 t v c g w (.returned (.bool false)) (((w.setCell ⟨g,0,none⟩ (.int .i64 (c+1))).alloc (.cells #[.int .i64 t.d,.int .i64 t.i] 39)).alloc (.cells #[.int .i64 v.c,.int .i64 v.n,.slice A4 v.ks.length cap4] 47)):=⟨c+1,by rw [HT.out],HCG.out,KG.out,(fun h=>by rw [HT.out] at h;cases h),by omega⟩
   have HFin:=jj hfin
   clear hfin
   go_enter Tryz.func75,Tryz.ntmps75
   go_wp2
   go_ret
   exact HFin.out
  |succ d =>
  have t8:decide ((deep:Int)>10)=false:=by simp;omega
  obtain ⟨W3,hW3⟩:∃ W3,W3=(((w.setCell ⟨g,0,none⟩ (.int .i64 (c+1))).alloc (.cells #[.int .i64 t.d,.int .i64 t.i] 39)).alloc (.cells #[.int .i64 v.c,.int .i64 v.n,.slice A4 v.ks.length cap4] 47)):=⟨_,rfl⟩
  have KT:Hid (Blk W3 w.heap.size 39 #[.int .i64 t.d,.int .i64 t.i]):=by
   rw [hW3]
   have h:=Blk.new (w.setCell ⟨g,0,none⟩ (.int .i64 (c+1))) 39 #[.int .i64 t.d,.int .i64 t.i]
   rw [show ((w.setCell ⟨g,0,none⟩ (.int .i64 (c+1)))).heap.size=w.heap.size from by simp [World.setCell]] at h
   exact h.same (Below.heap_alloc _ _ _ (by simp [World.setCell]))
  have KV:Hid (Blk W3 (w.heap.size+1) 47 #[.int .i64 v.c,.int .i64 v.n,.slice A4 v.ks.length cap4]):=by
   rw [hW3]
   have h:=Blk.new ((w.setCell ⟨g,0,none⟩ (.int .i64 (c+1))).alloc (.cells #[.int .i64 t.d,.int .i64 t.i] 39)) 47 #[.int .i64 v.c,.int .i64 v.n,.slice A4 v.ks.length cap4]
   rw [World.size_alloc,show ((w.setCell ⟨g,0,none⟩ (.int .i64 (c+1)))).heap.size=w.heap.size from by simp [World.setCell]] at h
   exact h
  have KG:Hid (Blk W3 g 3 #[.int .i64 (c+1)]):=by
   rw [hW3]
   have h1:Blk (w.setCell ⟨g,0,none⟩ (.int .i64 (c+1))) g 3 #[.int .i64 (c+1)]:=HGB.out.set_ 0 (.int .i64 (c+1))
   exact (h1.same (Below.heap_alloc _ _ _ h1.lt)).same (Below.heap_alloc _ _ _ (by have:=h1.lt;simp;omega))
  have HCG:Hid (Chg [g] w W3):=by
   rw [hW3];exact (((Chg.refl [g] w).set (by simp)).step ((zy2 _ _).alloc (zz8 _) _)).step ((zy2 _ _).alloc (zz8 _) _)
  have HX3:Hid (Arr W3 (DtR W3) xs (.slice A xs.length cap) F):=ArrDt.mono HX.out (HCG.out.kept HF.out (fun b hb h=>HGF.out (by rw [←List.mem_singleton.1 h];exact hb)))
  have HF3:=jj (HF.out.mono HCG.out.size)
  have HA3:Hid (Arr W3 (VR W3) v.ks (.slice A4 v.ks.length cap4) G):=ArrV.mono HA.out (HCG.out.kept HG.out (fun b hb h=>HGG.out (by rw [←List.mem_singleton.1 h];exact hb)))
  have HG3:=jj (HG.out.mono HCG.out.size)
  have y0:W3.cell? ⟨w.heap.size,0,none⟩=some (.int .i64 t.d):=(KT.out.cell 0).trans (by simp)
  have y1:W3.cell? ⟨w.heap.size,1,none⟩=some (.int .i64 t.i):=(KT.out.cell 1).trans (by simp)
  have z0:W3.cell? ⟨w.heap.size+1,0,none⟩=some (.int .i64 v.c):=(KV.out.cell 0).trans (by simp)
  have z1:W3.cell? ⟨w.heap.size+1,1,none⟩=some (.int .i64 v.n):=(KV.out.cell 1).trans (by simp)
  have z2:W3.cell? ⟨w.heap.size+1,2,none⟩=some (.slice A4 v.ks.length cap4):=(KV.out.cell 2).trans (by simp)
  have klt:=KT.out.lt
  have klt2:=KV.out.lt
  have hgl3:=KG.out.lt
  rcases ht with ht | ⟨q,r,rfl,hql,hrl⟩
  ·have t0:(t.d == -1)=true:=by simp [ht]
   have hfi:=fitsV_int (xs:=xs) (d:=d) (v:=v) ht
   have hEnd:∀ r:Bool,isNum v=r→ScanPost xs (d+1) t v c g w (.returned (.bool r)) W3:=fun r hr=>by
    have hT:scanB xs (d+1) t v c=r:=by
     unfold scanB
     rw [hfi,hr]
     cases r with
     |false=>rfl
     |true=>rw [isNum_nodes hr,Bool.true_and];exact decide_eq_true (by omega)
    exact ⟨c+1,by rw [hT],HCG.out,KG.out,(fun h=>by rw [hT] at h;rw [isNum_nodes (hr.trans h)];rfl),by omega⟩
   have HEnd:=jj hEnd
   clear hEnd hfi ht
   cases q0:(v.c == -1) with
   |false =>
    have HFin:=jj (HEnd.out false (by unfold isNum;rw [q0];rfl))
    go_enter Tryz.func75,Tryz.ntmps75
    go_wp2_with fail
    rw [←hW3]
    clear hW3
    go_wp2
    go_ret
    exact HFin.out
   |true =>
    cases q1:withinB v.n 0 9 with
    |false =>
     have HFin:=jj (HEnd.out false (by unfold isNum;rw [q0,q1];rfl))
     have HQ1:=jj q1
     clear q1
     go_enter Tryz.func75,Tryz.ntmps75
     go_wp2_with fail
     rw [←hW3]
     clear hW3
     refine (zAE v.n 0 9 W3).mono ?_
     rintro e w5 ⟨rfl,rfl⟩
     rw [HQ1.out]
     go_wp2
     go_ret
     exact HFin.out
    |true =>
     by_cases q2:v.ks.length=0
     ·have HFin:=jj (HEnd.out true (by unfold isNum;rw [q0,q1,decide_eq_true q2];rfl))
      have t3:((v.ks.length:Int)==0)=true:=by simp [q2]
      have HQ1:=jj q1
      clear q1 q2
      go_enter Tryz.func75,Tryz.ntmps75
      go_wp2_with fail
      rw [←hW3]
      clear hW3
      refine (zAE v.n 0 9 W3).mono ?_
      rintro e w5 ⟨rfl,rfl⟩
      rw [HQ1.out]
      go_wp2
      go_ret
      exact HFin.out
     ·have HFin:=jj (HEnd.out false (by unfold isNum;rw [q0,q1,decide_eq_false q2];rfl))
      have t3:((v.ks.length:Int)==0)=false:=by simp;simpa using q2
      have HQ1:=jj q1
      clear q1 q2
      go_enter Tryz.func75,Tryz.ntmps75
      go_wp2_with fail
      rw [←hW3]
      clear hW3
      refine (zAE v.n 0 9 W3).mono ?_
      rintro e w5 ⟨rfl,rfl⟩
      rw [HQ1.out]
      go_wp2
      go_ret
      exact HFin.out
  ·have t0:((q:Int) == -1)=false:=by rw [beq_eq_false_iff_ne];omega
   have hfd:=fitsV_data (xs:=xs) (d:=d) (v:=v) (t:=⟨(q:Int),(r:Int)⟩) (by show ¬((q:Int) = -1);omega)
   have HFD:=jj hfd
   clear hfd
   have HBad:Hid (∀ W c',fitsV xs (d+1) ⟨(q:Int),(r:Int)⟩ v=false∨(60:Int)<c+nodes v→Chg [g] w W→Blk W g 3 #[.int .i64 c']→0≤c'→ScanPost xs (d+1) ⟨(q:Int),(r:Int)⟩ v c g w (.returned (.bool false)) W):=fun W c' h hC hK hc'=>by
    have hT:scanB xs (d+1) ⟨(q:Int),(r:Int)⟩ v c=false:=by
     unfold scanB
     rcases h with h | h
     ·rw [h];rfl
     ·rw [decide_eq_false (by omega),Bool.and_false]
    exact ⟨c',by rw [hT],hC,hK,(fun h=>by rw [hT] at h;cases h),hc'⟩
   go_enter Tryz.func75,Tryz.ntmps75
   go_wp2_with fail
   rw [←hW3]
   clear hW3
   cases q0:(v.n==0) with
   |false =>
    have t1:(v.n != 0)=true:=by rw [bne,q0];rfl
    have HFin:Hid (∀ n,ScanPost xs (d+1) ⟨(q:Int),(r:Int)⟩ v c g w (.returned (.bool false)) (W3.drewN n)):=fun n=>HBad.out _ (c+1) (.inl (by rw [HFD.out,q0];rfl)) (HCG.out.drewN n) KG.out (by omega)
    clear q0
    go_quiet (fail)
    go_wp2
    go_ret
    exact HFin.out _
   |true =>
    have t1:(v.n != 0)=false:=by rw [bne,q0];rfl
    have h1:fitsV xs (d+1) ⟨(q:Int),(r:Int)⟩ v=(hasB (ctorsL xs ⟨(q:Int),(r:Int)⟩) v.c && (decide (v.ks.length=(argsOf xs ⟨(q:Int),(r:Int)⟩ v.c).length) && zipAll (fitsV xs d) (argsOf xs ⟨(q:Int),(r:Int)⟩ v.c) v.ks)):=by rw [HFD.out,q0,Bool.true_and]
    have H1:=jj h1
    have HIW:Hid (InWorld xs.length ⟨(q:Int),(r:Int)⟩):=.inr ⟨q,rfl,hql⟩
    clear h1 q0
    have hBr:=zy2 W3.heap.size W3
    have hkeep:∀ U U':World,(U.cell? ⟨w.heap.size,0,none⟩=some (.int .i64 (q:Int))∧U.cell? ⟨w.heap.size,1,none⟩=some (.int .i64 (r:Int))∧U.cell? ⟨w.heap.size+1,0,none⟩=some (.int .i64 v.c)∧U.cell? ⟨w.heap.size+1,1,none⟩=some (.int .i64 v.n)∧U.cell? ⟨w.heap.size+1,2,none⟩=some (.slice A4 v.ks.length cap4))→Below U.heap.size U U'→W3.heap.size≤U.heap.size→(U'.cell? ⟨w.heap.size,0,none⟩=some (.int .i64 (q:Int))∧U'.cell? ⟨w.heap.size,1,none⟩=some (.int .i64 (r:Int))∧U'.cell? ⟨w.heap.size+1,0,none⟩=some (.int .i64 v.c)∧U'.cell? ⟨w.heap.size+1,1,none⟩=some (.int .i64 v.n)∧U'.cell? ⟨w.heap.size+1,2,none⟩=some (.slice A4 v.ks.length cap4)):=fun U U' h hUU hU=>⟨(hUU.cell (zz9 (klt) hU)).trans h.1,(hUU.cell (zz9 (klt) hU)).trans h.2.1,(hUU.cell (zz9 (klt2) hU)).trans h.2.2.1,(hUU.cell (zz9 (klt2) hU)).trans h.2.2.2.1,(hUU.cell (zz9 (klt2) hU)).trans h.2.2.2.2⟩
    have HKeep:=jj hkeep
    clear hkeep
    go_region_held3 (fun w'=>w'.cell? ⟨w.heap.size,0,none⟩=some (.int .i64 (q:Int))∧w'.cell? ⟨w.heap.size,1,none⟩=some (.int .i64 (r:Int))∧w'.cell? ⟨w.heap.size+1,0,none⟩=some (.int .i64 v.c)∧w'.cell? ⟨w.heap.size+1,1,none⟩=some (.int .i64 v.n)∧w'.cell? ⟨w.heap.size+1,2,none⟩=some (.slice A4 v.ks.length cap4)) (first | assumption | (exact ⟨y0,y1,z0,z1,z2⟩) | (exact HKeep.out W3.drew w4 ⟨y0,y1,z0,z1,z2⟩ hb4 (zz8 _)) | (exact HKeep.out w4 w5 (by assumption) hb5 hlew4)) (first | (go_at_call 90;((with_reducible refine (impl_ctorsOf xs ⟨(q:Int),(r:Int)⟩ _ _ F (ArrDt.below HX3.out hBr.drew HF3.out) (HF3.out.mono hBr.drew.size) HW.out HIW.out).mono ?_);rintro e w4 ⟨v4,F4,rfl,hb4,ha4,-,hfs4⟩);have hlew4:W3.heap.size≤w4.heap.size:=hb4.size) | (go_at_call 60;((with_reducible refine (impl_has (ctorsL xs ⟨(q:Int),(r:Int)⟩) v.c _ _ F4 ha4 hfs4.under).mono ?_);rintro e w5 ⟨rfl,hb5⟩)))
    have hBa:=hBr.drew.trans (hb4.mono hBr.drew.size)
    have hB5:=hBa.trans (hb5.mono hBa.size)
    have KT5:=jj (KT.out.same (hB5.block _ KT.out.lt))
    have KV5:=jj (KV.out.same (hB5.block _ KV.out.lt))
    have KG5:=jj (KG.out.same (hB5.block _ KG.out.lt))
    have HCG5:=jj (HCG.out.step hB5)
    have HX5:=jj (ArrDt.below HX3.out hB5 HF3.out)
    have HF5:=jj (HF3.out.mono hB5.size)
    have HA5:=jj (ArrV.below HA3.out hB5 HG3.out)
    have HG5:=jj (HG3.out.mono hB5.size)
    clear HKeep KT KV KG HCG HX3 HF3 HA3 HG3 y0 y1 z0 z1 z2 klt klt2 hBa hb4 hb5 ha4 hfs4 hBr t1 hgl3 gx gf
    cases e1:hasB (ctorsL xs ⟨(q:Int),(r:Int)⟩) v.c with
    |false =>
     have HFin:=jj (HBad.out w5 (c+1) (.inl (by rw [H1.out,e1];rfl)) HCG5.out KG5.out (by omega))
     clear e1
     go_wp2
     go_ret
     exact HFin.out
    |true =>
     obtain ⟨q',k,e2,hvc,hq',hkl⟩:=mem_ctorsL (xs:=xs) (t:=⟨(q:Int),(r:Int)⟩) (.inr ⟨q,rfl,hql⟩) ((hasB_iff _ _).1 e1)
     obtain rfl:q=q':=Int.ofNat.inj e2
     have h2:=H1.out
     rw [e1,Bool.true_and,hvc,argsOf_get hql hkl] at h2
     have H2:=jj h2
     clear h2 e1 e2
     have HAI:=jj (fun a ha=>argTy_in (HW.out.ctor hql hkl) (i:=(r:Int)) (by omega) (by omega) (a:=a) ha)
     have HLA:=jj (HW.out.ctor hql hkl).args
     have y0:w5.cell? ⟨w.heap.size,0,none⟩=some (.int .i64 (q:Int)):=(KT5.out.cell 0).trans (by simp)
     have y1:w5.cell? ⟨w.heap.size,1,none⟩=some (.int .i64 (r:Int)):=(KT5.out.cell 1).trans (by simp)
     have z0:w5.cell? ⟨w.heap.size+1,0,none⟩=some (.int .i64 v.c):=(KV5.out.cell 0).trans (by simp)
     have klt:=KT5.out.lt
     have klt2:=KV5.out.lt
     have HVC:=jj hvc
     clear hvc
     go_wp2_with fail
     rw [HVC.out]
     refine (impl_argTypes xs q k (r:Int) hql hkl w5 _ F HX5.out HF5.out HLA.out).mono ?_
     rintro e w6 ⟨v6,F6,rfl,hb6,ha6,-,hfs6⟩
     have KV6:=jj (KV5.out.same (hb6.block _ KV5.out.lt))
     have KG6:=jj (KG5.out.same (hb6.block _ KG5.out.lt))
     have HCG6:=jj (HCG5.out.step hb6)
     generalize hass:argsL xs[q].ctors[k] (r:Int)=ls at *
     clear hass
     obtain ⟨A6,cap6,rfl,hd3,hd4⟩:=ha6.form
     have HA6:Hid (Arr w6 (TyR w6) ls (.slice A6 ls.length cap6) F6∧Under w6.heap.size F6):=⟨ha6,hfs6.under⟩
     have HN6:Hid (∀ b∈F6,b∉[g]):=fun b hb h=>by
      have h1:=(hfs6 b hb).1
      rw [List.mem_singleton.1 h] at h1
      have:=KG5.out.lt
      omega
     clear ha6 hfs6 KT5 KV5 KG5 HCG5 HX5 HF5 HA5 HG5 y0 y1 z0 klt klt2 hB5 hb6
     have z2:w6.cell? ⟨w.heap.size+1,2,none⟩=some (.slice A4 v.ks.length cap4):=(KV6.out.cell 2).trans (by simp)
     have klt2:=KV6.out.lt
     by_cases hln:v.ks.length=ls.length
     ·have t2:((ls.length:Int) != (v.ks.length:Int))=false:=by simp [hln]
      have h3:fitsV xs (d+1) ⟨(q:Int),(r:Int)⟩ v=zipAll (fitsV xs d) ls v.ks:=by rw [H2.out,decide_eq_true hln,Bool.true_and]
      have H3:=jj h3
      have HLN:=jj hln
      clear h3 hln
      go_wp2
      clear z2 klt2 t2
      go_loopw [90] (fun iv wr=>∃ i:Nat,∃ ci:Int,i≤v.ks.length∧iv=.int .i64 i∧0≤ci∧ci≤60∧Hid (ci=c+1+(V.sizes (v.ks.take i):Nat))∧Hid (fitsV xs (d+1) ⟨(q:Int),(r:Int)⟩ v=zipAll (fitsV xs d) (ls.drop i) (v.ks.drop i))∧Hid (Blk wr g 3 #[.int .i64 ci])∧Hid (Chg [g] w wr)∧Hid (Arr wr (TyR wr) ls (.slice A6 ls.length cap6) F6∧Under wr.heap.size F6)) (fun iv _=>v.ks.length-(intOf iv).toNat)
      case atStart=>exact ⟨0,c+1,Nat.zero_le _,rfl,by omega,by omega,(by show c+1=c+1+((0:Nat):Int);omega),H3,KG6,HCG6,HA6⟩
      case round =>
       clear KG6 HCG6 HA6 KV6
       obtain ⟨i,ci,hi,rfl,hci0,hci1,HCI,HR,KG,HCG,HA6⟩:=hrel
       by_cases hik:i<v.ks.length
       ·have hil:i<ls.length:=by rw [←HLN.out];exact hik
        obtain ⟨b6,off6,rfl⟩:=HA6.out.1.ptr (by omega)
        have HAw:=jj (ArrV.mono HA.out (HCG.out.kept HG.out (fun b hb h=>HGG.out (by rw [←List.mem_singleton.1 h];exact hb))))
        have HGw:=jj (HG.out.mono HCG.out.size)
        have HXw:=jj (ArrDt.mono HX.out (HCG.out.kept HF.out (fun b hb h=>HGF.out (by rw [←List.mem_singleton.1 h];exact hb))))
        have HFw:=jj (HF.out.mono HCG.out.size)
        obtain ⟨b4,off4,rfl⟩:=HAw.out.ptr (by omega)
        obtain ⟨A7,cap7,G7,hb7,k0,k1,k2,HV7,HG7,hG7G,-,-⟩:=ArrV.at HAw.out HGw.out (zy2 _ _) i hik
        have HN7:Hid (g∉G7):=fun h=>HGG.out (hG7G _ h)
        clear hG7G
        have g1:(0:Int)≤(i:Int):=by omega
        have g2:(i:Int)<(ls.length:Int):=by omega
        have g3:(i:Int)<(v.ks.length:Int):=by omega
        have hstep:=HR.out
        rw [zipAll_step hil hik] at hstep
        have HST:=jj hstep
        clear hstep
        have hwr:IntKind.i64.wrap ((deep:Int)+1)=(deep:Int)+1:=IntWalk.i64_in _ (by omega)
        obtain ⟨W7,hW7⟩:∃ W7,W7=wr.alloc (.cells #[.int .i64 v.ks[i].c,.int .i64 v.ks[i].n,.slice A7 v.ks[i].ks.length cap7] 47):=⟨_,rfl⟩
        have hb77:Below wr.heap.size wr W7:=by rw [hW7];exact (zy2 _ _).alloc (zz8 _) _
        have KX:Hid (Blk W7 wr.heap.size 47 #[.int .i64 v.ks[i].c,.int .i64 v.ks[i].n,.slice A7 v.ks[i].ks.length cap7]):=by rw [hW7];exact Blk.new _ _ _
        have KG7:=jj (KG.out.same (hb77.block _ KG.out.lt))
        have HCG7:=jj (HCG.out.step hb77)
        have HX7:=jj (ArrDt.below HXw.out hb77 HFw.out)
        have HF7:=jj (HFw.out.mono hb77.size)
        have HV77:=jj (HV7.out.below hb77 HG7.out)
        have HG77:=jj (HG7.out.mono hb77.size)
        have HA67:Hid (Arr W7 (TyR W7) ls (.slice (some ⟨b6,off6,none⟩) ls.length cap6) F6∧Under W7.heap.size F6):=⟨ArrTy.below HA6.out.1 hb77 HA6.out.2,HA6.out.2.mono hb77.size⟩
        have hgw:g<wr.heap.size:=KG.out.lt
        have hne7:wr.heap.size≠g:=by omega
        go_wp2_with fail
        rw [←hW7]
        clear hW7 k0 k1 k2 hb7 HAw HGw HXw HFw HV7 HG7 KG HCG HA6
        obtain ⟨hb6,a0,a1⟩:=ArrTy.at HA67.out.1 HA67.out.2 (zy2 _ _) i hil
        have hb6n:b6≠g:=by
         obtain ⟨b',off',cs',G',e',hb',-⟩:=HA67.out.1.get zAT hil
         cases e'
         exact fun e=>HN6.out _ hb' (by rw [e];exact List.mem_singleton.2 rfl)
        have k0:W7.cell? ⟨wr.heap.size,0,none⟩=some (.int .i64 v.ks[i].c):=(KX.out.cell 0).trans (by simp)
        have k1:W7.cell? ⟨wr.heap.size,1,none⟩=some (.int .i64 v.ks[i].n):=(KX.out.cell 1).trans (by simp)
        have k2:W7.cell? ⟨wr.heap.size,2,none⟩=some (.slice A7 v.ks[i].ks.length cap7):=(KX.out.cell 2).trans (by simp)
        have kxl:=KX.out.lt
        have HNE:=jj (show b6∉[g] from fun h=>hb6n (List.mem_singleton.1 h))
        have HNE7:=jj (show wr.heap.size∉[g] from fun h=>hne7 (List.mem_singleton.1 h))
        clear hb6n hne7 hgw
        have HCALL:=jj (IH.out v.ks[i] (List.getElem_mem hik) xs HW.out d (deep+1) (by omega) (by omega) ls[i] (HAI.out _ (List.getElem_mem hil)) W7.drew _ F _ G7 g ci (ArrDt.drew HX7.out) HF7.out HV77.out.drew HG77.out KG7.out HGF.out HN7.out hci0 hci1)
        rw [show ((deep+1:Nat):Int)=(deep:Int)+1 by omega] at HCALL
        go_region_held3 (fun w'=>w'.cell? ⟨b6,off6+i*2,none⟩=some (.int .i64 ls[i].d)∧w'.cell? ⟨b6,off6+i*2+1,none⟩=some (.int .i64 ls[i].i)∧w'.cell? ⟨wr.heap.size,0,none⟩=some (.int .i64 v.ks[i].c)∧w'.cell? ⟨wr.heap.size,1,none⟩=some (.int .i64 v.ks[i].n)∧w'.cell? ⟨wr.heap.size,2,none⟩=some (.slice A7 v.ks[i].ks.length cap7)) (first | assumption | (exact ⟨a0,a1,k0,k1,k2⟩) | (exact ⟨(hC'.cell hb6 HNE.out).trans a0,(hC'.cell hb6 HNE.out).trans a1,(hC'.cell kxl HNE7.out).trans k0,(hC'.cell kxl HNE7.out).trans k1,(hC'.cell kxl HNE7.out).trans k2⟩)) (first | (go_at_call 75;((with_reducible refine HCALL.out.mono ?_);rintro e w' ⟨c',rfl,hC',hK',hy',hp'⟩)))
        have hC2:=hC'.undrew
        have HCG8:=jj (HCG7.out.trans hC2)
        have HK8:=jj hK'
        have HA68:Hid (Arr w' (TyR w') ls (.slice (some ⟨b6,off6,none⟩) ls.length cap6) F6∧Under w'.heap.size F6):=⟨ArrTy.mono HA67.out.1 (hC2.kept HA67.out.2 HN6.out),HA67.out.2.mono hC2.size⟩
        clear hwr hC' hC2 hK' a0 a1 k0 k1 k2
        cases e3:scanB xs d ls[i] v.ks[i] ci with
        |false =>
         have HFin:=jj (HBad.out w' c' (by
          unfold scanB at e3
          rw [Bool.and_eq_false_iff] at e3
          rcases e3 with h | h
          ·left;rw [HST.out,h];rfl
          ·right
           have h1:=of_decide_eq_false h
           have h2:=HCI.out
           have h3:=sizes_step hik
           have h4:=sizes_take_le v.ks (i+1)
           have h5:=nodes_ks v
           omega) HCG8.out HK8.out hp')
         clear e3 hy'
         go_wp2
         go_ret
         exact HFin.out
        |true =>
         have hcc2:=hy' e3
         unfold scanB at e3
         rw [Bool.and_eq_true] at e3
         have h60:=of_decide_eq_true e3.2
         have hR2:Hid (fitsV xs (d+1) ⟨(q:Int),(r:Int)⟩ v=zipAll (fitsV xs d) (ls.drop (i+1)) (v.ks.drop (i+1))):=by rw [HST.out,e3.1,Bool.true_and];rfl
         have hCI2:Hid (c'=c+1+(V.sizes (v.ks.take (i+1)):Nat)):=by
          have h2:=HCI.out
          have h3:=sizes_step hik
          unfold Hid
          omega
         have hc60':c'≤60:=by omega
         clear e3 hy' hcc2 h60
         go_wp2
         go_roundw
         case rel=>exact ⟨i+1,c',by omega,by go_num,hp',hc60',hCI2,hR2,HK8,HCG8,HA68⟩
         case measure=>(simp [intOf] <;> omega)
       ·have hT:scanB xs (d+1) ⟨(q:Int),(r:Int)⟩ v c=true:=by
         unfold scanB
         have h1:=HCI.out
         have h5:=nodes_ks v
         rw [List.take_of_length_le (by omega)] at h1
         rw [HR.out,zipAll_end (by have:=HLN.out;omega),Bool.true_and]
         exact decide_eq_true (by omega)
        have hfin:ScanPost xs (d+1) ⟨(q:Int),(r:Int)⟩ v c g w (.returned (.bool true)) wr:=⟨ci,by rw [hT],HCG.out,KG.out,fun _=>by
         have h1:=HCI.out
         have h5:=nodes_ks v
         rw [List.take_of_length_le (by omega)] at h1
         omega,hci0⟩
        have HFin:=jj hfin
        clear hfin hT
        go_wp2
        go_ret
        exact HFin.out
     ·have t2:((ls.length:Int) != (v.ks.length:Int))=true:=by rw [bne_iff_ne];omega
      have HFin:=jj (HBad.out w6 (c+1) (.inl (by rw [H2.out,decide_eq_false hln];rfl)) HCG6.out KG6.out (by omega))
      clear hln
      go_wp2
      go_ret
      exact HFin.out
theorem impl_valueScan:∀ v,ScanI v:=V.indv valueScan_of
theorem spec_l2Is (xs:List Dt) (t:Ty) (v:V) (w:World) (x:Value) (F:List Nat) (cs:List Value) (G:List Nat) (hx:Arr w (DtR w) xs x F) (hf:Under w.heap.size F) (hv:VR w v cs G) (hg:Under w.heap.size G) (hw:WorldOK xs) (ht:TyIn xs.length t) (hz:v.size≤1048576) :
  Calls Tryz.prog 37 #[x,.agg #[.int .i64 t.d,.int .i64 t.i],.agg cs.toArray] w fun e w'=>e=.returned (.bool (valueOkB xs t v))∧Below w.heap.size w w':=by
 obtain ⟨kv,rfl,ha⟩:=(zAD _ _ _).1 hv
 obtain ⟨A,cap,rfl,hc1,hc2⟩:=hx.form
 obtain ⟨A4,cap4,rfl,hc3,hc4⟩:=ha.form
 have HV:=jj hv
 have HX:=jj hx
 have HF:=jj hf
 have HG:=jj hg
 clear hx hf hg
 clear ha hv
 go_enter Tryz.func37,Tryz.ntmps37
 go_wp2_with fail
 obtain ⟨W2,hW2⟩:∃ W2,W2=((w.alloc (.cells #[.int .i64 t.d,.int .i64 t.i] 39)).alloc (.cells #[.int .i64 v.c,.int .i64 v.n,.slice A4 v.ks.length cap4] 47)):=⟨_,rfl⟩
 have hB0:Below w.heap.size w W2:=by rw [hW2];exact ((zy2 _ _).alloc (zz8 _) _).alloc (by simp) _
 have KT:Hid (Blk W2 w.heap.size 39 #[.int .i64 t.d,.int .i64 t.i]):=by rw [hW2];exact (Blk.new w _ _).same (Below.heap_alloc _ _ _ (by simp))
 have KV:Hid (Blk W2 (w.heap.size+1) 47 #[.int .i64 v.c,.int .i64 v.n,.slice A4 v.ks.length cap4]):=by rw [hW2];have h:=Blk.new (w.alloc (.cells #[.int .i64 t.d,.int .i64 t.i] 39)) 47 #[.int .i64 v.c,.int .i64 v.n,.slice A4 v.ks.length cap4];rw [World.size_alloc] at h;exact h
 rw [←hW2]
 clear hW2
 refine (spec_l2Fits v xs hw 10 (zz8 _) t ht W2 _ F _ G (ArrDt.below HX.out hB0 HF.out) (HF.out.mono hB0.size) (HV.out.below hB0 HG.out) (HG.out.mono hB0.size)).mono ?_
 rintro e w3 ⟨rfl,hb3⟩
 have hB3:=hB0.trans (hb3.mono hB0.size)
 have KV3:=jj (KV.out.same (hb3.block _ KV.out.lt))
 have KT3:=jj (KT.out.same (hb3.block _ KT.out.lt))
 have y0:w3.cell? ⟨w.heap.size,0,none⟩=some (.int .i64 t.d):=(KT3.out.cell 0).trans (by simp)
 have y1:w3.cell? ⟨w.heap.size,1,none⟩=some (.int .i64 t.i):=(KT3.out.cell 1).trans (by simp)
 have z0:w3.cell? ⟨w.heap.size+1,0,none⟩=some (.int .i64 v.c):=(KV3.out.cell 0).trans (by simp)
 have z1:w3.cell? ⟨w.heap.size+1,1,none⟩=some (.int .i64 v.n):=(KV3.out.cell 1).trans (by simp)
 have z2:w3.cell? ⟨w.heap.size+1,2,none⟩=some (.slice A4 v.ks.length cap4):=(KV3.out.cell 2).trans (by simp)
 have klt:=KT3.out.lt
 have klt2:=KV3.out.lt
 clear hb3 KT KV
 cases e1:fitsV xs 10 t v with
 |false =>
  have hf:Hid (valueOkB xs t v=false):=by unfold Hid valueOkB;rw [e1];rfl
  clear e1
  go_wp2
  go_ret
  exact ⟨zA0 hf.out.symm,hB3⟩
 |true =>
  have hf:Hid (valueOkB xs t v=decide (nodes v≤60)):=by unfold Hid valueOkB;rw [e1];rfl
  clear e1
  go_wp2_with fail
  refine (spec_l2Count v 60 (by omega) (by omega) w3 _ G (HV.out.below hB3 HG.out) (HG.out.mono hB3.size) (by unfold nodes;omega)).mono ?_
  rintro e w4 ⟨c,rfl,hu,hb4⟩
  have hB4:=hB3.trans (hb4.mono hB3.size)
  have hcd:decide (c≤60)=decide (nodes v≤60):=by
   have h1:=hu.yes
   have h2:=hu.no
   by_cases h:nodes v≤60
   ·rw [decide_eq_true h];exact decide_eq_true (by have:=h1 (by omega);omega)
   ·rw [decide_eq_false h];exact decide_eq_false (by have:=h2 (by omega);omega)
  have HCD:=jj hcd
  clear hu hcd hb4
  go_wp2
  go_ret
  exact ⟨zA0 (hf.out.trans HCD.out.symm).symm,hB4⟩
theorem impl_valueOk (xs:List Dt) (t:Ty) (v:V) (w:World) (x:Value) (F:List Nat) (cs:List Value) (G:List Nat) (hx:Arr w (DtR w) xs x F) (hf:Under w.heap.size F) (hv:VR w v cs G) (hg:Under w.heap.size G) (hw:WorldOK xs) (ht:TyIn xs.length t) (hz:v.size≤1048576) :
  Calls Tryz.prog 43 #[x,.agg #[.int .i64 t.d,.int .i64 t.i],.agg cs.toArray] w fun e w'=>e=.returned (.bool (valueOkB xs t v))∧Below w.heap.size w w':=by
 obtain ⟨kv,rfl,ha⟩:=(zAD _ _ _).1 hv
 obtain ⟨A,cap,rfl,hc1,hc2⟩:=hx.form
 obtain ⟨A4,cap4,rfl,hc3,hc4⟩:=ha.form
 have HV:=jj hv
 have HX:=jj hx
 have HF:=jj hf
 have HG:=jj hg
 clear hx hf hg
 clear ha hv
 go_enter Tryz.func43,Tryz.ntmps43
 go_wp2_with fail
 obtain ⟨W2,hW2⟩:∃ W2,W2=(((w.alloc (.cells #[.int .i64 t.d,.int .i64 t.i] 39)).alloc (.cells #[.int .i64 v.c,.int .i64 v.n,.slice A4 v.ks.length cap4] 47)).alloc (.cells #[.int .i64 0] 3)):=⟨_,rfl⟩
 have hB0:Below w.heap.size w W2:=by rw [hW2];exact (((zy2 _ _).alloc (zz8 _) _).alloc (by simp) _).alloc (by simp;omega) _
 have KG:Hid (Blk W2 (w.heap.size+2) 3 #[.int .i64 0]):=by
  rw [hW2]
  have h:=Blk.new ((w.alloc (.cells #[.int .i64 t.d,.int .i64 t.i] 39)).alloc (.cells #[.int .i64 v.c,.int .i64 v.n,.slice A4 v.ks.length cap4] 47)) 3 #[.int .i64 0]
  rw [show (((w.alloc (.cells #[.int .i64 t.d,.int .i64 t.i] 39)).alloc (.cells #[.int .i64 v.c,.int .i64 v.n,.slice A4 v.ks.length cap4] 47))).heap.size=w.heap.size+2 from by simp] at h
  exact h
 rw [←hW2]
 clear hW2
 refine (impl_valueScan v xs hw 10 1 rfl (zz8 _) t ht W2 _ F _ G (w.heap.size+2) 0 (ArrDt.below HX.out hB0 HF.out) (HF.out.mono hB0.size) (HV.out.below hB0 HG.out) (HG.out.mono hB0.size) KG.out (fun h=>by have:=HF.out _ h;omega) (fun h=>by have:=HG.out _ h;omega) (by omega) (by omega)).mono ?_
 rintro e w3 ⟨c',rfl,hC,-,-,-⟩
 have hB3:=hB0.trans (hC.below (B:=w.heap.size) (fun b hb=>by rw [List.mem_singleton.1 hb];omega) hB0.size)
 have hf:Hid (valueOkB xs t v=scanB xs 10 t v 0):=by
  unfold Hid valueOkB scanB
  congr 1
  exact decide_eq_decide.2 (by omega)
 generalize hbb:scanB xs 10 t v 0=bb at *
 clear hbb hC
 go_wp2
 go_ret
 exact ⟨zA0 hf.out.symm,hB3⟩
def matchB (xs:List Dt) (t:Ty) (p:P) (v:V):Bool:=patternValidB xs t p && (valueOkB xs t v && (P.mat p v).isSome)
def matchV (xs:List Dt) (t:Ty) (p:P) (v:V):List Bd:=if matchB xs t p v=true then sortB ((P.mat p v).getD []) else []
theorem matchV_no {xs:List Dt} {t:Ty} {p:P} {v:V} (h:matchB xs t p v=false):matchV xs t p v=[]:=if_neg (by simp [h])
def MadeBd (bs:List Bd) (b:Bool) (w:World) (e:Ending) (w':World):Prop:=∃ x F,e=.returned (.tuple #[x,.bool b])∧Below w.heap.size w w'∧Arr w' (BdR w') bs x F∧Free w' F∧Fresh w w' F
theorem mat_small:∀ (p:P) (v:V) (l:List Bd),P.mat p v=some l→∀ b∈l,b.val.size≤v.size:=P.ind fun op ct n m va ks ih v l h=>by
 have hs:∀ (ks:List P) (_:∀ k∈ks,∀ (v:V) (l:List Bd),P.mat k v=some l→∀ b∈l,b.val.size≤v.size) (vs:List V) (l:List Bd),P.mats ks vs=some l→∀ b∈l,b.val.size≤V.sizes vs:=by
  intro ks
  induction ks with
  |nil=>intro _ vs l h;rw [mats_nil] at h;cases h;intro b hb;cases hb
  |cons k ks ih2 =>
   intro hk vs l h
   cases vs with
   |nil=>cases h
   |cons v vs =>
    rw [P.mats] at h
    have h3:V.sizes (v :: vs)=1+v.size+V.sizes vs:=by simp only [V.sizes]
    cases hm:P.mat k v with
    |none=>rw [hm] at h;cases h
    |some a =>
     rw [hm] at h
     cases hn:P.mats ks vs with
     |none=>rw [hn] at h;cases h
     |some b =>
      rw [hn] at h
      cases h
      intro x hx
      rw [h3]
      rcases List.mem_append.1 hx with hx | hx
      ·have:=hk k (by simp) v a hm x hx;omega
      ·have:=ih2 (fun y hy=>hk y (by simp [hy])) vs b hn x hx;omega
 have ho:∀ (ks:List P) (_:∀ k∈ks,∀ (v:V) (l:List Bd),P.mat k v=some l→∀ b∈l,b.val.size≤v.size) (v:V) (l:List Bd),P.mator ks v=some l→∀ b∈l,b.val.size≤v.size:=by
  intro ks
  induction ks with
  |nil=>intro _ v l h;cases h
  |cons k ks ih2 =>
   intro hk v l h
   rw [P.mator] at h
   cases hm:P.mat k v with
   |none=>rw [hm] at h;exact ih2 (fun y hy=>hk y (by simp [hy])) v l h
   |some a=>rw [hm] at h;cases h;exact hk k (by simp) v _ hm
 rw [P.mat] at h
 split at h
 ·cases h;intro b hb;cases hb
 ·split at h
  ·cases h;intro b hb;rw [List.mem_singleton.1 hb];exact zz8 _
  ·split at h
   ·split at h
    ·cases h;intro b hb;cases hb
    ·cases h
   ·split at h
    ·exact ho ks ih v l h
    ·split at h
     ·cases hm:P.mator ks v with
      |none=>rw [hm] at h;cases h
      |some a =>
       rw [hm] at h
       cases h
       intro b hb
       rcases List.mem_cons.1 hb with e | e
       ·rw [e];exact zz8 _
       ·exact ho ks ih v a hm b e
     ·split at h
      ·intro b hb
       have h1:=hs ks ih v.ks l h b hb
       have h2:v.size=V.sizes v.ks:=by obtain ⟨a,b,c⟩:=v;rfl
       omega
      ·cases h
set_option maxHeartbeats 6400000 in
theorem spec_MatchPattern (xs:List Dt) (t:Ty) (p:P) (v:V) (hpz:p.size≤1048576) (hvz:v.size≤1048576) (w:World) (x:Value) (F:List Nat) (cs:List Value) (G:List Nat) (ds:List Value) (H:List Nat) (hx:Arr w (DtR w) xs x F) (hf:Under w.heap.size F) (hp:PR w p cs G) (hg:Under w.heap.size G) (hv:VR w v ds H) (hh:Under w.heap.size H) :
  Calls Tryz.prog 11 #[x,.agg #[.int .i64 t.d,.int .i64 t.i],.agg cs.toArray,.agg ds.toArray] w (MadeBd (matchV xs t p v) (matchB xs t p v) w):=by
 obtain ⟨xA,xcap,rfl,-,-⟩:=hx.form
 obtain ⟨kp,rfl,hka⟩:=(zAF _ _ _).1 hp
 obtain ⟨pA,pcap,rfl,-,-⟩:=hka.form
 obtain ⟨kv,rfl,hva⟩:=(zAD _ _ _).1 hv
 obtain ⟨vA,vcap,rfl,-,-⟩:=hva.form
 have hB2:Below w.heap.size w (((w.alloc (.cells #[.int .i64 t.d,.int .i64 t.i] 39)).alloc (.cells #[.int .i64 p.op,.int .i64 p.ct,.int .i64 p.n,.int .i64 p.m,.int .i64 p.va,.slice pA p.ks.length pcap] 43)).alloc (.cells #[.int .i64 v.c,.int .i64 v.n,.slice vA v.ks.length vcap] 47)):=(((zy2 _ _).alloc (zz8 _) _).alloc (by simp) _).alloc (by simp;omega) _
 have KT2:Hid (Blk (((w.alloc (.cells #[.int .i64 t.d,.int .i64 t.i] 39)).alloc (.cells #[.int .i64 p.op,.int .i64 p.ct,.int .i64 p.n,.int .i64 p.m,.int .i64 p.va,.slice pA p.ks.length pcap] 43)).alloc (.cells #[.int .i64 v.c,.int .i64 v.n,.slice vA v.ks.length vcap] 47)) w.heap.size 39 #[.int .i64 t.d,.int .i64 t.i]):=((Blk.new w _ _).same (Below.heap_alloc _ _ _ (by simp))).same (Below.heap_alloc _ _ _ (by simp;omega))
 have KP2:Hid (Blk (((w.alloc (.cells #[.int .i64 t.d,.int .i64 t.i] 39)).alloc (.cells #[.int .i64 p.op,.int .i64 p.ct,.int .i64 p.n,.int .i64 p.m,.int .i64 p.va,.slice pA p.ks.length pcap] 43)).alloc (.cells #[.int .i64 v.c,.int .i64 v.n,.slice vA v.ks.length vcap] 47)) (w.heap.size+1) 43 #[.int .i64 p.op,.int .i64 p.ct,.int .i64 p.n,.int .i64 p.m,.int .i64 p.va,.slice pA p.ks.length pcap]):=(blk_second w _ 43 _).same (Below.heap_alloc _ _ _ (by simp))
 have KV2:Hid (Blk (((w.alloc (.cells #[.int .i64 t.d,.int .i64 t.i] 39)).alloc (.cells #[.int .i64 p.op,.int .i64 p.ct,.int .i64 p.n,.int .i64 p.m,.int .i64 p.va,.slice pA p.ks.length pcap] 43)).alloc (.cells #[.int .i64 v.c,.int .i64 v.n,.slice vA v.ks.length vcap] 47)) (w.heap.size+2) 47 #[.int .i64 v.c,.int .i64 v.n,.slice vA v.ks.length vcap]):=by
  have h:=blk_second (w.alloc (.cells #[.int .i64 t.d,.int .i64 t.i] 39)) (.cells #[.int .i64 p.op,.int .i64 p.ct,.int .i64 p.n,.int .i64 p.m,.int .i64 p.va,.slice pA p.ks.length pcap] 43) 47 #[.int .i64 v.c,.int .i64 v.n,.slice vA v.ks.length vcap]
  rw [World.size_alloc] at h
  exact h
 have HX2:=jj (ArrDt.below hx hB2 hf)
 have UX2:Hid (Under ((((w.alloc (.cells #[.int .i64 t.d,.int .i64 t.i] 39)).alloc (.cells #[.int .i64 p.op,.int .i64 p.ct,.int .i64 p.n,.int .i64 p.m,.int .i64 p.va,.slice pA p.ks.length pcap] 43)).alloc (.cells #[.int .i64 v.c,.int .i64 v.n,.slice vA v.ks.length vcap] 47))).heap.size F):=hf.mono hB2.size
 have HP2:=jj (hp.below hB2 hg)
 have UP2:Hid (Under ((((w.alloc (.cells #[.int .i64 t.d,.int .i64 t.i] 39)).alloc (.cells #[.int .i64 p.op,.int .i64 p.ct,.int .i64 p.n,.int .i64 p.m,.int .i64 p.va,.slice pA p.ks.length pcap] 43)).alloc (.cells #[.int .i64 v.c,.int .i64 v.n,.slice vA v.ks.length vcap] 47))).heap.size G):=hg.mono hB2.size
 have HV2:=jj (hv.below hB2 hh)
 have UV2:Hid (Under ((((w.alloc (.cells #[.int .i64 t.d,.int .i64 t.i] 39)).alloc (.cells #[.int .i64 p.op,.int .i64 p.ct,.int .i64 p.n,.int .i64 p.m,.int .i64 p.va,.slice pA p.ks.length pcap] 43)).alloc (.cells #[.int .i64 v.c,.int .i64 v.n,.slice vA v.ks.length vcap] 47))).heap.size H):=hh.mono hB2.size
 have HPZ:=jj hpz
 have HVZ:=jj hvz
 clear hx hf hp hg hv hh hka hva hpz hvz
 have cT0:(((w.alloc (.cells #[.int .i64 t.d,.int .i64 t.i] 39)).alloc (.cells #[.int .i64 p.op,.int .i64 p.ct,.int .i64 p.n,.int .i64 p.m,.int .i64 p.va,.slice pA p.ks.length pcap] 43)).alloc (.cells #[.int .i64 v.c,.int .i64 v.n,.slice vA v.ks.length vcap] 47)).cell? ⟨w.heap.size,0,none⟩=some (.int .i64 t.d):=(KT2.out.cell 0).trans (by simp)
 have cT1:(((w.alloc (.cells #[.int .i64 t.d,.int .i64 t.i] 39)).alloc (.cells #[.int .i64 p.op,.int .i64 p.ct,.int .i64 p.n,.int .i64 p.m,.int .i64 p.va,.slice pA p.ks.length pcap] 43)).alloc (.cells #[.int .i64 v.c,.int .i64 v.n,.slice vA v.ks.length vcap] 47)).cell? ⟨w.heap.size,1,none⟩=some (.int .i64 t.i):=(KT2.out.cell 1).trans (by simp)
 have lT:=KT2.out.lt
 have cP0:(((w.alloc (.cells #[.int .i64 t.d,.int .i64 t.i] 39)).alloc (.cells #[.int .i64 p.op,.int .i64 p.ct,.int .i64 p.n,.int .i64 p.m,.int .i64 p.va,.slice pA p.ks.length pcap] 43)).alloc (.cells #[.int .i64 v.c,.int .i64 v.n,.slice vA v.ks.length vcap] 47)).cell? ⟨w.heap.size+1,0,none⟩=some (.int .i64 p.op):=(KP2.out.cell 0).trans (by simp)
 have cP1:(((w.alloc (.cells #[.int .i64 t.d,.int .i64 t.i] 39)).alloc (.cells #[.int .i64 p.op,.int .i64 p.ct,.int .i64 p.n,.int .i64 p.m,.int .i64 p.va,.slice pA p.ks.length pcap] 43)).alloc (.cells #[.int .i64 v.c,.int .i64 v.n,.slice vA v.ks.length vcap] 47)).cell? ⟨w.heap.size+1,1,none⟩=some (.int .i64 p.ct):=(KP2.out.cell 1).trans (by simp)
 have cP2:(((w.alloc (.cells #[.int .i64 t.d,.int .i64 t.i] 39)).alloc (.cells #[.int .i64 p.op,.int .i64 p.ct,.int .i64 p.n,.int .i64 p.m,.int .i64 p.va,.slice pA p.ks.length pcap] 43)).alloc (.cells #[.int .i64 v.c,.int .i64 v.n,.slice vA v.ks.length vcap] 47)).cell? ⟨w.heap.size+1,2,none⟩=some (.int .i64 p.n):=(KP2.out.cell 2).trans (by simp)
 have cP3:(((w.alloc (.cells #[.int .i64 t.d,.int .i64 t.i] 39)).alloc (.cells #[.int .i64 p.op,.int .i64 p.ct,.int .i64 p.n,.int .i64 p.m,.int .i64 p.va,.slice pA p.ks.length pcap] 43)).alloc (.cells #[.int .i64 v.c,.int .i64 v.n,.slice vA v.ks.length vcap] 47)).cell? ⟨w.heap.size+1,3,none⟩=some (.int .i64 p.m):=(KP2.out.cell 3).trans (by simp)
 have cP4:(((w.alloc (.cells #[.int .i64 t.d,.int .i64 t.i] 39)).alloc (.cells #[.int .i64 p.op,.int .i64 p.ct,.int .i64 p.n,.int .i64 p.m,.int .i64 p.va,.slice pA p.ks.length pcap] 43)).alloc (.cells #[.int .i64 v.c,.int .i64 v.n,.slice vA v.ks.length vcap] 47)).cell? ⟨w.heap.size+1,4,none⟩=some (.int .i64 p.va):=(KP2.out.cell 4).trans (by simp)
 have cP5:(((w.alloc (.cells #[.int .i64 t.d,.int .i64 t.i] 39)).alloc (.cells #[.int .i64 p.op,.int .i64 p.ct,.int .i64 p.n,.int .i64 p.m,.int .i64 p.va,.slice pA p.ks.length pcap] 43)).alloc (.cells #[.int .i64 v.c,.int .i64 v.n,.slice vA v.ks.length vcap] 47)).cell? ⟨w.heap.size+1,5,none⟩=some (.slice pA p.ks.length pcap):=(KP2.out.cell 5).trans (by simp)
 have lP:=KP2.out.lt
 go_enter Tryz.func11,Tryz.ntmps11
 go_wp2_with fail
 clear cT0 cT1 lT cP0 cP1 cP2 cP3 cP4 cP5 lP
 obtain ⟨w2,hw2⟩:∃ X,X=(((w.alloc (.cells #[.int .i64 t.d,.int .i64 t.i] 39)).alloc (.cells #[.int .i64 p.op,.int .i64 p.ct,.int .i64 p.n,.int .i64 p.m,.int .i64 p.va,.slice pA p.ks.length pcap] 43)).alloc (.cells #[.int .i64 v.c,.int .i64 v.n,.slice vA v.ks.length vcap] 47)):=⟨_,rfl⟩
 rw [←hw2] at hB2 KT2 KP2 KV2 HX2 UX2 HP2 UP2 HV2 UV2 ⊢
 clear hw2
 refine (spec_PatternValid xs t p HPZ.out w2 _ F _ G HX2.out UX2.out HP2.out UP2.out).mono ?_
 rintro e w3 ⟨rfl,hb3⟩
 have hB3:=hB2.trans (hb3.mono hB2.size)
 have KT3:=jj (KT2.out.same (hb3.block _ KT2.out.lt))
 have KP3:=jj (KP2.out.same (hb3.block _ KP2.out.lt))
 have KV3:=jj (KV2.out.same (hb3.block _ KV2.out.lt))
 have HX3:=jj (ArrDt.below HX2.out hb3 UX2.out)
 have UX3:=jj (UX2.out.mono hb3.size)
 have HP3:=jj (HP2.out.below hb3 UP2.out)
 have UP3:=jj (UP2.out.mono hb3.size)
 have HV3:=jj (HV2.out.below hb3 UV2.out)
 have UV3:=jj (UV2.out.mono hb3.size)
 clear hB2 hb3 KT2 KP2 KV2 HX2 UX2 HP2 UP2 HV2 UV2
 cases hpv:patternValidB xs t p with
 |false =>
  have hno:matchB xs t p v=false:=by unfold matchB;rw [hpv];rfl
  have HNO:=jj hno
  clear hno hpv
  have hb9:Below w3.heap.size w3 (w3.alloc (.cells #[] 69)):=(zy2 _ _).alloc (zz8 _) _
  have hB9:=hB3.trans (hb9.mono hB3.size)
  go_wp2
  go_ret2
  rw [HNO.out,matchV_no HNO.out]
  exact ⟨_,[],rfl,hB9,⟨_,_,rfl,zz8 _,by simp [maxLen],.inl ⟨rfl,rfl⟩⟩,Free.nil _,Fresh.nil _ _⟩
 |true =>
  have hpv0:=hpv
  unfold patternValidB patOkB at hpv0
  simp only [Bool.and_eq_true] at hpv0
  obtain ⟨hw,hto⟩:=typeValid_split hpv0.1
  have HSH:=jj hpv0.2.1
  have hpn:nodesP p≤60:=by simpa using hpv0.2.2.1
  have HPN:=jj hpn
  clear hpn
  have HW:=jj hw
  have HTO:=jj hto
  have HPV:=jj hpv
  clear hpv hpv0 hw hto
  have cT0:w3.cell? ⟨w.heap.size,0,none⟩=some (.int .i64 t.d):=(KT3.out.cell 0).trans (by simp)
  have cT1:w3.cell? ⟨w.heap.size,1,none⟩=some (.int .i64 t.i):=(KT3.out.cell 1).trans (by simp)
  have lT:=KT3.out.lt
  have cV0:w3.cell? ⟨w.heap.size+2,0,none⟩=some (.int .i64 v.c):=(KV3.out.cell 0).trans (by simp)
  have cV1:w3.cell? ⟨w.heap.size+2,1,none⟩=some (.int .i64 v.n):=(KV3.out.cell 1).trans (by simp)
  have cV2:w3.cell? ⟨w.heap.size+2,2,none⟩=some (.slice vA v.ks.length vcap):=(KV3.out.cell 2).trans (by simp)
  have lV:=KV3.out.lt
  go_wp2_with fail
  clear cT0 cT1 lT cV0 cV1 cV2 lV
  refine (spec_l2Is xs t v w3 _ F _ H HX3.out UX3.out HV3.out UV3.out HW.out (typeOkB_tyIn HTO.out) HVZ.out).mono ?_
  rintro e w4 ⟨rfl,hb4⟩
  have hB4:=hB3.trans (hb4.mono hB3.size)
  have KT4:=jj (KT3.out.same (hb4.block _ KT3.out.lt))
  have KP4:=jj (KP3.out.same (hb4.block _ KP3.out.lt))
  have KV4:=jj (KV3.out.same (hb4.block _ KV3.out.lt))
  have HX4:=jj (ArrDt.below HX3.out hb4 UX3.out)
  have UX4:=jj (UX3.out.mono hb4.size)
  have HP4:=jj (HP3.out.below hb4 UP3.out)
  have UP4:=jj (UP3.out.mono hb4.size)
  have HV4:=jj (HV3.out.below hb4 UV3.out)
  have UV4:=jj (UV3.out.mono hb4.size)
  clear hB3 hb4 KT3 KP3 KV3 HX3 UX3 HP3 UP3 HV3 UV3
  cases hvo:valueOkB xs t v with
  |false =>
   have hno:matchB xs t p v=false:=by unfold matchB;rw [hvo,Bool.false_and,Bool.and_false]
   have HNO:=jj hno
   clear hno hvo
   have hb9:Below w4.heap.size w4 (w4.alloc (.cells #[] 69)):=(zy2 _ _).alloc (zz8 _) _
   have hB9:=hB4.trans (hb9.mono hB4.size)
   go_wp2
   go_ret2
   rw [HNO.out,matchV_no HNO.out]
   exact ⟨_,[],rfl,hB9,⟨_,_,rfl,zz8 _,by simp [maxLen],.inl ⟨rfl,rfl⟩⟩,Free.nil _,Fresh.nil _ _⟩
  |true =>
   have hvo0:=hvo
   unfold valueOkB at hvo0
   simp only [Bool.and_eq_true] at hvo0
   have HFI:=jj hvo0.1
   have HVO:=jj hvo
   clear hvo hvo0
   have cP0:w4.cell? ⟨w.heap.size+1,0,none⟩=some (.int .i64 p.op):=(KP4.out.cell 0).trans (by simp)
   have cP1:w4.cell? ⟨w.heap.size+1,1,none⟩=some (.int .i64 p.ct):=(KP4.out.cell 1).trans (by simp)
   have cP2:w4.cell? ⟨w.heap.size+1,2,none⟩=some (.int .i64 p.n):=(KP4.out.cell 2).trans (by simp)
   have cP3:w4.cell? ⟨w.heap.size+1,3,none⟩=some (.int .i64 p.m):=(KP4.out.cell 3).trans (by simp)
   have cP4:w4.cell? ⟨w.heap.size+1,4,none⟩=some (.int .i64 p.va):=(KP4.out.cell 4).trans (by simp)
   have cP5:w4.cell? ⟨w.heap.size+1,5,none⟩=some (.slice pA p.ks.length pcap):=(KP4.out.cell 5).trans (by simp)
   have lP:=KP4.out.lt
   have cV0:w4.cell? ⟨w.heap.size+2,0,none⟩=some (.int .i64 v.c):=(KV4.out.cell 0).trans (by simp)
   have cV1:w4.cell? ⟨w.heap.size+2,1,none⟩=some (.int .i64 v.n):=(KV4.out.cell 1).trans (by simp)
   have cV2:w4.cell? ⟨w.heap.size+2,2,none⟩=some (.slice vA v.ks.length vcap):=(KV4.out.cell 2).trans (by simp)
   have lV:=KV4.out.lt
   go_wp2_with fail
   clear cP0 cP1 cP2 cP3 cP4 cP5 lP cV0 cV1 cV2 lV
   refine (spec_l3Match p 10 10 xs t v HSH.out HFI.out w4 _ [] [] _ G _ H ⟨_,_,rfl,zz8 _,by simp [maxLen],.inl ⟨rfl,rfl⟩⟩ (Under.nil _) HP4.out UP4.out HV4.out UV4.out (by have:=HPN.out;simp;omega)).mono ?_
   rintro e w5 ⟨x5,ok,F5,rfl,hb5,hok5,hl5⟩
   have HOK:=jj hok5
   have HL:=jj hl5
   clear hok5 hl5
   have hB5:=hB4.trans (hb5.mono hB4.size)
   have KT5:=jj (KT4.out.same (hb5.block _ KT4.out.lt))
   have KP5:=jj (KP4.out.same (hb5.block _ KP4.out.lt))
   have KV5:=jj (KV4.out.same (hb5.block _ KV4.out.lt))
   have HX5:=jj (ArrDt.below HX4.out hb5 UX4.out)
   have UX5:=jj (UX4.out.mono hb5.size)
   have HP5:=jj (HP4.out.below hb5 UP4.out)
   have UP5:=jj (UP4.out.mono hb5.size)
   have HV5:=jj (HV4.out.below hb5 UV4.out)
   have UV5:=jj (UV4.out.mono hb5.size)
   clear hB4 hb5 KT4 KP4 KV4 HX4 UX4 HP4 UP4 HV4 UV4
   cases ok with
   |false =>
    have hno:matchB xs t p v=false:=by unfold matchB;rw [←HOK.out,Bool.and_false,Bool.and_false]
    have HNO:=jj hno
    clear hno
    have hb9:Below w5.heap.size w5 (w5.alloc (.cells #[] 69)):=(zy2 _ _).alloc (zz8 _) _
    have hB9:=hB5.trans (hb9.mono hB5.size)
    go_wp2
    go_ret2
    rw [HNO.out,matchV_no HNO.out]
    exact ⟨_,[],rfl,hB9,⟨_,_,rfl,zz8 _,by simp [maxLen],.inl ⟨rfl,rfl⟩⟩,Free.nil _,Fresh.nil _ _⟩
   |true =>
    obtain ⟨l,hm⟩:∃ l,P.mat p v=some l:=by
     cases hm:P.mat p v with
     |none=>have:=HOK.out;rw [hm] at this;cases this
     |some l=>exact ⟨l,rfl⟩
    obtain ⟨ha5,hu5⟩:=HL.out l hm
    rw [List.nil_append] at ha5
    have hyes:matchB xs t p v=true:=by unfold matchB;rw [HPV.out,HVO.out,hm];rfl
    have hmv:matchV xs t p v=sortB l:=by unfold matchV;rw [if_pos hyes,hm];rfl
    have hll:=mat_len p v l hm
    have hls:∀ b∈l,b.val.size≤1048576:=fun b hb=>Nat.le_trans (mat_small p v l hm b hb) HVZ.out
    have HYES:=jj hyes
    have HMV:=jj hmv
    have HA5:=jj ha5
    have HU5:=jj hu5
    have HLS:=jj hls
    clear hm ha5 hu5 hyes hmv hls
    obtain ⟨lA,lcap,rfl,-,-⟩:=HA5.out.form
    go_wp2_with fail
    refine (spec_l3Sort l (by have:=HPN.out;omega) HLS.out w5 _ F5 HA5.out HU5.out).mono ?_
    rintro e w6 ⟨x6,F6,rfl,hb6,ha6,hfr6,hfs6⟩
    have hB6:=hB5.trans (hb6.mono hB5.size)
    have HFin:Hid (MadeBd (matchV xs t p v) (matchB xs t p v) w (.returned (.tuple #[x6,.bool true])) w6):=by
     rw [HMV.out,HYES.out]
     exact ⟨x6,F6,rfl,hB6,ha6,hfr6,fun b hb=>⟨Nat.le_trans hB5.size (hfs6 b hb).1,(hfs6 b hb).2⟩⟩
    clear ha6 hfr6 hfs6
    go_wp2
    go_ret2
    exact HFin.out
theorem run_app_void {P:Program} {w:World} (t ty e:TypeId) (i:TypeInfo) (ht:P.underlying t=some (.slice e)) (hi:P.info? e=some i) (A0:Option Addr) (n cap c:Nat) (hle:n≤cap) :
  (Builtin.append_ #[t,t] ty #[.slice A0 n cap,.slice none 0 c]).run P w=.ok (.slice A0 n cap) w:=by
 cases A0 <;> simp [Builtin.append_,run_underlying ht,sizeOf,typeInfo,hi,Builtin.lenOf,Builtin.firstCells,storeCells,hle]
theorem VtR_ones {w:World}:∀ {ys:List Vt} {cs:List Value} {G:List Nat},Flat (VtR w) ys cs G→∀ u∈cs,u.oneCell'=true
 |[],cs,G,h=>by rw [h.1];intro u hu;cases hu
 |y :: ys,cs,G,h=>by
  obtain ⟨c1,c2,F1,F2,rfl,rfl,h1,h2⟩:=h
  obtain ⟨rfl,rfl⟩:=h1
  intro u hu
  rcases List.mem_append.1 hu with h | h
  ·simp at h
   rcases h with rfl | rfl | rfl <;> rfl
  ·exact VtR_ones h2 u h
theorem run_append_vars {P:Program} {w:World} {B:Nat} {E:TypeId} (t ty:TypeId) (i:TypeInfo) (z:Value) (bytes:Nat) (ht:P.underlying t=some (.slice E)) (hi:P.info? E=some i) (hz:i.zero=some z)
  (hsize:i.size=3) (hby:i.bytes=bytes) (hzs:z.cells.size=3) {xs:List Vt} {v:Value}
  (hown:Own w B E 3 VtR xs v []) {ys:List Vt} {A:Option Addr} {n c:Nat} {F:List Nat} (hy:Arr w (VtR w) ys (.slice A n c) F)
  (h63:xs.length+ys.length≤maxLen) (hbytes:(xs.length+ys.length)*bytes≤140737488355328) (hbase:B≤w.heap.size) :
  ∃ v' w',(Builtin.append_ #[t,t] ty #[v,.slice A n c]).run P w=.ok v' w'∧Own w' B E 3 VtR (xs ++ ys) v' []∧w.grownBy w' v.ownBlock∧∀ b∈rowOf v',b∈rowOf v∨w.heap.size≤b:=by
 obtain ⟨A',c',hv,h1,h2,h3⟩:=hy
 cases hv
 have hrow:∀ {v':Value},(v'.ownBlock=v.ownBlock∨v'.ownBlock=some w.heap.size)→∀ b∈rowOf v',b∈rowOf v∨w.heap.size≤b:=fun {v'} h b hb=>by
  have hb:=zA1.1 hb
  rcases h with h | h
  ·left;rw [h] at hb;exact zA1.2 hb
  ·right;rw [h] at hb;have:=Option.some.inj hb;omega
 rcases h3 with ⟨rfl,-⟩ | ⟨b,off,cs,G,rfl,hc,hf,-⟩
 ·cases A with
  |none =>
   obtain ⟨A0,cap,rfl,hc1,hc2⟩:=hown.form
   exact ⟨_,w,run_app_void t ty E i ht hi A0 _ cap c hc1,by rw [List.append_nil];exact hown,⟨rfl,rfl,rfl,zz8 _,fun _ _ _=>rfl⟩,fun b hb=>.inl hb⟩
  |some a =>
   obtain ⟨cs,o1,o2,o3,o4⟩:=hown
   obtain ⟨v',w',hr,q1,q2,q3,q4⟩:=run_append_own_at (P:=P) w B t ty E i z 3 bytes ht hi hz hsize hby hzs (by decide) _ xs.length cs o1 a 0 c [] (by simp) (fun j u h=>by simp at h) (fun u h=>by cases h) (by simpa using h63) (by simpa using hbytes) hbase
   exact ⟨v',w',hr,⟨cs,by simpa using q1,by rw [List.append_nil];exact o2,Under.nil _,fun g _ h=>by cases h⟩,q2,hrow q4⟩
 ·obtain ⟨cs0,o1,o2,o3,o4⟩:=hown
  have hl:cs.length=ys.length*3:=hf.length (VtR_len w)
  have hG:=hf.nilF (fun x cs G h=>h.2)
  subst hG
  obtain ⟨v',w',hr,q1,q2,q3,q4⟩:=run_append_own_at (P:=P) w B t ty E i z 3 bytes ht hi hz hsize hby hzs (by decide) _ xs.length cs0 o1 ⟨b,off,none⟩ ys.length c cs hl (fun j u hj=>by rw [Addr.add_lit];exact hc j u hj) (VtR_ones hf) h63 hbytes hbase
  refine ⟨v',w',hr,⟨cs0 ++ cs,by rw [List.length_append];exact q1,?_,Under.nil _,fun g _ h=>by cases h⟩,q2,hrow q4⟩
  have h:=Flat.append o2 hf
  exact h
theorem zAL {P:Program} {w:World} {ops:Array Oper} {rest:List Oper} {o:Oper} {a:Act} {Q:Exit→Act→World→Prop} (hgd:o.guard=none) (s x:Operand) (t:TypeId)
  (ho:o.op=.call { callee:=.builtin .append,args:=#[s,x],argTypes:=#[t,t] }) {sv xv v':Value} {w':World} (hs:a.eval s=sv) (hx:a.eval x=xv)
  (hr:(Builtin.append_ #[t,t] o.type #[sv,xv]).run P w=.ok v' w') (h:wpList P ops Q rest (a.put o.dst v') w'):wpList P ops Q (o :: rest) a w:=by
 refine wpList_plain hgd fun K hK=>?_
 unfold Oper.wp execOp
 simp only [ho,resolve,invoke,builtin,Sem.run_bind,Sem.run_pure,Result.andThen_ok,List.map_toArray,List.map_cons,List.map_nil,hs,hx,hr]
 exact hK _ _ h
end Go.Proofs.YtghekinfoadcoaaGreat
