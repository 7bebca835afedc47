/-
  Lemmas, and contracts of functions. Conditions: none.
-/
import Derived.Test.YtjjclcmmfeegfaaGreatDoorJAJ
import Derived.Test.YtjjclcmmfeegfaaGreatDoorJAB
import Derived.Deep.RegionWith
import Derived.Deep.QuietTactic
import Derived.BigQuiet
import Derived.Deep.RegionHeld3
import Derived.Test.YtjjclcmmfeegfaaGreatDoorJAG
import Derived.Test.YtjjclcmmfeegfaaGreatDoorJAF
import Derived.Test.YtjjclcmmfeegfaaGreatDoorJAA
import Derived.IntWalk

set_option linter.unusedVariables false
set_option linter.unusedSimpArgs false
set_option maxRecDepth 100000
set_option maxHeartbeats 1600000

namespace Go.Proofs.YtjjclcmmfeegfaaGreatDoor
open Go.RowKit
def TxtPS (p:P):Prop:=∀ (xs:List Dt) (_:WorldOK xs) (d:Nat) (_:d≤10) (t:Ty) (_:TyIn xs.length t) (_:shapeB xs d t p=true) (_:nodesP p≤60) (w:World) (x:Value) (F:List Nat) (cs:List Value) (G:List Nat),Arr w (DtR w) xs x F→Under w F→PR w p cs G→Under w G →
 Calls Tryz.prog 34 #[x,.agg #[t.d,t.i],.agg cs.toArray] w fun e w'=>e=.returned (.string (bs (pT xs d t p)))∧Below w w w'
theorem zAW {p k:P} (h:k∈p.ks):nodesP k≤nodesP p:=by
 obtain ⟨i,hi,rfl⟩:=List.getElem_of_mem h
 have h1:=nodesP_mem hi
 rw [zA6 p];omega
set_option maxHeartbeats 8000000 in
theorem l3Text_1 (p:P) (ih:∀ k∈p.ks,TxtPS k) (hop:p.op=1):TxtPS p:=by
 intro xs hw d hd t ht hsh hn60 w x F cs G hx hf hv hg
 obtain ⟨kv,rfl,ha⟩:=(zA3 _ _ _).1 hv
 obtain ⟨A,cap,rfl,hc1,hc2⟩:=hx.form
 obtain ⟨A4,cap4,rfl,hc3,hc4⟩:=ha.form
 cases d with
 |zero=>rw [shapeB] at hsh;cases hsh
 |succ d =>
 have hlen:=zBJ hw (d+1) t p ht hsh
 obtain ⟨ho,hl,hall⟩:=zAC hsh
 have HKN:Hid (∀ k∈p.ks,nodesP k≤60):=fun k hk=>Nat.le_trans (zAW hk) hn60
 have HW:=jj hw
 have IH:=jj ih
 have HT:=jj ht
 have HO:=jj ho
 have HLN:=jj hl
 have HTI:=jj (zAK hw ht ho)
 have HAG:=jj (fun i h1 h2=>zAL hall i h1 h2)
 have HX:=jj hx
 have HF:=jj hf
 have HA:=jj ha
 have HG:=jj hg
 clear hx hf ha hg
 clear hw ih hv hsh ht hl hall
 have e1:(p.op==1)=true:=by rw [hop];decide
 have hf:Hid (bs (pT xs (d+1) t p)=⟨#[95]⟩):=by unfold Hid;rw [zBH,nodeT_1 hop];rfl
 clear hop
 have hB0:Below w w ((w.alloc (.cells #[t.d,t.i] 25)).alloc (.cells #[p.op,p.ct,p.n,p.m,p.va,.slice A4 p.ks.length cap4] 28)):=((zy2 _ _).alloc (zz8 _) _).alloc (by simp) _
 have KT:Hid (Blk ((w.alloc (.cells #[t.d,t.i] 25)).alloc (.cells #[p.op,p.ct,p.n,p.m,p.va,.slice A4 p.ks.length cap4] 28)) w.heap.size 25 #[t.d,t.i]):=(Blk.new w _ _).same (Below.heap_alloc _ _ _ (by simp))
 have KV:Hid (Blk ((w.alloc (.cells #[t.d,t.i] 25)).alloc (.cells #[p.op,p.ct,p.n,p.m,p.va,.slice A4 p.ks.length cap4] 28)) (w.heap.size+1) 28 #[p.op,p.ct,p.n,p.m,p.va,.slice A4 p.ks.length cap4]):=by have h:=Blk.new (w.alloc (.cells #[t.d,t.i] 25)) 28 #[p.op,p.ct,p.n,p.m,p.va,.slice A4 p.ks.length cap4];rw [World.size_alloc] at h;exact h
 go_enter Tryz.func34,Tryz.ntmps34
 go_wp2
 go_ret
 exact ⟨zAF hf.out.symm,hB0⟩
set_option maxHeartbeats 8000000 in
theorem l3Text_2 (p:P) (ih:∀ k∈p.ks,TxtPS k) (hop:p.op=2):TxtPS p:=by
 intro xs hw d hd t ht hsh hn60 w x F cs G hx hf hv hg
 obtain ⟨kv,rfl,ha⟩:=(zA3 _ _ _).1 hv
 obtain ⟨A,cap,rfl,hc1,hc2⟩:=hx.form
 obtain ⟨A4,cap4,rfl,hc3,hc4⟩:=ha.form
 cases d with
 |zero=>rw [shapeB] at hsh;cases hsh
 |succ d =>
 have hlen:=zBJ hw (d+1) t p ht hsh
 obtain ⟨ho,hl,hall⟩:=zAC hsh
 have HKN:Hid (∀ k∈p.ks,nodesP k≤60):=fun k hk=>Nat.le_trans (zAW hk) hn60
 have HW:=jj hw
 have IH:=jj ih
 have HT:=jj ht
 have HO:=jj ho
 have HLN:=jj hl
 have HTI:=jj (zAK hw ht ho)
 have HAG:=jj (fun i h1 h2=>zAL hall i h1 h2)
 have HX:=jj hx
 have HF:=jj hf
 have HA:=jj ha
 have HG:=jj hg
 clear hx hf ha hg
 clear hw ih hv hsh ht hl hall
 have e1:(p.op==1)=false:=by rw [hop];decide
 have e2:(p.op==2)=true:=by rw [hop];decide
 have hf:Hid (bs (pT xs (d+1) t p)=bs (letT p.va)):=by unfold Hid;rw [zBH,nodeT_2 hop]
 have hva:=own_var ho (by unfold namedB;rw [hop];rfl)
 clear hop
 have hB0:Below w w ((w.alloc (.cells #[t.d,t.i] 25)).alloc (.cells #[p.op,p.ct,p.n,p.m,p.va,.slice A4 p.ks.length cap4] 28)):=((zy2 _ _).alloc (zz8 _) _).alloc (by simp) _
 have KT:Hid (Blk ((w.alloc (.cells #[t.d,t.i] 25)).alloc (.cells #[p.op,p.ct,p.n,p.m,p.va,.slice A4 p.ks.length cap4] 28)) w.heap.size 25 #[t.d,t.i]):=(Blk.new w _ _).same (Below.heap_alloc _ _ _ (by simp))
 have KV:Hid (Blk ((w.alloc (.cells #[t.d,t.i] 25)).alloc (.cells #[p.op,p.ct,p.n,p.m,p.va,.slice A4 p.ks.length cap4] 28)) (w.heap.size+1) 28 #[p.op,p.ct,p.n,p.m,p.va,.slice A4 p.ks.length cap4]):=by have h:=Blk.new (w.alloc (.cells #[t.d,t.i] 25)) 28 #[p.op,p.ct,p.n,p.m,p.va,.slice A4 p.ks.length cap4];rw [World.size_alloc] at h;exact h
 go_enter Tryz.func34,Tryz.ntmps34
 go_wp2_with fail
 obtain ⟨W2,hW2⟩:∃ W2,W2=((w.alloc (.cells #[t.d,t.i] 25)).alloc (.cells #[p.op,p.ct,p.n,p.m,p.va,.slice A4 p.ks.length cap4] 28)):=⟨_,rfl⟩
 rw [←hW2] at hB0 KT KV ⊢
 clear hW2
 refine (spec_l3Letter p.va hva.1 hva.2 _).mono ?_
 rintro e w' ⟨rfl,hb'⟩
 have hB1:=hB0.trans (hb'.mono hB0.size)
 go_wp2
 go_ret
 exact ⟨zAF hf.out.symm,hB1⟩
set_option maxHeartbeats 8000000 in
theorem l3Text_3 (p:P) (ih:∀ k∈p.ks,TxtPS k) (hop:p.op=3):TxtPS p:=by
 intro xs hw d hd t ht hsh hn60 w x F cs G hx hf hv hg
 obtain ⟨kv,rfl,ha⟩:=(zA3 _ _ _).1 hv
 obtain ⟨A,cap,rfl,hc1,hc2⟩:=hx.form
 obtain ⟨A4,cap4,rfl,hc3,hc4⟩:=ha.form
 cases d with
 |zero=>rw [shapeB] at hsh;cases hsh
 |succ d =>
 have hlen:=zBJ hw (d+1) t p ht hsh
 obtain ⟨ho,hl,hall⟩:=zAC hsh
 have HKN:Hid (∀ k∈p.ks,nodesP k≤60):=fun k hk=>Nat.le_trans (zAW hk) hn60
 have HW:=jj hw
 have IH:=jj ih
 have HT:=jj ht
 have HO:=jj ho
 have HLN:=jj hl
 have HTI:=jj (zAK hw ht ho)
 have HAG:=jj (fun i h1 h2=>zAL hall i h1 h2)
 have HX:=jj hx
 have HF:=jj hf
 have HA:=jj ha
 have HG:=jj hg
 clear hx hf ha hg
 clear hw ih hv hsh ht hl hall
 have e1:(p.op==1)=false:=by rw [hop];decide
 have e2:(p.op==2)=false:=by rw [hop];decide
 have e3:(p.op==3)=true:=by rw [hop];decide
 have hpn:=own_int ho hop
 have hpt:pT xs (d+1) t p=(if p.n=p.m then digT p.n else digT p.n ++ (45 :: digT p.m)):=by rw [zBH,nodeT_3 hop]
 clear hop
 have hB0:Below w w ((w.alloc (.cells #[t.d,t.i] 25)).alloc (.cells #[p.op,p.ct,p.n,p.m,p.va,.slice A4 p.ks.length cap4] 28)):=((zy2 _ _).alloc (zz8 _) _).alloc (by simp) _
 have KT:Hid (Blk ((w.alloc (.cells #[t.d,t.i] 25)).alloc (.cells #[p.op,p.ct,p.n,p.m,p.va,.slice A4 p.ks.length cap4] 28)) w.heap.size 25 #[t.d,t.i]):=(Blk.new w _ _).same (Below.heap_alloc _ _ _ (by simp))
 have KV:Hid (Blk ((w.alloc (.cells #[t.d,t.i] 25)).alloc (.cells #[p.op,p.ct,p.n,p.m,p.va,.slice A4 p.ks.length cap4] 28)) (w.heap.size+1) 28 #[p.op,p.ct,p.n,p.m,p.va,.slice A4 p.ks.length cap4]):=by have h:=Blk.new (w.alloc (.cells #[t.d,t.i] 25)) 28 #[p.op,p.ct,p.n,p.m,p.va,.slice A4 p.ks.length cap4];rw [World.size_alloc] at h;exact h
 by_cases hnm:p.n=p.m
 ·have t0:(p.n==p.m)=true:=by rw [hnm];simp
  have hf:Hid (bs (pT xs (d+1) t p)=bs (digT p.n)):=by unfold Hid;rw [hpt,if_pos hnm]
  clear hnm hpt
  go_enter Tryz.func34,Tryz.ntmps34
  go_wp2_with fail
  obtain ⟨W2,hW2⟩:∃ W2,W2=((w.alloc (.cells #[t.d,t.i] 25)).alloc (.cells #[p.op,p.ct,p.n,p.m,p.va,.slice A4 p.ks.length cap4] 28)):=⟨_,rfl⟩
  rw [←hW2] at hB0 KT KV ⊢
  clear hW2
  refine (spec_l17Dec p.n hpn.1 (by omega) _).mono ?_
  rintro e w' ⟨rfl,hb'⟩
  have hB1:=hB0.trans (hb'.mono hB0.size)
  go_wp2
  go_ret
  exact ⟨zAF hf.out.symm,hB1⟩
 ·have t0:(p.n==p.m)=false:=by rw [beq_eq_false_iff_ne];exact hnm
  obtain ⟨X,hX⟩:∃ x,bs (digT p.n)=x:=⟨_,rfl⟩
  obtain ⟨Y,hY⟩:∃ x,bs (digT p.m)=x:=⟨_,rfl⟩
  have hx1:X.size=1:=by rw [←hX];rfl
  have hy1:Y.size=1:=by rw [←hY];rfl
  have hf:Hid (bs (pT xs (d+1) t p)=(X ++ ⟨#[45]⟩) ++ Y):=by
   unfold Hid;rw [hpt,if_neg hnm,←hX,←hY]
   apply tl_inj;simp only [zA7,zB9];simp [tl]
  have HX':=jj hX
  have HY':=jj hY
  have c0a:X.size+1≤9223372036854775807:=by omega
  have c0b:¬9223372036854775807<X.size+1:=by omega
  have c1a:X.size+1+Y.size≤9223372036854775807:=by omega
  have c1b:¬9223372036854775807<X.size+1+Y.size:=by omega
  clear hnm hpt hX hY hx1 hy1
  go_enter Tryz.func34,Tryz.ntmps34
  go_wp2_with fail
  obtain ⟨W2,hW2⟩:∃ W2,W2=((w.alloc (.cells #[t.d,t.i] 25)).alloc (.cells #[p.op,p.ct,p.n,p.m,p.va,.slice A4 p.ks.length cap4] 28)):=⟨_,rfl⟩
  rw [←hW2] at hB0 KT KV ⊢
  clear hW2
  obtain ⟨y0,y1,klt⟩:=KT.out.c2
  obtain ⟨-,-,z2,z3,-,-,klt2⟩:=KV.out.c6
  have HS:Hid (∀ C:World,Below W2 W2 C→(C.cell? ⟨w.heap.size+1,2,none⟩=p.n∧C.cell? ⟨w.heap.size+1,3,none⟩=p.m)):=fun C hb=>⟨(hb.cell (klt2)).trans z2,(hb.cell (klt2)).trans z3⟩
  have hC0:Below W2 W2 W2.drew:=(zy2 _ _).drew
  refine wpBS HS.out (T:=fun _=>True) (d:=99) (by kernel_rfl) ?_
  obtain ⟨wd,hwd⟩:∃ X,X=W2.drew:=⟨_,rfl⟩
  rw [←hwd] at hC0  ⊢
  clear hwd
  have hS0:=HS.out _ hC0
  have hT0:True:=trivial
  refine wV 0 rfl hS0 hT0 ?_
  (try simp only [zz])
  refine wV 1 rfl hS0 hT0 ?_
  (try simp only [zz])
  refine wV 4 rfl hS0 hT0 ?_
  (try simp only [zz])
  refine wV 5 rfl hS0 hT0 ?_
  (try simp only [zz])
  refine w1 2 rfl fun K hK=>?_
  go_simp
  go_at_call 87
  refine (spec_l17Dec p.n hpn.1 (by omega) wd).mono ?_
  rintro e w3 ⟨rfl,hb3⟩
  have hC1:Below W2 W2 w3:=hC0.trans (hb3.mono hC0.size)
  have hS1:=HS.out _ hC1
  rw [HX'.out]
  (try dsimp only)
  refine hK.out _ _ hS1 (fun _=>trivial) ?_
  clear hK K
  (try simp only [zz])
  refine wV 3 rfl hS1 hT0 ?_
  (try simp only [zz])
  refine w1 6 rfl fun K hK=>?_
  go_simp
  go_at_call 87
  refine (spec_l17Dec p.m (by omega) hpn.2.2 w3).mono ?_
  rintro e w4 ⟨rfl,hb4⟩
  have hC2:Below W2 W2 w4:=hC1.trans (hb4.mono hC1.size)
  have hS2:=HS.out _ hC2
  rw [HY'.out]
  (try dsimp only)
  refine hK.out _ _ hS2 (fun _=>trivial) ?_
  clear hK K
  (try simp only [zz])
  refine wV 7 rfl hS2 hT0 ?_
  (try simp only [zz])
  refine wV 8 rfl hS2 hT0 ?_
  (try simp only [zz])
  refine wE (by kernel_rfl) ?_
  have hB9:Below w w w4:=hB0.trans (hC2.mono hB0.size)
  clear hS0 hS1 hS2 hT0
  clear HS
  go_wp2
  go_ret
  exact ⟨zAF hf.out.symm,hB9⟩
set_option maxHeartbeats 8000000 in
theorem l3Text_5 (p:P) (ih:∀ k∈p.ks,TxtPS k) (hop:p.op=5):TxtPS p:=by
 intro xs hw d hd t ht hsh hn60 w x F cs G hx hf hv hg
 obtain ⟨kv,rfl,ha⟩:=(zA3 _ _ _).1 hv
 obtain ⟨A,cap,rfl,hc1,hc2⟩:=hx.form
 obtain ⟨A4,cap4,rfl,hc3,hc4⟩:=ha.form
 cases d with
 |zero=>rw [shapeB] at hsh;cases hsh
 |succ d =>
 have hlen:=zBJ hw (d+1) t p ht hsh
 obtain ⟨ho,hl,hall⟩:=zAC hsh
 have HKN:Hid (∀ k∈p.ks,nodesP k≤60):=fun k hk=>Nat.le_trans (zAW hk) hn60
 have HW:=jj hw
 have IH:=jj ih
 have HT:=jj ht
 have HO:=jj ho
 have HLN:=jj hl
 have HTI:=jj (zAK hw ht ho)
 have HAG:=jj (fun i h1 h2=>zAL hall i h1 h2)
 have HX:=jj hx
 have HF:=jj hf
 have HA:=jj ha
 have HG:=jj hg
 clear hx hf ha hg
 clear hw ih hv hsh ht hl hall
 have e1:(p.op==1)=false:=by rw [hop];decide
 have e2:(p.op==2)=false:=by rw [hop];decide
 have e3:(p.op==3)=false:=by rw [hop];decide
 have e5:(p.op==5)=true:=by rw [hop];decide
 have hty:=zB6 (xs:=xs) (t:=t) hop
 have hk2:p.ks.length=2:=by rw [HLN.out,hty];rfl
 have hik0:0<p.ks.length:=by omega
 have hil0:0<(typesP xs t p).length:=by rw [←HLN.out];omega
 have HS0:Hid (shapeB xs d t p.ks[0]=true):=by have h:=HAG.out 0 hil0 hik0;simp only [hty,zz2,zz3] at h;exact h
 have HN0:Hid (nodesP p.ks[0]≤60):=HKN.out _ (List.getElem_mem hik0)
 have HM0:Hid (p.ks[0]∈p.ks):=List.getElem_mem hik0
 have hXs:(bs (pT xs d t p.ks[0])).size≤480:=by
  have h1:=zBJ HW.out d t p.ks[0] HT.out HS0.out
  have h2:=HN0.out
  rw [bs_size];omega
 obtain ⟨X,hX⟩:∃ z,bs (pT xs d t p.ks[0])=z:=⟨_,rfl⟩
 rw [hX] at hXs
 have HX':=jj hX
 clear hX
 have hik1:1<p.ks.length:=by omega
 have hil1:1<(typesP xs t p).length:=by rw [←HLN.out];omega
 have HS1:Hid (shapeB xs d t p.ks[1]=true):=by have h:=HAG.out 1 hil1 hik1;simp only [hty,zz2,zz3] at h;exact h
 have HN1:Hid (nodesP p.ks[1]≤60):=HKN.out _ (List.getElem_mem hik1)
 have HM1:Hid (p.ks[1]∈p.ks):=List.getElem_mem hik1
 have hYs:(bs (pT xs d t p.ks[1])).size≤480:=by
  have h1:=zBJ HW.out d t p.ks[1] HT.out HS1.out
  have h2:=HN1.out
  rw [bs_size];omega
 obtain ⟨Y,hY⟩:∃ z,bs (pT xs d t p.ks[1])=z:=⟨_,rfl⟩
 rw [hY] at hYs
 have HY':=jj hY
 clear hY
 have hf:Hid (bs (pT xs (d+1) t p)=(((⟨#[40]⟩ ++ X) ++ ⟨#[124]⟩) ++ Y) ++ ⟨#[41]⟩):=by
  have hz:List.zipWith (pT xs d) (typesP xs t p) p.ks=[pT xs d t p.ks[0],pT xs d t p.ks[1]]:=by
   rw [hty]
   obtain ⟨u0,u1,hq⟩:=kids_two hk2
   simp only [hq,zz2,zz3,List.zipWith_cons_cons,List.zipWith_nil_left]
  unfold Hid;rw [zBH,nodeT_5 hop,hz,←HX'.out,←HY'.out]
  apply tl_inj;simp only [zA7,zB9];simp [tl]
 have c0a:1+X.size≤9223372036854775807:=by omega
 have c0b:¬9223372036854775807<1+X.size:=by omega
 have c1a:1+X.size+1≤9223372036854775807:=by omega
 have c1b:¬9223372036854775807<1+X.size+1:=by omega
 have c2a:1+X.size+1+Y.size≤9223372036854775807:=by omega
 have c2b:¬9223372036854775807<1+X.size+1+Y.size:=by omega
 have c3a:1+X.size+1+Y.size+1≤9223372036854775807:=by omega
 have c3b:¬9223372036854775807<1+X.size+1+Y.size+1:=by omega
 have hB0:Below w w ((w.alloc (.cells #[t.d,t.i] 25)).alloc (.cells #[p.op,p.ct,p.n,p.m,p.va,.slice A4 p.ks.length cap4] 28)):=((zy2 _ _).alloc (zz8 _) _).alloc (by simp) _
 have KT:Hid (Blk ((w.alloc (.cells #[t.d,t.i] 25)).alloc (.cells #[p.op,p.ct,p.n,p.m,p.va,.slice A4 p.ks.length cap4] 28)) w.heap.size 25 #[t.d,t.i]):=(Blk.new w _ _).same (Below.heap_alloc _ _ _ (by simp))
 have KV:Hid (Blk ((w.alloc (.cells #[t.d,t.i] 25)).alloc (.cells #[p.op,p.ct,p.n,p.m,p.va,.slice A4 p.ks.length cap4] 28)) (w.heap.size+1) 28 #[p.op,p.ct,p.n,p.m,p.va,.slice A4 p.ks.length cap4]):=by have h:=Blk.new (w.alloc (.cells #[t.d,t.i] 25)) 28 #[p.op,p.ct,p.n,p.m,p.va,.slice A4 p.ks.length cap4];rw [World.size_alloc] at h;exact h
 obtain ⟨b4,off4,rfl⟩:=HA.out.ptr (by omega)
 obtain ⟨A7,cap7,G7,hb7,k0,k1,k2,k3,k4,k5,HV7,HG7,-,-,-⟩:=ArrP.at HA.out HG.out hB0 0 hik0
 simp only [Nat.zero_mul,Nat.one_mul,Nat.add_zero,Nat.add_assoc,Nat.reduceAdd] at k0 k1 k2 k3 k4 k5
 obtain ⟨A8,cap8,G8,hb8,m0,m1,m2,m3,m4,m5,HV8,HG8,-,-,-⟩:=ArrP.at HA.out HG.out hB0 1 hik1
 simp only [Nat.zero_mul,Nat.one_mul,Nat.add_zero,Nat.add_assoc,Nat.reduceAdd] at m0 m1 m2 m3 m4 m5
 have g0:(0:Int)<(p.ks.length:Int):=by omega
 have g1:(1:Int)<(p.ks.length:Int):=by omega
 clear hop hty hk2 hXs hYs
 go_enter Tryz.func34,Tryz.ntmps34
 go_wp2_with fail
 obtain ⟨W2,hW2⟩:∃ W2,W2=((w.alloc (.cells #[t.d,t.i] 25)).alloc (.cells #[p.op,p.ct,p.n,p.m,p.va,.slice (some ⟨b4,off4,none⟩) p.ks.length cap4] 28)):=⟨_,rfl⟩
 rw [←hW2] at hB0 KT KV k0 k1 k2 k3 k4 k5 m0 m1 m2 m3 m4 m5 hb7 hb8 ⊢
 clear hW2
 obtain ⟨y0,y1,klt⟩:=KT.out.c2
 obtain ⟨-,-,-,-,z4,z5,klt2⟩:=KV.out.c6
 have hBw:Below w w W2.drew:=hB0.drew
 have HS:Hid (∀ C:World,Below W2 W2 C→(C.cell? ⟨w,0,none⟩=t.d∧C.cell? ⟨w,1,none⟩=t.i∧C.cell? ⟨w.heap.size+1,4,none⟩=p.va∧C.cell? ⟨w.heap.size+1,5,none⟩=some (.slice (some ⟨b4,off4,none⟩) p.ks.length cap4)∧C.cell? ⟨b4,off4,none⟩=p.ks[0].op∧C.cell? ⟨b4,off4+1,none⟩=p.ks[0].ct∧C.cell? ⟨b4,off4+2,none⟩=p.ks[0].n∧C.cell? ⟨b4,off4+3,none⟩=p.ks[0].m∧C.cell? ⟨b4,off4+4,none⟩=p.ks[0].va∧C.cell? ⟨b4,off4+5,none⟩=some (.slice A7 p.ks[0].ks.length cap7)∧C.cell? ⟨b4,off4+6,none⟩=p.ks[1].op∧C.cell? ⟨b4,off4+7,none⟩=p.ks[1].ct∧C.cell? ⟨b4,off4+8,none⟩=p.ks[1].n∧C.cell? ⟨b4,off4+9,none⟩=p.ks[1].m∧C.cell? ⟨b4,off4+10,none⟩=p.ks[1].va∧C.cell? ⟨b4,off4+11,none⟩=some (.slice A8 p.ks[1].ks.length cap8))):=fun C hb=>⟨(hb.cell (klt)).trans y0,(hb.cell (klt)).trans y1,(hb.cell (klt2)).trans z4,(hb.cell (klt2)).trans z5,(hb.cell (hb7)).trans k0,(hb.cell (hb7)).trans k1,(hb.cell (hb7)).trans k2,(hb.cell (hb7)).trans k3,(hb.cell (hb7)).trans k4,(hb.cell (hb7)).trans k5,(hb.cell (hb8)).trans m0,(hb.cell (hb8)).trans m1,(hb.cell (hb8)).trans m2,(hb.cell (hb8)).trans m3,(hb.cell (hb8)).trans m4,(hb.cell (hb8)).trans m5⟩
 have hC0:Below W2 W2 W2.drew:=(zy2 _ _).drew
 refine wpBS HS.out (T:=fun _=>True) (d:=99) (by kernel_rfl) ?_
 obtain ⟨wd,hwd⟩:∃ X,X=W2.drew:=⟨_,rfl⟩
 rw [←hwd] at hC0 hBw  ⊢
 clear hwd
 have hS0:=HS.out _ hC0
 have hT0:True:=trivial
 refine wV 0 rfl hS0 hT0 ?_
 (try simp only [zz])
 refine wV 1 rfl hS0 hT0 ?_
 (try simp only [zz])
 refine wV 2 rfl hS0 hT0 ?_
 (try simp only [zz])
 refine wV 3 rfl hS0 hT0 ?_
 (try simp only [zz])
 refine wV 4 rfl hS0 hT0 ?_
 (try simp only [zz])
 refine wV 5 rfl hS0 hT0 ?_
 (try simp only [zz])
 refine wV 9 rfl hS0 hT0 ?_
 (try simp only [zz])
 refine wV 10 rfl hS0 hT0 ?_
 (try simp only [zz])
 refine wV 11 rfl hS0 hT0 ?_
 (try simp only [zz])
 refine wV 12 rfl hS0 hT0 ?_
 (try simp only [zz])
 refine wV 13 rfl hS0 hT0 ?_
 (try simp only [zz])
 refine wV 14 rfl hS0 hT0 ?_
 (try simp only [zz])
 refine w1 6 rfl fun K hK=>?_
 go_simp
 go_at_call 34
 refine (IH.out p.ks[0] HM0.out xs HW.out d (by omega) t HT.out HS0.out HN0.out wd _ F _ G7 (ArrDt.below HX.out hBw HF.out) (HF.out.mono hBw.size) (HV7.out.below hBw HG7.out) (HG7.out.mono hBw.size)).mono ?_
 rintro e w3 ⟨rfl,hb3⟩
 have hC1:Below W2 W2 w3:=hC0.trans (hb3.mono hC0.size)
 have hS1:=HS.out _ hC1
 rw [HX'.out]
 have hBw:=hBw.trans (hb3.mono hBw.size)
 (try dsimp only)
 refine hK.out _ _ hS1 (fun _=>trivial) ?_
 clear hK K
 (try simp only [zz])
 refine wV 7 rfl hS1 hT0 ?_
 (try simp only [zz])
 refine wV 8 rfl hS1 hT0 ?_
 (try simp only [zz])
 refine w1 15 rfl fun K hK=>?_
 go_simp
 go_at_call 34
 refine (IH.out p.ks[1] HM1.out xs HW.out d (by omega) t HT.out HS1.out HN1.out w3 _ F _ G8 (ArrDt.below HX.out hBw HF.out) (HF.out.mono hBw.size) (HV8.out.below hBw HG8.out) (HG8.out.mono hBw.size)).mono ?_
 rintro e w4 ⟨rfl,hb4⟩
 have hC2:Below W2 W2 w4:=hC1.trans (hb4.mono hC1.size)
 have hS2:=HS.out _ hC2
 rw [HY'.out]
 (try dsimp only)
 refine hK.out _ _ hS2 (fun _=>trivial) ?_
 clear hK K
 (try simp only [zz])
 refine wV 16 rfl hS2 hT0 ?_
 (try simp only [zz])
 refine wV 17 rfl hS2 hT0 ?_
 (try simp only [zz])
 refine wV 18 rfl hS2 hT0 ?_
 (try simp only [zz])
 refine wE (by kernel_rfl) ?_
 have hB9:Below w w w4:=hB0.trans (hC2.mono hB0.size)
 clear hS0 hS1 hS2 hT0
 clear HS
 go_wp2
 go_ret
 exact ⟨zAF hf.out.symm,hB9⟩
set_option maxHeartbeats 8000000 in
theorem l3Text_6 (p:P) (ih:∀ k∈p.ks,TxtPS k) (hop:p.op=6):TxtPS p:=by
 intro xs hw d hd t ht hsh hn60 w x F cs G hx hf hv hg
 obtain ⟨kv,rfl,ha⟩:=(zA3 _ _ _).1 hv
 obtain ⟨A,cap,rfl,hc1,hc2⟩:=hx.form
 obtain ⟨A4,cap4,rfl,hc3,hc4⟩:=ha.form
 cases d with
 |zero=>rw [shapeB] at hsh;cases hsh
 |succ d =>
 have hlen:=zBJ hw (d+1) t p ht hsh
 obtain ⟨ho,hl,hall⟩:=zAC hsh
 have HKN:Hid (∀ k∈p.ks,nodesP k≤60):=fun k hk=>Nat.le_trans (zAW hk) hn60
 have HW:=jj hw
 have IH:=jj ih
 have HT:=jj ht
 have HO:=jj ho
 have HLN:=jj hl
 have HTI:=jj (zAK hw ht ho)
 have HAG:=jj (fun i h1 h2=>zAL hall i h1 h2)
 have HX:=jj hx
 have HF:=jj hf
 have HA:=jj ha
 have HG:=jj hg
 clear hx hf ha hg
 clear hw ih hv hsh ht hl hall
 have e1:(p.op==1)=false:=by rw [hop];decide
 have e2:(p.op==2)=false:=by rw [hop];decide
 have e3:(p.op==3)=false:=by rw [hop];decide
 have e5:(p.op==5)=false:=by rw [hop];decide
 have e6:(p.op==6)=true:=by rw [hop];decide
 have hva:=own_var ho (by unfold namedB;rw [hop];rfl)
 have hty:=typesP_as (xs:=xs) (t:=t) hop
 have hk1:p.ks.length=1:=by rw [HLN.out,hty];rfl
 have hik0:0<p.ks.length:=by omega
 have hil0:0<(typesP xs t p).length:=by rw [←HLN.out];omega
 have HS0:Hid (shapeB xs d t p.ks[0]=true):=by have h:=HAG.out 0 hil0 hik0;simp only [hty,zz2,zz3] at h;exact h
 have HN0:Hid (nodesP p.ks[0]≤60):=HKN.out _ (List.getElem_mem hik0)
 have HM0:Hid (p.ks[0]∈p.ks):=List.getElem_mem hik0
 have hXs:(bs (pT xs d t p.ks[0])).size≤480:=by
  have h1:=zBJ HW.out d t p.ks[0] HT.out HS0.out
  have h2:=HN0.out
  rw [bs_size];omega
 obtain ⟨X,hX⟩:∃ z,bs (pT xs d t p.ks[0])=z:=⟨_,rfl⟩
 rw [hX] at hXs
 have HX':=jj hX
 clear hX
 obtain ⟨L,hL⟩:∃ x,bs (letT p.va)=x:=⟨_,rfl⟩
 have hl1:L.size=1:=by rw [←hL];rfl
 have HL:=jj hL
 have hf:Hid (bs (pT xs (d+1) t p)=(L ++ ⟨#[64]⟩) ++ X):=by
  have hz:List.zipWith (pT xs d) (typesP xs t p) p.ks=[pT xs d t p.ks[0]]:=by
   rw [hty]
   obtain ⟨u0,hq⟩:∃ k0,p.ks=[k0]:=List.length_eq_one_iff.1 hk1
   simp only [hq,zz2,List.zipWith_cons_cons,List.zipWith_nil_left]
  unfold Hid;rw [zBH,nodeT_6 hop,hz,←HX'.out,←HL.out]
  apply tl_inj;simp only [zA7,zB9];simp [tl]
 have c0a:L.size+1≤9223372036854775807:=by omega
 have c0b:¬9223372036854775807<L.size+1:=by omega
 have c1a:L.size+1+X.size≤9223372036854775807:=by omega
 have c1b:¬9223372036854775807<L.size+1+X.size:=by omega
 have hB0:Below w w ((w.alloc (.cells #[t.d,t.i] 25)).alloc (.cells #[p.op,p.ct,p.n,p.m,p.va,.slice A4 p.ks.length cap4] 28)):=((zy2 _ _).alloc (zz8 _) _).alloc (by simp) _
 have KT:Hid (Blk ((w.alloc (.cells #[t.d,t.i] 25)).alloc (.cells #[p.op,p.ct,p.n,p.m,p.va,.slice A4 p.ks.length cap4] 28)) w.heap.size 25 #[t.d,t.i]):=(Blk.new w _ _).same (Below.heap_alloc _ _ _ (by simp))
 have KV:Hid (Blk ((w.alloc (.cells #[t.d,t.i] 25)).alloc (.cells #[p.op,p.ct,p.n,p.m,p.va,.slice A4 p.ks.length cap4] 28)) (w.heap.size+1) 28 #[p.op,p.ct,p.n,p.m,p.va,.slice A4 p.ks.length cap4]):=by have h:=Blk.new (w.alloc (.cells #[t.d,t.i] 25)) 28 #[p.op,p.ct,p.n,p.m,p.va,.slice A4 p.ks.length cap4];rw [World.size_alloc] at h;exact h
 obtain ⟨b4,off4,rfl⟩:=HA.out.ptr (by omega)
 obtain ⟨A7,cap7,G7,hb7,k0,k1,k2,k3,k4,k5,HV7,HG7,-,-,-⟩:=ArrP.at HA.out HG.out hB0 0 hik0
 simp only [Nat.zero_mul,Nat.one_mul,Nat.add_zero,Nat.add_assoc,Nat.reduceAdd] at k0 k1 k2 k3 k4 k5
 have g0:(0:Int)<(p.ks.length:Int):=by omega
 clear hop hty hk1 hXs hL hl1
 go_enter Tryz.func34,Tryz.ntmps34
 go_wp2_with fail
 obtain ⟨W2,hW2⟩:∃ W2,W2=((w.alloc (.cells #[t.d,t.i] 25)).alloc (.cells #[p.op,p.ct,p.n,p.m,p.va,.slice (some ⟨b4,off4,none⟩) p.ks.length cap4] 28)):=⟨_,rfl⟩
 rw [←hW2] at hB0 KT KV k0 k1 k2 k3 k4 k5 hb7 ⊢
 clear hW2
 obtain ⟨y0,y1,klt⟩:=KT.out.c2
 obtain ⟨-,-,-,-,z4,z5,klt2⟩:=KV.out.c6
 have hBw:Below w w W2.drew:=hB0.drew
 have HS:Hid (∀ C:World,Below W2 W2 C→(C.cell? ⟨w,0,none⟩=t.d∧C.cell? ⟨w,1,none⟩=t.i∧C.cell? ⟨w.heap.size+1,4,none⟩=p.va∧C.cell? ⟨w.heap.size+1,5,none⟩=some (.slice (some ⟨b4,off4,none⟩) p.ks.length cap4)∧C.cell? ⟨b4,off4,none⟩=p.ks[0].op∧C.cell? ⟨b4,off4+1,none⟩=p.ks[0].ct∧C.cell? ⟨b4,off4+2,none⟩=p.ks[0].n∧C.cell? ⟨b4,off4+3,none⟩=p.ks[0].m∧C.cell? ⟨b4,off4+4,none⟩=p.ks[0].va∧C.cell? ⟨b4,off4+5,none⟩=some (.slice A7 p.ks[0].ks.length cap7))):=fun C hb=>⟨(hb.cell (klt)).trans y0,(hb.cell (klt)).trans y1,(hb.cell (klt2)).trans z4,(hb.cell (klt2)).trans z5,(hb.cell (hb7)).trans k0,(hb.cell (hb7)).trans k1,(hb.cell (hb7)).trans k2,(hb.cell (hb7)).trans k3,(hb.cell (hb7)).trans k4,(hb.cell (hb7)).trans k5⟩
 have hC0:Below W2 W2 W2.drew:=(zy2 _ _).drew
 refine wpBS HS.out (T:=fun _=>True) (d:=99) (by kernel_rfl) ?_
 obtain ⟨wd,hwd⟩:∃ X,X=W2.drew:=⟨_,rfl⟩
 rw [←hwd] at hC0 hBw  ⊢
 clear hwd
 have hS0:=HS.out _ hC0
 have hT0:True:=trivial
 refine wV 0 rfl hS0 hT0 ?_
 (try simp only [zz])
 refine wV 1 rfl hS0 hT0 ?_
 (try simp only [zz])
 refine wV 4 rfl hS0 hT0 ?_
 (try simp only [zz])
 refine wV 5 rfl hS0 hT0 ?_
 (try simp only [zz])
 refine wV 6 rfl hS0 hT0 ?_
 (try simp only [zz])
 refine wV 7 rfl hS0 hT0 ?_
 (try simp only [zz])
 refine wV 8 rfl hS0 hT0 ?_
 (try simp only [zz])
 refine wV 9 rfl hS0 hT0 ?_
 (try simp only [zz])
 refine w1 2 rfl fun K hK=>?_
 go_simp
 go_at_call 86
 refine (spec_l3Letter p.va hva.1 hva.2 wd).mono ?_
 rintro e w3 ⟨rfl,hb3⟩
 have hC1:Below W2 W2 w3:=hC0.trans (hb3.mono hC0.size)
 have hS1:=HS.out _ hC1
 rw [HL.out]
 have hBw:=hBw.trans (hb3.mono hBw.size)
 (try dsimp only)
 refine hK.out _ _ hS1 (fun _=>trivial) ?_
 clear hK K
 (try simp only [zz])
 refine wV 3 rfl hS1 hT0 ?_
 (try simp only [zz])
 refine w1 10 rfl fun K hK=>?_
 go_simp
 go_at_call 34
 refine (IH.out p.ks[0] HM0.out xs HW.out d (by omega) t HT.out HS0.out HN0.out w3 _ F _ G7 (ArrDt.below HX.out hBw HF.out) (HF.out.mono hBw.size) (HV7.out.below hBw HG7.out) (HG7.out.mono hBw.size)).mono ?_
 rintro e w4 ⟨rfl,hb4⟩
 have hC2:Below W2 W2 w4:=hC1.trans (hb4.mono hC1.size)
 have hS2:=HS.out _ hC2
 rw [HX'.out]
 (try dsimp only)
 refine hK.out _ _ hS2 (fun _=>trivial) ?_
 clear hK K
 (try simp only [zz])
 refine wV 11 rfl hS2 hT0 ?_
 (try simp only [zz])
 refine wV 12 rfl hS2 hT0 ?_
 (try simp only [zz])
 refine wE (by kernel_rfl) ?_
 have hB9:Below w w w4:=hB0.trans (hC2.mono hB0.size)
 clear hS0 hS1 hS2 hT0
 clear HS
 go_wp2
 go_ret
 exact ⟨zAF hf.out.symm,hB9⟩
set_option maxHeartbeats 8000000 in
theorem l3Text_4 (p:P) (ih:∀ k∈p.ks,TxtPS k) (hop:p.op=4):TxtPS p:=by
 intro xs hw d hd t ht hsh hn60 w x F cs G hx hf hv hg
 obtain ⟨kv,rfl,ha⟩:=(zA3 _ _ _).1 hv
 obtain ⟨A,cap,rfl,hc1,hc2⟩:=hx.form
 obtain ⟨A4,cap4,rfl,hc3,hc4⟩:=ha.form
 cases d with
 |zero=>rw [shapeB] at hsh;cases hsh
 |succ d =>
 have hlen:=zBJ hw (d+1) t p ht hsh
 obtain ⟨ho,hl,hall⟩:=zAC hsh
 have HKN:Hid (∀ k∈p.ks,nodesP k≤60):=fun k hk=>Nat.le_trans (zAW hk) hn60
 have HW:=jj hw
 have IH:=jj ih
 have HT:=jj ht
 have HO:=jj ho
 have HLN:=jj hl
 have HTI:=jj (zAK hw ht ho)
 have HAG:=jj (fun i h1 h2=>zAL hall i h1 h2)
 have HX:=jj hx
 have HF:=jj hf
 have HA:=jj ha
 have HG:=jj hg
 clear hx hf ha hg
 clear hw ih hv hsh ht hl hall
 have e1:(p.op==1)=false:=by rw [hop];decide
 have e2:(p.op==2)=false:=by rw [hop];decide
 have e3:(p.op==3)=false:=by rw [hop];decide
 have e5:(p.op==5)=false:=by rw [hop];decide
 have e6:(p.op==6)=false:=by rw [hop];decide
 have HLEN:Hid ((pT xs (d+1) t p).length≤480):=by unfold Hid;omega
 obtain ⟨q,r,rfl,hql,hrl⟩:=ctor_data HT.out HO.out hop
 obtain ⟨k,hvc,hkl,hty⟩:=ctor_parts hql HO.out hop
 have HVC:=jj hvc
 have HLA:=jj (HW.out.ctor hql hkl).args
 have hn5:=nameOk_len (HW.out.ctor hql hkl).name
 rw [hty] at HLN HTI HAG
 have hpt:pT xs (d+1) ⟨(q:Int),(r:Int)⟩ p=tl xs[q].ctors[k].name ++ (lst (decide (0=0)) (List.zipWith (pT xs d) ((argsL xs[q].ctors[k] (r:Int)).drop 0) (p.ks.drop 0)) ++ closeL (argsL xs[q].ctors[k] (r:Int)).length):=by
  rw [zBH,nodeT_4 hop,hty,hvc,ctorN_get hql hkl,List.length_zipWith,HLN.out,Nat.min_self];rfl
 obtain ⟨T,hT⟩:∃ T,T=pT xs (d+1) ⟨(q:Int),(r:Int)⟩ p:=⟨_,rfl⟩
 rw [←hT] at hpt HLEN ⊢
 have HPT:=jj hpt
 clear hop hvc hty hpt hT hlen
 obtain ⟨b,off,rfl⟩:=HX.out.ptr (by omega)
 have hB0:Below w w ((w.alloc (.cells #[(q:Int),(r:Int)] 25)).alloc (.cells #[p.op,p.ct,p.n,p.m,p.va,.slice A4 p.ks.length cap4] 28)):=((zy2 _ _).alloc (zz8 _) _).alloc (by simp) _
 obtain ⟨A1,cap1,G1,hb,c0,c1,HK,HG1,hs,hn1,hn2⟩:=ArrDt.at HX.out HF.out hB0 q hql
 obtain ⟨b3,off3,rfl⟩:=HK.out.ptr (by omega)
 obtain ⟨A9,cap9,G9,hb9,p0,p1,p2,HT9,HTG9,hnm9,hc93,hc94⟩:=ArrKt.at HK.out HG1.out hB0 k hkl
 have g1:(0:Int)≤(q:Int):=by omega
 have g2:(q:Int)<(xs.length:Int):=by omega
 have g3:(0:Int)≤(k:Int):=by omega
 have g4:(k:Int)<(xs[q].ctors.length:Int):=by omega
 have KT:Hid (Blk ((w.alloc (.cells #[(q:Int),(r:Int)] 25)).alloc (.cells #[p.op,p.ct,p.n,p.m,p.va,.slice A4 p.ks.length cap4] 28)) w.heap.size 25 #[(q:Int),(r:Int)]):=(Blk.new w _ _).same (Below.heap_alloc _ _ _ (by simp))
 have KV:Hid (Blk ((w.alloc (.cells #[(q:Int),(r:Int)] 25)).alloc (.cells #[p.op,p.ct,p.n,p.m,p.va,.slice A4 p.ks.length cap4] 28)) (w.heap.size+1) 28 #[p.op,p.ct,p.n,p.m,p.va,.slice A4 p.ks.length cap4]):=by have h:=Blk.new (w.alloc (.cells #[(q:Int),(r:Int)] 25)) 28 #[p.op,p.ct,p.n,p.m,p.va,.slice A4 p.ks.length cap4];rw [World.size_alloc] at h;exact h
 go_enter Tryz.func34,Tryz.ntmps34
 go_wp2_with fail
 obtain ⟨W2,hW2⟩:∃ W2,W2=((w.alloc (.cells #[(q:Int),(r:Int)] 25)).alloc (.cells #[p.op,p.ct,p.n,p.m,p.va,.slice A4 p.ks.length cap4] 28)):=⟨_,rfl⟩
 rw [←hW2] at hB0 c0 c1 hb hb9 p0 p1 p2 KV KT ⊢
 clear hW2
 obtain ⟨y0,y1,-⟩:=KT.out.c2
 have x1:W2.cell? ⟨w.heap.size+1,1,none⟩=(k:Int):=(KV.out.cell 1).trans (by simp [HVC.out])
 have klt:=KT.out.lt
 have klt2:=KV.out.lt
 have HBQ:=jj (fun n=>zB3 hB0 n)
 go_quiet (fail)
 obtain ⟨w5,hw5⟩:∃ X,X=W2.drewN nq:=⟨_,rfl⟩
 have hB5:Below w w w5:=by rw [hw5];exact HBQ.out nq
 have KT5:Hid (Blk w5 w 25 #[(q:Int),(r:Int)]):=by rw [hw5];exact KT.out
 have KV5:Hid (Blk w5 (w.heap.size+1) 28 #[p.op,p.ct,p.n,p.m,p.va,.slice A4 p.ks.length cap4]):=by rw [hw5];exact KV.out
 rw [←hw5]
 clear hw5 KT KV y0 y1 x1 klt klt2 hb9 p0 p1 p2 hb c0 c1 HBQ
 obtain ⟨y0,y1,-⟩:=KT5.out.c2
 have x1:w5.cell? ⟨w.heap.size+1,1,none⟩=(k:Int):=(KV5.out.cell 1).trans (by simp [HVC.out])
 have klt:=KT5.out.lt
 have klt2:=KV5.out.lt
 go_wp2_with fail
 refine (spec_l1Args xs q k (r:Int) hql hkl _ _ F (ArrDt.below HX.out hB5 HF.out) (HF.out.mono hB5.size) HLA.out).mono ?_
 rintro e w6 ⟨v6,F6,rfl,hb6,ha6,-,hfs6⟩
 have hB6:=hB5.trans (hb6.mono hB5.size)
 have KV6:=jj (KV5.out.same (hb6.block _ KV5.out.lt))
 generalize hass:argsL xs[q].ctors[k] (r:Int)=ls at *
 clear hass
 obtain ⟨A6,cap6,rfl,hd3,hd4⟩:=ha6.form
 have HA6:=jj ha6
 have HU6:=jj hfs6.under
 clear ha6 hfs6 hb6 KT5 KV5 y0 y1 x1 klt klt2 hB0 hB5 g1 g2 g3 g4 hs hn1 hn2 hnm9 hc93 hc94
 obtain ⟨nm,hnm⟩:∃ nm,nm=xs[q].ctors[k].name:=⟨_,rfl⟩
 rw [←hnm] at HPT hn5 ⊢
 clear hnm
 go_wp2
 go_loopw [7,9] (fun ov iv wr=>∃ i:Nat,∃ out:ByteArray,i≤ls.length∧iv=.int .i64 i∧ov=.string out∧Hid (T=tl out ++ (lst (decide (i=0)) (List.zipWith (pT xs d) (ls.drop i) (p.ks.drop i)) ++ closeL ls.length))∧Hid (Blk wr (w.heap.size+1) 28 #[p.op,p.ct,p.n,p.m,p.va,.slice A4 p.ks.length cap4])∧Below w w wr∧Hid (Below w6 w6 wr)) (fun _ iv _=>ls.length-(intOf iv).toNat)
 case atStart=>exact ⟨0,nm,Nat.zero_le _,rfl,rfl,HPT.out,KV6,hB6,zy2 _ _⟩
 case round =>
  clear hB6
  obtain ⟨i,out,hi,rfl,rfl,HR,KV,hB,HB6⟩:=hrel
  have hos:out.size≤480:=by
   have h1:=congrArg List.length HR.out
   have h2:=HLEN.out
   rw [List.length_append] at h1
   have h4:(tl out).length=out.size:=rfl
   omega
  by_cases hil:i<ls.length
  ·have hik:i<p.ks.length:=by rw [HLN.out];exact hil
   obtain ⟨b6,off6,rfl⟩:=HA6.out.ptr (by omega)
   obtain ⟨hb6,a0,a1⟩:=ArrTy.at HA6.out HU6.out HB6.out i hil
   obtain ⟨b4,off4,rfl⟩:=HA.out.ptr (by omega)
   obtain ⟨A7,cap7,G7,hb7,k0,k1,k2,k3,k4,k5,HV7,HG7,-,-,-⟩:=ArrP.at HA.out HG.out hB i hik
   obtain ⟨-,-,-,-,-,z5,klt2⟩:=KV.out.c6
   have g1:(0:Int)≤(i:Int):=by omega
   have g2:(i:Int)<(ls.length:Int):=by omega
   have g3:(i:Int)<(p.ks.length:Int):=by omega
   have hst:=HR.out
   rw [lstP_step _ hil hik] at hst
   have HFI:Hid (shapeB xs d ls[i] p.ks[i]=true):=HAG.out i hil hik
   have HNI:Hid (nodesP p.ks[i]≤60):=HKN.out _ (List.getElem_mem hik)
   have HTI2:=jj (HTI.out _ (List.getElem_mem hil))
   have HCALL:=jj (IH.out p.ks[i] (List.getElem_mem hik) xs HW.out d (by omega) ls[i] HTI2.out HFI.out HNI.out wr.drew _ F _ G7 (ArrDt.below HX.out hB.drew HF.out) (HF.out.mono hB.drew.size) (HV7.out.below hB.drew HG7.out) (HG7.out.mono hB.drew.size))
   have hzs:(bs (pT xs d ls[i] p.ks[i])).size≤480:=by
    have h1:=zBJ HW.out d ls[i] p.ks[i] HTI2.out HFI.out
    have h2:=HNI.out
    rw [bs_size];omega
   obtain ⟨Z,hZ⟩:∃ z,bs (pT xs d ls[i] p.ks[i])=z:=⟨_,rfl⟩
   rw [hZ] at hzs
   have HZ:=jj hZ
   have HZV:Hid (pT xs d ls[i] p.ks[i]=tl Z):=by rw [←HZ.out];rfl
   rw [HZV.out] at hst
   clear hZ
   have hcat0:out.size+1≤9223372036854775807:=by omega
   have hcat1:out.size+1+Z.size≤9223372036854775807:=by omega
   have hcat2:¬9223372036854775807<out.size+1:=by omega
   have hcat3:¬9223372036854775807<out.size+1+Z.size:=by omega
   clear hzs hos
   cases q3:((i:Int)==0)
   have hi0:decide (i=0)=false:=by
    rw [beq_eq_false_iff_ne] at q3;exact decide_eq_false (by omega)
   rw [hi0] at hst
   have hst2:T=tl ((out ++ ⟨#[44]⟩) ++ Z) ++ (lst (decide (i+1=0)) (List.zipWith (pT xs d) (ls.drop (i+1)) (p.ks.drop (i+1))) ++ closeL ls.length):=by
    rw [hst,zA7,zA7,←HZ.out,zB9,decide_eq_false (show ¬(i+1=0) by omega)]
    show tl out ++ ((44 :: _) ++ _)=_
    simp [tl]
   rotate_left
   have hi0:decide (i=0)=true:=by
    rw [beq_iff_eq] at q3;exact decide_eq_true (by omega)
   rw [hi0] at hst
   have hst2:T=tl ((out ++ ⟨#[40]⟩) ++ Z) ++ (lst (decide (i+1=0)) (List.zipWith (pT xs d) (ls.drop (i+1)) (p.ks.drop (i+1))) ++ closeL ls.length):=by
    rw [hst,zA7,zA7,←HZ.out,zB9,decide_eq_false (show ¬(i+1=0) by omega)]
    show tl out ++ ((40 :: _) ++ _)=_
    simp [tl]
   rotate_left
   all_goals (
    have HST:=jj hst2
    clear hst hst2 hi0
    go_wp2_with fail
    have hkeep:Kp wr.heap.size (fun U=>U.cell? ⟨b6,off6+i*2,none⟩=ls[i].d∧U.cell? ⟨b6,off6+i*2+1,none⟩=ls[i].i∧U.cell? ⟨w.heap.size+1,5,none⟩=some (.slice (some ⟨b4,off4,none⟩) p.ks.length cap4)∧U.cell? ⟨b4,off4+i*6,none⟩=p.ks[i].op∧U.cell? ⟨b4,off4+i*6+1,none⟩=p.ks[i].ct∧U.cell? ⟨b4,off4+i*6+2,none⟩=p.ks[i].n∧U.cell? ⟨b4,off4+i*6+3,none⟩=p.ks[i].m∧U.cell? ⟨b4,off4+i*6+4,none⟩=p.ks[i].va∧U.cell? ⟨b4,off4+i*6+5,none⟩=some (.slice A7 p.ks[i].ks.length cap7)):=fun U U' h hUU hU=>⟨(hUU.cell (zz9 (hb6) hU)).trans h.1,(hUU.cell (zz9 (hb6) hU)).trans h.2.1,(hUU.cell (zz9 (klt2) hU)).trans h.2.2.1,(hUU.cell (zz9 (hb7) hU)).trans h.2.2.2.1,(hUU.cell (zz9 (hb7) hU)).trans h.2.2.2.2.1,(hUU.cell (zz9 (hb7) hU)).trans h.2.2.2.2.2.1,(hUU.cell (zz9 (hb7) hU)).trans h.2.2.2.2.2.2.1,(hUU.cell (zz9 (hb7) hU)).trans h.2.2.2.2.2.2.2.1,(hUU.cell (zz9 (hb7) hU)).trans h.2.2.2.2.2.2.2.2⟩
    have HKeep:=jj hkeep
    clear hkeep
    go_region_held3 (fun w'=>w'.cell? ⟨b6,off6+i*2,none⟩=ls[i].d∧w'.cell? ⟨b6,off6+i*2+1,none⟩=ls[i].i∧w'.cell? ⟨w.heap.size+1,5,none⟩=some (.slice (some ⟨b4,off4,none⟩) p.ks.length cap4)∧w'.cell? ⟨b4,off4+i*6,none⟩=p.ks[i].op∧w'.cell? ⟨b4,off4+i*6+1,none⟩=p.ks[i].ct∧w'.cell? ⟨b4,off4+i*6+2,none⟩=p.ks[i].n∧w'.cell? ⟨b4,off4+i*6+3,none⟩=p.ks[i].m∧w'.cell? ⟨b4,off4+i*6+4,none⟩=p.ks[i].va∧w'.cell? ⟨b4,off4+i*6+5,none⟩=some (.slice A7 p.ks[i].ks.length cap7)) (first | assumption | (exact ⟨a0,a1,z5,k0,k1,k2,k3,k4,k5⟩) | (exact HKeep.out wr.drew w' ⟨a0,a1,z5,k0,k1,k2,k3,k4,k5⟩ hB' (zz8 _))) (first | (go_at_call 34;((with_reducible refine HCALL.out.mono ?_);rintro e w' ⟨rfl,hB'⟩;rw [HZ.out])))
    have hB3:=hB.drew.trans (hB'.mono hB.size)
    have HB3:=jj (HB6.out.drew.trans (hB'.mono HB6.out.size))
    have KV3:=jj (KV.out.same (hB'.block _ KV.out.lt))
    clear HKeep
    go_wp2
    go_roundw
    case rel=>exact ⟨i+1,_,by omega,by go_num,rfl,HST,KV3,hB3,HB3⟩
    case measure=>(simp [intOf] <;> omega))
  ·have hte:=HR.out
   rw [List.drop_of_length_le (by omega),show ∀ l,List.zipWith (pT xs d) [] l=[] from fun l=>by cases l <;> rfl,lst,List.nil_append] at hte
   have HTE:=jj hte
   clear hte
   have c1:out.size+1≤9223372036854775807:=by omega
   have c2:¬9223372036854775807<out.size+1:=by omega
   by_cases hp:0<ls.length
   ·have t5:decide ((ls.length:Int)>0)=true:=decide_eq_true (by omega)
    have t6:decide (0<ls.length)=true:=decide_eq_true hp
    have hf:Hid (bs T=out ++ ⟨#[41]⟩):=by
     unfold Hid;rw [HTE.out,closeL,if_pos hp,←bs_append,bs_tl];rfl
    go_wp2
    go_ret
    exact ⟨zAF hf.out.symm,hB⟩
   ·have t5:decide ((ls.length:Int)>0)=false:=decide_eq_false (by omega)
    have t6:decide (0<ls.length)=false:=decide_eq_false hp
    have hf:Hid (bs T=out):=by
     unfold Hid;rw [HTE.out,closeL,if_neg hp,List.append_nil,bs_tl]
    go_wp2
    go_ret
    exact ⟨zAF hf.out.symm,hB⟩
theorem spec_l3Text_of (p:P) (ih:∀ k∈p.ks,TxtPS k):TxtPS p:=by
 intro xs hw d hd t ht hsh
 cases d with
 |zero=>rw [shapeB] at hsh;cases hsh
 |succ d =>
  obtain ⟨ho,-,-⟩:=zAC hsh
  rcases ops_of ho with h | h | h | h | h | h
  ·exact l3Text_1 p ih h xs hw (d+1) hd t ht hsh
  ·exact l3Text_2 p ih h xs hw (d+1) hd t ht hsh
  ·exact l3Text_3 p ih h xs hw (d+1) hd t ht hsh
  ·exact l3Text_4 p ih h xs hw (d+1) hd t ht hsh
  ·exact l3Text_5 p ih h xs hw (d+1) hd t ht hsh
  ·exact l3Text_6 p ih h xs hw (d+1) hd t ht hsh
theorem spec_l3Text:∀ p,TxtPS p:=P.indv spec_l3Text_of
theorem spec_FormatPattern (xs:List Dt) (t:Ty) (p:P) (hz:p.size≤1048576) (w:World) (x:Value) (F:List Nat) (cs:List Value) (G:List Nat) (hx:Arr w (DtR w) xs x F) (hf:Under w F) (hv:PR w p cs G) (hg:Under w G) :
  Calls Tryz.prog 9 #[x,.agg #[t.d,t.i],.agg cs.toArray] w fun e w'=>e=.returned (.string (fmtP xs t p))∧Below w w w':=by
 obtain ⟨kv,rfl,ha⟩:=(zA3 _ _ _).1 hv
 obtain ⟨A,cap,rfl,hc1,hc2⟩:=hx.form
 obtain ⟨A4,cap4,rfl,hc3,hc4⟩:=ha.form
 have HX:=jj hx
 have HF:=jj hf
 have HV:=jj hv
 have HG:=jj hg
 clear hx hf hv hg
 clear ha
 have hB0:Below w w ((w.alloc (.cells #[t.d,t.i] 25)).alloc (.cells #[p.op,p.ct,p.n,p.m,p.va,.slice A4 p.ks.length cap4] 28)):=((zy2 _ _).alloc (zz8 _) _).alloc (by simp) _
 have KT:Hid (Blk ((w.alloc (.cells #[t.d,t.i] 25)).alloc (.cells #[p.op,p.ct,p.n,p.m,p.va,.slice A4 p.ks.length cap4] 28)) w.heap.size 25 #[t.d,t.i]):=(Blk.new w _ _).same (Below.heap_alloc _ _ _ (by simp))
 have KV:Hid (Blk ((w.alloc (.cells #[t.d,t.i] 25)).alloc (.cells #[p.op,p.ct,p.n,p.m,p.va,.slice A4 p.ks.length cap4] 28)) (w.heap.size+1) 28 #[p.op,p.ct,p.n,p.m,p.va,.slice A4 p.ks.length cap4]):=by have h:=Blk.new (w.alloc (.cells #[t.d,t.i] 25)) 28 #[p.op,p.ct,p.n,p.m,p.va,.slice A4 p.ks.length cap4];rw [World.size_alloc] at h;exact h
 go_enter Tryz.func9,Tryz.ntmps9
 go_wp2_with fail
 obtain ⟨W2,hW2⟩:∃ W2,W2=((w.alloc (.cells #[t.d,t.i] 25)).alloc (.cells #[p.op,p.ct,p.n,p.m,p.va,.slice A4 p.ks.length cap4] 28)):=⟨_,rfl⟩
 rw [←hW2] at hB0 KT KV ⊢
 clear hW2
 refine (spec_PatternValid xs t p hz W2 _ F _ G (ArrDt.below HX.out hB0 HF.out) (HF.out.mono hB0.size) (HV.out.below hB0 HG.out) (HG.out.mono hB0.size)).mono ?_
 rintro e w1 ⟨rfl,hb1⟩
 have hB1:=hB0.trans (hb1.mono hB0.size)
 have KT1:=jj (KT.out.same (hb1.block _ KT.out.lt))
 have KV1:=jj (KV.out.same (hb1.block _ KV.out.lt))
 obtain ⟨y0,y1,klt⟩:=KT1.out.c2
 obtain ⟨z0,z1,z2,z3,z4,z5,klt2⟩:=KV1.out.c6
 cases q0:patternValidB xs t p with
 |false =>
  have hf:Hid (fmtP xs t p=⟨#[]⟩):=if_neg (by simp [q0])
  clear q0
  go_wp2
  go_ret
  exact ⟨zAF hf.out.symm,hB1⟩
 |true =>
  have hf:Hid (fmtP xs t p=bs (pT xs 10 t p)):=if_pos q0
  obtain ⟨h1,h2,h3,h4⟩:=patValid_split q0
  have H1:=jj h1
  have H2:=jj h2
  have H3:=jj h3
  have H4:=jj h4
  clear h1 h2 h3 h4
  clear q0
  go_wp2_with fail
  refine (spec_l3Text p xs H1.out 10 (zz8 _) t H2.out H3.out H4.out w1 _ F _ G (ArrDt.below HX.out hB1 HF.out) (HF.out.mono hB1.size) (HV.out.below hB1 HG.out) (HG.out.mono hB1.size)).mono ?_
  rintro e w2 ⟨rfl,hb2⟩
  have hB2:=hB1.trans (hb2.mono hB1.size)
  go_wp2
  go_ret
  exact ⟨zAF hf.out.symm,hB2⟩
def onlyB (p:P) (c n v:Bool) (k:Int):Bool:=(c || p.ct==0) && ((n || (p.n==0 && p.m==0)) && ((v || p.va==0) && ((p.ks.length:Int)==k)))
theorem impl_only (p:P) (A4:Option Addr) (cap4:Nat) (c n v:Bool) (k:Int) (w:World) :
  Calls Tryz.prog 163 #[.agg #[p.op,p.ct,p.n,p.m,p.va,.slice A4 p.ks.length cap4],.bool c,.bool n,.bool v,.int .i64 k] w fun e w'=>e=.returned (.bool (onlyB p c n v k))∧Below w w w':=by
 have HB:Hid (Below w w (w.alloc (.cells #[p.op,p.ct,p.n,p.m,p.va,.slice A4 p.ks.length cap4] 28))):=(zy2 _ _).alloc (zz8 _) _
 cases c with
 |false =>
  cases n with
  |false =>
   cases v with
   |false =>
    cases q1:(p.ct==0) with
    |false =>
     have hf:Hid (onlyB p false false false k=false):=by unfold Hid onlyB;rw [q1];rfl
     go_enter Tryz.func163,Tryz.ntmps163
     go_wp2
     go_ret
     exact ⟨zA0 hf.out.symm,HB.out⟩
    |true =>
     cases q2:(p.n==0) with
     |false =>
      have hf:Hid (onlyB p false false false k=false):=by unfold Hid onlyB;rw [q1,q2];rfl
      go_enter Tryz.func163,Tryz.ntmps163
      go_wp2
      go_ret
      exact ⟨zA0 hf.out.symm,HB.out⟩
     |true =>
      cases q3:(p.m==0) with
      |false =>
       have hf:Hid (onlyB p false false false k=false):=by unfold Hid onlyB;rw [q1,q2,q3];rfl
       go_enter Tryz.func163,Tryz.ntmps163
       go_wp2
       go_ret
       exact ⟨zA0 hf.out.symm,HB.out⟩
      |true =>
       cases q4:(p.va==0) with
       |false =>
        have hf:Hid (onlyB p false false false k=false):=by unfold Hid onlyB;rw [q1,q2,q3,q4];rfl
        go_enter Tryz.func163,Tryz.ntmps163
        go_wp2
        go_ret
        exact ⟨zA0 hf.out.symm,HB.out⟩
       |true =>
        have hf:Hid (onlyB p false false false k=((p.ks.length:Int)==k)):=by unfold Hid onlyB;rw [q1,q2,q3,q4];rfl
        go_enter Tryz.func163,Tryz.ntmps163
        go_wp2
        go_ret
        exact ⟨zA0 hf.out.symm,HB.out⟩
   |true =>
    cases q1:(p.ct==0) with
    |false =>
     have hf:Hid (onlyB p false false true k=false):=by unfold Hid onlyB;rw [q1];rfl
     go_enter Tryz.func163,Tryz.ntmps163
     go_wp2
     go_ret
     exact ⟨zA0 hf.out.symm,HB.out⟩
    |true =>
     cases q2:(p.n==0) with
     |false =>
      have hf:Hid (onlyB p false false true k=false):=by unfold Hid onlyB;rw [q1,q2];rfl
      go_enter Tryz.func163,Tryz.ntmps163
      go_wp2
      go_ret
      exact ⟨zA0 hf.out.symm,HB.out⟩
     |true =>
      cases q3:(p.m==0) with
      |false =>
       have hf:Hid (onlyB p false false true k=false):=by unfold Hid onlyB;rw [q1,q2,q3];rfl
       go_enter Tryz.func163,Tryz.ntmps163
       go_wp2
       go_ret
       exact ⟨zA0 hf.out.symm,HB.out⟩
      |true =>
       have hf:Hid (onlyB p false false true k=((p.ks.length:Int)==k)):=by unfold Hid onlyB;rw [q1,q2,q3];rfl
       go_enter Tryz.func163,Tryz.ntmps163
       go_wp2
       go_ret
       exact ⟨zA0 hf.out.symm,HB.out⟩
  |true =>
   cases v with
   |false =>
    cases q1:(p.ct==0) with
    |false =>
     have hf:Hid (onlyB p false true false k=false):=by unfold Hid onlyB;rw [q1];rfl
     go_enter Tryz.func163,Tryz.ntmps163
     go_wp2
     go_ret
     exact ⟨zA0 hf.out.symm,HB.out⟩
    |true =>
     cases q4:(p.va==0) with
     |false =>
      have hf:Hid (onlyB p false true false k=false):=by unfold Hid onlyB;rw [q1,q4];rfl
      go_enter Tryz.func163,Tryz.ntmps163
      go_wp2
      go_ret
      exact ⟨zA0 hf.out.symm,HB.out⟩
     |true =>
      have hf:Hid (onlyB p false true false k=((p.ks.length:Int)==k)):=by unfold Hid onlyB;rw [q1,q4];rfl
      go_enter Tryz.func163,Tryz.ntmps163
      go_wp2
      go_ret
      exact ⟨zA0 hf.out.symm,HB.out⟩
   |true =>
    cases q1:(p.ct==0) with
    |false =>
     have hf:Hid (onlyB p false true true k=false):=by unfold Hid onlyB;rw [q1];rfl
     go_enter Tryz.func163,Tryz.ntmps163
     go_wp2
     go_ret
     exact ⟨zA0 hf.out.symm,HB.out⟩
    |true =>
     have hf:Hid (onlyB p false true true k=((p.ks.length:Int)==k)):=by unfold Hid onlyB;rw [q1];rfl
     go_enter Tryz.func163,Tryz.ntmps163
     go_wp2
     go_ret
     exact ⟨zA0 hf.out.symm,HB.out⟩
 |true =>
  cases n with
  |false =>
   cases v with
   |false =>
    cases q2:(p.n==0) with
    |false =>
     have hf:Hid (onlyB p true false false k=false):=by unfold Hid onlyB;rw [q2];rfl
     go_enter Tryz.func163,Tryz.ntmps163
     go_wp2
     go_ret
     exact ⟨zA0 hf.out.symm,HB.out⟩
    |true =>
     cases q3:(p.m==0) with
     |false =>
      have hf:Hid (onlyB p true false false k=false):=by unfold Hid onlyB;rw [q2,q3];rfl
      go_enter Tryz.func163,Tryz.ntmps163
      go_wp2
      go_ret
      exact ⟨zA0 hf.out.symm,HB.out⟩
     |true =>
      cases q4:(p.va==0) with
      |false =>
       have hf:Hid (onlyB p true false false k=false):=by unfold Hid onlyB;rw [q2,q3,q4];rfl
       go_enter Tryz.func163,Tryz.ntmps163
       go_wp2
       go_ret
       exact ⟨zA0 hf.out.symm,HB.out⟩
      |true =>
       have hf:Hid (onlyB p true false false k=((p.ks.length:Int)==k)):=by unfold Hid onlyB;rw [q2,q3,q4];rfl
       go_enter Tryz.func163,Tryz.ntmps163
       go_wp2
       go_ret
       exact ⟨zA0 hf.out.symm,HB.out⟩
   |true =>
    cases q2:(p.n==0) with
    |false =>
     have hf:Hid (onlyB p true false true k=false):=by unfold Hid onlyB;rw [q2];rfl
     go_enter Tryz.func163,Tryz.ntmps163
     go_wp2
     go_ret
     exact ⟨zA0 hf.out.symm,HB.out⟩
    |true =>
     cases q3:(p.m==0) with
     |false =>
      have hf:Hid (onlyB p true false true k=false):=by unfold Hid onlyB;rw [q2,q3];rfl
      go_enter Tryz.func163,Tryz.ntmps163
      go_wp2
      go_ret
      exact ⟨zA0 hf.out.symm,HB.out⟩
     |true =>
      have hf:Hid (onlyB p true false true k=((p.ks.length:Int)==k)):=by unfold Hid onlyB;rw [q2,q3];rfl
      go_enter Tryz.func163,Tryz.ntmps163
      go_wp2
      go_ret
      exact ⟨zA0 hf.out.symm,HB.out⟩
  |true =>
   cases v with
   |false =>
    cases q4:(p.va==0) with
    |false =>
     have hf:Hid (onlyB p true true false k=false):=by unfold Hid onlyB;rw [q4];rfl
     go_enter Tryz.func163,Tryz.ntmps163
     go_wp2
     go_ret
     exact ⟨zA0 hf.out.symm,HB.out⟩
    |true =>
     have hf:Hid (onlyB p true true false k=((p.ks.length:Int)==k)):=by unfold Hid onlyB;rw [q4];rfl
     go_enter Tryz.func163,Tryz.ntmps163
     go_wp2
     go_ret
     exact ⟨zA0 hf.out.symm,HB.out⟩
   |true =>
    have hf:Hid (onlyB p true true true k=((p.ks.length:Int)==k)):=by unfold Hid onlyB;rfl
    go_enter Tryz.func163,Tryz.ntmps163
    go_wp2
    go_ret
    exact ⟨zA0 hf.out.symm,HB.out⟩
theorem impl_isVar (n:Int) (w:World):Calls Tryz.prog 164 #[.int .i64 n] w fun e w'=>e=.returned (.bool (withinB n 0 5))∧w'=w:=by
 go_enter Tryz.func164,Tryz.ntmps164
 go_wp2_with fail
 refine (zAO n 0 5 w).mono ?_
 rintro e w' ⟨rfl,hw'⟩
 generalize hq:withinB n 0 5=q
 have HQ:=jj hq
 clear hq
 go_wp2
 go_ret
 exact ⟨zA0 HQ.out.symm,hw'.symm⟩
theorem arr_tys1 {w:World} {g:Nat} {T:TypeId} {t:Ty} (h:Blk w g T #[t.d,t.i]):Arr w (TyR w) [t] (.slice (some ⟨g,0,none⟩) 1 1) [g] :=
 ⟨_,1,rfl,zz8 _,by simp [maxLen],.inr ⟨g,0,[t.d,t.i],[],rfl,fun j u hj=>by rw [Nat.zero_add,h.cell];simpa using hj,⟨[t.d,t.i],[],[],[],rfl,rfl,⟨rfl,rfl⟩,rfl,rfl⟩,rfl⟩⟩
theorem arr_tys2 {w:World} {g:Nat} {T:TypeId} {t:Ty} (h:Blk w g T #[t.d,t.i,t.d,t.i]):Arr w (TyR w) [t,t] (.slice (some ⟨g,0,none⟩) 2 2) [g] :=
 ⟨_,2,rfl,zz8 _,by simp [maxLen],.inr ⟨g,0,[t.d,t.i,t.d,t.i],[],rfl,fun j u hj=>by rw [Nat.zero_add,h.cell];simpa using hj,⟨[t.d,t.i],[t.d,t.i],[],[],rfl,rfl,⟨rfl,rfl⟩,⟨[t.d,t.i],[],[],[],rfl,rfl,⟨rfl,rfl⟩,rfl,rfl⟩⟩,rfl⟩⟩
theorem node_len {xs:List Dt} {t:Ty} {p:P} (h:¬p.op=4):(typesP xs t p).length=kidsN p.op:=by rw [typesP_no h,repTo_len]
theorem nodeB_1 {xs:List Dt} {t:Ty} {p:P} (h:p.op=1):nodeB xs t p=(onlyB p false false false 0):=by
 unfold nodeB ownB namedB kindB onlyB
 rw [node_len (by omega),h]
 unfold kidsN
 rw [Bool.eq_iff_iff]
 simp [zAY] <;> first | omega | (constructor <;> intro h <;> (try simp_all) <;> (try omega))
theorem nodeB_2 {xs:List Dt} {t:Ty} {p:P} (h:p.op=2):nodeB xs t p=(onlyB p false false true 0 && withinB p.va 0 5):=by
 unfold nodeB ownB namedB kindB onlyB
 rw [node_len (by omega),h]
 unfold kidsN
 rw [Bool.eq_iff_iff]
 simp [zAY] <;> first | omega | (constructor <;> intro h <;> (try simp_all) <;> (try omega))
theorem nodeB_3 {xs:List Dt} {t:Ty} {p:P} (h:p.op=3):nodeB xs t p=(t.d == -1 && (onlyB p false true false 0 && (decide (0≤p.n) && (decide (p.n≤p.m) && decide (p.m≤9))))):=by
 unfold nodeB ownB namedB kindB onlyB
 rw [node_len (by omega),h]
 unfold kidsN
 rw [Bool.eq_iff_iff]
 simp [zAY] <;> first | omega | (constructor <;> intro h <;> (try simp_all) <;> (try omega))
theorem nodeB_5 {xs:List Dt} {t:Ty} {p:P} (h:p.op=5):nodeB xs t p=(onlyB p false false false 2):=by
 unfold nodeB ownB namedB kindB onlyB
 rw [node_len (by omega),h]
 unfold kidsN
 rw [Bool.eq_iff_iff]
 simp [zAY] <;> first | omega | (constructor <;> intro h <;> (try simp_all) <;> (try omega))
theorem nodeB_6 {xs:List Dt} {t:Ty} {p:P} (h:p.op=6):nodeB xs t p=(onlyB p false false true 1 && withinB p.va 0 5):=by
 unfold nodeB ownB namedB kindB onlyB
 rw [node_len (by omega),h]
 unfold kidsN
 rw [Bool.eq_iff_iff]
 simp [zAY] <;> first | omega | (constructor <;> intro h <;> (try simp_all) <;> (try omega))
theorem nodeB_4 {xs:List Dt} {t:Ty} {p:P} (h:p.op=4):nodeB xs t p=(hasB (ctorsL xs t) p.ct && onlyB p true false false ((argsOf xs t p.ct).length:Nat)):=by
 unfold nodeB ownB namedB kindB onlyB typesP
 rw [h]
 rw [Bool.eq_iff_iff]
 simp <;> first | omega | (constructor <;> intro h <;> (try simp_all) <;> (try omega))
theorem nodeB_no {xs:List Dt} {t:Ty} {p:P} (h1:¬p.op=1) (h2:¬p.op=2) (h3:¬p.op=3) (h4:¬p.op=4) (h5:¬p.op=5) (h6:¬p.op=6):nodeB xs t p=false:=by
 unfold nodeB ownB kindB
 simp [h1,h2,h3,h4,h5,h6]
theorem shape_endA {w W2 w3:World} {T:TypeId} {C:Array Value} (hB0:Below w w W2) (hws2:W2.heap.size=w.heap.size+1+1) (hb3:Below (W2.drew.alloc (.cells C T)).heap.size (W2.drew.alloc (.cells C T)) w3) :
  Below w w w3∧Fresh w w3 [w.heap.size+1+1]∧Blk w3 (w.heap.size+1+1) T C:=by
 have hd:W2.drew.heap.size=w.heap.size+1+1:=hws2
 have hsz:(W2.drew.alloc (.cells C T)).heap.size=w.heap.size+1+1+1:=by rw [World.size_alloc,hd]
 have h1:=Blk.new W2.drew T C
 rw [hd] at h1
 have h3:=hb3.size
 refine ⟨(hB0.drew.alloc (by omega) _).trans (hb3.mono (by omega)),fun b hb=>?_,h1.same (hb3.block _ (by omega))⟩
 rw [zy1] at hb
 omega
theorem shape_endB {w W2 w3:World} (hB0:Below w w W2) (hb3:Below W2.drew.heap.size W2.drew w3) (o:Obj) :
  Below w w (w3.alloc o)∧Fresh w (w3.alloc o) [w3.heap.size]:=by
 have h3:W2.heap.size≤w3.heap.size:=hb3.size
 have h0:=hB0.size
 refine ⟨(hB0.drew.trans (hb3.mono hB0.size)).alloc (by omega) _,fun b hb=>?_⟩
 rw [zy1] at hb
 rw [World.size_alloc]
 omega
def ShapePost (xs:List Dt) (t:Ty) (p:P) (w:World) (e:Ending) (w':World):Prop:=∃ v F,e=.returned (.tuple #[v,.bool (nodeB xs t p)])∧Below w w w'∧Fresh w w' F∧(nodeB xs t p=true→Arr w' (TyR w') (typesP xs t p) v F)
theorem shape_1 (xs:List Dt) (hw:WorldOK xs) (t:Ty) (ht:TyIn xs.length t) (p:P) (h1:p.op=1) (w:World) (x:Value) (F:List Nat) (cs:List Value) (G:List Nat):Arr w (DtR w) xs x F→Under w F→PR w p cs G→Under w G →
  Calls Tryz.prog 129 #[x,.agg #[t.d,t.i],.agg cs.toArray] w (ShapePost xs t p w):=by
 intro hx hf hv hg
 obtain ⟨kv,rfl,ha⟩:=(zA3 _ _ _).1 hv
 obtain ⟨A,cap,rfl,hc1,hc2⟩:=hx.form
 obtain ⟨A4,cap4,rfl,hc3,hc4⟩:=ha.form
 have HV:=jj hv
 have HX:=jj hx
 have HF:=jj hf
 have HA:=jj ha
 have HG:=jj hg
 clear hx hf ha hg
 clear hv
 have HW:=jj hw
 have HT:=jj ht
 clear hw ht
 have o1:(p.op==1)=true:=by simp [h1]
 have HNB:=jj (nodeB_1 (xs:=xs) (t:=t) h1)
 have HTY:=jj (show typesP xs t p=[] from by rw [typesP_no (by omega),h1];rfl)
 clear h1
 go_enter Tryz.func129,Tryz.ntmps129
 go_wp2_with fail
 obtain ⟨W2,hW2⟩:∃ W2,W2=((w.alloc (.cells #[t.d,t.i] 25)).alloc (.cells #[p.op,p.ct,p.n,p.m,p.va,.slice A4 p.ks.length cap4] 28)):=⟨_,rfl⟩
 have hB0:Below w w W2:=by rw [hW2];exact ((zy2 _ _).alloc (zz8 _) _).alloc (by simp) _
 have KT:Hid (Blk W2 w 25 #[t.d,t.i]):=by rw [hW2];exact (Blk.new w _ _).same (Below.heap_alloc _ _ _ (by simp))
 have KP:Hid (Blk W2 (w.heap.size+1) 28 #[p.op,p.ct,p.n,p.m,p.va,.slice A4 p.ks.length cap4]):=by rw [hW2];have h:=Blk.new (w.alloc (.cells #[t.d,t.i] 25)) 28 #[p.op,p.ct,p.n,p.m,p.va,.slice A4 p.ks.length cap4];rw [World.size_alloc] at h;exact h
 have hws:w.heap.size+2≤W2.heap.size:=by rw [hW2];simp
 have hws2:W2.heap.size=w.heap.size+1+1:=by rw [hW2];simp
 rw [←hW2]
 clear hW2
 obtain ⟨y0,y1,klt⟩:=KT.out.c2
 obtain ⟨z0,z1,z2,z3,z4,z5,klt2⟩:=KP.out.c6
 refine (impl_only p A4 cap4 false false false 0 _).mono ?_
 rintro e w3 ⟨rfl,hb3⟩
 have hB3:=hB0.trans (hb3.mono hB0.size)
 generalize hbb:onlyB p false false false 0=bb at *
 clear hbb
 have HFin:Hid (ShapePost xs t p w (.returned (.tuple #[.slice none 0 0,.bool bb])) w3):=⟨_,[],by rw [HNB.out] <;> rfl,hB3,Fresh.nil _ _,fun _=>by rw [HTY.out];exact Arr.nil⟩
 clear y0 y1 z0 z1 z2 z3 z4 z5 klt klt2
 clear hb3 KT KP hB0
 go_wp2
 go_ret2
 exact HFin.out
theorem shape_2 (xs:List Dt) (hw:WorldOK xs) (t:Ty) (ht:TyIn xs.length t) (p:P) (h2:p.op=2) (w:World) (x:Value) (F:List Nat) (cs:List Value) (G:List Nat):Arr w (DtR w) xs x F→Under w F→PR w p cs G→Under w G →
  Calls Tryz.prog 129 #[x,.agg #[t.d,t.i],.agg cs.toArray] w (ShapePost xs t p w):=by
 intro hx hf hv hg
 obtain ⟨kv,rfl,ha⟩:=(zA3 _ _ _).1 hv
 obtain ⟨A,cap,rfl,hc1,hc2⟩:=hx.form
 obtain ⟨A4,cap4,rfl,hc3,hc4⟩:=ha.form
 have HV:=jj hv
 have HX:=jj hx
 have HF:=jj hf
 have HA:=jj ha
 have HG:=jj hg
 clear hx hf ha hg
 clear hv
 have HW:=jj hw
 have HT:=jj ht
 clear hw ht
 have o1:(p.op==1)=false:=by simp [h2]
 have o2:(p.op==2)=true:=by simp [h2]
 have HNB:=jj (nodeB_2 (xs:=xs) (t:=t) h2)
 have HTY:=jj (show typesP xs t p=[] from by rw [typesP_no (by omega),h2];rfl)
 clear h2
 go_enter Tryz.func129,Tryz.ntmps129
 go_wp2_with fail
 obtain ⟨W2,hW2⟩:∃ W2,W2=((w.alloc (.cells #[t.d,t.i] 25)).alloc (.cells #[p.op,p.ct,p.n,p.m,p.va,.slice A4 p.ks.length cap4] 28)):=⟨_,rfl⟩
 have hB0:Below w w W2:=by rw [hW2];exact ((zy2 _ _).alloc (zz8 _) _).alloc (by simp) _
 have KT:Hid (Blk W2 w 25 #[t.d,t.i]):=by rw [hW2];exact (Blk.new w _ _).same (Below.heap_alloc _ _ _ (by simp))
 have KP:Hid (Blk W2 (w.heap.size+1) 28 #[p.op,p.ct,p.n,p.m,p.va,.slice A4 p.ks.length cap4]):=by rw [hW2];have h:=Blk.new (w.alloc (.cells #[t.d,t.i] 25)) 28 #[p.op,p.ct,p.n,p.m,p.va,.slice A4 p.ks.length cap4];rw [World.size_alloc] at h;exact h
 have hws:w.heap.size+2≤W2.heap.size:=by rw [hW2];simp
 have hws2:W2.heap.size=w.heap.size+1+1:=by rw [hW2];simp
 rw [←hW2]
 clear hW2
 obtain ⟨y0,y1,klt⟩:=KT.out.c2
 obtain ⟨z0,z1,z2,z3,z4,z5,klt2⟩:=KP.out.c6
 refine (impl_only p A4 cap4 false false true 0 _).mono ?_
 rintro e w3 ⟨rfl,hb3⟩
 have hB3:=hB0.trans (hb3.mono hB0.size)
 have KT3:=jj (KT.out.same (hb3.block _ KT.out.lt))
 have KP3:=jj (KP.out.same (hb3.block _ KP.out.lt))
 clear y0 y1 z0 z1 z2 z3 z4 z5 klt klt2
 clear hb3 KT KP hB0
 obtain ⟨-,-,-,-,z4,-,klt2⟩:=KP3.out.c6
 cases e2:onlyB p false false true 0 with
 |false =>
  have HFin:Hid (ShapePost xs t p w (.returned (.tuple #[.slice none 0 0,.bool false])) w3):=⟨_,[],by rw [HNB.out,e2] <;> rfl,hB3,Fresh.nil _ _,fun _=>by rw [HTY.out];exact Arr.nil⟩
  clear e2
  go_wp2
  go_ret2
  exact HFin.out
 |true =>
  have HE2:=jj e2
  clear e2
  go_wp2_with fail
  refine (impl_isVar p.va w3).mono ?_
  rintro e w4 ⟨rfl,hw4⟩
  rw [hw4]
  clear hw4 w4
  generalize hbb:withinB p.va 0 5=bb at *
  clear hbb
  have HFin:Hid (ShapePost xs t p w (.returned (.tuple #[.slice none 0 0,.bool bb])) w3):=⟨_,[],by rw [HNB.out,HE2.out,Bool.true_and] <;> rfl,hB3,Fresh.nil _ _,fun _=>by rw [HTY.out];exact Arr.nil⟩
  clear z4 klt2
  go_wp2
  go_ret2
  exact HFin.out
theorem shape_4 (xs:List Dt) (hw:WorldOK xs) (t:Ty) (ht:TyIn xs.length t) (p:P) (h4:p.op=4) (w:World) (x:Value) (F:List Nat) (cs:List Value) (G:List Nat):Arr w (DtR w) xs x F→Under w F→PR w p cs G→Under w G →
  Calls Tryz.prog 129 #[x,.agg #[t.d,t.i],.agg cs.toArray] w (ShapePost xs t p w):=by
 intro hx hf hv hg
 obtain ⟨kv,rfl,ha⟩:=(zA3 _ _ _).1 hv
 obtain ⟨A,cap,rfl,hc1,hc2⟩:=hx.form
 obtain ⟨A4,cap4,rfl,hc3,hc4⟩:=ha.form
 have HV:=jj hv
 have HX:=jj hx
 have HF:=jj hf
 have HA:=jj ha
 have HG:=jj hg
 clear hx hf ha hg
 clear hv
 have HW:=jj hw
 have HT:=jj ht
 clear hw ht
 have o1:(p.op==1)=false:=by simp [h4]
 have o2:(p.op==2)=false:=by simp [h4]
 have o3:(p.op==3)=false:=by simp [h4]
 have o4:(p.op==4)=true:=by simp [h4]
 have HNB:=jj (nodeB_4 (xs:=xs) (t:=t) h4)
 clear h4
 have H4:=jj (show p.op=4 from by simpa using o4)
 go_enter Tryz.func129,Tryz.ntmps129
 go_wp2_with fail
 obtain ⟨W2,hW2⟩:∃ W2,W2=((w.alloc (.cells #[t.d,t.i] 25)).alloc (.cells #[p.op,p.ct,p.n,p.m,p.va,.slice A4 p.ks.length cap4] 28)):=⟨_,rfl⟩
 have hB0:Below w w W2:=by rw [hW2];exact ((zy2 _ _).alloc (zz8 _) _).alloc (by simp) _
 have KT:Hid (Blk W2 w 25 #[t.d,t.i]):=by rw [hW2];exact (Blk.new w _ _).same (Below.heap_alloc _ _ _ (by simp))
 have KP:Hid (Blk W2 (w.heap.size+1) 28 #[p.op,p.ct,p.n,p.m,p.va,.slice A4 p.ks.length cap4]):=by rw [hW2];have h:=Blk.new (w.alloc (.cells #[t.d,t.i] 25)) 28 #[p.op,p.ct,p.n,p.m,p.va,.slice A4 p.ks.length cap4];rw [World.size_alloc] at h;exact h
 have hws:w.heap.size+2≤W2.heap.size:=by rw [hW2];simp
 have hws2:W2.heap.size=w.heap.size+1+1:=by rw [hW2];simp
 rw [←hW2]
 clear hW2
 obtain ⟨y0,y1,klt⟩:=KT.out.c2
 obtain ⟨z0,z1,z2,z3,z4,z5,klt2⟩:=KP.out.c6
 have hkeep:Kp W2.heap.size (fun U=>U.cell? ⟨w,0,none⟩=t.d∧U.cell? ⟨w,1,none⟩=t.i∧U.cell? ⟨w.heap.size+1,1,none⟩=p.ct):=fun U U' h hUU hU=>⟨(hUU.cell (zz9 (klt) hU)).trans h.1,(hUU.cell (zz9 (klt) hU)).trans h.2.1,(hUU.cell (zz9 (klt2) hU)).trans h.2.2⟩
 have HKeep:=jj hkeep
 clear hkeep
 go_region_held3 (fun w'=>w'.cell? ⟨w,0,none⟩=t.d∧w'.cell? ⟨w,1,none⟩=t.i∧w'.cell? ⟨w.heap.size+1,1,none⟩=p.ct) (first | assumption | (exact ⟨y0,y1,z1⟩) | (exact HKeep.out W2.drew w4 ⟨y0,y1,z1⟩ hb4 (zz8 _)) | (exact HKeep.out w4 w5 (by assumption) hb5 hlew4)) (first | (go_at_call 115;((with_reducible refine (impl_ctorsOf xs t _ _ F (ArrDt.below HX.out hB0.drew HF.out) (HF.out.mono hB0.drew.size) HW.out HT.out.inWorld).mono ?_);rintro e w4 ⟨v4,F4,rfl,hb4,ha4,-,hfs4⟩);have hlew4:W2.heap.size≤w4.heap.size:=hb4.size) | (go_at_call 156;((with_reducible refine (impl_has (ctorsL xs t) p.ct _ _ F4 ha4 hfs4.under).mono ?_);rintro e w5 ⟨rfl,hb5⟩)))
 have hBa:=hB0.drew.trans (hb4.mono hB0.drew.size)
 have hB5:=hBa.trans (hb5.mono hBa.size)
 have KT5:=jj ((KT.out.same (hb4.block _ KT.out.lt)).same (hb5.block _ (KT.out.same (hb4.block _ KT.out.lt)).lt))
 have KP5:=jj ((KP.out.same (hb4.block _ KP.out.lt)).same (hb5.block _ (KP.out.same (hb4.block _ KP.out.lt)).lt))
 clear y0 y1 z0 z1 z2 z3 z4 z5 klt klt2
 clear HKeep ha4 hfs4 hb4 hb5 hBa hB0 KT KP
 cases e1:hasB (ctorsL xs t) p.ct with
 |false =>
  have HFin:Hid (ShapePost xs t p w (.returned (.tuple #[.slice none 0 0,.bool false])) w5):=⟨_,[],by rw [HNB.out,e1];rfl,hB5,Fresh.nil _ _,fun h=>by rw [HNB.out,e1] at h;cases h⟩
  clear e1
  go_wp2
  go_ret2
  exact HFin.out
 |true =>
  obtain ⟨q,k,e2,hvc,hq',hkl⟩:=zBE (xs:=xs) (t:=t) HT.out.inWorld ((hasB_iff _ _).1 e1)
  have hty:argsOf xs t p.ct=argsL xs[q].ctors[k] t.i:=by
   rw [hvc]
   obtain ⟨td,ti⟩:=t
   simp only at e2
   subst e2
   exact zBI hq' hkl
  have hnb:=HNB.out
  rw [e1,Bool.true_and,hty] at hnb
  have HNB2:=jj hnb
  have HTY:Hid (typesP xs t p=argsL xs[q].ctors[k] t.i):=by unfold Hid typesP;rw [if_pos H4.out,hty]
  have HVC:=jj hvc
  have HE2:=jj e2
  have HLA:=jj (HW.out.ctor hq' hkl).args
  clear hnb hty hvc e2 e1 HNB
  obtain ⟨y0,y1,klt⟩:=KT5.out.c2
  obtain ⟨-,z1,-,-,-,-,klt2⟩:=KP5.out.c6
  go_wp2_with fail
  rw [HVC.out,HE2.out]
  refine (impl_argTypes xs q k t.i hq' hkl w5 _ F (ArrDt.below HX.out hB5 HF.out) (HF.out.mono hB5.size) HLA.out).mono ?_
  rintro e w6 ⟨v6,F6,rfl,hb6,ha6,hfr6,hfs6⟩
  have hB6:=hB5.trans (hb6.mono hB5.size)
  have KT6:=jj (KT5.out.same (hb6.block _ KT5.out.lt))
  have KP6:=jj (KP5.out.same (hb6.block _ KP5.out.lt))
  generalize argsL xs[q].ctors[k] t.i=ls at *
  obtain ⟨A6,cap6,rfl,hd3,hd4⟩:=ha6.form
  have HA6:=jj ha6
  have HFS6:=jj hfs6
  clear ha6 hfr6 hfs6 hb6 y0 y1 z1 klt klt2
  obtain ⟨z0,z1,z2,z3,z4,z5,klt2⟩:=KP6.out.c6
  go_wp2_with fail
  refine (impl_only p A4 cap4 true false false (ls.length:Nat) _).mono ?_
  rintro e w7 ⟨rfl,hb7⟩
  have HB7:=jj (hB6.trans (hb7.mono hB6.size))
  have HA7:=jj (ArrTy.below HA6.out hb7 HFS6.out.under)
  have HFS7:Hid (Fresh w w7 F6):=fun b hb=>⟨Nat.le_trans hB5.size (HFS6.out b hb).1,zz9 (HFS6.out b hb).2 hb7.size⟩
  generalize hbb:onlyB p true false false ((ls.length:Nat):Int)=bb at *
  clear hbb
  have HFin:Hid (ShapePost xs t p w (.returned (.tuple #[.slice A6 ls.length cap6,.bool bb])) w7):=⟨_,F6,by rw [HNB2.out],HB7.out,HFS7.out,fun _=>by rw [HTY.out];exact HA7.out⟩
  clear z0 z1 z2 z3 z4 z5 klt2 hb7
  go_wp2
  go_ret2
  exact HFin.out
theorem shape_5 (xs:List Dt) (hw:WorldOK xs) (t:Ty) (ht:TyIn xs.length t) (p:P) (h5:p.op=5) (w:World) (x:Value) (F:List Nat) (cs:List Value) (G:List Nat):Arr w (DtR w) xs x F→Under w F→PR w p cs G→Under w G →
  Calls Tryz.prog 129 #[x,.agg #[t.d,t.i],.agg cs.toArray] w (ShapePost xs t p w):=by
 intro hx hf hv hg
 obtain ⟨kv,rfl,ha⟩:=(zA3 _ _ _).1 hv
 obtain ⟨A,cap,rfl,hc1,hc2⟩:=hx.form
 obtain ⟨A4,cap4,rfl,hc3,hc4⟩:=ha.form
 have HV:=jj hv
 have HX:=jj hx
 have HF:=jj hf
 have HA:=jj ha
 have HG:=jj hg
 clear hx hf ha hg
 clear hv
 have HW:=jj hw
 have HT:=jj ht
 clear hw ht
 have o1:(p.op==1)=false:=by simp [h5]
 have o2:(p.op==2)=false:=by simp [h5]
 have o3:(p.op==3)=false:=by simp [h5]
 have o4:(p.op==4)=false:=by simp [h5]
 have o5:(p.op==5)=true:=by simp [h5]
 have HNB:=jj (nodeB_5 (xs:=xs) (t:=t) h5)
 have HTY:=jj (show typesP xs t p=[t,t] from by rw [typesP_no (by omega),h5];rfl)
 clear h5
 go_enter Tryz.func129,Tryz.ntmps129
 go_wp2_with fail
 obtain ⟨W2,hW2⟩:∃ W2,W2=((w.alloc (.cells #[t.d,t.i] 25)).alloc (.cells #[p.op,p.ct,p.n,p.m,p.va,.slice A4 p.ks.length cap4] 28)):=⟨_,rfl⟩
 have hB0:Below w w W2:=by rw [hW2];exact ((zy2 _ _).alloc (zz8 _) _).alloc (by simp) _
 have KT:Hid (Blk W2 w 25 #[t.d,t.i]):=by rw [hW2];exact (Blk.new w _ _).same (Below.heap_alloc _ _ _ (by simp))
 have KP:Hid (Blk W2 (w.heap.size+1) 28 #[p.op,p.ct,p.n,p.m,p.va,.slice A4 p.ks.length cap4]):=by rw [hW2];have h:=Blk.new (w.alloc (.cells #[t.d,t.i] 25)) 28 #[p.op,p.ct,p.n,p.m,p.va,.slice A4 p.ks.length cap4];rw [World.size_alloc] at h;exact h
 have hws:w.heap.size+2≤W2.heap.size:=by rw [hW2];simp
 have hws2:W2.heap.size=w.heap.size+1+1:=by rw [hW2];simp
 rw [←hW2]
 clear hW2
 obtain ⟨y0,y1,klt⟩:=KT.out.c2
 obtain ⟨z0,z1,z2,z3,z4,z5,klt2⟩:=KP.out.c6
 generalize hbb:onlyB p false false false 2=bb at *
 have HC:Hid (∀ w1:World,Calls Tryz.prog 163 #[.agg #[p.op,p.ct,p.n,p.m,p.va,.slice A4 p.ks.length cap4],.bool false,.bool false,.bool false,(2:Int)] w1 fun e w'=>e=.returned (.bool bb)∧Below w1 w1 w'):=fun w1=>by rw [←hbb];exact impl_only p A4 cap4 false false false 2 w1
 clear hbb
 have HNV:Hid (nodeB xs t p=bb):=HNB.out
 go_wp2_with fail
 refine zA5 (S:=fun w'=>Blk w' w.heap.size 25 #[t.d,t.i]∧Blk w' (w.heap.size+1) 28 #[p.op,p.ct,p.n,p.m,p.va,.slice A4 p.ks.length cap4]) (T:=fun _=>True) (d:=99) (by kernel_rfl) ?_
 have hS1:Blk W2.drew w.heap.size 25 #[t.d,t.i]∧Blk W2.drew (w.heap.size+1) 28 #[p.op,p.ct,p.n,p.m,p.va,.slice A4 p.ks.length cap4]:=⟨KT.out,KP.out⟩
 have hT1:True:=trivial
 refine wU (i:=0) (v:=?_) rfl (Or.inl ⟨by rfl,?hy0⟩) hS1 (fun _=>trivial) ?_
 case hy0=>(intro W hSw;(try dsimp only at hSw);obtain ⟨kt,kp⟩:=hSw;have y0:W.cell? ⟨w,0,none⟩=t.d:=(kt.cell 0).trans (by simp);have y1:W.cell? ⟨w,1,none⟩=t.i:=(kt.cell 1).trans (by simp);have z0:W.cell? ⟨w.heap.size+1,0,none⟩=p.op:=(kp.cell 0).trans (by simp);have z1:W.cell? ⟨w.heap.size+1,1,none⟩=p.ct:=(kp.cell 1).trans (by simp);have z2:W.cell? ⟨w.heap.size+1,2,none⟩=p.n:=(kp.cell 2).trans (by simp);have z3:W.cell? ⟨w.heap.size+1,3,none⟩=p.m:=(kp.cell 3).trans (by simp);have z4:W.cell? ⟨w.heap.size+1,4,none⟩=p.va:=(kp.cell 4).trans (by simp);have z5:W.cell? ⟨w.heap.size+1,5,none⟩=some (.slice A4 p.ks.length cap4):=(kp.cell 5).trans (by simp);go_simp;try with_reducible rfl)
 (try simp only [zz])
 refine wU (i:=1) (v:=?_) rfl (Or.inl ⟨by rfl,?hy1⟩) hS1 (fun _=>trivial) ?_
 case hy1=>(intro W hSw;(try dsimp only at hSw);obtain ⟨kt,kp⟩:=hSw;have y0:W.cell? ⟨w,0,none⟩=t.d:=(kt.cell 0).trans (by simp);have y1:W.cell? ⟨w,1,none⟩=t.i:=(kt.cell 1).trans (by simp);have z0:W.cell? ⟨w.heap.size+1,0,none⟩=p.op:=(kp.cell 0).trans (by simp);have z1:W.cell? ⟨w.heap.size+1,1,none⟩=p.ct:=(kp.cell 1).trans (by simp);have z2:W.cell? ⟨w.heap.size+1,2,none⟩=p.n:=(kp.cell 2).trans (by simp);have z3:W.cell? ⟨w.heap.size+1,3,none⟩=p.m:=(kp.cell 3).trans (by simp);have z4:W.cell? ⟨w.heap.size+1,4,none⟩=p.va:=(kp.cell 4).trans (by simp);have z5:W.cell? ⟨w.heap.size+1,5,none⟩=some (.slice A4 p.ks.length cap4):=(kp.cell 5).trans (by simp);go_simp;try with_reducible rfl)
 (try simp only [zz])
 refine wU (i:=3) (v:=?_) rfl (Or.inl ⟨by rfl,?hy3⟩) hS1 (fun _=>trivial) ?_
 case hy3=>(intro W hSw;(try dsimp only at hSw);obtain ⟨kt,kp⟩:=hSw;have y0:W.cell? ⟨w,0,none⟩=t.d:=(kt.cell 0).trans (by simp);have y1:W.cell? ⟨w,1,none⟩=t.i:=(kt.cell 1).trans (by simp);have z0:W.cell? ⟨w.heap.size+1,0,none⟩=p.op:=(kp.cell 0).trans (by simp);have z1:W.cell? ⟨w.heap.size+1,1,none⟩=p.ct:=(kp.cell 1).trans (by simp);have z2:W.cell? ⟨w.heap.size+1,2,none⟩=p.n:=(kp.cell 2).trans (by simp);have z3:W.cell? ⟨w.heap.size+1,3,none⟩=p.m:=(kp.cell 3).trans (by simp);have z4:W.cell? ⟨w.heap.size+1,4,none⟩=p.va:=(kp.cell 4).trans (by simp);have z5:W.cell? ⟨w.heap.size+1,5,none⟩=some (.slice A4 p.ks.length cap4):=(kp.cell 5).trans (by simp);go_simp;try with_reducible rfl)
 (try simp only [zz])
 refine wR (rs:=[2,4]) (by kernel_rfl) (by simp) ?_
 refine AllReadyB.c rfl (fun K hK=>?_) (AllReadyB.c rfl (fun K hK=>?_) AllReadyB.n)
 ·go_simp
  have hS2:=And.intro (hS1.1.same (Below.heap_alloc _ (.cells #[t.d,t.i,t.d,t.i] 25) _ hS1.1.lt)) (hS1.2.same (Below.heap_alloc _ (.cells #[t.d,t.i,t.d,t.i] 25) _ hS1.2.lt))
  refine hK.out _ _ hS2 (fun _=>trivial) ?_
  clear hK K
  (try simp only [zz])
  refine Go.Proofs.YtjjclcmmfeegfaaGreatDoor.w1 4 rfl fun K hK=>?_
  go_simp
  go_at_call 163
  with_reducible refine (HC.out _).mono ?_
  rintro e w3 ⟨rfl,hb3⟩
  have hS3:Blk w3 w 25 #[t.d,t.i]∧Blk w3 (w.heap.size+1) 28 #[p.op,p.ct,p.n,p.m,p.va,.slice A4 p.ks.length cap4]:=⟨hS2.1.same (hb3.block _ hS2.1.lt),hS2.2.same (hb3.block _ hS2.2.lt)⟩
  dsimp only
  refine hK.out _ _ hS3 (fun _=>trivial) ?_
  clear hK K
  (try simp only [zz])
  refine wV 5 rfl hS3 trivial ?_
  (try simp only [zz])
  refine wV 6 rfl hS3 trivial ?_
  (try simp only [zz])
  refine wE (by kernel_rfl) ?_
  obtain ⟨q1,q2,q3⟩:=shape_endA hB0 hws2 hb3
  have HFin:Hid (ShapePost xs t p w (.returned (.tuple #[.slice (some ⟨w.heap.size+1+1,0,none⟩) 2 2,.bool bb])) w3):=⟨_,[w.heap.size+1+1],by rw [HNV.out],q1,q2,fun _=>by rw [HTY.out];exact arr_tys2 q3⟩
  clear y0 y1 z0 z1 z2 z3 z4 z5 klt klt2
  clear hS1 hS3 hb3 q1 q2 q3
  go_wp2
  go_ret2
  exact HFin.out
 ·go_simp
  go_at_call 163
  with_reducible refine (HC.out _).mono ?_
  rintro e w3 ⟨rfl,hb3⟩
  have hS3:Blk w3 w 25 #[t.d,t.i]∧Blk w3 (w.heap.size+1) 28 #[p.op,p.ct,p.n,p.m,p.va,.slice A4 p.ks.length cap4]:=⟨hS1.1.same (hb3.block _ hS1.1.lt),hS1.2.same (hb3.block _ hS1.2.lt)⟩
  dsimp only
  refine hK.out _ _ hS3 (fun _=>trivial) ?_
  clear hK K
  (try simp only [zz])
  refine Go.Proofs.YtjjclcmmfeegfaaGreatDoor.w1 2 rfl fun K hK=>?_
  go_simp
  have hS4:=And.intro (hS3.1.same (Below.heap_alloc _ (.cells #[t.d,t.i,t.d,t.i] 25) _ hS3.1.lt)) (hS3.2.same (Below.heap_alloc _ (.cells #[t.d,t.i,t.d,t.i] 25) _ hS3.2.lt))
  refine hK.out _ _ hS4 (fun _=>trivial) ?_
  clear hK K
  (try simp only [zz])
  refine wV 5 rfl hS4 trivial ?_
  (try simp only [zz])
  refine wV 6 rfl hS4 trivial ?_
  (try simp only [zz])
  refine wE (by kernel_rfl) ?_
  obtain ⟨q1,q2⟩:=shape_endB hB0 hb3 (.cells #[t.d,t.i,t.d,t.i] 25)
  have HFin:Hid (ShapePost xs t p w (.returned (.tuple #[.slice (some ⟨w3,0,none⟩) 2 2,.bool bb])) (w3.alloc (.cells #[t.d,t.i,t.d,t.i] 25))):=⟨_,[w3.heap.size],by rw [HNV.out],q1,q2,fun _=>by rw [HTY.out];exact arr_tys2 (Blk.new w3 _ _)⟩
  clear y0 y1 z0 z1 z2 z3 z4 z5 klt klt2
  clear hS1 hS3 hb3 q1 q2
  go_wp2
  go_ret2
  exact HFin.out
end Go.Proofs.YtjjclcmmfeegfaaGreatDoor
