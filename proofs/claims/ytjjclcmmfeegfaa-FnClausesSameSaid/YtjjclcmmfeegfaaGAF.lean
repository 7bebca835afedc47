/-
  Lemmas, and contracts of functions. Conditions: none.
-/
import Derived.Test.YtjjclcmmfeegfaaGAE
import Derived.Test.YtjjclcmmfeegfaaGAA
import Derived.Test.YtjjclcmmfeegfaaGAB
import Derived.Deep.RegionWith
import Derived.Deep.RegionHeld3
import Derived.Deep.QuietTactic
import Derived.BigQuiet
import Derived.IntWalk
import Derived.Test.YtjjclcmmfeegfaaGAD

set_option linter.unusedVariables false
set_option linter.unusedSimpArgs false
set_option maxRecDepth 100000
set_option maxHeartbeats 1600000

namespace Go.Proofs.Ytjjclcmmfeegfaa
open Go.RowKit
theorem spec_l3Kids (op:Int) (h4:¬op=4) (w:World):Calls Try.prog 117 #[.int .i64 op] w fun e w'=>e=.returned (.int .i64 ((kidsN op:Nat):Int))∧w'=w:=by
 have t4:(op==4)=false:=by simpa using h4
 by_cases h5:op=5
 ·subst h5
  go_enter Try.func117,Try.ntmps117
  go_wp2
  go_ret
  exact ⟨rfl,rfl⟩
 ·have t5:(op==5)=false:=by simpa using h5
  by_cases h6:op=6
  ·subst h6
   go_enter Try.func117,Try.ntmps117
   go_wp2
   go_ret
   exact ⟨rfl,rfl⟩
  ·have t6:(op==6)=false:=by simpa using h6
   have hk:Hid (kidsN op=0):=by unfold Hid kidsN;rw [if_neg h5,if_neg h6]
   go_enter Try.func117,Try.ntmps117
   go_wp2
   go_ret
   exact ⟨by rw [hk.out];rfl,rfl⟩
theorem spec_l3Own (xs:List Dt) (hw:WorldOK xs) (t:Ty) (ht:TyIn xs.length t) (p:P) (w:World) (x:Value) (F:List Nat) (cs:List Value) (G:List Nat):Arr w (DtR w) xs x F→Under w F→PR w p cs G→Under w G →
  Calls Try.prog 99 #[x,.agg #[t.d,t.i],.agg cs.toArray] w fun e w'=>e=.returned (.bool (ownB xs t p))∧Below w w w':=by
 intro hx hf hv hg
 obtain ⟨kv,rfl,ha⟩:=(zA4 _ _ _).1 hv
 obtain ⟨A,cap,rfl,hc1,hc2⟩:=hx.form
 obtain ⟨A4,cap4,rfl,hc3,hc4⟩:=ha.form
 have HV:=jj hv
 have HX:=jj hx
 have HF:=jj hf
 have HA:=jj ha
 have HG:=jj hg
 clear hx hf ha hg
 clear hv
 have HW:=jj hw
 have HT:=jj ht.inWorld
 clear hw ht HA HG HV
 obtain ⟨op,ct,n,m,va,ks⟩:=p
 simp only at hc3 hc4 ⊢
 have HB:Hid (Below w w ((w.alloc (.cells #[t.d,t.i] 25)).alloc (.cells #[.int .i64 op,.int .i64 ct,.int .i64 n,.int .i64 m,.int .i64 va,.slice A4 ks.length cap4] 28))):=((zy2 _ _).alloc (zz8 _) _).alloc (by simp) _
 by_cases o1:op=1
 ·subst o1
  by_cases v1:va=0
  ·have tv1:(va != 0)=false:=by simp [v1]
   by_cases n1:n=0
   ·have tn1:(n != 0)=false:=by simp [n1]
    by_cases m1:m=0
    ·have tm1:(m != 0)=false:=by simp [m1]
     by_cases c1:ct=0
     ·have tc1:(ct != 0)=false:=by simp [c1]
      have hf:Hid (ownB xs t ⟨1,ct,n,m,va,ks⟩=true):=by unfold Hid ownB namedB kindB;simp [v1,n1,m1,c1]
      go_enter Try.func99,Try.ntmps99
      go_wp2
      go_ret
      exact ⟨by subst_vars;exact zA0 hf.out.symm,((zy2 _ _).alloc (zz8 _) _).alloc (by simp) _⟩
     ·have tc1:(ct != 0)=true:=by simpa using c1
      have hf:Hid (ownB xs t ⟨1,ct,n,m,va,ks⟩=false):=by unfold Hid ownB namedB kindB;simp [v1,n1,m1,c1]
      go_enter Try.func99,Try.ntmps99
      go_wp2
      go_ret
      exact ⟨by subst_vars;exact zA0 hf.out.symm,((zy2 _ _).alloc (zz8 _) _).alloc (by simp) _⟩
    ·have tm1:(m != 0)=true:=by simpa using m1
     have hf:Hid (ownB xs t ⟨1,ct,n,m,va,ks⟩=false):=by unfold Hid ownB namedB kindB;simp [v1,m1]
     go_enter Try.func99,Try.ntmps99
     go_wp2
     go_ret
     exact ⟨by subst_vars;exact zA0 hf.out.symm,((zy2 _ _).alloc (zz8 _) _).alloc (by simp) _⟩
   ·have tn1:(n != 0)=true:=by simpa using n1
    have hf:Hid (ownB xs t ⟨1,ct,n,m,va,ks⟩=false):=by unfold Hid ownB namedB kindB;simp [v1,n1]
    go_enter Try.func99,Try.ntmps99
    go_wp2
    go_ret
    exact ⟨by subst_vars;exact zA0 hf.out.symm,((zy2 _ _).alloc (zz8 _) _).alloc (by simp) _⟩
  ·have tv1:(va != 0)=true:=by simpa using v1
   have hf:Hid (ownB xs t ⟨1,ct,n,m,va,ks⟩=false):=by unfold Hid ownB namedB kindB;simp [v1]
   go_enter Try.func99,Try.ntmps99
   go_wp2
   go_ret
   exact ⟨by subst_vars;exact zA0 hf.out.symm,((zy2 _ _).alloc (zz8 _) _).alloc (by simp) _⟩
 have u1:(op==1)=false:=by simpa using o1
 by_cases o2:op=2
 ·subst o2
  by_cases v1:va<0
  ·have tv1:(decide (va<0))=true:=by simpa using v1
   have v1x:¬0≤va:=by omega
   have hf:Hid (ownB xs t ⟨2,ct,n,m,va,ks⟩=false):=by unfold Hid ownB namedB kindB;simp [v1x]
   go_enter Try.func99,Try.ntmps99
   go_wp2
   go_ret
   exact ⟨by subst_vars;exact zA0 hf.out.symm,((zy2 _ _).alloc (zz8 _) _).alloc (by simp) _⟩
  ·have tv1:(decide (va<0))=false:=by simpa using v1
   by_cases v2:5<va
   ·have tv2:(decide (va>5))=true:=by simpa using v2
    have v2x:¬va≤5:=by omega
    have hf:Hid (ownB xs t ⟨2,ct,n,m,va,ks⟩=false):=by unfold Hid ownB namedB kindB;simp [v2x]
    go_enter Try.func99,Try.ntmps99
    go_wp2
    go_ret
    exact ⟨by subst_vars;exact zA0 hf.out.symm,((zy2 _ _).alloc (zz8 _) _).alloc (by simp) _⟩
   ·have tv2:(decide (va>5))=false:=by simpa using v2
    have v1x:0≤va:=by omega
    have v2x:va≤5:=by omega
    by_cases n1:n=0
    ·have tn1:(n != 0)=false:=by simp [n1]
     by_cases m1:m=0
     ·have tm1:(m != 0)=false:=by simp [m1]
      by_cases c1:ct=0
      ·have tc1:(ct != 0)=false:=by simp [c1]
       have hf:Hid (ownB xs t ⟨2,ct,n,m,va,ks⟩=true):=by unfold Hid ownB namedB kindB;simp [v1x,v2x,n1,m1,c1]
       go_enter Try.func99,Try.ntmps99
       go_wp2
       go_ret
       exact ⟨by subst_vars;exact zA0 hf.out.symm,((zy2 _ _).alloc (zz8 _) _).alloc (by simp) _⟩
      ·have tc1:(ct != 0)=true:=by simpa using c1
       have hf:Hid (ownB xs t ⟨2,ct,n,m,va,ks⟩=false):=by unfold Hid ownB namedB kindB;simp [v1x,v2x,n1,m1,c1]
       go_enter Try.func99,Try.ntmps99
       go_wp2
       go_ret
       exact ⟨by subst_vars;exact zA0 hf.out.symm,((zy2 _ _).alloc (zz8 _) _).alloc (by simp) _⟩
     ·have tm1:(m != 0)=true:=by simpa using m1
      have hf:Hid (ownB xs t ⟨2,ct,n,m,va,ks⟩=false):=by unfold Hid ownB namedB kindB;simp [v1x,v2x,m1]
      go_enter Try.func99,Try.ntmps99
      go_wp2
      go_ret
      exact ⟨by subst_vars;exact zA0 hf.out.symm,((zy2 _ _).alloc (zz8 _) _).alloc (by simp) _⟩
    ·have tn1:(n != 0)=true:=by simpa using n1
     have hf:Hid (ownB xs t ⟨2,ct,n,m,va,ks⟩=false):=by unfold Hid ownB namedB kindB;simp [v1x,v2x,n1]
     go_enter Try.func99,Try.ntmps99
     go_wp2
     go_ret
     exact ⟨by subst_vars;exact zA0 hf.out.symm,((zy2 _ _).alloc (zz8 _) _).alloc (by simp) _⟩
 have u2:(op==2)=false:=by simpa using o2
 by_cases o3:op=3
 ·subst o3
  by_cases v1:va=0
  ·have tv1:(va != 0)=false:=by simp [v1]
   by_cases c1:ct=0
   ·have tc1:(ct != 0)=false:=by simp [c1]
    by_cases a0:t.d = -1
    ·have b0:(t.d == -1)=true:=by simp [a0]
     by_cases a1:0≤n
     ·have b1:decide (n≥0)=true:=by simpa using a1
      by_cases a2:n≤m
      ·have b2:decide (n≤m)=true:=by simpa using a2
       by_cases a3:m≤9
       ·have b3:decide (m≤9)=true:=by simpa using a3
        have hf:Hid (ownB xs t ⟨3,ct,n,m,va,ks⟩=true):=by unfold Hid ownB namedB kindB;simp [v1,c1,a0,a1,a2,a3]
        go_enter Try.func99,Try.ntmps99
        go_wp2
        go_ret
        exact ⟨by subst_vars;exact zA0 hf.out.symm,((zy2 _ _).alloc (zz8 _) _).alloc (by simp) _⟩
       ·have b3:decide (m≤9)=false:=by simpa using a3
        have hf:Hid (ownB xs t ⟨3,ct,n,m,va,ks⟩=false):=by unfold Hid ownB namedB kindB;simp [v1,c1,a0,a1,a2,a3]
        go_enter Try.func99,Try.ntmps99
        go_wp2
        go_ret
        exact ⟨by subst_vars;exact zA0 hf.out.symm,((zy2 _ _).alloc (zz8 _) _).alloc (by simp) _⟩
      ·have b2:decide (n≤m)=false:=by simpa using a2
       have hf:Hid (ownB xs t ⟨3,ct,n,m,va,ks⟩=false):=by unfold Hid ownB namedB kindB;simp [v1,c1,a2]
       go_enter Try.func99,Try.ntmps99
       go_wp2
       go_ret
       exact ⟨by subst_vars;exact zA0 hf.out.symm,((zy2 _ _).alloc (zz8 _) _).alloc (by simp) _⟩
     ·have b1:decide (n≥0)=false:=by simpa using a1
      have hf:Hid (ownB xs t ⟨3,ct,n,m,va,ks⟩=false):=by unfold Hid ownB namedB kindB;simp [v1,c1,a1]
      go_enter Try.func99,Try.ntmps99
      go_wp2
      go_ret
      exact ⟨by subst_vars;exact zA0 hf.out.symm,((zy2 _ _).alloc (zz8 _) _).alloc (by simp) _⟩
    ·have b0:(t.d == -1)=false:=by simpa using a0
     have hf:Hid (ownB xs t ⟨3,ct,n,m,va,ks⟩=false):=by unfold Hid ownB namedB kindB;simp [v1,c1,a0]
     go_enter Try.func99,Try.ntmps99
     go_wp2
     go_ret
     exact ⟨by subst_vars;exact zA0 hf.out.symm,((zy2 _ _).alloc (zz8 _) _).alloc (by simp) _⟩
   ·have tc1:(ct != 0)=true:=by simpa using c1
    have hf:Hid (ownB xs t ⟨3,ct,n,m,va,ks⟩=false):=by unfold Hid ownB namedB kindB;simp [v1,c1]
    go_enter Try.func99,Try.ntmps99
    go_wp2
    go_ret
    exact ⟨by subst_vars;exact zA0 hf.out.symm,((zy2 _ _).alloc (zz8 _) _).alloc (by simp) _⟩
  ·have tv1:(va != 0)=true:=by simpa using v1
   have hf:Hid (ownB xs t ⟨3,ct,n,m,va,ks⟩=false):=by unfold Hid ownB namedB kindB;simp [v1]
   go_enter Try.func99,Try.ntmps99
   go_wp2
   go_ret
   exact ⟨by subst_vars;exact zA0 hf.out.symm,((zy2 _ _).alloc (zz8 _) _).alloc (by simp) _⟩
 have u3:(op==3)=false:=by simpa using o3
 by_cases o4:op=4
 ·subst o4
  by_cases v1:va=0
  ·have tv1:(va != 0)=false:=by simp [v1]
   by_cases n1:n=0
   ·have tn1:(n != 0)=false:=by simp [n1]
    by_cases m1:m=0
    ·have tm1:(m != 0)=false:=by simp [m1]
     have hf:Hid (ownB xs t ⟨4,ct,n,m,va,ks⟩=hasB (ctorsL xs t) ct):=by unfold Hid ownB namedB kindB;simp [v1,n1,m1]
     subst_vars
     go_enter Try.func99,Try.ntmps99
     go_wp2_with fail
     obtain ⟨W2,hW2⟩:∃ W2,W2=((w.alloc (.cells #[t.d,t.i] 25)).alloc (.cells #[(4:Int),.int .i64 ct,(0:Int),(0:Int),(0:Int),.slice A4 ks.length cap4] 28)):=⟨_,rfl⟩
     rw [←hW2] at HB
     have KT:Hid (Blk W2 w 25 #[t.d,t.i]):=by rw [hW2];exact (Blk.new w _ _).same (Below.heap_alloc _ _ _ (by simp))
     have KP:Hid (Blk W2 (w.heap.size+1) 28 #[(4:Int),.int .i64 ct,(0:Int),(0:Int),(0:Int),.slice A4 ks.length cap4]):=by rw [hW2];have h:=Blk.new (w.alloc (.cells #[t.d,t.i] 25)) 28 #[(4:Int),.int .i64 ct,(0:Int),(0:Int),(0:Int),.slice A4 ks.length cap4];rw [World.size_alloc] at h;exact h
     rw [←hW2]
     clear hW2
     obtain ⟨y0,y1,klt⟩:=KT.out.c2
     have z1:W2.cell? ⟨w.heap.size+1,1,none⟩=some (.int .i64 ct):=(KP.out.cell 1).trans (by simp)
     have klt2:=KP.out.lt
     have hB0:=HB.out
     have hkeep:Kp W2.heap.size (fun U=>U.cell? ⟨w,0,none⟩=t.d∧U.cell? ⟨w,1,none⟩=t.i∧U.cell? ⟨w.heap.size+1,1,none⟩=some (.int .i64 ct)):=fun U U' h hUU hU=>⟨(hUU.cell (zz9 (klt) hU)).trans h.1,(hUU.cell (zz9 (klt) hU)).trans h.2.1,(hUU.cell (zz9 (klt2) hU)).trans h.2.2⟩
     have HKeep:=jj hkeep
     clear hkeep
     go_region_held3 (fun w'=>w'.cell? ⟨w,0,none⟩=t.d∧w'.cell? ⟨w,1,none⟩=t.i∧w'.cell? ⟨w.heap.size+1,1,none⟩=some (.int .i64 ct)) (first | assumption | (exact ⟨y0,y1,z1⟩) | (exact HKeep.out W2.drew w4 ⟨y0,y1,z1⟩ hb4 (zz8 _)) | (exact HKeep.out w4 w5 (by assumption) hb5 hlew4)) (first | (go_at_call 86;((with_reducible refine (spec_l1Ctors xs t _ _ F (ArrDt.below HX.out hB0.drew HF.out) (HF.out.mono hB0.drew.size) HW.out HT.out).mono ?_);rintro e w4 ⟨v4,F4,rfl,hb4,ha4,-,hfs4⟩);have hlew4:W2.heap.size≤w4.heap.size:=hb4.size) | (go_at_call 121;((with_reducible refine (spec_l1Has (ctorsL xs t) ct _ _ F4 ha4 hfs4.under).mono ?_);rintro e w5 ⟨rfl,hb5⟩)))
     have hBa:=hB0.drew.trans (hb4.mono hB0.drew.size)
     have hB5:=hBa.trans (hb5.mono hBa.size)
     generalize hasB (ctorsL xs t) ct=r at *
     clear HKeep ha4 hfs4 hb4 hb5 hBa hB0 HB KT KP y0 y1 z1 klt klt2
     go_wp2
     go_ret
     exact ⟨zA0 hf.out.symm,hB5⟩
    ·have tm1:(m != 0)=true:=by simpa using m1
     have hf:Hid (ownB xs t ⟨4,ct,n,m,va,ks⟩=false):=by unfold Hid ownB namedB kindB;simp [v1,m1]
     go_enter Try.func99,Try.ntmps99
     go_wp2
     go_ret
     exact ⟨by subst_vars;exact zA0 hf.out.symm,((zy2 _ _).alloc (zz8 _) _).alloc (by simp) _⟩
   ·have tn1:(n != 0)=true:=by simpa using n1
    have hf:Hid (ownB xs t ⟨4,ct,n,m,va,ks⟩=false):=by unfold Hid ownB namedB kindB;simp [v1,n1]
    go_enter Try.func99,Try.ntmps99
    go_wp2
    go_ret
    exact ⟨by subst_vars;exact zA0 hf.out.symm,((zy2 _ _).alloc (zz8 _) _).alloc (by simp) _⟩
  ·have tv1:(va != 0)=true:=by simpa using v1
   have hf:Hid (ownB xs t ⟨4,ct,n,m,va,ks⟩=false):=by unfold Hid ownB namedB kindB;simp [v1]
   go_enter Try.func99,Try.ntmps99
   go_wp2
   go_ret
   exact ⟨by subst_vars;exact zA0 hf.out.symm,((zy2 _ _).alloc (zz8 _) _).alloc (by simp) _⟩
 have u4:(op==4)=false:=by simpa using o4
 by_cases o5:op=5
 ·subst o5
  by_cases v1:va=0
  ·have tv1:(va != 0)=false:=by simp [v1]
   by_cases n1:n=0
   ·have tn1:(n != 0)=false:=by simp [n1]
    by_cases m1:m=0
    ·have tm1:(m != 0)=false:=by simp [m1]
     by_cases c1:ct=0
     ·have tc1:(ct != 0)=false:=by simp [c1]
      have hf:Hid (ownB xs t ⟨5,ct,n,m,va,ks⟩=true):=by unfold Hid ownB namedB kindB;simp [v1,n1,m1,c1]
      go_enter Try.func99,Try.ntmps99
      go_wp2
      go_ret
      exact ⟨by subst_vars;exact zA0 hf.out.symm,((zy2 _ _).alloc (zz8 _) _).alloc (by simp) _⟩
     ·have tc1:(ct != 0)=true:=by simpa using c1
      have hf:Hid (ownB xs t ⟨5,ct,n,m,va,ks⟩=false):=by unfold Hid ownB namedB kindB;simp [v1,n1,m1,c1]
      go_enter Try.func99,Try.ntmps99
      go_wp2
      go_ret
      exact ⟨by subst_vars;exact zA0 hf.out.symm,((zy2 _ _).alloc (zz8 _) _).alloc (by simp) _⟩
    ·have tm1:(m != 0)=true:=by simpa using m1
     have hf:Hid (ownB xs t ⟨5,ct,n,m,va,ks⟩=false):=by unfold Hid ownB namedB kindB;simp [v1,m1]
     go_enter Try.func99,Try.ntmps99
     go_wp2
     go_ret
     exact ⟨by subst_vars;exact zA0 hf.out.symm,((zy2 _ _).alloc (zz8 _) _).alloc (by simp) _⟩
   ·have tn1:(n != 0)=true:=by simpa using n1
    have hf:Hid (ownB xs t ⟨5,ct,n,m,va,ks⟩=false):=by unfold Hid ownB namedB kindB;simp [v1,n1]
    go_enter Try.func99,Try.ntmps99
    go_wp2
    go_ret
    exact ⟨by subst_vars;exact zA0 hf.out.symm,((zy2 _ _).alloc (zz8 _) _).alloc (by simp) _⟩
  ·have tv1:(va != 0)=true:=by simpa using v1
   have hf:Hid (ownB xs t ⟨5,ct,n,m,va,ks⟩=false):=by unfold Hid ownB namedB kindB;simp [v1]
   go_enter Try.func99,Try.ntmps99
   go_wp2
   go_ret
   exact ⟨by subst_vars;exact zA0 hf.out.symm,((zy2 _ _).alloc (zz8 _) _).alloc (by simp) _⟩
 have u5:(op==5)=false:=by simpa using o5
 by_cases o6:op=6
 ·subst o6
  by_cases v1:va<0
  ·have tv1:(decide (va<0))=true:=by simpa using v1
   have v1x:¬0≤va:=by omega
   have hf:Hid (ownB xs t ⟨6,ct,n,m,va,ks⟩=false):=by unfold Hid ownB namedB kindB;simp [v1x]
   go_enter Try.func99,Try.ntmps99
   go_wp2
   go_ret
   exact ⟨by subst_vars;exact zA0 hf.out.symm,((zy2 _ _).alloc (zz8 _) _).alloc (by simp) _⟩
  ·have tv1:(decide (va<0))=false:=by simpa using v1
   by_cases v2:5<va
   ·have tv2:(decide (va>5))=true:=by simpa using v2
    have v2x:¬va≤5:=by omega
    have hf:Hid (ownB xs t ⟨6,ct,n,m,va,ks⟩=false):=by unfold Hid ownB namedB kindB;simp [v2x]
    go_enter Try.func99,Try.ntmps99
    go_wp2
    go_ret
    exact ⟨by subst_vars;exact zA0 hf.out.symm,((zy2 _ _).alloc (zz8 _) _).alloc (by simp) _⟩
   ·have tv2:(decide (va>5))=false:=by simpa using v2
    have v1x:0≤va:=by omega
    have v2x:va≤5:=by omega
    by_cases n1:n=0
    ·have tn1:(n != 0)=false:=by simp [n1]
     by_cases m1:m=0
     ·have tm1:(m != 0)=false:=by simp [m1]
      by_cases c1:ct=0
      ·have tc1:(ct != 0)=false:=by simp [c1]
       have hf:Hid (ownB xs t ⟨6,ct,n,m,va,ks⟩=true):=by unfold Hid ownB namedB kindB;simp [v1x,v2x,n1,m1,c1]
       go_enter Try.func99,Try.ntmps99
       go_wp2
       go_ret
       exact ⟨by subst_vars;exact zA0 hf.out.symm,((zy2 _ _).alloc (zz8 _) _).alloc (by simp) _⟩
      ·have tc1:(ct != 0)=true:=by simpa using c1
       have hf:Hid (ownB xs t ⟨6,ct,n,m,va,ks⟩=false):=by unfold Hid ownB namedB kindB;simp [v1x,v2x,n1,m1,c1]
       go_enter Try.func99,Try.ntmps99
       go_wp2
       go_ret
       exact ⟨by subst_vars;exact zA0 hf.out.symm,((zy2 _ _).alloc (zz8 _) _).alloc (by simp) _⟩
     ·have tm1:(m != 0)=true:=by simpa using m1
      have hf:Hid (ownB xs t ⟨6,ct,n,m,va,ks⟩=false):=by unfold Hid ownB namedB kindB;simp [v1x,v2x,m1]
      go_enter Try.func99,Try.ntmps99
      go_wp2
      go_ret
      exact ⟨by subst_vars;exact zA0 hf.out.symm,((zy2 _ _).alloc (zz8 _) _).alloc (by simp) _⟩
    ·have tn1:(n != 0)=true:=by simpa using n1
     have hf:Hid (ownB xs t ⟨6,ct,n,m,va,ks⟩=false):=by unfold Hid ownB namedB kindB;simp [v1x,v2x,n1]
     go_enter Try.func99,Try.ntmps99
     go_wp2
     go_ret
     exact ⟨by subst_vars;exact zA0 hf.out.symm,((zy2 _ _).alloc (zz8 _) _).alloc (by simp) _⟩
 have u6:(op==6)=false:=by simpa using o6
 have un3:(op != 3)=true:=by simpa using o3
 have un4:(op != 4)=true:=by simpa using o4
 by_cases v1:va=0
 ·have tv1:(va != 0)=false:=by simp [v1]
  by_cases n1:n=0
  ·have tn1:(n != 0)=false:=by simp [n1]
   by_cases m1:m=0
   ·have tm1:(m != 0)=false:=by simp [m1]
    by_cases c1:ct=0
    ·have tc1:(ct != 0)=false:=by simp [c1]
     have hf:Hid (ownB xs t ⟨op,ct,n,m,va,ks⟩=false):=by unfold Hid ownB namedB kindB;simp [o1,o2,o3,o4,o5,o6,v1,n1,m1,c1]
     go_enter Try.func99,Try.ntmps99
     go_wp2
     go_ret
     exact ⟨by subst_vars;exact zA0 hf.out.symm,((zy2 _ _).alloc (zz8 _) _).alloc (by simp) _⟩
    ·have tc1:(ct != 0)=true:=by simpa using c1
     have hf:Hid (ownB xs t ⟨op,ct,n,m,va,ks⟩=false):=by unfold Hid ownB namedB kindB;simp [o1,o2,o3,o4,o5,o6,v1,n1,m1,c1]
     go_enter Try.func99,Try.ntmps99
     go_wp2
     go_ret
     exact ⟨by subst_vars;exact zA0 hf.out.symm,((zy2 _ _).alloc (zz8 _) _).alloc (by simp) _⟩
   ·have tm1:(m != 0)=true:=by simpa using m1
    have hf:Hid (ownB xs t ⟨op,ct,n,m,va,ks⟩=false):=by unfold Hid ownB namedB kindB;simp [o1,o2,o3,o4,o5,o6,v1,m1]
    go_enter Try.func99,Try.ntmps99
    go_wp2
    go_ret
    exact ⟨by subst_vars;exact zA0 hf.out.symm,((zy2 _ _).alloc (zz8 _) _).alloc (by simp) _⟩
  ·have tn1:(n != 0)=true:=by simpa using n1
   have hf:Hid (ownB xs t ⟨op,ct,n,m,va,ks⟩=false):=by unfold Hid ownB namedB kindB;simp [o1,o2,o3,o4,o5,o6,v1,n1]
   go_enter Try.func99,Try.ntmps99
   go_wp2
   go_ret
   exact ⟨by subst_vars;exact zA0 hf.out.symm,((zy2 _ _).alloc (zz8 _) _).alloc (by simp) _⟩
 ·have tv1:(va != 0)=true:=by simpa using v1
  have hf:Hid (ownB xs t ⟨op,ct,n,m,va,ks⟩=false):=by unfold Hid ownB namedB kindB;simp [o1,o2,o3,o4,o5,o6,v1]
  go_enter Try.func99,Try.ntmps99
  go_wp2
  go_ret
  exact ⟨by subst_vars;exact zA0 hf.out.symm,((zy2 _ _).alloc (zz8 _) _).alloc (by simp) _⟩
def repTo (t:Ty) (i:Nat):List Ty:=List.replicate i t
theorem repTo_len (t:Ty) (i:Nat):(repTo t i).length=i:=List.length_replicate
theorem repTo_succ (t:Ty) (i:Nat):repTo t (i+1)=repTo t i ++ [t]:=List.replicate_succ'
theorem kidsN_le (op:Int):kidsN op≤2:=by unfold kidsN;split;omega;split <;> omega
theorem zB9 {xs:List Dt} {t:Ty} {p:P} (h:¬p.op=4):typesP xs t p=repTo t (kidsN p.op):=by unfold typesP;rw [if_neg h];rfl
theorem ownB_ctor {xs:List Dt} {t:Ty} {p:P} (h:p.op=4) (ho:ownB xs t p=true):p.ct∈ctorsL xs t:=by
 unfold ownB kindB at ho
 simp only [Bool.and_eq_true] at ho
 have h2:=ho.2.2.2
 rw [if_neg (by omega),if_pos h] at h2
 exact (hasB_iff _ _).1 h2
theorem spec_l3Types (xs:List Dt) (hw:WorldOK xs) (t:Ty) (ht:TyIn xs.length t) (p:P) (ho:ownB xs t p=true) (w:World) (x:Value) (F:List Nat) (cs:List Value) (G:List Nat):Arr w (DtR w) xs x F→Under w F→PR w p cs G→Under w G →
  Calls Try.prog 92 #[x,.agg #[t.d,t.i],.agg cs.toArray] w (MadeArr TyR w (typesP xs t p)):=by
 intro hx hf hv hg
 obtain ⟨kv,rfl,ha⟩:=(zA4 _ _ _).1 hv
 obtain ⟨A,cap,rfl,hc1,hc2⟩:=hx.form
 obtain ⟨A4,cap4,rfl,hc3,hc4⟩:=ha.form
 have HV:=jj hv
 have HX:=jj hx
 have HF:=jj hf
 have HA:=jj ha
 have HG:=jj hg
 clear hx hf ha hg
 clear hv
 by_cases h4:p.op=4
 ·have t4:(p.op==4)=true:=by simp [h4]
  obtain ⟨q,k,e2,hvc,hq',hkl⟩:=zB6 (xs:=xs) (t:=t) ht.inWorld (ownB_ctor h4 ho)
  have hty:typesP xs t p=argsL xs[q].ctors[k] t.i:=by
   unfold typesP
   rw [if_pos h4,hvc]
   obtain ⟨td,ti⟩:=t
   simp only at e2
   subst e2
   exact zBA hq' hkl
  have HTY:=jj hty
  have HVC:=jj hvc
  have HE2:=jj e2
  have HLA:=jj (hw.ctor hq' hkl).args
  clear hty hvc e2 h4 ho hw ht
  go_enter Try.func92,Try.ntmps92
  go_wp2_with fail
  obtain ⟨W2,hW2⟩:∃ W2,W2=((w.alloc (.cells #[t.d,t.i] 25)).alloc (.cells #[p.op,p.ct,p.n,p.m,p.va,.slice A4 p.ks.length cap4] 28)):=⟨_,rfl⟩
  have hB0:Below w w W2:=by rw [hW2];exact ((zy2 _ _).alloc (zz8 _) _).alloc (by simp) _
  have KT:Hid (Blk W2 w 25 #[t.d,t.i]):=by rw [hW2];exact (Blk.new w _ _).same (Below.heap_alloc _ _ _ (by simp))
  have KP:Hid (Blk W2 (w.heap.size+1) 28 #[p.op,p.ct,p.n,p.m,p.va,.slice A4 p.ks.length cap4]):=by rw [hW2];have h:=Blk.new (w.alloc (.cells #[t.d,t.i] 25)) 28 #[p.op,p.ct,p.n,p.m,p.va,.slice A4 p.ks.length cap4];rw [World.size_alloc] at h;exact h
  have hws:w.heap.size+2≤W2.heap.size:=by rw [hW2];simp
  have hws2:W2.heap.size=w.heap.size+1+1:=by rw [hW2];simp
  rw [←hW2]
  clear hW2
  obtain ⟨y0,y1,klt⟩:=KT.out.c2
  obtain ⟨z0,z1,-,-,-,-,klt2⟩:=KP.out.c6
  go_wp2_with fail
  rw [HVC.out,HE2.out]
  refine (spec_l1Args xs q k t.i hq' hkl W2 _ F (ArrDt.below HX.out hB0 HF.out) (HF.out.mono hB0.size) HLA.out).mono ?_
  rintro e w6 ⟨v6,F6,rfl,hb6,ha6,hfr6,hfs6⟩
  have hfin:MadeArr TyR w (typesP xs t p) (.returned v6) w6:=⟨v6,F6,rfl,hB0.trans (hb6.mono hB0.size),by rw [HTY.out];exact ha6,hfr6,fun b hb=>⟨Nat.le_trans hB0.size (hfs6 b hb).1,(hfs6 b hb).2⟩⟩
  have HFin:=jj hfin
  clear hfin ha6 hfr6 hfs6 hb6 y0 y1 z0 z1 klt klt2 t4
  go_wp2
  go_ret
  exact HFin.out
 ·have t4:(p.op==4)=false:=by simpa using h4
  obtain ⟨i0,hi,hz0,hz1,hz2⟩:=info_parts info_tyE
  have HI:=jj hi
  have HZ0:=jj hz0
  have HZ1:=jj hz1
  have HZ2:=jj hz2
  clear hi hz0 hz1 hz2
  have HTY:=jj (zB9 (xs:=xs) (t:=t) h4)
  have H4:=jj h4
  have hk2:=kidsN_le p.op
  generalize hkn:kidsN p.op=kn at *
  have HKN:=jj hkn
  clear h4 ho hw ht hkn
  have hws9:(((w.alloc (.cells #[t.d,t.i] 25)).alloc (.cells #[p.op,p.ct,p.n,p.m,p.va,.slice A4 p.ks.length cap4] 28)).alloc (.cells #[] 25)).heap.size=w.heap.size+3:=by simp
  go_enter Try.func92,Try.ntmps92
  go_wp2
  obtain ⟨w9,hw9⟩:∃ w9,w9=((w.alloc (.cells #[t.d,t.i] 25)).alloc (.cells #[p.op,p.ct,p.n,p.m,p.va,.slice A4 p.ks.length cap4] 28)).alloc (.cells #[] 25):=⟨_,rfl⟩
  have hB0:Below w w w9:=by rw [hw9];exact (((zy2 _ _).alloc (zz8 _) _).alloc (by simp) _).alloc (by simp;omega) _
  have KT:Hid (Blk w9 w 25 #[t.d,t.i]):=by rw [hw9];exact ((Blk.new w _ _).same (Below.heap_alloc _ _ _ (by simp))).same (Below.heap_alloc _ _ _ (by simp;omega))
  have KP:Hid (Blk w9 (w.heap.size+1) 28 #[p.op,p.ct,p.n,p.m,p.va,.slice A4 p.ks.length cap4]):=by rw [hw9];have h:=Blk.new (w.alloc (.cells #[t.d,t.i] 25)) 28 #[p.op,p.ct,p.n,p.m,p.va,.slice A4 p.ks.length cap4];rw [World.size_alloc] at h;exact h.same (Below.heap_alloc _ _ _ (by simp))
  have HO:Hid (Own w9 (w.heap.size+2) 25 2 TyR (repTo t 0) (.slice (some ⟨w.heap.size+2,0,none⟩) 0 0) []):=by
   rw [hw9]
   have h:=Own.made ((w.alloc (.cells #[t.d,t.i] 25)).alloc (.cells #[p.op,p.ct,p.n,p.m,p.va,.slice A4 p.ks.length cap4] 28)) (w.heap.size+2) 25 2 TyR #[] 0 (by simp) (by simp [maxLen]) rfl
   rw [show ((w.alloc (.cells #[t.d,t.i] 25)).alloc (.cells #[p.op,p.ct,p.n,p.m,p.va,.slice A4 p.ks.length cap4] 28)).heap.size=w.heap.size+2 from by simp] at h
   exact h
  rw [←hw9] at hws9 ⊢
  clear hw9
  go_loopw [7,8] (fun ov iv wr=>∃ i:Nat,i≤kn∧iv=.int .i64 i∧Hid (Own wr (w.heap.size+2) 25 2 TyR (repTo t i) ov [])∧Hid (Blk wr w 25 #[t.d,t.i])∧Hid (Blk wr (w.heap.size+1) 28 #[p.op,p.ct,p.n,p.m,p.va,.slice A4 p.ks.length cap4])∧Below w w wr∧w.heap.size+2≤wr.heap.size) (fun _ iv _=>kn-(intOf iv).toNat)
  case atStart=>exact ⟨0,Nat.zero_le _,rfl,HO,KT,KP,hB0,by omega⟩
  case round =>
   clear hB0 KT KP HO hws9
   obtain ⟨i,hi,rfl,HO,KT,KP,hB,hsz⟩:=hrel
   obtain ⟨kA,kcap,hkv,hkc1,hkc2⟩:=HO.out.form
   subst hkv
   obtain ⟨y0,y1,klt⟩:=KT.out.c2
   obtain ⟨z0,-,-,-,-,-,klt2⟩:=KP.out.c6
   have HRL:=jj (repTo_len t i)
   go_wp2_with fail
   refine (spec_l3Kids p.op H4.out wr).mono ?_
   rintro e w' ⟨rfl,hw'⟩
   rw [hw',HKN.out]
   clear hw' w'
   by_cases hil:i<kn
   ·have t1:decide ((i:Int)<(kn:Int))=true:=by simp;omega
    have hB1:Below wr wr wr:=zy2 _ _
    have HF2:=jj (repTo_succ t i)
    go_wp2_with (at_builtin;refine Halt.mk ?_)
    refine Halt.of (zA3 (P:=Try.prog) rfl _ _ 116 rfl i0 _ 16 Try.underlying116 HI.out HZ0.out HZ1.out HZ2.out rfl (by decide) TyR_len' TyR_mono' (by rfl) HO.out t 25 [t.d,t.i] [] wr.heap.size (by rfl) rfl (by simp [Value.oneCell']) ⟨rfl,rfl⟩ (Under.nil _) (fun _ _ h=>by cases h) (by have:=HRL.out;unfold maxLen;omega) (by have:=HRL.out;omega) hsz ?_)
    intro g cp w3 hown3 hgr3 hat3
    have hrow:=HO.out.row
    have hba:Below wr wr (wr.alloc (.cells #[t.d,t.i] 25)):=(zy2 _ _).alloc (zz8 _) _
    have hB3:Below (w.heap.size+2) wr w3:=(hba.mono hsz).grown hgr3 (by simp;omega) (fun g hg=>(hrow g (zA2.2 hg)).1)
    have HO3:=jj hown3
    have KT3:=jj (KT.out.same (hB3.block _ (by omega)))
    have KP3:=jj (KP.out.same (hB3.block _ (by omega)))
    have hB4:=hB.trans (hB3.mono (by omega))
    have hsz4:=Nat.le_trans hsz hB3.size
    clear hrow hba hB3 hown3 hgr3 hat3 y0 y1 z0 klt klt2
    go_wp2
    go_roundw
    case rel=>exact ⟨i+1,by omega,by go_num,by rw [HF2.out];exact HO3.out,KT3,KP3,hB4,hsz4⟩
    case measure=>(simp [intOf] <;> omega)
   ·have t1:decide ((i:Int)<(kn:Int))=false:=by simp;omega
    obtain rfl:i=kn:=by omega
    have HFin:Hid (MadeArr TyR w (typesP xs t p) (.returned (.slice kA (repTo t i).length kcap)) wr):=by rw [HTY.out];exact Own.gives HO.out hB (by omega) (fun b hb=>by cases hb) (Free.nil _)
    go_wp2
    go_ret
    exact HFin.out
def allP (f:Ty→P→Bool) (ls:List Ty) (ks:List P):Bool:=(ls.zip ks).all fun x=>f x.1 x.2
theorem allP_step {f:Ty→P→Bool} {ls:List Ty} {ks:List P} {i:Nat} (h1:i<ls.length) (h2:i<ks.length):allP f (ls.drop i) (ks.drop i)=(f ls[i] ks[i] && allP f (ls.drop (i+1)) (ks.drop (i+1))):=by
 rw [List.drop_eq_getElem_cons h1,List.drop_eq_getElem_cons h2];rfl
theorem allP_end {f:Ty→P→Bool} {ls:List Ty} {ks:List P} {i:Nat} (h1:ls.length≤i):allP f (ls.drop i) (ks.drop i)=true:=by
 rw [List.drop_of_length_le h1];rfl
theorem shapeB_succ (xs:List Dt) (d:Nat) (t:Ty) (p:P):shapeB xs (d+1) t p=(ownB xs t p && (p.ks.length==(typesP xs t p).length && allP (shapeB xs d) (typesP xs t p) p.ks)):=rfl
theorem typesP_in {xs:List Dt} (hw:WorldOK xs) {t:Ty} (ht:TyIn xs.length t) {p:P} (ho:ownB xs t p=true):∀ a∈typesP xs t p,TyIn xs.length a:=fun a ha=>by
 by_cases h4:p.op=4
 ·unfold typesP at ha
  rw [if_pos h4] at ha
  exact argsOf_in hw ht (ownB_ctor h4 ho) ha
 ·rw [zB9 h4] at ha
  have:=List.eq_of_mem_replicate ha
  rw [this];exact ht
theorem typesP_len {xs:List Dt} (hw:WorldOK xs) {t:Ty} (ht:TyIn xs.length t) {p:P} (ho:ownB xs t p=true):(typesP xs t p).length≤3:=by
 by_cases h4:p.op=4
 ·unfold typesP
  rw [if_pos h4]
  exact argsOf_len3 hw ht (ownB_ctor h4 ho)
 ·rw [zB9 h4,repTo_len]
  have:=kidsN_le p.op
  omega
def ShapeS (p:P):Prop:=∀ (xs:List Dt) (_:WorldOK xs) (d:Nat) (_:d≤10) (t:Ty) (_:TyIn xs.length t) (w:World) (x:Value) (F:List Nat) (cs:List Value) (G:List Nat),Arr w (DtR w) xs x F→Under w F→PR w p cs G→Under w G →
 Calls Try.prog 77 #[x,.agg #[t.d,t.i],.agg cs.toArray,(d:Int)] w fun e w'=>e=.returned (.bool (shapeB xs d t p))∧Below w w w'
theorem l3Shape_of (p:P) (ih:∀ k∈p.ks,ShapeS k):ShapeS p:=by
 intro xs hw d hd t ht w x F cs G hx hf hv hg
 have IH:=jj ih
 clear ih
 obtain ⟨kv,rfl,ha⟩:=(zA4 _ _ _).1 hv
 obtain ⟨A,cap,rfl,hc1,hc2⟩:=hx.form
 obtain ⟨A4,cap4,rfl,hc3,hc4⟩:=ha.form
 have HV:=jj hv
 have HX:=jj hx
 have HF:=jj hf
 have HA:=jj ha
 have HG:=jj hg
 clear hx hf ha hg
 clear hv
 have HW:=jj hw
 have HT:=jj ht
 clear hw ht
 cases d with
 |zero =>
  go_enter Try.func77,Try.ntmps77
  go_wp2
  go_ret
  exact ⟨zA0 rfl,((zy2 _ _).alloc (zz8 _) _).alloc (by simp) _⟩
 |succ d =>
 have hd1:decide (((d+1:Nat):Int)<1)=false:=by simp;omega
 have hde:((d+1:Nat):Int)=(d:Int)+1:=by omega
 rw [hde] at hd1 ⊢
 clear hde
 have HFD:=jj (shapeB_succ xs d t p)
 go_enter Try.func77,Try.ntmps77
 go_wp2_with fail
 obtain ⟨W2,hW2⟩:∃ W2,W2=((w.alloc (.cells #[t.d,t.i] 25)).alloc (.cells #[p.op,p.ct,p.n,p.m,p.va,.slice A4 p.ks.length cap4] 28)):=⟨_,rfl⟩
 have hB0:Below w w W2:=by rw [hW2];exact ((zy2 _ _).alloc (zz8 _) _).alloc (by simp) _
 have KT:Hid (Blk W2 w 25 #[t.d,t.i]):=by rw [hW2];exact (Blk.new w _ _).same (Below.heap_alloc _ _ _ (by simp))
 have KP:Hid (Blk W2 (w.heap.size+1) 28 #[p.op,p.ct,p.n,p.m,p.va,.slice A4 p.ks.length cap4]):=by rw [hW2];have h:=Blk.new (w.alloc (.cells #[t.d,t.i] 25)) 28 #[p.op,p.ct,p.n,p.m,p.va,.slice A4 p.ks.length cap4];rw [World.size_alloc] at h;exact h
 have hws:w.heap.size+2≤W2.heap.size:=by rw [hW2];simp
 rw [←hW2]
 clear hW2
 obtain ⟨y0,y1,klt⟩:=KT.out.c2
 obtain ⟨z0,z1,z2,z3,z4,z5,klt2⟩:=KP.out.c6
 go_wp2_with fail
 refine (spec_l3Own xs HW.out t HT.out p W2 _ F _ G (ArrDt.below HX.out hB0 HF.out) (HF.out.mono hB0.size) (HV.out.below hB0 HG.out) (HG.out.mono hB0.size)).mono ?_
 rintro e w3 ⟨rfl,hb3⟩
 have hB3:=hB0.trans (hb3.mono hB0.size)
 have KT3:=jj (KT.out.same (hb3.block _ KT.out.lt))
 have KP3:=jj (KP.out.same (hb3.block _ KP.out.lt))
 clear y0 y1 z0 z1 z2 z3 z4 z5 klt klt2
 obtain ⟨y0,y1,klt⟩:=KT3.out.c2
 obtain ⟨z0,z1,z2,z3,z4,z5,klt2⟩:=KP3.out.c6
 clear hb3 KT KP hB0
 cases e1:ownB xs t p with
 |false =>
  have hf:Hid (shapeB xs (d+1) t p=false):=by rw [HFD.out,e1];rfl
  clear e1
  go_wp2
  go_ret
  exact ⟨zA0 hf.out.symm,hB3⟩
 |true =>
  have h1:shapeB xs (d+1) t p=(p.ks.length==(typesP xs t p).length && allP (shapeB xs d) (typesP xs t p) p.ks):=by rw [HFD.out,e1,Bool.true_and]
  have H1:=jj h1
  have HO:=jj e1
  have HAI:=jj (typesP_in HW.out HT.out e1)
  have hl3:=typesP_len HW.out HT.out e1
  clear h1 e1
  go_wp2_with fail
  refine (spec_l3Types xs HW.out t HT.out p HO.out w3 _ F _ G (ArrDt.below HX.out hB3 HF.out) (HF.out.mono hB3.size) (HV.out.below hB3 HG.out) (HG.out.mono hB3.size)).mono ?_
  rintro e w6 ⟨v6,F6,rfl,hb6,ha6,-,hfs6⟩
  have hB6:=hB3.trans (hb6.mono hB3.size)
  have KT6:=jj (KT3.out.same (hb6.block _ KT3.out.lt))
  have KP6:=jj (KP3.out.same (hb6.block _ KP3.out.lt))
  generalize hass:typesP xs t p=ls at *
  clear hass
  obtain ⟨A6,cap6,rfl,hd3,hd4⟩:=ha6.form
  have HA6:=jj ha6
  have HU6:=jj hfs6.under
  clear y0 y1 z0 z1 z2 z3 z4 z5 klt klt2
  clear ha6 hfs6 hb6 KT3 KP3 hB3 KT6
  obtain ⟨-,-,-,-,-,z5,klt2⟩:=KP6.out.c6
  by_cases hln:p.ks.length=ls.length
  ·have t2:((p.ks.length:Int) != (ls.length:Int))=false:=by simp [hln]
   have h3:shapeB xs (d+1) t p=allP (shapeB xs d) ls p.ks:=by rw [H1.out,hln];simp
   have H3:=jj h3
   have HLN:=jj hln
   clear h3 hln
   go_wp2
   clear z5 klt2 t2
   go_loopw [10] (fun iv wr=>∃ i:Nat,i≤ls.length∧iv=.int .i64 i∧Hid (shapeB xs (d+1) t p=allP (shapeB xs d) (ls.drop i) (p.ks.drop i))∧Hid (Blk wr (w.heap.size+1) 28 #[p.op,p.ct,p.n,p.m,p.va,.slice A4 p.ks.length cap4])∧Below w w wr∧Hid (Below w6 w6 wr)) (fun iv _=>ls.length-(intOf iv).toNat)
   case atStart=>exact ⟨0,Nat.zero_le _,rfl,H3,KP6,hB6,zy2 _ _⟩
   case round =>
    clear hB6
    obtain ⟨i,hi,rfl,HR,KP,hB,HB6⟩:=hrel
    by_cases hil:i<ls.length
    ·have hik:i<p.ks.length:=by rw [HLN.out];exact hil
     obtain ⟨b6,off6,rfl⟩:=HA6.out.ptr (by omega)
     obtain ⟨hb6,a0,a1⟩:=ArrTy.at HA6.out HU6.out HB6.out i hil
     obtain ⟨b4,off4,rfl⟩:=HA.out.ptr (by omega)
     obtain ⟨A7,cap7,G7,hb7,k0,k1,k2,k3,k4,k5,HV7,HG7,-,-,-⟩:=ArrP.at HA.out HG.out hB i hik
     obtain ⟨-,-,-,-,-,z5,klt2⟩:=KP.out.c6
     have g1:(0:Int)≤(i:Int):=by omega
     have g2:(i:Int)<(ls.length:Int):=by omega
     have g3:(i:Int)<(p.ks.length:Int):=by omega
     have hstep:=HR.out
     rw [allP_step hil hik] at hstep
     have HST:=jj hstep
     clear hstep
     have hwr:IntKind.i64.wrap (d:Int)=(d:Int):=IntWalk.i64_in _ (by omega)
     have HCALL:=jj (IH.out p.ks[i] (List.getElem_mem hik) xs HW.out d (by omega) ls[i] (HAI.out _ (List.getElem_mem hil)) wr.drew _ F _ G7 (ArrDt.below HX.out hB.drew HF.out) (HF.out.mono hB.drew.size) (HV7.out.below hB.drew HG7.out) (HG7.out.mono hB.drew.size))
     go_wp2_with fail
     have hkeep:Kp wr.heap.size (fun U=>U.cell? ⟨b6,off6+i*2,none⟩=ls[i].d∧U.cell? ⟨b6,off6+i*2+1,none⟩=ls[i].i∧U.cell? ⟨w.heap.size+1,5,none⟩=some (.slice (some ⟨b4,off4,none⟩) p.ks.length cap4)∧U.cell? ⟨b4,off4+i*6,none⟩=p.ks[i].op∧U.cell? ⟨b4,off4+i*6+1,none⟩=p.ks[i].ct∧U.cell? ⟨b4,off4+i*6+2,none⟩=p.ks[i].n∧U.cell? ⟨b4,off4+i*6+3,none⟩=p.ks[i].m∧U.cell? ⟨b4,off4+i*6+4,none⟩=p.ks[i].va∧U.cell? ⟨b4,off4+i*6+5,none⟩=some (.slice A7 p.ks[i].ks.length cap7)):=fun U U' h hUU hU=>⟨(hUU.cell (zz9 (hb6) hU)).trans h.1,(hUU.cell (zz9 (hb6) hU)).trans h.2.1,(hUU.cell (zz9 (klt2) hU)).trans h.2.2.1,(hUU.cell (zz9 (hb7) hU)).trans h.2.2.2.1,(hUU.cell (zz9 (hb7) hU)).trans h.2.2.2.2.1,(hUU.cell (zz9 (hb7) hU)).trans h.2.2.2.2.2.1,(hUU.cell (zz9 (hb7) hU)).trans h.2.2.2.2.2.2.1,(hUU.cell (zz9 (hb7) hU)).trans h.2.2.2.2.2.2.2.1,(hUU.cell (zz9 (hb7) hU)).trans h.2.2.2.2.2.2.2.2⟩
     have HKeep:=jj hkeep
     clear hkeep
     go_region_held3 (fun w'=>w'.cell? ⟨b6,off6+i*2,none⟩=ls[i].d∧w'.cell? ⟨b6,off6+i*2+1,none⟩=ls[i].i∧w'.cell? ⟨w.heap.size+1,5,none⟩=some (.slice (some ⟨b4,off4,none⟩) p.ks.length cap4)∧w'.cell? ⟨b4,off4+i*6,none⟩=p.ks[i].op∧w'.cell? ⟨b4,off4+i*6+1,none⟩=p.ks[i].ct∧w'.cell? ⟨b4,off4+i*6+2,none⟩=p.ks[i].n∧w'.cell? ⟨b4,off4+i*6+3,none⟩=p.ks[i].m∧w'.cell? ⟨b4,off4+i*6+4,none⟩=p.ks[i].va∧w'.cell? ⟨b4,off4+i*6+5,none⟩=some (.slice A7 p.ks[i].ks.length cap7)) (first | assumption | (exact ⟨a0,a1,z5,k0,k1,k2,k3,k4,k5⟩) | (exact HKeep.out wr.drew w' ⟨a0,a1,z5,k0,k1,k2,k3,k4,k5⟩ hB' (zz8 _))) (first | (go_at_call 77;((with_reducible refine HCALL.out.mono ?_);rintro e w' ⟨rfl,hB'⟩)))
     have hB3:=hB.drew.trans (hB'.mono hB.size)
     have HB3:=jj (HB6.out.drew.trans (hB'.mono HB6.out.size))
     have KP3:=jj (KP.out.same (hB'.block _ KP.out.lt))
     clear HKeep hwr
     cases e3:shapeB xs d ls[i] p.ks[i] with
     |false =>
      have hf:Hid (shapeB xs (d+1) t p=false):=by rw [HST.out,e3];rfl
      clear e3
      go_wp2
      go_ret
      exact ⟨zA0 hf.out.symm,hB3⟩
     |true =>
      have hR2:Hid (shapeB xs (d+1) t p=allP (shapeB xs d) (ls.drop (i+1)) (p.ks.drop (i+1))):=by rw [HST.out,e3,Bool.true_and];rfl
      clear e3
      go_wp2
      go_roundw
      case rel=>exact ⟨i+1,by omega,by go_num,hR2,KP3,hB3,HB3⟩
      case measure=>(simp [intOf] <;> omega)
    ·have hf:Hid (shapeB xs (d+1) t p=true):=by rw [HR.out];exact allP_end (by omega)
     go_wp2
     go_ret
     exact ⟨zA0 hf.out.symm,hB⟩
  ·have t2:((p.ks.length:Int) != (ls.length:Int))=true:=by rw [bne_iff_ne];omega
   have hf:Hid (shapeB xs (d+1) t p=false):=by unfold Hid;rw [H1.out];simp [hln]
   clear hln
   go_wp2
   go_ret
   exact ⟨zA0 hf.out.symm,hB6⟩
theorem spec_l3Shape:∀ p,ShapeS p:=P.indv l3Shape_of
theorem ArrVt.at {w0 w:World} {b off n cap:Nat} {F:List Nat} {xs:List Vt} (h:Arr w0 (VtR w0) xs (.slice (some ⟨b,off,none⟩) n cap) F) (hF:Under w0 F) (hB:Below w0 w0 w) (i:Nat) (hi:i<xs.length) :
  b<w.heap.size∧w.cell? ⟨b,off+i*3,none⟩=xs[i].var∧w.cell? ⟨b,off+i*3+1,none⟩=xs[i].ty.d∧w.cell? ⟨b,off+i*3+2,none⟩=xs[i].ty.i:=by
 obtain ⟨b',off',cs,G,e,hb,hcs,hv,hG⟩:=h.get (VtR_len w0) hi
 cases e
 have hbl:=hF _ hb
 have hc:=hcs.same (hB.block _ hbl)
 obtain ⟨rfl,rfl⟩:=hv
 exact ⟨zz9 hbl hB.size,hc 0 _ rfl,hc 1 _ rfl,hc 2 _ rfl⟩
theorem spec_l3Find (xs:List Vt) (n r:Int) (hr:FirstAt (fun x:Vt=>x.var==n) xs r) (w:World) (x:Value) (F:List Nat) (hx:Arr w (VtR w) xs x F) (hf:Under w F) :
  Calls Try.prog 98 #[x,.int .i64 n] w fun e w'=>e=.returned (.int .i64 r)∧Below w w w':=by
 obtain ⟨A,cap,rfl,hc1,hc2⟩:=hx.form
 have HX:=jj hx
 have HF:=jj hf
 have HR:=jj hr
 clear hx hf hr
 go_enter Try.func98,Try.ntmps98
 go_wp2
 go_loopw [5] (fun i wr=>∃ k:Nat,k≤xs.length∧i=.int .i64 k∧Hid (∀ j (hj:j<xs.length),j<k→(xs[j].var==n)=false)∧Below w w wr) (fun i _=>xs.length-(intOf i).toNat)
 case atStart=>exact ⟨0,Nat.zero_le _,rfl,fun j hj h=>by omega,zy2 _ _⟩
 case round =>
  obtain ⟨k,hk,rfl,HT,hB⟩:=hrel
  by_cases hlt:k<xs.length
  ·have g1:(0:Int)≤(k:Int):=by omega
   have g2:(k:Int)<(xs.length:Int):=by omega
   obtain ⟨b,off,rfl⟩:=HX.out.ptr (by omega)
   obtain ⟨hb,c0,c1,c2⟩:=ArrVt.at HX.out HF.out hB k hlt
   cases hq:(xs[k].var==n) with
   |true =>
    have hf:=jj (HR.out.hit hlt hq (fun j hj h=>HT.out j hj h))
    go_wp2
    go_ret
    exact ⟨zAP hf.out.symm,hB⟩
   |false =>
    have hT2:Hid (∀ j (hj:j<xs.length),j<k+1→(xs[j].var==n)=false):=fun j hj h=>by
     rcases Nat.lt_or_ge j k with h2 | h2
     ·exact HT.out j hj h2
     ·obtain rfl:j=k:=by omega
      exact hq
    go_wp2
    go_roundw
    case rel=>exact ⟨k+1,by omega,by go_num,hT2,hB⟩
    case measure=>(simp [intOf] <;> omega)
  ·have hf:Hid (r = -1):=HR.out.miss (fun j hj=>HT.out j hj (by omega))
   go_wp2
   go_ret
   exact ⟨zAP hf.out.symm,hB⟩
theorem allP_at {f:Ty→P→Bool} {ls:List Ty} {ks:List P} (h:allP f ls ks=true) {i:Nat} (h1:i<ls.length) (h2:i<ks.length):f ls[i] ks[i]=true:=by
 unfold allP at h
 rw [List.all_eq_true] at h
 exact h _ (List.mem_iff_getElem.2 ⟨i,by rw [List.length_zip];omega,by rw [List.getElem_zip]⟩)
theorem snd_zip {α β:Type}:∀ (l:List α) (m:List β),(l.zip m).map Prod.snd=m.take l.length
 |[],m=>by simp
 |a :: l,[]=>by simp
 |a :: l,b :: m=>by simp [snd_zip l m]
theorem info_VtE:(Try.prog.info? 107).map (fun i=>(i.zero,i.size,i.bytes))=some (some (.agg #[(0:Int),(0:Int),(0:Int)]),3,24):=by kernel_rfl
theorem zB0 {F G:List Nat} {a b c:World} (h:Chg F a b) (k:Chg G b c) (hr:∀ g∈G,g∈F∨a.heap.size≤g):Chg F a c :=
 ⟨k.os.trans h.os,k.tape.trans h.tape,k.output.trans h.output,Nat.le_trans h.size k.size,fun i hi hF=>(k.block i (zz9 hi h.size) (fun hG=>by
  rcases hr i hG with h1 | h1
  ·exact hF h1
  ·omega)).trans (h.block i hi hF)⟩
theorem grow_rows {F G H:List Nat} {a b:World} (hs:a.heap.size≤b.heap.size) (h:∀ g∈G,g∈F∨a.heap.size≤g) (k:∀ g∈H,g∈G∨b.heap.size≤g):∀ g∈H,g∈F∨a.heap.size≤g:=fun g hg=>by
 rcases k g hg with h1 | h1
 ·exact h g h1
 ·exact .inr (by omega)
theorem grown_chg {wr w7:World} {v:Value} {o:Obj} (hgr:(wr.alloc o).grownBy w7 v.ownBlock):Chg (rowOf v) wr w7 :=
 ⟨hgr.os,hgr.tape,hgr.output,Nat.le_trans (by simp) hgr.size,fun b hb hF=>(hgr.block b (by simp;omega) (fun e=>hF (zA2.2 e.symm))).trans (Below.heap_alloc _ _ _ hb)⟩
theorem grown_rows {wr:World} {v:Value} {g n cp:Nat} (hat:v.ownBlock=some g∨g=wr.heap.size+1):∀ g'∈rowOf (.slice (some ⟨g,0,none⟩) n cp),g'∈rowOf v∨wr.heap.size≤g':=fun g' hg'=>by
 rw [zA7,zy1] at hg'
 subst hg'
 rcases hat with h | h
 ·exact .inl (zA2.2 h)
 ·exact .inr (by omega)
def accP (ys:List Vt) (xs:List Dt) (d:Nat) (t:Ty) (p:P) (i:Nat):List Vt:=ys ++ ((if namedB p=true then [⟨p.va,t⟩] else []) ++ (((typesP xs t p).zip p.ks).take i).flatMap fun x=>varsN xs d x.1 x.2)
theorem accP_named {ys:List Vt} {xs:List Dt} {d:Nat} {t:Ty} {p:P} (h:namedB p=true):accP ys xs d t p 0=ys ++ [⟨p.va,t⟩]:=by unfold accP;rw [if_pos h];simp
theorem accP_bare {ys:List Vt} {xs:List Dt} {d:Nat} {t:Ty} {p:P} (h:namedB p=false):accP ys xs d t p 0=ys:=by unfold accP;rw [if_neg (by simp [h])];simp
theorem accP_succ (ys:List Vt) {xs:List Dt} (d:Nat) {t:Ty} {p:P} {i:Nat} (h1:i<(typesP xs t p).length) (h2:i<p.ks.length):accP ys xs d t p (i+1)=accP ys xs d t p i ++ varsN xs d (typesP xs t p)[i] p.ks[i]:=by
 unfold accP
 rw [take_snoc' _ i (by rw [List.length_zip];omega),List.flatMap_append,List.getElem_zip]
 simp [List.append_assoc]
theorem accP_done {ys:List Vt} {xs:List Dt} {d:Nat} {t:Ty} {p:P} {i:Nat} (h:i=if p.op=5 then 1 else p.ks.length):accP ys xs d t p i=ys ++ varsN xs (d+1) t p:=by
 subst h;rfl
theorem varsN_len (xs:List Dt):∀ (d:Nat) (t:Ty) (p:P),(varsN xs d t p).length≤nodesP p
 |0,_,_=>by simp [varsN]
 |d+1,t,p=>by
  have key:∀ (l:List (Ty×P)),(l.flatMap fun x=>varsN xs d x.1 x.2).length≤P.sizes (l.map Prod.snd):=by
   intro l
   induction l with
   |nil=>simp
   |cons a l ih =>
    have h1:=varsN_len xs d a.1 a.2
    unfold nodesP at h1
    simp only [List.flatMap_cons,List.length_append,List.map_cons,P.sizes]
    omega
  have h2:P.sizes ((kidsV xs t p).map Prod.snd)≤P.sizes p.ks:=by
   have e:∃ n,(kidsV xs t p).map Prod.snd=p.ks.take n:=by
    unfold kidsV
    rw [List.map_take,snd_zip,List.take_take]
    exact ⟨_,rfl⟩
   obtain ⟨n,e⟩:=e
   rw [e]
   exact zAG p.ks n
  have h3:=key (kidsV xs t p)
  have h4:((if namedB p=true then [(⟨p.va,t⟩:Vt)] else []):List Vt).length≤1:=by split <;> simp
  have h5:=zA5 p
  show ((if namedB p=true then [(⟨p.va,t⟩:Vt)] else []) ++ (kidsV xs t p).flatMap fun x=>varsN xs d x.1 x.2).length≤nodesP p
  rw [List.length_append]
  omega
theorem accP_len (ys:List Vt) (xs:List Dt) (d:Nat) (t:Ty) (p:P) (i:Nat):(accP ys xs d t p i).length≤ys.length+1+P.sizes (p.ks.take i):=by
 have key:∀ (l:List (Ty×P)),(l.flatMap fun x=>varsN xs d x.1 x.2).length≤P.sizes (l.map Prod.snd):=by
  intro l
  induction l with
  |nil=>simp
  |cons a l ih =>
   have h1:=varsN_len xs d a.1 a.2
   unfold nodesP at h1
   simp only [List.flatMap_cons,List.length_append,List.map_cons,P.sizes]
   omega
 have h3:=key (((typesP xs t p).zip p.ks).take i)
 have e:∃ n,(((typesP xs t p).zip p.ks).take i).map Prod.snd=(p.ks.take i).take n:=by
  rw [List.map_take,snd_zip,List.take_take]
  exact ⟨(typesP xs t p).length,by rw [List.take_take,Nat.min_comm]⟩
 obtain ⟨n,e⟩:=e
 rw [e] at h3
 have h2:=zAG (p.ks.take i) n
 have h4:((if namedB p=true then [(⟨p.va,t⟩:Vt)] else []):List Vt).length≤1:=by split <;> simp
 unfold accP
 rw [List.length_append,List.length_append]
 omega
def VarsPost (xs:List Dt) (d:Nat) (t:Ty) (p:P) (B:Nat) (ys:List Vt) (ov:Value) (w:World) (e:Ending) (w':World):Prop :=
 ∃ ov',e=.returned ov'∧Own w' B 107 3 VtR (ys ++ varsN xs d t p) ov' []∧Chg (rowOf ov) w w'∧∀ g∈rowOf ov',g∈rowOf ov∨w.heap.size≤g
def VarsS (p:P):Prop:=∀ (xs:List Dt) (_:WorldOK xs) (d:Nat) (t:Ty) (_:TyIn xs.length t) (_:shapeB xs d t p=true) (w:World) (x:Value) (F:List Nat) (cs:List Value) (G:List Nat) (B:Nat) (ys:List Vt) (ov:Value),Own w B 107 3 VtR ys ov []→B≤w.heap.size→ys.length+nodesP p≤4000000 →
 Arr w (DtR w) xs x F→Under B F→PR w p cs G→Under B G →
 Calls Try.prog 69 #[ov,x,.agg #[t.d,t.i],.agg cs.toArray] w (VarsPost xs d t p B ys ov w)
theorem l3Vars_of (p:P) (ih:∀ k∈p.ks,VarsS k):VarsS p:=by
 intro xs hw d t ht hs w x F cs G B ys ov hown hBw hz hx hf hv hg
 have IH:=jj ih
 have HOW:=jj hown
 have HZ:=jj hz
 have hyl:ys.length+1≤4000000:=by unfold nodesP at hz;omega
 clear ih hown hz
 obtain ⟨kv,rfl,ha⟩:=(zA4 _ _ _).1 hv
 obtain ⟨A,cap,rfl,hc1,hc2⟩:=hx.form
 obtain ⟨A4,cap4,rfl,hc3,hc4⟩:=ha.form
 have HV:=jj hv
 have HX:=jj hx
 have HF:=jj hf
 have HA:=jj ha
 have HG:=jj hg
 clear hx hf ha hg
 clear hv
 have HW:=jj hw
 have HT:=jj ht
 clear hw ht
 cases d with
 |zero=>cases hs
 |succ d =>
 rw [shapeB_succ] at hs
 simp only [Bool.and_eq_true,beq_iff_eq] at hs
 obtain ⟨ho,hlen,hsh⟩:=hs
 have HO:=jj ho
 have HAI:=jj (typesP_in HW.out HT.out ho)
 have hl3:=typesP_len HW.out HT.out ho
 have HSH:=jj (fun (i:Nat) (h1:i<(typesP xs t p).length) (h2:i<p.ks.length)=>allP_at hsh h1 h2)
 have HL5:=jj (fun (h:p.op=5)=>(show (typesP xs t p).length=2 by rw [typesP_or h];rfl))
 have HDF:Hid (∀ b∈F,b∉rowOf ov):=fun b hb hr=>by have h1:=HF.out b hb;have h2:=(HOW.out.row b hr).1;omega
 have HDG:Hid (∀ b∈G,b∉rowOf ov):=fun b hb hr=>by have h1:=HG.out b hb;have h2:=(HOW.out.row b hr).1;omega
 have HLN:=jj hlen
 clear ho hsh hlen
 obtain ⟨oA,ocap,rfl,hoc1,hoc2⟩:=HOW.out.form
 by_cases hnm:namedB p=true
 ·have hn2:p.op=2∨p.op=6:=by unfold namedB at hnm;simpa using hnm
  obtain ⟨i0,hi,hz0,hz1,hz2⟩:=info_parts info_VtE
  have HI:=jj hi
  have HZ0:=jj hz0
  have HZ1:=jj hz1
  have HZ2:=jj hz2
  clear hi hz0 hz1 hz2
  have HAC:=jj (accP_named (ys:=ys) (xs:=xs) (d:=d) (t:=t) hnm)
  clear hnm
  rcases hn2 with h2 | h2
  have t2:(p.op==2)=true:=by simp [h2]
  rotate_left
  have t2:(p.op==2)=false:=by simp [h2]
  have t6:(p.op==6)=true:=by simp [h2]
  rotate_left
  all_goals (
   clear h2
   go_enter Try.func69,Try.ntmps69
   go_wp2_with (at_builtin;refine Halt.mk ?_)
   obtain ⟨W2,hW2⟩:∃ W2,W2=((w.alloc (.cells #[t.d,t.i] 25)).alloc (.cells #[p.op,p.ct,p.n,p.m,p.va,.slice A4 p.ks.length cap4] 28)):=⟨_,rfl⟩
   have hB0:Below w w W2:=by rw [hW2];exact ((zy2 _ _).alloc (zz8 _) _).alloc (by simp) _
   have KT:Hid (Blk W2 w 25 #[t.d,t.i]):=by rw [hW2];exact (Blk.new w _ _).same (Below.heap_alloc _ _ _ (by simp))
   have KP:Hid (Blk W2 (w.heap.size+1) 28 #[p.op,p.ct,p.n,p.m,p.va,.slice A4 p.ks.length cap4]):=by rw [hW2];have h:=Blk.new (w.alloc (.cells #[t.d,t.i] 25)) 28 #[p.op,p.ct,p.n,p.m,p.va,.slice A4 p.ks.length cap4];rw [World.size_alloc] at h;exact h
   have hws:w.heap.size+2≤W2.heap.size:=by rw [hW2];simp
   have hws2:W2.heap.size=w.heap.size+1+1:=by rw [hW2];simp
   rw [←hW2]
   clear hW2
   obtain ⟨y0,y1,klt⟩:=KT.out.c2
   obtain ⟨z0,z1,z2,z3,z4,z5,klt2⟩:=KP.out.c6
   have HOB:Hid (Own W2 B 107 3 VtR ys (.slice oA ys.length ocap) []):=HOW.out.below (fun x cs G hk h=>zA6 _ _ x cs G hk h) hB0
   refine Halt.of (zA3 (P:=Try.prog) rfl _ _ 33 rfl i0 _ 24 Try.underlying33 HI.out HZ0.out HZ1.out HZ2.out rfl (by decide) VtR_len zA6 (by rfl) HOB.out ⟨p.va,t⟩ 107 [p.va,t.d,t.i] [] _ (by rfl) hws2 (by simp [Value.oneCell']) ⟨rfl,rfl⟩ (Under.nil _) (fun _ _ h=>by cases h) (by unfold maxLen;omega) (by omega) (Nat.le_trans hBw hB0.size) ?_)
   intro gr cp w5 hown5 hgr5 hat5
   have hC25:=grown_chg hgr5
   have HC5:Hid (Chg (rowOf (.slice oA ys.length ocap)) w w5):=(Chg.of_below hB0).trans hC25
   have hnt:w.heap.size∉rowOf (.slice oA ys.length ocap):=fun h=>by have:=(HOW.out.row _ h).2;omega
   have hnp:w.heap.size+1∉rowOf (.slice oA ys.length ocap):=fun h=>by have:=(HOW.out.row _ h).2;omega
   have KT5:=jj (KT.out.same (hC25.block _ KT.out.lt hnt))
   have KP5:=jj (KP.out.same (hC25.block _ KP.out.lt hnp))
   have hsz5:=Nat.le_trans hws hC25.size
   have HR5:Hid (∀ g'∈rowOf (.slice (some ⟨gr,0,none⟩) (ys.length+1) cp),g'∈rowOf (.slice oA ys.length ocap)∨w.heap.size+2≤g'):=fun g' hg'=>by
    rcases grown_rows hat5 g' hg' with h | h
    ·exact .inl h
    ·exact .inr (by omega)
   have HO5:Hid (Own w5 B 107 3 VtR (accP ys xs d t p 0) (.slice (some ⟨gr,0,none⟩) (ys.length+1) cp) []):=by rw [HAC.out];exact hown5
   clear y0 y1 z0 z1 z2 z3 z4 z5 klt klt2
   clear KT KP hB0 hws hown5 hgr5 hat5 hC25 hnt hnp HOB
   -- from here: world w5, slot (.slice (some ⟨gr, 0, none⟩) (ys.length + 1) cp)
   obtain ⟨y0,y1,klt⟩:=KT5.out.c2
   obtain ⟨z0,z1,z2,z3,z4,z5,klt2⟩:=KP5.out.c6
   go_wp2_with fail
   refine (spec_l3Types xs HW.out t HT.out p HO.out w5 _ F _ G (ArrDt.mono HX.out (HC5.out.kept (HF.out.mono hBw) HDF.out)) (HF.out.mono (Nat.le_trans hBw HC5.out.size)) (PR.mono _ _ _ (HC5.out.kept (HG.out.mono hBw) HDG.out) HV.out) (HG.out.mono (Nat.le_trans hBw HC5.out.size))).mono ?_
   rintro e w6 ⟨v6,F6,rfl,hb6,ha6,-,hfs6⟩
   have KT6:=jj (KT5.out.same (hb6.block _ KT5.out.lt))
   have KP6:=jj (KP5.out.same (hb6.block _ KP5.out.lt))
   have HC6:=jj (HC5.out.step hb6)
   have HO6:Hid (Own w6 B 107 3 VtR (accP ys xs d t p 0) (.slice (some ⟨gr,0,none⟩) (ys.length+1) cp) []):=HO5.out.below (fun x cs G hk h=>zA6 _ _ x cs G hk h) hb6
   have HN6:Hid (∀ g∈rowOf (.slice (some ⟨gr,0,none⟩) (ys.length+1) cp),g∉F6):=fun g hg hF=>by have h1:=(HO5.out.row g hg).2;have h2:=(hfs6 g hF).1;omega
   have hsz6:w.heap.size+2≤w6.heap.size:=Nat.le_trans hsz5 hb6.size
   have HL:=jj (fun (i:Nat) (h1:i<(typesP xs t p).length) (h2:i<p.ks.length)=>accP_succ ys d h1 h2)
   generalize hass:typesP xs t p=ls at *
   clear hass
   obtain ⟨A6,cap6,rfl,hd3,hd4⟩:=ha6.form
   have HA6:=jj ha6
   have HU6:=jj hfs6.under
   clear y0 y1 z0 z1 z2 z3 z4 z5 klt klt2
   clear ha6 hfs6 hb6 KT5 KP5 KT6 HO5 HC5
   go_wp2
   go_loopw [0,10] (fun ovr iv wr=>∃ i:Nat,i≤ls.length∧(p.op=5→i≤1)∧iv=.int .i64 i∧Hid (Own wr B 107 3 VtR (accP ys xs d t p i) ovr [])∧Hid (Chg (rowOf (.slice (some ⟨gr,0,none⟩) (ys.length+1) cp)) w6 wr)∧Hid (∀ g∈rowOf ovr,g∈rowOf (.slice (some ⟨gr,0,none⟩) (ys.length+1) cp)∨w6.heap.size≤g)) (fun _ iv _=>ls.length-(intOf iv).toNat)
   case atStart=>exact ⟨0,Nat.zero_le _,fun _=>by omega,rfl,HO6,Chg.refl _ _,fun g hg=>.inl hg⟩
   case round =>
    obtain ⟨i,hi,hi5,rfl,HO7,HC7,HR7⟩:=hrel
    have hszr:w.heap.size+2≤wr.heap.size:=Nat.le_trans hsz6 HC7.out.size
    have nkp:Hid (w.heap.size+1∉rowOf (.slice (some ⟨gr,0,none⟩) (ys.length+1) cp)):=fun h=>by
     rcases HR5.out _ h with h1 | h1
     ·have:=(HOW.out.row _ h1).2;omega
     ·omega
    have KPr:=jj (KP6.out.same (HC7.out.block _ KP6.out.lt nkp.out))
    obtain ⟨z0,-,-,-,-,-,klt2⟩:=KPr.out.c6
    have hCW:=jj (zB0 HC6.out HC7.out (fun g hg=>by
     rcases HR5.out g hg with h | h
     ·exact .inl h
     ·exact .inr (by omega)))
    have hend:(i=if p.op=5 then 1 else p.ks.length)→VarsPost xs (d+1) t p B ys (.slice oA ys.length ocap) w (.returned u0) wr:=fun h=>⟨_,rfl,by rw [←accP_done h];exact HO7.out,hCW.out,fun g hg=>by
     rcases HR7.out g hg with h | h
     ·rcases HR5.out g h with h | h
      ·exact .inl h
      ·exact .inr (by omega)
     ·exact .inr (by omega)⟩
    have HEnd:=jj hend
    clear hend
    by_cases hil:i<ls.length
    ·have t1:decide ((i:Int)<(ls.length:Int))=true:=by simp;omega
     by_cases hgo:i=0∨¬p.op=5
     ·have hik:i<p.ks.length:=by rw [HLN.out];exact hil
      have hA6r:=ArrTy.mono HA6.out (HC7.out.kept HU6.out (fun b hb hr=>HN6.out b hr hb))
      have hU6r:=HU6.out.mono HC7.out.size
      have hKr:=ArrP.mono HA.out (hCW.out.kept (HG.out.mono hBw) HDG.out)
      have hGr:Under wr G:=HG.out.mono (Nat.le_trans hBw hCW.out.size)
      obtain ⟨b6,off6,rfl⟩:=HA6.out.ptr (by omega)
      obtain ⟨b4,off4,rfl⟩:=HA.out.ptr (by omega)
      have hb6F:b6∈F6:=by obtain ⟨_,_,_,_,e,hb,-⟩:=HA6.out.get TyR_len hil;cases e;exact hb
      have hb4G:b4∈G:=by obtain ⟨_,_,_,_,e,hb,-⟩:=HA.out.get PR_len hik;cases e;exact hb
      have nb6:Hid (b6∉rowOf u0):=fun h=>by
       rcases HR7.out _ h with h1 | h1
       ·exact HN6.out _ h1 hb6F
       ·have:=HU6.out _ hb6F;omega
      have nbp:Hid (w.heap.size+1∉rowOf u0):=fun h=>by
       rcases HR7.out _ h with h1 | h1
       ·exact nkp.out h1
       ·omega
      have nb4:Hid (b4∉rowOf u0):=fun h=>by have h1:=(HO7.out.row _ h).1;have h2:=HG.out _ hb4G;omega
      obtain ⟨hb6,a0,a1⟩:=ArrTy.at hA6r hU6r (zy2 _ _) i hil
      obtain ⟨A7,cap7,G7,hb7,k0,k1,k2,k3,k4,k5,HV7,HG7,hsub,-,-⟩:=ArrP.at hKr hGr (zy2 _ _) i hik
      obtain ⟨-,-,-,-,-,z5,-⟩:=KPr.out.c6
      have g1:(0:Int)≤(i:Int):=by omega
      have g2:(i:Int)<(ls.length:Int):=by omega
      have g3:(i:Int)<(p.ks.length:Int):=by omega
      have HXr:=jj (ArrDt.mono HX.out (hCW.out.kept (HF.out.mono hBw) HDF.out))
      have HNX:=jj (HL.out i hil hik)
      have hlenacc:(accP ys xs d t p i).length+nodesP p.ks[i]≤4000000:=by
       have h1:=accP_len ys xs d t p i
       have h2:=sizesP_step hik
       have h3:=zAG p.ks (i+1)
       have h4:=zA5 p
       have h5:=HZ.out
       omega
      have HCALL:=jj (IH.out p.ks[i] (List.getElem_mem hik) xs HW.out d ls[i] (HAI.out _ (List.getElem_mem hil)) (HSH.out i hil hik) wr.drew _ F _ G7 B (accP ys xs d t p i) u0 (HO7.out.below (fun x cs G hk h=>zA6 _ _ x cs G hk h) (zy2 _ _).drew) (Nat.le_trans hBw hCW.out.size) hlenacc (ArrDt.drew HXr.out) HF.out HV7.out.drew (HG.out.sub hsub))
      clear hlenacc hA6r hU6r hKr hGr hb6F hb4G
      by_cases hi0:i=0
      have t2:((i:Int)==0)=true:=by simp [hi0]
      clear hi0
      rotate_left
      have t2:((i:Int)==0)=false:=by simpa using hi0
      have t3:(p.op != 5)=true:=by simpa using hgo.resolve_left hi0
      rotate_left
      all_goals (
       go_wp2_with fail
       go_region_held3 (fun w'=>w'.cell? ⟨b6,off6+i*2,none⟩=ls[i].d∧w'.cell? ⟨b6,off6+i*2+1,none⟩=ls[i].i∧w'.cell? ⟨w.heap.size+1,5,none⟩=some (.slice (some ⟨b4,off4,none⟩) p.ks.length cap4)∧w'.cell? ⟨b4,off4+i*6,none⟩=p.ks[i].op∧w'.cell? ⟨b4,off4+i*6+1,none⟩=p.ks[i].ct∧w'.cell? ⟨b4,off4+i*6+2,none⟩=p.ks[i].n∧w'.cell? ⟨b4,off4+i*6+3,none⟩=p.ks[i].m∧w'.cell? ⟨b4,off4+i*6+4,none⟩=p.ks[i].va∧w'.cell? ⟨b4,off4+i*6+5,none⟩=some (.slice A7 p.ks[i].ks.length cap7)) (first | assumption | (exact ⟨a0,a1,z5,k0,k1,k2,k3,k4,k5⟩)) ((go_at_call 69;((with_reducible refine HCALL.out.mono ?_);rintro e w' ⟨ov',rfl,ho',hc',hr'⟩);have hkp:w'.cell? ⟨b6,off6+i*2,none⟩=ls[i].d∧w'.cell? ⟨b6,off6+i*2+1,none⟩=ls[i].i∧w'.cell? ⟨w.heap.size+1,5,none⟩=some (.slice (some ⟨b4,off4,none⟩) p.ks.length cap4)∧w'.cell? ⟨b4,off4+i*6,none⟩=p.ks[i].op∧w'.cell? ⟨b4,off4+i*6+1,none⟩=p.ks[i].ct∧w'.cell? ⟨b4,off4+i*6+2,none⟩=p.ks[i].n∧w'.cell? ⟨b4,off4+i*6+3,none⟩=p.ks[i].m∧w'.cell? ⟨b4,off4+i*6+4,none⟩=p.ks[i].va∧w'.cell? ⟨b4,off4+i*6+5,none⟩=some (.slice A7 p.ks[i].ks.length cap7):=⟨(hc'.cell (p:=⟨b6,off6+i*2,none⟩) hb6 nb6.out).trans a0,(hc'.cell (p:=⟨b6,off6+i*2+1,none⟩) hb6 nb6.out).trans a1,(hc'.cell (p:=⟨w.heap.size+1,5,none⟩) klt2 nbp.out).trans z5,(hc'.cell (p:=⟨b4,off4+i*6,none⟩) hb7 nb4.out).trans k0,(hc'.cell (p:=⟨b4,off4+i*6+1,none⟩) hb7 nb4.out).trans k1,(hc'.cell (p:=⟨b4,off4+i*6+2,none⟩) hb7 nb4.out).trans k2,(hc'.cell (p:=⟨b4,off4+i*6+3,none⟩) hb7 nb4.out).trans k3,(hc'.cell (p:=⟨b4,off4+i*6+4,none⟩) hb7 nb4.out).trans k4,(hc'.cell (p:=⟨b4,off4+i*6+5,none⟩) hb7 nb4.out).trans k5⟩))
       have HO8:Hid (Own w' B 107 3 VtR (accP ys xs d t p (i+1)) ov' []):=by rw [HNX.out];exact ho'
       have HC8:=jj (zB0 HC7.out hc'.undrew HR7.out)
       have HR8:=jj (grow_rows HC7.out.size HR7.out hr')
       clear ho' hc' hr' hkp
       clear t1 z0 z5 klt2 a0 a1 k0 k1 k2 k3 k4 k5
       go_wp2
       go_roundw
       case rel=>exact ⟨i+1,by omega,fun h5=>by rcases hgo with h | h;omega;exact absurd h5 h,by go_num,HO8,HC8,HR8⟩
       case measure=>(simp [intOf] <;> omega))
     ·have h5:p.op=5:=Classical.byContradiction fun h=>hgo (.inr h)
      have hi0:¬i=0:=fun h=>hgo (.inl h)
      have t2:((i:Int)==0)=false:=by simpa using hi0
      have t3:(p.op != 5)=false:=by simp [h5]
      have HFin:=jj (HEnd.out (by rw [if_pos h5];have:=hi5 h5;omega))
      clear h5 hi0 hgo hi5
      go_wp2
      go_ret
      exact HFin.out
    ·have t1:decide ((i:Int)<(ls.length:Int))=false:=by simp;omega
     have HFin:=jj (HEnd.out (by
      split
      ·rename_i h5
       have h1:=hi5 h5
       have h2:=HL5.out h5
       omega
      ·rw [HLN.out];omega))
     clear hi5
     go_wp2
     go_ret
     exact HFin.out)
 ·have hn2:¬p.op=2:=fun h=>hnm (by unfold namedB;simp [h])
  have hn6:¬p.op=6:=fun h=>hnm (by unfold namedB;simp [h])
  have t2:(p.op==2)=false:=by simpa using hn2
  have t6:(p.op==6)=false:=by simpa using hn6
  have HAC:=jj (accP_bare (ys:=ys) (xs:=xs) (d:=d) (t:=t) (Bool.eq_false_iff.2 hnm))
  clear hnm
  go_enter Try.func69,Try.ntmps69
  go_wp2_with fail
  obtain ⟨w5,hw5⟩:∃ w5,w5=((w.alloc (.cells #[t.d,t.i] 25)).alloc (.cells #[p.op,p.ct,p.n,p.m,p.va,.slice A4 p.ks.length cap4] 28)):=⟨_,rfl⟩
  have hB0:Below w w w5:=by rw [hw5];exact ((zy2 _ _).alloc (zz8 _) _).alloc (by simp) _
  have KT:Hid (Blk w5 w 25 #[t.d,t.i]):=by rw [hw5];exact (Blk.new w _ _).same (Below.heap_alloc _ _ _ (by simp))
  have KP:Hid (Blk w5 (w.heap.size+1) 28 #[p.op,p.ct,p.n,p.m,p.va,.slice A4 p.ks.length cap4]):=by rw [hw5];have h:=Blk.new (w.alloc (.cells #[t.d,t.i] 25)) 28 #[p.op,p.ct,p.n,p.m,p.va,.slice A4 p.ks.length cap4];rw [World.size_alloc] at h;exact h
  have hws:w.heap.size+2≤w5.heap.size:=by rw [hw5];simp
  have hws2:w5.heap.size=w.heap.size+1+1:=by rw [hw5];simp
  rw [←hw5]
  clear hw5
  have KT5:=KT
  have KP5:=KP
  have HC5:Hid (Chg (rowOf (.slice oA ys.length ocap)) w w5):=Chg.of_below hB0
  have hsz5:=hws
  have HR5:Hid (∀ g∈rowOf (.slice oA ys.length ocap),g∈rowOf (.slice oA ys.length ocap)∨w.heap.size+2≤g):=fun g hg=>.inl hg
  have HO5:Hid (Own w5 B 107 3 VtR (accP ys xs d t p 0) (.slice oA ys.length ocap) []):=by rw [HAC.out];exact HOW.out.below (fun x cs G hk h=>zA6 _ _ x cs G hk h) hB0
  clear KT KP hB0 hws
  -- from here: world w5, slot (.slice oA ys.length ocap)
  obtain ⟨y0,y1,klt⟩:=KT5.out.c2
  obtain ⟨z0,z1,z2,z3,z4,z5,klt2⟩:=KP5.out.c6
  refine (spec_l3Types xs HW.out t HT.out p HO.out w5 _ F _ G (ArrDt.mono HX.out (HC5.out.kept (HF.out.mono hBw) HDF.out)) (HF.out.mono (Nat.le_trans hBw HC5.out.size)) (PR.mono _ _ _ (HC5.out.kept (HG.out.mono hBw) HDG.out) HV.out) (HG.out.mono (Nat.le_trans hBw HC5.out.size))).mono ?_
  rintro e w6 ⟨v6,F6,rfl,hb6,ha6,-,hfs6⟩
  have KT6:=jj (KT5.out.same (hb6.block _ KT5.out.lt))
  have KP6:=jj (KP5.out.same (hb6.block _ KP5.out.lt))
  have HC6:=jj (HC5.out.step hb6)
  have HO6:Hid (Own w6 B 107 3 VtR (accP ys xs d t p 0) (.slice oA ys.length ocap) []):=HO5.out.below (fun x cs G hk h=>zA6 _ _ x cs G hk h) hb6
  have HN6:Hid (∀ g∈rowOf (.slice oA ys.length ocap),g∉F6):=fun g hg hF=>by have h1:=(HO5.out.row g hg).2;have h2:=(hfs6 g hF).1;omega
  have hsz6:w.heap.size+2≤w6.heap.size:=Nat.le_trans hsz5 hb6.size
  have HL:=jj (fun (i:Nat) (h1:i<(typesP xs t p).length) (h2:i<p.ks.length)=>accP_succ ys d h1 h2)
  generalize hass:typesP xs t p=ls at *
  clear hass
  obtain ⟨A6,cap6,rfl,hd3,hd4⟩:=ha6.form
  have HA6:=jj ha6
  have HU6:=jj hfs6.under
  clear y0 y1 z0 z1 z2 z3 z4 z5 klt klt2
  clear ha6 hfs6 hb6 KT5 KP5 KT6 HO5 HC5
  go_wp2
  go_loopw [0,10] (fun ovr iv wr=>∃ i:Nat,i≤ls.length∧(p.op=5→i≤1)∧iv=.int .i64 i∧Hid (Own wr B 107 3 VtR (accP ys xs d t p i) ovr [])∧Hid (Chg (rowOf (.slice oA ys.length ocap)) w6 wr)∧Hid (∀ g∈rowOf ovr,g∈rowOf (.slice oA ys.length ocap)∨w6.heap.size≤g)) (fun _ iv _=>ls.length-(intOf iv).toNat)
  case atStart=>exact ⟨0,Nat.zero_le _,fun _=>by omega,rfl,HO6,Chg.refl _ _,fun g hg=>.inl hg⟩
  case round =>
   obtain ⟨i,hi,hi5,rfl,HO7,HC7,HR7⟩:=hrel
   have hszr:w.heap.size+2≤wr.heap.size:=Nat.le_trans hsz6 HC7.out.size
   have nkp:Hid (w.heap.size+1∉rowOf (.slice oA ys.length ocap)):=fun h=>by
    rcases HR5.out _ h with h1 | h1
    ·have:=(HOW.out.row _ h1).2;omega
    ·omega
   have KPr:=jj (KP6.out.same (HC7.out.block _ KP6.out.lt nkp.out))
   obtain ⟨z0,-,-,-,-,-,klt2⟩:=KPr.out.c6
   have hCW:=jj (zB0 HC6.out HC7.out (fun g hg=>by
    rcases HR5.out g hg with h | h
    ·exact .inl h
    ·exact .inr (by omega)))
   have hend:(i=if p.op=5 then 1 else p.ks.length)→VarsPost xs (d+1) t p B ys (.slice oA ys.length ocap) w (.returned u0) wr:=fun h=>⟨_,rfl,by rw [←accP_done h];exact HO7.out,hCW.out,fun g hg=>by
    rcases HR7.out g hg with h | h
    ·rcases HR5.out g h with h | h
     ·exact .inl h
     ·exact .inr (by omega)
    ·exact .inr (by omega)⟩
   have HEnd:=jj hend
   clear hend
   by_cases hil:i<ls.length
   ·have t1:decide ((i:Int)<(ls.length:Int))=true:=by simp;omega
    by_cases hgo:i=0∨¬p.op=5
    ·have hik:i<p.ks.length:=by rw [HLN.out];exact hil
     have hA6r:=ArrTy.mono HA6.out (HC7.out.kept HU6.out (fun b hb hr=>HN6.out b hr hb))
     have hU6r:=HU6.out.mono HC7.out.size
     have hKr:=ArrP.mono HA.out (hCW.out.kept (HG.out.mono hBw) HDG.out)
     have hGr:Under wr G:=HG.out.mono (Nat.le_trans hBw hCW.out.size)
     obtain ⟨b6,off6,rfl⟩:=HA6.out.ptr (by omega)
     obtain ⟨b4,off4,rfl⟩:=HA.out.ptr (by omega)
     have hb6F:b6∈F6:=by obtain ⟨_,_,_,_,e,hb,-⟩:=HA6.out.get TyR_len hil;cases e;exact hb
     have hb4G:b4∈G:=by obtain ⟨_,_,_,_,e,hb,-⟩:=HA.out.get PR_len hik;cases e;exact hb
     have nb6:Hid (b6∉rowOf u0):=fun h=>by
      rcases HR7.out _ h with h1 | h1
      ·exact HN6.out _ h1 hb6F
      ·have:=HU6.out _ hb6F;omega
     have nbp:Hid (w.heap.size+1∉rowOf u0):=fun h=>by
      rcases HR7.out _ h with h1 | h1
      ·exact nkp.out h1
      ·omega
     have nb4:Hid (b4∉rowOf u0):=fun h=>by have h1:=(HO7.out.row _ h).1;have h2:=HG.out _ hb4G;omega
     obtain ⟨hb6,a0,a1⟩:=ArrTy.at hA6r hU6r (zy2 _ _) i hil
     obtain ⟨A7,cap7,G7,hb7,k0,k1,k2,k3,k4,k5,HV7,HG7,hsub,-,-⟩:=ArrP.at hKr hGr (zy2 _ _) i hik
     obtain ⟨-,-,-,-,-,z5,-⟩:=KPr.out.c6
     have g1:(0:Int)≤(i:Int):=by omega
     have g2:(i:Int)<(ls.length:Int):=by omega
     have g3:(i:Int)<(p.ks.length:Int):=by omega
     have HXr:=jj (ArrDt.mono HX.out (hCW.out.kept (HF.out.mono hBw) HDF.out))
     have HNX:=jj (HL.out i hil hik)
     have hlenacc:(accP ys xs d t p i).length+nodesP p.ks[i]≤4000000:=by
      have h1:=accP_len ys xs d t p i
      have h2:=sizesP_step hik
      have h3:=zAG p.ks (i+1)
      have h4:=zA5 p
      have h5:=HZ.out
      omega
     have HCALL:=jj (IH.out p.ks[i] (List.getElem_mem hik) xs HW.out d ls[i] (HAI.out _ (List.getElem_mem hil)) (HSH.out i hil hik) wr.drew _ F _ G7 B (accP ys xs d t p i) u0 (HO7.out.below (fun x cs G hk h=>zA6 _ _ x cs G hk h) (zy2 _ _).drew) (Nat.le_trans hBw hCW.out.size) hlenacc (ArrDt.drew HXr.out) HF.out HV7.out.drew (HG.out.sub hsub))
     clear hlenacc hA6r hU6r hKr hGr hb6F hb4G
     by_cases hi0:i=0
     have t2:((i:Int)==0)=true:=by simp [hi0]
     clear hi0
     rotate_left
     have t2:((i:Int)==0)=false:=by simpa using hi0
     have t3:(p.op != 5)=true:=by simpa using hgo.resolve_left hi0
     rotate_left
     all_goals (
      go_wp2_with fail
      go_region_held3 (fun w'=>w'.cell? ⟨b6,off6+i*2,none⟩=ls[i].d∧w'.cell? ⟨b6,off6+i*2+1,none⟩=ls[i].i∧w'.cell? ⟨w.heap.size+1,5,none⟩=some (.slice (some ⟨b4,off4,none⟩) p.ks.length cap4)∧w'.cell? ⟨b4,off4+i*6,none⟩=p.ks[i].op∧w'.cell? ⟨b4,off4+i*6+1,none⟩=p.ks[i].ct∧w'.cell? ⟨b4,off4+i*6+2,none⟩=p.ks[i].n∧w'.cell? ⟨b4,off4+i*6+3,none⟩=p.ks[i].m∧w'.cell? ⟨b4,off4+i*6+4,none⟩=p.ks[i].va∧w'.cell? ⟨b4,off4+i*6+5,none⟩=some (.slice A7 p.ks[i].ks.length cap7)) (first | assumption | (exact ⟨a0,a1,z5,k0,k1,k2,k3,k4,k5⟩)) ((go_at_call 69;((with_reducible refine HCALL.out.mono ?_);rintro e w' ⟨ov',rfl,ho',hc',hr'⟩);have hkp:w'.cell? ⟨b6,off6+i*2,none⟩=ls[i].d∧w'.cell? ⟨b6,off6+i*2+1,none⟩=ls[i].i∧w'.cell? ⟨w.heap.size+1,5,none⟩=some (.slice (some ⟨b4,off4,none⟩) p.ks.length cap4)∧w'.cell? ⟨b4,off4+i*6,none⟩=p.ks[i].op∧w'.cell? ⟨b4,off4+i*6+1,none⟩=p.ks[i].ct∧w'.cell? ⟨b4,off4+i*6+2,none⟩=p.ks[i].n∧w'.cell? ⟨b4,off4+i*6+3,none⟩=p.ks[i].m∧w'.cell? ⟨b4,off4+i*6+4,none⟩=p.ks[i].va∧w'.cell? ⟨b4,off4+i*6+5,none⟩=some (.slice A7 p.ks[i].ks.length cap7):=⟨(hc'.cell (p:=⟨b6,off6+i*2,none⟩) hb6 nb6.out).trans a0,(hc'.cell (p:=⟨b6,off6+i*2+1,none⟩) hb6 nb6.out).trans a1,(hc'.cell (p:=⟨w.heap.size+1,5,none⟩) klt2 nbp.out).trans z5,(hc'.cell (p:=⟨b4,off4+i*6,none⟩) hb7 nb4.out).trans k0,(hc'.cell (p:=⟨b4,off4+i*6+1,none⟩) hb7 nb4.out).trans k1,(hc'.cell (p:=⟨b4,off4+i*6+2,none⟩) hb7 nb4.out).trans k2,(hc'.cell (p:=⟨b4,off4+i*6+3,none⟩) hb7 nb4.out).trans k3,(hc'.cell (p:=⟨b4,off4+i*6+4,none⟩) hb7 nb4.out).trans k4,(hc'.cell (p:=⟨b4,off4+i*6+5,none⟩) hb7 nb4.out).trans k5⟩))
      have HO8:Hid (Own w' B 107 3 VtR (accP ys xs d t p (i+1)) ov' []):=by rw [HNX.out];exact ho'
      have HC8:=jj (zB0 HC7.out hc'.undrew HR7.out)
      have HR8:=jj (grow_rows HC7.out.size HR7.out hr')
      clear ho' hc' hr' hkp
      clear t1 z0 z5 klt2 a0 a1 k0 k1 k2 k3 k4 k5
      go_wp2
      go_roundw
      case rel=>exact ⟨i+1,by omega,fun h5=>by rcases hgo with h | h;omega;exact absurd h5 h,by go_num,HO8,HC8,HR8⟩
      case measure=>(simp [intOf] <;> omega))
    ·have h5:p.op=5:=Classical.byContradiction fun h=>hgo (.inr h)
     have hi0:¬i=0:=fun h=>hgo (.inl h)
     have t2:((i:Int)==0)=false:=by simpa using hi0
     have t3:(p.op != 5)=false:=by simp [h5]
     have HFin:=jj (HEnd.out (by rw [if_pos h5];have:=hi5 h5;omega))
     clear h5 hi0 hgo hi5
     go_wp2
     go_ret
     exact HFin.out
   ·have t1:decide ((i:Int)<(ls.length:Int))=false:=by simp;omega
    have HFin:=jj (HEnd.out (by
     split
     ·rename_i h5
      have h1:=hi5 h5
      have h2:=HL5.out h5
      omega
     ·rw [HLN.out];omega))
    clear hi5
    go_wp2
    go_ret
    exact HFin.out
theorem spec_l3Vars:∀ p,VarsS p:=P.indv l3Vars_of
def alikeOne (b:List Vt) (v:Vt):Bool:=match b.find? fun u=>u.var==v.var with | some u=>(u.ty.d==v.ty.d && u.ty.i==v.ty.i) | none=>false
theorem alikeB_eq (a b:List Vt):alikeB a b=(a.all (alikeOne b) && a.length==b.length):=rfl
theorem find_first {b:List Vt} {n r:Int} (h:FirstAt (fun x:Vt=>x.var==n) b r):(∃ (m:Nat) (hm:m<b.length),r=(m:Int)∧b.find? (fun u=>u.var==n)=some b[m])∨(r = -1∧b.find? (fun u=>u.var==n)=none):=by
 rcases h with ⟨m,hm,e,h1,h2⟩ | ⟨e,h2⟩
 ·refine .inl ⟨m,hm,e,?_⟩
  rw [List.find?_eq_some_iff_getElem]
  exact ⟨h1,m,hm,rfl,fun j hj=>by have:=h2 j (by omega) hj;simpa using this⟩
 ·refine .inr ⟨e,?_⟩
  rw [List.find?_eq_none]
  intro x hx
  obtain ⟨j,hj,rfl⟩:=List.mem_iff_getElem.1 hx
  simpa using h2 j hj
theorem all_dropV {α:Type} (p:α→Bool) (l:List α) (k:Nat) (h:k<l.length):(l.drop k).all p=(p l[k] && (l.drop (k+1)).all p):=by
 rw [List.drop_eq_getElem_cons h];rfl
theorem spec_l3Alike (xs ys:List Vt) (w:World) (x y:Value) (F G:List Nat) (hx:Arr w (VtR w) xs x F) (hf:Under w F) (hy:Arr w (VtR w) ys y G) (hg:Under w G) :
  Calls Try.prog 100 #[x,y] w fun e w'=>e=.returned (.bool (alikeB xs ys))∧Below w w w':=by
 obtain ⟨A,cap,rfl,hc1,hc2⟩:=hx.form
 obtain ⟨A2,cap2,rfl,hd1,hd2⟩:=hy.form
 have HX:=jj hx
 have HF:=jj hf
 have HY:=jj hy
 have HG:=jj hg
 clear hx hf hy hg
 go_enter Try.func100,Try.ntmps100
 go_wp2
 go_loopw [5] (fun i wr=>∃ k:Nat,k≤xs.length∧i=.int .i64 k∧Hid (alikeB xs ys=((xs.drop k).all (alikeOne ys) && xs.length==ys.length))∧Below w w wr) (fun i _=>xs.length-(intOf i).toNat)
 case atStart=>exact ⟨0,Nat.zero_le _,rfl,(alikeB_eq _ _),zy2 _ _⟩
 case round =>
  obtain ⟨k,hk,rfl,HT,hB⟩:=hrel
  by_cases hlt:k<xs.length
  ·have g1:(0:Int)≤(k:Int):=by omega
   have g2:(k:Int)<(xs.length:Int):=by omega
   obtain ⟨b,off,rfl⟩:=HX.out.ptr (by omega)
   obtain ⟨hb,c0,c1,c2⟩:=ArrVt.at HX.out HF.out hB k hlt
   have hd:=HT.out
   rw [all_dropV _ xs k hlt] at hd
   have HD:=jj hd
   obtain ⟨r,hr⟩:=FirstAt.ex (fun x:Vt=>x.var==xs[k].var) ys
   have HRR:=jj (find_first hr)
   have HCALL:=jj (spec_l3Find ys xs[k].var r hr wr _ G (Arr.mono (w:=w) HY.out (.of_below hB HG.out) (fun x _ cs G hk h=>zA6 _ _ x cs G hk h)) (HG.out.mono hB.size))
   clear hd hr
   go_wp2_with fail
   refine HCALL.out.mono ?_
   rintro e w3 ⟨rfl,hb3⟩
   have hB3:=hB.trans (hb3.mono hB.size)
   rcases HRR.out with ⟨m,hm,rfl,hfi⟩ | ⟨rfl,hfi⟩
   ·have g3:(0:Int)≤(m:Int):=by omega
    have g4:(m:Int)<(ys.length:Int):=by omega
    have t0:decide ((m:Int)<0)=false:=by simp <;> omega
    obtain ⟨b2,off2,rfl⟩:=HY.out.ptr (by omega)
    clear c0 c1 c2
    obtain ⟨hb1,c0,c1,c2⟩:=ArrVt.at HX.out HF.out hB3 k hlt
    obtain ⟨hb2,d0,d1,d2⟩:=ArrVt.at HY.out HG.out hB3 m hm
    have hone:alikeOne ys xs[k]=(ys[m].ty.d==xs[k].ty.d && ys[m].ty.i==xs[k].ty.i):=by unfold alikeOne;rw [hfi]
    have HBQ:=jj (fun n=>zB1 hB3 n)
    clear hfi HRR HCALL hb3 hB3
    cases e0:(ys[m].ty.d==xs[k].ty.d) with
    |true =>
     cases e1:(ys[m].ty.i==xs[k].ty.i) with
     |true =>
      have HT2:Hid (alikeB xs ys=((xs.drop (k+1)).all (alikeOne ys) && xs.length==ys.length)):=by rw [HD.out,hone,e0,e1];rfl
      clear hone
      go_wp2_with fail
      go_quiet (fail)
      go_wp2
      go_roundw
      case rel=>exact ⟨k+1,by omega,by go_num,HT2,HBQ.out _⟩
      case measure=>(simp [intOf] <;> omega)
     |false =>
      have hf:Hid (alikeB xs ys=false):=by rw [HD.out,hone,e0,e1];rfl
      clear hone
      go_wp2_with fail
      go_quiet (fail)
      go_wp2
      go_ret
      exact ⟨zA0 hf.out.symm,HBQ.out _⟩
    |false =>
     have hf:Hid (alikeB xs ys=false):=by rw [HD.out,hone,e0];rfl
     clear hone
     go_wp2_with fail
     go_quiet (fail)
     go_wp2
     go_ret
     exact ⟨zA0 hf.out.symm,HBQ.out _⟩
   ·have hone:alikeOne ys xs[k]=false:=by unfold alikeOne;rw [hfi]
    have hf:Hid (alikeB xs ys=false):=by rw [HD.out,hone];rfl
    have HBQ:=jj (fun n=>zB1 hB3 n)
    clear hone hfi
    go_wp2_with fail
    go_quiet (fail)
    go_wp2
    go_ret
    exact ⟨zA0 hf.out.symm,HBQ.out _⟩
  ·have hd:=HT.out
   rw [List.drop_of_length_le (by omega)] at hd
   have hf:Hid (((xs.length:Int)==(ys.length:Int))=alikeB xs ys):=by
    rw [Hid,hd]
    simp only [List.all_nil,Bool.true_and]
    rw [Bool.eq_iff_iff];simp <;> omega
   clear hd
   generalize hq:((xs.length:Int)==(ys.length:Int))=q at *
   go_wp2
   go_ret
   exact ⟨zA0 hf.out,hB⟩
theorem zB8 {xs:List Dt} (hw:WorldOK xs) {d:Nat} {t:Ty} (ht:TyIn xs.length t) {p:P} (hs:shapeB xs d t p=true) (hz:nodesP p≤4000000) {w:World} {x:Value} {F:List Nat} {cs:List Value} {G:List Nat} (hx:Arr w (DtR w) xs x F) (hf:Under w F) (hv:PR w p cs G) (hg:Under w G) :
  Calls Try.prog 69 #[.slice none 0 0,x,.agg #[t.d,t.i],.agg cs.toArray] w (MadeArr VtR w (varsN xs d t p)):=by
 refine (spec_l3Vars p xs hw d t ht hs w x F cs G w.heap.size [] (.slice none 0 0) (Own.nil _ _ _ _ _) (zz8 _) (by simpa using hz) hx hf hv hg).mono ?_
 rintro e w' ⟨ov',rfl,ho,hc,hr⟩
 rw [List.nil_append] at ho
 exact Own.gives ho (hc.below (fun b hb=>by simp [zAT] at hb) (zz8 _)) (zz8 _) (fun b hb=>by cases hb) (Free.nil _)
theorem linB_succ (xs:List Dt) (d:Nat) (t:Ty) (p:P):linB xs (d+1) t p=(allP (linB xs d) (typesP xs t p) p.ks && (if p.op=5 then (match p.ks with | [k0,k1]=>alikeB (varsN xs d t k0) (varsN xs d t k1) | _=>true) else dupFree (varsN xs (d+1) t p))):=rfl
theorem dup_no {l:List Vt} {i j:Nat} (hi:i<l.length) (hj:j<l.length) (hij:i<j) (h:l[i].var=l[j].var):dupFree l=false:=by
 unfold dupFree
 rw [decide_eq_false_iff_not]
 intro hn
 have:=List.pairwise_iff_getElem.1 hn i j (by simpa using hi) (by simpa using hj) hij
 simp [h] at this
theorem dup_yes {l:List Vt} (h:∀ j (hj:j<l.length),∀ i (hi:i<l.length),i<j→l[i].var≠l[j].var):dupFree l=true:=by
 unfold dupFree
 rw [decide_eq_true_eq]
 refine List.pairwise_iff_getElem.2 fun i j hi hj hij=>?_
 simp only [List.getElem_map]
 exact h j (by simpa using hj) i (by simpa using hi) hij
def LinS (p:P):Prop:=∀ (xs:List Dt) (_:WorldOK xs) (d:Nat) (t:Ty) (_:TyIn xs.length t) (_:shapeB xs d t p=true) (_:nodesP p≤4000000) (w:World) (x:Value) (F:List Nat) (cs:List Value) (G:List Nat),Arr w (DtR w) xs x F→Under w F→PR w p cs G→Under w G →
 Calls Try.prog 79 #[x,.agg #[t.d,t.i],.agg cs.toArray] w fun e w'=>e=.returned (.bool (linB xs d t p))∧Below w w w'
theorem l3Linear_of (p:P) (ih:∀ k∈p.ks,LinS k):LinS p:=by
 intro xs hw d t ht hs hz w x F cs G hx hf hv hg
 have IH:=jj ih
 have HS:=jj hs
 have HZ:=jj hz
 clear ih hz
 obtain ⟨kv,rfl,ha⟩:=(zA4 _ _ _).1 hv
 obtain ⟨A,cap,rfl,hc1,hc2⟩:=hx.form
 obtain ⟨A4,cap4,rfl,hc3,hc4⟩:=ha.form
 have HV:=jj hv
 have HX:=jj hx
 have HF:=jj hf
 have HA:=jj ha
 have HG:=jj hg
 clear hx hf ha hg
 clear hv
 have HW:=jj hw
 have HT:=jj ht
 clear hw ht
 cases d with
 |zero=>cases hs
 |succ d =>
 rw [shapeB_succ] at hs
 simp only [Bool.and_eq_true,beq_iff_eq] at hs
 obtain ⟨ho,hlen,hsh⟩:=hs
 have HO:=jj ho
 have HAI:=jj (typesP_in HW.out HT.out ho)
 have hl3:=typesP_len HW.out HT.out ho
 have HSH:=jj (fun (i:Nat) (h1:i<(typesP xs t p).length) (h2:i<p.ks.length)=>allP_at hsh h1 h2)
 have HL5:=jj (fun (h:p.op=5)=>typesP_or (xs:=xs) (t:=t) h)
 have HLB:=jj (linB_succ xs d t p)
 have HLN:=jj hlen
 clear ho hsh hlen
 go_enter Try.func79,Try.ntmps79
 go_wp2_with fail
 obtain ⟨W2,hW2⟩:∃ W2,W2=((w.alloc (.cells #[t.d,t.i] 25)).alloc (.cells #[p.op,p.ct,p.n,p.m,p.va,.slice A4 p.ks.length cap4] 28)):=⟨_,rfl⟩
 have hB0:Below w w W2:=by rw [hW2];exact ((zy2 _ _).alloc (zz8 _) _).alloc (by simp) _
 have KT:Hid (Blk W2 w 25 #[t.d,t.i]):=by rw [hW2];exact (Blk.new w _ _).same (Below.heap_alloc _ _ _ (by simp))
 have KP:Hid (Blk W2 (w.heap.size+1) 28 #[p.op,p.ct,p.n,p.m,p.va,.slice A4 p.ks.length cap4]):=by rw [hW2];have h:=Blk.new (w.alloc (.cells #[t.d,t.i] 25)) 28 #[p.op,p.ct,p.n,p.m,p.va,.slice A4 p.ks.length cap4];rw [World.size_alloc] at h;exact h
 have hws:w.heap.size+2≤W2.heap.size:=by rw [hW2];simp
 have hws2:W2.heap.size=w.heap.size+1+1:=by rw [hW2];simp
 rw [←hW2]
 clear hW2
 obtain ⟨y0,y1,klt⟩:=KT.out.c2
 obtain ⟨z0,z1,z2,z3,z4,z5,klt2⟩:=KP.out.c6
 refine (spec_l3Types xs HW.out t HT.out p HO.out W2 _ F _ G (ArrDt.below HX.out hB0 HF.out) (HF.out.mono hB0.size) (HV.out.below hB0 HG.out) (HG.out.mono hB0.size)).mono ?_
 rintro e w6 ⟨v6,F6,rfl,hb6,ha6,-,hfs6⟩
 have hB6:=hB0.trans (hb6.mono hB0.size)
 have KT6:=jj (KT.out.same (hb6.block _ KT.out.lt))
 have KP6:=jj (KP.out.same (hb6.block _ KP.out.lt))
 generalize hass:typesP xs t p=ls at *
 clear hass
 obtain ⟨A6,cap6,rfl,hd3,hd4⟩:=ha6.form
 have HA6:=jj ha6
 have HU6:=jj hfs6.under
 clear y0 y1 z0 z1 z2 z3 z4 z5 klt klt2
 clear ha6 hfs6 hb6 KT KP hB0
 go_wp2
 go_loopw [8] (fun iv wr=>∃ i:Nat,i≤ls.length∧iv=.int .i64 i∧Hid (allP (linB xs d) ls p.ks=allP (linB xs d) (ls.drop i) (p.ks.drop i))∧Hid (Blk wr w 25 #[t.d,t.i])∧Hid (Blk wr (w.heap.size+1) 28 #[p.op,p.ct,p.n,p.m,p.va,.slice A4 p.ks.length cap4])∧Below w w wr∧Hid (Below w6 w6 wr)) (fun iv _=>ls.length-(intOf iv).toNat)
 case atStart=>exact ⟨0,Nat.zero_le _,rfl,rfl,KT6,KP6,hB6,zy2 _ _⟩
 case round =>
  clear hB6
  obtain ⟨i,hi,rfl,HR,KT,KP,hB,HB6⟩:=hrel
  by_cases hil:i<ls.length
  ·have hik:i<p.ks.length:=by rw [HLN.out];exact hil
   obtain ⟨b6,off6,rfl⟩:=HA6.out.ptr (by omega)
   obtain ⟨hb6,a0,a1⟩:=ArrTy.at HA6.out HU6.out HB6.out i hil
   obtain ⟨b4,off4,rfl⟩:=HA.out.ptr (by omega)
   obtain ⟨A7,cap7,G7,hb7,k0,k1,k2,k3,k4,k5,HV7,HG7,-,-,-⟩:=ArrP.at HA.out HG.out hB i hik
   obtain ⟨-,-,-,-,-,z5,klt2⟩:=KP.out.c6
   have g1:(0:Int)≤(i:Int):=by omega
   have g2:(i:Int)<(ls.length:Int):=by omega
   have g3:(i:Int)<(p.ks.length:Int):=by omega
   have hstep:=HR.out
   rw [allP_step hil hik] at hstep
   have HST:=jj hstep
   clear hstep
   have HCALL:=jj (IH.out p.ks[i] (List.getElem_mem hik) xs HW.out d ls[i] (HAI.out _ (List.getElem_mem hil)) (HSH.out i hil hik) (by have h1:=nodesP_mem hik;have h2:=zA5 p;have h3:=HZ.out;omega) wr.drew _ F _ G7 (ArrDt.below HX.out hB.drew HF.out) (HF.out.mono hB.drew.size) (HV7.out.below hB.drew HG7.out) (HG7.out.mono hB.drew.size))
   go_wp2_with fail
   have hkeep:Kp wr.heap.size (fun U=>U.cell? ⟨b6,off6+i*2,none⟩=ls[i].d∧U.cell? ⟨b6,off6+i*2+1,none⟩=ls[i].i∧U.cell? ⟨w.heap.size+1,5,none⟩=some (.slice (some ⟨b4,off4,none⟩) p.ks.length cap4)∧U.cell? ⟨b4,off4+i*6,none⟩=p.ks[i].op∧U.cell? ⟨b4,off4+i*6+1,none⟩=p.ks[i].ct∧U.cell? ⟨b4,off4+i*6+2,none⟩=p.ks[i].n∧U.cell? ⟨b4,off4+i*6+3,none⟩=p.ks[i].m∧U.cell? ⟨b4,off4+i*6+4,none⟩=p.ks[i].va∧U.cell? ⟨b4,off4+i*6+5,none⟩=some (.slice A7 p.ks[i].ks.length cap7)):=fun U U' h hUU hU=>⟨(hUU.cell (zz9 (hb6) hU)).trans h.1,(hUU.cell (zz9 (hb6) hU)).trans h.2.1,(hUU.cell (zz9 (klt2) hU)).trans h.2.2.1,(hUU.cell (zz9 (hb7) hU)).trans h.2.2.2.1,(hUU.cell (zz9 (hb7) hU)).trans h.2.2.2.2.1,(hUU.cell (zz9 (hb7) hU)).trans h.2.2.2.2.2.1,(hUU.cell (zz9 (hb7) hU)).trans h.2.2.2.2.2.2.1,(hUU.cell (zz9 (hb7) hU)).trans h.2.2.2.2.2.2.2.1,(hUU.cell (zz9 (hb7) hU)).trans h.2.2.2.2.2.2.2.2⟩
   have HKeep:=jj hkeep
   clear hkeep
   go_region_held3 (fun w'=>w'.cell? ⟨b6,off6+i*2,none⟩=ls[i].d∧w'.cell? ⟨b6,off6+i*2+1,none⟩=ls[i].i∧w'.cell? ⟨w.heap.size+1,5,none⟩=some (.slice (some ⟨b4,off4,none⟩) p.ks.length cap4)∧w'.cell? ⟨b4,off4+i*6,none⟩=p.ks[i].op∧w'.cell? ⟨b4,off4+i*6+1,none⟩=p.ks[i].ct∧w'.cell? ⟨b4,off4+i*6+2,none⟩=p.ks[i].n∧w'.cell? ⟨b4,off4+i*6+3,none⟩=p.ks[i].m∧w'.cell? ⟨b4,off4+i*6+4,none⟩=p.ks[i].va∧w'.cell? ⟨b4,off4+i*6+5,none⟩=some (.slice A7 p.ks[i].ks.length cap7)) (first | assumption | (exact ⟨a0,a1,z5,k0,k1,k2,k3,k4,k5⟩) | (exact HKeep.out wr.drew w' ⟨a0,a1,z5,k0,k1,k2,k3,k4,k5⟩ hB' (zz8 _))) (first | (go_at_call 79;((with_reducible refine HCALL.out.mono ?_);rintro e w' ⟨rfl,hB'⟩)))
   have hB3:=hB.drew.trans (hB'.mono hB.size)
   have HB3:=jj (HB6.out.drew.trans (hB'.mono HB6.out.size))
   have KP3:=jj (KP.out.same (hB'.block _ KP.out.lt))
   have KT3:=jj (KT.out.same (hB'.block _ KT.out.lt))
   clear HKeep
   cases e3:linB xs d ls[i] p.ks[i] with
   |false =>
    have hf:Hid (linB xs (d+1) t p=false):=by rw [HLB.out,HST.out,e3];rfl
    clear e3
    go_wp2
    go_ret
    exact ⟨zA0 hf.out.symm,hB3⟩
   |true =>
    have hR2:Hid (allP (linB xs d) ls p.ks=allP (linB xs d) (ls.drop (i+1)) (p.ks.drop (i+1))):=by rw [HST.out,e3,Bool.true_and];rfl
    clear e3
    go_wp2
    go_roundw
    case rel=>exact ⟨i+1,by omega,by go_num,hR2,KT3,KP3,hB3,HB3⟩
    case measure=>(simp [intOf] <;> omega)
  ·have HLT:Hid (linB xs (d+1) t p=(if p.op=5 then (match p.ks with | [k0,k1]=>alikeB (varsN xs d t k0) (varsN xs d t k1) | _=>true) else dupFree (varsN xs (d+1) t p))):=by
    rw [HLB.out,HR.out,allP_end (by omega)];rfl
   clear HLB HR
   obtain ⟨y0,y1,klt⟩:=KT.out.c2
   obtain ⟨z0,z1,z2,z3,z4,z5,klt2⟩:=KP.out.c6
   by_cases h5:p.op=5
   ·have t5:(p.op==5)=true:=by simp [h5]
    have hl5:=HL5.out h5
    have hk2:p.ks.length=2:=by rw [HLN.out,hl5];rfl
    have hl2:ls.length=2:=by rw [hl5];rfl
    have s0:=HSH.out 0 (by omega) (by omega)
    have s1:=HSH.out 1 (by omega) (by omega)
    simp only [hl5,zz2,zz3] at s0 s1
    have hlt2:linB xs (d+1) t p=alikeB (varsN xs d t p.ks[0]) (varsN xs d t p.ks[1]):=by
     rw [HLT.out,if_pos h5]
     obtain ⟨q0,q1,hq⟩:=kids_two hk2
     simp only [hq,zz2,zz3]
    have HL2:=jj hlt2
    have hik0:0<p.ks.length:=by omega
    have hik1:1<p.ks.length:=by omega
    obtain ⟨b4,off4,rfl⟩:=HA.out.ptr (by omega)
    obtain ⟨A7,cap7,G7,hb7,k0,k1,k2,k3,k4,k5,HV7,HG7,-,-,-⟩:=ArrP.at HA.out HG.out hB 0 hik0
    obtain ⟨A8,cap8,G8,hb8,m0,m1,m2,m3,m4,m5,HV8,HG8,-,-,-⟩:=ArrP.at HA.out HG.out hB 1 hik1
    simp only [Nat.zero_mul,Nat.one_mul,Nat.add_zero] at k0 k1 k2 k3 k4 k5 m0 m1 m2 m3 m4 m5
    have g0:(0:Int)<(p.ks.length:Int):=by omega
    have g1:(1:Int)<(p.ks.length:Int):=by omega
    have hz0:nodesP p.ks[0]≤4000000:=by have h1:=nodesP_mem hik0;have h2:=zA5 p;have h3:=HZ.out;omega
    have hz1:nodesP p.ks[1]≤4000000:=by have h1:=nodesP_mem hik1;have h2:=zA5 p;have h3:=HZ.out;omega
    generalize p.ks[0]=q0 at *
    generalize p.ks[1]=q1 at *
    have S0:=jj s0
    have S1:=jj s1
    have Z0:=jj hz0
    have Z1:=jj hz1
    clear h5 hl5 hk2 hl2 s0 s1 hz0 hz1 hlt2 HLT
    go_wp2_with fail
    have hkeep:Kp wr.heap.size (fun U=>U.cell? ⟨w,0,none⟩=t.d∧U.cell? ⟨w,1,none⟩=t.i∧U.cell? ⟨w.heap.size+1,5,none⟩=some (.slice (some ⟨b4,off4,none⟩) p.ks.length cap4)∧U.cell? ⟨b4,off4,none⟩=q0.op∧U.cell? ⟨b4,off4+1,none⟩=q0.ct∧U.cell? ⟨b4,off4+2,none⟩=q0.n∧U.cell? ⟨b4,off4+3,none⟩=q0.m∧U.cell? ⟨b4,off4+4,none⟩=q0.va∧U.cell? ⟨b4,off4+5,none⟩=some (.slice A7 q0.ks.length cap7)∧U.cell? ⟨b4,off4+6,none⟩=q1.op∧U.cell? ⟨b4,off4+6+1,none⟩=q1.ct∧U.cell? ⟨b4,off4+6+2,none⟩=q1.n∧U.cell? ⟨b4,off4+6+3,none⟩=q1.m∧U.cell? ⟨b4,off4+6+4,none⟩=q1.va∧U.cell? ⟨b4,off4+6+5,none⟩=some (.slice A8 q1.ks.length cap8)):=fun U U' h hUU hU=>⟨(hUU.cell (zz9 (klt) hU)).trans h.1,(hUU.cell (zz9 (klt) hU)).trans h.2.1,(hUU.cell (zz9 (klt2) hU)).trans h.2.2.1,(hUU.cell (zz9 (hb7) hU)).trans h.2.2.2.1,(hUU.cell (zz9 (hb7) hU)).trans h.2.2.2.2.1,(hUU.cell (zz9 (hb7) hU)).trans h.2.2.2.2.2.1,(hUU.cell (zz9 (hb7) hU)).trans h.2.2.2.2.2.2.1,(hUU.cell (zz9 (hb7) hU)).trans h.2.2.2.2.2.2.2.1,(hUU.cell (zz9 (hb7) hU)).trans h.2.2.2.2.2.2.2.2.1,(hUU.cell (zz9 (hb8) hU)).trans h.2.2.2.2.2.2.2.2.2.1,(hUU.cell (zz9 (hb8) hU)).trans h.2.2.2.2.2.2.2.2.2.2.1,(hUU.cell (zz9 (hb8) hU)).trans h.2.2.2.2.2.2.2.2.2.2.2.1,(hUU.cell (zz9 (hb8) hU)).trans h.2.2.2.2.2.2.2.2.2.2.2.2.1,(hUU.cell (zz9 (hb8) hU)).trans h.2.2.2.2.2.2.2.2.2.2.2.2.2.1,(hUU.cell (zz9 (hb8) hU)).trans h.2.2.2.2.2.2.2.2.2.2.2.2.2.2⟩
    have HKeep:=jj hkeep
    clear hkeep
    go_region_held3 (fun w'=>w'.cell? ⟨w,0,none⟩=t.d∧w'.cell? ⟨w,1,none⟩=t.i∧w'.cell? ⟨w.heap.size+1,5,none⟩=some (.slice (some ⟨b4,off4,none⟩) p.ks.length cap4)∧w'.cell? ⟨b4,off4,none⟩=q0.op∧w'.cell? ⟨b4,off4+1,none⟩=q0.ct∧w'.cell? ⟨b4,off4+2,none⟩=q0.n∧w'.cell? ⟨b4,off4+3,none⟩=q0.m∧w'.cell? ⟨b4,off4+4,none⟩=q0.va∧w'.cell? ⟨b4,off4+5,none⟩=some (.slice A7 q0.ks.length cap7)∧w'.cell? ⟨b4,off4+6,none⟩=q1.op∧w'.cell? ⟨b4,off4+6+1,none⟩=q1.ct∧w'.cell? ⟨b4,off4+6+2,none⟩=q1.n∧w'.cell? ⟨b4,off4+6+3,none⟩=q1.m∧w'.cell? ⟨b4,off4+6+4,none⟩=q1.va∧w'.cell? ⟨b4,off4+6+5,none⟩=some (.slice A8 q1.ks.length cap8)) (first | assumption | (exact ⟨y0,y1,z5,k0,k1,k2,k3,k4,k5,m0,m1,m2,m3,m4,m5⟩) | (exact HKeep.out wr.drew w3 ⟨y0,y1,z5,k0,k1,k2,k3,k4,k5,m0,m1,m2,m3,m4,m5⟩ hb3 (zz8 _)) | (exact HKeep.out w3 w4 (by assumption) hb4 hlew3) | (exact HKeep.out w4 w5 (by assumption) hb5 hlew4)) (first | (go_at_call 69;((with_reducible refine (zB8 HW.out HT.out S0.out Z0.out (ArrDt.below HX.out hB.drew HF.out) (HF.out.mono hB.drew.size) (HV7.out.below hB.drew HG7.out) (HG7.out.mono hB.drew.size)).mono ?_);rintro e w3 ⟨v3,F3,rfl,hb3,ha3,-,hfs3⟩);have hB3:=hB.drew.trans (hb3.mono hB.drew.size);have hlew3:wr.heap.size≤w3.heap.size:=hb3.size) | (go_at_call 69;((with_reducible refine (zB8 HW.out HT.out S1.out Z1.out (ArrDt.below HX.out hB3 HF.out) (HF.out.mono hB3.size) (HV8.out.below hB3 HG8.out) (HG8.out.mono hB3.size)).mono ?_);rintro e w4 ⟨v4,F4,rfl,hb4,ha4,-,hfs4⟩);have hlew4:wr.heap.size≤w4.heap.size:=Nat.le_trans hlew3 hb4.size) | (go_at_call 100;((with_reducible refine (spec_l3Alike (varsN xs d t q0) (varsN xs d t q1) _ _ _ F3 F4 (Arr.mono (w:=w3) ha3 (.of_below hb4 hfs3.under) (fun x _ cs G hk h=>zA6 _ _ x cs G hk h)) (hfs3.under.mono hb4.size) ha4 hfs4.under).mono ?_);rintro e w5 ⟨rfl,hb5⟩)))
    have hBy:=hB3.trans (hb4.mono hB3.size)
    have hBz:=hBy.trans (hb5.mono hBy.size)
    clear HKeep ha3 hfs3 ha4 hfs4 hb3 hb4 hb5 hB3 hBy
    generalize alikeB (varsN xs d t q0) (varsN xs d t q1)=bb at *
    clear y0 y1 z0 z1 z2 z3 z4 z5 klt klt2
    clear k0 k1 k2 k3 k4 k5 m0 m1 m2 m3 m4 m5 t5
    go_wp2
    go_ret
    exact ⟨zA0 HL2.out.symm,hBz⟩
   ·have t5:(p.op==5)=false:=by simpa using h5
    have hl2:=HLT.out
    rw [if_neg h5] at hl2
    have HL2:=jj hl2
    clear hl2 h5 HLT
    go_wp2_with fail
    refine (zB8 HW.out HT.out HS.out HZ.out (ArrDt.below HX.out hB HF.out) (HF.out.mono hB.size) (HV.out.below hB HG.out) (HG.out.mono hB.size)).mono ?_
    rintro e w3 ⟨v3,F3,rfl,hb3,ha3,-,hfs3⟩
    have hB3:=hB.trans (hb3.mono hB.size)
    generalize hll:varsN xs (d+1) t p=l at *
    clear hll
    obtain ⟨A3,cap3,rfl,he3,he4⟩:=ha3.form
    have HA3:=jj ha3
    have HU3:=jj hfs3.under
    clear y0 y1 z0 z1 z2 z3 z4 z5 klt klt2
    clear ha3 hfs3 hb3 t5
    go_wp2
    obtain ⟨wo,hwo⟩:∃ wo,wo=w3:=⟨_,rfl⟩
    go_loopw [10] (fun iv ws=>∃ i:Nat,i≤l.length∧iv=.int .i64 i∧Hid (∀ j (hj:j<l.length),j<i→∀ k (hk:k<l.length),k<j→l[k].var≠l[j].var)∧Below w w ws∧Hid (Below w3 w3 ws)) (fun iv _=>l.length-(intOf iv).toNat)
    case atStart=>exact ⟨0,Nat.zero_le _,rfl,(fun j hj h=>by omega),hB3,zy2 _ _⟩
    case round =>
     clear hwo hB3 hB HB6
     obtain ⟨i,hi,rfl,HN,hB,HB6⟩:=hrel
     by_cases hil:i<l.length
     ·obtain ⟨b3,off3,rfl⟩:=HA3.out.ptr (by omega)
      obtain ⟨hb3,c0,c1,c2⟩:=ArrVt.at HA3.out HU3.out HB6.out i hil
      have g1:(0:Int)≤(i:Int):=by omega
      have g2:(i:Int)<(l.length:Int):=by omega
      obtain ⟨r,hr⟩:=FirstAt.ex (fun x:Vt=>x.var==l[i].var) l
      have HCALL:=jj (spec_l3Find l l[i].var r hr wr _ F3 (Arr.mono (w:=w3) HA3.out (.of_below HB6.out HU3.out) (fun x _ cs G hk h=>zA6 _ _ x cs G hk h)) (HU3.out.mono HB6.out.size))
      have HRR:Hid (∃ (m:Nat) (hm:m<l.length),r=(m:Int)∧l[m].var=l[i].var∧m≤i):=by
       rcases hr with ⟨m,hm,e,h1,h2⟩ | ⟨e,h2⟩
       ·refine ⟨m,hm,e,by simpa using h1,?_⟩
        rcases Nat.lt_or_ge i m with h | h
        ·have:=h2 i hil h;simp at this
        ·exact h
       ·have:=h2 i hil;simp at this
      have HR2:=jj hr
      clear hr
      go_wp2_with fail
      refine HCALL.out.mono ?_
      rintro e w4 ⟨rfl,hb4⟩
      have hB4:=hB.trans (hb4.mono hB.size)
      have HB4:=jj (HB6.out.trans (hb4.mono HB6.out.size))
      obtain ⟨m,hm,rfl,hmv,hmi⟩:=HRR.out
      by_cases hmi2:m=i
      ·have t6:((m:Int) != (i:Int))=false:=by simp [hmi2]
       have HN2:Hid (∀ j (hj:j<l.length),j<i+1→∀ k (hk:k<l.length),k<j→l[k].var≠l[j].var):=fun j hj hji=>by
        rcases Nat.lt_or_ge j i with h | h
        ·exact HN.out j hj h
        ·obtain rfl:j=i:=by omega
         intro k hk hkj e
         rcases HR2.out with ⟨m',hm',e',h1,h2⟩ | ⟨e',h2⟩
         ·have:=h2 k hk (by omega)
          simp [e] at this
         ·omega
       clear hmi2 hmv hmi
       go_wp2
       go_roundw
       case rel=>exact ⟨i+1,by omega,by go_num,HN2,hB4,HB4⟩
       case measure=>(simp [intOf] <;> omega)
      ·have t6:((m:Int) != (i:Int))=true:=by rw [bne_iff_ne];omega
       have hf:Hid (linB xs (d+1) t p=false):=by rw [HL2.out];exact dup_no hm hil (by omega) hmv
       clear hmi2 hmv hmi
       go_wp2
       go_ret
       exact ⟨zA0 hf.out.symm,hB4⟩
     ·have hf:Hid (linB xs (d+1) t p=true):=by rw [HL2.out];exact dup_yes (fun j hj=>HN.out j hj (by omega))
      go_wp2
      go_ret
      exact ⟨zA0 hf.out.symm,hB⟩
theorem spec_l3Linear:∀ p,LinS p:=P.indv l3Linear_of
structure UptoP (v:P) (most:Int) (c:Int):Prop where
 lo:1≤c
 hi:c≤nodesP v
 yes:(nodesP v:Int)≤most→c=nodesP v
 no:most<nodesP v→most<c
def CountPostP (v:P) (most:Int) (w:World) (e:Ending) (w':World):Prop:=∃ c:Int,e=.returned (.int .i64 c)∧UptoP v most c∧Below w w w'
def CountP (v:P):Prop:=∀ (most:Int) (_:0≤most) (_:most≤1000) (w:World) (cs:List Value) (G:List Nat),PR w v cs G→Under w G→nodesP v≤2000000 →
 Calls Try.prog 78 #[.agg cs.toArray,.int .i64 most] w (CountPostP v most w)
theorem l3Count_of (p:P) (ih:∀ k∈p.ks,CountP k):CountP p:=by
 intro most hm0 hm1 w cs G hv hg hz
 obtain ⟨kv,rfl,ha⟩:=(zA4 _ _ _).1 hv
 obtain ⟨A4,cap4,rfl,hc3,hc4⟩:=ha.form
 have IH:=jj ih
 have HZ:=jj hz
 have HA:=jj ha
 have HG:=jj hg
 clear ha hg
 clear ih hv hz
 have hkl:p.ks.length≤2000000:=by have:=HZ.out;rw [zA5,P.sizes_eq] at this;omega
 go_enter Try.func78,Try.ntmps78
 go_wp2
 have hB0:Below w w (w.alloc (.cells #[p.op,p.ct,p.n,p.m,p.va,.slice A4 p.ks.length cap4] 28)):=(zy2 _ _).alloc (zz8 _) _
 have K0:Hid (Blk (w.alloc (.cells #[p.op,p.ct,p.n,p.m,p.va,.slice A4 p.ks.length cap4] 28)) w.heap.size 28 #[p.op,p.ct,p.n,p.m,p.va,.slice A4 p.ks.length cap4]):=Blk.new _ _ _
 go_loopw [5,6] (fun nv iv wr=>∃ i:Nat,∃ n:Int,i≤p.ks.length∧iv=.int .i64 i∧nv=.int .i64 n∧1≤n∧n≤2000000∧Hid (n≤1+(P.sizes (p.ks.take i):Nat)∧(1+((P.sizes (p.ks.take i):Nat):Int)≤most→n=1+(P.sizes (p.ks.take i):Nat))∧(most<1+((P.sizes (p.ks.take i):Nat):Int)→most<n))∧Hid (Blk wr w 28 #[p.op,p.ct,p.n,p.m,p.va,.slice A4 p.ks.length cap4])∧Below w w wr) (fun _ iv _=>p.ks.length-(intOf iv).toNat)
 case atStart=>exact ⟨0,1,Nat.zero_le _,rfl,rfl,by omega,by omega,⟨by simp [P.sizes],fun _=>by simp [P.sizes],fun h=>by simpa [P.sizes] using h⟩,K0,hB0⟩
 case round =>
  clear hB0 K0
  obtain ⟨i,n,hi,rfl,rfl,hn1,hn2,HN,KV,hB⟩:=hrel
  obtain ⟨-,-,-,-,-,z2,klt⟩:=KV.out.c6
  have hend:(¬(i<p.ks.length∧n≤most))→CountPostP p most w (.returned (.int .i64 n)) wr:=fun h=>by
   have h1:=HN.out
   have h2:=zAG p.ks i
   have h3:=zA5 p
   refine ⟨n,rfl,⟨hn1,by omega,fun hy=>?_,fun hno=>?_⟩,hB⟩
   ·by_cases hil:i<p.ks.length
    ·have:¬n≤most:=fun hnm=>h ⟨hil,hnm⟩
     have:=h1.2.1 (by omega)
     omega
    ·rw [List.take_of_length_le (by omega)] at h1
     have:=h1.2.1 (by omega)
     omega
   ·by_cases hil:i<p.ks.length
    ·have:¬n≤most:=fun hnm=>h ⟨hil,hnm⟩
     omega
    ·rw [List.take_of_length_le (by omega)] at h1
     exact h1.2.2 (by omega)
  have HEnd:=jj hend
  clear hend
  by_cases hil:i<p.ks.length
  ·have t1:decide ((i:Int)<(p.ks.length:Int))=true:=by simp;omega
   by_cases hnm:n≤most
   ·have t2:decide (n≤most)=true:=by simpa using hnm
    obtain ⟨b4,off4,rfl⟩:=HA.out.ptr (by omega)
    obtain ⟨A7,cap7,G7,hb7,k0,k1,k2,k3,k4,k5,HV7,HG7,-,-,-⟩:=ArrP.at HA.out HG.out hB i hil
    have g1:(0:Int)≤(i:Int):=by omega
    have g2:(i:Int)<(p.ks.length:Int):=by omega
    have hst:=sizesP_step hil
    have hsl:=zAG p.ks (i+1)
    have hnk:=zA5 p
    have hz:=HZ.out
    have hkz:nodesP p.ks[i]≤2000000:=by omega
    have HKZ:=jj hkz
    have HST:=jj (And.intro hst (And.intro hsl hnk))
    clear hst hsl hnk hz hkz
    go_wp2_with fail
    refine (IH.out p.ks[i] (List.getElem_mem hil) (most-n) (by omega) (by omega) wr _ G7 (HV7.out.below hB HG7.out) (HG7.out.mono hB.size) HKZ.out).mono ?_
    rintro e w' ⟨c,rfl,hu,hB'⟩
    have hB3:=hB.trans (hB'.mono hB.size)
    have KV3:=jj (KV.out.same (hB'.block _ KV.out.lt))
    have hc1:=hu.lo
    have hN2:Hid (n+c≤1+(P.sizes (p.ks.take (i+1)):Nat)∧(1+((P.sizes (p.ks.take (i+1)):Nat):Int)≤most→n+c=1+(P.sizes (p.ks.take (i+1)):Nat))∧(most<1+((P.sizes (p.ks.take (i+1)):Nat):Int)→most<n+c)):=by
     have h1:=HN.out
     obtain ⟨h2,h3,h4⟩:=HST.out
     have h5:=hu.hi
     have h6:=hu.yes
     have h7:=hu.no
     have h8:n=1+((P.sizes (p.ks.take i):Nat):Int):=by
      rcases Int.lt_or_le most (1+((P.sizes (p.ks.take i):Nat):Int)) with h | h
      ·have:=h1.2.2 h;omega
      ·exact h1.2.1 h
     refine ⟨by omega,fun hy=>?_,fun hno=>?_⟩
     ·have:=h6 (by omega);omega
     ·have:=h7 (by omega);omega
    have hn3:n+c≤2000000:=by
     have h1:=hN2.out.1
     obtain ⟨h2,h3,h4⟩:=HST.out
     have:=HZ.out
     omega
    clear hu t1 t2 z2 klt k0 k1 k2 k3 k4 k5 hB'
    go_wp2
    go_roundw
    case rel=>exact ⟨i+1,n+c,by omega,by go_num,rfl,by omega,hn3,hN2,KV3,hB3⟩
    case measure=>(simp [intOf] <;> omega)
   ·have t2:decide (n≤most)=false:=by simpa using hnm
    have HFin:=jj (HEnd.out (fun h=>hnm h.2))
    go_wp2
    go_ret
    exact HFin.out
  ·have t1:decide ((i:Int)<(p.ks.length:Int))=false:=by simp;omega
   have HFin:=jj (HEnd.out (fun h=>hil h.1))
   go_wp2
   go_ret
   exact HFin.out
theorem spec_l3Count:∀ v,CountP v:=P.indv l3Count_of
theorem spec_l3Is (xs:List Dt) (hw:WorldOK xs) (t:Ty) (ht:TyIn xs.length t) (p:P) (hz:p.size≤1048576) (w:World) (x:Value) (F:List Nat) (cs:List Value) (G:List Nat):Arr w (DtR w) xs x F→Under w F→PR w p cs G→Under w G →
  Calls Try.prog 58 #[x,.agg #[t.d,t.i],.agg cs.toArray] w fun e w'=>e=.returned (.bool (patOkB xs t p))∧Below w w w':=by
 intro hx hf hv hg
 obtain ⟨kv,rfl,ha⟩:=(zA4 _ _ _).1 hv
 obtain ⟨A,cap,rfl,hc1,hc2⟩:=hx.form
 obtain ⟨A4,cap4,rfl,hc3,hc4⟩:=ha.form
 have HV:=jj hv
 have HX:=jj hx
 have HF:=jj hf
 have HA:=jj ha
 have HG:=jj hg
 clear hx hf ha hg
 clear hv
 have HW:=jj hw
 have HT:=jj ht
 have hzn:nodesP p≤2000000:=by unfold nodesP;omega
 have HZ:=jj hzn
 clear hw ht hz hzn
 go_enter Try.func58,Try.ntmps58
 go_wp2_with fail
 obtain ⟨W2,hW2⟩:∃ W2,W2=((w.alloc (.cells #[t.d,t.i] 25)).alloc (.cells #[p.op,p.ct,p.n,p.m,p.va,.slice A4 p.ks.length cap4] 28)):=⟨_,rfl⟩
 have hB0:Below w w W2:=by rw [hW2];exact ((zy2 _ _).alloc (zz8 _) _).alloc (by simp) _
 have KT:Hid (Blk W2 w 25 #[t.d,t.i]):=by rw [hW2];exact (Blk.new w _ _).same (Below.heap_alloc _ _ _ (by simp))
 have KP:Hid (Blk W2 (w.heap.size+1) 28 #[p.op,p.ct,p.n,p.m,p.va,.slice A4 p.ks.length cap4]):=by rw [hW2];have h:=Blk.new (w.alloc (.cells #[t.d,t.i] 25)) 28 #[p.op,p.ct,p.n,p.m,p.va,.slice A4 p.ks.length cap4];rw [World.size_alloc] at h;exact h
 have hws:w.heap.size+2≤W2.heap.size:=by rw [hW2];simp
 have hws2:W2.heap.size=w.heap.size+1+1:=by rw [hW2];simp
 rw [←hW2]
 clear hW2
 obtain ⟨y0,y1,klt⟩:=KT.out.c2
 obtain ⟨z0,z1,z2,z3,z4,z5,klt2⟩:=KP.out.c6
 refine (spec_l3Shape p xs HW.out 10 (zz8 _) t HT.out W2 _ F _ G (ArrDt.below HX.out hB0 HF.out) (HF.out.mono hB0.size) (HV.out.below hB0 HG.out) (HG.out.mono hB0.size)).mono ?_
 rintro e w3 ⟨rfl,hb3⟩
 have hB3:=hB0.trans (hb3.mono hB0.size)
 have KT3:=jj (KT.out.same (hb3.block _ KT.out.lt))
 have KP3:=jj (KP.out.same (hb3.block _ KP.out.lt))
 clear y0 y1 z0 z1 z2 z3 z4 z5 klt klt2
 obtain ⟨y0,y1,klt⟩:=KT3.out.c2
 obtain ⟨z0,z1,z2,z3,z4,z5,klt2⟩:=KP3.out.c6
 clear hb3 KT KP hB0
 cases e1:shapeB xs 10 t p with
 |false =>
  have hf:Hid (patOkB xs t p=false):=by unfold Hid patOkB;rw [e1];rfl
  clear e1
  go_wp2
  go_ret
  exact ⟨zA0 hf.out.symm,hB3⟩
 |true =>
  have h1:patOkB xs t p=(decide (nodesP p≤60) && linB xs 10 t p):=by unfold patOkB;rw [e1];rfl
  have H1:=jj h1
  have HS:=jj e1
  clear h1 e1
  go_wp2_with fail
  refine (spec_l3Count p 60 (by omega) (by omega) w3 _ G (HV.out.below hB3 HG.out) (HG.out.mono hB3.size) HZ.out).mono ?_
  rintro e w4 ⟨c,rfl,hu,hb4⟩
  have hB4:=hB3.trans (hb4.mono hB3.size)
  have KT4:=jj (KT3.out.same (hb4.block _ KT3.out.lt))
  have KP4:=jj (KP3.out.same (hb4.block _ KP3.out.lt))
  clear y0 y1 z0 z1 z2 z3 z4 z5 klt klt2
  obtain ⟨y0,y1,klt⟩:=KT4.out.c2
  obtain ⟨z0,z1,z2,z3,z4,z5,klt2⟩:=KP4.out.c6
  clear hb4 KT3 KP3 hB3
  have hcd:decide (c≤60)=decide (nodesP p≤60):=by
   have h1:=hu.yes
   have h2:=hu.no
   by_cases h:nodesP p≤60
   ·rw [decide_eq_true h];exact decide_eq_true (by have:=h1 (by omega);omega)
   ·rw [decide_eq_false h];exact decide_eq_false (by have:=h2 (by omega);omega)
  have h2:=H1.out
  rw [←hcd] at h2
  clear hu hcd
  cases e2:decide (c≤60) with
  |false =>
   have hf:Hid (patOkB xs t p=false):=by rw [h2,e2];rfl
   clear h2
   go_wp2
   go_ret
   exact ⟨zA0 hf.out.symm,hB4⟩
  |true =>
   have hf:Hid (patOkB xs t p=linB xs 10 t p):=by rw [h2,e2];rfl
   clear h2
   go_wp2_with fail
   refine (spec_l3Linear p xs HW.out 10 t HT.out HS.out (by have:=HZ.out;omega) w4 _ F _ G (ArrDt.below HX.out hB4 HF.out) (HF.out.mono hB4.size) (HV.out.below hB4 HG.out) (HG.out.mono hB4.size)).mono ?_
   rintro e w5 ⟨rfl,hb5⟩
   have hB5:=hB4.trans (hb5.mono hB4.size)
   generalize linB xs 10 t p=bb at *
   clear hb5
   go_wp2
   go_ret
   exact ⟨zA0 hf.out.symm,hB5⟩
def patternValidB (xs:List Dt) (t:Ty) (p:P):Bool:=typeValidB xs t && patOkB xs t p
def patternVarsL (xs:List Dt) (t:Ty) (p:P):List Vt:=if patternValidB xs t p=true then varsN xs 10 t p else []
end Go.Proofs.Ytjjclcmmfeegfaa
