/-
  Lemmas, and contracts of functions. Conditions: none.
-/
import Derived.Test.YtjjclcmmfeegfaaGAF
import Derived.Test.YtjjclcmmfeegfaaGAE
import Derived.Test.YtjjclcmmfeegfaaGAA
import Derived.Test.YtjjclcmmfeegfaaGAB
import Derived.Deep.RegionHeld3
import Derived.Deep.RegionWith
import Derived.Deep.QuietTactic
import Derived.BigQuiet
import Derived.IntWalk

set_option linter.unusedVariables false
set_option linter.unusedSimpArgs false
set_option maxRecDepth 100000
set_option maxHeartbeats 1600000

namespace Go.Proofs.Ytjjclcmmfeegfaa
open Go.RowKit
def onlyB (p:P) (c n v:Bool) (k:Int):Bool:=(c || p.ct==0) && ((n || (p.n==0 && p.m==0)) && ((v || p.va==0) && ((p.ks.length:Int)==k)))
theorem impl_only (p:P) (A4:Option Addr) (cap4:Nat) (c n v:Bool) (k:Int) (w:World) :
  Calls Try.prog 105 #[.agg #[p.op,p.ct,p.n,p.m,p.va,.slice A4 p.ks.length cap4],.bool c,.bool n,.bool v,.int .i64 k] w fun e w'=>e=.returned (.bool (onlyB p c n v k))∧Below w w w':=by
 have HB:Hid (Below w w (w.alloc (.cells #[p.op,p.ct,p.n,p.m,p.va,.slice A4 p.ks.length cap4] 28))):=(zy2 _ _).alloc (zz8 _) _
 cases c with
 |false =>
  cases n with
  |false =>
   cases v with
   |false =>
    cases q1:(p.ct==0) with
    |false =>
     have hf:Hid (onlyB p false false false k=false):=by unfold Hid onlyB;rw [q1];rfl
     go_enter Try.func105,Try.ntmps105
     go_wp2
     go_ret
     exact ⟨zA0 hf.out.symm,HB.out⟩
    |true =>
     cases q2:(p.n==0) with
     |false =>
      have hf:Hid (onlyB p false false false k=false):=by unfold Hid onlyB;rw [q1,q2];rfl
      go_enter Try.func105,Try.ntmps105
      go_wp2
      go_ret
      exact ⟨zA0 hf.out.symm,HB.out⟩
     |true =>
      cases q3:(p.m==0) with
      |false =>
       have hf:Hid (onlyB p false false false k=false):=by unfold Hid onlyB;rw [q1,q2,q3];rfl
       go_enter Try.func105,Try.ntmps105
       go_wp2
       go_ret
       exact ⟨zA0 hf.out.symm,HB.out⟩
      |true =>
       cases q4:(p.va==0) with
       |false =>
        have hf:Hid (onlyB p false false false k=false):=by unfold Hid onlyB;rw [q1,q2,q3,q4];rfl
        go_enter Try.func105,Try.ntmps105
        go_wp2
        go_ret
        exact ⟨zA0 hf.out.symm,HB.out⟩
       |true =>
        have hf:Hid (onlyB p false false false k=((p.ks.length:Int)==k)):=by unfold Hid onlyB;rw [q1,q2,q3,q4];rfl
        go_enter Try.func105,Try.ntmps105
        go_wp2
        go_ret
        exact ⟨zA0 hf.out.symm,HB.out⟩
   |true =>
    cases q1:(p.ct==0) with
    |false =>
     have hf:Hid (onlyB p false false true k=false):=by unfold Hid onlyB;rw [q1];rfl
     go_enter Try.func105,Try.ntmps105
     go_wp2
     go_ret
     exact ⟨zA0 hf.out.symm,HB.out⟩
    |true =>
     cases q2:(p.n==0) with
     |false =>
      have hf:Hid (onlyB p false false true k=false):=by unfold Hid onlyB;rw [q1,q2];rfl
      go_enter Try.func105,Try.ntmps105
      go_wp2
      go_ret
      exact ⟨zA0 hf.out.symm,HB.out⟩
     |true =>
      cases q3:(p.m==0) with
      |false =>
       have hf:Hid (onlyB p false false true k=false):=by unfold Hid onlyB;rw [q1,q2,q3];rfl
       go_enter Try.func105,Try.ntmps105
       go_wp2
       go_ret
       exact ⟨zA0 hf.out.symm,HB.out⟩
      |true =>
       have hf:Hid (onlyB p false false true k=((p.ks.length:Int)==k)):=by unfold Hid onlyB;rw [q1,q2,q3];rfl
       go_enter Try.func105,Try.ntmps105
       go_wp2
       go_ret
       exact ⟨zA0 hf.out.symm,HB.out⟩
  |true =>
   cases v with
   |false =>
    cases q1:(p.ct==0) with
    |false =>
     have hf:Hid (onlyB p false true false k=false):=by unfold Hid onlyB;rw [q1];rfl
     go_enter Try.func105,Try.ntmps105
     go_wp2
     go_ret
     exact ⟨zA0 hf.out.symm,HB.out⟩
    |true =>
     cases q4:(p.va==0) with
     |false =>
      have hf:Hid (onlyB p false true false k=false):=by unfold Hid onlyB;rw [q1,q4];rfl
      go_enter Try.func105,Try.ntmps105
      go_wp2
      go_ret
      exact ⟨zA0 hf.out.symm,HB.out⟩
     |true =>
      have hf:Hid (onlyB p false true false k=((p.ks.length:Int)==k)):=by unfold Hid onlyB;rw [q1,q4];rfl
      go_enter Try.func105,Try.ntmps105
      go_wp2
      go_ret
      exact ⟨zA0 hf.out.symm,HB.out⟩
   |true =>
    cases q1:(p.ct==0) with
    |false =>
     have hf:Hid (onlyB p false true true k=false):=by unfold Hid onlyB;rw [q1];rfl
     go_enter Try.func105,Try.ntmps105
     go_wp2
     go_ret
     exact ⟨zA0 hf.out.symm,HB.out⟩
    |true =>
     have hf:Hid (onlyB p false true true k=((p.ks.length:Int)==k)):=by unfold Hid onlyB;rw [q1];rfl
     go_enter Try.func105,Try.ntmps105
     go_wp2
     go_ret
     exact ⟨zA0 hf.out.symm,HB.out⟩
 |true =>
  cases n with
  |false =>
   cases v with
   |false =>
    cases q2:(p.n==0) with
    |false =>
     have hf:Hid (onlyB p true false false k=false):=by unfold Hid onlyB;rw [q2];rfl
     go_enter Try.func105,Try.ntmps105
     go_wp2
     go_ret
     exact ⟨zA0 hf.out.symm,HB.out⟩
    |true =>
     cases q3:(p.m==0) with
     |false =>
      have hf:Hid (onlyB p true false false k=false):=by unfold Hid onlyB;rw [q2,q3];rfl
      go_enter Try.func105,Try.ntmps105
      go_wp2
      go_ret
      exact ⟨zA0 hf.out.symm,HB.out⟩
     |true =>
      cases q4:(p.va==0) with
      |false =>
       have hf:Hid (onlyB p true false false k=false):=by unfold Hid onlyB;rw [q2,q3,q4];rfl
       go_enter Try.func105,Try.ntmps105
       go_wp2
       go_ret
       exact ⟨zA0 hf.out.symm,HB.out⟩
      |true =>
       have hf:Hid (onlyB p true false false k=((p.ks.length:Int)==k)):=by unfold Hid onlyB;rw [q2,q3,q4];rfl
       go_enter Try.func105,Try.ntmps105
       go_wp2
       go_ret
       exact ⟨zA0 hf.out.symm,HB.out⟩
   |true =>
    cases q2:(p.n==0) with
    |false =>
     have hf:Hid (onlyB p true false true k=false):=by unfold Hid onlyB;rw [q2];rfl
     go_enter Try.func105,Try.ntmps105
     go_wp2
     go_ret
     exact ⟨zA0 hf.out.symm,HB.out⟩
    |true =>
     cases q3:(p.m==0) with
     |false =>
      have hf:Hid (onlyB p true false true k=false):=by unfold Hid onlyB;rw [q2,q3];rfl
      go_enter Try.func105,Try.ntmps105
      go_wp2
      go_ret
      exact ⟨zA0 hf.out.symm,HB.out⟩
     |true =>
      have hf:Hid (onlyB p true false true k=((p.ks.length:Int)==k)):=by unfold Hid onlyB;rw [q2,q3];rfl
      go_enter Try.func105,Try.ntmps105
      go_wp2
      go_ret
      exact ⟨zA0 hf.out.symm,HB.out⟩
  |true =>
   cases v with
   |false =>
    cases q4:(p.va==0) with
    |false =>
     have hf:Hid (onlyB p true true false k=false):=by unfold Hid onlyB;rw [q4];rfl
     go_enter Try.func105,Try.ntmps105
     go_wp2
     go_ret
     exact ⟨zA0 hf.out.symm,HB.out⟩
    |true =>
     have hf:Hid (onlyB p true true false k=((p.ks.length:Int)==k)):=by unfold Hid onlyB;rw [q4];rfl
     go_enter Try.func105,Try.ntmps105
     go_wp2
     go_ret
     exact ⟨zA0 hf.out.symm,HB.out⟩
   |true =>
    have hf:Hid (onlyB p true true true k=((p.ks.length:Int)==k)):=by unfold Hid onlyB;rfl
    go_enter Try.func105,Try.ntmps105
    go_wp2
    go_ret
    exact ⟨zA0 hf.out.symm,HB.out⟩
theorem impl_isVar (n:Int) (w:World):Calls Try.prog 106 #[.int .i64 n] w fun e w'=>e=.returned (.bool (withinB n 0 5))∧w'=w:=by
 go_enter Try.func106,Try.ntmps106
 go_wp2_with fail
 refine (zAE n 0 5 w).mono ?_
 rintro e w' ⟨rfl,hw'⟩
 generalize hq:withinB n 0 5=q
 have HQ:=jj hq
 clear hq
 go_wp2
 go_ret
 exact ⟨zA0 HQ.out.symm,hw'.symm⟩
theorem arr_tys1 {w:World} {g:Nat} {T:TypeId} {t:Ty} (h:Blk w g T #[t.d,t.i]):Arr w (TyR w) [t] (.slice (some ⟨g,0,none⟩) 1 1) [g] :=
 ⟨_,1,rfl,zz8 _,by simp [maxLen],.inr ⟨g,0,[t.d,t.i],[],rfl,fun j u hj=>by rw [Nat.zero_add,h.cell];simpa using hj,⟨[t.d,t.i],[],[],[],rfl,rfl,⟨rfl,rfl⟩,rfl,rfl⟩,rfl⟩⟩
theorem arr_tys2 {w:World} {g:Nat} {T:TypeId} {t:Ty} (h:Blk w g T #[t.d,t.i,t.d,t.i]):Arr w (TyR w) [t,t] (.slice (some ⟨g,0,none⟩) 2 2) [g] :=
 ⟨_,2,rfl,zz8 _,by simp [maxLen],.inr ⟨g,0,[t.d,t.i,t.d,t.i],[],rfl,fun j u hj=>by rw [Nat.zero_add,h.cell];simpa using hj,⟨[t.d,t.i],[t.d,t.i],[],[],rfl,rfl,⟨rfl,rfl⟩,⟨[t.d,t.i],[],[],[],rfl,rfl,⟨rfl,rfl⟩,rfl,rfl⟩⟩,rfl⟩⟩
theorem node_len {xs:List Dt} {t:Ty} {p:P} (h:¬p.op=4):(typesP xs t p).length=kidsN p.op:=by rw [zB9 h,repTo_len]
theorem nodeB_1 {xs:List Dt} {t:Ty} {p:P} (h:p.op=1):nodeB xs t p=(onlyB p false false false 0):=by
 unfold nodeB ownB namedB kindB onlyB
 rw [node_len (by omega),h]
 unfold kidsN
 rw [Bool.eq_iff_iff]
 simp [zAF] <;> first | omega | (constructor <;> intro h <;> (try simp_all) <;> (try omega))
theorem nodeB_2 {xs:List Dt} {t:Ty} {p:P} (h:p.op=2):nodeB xs t p=(onlyB p false false true 0 && withinB p.va 0 5):=by
 unfold nodeB ownB namedB kindB onlyB
 rw [node_len (by omega),h]
 unfold kidsN
 rw [Bool.eq_iff_iff]
 simp [zAF] <;> first | omega | (constructor <;> intro h <;> (try simp_all) <;> (try omega))
theorem nodeB_3 {xs:List Dt} {t:Ty} {p:P} (h:p.op=3):nodeB xs t p=(t.d == -1 && (onlyB p false true false 0 && (decide (0≤p.n) && (decide (p.n≤p.m) && decide (p.m≤9))))):=by
 unfold nodeB ownB namedB kindB onlyB
 rw [node_len (by omega),h]
 unfold kidsN
 rw [Bool.eq_iff_iff]
 simp [zAF] <;> first | omega | (constructor <;> intro h <;> (try simp_all) <;> (try omega))
theorem nodeB_5 {xs:List Dt} {t:Ty} {p:P} (h:p.op=5):nodeB xs t p=(onlyB p false false false 2):=by
 unfold nodeB ownB namedB kindB onlyB
 rw [node_len (by omega),h]
 unfold kidsN
 rw [Bool.eq_iff_iff]
 simp [zAF] <;> first | omega | (constructor <;> intro h <;> (try simp_all) <;> (try omega))
theorem nodeB_6 {xs:List Dt} {t:Ty} {p:P} (h:p.op=6):nodeB xs t p=(onlyB p false false true 1 && withinB p.va 0 5):=by
 unfold nodeB ownB namedB kindB onlyB
 rw [node_len (by omega),h]
 unfold kidsN
 rw [Bool.eq_iff_iff]
 simp [zAF] <;> first | omega | (constructor <;> intro h <;> (try simp_all) <;> (try omega))
theorem nodeB_4 {xs:List Dt} {t:Ty} {p:P} (h:p.op=4):nodeB xs t p=(hasB (ctorsL xs t) p.ct && onlyB p true false false ((argsOf xs t p.ct).length:Nat)):=by
 unfold nodeB ownB namedB kindB onlyB typesP
 rw [h]
 rw [Bool.eq_iff_iff]
 simp <;> first | omega | (constructor <;> intro h <;> (try simp_all) <;> (try omega))
theorem nodeB_no {xs:List Dt} {t:Ty} {p:P} (h1:¬p.op=1) (h2:¬p.op=2) (h3:¬p.op=3) (h4:¬p.op=4) (h5:¬p.op=5) (h6:¬p.op=6):nodeB xs t p=false:=by
 unfold nodeB ownB kindB
 simp [h1,h2,h3,h4,h5,h6]
theorem shape_endA {w W2 w3:World} {T:TypeId} {C:Array Value} (hB0:Below w w W2) (hws2:W2.heap.size=w.heap.size+1+1) (hb3:Below (W2.drew.alloc (.cells C T)).heap.size (W2.drew.alloc (.cells C T)) w3) :
  Below w w w3∧Fresh w w3 [w.heap.size+1+1]∧Blk w3 (w.heap.size+1+1) T C:=by
 have hd:W2.drew.heap.size=w.heap.size+1+1:=hws2
 have hsz:(W2.drew.alloc (.cells C T)).heap.size=w.heap.size+1+1+1:=by rw [World.size_alloc,hd]
 have h1:=Blk.new W2.drew T C
 rw [hd] at h1
 have h3:=hb3.size
 refine ⟨(hB0.drew.alloc (by omega) _).trans (hb3.mono (by omega)),fun b hb=>?_,h1.same (hb3.block _ (by omega))⟩
 rw [zy1] at hb
 omega
theorem shape_endB {w W2 w3:World} (hB0:Below w w W2) (hb3:Below W2.drew.heap.size W2.drew w3) (o:Obj) :
  Below w w (w3.alloc o)∧Fresh w (w3.alloc o) [w3.heap.size]:=by
 have h3:W2.heap.size≤w3.heap.size:=hb3.size
 have h0:=hB0.size
 refine ⟨(hB0.drew.trans (hb3.mono hB0.size)).alloc (by omega) _,fun b hb=>?_⟩
 rw [zy1] at hb
 rw [World.size_alloc]
 omega
def ShapePost (xs:List Dt) (t:Ty) (p:P) (w:World) (e:Ending) (w':World):Prop:=∃ v F,e=.returned (.tuple #[v,.bool (nodeB xs t p)])∧Below w w w'∧Fresh w w' F∧(nodeB xs t p=true→Arr w' (TyR w') (typesP xs t p) v F)
theorem shape_1 (xs:List Dt) (hw:WorldOK xs) (t:Ty) (ht:TyIn xs.length t) (p:P) (h1:p.op=1) (w:World) (x:Value) (F:List Nat) (cs:List Value) (G:List Nat):Arr w (DtR w) xs x F→Under w F→PR w p cs G→Under w G →
  Calls Try.prog 82 #[x,.agg #[t.d,t.i],.agg cs.toArray] w (ShapePost xs t p w):=by
 intro hx hf hv hg
 obtain ⟨kv,rfl,ha⟩:=(zA4 _ _ _).1 hv
 obtain ⟨A,cap,rfl,hc1,hc2⟩:=hx.form
 obtain ⟨A4,cap4,rfl,hc3,hc4⟩:=ha.form
 have HV:=jj hv
 have HX:=jj hx
 have HF:=jj hf
 have HA:=jj ha
 have HG:=jj hg
 clear hx hf ha hg
 clear hv
 have HW:=jj hw
 have HT:=jj ht
 clear hw ht
 have o1:(p.op==1)=true:=by simp [h1]
 have HNB:=jj (nodeB_1 (xs:=xs) (t:=t) h1)
 have HTY:=jj (show typesP xs t p=[] from by rw [zB9 (by omega),h1];rfl)
 clear h1
 go_enter Try.func82,Try.ntmps82
 go_wp2_with fail
 obtain ⟨W2,hW2⟩:∃ W2,W2=((w.alloc (.cells #[t.d,t.i] 25)).alloc (.cells #[p.op,p.ct,p.n,p.m,p.va,.slice A4 p.ks.length cap4] 28)):=⟨_,rfl⟩
 have hB0:Below w w W2:=by rw [hW2];exact ((zy2 _ _).alloc (zz8 _) _).alloc (by simp) _
 have KT:Hid (Blk W2 w 25 #[t.d,t.i]):=by rw [hW2];exact (Blk.new w _ _).same (Below.heap_alloc _ _ _ (by simp))
 have KP:Hid (Blk W2 (w.heap.size+1) 28 #[p.op,p.ct,p.n,p.m,p.va,.slice A4 p.ks.length cap4]):=by rw [hW2];have h:=Blk.new (w.alloc (.cells #[t.d,t.i] 25)) 28 #[p.op,p.ct,p.n,p.m,p.va,.slice A4 p.ks.length cap4];rw [World.size_alloc] at h;exact h
 have hws:w.heap.size+2≤W2.heap.size:=by rw [hW2];simp
 have hws2:W2.heap.size=w.heap.size+1+1:=by rw [hW2];simp
 rw [←hW2]
 clear hW2
 obtain ⟨y0,y1,klt⟩:=KT.out.c2
 obtain ⟨z0,z1,z2,z3,z4,z5,klt2⟩:=KP.out.c6
 refine (impl_only p A4 cap4 false false false 0 _).mono ?_
 rintro e w3 ⟨rfl,hb3⟩
 have hB3:=hB0.trans (hb3.mono hB0.size)
 generalize hbb:onlyB p false false false 0=bb at *
 clear hbb
 have HFin:Hid (ShapePost xs t p w (.returned (.tuple #[.slice none 0 0,.bool bb])) w3):=⟨_,[],by rw [HNB.out] <;> rfl,hB3,Fresh.nil _ _,fun _=>by rw [HTY.out];exact Arr.nil⟩
 clear y0 y1 z0 z1 z2 z3 z4 z5 klt klt2
 clear hb3 KT KP hB0
 go_wp2
 go_ret2
 exact HFin.out
theorem shape_2 (xs:List Dt) (hw:WorldOK xs) (t:Ty) (ht:TyIn xs.length t) (p:P) (h2:p.op=2) (w:World) (x:Value) (F:List Nat) (cs:List Value) (G:List Nat):Arr w (DtR w) xs x F→Under w F→PR w p cs G→Under w G →
  Calls Try.prog 82 #[x,.agg #[t.d,t.i],.agg cs.toArray] w (ShapePost xs t p w):=by
 intro hx hf hv hg
 obtain ⟨kv,rfl,ha⟩:=(zA4 _ _ _).1 hv
 obtain ⟨A,cap,rfl,hc1,hc2⟩:=hx.form
 obtain ⟨A4,cap4,rfl,hc3,hc4⟩:=ha.form
 have HV:=jj hv
 have HX:=jj hx
 have HF:=jj hf
 have HA:=jj ha
 have HG:=jj hg
 clear hx hf ha hg
 clear hv
 have HW:=jj hw
 have HT:=jj ht
 clear hw ht
 have o1:(p.op==1)=false:=by simp [h2]
 have o2:(p.op==2)=true:=by simp [h2]
 have HNB:=jj (nodeB_2 (xs:=xs) (t:=t) h2)
 have HTY:=jj (show typesP xs t p=[] from by rw [zB9 (by omega),h2];rfl)
 clear h2
 go_enter Try.func82,Try.ntmps82
 go_wp2_with fail
 obtain ⟨W2,hW2⟩:∃ W2,W2=((w.alloc (.cells #[t.d,t.i] 25)).alloc (.cells #[p.op,p.ct,p.n,p.m,p.va,.slice A4 p.ks.length cap4] 28)):=⟨_,rfl⟩
 have hB0:Below w w W2:=by rw [hW2];exact ((zy2 _ _).alloc (zz8 _) _).alloc (by simp) _
 have KT:Hid (Blk W2 w 25 #[t.d,t.i]):=by rw [hW2];exact (Blk.new w _ _).same (Below.heap_alloc _ _ _ (by simp))
 have KP:Hid (Blk W2 (w.heap.size+1) 28 #[p.op,p.ct,p.n,p.m,p.va,.slice A4 p.ks.length cap4]):=by rw [hW2];have h:=Blk.new (w.alloc (.cells #[t.d,t.i] 25)) 28 #[p.op,p.ct,p.n,p.m,p.va,.slice A4 p.ks.length cap4];rw [World.size_alloc] at h;exact h
 have hws:w.heap.size+2≤W2.heap.size:=by rw [hW2];simp
 have hws2:W2.heap.size=w.heap.size+1+1:=by rw [hW2];simp
 rw [←hW2]
 clear hW2
 obtain ⟨y0,y1,klt⟩:=KT.out.c2
 obtain ⟨z0,z1,z2,z3,z4,z5,klt2⟩:=KP.out.c6
 refine (impl_only p A4 cap4 false false true 0 _).mono ?_
 rintro e w3 ⟨rfl,hb3⟩
 have hB3:=hB0.trans (hb3.mono hB0.size)
 have KT3:=jj (KT.out.same (hb3.block _ KT.out.lt))
 have KP3:=jj (KP.out.same (hb3.block _ KP.out.lt))
 clear y0 y1 z0 z1 z2 z3 z4 z5 klt klt2
 clear hb3 KT KP hB0
 obtain ⟨-,-,-,-,z4,-,klt2⟩:=KP3.out.c6
 cases e2:onlyB p false false true 0 with
 |false =>
  have HFin:Hid (ShapePost xs t p w (.returned (.tuple #[.slice none 0 0,.bool false])) w3):=⟨_,[],by rw [HNB.out,e2] <;> rfl,hB3,Fresh.nil _ _,fun _=>by rw [HTY.out];exact Arr.nil⟩
  clear e2
  go_wp2
  go_ret2
  exact HFin.out
 |true =>
  have HE2:=jj e2
  clear e2
  go_wp2_with fail
  refine (impl_isVar p.va w3).mono ?_
  rintro e w4 ⟨rfl,hw4⟩
  rw [hw4]
  clear hw4 w4
  generalize hbb:withinB p.va 0 5=bb at *
  clear hbb
  have HFin:Hid (ShapePost xs t p w (.returned (.tuple #[.slice none 0 0,.bool bb])) w3):=⟨_,[],by rw [HNB.out,HE2.out,Bool.true_and] <;> rfl,hB3,Fresh.nil _ _,fun _=>by rw [HTY.out];exact Arr.nil⟩
  clear z4 klt2
  go_wp2
  go_ret2
  exact HFin.out
theorem shape_4 (xs:List Dt) (hw:WorldOK xs) (t:Ty) (ht:TyIn xs.length t) (p:P) (h4:p.op=4) (w:World) (x:Value) (F:List Nat) (cs:List Value) (G:List Nat):Arr w (DtR w) xs x F→Under w F→PR w p cs G→Under w G →
  Calls Try.prog 82 #[x,.agg #[t.d,t.i],.agg cs.toArray] w (ShapePost xs t p w):=by
 intro hx hf hv hg
 obtain ⟨kv,rfl,ha⟩:=(zA4 _ _ _).1 hv
 obtain ⟨A,cap,rfl,hc1,hc2⟩:=hx.form
 obtain ⟨A4,cap4,rfl,hc3,hc4⟩:=ha.form
 have HV:=jj hv
 have HX:=jj hx
 have HF:=jj hf
 have HA:=jj ha
 have HG:=jj hg
 clear hx hf ha hg
 clear hv
 have HW:=jj hw
 have HT:=jj ht
 clear hw ht
 have o1:(p.op==1)=false:=by simp [h4]
 have o2:(p.op==2)=false:=by simp [h4]
 have o3:(p.op==3)=false:=by simp [h4]
 have o4:(p.op==4)=true:=by simp [h4]
 have HNB:=jj (nodeB_4 (xs:=xs) (t:=t) h4)
 clear h4
 have H4:=jj (show p.op=4 from by simpa using o4)
 go_enter Try.func82,Try.ntmps82
 go_wp2_with fail
 obtain ⟨W2,hW2⟩:∃ W2,W2=((w.alloc (.cells #[t.d,t.i] 25)).alloc (.cells #[p.op,p.ct,p.n,p.m,p.va,.slice A4 p.ks.length cap4] 28)):=⟨_,rfl⟩
 have hB0:Below w w W2:=by rw [hW2];exact ((zy2 _ _).alloc (zz8 _) _).alloc (by simp) _
 have KT:Hid (Blk W2 w 25 #[t.d,t.i]):=by rw [hW2];exact (Blk.new w _ _).same (Below.heap_alloc _ _ _ (by simp))
 have KP:Hid (Blk W2 (w.heap.size+1) 28 #[p.op,p.ct,p.n,p.m,p.va,.slice A4 p.ks.length cap4]):=by rw [hW2];have h:=Blk.new (w.alloc (.cells #[t.d,t.i] 25)) 28 #[p.op,p.ct,p.n,p.m,p.va,.slice A4 p.ks.length cap4];rw [World.size_alloc] at h;exact h
 have hws:w.heap.size+2≤W2.heap.size:=by rw [hW2];simp
 have hws2:W2.heap.size=w.heap.size+1+1:=by rw [hW2];simp
 rw [←hW2]
 clear hW2
 obtain ⟨y0,y1,klt⟩:=KT.out.c2
 obtain ⟨z0,z1,z2,z3,z4,z5,klt2⟩:=KP.out.c6
 have hkeep:Kp W2.heap.size (fun U=>U.cell? ⟨w,0,none⟩=t.d∧U.cell? ⟨w,1,none⟩=t.i∧U.cell? ⟨w.heap.size+1,1,none⟩=p.ct):=fun U U' h hUU hU=>⟨(hUU.cell (zz9 (klt) hU)).trans h.1,(hUU.cell (zz9 (klt) hU)).trans h.2.1,(hUU.cell (zz9 (klt2) hU)).trans h.2.2⟩
 have HKeep:=jj hkeep
 clear hkeep
 go_region_held3 (fun w'=>w'.cell? ⟨w,0,none⟩=t.d∧w'.cell? ⟨w,1,none⟩=t.i∧w'.cell? ⟨w.heap.size+1,1,none⟩=p.ct) (first | assumption | (exact ⟨y0,y1,z1⟩) | (exact HKeep.out W2.drew w4 ⟨y0,y1,z1⟩ hb4 (zz8 _)) | (exact HKeep.out w4 w5 (by assumption) hb5 hlew4)) (first | (go_at_call 108;((with_reducible refine (impl_ctorsOf xs t _ _ F (ArrDt.below HX.out hB0.drew HF.out) (HF.out.mono hB0.drew.size) HW.out HT.out.inWorld).mono ?_);rintro e w4 ⟨v4,F4,rfl,hb4,ha4,-,hfs4⟩);have hlew4:W2.heap.size≤w4.heap.size:=hb4.size) | (go_at_call 107;((with_reducible refine (impl_has (ctorsL xs t) p.ct _ _ F4 ha4 hfs4.under).mono ?_);rintro e w5 ⟨rfl,hb5⟩)))
 have hBa:=hB0.drew.trans (hb4.mono hB0.drew.size)
 have hB5:=hBa.trans (hb5.mono hBa.size)
 have KT5:=jj ((KT.out.same (hb4.block _ KT.out.lt)).same (hb5.block _ (KT.out.same (hb4.block _ KT.out.lt)).lt))
 have KP5:=jj ((KP.out.same (hb4.block _ KP.out.lt)).same (hb5.block _ (KP.out.same (hb4.block _ KP.out.lt)).lt))
 clear y0 y1 z0 z1 z2 z3 z4 z5 klt klt2
 clear HKeep ha4 hfs4 hb4 hb5 hBa hB0 KT KP
 cases e1:hasB (ctorsL xs t) p.ct with
 |false =>
  have HFin:Hid (ShapePost xs t p w (.returned (.tuple #[.slice none 0 0,.bool false])) w5):=⟨_,[],by rw [HNB.out,e1];rfl,hB5,Fresh.nil _ _,fun h=>by rw [HNB.out,e1] at h;cases h⟩
  clear e1
  go_wp2
  go_ret2
  exact HFin.out
 |true =>
  obtain ⟨q,k,e2,hvc,hq',hkl⟩:=zB6 (xs:=xs) (t:=t) HT.out.inWorld ((hasB_iff _ _).1 e1)
  have hty:argsOf xs t p.ct=argsL xs[q].ctors[k] t.i:=by
   rw [hvc]
   obtain ⟨td,ti⟩:=t
   simp only at e2
   subst e2
   exact zBA hq' hkl
  have hnb:=HNB.out
  rw [e1,Bool.true_and,hty] at hnb
  have HNB2:=jj hnb
  have HTY:Hid (typesP xs t p=argsL xs[q].ctors[k] t.i):=by unfold Hid typesP;rw [if_pos H4.out,hty]
  have HVC:=jj hvc
  have HE2:=jj e2
  have HLA:=jj (HW.out.ctor hq' hkl).args
  clear hnb hty hvc e2 e1 HNB
  obtain ⟨y0,y1,klt⟩:=KT5.out.c2
  obtain ⟨-,z1,-,-,-,-,klt2⟩:=KP5.out.c6
  go_wp2_with fail
  rw [HVC.out,HE2.out]
  refine (impl_argTypes xs q k t.i hq' hkl w5 _ F (ArrDt.below HX.out hB5 HF.out) (HF.out.mono hB5.size) HLA.out).mono ?_
  rintro e w6 ⟨v6,F6,rfl,hb6,ha6,hfr6,hfs6⟩
  have hB6:=hB5.trans (hb6.mono hB5.size)
  have KT6:=jj (KT5.out.same (hb6.block _ KT5.out.lt))
  have KP6:=jj (KP5.out.same (hb6.block _ KP5.out.lt))
  generalize argsL xs[q].ctors[k] t.i=ls at *
  obtain ⟨A6,cap6,rfl,hd3,hd4⟩:=ha6.form
  have HA6:=jj ha6
  have HFS6:=jj hfs6
  clear ha6 hfr6 hfs6 hb6 y0 y1 z1 klt klt2
  obtain ⟨z0,z1,z2,z3,z4,z5,klt2⟩:=KP6.out.c6
  go_wp2_with fail
  refine (impl_only p A4 cap4 true false false (ls.length:Nat) _).mono ?_
  rintro e w7 ⟨rfl,hb7⟩
  have HB7:=jj (hB6.trans (hb7.mono hB6.size))
  have HA7:=jj (ArrTy.below HA6.out hb7 HFS6.out.under)
  have HFS7:Hid (Fresh w w7 F6):=fun b hb=>⟨Nat.le_trans hB5.size (HFS6.out b hb).1,zz9 (HFS6.out b hb).2 hb7.size⟩
  generalize hbb:onlyB p true false false ((ls.length:Nat):Int)=bb at *
  clear hbb
  have HFin:Hid (ShapePost xs t p w (.returned (.tuple #[.slice A6 ls.length cap6,.bool bb])) w7):=⟨_,F6,by rw [HNB2.out],HB7.out,HFS7.out,fun _=>by rw [HTY.out];exact HA7.out⟩
  clear z0 z1 z2 z3 z4 z5 klt2 hb7
  go_wp2
  go_ret2
  exact HFin.out
theorem shape_5 (xs:List Dt) (hw:WorldOK xs) (t:Ty) (ht:TyIn xs.length t) (p:P) (h5:p.op=5) (w:World) (x:Value) (F:List Nat) (cs:List Value) (G:List Nat):Arr w (DtR w) xs x F→Under w F→PR w p cs G→Under w G →
  Calls Try.prog 82 #[x,.agg #[t.d,t.i],.agg cs.toArray] w (ShapePost xs t p w):=by
 intro hx hf hv hg
 obtain ⟨kv,rfl,ha⟩:=(zA4 _ _ _).1 hv
 obtain ⟨A,cap,rfl,hc1,hc2⟩:=hx.form
 obtain ⟨A4,cap4,rfl,hc3,hc4⟩:=ha.form
 have HV:=jj hv
 have HX:=jj hx
 have HF:=jj hf
 have HA:=jj ha
 have HG:=jj hg
 clear hx hf ha hg
 clear hv
 have HW:=jj hw
 have HT:=jj ht
 clear hw ht
 have o1:(p.op==1)=false:=by simp [h5]
 have o2:(p.op==2)=false:=by simp [h5]
 have o3:(p.op==3)=false:=by simp [h5]
 have o4:(p.op==4)=false:=by simp [h5]
 have o5:(p.op==5)=true:=by simp [h5]
 have HNB:=jj (nodeB_5 (xs:=xs) (t:=t) h5)
 have HTY:=jj (show typesP xs t p=[t,t] from by rw [zB9 (by omega),h5];rfl)
 clear h5
 go_enter Try.func82,Try.ntmps82
 go_wp2_with fail
 obtain ⟨W2,hW2⟩:∃ W2,W2=((w.alloc (.cells #[t.d,t.i] 25)).alloc (.cells #[p.op,p.ct,p.n,p.m,p.va,.slice A4 p.ks.length cap4] 28)):=⟨_,rfl⟩
 have hB0:Below w w W2:=by rw [hW2];exact ((zy2 _ _).alloc (zz8 _) _).alloc (by simp) _
 have KT:Hid (Blk W2 w 25 #[t.d,t.i]):=by rw [hW2];exact (Blk.new w _ _).same (Below.heap_alloc _ _ _ (by simp))
 have KP:Hid (Blk W2 (w.heap.size+1) 28 #[p.op,p.ct,p.n,p.m,p.va,.slice A4 p.ks.length cap4]):=by rw [hW2];have h:=Blk.new (w.alloc (.cells #[t.d,t.i] 25)) 28 #[p.op,p.ct,p.n,p.m,p.va,.slice A4 p.ks.length cap4];rw [World.size_alloc] at h;exact h
 have hws:w.heap.size+2≤W2.heap.size:=by rw [hW2];simp
 have hws2:W2.heap.size=w.heap.size+1+1:=by rw [hW2];simp
 rw [←hW2]
 clear hW2
 obtain ⟨y0,y1,klt⟩:=KT.out.c2
 obtain ⟨z0,z1,z2,z3,z4,z5,klt2⟩:=KP.out.c6
 generalize hbb:onlyB p false false false 2=bb at *
 have HC:Hid (∀ w1:World,Calls Try.prog 105 #[.agg #[p.op,p.ct,p.n,p.m,p.va,.slice A4 p.ks.length cap4],.bool false,.bool false,.bool false,(2:Int)] w1 fun e w'=>e=.returned (.bool bb)∧Below w1 w1 w'):=fun w1=>by rw [←hbb];exact impl_only p A4 cap4 false false false 2 w1
 clear hbb
 have HNV:Hid (nodeB xs t p=bb):=HNB.out
 go_wp2_with fail
 refine zA9 (S:=fun w'=>Blk w' w.heap.size 25 #[t.d,t.i]∧Blk w' (w.heap.size+1) 28 #[p.op,p.ct,p.n,p.m,p.va,.slice A4 p.ks.length cap4]) (T:=fun _=>True) (d:=99) (by kernel_rfl) ?_
 have hS1:Blk W2.drew w.heap.size 25 #[t.d,t.i]∧Blk W2.drew (w.heap.size+1) 28 #[p.op,p.ct,p.n,p.m,p.va,.slice A4 p.ks.length cap4]:=⟨KT.out,KP.out⟩
 have hT1:True:=trivial
 refine wU (i:=0) (v:=?_) rfl (Or.inl ⟨by rfl,?hy0⟩) hS1 (fun _=>trivial) ?_
 case hy0=>(intro W hSw;(try dsimp only at hSw);obtain ⟨kt,kp⟩:=hSw;have y0:W.cell? ⟨w,0,none⟩=t.d:=(kt.cell 0).trans (by simp);have y1:W.cell? ⟨w,1,none⟩=t.i:=(kt.cell 1).trans (by simp);have z0:W.cell? ⟨w.heap.size+1,0,none⟩=p.op:=(kp.cell 0).trans (by simp);have z1:W.cell? ⟨w.heap.size+1,1,none⟩=p.ct:=(kp.cell 1).trans (by simp);have z2:W.cell? ⟨w.heap.size+1,2,none⟩=p.n:=(kp.cell 2).trans (by simp);have z3:W.cell? ⟨w.heap.size+1,3,none⟩=p.m:=(kp.cell 3).trans (by simp);have z4:W.cell? ⟨w.heap.size+1,4,none⟩=p.va:=(kp.cell 4).trans (by simp);have z5:W.cell? ⟨w.heap.size+1,5,none⟩=some (.slice A4 p.ks.length cap4):=(kp.cell 5).trans (by simp);go_simp;try with_reducible rfl)
 (try simp only [zz])
 refine wU (i:=1) (v:=?_) rfl (Or.inl ⟨by rfl,?hy1⟩) hS1 (fun _=>trivial) ?_
 case hy1=>(intro W hSw;(try dsimp only at hSw);obtain ⟨kt,kp⟩:=hSw;have y0:W.cell? ⟨w,0,none⟩=t.d:=(kt.cell 0).trans (by simp);have y1:W.cell? ⟨w,1,none⟩=t.i:=(kt.cell 1).trans (by simp);have z0:W.cell? ⟨w.heap.size+1,0,none⟩=p.op:=(kp.cell 0).trans (by simp);have z1:W.cell? ⟨w.heap.size+1,1,none⟩=p.ct:=(kp.cell 1).trans (by simp);have z2:W.cell? ⟨w.heap.size+1,2,none⟩=p.n:=(kp.cell 2).trans (by simp);have z3:W.cell? ⟨w.heap.size+1,3,none⟩=p.m:=(kp.cell 3).trans (by simp);have z4:W.cell? ⟨w.heap.size+1,4,none⟩=p.va:=(kp.cell 4).trans (by simp);have z5:W.cell? ⟨w.heap.size+1,5,none⟩=some (.slice A4 p.ks.length cap4):=(kp.cell 5).trans (by simp);go_simp;try with_reducible rfl)
 (try simp only [zz])
 refine wU (i:=3) (v:=?_) rfl (Or.inl ⟨by rfl,?hy3⟩) hS1 (fun _=>trivial) ?_
 case hy3=>(intro W hSw;(try dsimp only at hSw);obtain ⟨kt,kp⟩:=hSw;have y0:W.cell? ⟨w,0,none⟩=t.d:=(kt.cell 0).trans (by simp);have y1:W.cell? ⟨w,1,none⟩=t.i:=(kt.cell 1).trans (by simp);have z0:W.cell? ⟨w.heap.size+1,0,none⟩=p.op:=(kp.cell 0).trans (by simp);have z1:W.cell? ⟨w.heap.size+1,1,none⟩=p.ct:=(kp.cell 1).trans (by simp);have z2:W.cell? ⟨w.heap.size+1,2,none⟩=p.n:=(kp.cell 2).trans (by simp);have z3:W.cell? ⟨w.heap.size+1,3,none⟩=p.m:=(kp.cell 3).trans (by simp);have z4:W.cell? ⟨w.heap.size+1,4,none⟩=p.va:=(kp.cell 4).trans (by simp);have z5:W.cell? ⟨w.heap.size+1,5,none⟩=some (.slice A4 p.ks.length cap4):=(kp.cell 5).trans (by simp);go_simp;try with_reducible rfl)
 (try simp only [zz])
 refine wR (rs:=[2,4]) (by kernel_rfl) (by simp) ?_
 refine AllReadyB.c rfl (fun K hK=>?_) (AllReadyB.c rfl (fun K hK=>?_) AllReadyB.n)
 ·go_simp
  have hS2:=And.intro (hS1.1.same (Below.heap_alloc _ (.cells #[t.d,t.i,t.d,t.i] 25) _ hS1.1.lt)) (hS1.2.same (Below.heap_alloc _ (.cells #[t.d,t.i,t.d,t.i] 25) _ hS1.2.lt))
  refine hK.out _ _ hS2 (fun _=>trivial) ?_
  clear hK K
  (try simp only [zz])
  refine Go.Proofs.Ytjjclcmmfeegfaa.w1 4 rfl fun K hK=>?_
  go_simp
  go_at_call 105
  with_reducible refine (HC.out _).mono ?_
  rintro e w3 ⟨rfl,hb3⟩
  have hS3:Blk w3 w 25 #[t.d,t.i]∧Blk w3 (w.heap.size+1) 28 #[p.op,p.ct,p.n,p.m,p.va,.slice A4 p.ks.length cap4]:=⟨hS2.1.same (hb3.block _ hS2.1.lt),hS2.2.same (hb3.block _ hS2.2.lt)⟩
  dsimp only
  refine hK.out _ _ hS3 (fun _=>trivial) ?_
  clear hK K
  (try simp only [zz])
  refine wV 5 rfl hS3 trivial ?_
  (try simp only [zz])
  refine wV 6 rfl hS3 trivial ?_
  (try simp only [zz])
  refine wE (by kernel_rfl) ?_
  obtain ⟨q1,q2,q3⟩:=shape_endA hB0 hws2 hb3
  have HFin:Hid (ShapePost xs t p w (.returned (.tuple #[.slice (some ⟨w.heap.size+1+1,0,none⟩) 2 2,.bool bb])) w3):=⟨_,[w.heap.size+1+1],by rw [HNV.out],q1,q2,fun _=>by rw [HTY.out];exact arr_tys2 q3⟩
  clear y0 y1 z0 z1 z2 z3 z4 z5 klt klt2
  clear hS1 hS3 hb3 q1 q2 q3
  go_wp2
  go_ret2
  exact HFin.out
 ·go_simp
  go_at_call 105
  with_reducible refine (HC.out _).mono ?_
  rintro e w3 ⟨rfl,hb3⟩
  have hS3:Blk w3 w 25 #[t.d,t.i]∧Blk w3 (w.heap.size+1) 28 #[p.op,p.ct,p.n,p.m,p.va,.slice A4 p.ks.length cap4]:=⟨hS1.1.same (hb3.block _ hS1.1.lt),hS1.2.same (hb3.block _ hS1.2.lt)⟩
  dsimp only
  refine hK.out _ _ hS3 (fun _=>trivial) ?_
  clear hK K
  (try simp only [zz])
  refine Go.Proofs.Ytjjclcmmfeegfaa.w1 2 rfl fun K hK=>?_
  go_simp
  have hS4:=And.intro (hS3.1.same (Below.heap_alloc _ (.cells #[t.d,t.i,t.d,t.i] 25) _ hS3.1.lt)) (hS3.2.same (Below.heap_alloc _ (.cells #[t.d,t.i,t.d,t.i] 25) _ hS3.2.lt))
  refine hK.out _ _ hS4 (fun _=>trivial) ?_
  clear hK K
  (try simp only [zz])
  refine wV 5 rfl hS4 trivial ?_
  (try simp only [zz])
  refine wV 6 rfl hS4 trivial ?_
  (try simp only [zz])
  refine wE (by kernel_rfl) ?_
  obtain ⟨q1,q2⟩:=shape_endB hB0 hb3 (.cells #[t.d,t.i,t.d,t.i] 25)
  have HFin:Hid (ShapePost xs t p w (.returned (.tuple #[.slice (some ⟨w3,0,none⟩) 2 2,.bool bb])) (w3.alloc (.cells #[t.d,t.i,t.d,t.i] 25))):=⟨_,[w3.heap.size],by rw [HNV.out],q1,q2,fun _=>by rw [HTY.out];exact arr_tys2 (Blk.new w3 _ _)⟩
  clear y0 y1 z0 z1 z2 z3 z4 z5 klt klt2
  clear hS1 hS3 hb3 q1 q2
  go_wp2
  go_ret2
  exact HFin.out
theorem shape_3 (xs:List Dt) (hw:WorldOK xs) (t:Ty) (ht:TyIn xs.length t) (p:P) (h3:p.op=3) (w:World) (x:Value) (F:List Nat) (cs:List Value) (G:List Nat):Arr w (DtR w) xs x F→Under w F→PR w p cs G→Under w G →
  Calls Try.prog 82 #[x,.agg #[t.d,t.i],.agg cs.toArray] w (ShapePost xs t p w):=by
 intro hx hf hv hg
 obtain ⟨kv,rfl,ha⟩:=(zA4 _ _ _).1 hv
 obtain ⟨A,cap,rfl,hc1,hc2⟩:=hx.form
 obtain ⟨A4,cap4,rfl,hc3,hc4⟩:=ha.form
 have HV:=jj hv
 have HX:=jj hx
 have HF:=jj hf
 have HA:=jj ha
 have HG:=jj hg
 clear hx hf ha hg
 clear hv
 have HW:=jj hw
 have HT:=jj ht
 clear hw ht
 have o1:(p.op==1)=false:=by simp [h3]
 have o2:(p.op==2)=false:=by simp [h3]
 have o3:(p.op==3)=true:=by simp [h3]
 have HNB:=jj (nodeB_3 (xs:=xs) (t:=t) h3)
 have HTY:=jj (show typesP xs t p=[] from by rw [zB9 (by omega),h3];rfl)
 clear h3
 go_enter Try.func82,Try.ntmps82
 go_wp2_with fail
 obtain ⟨W2,hW2⟩:∃ W2,W2=((w.alloc (.cells #[t.d,t.i] 25)).alloc (.cells #[p.op,p.ct,p.n,p.m,p.va,.slice A4 p.ks.length cap4] 28)):=⟨_,rfl⟩
 have hB0:Below w w W2:=by rw [hW2];exact ((zy2 _ _).alloc (zz8 _) _).alloc (by simp) _
 have KT:Hid (Blk W2 w 25 #[t.d,t.i]):=by rw [hW2];exact (Blk.new w _ _).same (Below.heap_alloc _ _ _ (by simp))
 have KP:Hid (Blk W2 (w.heap.size+1) 28 #[p.op,p.ct,p.n,p.m,p.va,.slice A4 p.ks.length cap4]):=by rw [hW2];have h:=Blk.new (w.alloc (.cells #[t.d,t.i] 25)) 28 #[p.op,p.ct,p.n,p.m,p.va,.slice A4 p.ks.length cap4];rw [World.size_alloc] at h;exact h
 have hws:w.heap.size+2≤W2.heap.size:=by rw [hW2];simp
 have hws2:W2.heap.size=w.heap.size+1+1:=by rw [hW2];simp
 rw [←hW2]
 clear hW2
 obtain ⟨y0,y1,klt⟩:=KT.out.c2
 obtain ⟨z0,z1,z2,z3,z4,z5,klt2⟩:=KP.out.c6
 have HBQ:=jj (fun n=>zB1 hB0 n)
 cases e1:(t.d == -1) with
 |false =>
  have HFinQ:Hid (∀ n,ShapePost xs t p w (.returned (.tuple #[.slice none 0 0,.bool false])) (W2.drewN n)):=fun n=>⟨_,[],by rw [HNB.out,e1];rfl,HBQ.out n,Fresh.nil _ _,fun _=>by rw [HTY.out];exact Arr.nil⟩
  clear HBQ
  go_wp2_with fail
  go_quiet (fail)
  go_wp2
  go_ret2
  exact HFinQ.out _
 |true =>
  have hc:=impl_only p A4 cap4 false true false 0 W2.drew
  have HE1:=jj e1
  clear e1 HBQ
  go_wp2_with fail
  refine zA9 (S:=fun w'=>Blk w' w.heap.size 25 #[t.d,t.i]∧Blk w' (w.heap.size+1) 28 #[p.op,p.ct,p.n,p.m,p.va,.slice A4 p.ks.length cap4]) (T:=fun _=>True) (d:=99) (by kernel_rfl) ?_
  have hS1:Blk W2.drew w.heap.size 25 #[t.d,t.i]∧Blk W2.drew (w.heap.size+1) 28 #[p.op,p.ct,p.n,p.m,p.va,.slice A4 p.ks.length cap4]:=⟨KT.out,KP.out⟩
  have hT1:True:=trivial
  refine wV 0 rfl hS1 trivial ?_
  (try simp only [zz])
  refine wU (i:=1) (v:=?_) rfl (Or.inl ⟨by rfl,?hy1⟩) hS1 (fun _=>trivial) ?_
  case hy1=>(intro W hSw;(try dsimp only at hSw);obtain ⟨kt,kp⟩:=hSw;have y0:W.cell? ⟨w,0,none⟩=t.d:=(kt.cell 0).trans (by simp);have y1:W.cell? ⟨w,1,none⟩=t.i:=(kt.cell 1).trans (by simp);have z0:W.cell? ⟨w.heap.size+1,0,none⟩=p.op:=(kp.cell 0).trans (by simp);have z1:W.cell? ⟨w.heap.size+1,1,none⟩=p.ct:=(kp.cell 1).trans (by simp);have z2:W.cell? ⟨w.heap.size+1,2,none⟩=p.n:=(kp.cell 2).trans (by simp);have z3:W.cell? ⟨w.heap.size+1,3,none⟩=p.m:=(kp.cell 3).trans (by simp);have z4:W.cell? ⟨w.heap.size+1,4,none⟩=p.va:=(kp.cell 4).trans (by simp);have z5:W.cell? ⟨w.heap.size+1,5,none⟩=some (.slice A4 p.ks.length cap4):=(kp.cell 5).trans (by simp);go_simp;try with_reducible rfl)
  (try simp only [zz])
  refine wV 2 rfl hS1 trivial ?_
  (try simp only [zz])
  rw [HE1.out]
  refine wV 3 rfl hS1 trivial ?_
  (try simp only [zz])
  refine wU (i:=4) (v:=?_) rfl (Or.inl ⟨by rfl,?hy4⟩) hS1 (fun _=>trivial) ?_
  case hy4=>(intro W hSw;(try dsimp only at hSw);obtain ⟨kt,kp⟩:=hSw;have y0:W.cell? ⟨w,0,none⟩=t.d:=(kt.cell 0).trans (by simp);have y1:W.cell? ⟨w,1,none⟩=t.i:=(kt.cell 1).trans (by simp);have z0:W.cell? ⟨w.heap.size+1,0,none⟩=p.op:=(kp.cell 0).trans (by simp);have z1:W.cell? ⟨w.heap.size+1,1,none⟩=p.ct:=(kp.cell 1).trans (by simp);have z2:W.cell? ⟨w.heap.size+1,2,none⟩=p.n:=(kp.cell 2).trans (by simp);have z3:W.cell? ⟨w.heap.size+1,3,none⟩=p.m:=(kp.cell 3).trans (by simp);have z4:W.cell? ⟨w.heap.size+1,4,none⟩=p.va:=(kp.cell 4).trans (by simp);have z5:W.cell? ⟨w.heap.size+1,5,none⟩=some (.slice A4 p.ks.length cap4):=(kp.cell 5).trans (by simp);go_simp;try with_reducible rfl)
  (try simp only [zz])
  cases e2:onlyB p false true false 0 with
  |false =>
   rw [e2] at hc
   have HE2:=jj e2
   clear e2
   refine w1 5 rfl fun K hK=>?_
   go_simp
   go_at_call 105
   with_reducible refine hc.mono ?_
   rintro e w3 ⟨rfl,hb3⟩
   have hS3:Blk w3 w 25 #[t.d,t.i]∧Blk w3 (w.heap.size+1) 28 #[p.op,p.ct,p.n,p.m,p.va,.slice A4 p.ks.length cap4]:=⟨hS1.1.same (hb3.block _ hS1.1.lt),hS1.2.same (hb3.block _ hS1.2.lt)⟩
   dsimp only
   refine hK.out _ _ hS3 (fun _=>trivial) ?_
   clear hK K
   (try simp only [zz])
   refine wV 6 rfl hS3 trivial ?_
   (try simp only [zz])
   refine wV 7 rfl hS3 trivial ?_
   (try simp only [zz])
   refine wN 8 rfl hS3 trivial ?_
   (try simp only [zz])
   refine wN 9 rfl hS3 trivial ?_
   (try simp only [zz])
   refine wN 10 rfl hS3 trivial ?_
   (try simp only [zz])
   refine wV 11 rfl hS3 trivial ?_
   (try simp only [zz])
   refine wV 12 rfl hS3 trivial ?_
   (try simp only [zz])
   refine wN 13 rfl hS3 trivial ?_
   (try simp only [zz])
   refine wN 14 rfl hS3 trivial ?_
   (try simp only [zz])
   refine wN 15 rfl hS3 trivial ?_
   (try simp only [zz])
   refine wN 16 rfl hS3 trivial ?_
   (try simp only [zz])
   refine wN 17 rfl hS3 trivial ?_
   (try simp only [zz])
   refine wV 18 rfl hS3 trivial ?_
   (try simp only [zz])
   refine wV 19 rfl hS3 trivial ?_
   (try simp only [zz])
   refine wN 20 rfl hS3 trivial ?_
   (try simp only [zz])
   refine wN 21 rfl hS3 trivial ?_
   (try simp only [zz])
   refine wN 22 rfl hS3 trivial ?_
   (try simp only [zz])
   refine wV 23 rfl hS3 trivial ?_
   (try simp only [zz])
   refine wV 24 rfl hS3 trivial ?_
   (try simp only [zz])
   refine wV 25 rfl hS3 trivial ?_
   (try simp only [zz])
   refine wE (by kernel_rfl) ?_
   have hB3:=hB0.drew.trans (hb3.mono hB0.size)
   have HFin:Hid (ShapePost xs t p w (.returned (.tuple #[.slice none 0 0,.bool false])) w3):=⟨_,[],by rw [HNB.out,HE1.out,HE2.out] <;> rfl,hB3,Fresh.nil _ _,fun _=>by rw [HTY.out];exact Arr.nil⟩
   clear y0 y1 z0 z1 z2 z3 z4 z5 klt klt2
   clear hb3 hS1 hS3 hT1
   go_wp2
   go_ret2
   exact HFin.out
  |true =>
   rw [e2] at hc
   have HE2:=jj e2
   clear e2
   cases a1:decide (0≤p.n) with
   |false =>
    have HBa1:=jj a1
    clear a1
    refine w1 5 rfl fun K hK=>?_
    go_simp
    go_at_call 105
    with_reducible refine hc.mono ?_
    rintro e w3 ⟨rfl,hb3⟩
    have hS3:Blk w3 w 25 #[t.d,t.i]∧Blk w3 (w.heap.size+1) 28 #[p.op,p.ct,p.n,p.m,p.va,.slice A4 p.ks.length cap4]:=⟨hS1.1.same (hb3.block _ hS1.1.lt),hS1.2.same (hb3.block _ hS1.2.lt)⟩
    dsimp only
    refine hK.out _ _ hS3 (fun _=>trivial) ?_
    clear hK K
    (try simp only [zz])
    refine wV 6 rfl hS3 trivial ?_
    (try simp only [zz])
    refine wV 7 rfl hS3 trivial ?_
    (try simp only [zz])
    refine wV 8 rfl hS3 trivial ?_
    (try simp only [zz])
    refine wU (i:=9) (v:=?_) rfl (Or.inl ⟨by rfl,?hy9⟩) hS3 (fun _=>trivial) ?_
    case hy9=>(intro W hSw;(try dsimp only at hSw);obtain ⟨kt,kp⟩:=hSw;have y0:W.cell? ⟨w,0,none⟩=t.d:=(kt.cell 0).trans (by simp);have y1:W.cell? ⟨w,1,none⟩=t.i:=(kt.cell 1).trans (by simp);have z0:W.cell? ⟨w.heap.size+1,0,none⟩=p.op:=(kp.cell 0).trans (by simp);have z1:W.cell? ⟨w.heap.size+1,1,none⟩=p.ct:=(kp.cell 1).trans (by simp);have z2:W.cell? ⟨w.heap.size+1,2,none⟩=p.n:=(kp.cell 2).trans (by simp);have z3:W.cell? ⟨w.heap.size+1,3,none⟩=p.m:=(kp.cell 3).trans (by simp);have z4:W.cell? ⟨w.heap.size+1,4,none⟩=p.va:=(kp.cell 4).trans (by simp);have z5:W.cell? ⟨w.heap.size+1,5,none⟩=some (.slice A4 p.ks.length cap4):=(kp.cell 5).trans (by simp);go_simp;try with_reducible rfl)
    (try simp only [zz])
    refine wV 10 rfl hS3 trivial ?_
    (try simp only [zz])
    rw [HBa1.out]
    refine wV 11 rfl hS3 trivial ?_
    (try simp only [zz])
    refine wV 12 rfl hS3 trivial ?_
    (try simp only [zz])
    refine wN 13 rfl hS3 trivial ?_
    (try simp only [zz])
    refine wN 14 rfl hS3 trivial ?_
    (try simp only [zz])
    refine wN 15 rfl hS3 trivial ?_
    (try simp only [zz])
    refine wN 16 rfl hS3 trivial ?_
    (try simp only [zz])
    refine wN 17 rfl hS3 trivial ?_
    (try simp only [zz])
    refine wV 18 rfl hS3 trivial ?_
    (try simp only [zz])
    refine wV 19 rfl hS3 trivial ?_
    (try simp only [zz])
    refine wN 20 rfl hS3 trivial ?_
    (try simp only [zz])
    refine wN 21 rfl hS3 trivial ?_
    (try simp only [zz])
    refine wN 22 rfl hS3 trivial ?_
    (try simp only [zz])
    refine wV 23 rfl hS3 trivial ?_
    (try simp only [zz])
    refine wV 24 rfl hS3 trivial ?_
    (try simp only [zz])
    refine wV 25 rfl hS3 trivial ?_
    (try simp only [zz])
    refine wE (by kernel_rfl) ?_
    have hB3:=hB0.drew.trans (hb3.mono hB0.size)
    have HFin:Hid (ShapePost xs t p w (.returned (.tuple #[.slice none 0 0,.bool false])) w3):=⟨_,[],by rw [HNB.out,HE1.out,HE2.out,HBa1.out] <;> rfl,hB3,Fresh.nil _ _,fun _=>by rw [HTY.out];exact Arr.nil⟩
    clear y0 y1 z0 z1 z2 z3 z4 z5 klt klt2
    clear hb3 hS1 hS3 hT1
    go_wp2
    go_ret2
    exact HFin.out
   |true =>
    have HBa1:=jj a1
    clear a1
    cases a2:decide (p.n≤p.m) with
    |false =>
     have HBa2:=jj a2
     clear a2
     refine w1 5 rfl fun K hK=>?_
     go_simp
     go_at_call 105
     with_reducible refine hc.mono ?_
     rintro e w3 ⟨rfl,hb3⟩
     have hS3:Blk w3 w 25 #[t.d,t.i]∧Blk w3 (w.heap.size+1) 28 #[p.op,p.ct,p.n,p.m,p.va,.slice A4 p.ks.length cap4]:=⟨hS1.1.same (hb3.block _ hS1.1.lt),hS1.2.same (hb3.block _ hS1.2.lt)⟩
     dsimp only
     refine hK.out _ _ hS3 (fun _=>trivial) ?_
     clear hK K
     (try simp only [zz])
     refine wV 6 rfl hS3 trivial ?_
     (try simp only [zz])
     refine wV 7 rfl hS3 trivial ?_
     (try simp only [zz])
     refine wV 8 rfl hS3 trivial ?_
     (try simp only [zz])
     refine wU (i:=9) (v:=?_) rfl (Or.inl ⟨by rfl,?hy9⟩) hS3 (fun _=>trivial) ?_
     case hy9=>(intro W hSw;(try dsimp only at hSw);obtain ⟨kt,kp⟩:=hSw;have y0:W.cell? ⟨w,0,none⟩=t.d:=(kt.cell 0).trans (by simp);have y1:W.cell? ⟨w,1,none⟩=t.i:=(kt.cell 1).trans (by simp);have z0:W.cell? ⟨w.heap.size+1,0,none⟩=p.op:=(kp.cell 0).trans (by simp);have z1:W.cell? ⟨w.heap.size+1,1,none⟩=p.ct:=(kp.cell 1).trans (by simp);have z2:W.cell? ⟨w.heap.size+1,2,none⟩=p.n:=(kp.cell 2).trans (by simp);have z3:W.cell? ⟨w.heap.size+1,3,none⟩=p.m:=(kp.cell 3).trans (by simp);have z4:W.cell? ⟨w.heap.size+1,4,none⟩=p.va:=(kp.cell 4).trans (by simp);have z5:W.cell? ⟨w.heap.size+1,5,none⟩=some (.slice A4 p.ks.length cap4):=(kp.cell 5).trans (by simp);go_simp;try with_reducible rfl)
     (try simp only [zz])
     refine wV 10 rfl hS3 trivial ?_
     (try simp only [zz])
     rw [HBa1.out]
     refine wV 11 rfl hS3 trivial ?_
     (try simp only [zz])
     refine wV 12 rfl hS3 trivial ?_
     (try simp only [zz])
     refine wV 13 rfl hS3 trivial ?_
     (try simp only [zz])
     refine wU (i:=14) (v:=?_) rfl (Or.inl ⟨by rfl,?hy14⟩) hS3 (fun _=>trivial) ?_
     case hy14=>(intro W hSw;(try dsimp only at hSw);obtain ⟨kt,kp⟩:=hSw;have y0:W.cell? ⟨w,0,none⟩=t.d:=(kt.cell 0).trans (by simp);have y1:W.cell? ⟨w,1,none⟩=t.i:=(kt.cell 1).trans (by simp);have z0:W.cell? ⟨w.heap.size+1,0,none⟩=p.op:=(kp.cell 0).trans (by simp);have z1:W.cell? ⟨w.heap.size+1,1,none⟩=p.ct:=(kp.cell 1).trans (by simp);have z2:W.cell? ⟨w.heap.size+1,2,none⟩=p.n:=(kp.cell 2).trans (by simp);have z3:W.cell? ⟨w.heap.size+1,3,none⟩=p.m:=(kp.cell 3).trans (by simp);have z4:W.cell? ⟨w.heap.size+1,4,none⟩=p.va:=(kp.cell 4).trans (by simp);have z5:W.cell? ⟨w.heap.size+1,5,none⟩=some (.slice A4 p.ks.length cap4):=(kp.cell 5).trans (by simp);go_simp;try with_reducible rfl)
     (try simp only [zz])
     refine wV 15 rfl hS3 trivial ?_
     (try simp only [zz])
     refine wU (i:=16) (v:=?_) rfl (Or.inl ⟨by rfl,?hy16⟩) hS3 (fun _=>trivial) ?_
     case hy16=>(intro W hSw;(try dsimp only at hSw);obtain ⟨kt,kp⟩:=hSw;have y0:W.cell? ⟨w,0,none⟩=t.d:=(kt.cell 0).trans (by simp);have y1:W.cell? ⟨w,1,none⟩=t.i:=(kt.cell 1).trans (by simp);have z0:W.cell? ⟨w.heap.size+1,0,none⟩=p.op:=(kp.cell 0).trans (by simp);have z1:W.cell? ⟨w.heap.size+1,1,none⟩=p.ct:=(kp.cell 1).trans (by simp);have z2:W.cell? ⟨w.heap.size+1,2,none⟩=p.n:=(kp.cell 2).trans (by simp);have z3:W.cell? ⟨w.heap.size+1,3,none⟩=p.m:=(kp.cell 3).trans (by simp);have z4:W.cell? ⟨w.heap.size+1,4,none⟩=p.va:=(kp.cell 4).trans (by simp);have z5:W.cell? ⟨w.heap.size+1,5,none⟩=some (.slice A4 p.ks.length cap4):=(kp.cell 5).trans (by simp);go_simp;try with_reducible rfl)
     (try simp only [zz])
     refine wV 17 rfl hS3 trivial ?_
     (try simp only [zz])
     rw [HBa2.out]
     refine wV 18 rfl hS3 trivial ?_
     (try simp only [zz])
     refine wV 19 rfl hS3 trivial ?_
     (try simp only [zz])
     refine wN 20 rfl hS3 trivial ?_
     (try simp only [zz])
     refine wN 21 rfl hS3 trivial ?_
     (try simp only [zz])
     refine wN 22 rfl hS3 trivial ?_
     (try simp only [zz])
     refine wV 23 rfl hS3 trivial ?_
     (try simp only [zz])
     refine wV 24 rfl hS3 trivial ?_
     (try simp only [zz])
     refine wV 25 rfl hS3 trivial ?_
     (try simp only [zz])
     refine wE (by kernel_rfl) ?_
     have hB3:=hB0.drew.trans (hb3.mono hB0.size)
     have HFin:Hid (ShapePost xs t p w (.returned (.tuple #[.slice none 0 0,.bool false])) w3):=⟨_,[],by rw [HNB.out,HE1.out,HE2.out,HBa1.out,HBa2.out] <;> rfl,hB3,Fresh.nil _ _,fun _=>by rw [HTY.out];exact Arr.nil⟩
     clear y0 y1 z0 z1 z2 z3 z4 z5 klt klt2
     clear hb3 hS1 hS3 hT1
     go_wp2
     go_ret2
     exact HFin.out
    |true =>
     have HBa2:=jj a2
     clear a2
     cases a3:decide (p.m≤9) with
     |false =>
      have HBa3:=jj a3
      clear a3
      refine w1 5 rfl fun K hK=>?_
      go_simp
      go_at_call 105
      with_reducible refine hc.mono ?_
      rintro e w3 ⟨rfl,hb3⟩
      have hS3:Blk w3 w 25 #[t.d,t.i]∧Blk w3 (w.heap.size+1) 28 #[p.op,p.ct,p.n,p.m,p.va,.slice A4 p.ks.length cap4]:=⟨hS1.1.same (hb3.block _ hS1.1.lt),hS1.2.same (hb3.block _ hS1.2.lt)⟩
      dsimp only
      refine hK.out _ _ hS3 (fun _=>trivial) ?_
      clear hK K
      (try simp only [zz])
      refine wV 6 rfl hS3 trivial ?_
      (try simp only [zz])
      refine wV 7 rfl hS3 trivial ?_
      (try simp only [zz])
      refine wV 8 rfl hS3 trivial ?_
      (try simp only [zz])
      refine wU (i:=9) (v:=?_) rfl (Or.inl ⟨by rfl,?hy9⟩) hS3 (fun _=>trivial) ?_
      case hy9=>(intro W hSw;(try dsimp only at hSw);obtain ⟨kt,kp⟩:=hSw;have y0:W.cell? ⟨w,0,none⟩=t.d:=(kt.cell 0).trans (by simp);have y1:W.cell? ⟨w,1,none⟩=t.i:=(kt.cell 1).trans (by simp);have z0:W.cell? ⟨w.heap.size+1,0,none⟩=p.op:=(kp.cell 0).trans (by simp);have z1:W.cell? ⟨w.heap.size+1,1,none⟩=p.ct:=(kp.cell 1).trans (by simp);have z2:W.cell? ⟨w.heap.size+1,2,none⟩=p.n:=(kp.cell 2).trans (by simp);have z3:W.cell? ⟨w.heap.size+1,3,none⟩=p.m:=(kp.cell 3).trans (by simp);have z4:W.cell? ⟨w.heap.size+1,4,none⟩=p.va:=(kp.cell 4).trans (by simp);have z5:W.cell? ⟨w.heap.size+1,5,none⟩=some (.slice A4 p.ks.length cap4):=(kp.cell 5).trans (by simp);go_simp;try with_reducible rfl)
      (try simp only [zz])
      refine wV 10 rfl hS3 trivial ?_
      (try simp only [zz])
      rw [HBa1.out]
      refine wV 11 rfl hS3 trivial ?_
      (try simp only [zz])
      refine wV 12 rfl hS3 trivial ?_
      (try simp only [zz])
      refine wV 13 rfl hS3 trivial ?_
      (try simp only [zz])
      refine wU (i:=14) (v:=?_) rfl (Or.inl ⟨by rfl,?hy14⟩) hS3 (fun _=>trivial) ?_
      case hy14=>(intro W hSw;(try dsimp only at hSw);obtain ⟨kt,kp⟩:=hSw;have y0:W.cell? ⟨w,0,none⟩=t.d:=(kt.cell 0).trans (by simp);have y1:W.cell? ⟨w,1,none⟩=t.i:=(kt.cell 1).trans (by simp);have z0:W.cell? ⟨w.heap.size+1,0,none⟩=p.op:=(kp.cell 0).trans (by simp);have z1:W.cell? ⟨w.heap.size+1,1,none⟩=p.ct:=(kp.cell 1).trans (by simp);have z2:W.cell? ⟨w.heap.size+1,2,none⟩=p.n:=(kp.cell 2).trans (by simp);have z3:W.cell? ⟨w.heap.size+1,3,none⟩=p.m:=(kp.cell 3).trans (by simp);have z4:W.cell? ⟨w.heap.size+1,4,none⟩=p.va:=(kp.cell 4).trans (by simp);have z5:W.cell? ⟨w.heap.size+1,5,none⟩=some (.slice A4 p.ks.length cap4):=(kp.cell 5).trans (by simp);go_simp;try with_reducible rfl)
      (try simp only [zz])
      refine wV 15 rfl hS3 trivial ?_
      (try simp only [zz])
      refine wU (i:=16) (v:=?_) rfl (Or.inl ⟨by rfl,?hy16⟩) hS3 (fun _=>trivial) ?_
      case hy16=>(intro W hSw;(try dsimp only at hSw);obtain ⟨kt,kp⟩:=hSw;have y0:W.cell? ⟨w,0,none⟩=t.d:=(kt.cell 0).trans (by simp);have y1:W.cell? ⟨w,1,none⟩=t.i:=(kt.cell 1).trans (by simp);have z0:W.cell? ⟨w.heap.size+1,0,none⟩=p.op:=(kp.cell 0).trans (by simp);have z1:W.cell? ⟨w.heap.size+1,1,none⟩=p.ct:=(kp.cell 1).trans (by simp);have z2:W.cell? ⟨w.heap.size+1,2,none⟩=p.n:=(kp.cell 2).trans (by simp);have z3:W.cell? ⟨w.heap.size+1,3,none⟩=p.m:=(kp.cell 3).trans (by simp);have z4:W.cell? ⟨w.heap.size+1,4,none⟩=p.va:=(kp.cell 4).trans (by simp);have z5:W.cell? ⟨w.heap.size+1,5,none⟩=some (.slice A4 p.ks.length cap4):=(kp.cell 5).trans (by simp);go_simp;try with_reducible rfl)
      (try simp only [zz])
      refine wV 17 rfl hS3 trivial ?_
      (try simp only [zz])
      rw [HBa2.out]
      refine wV 18 rfl hS3 trivial ?_
      (try simp only [zz])
      refine wV 19 rfl hS3 trivial ?_
      (try simp only [zz])
      refine wV 20 rfl hS3 trivial ?_
      (try simp only [zz])
      refine wU (i:=21) (v:=?_) rfl (Or.inl ⟨by rfl,?hy21⟩) hS3 (fun _=>trivial) ?_
      case hy21=>(intro W hSw;(try dsimp only at hSw);obtain ⟨kt,kp⟩:=hSw;have y0:W.cell? ⟨w,0,none⟩=t.d:=(kt.cell 0).trans (by simp);have y1:W.cell? ⟨w,1,none⟩=t.i:=(kt.cell 1).trans (by simp);have z0:W.cell? ⟨w.heap.size+1,0,none⟩=p.op:=(kp.cell 0).trans (by simp);have z1:W.cell? ⟨w.heap.size+1,1,none⟩=p.ct:=(kp.cell 1).trans (by simp);have z2:W.cell? ⟨w.heap.size+1,2,none⟩=p.n:=(kp.cell 2).trans (by simp);have z3:W.cell? ⟨w.heap.size+1,3,none⟩=p.m:=(kp.cell 3).trans (by simp);have z4:W.cell? ⟨w.heap.size+1,4,none⟩=p.va:=(kp.cell 4).trans (by simp);have z5:W.cell? ⟨w.heap.size+1,5,none⟩=some (.slice A4 p.ks.length cap4):=(kp.cell 5).trans (by simp);go_simp;try with_reducible rfl)
      (try simp only [zz])
      refine wV 22 rfl hS3 trivial ?_
      (try simp only [zz])
      rw [HBa3.out]
      refine wV 23 rfl hS3 trivial ?_
      (try simp only [zz])
      refine wV 24 rfl hS3 trivial ?_
      (try simp only [zz])
      refine wV 25 rfl hS3 trivial ?_
      (try simp only [zz])
      refine wE (by kernel_rfl) ?_
      have hB3:=hB0.drew.trans (hb3.mono hB0.size)
      have HFin:Hid (ShapePost xs t p w (.returned (.tuple #[.slice none 0 0,.bool false])) w3):=⟨_,[],by rw [HNB.out,HE1.out,HE2.out,HBa1.out,HBa2.out,HBa3.out] <;> rfl,hB3,Fresh.nil _ _,fun _=>by rw [HTY.out];exact Arr.nil⟩
      clear y0 y1 z0 z1 z2 z3 z4 z5 klt klt2
      clear hb3 hS1 hS3 hT1
      go_wp2
      go_ret2
      exact HFin.out
     |true =>
      have HBa3:=jj a3
      clear a3
      refine w1 5 rfl fun K hK=>?_
      go_simp
      go_at_call 105
      with_reducible refine hc.mono ?_
      rintro e w3 ⟨rfl,hb3⟩
      have hS3:Blk w3 w 25 #[t.d,t.i]∧Blk w3 (w.heap.size+1) 28 #[p.op,p.ct,p.n,p.m,p.va,.slice A4 p.ks.length cap4]:=⟨hS1.1.same (hb3.block _ hS1.1.lt),hS1.2.same (hb3.block _ hS1.2.lt)⟩
      dsimp only
      refine hK.out _ _ hS3 (fun _=>trivial) ?_
      clear hK K
      (try simp only [zz])
      refine wV 6 rfl hS3 trivial ?_
      (try simp only [zz])
      refine wV 7 rfl hS3 trivial ?_
      (try simp only [zz])
      refine wV 8 rfl hS3 trivial ?_
      (try simp only [zz])
      refine wU (i:=9) (v:=?_) rfl (Or.inl ⟨by rfl,?hy9⟩) hS3 (fun _=>trivial) ?_
      case hy9=>(intro W hSw;(try dsimp only at hSw);obtain ⟨kt,kp⟩:=hSw;have y0:W.cell? ⟨w,0,none⟩=t.d:=(kt.cell 0).trans (by simp);have y1:W.cell? ⟨w,1,none⟩=t.i:=(kt.cell 1).trans (by simp);have z0:W.cell? ⟨w.heap.size+1,0,none⟩=p.op:=(kp.cell 0).trans (by simp);have z1:W.cell? ⟨w.heap.size+1,1,none⟩=p.ct:=(kp.cell 1).trans (by simp);have z2:W.cell? ⟨w.heap.size+1,2,none⟩=p.n:=(kp.cell 2).trans (by simp);have z3:W.cell? ⟨w.heap.size+1,3,none⟩=p.m:=(kp.cell 3).trans (by simp);have z4:W.cell? ⟨w.heap.size+1,4,none⟩=p.va:=(kp.cell 4).trans (by simp);have z5:W.cell? ⟨w.heap.size+1,5,none⟩=some (.slice A4 p.ks.length cap4):=(kp.cell 5).trans (by simp);go_simp;try with_reducible rfl)
      (try simp only [zz])
      refine wV 10 rfl hS3 trivial ?_
      (try simp only [zz])
      rw [HBa1.out]
      refine wV 11 rfl hS3 trivial ?_
      (try simp only [zz])
      refine wV 12 rfl hS3 trivial ?_
      (try simp only [zz])
      refine wV 13 rfl hS3 trivial ?_
      (try simp only [zz])
      refine wU (i:=14) (v:=?_) rfl (Or.inl ⟨by rfl,?hy14⟩) hS3 (fun _=>trivial) ?_
      case hy14=>(intro W hSw;(try dsimp only at hSw);obtain ⟨kt,kp⟩:=hSw;have y0:W.cell? ⟨w,0,none⟩=t.d:=(kt.cell 0).trans (by simp);have y1:W.cell? ⟨w,1,none⟩=t.i:=(kt.cell 1).trans (by simp);have z0:W.cell? ⟨w.heap.size+1,0,none⟩=p.op:=(kp.cell 0).trans (by simp);have z1:W.cell? ⟨w.heap.size+1,1,none⟩=p.ct:=(kp.cell 1).trans (by simp);have z2:W.cell? ⟨w.heap.size+1,2,none⟩=p.n:=(kp.cell 2).trans (by simp);have z3:W.cell? ⟨w.heap.size+1,3,none⟩=p.m:=(kp.cell 3).trans (by simp);have z4:W.cell? ⟨w.heap.size+1,4,none⟩=p.va:=(kp.cell 4).trans (by simp);have z5:W.cell? ⟨w.heap.size+1,5,none⟩=some (.slice A4 p.ks.length cap4):=(kp.cell 5).trans (by simp);go_simp;try with_reducible rfl)
      (try simp only [zz])
      refine wV 15 rfl hS3 trivial ?_
      (try simp only [zz])
      refine wU (i:=16) (v:=?_) rfl (Or.inl ⟨by rfl,?hy16⟩) hS3 (fun _=>trivial) ?_
      case hy16=>(intro W hSw;(try dsimp only at hSw);obtain ⟨kt,kp⟩:=hSw;have y0:W.cell? ⟨w,0,none⟩=t.d:=(kt.cell 0).trans (by simp);have y1:W.cell? ⟨w,1,none⟩=t.i:=(kt.cell 1).trans (by simp);have z0:W.cell? ⟨w.heap.size+1,0,none⟩=p.op:=(kp.cell 0).trans (by simp);have z1:W.cell? ⟨w.heap.size+1,1,none⟩=p.ct:=(kp.cell 1).trans (by simp);have z2:W.cell? ⟨w.heap.size+1,2,none⟩=p.n:=(kp.cell 2).trans (by simp);have z3:W.cell? ⟨w.heap.size+1,3,none⟩=p.m:=(kp.cell 3).trans (by simp);have z4:W.cell? ⟨w.heap.size+1,4,none⟩=p.va:=(kp.cell 4).trans (by simp);have z5:W.cell? ⟨w.heap.size+1,5,none⟩=some (.slice A4 p.ks.length cap4):=(kp.cell 5).trans (by simp);go_simp;try with_reducible rfl)
      (try simp only [zz])
      refine wV 17 rfl hS3 trivial ?_
      (try simp only [zz])
      rw [HBa2.out]
      refine wV 18 rfl hS3 trivial ?_
      (try simp only [zz])
      refine wV 19 rfl hS3 trivial ?_
      (try simp only [zz])
      refine wV 20 rfl hS3 trivial ?_
      (try simp only [zz])
      refine wU (i:=21) (v:=?_) rfl (Or.inl ⟨by rfl,?hy21⟩) hS3 (fun _=>trivial) ?_
      case hy21=>(intro W hSw;(try dsimp only at hSw);obtain ⟨kt,kp⟩:=hSw;have y0:W.cell? ⟨w,0,none⟩=t.d:=(kt.cell 0).trans (by simp);have y1:W.cell? ⟨w,1,none⟩=t.i:=(kt.cell 1).trans (by simp);have z0:W.cell? ⟨w.heap.size+1,0,none⟩=p.op:=(kp.cell 0).trans (by simp);have z1:W.cell? ⟨w.heap.size+1,1,none⟩=p.ct:=(kp.cell 1).trans (by simp);have z2:W.cell? ⟨w.heap.size+1,2,none⟩=p.n:=(kp.cell 2).trans (by simp);have z3:W.cell? ⟨w.heap.size+1,3,none⟩=p.m:=(kp.cell 3).trans (by simp);have z4:W.cell? ⟨w.heap.size+1,4,none⟩=p.va:=(kp.cell 4).trans (by simp);have z5:W.cell? ⟨w.heap.size+1,5,none⟩=some (.slice A4 p.ks.length cap4):=(kp.cell 5).trans (by simp);go_simp;try with_reducible rfl)
      (try simp only [zz])
      refine wV 22 rfl hS3 trivial ?_
      (try simp only [zz])
      rw [HBa3.out]
      refine wV 23 rfl hS3 trivial ?_
      (try simp only [zz])
      refine wV 24 rfl hS3 trivial ?_
      (try simp only [zz])
      refine wV 25 rfl hS3 trivial ?_
      (try simp only [zz])
      refine wE (by kernel_rfl) ?_
      have hB3:=hB0.drew.trans (hb3.mono hB0.size)
      have HFin:Hid (ShapePost xs t p w (.returned (.tuple #[.slice none 0 0,.bool true])) w3):=⟨_,[],by rw [HNB.out,HE1.out,HE2.out,HBa1.out,HBa2.out,HBa3.out] <;> rfl,hB3,Fresh.nil _ _,fun _=>by rw [HTY.out];exact Arr.nil⟩
      clear y0 y1 z0 z1 z2 z3 z4 z5 klt klt2
      clear hb3 hS1 hS3 hT1
      go_wp2
      go_ret2
      exact HFin.out
theorem shape_6 (xs:List Dt) (hw:WorldOK xs) (t:Ty) (ht:TyIn xs.length t) (p:P) (h6:p.op=6) (w:World) (x:Value) (F:List Nat) (cs:List Value) (G:List Nat):Arr w (DtR w) xs x F→Under w F→PR w p cs G→Under w G →
  Calls Try.prog 82 #[x,.agg #[t.d,t.i],.agg cs.toArray] w (ShapePost xs t p w):=by
 intro hx hf hv hg
 obtain ⟨kv,rfl,ha⟩:=(zA4 _ _ _).1 hv
 obtain ⟨A,cap,rfl,hc1,hc2⟩:=hx.form
 obtain ⟨A4,cap4,rfl,hc3,hc4⟩:=ha.form
 have HV:=jj hv
 have HX:=jj hx
 have HF:=jj hf
 have HA:=jj ha
 have HG:=jj hg
 clear hx hf ha hg
 clear hv
 have HW:=jj hw
 have HT:=jj ht
 clear hw ht
 have o1:(p.op==1)=false:=by simp [h6]
 have o2:(p.op==2)=false:=by simp [h6]
 have o3:(p.op==3)=false:=by simp [h6]
 have o4:(p.op==4)=false:=by simp [h6]
 have o5:(p.op==5)=false:=by simp [h6]
 have o6:(p.op==6)=true:=by simp [h6]
 have HNB:=jj (nodeB_6 (xs:=xs) (t:=t) h6)
 have HTY:=jj (show typesP xs t p=[t] from by rw [zB9 (by omega),h6];rfl)
 clear h6
 go_enter Try.func82,Try.ntmps82
 go_wp2_with fail
 obtain ⟨W2,hW2⟩:∃ W2,W2=((w.alloc (.cells #[t.d,t.i] 25)).alloc (.cells #[p.op,p.ct,p.n,p.m,p.va,.slice A4 p.ks.length cap4] 28)):=⟨_,rfl⟩
 have hB0:Below w w W2:=by rw [hW2];exact ((zy2 _ _).alloc (zz8 _) _).alloc (by simp) _
 have KT:Hid (Blk W2 w 25 #[t.d,t.i]):=by rw [hW2];exact (Blk.new w _ _).same (Below.heap_alloc _ _ _ (by simp))
 have KP:Hid (Blk W2 (w.heap.size+1) 28 #[p.op,p.ct,p.n,p.m,p.va,.slice A4 p.ks.length cap4]):=by rw [hW2];have h:=Blk.new (w.alloc (.cells #[t.d,t.i] 25)) 28 #[p.op,p.ct,p.n,p.m,p.va,.slice A4 p.ks.length cap4];rw [World.size_alloc] at h;exact h
 have hws:w.heap.size+2≤W2.heap.size:=by rw [hW2];simp
 have hws2:W2.heap.size=w.heap.size+1+1:=by rw [hW2];simp
 rw [←hW2]
 clear hW2
 obtain ⟨y0,y1,klt⟩:=KT.out.c2
 obtain ⟨z0,z1,z2,z3,z4,z5,klt2⟩:=KP.out.c6
 cases e2:onlyB p false false true 1 with
 |false =>
  have HC:Hid (∀ w1:World,Calls Try.prog 105 #[.agg #[p.op,p.ct,p.n,p.m,p.va,.slice A4 p.ks.length cap4],.bool false,.bool false,.bool true,(1:Int)] w1 fun e w'=>e=.returned (.bool false)∧Below w1 w1 w'):=fun w1=>by have h:=impl_only p A4 cap4 false false true 1 w1;rw [e2] at h;exact h
  have HE2:=jj e2
  clear e2
  have HNV:Hid (nodeB xs t p=false):=by rw [HNB.out,HE2.out];rfl
  go_wp2_with fail
  refine zA9 (S:=fun w'=>Blk w' w.heap.size 25 #[t.d,t.i]∧Blk w' (w.heap.size+1) 28 #[p.op,p.ct,p.n,p.m,p.va,.slice A4 p.ks.length cap4]) (T:=fun _=>True) (d:=99) (by kernel_rfl) ?_
  have hS1:Blk W2.drew w.heap.size 25 #[t.d,t.i]∧Blk W2.drew (w.heap.size+1) 28 #[p.op,p.ct,p.n,p.m,p.va,.slice A4 p.ks.length cap4]:=⟨KT.out,KP.out⟩
  have hT1:True:=trivial
  refine wU (i:=0) (v:=?_) rfl (Or.inl ⟨by rfl,?hy0⟩) hS1 (fun _=>trivial) ?_
  case hy0=>(intro W hSw;(try dsimp only at hSw);obtain ⟨kt,kp⟩:=hSw;have y0:W.cell? ⟨w,0,none⟩=t.d:=(kt.cell 0).trans (by simp);have y1:W.cell? ⟨w,1,none⟩=t.i:=(kt.cell 1).trans (by simp);have z0:W.cell? ⟨w.heap.size+1,0,none⟩=p.op:=(kp.cell 0).trans (by simp);have z1:W.cell? ⟨w.heap.size+1,1,none⟩=p.ct:=(kp.cell 1).trans (by simp);have z2:W.cell? ⟨w.heap.size+1,2,none⟩=p.n:=(kp.cell 2).trans (by simp);have z3:W.cell? ⟨w.heap.size+1,3,none⟩=p.m:=(kp.cell 3).trans (by simp);have z4:W.cell? ⟨w.heap.size+1,4,none⟩=p.va:=(kp.cell 4).trans (by simp);have z5:W.cell? ⟨w.heap.size+1,5,none⟩=some (.slice A4 p.ks.length cap4):=(kp.cell 5).trans (by simp);go_simp;try with_reducible rfl)
  (try simp only [zz])
  refine wU (i:=2) (v:=?_) rfl (Or.inl ⟨by rfl,?hy2⟩) hS1 (fun _=>trivial) ?_
  case hy2=>(intro W hSw;(try dsimp only at hSw);obtain ⟨kt,kp⟩:=hSw;have y0:W.cell? ⟨w,0,none⟩=t.d:=(kt.cell 0).trans (by simp);have y1:W.cell? ⟨w,1,none⟩=t.i:=(kt.cell 1).trans (by simp);have z0:W.cell? ⟨w.heap.size+1,0,none⟩=p.op:=(kp.cell 0).trans (by simp);have z1:W.cell? ⟨w.heap.size+1,1,none⟩=p.ct:=(kp.cell 1).trans (by simp);have z2:W.cell? ⟨w.heap.size+1,2,none⟩=p.n:=(kp.cell 2).trans (by simp);have z3:W.cell? ⟨w.heap.size+1,3,none⟩=p.m:=(kp.cell 3).trans (by simp);have z4:W.cell? ⟨w.heap.size+1,4,none⟩=p.va:=(kp.cell 4).trans (by simp);have z5:W.cell? ⟨w.heap.size+1,5,none⟩=some (.slice A4 p.ks.length cap4):=(kp.cell 5).trans (by simp);go_simp;try with_reducible rfl)
  (try simp only [zz])
  refine wR (rs:=[1,3]) (by kernel_rfl) (by simp) ?_
  refine AllReadyB.c rfl (fun K hK=>?_) (AllReadyB.c rfl (fun K hK=>?_) AllReadyB.n)
  ·go_simp
   have hS2:=And.intro (hS1.1.same (Below.heap_alloc _ (.cells #[t.d,t.i] 25) _ hS1.1.lt)) (hS1.2.same (Below.heap_alloc _ (.cells #[t.d,t.i] 25) _ hS1.2.lt))
   refine hK.out _ _ hS2 (fun _=>trivial) ?_
   clear hK K
   (try simp only [zz])
   refine Go.Proofs.Ytjjclcmmfeegfaa.w1 3 rfl fun K hK=>?_
   go_simp
   go_at_call 105
   with_reducible refine (HC.out _).mono ?_
   rintro e w3 ⟨rfl,hb3⟩
   have hS3:Blk w3 w 25 #[t.d,t.i]∧Blk w3 (w.heap.size+1) 28 #[p.op,p.ct,p.n,p.m,p.va,.slice A4 p.ks.length cap4]:=⟨hS2.1.same (hb3.block _ hS2.1.lt),hS2.2.same (hb3.block _ hS2.2.lt)⟩
   dsimp only
   refine hK.out _ _ hS3 (fun _=>trivial) ?_
   clear hK K
   (try simp only [zz])
   refine wV 4 rfl hS3 trivial ?_
   (try simp only [zz])
   refine wN 5 rfl hS3 trivial ?_
   (try simp only [zz])
   refine wN 6 rfl hS3 trivial ?_
   (try simp only [zz])
   refine wN 7 rfl hS3 trivial ?_
   (try simp only [zz])
   refine wV 8 rfl hS3 trivial ?_
   (try simp only [zz])
   refine wV 9 rfl hS3 trivial ?_
   (try simp only [zz])
   refine wV 10 rfl hS3 trivial ?_
   (try simp only [zz])
   refine wE (by kernel_rfl) ?_
   obtain ⟨q1,q2,q3⟩:=shape_endA hB0 hws2 hb3
   have HFin:Hid (ShapePost xs t p w (.returned (.tuple #[.slice (some ⟨w.heap.size+1+1,0,none⟩) 1 1,.bool false])) w3):=⟨_,[w.heap.size+1+1],by rw [HNV.out],q1,q2,fun _=>by rw [HTY.out];exact arr_tys1 q3⟩
   clear y0 y1 z0 z1 z2 z3 z4 z5 klt klt2
   clear hS1 hS3 hb3 q1 q2 q3
   go_wp2
   go_ret2
   exact HFin.out
  ·go_simp
   go_at_call 105
   with_reducible refine (HC.out _).mono ?_
   rintro e w3 ⟨rfl,hb3⟩
   have hS3:Blk w3 w 25 #[t.d,t.i]∧Blk w3 (w.heap.size+1) 28 #[p.op,p.ct,p.n,p.m,p.va,.slice A4 p.ks.length cap4]:=⟨hS1.1.same (hb3.block _ hS1.1.lt),hS1.2.same (hb3.block _ hS1.2.lt)⟩
   dsimp only
   refine hK.out _ _ hS3 (fun _=>trivial) ?_
   clear hK K
   (try simp only [zz])
   refine wV 4 rfl hS3 trivial ?_
   (try simp only [zz])
   refine wN 5 rfl hS3 trivial ?_
   (try simp only [zz])
   refine wN 6 rfl hS3 trivial ?_
   (try simp only [zz])
   refine wN 7 rfl hS3 trivial ?_
   (try simp only [zz])
   refine wV 8 rfl hS3 trivial ?_
   (try simp only [zz])
   refine Go.Proofs.Ytjjclcmmfeegfaa.w1 1 rfl fun K hK=>?_
   go_simp
   have hS4:=And.intro (hS3.1.same (Below.heap_alloc _ (.cells #[t.d,t.i] 25) _ hS3.1.lt)) (hS3.2.same (Below.heap_alloc _ (.cells #[t.d,t.i] 25) _ hS3.2.lt))
   refine hK.out _ _ hS4 (fun _=>trivial) ?_
   clear hK K
   (try simp only [zz])
   refine wV 9 rfl hS4 trivial ?_
   (try simp only [zz])
   refine wV 10 rfl hS4 trivial ?_
   (try simp only [zz])
   refine wE (by kernel_rfl) ?_
   obtain ⟨q1,q2⟩:=shape_endB hB0 hb3 (.cells #[t.d,t.i] 25)
   have HFin:Hid (ShapePost xs t p w (.returned (.tuple #[.slice (some ⟨w3,0,none⟩) 1 1,.bool false])) (w3.alloc (.cells #[t.d,t.i] 25))):=⟨_,[w3.heap.size],by rw [HNV.out],q1,q2,fun _=>by rw [HTY.out];exact arr_tys1 (Blk.new w3 _ _)⟩
   clear y0 y1 z0 z1 z2 z3 z4 z5 klt klt2
   clear hS1 hS3 hb3 q1 q2
   go_wp2
   go_ret2
   exact HFin.out
 |true =>
  have HC:Hid (∀ w1:World,Calls Try.prog 105 #[.agg #[p.op,p.ct,p.n,p.m,p.va,.slice A4 p.ks.length cap4],.bool false,.bool false,.bool true,(1:Int)] w1 fun e w'=>e=.returned (.bool true)∧Below w1 w1 w'):=fun w1=>by have h:=impl_only p A4 cap4 false false true 1 w1;rw [e2] at h;exact h
  have HE2:=jj e2
  clear e2
  generalize hbb:withinB p.va 0 5=bb at *
  have HV2:Hid (∀ w1:World,Calls Try.prog 106 #[p.va] w1 fun e w'=>e=.returned (.bool bb)∧w'=w1):=fun w1=>by rw [←hbb];exact impl_isVar p.va w1
  clear hbb
  have HNV:Hid (nodeB xs t p=bb):=by rw [HNB.out,HE2.out];rfl
  go_wp2_with fail
  refine zA9 (S:=fun w'=>Blk w' w.heap.size 25 #[t.d,t.i]∧Blk w' (w.heap.size+1) 28 #[p.op,p.ct,p.n,p.m,p.va,.slice A4 p.ks.length cap4]) (T:=fun _=>True) (d:=99) (by kernel_rfl) ?_
  have hS1:Blk W2.drew w.heap.size 25 #[t.d,t.i]∧Blk W2.drew (w.heap.size+1) 28 #[p.op,p.ct,p.n,p.m,p.va,.slice A4 p.ks.length cap4]:=⟨KT.out,KP.out⟩
  have hT1:True:=trivial
  refine wU (i:=0) (v:=?_) rfl (Or.inl ⟨by rfl,?hy0⟩) hS1 (fun _=>trivial) ?_
  case hy0=>(intro W hSw;(try dsimp only at hSw);obtain ⟨kt,kp⟩:=hSw;have y0:W.cell? ⟨w,0,none⟩=t.d:=(kt.cell 0).trans (by simp);have y1:W.cell? ⟨w,1,none⟩=t.i:=(kt.cell 1).trans (by simp);have z0:W.cell? ⟨w.heap.size+1,0,none⟩=p.op:=(kp.cell 0).trans (by simp);have z1:W.cell? ⟨w.heap.size+1,1,none⟩=p.ct:=(kp.cell 1).trans (by simp);have z2:W.cell? ⟨w.heap.size+1,2,none⟩=p.n:=(kp.cell 2).trans (by simp);have z3:W.cell? ⟨w.heap.size+1,3,none⟩=p.m:=(kp.cell 3).trans (by simp);have z4:W.cell? ⟨w.heap.size+1,4,none⟩=p.va:=(kp.cell 4).trans (by simp);have z5:W.cell? ⟨w.heap.size+1,5,none⟩=some (.slice A4 p.ks.length cap4):=(kp.cell 5).trans (by simp);go_simp;try with_reducible rfl)
  (try simp only [zz])
  refine wU (i:=2) (v:=?_) rfl (Or.inl ⟨by rfl,?hy2⟩) hS1 (fun _=>trivial) ?_
  case hy2=>(intro W hSw;(try dsimp only at hSw);obtain ⟨kt,kp⟩:=hSw;have y0:W.cell? ⟨w,0,none⟩=t.d:=(kt.cell 0).trans (by simp);have y1:W.cell? ⟨w,1,none⟩=t.i:=(kt.cell 1).trans (by simp);have z0:W.cell? ⟨w.heap.size+1,0,none⟩=p.op:=(kp.cell 0).trans (by simp);have z1:W.cell? ⟨w.heap.size+1,1,none⟩=p.ct:=(kp.cell 1).trans (by simp);have z2:W.cell? ⟨w.heap.size+1,2,none⟩=p.n:=(kp.cell 2).trans (by simp);have z3:W.cell? ⟨w.heap.size+1,3,none⟩=p.m:=(kp.cell 3).trans (by simp);have z4:W.cell? ⟨w.heap.size+1,4,none⟩=p.va:=(kp.cell 4).trans (by simp);have z5:W.cell? ⟨w.heap.size+1,5,none⟩=some (.slice A4 p.ks.length cap4):=(kp.cell 5).trans (by simp);go_simp;try with_reducible rfl)
  (try simp only [zz])
  refine wR (rs:=[1,3]) (by kernel_rfl) (by simp) ?_
  refine AllReadyB.c rfl (fun K hK=>?_) (AllReadyB.c rfl (fun K hK=>?_) AllReadyB.n)
  ·go_simp
   have hS2:=And.intro (hS1.1.same (Below.heap_alloc _ (.cells #[t.d,t.i] 25) _ hS1.1.lt)) (hS1.2.same (Below.heap_alloc _ (.cells #[t.d,t.i] 25) _ hS1.2.lt))
   refine hK.out _ _ hS2 (fun _=>trivial) ?_
   clear hK K
   (try simp only [zz])
   refine Go.Proofs.Ytjjclcmmfeegfaa.w1 3 rfl fun K hK=>?_
   go_simp
   go_at_call 105
   with_reducible refine (HC.out _).mono ?_
   rintro e w3 ⟨rfl,hb3⟩
   have hS3:Blk w3 w 25 #[t.d,t.i]∧Blk w3 (w.heap.size+1) 28 #[p.op,p.ct,p.n,p.m,p.va,.slice A4 p.ks.length cap4]:=⟨hS2.1.same (hb3.block _ hS2.1.lt),hS2.2.same (hb3.block _ hS2.2.lt)⟩
   dsimp only
   refine hK.out _ _ hS3 (fun _=>trivial) ?_
   clear hK K
   (try simp only [zz])
   refine wV 4 rfl hS3 trivial ?_
   (try simp only [zz])
   refine wV 5 rfl hS3 trivial ?_
   (try simp only [zz])
   refine wU (i:=6) (v:=?_) rfl (Or.inl ⟨by rfl,?hy6⟩) hS3 (fun _=>trivial) ?_
   case hy6=>(intro W hSw;(try dsimp only at hSw);obtain ⟨kt,kp⟩:=hSw;have y0:W.cell? ⟨w,0,none⟩=t.d:=(kt.cell 0).trans (by simp);have y1:W.cell? ⟨w,1,none⟩=t.i:=(kt.cell 1).trans (by simp);have z0:W.cell? ⟨w.heap.size+1,0,none⟩=p.op:=(kp.cell 0).trans (by simp);have z1:W.cell? ⟨w.heap.size+1,1,none⟩=p.ct:=(kp.cell 1).trans (by simp);have z2:W.cell? ⟨w.heap.size+1,2,none⟩=p.n:=(kp.cell 2).trans (by simp);have z3:W.cell? ⟨w.heap.size+1,3,none⟩=p.m:=(kp.cell 3).trans (by simp);have z4:W.cell? ⟨w.heap.size+1,4,none⟩=p.va:=(kp.cell 4).trans (by simp);have z5:W.cell? ⟨w.heap.size+1,5,none⟩=some (.slice A4 p.ks.length cap4):=(kp.cell 5).trans (by simp);go_simp;try with_reducible rfl)
   (try simp only [zz])
   refine Go.Proofs.Ytjjclcmmfeegfaa.w1 7 rfl fun K hK=>?_
   go_simp
   go_at_call 106
   with_reducible refine (HV2.out _).mono ?_
   rintro e w4 ⟨rfl,hw4⟩
   rw [hw4]
   clear hw4 w4
   dsimp only
   refine hK.out _ _ hS3 (fun _=>trivial) ?_
   clear hK K
   (try simp only [zz])
   refine wV 8 rfl hS3 trivial ?_
   (try simp only [zz])
   refine wV 9 rfl hS3 trivial ?_
   (try simp only [zz])
   refine wV 10 rfl hS3 trivial ?_
   (try simp only [zz])
   refine wE (by kernel_rfl) ?_
   obtain ⟨q1,q2,q3⟩:=shape_endA hB0 hws2 hb3
   have HFin:Hid (ShapePost xs t p w (.returned (.tuple #[.slice (some ⟨w.heap.size+1+1,0,none⟩) 1 1,.bool bb])) w3):=⟨_,[w.heap.size+1+1],by rw [HNV.out],q1,q2,fun _=>by rw [HTY.out];exact arr_tys1 q3⟩
   clear y0 y1 z0 z1 z2 z3 z4 z5 klt klt2
   clear hS1 hS3 hb3 q1 q2 q3
   go_wp2
   go_ret2
   exact HFin.out
  ·go_simp
   go_at_call 105
   with_reducible refine (HC.out _).mono ?_
   rintro e w3 ⟨rfl,hb3⟩
   have hS3:Blk w3 w 25 #[t.d,t.i]∧Blk w3 (w.heap.size+1) 28 #[p.op,p.ct,p.n,p.m,p.va,.slice A4 p.ks.length cap4]:=⟨hS1.1.same (hb3.block _ hS1.1.lt),hS1.2.same (hb3.block _ hS1.2.lt)⟩
   dsimp only
   refine hK.out _ _ hS3 (fun _=>trivial) ?_
   clear hK K
   (try simp only [zz])
   refine wV 4 rfl hS3 trivial ?_
   (try simp only [zz])
   refine wV 5 rfl hS3 trivial ?_
   (try simp only [zz])
   refine wU (i:=6) (v:=?_) rfl (Or.inl ⟨by rfl,?hy6⟩) hS3 (fun _=>trivial) ?_
   case hy6=>(intro W hSw;(try dsimp only at hSw);obtain ⟨kt,kp⟩:=hSw;have y0:W.cell? ⟨w,0,none⟩=t.d:=(kt.cell 0).trans (by simp);have y1:W.cell? ⟨w,1,none⟩=t.i:=(kt.cell 1).trans (by simp);have z0:W.cell? ⟨w.heap.size+1,0,none⟩=p.op:=(kp.cell 0).trans (by simp);have z1:W.cell? ⟨w.heap.size+1,1,none⟩=p.ct:=(kp.cell 1).trans (by simp);have z2:W.cell? ⟨w.heap.size+1,2,none⟩=p.n:=(kp.cell 2).trans (by simp);have z3:W.cell? ⟨w.heap.size+1,3,none⟩=p.m:=(kp.cell 3).trans (by simp);have z4:W.cell? ⟨w.heap.size+1,4,none⟩=p.va:=(kp.cell 4).trans (by simp);have z5:W.cell? ⟨w.heap.size+1,5,none⟩=some (.slice A4 p.ks.length cap4):=(kp.cell 5).trans (by simp);go_simp;try with_reducible rfl)
   (try simp only [zz])
   refine wR (rs:=[1,7]) (by kernel_rfl) (by simp) ?_
   refine AllReadyB.c rfl (fun K hK=>?_) (AllReadyB.c rfl (fun K hK=>?_) AllReadyB.n)
   focus
    go_simp
    have hS4:=And.intro (hS3.1.same (Below.heap_alloc _ (.cells #[t.d,t.i] 25) _ hS3.1.lt)) (hS3.2.same (Below.heap_alloc _ (.cells #[t.d,t.i] 25) _ hS3.2.lt))
    refine hK.out _ _ hS4 (fun _=>trivial) ?_
    clear hK K
    (try simp only [zz])
    refine Go.Proofs.Ytjjclcmmfeegfaa.w1 7 rfl fun K hK=>?_
    go_simp
    go_at_call 106
    with_reducible refine (HV2.out _).mono ?_
    rintro e w4 ⟨rfl,hw4⟩
    rw [hw4]
    clear hw4 w4
    dsimp only
    refine hK.out _ _ hS4 (fun _=>trivial) ?_
    clear hK K
    (try simp only [zz])
    refine wV 8 rfl hS4 trivial ?_
   rotate_left
   focus
    go_simp
    go_at_call 106
    with_reducible refine (HV2.out _).mono ?_
    rintro e w4 ⟨rfl,hw4⟩
    rw [hw4]
    clear hw4 w4
    dsimp only
    refine hK.out _ _ hS3 (fun _=>trivial) ?_
    clear hK K
    (try simp only [zz])
    refine wV 8 rfl hS3 trivial ?_
    (try simp only [zz])
    refine Go.Proofs.Ytjjclcmmfeegfaa.w1 1 rfl fun K hK=>?_
    go_simp
    have hS4:=And.intro (hS3.1.same (Below.heap_alloc _ (.cells #[t.d,t.i] 25) _ hS3.1.lt)) (hS3.2.same (Below.heap_alloc _ (.cells #[t.d,t.i] 25) _ hS3.2.lt))
    refine hK.out _ _ hS4 (fun _=>trivial) ?_
    clear hK K
   rotate_left
   all_goals (
    (try simp only [zz])
    refine wV 9 rfl hS4 trivial ?_
    (try simp only [zz])
    refine wV 10 rfl hS4 trivial ?_
    (try simp only [zz])
    refine wE (by kernel_rfl) ?_
    obtain ⟨q1,q2⟩:=shape_endB hB0 hb3 (.cells #[t.d,t.i] 25)
    have HFin:Hid (ShapePost xs t p w (.returned (.tuple #[.slice (some ⟨w3,0,none⟩) 1 1,.bool bb])) (w3.alloc (.cells #[t.d,t.i] 25))):=⟨_,[w3.heap.size],by rw [HNV.out],q1,q2,fun _=>by rw [HTY.out];exact arr_tys1 (Blk.new w3 _ _)⟩
    clear y0 y1 z0 z1 z2 z3 z4 z5 klt klt2
    clear hS1 hS3 hb3 q1 q2
    go_wp2
    go_ret2
    exact HFin.out)
theorem impl_shape (xs:List Dt) (hw:WorldOK xs) (t:Ty) (ht:TyIn xs.length t) (p:P) (w:World) (x:Value) (F:List Nat) (cs:List Value) (G:List Nat):Arr w (DtR w) xs x F→Under w F→PR w p cs G→Under w G →
  Calls Try.prog 82 #[x,.agg #[t.d,t.i],.agg cs.toArray] w (ShapePost xs t p w):=by
 intro hx hf hv hg
 by_cases h1:p.op=1
 ·exact shape_1 xs hw t ht p h1 w x F cs G hx hf hv hg
 by_cases h2:p.op=2
 ·exact shape_2 xs hw t ht p h2 w x F cs G hx hf hv hg
 by_cases h3:p.op=3
 ·exact shape_3 xs hw t ht p h3 w x F cs G hx hf hv hg
 by_cases h4:p.op=4
 ·exact shape_4 xs hw t ht p h4 w x F cs G hx hf hv hg
 by_cases h5:p.op=5
 ·exact shape_5 xs hw t ht p h5 w x F cs G hx hf hv hg
 by_cases h6:p.op=6
 ·exact shape_6 xs hw t ht p h6 w x F cs G hx hf hv hg
 obtain ⟨kv,rfl,ha⟩:=(zA4 _ _ _).1 hv
 obtain ⟨A,cap,rfl,hc1,hc2⟩:=hx.form
 obtain ⟨A4,cap4,rfl,hc3,hc4⟩:=ha.form
 have HV:=jj hv
 have HX:=jj hx
 have HF:=jj hf
 have HA:=jj ha
 have HG:=jj hg
 clear hx hf ha hg
 clear hv
 have o1:(p.op==1)=false:=by simpa using h1
 have o2:(p.op==2)=false:=by simpa using h2
 have o3:(p.op==3)=false:=by simpa using h3
 have o4:(p.op==4)=false:=by simpa using h4
 have o5:(p.op==5)=false:=by simpa using h5
 have o6:(p.op==6)=false:=by simpa using h6
 have HNO:=jj (nodeB_no (xs:=xs) (t:=t) h1 h2 h3 h4 h5 h6)
 clear h1 h2 h3 h4 h5 h6
 have HFin:Hid (ShapePost xs t p w (.returned (.tuple #[.slice none 0 0,.bool false])) ((w.alloc (.cells #[t.d,t.i] 25)).alloc (.cells #[p.op,p.ct,p.n,p.m,p.va,.slice A4 p.ks.length cap4] 28))):=⟨_,[],by rw [HNO.out],((zy2 _ _).alloc (zz8 _) _).alloc (by simp) _,Fresh.nil _ _,fun h=>by rw [HNO.out] at h;cases h⟩
 go_enter Try.func82,Try.ntmps82
 go_wp2
 go_ret2
 exact HFin.out
end Go.Proofs.Ytjjclcmmfeegfaa
