/-
  Lemmas, and contracts of functions. Conditions: none.
-/
import Derived.Test.YtjjclcmmfeegfaaHAK
import Derived.Test.YtjjclcmmfeegfaaHAB
import Derived.Deep.RegionHeld3
import Derived.Deep.RegionWith
import Derived.Deep.QuietTactic
import Derived.BigQuiet
import Derived.IntWalk
import Derived.Test.YtjjclcmmfeegfaaHAF
import Derived.Test.YtjjclcmmfeegfaaHAG
import Derived.Test.YtjjclcmmfeegfaaHAE
import Derived.Test.YtjjclcmmfeegfaaHAA
import Derived.Maps.AppendAt
import Derived.Laws.EntriesVeiled

set_option linter.unusedVariables false
set_option linter.unusedSimpArgs false
set_option maxRecDepth 100000
set_option maxHeartbeats 1600000

namespace Go.Proofs.Ytjjclcmmfeegfaa
open Go.RowKit
theorem shape_3 (xs:List Dt) (hw:WorldOK xs) (t:Ty) (ht:TyIn xs.length t) (p:P) (h3:p.op=3) (w:World) (x:Value) (F:List Nat) (cs:List Value) (G:List Nat):Arr w (DtR w) xs x F→Under w F→PR w p cs G→Under w G →
  Calls Try.prog 82 #[x,.agg #[t.d,t.i],.agg cs.toArray] w (ShapePost xs t p w):=by
 intro hx hf hv hg
 obtain ⟨kv,rfl,ha⟩:=(zA4 _ _ _).1 hv
 obtain ⟨A,cap,rfl,hc1,hc2⟩:=hx.form
 obtain ⟨A4,cap4,rfl,hc3,hc4⟩:=ha.form
 have HV:=jj hv
 have HX:=jj hx
 have HF:=jj hf
 have HA:=jj ha
 have HG:=jj hg
 clear hx hf ha hg
 clear hv
 have HW:=jj hw
 have HT:=jj ht
 clear hw ht
 have o1:(p.op==1)=false:=by simp [h3]
 have o2:(p.op==2)=false:=by simp [h3]
 have o3:(p.op==3)=true:=by simp [h3]
 have HNB:=jj (nodeB_3 (xs:=xs) (t:=t) h3)
 have HTY:=jj (show typesP xs t p=[] from by rw [typesP_no (by omega),h3];rfl)
 clear h3
 go_enter Try.func82,Try.ntmps82
 go_wp2_with fail
 obtain ⟨W2,hW2⟩:∃ W2,W2=((w.alloc (.cells #[t.d,t.i] 25)).alloc (.cells #[p.op,p.ct,p.n,p.m,p.va,.slice A4 p.ks.length cap4] 28)):=⟨_,rfl⟩
 have hB0:Below w w W2:=by rw [hW2];exact ((zy2 _ _).alloc (zz8 _) _).alloc (by simp) _
 have KT:Hid (Blk W2 w 25 #[t.d,t.i]):=by rw [hW2];exact (Blk.new w _ _).same (Below.heap_alloc _ _ _ (by simp))
 have KP:Hid (Blk W2 (w.heap.size+1) 28 #[p.op,p.ct,p.n,p.m,p.va,.slice A4 p.ks.length cap4]):=by rw [hW2];have h:=Blk.new (w.alloc (.cells #[t.d,t.i] 25)) 28 #[p.op,p.ct,p.n,p.m,p.va,.slice A4 p.ks.length cap4];rw [World.size_alloc] at h;exact h
 have hws:w.heap.size+2≤W2.heap.size:=by rw [hW2];simp
 have hws2:W2.heap.size=w.heap.size+1+1:=by rw [hW2];simp
 rw [←hW2]
 clear hW2
 obtain ⟨y0,y1,klt⟩:=KT.out.c2
 obtain ⟨z0,z1,z2,z3,z4,z5,klt2⟩:=KP.out.c6
 have HBQ:=jj (fun n=>zB7 hB0 n)
 cases e1:(t.d == -1) with
 |false =>
  have HFinQ:Hid (∀ n,ShapePost xs t p w (.returned (.tuple #[.slice none 0 0,.bool false])) (W2.drewN n)):=fun n=>⟨_,[],by rw [HNB.out,e1];rfl,HBQ.out n,Fresh.nil _ _,fun _=>by rw [HTY.out];exact Arr.nil⟩
  clear HBQ
  go_wp2_with fail
  go_quiet (fail)
  go_wp2
  go_ret2
  exact HFinQ.out _
 |true =>
  have hc:=impl_only p A4 cap4 false true false 0 W2.drew
  have HE1:=jj e1
  clear e1 HBQ
  go_wp2_with fail
  refine zA6 (S:=fun w'=>Blk w' w.heap.size 25 #[t.d,t.i]∧Blk w' (w.heap.size+1) 28 #[p.op,p.ct,p.n,p.m,p.va,.slice A4 p.ks.length cap4]) (T:=fun _=>True) (d:=99) (by kernel_rfl) ?_
  have hS1:Blk W2.drew w.heap.size 25 #[t.d,t.i]∧Blk W2.drew (w.heap.size+1) 28 #[p.op,p.ct,p.n,p.m,p.va,.slice A4 p.ks.length cap4]:=⟨KT.out,KP.out⟩
  have hT1:True:=trivial
  refine wV 0 rfl hS1 trivial ?_
  (try simp only [zz])
  refine wU (i:=1) (v:=?_) rfl (Or.inl ⟨by rfl,?hy1⟩) hS1 (fun _=>trivial) ?_
  case hy1=>(intro W hSw;(try dsimp only at hSw);obtain ⟨kt,kp⟩:=hSw;have y0:W.cell? ⟨w,0,none⟩=t.d:=(kt.cell 0).trans (by simp);have y1:W.cell? ⟨w,1,none⟩=t.i:=(kt.cell 1).trans (by simp);have z0:W.cell? ⟨w.heap.size+1,0,none⟩=p.op:=(kp.cell 0).trans (by simp);have z1:W.cell? ⟨w.heap.size+1,1,none⟩=p.ct:=(kp.cell 1).trans (by simp);have z2:W.cell? ⟨w.heap.size+1,2,none⟩=p.n:=(kp.cell 2).trans (by simp);have z3:W.cell? ⟨w.heap.size+1,3,none⟩=p.m:=(kp.cell 3).trans (by simp);have z4:W.cell? ⟨w.heap.size+1,4,none⟩=p.va:=(kp.cell 4).trans (by simp);have z5:W.cell? ⟨w.heap.size+1,5,none⟩=some (.slice A4 p.ks.length cap4):=(kp.cell 5).trans (by simp);go_simp;try with_reducible rfl)
  (try simp only [zz])
  refine wV 2 rfl hS1 trivial ?_
  (try simp only [zz])
  rw [HE1.out]
  refine wV 3 rfl hS1 trivial ?_
  (try simp only [zz])
  refine wU (i:=4) (v:=?_) rfl (Or.inl ⟨by rfl,?hy4⟩) hS1 (fun _=>trivial) ?_
  case hy4=>(intro W hSw;(try dsimp only at hSw);obtain ⟨kt,kp⟩:=hSw;have y0:W.cell? ⟨w,0,none⟩=t.d:=(kt.cell 0).trans (by simp);have y1:W.cell? ⟨w,1,none⟩=t.i:=(kt.cell 1).trans (by simp);have z0:W.cell? ⟨w.heap.size+1,0,none⟩=p.op:=(kp.cell 0).trans (by simp);have z1:W.cell? ⟨w.heap.size+1,1,none⟩=p.ct:=(kp.cell 1).trans (by simp);have z2:W.cell? ⟨w.heap.size+1,2,none⟩=p.n:=(kp.cell 2).trans (by simp);have z3:W.cell? ⟨w.heap.size+1,3,none⟩=p.m:=(kp.cell 3).trans (by simp);have z4:W.cell? ⟨w.heap.size+1,4,none⟩=p.va:=(kp.cell 4).trans (by simp);have z5:W.cell? ⟨w.heap.size+1,5,none⟩=some (.slice A4 p.ks.length cap4):=(kp.cell 5).trans (by simp);go_simp;try with_reducible rfl)
  (try simp only [zz])
  cases e2:onlyB p false true false 0 with
  |false =>
   rw [e2] at hc
   have HE2:=jj e2
   clear e2
   refine w1 5 rfl fun K hK=>?_
   go_simp
   go_at_call 105
   with_reducible refine hc.mono ?_
   rintro e w3 ⟨rfl,hb3⟩
   have hS3:Blk w3 w 25 #[t.d,t.i]∧Blk w3 (w.heap.size+1) 28 #[p.op,p.ct,p.n,p.m,p.va,.slice A4 p.ks.length cap4]:=⟨hS1.1.same (hb3.block _ hS1.1.lt),hS1.2.same (hb3.block _ hS1.2.lt)⟩
   dsimp only
   refine hK.out _ _ hS3 (fun _=>trivial) ?_
   clear hK K
   (try simp only [zz])
   refine wV 6 rfl hS3 trivial ?_
   (try simp only [zz])
   refine wV 7 rfl hS3 trivial ?_
   (try simp only [zz])
   refine wN 8 rfl hS3 trivial ?_
   (try simp only [zz])
   refine wN 9 rfl hS3 trivial ?_
   (try simp only [zz])
   refine wN 10 rfl hS3 trivial ?_
   (try simp only [zz])
   refine wV 11 rfl hS3 trivial ?_
   (try simp only [zz])
   refine wV 12 rfl hS3 trivial ?_
   (try simp only [zz])
   refine wN 13 rfl hS3 trivial ?_
   (try simp only [zz])
   refine wN 14 rfl hS3 trivial ?_
   (try simp only [zz])
   refine wN 15 rfl hS3 trivial ?_
   (try simp only [zz])
   refine wN 16 rfl hS3 trivial ?_
   (try simp only [zz])
   refine wN 17 rfl hS3 trivial ?_
   (try simp only [zz])
   refine wV 18 rfl hS3 trivial ?_
   (try simp only [zz])
   refine wV 19 rfl hS3 trivial ?_
   (try simp only [zz])
   refine wN 20 rfl hS3 trivial ?_
   (try simp only [zz])
   refine wN 21 rfl hS3 trivial ?_
   (try simp only [zz])
   refine wN 22 rfl hS3 trivial ?_
   (try simp only [zz])
   refine wV 23 rfl hS3 trivial ?_
   (try simp only [zz])
   refine wV 24 rfl hS3 trivial ?_
   (try simp only [zz])
   refine wV 25 rfl hS3 trivial ?_
   (try simp only [zz])
   refine wE (by kernel_rfl) ?_
   have hB3:=hB0.drew.trans (hb3.mono hB0.size)
   have HFin:Hid (ShapePost xs t p w (.returned (.tuple #[.slice none 0 0,.bool false])) w3):=⟨_,[],by rw [HNB.out,HE1.out,HE2.out] <;> rfl,hB3,Fresh.nil _ _,fun _=>by rw [HTY.out];exact Arr.nil⟩
   clear y0 y1 z0 z1 z2 z3 z4 z5 klt klt2
   clear hb3 hS1 hS3 hT1
   go_wp2
   go_ret2
   exact HFin.out
  |true =>
   rw [e2] at hc
   have HE2:=jj e2
   clear e2
   cases a1:decide (0≤p.n) with
   |false =>
    have HBa1:=jj a1
    clear a1
    refine w1 5 rfl fun K hK=>?_
    go_simp
    go_at_call 105
    with_reducible refine hc.mono ?_
    rintro e w3 ⟨rfl,hb3⟩
    have hS3:Blk w3 w 25 #[t.d,t.i]∧Blk w3 (w.heap.size+1) 28 #[p.op,p.ct,p.n,p.m,p.va,.slice A4 p.ks.length cap4]:=⟨hS1.1.same (hb3.block _ hS1.1.lt),hS1.2.same (hb3.block _ hS1.2.lt)⟩
    dsimp only
    refine hK.out _ _ hS3 (fun _=>trivial) ?_
    clear hK K
    (try simp only [zz])
    refine wV 6 rfl hS3 trivial ?_
    (try simp only [zz])
    refine wV 7 rfl hS3 trivial ?_
    (try simp only [zz])
    refine wV 8 rfl hS3 trivial ?_
    (try simp only [zz])
    refine wU (i:=9) (v:=?_) rfl (Or.inl ⟨by rfl,?hy9⟩) hS3 (fun _=>trivial) ?_
    case hy9=>(intro W hSw;(try dsimp only at hSw);obtain ⟨kt,kp⟩:=hSw;have y0:W.cell? ⟨w,0,none⟩=t.d:=(kt.cell 0).trans (by simp);have y1:W.cell? ⟨w,1,none⟩=t.i:=(kt.cell 1).trans (by simp);have z0:W.cell? ⟨w.heap.size+1,0,none⟩=p.op:=(kp.cell 0).trans (by simp);have z1:W.cell? ⟨w.heap.size+1,1,none⟩=p.ct:=(kp.cell 1).trans (by simp);have z2:W.cell? ⟨w.heap.size+1,2,none⟩=p.n:=(kp.cell 2).trans (by simp);have z3:W.cell? ⟨w.heap.size+1,3,none⟩=p.m:=(kp.cell 3).trans (by simp);have z4:W.cell? ⟨w.heap.size+1,4,none⟩=p.va:=(kp.cell 4).trans (by simp);have z5:W.cell? ⟨w.heap.size+1,5,none⟩=some (.slice A4 p.ks.length cap4):=(kp.cell 5).trans (by simp);go_simp;try with_reducible rfl)
    (try simp only [zz])
    refine wV 10 rfl hS3 trivial ?_
    (try simp only [zz])
    rw [HBa1.out]
    refine wV 11 rfl hS3 trivial ?_
    (try simp only [zz])
    refine wV 12 rfl hS3 trivial ?_
    (try simp only [zz])
    refine wN 13 rfl hS3 trivial ?_
    (try simp only [zz])
    refine wN 14 rfl hS3 trivial ?_
    (try simp only [zz])
    refine wN 15 rfl hS3 trivial ?_
    (try simp only [zz])
    refine wN 16 rfl hS3 trivial ?_
    (try simp only [zz])
    refine wN 17 rfl hS3 trivial ?_
    (try simp only [zz])
    refine wV 18 rfl hS3 trivial ?_
    (try simp only [zz])
    refine wV 19 rfl hS3 trivial ?_
    (try simp only [zz])
    refine wN 20 rfl hS3 trivial ?_
    (try simp only [zz])
    refine wN 21 rfl hS3 trivial ?_
    (try simp only [zz])
    refine wN 22 rfl hS3 trivial ?_
    (try simp only [zz])
    refine wV 23 rfl hS3 trivial ?_
    (try simp only [zz])
    refine wV 24 rfl hS3 trivial ?_
    (try simp only [zz])
    refine wV 25 rfl hS3 trivial ?_
    (try simp only [zz])
    refine wE (by kernel_rfl) ?_
    have hB3:=hB0.drew.trans (hb3.mono hB0.size)
    have HFin:Hid (ShapePost xs t p w (.returned (.tuple #[.slice none 0 0,.bool false])) w3):=⟨_,[],by rw [HNB.out,HE1.out,HE2.out,HBa1.out] <;> rfl,hB3,Fresh.nil _ _,fun _=>by rw [HTY.out];exact Arr.nil⟩
    clear y0 y1 z0 z1 z2 z3 z4 z5 klt klt2
    clear hb3 hS1 hS3 hT1
    go_wp2
    go_ret2
    exact HFin.out
   |true =>
    have HBa1:=jj a1
    clear a1
    cases a2:decide (p.n≤p.m) with
    |false =>
     have HBa2:=jj a2
     clear a2
     refine w1 5 rfl fun K hK=>?_
     go_simp
     go_at_call 105
     with_reducible refine hc.mono ?_
     rintro e w3 ⟨rfl,hb3⟩
     have hS3:Blk w3 w 25 #[t.d,t.i]∧Blk w3 (w.heap.size+1) 28 #[p.op,p.ct,p.n,p.m,p.va,.slice A4 p.ks.length cap4]:=⟨hS1.1.same (hb3.block _ hS1.1.lt),hS1.2.same (hb3.block _ hS1.2.lt)⟩
     dsimp only
     refine hK.out _ _ hS3 (fun _=>trivial) ?_
     clear hK K
     (try simp only [zz])
     refine wV 6 rfl hS3 trivial ?_
     (try simp only [zz])
     refine wV 7 rfl hS3 trivial ?_
     (try simp only [zz])
     refine wV 8 rfl hS3 trivial ?_
     (try simp only [zz])
     refine wU (i:=9) (v:=?_) rfl (Or.inl ⟨by rfl,?hy9⟩) hS3 (fun _=>trivial) ?_
     case hy9=>(intro W hSw;(try dsimp only at hSw);obtain ⟨kt,kp⟩:=hSw;have y0:W.cell? ⟨w,0,none⟩=t.d:=(kt.cell 0).trans (by simp);have y1:W.cell? ⟨w,1,none⟩=t.i:=(kt.cell 1).trans (by simp);have z0:W.cell? ⟨w.heap.size+1,0,none⟩=p.op:=(kp.cell 0).trans (by simp);have z1:W.cell? ⟨w.heap.size+1,1,none⟩=p.ct:=(kp.cell 1).trans (by simp);have z2:W.cell? ⟨w.heap.size+1,2,none⟩=p.n:=(kp.cell 2).trans (by simp);have z3:W.cell? ⟨w.heap.size+1,3,none⟩=p.m:=(kp.cell 3).trans (by simp);have z4:W.cell? ⟨w.heap.size+1,4,none⟩=p.va:=(kp.cell 4).trans (by simp);have z5:W.cell? ⟨w.heap.size+1,5,none⟩=some (.slice A4 p.ks.length cap4):=(kp.cell 5).trans (by simp);go_simp;try with_reducible rfl)
     (try simp only [zz])
     refine wV 10 rfl hS3 trivial ?_
     (try simp only [zz])
     rw [HBa1.out]
     refine wV 11 rfl hS3 trivial ?_
     (try simp only [zz])
     refine wV 12 rfl hS3 trivial ?_
     (try simp only [zz])
     refine wV 13 rfl hS3 trivial ?_
     (try simp only [zz])
     refine wU (i:=14) (v:=?_) rfl (Or.inl ⟨by rfl,?hy14⟩) hS3 (fun _=>trivial) ?_
     case hy14=>(intro W hSw;(try dsimp only at hSw);obtain ⟨kt,kp⟩:=hSw;have y0:W.cell? ⟨w,0,none⟩=t.d:=(kt.cell 0).trans (by simp);have y1:W.cell? ⟨w,1,none⟩=t.i:=(kt.cell 1).trans (by simp);have z0:W.cell? ⟨w.heap.size+1,0,none⟩=p.op:=(kp.cell 0).trans (by simp);have z1:W.cell? ⟨w.heap.size+1,1,none⟩=p.ct:=(kp.cell 1).trans (by simp);have z2:W.cell? ⟨w.heap.size+1,2,none⟩=p.n:=(kp.cell 2).trans (by simp);have z3:W.cell? ⟨w.heap.size+1,3,none⟩=p.m:=(kp.cell 3).trans (by simp);have z4:W.cell? ⟨w.heap.size+1,4,none⟩=p.va:=(kp.cell 4).trans (by simp);have z5:W.cell? ⟨w.heap.size+1,5,none⟩=some (.slice A4 p.ks.length cap4):=(kp.cell 5).trans (by simp);go_simp;try with_reducible rfl)
     (try simp only [zz])
     refine wV 15 rfl hS3 trivial ?_
     (try simp only [zz])
     refine wU (i:=16) (v:=?_) rfl (Or.inl ⟨by rfl,?hy16⟩) hS3 (fun _=>trivial) ?_
     case hy16=>(intro W hSw;(try dsimp only at hSw);obtain ⟨kt,kp⟩:=hSw;have y0:W.cell? ⟨w,0,none⟩=t.d:=(kt.cell 0).trans (by simp);have y1:W.cell? ⟨w,1,none⟩=t.i:=(kt.cell 1).trans (by simp);have z0:W.cell? ⟨w.heap.size+1,0,none⟩=p.op:=(kp.cell 0).trans (by simp);have z1:W.cell? ⟨w.heap.size+1,1,none⟩=p.ct:=(kp.cell 1).trans (by simp);have z2:W.cell? ⟨w.heap.size+1,2,none⟩=p.n:=(kp.cell 2).trans (by simp);have z3:W.cell? ⟨w.heap.size+1,3,none⟩=p.m:=(kp.cell 3).trans (by simp);have z4:W.cell? ⟨w.heap.size+1,4,none⟩=p.va:=(kp.cell 4).trans (by simp);have z5:W.cell? ⟨w.heap.size+1,5,none⟩=some (.slice A4 p.ks.length cap4):=(kp.cell 5).trans (by simp);go_simp;try with_reducible rfl)
     (try simp only [zz])
     refine wV 17 rfl hS3 trivial ?_
     (try simp only [zz])
     rw [HBa2.out]
     refine wV 18 rfl hS3 trivial ?_
     (try simp only [zz])
     refine wV 19 rfl hS3 trivial ?_
     (try simp only [zz])
     refine wN 20 rfl hS3 trivial ?_
     (try simp only [zz])
     refine wN 21 rfl hS3 trivial ?_
     (try simp only [zz])
     refine wN 22 rfl hS3 trivial ?_
     (try simp only [zz])
     refine wV 23 rfl hS3 trivial ?_
     (try simp only [zz])
     refine wV 24 rfl hS3 trivial ?_
     (try simp only [zz])
     refine wV 25 rfl hS3 trivial ?_
     (try simp only [zz])
     refine wE (by kernel_rfl) ?_
     have hB3:=hB0.drew.trans (hb3.mono hB0.size)
     have HFin:Hid (ShapePost xs t p w (.returned (.tuple #[.slice none 0 0,.bool false])) w3):=⟨_,[],by rw [HNB.out,HE1.out,HE2.out,HBa1.out,HBa2.out] <;> rfl,hB3,Fresh.nil _ _,fun _=>by rw [HTY.out];exact Arr.nil⟩
     clear y0 y1 z0 z1 z2 z3 z4 z5 klt klt2
     clear hb3 hS1 hS3 hT1
     go_wp2
     go_ret2
     exact HFin.out
    |true =>
     have HBa2:=jj a2
     clear a2
     cases a3:decide (p.m≤9) with
     |false =>
      have HBa3:=jj a3
      clear a3
      refine w1 5 rfl fun K hK=>?_
      go_simp
      go_at_call 105
      with_reducible refine hc.mono ?_
      rintro e w3 ⟨rfl,hb3⟩
      have hS3:Blk w3 w 25 #[t.d,t.i]∧Blk w3 (w.heap.size+1) 28 #[p.op,p.ct,p.n,p.m,p.va,.slice A4 p.ks.length cap4]:=⟨hS1.1.same (hb3.block _ hS1.1.lt),hS1.2.same (hb3.block _ hS1.2.lt)⟩
      dsimp only
      refine hK.out _ _ hS3 (fun _=>trivial) ?_
      clear hK K
      (try simp only [zz])
      refine wV 6 rfl hS3 trivial ?_
      (try simp only [zz])
      refine wV 7 rfl hS3 trivial ?_
      (try simp only [zz])
      refine wV 8 rfl hS3 trivial ?_
      (try simp only [zz])
      refine wU (i:=9) (v:=?_) rfl (Or.inl ⟨by rfl,?hy9⟩) hS3 (fun _=>trivial) ?_
      case hy9=>(intro W hSw;(try dsimp only at hSw);obtain ⟨kt,kp⟩:=hSw;have y0:W.cell? ⟨w,0,none⟩=t.d:=(kt.cell 0).trans (by simp);have y1:W.cell? ⟨w,1,none⟩=t.i:=(kt.cell 1).trans (by simp);have z0:W.cell? ⟨w.heap.size+1,0,none⟩=p.op:=(kp.cell 0).trans (by simp);have z1:W.cell? ⟨w.heap.size+1,1,none⟩=p.ct:=(kp.cell 1).trans (by simp);have z2:W.cell? ⟨w.heap.size+1,2,none⟩=p.n:=(kp.cell 2).trans (by simp);have z3:W.cell? ⟨w.heap.size+1,3,none⟩=p.m:=(kp.cell 3).trans (by simp);have z4:W.cell? ⟨w.heap.size+1,4,none⟩=p.va:=(kp.cell 4).trans (by simp);have z5:W.cell? ⟨w.heap.size+1,5,none⟩=some (.slice A4 p.ks.length cap4):=(kp.cell 5).trans (by simp);go_simp;try with_reducible rfl)
      (try simp only [zz])
      refine wV 10 rfl hS3 trivial ?_
      (try simp only [zz])
      rw [HBa1.out]
      refine wV 11 rfl hS3 trivial ?_
      (try simp only [zz])
      refine wV 12 rfl hS3 trivial ?_
      (try simp only [zz])
      refine wV 13 rfl hS3 trivial ?_
      (try simp only [zz])
      refine wU (i:=14) (v:=?_) rfl (Or.inl ⟨by rfl,?hy14⟩) hS3 (fun _=>trivial) ?_
      case hy14=>(intro W hSw;(try dsimp only at hSw);obtain ⟨kt,kp⟩:=hSw;have y0:W.cell? ⟨w,0,none⟩=t.d:=(kt.cell 0).trans (by simp);have y1:W.cell? ⟨w,1,none⟩=t.i:=(kt.cell 1).trans (by simp);have z0:W.cell? ⟨w.heap.size+1,0,none⟩=p.op:=(kp.cell 0).trans (by simp);have z1:W.cell? ⟨w.heap.size+1,1,none⟩=p.ct:=(kp.cell 1).trans (by simp);have z2:W.cell? ⟨w.heap.size+1,2,none⟩=p.n:=(kp.cell 2).trans (by simp);have z3:W.cell? ⟨w.heap.size+1,3,none⟩=p.m:=(kp.cell 3).trans (by simp);have z4:W.cell? ⟨w.heap.size+1,4,none⟩=p.va:=(kp.cell 4).trans (by simp);have z5:W.cell? ⟨w.heap.size+1,5,none⟩=some (.slice A4 p.ks.length cap4):=(kp.cell 5).trans (by simp);go_simp;try with_reducible rfl)
      (try simp only [zz])
      refine wV 15 rfl hS3 trivial ?_
      (try simp only [zz])
      refine wU (i:=16) (v:=?_) rfl (Or.inl ⟨by rfl,?hy16⟩) hS3 (fun _=>trivial) ?_
      case hy16=>(intro W hSw;(try dsimp only at hSw);obtain ⟨kt,kp⟩:=hSw;have y0:W.cell? ⟨w,0,none⟩=t.d:=(kt.cell 0).trans (by simp);have y1:W.cell? ⟨w,1,none⟩=t.i:=(kt.cell 1).trans (by simp);have z0:W.cell? ⟨w.heap.size+1,0,none⟩=p.op:=(kp.cell 0).trans (by simp);have z1:W.cell? ⟨w.heap.size+1,1,none⟩=p.ct:=(kp.cell 1).trans (by simp);have z2:W.cell? ⟨w.heap.size+1,2,none⟩=p.n:=(kp.cell 2).trans (by simp);have z3:W.cell? ⟨w.heap.size+1,3,none⟩=p.m:=(kp.cell 3).trans (by simp);have z4:W.cell? ⟨w.heap.size+1,4,none⟩=p.va:=(kp.cell 4).trans (by simp);have z5:W.cell? ⟨w.heap.size+1,5,none⟩=some (.slice A4 p.ks.length cap4):=(kp.cell 5).trans (by simp);go_simp;try with_reducible rfl)
      (try simp only [zz])
      refine wV 17 rfl hS3 trivial ?_
      (try simp only [zz])
      rw [HBa2.out]
      refine wV 18 rfl hS3 trivial ?_
      (try simp only [zz])
      refine wV 19 rfl hS3 trivial ?_
      (try simp only [zz])
      refine wV 20 rfl hS3 trivial ?_
      (try simp only [zz])
      refine wU (i:=21) (v:=?_) rfl (Or.inl ⟨by rfl,?hy21⟩) hS3 (fun _=>trivial) ?_
      case hy21=>(intro W hSw;(try dsimp only at hSw);obtain ⟨kt,kp⟩:=hSw;have y0:W.cell? ⟨w,0,none⟩=t.d:=(kt.cell 0).trans (by simp);have y1:W.cell? ⟨w,1,none⟩=t.i:=(kt.cell 1).trans (by simp);have z0:W.cell? ⟨w.heap.size+1,0,none⟩=p.op:=(kp.cell 0).trans (by simp);have z1:W.cell? ⟨w.heap.size+1,1,none⟩=p.ct:=(kp.cell 1).trans (by simp);have z2:W.cell? ⟨w.heap.size+1,2,none⟩=p.n:=(kp.cell 2).trans (by simp);have z3:W.cell? ⟨w.heap.size+1,3,none⟩=p.m:=(kp.cell 3).trans (by simp);have z4:W.cell? ⟨w.heap.size+1,4,none⟩=p.va:=(kp.cell 4).trans (by simp);have z5:W.cell? ⟨w.heap.size+1,5,none⟩=some (.slice A4 p.ks.length cap4):=(kp.cell 5).trans (by simp);go_simp;try with_reducible rfl)
      (try simp only [zz])
      refine wV 22 rfl hS3 trivial ?_
      (try simp only [zz])
      rw [HBa3.out]
      refine wV 23 rfl hS3 trivial ?_
      (try simp only [zz])
      refine wV 24 rfl hS3 trivial ?_
      (try simp only [zz])
      refine wV 25 rfl hS3 trivial ?_
      (try simp only [zz])
      refine wE (by kernel_rfl) ?_
      have hB3:=hB0.drew.trans (hb3.mono hB0.size)
      have HFin:Hid (ShapePost xs t p w (.returned (.tuple #[.slice none 0 0,.bool false])) w3):=⟨_,[],by rw [HNB.out,HE1.out,HE2.out,HBa1.out,HBa2.out,HBa3.out] <;> rfl,hB3,Fresh.nil _ _,fun _=>by rw [HTY.out];exact Arr.nil⟩
      clear y0 y1 z0 z1 z2 z3 z4 z5 klt klt2
      clear hb3 hS1 hS3 hT1
      go_wp2
      go_ret2
      exact HFin.out
     |true =>
      have HBa3:=jj a3
      clear a3
      refine w1 5 rfl fun K hK=>?_
      go_simp
      go_at_call 105
      with_reducible refine hc.mono ?_
      rintro e w3 ⟨rfl,hb3⟩
      have hS3:Blk w3 w 25 #[t.d,t.i]∧Blk w3 (w.heap.size+1) 28 #[p.op,p.ct,p.n,p.m,p.va,.slice A4 p.ks.length cap4]:=⟨hS1.1.same (hb3.block _ hS1.1.lt),hS1.2.same (hb3.block _ hS1.2.lt)⟩
      dsimp only
      refine hK.out _ _ hS3 (fun _=>trivial) ?_
      clear hK K
      (try simp only [zz])
      refine wV 6 rfl hS3 trivial ?_
      (try simp only [zz])
      refine wV 7 rfl hS3 trivial ?_
      (try simp only [zz])
      refine wV 8 rfl hS3 trivial ?_
      (try simp only [zz])
      refine wU (i:=9) (v:=?_) rfl (Or.inl ⟨by rfl,?hy9⟩) hS3 (fun _=>trivial) ?_
      case hy9=>(intro W hSw;(try dsimp only at hSw);obtain ⟨kt,kp⟩:=hSw;have y0:W.cell? ⟨w,0,none⟩=t.d:=(kt.cell 0).trans (by simp);have y1:W.cell? ⟨w,1,none⟩=t.i:=(kt.cell 1).trans (by simp);have z0:W.cell? ⟨w.heap.size+1,0,none⟩=p.op:=(kp.cell 0).trans (by simp);have z1:W.cell? ⟨w.heap.size+1,1,none⟩=p.ct:=(kp.cell 1).trans (by simp);have z2:W.cell? ⟨w.heap.size+1,2,none⟩=p.n:=(kp.cell 2).trans (by simp);have z3:W.cell? ⟨w.heap.size+1,3,none⟩=p.m:=(kp.cell 3).trans (by simp);have z4:W.cell? ⟨w.heap.size+1,4,none⟩=p.va:=(kp.cell 4).trans (by simp);have z5:W.cell? ⟨w.heap.size+1,5,none⟩=some (.slice A4 p.ks.length cap4):=(kp.cell 5).trans (by simp);go_simp;try with_reducible rfl)
      (try simp only [zz])
      refine wV 10 rfl hS3 trivial ?_
      (try simp only [zz])
      rw [HBa1.out]
      refine wV 11 rfl hS3 trivial ?_
      (try simp only [zz])
      refine wV 12 rfl hS3 trivial ?_
      (try simp only [zz])
      refine wV 13 rfl hS3 trivial ?_
      (try simp only [zz])
      refine wU (i:=14) (v:=?_) rfl (Or.inl ⟨by rfl,?hy14⟩) hS3 (fun _=>trivial) ?_
      case hy14=>(intro W hSw;(try dsimp only at hSw);obtain ⟨kt,kp⟩:=hSw;have y0:W.cell? ⟨w,0,none⟩=t.d:=(kt.cell 0).trans (by simp);have y1:W.cell? ⟨w,1,none⟩=t.i:=(kt.cell 1).trans (by simp);have z0:W.cell? ⟨w.heap.size+1,0,none⟩=p.op:=(kp.cell 0).trans (by simp);have z1:W.cell? ⟨w.heap.size+1,1,none⟩=p.ct:=(kp.cell 1).trans (by simp);have z2:W.cell? ⟨w.heap.size+1,2,none⟩=p.n:=(kp.cell 2).trans (by simp);have z3:W.cell? ⟨w.heap.size+1,3,none⟩=p.m:=(kp.cell 3).trans (by simp);have z4:W.cell? ⟨w.heap.size+1,4,none⟩=p.va:=(kp.cell 4).trans (by simp);have z5:W.cell? ⟨w.heap.size+1,5,none⟩=some (.slice A4 p.ks.length cap4):=(kp.cell 5).trans (by simp);go_simp;try with_reducible rfl)
      (try simp only [zz])
      refine wV 15 rfl hS3 trivial ?_
      (try simp only [zz])
      refine wU (i:=16) (v:=?_) rfl (Or.inl ⟨by rfl,?hy16⟩) hS3 (fun _=>trivial) ?_
      case hy16=>(intro W hSw;(try dsimp only at hSw);obtain ⟨kt,kp⟩:=hSw;have y0:W.cell? ⟨w,0,none⟩=t.d:=(kt.cell 0).trans (by simp);have y1:W.cell? ⟨w,1,none⟩=t.i:=(kt.cell 1).trans (by simp);have z0:W.cell? ⟨w.heap.size+1,0,none⟩=p.op:=(kp.cell 0).trans (by simp);have z1:W.cell? ⟨w.heap.size+1,1,none⟩=p.ct:=(kp.cell 1).trans (by simp);have z2:W.cell? ⟨w.heap.size+1,2,none⟩=p.n:=(kp.cell 2).trans (by simp);have z3:W.cell? ⟨w.heap.size+1,3,none⟩=p.m:=(kp.cell 3).trans (by simp);have z4:W.cell? ⟨w.heap.size+1,4,none⟩=p.va:=(kp.cell 4).trans (by simp);have z5:W.cell? ⟨w.heap.size+1,5,none⟩=some (.slice A4 p.ks.length cap4):=(kp.cell 5).trans (by simp);go_simp;try with_reducible rfl)
      (try simp only [zz])
      refine wV 17 rfl hS3 trivial ?_
      (try simp only [zz])
      rw [HBa2.out]
      refine wV 18 rfl hS3 trivial ?_
      (try simp only [zz])
      refine wV 19 rfl hS3 trivial ?_
      (try simp only [zz])
      refine wV 20 rfl hS3 trivial ?_
      (try simp only [zz])
      refine wU (i:=21) (v:=?_) rfl (Or.inl ⟨by rfl,?hy21⟩) hS3 (fun _=>trivial) ?_
      case hy21=>(intro W hSw;(try dsimp only at hSw);obtain ⟨kt,kp⟩:=hSw;have y0:W.cell? ⟨w,0,none⟩=t.d:=(kt.cell 0).trans (by simp);have y1:W.cell? ⟨w,1,none⟩=t.i:=(kt.cell 1).trans (by simp);have z0:W.cell? ⟨w.heap.size+1,0,none⟩=p.op:=(kp.cell 0).trans (by simp);have z1:W.cell? ⟨w.heap.size+1,1,none⟩=p.ct:=(kp.cell 1).trans (by simp);have z2:W.cell? ⟨w.heap.size+1,2,none⟩=p.n:=(kp.cell 2).trans (by simp);have z3:W.cell? ⟨w.heap.size+1,3,none⟩=p.m:=(kp.cell 3).trans (by simp);have z4:W.cell? ⟨w.heap.size+1,4,none⟩=p.va:=(kp.cell 4).trans (by simp);have z5:W.cell? ⟨w.heap.size+1,5,none⟩=some (.slice A4 p.ks.length cap4):=(kp.cell 5).trans (by simp);go_simp;try with_reducible rfl)
      (try simp only [zz])
      refine wV 22 rfl hS3 trivial ?_
      (try simp only [zz])
      rw [HBa3.out]
      refine wV 23 rfl hS3 trivial ?_
      (try simp only [zz])
      refine wV 24 rfl hS3 trivial ?_
      (try simp only [zz])
      refine wV 25 rfl hS3 trivial ?_
      (try simp only [zz])
      refine wE (by kernel_rfl) ?_
      have hB3:=hB0.drew.trans (hb3.mono hB0.size)
      have HFin:Hid (ShapePost xs t p w (.returned (.tuple #[.slice none 0 0,.bool true])) w3):=⟨_,[],by rw [HNB.out,HE1.out,HE2.out,HBa1.out,HBa2.out,HBa3.out] <;> rfl,hB3,Fresh.nil _ _,fun _=>by rw [HTY.out];exact Arr.nil⟩
      clear y0 y1 z0 z1 z2 z3 z4 z5 klt klt2
      clear hb3 hS1 hS3 hT1
      go_wp2
      go_ret2
      exact HFin.out
theorem shape_6 (xs:List Dt) (hw:WorldOK xs) (t:Ty) (ht:TyIn xs.length t) (p:P) (h6:p.op=6) (w:World) (x:Value) (F:List Nat) (cs:List Value) (G:List Nat):Arr w (DtR w) xs x F→Under w F→PR w p cs G→Under w G →
  Calls Try.prog 82 #[x,.agg #[t.d,t.i],.agg cs.toArray] w (ShapePost xs t p w):=by
 intro hx hf hv hg
 obtain ⟨kv,rfl,ha⟩:=(zA4 _ _ _).1 hv
 obtain ⟨A,cap,rfl,hc1,hc2⟩:=hx.form
 obtain ⟨A4,cap4,rfl,hc3,hc4⟩:=ha.form
 have HV:=jj hv
 have HX:=jj hx
 have HF:=jj hf
 have HA:=jj ha
 have HG:=jj hg
 clear hx hf ha hg
 clear hv
 have HW:=jj hw
 have HT:=jj ht
 clear hw ht
 have o1:(p.op==1)=false:=by simp [h6]
 have o2:(p.op==2)=false:=by simp [h6]
 have o3:(p.op==3)=false:=by simp [h6]
 have o4:(p.op==4)=false:=by simp [h6]
 have o5:(p.op==5)=false:=by simp [h6]
 have o6:(p.op==6)=true:=by simp [h6]
 have HNB:=jj (nodeB_6 (xs:=xs) (t:=t) h6)
 have HTY:=jj (show typesP xs t p=[t] from by rw [typesP_no (by omega),h6];rfl)
 clear h6
 go_enter Try.func82,Try.ntmps82
 go_wp2_with fail
 obtain ⟨W2,hW2⟩:∃ W2,W2=((w.alloc (.cells #[t.d,t.i] 25)).alloc (.cells #[p.op,p.ct,p.n,p.m,p.va,.slice A4 p.ks.length cap4] 28)):=⟨_,rfl⟩
 have hB0:Below w w W2:=by rw [hW2];exact ((zy2 _ _).alloc (zz8 _) _).alloc (by simp) _
 have KT:Hid (Blk W2 w 25 #[t.d,t.i]):=by rw [hW2];exact (Blk.new w _ _).same (Below.heap_alloc _ _ _ (by simp))
 have KP:Hid (Blk W2 (w.heap.size+1) 28 #[p.op,p.ct,p.n,p.m,p.va,.slice A4 p.ks.length cap4]):=by rw [hW2];have h:=Blk.new (w.alloc (.cells #[t.d,t.i] 25)) 28 #[p.op,p.ct,p.n,p.m,p.va,.slice A4 p.ks.length cap4];rw [World.size_alloc] at h;exact h
 have hws:w.heap.size+2≤W2.heap.size:=by rw [hW2];simp
 have hws2:W2.heap.size=w.heap.size+1+1:=by rw [hW2];simp
 rw [←hW2]
 clear hW2
 obtain ⟨y0,y1,klt⟩:=KT.out.c2
 obtain ⟨z0,z1,z2,z3,z4,z5,klt2⟩:=KP.out.c6
 cases e2:onlyB p false false true 1 with
 |false =>
  have HC:Hid (∀ w1:World,Calls Try.prog 105 #[.agg #[p.op,p.ct,p.n,p.m,p.va,.slice A4 p.ks.length cap4],.bool false,.bool false,.bool true,(1:Int)] w1 fun e w'=>e=.returned (.bool false)∧Below w1 w1 w'):=fun w1=>by have h:=impl_only p A4 cap4 false false true 1 w1;rw [e2] at h;exact h
  have HE2:=jj e2
  clear e2
  have HNV:Hid (nodeB xs t p=false):=by rw [HNB.out,HE2.out];rfl
  go_wp2_with fail
  refine zA6 (S:=fun w'=>Blk w' w.heap.size 25 #[t.d,t.i]∧Blk w' (w.heap.size+1) 28 #[p.op,p.ct,p.n,p.m,p.va,.slice A4 p.ks.length cap4]) (T:=fun _=>True) (d:=99) (by kernel_rfl) ?_
  have hS1:Blk W2.drew w.heap.size 25 #[t.d,t.i]∧Blk W2.drew (w.heap.size+1) 28 #[p.op,p.ct,p.n,p.m,p.va,.slice A4 p.ks.length cap4]:=⟨KT.out,KP.out⟩
  have hT1:True:=trivial
  refine wU (i:=0) (v:=?_) rfl (Or.inl ⟨by rfl,?hy0⟩) hS1 (fun _=>trivial) ?_
  case hy0=>(intro W hSw;(try dsimp only at hSw);obtain ⟨kt,kp⟩:=hSw;have y0:W.cell? ⟨w,0,none⟩=t.d:=(kt.cell 0).trans (by simp);have y1:W.cell? ⟨w,1,none⟩=t.i:=(kt.cell 1).trans (by simp);have z0:W.cell? ⟨w.heap.size+1,0,none⟩=p.op:=(kp.cell 0).trans (by simp);have z1:W.cell? ⟨w.heap.size+1,1,none⟩=p.ct:=(kp.cell 1).trans (by simp);have z2:W.cell? ⟨w.heap.size+1,2,none⟩=p.n:=(kp.cell 2).trans (by simp);have z3:W.cell? ⟨w.heap.size+1,3,none⟩=p.m:=(kp.cell 3).trans (by simp);have z4:W.cell? ⟨w.heap.size+1,4,none⟩=p.va:=(kp.cell 4).trans (by simp);have z5:W.cell? ⟨w.heap.size+1,5,none⟩=some (.slice A4 p.ks.length cap4):=(kp.cell 5).trans (by simp);go_simp;try with_reducible rfl)
  (try simp only [zz])
  refine wU (i:=2) (v:=?_) rfl (Or.inl ⟨by rfl,?hy2⟩) hS1 (fun _=>trivial) ?_
  case hy2=>(intro W hSw;(try dsimp only at hSw);obtain ⟨kt,kp⟩:=hSw;have y0:W.cell? ⟨w,0,none⟩=t.d:=(kt.cell 0).trans (by simp);have y1:W.cell? ⟨w,1,none⟩=t.i:=(kt.cell 1).trans (by simp);have z0:W.cell? ⟨w.heap.size+1,0,none⟩=p.op:=(kp.cell 0).trans (by simp);have z1:W.cell? ⟨w.heap.size+1,1,none⟩=p.ct:=(kp.cell 1).trans (by simp);have z2:W.cell? ⟨w.heap.size+1,2,none⟩=p.n:=(kp.cell 2).trans (by simp);have z3:W.cell? ⟨w.heap.size+1,3,none⟩=p.m:=(kp.cell 3).trans (by simp);have z4:W.cell? ⟨w.heap.size+1,4,none⟩=p.va:=(kp.cell 4).trans (by simp);have z5:W.cell? ⟨w.heap.size+1,5,none⟩=some (.slice A4 p.ks.length cap4):=(kp.cell 5).trans (by simp);go_simp;try with_reducible rfl)
  (try simp only [zz])
  refine wR (rs:=[1,3]) (by kernel_rfl) (by simp) ?_
  refine AllReadyB.c rfl (fun K hK=>?_) (AllReadyB.c rfl (fun K hK=>?_) AllReadyB.n)
  ·go_simp
   have hS2:=And.intro (hS1.1.same (Below.heap_alloc _ (.cells #[t.d,t.i] 25) _ hS1.1.lt)) (hS1.2.same (Below.heap_alloc _ (.cells #[t.d,t.i] 25) _ hS1.2.lt))
   refine hK.out _ _ hS2 (fun _=>trivial) ?_
   clear hK K
   (try simp only [zz])
   refine Go.Proofs.Ytjjclcmmfeegfaa.w1 3 rfl fun K hK=>?_
   go_simp
   go_at_call 105
   with_reducible refine (HC.out _).mono ?_
   rintro e w3 ⟨rfl,hb3⟩
   have hS3:Blk w3 w 25 #[t.d,t.i]∧Blk w3 (w.heap.size+1) 28 #[p.op,p.ct,p.n,p.m,p.va,.slice A4 p.ks.length cap4]:=⟨hS2.1.same (hb3.block _ hS2.1.lt),hS2.2.same (hb3.block _ hS2.2.lt)⟩
   dsimp only
   refine hK.out _ _ hS3 (fun _=>trivial) ?_
   clear hK K
   (try simp only [zz])
   refine wV 4 rfl hS3 trivial ?_
   (try simp only [zz])
   refine wN 5 rfl hS3 trivial ?_
   (try simp only [zz])
   refine wN 6 rfl hS3 trivial ?_
   (try simp only [zz])
   refine wN 7 rfl hS3 trivial ?_
   (try simp only [zz])
   refine wV 8 rfl hS3 trivial ?_
   (try simp only [zz])
   refine wV 9 rfl hS3 trivial ?_
   (try simp only [zz])
   refine wV 10 rfl hS3 trivial ?_
   (try simp only [zz])
   refine wE (by kernel_rfl) ?_
   obtain ⟨q1,q2,q3⟩:=shape_endA hB0 hws2 hb3
   have HFin:Hid (ShapePost xs t p w (.returned (.tuple #[.slice (some ⟨w.heap.size+1+1,0,none⟩) 1 1,.bool false])) w3):=⟨_,[w.heap.size+1+1],by rw [HNV.out],q1,q2,fun _=>by rw [HTY.out];exact arr_tys1 q3⟩
   clear y0 y1 z0 z1 z2 z3 z4 z5 klt klt2
   clear hS1 hS3 hb3 q1 q2 q3
   go_wp2
   go_ret2
   exact HFin.out
  ·go_simp
   go_at_call 105
   with_reducible refine (HC.out _).mono ?_
   rintro e w3 ⟨rfl,hb3⟩
   have hS3:Blk w3 w 25 #[t.d,t.i]∧Blk w3 (w.heap.size+1) 28 #[p.op,p.ct,p.n,p.m,p.va,.slice A4 p.ks.length cap4]:=⟨hS1.1.same (hb3.block _ hS1.1.lt),hS1.2.same (hb3.block _ hS1.2.lt)⟩
   dsimp only
   refine hK.out _ _ hS3 (fun _=>trivial) ?_
   clear hK K
   (try simp only [zz])
   refine wV 4 rfl hS3 trivial ?_
   (try simp only [zz])
   refine wN 5 rfl hS3 trivial ?_
   (try simp only [zz])
   refine wN 6 rfl hS3 trivial ?_
   (try simp only [zz])
   refine wN 7 rfl hS3 trivial ?_
   (try simp only [zz])
   refine wV 8 rfl hS3 trivial ?_
   (try simp only [zz])
   refine Go.Proofs.Ytjjclcmmfeegfaa.w1 1 rfl fun K hK=>?_
   go_simp
   have hS4:=And.intro (hS3.1.same (Below.heap_alloc _ (.cells #[t.d,t.i] 25) _ hS3.1.lt)) (hS3.2.same (Below.heap_alloc _ (.cells #[t.d,t.i] 25) _ hS3.2.lt))
   refine hK.out _ _ hS4 (fun _=>trivial) ?_
   clear hK K
   (try simp only [zz])
   refine wV 9 rfl hS4 trivial ?_
   (try simp only [zz])
   refine wV 10 rfl hS4 trivial ?_
   (try simp only [zz])
   refine wE (by kernel_rfl) ?_
   obtain ⟨q1,q2⟩:=shape_endB hB0 hb3 (.cells #[t.d,t.i] 25)
   have HFin:Hid (ShapePost xs t p w (.returned (.tuple #[.slice (some ⟨w3,0,none⟩) 1 1,.bool false])) (w3.alloc (.cells #[t.d,t.i] 25))):=⟨_,[w3.heap.size],by rw [HNV.out],q1,q2,fun _=>by rw [HTY.out];exact arr_tys1 (Blk.new w3 _ _)⟩
   clear y0 y1 z0 z1 z2 z3 z4 z5 klt klt2
   clear hS1 hS3 hb3 q1 q2
   go_wp2
   go_ret2
   exact HFin.out
 |true =>
  have HC:Hid (∀ w1:World,Calls Try.prog 105 #[.agg #[p.op,p.ct,p.n,p.m,p.va,.slice A4 p.ks.length cap4],.bool false,.bool false,.bool true,(1:Int)] w1 fun e w'=>e=.returned (.bool true)∧Below w1 w1 w'):=fun w1=>by have h:=impl_only p A4 cap4 false false true 1 w1;rw [e2] at h;exact h
  have HE2:=jj e2
  clear e2
  generalize hbb:withinB p.va 0 5=bb at *
  have HV2:Hid (∀ w1:World,Calls Try.prog 106 #[p.va] w1 fun e w'=>e=.returned (.bool bb)∧w'=w1):=fun w1=>by rw [←hbb];exact impl_isVar p.va w1
  clear hbb
  have HNV:Hid (nodeB xs t p=bb):=by rw [HNB.out,HE2.out];rfl
  go_wp2_with fail
  refine zA6 (S:=fun w'=>Blk w' w.heap.size 25 #[t.d,t.i]∧Blk w' (w.heap.size+1) 28 #[p.op,p.ct,p.n,p.m,p.va,.slice A4 p.ks.length cap4]) (T:=fun _=>True) (d:=99) (by kernel_rfl) ?_
  have hS1:Blk W2.drew w.heap.size 25 #[t.d,t.i]∧Blk W2.drew (w.heap.size+1) 28 #[p.op,p.ct,p.n,p.m,p.va,.slice A4 p.ks.length cap4]:=⟨KT.out,KP.out⟩
  have hT1:True:=trivial
  refine wU (i:=0) (v:=?_) rfl (Or.inl ⟨by rfl,?hy0⟩) hS1 (fun _=>trivial) ?_
  case hy0=>(intro W hSw;(try dsimp only at hSw);obtain ⟨kt,kp⟩:=hSw;have y0:W.cell? ⟨w,0,none⟩=t.d:=(kt.cell 0).trans (by simp);have y1:W.cell? ⟨w,1,none⟩=t.i:=(kt.cell 1).trans (by simp);have z0:W.cell? ⟨w.heap.size+1,0,none⟩=p.op:=(kp.cell 0).trans (by simp);have z1:W.cell? ⟨w.heap.size+1,1,none⟩=p.ct:=(kp.cell 1).trans (by simp);have z2:W.cell? ⟨w.heap.size+1,2,none⟩=p.n:=(kp.cell 2).trans (by simp);have z3:W.cell? ⟨w.heap.size+1,3,none⟩=p.m:=(kp.cell 3).trans (by simp);have z4:W.cell? ⟨w.heap.size+1,4,none⟩=p.va:=(kp.cell 4).trans (by simp);have z5:W.cell? ⟨w.heap.size+1,5,none⟩=some (.slice A4 p.ks.length cap4):=(kp.cell 5).trans (by simp);go_simp;try with_reducible rfl)
  (try simp only [zz])
  refine wU (i:=2) (v:=?_) rfl (Or.inl ⟨by rfl,?hy2⟩) hS1 (fun _=>trivial) ?_
  case hy2=>(intro W hSw;(try dsimp only at hSw);obtain ⟨kt,kp⟩:=hSw;have y0:W.cell? ⟨w,0,none⟩=t.d:=(kt.cell 0).trans (by simp);have y1:W.cell? ⟨w,1,none⟩=t.i:=(kt.cell 1).trans (by simp);have z0:W.cell? ⟨w.heap.size+1,0,none⟩=p.op:=(kp.cell 0).trans (by simp);have z1:W.cell? ⟨w.heap.size+1,1,none⟩=p.ct:=(kp.cell 1).trans (by simp);have z2:W.cell? ⟨w.heap.size+1,2,none⟩=p.n:=(kp.cell 2).trans (by simp);have z3:W.cell? ⟨w.heap.size+1,3,none⟩=p.m:=(kp.cell 3).trans (by simp);have z4:W.cell? ⟨w.heap.size+1,4,none⟩=p.va:=(kp.cell 4).trans (by simp);have z5:W.cell? ⟨w.heap.size+1,5,none⟩=some (.slice A4 p.ks.length cap4):=(kp.cell 5).trans (by simp);go_simp;try with_reducible rfl)
  (try simp only [zz])
  refine wR (rs:=[1,3]) (by kernel_rfl) (by simp) ?_
  refine AllReadyB.c rfl (fun K hK=>?_) (AllReadyB.c rfl (fun K hK=>?_) AllReadyB.n)
  ·go_simp
   have hS2:=And.intro (hS1.1.same (Below.heap_alloc _ (.cells #[t.d,t.i] 25) _ hS1.1.lt)) (hS1.2.same (Below.heap_alloc _ (.cells #[t.d,t.i] 25) _ hS1.2.lt))
   refine hK.out _ _ hS2 (fun _=>trivial) ?_
   clear hK K
   (try simp only [zz])
   refine Go.Proofs.Ytjjclcmmfeegfaa.w1 3 rfl fun K hK=>?_
   go_simp
   go_at_call 105
   with_reducible refine (HC.out _).mono ?_
   rintro e w3 ⟨rfl,hb3⟩
   have hS3:Blk w3 w 25 #[t.d,t.i]∧Blk w3 (w.heap.size+1) 28 #[p.op,p.ct,p.n,p.m,p.va,.slice A4 p.ks.length cap4]:=⟨hS2.1.same (hb3.block _ hS2.1.lt),hS2.2.same (hb3.block _ hS2.2.lt)⟩
   dsimp only
   refine hK.out _ _ hS3 (fun _=>trivial) ?_
   clear hK K
   (try simp only [zz])
   refine wV 4 rfl hS3 trivial ?_
   (try simp only [zz])
   refine wV 5 rfl hS3 trivial ?_
   (try simp only [zz])
   refine wU (i:=6) (v:=?_) rfl (Or.inl ⟨by rfl,?hy6⟩) hS3 (fun _=>trivial) ?_
   case hy6=>(intro W hSw;(try dsimp only at hSw);obtain ⟨kt,kp⟩:=hSw;have y0:W.cell? ⟨w,0,none⟩=t.d:=(kt.cell 0).trans (by simp);have y1:W.cell? ⟨w,1,none⟩=t.i:=(kt.cell 1).trans (by simp);have z0:W.cell? ⟨w.heap.size+1,0,none⟩=p.op:=(kp.cell 0).trans (by simp);have z1:W.cell? ⟨w.heap.size+1,1,none⟩=p.ct:=(kp.cell 1).trans (by simp);have z2:W.cell? ⟨w.heap.size+1,2,none⟩=p.n:=(kp.cell 2).trans (by simp);have z3:W.cell? ⟨w.heap.size+1,3,none⟩=p.m:=(kp.cell 3).trans (by simp);have z4:W.cell? ⟨w.heap.size+1,4,none⟩=p.va:=(kp.cell 4).trans (by simp);have z5:W.cell? ⟨w.heap.size+1,5,none⟩=some (.slice A4 p.ks.length cap4):=(kp.cell 5).trans (by simp);go_simp;try with_reducible rfl)
   (try simp only [zz])
   refine Go.Proofs.Ytjjclcmmfeegfaa.w1 7 rfl fun K hK=>?_
   go_simp
   go_at_call 106
   with_reducible refine (HV2.out _).mono ?_
   rintro e w4 ⟨rfl,hw4⟩
   rw [hw4]
   clear hw4 w4
   dsimp only
   refine hK.out _ _ hS3 (fun _=>trivial) ?_
   clear hK K
   (try simp only [zz])
   refine wV 8 rfl hS3 trivial ?_
   (try simp only [zz])
   refine wV 9 rfl hS3 trivial ?_
   (try simp only [zz])
   refine wV 10 rfl hS3 trivial ?_
   (try simp only [zz])
   refine wE (by kernel_rfl) ?_
   obtain ⟨q1,q2,q3⟩:=shape_endA hB0 hws2 hb3
   have HFin:Hid (ShapePost xs t p w (.returned (.tuple #[.slice (some ⟨w.heap.size+1+1,0,none⟩) 1 1,.bool bb])) w3):=⟨_,[w.heap.size+1+1],by rw [HNV.out],q1,q2,fun _=>by rw [HTY.out];exact arr_tys1 q3⟩
   clear y0 y1 z0 z1 z2 z3 z4 z5 klt klt2
   clear hS1 hS3 hb3 q1 q2 q3
   go_wp2
   go_ret2
   exact HFin.out
  ·go_simp
   go_at_call 105
   with_reducible refine (HC.out _).mono ?_
   rintro e w3 ⟨rfl,hb3⟩
   have hS3:Blk w3 w 25 #[t.d,t.i]∧Blk w3 (w.heap.size+1) 28 #[p.op,p.ct,p.n,p.m,p.va,.slice A4 p.ks.length cap4]:=⟨hS1.1.same (hb3.block _ hS1.1.lt),hS1.2.same (hb3.block _ hS1.2.lt)⟩
   dsimp only
   refine hK.out _ _ hS3 (fun _=>trivial) ?_
   clear hK K
   (try simp only [zz])
   refine wV 4 rfl hS3 trivial ?_
   (try simp only [zz])
   refine wV 5 rfl hS3 trivial ?_
   (try simp only [zz])
   refine wU (i:=6) (v:=?_) rfl (Or.inl ⟨by rfl,?hy6⟩) hS3 (fun _=>trivial) ?_
   case hy6=>(intro W hSw;(try dsimp only at hSw);obtain ⟨kt,kp⟩:=hSw;have y0:W.cell? ⟨w,0,none⟩=t.d:=(kt.cell 0).trans (by simp);have y1:W.cell? ⟨w,1,none⟩=t.i:=(kt.cell 1).trans (by simp);have z0:W.cell? ⟨w.heap.size+1,0,none⟩=p.op:=(kp.cell 0).trans (by simp);have z1:W.cell? ⟨w.heap.size+1,1,none⟩=p.ct:=(kp.cell 1).trans (by simp);have z2:W.cell? ⟨w.heap.size+1,2,none⟩=p.n:=(kp.cell 2).trans (by simp);have z3:W.cell? ⟨w.heap.size+1,3,none⟩=p.m:=(kp.cell 3).trans (by simp);have z4:W.cell? ⟨w.heap.size+1,4,none⟩=p.va:=(kp.cell 4).trans (by simp);have z5:W.cell? ⟨w.heap.size+1,5,none⟩=some (.slice A4 p.ks.length cap4):=(kp.cell 5).trans (by simp);go_simp;try with_reducible rfl)
   (try simp only [zz])
   refine wR (rs:=[1,7]) (by kernel_rfl) (by simp) ?_
   refine AllReadyB.c rfl (fun K hK=>?_) (AllReadyB.c rfl (fun K hK=>?_) AllReadyB.n)
   focus
    go_simp
    have hS4:=And.intro (hS3.1.same (Below.heap_alloc _ (.cells #[t.d,t.i] 25) _ hS3.1.lt)) (hS3.2.same (Below.heap_alloc _ (.cells #[t.d,t.i] 25) _ hS3.2.lt))
    refine hK.out _ _ hS4 (fun _=>trivial) ?_
    clear hK K
    (try simp only [zz])
    refine Go.Proofs.Ytjjclcmmfeegfaa.w1 7 rfl fun K hK=>?_
    go_simp
    go_at_call 106
    with_reducible refine (HV2.out _).mono ?_
    rintro e w4 ⟨rfl,hw4⟩
    rw [hw4]
    clear hw4 w4
    dsimp only
    refine hK.out _ _ hS4 (fun _=>trivial) ?_
    clear hK K
    (try simp only [zz])
    refine wV 8 rfl hS4 trivial ?_
   rotate_left
   focus
    go_simp
    go_at_call 106
    with_reducible refine (HV2.out _).mono ?_
    rintro e w4 ⟨rfl,hw4⟩
    rw [hw4]
    clear hw4 w4
    dsimp only
    refine hK.out _ _ hS3 (fun _=>trivial) ?_
    clear hK K
    (try simp only [zz])
    refine wV 8 rfl hS3 trivial ?_
    (try simp only [zz])
    refine Go.Proofs.Ytjjclcmmfeegfaa.w1 1 rfl fun K hK=>?_
    go_simp
    have hS4:=And.intro (hS3.1.same (Below.heap_alloc _ (.cells #[t.d,t.i] 25) _ hS3.1.lt)) (hS3.2.same (Below.heap_alloc _ (.cells #[t.d,t.i] 25) _ hS3.2.lt))
    refine hK.out _ _ hS4 (fun _=>trivial) ?_
    clear hK K
   rotate_left
   all_goals (
    (try simp only [zz])
    refine wV 9 rfl hS4 trivial ?_
    (try simp only [zz])
    refine wV 10 rfl hS4 trivial ?_
    (try simp only [zz])
    refine wE (by kernel_rfl) ?_
    obtain ⟨q1,q2⟩:=shape_endB hB0 hb3 (.cells #[t.d,t.i] 25)
    have HFin:Hid (ShapePost xs t p w (.returned (.tuple #[.slice (some ⟨w3,0,none⟩) 1 1,.bool bb])) (w3.alloc (.cells #[t.d,t.i] 25))):=⟨_,[w3.heap.size],by rw [HNV.out],q1,q2,fun _=>by rw [HTY.out];exact arr_tys1 (Blk.new w3 _ _)⟩
    clear y0 y1 z0 z1 z2 z3 z4 z5 klt klt2
    clear hS1 hS3 hb3 q1 q2
    go_wp2
    go_ret2
    exact HFin.out)
theorem impl_shape (xs:List Dt) (hw:WorldOK xs) (t:Ty) (ht:TyIn xs.length t) (p:P) (w:World) (x:Value) (F:List Nat) (cs:List Value) (G:List Nat):Arr w (DtR w) xs x F→Under w F→PR w p cs G→Under w G →
  Calls Try.prog 82 #[x,.agg #[t.d,t.i],.agg cs.toArray] w (ShapePost xs t p w):=by
 intro hx hf hv hg
 by_cases h1:p.op=1
 ·exact shape_1 xs hw t ht p h1 w x F cs G hx hf hv hg
 by_cases h2:p.op=2
 ·exact shape_2 xs hw t ht p h2 w x F cs G hx hf hv hg
 by_cases h3:p.op=3
 ·exact shape_3 xs hw t ht p h3 w x F cs G hx hf hv hg
 by_cases h4:p.op=4
 ·exact shape_4 xs hw t ht p h4 w x F cs G hx hf hv hg
 by_cases h5:p.op=5
 ·exact shape_5 xs hw t ht p h5 w x F cs G hx hf hv hg
 by_cases h6:p.op=6
 ·exact shape_6 xs hw t ht p h6 w x F cs G hx hf hv hg
 obtain ⟨kv,rfl,ha⟩:=(zA4 _ _ _).1 hv
 obtain ⟨A,cap,rfl,hc1,hc2⟩:=hx.form
 obtain ⟨A4,cap4,rfl,hc3,hc4⟩:=ha.form
 have HV:=jj hv
 have HX:=jj hx
 have HF:=jj hf
 have HA:=jj ha
 have HG:=jj hg
 clear hx hf ha hg
 clear hv
 have o1:(p.op==1)=false:=by simpa using h1
 have o2:(p.op==2)=false:=by simpa using h2
 have o3:(p.op==3)=false:=by simpa using h3
 have o4:(p.op==4)=false:=by simpa using h4
 have o5:(p.op==5)=false:=by simpa using h5
 have o6:(p.op==6)=false:=by simpa using h6
 have HNO:=jj (nodeB_no (xs:=xs) (t:=t) h1 h2 h3 h4 h5 h6)
 clear h1 h2 h3 h4 h5 h6
 have HFin:Hid (ShapePost xs t p w (.returned (.tuple #[.slice none 0 0,.bool false])) ((w.alloc (.cells #[t.d,t.i] 25)).alloc (.cells #[p.op,p.ct,p.n,p.m,p.va,.slice A4 p.ks.length cap4] 28))):=⟨_,[],by rw [HNO.out],((zy2 _ _).alloc (zz8 _) _).alloc (by simp) _,Fresh.nil _ _,fun h=>by rw [HNO.out] at h;cases h⟩
 go_enter Try.func82,Try.ntmps82
 go_wp2
 go_ret2
 exact HFin.out
def accI (xs:List Dt) (d:Nat) (t:Ty) (p:P) (i:Nat):List Vt:=accP [] xs d t p (if p.op=5 then min i 1 else i)
theorem accI_zero (xs:List Dt) (d:Nat) (t:Ty) (p:P):accI xs d t p 0=accP [] xs d t p 0:=by unfold accI;split <;> rfl
theorem accI_next {xs:List Dt} {d:Nat} {t:Ty} {p:P} {i:Nat} (hn:¬(p.op=5∧i=1)) (h2:p.op=5→p.ks.length=2) (h1:i<(typesP xs t p).length) (hi:i<p.ks.length):accI xs d t p (i+1)=accI xs d t p i ++ varsN xs d (typesP xs t p)[i] p.ks[i]:=by
 unfold accI
 by_cases h5:p.op=5
 ·have:=h2 h5
  have h0:i=0:=by
   rcases Nat.lt_or_ge i 1 with h | h
   ·omega
   ·exact absurd ⟨h5,by omega⟩ hn
  subst h0
  rw [if_pos h5,if_pos h5]
  exact accP_succ [] d h1 hi
 ·rw [if_neg h5,if_neg h5]
  exact accP_succ [] d h1 hi
theorem accI_or {xs:List Dt} {d:Nat} {t:Ty} {p:P} (h5:p.op=5) {i:Nat} (h:1≤i):accI xs d t p i=accI xs d t p 1:=by
 unfold accI
 rw [if_pos h5,if_pos h5]
 congr 1
 omega
theorem accI_done {xs:List Dt} {d:Nat} {t:Ty} {p:P} (h2:p.op=5→p.ks.length=2):accI xs d t p p.ks.length=varsN xs (d+1) t p:=by
 unfold accI
 rw [accP_done]
 ·rfl
 ·split
  ·rename_i h5
   rw [h2 h5];rfl
  ·rfl
theorem vars_or {xs:List Dt} {d:Nat} {t:Ty} {p:P} {k0 k1:P} (h5:p.op=5) (hk:p.ks=[k0,k1]):varsN xs (d+1) t p=varsN xs d t k0:=by
 have e:varsN xs (d+1) t p=(if namedB p=true then [⟨p.va,t⟩] else []) ++ (kidsV xs t p).flatMap fun x=>varsN xs d x.1 x.2:=rfl
 have kv:kidsV xs t p=[(t,k0)]:=by unfold kidsV;rw [zB0 h5,hk,h5];rfl
 have nb:namedB p=false:=by unfold namedB;rw [h5];rfl
 rw [e,kv,nb]
 simp
theorem accI_one {xs:List Dt} {d:Nat} {t:Ty} {p:P} {k0 k1:P} (h5:p.op=5) (hk:p.ks=[k0,k1]):accI xs d t p 1=varsN xs d t k0:=by
 rw [←vars_or (xs:=xs) (d:=d) (t:=t) h5 hk,←accI_done (fun _=>by rw [hk];rfl),accI_or h5 (i:=p.ks.length) (by rw [hk];exact Nat.le_succ 1)]
def orOk (xs:List Dt) (d:Nat) (t:Ty) (p:P):Bool:=match p.ks with | [k0,k1]=>sameV (varsN xs d t k0) (varsN xs d t k1) | _=>true
section
variable {xs : List Dt} {d c : Nat} {t : Ty} {p : P}
theorem KidsOk.two (h:KidsOk xs d t p c p.ks.length) (h5:p.op=5):∃ k0 k1,p.ks=[k0,k1]∧dupFree (varsN xs d t k0)=true∧dupFree (varsN xs d t k1)=true:=by
 have hl:=h.len
 have hty:=zB0 (xs:=xs) (t:=t) h5
 rw [hty] at hl
 obtain ⟨k0,k1,hk⟩:=kids_two (show p.ks.length=2 from hl)
 have a0:=h.all 0 (by rw [hl];exact Nat.zero_lt_two) (by rw [hty];exact Nat.zero_lt_two) (by rw [hl];exact Nat.zero_lt_two)
 have a1:=h.all 1 (by rw [hl];exact Nat.one_lt_two) (by rw [hty];exact Nat.one_lt_two) (by rw [hl];exact Nat.one_lt_two)
 simp only [hty,hk,zz2,zz3] at a0 a1
 exact ⟨k0,k1,hk,lin_dup xs d t k0 a0.1 a0.2,lin_dup xs d t k1 a1.1 a1.2⟩
theorem KidsOk.or_no (h:KidsOk xs d t p c p.ks.length) (h5:p.op=5) (ho:orOk xs d t p=false):scanPB xs (d+1) t p c=false:=by
 obtain ⟨k0,k1,hk,-,d1⟩:=h.two h5
 rw [h.done,if_pos h5,hk]
 unfold orOk at ho
 rw [hk] at ho
 simp only at ho ⊢
 rw [alike_same d1];exact ho
theorem KidsOk.fin (h:KidsOk xs d t p c p.ks.length) (ho:p.op=5→orOk xs d t p=true):scanPB xs (d+1) t p c=dupFree (varsN xs (d+1) t p):=by
 rw [h.done]
 by_cases h5:p.op=5
 ·obtain ⟨k0,k1,hk,d0,d1⟩:=h.two h5
  have ho:=ho h5
  unfold orOk at ho
  rw [hk] at ho
  rw [if_pos h5,vars_or h5 hk,d0,hk]
  simp only at ho ⊢
  rw [alike_same d1];exact ho
 ·rw [if_neg h5]
end
theorem kidSum_sizes (p:P) (i:Nat):kidSum p i=P.sizes (p.ks.take i):=by
 unfold kidSum
 rw [foldl_nodes,P.sizes_eq];omega
theorem accI_len (xs:List Dt) (d:Nat) (t:Ty) (p:P) (i:Nat):(accI xs d t p i).length≤1+kidSum p i:=by
 have key:∀ j,j≤i→(accP [] xs d t p j).length≤1+kidSum p i:=fun j hj=>by
  have h1:=accP_len [] xs d t p j
  have h2:=zAG (p.ks.take i) j
  rw [List.take_take,Nat.min_eq_left hj] at h2
  rw [kidSum_sizes]
  simp only [List.length_nil] at h1
  omega
 unfold accI
 split
 ·exact key _ (Nat.min_le_left _ _)
 ·exact key _ (zz8 _)
theorem same_or {xs:List Dt} {d:Nat} {t:Ty} {p:P} {i:Nat} (h5:p.op=5) (hl:p.ks.length=2) (hi:i<p.ks.length) (hil:i<(typesP xs t p).length) (h1:i=1):sameV (accI xs d t p i) (varsN xs d (typesP xs t p)[i] p.ks[i])=orOk xs d t p:=by
 subst h1
 obtain ⟨k0,k1,hk⟩:=kids_two hl
 have hty:=zB0 (xs:=xs) (t:=t) h5
 rw [accI_one h5 hk]
 unfold orOk
 simp only [hty,hk,zz3,zz2]
theorem grown_chg' {w w7:World} {v:Value} (hgr:w.grownBy w7 v.ownBlock):Chg (rowOf v) w w7 :=
 ⟨hgr.os,hgr.tape,hgr.output,hgr.size,fun b hb hF=>hgr.block b hb (fun e=>hF (zA1.2 e.symm))⟩
theorem vars_range (xs:List Dt):∀ (d:Nat) (t:Ty) (p:P),shapeB xs d t p=true→∀ v∈varsN xs d t p,0≤v.var∧v.var≤5
 |0,_,_,h,_,_=>by cases h
 |d+1,t,p,h,v,hv=>by
  rw [shapeB_succ] at h
  simp only [Bool.and_eq_true,beq_iff_eq] at h
  obtain ⟨ho,hl,ha⟩:=h
  have e:varsN xs (d+1) t p=(if namedB p=true then [⟨p.va,t⟩] else []) ++ (kidsV xs t p).flatMap fun x=>varsN xs d x.1 x.2:=rfl
  rw [e] at hv
  rcases List.mem_append.1 hv with h | h
  ·split at h
   ·rename_i hn
    rw [zy1] at h
    subst h
    unfold ownB at ho
    rw [if_pos hn] at ho
    simp only [Bool.and_eq_true,decide_eq_true_eq] at ho
    exact ho.1
   ·cases h
  ·obtain ⟨x,hx,hv⟩:=List.mem_flatMap.1 h
   have hx:=List.mem_of_mem_take hx
   obtain ⟨j,hj,rfl⟩:=List.mem_iff_getElem.1 hx
   rw [List.length_zip] at hj
   rw [List.getElem_zip] at hv
   exact vars_range xs d _ _ (allP_at ha (by omega) (by omega)) v hv
/-! the row of marks -/
def metB (l:List Vt) (j:Nat):Bool:=l.any fun v=>v.var==(j:Int)
def metRow (l:List Vt):Array Value:=#[.bool (metB l 0),.bool (metB l 1),.bool (metB l 2),.bool (metB l 3),.bool (metB l 4),.bool (metB l 5)]
theorem metB_snoc (l:List Vt) (v:Vt) (j:Nat):metB (l ++ [v]) j=(metB l j || v.var==(j:Int)):=by unfold metB;rw [List.any_append];simp
theorem metRow_get (l:List Vt) {j:Nat} (h:j<6):(metRow l)[j]?=some (.bool (metB l j)):=by
 rcases j with _ | _ | _ | _ | _ | _ | j
 all_goals first | rfl | omega
theorem metRow_set (l:List Vt) (v:Vt) {j:Nat} (hj:j<6) (hv:v.var=(j:Int)):(metRow l).setIfInBounds j (.bool true)=metRow (l ++ [v]):=by
 unfold metRow
 simp only [metB_snoc,hv]
 rcases j with _ | _ | _ | _ | _ | _ | j
 all_goals first | omega | simp
def metTo (l:List Vt) (i:Nat):Array Value:=metRow (l.take i)
theorem metTo_succ (l:List Vt) {i:Nat} (h:i<l.length) {j:Nat} (hj:j<6) (hv:l[i].var=(j:Int)):(metTo l i).setIfInBounds j (.bool true)=metTo l (i+1):=by
 unfold metTo
 rw [take_snoc' l i h,metRow_set _ _ hj hv]
theorem met_no {l:List Vt} {i j:Nat} (h:i<l.length) (hv:l[i].var=(j:Int)) (hm:metB (l.take i) j=true):dupFree l=false:=by
 unfold metB at hm
 rw [List.any_eq_true] at hm
 obtain ⟨x,hx,he⟩:=hm
 obtain ⟨k,hk,rfl⟩:=List.mem_iff_getElem.1 hx
 rw [List.length_take] at hk
 rw [List.getElem_take,beq_iff_eq] at he
 exact dup_no (i:=k) (j:=i) (by omega) h (by omega) (by rw [he,hv])
theorem met_yes {l:List Vt} {i j:Nat} (h:i<l.length) (hv:l[i].var=(j:Int)) (hm:metB (l.take i) j=false):∀ k (hk:k<l.length),k<i→l[k].var≠l[i].var:=fun k hk hki e=>by
 unfold metB at hm
 rw [List.any_eq_false] at hm
 have:=hm l[k] (List.mem_iff_getElem.2 ⟨k,by rw [List.length_take];omega,by rw [List.getElem_take]⟩)
 rw [e,hv] at this
 simp at this
theorem run_app_void {P:Program} {w:World} (t ty e:TypeId) (i:TypeInfo) (ht:P.underlying t=some (.slice e)) (hi:P.info? e=some i) (A0:Option Addr) (n cap c:Nat) (hle:n≤cap) :
  (Builtin.append_ #[t,t] ty #[.slice A0 n cap,.slice none 0 c]).run P w=.ok (.slice A0 n cap) w:=by
 cases A0 <;> simp [Builtin.append_,run_underlying ht,sizeOf,typeInfo,hi,Builtin.lenOf,Builtin.firstCells,storeCells,hle]
theorem VtR_ones {w:World}:∀ {ys:List Vt} {cs:List Value} {G:List Nat},Flat (VtR w) ys cs G→∀ u∈cs,u.oneCell'=true
 |[],cs,G,h=>by rw [h.1];intro u hu;cases hu
 |y :: ys,cs,G,h=>by
  obtain ⟨c1,c2,F1,F2,rfl,rfl,h1,h2⟩:=h
  obtain ⟨rfl,rfl⟩:=h1
  intro u hu
  rcases List.mem_append.1 hu with h | h
  ·simp at h
   rcases h with rfl | rfl | rfl <;> rfl
  ·exact VtR_ones h2 u h
theorem run_append_vars {P:Program} {w:World} {B:Nat} {E:TypeId} (t ty:TypeId) (i:TypeInfo) (z:Value) (bytes:Nat) (ht:P.underlying t=some (.slice E)) (hi:P.info? E=some i) (hz:i.zero=some z)
  (hsize:i.size=3) (hby:i.bytes=bytes) (hzs:z.cells.size=3) {xs:List Vt} {v:Value}
  (hown:Own w B E 3 VtR xs v []) {ys:List Vt} {A:Option Addr} {n c:Nat} {F:List Nat} (hy:Arr w (VtR w) ys (.slice A n c) F)
  (h63:xs.length+ys.length≤maxLen) (hbytes:(xs.length+ys.length)*bytes≤140737488355328) (hbase:B≤w.heap.size) :
  ∃ v' w',(Builtin.append_ #[t,t] ty #[v,.slice A n c]).run P w=.ok v' w'∧Own w' B E 3 VtR (xs ++ ys) v' []∧w.grownBy w' v.ownBlock∧∀ b∈rowOf v',b∈rowOf v∨w.heap.size≤b:=by
 obtain ⟨A',c',hv,h1,h2,h3⟩:=hy
 cases hv
 have hrow:∀ {v':Value},(v'.ownBlock=v.ownBlock∨v'.ownBlock=some w.heap.size)→∀ b∈rowOf v',b∈rowOf v∨w.heap.size≤b:=fun {v'} h b hb=>by
  have hb:=zA1.1 hb
  rcases h with h | h
  ·left;rw [h] at hb;exact zA1.2 hb
  ·right;rw [h] at hb;have:=Option.some.inj hb;omega
 rcases h3 with ⟨rfl,-⟩ | ⟨b,off,cs,G,rfl,hc,hf,-⟩
 ·cases A with
  |none =>
   obtain ⟨A0,cap,rfl,hc1,hc2⟩:=hown.form
   exact ⟨_,w,run_app_void t ty E i ht hi A0 _ cap c hc1,by rw [List.append_nil];exact hown,⟨rfl,rfl,rfl,zz8 _,fun _ _ _=>rfl⟩,fun b hb=>.inl hb⟩
  |some a =>
   obtain ⟨cs,o1,o2,o3,o4⟩:=hown
   obtain ⟨v',w',hr,q1,q2,q3,q4⟩:=run_append_own_at (P:=P) w B t ty E i z 3 bytes ht hi hz hsize hby hzs (by decide) _ xs.length cs o1 a 0 c [] (by simp) (fun j u h=>by simp at h) (fun u h=>by cases h) (by simpa using h63) (by simpa using hbytes) hbase
   exact ⟨v',w',hr,⟨cs,by simpa using q1,by rw [List.append_nil];exact o2,Under.nil _,fun g _ h=>by cases h⟩,q2,hrow q4⟩
 ·obtain ⟨cs0,o1,o2,o3,o4⟩:=hown
  have hl:cs.length=ys.length*3:=hf.length (VtR_len w)
  have hG:=hf.nilF (fun x cs G h=>h.2)
  subst hG
  obtain ⟨v',w',hr,q1,q2,q3,q4⟩:=run_append_own_at (P:=P) w B t ty E i z 3 bytes ht hi hz hsize hby hzs (by decide) _ xs.length cs0 o1 ⟨b,off,none⟩ ys.length c cs hl (fun j u hj=>by rw [Addr.add_lit];exact hc j u hj) (VtR_ones hf) h63 hbytes hbase
  refine ⟨v',w',hr,⟨cs0 ++ cs,by rw [List.length_append];exact q1,?_,Under.nil _,fun g _ h=>by cases h⟩,q2,hrow q4⟩
  have h:=Flat.append o2 hf
  exact h
theorem zB1 {P:Program} {w:World} {ops:Array Oper} {rest:List Oper} {o:Oper} {a:Act} {Q:Exit→Act→World→Prop} (hgd:o.guard=none) (s x:Operand) (t:TypeId)
  (ho:o.op=.call { callee:=.builtin .append,args:=#[s,x],argTypes:=#[t,t] }) {sv xv v':Value} {w':World} (hs:a.eval s=sv) (hx:a.eval x=xv)
  (hr:(Builtin.append_ #[t,t] o.type #[sv,xv]).run P w=.ok v' w') (h:wpList P ops Q rest (a.put o.dst v') w'):wpList P ops Q (o :: rest) a w:=by
 refine wpList_plain hgd fun K hK=>?_
 unfold Oper.wp execOp
 simp only [ho,resolve,invoke,builtin,Sem.run_bind,Sem.run_pure,Result.andThen_ok,List.map_toArray,List.map_cons,List.map_nil,hs,hx,hr]
 exact hK _ _ h
def hasV (ys:List Vt) (v:Vt):Bool:=ys.any fun u=>Vt.same u v
theorem Vt.same_comm (a b:Vt):Vt.same a b=Vt.same b a:=by
 rw [Bool.eq_iff_iff,Vt.same_iff,Vt.same_iff];exact eq_comm
theorem Index_Vt (xs:List Vt) (v:Vt) (r:Int) (hr:FirstAt (fun x=>Vt.same x v) xs r) (w:World) (x:Value) (F:List Nat) (hx:Arr w (VtR w) xs x F) (hf:Under w F) :
  Calls Try.prog 118 #[x,.agg #[v.var,v.ty.d,v.ty.i]] w fun e w'=>e=.returned (.int .i64 r)∧Below w w w':=by
 obtain ⟨A,cap,rfl,hc1,hc2⟩:=hx.form
 have HX:=jj hx
 have HF:=jj hf
 have HR:=jj hr
 clear hx hf hr
 have hB0:Below w w (w.alloc (.cells #[v.var,v.ty.d,v.ty.i] 107)):=(zy2 _ _).alloc (zz8 _) _
 have K0:Hid (Blk (w.alloc (.cells #[v.var,v.ty.d,v.ty.i] 107)) w.heap.size 107 #[v.var,v.ty.d,v.ty.i]):=Blk.new _ _ _
 go_enter Try.func118,Try.ntmps118
 go_wp2
 go_loopw [8] (fun i wr=>∃ k:Nat,k≤xs.length∧i=.int .i64 k∧Hid (∀ j (hj:j<xs.length),j<k→Vt.same xs[j] v=false)∧Hid (Blk wr w 107 #[v.var,v.ty.d,v.ty.i])∧Below w w wr) (fun i _=>xs.length-(intOf i).toNat)
 case atStart=>exact ⟨0,Nat.zero_le _,rfl,fun j hj h=>by omega,K0,hB0⟩
 case round =>
  clear hB0 K0
  obtain ⟨k,hk,rfl,HT,KV,hB⟩:=hrel
  by_cases hlt:k<xs.length
  ·have g1:(0:Int)≤(k:Int):=by omega
   have g2:(k:Int)<(xs.length:Int):=by omega
   obtain ⟨b,off,rfl⟩:=HX.out.ptr (by omega)
   obtain ⟨hb,c0,c1,c2⟩:=ArrVt.at HX.out HF.out hB k hlt
   have z0:wr.cell? ⟨w,0,none⟩=v.var:=(KV.out.cell 0).trans (by simp)
   have z1:wr.cell? ⟨w,1,none⟩=v.ty.d:=(KV.out.cell 1).trans (by simp)
   have z2:wr.cell? ⟨w,2,none⟩=v.ty.i:=(KV.out.cell 2).trans (by simp)
   have hzl:=KV.out.lt
   have HBQ:=jj (fun n=>zB7 hB n)
   cases hs:Vt.same xs[k] v with
   |true =>
    have hf:=jj (HR.out.hit hlt hs (fun j hj h=>HT.out j hj h))
    have he:=(Vt.same_iff _ _).1 hs
    have e0:(v.var==xs[k].var)=true:=by rw [he];simp
    have e1:(v.ty.d==xs[k].ty.d)=true:=by rw [he];simp
    have e2:(v.ty.i==xs[k].ty.i)=true:=by rw [he];simp
    clear hs he
    go_wp2_with fail
    go_quiet (fail)
    go_wp2
    go_ret
    exact ⟨zAQ hf.out.symm,HBQ.out _⟩
   |false =>
    have hT2:Hid (∀ j (hj:j<xs.length),j<k+1→Vt.same xs[j] v=false):=fun j hj h=>by
     rcases Nat.lt_or_ge j k with h2 | h2
     ·exact HT.out j hj h2
     ·obtain rfl:j=k:=by omega
      exact hs
    rw [Vt.same_comm] at hs
    unfold Vt.same at hs
    cases e0:(v.var==xs[k].var) with
    |false =>
     clear hs
     go_wp2_with fail
     go_quiet (fail)
     go_wp2
     go_roundw
     case rel=>exact ⟨k+1,by omega,by go_num,hT2,(Blk.same KV.out rfl),HBQ.out _⟩
     case measure=>(simp [intOf] <;> omega)
    |true =>
     rw [e0,Bool.true_and] at hs
     cases e1:(v.ty.d==xs[k].ty.d) with
     |false =>
      clear hs
      go_wp2_with fail
      go_quiet (fail)
      go_wp2
      go_roundw
      case rel=>exact ⟨k+1,by omega,by go_num,hT2,(Blk.same KV.out rfl),HBQ.out _⟩
      case measure=>(simp [intOf] <;> omega)
     |true =>
      rw [e1,Bool.true_and] at hs
      go_wp2_with fail
      go_quiet (fail)
      go_wp2
      go_roundw
      case rel=>exact ⟨k+1,by omega,by go_num,hT2,(Blk.same KV.out rfl),HBQ.out _⟩
      case measure=>(simp [intOf] <;> omega)
  ·have hf:Hid (r = -1):=HR.out.miss (fun j hj=>HT.out j hj (by omega))
   go_wp2
   go_ret
   exact ⟨zAQ hf.out.symm,hB⟩
theorem Contains_Vt (xs:List Vt) (v:Vt) (w:World) (x:Value) (F:List Nat) (hx:Arr w (VtR w) xs x F) (hf:Under w F) :
  Calls Try.prog 93 #[x,.agg #[v.var,v.ty.d,v.ty.i]] w fun e w'=>e=.returned (.bool (hasV xs v))∧Below w w w':=by
 obtain ⟨r,hr⟩:=FirstAt.ex (fun x=>Vt.same x v) xs
 have hres:Hid (hasV xs v=decide (0≤r)):=hr.any
 obtain ⟨A,cap,rfl,hc1,hc2⟩:=hx.form
 have HX:=jj hx
 have HF:=jj hf
 have HR:=jj hr
 clear hx hf hr
 go_enter Try.func93,Try.ntmps93
 go_wp2_with fail
 obtain ⟨W2,hW2⟩:∃ W2,W2=w.alloc (.cells #[v.var,v.ty.d,v.ty.i] 107):=⟨_,rfl⟩
 have hB:Below w w W2:=by rw [hW2];exact (zy2 _ _).alloc (zz8 _) _
 rw [←hW2]
 clear hW2
 refine (Index_Vt xs v r HR.out W2 _ F (Arr.mono (w:=w) HX.out (.of_below hB HF.out) (fun x _ cs G hk h=>zA9 _ _ x cs G hk h)) (HF.out.mono hB.size)).mono ?_
 rintro e w' ⟨rfl,hB'⟩
 have hB3:=hB.trans (hB'.mono hB.size)
 go_wp2
 go_ret
 exact ⟨zA0 hres.out.symm,hB3⟩
theorem sameVars_closure (ys:List Vt) (A2:Option Addr) (cap2:Nat) (v:Vt) (w:World) (G:List Nat) (g:Nat) (hx:Arr w (VtR w) ys (.slice A2 ys.length cap2) G) (hf:Under w G) (hg:w.cell? ⟨g,0,none⟩=some (.slice A2 ys.length cap2)) (hgl:g<w.heap.size) :
  Calls Try.prog 111 #[.agg #[v.var,v.ty.d,v.ty.i],.pointer (some ⟨g,0,none⟩)] w fun e w'=>e=.returned (.bool (!hasV ys v))∧Below w w w':=by
 have HX:=jj hx
 have HF:=jj hf
 clear hx hf
 go_enter Try.func111,Try.ntmps111
 go_wp2_with fail
 obtain ⟨W2,hW2⟩:∃ W2,W2=w.alloc (.cells #[v.var,v.ty.d,v.ty.i] 107):=⟨_,rfl⟩
 have hB:Below w w W2:=by rw [hW2];exact (zy2 _ _).alloc (zz8 _) _
 rw [←hW2]
 clear hW2
 refine (Contains_Vt ys v W2 _ G (Arr.mono (w:=w) HX.out (.of_below hB HF.out) (fun x _ cs G hk h=>zA9 _ _ x cs G hk h)) (HF.out.mono hB.size)).mono ?_
 rintro e w' ⟨rfl,hB'⟩
 have hB3:=hB.trans (hB'.mono hB.size)
 generalize hbb:hasV ys v=bb
 have HBB:=jj hbb
 clear hbb
 go_wp2
 go_ret
 exact ⟨zA0 (by rw [HBB.out]),hB3⟩
theorem IndexFunc_Vt (ys:List Vt) (A2:Option Addr) (cap2:Nat) (xs:List Vt) (r:Int) (hr:FirstAt (fun v=>!hasV ys v) xs r) (w:World) (x:Value) (F G:List Nat) (g:Nat) (hx:Arr w (VtR w) xs x F) (hf:Under w F) (hy:Arr w (VtR w) ys (.slice A2 ys.length cap2) G) (hh:Under w G) (hg:w.cell? ⟨g,0,none⟩=some (.slice A2 ys.length cap2)) (hgl:g<w.heap.size) :
  Calls Try.prog 124 #[x,.func (.func 111) #[] #[.pointer (some ⟨g,0,none⟩)]] w fun e w'=>e=.returned (.int .i64 r)∧Below w w w':=by
 obtain ⟨A,cap,rfl,hc1,hc2⟩:=hx.form
 have HX:=jj hx
 have HF:=jj hf
 have HR:=jj hr
 have HY:=jj hy
 have HH:=jj hh
 have HG:=jj hg
 clear hx hf hr hy hh hg
 go_enter Try.func124,Try.ntmps124
 go_wp2
 go_loopw [8] (fun i wr=>∃ k:Nat,k≤xs.length∧i=.int .i64 k∧Hid (∀ j (hj:j<xs.length),j<k→(!hasV ys xs[j])=false)∧Below w w wr) (fun i _=>xs.length-(intOf i).toNat)
 case atStart=>exact ⟨0,Nat.zero_le _,rfl,fun j hj h=>by omega,zy2 _ _⟩
 case round =>
  obtain ⟨k,hk,rfl,HT,hB⟩:=hrel
  by_cases hlt:k<xs.length
  ·have hi0:(0:Int)≤(k:Int):=by omega
   have hi1:(k:Int)<(xs.length:Int):=by omega
   obtain ⟨b,off,rfl⟩:=HX.out.ptr (by omega)
   obtain ⟨hb,c0,c1,c2⟩:=ArrVt.at HX.out HF.out hB k hlt
   go_wp2_with fail
   refine (sameVars_closure ys A2 cap2 xs[k] wr G g (Arr.mono (w:=w) HY.out (.of_below hB HH.out) (fun x _ cs G hk h=>zA9 _ _ x cs G hk h)) (HH.out.mono hB.size) ((hB.cell (p:=⟨g,0,none⟩) hgl).trans HG.out) (zz9 hgl hB.size)).mono ?_
   rintro e w' ⟨rfl,hB'⟩
   have hB3:=hB.trans (hB'.mono hB.size)
   cases hq:hasV ys xs[k] with
   |false =>
    have hf:Hid (r=(k:Int)):=HR.out.hit hlt (by simp [hq]) (fun j hj h=>HT.out j hj h)
    clear hq
    go_wp2
    go_ret
    exact ⟨zAQ hf.out.symm,hB3⟩
   |true =>
    have hT2:Hid (∀ j (hj:j<xs.length),j<k+1→(!hasV ys xs[j])=false):=fun j hj h=>by
     rcases Nat.lt_or_ge j k with h2 | h2
     ·exact HT.out j hj h2
     ·obtain rfl:j=k:=by omega
      rw [hq];rfl
    clear hq
    go_wp2
    go_roundw
    case rel=>exact ⟨k+1,by omega,by go_num,hT2,hB3⟩
    case measure=>simp [intOf];omega
  ·have hf:Hid (r = -1):=HR.out.miss (fun j hj=>HT.out j hj (by omega))
   go_wp2
   go_ret
   exact ⟨zAQ hf.out.symm,hB⟩
theorem ContainsFunc_Vt (ys:List Vt) (A2:Option Addr) (cap2:Nat) (xs:List Vt) (w:World) (x:Value) (F G:List Nat) (g:Nat) (hx:Arr w (VtR w) xs x F) (hf:Under w F) (hy:Arr w (VtR w) ys (.slice A2 ys.length cap2) G) (hh:Under w G) (hg:w.cell? ⟨g,0,none⟩=some (.slice A2 ys.length cap2)) (hgl:g<w.heap.size) :
  Calls Try.prog 110 #[x,.func (.func 111) #[] #[.pointer (some ⟨g,0,none⟩)]] w fun e w'=>e=.returned (.bool (xs.any fun v=>!hasV ys v))∧Below w w w':=by
 obtain ⟨r,hr⟩:=FirstAt.ex (fun v=>!hasV ys v) xs
 have hres:Hid ((xs.any fun v=>!hasV ys v)=decide (0≤r)):=hr.any
 have hcall:=IndexFunc_Vt ys A2 cap2 xs r hr w x F G g hx hf hy hh hg hgl
 obtain ⟨A,cap,rfl,hc1,hc2⟩:=hx.form
 have HC:=jj hcall
 clear hcall hr hx hf hy hh hg
 go_enter Try.func110,Try.ntmps110
 go_wp2_with fail
 refine HC.out.mono ?_
 rintro e w' ⟨rfl,hB'⟩
 go_wp2
 go_ret
 exact ⟨zA0 hres.out.symm,hB'⟩
theorem sameV_eq (a b:List Vt):sameV a b=(((a.length:Int)==(b.length:Int)) && !(a.any fun v=>!hasV b v)):=by
 unfold sameV
 rw [any_not_all]
 congr 1
 rw [Bool.eq_iff_iff];simp <;> omega
theorem impl_sameVars (xs ys:List Vt) (w:World) (x y:Value) (F G:List Nat) (hx:Arr w (VtR w) xs x F) (hf:Under w F) (hy:Arr w (VtR w) ys y G) (hh:Under w G) :
  Calls Try.prog 83 #[x,y] w fun e w'=>e=.returned (.bool (sameV xs ys))∧Below w w w':=by
 obtain ⟨A,cap,rfl,hc1,hc2⟩:=hx.form
 obtain ⟨A2,cap2,rfl,hd1,hd2⟩:=hy.form
 have HX:=jj hx
 have HF:=jj hf
 have HY:=jj hy
 have HH:=jj hh
 clear hx hf hy hh
 have hres:=sameV_eq xs ys
 obtain ⟨W2,hW2⟩:∃ W2,W2=w.alloc (.cells #[.slice A2 ys.length cap2] 33):=⟨_,rfl⟩
 have hB:Below w w W2:=by rw [hW2];exact (zy2 _ _).alloc (zz8 _) _
 have KB:Blk W2 w 33 #[.slice A2 ys.length cap2]:=by rw [hW2];exact Blk.new _ _ _
 have y0:W2.cell? ⟨w,0,none⟩=some (.slice A2 ys.length cap2):=(KB.cell 0).trans (by simp)
 have ylt:=KB.lt
 have HW2:=jj hW2
 clear hW2 KB
 cases e0:((xs.length:Int)==(ys.length:Int)) with
 |false =>
  rw [e0] at hres
  have HRes:=jj hres
  clear hres
  go_enter Try.func83,Try.ntmps83
  go_wp2
  go_ret
  exact ⟨zA0 HRes.out.symm,by rw [←HW2.out];exact hB⟩
 |true =>
  rw [e0,Bool.true_and] at hres
  have HRes:=jj hres
  clear hres
  go_enter Try.func83,Try.ntmps83
  go_wp2_with fail
  rw [←HW2.out]
  refine (ContainsFunc_Vt ys A2 cap2 xs W2 _ F G w.heap.size (Arr.mono (w:=w) HX.out (.of_below hB HF.out) (fun x _ cs G hk h=>zA9 _ _ x cs G hk h)) (HF.out.mono hB.size) (Arr.mono (w:=w) HY.out (.of_below hB HH.out) (fun x _ cs G hk h=>zA9 _ _ x cs G hk h)) (HH.out.mono hB.size) y0 ylt).mono ?_
  rintro e w' ⟨rfl,hB'⟩
  have hB3:=hB.trans (hB'.mono hB.size)
  generalize (xs.any fun v=>!hasV ys v)=bb at *
  go_wp2
  go_ret
  exact ⟨zA0 HRes.out.symm,hB3⟩
end Go.Proofs.Ytjjclcmmfeegfaa
