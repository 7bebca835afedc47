/-
  Lemmas, and contracts of functions. Conditions: none.
-/
import Derived.Test.YtjjclcmmfeegfaaGreatDoorJAK
import Derived.Test.YtjjclcmmfeegfaaGreatDoorJAC
import Derived.Deep.RegionHeld3
import Derived.Deep.RegionWith
import Derived.Deep.QuietTactic
import Derived.BigQuiet
import Derived.IntWalk
import Derived.Test.YtjjclcmmfeegfaaGreatDoorJAI
import Derived.Test.YtjjclcmmfeegfaaGreatDoorJAA
import Derived.Laws.EntriesVeiled
import Derived.Test.YtjjclcmmfeegfaaGreatDoorJAJ
import Derived.Test.YtjjclcmmfeegfaaGreatDoorJAB
import Derived.Test.YtjjclcmmfeegfaaGreatDoorJAH

set_option linter.unusedVariables false
set_option linter.unusedSimpArgs false
set_option maxRecDepth 100000
set_option maxHeartbeats 1600000

namespace Go.Proofs.YtjjclcmmfeegfaaGreatDoor
open Go.RowKit
theorem shape_6 (xs:List Dt) (hw:WorldOK xs) (t:Ty) (ht:TyIn xs.length t) (p:P) (h6:p.op=6) (w:World) (x:Value) (F:List Nat) (cs:List Value) (G:List Nat):Arr w (DtR w) xs x F→Under w F→PR w p cs G→Under w G →
  Calls Tryz.prog 129 #[x,.agg #[t.d,t.i],.agg cs.toArray] w (ShapePost xs t p w):=by
 intro hx hf hv hg
 obtain ⟨kv,rfl,ha⟩:=(zAE _ _ _).1 hv
 obtain ⟨A,cap,rfl,hc1,hc2⟩:=hx.form
 obtain ⟨A4,cap4,rfl,hc3,hc4⟩:=ha.form
 have HV:=jj hv
 have HX:=jj hx
 have HF:=jj hf
 have HA:=jj ha
 have HG:=jj hg
 clear hx hf ha hg
 clear hv
 have HW:=jj hw
 have HT:=jj ht
 clear hw ht
 have o1:(p.op==1)=false:=by simp [h6]
 have o2:(p.op==2)=false:=by simp [h6]
 have o3:(p.op==3)=false:=by simp [h6]
 have o4:(p.op==4)=false:=by simp [h6]
 have o5:(p.op==5)=false:=by simp [h6]
 have o6:(p.op==6)=true:=by simp [h6]
 have HNB:=jj (nodeB_6 (xs:=xs) (t:=t) h6)
 have HTY:=jj (show typesP xs t p=[t] from by rw [typesP_no (by omega),h6];rfl)
 clear h6
 go_enter Tryz.func129,Tryz.ntmps129
 go_wp2_with fail
 obtain ⟨W2,hW2⟩:∃ W2,W2=((w.alloc (.cells #[t.d,t.i] 25)).alloc (.cells #[p.op,p.ct,p.n,p.m,p.va,.slice A4 p.ks.length cap4] 28)):=⟨_,rfl⟩
 have hB0:Below w w W2:=by rw [hW2];exact ((zy2 _ _).alloc (zz8 _) _).alloc (by simp) _
 have KT:Hid (Blk W2 w 25 #[t.d,t.i]):=by rw [hW2];exact (Blk.new w _ _).same (Below.heap_alloc _ _ _ (by simp))
 have KP:Hid (Blk W2 (w.heap.size+1) 28 #[p.op,p.ct,p.n,p.m,p.va,.slice A4 p.ks.length cap4]):=by rw [hW2];have h:=Blk.new (w.alloc (.cells #[t.d,t.i] 25)) 28 #[p.op,p.ct,p.n,p.m,p.va,.slice A4 p.ks.length cap4];rw [World.size_alloc] at h;exact h
 have hws:w.heap.size+2≤W2.heap.size:=by rw [hW2];simp
 have hws2:W2.heap.size=w.heap.size+1+1:=by rw [hW2];simp
 rw [←hW2]
 clear hW2
 obtain ⟨y0,y1,klt⟩:=KT.out.c2
 obtain ⟨z0,z1,z2,z3,z4,z5,klt2⟩:=KP.out.c6
 cases e2:onlyB p false false true 1 with
 |false =>
  have HC:Hid (∀ w1:World,Calls Tryz.prog 163 #[.agg #[p.op,p.ct,p.n,p.m,p.va,.slice A4 p.ks.length cap4],.bool false,.bool false,.bool true,(1:Int)] w1 fun e w'=>e=.returned (.bool false)∧Below w1 w1 w'):=fun w1=>by have h:=impl_only p A4 cap4 false false true 1 w1;rw [e2] at h;exact h
  have HE2:=jj e2
  clear e2
  have HNV:Hid (nodeB xs t p=false):=by rw [HNB.out,HE2.out];rfl
  go_wp2_with fail
  refine zA4 (S:=fun w'=>Blk w' w.heap.size 25 #[t.d,t.i]∧Blk w' (w.heap.size+1) 28 #[p.op,p.ct,p.n,p.m,p.va,.slice A4 p.ks.length cap4]) (T:=fun _=>True) (d:=99) (by kernel_rfl) ?_
  have hS1:Blk W2.drew w.heap.size 25 #[t.d,t.i]∧Blk W2.drew (w.heap.size+1) 28 #[p.op,p.ct,p.n,p.m,p.va,.slice A4 p.ks.length cap4]:=⟨KT.out,KP.out⟩
  have hT1:True:=trivial
  refine wU (i:=0) (v:=?_) rfl (Or.inl ⟨by rfl,?hy0⟩) hS1 (fun _=>trivial) ?_
  case hy0=>(intro W hSw;(try dsimp only at hSw);obtain ⟨kt,kp⟩:=hSw;have y0:W.cell? ⟨w,0,none⟩=t.d:=(kt.cell 0).trans (by simp);have y1:W.cell? ⟨w,1,none⟩=t.i:=(kt.cell 1).trans (by simp);have z0:W.cell? ⟨w.heap.size+1,0,none⟩=p.op:=(kp.cell 0).trans (by simp);have z1:W.cell? ⟨w.heap.size+1,1,none⟩=p.ct:=(kp.cell 1).trans (by simp);have z2:W.cell? ⟨w.heap.size+1,2,none⟩=p.n:=(kp.cell 2).trans (by simp);have z3:W.cell? ⟨w.heap.size+1,3,none⟩=p.m:=(kp.cell 3).trans (by simp);have z4:W.cell? ⟨w.heap.size+1,4,none⟩=p.va:=(kp.cell 4).trans (by simp);have z5:W.cell? ⟨w.heap.size+1,5,none⟩=some (.slice A4 p.ks.length cap4):=(kp.cell 5).trans (by simp);go_simp;try with_reducible rfl)
  (try simp only [zz])
  refine wU (i:=2) (v:=?_) rfl (Or.inl ⟨by rfl,?hy2⟩) hS1 (fun _=>trivial) ?_
  case hy2=>(intro W hSw;(try dsimp only at hSw);obtain ⟨kt,kp⟩:=hSw;have y0:W.cell? ⟨w,0,none⟩=t.d:=(kt.cell 0).trans (by simp);have y1:W.cell? ⟨w,1,none⟩=t.i:=(kt.cell 1).trans (by simp);have z0:W.cell? ⟨w.heap.size+1,0,none⟩=p.op:=(kp.cell 0).trans (by simp);have z1:W.cell? ⟨w.heap.size+1,1,none⟩=p.ct:=(kp.cell 1).trans (by simp);have z2:W.cell? ⟨w.heap.size+1,2,none⟩=p.n:=(kp.cell 2).trans (by simp);have z3:W.cell? ⟨w.heap.size+1,3,none⟩=p.m:=(kp.cell 3).trans (by simp);have z4:W.cell? ⟨w.heap.size+1,4,none⟩=p.va:=(kp.cell 4).trans (by simp);have z5:W.cell? ⟨w.heap.size+1,5,none⟩=some (.slice A4 p.ks.length cap4):=(kp.cell 5).trans (by simp);go_simp;try with_reducible rfl)
  (try simp only [zz])
  refine wR (rs:=[1,3]) (by kernel_rfl) (by simp) ?_
  refine AllReadyB.c rfl (fun K hK=>?_) (AllReadyB.c rfl (fun K hK=>?_) AllReadyB.n)
  ·go_simp
   have hS2:=And.intro (hS1.1.same (Below.heap_alloc _ (.cells #[t.d,t.i] 25) _ hS1.1.lt)) (hS1.2.same (Below.heap_alloc _ (.cells #[t.d,t.i] 25) _ hS1.2.lt))
   refine hK.out _ _ hS2 (fun _=>trivial) ?_
   clear hK K
   (try simp only [zz])
   refine Go.Proofs.YtjjclcmmfeegfaaGreatDoor.w1 3 rfl fun K hK=>?_
   go_simp
   go_at_call 163
   with_reducible refine (HC.out _).mono ?_
   rintro e w3 ⟨rfl,hb3⟩
   have hS3:Blk w3 w 25 #[t.d,t.i]∧Blk w3 (w.heap.size+1) 28 #[p.op,p.ct,p.n,p.m,p.va,.slice A4 p.ks.length cap4]:=⟨hS2.1.same (hb3.block _ hS2.1.lt),hS2.2.same (hb3.block _ hS2.2.lt)⟩
   dsimp only
   refine hK.out _ _ hS3 (fun _=>trivial) ?_
   clear hK K
   (try simp only [zz])
   refine wV 4 rfl hS3 trivial ?_
   (try simp only [zz])
   refine wN 5 rfl hS3 trivial ?_
   (try simp only [zz])
   refine wN 6 rfl hS3 trivial ?_
   (try simp only [zz])
   refine wN 7 rfl hS3 trivial ?_
   (try simp only [zz])
   refine wV 8 rfl hS3 trivial ?_
   (try simp only [zz])
   refine wV 9 rfl hS3 trivial ?_
   (try simp only [zz])
   refine wV 10 rfl hS3 trivial ?_
   (try simp only [zz])
   refine wE (by kernel_rfl) ?_
   obtain ⟨q1,q2,q3⟩:=shape_endA hB0 hws2 hb3
   have HFin:Hid (ShapePost xs t p w (.returned (.tuple #[.slice (some ⟨w.heap.size+1+1,0,none⟩) 1 1,.bool false])) w3):=⟨_,[w.heap.size+1+1],by rw [HNV.out],q1,q2,fun _=>by rw [HTY.out];exact arr_tys1 q3⟩
   clear y0 y1 z0 z1 z2 z3 z4 z5 klt klt2
   clear hS1 hS3 hb3 q1 q2 q3
   go_wp2
   go_ret2
   exact HFin.out
  ·go_simp
   go_at_call 163
   with_reducible refine (HC.out _).mono ?_
   rintro e w3 ⟨rfl,hb3⟩
   have hS3:Blk w3 w 25 #[t.d,t.i]∧Blk w3 (w.heap.size+1) 28 #[p.op,p.ct,p.n,p.m,p.va,.slice A4 p.ks.length cap4]:=⟨hS1.1.same (hb3.block _ hS1.1.lt),hS1.2.same (hb3.block _ hS1.2.lt)⟩
   dsimp only
   refine hK.out _ _ hS3 (fun _=>trivial) ?_
   clear hK K
   (try simp only [zz])
   refine wV 4 rfl hS3 trivial ?_
   (try simp only [zz])
   refine wN 5 rfl hS3 trivial ?_
   (try simp only [zz])
   refine wN 6 rfl hS3 trivial ?_
   (try simp only [zz])
   refine wN 7 rfl hS3 trivial ?_
   (try simp only [zz])
   refine wV 8 rfl hS3 trivial ?_
   (try simp only [zz])
   refine Go.Proofs.YtjjclcmmfeegfaaGreatDoor.w1 1 rfl fun K hK=>?_
   go_simp
   have hS4:=And.intro (hS3.1.same (Below.heap_alloc _ (.cells #[t.d,t.i] 25) _ hS3.1.lt)) (hS3.2.same (Below.heap_alloc _ (.cells #[t.d,t.i] 25) _ hS3.2.lt))
   refine hK.out _ _ hS4 (fun _=>trivial) ?_
   clear hK K
   (try simp only [zz])
   refine wV 9 rfl hS4 trivial ?_
   (try simp only [zz])
   refine wV 10 rfl hS4 trivial ?_
   (try simp only [zz])
   refine wE (by kernel_rfl) ?_
   obtain ⟨q1,q2⟩:=shape_endB hB0 hb3 (.cells #[t.d,t.i] 25)
   have HFin:Hid (ShapePost xs t p w (.returned (.tuple #[.slice (some ⟨w3,0,none⟩) 1 1,.bool false])) (w3.alloc (.cells #[t.d,t.i] 25))):=⟨_,[w3.heap.size],by rw [HNV.out],q1,q2,fun _=>by rw [HTY.out];exact arr_tys1 (Blk.new w3 _ _)⟩
   clear y0 y1 z0 z1 z2 z3 z4 z5 klt klt2
   clear hS1 hS3 hb3 q1 q2
   go_wp2
   go_ret2
   exact HFin.out
 |true =>
  have HC:Hid (∀ w1:World,Calls Tryz.prog 163 #[.agg #[p.op,p.ct,p.n,p.m,p.va,.slice A4 p.ks.length cap4],.bool false,.bool false,.bool true,(1:Int)] w1 fun e w'=>e=.returned (.bool true)∧Below w1 w1 w'):=fun w1=>by have h:=impl_only p A4 cap4 false false true 1 w1;rw [e2] at h;exact h
  have HE2:=jj e2
  clear e2
  generalize hbb:withinB p.va 0 5=bb at *
  have HV2:Hid (∀ w1:World,Calls Tryz.prog 164 #[p.va] w1 fun e w'=>e=.returned (.bool bb)∧w'=w1):=fun w1=>by rw [←hbb];exact impl_isVar p.va w1
  clear hbb
  have HNV:Hid (nodeB xs t p=bb):=by rw [HNB.out,HE2.out];rfl
  go_wp2_with fail
  refine zA4 (S:=fun w'=>Blk w' w.heap.size 25 #[t.d,t.i]∧Blk w' (w.heap.size+1) 28 #[p.op,p.ct,p.n,p.m,p.va,.slice A4 p.ks.length cap4]) (T:=fun _=>True) (d:=99) (by kernel_rfl) ?_
  have hS1:Blk W2.drew w.heap.size 25 #[t.d,t.i]∧Blk W2.drew (w.heap.size+1) 28 #[p.op,p.ct,p.n,p.m,p.va,.slice A4 p.ks.length cap4]:=⟨KT.out,KP.out⟩
  have hT1:True:=trivial
  refine wU (i:=0) (v:=?_) rfl (Or.inl ⟨by rfl,?hy0⟩) hS1 (fun _=>trivial) ?_
  case hy0=>(intro W hSw;(try dsimp only at hSw);obtain ⟨kt,kp⟩:=hSw;have y0:W.cell? ⟨w,0,none⟩=t.d:=(kt.cell 0).trans (by simp);have y1:W.cell? ⟨w,1,none⟩=t.i:=(kt.cell 1).trans (by simp);have z0:W.cell? ⟨w.heap.size+1,0,none⟩=p.op:=(kp.cell 0).trans (by simp);have z1:W.cell? ⟨w.heap.size+1,1,none⟩=p.ct:=(kp.cell 1).trans (by simp);have z2:W.cell? ⟨w.heap.size+1,2,none⟩=p.n:=(kp.cell 2).trans (by simp);have z3:W.cell? ⟨w.heap.size+1,3,none⟩=p.m:=(kp.cell 3).trans (by simp);have z4:W.cell? ⟨w.heap.size+1,4,none⟩=p.va:=(kp.cell 4).trans (by simp);have z5:W.cell? ⟨w.heap.size+1,5,none⟩=some (.slice A4 p.ks.length cap4):=(kp.cell 5).trans (by simp);go_simp;try with_reducible rfl)
  (try simp only [zz])
  refine wU (i:=2) (v:=?_) rfl (Or.inl ⟨by rfl,?hy2⟩) hS1 (fun _=>trivial) ?_
  case hy2=>(intro W hSw;(try dsimp only at hSw);obtain ⟨kt,kp⟩:=hSw;have y0:W.cell? ⟨w,0,none⟩=t.d:=(kt.cell 0).trans (by simp);have y1:W.cell? ⟨w,1,none⟩=t.i:=(kt.cell 1).trans (by simp);have z0:W.cell? ⟨w.heap.size+1,0,none⟩=p.op:=(kp.cell 0).trans (by simp);have z1:W.cell? ⟨w.heap.size+1,1,none⟩=p.ct:=(kp.cell 1).trans (by simp);have z2:W.cell? ⟨w.heap.size+1,2,none⟩=p.n:=(kp.cell 2).trans (by simp);have z3:W.cell? ⟨w.heap.size+1,3,none⟩=p.m:=(kp.cell 3).trans (by simp);have z4:W.cell? ⟨w.heap.size+1,4,none⟩=p.va:=(kp.cell 4).trans (by simp);have z5:W.cell? ⟨w.heap.size+1,5,none⟩=some (.slice A4 p.ks.length cap4):=(kp.cell 5).trans (by simp);go_simp;try with_reducible rfl)
  (try simp only [zz])
  refine wR (rs:=[1,3]) (by kernel_rfl) (by simp) ?_
  refine AllReadyB.c rfl (fun K hK=>?_) (AllReadyB.c rfl (fun K hK=>?_) AllReadyB.n)
  ·go_simp
   have hS2:=And.intro (hS1.1.same (Below.heap_alloc _ (.cells #[t.d,t.i] 25) _ hS1.1.lt)) (hS1.2.same (Below.heap_alloc _ (.cells #[t.d,t.i] 25) _ hS1.2.lt))
   refine hK.out _ _ hS2 (fun _=>trivial) ?_
   clear hK K
   (try simp only [zz])
   refine Go.Proofs.YtjjclcmmfeegfaaGreatDoor.w1 3 rfl fun K hK=>?_
   go_simp
   go_at_call 163
   with_reducible refine (HC.out _).mono ?_
   rintro e w3 ⟨rfl,hb3⟩
   have hS3:Blk w3 w 25 #[t.d,t.i]∧Blk w3 (w.heap.size+1) 28 #[p.op,p.ct,p.n,p.m,p.va,.slice A4 p.ks.length cap4]:=⟨hS2.1.same (hb3.block _ hS2.1.lt),hS2.2.same (hb3.block _ hS2.2.lt)⟩
   dsimp only
   refine hK.out _ _ hS3 (fun _=>trivial) ?_
   clear hK K
   (try simp only [zz])
   refine wV 4 rfl hS3 trivial ?_
   (try simp only [zz])
   refine wV 5 rfl hS3 trivial ?_
   (try simp only [zz])
   refine wU (i:=6) (v:=?_) rfl (Or.inl ⟨by rfl,?hy6⟩) hS3 (fun _=>trivial) ?_
   case hy6=>(intro W hSw;(try dsimp only at hSw);obtain ⟨kt,kp⟩:=hSw;have y0:W.cell? ⟨w,0,none⟩=t.d:=(kt.cell 0).trans (by simp);have y1:W.cell? ⟨w,1,none⟩=t.i:=(kt.cell 1).trans (by simp);have z0:W.cell? ⟨w.heap.size+1,0,none⟩=p.op:=(kp.cell 0).trans (by simp);have z1:W.cell? ⟨w.heap.size+1,1,none⟩=p.ct:=(kp.cell 1).trans (by simp);have z2:W.cell? ⟨w.heap.size+1,2,none⟩=p.n:=(kp.cell 2).trans (by simp);have z3:W.cell? ⟨w.heap.size+1,3,none⟩=p.m:=(kp.cell 3).trans (by simp);have z4:W.cell? ⟨w.heap.size+1,4,none⟩=p.va:=(kp.cell 4).trans (by simp);have z5:W.cell? ⟨w.heap.size+1,5,none⟩=some (.slice A4 p.ks.length cap4):=(kp.cell 5).trans (by simp);go_simp;try with_reducible rfl)
   (try simp only [zz])
   refine Go.Proofs.YtjjclcmmfeegfaaGreatDoor.w1 7 rfl fun K hK=>?_
   go_simp
   go_at_call 164
   with_reducible refine (HV2.out _).mono ?_
   rintro e w4 ⟨rfl,hw4⟩
   rw [hw4]
   clear hw4 w4
   dsimp only
   refine hK.out _ _ hS3 (fun _=>trivial) ?_
   clear hK K
   (try simp only [zz])
   refine wV 8 rfl hS3 trivial ?_
   (try simp only [zz])
   refine wV 9 rfl hS3 trivial ?_
   (try simp only [zz])
   refine wV 10 rfl hS3 trivial ?_
   (try simp only [zz])
   refine wE (by kernel_rfl) ?_
   obtain ⟨q1,q2,q3⟩:=shape_endA hB0 hws2 hb3
   have HFin:Hid (ShapePost xs t p w (.returned (.tuple #[.slice (some ⟨w.heap.size+1+1,0,none⟩) 1 1,.bool bb])) w3):=⟨_,[w.heap.size+1+1],by rw [HNV.out],q1,q2,fun _=>by rw [HTY.out];exact arr_tys1 q3⟩
   clear y0 y1 z0 z1 z2 z3 z4 z5 klt klt2
   clear hS1 hS3 hb3 q1 q2 q3
   go_wp2
   go_ret2
   exact HFin.out
  ·go_simp
   go_at_call 163
   with_reducible refine (HC.out _).mono ?_
   rintro e w3 ⟨rfl,hb3⟩
   have hS3:Blk w3 w 25 #[t.d,t.i]∧Blk w3 (w.heap.size+1) 28 #[p.op,p.ct,p.n,p.m,p.va,.slice A4 p.ks.length cap4]:=⟨hS1.1.same (hb3.block _ hS1.1.lt),hS1.2.same (hb3.block _ hS1.2.lt)⟩
   dsimp only
   refine hK.out _ _ hS3 (fun _=>trivial) ?_
   clear hK K
   (try simp only [zz])
   refine wV 4 rfl hS3 trivial ?_
   (try simp only [zz])
   refine wV 5 rfl hS3 trivial ?_
   (try simp only [zz])
   refine wU (i:=6) (v:=?_) rfl (Or.inl ⟨by rfl,?hy6⟩) hS3 (fun _=>trivial) ?_
   case hy6=>(intro W hSw;(try dsimp only at hSw);obtain ⟨kt,kp⟩:=hSw;have y0:W.cell? ⟨w,0,none⟩=t.d:=(kt.cell 0).trans (by simp);have y1:W.cell? ⟨w,1,none⟩=t.i:=(kt.cell 1).trans (by simp);have z0:W.cell? ⟨w.heap.size+1,0,none⟩=p.op:=(kp.cell 0).trans (by simp);have z1:W.cell? ⟨w.heap.size+1,1,none⟩=p.ct:=(kp.cell 1).trans (by simp);have z2:W.cell? ⟨w.heap.size+1,2,none⟩=p.n:=(kp.cell 2).trans (by simp);have z3:W.cell? ⟨w.heap.size+1,3,none⟩=p.m:=(kp.cell 3).trans (by simp);have z4:W.cell? ⟨w.heap.size+1,4,none⟩=p.va:=(kp.cell 4).trans (by simp);have z5:W.cell? ⟨w.heap.size+1,5,none⟩=some (.slice A4 p.ks.length cap4):=(kp.cell 5).trans (by simp);go_simp;try with_reducible rfl)
   (try simp only [zz])
   refine wR (rs:=[1,7]) (by kernel_rfl) (by simp) ?_
   refine AllReadyB.c rfl (fun K hK=>?_) (AllReadyB.c rfl (fun K hK=>?_) AllReadyB.n)
   focus
    go_simp
    have hS4:=And.intro (hS3.1.same (Below.heap_alloc _ (.cells #[t.d,t.i] 25) _ hS3.1.lt)) (hS3.2.same (Below.heap_alloc _ (.cells #[t.d,t.i] 25) _ hS3.2.lt))
    refine hK.out _ _ hS4 (fun _=>trivial) ?_
    clear hK K
    (try simp only [zz])
    refine Go.Proofs.YtjjclcmmfeegfaaGreatDoor.w1 7 rfl fun K hK=>?_
    go_simp
    go_at_call 164
    with_reducible refine (HV2.out _).mono ?_
    rintro e w4 ⟨rfl,hw4⟩
    rw [hw4]
    clear hw4 w4
    dsimp only
    refine hK.out _ _ hS4 (fun _=>trivial) ?_
    clear hK K
    (try simp only [zz])
    refine wV 8 rfl hS4 trivial ?_
   rotate_left
   focus
    go_simp
    go_at_call 164
    with_reducible refine (HV2.out _).mono ?_
    rintro e w4 ⟨rfl,hw4⟩
    rw [hw4]
    clear hw4 w4
    dsimp only
    refine hK.out _ _ hS3 (fun _=>trivial) ?_
    clear hK K
    (try simp only [zz])
    refine wV 8 rfl hS3 trivial ?_
    (try simp only [zz])
    refine Go.Proofs.YtjjclcmmfeegfaaGreatDoor.w1 1 rfl fun K hK=>?_
    go_simp
    have hS4:=And.intro (hS3.1.same (Below.heap_alloc _ (.cells #[t.d,t.i] 25) _ hS3.1.lt)) (hS3.2.same (Below.heap_alloc _ (.cells #[t.d,t.i] 25) _ hS3.2.lt))
    refine hK.out _ _ hS4 (fun _=>trivial) ?_
    clear hK K
   rotate_left
   all_goals (
    (try simp only [zz])
    refine wV 9 rfl hS4 trivial ?_
    (try simp only [zz])
    refine wV 10 rfl hS4 trivial ?_
    (try simp only [zz])
    refine wE (by kernel_rfl) ?_
    obtain ⟨q1,q2⟩:=shape_endB hB0 hb3 (.cells #[t.d,t.i] 25)
    have HFin:Hid (ShapePost xs t p w (.returned (.tuple #[.slice (some ⟨w3,0,none⟩) 1 1,.bool bb])) (w3.alloc (.cells #[t.d,t.i] 25))):=⟨_,[w3.heap.size],by rw [HNV.out],q1,q2,fun _=>by rw [HTY.out];exact arr_tys1 (Blk.new w3 _ _)⟩
    clear y0 y1 z0 z1 z2 z3 z4 z5 klt klt2
    clear hS1 hS3 hb3 q1 q2
    go_wp2
    go_ret2
    exact HFin.out)
theorem impl_shape (xs:List Dt) (hw:WorldOK xs) (t:Ty) (ht:TyIn xs.length t) (p:P) (w:World) (x:Value) (F:List Nat) (cs:List Value) (G:List Nat):Arr w (DtR w) xs x F→Under w F→PR w p cs G→Under w G →
  Calls Tryz.prog 129 #[x,.agg #[t.d,t.i],.agg cs.toArray] w (ShapePost xs t p w):=by
 intro hx hf hv hg
 by_cases h1:p.op=1
 ·exact shape_1 xs hw t ht p h1 w x F cs G hx hf hv hg
 by_cases h2:p.op=2
 ·exact shape_2 xs hw t ht p h2 w x F cs G hx hf hv hg
 by_cases h3:p.op=3
 ·exact shape_3 xs hw t ht p h3 w x F cs G hx hf hv hg
 by_cases h4:p.op=4
 ·exact shape_4 xs hw t ht p h4 w x F cs G hx hf hv hg
 by_cases h5:p.op=5
 ·exact shape_5 xs hw t ht p h5 w x F cs G hx hf hv hg
 by_cases h6:p.op=6
 ·exact shape_6 xs hw t ht p h6 w x F cs G hx hf hv hg
 obtain ⟨kv,rfl,ha⟩:=(zAE _ _ _).1 hv
 obtain ⟨A,cap,rfl,hc1,hc2⟩:=hx.form
 obtain ⟨A4,cap4,rfl,hc3,hc4⟩:=ha.form
 have HV:=jj hv
 have HX:=jj hx
 have HF:=jj hf
 have HA:=jj ha
 have HG:=jj hg
 clear hx hf ha hg
 clear hv
 have o1:(p.op==1)=false:=by simpa using h1
 have o2:(p.op==2)=false:=by simpa using h2
 have o3:(p.op==3)=false:=by simpa using h3
 have o4:(p.op==4)=false:=by simpa using h4
 have o5:(p.op==5)=false:=by simpa using h5
 have o6:(p.op==6)=false:=by simpa using h6
 have HNO:=jj (nodeB_no (xs:=xs) (t:=t) h1 h2 h3 h4 h5 h6)
 clear h1 h2 h3 h4 h5 h6
 have HFin:Hid (ShapePost xs t p w (.returned (.tuple #[.slice none 0 0,.bool false])) ((w.alloc (.cells #[t.d,t.i] 25)).alloc (.cells #[p.op,p.ct,p.n,p.m,p.va,.slice A4 p.ks.length cap4] 28))):=⟨_,[],by rw [HNO.out],((zy2 _ _).alloc (zz8 _) _).alloc (by simp) _,Fresh.nil _ _,fun h=>by rw [HNO.out] at h;cases h⟩
 go_enter Tryz.func129,Tryz.ntmps129
 go_wp2
 go_ret2
 exact HFin.out
def hasV (ys:List Vt) (v:Vt):Bool:=ys.any fun u=>Vt.same u v
theorem Vt.same_comm (a b:Vt):Vt.same a b=Vt.same b a:=by
 rw [Bool.eq_iff_iff,Vt.same_iff,Vt.same_iff];exact eq_comm
theorem Index_Vt (xs:List Vt) (v:Vt) (r:Int) (hr:FirstAt (fun x=>Vt.same x v) xs r) (w:World) (x:Value) (F:List Nat) (hx:Arr w (VtR w) xs x F) (hf:Under w F) :
  Calls Tryz.prog 235 #[x,.agg #[v.var,v.ty.d,v.ty.i]] w fun e w'=>e=.returned (.int .i64 r)∧Below w w w':=by
 obtain ⟨A,cap,rfl,hc1,hc2⟩:=hx.form
 have HX:=jj hx
 have HF:=jj hf
 have HR:=jj hr
 clear hx hf hr
 have hB0:Below w w (w.alloc (.cells #[v.var,v.ty.d,v.ty.i] 181)):=(zy2 _ _).alloc (zz8 _) _
 have K0:Hid (Blk (w.alloc (.cells #[v.var,v.ty.d,v.ty.i] 181)) w.heap.size 181 #[v.var,v.ty.d,v.ty.i]):=Blk.new _ _ _
 go_enter Tryz.func235,Tryz.ntmps235
 go_wp2
 go_loopw [8] (fun i wr=>∃ k:Nat,k≤xs.length∧i=.int .i64 k∧Hid (∀ j (hj:j<xs.length),j<k→Vt.same xs[j] v=false)∧Hid (Blk wr w 181 #[v.var,v.ty.d,v.ty.i])∧Below w w wr) (fun i _=>xs.length-(intOf i).toNat)
 case atStart=>exact ⟨0,Nat.zero_le _,rfl,fun j hj h=>by omega,K0,hB0⟩
 case round =>
  clear hB0 K0
  obtain ⟨k,hk,rfl,HT,KV,hB⟩:=hrel
  by_cases hlt:k<xs.length
  ·have g1:(0:Int)≤(k:Int):=by omega
   have g2:(k:Int)<(xs.length:Int):=by omega
   obtain ⟨b,off,rfl⟩:=HX.out.ptr (by omega)
   obtain ⟨hb,c0,c1,c2⟩:=ArrVt.at HX.out HF.out hB k hlt
   have z0:wr.cell? ⟨w,0,none⟩=v.var:=(KV.out.cell 0).trans (by simp)
   have z1:wr.cell? ⟨w,1,none⟩=v.ty.d:=(KV.out.cell 1).trans (by simp)
   have z2:wr.cell? ⟨w,2,none⟩=v.ty.i:=(KV.out.cell 2).trans (by simp)
   have hzl:=KV.out.lt
   have HBQ:=jj (fun n=>zBD hB n)
   cases hs:Vt.same xs[k] v with
   |true =>
    have hf:=jj (HR.out.hit hlt hs (fun j hj h=>HT.out j hj h))
    have he:=(Vt.same_iff _ _).1 hs
    have e0:(v.var==xs[k].var)=true:=by rw [he];simp
    have e1:(v.ty.d==xs[k].ty.d)=true:=by rw [he];simp
    have e2:(v.ty.i==xs[k].ty.i)=true:=by rw [he];simp
    clear hs he
    go_wp2_with fail
    go_quiet (fail)
    go_wp2
    go_ret
    exact ⟨zAV hf.out.symm,HBQ.out _⟩
   |false =>
    have hT2:Hid (∀ j (hj:j<xs.length),j<k+1→Vt.same xs[j] v=false):=fun j hj h=>by
     rcases Nat.lt_or_ge j k with h2 | h2
     ·exact HT.out j hj h2
     ·obtain rfl:j=k:=by omega
      exact hs
    rw [Vt.same_comm] at hs
    unfold Vt.same at hs
    cases e0:(v.var==xs[k].var) with
    |false =>
     clear hs
     go_wp2_with fail
     go_quiet (fail)
     go_wp2
     go_roundw
     case rel=>exact ⟨k+1,by omega,by go_num,hT2,(Blk.same KV.out rfl),HBQ.out _⟩
     case measure=>(simp [intOf] <;> omega)
    |true =>
     rw [e0,Bool.true_and] at hs
     cases e1:(v.ty.d==xs[k].ty.d) with
     |false =>
      clear hs
      go_wp2_with fail
      go_quiet (fail)
      go_wp2
      go_roundw
      case rel=>exact ⟨k+1,by omega,by go_num,hT2,(Blk.same KV.out rfl),HBQ.out _⟩
      case measure=>(simp [intOf] <;> omega)
     |true =>
      rw [e1,Bool.true_and] at hs
      go_wp2_with fail
      go_quiet (fail)
      go_wp2
      go_roundw
      case rel=>exact ⟨k+1,by omega,by go_num,hT2,(Blk.same KV.out rfl),HBQ.out _⟩
      case measure=>(simp [intOf] <;> omega)
  ·have hf:Hid (r = -1):=HR.out.miss (fun j hj=>HT.out j hj (by omega))
   go_wp2
   go_ret
   exact ⟨zAV hf.out.symm,hB⟩
theorem Contains_Vt (xs:List Vt) (v:Vt) (w:World) (x:Value) (F:List Nat) (hx:Arr w (VtR w) xs x F) (hf:Under w F) :
  Calls Tryz.prog 226 #[x,.agg #[v.var,v.ty.d,v.ty.i]] w fun e w'=>e=.returned (.bool (hasV xs v))∧Below w w w':=by
 obtain ⟨r,hr⟩:=FirstAt.ex (fun x=>Vt.same x v) xs
 have hres:Hid (hasV xs v=decide (0≤r)):=hr.any
 obtain ⟨A,cap,rfl,hc1,hc2⟩:=hx.form
 have HX:=jj hx
 have HF:=jj hf
 have HR:=jj hr
 clear hx hf hr
 go_enter Tryz.func226,Tryz.ntmps226
 go_wp2_with fail
 obtain ⟨W2,hW2⟩:∃ W2,W2=w.alloc (.cells #[v.var,v.ty.d,v.ty.i] 181):=⟨_,rfl⟩
 have hB:Below w w W2:=by rw [hW2];exact (zy2 _ _).alloc (zz8 _) _
 rw [←hW2]
 clear hW2
 refine (Index_Vt xs v r HR.out W2 _ F (Arr.mono (w:=w) HX.out (.of_below hB HF.out) (fun x _ cs G hk h=>zAN _ _ x cs G hk h)) (HF.out.mono hB.size)).mono ?_
 rintro e w' ⟨rfl,hB'⟩
 have hB3:=hB.trans (hB'.mono hB.size)
 go_wp2
 go_ret
 exact ⟨zA0 hres.out.symm,hB3⟩
theorem sameVars_closure (ys:List Vt) (A2:Option Addr) (cap2:Nat) (v:Vt) (w:World) (G:List Nat) (g:Nat) (hx:Arr w (VtR w) ys (.slice A2 ys.length cap2) G) (hf:Under w G) (hg:w.cell? ⟨g,0,none⟩=some (.slice A2 ys.length cap2)) (hgl:g<w.heap.size) :
  Calls Tryz.prog 225 #[.agg #[v.var,v.ty.d,v.ty.i],.pointer (some ⟨g,0,none⟩)] w fun e w'=>e=.returned (.bool (!hasV ys v))∧Below w w w':=by
 have HX:=jj hx
 have HF:=jj hf
 clear hx hf
 go_enter Tryz.func225,Tryz.ntmps225
 go_wp2_with fail
 obtain ⟨W2,hW2⟩:∃ W2,W2=w.alloc (.cells #[v.var,v.ty.d,v.ty.i] 181):=⟨_,rfl⟩
 have hB:Below w w W2:=by rw [hW2];exact (zy2 _ _).alloc (zz8 _) _
 rw [←hW2]
 clear hW2
 refine (Contains_Vt ys v W2 _ G (Arr.mono (w:=w) HX.out (.of_below hB HF.out) (fun x _ cs G hk h=>zAN _ _ x cs G hk h)) (HF.out.mono hB.size)).mono ?_
 rintro e w' ⟨rfl,hB'⟩
 have hB3:=hB.trans (hB'.mono hB.size)
 generalize hbb:hasV ys v=bb
 have HBB:=jj hbb
 clear hbb
 go_wp2
 go_ret
 exact ⟨zA0 (by rw [HBB.out]),hB3⟩
theorem IndexFunc_Vt (ys:List Vt) (A2:Option Addr) (cap2:Nat) (xs:List Vt) (r:Int) (hr:FirstAt (fun v=>!hasV ys v) xs r) (w:World) (x:Value) (F G:List Nat) (g:Nat) (hx:Arr w (VtR w) xs x F) (hf:Under w F) (hy:Arr w (VtR w) ys (.slice A2 ys.length cap2) G) (hh:Under w G) (hg:w.cell? ⟨g,0,none⟩=some (.slice A2 ys.length cap2)) (hgl:g<w.heap.size) :
  Calls Tryz.prog 234 #[x,.func (.func 225) #[] #[.pointer (some ⟨g,0,none⟩)]] w fun e w'=>e=.returned (.int .i64 r)∧Below w w w':=by
 obtain ⟨A,cap,rfl,hc1,hc2⟩:=hx.form
 have HX:=jj hx
 have HF:=jj hf
 have HR:=jj hr
 have HY:=jj hy
 have HH:=jj hh
 have HG:=jj hg
 clear hx hf hr hy hh hg
 go_enter Tryz.func234,Tryz.ntmps234
 go_wp2
 go_loopw [8] (fun i wr=>∃ k:Nat,k≤xs.length∧i=.int .i64 k∧Hid (∀ j (hj:j<xs.length),j<k→(!hasV ys xs[j])=false)∧Below w w wr) (fun i _=>xs.length-(intOf i).toNat)
 case atStart=>exact ⟨0,Nat.zero_le _,rfl,fun j hj h=>by omega,zy2 _ _⟩
 case round =>
  obtain ⟨k,hk,rfl,HT,hB⟩:=hrel
  by_cases hlt:k<xs.length
  ·have hi0:(0:Int)≤(k:Int):=by omega
   have hi1:(k:Int)<(xs.length:Int):=by omega
   obtain ⟨b,off,rfl⟩:=HX.out.ptr (by omega)
   obtain ⟨hb,c0,c1,c2⟩:=ArrVt.at HX.out HF.out hB k hlt
   go_wp2_with fail
   refine (sameVars_closure ys A2 cap2 xs[k] wr G g (Arr.mono (w:=w) HY.out (.of_below hB HH.out) (fun x _ cs G hk h=>zAN _ _ x cs G hk h)) (HH.out.mono hB.size) ((hB.cell (p:=⟨g,0,none⟩) hgl).trans HG.out) (zz9 hgl hB.size)).mono ?_
   rintro e w' ⟨rfl,hB'⟩
   have hB3:=hB.trans (hB'.mono hB.size)
   cases hq:hasV ys xs[k] with
   |false =>
    have hf:Hid (r=(k:Int)):=HR.out.hit hlt (by simp [hq]) (fun j hj h=>HT.out j hj h)
    clear hq
    go_wp2
    go_ret
    exact ⟨zAV hf.out.symm,hB3⟩
   |true =>
    have hT2:Hid (∀ j (hj:j<xs.length),j<k+1→(!hasV ys xs[j])=false):=fun j hj h=>by
     rcases Nat.lt_or_ge j k with h2 | h2
     ·exact HT.out j hj h2
     ·obtain rfl:j=k:=by omega
      rw [hq];rfl
    clear hq
    go_wp2
    go_roundw
    case rel=>exact ⟨k+1,by omega,by go_num,hT2,hB3⟩
    case measure=>simp [intOf];omega
  ·have hf:Hid (r = -1):=HR.out.miss (fun j hj=>HT.out j hj (by omega))
   go_wp2
   go_ret
   exact ⟨zAV hf.out.symm,hB⟩
theorem ContainsFunc_Vt (ys:List Vt) (A2:Option Addr) (cap2:Nat) (xs:List Vt) (w:World) (x:Value) (F G:List Nat) (g:Nat) (hx:Arr w (VtR w) xs x F) (hf:Under w F) (hy:Arr w (VtR w) ys (.slice A2 ys.length cap2) G) (hh:Under w G) (hg:w.cell? ⟨g,0,none⟩=some (.slice A2 ys.length cap2)) (hgl:g<w.heap.size) :
  Calls Tryz.prog 224 #[x,.func (.func 225) #[] #[.pointer (some ⟨g,0,none⟩)]] w fun e w'=>e=.returned (.bool (xs.any fun v=>!hasV ys v))∧Below w w w':=by
 obtain ⟨r,hr⟩:=FirstAt.ex (fun v=>!hasV ys v) xs
 have hres:Hid ((xs.any fun v=>!hasV ys v)=decide (0≤r)):=hr.any
 have hcall:=IndexFunc_Vt ys A2 cap2 xs r hr w x F G g hx hf hy hh hg hgl
 obtain ⟨A,cap,rfl,hc1,hc2⟩:=hx.form
 have HC:=jj hcall
 clear hcall hr hx hf hy hh hg
 go_enter Tryz.func224,Tryz.ntmps224
 go_wp2_with fail
 refine HC.out.mono ?_
 rintro e w' ⟨rfl,hB'⟩
 go_wp2
 go_ret
 exact ⟨zA0 hres.out.symm,hB'⟩
theorem sameV_eq (a b:List Vt):sameV a b=(((a.length:Int)==(b.length:Int)) && !(a.any fun v=>!hasV b v)):=by
 unfold sameV
 rw [any_not_all]
 congr 1
 rw [Bool.eq_iff_iff];simp <;> omega
theorem impl_sameVars (xs ys:List Vt) (w:World) (x y:Value) (F G:List Nat) (hx:Arr w (VtR w) xs x F) (hf:Under w F) (hy:Arr w (VtR w) ys y G) (hh:Under w G) :
  Calls Tryz.prog 203 #[x,y] w fun e w'=>e=.returned (.bool (sameV xs ys))∧Below w w w':=by
 obtain ⟨A,cap,rfl,hc1,hc2⟩:=hx.form
 obtain ⟨A2,cap2,rfl,hd1,hd2⟩:=hy.form
 have HX:=jj hx
 have HF:=jj hf
 have HY:=jj hy
 have HH:=jj hh
 clear hx hf hy hh
 have hres:=sameV_eq xs ys
 obtain ⟨W2,hW2⟩:∃ W2,W2=w.alloc (.cells #[.slice A2 ys.length cap2] 143):=⟨_,rfl⟩
 have hB:Below w w W2:=by rw [hW2];exact (zy2 _ _).alloc (zz8 _) _
 have KB:Blk W2 w 143 #[.slice A2 ys.length cap2]:=by rw [hW2];exact Blk.new _ _ _
 have y0:W2.cell? ⟨w,0,none⟩=some (.slice A2 ys.length cap2):=(KB.cell 0).trans (by simp)
 have ylt:=KB.lt
 have HW2:=jj hW2
 clear hW2 KB
 cases e0:((xs.length:Int)==(ys.length:Int)) with
 |false =>
  rw [e0] at hres
  have HRes:=jj hres
  clear hres
  go_enter Tryz.func203,Tryz.ntmps203
  go_wp2
  go_ret
  exact ⟨zA0 HRes.out.symm,by rw [←HW2.out];exact hB⟩
 |true =>
  rw [e0,Bool.true_and] at hres
  have HRes:=jj hres
  clear hres
  go_enter Tryz.func203,Tryz.ntmps203
  go_wp2_with fail
  rw [←HW2.out]
  refine (ContainsFunc_Vt ys A2 cap2 xs W2 _ F G w.heap.size (Arr.mono (w:=w) HX.out (.of_below hB HF.out) (fun x _ cs G hk h=>zAN _ _ x cs G hk h)) (HF.out.mono hB.size) (Arr.mono (w:=w) HY.out (.of_below hB HH.out) (fun x _ cs G hk h=>zAN _ _ x cs G hk h)) (HH.out.mono hB.size) y0 ylt).mono ?_
  rintro e w' ⟨rfl,hB'⟩
  have hB3:=hB.trans (hB'.mono hB.size)
  generalize (xs.any fun v=>!hasV ys v)=bb at *
  go_wp2
  go_ret
  exact ⟨zA0 HRes.out.symm,hB3⟩
def ScanPP (xs:List Dt) (d:Nat) (t:Ty) (p:P) (c:Nat) (g:Nat) (w:World) (e:Ending) (w':World):Prop :=
 ∃ (v:Value) (F:List Nat) (c':Nat),e=.returned (.tuple #[v,.bool (scanPB xs d t p c)])∧Chg [g] w w'∧Blk w' g 3 #[.int .i64 (c':Int)]∧(scanPB xs d t p c=true→c'=c+nodesP p∧Arr w' (VtR w') (varsN xs d t p) v F∧Free w' F∧Fresh w w' F)∧(scanPB xs d t p c=false→v=.slice none 0 0)
def ScanIP (p:P):Prop:=∀ (xs:List Dt) (_:WorldOK xs) (d deep:Nat) (_:d+deep=11) (_:1≤deep) (t:Ty) (_:TyIn xs.length t) (w:World) (x:Value) (F:List Nat) (cs:List Value) (G:List Nat) (g:Nat) (c:Nat),Arr w (DtR w) xs x F→Under w F→PR w p cs G→Under w G →
 Blk w g 3 #[(c:Int)]→g∉F→g∉G→c≤60 →
 Calls Tryz.prog 162 #[x,.agg #[t.d,t.i],.agg cs.toArray,(deep:Int),.pointer (some ⟨g,0,none⟩)] w (ScanPP xs d t p c g w)
set_option maxHeartbeats 6400000 in
theorem patternScan_of (p:P) (ih:∀ k∈p.ks,ScanIP k):ScanIP p:=by
 intro xs hw d deep hdd hd1 t ht w x F cs G g c hx hf hv hg hgb hgF hgG hc60
 have IH:=jj ih
 clear ih
 obtain ⟨kv,rfl,ha⟩:=(zAE _ _ _).1 hv
 obtain ⟨A,cap,rfl,hc1,hc2⟩:=hx.form
 obtain ⟨A4,cap4,rfl,hc3,hc4⟩:=ha.form
 have HV:=jj hv
 have HX:=jj hx
 have HF:=jj hf
 have HA:=jj ha
 have HG:=jj hg
 clear hx hf ha hg
 clear hv
 have HW:=jj hw
 have HT:=jj ht
 have HGF:=jj hgF
 have HGG:=jj hgG
 have hgl:=hgb.lt
 have gx:w.cell? ⟨g,0,none⟩=(c:Int):=(hgb.cell 0).trans (by simp)
 have gf:=hgb.frozen 0
 have HGB:=jj hgb
 have HGL:=jj hgl
 clear hw ht hgF hgG hgb
 have HBad:Hid (∀ W c',scanPB xs d t p c=false→Chg [g] w W→Blk W g 3 #[.int .i64 ((c':Nat):Int)]→ScanPP xs d t p c g w (.returned (.tuple #[.slice none 0 0,.bool false])) W):=fun W c' hT hC hK =>
  ⟨_,[],c',by rw [hT],hC,hK,(fun h=>by rw [hT] at h;cases h),fun _=>rfl⟩
 obtain ⟨W3,hW3⟩:∃ W3,W3=(((w.setCell ⟨g,0,none⟩ (.int .i64 ((c:Int)+1))).alloc (.cells #[t.d,t.i] 25)).alloc (.cells #[p.op,p.ct,p.n,p.m,p.va,.slice A4 p.ks.length cap4] 28)):=⟨_,rfl⟩
 have KG:Hid (Blk W3 g 3 #[.int .i64 ((c+1:Nat):Int)]):=by
  rw [hW3,←(show ((c:Int)+1)=((c+1:Nat):Int) from by omega)]
  have h1:Blk (w.setCell ⟨g,0,none⟩ (.int .i64 ((c:Int)+1))) g 3 #[.int .i64 ((c:Int)+1)]:=HGB.out.set_ 0 (.int .i64 ((c:Int)+1))
  exact (h1.same (Below.heap_alloc _ _ _ h1.lt)).same (Below.heap_alloc _ _ _ (by have:=h1.lt;simp;omega))
 have HCG:Hid (Chg [g] w W3):=by
  rw [hW3];exact (((Chg.refl [g] w).set (by simp)).step ((zy2 _ _).alloc (zz8 _) _)).step ((zy2 _ _).alloc (zz8 _) _)
 by_cases hcc:60<c+1
 ·have t9:decide ((c:Int)+1>60)=true:=by simp;omega
  have HFin:Hid (ScanPP xs d t p c g w (.returned (.tuple #[.slice none 0 0,.bool false])) W3):=HBad.out W3 (c+1) (scanPB_many hcc) HCG.out KG.out
  rw [hW3] at HFin
  clear hcc
  go_enter Tryz.func162,Tryz.ntmps162
  go_wp2
  go_ret2
  exact HFin.out
 ·have t9:decide ((c:Int)+1>60)=false:=by simp;omega
  cases d with
  |zero =>
   have t8:decide ((deep:Int)>10)=true:=by simp;omega
   have HFin:Hid (ScanPP xs 0 t p c g w (.returned (.tuple #[.slice none 0 0,.bool false])) W3):=HBad.out W3 (c+1) scanPB_deep HCG.out KG.out
   rw [hW3] at HFin
   go_enter Tryz.func162,Tryz.ntmps162
   go_wp2
   go_ret2
   exact HFin.out
  |succ d =>
  have t8:decide ((deep:Int)>10)=false:=by simp;omega
  have KT:Hid (Blk W3 w 25 #[t.d,t.i]):=by
   rw [hW3]
   have h:=Blk.new (w.setCell ⟨g,0,none⟩ (.int .i64 ((c:Int)+1))) 25 #[t.d,t.i]
   rw [show ((w.setCell ⟨g,0,none⟩ (.int .i64 ((c:Int)+1)))).heap.size=w.heap.size from by simp [World.setCell]] at h
   exact h.same (Below.heap_alloc _ _ _ (by simp [World.setCell]))
  have KP:Hid (Blk W3 (w.heap.size+1) 28 #[p.op,p.ct,p.n,p.m,p.va,.slice A4 p.ks.length cap4]):=by
   rw [hW3]
   have h:=Blk.new ((w.setCell ⟨g,0,none⟩ (.int .i64 ((c:Int)+1))).alloc (.cells #[t.d,t.i] 25)) 28 #[p.op,p.ct,p.n,p.m,p.va,.slice A4 p.ks.length cap4]
   rw [World.size_alloc,show ((w.setCell ⟨g,0,none⟩ (.int .i64 ((c:Int)+1)))).heap.size=w.heap.size from by simp [World.setCell]] at h
   exact h
  have hsz3:w.heap.size+2≤W3.heap.size:=by rw [hW3];simp [World.setCell]
  have HX3:Hid (Arr W3 (DtR W3) xs (.slice A xs.length cap) F):=ArrDt.mono HX.out (HCG.out.kept HF.out (fun b hb h=>HGF.out (by rw [←List.mem_singleton.1 h];exact hb)))
  have HF3:=jj (HF.out.mono HCG.out.size)
  have HV3:=jj (PR.mono _ _ _ (HCG.out.kept HG.out (fun b hb h=>HGG.out (by rw [←List.mem_singleton.1 h];exact hb))) HV.out)
  have HG3:=jj (HG.out.mono HCG.out.size)
  go_enter Tryz.func162,Tryz.ntmps162
  go_wp2_with fail
  rw [←hW3]
  clear hW3
  refine (impl_shape xs HW.out t HT.out p W3 _ F _ G HX3.out HF3.out HV3.out HG3.out).mono ?_
  rintro e w6 ⟨v6,F6,rfl,hb6,hfs6,hty6⟩
  have KT6:=jj (KT.out.same (hb6.block _ KT.out.lt))
  have KP6:=jj (KP.out.same (hb6.block _ KP.out.lt))
  have KG6:=jj (KG.out.same (hb6.block _ KG.out.lt))
  have HC6:=jj (HCG.out.step hb6)
  have hsz6:=Nat.le_trans hsz3 hb6.size
  have HN6:Hid (∀ b∈F6,b∉[g]):=fun b hb h=>by
   have h1:=(hfs6 b hb).1
   rw [List.mem_singleton.1 h] at h1
   have:=KG.out.lt
   omega
  have HU6:=jj hfs6.under
  clear hb6 hfs6 KT KP KG HCG HX3 HF3 HV3 HG3 hsz3
  cases e1:nodeB xs t p with
  |false =>
   have HFin:=jj (HBad.out w6 (c+1) (scanPB_node e1) HC6.out KG6.out)
   clear e1 hty6
   go_wp2
   go_ret2
   exact HFin.out
  |true =>
   have ha6:=hty6 e1
   have hown1:ownB xs t p=true:=by unfold nodeB at e1;rw [Bool.and_eq_true] at e1;exact e1.1
   have HK0:=jj (KidsOk.zero (d:=d) (c:=c) e1 (by omega))
   have HLN:=jj HK0.out.len
   have HAI:=jj (typesP_in HW.out HT.out hown1)
   have HL5:=jj (fun (h5:p.op=5)=>(show p.ks.length=2 by rw [HLN.out,typesP_or h5];rfl))
   have HNext:=jj (fun (i:Nat) (hi:i<p.ks.length) (hil:i<(typesP xs t p).length) (h:KidsOk xs d t p c i) (hs:scanPB xs d (typesP xs t p)[i] p.ks[i] (c+1+kidSum p i)=true)=>h.next hi hil hs)
   have HFail:=jj (fun (i:Nat) (hi:i<p.ks.length) (hil:i<(typesP xs t p).length) (h:KidsOk xs d t p c i) (hs:scanPB xs d (typesP xs t p)[i] p.ks[i] (c+1+kidSum p i)=false)=>h.fail hi hil hs)
   have HAcc:=jj (fun (i:Nat) (hi:i<p.ks.length) (hil:i<(typesP xs t p).length) (hn:¬(p.op=5∧i=1))=>accI_next (d:=d) hn HL5.out hil hi)
   have HSame:=jj (fun (i:Nat) (hi:i<p.ks.length) (hil:i<(typesP xs t p).length) (h5:p.op=5) (h1:i=1)=>same_or (d:=d) h5 (HL5.out h5) hi hil h1)
   have HOrNo:Hid (∀ (i:Nat) (hi:i<p.ks.length) (h5:p.op=5) (h1:i=1) (h:KidsOk xs d t p c (i+1)) (ho:orOk xs d t p=false),scanPB xs (d+1) t p c=false):=fun i hi h5 h1 h ho=>by
    have h2:KidsOk xs d t p c p.ks.length:=by rwa [show i+1=p.ks.length by have:=HL5.out h5;omega] at h
    exact h2.or_no h5 ho
   clear hty6 e1 hown1
   generalize hass:typesP xs t p=ls at *
   clear hass
   obtain ⟨A6,cap6,rfl,hd3,hd4⟩:=ha6.form
   have HA6:Hid (Arr w6 (TyR w6) ls (.slice A6 ls.length cap6) F6∧Under w6 F6):=⟨ha6,HU6.out⟩
   clear ha6 HU6
   by_cases hnm:namedB p=true
   ·have hn2:p.op=2∨p.op=6:=by unfold namedB at hnm;simpa using hnm
    obtain ⟨i0,hi,hz0,hz1,hz2⟩:=info_parts info_VtE
    have HI:=jj hi
    have HZ0:=jj hz0
    have HZ1:=jj hz1
    have HZ2:=jj hz2
    clear hi hz0 hz1 hz2
    have HAC:=jj ((accI_zero xs d t p).trans (accP_named (ys:=[]) (xs:=xs) (d:=d) (t:=t) hnm))
    clear hnm
    rcases hn2 with h2 | h2
    have t2:(p.op==2)=true:=by simp [h2]
    rotate_left
    have t2:(p.op==2)=false:=by simp [h2]
    have t6:(p.op==6)=true:=by simp [h2]
    rotate_left
    all_goals (
     clear h2
     obtain ⟨y0,y1,klt⟩:=KT6.out.c2
     obtain ⟨z0,-,-,-,z4,z5,klt2⟩:=KP6.out.c6
     go_wp2_with (at_builtin;refine Halt.mk ?_)
     have HOB:Hid (Own w6 (w.heap.size+2) 181 3 VtR ([]:List Vt) (.slice none 0 0) []):=Own.nil _ _ _ _ _
     refine Halt.of (zA5 (P:=Tryz.prog) rfl _ _ 143 rfl i0 _ 24 Tryz.underlying143 HI.out HZ0.out HZ1.out HZ2.out rfl (by decide) VtR_len zAN (by rfl) HOB.out ⟨p.va,t⟩ 181 [p.va,t.d,t.i] [] _ (by rfl) rfl (by simp [Value.oneCell']) ⟨rfl,rfl⟩ (Under.nil _) (fun _ _ h=>by cases h) (by simp [maxLen]) (by simp) hsz6 ?_)
     intro gr cp w5 hown5 hgr5 hat5
     have hC25:=grown_chg hgr5
     have KP5:=jj (KP6.out.same (hC25.block _ KP6.out.lt (by simp [zB0])))
     have KG5:=jj (KG6.out.same (hC25.block _ KG6.out.lt (by simp [zB0])))
     have HC5:Hid (Chg [g] w w5):=chg_grow HC6.out hC25 (fun b hb=>by simp [zB0] at hb)
     have HA5:Hid (Arr w5 (TyR w5) ls (.slice A6 ls.length cap6) F6∧Under w5 F6):=⟨ArrTy.mono HA6.out.1 (hC25.kept HA6.out.2 (fun b _ h=>by simp [zB0] at h)),HA6.out.2.mono hC25.size⟩
     have HR5:Hid (∀ g'∈rowOf (.slice (some ⟨gr,0,none⟩) (([]:List Vt).length+1) cp),g'∉F6):=fun g' hg' hF=>by
      rcases grown_rows hat5 g' hg' with h | h
      ·simp [zB0] at h
      ·have:=HA6.out.2 g' hF;omega
     have HO5:Hid (Own w5 (w.heap.size+2) 181 3 VtR (accI xs d t p 0) (.slice (some ⟨gr,0,none⟩) (([]:List Vt).length+1) cp) []):=by rw [HAC.out];exact hown5
     have hsz5:=Nat.le_trans hsz6 hC25.size
     clear y0 y1 klt z0 z4 z5 klt2
     obtain ⟨-,-,-,-,-,z5,klt2⟩:=KP5.out.c6
     clear hown5 hgr5 hat5 hC25 HOB KG6 HC6 HA6 KP6 KT6 hsz6 gx gf hgl
     go_wp2
     go_loopw [14,62] (fun vv iv wr=>∃ i:Nat,i≤p.ks.length∧iv=.int .i64 i∧Hid (KidsOk xs d t p c i)∧Hid (p.op=5→1<i→orOk xs d t p=true)∧Hid (Own wr (w.heap.size+2) 181 3 VtR (accI xs d t p i) vv [])∧Hid (∀ g'∈rowOf vv,g'∉F6)∧Hid (Blk wr g 3 #[.int .i64 ((c+1+kidSum p i:Nat):Int)])∧Hid (Chg [g] w wr)∧Hid (Arr wr (TyR wr) ls (.slice A6 ls.length cap6) F6∧Under wr F6)∧Hid (Blk wr (w.heap.size+1) 28 #[p.op,p.ct,p.n,p.m,p.va,.slice A4 p.ks.length cap4])∧w.heap.size+2≤wr.heap.size) (fun _ iv _=>p.ks.length-(intOf iv).toNat)
     case atStart=>exact ⟨0,Nat.zero_le _,rfl,HK0,(fun _ h=>by omega),HO5,HR5,(show Blk _ _ _ #[.int .i64 ((c+1+0:Nat):Int)] from KG5.out),HC5,HA5,KP5,hsz5⟩
     case round =>
      clear hsz5
      obtain ⟨i,hi,rfl,HKI,HOR,HO,HRW,KG,HCG,HA6,KP,hsz⟩:=hrel
      have hrow0:=fun b hb=>(HO.out.row b hb).1
      have HGR:=jj (show g∉rowOf u14 from fun h=>by have:=hrow0 _ h;have:=HGL.out;omega)
      clear hrow0
      by_cases hik:i<p.ks.length
      ·have hil:i<ls.length:=by rw [←HLN.out];exact hik
       obtain ⟨b6,off6,rfl⟩:=HA6.out.1.ptr (by omega)
       have HAw:=jj (ArrP.mono HA.out (HCG.out.kept HG.out (fun b hb h=>HGG.out (by rw [←List.mem_singleton.1 h];exact hb))))
       have HGw:=jj (HG.out.mono HCG.out.size)
       have HXw:=jj (ArrDt.mono HX.out (HCG.out.kept HF.out (fun b hb h=>HGF.out (by rw [←List.mem_singleton.1 h];exact hb))))
       have HFw:=jj (HF.out.mono HCG.out.size)
       obtain ⟨b4,off4,rfl⟩:=HAw.out.ptr (by omega)
       obtain ⟨A7,cap7,G7,hb7,k0,k1,k2,k3,k4,k5,HV7,HG7,hG7G,-,-⟩:=ArrP.at HAw.out HGw.out (zy2 _ _) i hik
       have HN7:Hid (g∉G7):=fun h=>HGG.out (hG7G _ h)
       clear hG7G
       have g1:(0:Int)≤(i:Int):=by omega
       have g2:(i:Int)<(ls.length:Int):=by omega
       have g3:(i:Int)<(p.ks.length:Int):=by omega
       have hwr:IntKind.i64.wrap ((deep:Int)+1)=(deep:Int)+1:=IntWalk.i64_in _ (by omega)
       obtain ⟨W7,hW7⟩:∃ W7,W7=wr.alloc (.cells #[p.ks[i].op,p.ks[i].ct,p.ks[i].n,p.ks[i].m,p.ks[i].va,.slice A7 p.ks[i].ks.length cap7] 28):=⟨_,rfl⟩
       have hb77:Below wr wr W7:=by rw [hW7];exact (zy2 _ _).alloc (zz8 _) _
       have KX:Hid (Blk W7 wr 28 #[p.ks[i].op,p.ks[i].ct,p.ks[i].n,p.ks[i].m,p.ks[i].va,.slice A7 p.ks[i].ks.length cap7]):=by rw [hW7];exact Blk.new _ _ _
       have KG7:=jj (KG.out.same (hb77.block _ KG.out.lt))
       have KP7:=jj (KP.out.same (hb77.block _ KP.out.lt))
       have HCG7:=jj (HCG.out.step hb77)
       have HX7:=jj (ArrDt.below HXw.out hb77 HFw.out)
       have HF7:=jj (HFw.out.mono hb77.size)
       have HV77:=jj (HV7.out.below hb77 HG7.out)
       have HG77:=jj (HG7.out.mono hb77.size)
       have HA67:Hid (Arr W7 (TyR W7) ls (.slice (some ⟨b6,off6,none⟩) ls.length cap6) F6∧Under W7 F6):=⟨ArrTy.below HA6.out.1 hb77 HA6.out.2,HA6.out.2.mono hb77.size⟩
       have HO7:Hid (Own W7 (w.heap.size+2) 181 3 VtR (accI xs d t p i) u14 []):=HO.out.below (fun x cs G hk h=>zAN _ _ x cs G hk h) hb77
       have hgw:g<wr.heap.size:=KG.out.lt
       have hne7:wr.heap.size≠g:=by omega
       have hsz7:=Nat.le_trans hsz hb77.size
       have hci:c+1+kidSum p i≤60:=HKI.out.fit
       go_wp2_with fail
       rw [←hW7]
       clear hW7 k0 k1 k2 k3 k4 k5 hb7 HAw HGw HXw HFw HV7 HG7 KG HCG HA6 KP HO
       obtain ⟨hb6,a0,a1⟩:=ArrTy.at HA67.out.1 HA67.out.2 (zy2 _ _) i hil
       have hb6n:b6≠g:=by
        obtain ⟨b',off',cs',G',e',hb',-⟩:=HA67.out.1.get TyR_len hil
        cases e'
        exact fun e=>HN6.out _ hb' (by rw [e];exact List.mem_singleton.2 rfl)
       obtain ⟨k0,k1,k2,k3,k4,k5,kxl⟩:=KX.out.c6
       have HNE:=jj (show b6∉[g] from fun h=>hb6n (List.mem_singleton.1 h))
       have HNE7:=jj (show wr.heap.size∉[g] from fun h=>hne7 (List.mem_singleton.1 h))
       clear hb6n hne7 hgw
       have HCALL:=jj (IH.out p.ks[i] (List.getElem_mem hik) xs HW.out d (deep+1) (by omega) (by omega) ls[i] (HAI.out _ (List.getElem_mem hil)) W7.drew _ F _ G7 g (c+1+kidSum p i) (ArrDt.drew HX7.out) HF7.out HV77.out.drew HG77.out KG7.out HGF.out HN7.out hci)
       rw [show ((deep+1:Nat):Int)=(deep:Int)+1 by omega] at HCALL
       go_region_held3 (fun w'=>w'.cell? ⟨b6,off6+i*2,none⟩=ls[i].d∧w'.cell? ⟨b6,off6+i*2+1,none⟩=ls[i].i∧w'.cell? ⟨wr,0,none⟩=p.ks[i].op∧w'.cell? ⟨wr,1,none⟩=p.ks[i].ct∧w'.cell? ⟨wr,2,none⟩=p.ks[i].n∧w'.cell? ⟨wr,3,none⟩=p.ks[i].m∧w'.cell? ⟨wr,4,none⟩=p.ks[i].va∧w'.cell? ⟨wr,5,none⟩=some (.slice A7 p.ks[i].ks.length cap7)) (first | assumption | (exact ⟨a0,a1,k0,k1,k2,k3,k4,k5⟩) | (exact ⟨(hC'.cell hb6 HNE.out).trans a0,(hC'.cell hb6 HNE.out).trans a1,(hC'.cell kxl HNE7.out).trans k0,(hC'.cell kxl HNE7.out).trans k1,(hC'.cell kxl HNE7.out).trans k2,(hC'.cell kxl HNE7.out).trans k3,(hC'.cell kxl HNE7.out).trans k4,(hC'.cell kxl HNE7.out).trans k5⟩)) (first | (go_at_call 162;((with_reducible refine HCALL.out.mono ?_);rintro e w' ⟨v',F',c',rfl,hC',hK',hy',-⟩)))
       have hC2:=hC'.undrew
       have HCG8:=jj (HCG7.out.trans hC2)
       have HK8:=jj hK'
       have HA68:Hid (Arr w' (TyR w') ls (.slice (some ⟨b6,off6,none⟩) ls.length cap6) F6∧Under w'.heap.size F6):=⟨ArrTy.mono HA67.out.1 (hC2.kept HA67.out.2 HN6.out),HA67.out.2.mono hC2.size⟩
       have KP8:=jj (KP7.out.same (hC2.block _ KP7.out.lt (fun h=>by have:=List.mem_singleton.1 h;have:=HGL.out;omega)))
       have HO8:Hid (Own w' (w.heap.size+2) 181 3 VtR (accI xs d t p i) u14 []):=HO7.out.mono (fun x cs G hk h=>zAN _ _ x cs G hk h) (hC2.kept (fun b hb=>(HO7.out.row b (by simpa using hb)).2) (fun b hb h=>HGR.out (by rw [←List.mem_singleton.1 h];simpa using hb))) hC2.size
       have hsz8:=Nat.le_trans hsz7 hC2.size
       have HY:=jj hy'
       have HSW:=jj (show w.heap.size≤W7.heap.size from by omega)
       clear hwr hC' hC2 hK' hy' a0 a1 k0 k1 k2 k3 k4 k5 kxl hb6 HCALL KG7 HCG7 HX7 HF7 HV77 HG77 HA67 HO7 hsz7 hb77 KX
       cases e3:scanPB xs d ls[i] p.ks[i] (c+1+kidSum p i) with
       |false =>
        have HFin:=jj (HBad.out w' c' (HFail.out i hik hil HKI.out e3) HCG8.out HK8.out)
        clear e3
        go_wp2
        go_ret2
        exact HFin.out
       |true =>
        obtain ⟨hcc,hav,hfrv,hfsv⟩:=HY.out e3
        have HKN:=jj (HNext.out i hik hil HKI.out e3)
        have hks:=zB2 p i hik
        obtain rfl:c'=c+1+kidSum p (i+1):=by omega
        have HAV:=jj hav
        have HUV:=jj hfsv.under
        have HLY:=jj (varsN_len xs d ls[i] p.ks[i])
        have HNK:=jj (nodesP_mem hik)
        clear hav hfrv hfsv hks e3 HY hcc
        obtain ⟨z0,-,-,-,-,-,klt2⟩:=KP8.out.c6
        by_cases hor:p.op=5∧i=1
        ·have t5:(p.op==5)=true:=by simp [hor.1]
         have t6:((i:Int)==1)=true:=by simp [hor.2]
         have HOR1:=jj hor.1
         have HOR2:=jj hor.2
         clear hor
         go_wp2_with fail
         refine (impl_sameVars (accI xs d t p i) (varsN xs d ls[i] p.ks[i]) w' _ _ _ F' HO8.out.arr (fun b hb=>by
          split at hb
          ·cases hb
          ·exact (HO8.out.row b (by simpa using hb)).2) HAV.out HUV.out).mono ?_
         rintro e w9 ⟨rfl,hb9⟩
         have hok:sameV (accI xs d t p i) (varsN xs d ls[i] p.ks[i])=orOk xs d t p:=HSame.out i hik hil HOR1.out HOR2.out
         rw [hok]
         have KP9:=jj (KP8.out.same (hb9.block _ KP8.out.lt))
         have KG9:=jj (HK8.out.same (hb9.block _ HK8.out.lt))
         have HC9:=jj (HCG8.out.step hb9)
         have HA9:Hid (Arr w9 (TyR w9) ls (.slice (some ⟨b6,off6,none⟩) ls.length cap6) F6∧Under w9 F6):=⟨ArrTy.below HA68.out.1 hb9 HA68.out.2,HA68.out.2.mono hb9.size⟩
         have HO9:Hid (Own w9 (w.heap.size+2) 181 3 VtR (accI xs d t p (i+1)) u14 []):=by
          have h:=HO8.out.below (fun x cs G hk h=>zAN _ _ x cs G hk h) hb9
          rw [accI_or HOR1.out (by omega)]
          rw [HOR2.out] at h
          exact h
         have hsz9:=Nat.le_trans hsz8 hb9.size
         clear hok hb9 z0 klt2
         cases e4:orOk xs d t p with
         |false =>
          have HFin:=jj (HBad.out w9 _ (HOrNo.out i hik HOR1.out HOR2.out HKN.out e4) HC9.out KG9.out)
          clear e4
          go_wp2
          go_ret2
          exact HFin.out
         |true =>
          have HE4:=jj e4
          clear e4
          go_wp2
          go_roundw
          case rel=>exact ⟨i+1,by omega,by go_num,HKN,(fun _ _=>HE4.out),HO9,HRW,KG9,HC9,HA9,KP9,hsz9⟩
          case measure=>(simp [intOf] <;> omega)
        ·obtain ⟨A9,cap9,rfl,h91,h92⟩:=HAV.out.form
         obtain ⟨i0,hi0,hz0,hz1,hz2⟩:=info_parts info_VtE
         have hn60:=HKN.out.fit
         have HL60:=jj (accI_len xs d t p i)
         have hpl:(accI xs d t p i).length+(varsN xs d ls[i] p.ks[i]).length≤200:=by
          have h1:=HL60.out
          have h2:=HLY.out
          have h3:=zB2 p i hik
          omega
         obtain ⟨v8,w8,hrun,ho8,hg8,hr8⟩:=run_append_vars (P:=Tryz.prog) 143 143 i0 _ 24 Tryz.underlying143 hi0 hz0 hz1 hz2 rfl HO8.out HAV.out (by unfold maxLen;omega) (by omega) hsz8
         have HRUN:=jj hrun
         have hC8:=grown_chg' hg8
         have hgr8:g∉rowOf u14:=HGR.out
         have HO9:Hid (Own w8 (w.heap.size+2) 181 3 VtR (accI xs d t p (i+1)) v8 []):=by rw [HAcc.out i hik hil hor];exact ho8
         have HRW9:Hid (∀ g'∈rowOf v8,g'∉F6):=fun g' hg' hF=>by
          rcases hr8 g' hg' with h | h
          ·exact HRW.out g' h hF
          ·have:=HA68.out.2 g' hF;omega
         have KG9:=jj (HK8.out.same (hC8.block _ HK8.out.lt hgr8))
         have KP9:=jj (KP8.out.same (hC8.block _ KP8.out.lt (fun h=>by have:=(HO8.out.row _ h).1;omega)))
         have HC9:Hid (Chg [g] w w8):=chg_grow HCG8.out hC8 (fun b hb=>.inr (by have:=(HO8.out.row _ hb).1;omega))
         have HA9:Hid (Arr w8 (TyR w8) ls (.slice (some ⟨b6,off6,none⟩) ls.length cap6) F6∧Under w8 F6):=⟨ArrTy.mono HA68.out.1 (hC8.kept HA68.out.2 (fun b hb h=>HRW.out b h hb)),HA68.out.2.mono hC8.size⟩
         have hsz9:=Nat.le_trans hsz8 hC8.size
         have HORn:Hid (p.op=5→1<i+1→orOk xs d t p=true):=fun h5 h1=>by
          have:=HL5.out h5
          exact absurd ⟨h5,by omega⟩ hor
         clear hrun ho8 hg8 hr8 hC8 hgr8 hi0 hz0 hz1 hz2 HAV HUV hpl hn60
         by_cases h5:p.op=5
         ·have t5:(p.op==5)=true:=by simp [h5]
          have t6:((i:Int)==1)=false:=by rw [beq_eq_false_iff_ne];intro h;exact hor ⟨h5,by omega⟩
          clear h5 hor
          go_wp2_with (at_builtin;refine Halt.mk ?_)
          refine Halt.of (zAQ rfl _ _ 143 rfl (by rfl) (by rfl) HRUN.out ?_)
          clear HRUN z0 klt2 t5
          go_wp2
          go_roundw
          case rel=>exact ⟨i+1,by omega,by go_num,HKN,HORn,HO9,HRW9,KG9,HC9,HA9,KP9,hsz9⟩
          case measure=>(simp [intOf] <;> omega)
         ·have t5:(p.op==5)=false:=by simpa using h5
          clear h5 hor
          go_wp2_with (at_builtin;refine Halt.mk ?_)
          refine Halt.of (zAQ rfl _ _ 143 rfl (by rfl) (by rfl) HRUN.out ?_)
          clear HRUN z0 klt2 t5
          go_wp2
          go_roundw
          case rel=>exact ⟨i+1,by omega,by go_num,HKN,HORn,HO9,HRW9,KG9,HC9,HA9,KP9,hsz9⟩
          case measure=>(simp [intOf] <;> omega)
      ·obtain ⟨wo,hwo⟩:∃ wo,wo=wr:=⟨_,rfl⟩
       subst hwo
       have HKE:Hid (KidsOk xs d t p c p.ks.length):=by have h:=HKI.out;rwa [show i=p.ks.length by omega] at h
       have HOE:Hid (Own wo (w.heap.size+2) 181 3 VtR (accI xs d t p p.ks.length) u14 []):=by have h:=HO.out;rwa [show i=p.ks.length by omega] at h
       have KGE:Hid (Blk wo g 3 #[.int .i64 ((c+nodesP p:Nat):Int)]):=by have h:=KG.out;rw [show i=p.ks.length by omega] at h;rwa [zBF p (zz8 _),←Nat.add_assoc]
       have HFS:=jj (HKE.out.fin (fun h5=>HOR.out h5 (by have:=HL5.out h5;omega)))
       have HRG:=jj (vars_range xs (d+1) t p HKE.out.shape)
       have HLL:=jj (varsN_len xs (d+1) t p)
       have hln60:(varsN xs (d+1) t p).length≤60:=by have h1:=HLL.out;have h2:=HKE.out.fit;have h3:=zBF p (zz8 p.ks.length);omega
       have hacc:=accI_done (xs:=xs) (d:=d) (t:=t) (p:=p) HL5.out
       rw [hacc] at HOE
       have hfinT:Hid (dupFree (varsN xs (d+1) t p)=true→∀ W,Below wo wo W→ScanPP xs (d+1) t p c g w (.returned (.tuple #[u14,.bool true])) W):=fun hd W hW=>by
        have hT:=HFS.out.trans hd
        have hO:=HOE.out.below (fun x cs G hk h=>zAN _ _ x cs G hk h) hW
        exact ⟨u14,_,c+nodesP p,by rw [hT],HCG.out.step hW,KGE.out.same (hW.block _ KGE.out.lt),fun _=>⟨rfl,hO.arr,hO.free (Free.nil _),hO.fresh (by omega) (fun b hb=>by cases hb)⟩,fun h=>by rw [hT] at h;cases h⟩
       have hfinF:Hid (dupFree (varsN xs (d+1) t p)=false→∀ W,Below wo wo W→ScanPP xs (d+1) t p c g w (.returned (.tuple #[.slice none 0 0,.bool false])) W):=fun hd W hW=>HBad.out W _ (HFS.out.trans hd) (HCG.out.step hW) (KGE.out.same (hW.block _ KGE.out.lt))
       clear hacc HFS HLL
       generalize varsN xs (d+1) t p=L at *
       obtain ⟨oA,ocap,hov,ho1,ho2⟩:=HOE.out.form
       subst hov
       have HAL:=jj HOE.out.arr
       have HUL:Hid (Under wo (if L=[] then [] else rowOf (.slice oA L.length ocap) ++ [])):=fun b hb=>by
        split at hb
        ·cases hb
        ·exact (HOE.out.row b (by simpa using hb)).2
       generalize (if L=[] then [] else rowOf (.slice oA L.length ocap) ++ [])=FL at *
       have hbm:Below wo wo (wo.alloc (.cells #[.bool false,.bool false,.bool false,.bool false,.bool false,.bool false] 209)):=(zy2 _ _).alloc (zz8 _) _
       have KM:Hid (Blk (wo.alloc (.cells #[.bool false,.bool false,.bool false,.bool false,.bool false,.bool false] 209)) wo.heap.size 209 (metTo L 0)):=Blk.new _ _ _
       clear HO KG HRW HA6 KP HKI HOR HGR HKE HOE KGE HCG
       go_wp2
       go_loopw [101] (fun iv ws=>∃ i:Nat,i≤L.length∧iv=.int .i64 i∧Hid (∀ j (hj:j<L.length),j<i→∀ k (hk:k<L.length),k<j→L[k].var≠L[j].var)∧Hid (Blk ws wo 209 (metTo L i))∧Hid (Below wo wo ws)) (fun iv _=>L.length-(intOf iv).toNat)
       case atStart=>exact ⟨0,Nat.zero_le _,rfl,(fun j hj h=>by omega),KM,hbm⟩
       case round =>
        clear KM hbm
        obtain ⟨i,hi,rfl,HN,KM,HB⟩:=hrel
        by_cases hil:i<L.length
        ·obtain ⟨bL,offL,rfl⟩:=HAL.out.ptr (by omega)
         obtain ⟨hbL,c0,c1,c2⟩:=ArrVt.at HAL.out HUL.out HB.out i hil
         have hrg:=HRG.out L[i] (List.getElem_mem hil)
         obtain ⟨k,hk⟩:∃ k:Nat,L[i].var=(k:Int):=⟨L[i].var.toNat,by omega⟩
         have hk6:k<6:=by omega
         have HNY:=jj (fun (h:metB (L.take i) k=false)=>met_yes hil hk h)
         have HNN:=jj (fun (h:metB (L.take i) k=true)=>met_no hil hk h)
         have HMS:=jj (metTo_succ L hil hk6 hk)
         have g1:(0:Int)≤(i:Int):=by omega
         have g2:(i:Int)<(L.length:Int):=by omega
         have g3:(0:Int)≤(k:Int):=by omega
         have g4:(k:Int)<6:=by omega
         rw [hk] at c0
         have hml:=KM.out.lt
         have hBv:Below wr wr (wr.alloc (.cells #[(k:Int),L[i].ty.d,L[i].ty.i] 181)):=(zy2 _ _).alloc (zz8 _) _
         have KMv:Blk (wr.alloc (.cells #[(k:Int),L[i].ty.d,L[i].ty.i] 181)) wo.heap.size 209 (metTo L i):=KM.out.same (hBv.block _ hml)
         have m0:(wr.alloc (.cells #[(k:Int),L[i].ty.d,L[i].ty.i] 181)).cell? ⟨wo.heap.size,k,none⟩=some (.bool (metB (L.take i) k)):=(KMv.cell k).trans (metRow_get _ hk6)
         have mf0:(wr.alloc (.cells #[(k:Int),L[i].ty.d,L[i].ty.i] 181)).frozen? ⟨wo.heap.size,k,none⟩=false:=KMv.frozen k
         have n0:wr.cell? ⟨wo.heap.size,k,none⟩=some (.bool (metB (L.take i) k)):=(KM.out.cell k).trans (metRow_get _ hk6)
         have nf0:wr.frozen? ⟨wo.heap.size,k,none⟩=false:=KM.out.frozen k
         have hmlv:=KMv.lt
         have HBv:=jj (HB.out.trans (hBv.mono HB.out.size))
         have HKMv:=jj KMv
         clear hrg hk KMv
         cases hm:metB (L.take i) k with
         |true =>
          rw [hm] at m0 n0
          have HFin:=jj (hfinF.out (HNN.out hm) _ HBv.out)
          clear hm
          go_wp2
          go_ret2
          exact HFin.out
         |false =>
          rw [hm] at m0 n0
          have hny:=HNY.out hm
          have HN2:Hid (∀ j (hj:j<L.length),j<i+1→∀ k (hk:k<L.length),k<j→L[k].var≠L[j].var):=fun j hj hji=>by
           rcases Nat.lt_or_ge j i with h | h
           ·exact HN.out j hj h
           ·obtain rfl:j=i:=by omega
            exact hny
          have KM1:Blk (wr.setCell ⟨wo.heap.size,k,none⟩ (.bool true)) wo.heap.size 209 (metTo L (i+1)):=by rw [←HMS.out];exact KM.out.set_ k (.bool true)
          have KM2:Hid (Blk ((wr.setCell ⟨wo.heap.size,k,none⟩ (.bool true)).alloc (.cells #[(k:Int),L[i].ty.d,L[i].ty.i] 181)) wo.heap.size 209 (metTo L (i+1))):=KM1.same (Below.heap_alloc _ _ _ KM1.lt)
          have HB2:Hid (Below wo wo ((wr.setCell ⟨wo.heap.size,k,none⟩ (.bool true)).alloc (.cells #[(k:Int),L[i].ty.d,L[i].ty.i] 181))):=(HB.out.setCell (zz8 _) _).alloc (by have:=HB.out.size;simpa [World.setCell] using this) _
          clear KM1
          clear hm hny
          go_wp2
          go_roundw
          case rel=>exact ⟨i+1,by omega,by go_num,HN2,KM2,HB2⟩
          case measure=>(simp [intOf] <;> omega)
        ·have HFin:=jj (hfinT.out (dup_yes (fun j hj=>HN.out j hj (by omega))) _ HB.out)
         go_wp2
         go_ret2
         exact HFin.out)
   ·have hn2:¬p.op=2:=fun h=>hnm (by unfold namedB;simp [h])
    have hn6:¬p.op=6:=fun h=>hnm (by unfold namedB;simp [h])
    have t2:(p.op==2)=false:=by simpa using hn2
    have t6:(p.op==6)=false:=by simpa using hn6
    have HAC:=jj ((accI_zero xs d t p).trans (accP_bare (ys:=[]) (xs:=xs) (d:=d) (t:=t) (Bool.eq_false_iff.2 hnm)))
    clear hnm
    have HO5:Hid (Own w6 (w.heap.size+2) 181 3 VtR (accI xs d t p 0) (.slice none 0 0) []):=by rw [HAC.out];exact Own.nil _ _ _ _ _
    have HR5:Hid (∀ g'∈rowOf (.slice none 0 0),g'∉F6):=fun g' hg'=>by simp [zB0] at hg'
    obtain ⟨z0,-,-,-,-,z5,klt2⟩:=KP6.out.c6
    have KG5:=KG6
    have HC5:=HC6
    have HA5:=HA6
    have KP5:=KP6
    have hsz5:=hsz6
    clear KG6 HC6 HA6 KP6 KT6 hsz6 gx gf hgl
    clear hn2 hn6
    go_wp2
    go_loopw [14,62] (fun vv iv wr=>∃ i:Nat,i≤p.ks.length∧iv=.int .i64 i∧Hid (KidsOk xs d t p c i)∧Hid (p.op=5→1<i→orOk xs d t p=true)∧Hid (Own wr (w.heap.size+2) 181 3 VtR (accI xs d t p i) vv [])∧Hid (∀ g'∈rowOf vv,g'∉F6)∧Hid (Blk wr g 3 #[.int .i64 ((c+1+kidSum p i:Nat):Int)])∧Hid (Chg [g] w wr)∧Hid (Arr wr (TyR wr) ls (.slice A6 ls.length cap6) F6∧Under wr F6)∧Hid (Blk wr (w.heap.size+1) 28 #[p.op,p.ct,p.n,p.m,p.va,.slice A4 p.ks.length cap4])∧w.heap.size+2≤wr.heap.size) (fun _ iv _=>p.ks.length-(intOf iv).toNat)
    case atStart=>exact ⟨0,Nat.zero_le _,rfl,HK0,(fun _ h=>by omega),HO5,HR5,(show Blk _ _ _ #[.int .i64 ((c+1+0:Nat):Int)] from KG5.out),HC5,HA5,KP5,hsz5⟩
    case round =>
     clear hsz5
     obtain ⟨i,hi,rfl,HKI,HOR,HO,HRW,KG,HCG,HA6,KP,hsz⟩:=hrel
     have hrow0:=fun b hb=>(HO.out.row b hb).1
     have HGR:=jj (show g∉rowOf u14 from fun h=>by have:=hrow0 _ h;have:=HGL.out;omega)
     clear hrow0
     by_cases hik:i<p.ks.length
     ·have hil:i<ls.length:=by rw [←HLN.out];exact hik
      obtain ⟨b6,off6,rfl⟩:=HA6.out.1.ptr (by omega)
      have HAw:=jj (ArrP.mono HA.out (HCG.out.kept HG.out (fun b hb h=>HGG.out (by rw [←List.mem_singleton.1 h];exact hb))))
      have HGw:=jj (HG.out.mono HCG.out.size)
      have HXw:=jj (ArrDt.mono HX.out (HCG.out.kept HF.out (fun b hb h=>HGF.out (by rw [←List.mem_singleton.1 h];exact hb))))
      have HFw:=jj (HF.out.mono HCG.out.size)
      obtain ⟨b4,off4,rfl⟩:=HAw.out.ptr (by omega)
      obtain ⟨A7,cap7,G7,hb7,k0,k1,k2,k3,k4,k5,HV7,HG7,hG7G,-,-⟩:=ArrP.at HAw.out HGw.out (zy2 _ _) i hik
      have HN7:Hid (g∉G7):=fun h=>HGG.out (hG7G _ h)
      clear hG7G
      have g1:(0:Int)≤(i:Int):=by omega
      have g2:(i:Int)<(ls.length:Int):=by omega
      have g3:(i:Int)<(p.ks.length:Int):=by omega
      have hwr:IntKind.i64.wrap ((deep:Int)+1)=(deep:Int)+1:=IntWalk.i64_in _ (by omega)
      obtain ⟨W7,hW7⟩:∃ W7,W7=wr.alloc (.cells #[p.ks[i].op,p.ks[i].ct,p.ks[i].n,p.ks[i].m,p.ks[i].va,.slice A7 p.ks[i].ks.length cap7] 28):=⟨_,rfl⟩
      have hb77:Below wr wr W7:=by rw [hW7];exact (zy2 _ _).alloc (zz8 _) _
      have KX:Hid (Blk W7 wr 28 #[p.ks[i].op,p.ks[i].ct,p.ks[i].n,p.ks[i].m,p.ks[i].va,.slice A7 p.ks[i].ks.length cap7]):=by rw [hW7];exact Blk.new _ _ _
      have KG7:=jj (KG.out.same (hb77.block _ KG.out.lt))
      have KP7:=jj (KP.out.same (hb77.block _ KP.out.lt))
      have HCG7:=jj (HCG.out.step hb77)
      have HX7:=jj (ArrDt.below HXw.out hb77 HFw.out)
      have HF7:=jj (HFw.out.mono hb77.size)
      have HV77:=jj (HV7.out.below hb77 HG7.out)
      have HG77:=jj (HG7.out.mono hb77.size)
      have HA67:Hid (Arr W7 (TyR W7) ls (.slice (some ⟨b6,off6,none⟩) ls.length cap6) F6∧Under W7 F6):=⟨ArrTy.below HA6.out.1 hb77 HA6.out.2,HA6.out.2.mono hb77.size⟩
      have HO7:Hid (Own W7 (w.heap.size+2) 181 3 VtR (accI xs d t p i) u14 []):=HO.out.below (fun x cs G hk h=>zAN _ _ x cs G hk h) hb77
      have hgw:g<wr.heap.size:=KG.out.lt
      have hne7:wr.heap.size≠g:=by omega
      have hsz7:=Nat.le_trans hsz hb77.size
      have hci:c+1+kidSum p i≤60:=HKI.out.fit
      go_wp2_with fail
      rw [←hW7]
      clear hW7 k0 k1 k2 k3 k4 k5 hb7 HAw HGw HXw HFw HV7 HG7 KG HCG HA6 KP HO
      obtain ⟨hb6,a0,a1⟩:=ArrTy.at HA67.out.1 HA67.out.2 (zy2 _ _) i hil
      have hb6n:b6≠g:=by
       obtain ⟨b',off',cs',G',e',hb',-⟩:=HA67.out.1.get TyR_len hil
       cases e'
       exact fun e=>HN6.out _ hb' (by rw [e];exact List.mem_singleton.2 rfl)
      obtain ⟨k0,k1,k2,k3,k4,k5,kxl⟩:=KX.out.c6
      have HNE:=jj (show b6∉[g] from fun h=>hb6n (List.mem_singleton.1 h))
      have HNE7:=jj (show wr.heap.size∉[g] from fun h=>hne7 (List.mem_singleton.1 h))
      clear hb6n hne7 hgw
      have HCALL:=jj (IH.out p.ks[i] (List.getElem_mem hik) xs HW.out d (deep+1) (by omega) (by omega) ls[i] (HAI.out _ (List.getElem_mem hil)) W7.drew _ F _ G7 g (c+1+kidSum p i) (ArrDt.drew HX7.out) HF7.out HV77.out.drew HG77.out KG7.out HGF.out HN7.out hci)
      rw [show ((deep+1:Nat):Int)=(deep:Int)+1 by omega] at HCALL
      go_region_held3 (fun w'=>w'.cell? ⟨b6,off6+i*2,none⟩=ls[i].d∧w'.cell? ⟨b6,off6+i*2+1,none⟩=ls[i].i∧w'.cell? ⟨wr,0,none⟩=p.ks[i].op∧w'.cell? ⟨wr,1,none⟩=p.ks[i].ct∧w'.cell? ⟨wr,2,none⟩=p.ks[i].n∧w'.cell? ⟨wr,3,none⟩=p.ks[i].m∧w'.cell? ⟨wr,4,none⟩=p.ks[i].va∧w'.cell? ⟨wr,5,none⟩=some (.slice A7 p.ks[i].ks.length cap7)) (first | assumption | (exact ⟨a0,a1,k0,k1,k2,k3,k4,k5⟩) | (exact ⟨(hC'.cell hb6 HNE.out).trans a0,(hC'.cell hb6 HNE.out).trans a1,(hC'.cell kxl HNE7.out).trans k0,(hC'.cell kxl HNE7.out).trans k1,(hC'.cell kxl HNE7.out).trans k2,(hC'.cell kxl HNE7.out).trans k3,(hC'.cell kxl HNE7.out).trans k4,(hC'.cell kxl HNE7.out).trans k5⟩)) (first | (go_at_call 162;((with_reducible refine HCALL.out.mono ?_);rintro e w' ⟨v',F',c',rfl,hC',hK',hy',-⟩)))
      have hC2:=hC'.undrew
      have HCG8:=jj (HCG7.out.trans hC2)
      have HK8:=jj hK'
      have HA68:Hid (Arr w' (TyR w') ls (.slice (some ⟨b6,off6,none⟩) ls.length cap6) F6∧Under w'.heap.size F6):=⟨ArrTy.mono HA67.out.1 (hC2.kept HA67.out.2 HN6.out),HA67.out.2.mono hC2.size⟩
      have KP8:=jj (KP7.out.same (hC2.block _ KP7.out.lt (fun h=>by have:=List.mem_singleton.1 h;have:=HGL.out;omega)))
      have HO8:Hid (Own w' (w.heap.size+2) 181 3 VtR (accI xs d t p i) u14 []):=HO7.out.mono (fun x cs G hk h=>zAN _ _ x cs G hk h) (hC2.kept (fun b hb=>(HO7.out.row b (by simpa using hb)).2) (fun b hb h=>HGR.out (by rw [←List.mem_singleton.1 h];simpa using hb))) hC2.size
      have hsz8:=Nat.le_trans hsz7 hC2.size
      have HY:=jj hy'
      have HSW:=jj (show w.heap.size≤W7.heap.size from by omega)
      clear hwr hC' hC2 hK' hy' a0 a1 k0 k1 k2 k3 k4 k5 kxl hb6 HCALL KG7 HCG7 HX7 HF7 HV77 HG77 HA67 HO7 hsz7 hb77 KX
      cases e3:scanPB xs d ls[i] p.ks[i] (c+1+kidSum p i) with
      |false =>
       have HFin:=jj (HBad.out w' c' (HFail.out i hik hil HKI.out e3) HCG8.out HK8.out)
       clear e3
       go_wp2
       go_ret2
       exact HFin.out
      |true =>
       obtain ⟨hcc,hav,hfrv,hfsv⟩:=HY.out e3
       have HKN:=jj (HNext.out i hik hil HKI.out e3)
       have hks:=zB2 p i hik
       obtain rfl:c'=c+1+kidSum p (i+1):=by omega
       have HAV:=jj hav
       have HUV:=jj hfsv.under
       have HLY:=jj (varsN_len xs d ls[i] p.ks[i])
       have HNK:=jj (nodesP_mem hik)
       clear hav hfrv hfsv hks e3 HY hcc
       obtain ⟨z0,-,-,-,-,-,klt2⟩:=KP8.out.c6
       by_cases hor:p.op=5∧i=1
       ·have t5:(p.op==5)=true:=by simp [hor.1]
        have t6:((i:Int)==1)=true:=by simp [hor.2]
        have HOR1:=jj hor.1
        have HOR2:=jj hor.2
        clear hor
        go_wp2_with fail
        refine (impl_sameVars (accI xs d t p i) (varsN xs d ls[i] p.ks[i]) w' _ _ _ F' HO8.out.arr (fun b hb=>by
         split at hb
         ·cases hb
         ·exact (HO8.out.row b (by simpa using hb)).2) HAV.out HUV.out).mono ?_
        rintro e w9 ⟨rfl,hb9⟩
        have hok:sameV (accI xs d t p i) (varsN xs d ls[i] p.ks[i])=orOk xs d t p:=HSame.out i hik hil HOR1.out HOR2.out
        rw [hok]
        have KP9:=jj (KP8.out.same (hb9.block _ KP8.out.lt))
        have KG9:=jj (HK8.out.same (hb9.block _ HK8.out.lt))
        have HC9:=jj (HCG8.out.step hb9)
        have HA9:Hid (Arr w9 (TyR w9) ls (.slice (some ⟨b6,off6,none⟩) ls.length cap6) F6∧Under w9 F6):=⟨ArrTy.below HA68.out.1 hb9 HA68.out.2,HA68.out.2.mono hb9.size⟩
        have HO9:Hid (Own w9 (w.heap.size+2) 181 3 VtR (accI xs d t p (i+1)) u14 []):=by
         have h:=HO8.out.below (fun x cs G hk h=>zAN _ _ x cs G hk h) hb9
         rw [accI_or HOR1.out (by omega)]
         rw [HOR2.out] at h
         exact h
        have hsz9:=Nat.le_trans hsz8 hb9.size
        clear hok hb9 z0 klt2
        cases e4:orOk xs d t p with
        |false =>
         have HFin:=jj (HBad.out w9 _ (HOrNo.out i hik HOR1.out HOR2.out HKN.out e4) HC9.out KG9.out)
         clear e4
         go_wp2
         go_ret2
         exact HFin.out
        |true =>
         have HE4:=jj e4
         clear e4
         go_wp2
         go_roundw
         case rel=>exact ⟨i+1,by omega,by go_num,HKN,(fun _ _=>HE4.out),HO9,HRW,KG9,HC9,HA9,KP9,hsz9⟩
         case measure=>(simp [intOf] <;> omega)
       ·obtain ⟨A9,cap9,rfl,h91,h92⟩:=HAV.out.form
        obtain ⟨i0,hi0,hz0,hz1,hz2⟩:=info_parts info_VtE
        have hn60:=HKN.out.fit
        have HL60:=jj (accI_len xs d t p i)
        have hpl:(accI xs d t p i).length+(varsN xs d ls[i] p.ks[i]).length≤200:=by
         have h1:=HL60.out
         have h2:=HLY.out
         have h3:=zB2 p i hik
         omega
        obtain ⟨v8,w8,hrun,ho8,hg8,hr8⟩:=run_append_vars (P:=Tryz.prog) 143 143 i0 _ 24 Tryz.underlying143 hi0 hz0 hz1 hz2 rfl HO8.out HAV.out (by unfold maxLen;omega) (by omega) hsz8
        have HRUN:=jj hrun
        have hC8:=grown_chg' hg8
        have hgr8:g∉rowOf u14:=HGR.out
        have HO9:Hid (Own w8 (w.heap.size+2) 181 3 VtR (accI xs d t p (i+1)) v8 []):=by rw [HAcc.out i hik hil hor];exact ho8
        have HRW9:Hid (∀ g'∈rowOf v8,g'∉F6):=fun g' hg' hF=>by
         rcases hr8 g' hg' with h | h
         ·exact HRW.out g' h hF
         ·have:=HA68.out.2 g' hF;omega
        have KG9:=jj (HK8.out.same (hC8.block _ HK8.out.lt hgr8))
        have KP9:=jj (KP8.out.same (hC8.block _ KP8.out.lt (fun h=>by have:=(HO8.out.row _ h).1;omega)))
        have HC9:Hid (Chg [g] w w8):=chg_grow HCG8.out hC8 (fun b hb=>.inr (by have:=(HO8.out.row _ hb).1;omega))
        have HA9:Hid (Arr w8 (TyR w8) ls (.slice (some ⟨b6,off6,none⟩) ls.length cap6) F6∧Under w8 F6):=⟨ArrTy.mono HA68.out.1 (hC8.kept HA68.out.2 (fun b hb h=>HRW.out b h hb)),HA68.out.2.mono hC8.size⟩
        have hsz9:=Nat.le_trans hsz8 hC8.size
        have HORn:Hid (p.op=5→1<i+1→orOk xs d t p=true):=fun h5 h1=>by
         have:=HL5.out h5
         exact absurd ⟨h5,by omega⟩ hor
        clear hrun ho8 hg8 hr8 hC8 hgr8 hi0 hz0 hz1 hz2 HAV HUV hpl hn60
        by_cases h5:p.op=5
        ·have t5:(p.op==5)=true:=by simp [h5]
         have t6:((i:Int)==1)=false:=by rw [beq_eq_false_iff_ne];intro h;exact hor ⟨h5,by omega⟩
         clear h5 hor
         go_wp2_with (at_builtin;refine Halt.mk ?_)
         refine Halt.of (zAQ rfl _ _ 143 rfl (by rfl) (by rfl) HRUN.out ?_)
         clear HRUN z0 klt2 t5
         go_wp2
         go_roundw
         case rel=>exact ⟨i+1,by omega,by go_num,HKN,HORn,HO9,HRW9,KG9,HC9,HA9,KP9,hsz9⟩
         case measure=>(simp [intOf] <;> omega)
        ·have t5:(p.op==5)=false:=by simpa using h5
         clear h5 hor
         go_wp2_with (at_builtin;refine Halt.mk ?_)
         refine Halt.of (zAQ rfl _ _ 143 rfl (by rfl) (by rfl) HRUN.out ?_)
         clear HRUN z0 klt2 t5
         go_wp2
         go_roundw
         case rel=>exact ⟨i+1,by omega,by go_num,HKN,HORn,HO9,HRW9,KG9,HC9,HA9,KP9,hsz9⟩
         case measure=>(simp [intOf] <;> omega)
     ·obtain ⟨wo,hwo⟩:∃ wo,wo=wr:=⟨_,rfl⟩
      subst hwo
      have HKE:Hid (KidsOk xs d t p c p.ks.length):=by have h:=HKI.out;rwa [show i=p.ks.length by omega] at h
      have HOE:Hid (Own wo (w.heap.size+2) 181 3 VtR (accI xs d t p p.ks.length) u14 []):=by have h:=HO.out;rwa [show i=p.ks.length by omega] at h
      have KGE:Hid (Blk wo g 3 #[.int .i64 ((c+nodesP p:Nat):Int)]):=by have h:=KG.out;rw [show i=p.ks.length by omega] at h;rwa [zBF p (zz8 _),←Nat.add_assoc]
      have HFS:=jj (HKE.out.fin (fun h5=>HOR.out h5 (by have:=HL5.out h5;omega)))
      have HRG:=jj (vars_range xs (d+1) t p HKE.out.shape)
      have HLL:=jj (varsN_len xs (d+1) t p)
      have hln60:(varsN xs (d+1) t p).length≤60:=by have h1:=HLL.out;have h2:=HKE.out.fit;have h3:=zBF p (zz8 p.ks.length);omega
      have hacc:=accI_done (xs:=xs) (d:=d) (t:=t) (p:=p) HL5.out
      rw [hacc] at HOE
      have hfinT:Hid (dupFree (varsN xs (d+1) t p)=true→∀ W,Below wo wo W→ScanPP xs (d+1) t p c g w (.returned (.tuple #[u14,.bool true])) W):=fun hd W hW=>by
       have hT:=HFS.out.trans hd
       have hO:=HOE.out.below (fun x cs G hk h=>zAN _ _ x cs G hk h) hW
       exact ⟨u14,_,c+nodesP p,by rw [hT],HCG.out.step hW,KGE.out.same (hW.block _ KGE.out.lt),fun _=>⟨rfl,hO.arr,hO.free (Free.nil _),hO.fresh (by omega) (fun b hb=>by cases hb)⟩,fun h=>by rw [hT] at h;cases h⟩
      have hfinF:Hid (dupFree (varsN xs (d+1) t p)=false→∀ W,Below wo wo W→ScanPP xs (d+1) t p c g w (.returned (.tuple #[.slice none 0 0,.bool false])) W):=fun hd W hW=>HBad.out W _ (HFS.out.trans hd) (HCG.out.step hW) (KGE.out.same (hW.block _ KGE.out.lt))
      clear hacc HFS HLL
      generalize varsN xs (d+1) t p=L at *
      obtain ⟨oA,ocap,hov,ho1,ho2⟩:=HOE.out.form
      subst hov
      have HAL:=jj HOE.out.arr
      have HUL:Hid (Under wo (if L=[] then [] else rowOf (.slice oA L.length ocap) ++ [])):=fun b hb=>by
       split at hb
       ·cases hb
       ·exact (HOE.out.row b (by simpa using hb)).2
      generalize (if L=[] then [] else rowOf (.slice oA L.length ocap) ++ [])=FL at *
      have hbm:Below wo wo (wo.alloc (.cells #[.bool false,.bool false,.bool false,.bool false,.bool false,.bool false] 209)):=(zy2 _ _).alloc (zz8 _) _
      have KM:Hid (Blk (wo.alloc (.cells #[.bool false,.bool false,.bool false,.bool false,.bool false,.bool false] 209)) wo.heap.size 209 (metTo L 0)):=Blk.new _ _ _
      clear HO KG HRW HA6 KP HKI HOR HGR HKE HOE KGE HCG
      go_wp2
      go_loopw [101] (fun iv ws=>∃ i:Nat,i≤L.length∧iv=.int .i64 i∧Hid (∀ j (hj:j<L.length),j<i→∀ k (hk:k<L.length),k<j→L[k].var≠L[j].var)∧Hid (Blk ws wo 209 (metTo L i))∧Hid (Below wo wo ws)) (fun iv _=>L.length-(intOf iv).toNat)
      case atStart=>exact ⟨0,Nat.zero_le _,rfl,(fun j hj h=>by omega),KM,hbm⟩
      case round =>
       clear KM hbm
       obtain ⟨i,hi,rfl,HN,KM,HB⟩:=hrel
       by_cases hil:i<L.length
       ·obtain ⟨bL,offL,rfl⟩:=HAL.out.ptr (by omega)
        obtain ⟨hbL,c0,c1,c2⟩:=ArrVt.at HAL.out HUL.out HB.out i hil
        have hrg:=HRG.out L[i] (List.getElem_mem hil)
        obtain ⟨k,hk⟩:∃ k:Nat,L[i].var=(k:Int):=⟨L[i].var.toNat,by omega⟩
        have hk6:k<6:=by omega
        have HNY:=jj (fun (h:metB (L.take i) k=false)=>met_yes hil hk h)
        have HNN:=jj (fun (h:metB (L.take i) k=true)=>met_no hil hk h)
        have HMS:=jj (metTo_succ L hil hk6 hk)
        have g1:(0:Int)≤(i:Int):=by omega
        have g2:(i:Int)<(L.length:Int):=by omega
        have g3:(0:Int)≤(k:Int):=by omega
        have g4:(k:Int)<6:=by omega
        rw [hk] at c0
        have hml:=KM.out.lt
        have hBv:Below wr wr (wr.alloc (.cells #[(k:Int),L[i].ty.d,L[i].ty.i] 181)):=(zy2 _ _).alloc (zz8 _) _
        have KMv:Blk (wr.alloc (.cells #[(k:Int),L[i].ty.d,L[i].ty.i] 181)) wo.heap.size 209 (metTo L i):=KM.out.same (hBv.block _ hml)
        have m0:(wr.alloc (.cells #[(k:Int),L[i].ty.d,L[i].ty.i] 181)).cell? ⟨wo.heap.size,k,none⟩=some (.bool (metB (L.take i) k)):=(KMv.cell k).trans (metRow_get _ hk6)
        have mf0:(wr.alloc (.cells #[(k:Int),L[i].ty.d,L[i].ty.i] 181)).frozen? ⟨wo.heap.size,k,none⟩=false:=KMv.frozen k
        have n0:wr.cell? ⟨wo.heap.size,k,none⟩=some (.bool (metB (L.take i) k)):=(KM.out.cell k).trans (metRow_get _ hk6)
        have nf0:wr.frozen? ⟨wo.heap.size,k,none⟩=false:=KM.out.frozen k
        have hmlv:=KMv.lt
        have HBv:=jj (HB.out.trans (hBv.mono HB.out.size))
        have HKMv:=jj KMv
        clear hrg hk KMv
        cases hm:metB (L.take i) k with
        |true =>
         rw [hm] at m0 n0
         have HFin:=jj (hfinF.out (HNN.out hm) _ HBv.out)
         clear hm
         go_wp2
         go_ret2
         exact HFin.out
        |false =>
         rw [hm] at m0 n0
         have hny:=HNY.out hm
         have HN2:Hid (∀ j (hj:j<L.length),j<i+1→∀ k (hk:k<L.length),k<j→L[k].var≠L[j].var):=fun j hj hji=>by
          rcases Nat.lt_or_ge j i with h | h
          ·exact HN.out j hj h
          ·obtain rfl:j=i:=by omega
           exact hny
         have KM1:Blk (wr.setCell ⟨wo.heap.size,k,none⟩ (.bool true)) wo.heap.size 209 (metTo L (i+1)):=by rw [←HMS.out];exact KM.out.set_ k (.bool true)
         have KM2:Hid (Blk ((wr.setCell ⟨wo.heap.size,k,none⟩ (.bool true)).alloc (.cells #[(k:Int),L[i].ty.d,L[i].ty.i] 181)) wo.heap.size 209 (metTo L (i+1))):=KM1.same (Below.heap_alloc _ _ _ KM1.lt)
         have HB2:Hid (Below wo wo ((wr.setCell ⟨wo.heap.size,k,none⟩ (.bool true)).alloc (.cells #[(k:Int),L[i].ty.d,L[i].ty.i] 181))):=(HB.out.setCell (zz8 _) _).alloc (by have:=HB.out.size;simpa [World.setCell] using this) _
         clear KM1
         clear hm hny
         go_wp2
         go_roundw
         case rel=>exact ⟨i+1,by omega,by go_num,HN2,KM2,HB2⟩
         case measure=>(simp [intOf] <;> omega)
       ·have HFin:=jj (hfinT.out (dup_yes (fun j hj=>HN.out j hj (by omega))) _ HB.out)
        go_wp2
        go_ret2
        exact HFin.out
theorem impl_patternScan:∀ p,ScanIP p:=P.indv patternScan_of
def VarsIP (xs:List Dt) (t:Ty) (p:P) (w:World) (e:Ending) (w':World):Prop :=
 ∃ (v:Value) (F:List Nat),e=.returned (.tuple #[v,.bool (patOkB xs t p)])∧Below w w w'∧(patOkB xs t p=true→Arr w' (VtR w') (varsN xs 10 t p) v F∧Free w' F∧Fresh w w' F)∧(patOkB xs t p=false→v=.slice none 0 0)
theorem patOk_scan (xs:List Dt) (t:Ty) (p:P):scanPB xs 10 t p 0=patOkB xs t p:=by unfold scanPB patOkB;rw [Nat.zero_add]
theorem impl_patternVars (xs:List Dt) (hw:WorldOK xs) (t:Ty) (ht:TyIn xs.length t) (p:P) (w:World) (x:Value) (F:List Nat) (cs:List Value) (G:List Nat):Arr w (DtR w) xs x F→Under w F→PR w p cs G→Under w G →
  Calls Tryz.prog 128 #[x,.agg #[t.d,t.i],.agg cs.toArray] w (VarsIP xs t p w):=by
 intro hx hf hv hg
 obtain ⟨kv,rfl,ha⟩:=(zAE _ _ _).1 hv
 obtain ⟨A,cap,rfl,hc1,hc2⟩:=hx.form
 obtain ⟨A4,cap4,rfl,hc3,hc4⟩:=ha.form
 have HV:=jj hv
 have HX:=jj hx
 have HF:=jj hf
 have HA:=jj ha
 have HG:=jj hg
 clear hx hf ha hg
 clear hv
 have HW:=jj hw
 have HT:=jj ht
 clear hw ht
 go_enter Tryz.func128,Tryz.ntmps128
 go_wp2_with fail
 obtain ⟨W2,hW2⟩:∃ W2,W2=(((w.alloc (.cells #[t.d,t.i] 25)).alloc (.cells #[p.op,p.ct,p.n,p.m,p.va,.slice A4 p.ks.length cap4] 28)).alloc (.cells #[(0:Int)] 3)):=⟨_,rfl⟩
 have hB0:Below w w W2:=by rw [hW2];exact (((zy2 _ _).alloc (zz8 _) _).alloc (by simp) _).alloc (by simp;omega) _
 have KG:Hid (Blk W2 (w.heap.size+2) 3 #[.int .i64 ((0:Nat):Int)]):=by
  rw [hW2]
  have h:=Blk.new ((w.alloc (.cells #[t.d,t.i] 25)).alloc (.cells #[p.op,p.ct,p.n,p.m,p.va,.slice A4 p.ks.length cap4] 28)) 3 #[(0:Int)]
  rw [show (((w.alloc (.cells #[t.d,t.i] 25)).alloc (.cells #[p.op,p.ct,p.n,p.m,p.va,.slice A4 p.ks.length cap4] 28))).heap.size=w.heap.size+2 from by simp] at h
  exact h
 rw [←hW2]
 clear hW2
 refine (impl_patternScan p xs HW.out 10 1 rfl (zz8 _) t HT.out W2 _ F _ G (w.heap.size+2) 0 (ArrDt.below HX.out hB0 HF.out) (HF.out.mono hB0.size) (HV.out.below hB0 HG.out) (HG.out.mono hB0.size) KG.out (fun h=>by have:=HF.out _ h;omega) (fun h=>by have:=HG.out _ h;omega) (by omega)).mono ?_
 rintro e w3 ⟨v3,F3,c',rfl,hC,-,hy,hn⟩
 rw [patOk_scan] at hy hn
 have hB3:=hB0.trans (hC.below (B:=w.heap.size) (fun b hb=>by rw [List.mem_singleton.1 hb];omega) hB0.size)
 have HFin:Hid (VarsIP xs t p w (.returned (.tuple #[v3,.bool (patOkB xs t p)])) w3):=⟨v3,F3,rfl,hB3,fun h=>⟨(hy h).2.1,(hy h).2.2.1,fun b hb=>⟨Nat.le_trans hB0.size ((hy h).2.2.2 b hb).1,((hy h).2.2.2 b hb).2⟩⟩,hn⟩
 rw [patOk_scan]
 generalize patOkB xs t p=bb at *
 clear hC hy hn
 go_wp2
 go_ret2
 exact HFin.out
theorem impl_patternOk (xs:List Dt) (hw:WorldOK xs) (t:Ty) (ht:TyIn xs.length t) (p:P) (_:p.size≤1048576) (w:World) (x:Value) (F:List Nat) (cs:List Value) (G:List Nat):Arr w (DtR w) xs x F→Under w F→PR w p cs G→Under w G →
  Calls Tryz.prog 79 #[x,.agg #[t.d,t.i],.agg cs.toArray] w fun e w'=>e=.returned (.bool (patOkB xs t p))∧Below w w w':=by
 intro hx hf hv hg
 obtain ⟨kv,rfl,ha⟩:=(zAE _ _ _).1 hv
 obtain ⟨A,cap,rfl,hc1,hc2⟩:=hx.form
 obtain ⟨A4,cap4,rfl,hc3,hc4⟩:=ha.form
 have HV:=jj hv
 have HX:=jj hx
 have HF:=jj hf
 have HA:=jj ha
 have HG:=jj hg
 clear hx hf ha hg
 clear hv
 have HW:=jj hw
 have HT:=jj ht
 clear hw ht
 go_enter Tryz.func79,Tryz.ntmps79
 go_wp2_with fail
 obtain ⟨W2,hW2⟩:∃ W2,W2=((w.alloc (.cells #[t.d,t.i] 25)).alloc (.cells #[p.op,p.ct,p.n,p.m,p.va,.slice A4 p.ks.length cap4] 28)):=⟨_,rfl⟩
 have hB0:Below w w W2:=by rw [hW2];exact ((zy2 _ _).alloc (zz8 _) _).alloc (by simp) _
 have KT:Hid (Blk W2 w 25 #[t.d,t.i]):=by rw [hW2];exact (Blk.new w _ _).same (Below.heap_alloc _ _ _ (by simp))
 have KP:Hid (Blk W2 (w.heap.size+1) 28 #[p.op,p.ct,p.n,p.m,p.va,.slice A4 p.ks.length cap4]):=by rw [hW2];have h:=Blk.new (w.alloc (.cells #[t.d,t.i] 25)) 28 #[p.op,p.ct,p.n,p.m,p.va,.slice A4 p.ks.length cap4];rw [World.size_alloc] at h;exact h
 have hws:w.heap.size+2≤W2.heap.size:=by rw [hW2];simp
 have hws2:W2.heap.size=w.heap.size+1+1:=by rw [hW2];simp
 rw [←hW2]
 clear hW2
 refine (impl_patternVars xs HW.out t HT.out p W2 _ F _ G (ArrDt.below HX.out hB0 HF.out) (HF.out.mono hB0.size) (HV.out.below hB0 HG.out) (HG.out.mono hB0.size)).mono ?_
 rintro e w3 ⟨v3,F3,rfl,hb3,-,-⟩
 have hB3:=hB0.trans (hb3.mono hB0.size)
 generalize hbb:patOkB xs t p=bb
 have HBB:=jj hbb
 clear hb3 hbb
 go_wp2
 go_ret
 exact ⟨zA0 HBB.out.symm,hB3⟩
theorem impl_PatternValid (xs:List Dt) (t:Ty) (p:P) (hz:p.size≤1048576) (w:World) (x:Value) (F:List Nat) (cs:List Value) (G:List Nat):Arr w (DtR w) xs x F→Under w F→PR w p cs G→Under w G →
  Calls Tryz.prog 31 #[x,.agg #[t.d,t.i],.agg cs.toArray] w fun e w'=>e=.returned (.bool (patternValidB xs t p))∧Below w w w':=by
 intro hx hf hv hg
 obtain ⟨kv,rfl,ha⟩:=(zAE _ _ _).1 hv
 obtain ⟨A,cap,rfl,hc1,hc2⟩:=hx.form
 obtain ⟨A4,cap4,rfl,hc3,hc4⟩:=ha.form
 have HV:=jj hv
 have HX:=jj hx
 have HF:=jj hf
 have HA:=jj ha
 have HG:=jj hg
 clear hx hf ha hg
 clear hv
 go_enter Tryz.func31,Tryz.ntmps31
 go_wp2_with fail
 obtain ⟨W2,hW2⟩:∃ W2,W2=((w.alloc (.cells #[t.d,t.i] 25)).alloc (.cells #[p.op,p.ct,p.n,p.m,p.va,.slice A4 p.ks.length cap4] 28)):=⟨_,rfl⟩
 have hB0:Below w w W2:=by rw [hW2];exact ((zy2 _ _).alloc (zz8 _) _).alloc (by simp) _
 have KT:Hid (Blk W2 w 25 #[t.d,t.i]):=by rw [hW2];exact (Blk.new w _ _).same (Below.heap_alloc _ _ _ (by simp))
 have KP:Hid (Blk W2 (w.heap.size+1) 28 #[p.op,p.ct,p.n,p.m,p.va,.slice A4 p.ks.length cap4]):=by rw [hW2];have h:=Blk.new (w.alloc (.cells #[t.d,t.i] 25)) 28 #[p.op,p.ct,p.n,p.m,p.va,.slice A4 p.ks.length cap4];rw [World.size_alloc] at h;exact h
 have hws:w.heap.size+2≤W2.heap.size:=by rw [hW2];simp
 have hws2:W2.heap.size=w.heap.size+1+1:=by rw [hW2];simp
 rw [←hW2]
 clear hW2
 obtain ⟨y0,y1,klt⟩:=KT.out.c2
 obtain ⟨z0,z1,z2,z3,z4,z5,klt2⟩:=KP.out.c6
 refine (impl_TypeValid xs t W2 _ F (ArrDt.below HX.out hB0 HF.out) (HF.out.mono hB0.size)).mono ?_
 rintro e w3 ⟨rfl,hb3⟩
 have hB3:=hB0.trans (hb3.mono hB0.size)
 have KT3:=jj (KT.out.same (hb3.block _ KT.out.lt))
 have KP3:=jj (KP.out.same (hb3.block _ KP.out.lt))
 clear y0 y1 z0 z1 z2 z3 z4 z5 klt klt2
 obtain ⟨y0,y1,klt⟩:=KT3.out.c2
 obtain ⟨z0,z1,z2,z3,z4,z5,klt2⟩:=KP3.out.c6
 clear hb3 KT KP
 cases e1:typeValidB xs t with
 |false =>
  have hf:Hid (patternValidB xs t p=false):=by unfold Hid patternValidB;rw [e1];rfl
  clear e1
  go_wp2
  go_ret
  exact ⟨zA0 hf.out.symm,hB3⟩
 |true =>
  have hf:Hid (patternValidB xs t p=patOkB xs t p):=by unfold Hid patternValidB;rw [e1];rfl
  obtain ⟨hw,hto⟩:=zAL e1
  have HW:=jj hw
  have HT:=jj (zAO hto)
  clear e1 hw hto
  go_wp2_with fail
  refine (impl_patternOk xs HW.out t HT.out p hz w3 _ F _ G (ArrDt.below HX.out hB3 HF.out) (HF.out.mono hB3.size) (HV.out.below hB3 HG.out) (HG.out.mono hB3.size)).mono ?_
  rintro e w4 ⟨rfl,hb4⟩
  have hB4:=hB3.trans (hb4.mono hB3.size)
  generalize patOkB xs t p=bb at *
  clear hb4
  go_wp2
  go_ret
  exact ⟨zA0 hf.out.symm,hB4⟩
set_option maxHeartbeats 6400000 in
theorem impl_MatchPattern (xs:List Dt) (t:Ty) (p:P) (v:V) (hpz:p.size≤1048576) (hvz:v.size≤1048576) (w:World) (x:Value) (F:List Nat) (cs:List Value) (G:List Nat) (ds:List Value) (H:List Nat) (hx:Arr w (DtR w) xs x F) (hf:Under w F) (hp:PR w p cs G) (hg:Under w G) (hv:VR w v ds H) (hh:Under w H) :
  Calls Tryz.prog 27 #[x,.agg #[t.d,t.i],.agg cs.toArray,.agg ds.toArray] w (MadeBd (matchV xs t p v) (matchB xs t p v) w):=by
 obtain ⟨xA,xcap,rfl,-,-⟩:=hx.form
 obtain ⟨kp,rfl,hka⟩:=(zAE _ _ _).1 hp
 obtain ⟨pA,pcap,rfl,-,-⟩:=hka.form
 obtain ⟨kv,rfl,hva⟩:=(zA6 _ _ _).1 hv
 obtain ⟨vA,vcap,rfl,-,-⟩:=hva.form
 have hB2:Below w w (((w.alloc (.cells #[t.d,t.i] 25)).alloc (.cells #[p.op,p.ct,p.n,p.m,p.va,.slice pA p.ks.length pcap] 28)).alloc (.cells #[v.c,v.n,.slice vA v.ks.length vcap] 45)):=(((zy2 _ _).alloc (zz8 _) _).alloc (by simp) _).alloc (by simp;omega) _
 have KT2:Hid (Blk (((w.alloc (.cells #[t.d,t.i] 25)).alloc (.cells #[p.op,p.ct,p.n,p.m,p.va,.slice pA p.ks.length pcap] 28)).alloc (.cells #[v.c,v.n,.slice vA v.ks.length vcap] 45)) w.heap.size 25 #[t.d,t.i]):=((Blk.new w _ _).same (Below.heap_alloc _ _ _ (by simp))).same (Below.heap_alloc _ _ _ (by simp;omega))
 have KP2:Hid (Blk (((w.alloc (.cells #[t.d,t.i] 25)).alloc (.cells #[p.op,p.ct,p.n,p.m,p.va,.slice pA p.ks.length pcap] 28)).alloc (.cells #[v.c,v.n,.slice vA v.ks.length vcap] 45)) (w.heap.size+1) 28 #[p.op,p.ct,p.n,p.m,p.va,.slice pA p.ks.length pcap]):=(zAG w _ 28 _).same (Below.heap_alloc _ _ _ (by simp))
 have KV2:Hid (Blk (((w.alloc (.cells #[t.d,t.i] 25)).alloc (.cells #[p.op,p.ct,p.n,p.m,p.va,.slice pA p.ks.length pcap] 28)).alloc (.cells #[v.c,v.n,.slice vA v.ks.length vcap] 45)) (w.heap.size+2) 45 #[v.c,v.n,.slice vA v.ks.length vcap]):=by
  have h:=zAG (w.alloc (.cells #[t.d,t.i] 25)) (.cells #[p.op,p.ct,p.n,p.m,p.va,.slice pA p.ks.length pcap] 28) 45 #[v.c,v.n,.slice vA v.ks.length vcap]
  rw [World.size_alloc] at h
  exact h
 have HX2:=jj (ArrDt.below hx hB2 hf)
 have UX2:Hid (Under ((((w.alloc (.cells #[t.d,t.i] 25)).alloc (.cells #[p.op,p.ct,p.n,p.m,p.va,.slice pA p.ks.length pcap] 28)).alloc (.cells #[v.c,v.n,.slice vA v.ks.length vcap] 45))).heap.size F):=hf.mono hB2.size
 have HP2:=jj (hp.below hB2 hg)
 have UP2:Hid (Under ((((w.alloc (.cells #[t.d,t.i] 25)).alloc (.cells #[p.op,p.ct,p.n,p.m,p.va,.slice pA p.ks.length pcap] 28)).alloc (.cells #[v.c,v.n,.slice vA v.ks.length vcap] 45))).heap.size G):=hg.mono hB2.size
 have HV2:=jj (hv.below hB2 hh)
 have UV2:Hid (Under ((((w.alloc (.cells #[t.d,t.i] 25)).alloc (.cells #[p.op,p.ct,p.n,p.m,p.va,.slice pA p.ks.length pcap] 28)).alloc (.cells #[v.c,v.n,.slice vA v.ks.length vcap] 45))).heap.size H):=hh.mono hB2.size
 have HPZ:=jj hpz
 have HVZ:=jj hvz
 clear hx hf hp hg hv hh hka hva hpz hvz
 obtain ⟨cT0,cT1,lT⟩:=KT2.out.c2
 obtain ⟨cP0,cP1,cP2,cP3,cP4,cP5,lP⟩:=KP2.out.c6
 go_enter Tryz.func27,Tryz.ntmps27
 go_wp2_with fail
 clear cT0 cT1 lT cP0 cP1 cP2 cP3 cP4 cP5 lP
 obtain ⟨w2,hw2⟩:∃ X,X=(((w.alloc (.cells #[t.d,t.i] 25)).alloc (.cells #[p.op,p.ct,p.n,p.m,p.va,.slice pA p.ks.length pcap] 28)).alloc (.cells #[v.c,v.n,.slice vA v.ks.length vcap] 45)):=⟨_,rfl⟩
 rw [←hw2] at hB2 KT2 KP2 KV2 HX2 UX2 HP2 UP2 HV2 UV2 ⊢
 clear hw2
 refine (impl_PatternValid xs t p HPZ.out w2 _ F _ G HX2.out UX2.out HP2.out UP2.out).mono ?_
 rintro e w3 ⟨rfl,hb3⟩
 have hB3:=hB2.trans (hb3.mono hB2.size)
 have KT3:=jj (KT2.out.same (hb3.block _ KT2.out.lt))
 have KP3:=jj (KP2.out.same (hb3.block _ KP2.out.lt))
 have KV3:=jj (KV2.out.same (hb3.block _ KV2.out.lt))
 have HX3:=jj (ArrDt.below HX2.out hb3 UX2.out)
 have UX3:=jj (UX2.out.mono hb3.size)
 have HP3:=jj (HP2.out.below hb3 UP2.out)
 have UP3:=jj (UP2.out.mono hb3.size)
 have HV3:=jj (HV2.out.below hb3 UV2.out)
 have UV3:=jj (UV2.out.mono hb3.size)
 clear hB2 hb3 KT2 KP2 KV2 HX2 UX2 HP2 UP2 HV2 UV2
 cases hpv:patternValidB xs t p with
 |false =>
  have hno:matchB xs t p v=false:=by unfold matchB;rw [hpv];rfl
  have HNO:=jj hno
  clear hno hpv
  go_wp2
  go_ret2
  rw [HNO.out,matchV_no HNO.out]
  exact ⟨_,[],rfl,hB3,Arr.nil,Free.nil _,Fresh.nil _ _⟩
 |true =>
  have hpv0:=hpv
  unfold patternValidB patOkB at hpv0
  simp only [Bool.and_eq_true] at hpv0
  obtain ⟨hw,hto⟩:=zAL hpv0.1
  have HSH:=jj hpv0.2.1
  have HLB:=jj hpv0.2.2.2
  have hpn:nodesP p≤60:=by simpa using hpv0.2.2.1
  have HPN:=jj hpn
  clear hpn
  have HW:=jj hw
  have HTO:=jj hto
  have HPV:=jj hpv
  clear hpv hpv0 hw hto
  obtain ⟨cT0,cT1,lT⟩:=KT3.out.c2
  obtain ⟨cV0,cV1,cV2,lV⟩:=KV3.out.c3
  go_wp2_with fail
  clear cT0 cT1 lT cV0 cV1 cV2 lV
  refine (impl_valueOk xs t v w3 _ F _ H HX3.out UX3.out HV3.out UV3.out HW.out (zAO HTO.out) HVZ.out).mono ?_
  rintro e w4 ⟨rfl,hb4⟩
  have hB4:=hB3.trans (hb4.mono hB3.size)
  have KT4:=jj (KT3.out.same (hb4.block _ KT3.out.lt))
  have KP4:=jj (KP3.out.same (hb4.block _ KP3.out.lt))
  have KV4:=jj (KV3.out.same (hb4.block _ KV3.out.lt))
  have HX4:=jj (ArrDt.below HX3.out hb4 UX3.out)
  have UX4:=jj (UX3.out.mono hb4.size)
  have HP4:=jj (HP3.out.below hb4 UP3.out)
  have UP4:=jj (UP3.out.mono hb4.size)
  have HV4:=jj (HV3.out.below hb4 UV3.out)
  have UV4:=jj (UV3.out.mono hb4.size)
  clear hB3 hb4 KT3 KP3 KV3 HX3 UX3 HP3 UP3 HV3 UV3
  cases hvo:valueOkB xs t v with
  |false =>
   have hno:matchB xs t p v=false:=by unfold matchB;rw [hvo,Bool.false_and,Bool.and_false]
   have HNO:=jj hno
   clear hno hvo
   go_wp2
   go_ret2
   rw [HNO.out,matchV_no HNO.out]
   exact ⟨_,[],rfl,hB4,Arr.nil,Free.nil _,Fresh.nil _ _⟩
  |true =>
   have hvo0:=hvo
   unfold valueOkB at hvo0
   simp only [Bool.and_eq_true] at hvo0
   have HFI:=jj hvo0.1
   have hmb:matchB xs t p v=(P.mat p v).isSome:=by unfold matchB;rw [HPV.out,hvo];rfl
   have hmv:matchV xs t p v=sortB ((P.mat p v).getD []):=by
    unfold matchV
    rw [hmb]
    cases P.mat p v with
    |none=>rfl
    |some l=>rfl
   have HMB:=jj hmb
   have HMV:=jj hmv
   clear hvo hvo0 hmb hmv
   obtain ⟨cP0,cP1,cP2,cP3,cP4,cP5,lP⟩:=KP4.out.c6
   obtain ⟨cV0,cV1,cV2,lV⟩:=KV4.out.c3
   go_wp2_with fail
   clear cP0 cP1 cP2 cP3 cP4 cP5 lP cV0 cV1 cV2 lV
   refine (impl_matched xs 10 10 t p v HSH.out HLB.out HFI.out (by have:=HPN.out;omega) HVZ.out w4 _ G _ H HP4.out UP4.out HV4.out UV4.out).mono ?_
   rintro e w5 ⟨x5,F5,rfl,hb5,ha5,hfr5,hfs5⟩
   have hB5:=hB4.trans (hb5.mono hB4.size)
   have HFin:Hid (MadeBd (matchV xs t p v) (matchB xs t p v) w (.returned (.tuple #[x5,.bool (P.mat p v).isSome])) w5):=by
    rw [HMV.out,HMB.out]
    exact ⟨x5,F5,rfl,hB5,ha5,hfr5,fun b hb=>⟨Nat.le_trans hB4.size (hfs5 b hb).1,(hfs5 b hb).2⟩⟩
   clear ha5 hfr5 hfs5
   go_wp2
   go_ret2
   exact HFin.out
end Go.Proofs.YtjjclcmmfeegfaaGreatDoor
