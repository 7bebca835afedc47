/-
  Lemmas and contracts of functions: shape of the program: kinds 1, 2, 4, 5. Conditions: the world is valid. shape of the program: kind 3. Conditions: the world is valid. shape of the program: kind 6, and all. Conditions: the world is valid. What the program keeps while it scans a pattern, in plain Lean: variables, marks. Conditions: none. append of a slice of variables to one of the call. Conditions: none.
-/
import Derived.Test.YtghekinfoadcoaaKAE
import Derived.Test.YtghekinfoadcoaaKAB
import Derived.Test.YtghekinfoadcoaaKAD
import Derived.Deep.RegionHeld3
import Derived.Deep.RegionWith
import Derived.Deep.QuietTactic
import Derived.BigQuiet
import Derived.IntWalk
import Derived.Test.YtghekinfoadcoaaKAA
import Derived.Maps.AppendAt

set_option linter.unusedVariables false
set_option linter.unusedSimpArgs false
set_option maxRecDepth 100000
set_option maxHeartbeats 1600000

namespace Go.Proofs.Ytghekinfoadcoaa
open Go.RowKit
theorem shape_endA {w W2 w3:World} {T:TypeId} {C:Array Value} (hB0:Below w.heap.size w W2) (hws2:W2.heap.size=w.heap.size+1+1) (hb3:Below (W2.drew.alloc (.cells C T)).heap.size (W2.drew.alloc (.cells C T)) w3) :
  Below w.heap.size w w3∧Fresh w w3 [w.heap.size+1+1]∧Blk w3 (w.heap.size+1+1) T C:=by
 have hd:W2.drew.heap.size=w.heap.size+1+1:=hws2
 have hsz:(W2.drew.alloc (.cells C T)).heap.size=w.heap.size+1+1+1:=by rw [World.size_alloc,hd]
 have h1:=Blk.new W2.drew T C
 rw [hd] at h1
 have h3:=hb3.size
 refine ⟨(hB0.drew.alloc (by omega) _).trans (hb3.mono (by omega)),fun b hb=>?_,h1.same (hb3.block _ (by omega))⟩
 rw [zy1] at hb
 omega
theorem shape_endB {w W2 w3:World} (hB0:Below w.heap.size w W2) (hb3:Below W2.drew.heap.size W2.drew w3) (o:Obj) :
  Below w.heap.size w (w3.alloc o)∧Fresh w (w3.alloc o) [w3.heap.size]:=by
 have h3:W2.heap.size≤w3.heap.size:=hb3.size
 have h0:=hB0.size
 refine ⟨(hB0.drew.trans (hb3.mono hB0.size)).alloc (by omega) _,fun b hb=>?_⟩
 rw [zy1] at hb
 rw [World.size_alloc]
 omega
def ShapePost (xs:List Dt) (t:Ty) (p:P) (w:World) (e:Ending) (w':World):Prop:=∃ v F,e=.returned (.tuple #[v,.bool (nodeB xs t p)])∧Below w.heap.size w w'∧Fresh w w' F∧(nodeB xs t p=true→Arr w' (TyR w') (typesP xs t p) v F)
theorem shape_1 (xs:List Dt) (hw:WorldOK xs) (t:Ty) (ht:TyIn xs.length t) (p:P) (h1:p.op=1) (w:World) (x:Value) (F:List Nat) (cs:List Value) (G:List Nat):Arr w (DtR w) xs x F→Under w.heap.size F→PR w p cs G→Under w.heap.size G →
  Calls Try.prog 80 #[x,.agg #[.int .i64 t.d,.int .i64 t.i],.agg cs.toArray] w (ShapePost xs t p w):=by
 intro hx hf hv hg
 obtain ⟨kv,rfl,ha⟩:=(zA4 _ _ _).1 hv
 obtain ⟨A,cap,rfl,hc1,hc2⟩:=hx.form
 obtain ⟨A4,cap4,rfl,hc3,hc4⟩:=ha.form
 have HV:=jj hv
 have HX:=jj hx
 have HF:=jj hf
 have HA:=jj ha
 have HG:=jj hg
 clear hx hf ha hg
 clear hv
 have HW:=jj hw
 have HT:=jj ht
 clear hw ht
 have o1:(p.op==1)=true:=by simp [h1]
 have HNB:=jj (nodeB_1 (xs:=xs) (t:=t) h1)
 have HTY:=jj (show typesP xs t p=[] from by rw [typesP_no (by omega),h1];rfl)
 clear h1
 go_enter Try.func80,Try.ntmps80
 go_wp2_with fail
 obtain ⟨W2,hW2⟩:∃ W2,W2=((w.alloc (.cells #[.int .i64 t.d,.int .i64 t.i] 35)).alloc (.cells #[.int .i64 p.op,.int .i64 p.ct,.int .i64 p.n,.int .i64 p.m,.int .i64 p.va,.slice A4 p.ks.length cap4] 38)):=⟨_,rfl⟩
 have hB0:Below w.heap.size w W2:=by rw [hW2];exact ((zy2 _ _).alloc (zz8 _) _).alloc (by simp) _
 have KT:Hid (Blk W2 w.heap.size 35 #[.int .i64 t.d,.int .i64 t.i]):=by rw [hW2];exact (Blk.new w _ _).same (Below.heap_alloc _ _ _ (by simp))
 have KP:Hid (Blk W2 (w.heap.size+1) 38 #[.int .i64 p.op,.int .i64 p.ct,.int .i64 p.n,.int .i64 p.m,.int .i64 p.va,.slice A4 p.ks.length cap4]):=by rw [hW2];have h:=Blk.new (w.alloc (.cells #[.int .i64 t.d,.int .i64 t.i] 35)) 38 #[.int .i64 p.op,.int .i64 p.ct,.int .i64 p.n,.int .i64 p.m,.int .i64 p.va,.slice A4 p.ks.length cap4];rw [World.size_alloc] at h;exact h
 have hws:w.heap.size+2≤W2.heap.size:=by rw [hW2];simp
 have hws2:W2.heap.size=w.heap.size+1+1:=by rw [hW2];simp
 rw [←hW2]
 clear hW2
 have y0:W2.cell? ⟨w.heap.size,0,none⟩=some (.int .i64 t.d):=(KT.out.cell 0).trans (by simp)
 have y1:W2.cell? ⟨w.heap.size,1,none⟩=some (.int .i64 t.i):=(KT.out.cell 1).trans (by simp)
 have klt:=KT.out.lt
 have z0:W2.cell? ⟨w.heap.size+1,0,none⟩=some (.int .i64 p.op):=(KP.out.cell 0).trans (by simp)
 have z1:W2.cell? ⟨w.heap.size+1,1,none⟩=some (.int .i64 p.ct):=(KP.out.cell 1).trans (by simp)
 have z2:W2.cell? ⟨w.heap.size+1,2,none⟩=some (.int .i64 p.n):=(KP.out.cell 2).trans (by simp)
 have z3:W2.cell? ⟨w.heap.size+1,3,none⟩=some (.int .i64 p.m):=(KP.out.cell 3).trans (by simp)
 have z4:W2.cell? ⟨w.heap.size+1,4,none⟩=some (.int .i64 p.va):=(KP.out.cell 4).trans (by simp)
 have z5:W2.cell? ⟨w.heap.size+1,5,none⟩=some (.slice A4 p.ks.length cap4):=(KP.out.cell 5).trans (by simp)
 have klt2:=KP.out.lt
 refine (impl_only p A4 cap4 false false false 0 _).mono ?_
 rintro e w3 ⟨rfl,hb3⟩
 have hB3:=hB0.trans (hb3.mono hB0.size)
 generalize hbb:onlyB p false false false 0=bb at *
 clear hbb
 have HFin:Hid (ShapePost xs t p w (.returned (.tuple #[.slice none 0 0,.bool bb])) w3):=⟨_,[],by rw [HNB.out] <;> rfl,hB3,Fresh.nil _ _,fun _=>by rw [HTY.out];exact Arr.nil⟩
 clear y0 y1 z0 z1 z2 z3 z4 z5 klt klt2
 clear hb3 KT KP hB0
 go_wp2
 go_ret2
 exact HFin.out
theorem shape_2 (xs:List Dt) (hw:WorldOK xs) (t:Ty) (ht:TyIn xs.length t) (p:P) (h2:p.op=2) (w:World) (x:Value) (F:List Nat) (cs:List Value) (G:List Nat):Arr w (DtR w) xs x F→Under w.heap.size F→PR w p cs G→Under w.heap.size G →
  Calls Try.prog 80 #[x,.agg #[.int .i64 t.d,.int .i64 t.i],.agg cs.toArray] w (ShapePost xs t p w):=by
 intro hx hf hv hg
 obtain ⟨kv,rfl,ha⟩:=(zA4 _ _ _).1 hv
 obtain ⟨A,cap,rfl,hc1,hc2⟩:=hx.form
 obtain ⟨A4,cap4,rfl,hc3,hc4⟩:=ha.form
 have HV:=jj hv
 have HX:=jj hx
 have HF:=jj hf
 have HA:=jj ha
 have HG:=jj hg
 clear hx hf ha hg
 clear hv
 have HW:=jj hw
 have HT:=jj ht
 clear hw ht
 have o1:(p.op==1)=false:=by simp [h2]
 have o2:(p.op==2)=true:=by simp [h2]
 have HNB:=jj (nodeB_2 (xs:=xs) (t:=t) h2)
 have HTY:=jj (show typesP xs t p=[] from by rw [typesP_no (by omega),h2];rfl)
 clear h2
 go_enter Try.func80,Try.ntmps80
 go_wp2_with fail
 obtain ⟨W2,hW2⟩:∃ W2,W2=((w.alloc (.cells #[.int .i64 t.d,.int .i64 t.i] 35)).alloc (.cells #[.int .i64 p.op,.int .i64 p.ct,.int .i64 p.n,.int .i64 p.m,.int .i64 p.va,.slice A4 p.ks.length cap4] 38)):=⟨_,rfl⟩
 have hB0:Below w.heap.size w W2:=by rw [hW2];exact ((zy2 _ _).alloc (zz8 _) _).alloc (by simp) _
 have KT:Hid (Blk W2 w.heap.size 35 #[.int .i64 t.d,.int .i64 t.i]):=by rw [hW2];exact (Blk.new w _ _).same (Below.heap_alloc _ _ _ (by simp))
 have KP:Hid (Blk W2 (w.heap.size+1) 38 #[.int .i64 p.op,.int .i64 p.ct,.int .i64 p.n,.int .i64 p.m,.int .i64 p.va,.slice A4 p.ks.length cap4]):=by rw [hW2];have h:=Blk.new (w.alloc (.cells #[.int .i64 t.d,.int .i64 t.i] 35)) 38 #[.int .i64 p.op,.int .i64 p.ct,.int .i64 p.n,.int .i64 p.m,.int .i64 p.va,.slice A4 p.ks.length cap4];rw [World.size_alloc] at h;exact h
 have hws:w.heap.size+2≤W2.heap.size:=by rw [hW2];simp
 have hws2:W2.heap.size=w.heap.size+1+1:=by rw [hW2];simp
 rw [←hW2]
 clear hW2
 have y0:W2.cell? ⟨w.heap.size,0,none⟩=some (.int .i64 t.d):=(KT.out.cell 0).trans (by simp)
 have y1:W2.cell? ⟨w.heap.size,1,none⟩=some (.int .i64 t.i):=(KT.out.cell 1).trans (by simp)
 have klt:=KT.out.lt
 have z0:W2.cell? ⟨w.heap.size+1,0,none⟩=some (.int .i64 p.op):=(KP.out.cell 0).trans (by simp)
 have z1:W2.cell? ⟨w.heap.size+1,1,none⟩=some (.int .i64 p.ct):=(KP.out.cell 1).trans (by simp)
 have z2:W2.cell? ⟨w.heap.size+1,2,none⟩=some (.int .i64 p.n):=(KP.out.cell 2).trans (by simp)
 have z3:W2.cell? ⟨w.heap.size+1,3,none⟩=some (.int .i64 p.m):=(KP.out.cell 3).trans (by simp)
 have z4:W2.cell? ⟨w.heap.size+1,4,none⟩=some (.int .i64 p.va):=(KP.out.cell 4).trans (by simp)
 have z5:W2.cell? ⟨w.heap.size+1,5,none⟩=some (.slice A4 p.ks.length cap4):=(KP.out.cell 5).trans (by simp)
 have klt2:=KP.out.lt
 refine (impl_only p A4 cap4 false false true 0 _).mono ?_
 rintro e w3 ⟨rfl,hb3⟩
 have hB3:=hB0.trans (hb3.mono hB0.size)
 have KT3:=jj (KT.out.same (hb3.block _ KT.out.lt))
 have KP3:=jj (KP.out.same (hb3.block _ KP.out.lt))
 clear y0 y1 z0 z1 z2 z3 z4 z5 klt klt2
 clear hb3 KT KP hB0
 have z4:w3.cell? ⟨w.heap.size+1,4,none⟩=some (.int .i64 p.va):=(KP3.out.cell 4).trans (by simp)
 have klt2:=KP3.out.lt
 cases e2:onlyB p false false true 0 with
 |false =>
  have HFin:Hid (ShapePost xs t p w (.returned (.tuple #[.slice none 0 0,.bool false])) w3):=⟨_,[],by rw [HNB.out,e2] <;> rfl,hB3,Fresh.nil _ _,fun _=>by rw [HTY.out];exact Arr.nil⟩
  clear e2
  go_wp2
  go_ret2
  exact HFin.out
 |true =>
  have HE2:=jj e2
  clear e2
  go_wp2_with fail
  refine (impl_isVar p.va w3).mono ?_
  rintro e w4 ⟨rfl,hw4⟩
  rw [hw4]
  clear hw4 w4
  generalize hbb:withinB p.va 0 5=bb at *
  clear hbb
  have HFin:Hid (ShapePost xs t p w (.returned (.tuple #[.slice none 0 0,.bool bb])) w3):=⟨_,[],by rw [HNB.out,HE2.out,Bool.true_and] <;> rfl,hB3,Fresh.nil _ _,fun _=>by rw [HTY.out];exact Arr.nil⟩
  clear z4 klt2
  go_wp2
  go_ret2
  exact HFin.out
theorem shape_4 (xs:List Dt) (hw:WorldOK xs) (t:Ty) (ht:TyIn xs.length t) (p:P) (h4:p.op=4) (w:World) (x:Value) (F:List Nat) (cs:List Value) (G:List Nat):Arr w (DtR w) xs x F→Under w.heap.size F→PR w p cs G→Under w.heap.size G →
  Calls Try.prog 80 #[x,.agg #[.int .i64 t.d,.int .i64 t.i],.agg cs.toArray] w (ShapePost xs t p w):=by
 intro hx hf hv hg
 obtain ⟨kv,rfl,ha⟩:=(zA4 _ _ _).1 hv
 obtain ⟨A,cap,rfl,hc1,hc2⟩:=hx.form
 obtain ⟨A4,cap4,rfl,hc3,hc4⟩:=ha.form
 have HV:=jj hv
 have HX:=jj hx
 have HF:=jj hf
 have HA:=jj ha
 have HG:=jj hg
 clear hx hf ha hg
 clear hv
 have HW:=jj hw
 have HT:=jj ht
 clear hw ht
 have o1:(p.op==1)=false:=by simp [h4]
 have o2:(p.op==2)=false:=by simp [h4]
 have o3:(p.op==3)=false:=by simp [h4]
 have o4:(p.op==4)=true:=by simp [h4]
 have HNB:=jj (nodeB_4 (xs:=xs) (t:=t) h4)
 clear h4
 have H4:=jj (show p.op=4 from by simpa using o4)
 go_enter Try.func80,Try.ntmps80
 go_wp2_with fail
 obtain ⟨W2,hW2⟩:∃ W2,W2=((w.alloc (.cells #[.int .i64 t.d,.int .i64 t.i] 35)).alloc (.cells #[.int .i64 p.op,.int .i64 p.ct,.int .i64 p.n,.int .i64 p.m,.int .i64 p.va,.slice A4 p.ks.length cap4] 38)):=⟨_,rfl⟩
 have hB0:Below w.heap.size w W2:=by rw [hW2];exact ((zy2 _ _).alloc (zz8 _) _).alloc (by simp) _
 have KT:Hid (Blk W2 w.heap.size 35 #[.int .i64 t.d,.int .i64 t.i]):=by rw [hW2];exact (Blk.new w _ _).same (Below.heap_alloc _ _ _ (by simp))
 have KP:Hid (Blk W2 (w.heap.size+1) 38 #[.int .i64 p.op,.int .i64 p.ct,.int .i64 p.n,.int .i64 p.m,.int .i64 p.va,.slice A4 p.ks.length cap4]):=by rw [hW2];have h:=Blk.new (w.alloc (.cells #[.int .i64 t.d,.int .i64 t.i] 35)) 38 #[.int .i64 p.op,.int .i64 p.ct,.int .i64 p.n,.int .i64 p.m,.int .i64 p.va,.slice A4 p.ks.length cap4];rw [World.size_alloc] at h;exact h
 have hws:w.heap.size+2≤W2.heap.size:=by rw [hW2];simp
 have hws2:W2.heap.size=w.heap.size+1+1:=by rw [hW2];simp
 rw [←hW2]
 clear hW2
 have y0:W2.cell? ⟨w.heap.size,0,none⟩=some (.int .i64 t.d):=(KT.out.cell 0).trans (by simp)
 have y1:W2.cell? ⟨w.heap.size,1,none⟩=some (.int .i64 t.i):=(KT.out.cell 1).trans (by simp)
 have klt:=KT.out.lt
 have z0:W2.cell? ⟨w.heap.size+1,0,none⟩=some (.int .i64 p.op):=(KP.out.cell 0).trans (by simp)
 have z1:W2.cell? ⟨w.heap.size+1,1,none⟩=some (.int .i64 p.ct):=(KP.out.cell 1).trans (by simp)
 have z2:W2.cell? ⟨w.heap.size+1,2,none⟩=some (.int .i64 p.n):=(KP.out.cell 2).trans (by simp)
 have z3:W2.cell? ⟨w.heap.size+1,3,none⟩=some (.int .i64 p.m):=(KP.out.cell 3).trans (by simp)
 have z4:W2.cell? ⟨w.heap.size+1,4,none⟩=some (.int .i64 p.va):=(KP.out.cell 4).trans (by simp)
 have z5:W2.cell? ⟨w.heap.size+1,5,none⟩=some (.slice A4 p.ks.length cap4):=(KP.out.cell 5).trans (by simp)
 have klt2:=KP.out.lt
 have hkeep:∀ U U':World,(U.cell? ⟨w.heap.size,0,none⟩=some (.int .i64 t.d)∧U.cell? ⟨w.heap.size,1,none⟩=some (.int .i64 t.i)∧U.cell? ⟨w.heap.size+1,1,none⟩=some (.int .i64 p.ct))→Below U.heap.size U U'→W2.heap.size≤U.heap.size→(U'.cell? ⟨w.heap.size,0,none⟩=some (.int .i64 t.d)∧U'.cell? ⟨w.heap.size,1,none⟩=some (.int .i64 t.i)∧U'.cell? ⟨w.heap.size+1,1,none⟩=some (.int .i64 p.ct)):=fun U U' h hUU hU=>⟨(hUU.cell (zz9 (klt) hU)).trans h.1,(hUU.cell (zz9 (klt) hU)).trans h.2.1,(hUU.cell (zz9 (klt2) hU)).trans h.2.2⟩
 have HKeep:=jj hkeep
 clear hkeep
 go_region_held3 (fun w'=>w'.cell? ⟨w.heap.size,0,none⟩=some (.int .i64 t.d)∧w'.cell? ⟨w.heap.size,1,none⟩=some (.int .i64 t.i)∧w'.cell? ⟨w.heap.size+1,1,none⟩=some (.int .i64 p.ct)) (first | assumption | (exact ⟨y0,y1,z1⟩) | (exact HKeep.out W2.drew w4 ⟨y0,y1,z1⟩ hb4 (zz8 _)) | (exact HKeep.out w4 w5 (by assumption) hb5 hlew4)) (first | (go_at_call 89;((with_reducible refine (impl_ctorsOf xs t _ _ F (ArrDt.below HX.out hB0.drew HF.out) (HF.out.mono hB0.drew.size) HW.out HT.out.inWorld).mono ?_);rintro e w4 ⟨v4,F4,rfl,hb4,ha4,-,hfs4⟩);have hlew4:W2.heap.size≤w4.heap.size:=hb4.size) | (go_at_call 88;((with_reducible refine (impl_has (ctorsL xs t) p.ct _ _ F4 ha4 hfs4.under).mono ?_);rintro e w5 ⟨rfl,hb5⟩)))
 have hBa:=hB0.drew.trans (hb4.mono hB0.drew.size)
 have hB5:=hBa.trans (hb5.mono hBa.size)
 have KT5:=jj ((KT.out.same (hb4.block _ KT.out.lt)).same (hb5.block _ (KT.out.same (hb4.block _ KT.out.lt)).lt))
 have KP5:=jj ((KP.out.same (hb4.block _ KP.out.lt)).same (hb5.block _ (KP.out.same (hb4.block _ KP.out.lt)).lt))
 clear y0 y1 z0 z1 z2 z3 z4 z5 klt klt2
 clear HKeep ha4 hfs4 hb4 hb5 hBa hB0 KT KP
 cases e1:hasB (ctorsL xs t) p.ct with
 |false =>
  have HFin:Hid (ShapePost xs t p w (.returned (.tuple #[.slice none 0 0,.bool false])) w5):=⟨_,[],by rw [HNB.out,e1];rfl,hB5,Fresh.nil _ _,fun h=>by rw [HNB.out,e1] at h;cases h⟩
  clear e1
  go_wp2
  go_ret2
  exact HFin.out
 |true =>
  obtain ⟨q,k,e2,hvc,hq',hkl⟩:=mem_ctorsL (xs:=xs) (t:=t) HT.out.inWorld ((hasB_iff _ _).1 e1)
  have hty:argsOf xs t p.ct=argsL xs[q].ctors[k] t.i:=by
   rw [hvc]
   obtain ⟨td,ti⟩:=t
   simp only at e2
   subst e2
   exact argsOf_get hq' hkl
  have hnb:=HNB.out
  rw [e1,Bool.true_and,hty] at hnb
  have HNB2:=jj hnb
  have HTY:Hid (typesP xs t p=argsL xs[q].ctors[k] t.i):=by unfold Hid typesP;rw [if_pos H4.out,hty]
  have HVC:=jj hvc
  have HE2:=jj e2
  have HLA:=jj (HW.out.ctor hq' hkl).args
  clear hnb hty hvc e2 e1 HNB
  have y0:w5.cell? ⟨w.heap.size,0,none⟩=some (.int .i64 t.d):=(KT5.out.cell 0).trans (by simp)
  have y1:w5.cell? ⟨w.heap.size,1,none⟩=some (.int .i64 t.i):=(KT5.out.cell 1).trans (by simp)
  have klt:=KT5.out.lt
  have z1:w5.cell? ⟨w.heap.size+1,1,none⟩=some (.int .i64 p.ct):=(KP5.out.cell 1).trans (by simp)
  have klt2:=KP5.out.lt
  go_wp2_with fail
  rw [HVC.out,HE2.out]
  refine (impl_argTypes xs q k t.i hq' hkl w5 _ F (ArrDt.below HX.out hB5 HF.out) (HF.out.mono hB5.size) HLA.out).mono ?_
  rintro e w6 ⟨v6,F6,rfl,hb6,ha6,hfr6,hfs6⟩
  have hB6:=hB5.trans (hb6.mono hB5.size)
  have KT6:=jj (KT5.out.same (hb6.block _ KT5.out.lt))
  have KP6:=jj (KP5.out.same (hb6.block _ KP5.out.lt))
  generalize argsL xs[q].ctors[k] t.i=ls at *
  obtain ⟨A6,cap6,rfl,hd3,hd4⟩:=ha6.form
  have HA6:=jj ha6
  have HFS6:=jj hfs6
  clear ha6 hfr6 hfs6 hb6 y0 y1 z1 klt klt2
  have z0:w6.cell? ⟨w.heap.size+1,0,none⟩=some (.int .i64 p.op):=(KP6.out.cell 0).trans (by simp)
  have z1:w6.cell? ⟨w.heap.size+1,1,none⟩=some (.int .i64 p.ct):=(KP6.out.cell 1).trans (by simp)
  have z2:w6.cell? ⟨w.heap.size+1,2,none⟩=some (.int .i64 p.n):=(KP6.out.cell 2).trans (by simp)
  have z3:w6.cell? ⟨w.heap.size+1,3,none⟩=some (.int .i64 p.m):=(KP6.out.cell 3).trans (by simp)
  have z4:w6.cell? ⟨w.heap.size+1,4,none⟩=some (.int .i64 p.va):=(KP6.out.cell 4).trans (by simp)
  have z5:w6.cell? ⟨w.heap.size+1,5,none⟩=some (.slice A4 p.ks.length cap4):=(KP6.out.cell 5).trans (by simp)
  have klt2:=KP6.out.lt
  go_wp2_with fail
  refine (impl_only p A4 cap4 true false false (ls.length:Nat) _).mono ?_
  rintro e w7 ⟨rfl,hb7⟩
  have HB7:=jj (hB6.trans (hb7.mono hB6.size))
  have HA7:=jj (ArrTy.below HA6.out hb7 HFS6.out.under)
  have HFS7:Hid (Fresh w w7 F6):=fun b hb=>⟨Nat.le_trans hB5.size (HFS6.out b hb).1,zz9 (HFS6.out b hb).2 hb7.size⟩
  generalize hbb:onlyB p true false false ((ls.length:Nat):Int)=bb at *
  clear hbb
  have HFin:Hid (ShapePost xs t p w (.returned (.tuple #[.slice A6 ls.length cap6,.bool bb])) w7):=⟨_,F6,by rw [HNB2.out],HB7.out,HFS7.out,fun _=>by rw [HTY.out];exact HA7.out⟩
  clear z0 z1 z2 z3 z4 z5 klt2 hb7
  go_wp2
  go_ret2
  exact HFin.out
theorem shape_5 (xs:List Dt) (hw:WorldOK xs) (t:Ty) (ht:TyIn xs.length t) (p:P) (h5:p.op=5) (w:World) (x:Value) (F:List Nat) (cs:List Value) (G:List Nat):Arr w (DtR w) xs x F→Under w.heap.size F→PR w p cs G→Under w.heap.size G →
  Calls Try.prog 80 #[x,.agg #[.int .i64 t.d,.int .i64 t.i],.agg cs.toArray] w (ShapePost xs t p w):=by
 intro hx hf hv hg
 obtain ⟨kv,rfl,ha⟩:=(zA4 _ _ _).1 hv
 obtain ⟨A,cap,rfl,hc1,hc2⟩:=hx.form
 obtain ⟨A4,cap4,rfl,hc3,hc4⟩:=ha.form
 have HV:=jj hv
 have HX:=jj hx
 have HF:=jj hf
 have HA:=jj ha
 have HG:=jj hg
 clear hx hf ha hg
 clear hv
 have HW:=jj hw
 have HT:=jj ht
 clear hw ht
 have o1:(p.op==1)=false:=by simp [h5]
 have o2:(p.op==2)=false:=by simp [h5]
 have o3:(p.op==3)=false:=by simp [h5]
 have o4:(p.op==4)=false:=by simp [h5]
 have o5:(p.op==5)=true:=by simp [h5]
 have HNB:=jj (nodeB_5 (xs:=xs) (t:=t) h5)
 have HTY:=jj (show typesP xs t p=[t,t] from by rw [typesP_no (by omega),h5];rfl)
 clear h5
 go_enter Try.func80,Try.ntmps80
 go_wp2_with fail
 obtain ⟨W2,hW2⟩:∃ W2,W2=((w.alloc (.cells #[.int .i64 t.d,.int .i64 t.i] 35)).alloc (.cells #[.int .i64 p.op,.int .i64 p.ct,.int .i64 p.n,.int .i64 p.m,.int .i64 p.va,.slice A4 p.ks.length cap4] 38)):=⟨_,rfl⟩
 have hB0:Below w.heap.size w W2:=by rw [hW2];exact ((zy2 _ _).alloc (zz8 _) _).alloc (by simp) _
 have KT:Hid (Blk W2 w.heap.size 35 #[.int .i64 t.d,.int .i64 t.i]):=by rw [hW2];exact (Blk.new w _ _).same (Below.heap_alloc _ _ _ (by simp))
 have KP:Hid (Blk W2 (w.heap.size+1) 38 #[.int .i64 p.op,.int .i64 p.ct,.int .i64 p.n,.int .i64 p.m,.int .i64 p.va,.slice A4 p.ks.length cap4]):=by rw [hW2];have h:=Blk.new (w.alloc (.cells #[.int .i64 t.d,.int .i64 t.i] 35)) 38 #[.int .i64 p.op,.int .i64 p.ct,.int .i64 p.n,.int .i64 p.m,.int .i64 p.va,.slice A4 p.ks.length cap4];rw [World.size_alloc] at h;exact h
 have hws:w.heap.size+2≤W2.heap.size:=by rw [hW2];simp
 have hws2:W2.heap.size=w.heap.size+1+1:=by rw [hW2];simp
 rw [←hW2]
 clear hW2
 have y0:W2.cell? ⟨w.heap.size,0,none⟩=some (.int .i64 t.d):=(KT.out.cell 0).trans (by simp)
 have y1:W2.cell? ⟨w.heap.size,1,none⟩=some (.int .i64 t.i):=(KT.out.cell 1).trans (by simp)
 have klt:=KT.out.lt
 have z0:W2.cell? ⟨w.heap.size+1,0,none⟩=some (.int .i64 p.op):=(KP.out.cell 0).trans (by simp)
 have z1:W2.cell? ⟨w.heap.size+1,1,none⟩=some (.int .i64 p.ct):=(KP.out.cell 1).trans (by simp)
 have z2:W2.cell? ⟨w.heap.size+1,2,none⟩=some (.int .i64 p.n):=(KP.out.cell 2).trans (by simp)
 have z3:W2.cell? ⟨w.heap.size+1,3,none⟩=some (.int .i64 p.m):=(KP.out.cell 3).trans (by simp)
 have z4:W2.cell? ⟨w.heap.size+1,4,none⟩=some (.int .i64 p.va):=(KP.out.cell 4).trans (by simp)
 have z5:W2.cell? ⟨w.heap.size+1,5,none⟩=some (.slice A4 p.ks.length cap4):=(KP.out.cell 5).trans (by simp)
 have klt2:=KP.out.lt
 generalize hbb:onlyB p false false false 2=bb at *
 have HC:Hid (∀ w1:World,Calls Try.prog 86 #[.agg #[.int .i64 p.op,.int .i64 p.ct,.int .i64 p.n,.int .i64 p.m,.int .i64 p.va,.slice A4 p.ks.length cap4],.bool false,.bool false,.bool false,.int .i64 2] w1 fun e w'=>e=.returned (.bool bb)∧Below w1.heap.size w1 w'):=fun w1=>by rw [←hbb];exact impl_only p A4 cap4 false false false 2 w1
 clear hbb
 have HNV:Hid (nodeB xs t p=bb):=HNB.out
 go_wp2_with fail
 refine zAG (S:=fun w'=>Blk w' w.heap.size 35 #[.int .i64 t.d,.int .i64 t.i]∧Blk w' (w.heap.size+1) 38 #[.int .i64 p.op,.int .i64 p.ct,.int .i64 p.n,.int .i64 p.m,.int .i64 p.va,.slice A4 p.ks.length cap4]) (T:=fun _=>True) (d:=99) (by kernel_rfl) ?_
 have hS1:Blk W2.drew w.heap.size 35 #[.int .i64 t.d,.int .i64 t.i]∧Blk W2.drew (w.heap.size+1) 38 #[.int .i64 p.op,.int .i64 p.ct,.int .i64 p.n,.int .i64 p.m,.int .i64 p.va,.slice A4 p.ks.length cap4]:=⟨KT.out,KP.out⟩
 have hT1:True:=trivial
 refine wU (i:=0) (v:=?_) rfl (Or.inl ⟨by rfl,?hy0⟩) hS1 (fun _=>trivial) ?_
 case hy0=>(intro W hSw;(try dsimp only at hSw);obtain ⟨kt,kp⟩:=hSw;have y0:W.cell? ⟨w.heap.size,0,none⟩=some (.int .i64 t.d):=(kt.cell 0).trans (by simp);have y1:W.cell? ⟨w.heap.size,1,none⟩=some (.int .i64 t.i):=(kt.cell 1).trans (by simp);have z0:W.cell? ⟨w.heap.size+1,0,none⟩=some (.int .i64 p.op):=(kp.cell 0).trans (by simp);have z1:W.cell? ⟨w.heap.size+1,1,none⟩=some (.int .i64 p.ct):=(kp.cell 1).trans (by simp);have z2:W.cell? ⟨w.heap.size+1,2,none⟩=some (.int .i64 p.n):=(kp.cell 2).trans (by simp);have z3:W.cell? ⟨w.heap.size+1,3,none⟩=some (.int .i64 p.m):=(kp.cell 3).trans (by simp);have z4:W.cell? ⟨w.heap.size+1,4,none⟩=some (.int .i64 p.va):=(kp.cell 4).trans (by simp);have z5:W.cell? ⟨w.heap.size+1,5,none⟩=some (.slice A4 p.ks.length cap4):=(kp.cell 5).trans (by simp);go_simp;try with_reducible rfl)
 (try simp only [Act.put,zz1,zz2,zz3,zz4,zz5,zz6])
 refine wU (i:=1) (v:=?_) rfl (Or.inl ⟨by rfl,?hy1⟩) hS1 (fun _=>trivial) ?_
 case hy1=>(intro W hSw;(try dsimp only at hSw);obtain ⟨kt,kp⟩:=hSw;have y0:W.cell? ⟨w.heap.size,0,none⟩=some (.int .i64 t.d):=(kt.cell 0).trans (by simp);have y1:W.cell? ⟨w.heap.size,1,none⟩=some (.int .i64 t.i):=(kt.cell 1).trans (by simp);have z0:W.cell? ⟨w.heap.size+1,0,none⟩=some (.int .i64 p.op):=(kp.cell 0).trans (by simp);have z1:W.cell? ⟨w.heap.size+1,1,none⟩=some (.int .i64 p.ct):=(kp.cell 1).trans (by simp);have z2:W.cell? ⟨w.heap.size+1,2,none⟩=some (.int .i64 p.n):=(kp.cell 2).trans (by simp);have z3:W.cell? ⟨w.heap.size+1,3,none⟩=some (.int .i64 p.m):=(kp.cell 3).trans (by simp);have z4:W.cell? ⟨w.heap.size+1,4,none⟩=some (.int .i64 p.va):=(kp.cell 4).trans (by simp);have z5:W.cell? ⟨w.heap.size+1,5,none⟩=some (.slice A4 p.ks.length cap4):=(kp.cell 5).trans (by simp);go_simp;try with_reducible rfl)
 (try simp only [Act.put,zz1,zz2,zz3,zz4,zz5,zz6])
 refine wU (i:=3) (v:=?_) rfl (Or.inl ⟨by rfl,?hy3⟩) hS1 (fun _=>trivial) ?_
 case hy3=>(intro W hSw;(try dsimp only at hSw);obtain ⟨kt,kp⟩:=hSw;have y0:W.cell? ⟨w.heap.size,0,none⟩=some (.int .i64 t.d):=(kt.cell 0).trans (by simp);have y1:W.cell? ⟨w.heap.size,1,none⟩=some (.int .i64 t.i):=(kt.cell 1).trans (by simp);have z0:W.cell? ⟨w.heap.size+1,0,none⟩=some (.int .i64 p.op):=(kp.cell 0).trans (by simp);have z1:W.cell? ⟨w.heap.size+1,1,none⟩=some (.int .i64 p.ct):=(kp.cell 1).trans (by simp);have z2:W.cell? ⟨w.heap.size+1,2,none⟩=some (.int .i64 p.n):=(kp.cell 2).trans (by simp);have z3:W.cell? ⟨w.heap.size+1,3,none⟩=some (.int .i64 p.m):=(kp.cell 3).trans (by simp);have z4:W.cell? ⟨w.heap.size+1,4,none⟩=some (.int .i64 p.va):=(kp.cell 4).trans (by simp);have z5:W.cell? ⟨w.heap.size+1,5,none⟩=some (.slice A4 p.ks.length cap4):=(kp.cell 5).trans (by simp);go_simp;try with_reducible rfl)
 (try simp only [Act.put,zz1,zz2,zz3,zz4,zz5,zz6])
 refine wR (rs:=[2,4]) (by kernel_rfl) (by simp) ?_
 refine AllReadyB.c rfl (fun K hK=>?_) (AllReadyB.c rfl (fun K hK=>?_) AllReadyB.n)
 ·go_simp
  have hS2:=And.intro (hS1.1.same (Below.heap_alloc _ (.cells #[.int .i64 t.d,.int .i64 t.i,.int .i64 t.d,.int .i64 t.i] 35) _ hS1.1.lt)) (hS1.2.same (Below.heap_alloc _ (.cells #[.int .i64 t.d,.int .i64 t.i,.int .i64 t.d,.int .i64 t.i] 35) _ hS1.2.lt))
  refine hK.out _ _ hS2 (fun _=>trivial) ?_
  clear hK K
  (try simp only [Act.put,zz1,zz2,zz3,zz4,zz5,zz6])
  refine wR (rs:=[4]) (by kernel_rfl) (by simp) ?_
  refine AllReadyB.c rfl (fun K hK=>?_) AllReadyB.n
  go_simp
  go_at_call 86
  with_reducible refine (HC.out _).mono ?_
  rintro e w3 ⟨rfl,hb3⟩
  have hS3:Blk w3 w.heap.size 35 #[.int .i64 t.d,.int .i64 t.i]∧Blk w3 (w.heap.size+1) 38 #[.int .i64 p.op,.int .i64 p.ct,.int .i64 p.n,.int .i64 p.m,.int .i64 p.va,.slice A4 p.ks.length cap4]:=⟨hS2.1.same (hb3.block _ hS2.1.lt),hS2.2.same (hb3.block _ hS2.2.lt)⟩
  dsimp only
  refine hK.out _ _ hS3 (fun _=>trivial) ?_
  clear hK K
  (try simp only [Act.put,zz1,zz2,zz3,zz4,zz5,zz6])
  refine wU (i:=5) (v:=?_) rfl (Or.inl ⟨by rfl,?hy5⟩) hS3 (fun _=>trivial) ?_
  case hy5=>(intro W hSw;(try dsimp only at hSw);go_simp;try with_reducible rfl)
  (try simp only [Act.put,zz1,zz2,zz3,zz4,zz5,zz6])
  refine wU (i:=6) (v:=?_) rfl (Or.inl ⟨by rfl,?hy6⟩) hS3 (fun _=>trivial) ?_
  case hy6=>(intro W hSw;(try dsimp only at hSw);go_simp;try with_reducible rfl)
  (try simp only [Act.put,zz1,zz2,zz3,zz4,zz5,zz6])
  refine wE (by kernel_rfl) ?_
  obtain ⟨q1,q2,q3⟩:=shape_endA hB0 hws2 hb3
  have HFin:Hid (ShapePost xs t p w (.returned (.tuple #[.slice (some ⟨w.heap.size+1+1,0,none⟩) 2 2,.bool bb])) w3):=⟨_,[w.heap.size+1+1],by rw [HNV.out],q1,q2,fun _=>by rw [HTY.out];exact arr_tys2 q3⟩
  clear y0 y1 z0 z1 z2 z3 z4 z5 klt klt2
  clear hS1 hS3 hb3 q1 q2 q3
  go_wp2
  go_ret2
  exact HFin.out
 ·go_simp
  go_at_call 86
  with_reducible refine (HC.out _).mono ?_
  rintro e w3 ⟨rfl,hb3⟩
  have hS3:Blk w3 w.heap.size 35 #[.int .i64 t.d,.int .i64 t.i]∧Blk w3 (w.heap.size+1) 38 #[.int .i64 p.op,.int .i64 p.ct,.int .i64 p.n,.int .i64 p.m,.int .i64 p.va,.slice A4 p.ks.length cap4]:=⟨hS1.1.same (hb3.block _ hS1.1.lt),hS1.2.same (hb3.block _ hS1.2.lt)⟩
  dsimp only
  refine hK.out _ _ hS3 (fun _=>trivial) ?_
  clear hK K
  (try simp only [Act.put,zz1,zz2,zz3,zz4,zz5,zz6])
  refine wR (rs:=[2]) (by kernel_rfl) (by simp) ?_
  refine AllReadyB.c rfl (fun K hK=>?_) AllReadyB.n
  go_simp
  have hS4:=And.intro (hS3.1.same (Below.heap_alloc _ (.cells #[.int .i64 t.d,.int .i64 t.i,.int .i64 t.d,.int .i64 t.i] 35) _ hS3.1.lt)) (hS3.2.same (Below.heap_alloc _ (.cells #[.int .i64 t.d,.int .i64 t.i,.int .i64 t.d,.int .i64 t.i] 35) _ hS3.2.lt))
  refine hK.out _ _ hS4 (fun _=>trivial) ?_
  clear hK K
  (try simp only [Act.put,zz1,zz2,zz3,zz4,zz5,zz6])
  refine wU (i:=5) (v:=?_) rfl (Or.inl ⟨by rfl,?hy5⟩) hS4 (fun _=>trivial) ?_
  case hy5=>(intro W hSw;(try dsimp only at hSw);go_simp;try with_reducible rfl)
  (try simp only [Act.put,zz1,zz2,zz3,zz4,zz5,zz6])
  refine wU (i:=6) (v:=?_) rfl (Or.inl ⟨by rfl,?hy6⟩) hS4 (fun _=>trivial) ?_
  case hy6=>(intro W hSw;(try dsimp only at hSw);go_simp;try with_reducible rfl)
  (try simp only [Act.put,zz1,zz2,zz3,zz4,zz5,zz6])
  refine wE (by kernel_rfl) ?_
  obtain ⟨q1,q2⟩:=shape_endB hB0 hb3 (.cells #[.int .i64 t.d,.int .i64 t.i,.int .i64 t.d,.int .i64 t.i] 35)
  have HFin:Hid (ShapePost xs t p w (.returned (.tuple #[.slice (some ⟨w3.heap.size,0,none⟩) 2 2,.bool bb])) (w3.alloc (.cells #[.int .i64 t.d,.int .i64 t.i,.int .i64 t.d,.int .i64 t.i] 35))):=⟨_,[w3.heap.size],by rw [HNV.out],q1,q2,fun _=>by rw [HTY.out];exact arr_tys2 (Blk.new w3 _ _)⟩
  clear y0 y1 z0 z1 z2 z3 z4 z5 klt klt2
  clear hS1 hS3 hb3 q1 q2
  go_wp2
  go_ret2
  exact HFin.out
theorem shape_3 (xs:List Dt) (hw:WorldOK xs) (t:Ty) (ht:TyIn xs.length t) (p:P) (h3:p.op=3) (w:World) (x:Value) (F:List Nat) (cs:List Value) (G:List Nat):Arr w (DtR w) xs x F→Under w.heap.size F→PR w p cs G→Under w.heap.size G →
  Calls Try.prog 80 #[x,.agg #[.int .i64 t.d,.int .i64 t.i],.agg cs.toArray] w (ShapePost xs t p w):=by
 intro hx hf hv hg
 obtain ⟨kv,rfl,ha⟩:=(zA4 _ _ _).1 hv
 obtain ⟨A,cap,rfl,hc1,hc2⟩:=hx.form
 obtain ⟨A4,cap4,rfl,hc3,hc4⟩:=ha.form
 have HV:=jj hv
 have HX:=jj hx
 have HF:=jj hf
 have HA:=jj ha
 have HG:=jj hg
 clear hx hf ha hg
 clear hv
 have HW:=jj hw
 have HT:=jj ht
 clear hw ht
 have o1:(p.op==1)=false:=by simp [h3]
 have o2:(p.op==2)=false:=by simp [h3]
 have o3:(p.op==3)=true:=by simp [h3]
 have HNB:=jj (nodeB_3 (xs:=xs) (t:=t) h3)
 have HTY:=jj (show typesP xs t p=[] from by rw [typesP_no (by omega),h3];rfl)
 clear h3
 go_enter Try.func80,Try.ntmps80
 go_wp2_with fail
 obtain ⟨W2,hW2⟩:∃ W2,W2=((w.alloc (.cells #[.int .i64 t.d,.int .i64 t.i] 35)).alloc (.cells #[.int .i64 p.op,.int .i64 p.ct,.int .i64 p.n,.int .i64 p.m,.int .i64 p.va,.slice A4 p.ks.length cap4] 38)):=⟨_,rfl⟩
 have hB0:Below w.heap.size w W2:=by rw [hW2];exact ((zy2 _ _).alloc (zz8 _) _).alloc (by simp) _
 have KT:Hid (Blk W2 w.heap.size 35 #[.int .i64 t.d,.int .i64 t.i]):=by rw [hW2];exact (Blk.new w _ _).same (Below.heap_alloc _ _ _ (by simp))
 have KP:Hid (Blk W2 (w.heap.size+1) 38 #[.int .i64 p.op,.int .i64 p.ct,.int .i64 p.n,.int .i64 p.m,.int .i64 p.va,.slice A4 p.ks.length cap4]):=by rw [hW2];have h:=Blk.new (w.alloc (.cells #[.int .i64 t.d,.int .i64 t.i] 35)) 38 #[.int .i64 p.op,.int .i64 p.ct,.int .i64 p.n,.int .i64 p.m,.int .i64 p.va,.slice A4 p.ks.length cap4];rw [World.size_alloc] at h;exact h
 have hws:w.heap.size+2≤W2.heap.size:=by rw [hW2];simp
 have hws2:W2.heap.size=w.heap.size+1+1:=by rw [hW2];simp
 rw [←hW2]
 clear hW2
 have y0:W2.cell? ⟨w.heap.size,0,none⟩=some (.int .i64 t.d):=(KT.out.cell 0).trans (by simp)
 have y1:W2.cell? ⟨w.heap.size,1,none⟩=some (.int .i64 t.i):=(KT.out.cell 1).trans (by simp)
 have klt:=KT.out.lt
 have z0:W2.cell? ⟨w.heap.size+1,0,none⟩=some (.int .i64 p.op):=(KP.out.cell 0).trans (by simp)
 have z1:W2.cell? ⟨w.heap.size+1,1,none⟩=some (.int .i64 p.ct):=(KP.out.cell 1).trans (by simp)
 have z2:W2.cell? ⟨w.heap.size+1,2,none⟩=some (.int .i64 p.n):=(KP.out.cell 2).trans (by simp)
 have z3:W2.cell? ⟨w.heap.size+1,3,none⟩=some (.int .i64 p.m):=(KP.out.cell 3).trans (by simp)
 have z4:W2.cell? ⟨w.heap.size+1,4,none⟩=some (.int .i64 p.va):=(KP.out.cell 4).trans (by simp)
 have z5:W2.cell? ⟨w.heap.size+1,5,none⟩=some (.slice A4 p.ks.length cap4):=(KP.out.cell 5).trans (by simp)
 have klt2:=KP.out.lt
 have HBQ:=jj (fun n=>zAR hB0 n)
 cases e1:(t.d == -1) with
 |false =>
  have HFinQ:Hid (∀ n,ShapePost xs t p w (.returned (.tuple #[.slice none 0 0,.bool false])) (W2.drewN n)):=fun n=>⟨_,[],by rw [HNB.out,e1];rfl,HBQ.out n,Fresh.nil _ _,fun _=>by rw [HTY.out];exact Arr.nil⟩
  clear HBQ
  go_wp2_with fail
  go_quiet (fail)
  go_wp2
  go_ret2
  exact HFinQ.out _
 |true =>
  have hc:=impl_only p A4 cap4 false true false 0 W2.drew
  have HE1:=jj e1
  clear e1 HBQ
  go_wp2_with fail
  refine zAG (S:=fun w'=>Blk w' w.heap.size 35 #[.int .i64 t.d,.int .i64 t.i]∧Blk w' (w.heap.size+1) 38 #[.int .i64 p.op,.int .i64 p.ct,.int .i64 p.n,.int .i64 p.m,.int .i64 p.va,.slice A4 p.ks.length cap4]) (T:=fun _=>True) (d:=99) (by kernel_rfl) ?_
  have hS1:Blk W2.drew w.heap.size 35 #[.int .i64 t.d,.int .i64 t.i]∧Blk W2.drew (w.heap.size+1) 38 #[.int .i64 p.op,.int .i64 p.ct,.int .i64 p.n,.int .i64 p.m,.int .i64 p.va,.slice A4 p.ks.length cap4]:=⟨KT.out,KP.out⟩
  have hT1:True:=trivial
  refine wU (i:=0) (v:=?_) rfl (Or.inl ⟨by rfl,?hy0⟩) hS1 (fun _=>trivial) ?_
  case hy0=>(intro W hSw;(try dsimp only at hSw);go_simp;try with_reducible rfl)
  (try simp only [Act.put,zz1,zz2,zz3,zz4,zz5,zz6])
  refine wU (i:=1) (v:=?_) rfl (Or.inl ⟨by rfl,?hy1⟩) hS1 (fun _=>trivial) ?_
  case hy1=>(intro W hSw;(try dsimp only at hSw);obtain ⟨kt,kp⟩:=hSw;have y0:W.cell? ⟨w.heap.size,0,none⟩=some (.int .i64 t.d):=(kt.cell 0).trans (by simp);have y1:W.cell? ⟨w.heap.size,1,none⟩=some (.int .i64 t.i):=(kt.cell 1).trans (by simp);have z0:W.cell? ⟨w.heap.size+1,0,none⟩=some (.int .i64 p.op):=(kp.cell 0).trans (by simp);have z1:W.cell? ⟨w.heap.size+1,1,none⟩=some (.int .i64 p.ct):=(kp.cell 1).trans (by simp);have z2:W.cell? ⟨w.heap.size+1,2,none⟩=some (.int .i64 p.n):=(kp.cell 2).trans (by simp);have z3:W.cell? ⟨w.heap.size+1,3,none⟩=some (.int .i64 p.m):=(kp.cell 3).trans (by simp);have z4:W.cell? ⟨w.heap.size+1,4,none⟩=some (.int .i64 p.va):=(kp.cell 4).trans (by simp);have z5:W.cell? ⟨w.heap.size+1,5,none⟩=some (.slice A4 p.ks.length cap4):=(kp.cell 5).trans (by simp);go_simp;try with_reducible rfl)
  (try simp only [Act.put,zz1,zz2,zz3,zz4,zz5,zz6])
  refine wU (i:=2) (v:=?_) rfl (Or.inl ⟨by rfl,?hy2⟩) hS1 (fun _=>trivial) ?_
  case hy2=>(intro W hSw;(try dsimp only at hSw);go_simp;try with_reducible rfl)
  (try simp only [Act.put,zz1,zz2,zz3,zz4,zz5,zz6])
  rw [HE1.out]
  refine wU (i:=3) (v:=?_) rfl (Or.inl ⟨by rfl,?hy3⟩) hS1 (fun _=>trivial) ?_
  case hy3=>(intro W hSw;(try dsimp only at hSw);go_simp;try with_reducible rfl)
  (try simp only [Act.put,zz1,zz2,zz3,zz4,zz5,zz6])
  refine wU (i:=4) (v:=?_) rfl (Or.inl ⟨by rfl,?hy4⟩) hS1 (fun _=>trivial) ?_
  case hy4=>(intro W hSw;(try dsimp only at hSw);obtain ⟨kt,kp⟩:=hSw;have y0:W.cell? ⟨w.heap.size,0,none⟩=some (.int .i64 t.d):=(kt.cell 0).trans (by simp);have y1:W.cell? ⟨w.heap.size,1,none⟩=some (.int .i64 t.i):=(kt.cell 1).trans (by simp);have z0:W.cell? ⟨w.heap.size+1,0,none⟩=some (.int .i64 p.op):=(kp.cell 0).trans (by simp);have z1:W.cell? ⟨w.heap.size+1,1,none⟩=some (.int .i64 p.ct):=(kp.cell 1).trans (by simp);have z2:W.cell? ⟨w.heap.size+1,2,none⟩=some (.int .i64 p.n):=(kp.cell 2).trans (by simp);have z3:W.cell? ⟨w.heap.size+1,3,none⟩=some (.int .i64 p.m):=(kp.cell 3).trans (by simp);have z4:W.cell? ⟨w.heap.size+1,4,none⟩=some (.int .i64 p.va):=(kp.cell 4).trans (by simp);have z5:W.cell? ⟨w.heap.size+1,5,none⟩=some (.slice A4 p.ks.length cap4):=(kp.cell 5).trans (by simp);go_simp;try with_reducible rfl)
  (try simp only [Act.put,zz1,zz2,zz3,zz4,zz5,zz6])
  cases e2:onlyB p false true false 0 with
  |false =>
   rw [e2] at hc
   have HE2:=jj e2
   clear e2
   refine wR (rs:=[5]) (by kernel_rfl) (by simp) ?_
   refine AllReadyB.c rfl (fun K hK=>?_) AllReadyB.n
   go_simp
   go_at_call 86
   with_reducible refine hc.mono ?_
   rintro e w3 ⟨rfl,hb3⟩
   have hS3:Blk w3 w.heap.size 35 #[.int .i64 t.d,.int .i64 t.i]∧Blk w3 (w.heap.size+1) 38 #[.int .i64 p.op,.int .i64 p.ct,.int .i64 p.n,.int .i64 p.m,.int .i64 p.va,.slice A4 p.ks.length cap4]:=⟨hS1.1.same (hb3.block _ hS1.1.lt),hS1.2.same (hb3.block _ hS1.2.lt)⟩
   dsimp only
   refine hK.out _ _ hS3 (fun _=>trivial) ?_
   clear hK K
   (try simp only [Act.put,zz1,zz2,zz3,zz4,zz5,zz6])
   refine wU (i:=6) (v:=?_) rfl (Or.inl ⟨by rfl,?hy6⟩) hS3 (fun _=>trivial) ?_
   case hy6=>(intro W hSw;(try dsimp only at hSw);go_simp;try with_reducible rfl)
   (try simp only [Act.put,zz1,zz2,zz3,zz4,zz5,zz6])
   refine wU (i:=7) (v:=?_) rfl (Or.inl ⟨by rfl,?hy7⟩) hS3 (fun _=>trivial) ?_
   case hy7=>(intro W hSw;(try dsimp only at hSw);go_simp;try with_reducible rfl)
   (try simp only [Act.put,zz1,zz2,zz3,zz4,zz5,zz6])
   refine wU (i:=8) (v:=undef) rfl (Or.inr ⟨by rfl,rfl⟩) hS3 (fun _=>trivial) ?_
   (try simp only [Act.put,zz1,zz2,zz3,zz4,zz5,zz6])
   refine wU (i:=9) (v:=undef) rfl (Or.inr ⟨by rfl,rfl⟩) hS3 (fun _=>trivial) ?_
   (try simp only [Act.put,zz1,zz2,zz3,zz4,zz5,zz6])
   refine wU (i:=10) (v:=undef) rfl (Or.inr ⟨by rfl,rfl⟩) hS3 (fun _=>trivial) ?_
   (try simp only [Act.put,zz1,zz2,zz3,zz4,zz5,zz6])
   refine wU (i:=11) (v:=?_) rfl (Or.inl ⟨by rfl,?hy11⟩) hS3 (fun _=>trivial) ?_
   case hy11=>(intro W hSw;(try dsimp only at hSw);go_simp;try with_reducible rfl)
   (try simp only [Act.put,zz1,zz2,zz3,zz4,zz5,zz6])
   refine wU (i:=12) (v:=?_) rfl (Or.inl ⟨by rfl,?hy12⟩) hS3 (fun _=>trivial) ?_
   case hy12=>(intro W hSw;(try dsimp only at hSw);go_simp;try with_reducible rfl)
   (try simp only [Act.put,zz1,zz2,zz3,zz4,zz5,zz6])
   refine wU (i:=13) (v:=undef) rfl (Or.inr ⟨by rfl,rfl⟩) hS3 (fun _=>trivial) ?_
   (try simp only [Act.put,zz1,zz2,zz3,zz4,zz5,zz6])
   refine wU (i:=14) (v:=undef) rfl (Or.inr ⟨by rfl,rfl⟩) hS3 (fun _=>trivial) ?_
   (try simp only [Act.put,zz1,zz2,zz3,zz4,zz5,zz6])
   refine wU (i:=15) (v:=undef) rfl (Or.inr ⟨by rfl,rfl⟩) hS3 (fun _=>trivial) ?_
   (try simp only [Act.put,zz1,zz2,zz3,zz4,zz5,zz6])
   refine wU (i:=16) (v:=undef) rfl (Or.inr ⟨by rfl,rfl⟩) hS3 (fun _=>trivial) ?_
   (try simp only [Act.put,zz1,zz2,zz3,zz4,zz5,zz6])
   refine wU (i:=17) (v:=undef) rfl (Or.inr ⟨by rfl,rfl⟩) hS3 (fun _=>trivial) ?_
   (try simp only [Act.put,zz1,zz2,zz3,zz4,zz5,zz6])
   refine wU (i:=18) (v:=?_) rfl (Or.inl ⟨by rfl,?hy18⟩) hS3 (fun _=>trivial) ?_
   case hy18=>(intro W hSw;(try dsimp only at hSw);go_simp;try with_reducible rfl)
   (try simp only [Act.put,zz1,zz2,zz3,zz4,zz5,zz6])
   refine wU (i:=19) (v:=?_) rfl (Or.inl ⟨by rfl,?hy19⟩) hS3 (fun _=>trivial) ?_
   case hy19=>(intro W hSw;(try dsimp only at hSw);go_simp;try with_reducible rfl)
   (try simp only [Act.put,zz1,zz2,zz3,zz4,zz5,zz6])
   refine wU (i:=20) (v:=undef) rfl (Or.inr ⟨by rfl,rfl⟩) hS3 (fun _=>trivial) ?_
   (try simp only [Act.put,zz1,zz2,zz3,zz4,zz5,zz6])
   refine wU (i:=21) (v:=undef) rfl (Or.inr ⟨by rfl,rfl⟩) hS3 (fun _=>trivial) ?_
   (try simp only [Act.put,zz1,zz2,zz3,zz4,zz5,zz6])
   refine wU (i:=22) (v:=undef) rfl (Or.inr ⟨by rfl,rfl⟩) hS3 (fun _=>trivial) ?_
   (try simp only [Act.put,zz1,zz2,zz3,zz4,zz5,zz6])
   refine wU (i:=23) (v:=?_) rfl (Or.inl ⟨by rfl,?hy23⟩) hS3 (fun _=>trivial) ?_
   case hy23=>(intro W hSw;(try dsimp only at hSw);go_simp;try with_reducible rfl)
   (try simp only [Act.put,zz1,zz2,zz3,zz4,zz5,zz6])
   refine wU (i:=24) (v:=?_) rfl (Or.inl ⟨by rfl,?hy24⟩) hS3 (fun _=>trivial) ?_
   case hy24=>(intro W hSw;(try dsimp only at hSw);go_simp;try with_reducible rfl)
   (try simp only [Act.put,zz1,zz2,zz3,zz4,zz5,zz6])
   refine wU (i:=25) (v:=?_) rfl (Or.inl ⟨by rfl,?hy25⟩) hS3 (fun _=>trivial) ?_
   case hy25=>(intro W hSw;(try dsimp only at hSw);go_simp;try with_reducible rfl)
   (try simp only [Act.put,zz1,zz2,zz3,zz4,zz5,zz6])
   refine wE (by kernel_rfl) ?_
   have hB3:=hB0.drew.trans (hb3.mono hB0.size)
   have HFin:Hid (ShapePost xs t p w (.returned (.tuple #[.slice none 0 0,.bool false])) w3):=⟨_,[],by rw [HNB.out,HE1.out,HE2.out] <;> rfl,hB3,Fresh.nil _ _,fun _=>by rw [HTY.out];exact Arr.nil⟩
   clear y0 y1 z0 z1 z2 z3 z4 z5 klt klt2
   clear hb3 hS1 hS3 hT1
   go_wp2
   go_ret2
   exact HFin.out
  |true =>
   rw [e2] at hc
   have HE2:=jj e2
   clear e2
   cases a1:decide (0≤p.n) with
   |false =>
    have HBa1:=jj a1
    clear a1
    refine wR (rs:=[5]) (by kernel_rfl) (by simp) ?_
    refine AllReadyB.c rfl (fun K hK=>?_) AllReadyB.n
    go_simp
    go_at_call 86
    with_reducible refine hc.mono ?_
    rintro e w3 ⟨rfl,hb3⟩
    have hS3:Blk w3 w.heap.size 35 #[.int .i64 t.d,.int .i64 t.i]∧Blk w3 (w.heap.size+1) 38 #[.int .i64 p.op,.int .i64 p.ct,.int .i64 p.n,.int .i64 p.m,.int .i64 p.va,.slice A4 p.ks.length cap4]:=⟨hS1.1.same (hb3.block _ hS1.1.lt),hS1.2.same (hb3.block _ hS1.2.lt)⟩
    dsimp only
    refine hK.out _ _ hS3 (fun _=>trivial) ?_
    clear hK K
    (try simp only [Act.put,zz1,zz2,zz3,zz4,zz5,zz6])
    refine wU (i:=6) (v:=?_) rfl (Or.inl ⟨by rfl,?hy6⟩) hS3 (fun _=>trivial) ?_
    case hy6=>(intro W hSw;(try dsimp only at hSw);go_simp;try with_reducible rfl)
    (try simp only [Act.put,zz1,zz2,zz3,zz4,zz5,zz6])
    refine wU (i:=7) (v:=?_) rfl (Or.inl ⟨by rfl,?hy7⟩) hS3 (fun _=>trivial) ?_
    case hy7=>(intro W hSw;(try dsimp only at hSw);go_simp;try with_reducible rfl)
    (try simp only [Act.put,zz1,zz2,zz3,zz4,zz5,zz6])
    refine wU (i:=8) (v:=?_) rfl (Or.inl ⟨by rfl,?hy8⟩) hS3 (fun _=>trivial) ?_
    case hy8=>(intro W hSw;(try dsimp only at hSw);go_simp;try with_reducible rfl)
    (try simp only [Act.put,zz1,zz2,zz3,zz4,zz5,zz6])
    refine wU (i:=9) (v:=?_) rfl (Or.inl ⟨by rfl,?hy9⟩) hS3 (fun _=>trivial) ?_
    case hy9=>(intro W hSw;(try dsimp only at hSw);obtain ⟨kt,kp⟩:=hSw;have y0:W.cell? ⟨w.heap.size,0,none⟩=some (.int .i64 t.d):=(kt.cell 0).trans (by simp);have y1:W.cell? ⟨w.heap.size,1,none⟩=some (.int .i64 t.i):=(kt.cell 1).trans (by simp);have z0:W.cell? ⟨w.heap.size+1,0,none⟩=some (.int .i64 p.op):=(kp.cell 0).trans (by simp);have z1:W.cell? ⟨w.heap.size+1,1,none⟩=some (.int .i64 p.ct):=(kp.cell 1).trans (by simp);have z2:W.cell? ⟨w.heap.size+1,2,none⟩=some (.int .i64 p.n):=(kp.cell 2).trans (by simp);have z3:W.cell? ⟨w.heap.size+1,3,none⟩=some (.int .i64 p.m):=(kp.cell 3).trans (by simp);have z4:W.cell? ⟨w.heap.size+1,4,none⟩=some (.int .i64 p.va):=(kp.cell 4).trans (by simp);have z5:W.cell? ⟨w.heap.size+1,5,none⟩=some (.slice A4 p.ks.length cap4):=(kp.cell 5).trans (by simp);go_simp;try with_reducible rfl)
    (try simp only [Act.put,zz1,zz2,zz3,zz4,zz5,zz6])
    refine wU (i:=10) (v:=?_) rfl (Or.inl ⟨by rfl,?hy10⟩) hS3 (fun _=>trivial) ?_
    case hy10=>(intro W hSw;(try dsimp only at hSw);go_simp;try with_reducible rfl)
    (try simp only [Act.put,zz1,zz2,zz3,zz4,zz5,zz6])
    rw [HBa1.out]
    refine wU (i:=11) (v:=?_) rfl (Or.inl ⟨by rfl,?hy11⟩) hS3 (fun _=>trivial) ?_
    case hy11=>(intro W hSw;(try dsimp only at hSw);go_simp;try with_reducible rfl)
    (try simp only [Act.put,zz1,zz2,zz3,zz4,zz5,zz6])
    refine wU (i:=12) (v:=?_) rfl (Or.inl ⟨by rfl,?hy12⟩) hS3 (fun _=>trivial) ?_
    case hy12=>(intro W hSw;(try dsimp only at hSw);go_simp;try with_reducible rfl)
    (try simp only [Act.put,zz1,zz2,zz3,zz4,zz5,zz6])
    refine wU (i:=13) (v:=undef) rfl (Or.inr ⟨by rfl,rfl⟩) hS3 (fun _=>trivial) ?_
    (try simp only [Act.put,zz1,zz2,zz3,zz4,zz5,zz6])
    refine wU (i:=14) (v:=undef) rfl (Or.inr ⟨by rfl,rfl⟩) hS3 (fun _=>trivial) ?_
    (try simp only [Act.put,zz1,zz2,zz3,zz4,zz5,zz6])
    refine wU (i:=15) (v:=undef) rfl (Or.inr ⟨by rfl,rfl⟩) hS3 (fun _=>trivial) ?_
    (try simp only [Act.put,zz1,zz2,zz3,zz4,zz5,zz6])
    refine wU (i:=16) (v:=undef) rfl (Or.inr ⟨by rfl,rfl⟩) hS3 (fun _=>trivial) ?_
    (try simp only [Act.put,zz1,zz2,zz3,zz4,zz5,zz6])
    refine wU (i:=17) (v:=undef) rfl (Or.inr ⟨by rfl,rfl⟩) hS3 (fun _=>trivial) ?_
    (try simp only [Act.put,zz1,zz2,zz3,zz4,zz5,zz6])
    refine wU (i:=18) (v:=?_) rfl (Or.inl ⟨by rfl,?hy18⟩) hS3 (fun _=>trivial) ?_
    case hy18=>(intro W hSw;(try dsimp only at hSw);go_simp;try with_reducible rfl)
    (try simp only [Act.put,zz1,zz2,zz3,zz4,zz5,zz6])
    refine wU (i:=19) (v:=?_) rfl (Or.inl ⟨by rfl,?hy19⟩) hS3 (fun _=>trivial) ?_
    case hy19=>(intro W hSw;(try dsimp only at hSw);go_simp;try with_reducible rfl)
    (try simp only [Act.put,zz1,zz2,zz3,zz4,zz5,zz6])
    refine wU (i:=20) (v:=undef) rfl (Or.inr ⟨by rfl,rfl⟩) hS3 (fun _=>trivial) ?_
    (try simp only [Act.put,zz1,zz2,zz3,zz4,zz5,zz6])
    refine wU (i:=21) (v:=undef) rfl (Or.inr ⟨by rfl,rfl⟩) hS3 (fun _=>trivial) ?_
    (try simp only [Act.put,zz1,zz2,zz3,zz4,zz5,zz6])
    refine wU (i:=22) (v:=undef) rfl (Or.inr ⟨by rfl,rfl⟩) hS3 (fun _=>trivial) ?_
    (try simp only [Act.put,zz1,zz2,zz3,zz4,zz5,zz6])
    refine wU (i:=23) (v:=?_) rfl (Or.inl ⟨by rfl,?hy23⟩) hS3 (fun _=>trivial) ?_
    case hy23=>(intro W hSw;(try dsimp only at hSw);go_simp;try with_reducible rfl)
    (try simp only [Act.put,zz1,zz2,zz3,zz4,zz5,zz6])
    refine wU (i:=24) (v:=?_) rfl (Or.inl ⟨by rfl,?hy24⟩) hS3 (fun _=>trivial) ?_
    case hy24=>(intro W hSw;(try dsimp only at hSw);go_simp;try with_reducible rfl)
    (try simp only [Act.put,zz1,zz2,zz3,zz4,zz5,zz6])
    refine wU (i:=25) (v:=?_) rfl (Or.inl ⟨by rfl,?hy25⟩) hS3 (fun _=>trivial) ?_
    case hy25=>(intro W hSw;(try dsimp only at hSw);go_simp;try with_reducible rfl)
    (try simp only [Act.put,zz1,zz2,zz3,zz4,zz5,zz6])
    refine wE (by kernel_rfl) ?_
    have hB3:=hB0.drew.trans (hb3.mono hB0.size)
    have HFin:Hid (ShapePost xs t p w (.returned (.tuple #[.slice none 0 0,.bool false])) w3):=⟨_,[],by rw [HNB.out,HE1.out,HE2.out,HBa1.out] <;> rfl,hB3,Fresh.nil _ _,fun _=>by rw [HTY.out];exact Arr.nil⟩
    clear y0 y1 z0 z1 z2 z3 z4 z5 klt klt2
    clear hb3 hS1 hS3 hT1
    go_wp2
    go_ret2
    exact HFin.out
   |true =>
    have HBa1:=jj a1
    clear a1
    cases a2:decide (p.n≤p.m) with
    |false =>
     have HBa2:=jj a2
     clear a2
     refine wR (rs:=[5]) (by kernel_rfl) (by simp) ?_
     refine AllReadyB.c rfl (fun K hK=>?_) AllReadyB.n
     go_simp
     go_at_call 86
     with_reducible refine hc.mono ?_
     rintro e w3 ⟨rfl,hb3⟩
     have hS3:Blk w3 w.heap.size 35 #[.int .i64 t.d,.int .i64 t.i]∧Blk w3 (w.heap.size+1) 38 #[.int .i64 p.op,.int .i64 p.ct,.int .i64 p.n,.int .i64 p.m,.int .i64 p.va,.slice A4 p.ks.length cap4]:=⟨hS1.1.same (hb3.block _ hS1.1.lt),hS1.2.same (hb3.block _ hS1.2.lt)⟩
     dsimp only
     refine hK.out _ _ hS3 (fun _=>trivial) ?_
     clear hK K
     (try simp only [Act.put,zz1,zz2,zz3,zz4,zz5,zz6])
     refine wU (i:=6) (v:=?_) rfl (Or.inl ⟨by rfl,?hy6⟩) hS3 (fun _=>trivial) ?_
     case hy6=>(intro W hSw;(try dsimp only at hSw);go_simp;try with_reducible rfl)
     (try simp only [Act.put,zz1,zz2,zz3,zz4,zz5,zz6])
     refine wU (i:=7) (v:=?_) rfl (Or.inl ⟨by rfl,?hy7⟩) hS3 (fun _=>trivial) ?_
     case hy7=>(intro W hSw;(try dsimp only at hSw);go_simp;try with_reducible rfl)
     (try simp only [Act.put,zz1,zz2,zz3,zz4,zz5,zz6])
     refine wU (i:=8) (v:=?_) rfl (Or.inl ⟨by rfl,?hy8⟩) hS3 (fun _=>trivial) ?_
     case hy8=>(intro W hSw;(try dsimp only at hSw);go_simp;try with_reducible rfl)
     (try simp only [Act.put,zz1,zz2,zz3,zz4,zz5,zz6])
     refine wU (i:=9) (v:=?_) rfl (Or.inl ⟨by rfl,?hy9⟩) hS3 (fun _=>trivial) ?_
     case hy9=>(intro W hSw;(try dsimp only at hSw);obtain ⟨kt,kp⟩:=hSw;have y0:W.cell? ⟨w.heap.size,0,none⟩=some (.int .i64 t.d):=(kt.cell 0).trans (by simp);have y1:W.cell? ⟨w.heap.size,1,none⟩=some (.int .i64 t.i):=(kt.cell 1).trans (by simp);have z0:W.cell? ⟨w.heap.size+1,0,none⟩=some (.int .i64 p.op):=(kp.cell 0).trans (by simp);have z1:W.cell? ⟨w.heap.size+1,1,none⟩=some (.int .i64 p.ct):=(kp.cell 1).trans (by simp);have z2:W.cell? ⟨w.heap.size+1,2,none⟩=some (.int .i64 p.n):=(kp.cell 2).trans (by simp);have z3:W.cell? ⟨w.heap.size+1,3,none⟩=some (.int .i64 p.m):=(kp.cell 3).trans (by simp);have z4:W.cell? ⟨w.heap.size+1,4,none⟩=some (.int .i64 p.va):=(kp.cell 4).trans (by simp);have z5:W.cell? ⟨w.heap.size+1,5,none⟩=some (.slice A4 p.ks.length cap4):=(kp.cell 5).trans (by simp);go_simp;try with_reducible rfl)
     (try simp only [Act.put,zz1,zz2,zz3,zz4,zz5,zz6])
     refine wU (i:=10) (v:=?_) rfl (Or.inl ⟨by rfl,?hy10⟩) hS3 (fun _=>trivial) ?_
     case hy10=>(intro W hSw;(try dsimp only at hSw);go_simp;try with_reducible rfl)
     (try simp only [Act.put,zz1,zz2,zz3,zz4,zz5,zz6])
     rw [HBa1.out]
     refine wU (i:=11) (v:=?_) rfl (Or.inl ⟨by rfl,?hy11⟩) hS3 (fun _=>trivial) ?_
     case hy11=>(intro W hSw;(try dsimp only at hSw);go_simp;try with_reducible rfl)
     (try simp only [Act.put,zz1,zz2,zz3,zz4,zz5,zz6])
     refine wU (i:=12) (v:=?_) rfl (Or.inl ⟨by rfl,?hy12⟩) hS3 (fun _=>trivial) ?_
     case hy12=>(intro W hSw;(try dsimp only at hSw);go_simp;try with_reducible rfl)
     (try simp only [Act.put,zz1,zz2,zz3,zz4,zz5,zz6])
     refine wU (i:=13) (v:=?_) rfl (Or.inl ⟨by rfl,?hy13⟩) hS3 (fun _=>trivial) ?_
     case hy13=>(intro W hSw;(try dsimp only at hSw);go_simp;try with_reducible rfl)
     (try simp only [Act.put,zz1,zz2,zz3,zz4,zz5,zz6])
     refine wU (i:=14) (v:=?_) rfl (Or.inl ⟨by rfl,?hy14⟩) hS3 (fun _=>trivial) ?_
     case hy14=>(intro W hSw;(try dsimp only at hSw);obtain ⟨kt,kp⟩:=hSw;have y0:W.cell? ⟨w.heap.size,0,none⟩=some (.int .i64 t.d):=(kt.cell 0).trans (by simp);have y1:W.cell? ⟨w.heap.size,1,none⟩=some (.int .i64 t.i):=(kt.cell 1).trans (by simp);have z0:W.cell? ⟨w.heap.size+1,0,none⟩=some (.int .i64 p.op):=(kp.cell 0).trans (by simp);have z1:W.cell? ⟨w.heap.size+1,1,none⟩=some (.int .i64 p.ct):=(kp.cell 1).trans (by simp);have z2:W.cell? ⟨w.heap.size+1,2,none⟩=some (.int .i64 p.n):=(kp.cell 2).trans (by simp);have z3:W.cell? ⟨w.heap.size+1,3,none⟩=some (.int .i64 p.m):=(kp.cell 3).trans (by simp);have z4:W.cell? ⟨w.heap.size+1,4,none⟩=some (.int .i64 p.va):=(kp.cell 4).trans (by simp);have z5:W.cell? ⟨w.heap.size+1,5,none⟩=some (.slice A4 p.ks.length cap4):=(kp.cell 5).trans (by simp);go_simp;try with_reducible rfl)
     (try simp only [Act.put,zz1,zz2,zz3,zz4,zz5,zz6])
     refine wU (i:=15) (v:=?_) rfl (Or.inl ⟨by rfl,?hy15⟩) hS3 (fun _=>trivial) ?_
     case hy15=>(intro W hSw;(try dsimp only at hSw);go_simp;try with_reducible rfl)
     (try simp only [Act.put,zz1,zz2,zz3,zz4,zz5,zz6])
     refine wU (i:=16) (v:=?_) rfl (Or.inl ⟨by rfl,?hy16⟩) hS3 (fun _=>trivial) ?_
     case hy16=>(intro W hSw;(try dsimp only at hSw);obtain ⟨kt,kp⟩:=hSw;have y0:W.cell? ⟨w.heap.size,0,none⟩=some (.int .i64 t.d):=(kt.cell 0).trans (by simp);have y1:W.cell? ⟨w.heap.size,1,none⟩=some (.int .i64 t.i):=(kt.cell 1).trans (by simp);have z0:W.cell? ⟨w.heap.size+1,0,none⟩=some (.int .i64 p.op):=(kp.cell 0).trans (by simp);have z1:W.cell? ⟨w.heap.size+1,1,none⟩=some (.int .i64 p.ct):=(kp.cell 1).trans (by simp);have z2:W.cell? ⟨w.heap.size+1,2,none⟩=some (.int .i64 p.n):=(kp.cell 2).trans (by simp);have z3:W.cell? ⟨w.heap.size+1,3,none⟩=some (.int .i64 p.m):=(kp.cell 3).trans (by simp);have z4:W.cell? ⟨w.heap.size+1,4,none⟩=some (.int .i64 p.va):=(kp.cell 4).trans (by simp);have z5:W.cell? ⟨w.heap.size+1,5,none⟩=some (.slice A4 p.ks.length cap4):=(kp.cell 5).trans (by simp);go_simp;try with_reducible rfl)
     (try simp only [Act.put,zz1,zz2,zz3,zz4,zz5,zz6])
     refine wU (i:=17) (v:=?_) rfl (Or.inl ⟨by rfl,?hy17⟩) hS3 (fun _=>trivial) ?_
     case hy17=>(intro W hSw;(try dsimp only at hSw);go_simp;try with_reducible rfl)
     (try simp only [Act.put,zz1,zz2,zz3,zz4,zz5,zz6])
     rw [HBa2.out]
     refine wU (i:=18) (v:=?_) rfl (Or.inl ⟨by rfl,?hy18⟩) hS3 (fun _=>trivial) ?_
     case hy18=>(intro W hSw;(try dsimp only at hSw);go_simp;try with_reducible rfl)
     (try simp only [Act.put,zz1,zz2,zz3,zz4,zz5,zz6])
     refine wU (i:=19) (v:=?_) rfl (Or.inl ⟨by rfl,?hy19⟩) hS3 (fun _=>trivial) ?_
     case hy19=>(intro W hSw;(try dsimp only at hSw);go_simp;try with_reducible rfl)
     (try simp only [Act.put,zz1,zz2,zz3,zz4,zz5,zz6])
     refine wU (i:=20) (v:=undef) rfl (Or.inr ⟨by rfl,rfl⟩) hS3 (fun _=>trivial) ?_
     (try simp only [Act.put,zz1,zz2,zz3,zz4,zz5,zz6])
     refine wU (i:=21) (v:=undef) rfl (Or.inr ⟨by rfl,rfl⟩) hS3 (fun _=>trivial) ?_
     (try simp only [Act.put,zz1,zz2,zz3,zz4,zz5,zz6])
     refine wU (i:=22) (v:=undef) rfl (Or.inr ⟨by rfl,rfl⟩) hS3 (fun _=>trivial) ?_
     (try simp only [Act.put,zz1,zz2,zz3,zz4,zz5,zz6])
     refine wU (i:=23) (v:=?_) rfl (Or.inl ⟨by rfl,?hy23⟩) hS3 (fun _=>trivial) ?_
     case hy23=>(intro W hSw;(try dsimp only at hSw);go_simp;try with_reducible rfl)
     (try simp only [Act.put,zz1,zz2,zz3,zz4,zz5,zz6])
     refine wU (i:=24) (v:=?_) rfl (Or.inl ⟨by rfl,?hy24⟩) hS3 (fun _=>trivial) ?_
     case hy24=>(intro W hSw;(try dsimp only at hSw);go_simp;try with_reducible rfl)
     (try simp only [Act.put,zz1,zz2,zz3,zz4,zz5,zz6])
     refine wU (i:=25) (v:=?_) rfl (Or.inl ⟨by rfl,?hy25⟩) hS3 (fun _=>trivial) ?_
     case hy25=>(intro W hSw;(try dsimp only at hSw);go_simp;try with_reducible rfl)
     (try simp only [Act.put,zz1,zz2,zz3,zz4,zz5,zz6])
     refine wE (by kernel_rfl) ?_
     have hB3:=hB0.drew.trans (hb3.mono hB0.size)
     have HFin:Hid (ShapePost xs t p w (.returned (.tuple #[.slice none 0 0,.bool false])) w3):=⟨_,[],by rw [HNB.out,HE1.out,HE2.out,HBa1.out,HBa2.out] <;> rfl,hB3,Fresh.nil _ _,fun _=>by rw [HTY.out];exact Arr.nil⟩
     clear y0 y1 z0 z1 z2 z3 z4 z5 klt klt2
     clear hb3 hS1 hS3 hT1
     go_wp2
     go_ret2
     exact HFin.out
    |true =>
     have HBa2:=jj a2
     clear a2
     cases a3:decide (p.m≤9) with
     |false =>
      have HBa3:=jj a3
      clear a3
      refine wR (rs:=[5]) (by kernel_rfl) (by simp) ?_
      refine AllReadyB.c rfl (fun K hK=>?_) AllReadyB.n
      go_simp
      go_at_call 86
      with_reducible refine hc.mono ?_
      rintro e w3 ⟨rfl,hb3⟩
      have hS3:Blk w3 w.heap.size 35 #[.int .i64 t.d,.int .i64 t.i]∧Blk w3 (w.heap.size+1) 38 #[.int .i64 p.op,.int .i64 p.ct,.int .i64 p.n,.int .i64 p.m,.int .i64 p.va,.slice A4 p.ks.length cap4]:=⟨hS1.1.same (hb3.block _ hS1.1.lt),hS1.2.same (hb3.block _ hS1.2.lt)⟩
      dsimp only
      refine hK.out _ _ hS3 (fun _=>trivial) ?_
      clear hK K
      (try simp only [Act.put,zz1,zz2,zz3,zz4,zz5,zz6])
      refine wU (i:=6) (v:=?_) rfl (Or.inl ⟨by rfl,?hy6⟩) hS3 (fun _=>trivial) ?_
      case hy6=>(intro W hSw;(try dsimp only at hSw);go_simp;try with_reducible rfl)
      (try simp only [Act.put,zz1,zz2,zz3,zz4,zz5,zz6])
      refine wU (i:=7) (v:=?_) rfl (Or.inl ⟨by rfl,?hy7⟩) hS3 (fun _=>trivial) ?_
      case hy7=>(intro W hSw;(try dsimp only at hSw);go_simp;try with_reducible rfl)
      (try simp only [Act.put,zz1,zz2,zz3,zz4,zz5,zz6])
      refine wU (i:=8) (v:=?_) rfl (Or.inl ⟨by rfl,?hy8⟩) hS3 (fun _=>trivial) ?_
      case hy8=>(intro W hSw;(try dsimp only at hSw);go_simp;try with_reducible rfl)
      (try simp only [Act.put,zz1,zz2,zz3,zz4,zz5,zz6])
      refine wU (i:=9) (v:=?_) rfl (Or.inl ⟨by rfl,?hy9⟩) hS3 (fun _=>trivial) ?_
      case hy9=>(intro W hSw;(try dsimp only at hSw);obtain ⟨kt,kp⟩:=hSw;have y0:W.cell? ⟨w.heap.size,0,none⟩=some (.int .i64 t.d):=(kt.cell 0).trans (by simp);have y1:W.cell? ⟨w.heap.size,1,none⟩=some (.int .i64 t.i):=(kt.cell 1).trans (by simp);have z0:W.cell? ⟨w.heap.size+1,0,none⟩=some (.int .i64 p.op):=(kp.cell 0).trans (by simp);have z1:W.cell? ⟨w.heap.size+1,1,none⟩=some (.int .i64 p.ct):=(kp.cell 1).trans (by simp);have z2:W.cell? ⟨w.heap.size+1,2,none⟩=some (.int .i64 p.n):=(kp.cell 2).trans (by simp);have z3:W.cell? ⟨w.heap.size+1,3,none⟩=some (.int .i64 p.m):=(kp.cell 3).trans (by simp);have z4:W.cell? ⟨w.heap.size+1,4,none⟩=some (.int .i64 p.va):=(kp.cell 4).trans (by simp);have z5:W.cell? ⟨w.heap.size+1,5,none⟩=some (.slice A4 p.ks.length cap4):=(kp.cell 5).trans (by simp);go_simp;try with_reducible rfl)
      (try simp only [Act.put,zz1,zz2,zz3,zz4,zz5,zz6])
      refine wU (i:=10) (v:=?_) rfl (Or.inl ⟨by rfl,?hy10⟩) hS3 (fun _=>trivial) ?_
      case hy10=>(intro W hSw;(try dsimp only at hSw);go_simp;try with_reducible rfl)
      (try simp only [Act.put,zz1,zz2,zz3,zz4,zz5,zz6])
      rw [HBa1.out]
      refine wU (i:=11) (v:=?_) rfl (Or.inl ⟨by rfl,?hy11⟩) hS3 (fun _=>trivial) ?_
      case hy11=>(intro W hSw;(try dsimp only at hSw);go_simp;try with_reducible rfl)
      (try simp only [Act.put,zz1,zz2,zz3,zz4,zz5,zz6])
      refine wU (i:=12) (v:=?_) rfl (Or.inl ⟨by rfl,?hy12⟩) hS3 (fun _=>trivial) ?_
      case hy12=>(intro W hSw;(try dsimp only at hSw);go_simp;try with_reducible rfl)
      (try simp only [Act.put,zz1,zz2,zz3,zz4,zz5,zz6])
      refine wU (i:=13) (v:=?_) rfl (Or.inl ⟨by rfl,?hy13⟩) hS3 (fun _=>trivial) ?_
      case hy13=>(intro W hSw;(try dsimp only at hSw);go_simp;try with_reducible rfl)
      (try simp only [Act.put,zz1,zz2,zz3,zz4,zz5,zz6])
      refine wU (i:=14) (v:=?_) rfl (Or.inl ⟨by rfl,?hy14⟩) hS3 (fun _=>trivial) ?_
      case hy14=>(intro W hSw;(try dsimp only at hSw);obtain ⟨kt,kp⟩:=hSw;have y0:W.cell? ⟨w.heap.size,0,none⟩=some (.int .i64 t.d):=(kt.cell 0).trans (by simp);have y1:W.cell? ⟨w.heap.size,1,none⟩=some (.int .i64 t.i):=(kt.cell 1).trans (by simp);have z0:W.cell? ⟨w.heap.size+1,0,none⟩=some (.int .i64 p.op):=(kp.cell 0).trans (by simp);have z1:W.cell? ⟨w.heap.size+1,1,none⟩=some (.int .i64 p.ct):=(kp.cell 1).trans (by simp);have z2:W.cell? ⟨w.heap.size+1,2,none⟩=some (.int .i64 p.n):=(kp.cell 2).trans (by simp);have z3:W.cell? ⟨w.heap.size+1,3,none⟩=some (.int .i64 p.m):=(kp.cell 3).trans (by simp);have z4:W.cell? ⟨w.heap.size+1,4,none⟩=some (.int .i64 p.va):=(kp.cell 4).trans (by simp);have z5:W.cell? ⟨w.heap.size+1,5,none⟩=some (.slice A4 p.ks.length cap4):=(kp.cell 5).trans (by simp);go_simp;try with_reducible rfl)
      (try simp only [Act.put,zz1,zz2,zz3,zz4,zz5,zz6])
      refine wU (i:=15) (v:=?_) rfl (Or.inl ⟨by rfl,?hy15⟩) hS3 (fun _=>trivial) ?_
      case hy15=>(intro W hSw;(try dsimp only at hSw);go_simp;try with_reducible rfl)
      (try simp only [Act.put,zz1,zz2,zz3,zz4,zz5,zz6])
      refine wU (i:=16) (v:=?_) rfl (Or.inl ⟨by rfl,?hy16⟩) hS3 (fun _=>trivial) ?_
      case hy16=>(intro W hSw;(try dsimp only at hSw);obtain ⟨kt,kp⟩:=hSw;have y0:W.cell? ⟨w.heap.size,0,none⟩=some (.int .i64 t.d):=(kt.cell 0).trans (by simp);have y1:W.cell? ⟨w.heap.size,1,none⟩=some (.int .i64 t.i):=(kt.cell 1).trans (by simp);have z0:W.cell? ⟨w.heap.size+1,0,none⟩=some (.int .i64 p.op):=(kp.cell 0).trans (by simp);have z1:W.cell? ⟨w.heap.size+1,1,none⟩=some (.int .i64 p.ct):=(kp.cell 1).trans (by simp);have z2:W.cell? ⟨w.heap.size+1,2,none⟩=some (.int .i64 p.n):=(kp.cell 2).trans (by simp);have z3:W.cell? ⟨w.heap.size+1,3,none⟩=some (.int .i64 p.m):=(kp.cell 3).trans (by simp);have z4:W.cell? ⟨w.heap.size+1,4,none⟩=some (.int .i64 p.va):=(kp.cell 4).trans (by simp);have z5:W.cell? ⟨w.heap.size+1,5,none⟩=some (.slice A4 p.ks.length cap4):=(kp.cell 5).trans (by simp);go_simp;try with_reducible rfl)
      (try simp only [Act.put,zz1,zz2,zz3,zz4,zz5,zz6])
      refine wU (i:=17) (v:=?_) rfl (Or.inl ⟨by rfl,?hy17⟩) hS3 (fun _=>trivial) ?_
      case hy17=>(intro W hSw;(try dsimp only at hSw);go_simp;try with_reducible rfl)
      (try simp only [Act.put,zz1,zz2,zz3,zz4,zz5,zz6])
      rw [HBa2.out]
      refine wU (i:=18) (v:=?_) rfl (Or.inl ⟨by rfl,?hy18⟩) hS3 (fun _=>trivial) ?_
      case hy18=>(intro W hSw;(try dsimp only at hSw);go_simp;try with_reducible rfl)
      (try simp only [Act.put,zz1,zz2,zz3,zz4,zz5,zz6])
      refine wU (i:=19) (v:=?_) rfl (Or.inl ⟨by rfl,?hy19⟩) hS3 (fun _=>trivial) ?_
      case hy19=>(intro W hSw;(try dsimp only at hSw);go_simp;try with_reducible rfl)
      (try simp only [Act.put,zz1,zz2,zz3,zz4,zz5,zz6])
      refine wU (i:=20) (v:=?_) rfl (Or.inl ⟨by rfl,?hy20⟩) hS3 (fun _=>trivial) ?_
      case hy20=>(intro W hSw;(try dsimp only at hSw);go_simp;try with_reducible rfl)
      (try simp only [Act.put,zz1,zz2,zz3,zz4,zz5,zz6])
      refine wU (i:=21) (v:=?_) rfl (Or.inl ⟨by rfl,?hy21⟩) hS3 (fun _=>trivial) ?_
      case hy21=>(intro W hSw;(try dsimp only at hSw);obtain ⟨kt,kp⟩:=hSw;have y0:W.cell? ⟨w.heap.size,0,none⟩=some (.int .i64 t.d):=(kt.cell 0).trans (by simp);have y1:W.cell? ⟨w.heap.size,1,none⟩=some (.int .i64 t.i):=(kt.cell 1).trans (by simp);have z0:W.cell? ⟨w.heap.size+1,0,none⟩=some (.int .i64 p.op):=(kp.cell 0).trans (by simp);have z1:W.cell? ⟨w.heap.size+1,1,none⟩=some (.int .i64 p.ct):=(kp.cell 1).trans (by simp);have z2:W.cell? ⟨w.heap.size+1,2,none⟩=some (.int .i64 p.n):=(kp.cell 2).trans (by simp);have z3:W.cell? ⟨w.heap.size+1,3,none⟩=some (.int .i64 p.m):=(kp.cell 3).trans (by simp);have z4:W.cell? ⟨w.heap.size+1,4,none⟩=some (.int .i64 p.va):=(kp.cell 4).trans (by simp);have z5:W.cell? ⟨w.heap.size+1,5,none⟩=some (.slice A4 p.ks.length cap4):=(kp.cell 5).trans (by simp);go_simp;try with_reducible rfl)
      (try simp only [Act.put,zz1,zz2,zz3,zz4,zz5,zz6])
      refine wU (i:=22) (v:=?_) rfl (Or.inl ⟨by rfl,?hy22⟩) hS3 (fun _=>trivial) ?_
      case hy22=>(intro W hSw;(try dsimp only at hSw);go_simp;try with_reducible rfl)
      (try simp only [Act.put,zz1,zz2,zz3,zz4,zz5,zz6])
      rw [HBa3.out]
      refine wU (i:=23) (v:=?_) rfl (Or.inl ⟨by rfl,?hy23⟩) hS3 (fun _=>trivial) ?_
      case hy23=>(intro W hSw;(try dsimp only at hSw);go_simp;try with_reducible rfl)
      (try simp only [Act.put,zz1,zz2,zz3,zz4,zz5,zz6])
      refine wU (i:=24) (v:=?_) rfl (Or.inl ⟨by rfl,?hy24⟩) hS3 (fun _=>trivial) ?_
      case hy24=>(intro W hSw;(try dsimp only at hSw);go_simp;try with_reducible rfl)
      (try simp only [Act.put,zz1,zz2,zz3,zz4,zz5,zz6])
      refine wU (i:=25) (v:=?_) rfl (Or.inl ⟨by rfl,?hy25⟩) hS3 (fun _=>trivial) ?_
      case hy25=>(intro W hSw;(try dsimp only at hSw);go_simp;try with_reducible rfl)
      (try simp only [Act.put,zz1,zz2,zz3,zz4,zz5,zz6])
      refine wE (by kernel_rfl) ?_
      have hB3:=hB0.drew.trans (hb3.mono hB0.size)
      have HFin:Hid (ShapePost xs t p w (.returned (.tuple #[.slice none 0 0,.bool false])) w3):=⟨_,[],by rw [HNB.out,HE1.out,HE2.out,HBa1.out,HBa2.out,HBa3.out] <;> rfl,hB3,Fresh.nil _ _,fun _=>by rw [HTY.out];exact Arr.nil⟩
      clear y0 y1 z0 z1 z2 z3 z4 z5 klt klt2
      clear hb3 hS1 hS3 hT1
      go_wp2
      go_ret2
      exact HFin.out
     |true =>
      have HBa3:=jj a3
      clear a3
      refine wR (rs:=[5]) (by kernel_rfl) (by simp) ?_
      refine AllReadyB.c rfl (fun K hK=>?_) AllReadyB.n
      go_simp
      go_at_call 86
      with_reducible refine hc.mono ?_
      rintro e w3 ⟨rfl,hb3⟩
      have hS3:Blk w3 w.heap.size 35 #[.int .i64 t.d,.int .i64 t.i]∧Blk w3 (w.heap.size+1) 38 #[.int .i64 p.op,.int .i64 p.ct,.int .i64 p.n,.int .i64 p.m,.int .i64 p.va,.slice A4 p.ks.length cap4]:=⟨hS1.1.same (hb3.block _ hS1.1.lt),hS1.2.same (hb3.block _ hS1.2.lt)⟩
      dsimp only
      refine hK.out _ _ hS3 (fun _=>trivial) ?_
      clear hK K
      (try simp only [Act.put,zz1,zz2,zz3,zz4,zz5,zz6])
      refine wU (i:=6) (v:=?_) rfl (Or.inl ⟨by rfl,?hy6⟩) hS3 (fun _=>trivial) ?_
      case hy6=>(intro W hSw;(try dsimp only at hSw);go_simp;try with_reducible rfl)
      (try simp only [Act.put,zz1,zz2,zz3,zz4,zz5,zz6])
      refine wU (i:=7) (v:=?_) rfl (Or.inl ⟨by rfl,?hy7⟩) hS3 (fun _=>trivial) ?_
      case hy7=>(intro W hSw;(try dsimp only at hSw);go_simp;try with_reducible rfl)
      (try simp only [Act.put,zz1,zz2,zz3,zz4,zz5,zz6])
      refine wU (i:=8) (v:=?_) rfl (Or.inl ⟨by rfl,?hy8⟩) hS3 (fun _=>trivial) ?_
      case hy8=>(intro W hSw;(try dsimp only at hSw);go_simp;try with_reducible rfl)
      (try simp only [Act.put,zz1,zz2,zz3,zz4,zz5,zz6])
      refine wU (i:=9) (v:=?_) rfl (Or.inl ⟨by rfl,?hy9⟩) hS3 (fun _=>trivial) ?_
      case hy9=>(intro W hSw;(try dsimp only at hSw);obtain ⟨kt,kp⟩:=hSw;have y0:W.cell? ⟨w.heap.size,0,none⟩=some (.int .i64 t.d):=(kt.cell 0).trans (by simp);have y1:W.cell? ⟨w.heap.size,1,none⟩=some (.int .i64 t.i):=(kt.cell 1).trans (by simp);have z0:W.cell? ⟨w.heap.size+1,0,none⟩=some (.int .i64 p.op):=(kp.cell 0).trans (by simp);have z1:W.cell? ⟨w.heap.size+1,1,none⟩=some (.int .i64 p.ct):=(kp.cell 1).trans (by simp);have z2:W.cell? ⟨w.heap.size+1,2,none⟩=some (.int .i64 p.n):=(kp.cell 2).trans (by simp);have z3:W.cell? ⟨w.heap.size+1,3,none⟩=some (.int .i64 p.m):=(kp.cell 3).trans (by simp);have z4:W.cell? ⟨w.heap.size+1,4,none⟩=some (.int .i64 p.va):=(kp.cell 4).trans (by simp);have z5:W.cell? ⟨w.heap.size+1,5,none⟩=some (.slice A4 p.ks.length cap4):=(kp.cell 5).trans (by simp);go_simp;try with_reducible rfl)
      (try simp only [Act.put,zz1,zz2,zz3,zz4,zz5,zz6])
      refine wU (i:=10) (v:=?_) rfl (Or.inl ⟨by rfl,?hy10⟩) hS3 (fun _=>trivial) ?_
      case hy10=>(intro W hSw;(try dsimp only at hSw);go_simp;try with_reducible rfl)
      (try simp only [Act.put,zz1,zz2,zz3,zz4,zz5,zz6])
      rw [HBa1.out]
      refine wU (i:=11) (v:=?_) rfl (Or.inl ⟨by rfl,?hy11⟩) hS3 (fun _=>trivial) ?_
      case hy11=>(intro W hSw;(try dsimp only at hSw);go_simp;try with_reducible rfl)
      (try simp only [Act.put,zz1,zz2,zz3,zz4,zz5,zz6])
      refine wU (i:=12) (v:=?_) rfl (Or.inl ⟨by rfl,?hy12⟩) hS3 (fun _=>trivial) ?_
      case hy12=>(intro W hSw;(try dsimp only at hSw);go_simp;try with_reducible rfl)
      (try simp only [Act.put,zz1,zz2,zz3,zz4,zz5,zz6])
      refine wU (i:=13) (v:=?_) rfl (Or.inl ⟨by rfl,?hy13⟩) hS3 (fun _=>trivial) ?_
      case hy13=>(intro W hSw;(try dsimp only at hSw);go_simp;try with_reducible rfl)
      (try simp only [Act.put,zz1,zz2,zz3,zz4,zz5,zz6])
      refine wU (i:=14) (v:=?_) rfl (Or.inl ⟨by rfl,?hy14⟩) hS3 (fun _=>trivial) ?_
      case hy14=>(intro W hSw;(try dsimp only at hSw);obtain ⟨kt,kp⟩:=hSw;have y0:W.cell? ⟨w.heap.size,0,none⟩=some (.int .i64 t.d):=(kt.cell 0).trans (by simp);have y1:W.cell? ⟨w.heap.size,1,none⟩=some (.int .i64 t.i):=(kt.cell 1).trans (by simp);have z0:W.cell? ⟨w.heap.size+1,0,none⟩=some (.int .i64 p.op):=(kp.cell 0).trans (by simp);have z1:W.cell? ⟨w.heap.size+1,1,none⟩=some (.int .i64 p.ct):=(kp.cell 1).trans (by simp);have z2:W.cell? ⟨w.heap.size+1,2,none⟩=some (.int .i64 p.n):=(kp.cell 2).trans (by simp);have z3:W.cell? ⟨w.heap.size+1,3,none⟩=some (.int .i64 p.m):=(kp.cell 3).trans (by simp);have z4:W.cell? ⟨w.heap.size+1,4,none⟩=some (.int .i64 p.va):=(kp.cell 4).trans (by simp);have z5:W.cell? ⟨w.heap.size+1,5,none⟩=some (.slice A4 p.ks.length cap4):=(kp.cell 5).trans (by simp);go_simp;try with_reducible rfl)
      (try simp only [Act.put,zz1,zz2,zz3,zz4,zz5,zz6])
      refine wU (i:=15) (v:=?_) rfl (Or.inl ⟨by rfl,?hy15⟩) hS3 (fun _=>trivial) ?_
      case hy15=>(intro W hSw;(try dsimp only at hSw);go_simp;try with_reducible rfl)
      (try simp only [Act.put,zz1,zz2,zz3,zz4,zz5,zz6])
      refine wU (i:=16) (v:=?_) rfl (Or.inl ⟨by rfl,?hy16⟩) hS3 (fun _=>trivial) ?_
      case hy16=>(intro W hSw;(try dsimp only at hSw);obtain ⟨kt,kp⟩:=hSw;have y0:W.cell? ⟨w.heap.size,0,none⟩=some (.int .i64 t.d):=(kt.cell 0).trans (by simp);have y1:W.cell? ⟨w.heap.size,1,none⟩=some (.int .i64 t.i):=(kt.cell 1).trans (by simp);have z0:W.cell? ⟨w.heap.size+1,0,none⟩=some (.int .i64 p.op):=(kp.cell 0).trans (by simp);have z1:W.cell? ⟨w.heap.size+1,1,none⟩=some (.int .i64 p.ct):=(kp.cell 1).trans (by simp);have z2:W.cell? ⟨w.heap.size+1,2,none⟩=some (.int .i64 p.n):=(kp.cell 2).trans (by simp);have z3:W.cell? ⟨w.heap.size+1,3,none⟩=some (.int .i64 p.m):=(kp.cell 3).trans (by simp);have z4:W.cell? ⟨w.heap.size+1,4,none⟩=some (.int .i64 p.va):=(kp.cell 4).trans (by simp);have z5:W.cell? ⟨w.heap.size+1,5,none⟩=some (.slice A4 p.ks.length cap4):=(kp.cell 5).trans (by simp);go_simp;try with_reducible rfl)
      (try simp only [Act.put,zz1,zz2,zz3,zz4,zz5,zz6])
      refine wU (i:=17) (v:=?_) rfl (Or.inl ⟨by rfl,?hy17⟩) hS3 (fun _=>trivial) ?_
      case hy17=>(intro W hSw;(try dsimp only at hSw);go_simp;try with_reducible rfl)
      (try simp only [Act.put,zz1,zz2,zz3,zz4,zz5,zz6])
      rw [HBa2.out]
      refine wU (i:=18) (v:=?_) rfl (Or.inl ⟨by rfl,?hy18⟩) hS3 (fun _=>trivial) ?_
      case hy18=>(intro W hSw;(try dsimp only at hSw);go_simp;try with_reducible rfl)
      (try simp only [Act.put,zz1,zz2,zz3,zz4,zz5,zz6])
      refine wU (i:=19) (v:=?_) rfl (Or.inl ⟨by rfl,?hy19⟩) hS3 (fun _=>trivial) ?_
      case hy19=>(intro W hSw;(try dsimp only at hSw);go_simp;try with_reducible rfl)
      (try simp only [Act.put,zz1,zz2,zz3,zz4,zz5,zz6])
      refine wU (i:=20) (v:=?_) rfl (Or.inl ⟨by rfl,?hy20⟩) hS3 (fun _=>trivial) ?_
      case hy20=>(intro W hSw;(try dsimp only at hSw);go_simp;try with_reducible rfl)
      (try simp only [Act.put,zz1,zz2,zz3,zz4,zz5,zz6])
      refine wU (i:=21) (v:=?_) rfl (Or.inl ⟨by rfl,?hy21⟩) hS3 (fun _=>trivial) ?_
      case hy21=>(intro W hSw;(try dsimp only at hSw);obtain ⟨kt,kp⟩:=hSw;have y0:W.cell? ⟨w.heap.size,0,none⟩=some (.int .i64 t.d):=(kt.cell 0).trans (by simp);have y1:W.cell? ⟨w.heap.size,1,none⟩=some (.int .i64 t.i):=(kt.cell 1).trans (by simp);have z0:W.cell? ⟨w.heap.size+1,0,none⟩=some (.int .i64 p.op):=(kp.cell 0).trans (by simp);have z1:W.cell? ⟨w.heap.size+1,1,none⟩=some (.int .i64 p.ct):=(kp.cell 1).trans (by simp);have z2:W.cell? ⟨w.heap.size+1,2,none⟩=some (.int .i64 p.n):=(kp.cell 2).trans (by simp);have z3:W.cell? ⟨w.heap.size+1,3,none⟩=some (.int .i64 p.m):=(kp.cell 3).trans (by simp);have z4:W.cell? ⟨w.heap.size+1,4,none⟩=some (.int .i64 p.va):=(kp.cell 4).trans (by simp);have z5:W.cell? ⟨w.heap.size+1,5,none⟩=some (.slice A4 p.ks.length cap4):=(kp.cell 5).trans (by simp);go_simp;try with_reducible rfl)
      (try simp only [Act.put,zz1,zz2,zz3,zz4,zz5,zz6])
      refine wU (i:=22) (v:=?_) rfl (Or.inl ⟨by rfl,?hy22⟩) hS3 (fun _=>trivial) ?_
      case hy22=>(intro W hSw;(try dsimp only at hSw);go_simp;try with_reducible rfl)
      (try simp only [Act.put,zz1,zz2,zz3,zz4,zz5,zz6])
      rw [HBa3.out]
      refine wU (i:=23) (v:=?_) rfl (Or.inl ⟨by rfl,?hy23⟩) hS3 (fun _=>trivial) ?_
      case hy23=>(intro W hSw;(try dsimp only at hSw);go_simp;try with_reducible rfl)
      (try simp only [Act.put,zz1,zz2,zz3,zz4,zz5,zz6])
      refine wU (i:=24) (v:=?_) rfl (Or.inl ⟨by rfl,?hy24⟩) hS3 (fun _=>trivial) ?_
      case hy24=>(intro W hSw;(try dsimp only at hSw);go_simp;try with_reducible rfl)
      (try simp only [Act.put,zz1,zz2,zz3,zz4,zz5,zz6])
      refine wU (i:=25) (v:=?_) rfl (Or.inl ⟨by rfl,?hy25⟩) hS3 (fun _=>trivial) ?_
      case hy25=>(intro W hSw;(try dsimp only at hSw);go_simp;try with_reducible rfl)
      (try simp only [Act.put,zz1,zz2,zz3,zz4,zz5,zz6])
      refine wE (by kernel_rfl) ?_
      have hB3:=hB0.drew.trans (hb3.mono hB0.size)
      have HFin:Hid (ShapePost xs t p w (.returned (.tuple #[.slice none 0 0,.bool true])) w3):=⟨_,[],by rw [HNB.out,HE1.out,HE2.out,HBa1.out,HBa2.out,HBa3.out] <;> rfl,hB3,Fresh.nil _ _,fun _=>by rw [HTY.out];exact Arr.nil⟩
      clear y0 y1 z0 z1 z2 z3 z4 z5 klt klt2
      clear hb3 hS1 hS3 hT1
      go_wp2
      go_ret2
      exact HFin.out
theorem shape_6 (xs:List Dt) (hw:WorldOK xs) (t:Ty) (ht:TyIn xs.length t) (p:P) (h6:p.op=6) (w:World) (x:Value) (F:List Nat) (cs:List Value) (G:List Nat):Arr w (DtR w) xs x F→Under w.heap.size F→PR w p cs G→Under w.heap.size G →
  Calls Try.prog 80 #[x,.agg #[.int .i64 t.d,.int .i64 t.i],.agg cs.toArray] w (ShapePost xs t p w):=by
 intro hx hf hv hg
 obtain ⟨kv,rfl,ha⟩:=(zA4 _ _ _).1 hv
 obtain ⟨A,cap,rfl,hc1,hc2⟩:=hx.form
 obtain ⟨A4,cap4,rfl,hc3,hc4⟩:=ha.form
 have HV:=jj hv
 have HX:=jj hx
 have HF:=jj hf
 have HA:=jj ha
 have HG:=jj hg
 clear hx hf ha hg
 clear hv
 have HW:=jj hw
 have HT:=jj ht
 clear hw ht
 have o1:(p.op==1)=false:=by simp [h6]
 have o2:(p.op==2)=false:=by simp [h6]
 have o3:(p.op==3)=false:=by simp [h6]
 have o4:(p.op==4)=false:=by simp [h6]
 have o5:(p.op==5)=false:=by simp [h6]
 have o6:(p.op==6)=true:=by simp [h6]
 have HNB:=jj (nodeB_6 (xs:=xs) (t:=t) h6)
 have HTY:=jj (show typesP xs t p=[t] from by rw [typesP_no (by omega),h6];rfl)
 clear h6
 go_enter Try.func80,Try.ntmps80
 go_wp2_with fail
 obtain ⟨W2,hW2⟩:∃ W2,W2=((w.alloc (.cells #[.int .i64 t.d,.int .i64 t.i] 35)).alloc (.cells #[.int .i64 p.op,.int .i64 p.ct,.int .i64 p.n,.int .i64 p.m,.int .i64 p.va,.slice A4 p.ks.length cap4] 38)):=⟨_,rfl⟩
 have hB0:Below w.heap.size w W2:=by rw [hW2];exact ((zy2 _ _).alloc (zz8 _) _).alloc (by simp) _
 have KT:Hid (Blk W2 w.heap.size 35 #[.int .i64 t.d,.int .i64 t.i]):=by rw [hW2];exact (Blk.new w _ _).same (Below.heap_alloc _ _ _ (by simp))
 have KP:Hid (Blk W2 (w.heap.size+1) 38 #[.int .i64 p.op,.int .i64 p.ct,.int .i64 p.n,.int .i64 p.m,.int .i64 p.va,.slice A4 p.ks.length cap4]):=by rw [hW2];have h:=Blk.new (w.alloc (.cells #[.int .i64 t.d,.int .i64 t.i] 35)) 38 #[.int .i64 p.op,.int .i64 p.ct,.int .i64 p.n,.int .i64 p.m,.int .i64 p.va,.slice A4 p.ks.length cap4];rw [World.size_alloc] at h;exact h
 have hws:w.heap.size+2≤W2.heap.size:=by rw [hW2];simp
 have hws2:W2.heap.size=w.heap.size+1+1:=by rw [hW2];simp
 rw [←hW2]
 clear hW2
 have y0:W2.cell? ⟨w.heap.size,0,none⟩=some (.int .i64 t.d):=(KT.out.cell 0).trans (by simp)
 have y1:W2.cell? ⟨w.heap.size,1,none⟩=some (.int .i64 t.i):=(KT.out.cell 1).trans (by simp)
 have klt:=KT.out.lt
 have z0:W2.cell? ⟨w.heap.size+1,0,none⟩=some (.int .i64 p.op):=(KP.out.cell 0).trans (by simp)
 have z1:W2.cell? ⟨w.heap.size+1,1,none⟩=some (.int .i64 p.ct):=(KP.out.cell 1).trans (by simp)
 have z2:W2.cell? ⟨w.heap.size+1,2,none⟩=some (.int .i64 p.n):=(KP.out.cell 2).trans (by simp)
 have z3:W2.cell? ⟨w.heap.size+1,3,none⟩=some (.int .i64 p.m):=(KP.out.cell 3).trans (by simp)
 have z4:W2.cell? ⟨w.heap.size+1,4,none⟩=some (.int .i64 p.va):=(KP.out.cell 4).trans (by simp)
 have z5:W2.cell? ⟨w.heap.size+1,5,none⟩=some (.slice A4 p.ks.length cap4):=(KP.out.cell 5).trans (by simp)
 have klt2:=KP.out.lt
 cases e2:onlyB p false false true 1 with
 |false =>
  have HC:Hid (∀ w1:World,Calls Try.prog 86 #[.agg #[.int .i64 p.op,.int .i64 p.ct,.int .i64 p.n,.int .i64 p.m,.int .i64 p.va,.slice A4 p.ks.length cap4],.bool false,.bool false,.bool true,.int .i64 1] w1 fun e w'=>e=.returned (.bool false)∧Below w1.heap.size w1 w'):=fun w1=>by have h:=impl_only p A4 cap4 false false true 1 w1;rw [e2] at h;exact h
  have HE2:=jj e2
  clear e2
  have HNV:Hid (nodeB xs t p=false):=by rw [HNB.out,HE2.out];rfl
  go_wp2_with fail
  refine zAG (S:=fun w'=>Blk w' w.heap.size 35 #[.int .i64 t.d,.int .i64 t.i]∧Blk w' (w.heap.size+1) 38 #[.int .i64 p.op,.int .i64 p.ct,.int .i64 p.n,.int .i64 p.m,.int .i64 p.va,.slice A4 p.ks.length cap4]) (T:=fun _=>True) (d:=99) (by kernel_rfl) ?_
  have hS1:Blk W2.drew w.heap.size 35 #[.int .i64 t.d,.int .i64 t.i]∧Blk W2.drew (w.heap.size+1) 38 #[.int .i64 p.op,.int .i64 p.ct,.int .i64 p.n,.int .i64 p.m,.int .i64 p.va,.slice A4 p.ks.length cap4]:=⟨KT.out,KP.out⟩
  have hT1:True:=trivial
  refine wU (i:=0) (v:=?_) rfl (Or.inl ⟨by rfl,?hy0⟩) hS1 (fun _=>trivial) ?_
  case hy0=>(intro W hSw;(try dsimp only at hSw);obtain ⟨kt,kp⟩:=hSw;have y0:W.cell? ⟨w.heap.size,0,none⟩=some (.int .i64 t.d):=(kt.cell 0).trans (by simp);have y1:W.cell? ⟨w.heap.size,1,none⟩=some (.int .i64 t.i):=(kt.cell 1).trans (by simp);have z0:W.cell? ⟨w.heap.size+1,0,none⟩=some (.int .i64 p.op):=(kp.cell 0).trans (by simp);have z1:W.cell? ⟨w.heap.size+1,1,none⟩=some (.int .i64 p.ct):=(kp.cell 1).trans (by simp);have z2:W.cell? ⟨w.heap.size+1,2,none⟩=some (.int .i64 p.n):=(kp.cell 2).trans (by simp);have z3:W.cell? ⟨w.heap.size+1,3,none⟩=some (.int .i64 p.m):=(kp.cell 3).trans (by simp);have z4:W.cell? ⟨w.heap.size+1,4,none⟩=some (.int .i64 p.va):=(kp.cell 4).trans (by simp);have z5:W.cell? ⟨w.heap.size+1,5,none⟩=some (.slice A4 p.ks.length cap4):=(kp.cell 5).trans (by simp);go_simp;try with_reducible rfl)
  (try simp only [Act.put,zz1,zz2,zz3,zz4,zz5,zz6])
  refine wU (i:=2) (v:=?_) rfl (Or.inl ⟨by rfl,?hy2⟩) hS1 (fun _=>trivial) ?_
  case hy2=>(intro W hSw;(try dsimp only at hSw);obtain ⟨kt,kp⟩:=hSw;have y0:W.cell? ⟨w.heap.size,0,none⟩=some (.int .i64 t.d):=(kt.cell 0).trans (by simp);have y1:W.cell? ⟨w.heap.size,1,none⟩=some (.int .i64 t.i):=(kt.cell 1).trans (by simp);have z0:W.cell? ⟨w.heap.size+1,0,none⟩=some (.int .i64 p.op):=(kp.cell 0).trans (by simp);have z1:W.cell? ⟨w.heap.size+1,1,none⟩=some (.int .i64 p.ct):=(kp.cell 1).trans (by simp);have z2:W.cell? ⟨w.heap.size+1,2,none⟩=some (.int .i64 p.n):=(kp.cell 2).trans (by simp);have z3:W.cell? ⟨w.heap.size+1,3,none⟩=some (.int .i64 p.m):=(kp.cell 3).trans (by simp);have z4:W.cell? ⟨w.heap.size+1,4,none⟩=some (.int .i64 p.va):=(kp.cell 4).trans (by simp);have z5:W.cell? ⟨w.heap.size+1,5,none⟩=some (.slice A4 p.ks.length cap4):=(kp.cell 5).trans (by simp);go_simp;try with_reducible rfl)
  (try simp only [Act.put,zz1,zz2,zz3,zz4,zz5,zz6])
  refine wR (rs:=[1,3]) (by kernel_rfl) (by simp) ?_
  refine AllReadyB.c rfl (fun K hK=>?_) (AllReadyB.c rfl (fun K hK=>?_) AllReadyB.n)
  ·go_simp
   have hS2:=And.intro (hS1.1.same (Below.heap_alloc _ (.cells #[.int .i64 t.d,.int .i64 t.i] 35) _ hS1.1.lt)) (hS1.2.same (Below.heap_alloc _ (.cells #[.int .i64 t.d,.int .i64 t.i] 35) _ hS1.2.lt))
   refine hK.out _ _ hS2 (fun _=>trivial) ?_
   clear hK K
   (try simp only [Act.put,zz1,zz2,zz3,zz4,zz5,zz6])
   refine wR (rs:=[3]) (by kernel_rfl) (by simp) ?_
   refine AllReadyB.c rfl (fun K hK=>?_) AllReadyB.n
   go_simp
   go_at_call 86
   with_reducible refine (HC.out _).mono ?_
   rintro e w3 ⟨rfl,hb3⟩
   have hS3:Blk w3 w.heap.size 35 #[.int .i64 t.d,.int .i64 t.i]∧Blk w3 (w.heap.size+1) 38 #[.int .i64 p.op,.int .i64 p.ct,.int .i64 p.n,.int .i64 p.m,.int .i64 p.va,.slice A4 p.ks.length cap4]:=⟨hS2.1.same (hb3.block _ hS2.1.lt),hS2.2.same (hb3.block _ hS2.2.lt)⟩
   dsimp only
   refine hK.out _ _ hS3 (fun _=>trivial) ?_
   clear hK K
   (try simp only [Act.put,zz1,zz2,zz3,zz4,zz5,zz6])
   refine wU (i:=4) (v:=?_) rfl (Or.inl ⟨by rfl,?hy4⟩) hS3 (fun _=>trivial) ?_
   case hy4=>(intro W hSw;(try dsimp only at hSw);go_simp;try with_reducible rfl)
   (try simp only [Act.put,zz1,zz2,zz3,zz4,zz5,zz6])
   refine wU (i:=5) (v:=undef) rfl (Or.inr ⟨by rfl,rfl⟩) hS3 (fun _=>trivial) ?_
   (try simp only [Act.put,zz1,zz2,zz3,zz4,zz5,zz6])
   refine wU (i:=6) (v:=undef) rfl (Or.inr ⟨by rfl,rfl⟩) hS3 (fun _=>trivial) ?_
   (try simp only [Act.put,zz1,zz2,zz3,zz4,zz5,zz6])
   refine wU (i:=7) (v:=undef) rfl (Or.inr ⟨by rfl,rfl⟩) hS3 (fun _=>trivial) ?_
   (try simp only [Act.put,zz1,zz2,zz3,zz4,zz5,zz6])
   refine wU (i:=8) (v:=?_) rfl (Or.inl ⟨by rfl,?hy8⟩) hS3 (fun _=>trivial) ?_
   case hy8=>(intro W hSw;(try dsimp only at hSw);go_simp;try with_reducible rfl)
   (try simp only [Act.put,zz1,zz2,zz3,zz4,zz5,zz6])
   refine wU (i:=9) (v:=?_) rfl (Or.inl ⟨by rfl,?hy9⟩) hS3 (fun _=>trivial) ?_
   case hy9=>(intro W hSw;(try dsimp only at hSw);go_simp;try with_reducible rfl)
   (try simp only [Act.put,zz1,zz2,zz3,zz4,zz5,zz6])
   refine wU (i:=10) (v:=?_) rfl (Or.inl ⟨by rfl,?hy10⟩) hS3 (fun _=>trivial) ?_
   case hy10=>(intro W hSw;(try dsimp only at hSw);go_simp;try with_reducible rfl)
   (try simp only [Act.put,zz1,zz2,zz3,zz4,zz5,zz6])
   refine wE (by kernel_rfl) ?_
   obtain ⟨q1,q2,q3⟩:=shape_endA hB0 hws2 hb3
   have HFin:Hid (ShapePost xs t p w (.returned (.tuple #[.slice (some ⟨w.heap.size+1+1,0,none⟩) 1 1,.bool false])) w3):=⟨_,[w.heap.size+1+1],by rw [HNV.out],q1,q2,fun _=>by rw [HTY.out];exact arr_tys1 q3⟩
   clear y0 y1 z0 z1 z2 z3 z4 z5 klt klt2
   clear hS1 hS3 hb3 q1 q2 q3
   go_wp2
   go_ret2
   exact HFin.out
  ·go_simp
   go_at_call 86
   with_reducible refine (HC.out _).mono ?_
   rintro e w3 ⟨rfl,hb3⟩
   have hS3:Blk w3 w.heap.size 35 #[.int .i64 t.d,.int .i64 t.i]∧Blk w3 (w.heap.size+1) 38 #[.int .i64 p.op,.int .i64 p.ct,.int .i64 p.n,.int .i64 p.m,.int .i64 p.va,.slice A4 p.ks.length cap4]:=⟨hS1.1.same (hb3.block _ hS1.1.lt),hS1.2.same (hb3.block _ hS1.2.lt)⟩
   dsimp only
   refine hK.out _ _ hS3 (fun _=>trivial) ?_
   clear hK K
   (try simp only [Act.put,zz1,zz2,zz3,zz4,zz5,zz6])
   refine wU (i:=4) (v:=?_) rfl (Or.inl ⟨by rfl,?hy4⟩) hS3 (fun _=>trivial) ?_
   case hy4=>(intro W hSw;(try dsimp only at hSw);go_simp;try with_reducible rfl)
   (try simp only [Act.put,zz1,zz2,zz3,zz4,zz5,zz6])
   refine wU (i:=5) (v:=undef) rfl (Or.inr ⟨by rfl,rfl⟩) hS3 (fun _=>trivial) ?_
   (try simp only [Act.put,zz1,zz2,zz3,zz4,zz5,zz6])
   refine wU (i:=6) (v:=undef) rfl (Or.inr ⟨by rfl,rfl⟩) hS3 (fun _=>trivial) ?_
   (try simp only [Act.put,zz1,zz2,zz3,zz4,zz5,zz6])
   refine wU (i:=7) (v:=undef) rfl (Or.inr ⟨by rfl,rfl⟩) hS3 (fun _=>trivial) ?_
   (try simp only [Act.put,zz1,zz2,zz3,zz4,zz5,zz6])
   refine wU (i:=8) (v:=?_) rfl (Or.inl ⟨by rfl,?hy8⟩) hS3 (fun _=>trivial) ?_
   case hy8=>(intro W hSw;(try dsimp only at hSw);go_simp;try with_reducible rfl)
   (try simp only [Act.put,zz1,zz2,zz3,zz4,zz5,zz6])
   refine wR (rs:=[1]) (by kernel_rfl) (by simp) ?_
   refine AllReadyB.c rfl (fun K hK=>?_) AllReadyB.n
   go_simp
   have hS4:=And.intro (hS3.1.same (Below.heap_alloc _ (.cells #[.int .i64 t.d,.int .i64 t.i] 35) _ hS3.1.lt)) (hS3.2.same (Below.heap_alloc _ (.cells #[.int .i64 t.d,.int .i64 t.i] 35) _ hS3.2.lt))
   refine hK.out _ _ hS4 (fun _=>trivial) ?_
   clear hK K
   (try simp only [Act.put,zz1,zz2,zz3,zz4,zz5,zz6])
   refine wU (i:=9) (v:=?_) rfl (Or.inl ⟨by rfl,?hy9⟩) hS4 (fun _=>trivial) ?_
   case hy9=>(intro W hSw;(try dsimp only at hSw);go_simp;try with_reducible rfl)
   (try simp only [Act.put,zz1,zz2,zz3,zz4,zz5,zz6])
   refine wU (i:=10) (v:=?_) rfl (Or.inl ⟨by rfl,?hy10⟩) hS4 (fun _=>trivial) ?_
   case hy10=>(intro W hSw;(try dsimp only at hSw);go_simp;try with_reducible rfl)
   (try simp only [Act.put,zz1,zz2,zz3,zz4,zz5,zz6])
   refine wE (by kernel_rfl) ?_
   obtain ⟨q1,q2⟩:=shape_endB hB0 hb3 (.cells #[.int .i64 t.d,.int .i64 t.i] 35)
   have HFin:Hid (ShapePost xs t p w (.returned (.tuple #[.slice (some ⟨w3.heap.size,0,none⟩) 1 1,.bool false])) (w3.alloc (.cells #[.int .i64 t.d,.int .i64 t.i] 35))):=⟨_,[w3.heap.size],by rw [HNV.out],q1,q2,fun _=>by rw [HTY.out];exact arr_tys1 (Blk.new w3 _ _)⟩
   clear y0 y1 z0 z1 z2 z3 z4 z5 klt klt2
   clear hS1 hS3 hb3 q1 q2
   go_wp2
   go_ret2
   exact HFin.out
 |true =>
  have HC:Hid (∀ w1:World,Calls Try.prog 86 #[.agg #[.int .i64 p.op,.int .i64 p.ct,.int .i64 p.n,.int .i64 p.m,.int .i64 p.va,.slice A4 p.ks.length cap4],.bool false,.bool false,.bool true,.int .i64 1] w1 fun e w'=>e=.returned (.bool true)∧Below w1.heap.size w1 w'):=fun w1=>by have h:=impl_only p A4 cap4 false false true 1 w1;rw [e2] at h;exact h
  have HE2:=jj e2
  clear e2
  generalize hbb:withinB p.va 0 5=bb at *
  have HV2:Hid (∀ w1:World,Calls Try.prog 87 #[.int .i64 p.va] w1 fun e w'=>e=.returned (.bool bb)∧w'=w1):=fun w1=>by rw [←hbb];exact impl_isVar p.va w1
  clear hbb
  have HNV:Hid (nodeB xs t p=bb):=by rw [HNB.out,HE2.out];rfl
  go_wp2_with fail
  refine zAG (S:=fun w'=>Blk w' w.heap.size 35 #[.int .i64 t.d,.int .i64 t.i]∧Blk w' (w.heap.size+1) 38 #[.int .i64 p.op,.int .i64 p.ct,.int .i64 p.n,.int .i64 p.m,.int .i64 p.va,.slice A4 p.ks.length cap4]) (T:=fun _=>True) (d:=99) (by kernel_rfl) ?_
  have hS1:Blk W2.drew w.heap.size 35 #[.int .i64 t.d,.int .i64 t.i]∧Blk W2.drew (w.heap.size+1) 38 #[.int .i64 p.op,.int .i64 p.ct,.int .i64 p.n,.int .i64 p.m,.int .i64 p.va,.slice A4 p.ks.length cap4]:=⟨KT.out,KP.out⟩
  have hT1:True:=trivial
  refine wU (i:=0) (v:=?_) rfl (Or.inl ⟨by rfl,?hy0⟩) hS1 (fun _=>trivial) ?_
  case hy0=>(intro W hSw;(try dsimp only at hSw);obtain ⟨kt,kp⟩:=hSw;have y0:W.cell? ⟨w.heap.size,0,none⟩=some (.int .i64 t.d):=(kt.cell 0).trans (by simp);have y1:W.cell? ⟨w.heap.size,1,none⟩=some (.int .i64 t.i):=(kt.cell 1).trans (by simp);have z0:W.cell? ⟨w.heap.size+1,0,none⟩=some (.int .i64 p.op):=(kp.cell 0).trans (by simp);have z1:W.cell? ⟨w.heap.size+1,1,none⟩=some (.int .i64 p.ct):=(kp.cell 1).trans (by simp);have z2:W.cell? ⟨w.heap.size+1,2,none⟩=some (.int .i64 p.n):=(kp.cell 2).trans (by simp);have z3:W.cell? ⟨w.heap.size+1,3,none⟩=some (.int .i64 p.m):=(kp.cell 3).trans (by simp);have z4:W.cell? ⟨w.heap.size+1,4,none⟩=some (.int .i64 p.va):=(kp.cell 4).trans (by simp);have z5:W.cell? ⟨w.heap.size+1,5,none⟩=some (.slice A4 p.ks.length cap4):=(kp.cell 5).trans (by simp);go_simp;try with_reducible rfl)
  (try simp only [Act.put,zz1,zz2,zz3,zz4,zz5,zz6])
  refine wU (i:=2) (v:=?_) rfl (Or.inl ⟨by rfl,?hy2⟩) hS1 (fun _=>trivial) ?_
  case hy2=>(intro W hSw;(try dsimp only at hSw);obtain ⟨kt,kp⟩:=hSw;have y0:W.cell? ⟨w.heap.size,0,none⟩=some (.int .i64 t.d):=(kt.cell 0).trans (by simp);have y1:W.cell? ⟨w.heap.size,1,none⟩=some (.int .i64 t.i):=(kt.cell 1).trans (by simp);have z0:W.cell? ⟨w.heap.size+1,0,none⟩=some (.int .i64 p.op):=(kp.cell 0).trans (by simp);have z1:W.cell? ⟨w.heap.size+1,1,none⟩=some (.int .i64 p.ct):=(kp.cell 1).trans (by simp);have z2:W.cell? ⟨w.heap.size+1,2,none⟩=some (.int .i64 p.n):=(kp.cell 2).trans (by simp);have z3:W.cell? ⟨w.heap.size+1,3,none⟩=some (.int .i64 p.m):=(kp.cell 3).trans (by simp);have z4:W.cell? ⟨w.heap.size+1,4,none⟩=some (.int .i64 p.va):=(kp.cell 4).trans (by simp);have z5:W.cell? ⟨w.heap.size+1,5,none⟩=some (.slice A4 p.ks.length cap4):=(kp.cell 5).trans (by simp);go_simp;try with_reducible rfl)
  (try simp only [Act.put,zz1,zz2,zz3,zz4,zz5,zz6])
  refine wR (rs:=[1,3]) (by kernel_rfl) (by simp) ?_
  refine AllReadyB.c rfl (fun K hK=>?_) (AllReadyB.c rfl (fun K hK=>?_) AllReadyB.n)
  ·go_simp
   have hS2:=And.intro (hS1.1.same (Below.heap_alloc _ (.cells #[.int .i64 t.d,.int .i64 t.i] 35) _ hS1.1.lt)) (hS1.2.same (Below.heap_alloc _ (.cells #[.int .i64 t.d,.int .i64 t.i] 35) _ hS1.2.lt))
   refine hK.out _ _ hS2 (fun _=>trivial) ?_
   clear hK K
   (try simp only [Act.put,zz1,zz2,zz3,zz4,zz5,zz6])
   refine wR (rs:=[3]) (by kernel_rfl) (by simp) ?_
   refine AllReadyB.c rfl (fun K hK=>?_) AllReadyB.n
   go_simp
   go_at_call 86
   with_reducible refine (HC.out _).mono ?_
   rintro e w3 ⟨rfl,hb3⟩
   have hS3:Blk w3 w.heap.size 35 #[.int .i64 t.d,.int .i64 t.i]∧Blk w3 (w.heap.size+1) 38 #[.int .i64 p.op,.int .i64 p.ct,.int .i64 p.n,.int .i64 p.m,.int .i64 p.va,.slice A4 p.ks.length cap4]:=⟨hS2.1.same (hb3.block _ hS2.1.lt),hS2.2.same (hb3.block _ hS2.2.lt)⟩
   dsimp only
   refine hK.out _ _ hS3 (fun _=>trivial) ?_
   clear hK K
   (try simp only [Act.put,zz1,zz2,zz3,zz4,zz5,zz6])
   refine wU (i:=4) (v:=?_) rfl (Or.inl ⟨by rfl,?hy4⟩) hS3 (fun _=>trivial) ?_
   case hy4=>(intro W hSw;(try dsimp only at hSw);go_simp;try with_reducible rfl)
   (try simp only [Act.put,zz1,zz2,zz3,zz4,zz5,zz6])
   refine wU (i:=5) (v:=?_) rfl (Or.inl ⟨by rfl,?hy5⟩) hS3 (fun _=>trivial) ?_
   case hy5=>(intro W hSw;(try dsimp only at hSw);go_simp;try with_reducible rfl)
   (try simp only [Act.put,zz1,zz2,zz3,zz4,zz5,zz6])
   refine wU (i:=6) (v:=?_) rfl (Or.inl ⟨by rfl,?hy6⟩) hS3 (fun _=>trivial) ?_
   case hy6=>(intro W hSw;(try dsimp only at hSw);obtain ⟨kt,kp⟩:=hSw;have y0:W.cell? ⟨w.heap.size,0,none⟩=some (.int .i64 t.d):=(kt.cell 0).trans (by simp);have y1:W.cell? ⟨w.heap.size,1,none⟩=some (.int .i64 t.i):=(kt.cell 1).trans (by simp);have z0:W.cell? ⟨w.heap.size+1,0,none⟩=some (.int .i64 p.op):=(kp.cell 0).trans (by simp);have z1:W.cell? ⟨w.heap.size+1,1,none⟩=some (.int .i64 p.ct):=(kp.cell 1).trans (by simp);have z2:W.cell? ⟨w.heap.size+1,2,none⟩=some (.int .i64 p.n):=(kp.cell 2).trans (by simp);have z3:W.cell? ⟨w.heap.size+1,3,none⟩=some (.int .i64 p.m):=(kp.cell 3).trans (by simp);have z4:W.cell? ⟨w.heap.size+1,4,none⟩=some (.int .i64 p.va):=(kp.cell 4).trans (by simp);have z5:W.cell? ⟨w.heap.size+1,5,none⟩=some (.slice A4 p.ks.length cap4):=(kp.cell 5).trans (by simp);go_simp;try with_reducible rfl)
   (try simp only [Act.put,zz1,zz2,zz3,zz4,zz5,zz6])
   refine wR (rs:=[7]) (by kernel_rfl) (by simp) ?_
   refine AllReadyB.c rfl (fun K hK=>?_) AllReadyB.n
   go_simp
   go_at_call 87
   with_reducible refine (HV2.out _).mono ?_
   rintro e w4 ⟨rfl,hw4⟩
   rw [hw4]
   clear hw4 w4
   dsimp only
   refine hK.out _ _ hS3 (fun _=>trivial) ?_
   clear hK K
   (try simp only [Act.put,zz1,zz2,zz3,zz4,zz5,zz6])
   refine wU (i:=8) (v:=?_) rfl (Or.inl ⟨by rfl,?hy8⟩) hS3 (fun _=>trivial) ?_
   case hy8=>(intro W hSw;(try dsimp only at hSw);go_simp;try with_reducible rfl)
   (try simp only [Act.put,zz1,zz2,zz3,zz4,zz5,zz6])
   refine wU (i:=9) (v:=?_) rfl (Or.inl ⟨by rfl,?hy9⟩) hS3 (fun _=>trivial) ?_
   case hy9=>(intro W hSw;(try dsimp only at hSw);go_simp;try with_reducible rfl)
   (try simp only [Act.put,zz1,zz2,zz3,zz4,zz5,zz6])
   refine wU (i:=10) (v:=?_) rfl (Or.inl ⟨by rfl,?hy10⟩) hS3 (fun _=>trivial) ?_
   case hy10=>(intro W hSw;(try dsimp only at hSw);go_simp;try with_reducible rfl)
   (try simp only [Act.put,zz1,zz2,zz3,zz4,zz5,zz6])
   refine wE (by kernel_rfl) ?_
   obtain ⟨q1,q2,q3⟩:=shape_endA hB0 hws2 hb3
   have HFin:Hid (ShapePost xs t p w (.returned (.tuple #[.slice (some ⟨w.heap.size+1+1,0,none⟩) 1 1,.bool bb])) w3):=⟨_,[w.heap.size+1+1],by rw [HNV.out],q1,q2,fun _=>by rw [HTY.out];exact arr_tys1 q3⟩
   clear y0 y1 z0 z1 z2 z3 z4 z5 klt klt2
   clear hS1 hS3 hb3 q1 q2 q3
   go_wp2
   go_ret2
   exact HFin.out
  ·go_simp
   go_at_call 86
   with_reducible refine (HC.out _).mono ?_
   rintro e w3 ⟨rfl,hb3⟩
   have hS3:Blk w3 w.heap.size 35 #[.int .i64 t.d,.int .i64 t.i]∧Blk w3 (w.heap.size+1) 38 #[.int .i64 p.op,.int .i64 p.ct,.int .i64 p.n,.int .i64 p.m,.int .i64 p.va,.slice A4 p.ks.length cap4]:=⟨hS1.1.same (hb3.block _ hS1.1.lt),hS1.2.same (hb3.block _ hS1.2.lt)⟩
   dsimp only
   refine hK.out _ _ hS3 (fun _=>trivial) ?_
   clear hK K
   (try simp only [Act.put,zz1,zz2,zz3,zz4,zz5,zz6])
   refine wU (i:=4) (v:=?_) rfl (Or.inl ⟨by rfl,?hy4⟩) hS3 (fun _=>trivial) ?_
   case hy4=>(intro W hSw;(try dsimp only at hSw);go_simp;try with_reducible rfl)
   (try simp only [Act.put,zz1,zz2,zz3,zz4,zz5,zz6])
   refine wU (i:=5) (v:=?_) rfl (Or.inl ⟨by rfl,?hy5⟩) hS3 (fun _=>trivial) ?_
   case hy5=>(intro W hSw;(try dsimp only at hSw);go_simp;try with_reducible rfl)
   (try simp only [Act.put,zz1,zz2,zz3,zz4,zz5,zz6])
   refine wU (i:=6) (v:=?_) rfl (Or.inl ⟨by rfl,?hy6⟩) hS3 (fun _=>trivial) ?_
   case hy6=>(intro W hSw;(try dsimp only at hSw);obtain ⟨kt,kp⟩:=hSw;have y0:W.cell? ⟨w.heap.size,0,none⟩=some (.int .i64 t.d):=(kt.cell 0).trans (by simp);have y1:W.cell? ⟨w.heap.size,1,none⟩=some (.int .i64 t.i):=(kt.cell 1).trans (by simp);have z0:W.cell? ⟨w.heap.size+1,0,none⟩=some (.int .i64 p.op):=(kp.cell 0).trans (by simp);have z1:W.cell? ⟨w.heap.size+1,1,none⟩=some (.int .i64 p.ct):=(kp.cell 1).trans (by simp);have z2:W.cell? ⟨w.heap.size+1,2,none⟩=some (.int .i64 p.n):=(kp.cell 2).trans (by simp);have z3:W.cell? ⟨w.heap.size+1,3,none⟩=some (.int .i64 p.m):=(kp.cell 3).trans (by simp);have z4:W.cell? ⟨w.heap.size+1,4,none⟩=some (.int .i64 p.va):=(kp.cell 4).trans (by simp);have z5:W.cell? ⟨w.heap.size+1,5,none⟩=some (.slice A4 p.ks.length cap4):=(kp.cell 5).trans (by simp);go_simp;try with_reducible rfl)
   (try simp only [Act.put,zz1,zz2,zz3,zz4,zz5,zz6])
   refine wR (rs:=[1,7]) (by kernel_rfl) (by simp) ?_
   refine AllReadyB.c rfl (fun K hK=>?_) (AllReadyB.c rfl (fun K hK=>?_) AllReadyB.n)
   focus
    go_simp
    have hS4:=And.intro (hS3.1.same (Below.heap_alloc _ (.cells #[.int .i64 t.d,.int .i64 t.i] 35) _ hS3.1.lt)) (hS3.2.same (Below.heap_alloc _ (.cells #[.int .i64 t.d,.int .i64 t.i] 35) _ hS3.2.lt))
    refine hK.out _ _ hS4 (fun _=>trivial) ?_
    clear hK K
    (try simp only [Act.put,zz1,zz2,zz3,zz4,zz5,zz6])
    refine wR (rs:=[7]) (by kernel_rfl) (by simp) ?_
    refine AllReadyB.c rfl (fun K hK=>?_) AllReadyB.n
    go_simp
    go_at_call 87
    with_reducible refine (HV2.out _).mono ?_
    rintro e w4 ⟨rfl,hw4⟩
    rw [hw4]
    clear hw4 w4
    dsimp only
    refine hK.out _ _ hS4 (fun _=>trivial) ?_
    clear hK K
    (try simp only [Act.put,zz1,zz2,zz3,zz4,zz5,zz6])
    refine wU (i:=8) (v:=?_) rfl (Or.inl ⟨by rfl,?hy8⟩) hS4 (fun _=>trivial) ?_
    case hy8=>(intro W hSw;(try dsimp only at hSw);go_simp;try with_reducible rfl)
   rotate_left
   focus
    go_simp
    go_at_call 87
    with_reducible refine (HV2.out _).mono ?_
    rintro e w4 ⟨rfl,hw4⟩
    rw [hw4]
    clear hw4 w4
    dsimp only
    refine hK.out _ _ hS3 (fun _=>trivial) ?_
    clear hK K
    (try simp only [Act.put,zz1,zz2,zz3,zz4,zz5,zz6])
    refine wU (i:=8) (v:=?_) rfl (Or.inl ⟨by rfl,?hy8⟩) hS3 (fun _=>trivial) ?_
    case hy8=>(intro W hSw;(try dsimp only at hSw);go_simp;try with_reducible rfl)
    (try simp only [Act.put,zz1,zz2,zz3,zz4,zz5,zz6])
    refine wR (rs:=[1]) (by kernel_rfl) (by simp) ?_
    refine AllReadyB.c rfl (fun K hK=>?_) AllReadyB.n
    go_simp
    have hS4:=And.intro (hS3.1.same (Below.heap_alloc _ (.cells #[.int .i64 t.d,.int .i64 t.i] 35) _ hS3.1.lt)) (hS3.2.same (Below.heap_alloc _ (.cells #[.int .i64 t.d,.int .i64 t.i] 35) _ hS3.2.lt))
    refine hK.out _ _ hS4 (fun _=>trivial) ?_
    clear hK K
   rotate_left
   all_goals (
    (try simp only [Act.put,zz1,zz2,zz3,zz4,zz5,zz6])
    refine wU (i:=9) (v:=?_) rfl (Or.inl ⟨by rfl,?hy9⟩) hS4 (fun _=>trivial) ?_
    case hy9=>(intro W hSw;(try dsimp only at hSw);go_simp;try with_reducible rfl)
    (try simp only [Act.put,zz1,zz2,zz3,zz4,zz5,zz6])
    refine wU (i:=10) (v:=?_) rfl (Or.inl ⟨by rfl,?hy10⟩) hS4 (fun _=>trivial) ?_
    case hy10=>(intro W hSw;(try dsimp only at hSw);go_simp;try with_reducible rfl)
    (try simp only [Act.put,zz1,zz2,zz3,zz4,zz5,zz6])
    refine wE (by kernel_rfl) ?_
    obtain ⟨q1,q2⟩:=shape_endB hB0 hb3 (.cells #[.int .i64 t.d,.int .i64 t.i] 35)
    have HFin:Hid (ShapePost xs t p w (.returned (.tuple #[.slice (some ⟨w3.heap.size,0,none⟩) 1 1,.bool bb])) (w3.alloc (.cells #[.int .i64 t.d,.int .i64 t.i] 35))):=⟨_,[w3.heap.size],by rw [HNV.out],q1,q2,fun _=>by rw [HTY.out];exact arr_tys1 (Blk.new w3 _ _)⟩
    clear y0 y1 z0 z1 z2 z3 z4 z5 klt klt2
    clear hS1 hS3 hb3 q1 q2
    go_wp2
    go_ret2
    exact HFin.out)
theorem impl_shape (xs:List Dt) (hw:WorldOK xs) (t:Ty) (ht:TyIn xs.length t) (p:P) (w:World) (x:Value) (F:List Nat) (cs:List Value) (G:List Nat):Arr w (DtR w) xs x F→Under w.heap.size F→PR w p cs G→Under w.heap.size G →
  Calls Try.prog 80 #[x,.agg #[.int .i64 t.d,.int .i64 t.i],.agg cs.toArray] w (ShapePost xs t p w):=by
 intro hx hf hv hg
 by_cases h1:p.op=1
 ·exact shape_1 xs hw t ht p h1 w x F cs G hx hf hv hg
 by_cases h2:p.op=2
 ·exact shape_2 xs hw t ht p h2 w x F cs G hx hf hv hg
 by_cases h3:p.op=3
 ·exact shape_3 xs hw t ht p h3 w x F cs G hx hf hv hg
 by_cases h4:p.op=4
 ·exact shape_4 xs hw t ht p h4 w x F cs G hx hf hv hg
 by_cases h5:p.op=5
 ·exact shape_5 xs hw t ht p h5 w x F cs G hx hf hv hg
 by_cases h6:p.op=6
 ·exact shape_6 xs hw t ht p h6 w x F cs G hx hf hv hg
 obtain ⟨kv,rfl,ha⟩:=(zA4 _ _ _).1 hv
 obtain ⟨A,cap,rfl,hc1,hc2⟩:=hx.form
 obtain ⟨A4,cap4,rfl,hc3,hc4⟩:=ha.form
 have HV:=jj hv
 have HX:=jj hx
 have HF:=jj hf
 have HA:=jj ha
 have HG:=jj hg
 clear hx hf ha hg
 clear hv
 have o1:(p.op==1)=false:=by simpa using h1
 have o2:(p.op==2)=false:=by simpa using h2
 have o3:(p.op==3)=false:=by simpa using h3
 have o4:(p.op==4)=false:=by simpa using h4
 have o5:(p.op==5)=false:=by simpa using h5
 have o6:(p.op==6)=false:=by simpa using h6
 have HNO:=jj (nodeB_no (xs:=xs) (t:=t) h1 h2 h3 h4 h5 h6)
 clear h1 h2 h3 h4 h5 h6
 have HFin:Hid (ShapePost xs t p w (.returned (.tuple #[.slice none 0 0,.bool false])) ((w.alloc (.cells #[.int .i64 t.d,.int .i64 t.i] 35)).alloc (.cells #[.int .i64 p.op,.int .i64 p.ct,.int .i64 p.n,.int .i64 p.m,.int .i64 p.va,.slice A4 p.ks.length cap4] 38))):=⟨_,[],by rw [HNO.out],((zy2 _ _).alloc (zz8 _) _).alloc (by simp) _,Fresh.nil _ _,fun h=>by rw [HNO.out] at h;cases h⟩
 go_enter Try.func80,Try.ntmps80
 go_wp2
 go_ret2
 exact HFin.out
def accI (xs:List Dt) (d:Nat) (t:Ty) (p:P) (i:Nat):List Vt:=accP [] xs d t p (if p.op=5 then min i 1 else i)
theorem accI_zero (xs:List Dt) (d:Nat) (t:Ty) (p:P):accI xs d t p 0=accP [] xs d t p 0:=by unfold accI;split <;> rfl
theorem accI_next {xs:List Dt} {d:Nat} {t:Ty} {p:P} {i:Nat} (hn:¬(p.op=5∧i=1)) (h2:p.op=5→p.ks.length=2) (h1:i<(typesP xs t p).length) (hi:i<p.ks.length):accI xs d t p (i+1)=accI xs d t p i ++ varsN xs d (typesP xs t p)[i] p.ks[i]:=by
 unfold accI
 by_cases h5:p.op=5
 ·have:=h2 h5
  have h0:i=0:=by
   rcases Nat.lt_or_ge i 1 with h | h
   ·omega
   ·exact absurd ⟨h5,by omega⟩ hn
  subst h0
  rw [if_pos h5,if_pos h5]
  exact accP_succ [] d h1 hi
 ·rw [if_neg h5,if_neg h5]
  exact accP_succ [] d h1 hi
theorem accI_or {xs:List Dt} {d:Nat} {t:Ty} {p:P} (h5:p.op=5) {i:Nat} (h:1≤i):accI xs d t p i=accI xs d t p 1:=by
 unfold accI
 rw [if_pos h5,if_pos h5]
 congr 1
 omega
theorem accI_done {xs:List Dt} {d:Nat} {t:Ty} {p:P} (h2:p.op=5→p.ks.length=2):accI xs d t p p.ks.length=varsN xs (d+1) t p:=by
 unfold accI
 rw [accP_done]
 ·rfl
 ·split
  ·rename_i h5
   rw [h2 h5];rfl
  ·rfl
theorem vars_or {xs:List Dt} {d:Nat} {t:Ty} {p:P} {k0 k1:P} (h5:p.op=5) (hk:p.ks=[k0,k1]):varsN xs (d+1) t p=varsN xs d t k0:=by
 have e:varsN xs (d+1) t p=(if namedB p=true then [⟨p.va,t⟩] else []) ++ (kidsV xs t p).flatMap fun x=>varsN xs d x.1 x.2:=rfl
 have kv:kidsV xs t p=[(t,k0)]:=by unfold kidsV;rw [typesP_or h5,hk,h5];rfl
 have nb:namedB p=false:=by unfold namedB;rw [h5];rfl
 rw [e,kv,nb]
 simp
theorem accI_one {xs:List Dt} {d:Nat} {t:Ty} {p:P} {k0 k1:P} (h5:p.op=5) (hk:p.ks=[k0,k1]):accI xs d t p 1=varsN xs d t k0:=by
 rw [←vars_or (xs:=xs) (d:=d) (t:=t) h5 hk,←accI_done (fun _=>by rw [hk];rfl),accI_or h5 (i:=p.ks.length) (by rw [hk];exact Nat.le_succ 1)]
def orOk (xs:List Dt) (d:Nat) (t:Ty) (p:P):Bool:=match p.ks with | [k0,k1]=>sameV (varsN xs d t k0) (varsN xs d t k1) | _=>true
section
variable {xs : List Dt} {d c : Nat} {t : Ty} {p : P}
theorem KidsOk.two (h:KidsOk xs d t p c p.ks.length) (h5:p.op=5):∃ k0 k1,p.ks=[k0,k1]∧dupFree (varsN xs d t k0)=true∧dupFree (varsN xs d t k1)=true:=by
 have hl:=h.len
 have hty:=typesP_or (xs:=xs) (t:=t) h5
 rw [hty] at hl
 obtain ⟨k0,k1,hk⟩:=kids_two (show p.ks.length=2 from hl)
 have a0:=h.all 0 (by rw [hl];exact Nat.zero_lt_two) (by rw [hty];exact Nat.zero_lt_two) (by rw [hl];exact Nat.zero_lt_two)
 have a1:=h.all 1 (by rw [hl];exact Nat.one_lt_two) (by rw [hty];exact Nat.one_lt_two) (by rw [hl];exact Nat.one_lt_two)
 simp only [hty,hk,zz2,zz3] at a0 a1
 exact ⟨k0,k1,hk,lin_dup xs d t k0 a0.1 a0.2,lin_dup xs d t k1 a1.1 a1.2⟩
theorem KidsOk.or_no (h:KidsOk xs d t p c p.ks.length) (h5:p.op=5) (ho:orOk xs d t p=false):scanPB xs (d+1) t p c=false:=by
 obtain ⟨k0,k1,hk,-,d1⟩:=h.two h5
 rw [h.done,if_pos h5,hk]
 unfold orOk at ho
 rw [hk] at ho
 simp only at ho ⊢
 rw [alike_same d1];exact ho
theorem KidsOk.fin (h:KidsOk xs d t p c p.ks.length) (ho:p.op=5→orOk xs d t p=true):scanPB xs (d+1) t p c=dupFree (varsN xs (d+1) t p):=by
 rw [h.done]
 by_cases h5:p.op=5
 ·obtain ⟨k0,k1,hk,d0,d1⟩:=h.two h5
  have ho:=ho h5
  unfold orOk at ho
  rw [hk] at ho
  rw [if_pos h5,vars_or h5 hk,d0,hk]
  simp only at ho ⊢
  rw [alike_same d1];exact ho
 ·rw [if_neg h5]
end
theorem kidSum_sizes (p:P) (i:Nat):kidSum p i=P.sizes (p.ks.take i):=by
 unfold kidSum
 rw [foldl_nodes,P.sizes_eq];omega
theorem accI_len (xs:List Dt) (d:Nat) (t:Ty) (p:P) (i:Nat):(accI xs d t p i).length≤1+kidSum p i:=by
 have key:∀ j,j≤i→(accP [] xs d t p j).length≤1+kidSum p i:=fun j hj=>by
  have h1:=accP_len [] xs d t p j
  have h2:=zA8 (p.ks.take i) j
  rw [List.take_take,Nat.min_eq_left hj] at h2
  rw [kidSum_sizes]
  simp only [List.length_nil] at h1
  omega
 unfold accI
 split
 ·exact key _ (Nat.min_le_left _ _)
 ·exact key _ (zz8 _)
theorem same_or {xs:List Dt} {d:Nat} {t:Ty} {p:P} {i:Nat} (h5:p.op=5) (hl:p.ks.length=2) (hi:i<p.ks.length) (hil:i<(typesP xs t p).length) (h1:i=1):sameV (accI xs d t p i) (varsN xs d (typesP xs t p)[i] p.ks[i])=orOk xs d t p:=by
 subst h1
 obtain ⟨k0,k1,hk⟩:=kids_two hl
 have hty:=typesP_or (xs:=xs) (t:=t) h5
 rw [accI_one h5 hk]
 unfold orOk
 simp only [hty,hk,zz3,zz2]
theorem grown_chg' {w w7:World} {v:Value} (hgr:w.grownBy w7 v.ownBlock):Chg (rowOf v) w w7 :=
 ⟨hgr.os,hgr.tape,hgr.output,hgr.size,fun b hb hF=>hgr.block b hb (fun e=>hF (zA1.2 e.symm))⟩
theorem vars_range (xs:List Dt):∀ (d:Nat) (t:Ty) (p:P),shapeB xs d t p=true→∀ v∈varsN xs d t p,0≤v.var∧v.var≤5
 |0,_,_,h,_,_=>by cases h
 |d+1,t,p,h,v,hv=>by
  rw [shapeB_succ] at h
  simp only [Bool.and_eq_true,beq_iff_eq] at h
  obtain ⟨ho,hl,ha⟩:=h
  have e:varsN xs (d+1) t p=(if namedB p=true then [⟨p.va,t⟩] else []) ++ (kidsV xs t p).flatMap fun x=>varsN xs d x.1 x.2:=rfl
  rw [e] at hv
  rcases List.mem_append.1 hv with h | h
  ·split at h
   ·rename_i hn
    rw [zy1] at h
    subst h
    unfold ownB at ho
    rw [if_pos hn] at ho
    simp only [Bool.and_eq_true,decide_eq_true_eq] at ho
    exact ho.1
   ·cases h
  ·obtain ⟨x,hx,hv⟩:=List.mem_flatMap.1 h
   have hx:=List.mem_of_mem_take hx
   obtain ⟨j,hj,rfl⟩:=List.mem_iff_getElem.1 hx
   rw [List.length_zip] at hj
   rw [List.getElem_zip] at hv
   exact vars_range xs d _ _ (allP_at ha (by omega) (by omega)) v hv
/-! the row of marks -/
def metB (l:List Vt) (j:Nat):Bool:=l.any fun v=>v.var==(j:Int)
def metRow (l:List Vt):Array Value:=#[.bool (metB l 0),.bool (metB l 1),.bool (metB l 2),.bool (metB l 3),.bool (metB l 4),.bool (metB l 5)]
theorem metB_snoc (l:List Vt) (v:Vt) (j:Nat):metB (l ++ [v]) j=(metB l j || v.var==(j:Int)):=by unfold metB;rw [List.any_append];simp
theorem metRow_get (l:List Vt) {j:Nat} (h:j<6):(metRow l)[j]?=some (.bool (metB l j)):=by
 rcases j with _ | _ | _ | _ | _ | _ | j
 all_goals first | rfl | omega
theorem metRow_set (l:List Vt) (v:Vt) {j:Nat} (hj:j<6) (hv:v.var=(j:Int)):(metRow l).setIfInBounds j (.bool true)=metRow (l ++ [v]):=by
 unfold metRow
 simp only [metB_snoc,hv]
 rcases j with _ | _ | _ | _ | _ | _ | j
 all_goals first | omega | simp
def metTo (l:List Vt) (i:Nat):Array Value:=metRow (l.take i)
theorem metTo_succ (l:List Vt) {i:Nat} (h:i<l.length) {j:Nat} (hj:j<6) (hv:l[i].var=(j:Int)):(metTo l i).setIfInBounds j (.bool true)=metTo l (i+1):=by
 unfold metTo
 rw [take_snoc' l i h,metRow_set _ _ hj hv]
theorem met_no {l:List Vt} {i j:Nat} (h:i<l.length) (hv:l[i].var=(j:Int)) (hm:metB (l.take i) j=true):dupFree l=false:=by
 unfold metB at hm
 rw [List.any_eq_true] at hm
 obtain ⟨x,hx,he⟩:=hm
 obtain ⟨k,hk,rfl⟩:=List.mem_iff_getElem.1 hx
 rw [List.length_take] at hk
 rw [List.getElem_take,beq_iff_eq] at he
 exact dup_no (i:=k) (j:=i) (by omega) h (by omega) (by rw [he,hv])
theorem met_yes {l:List Vt} {i j:Nat} (h:i<l.length) (hv:l[i].var=(j:Int)) (hm:metB (l.take i) j=false):∀ k (hk:k<l.length),k<i→l[k].var≠l[i].var:=fun k hk hki e=>by
 unfold metB at hm
 rw [List.any_eq_false] at hm
 have:=hm l[k] (List.mem_iff_getElem.2 ⟨k,by rw [List.length_take];omega,by rw [List.getElem_take]⟩)
 rw [e,hv] at this
 simp at this
theorem run_app_void {P:Program} {w:World} (t ty e:TypeId) (i:TypeInfo) (ht:P.underlying t=some (.slice e)) (hi:P.info? e=some i) (A0:Option Addr) (n cap c:Nat) (hle:n≤cap) :
  (Builtin.append_ #[t,t] ty #[.slice A0 n cap,.slice none 0 c]).run P w=.ok (.slice A0 n cap) w:=by
 cases A0 <;> simp [Builtin.append_,run_underlying ht,sizeOf,typeInfo,hi,Builtin.lenOf,Builtin.firstCells,storeCells,hle]
theorem VtR_ones {w:World}:∀ {ys:List Vt} {cs:List Value} {G:List Nat},Flat (VtR w) ys cs G→∀ u∈cs,u.oneCell'=true
 |[],cs,G,h=>by rw [h.1];intro u hu;cases hu
 |y :: ys,cs,G,h=>by
  obtain ⟨c1,c2,F1,F2,rfl,rfl,h1,h2⟩:=h
  obtain ⟨rfl,rfl⟩:=h1
  intro u hu
  rcases List.mem_append.1 hu with h | h
  ·simp at h
   rcases h with rfl | rfl | rfl <;> rfl
  ·exact VtR_ones h2 u h
theorem run_append_vars {P:Program} {w:World} {B:Nat} {E:TypeId} (t ty:TypeId) (i:TypeInfo) (z:Value) (bytes:Nat) (ht:P.underlying t=some (.slice E)) (hi:P.info? E=some i) (hz:i.zero=some z)
  (hsize:i.size=3) (hby:i.bytes=bytes) (hzs:z.cells.size=3) {xs:List Vt} {v:Value}
  (hown:Own w B E 3 VtR xs v []) {ys:List Vt} {A:Option Addr} {n c:Nat} {F:List Nat} (hy:Arr w (VtR w) ys (.slice A n c) F)
  (h63:xs.length+ys.length≤maxLen) (hbytes:(xs.length+ys.length)*bytes≤140737488355328) (hbase:B≤w.heap.size) :
  ∃ v' w',(Builtin.append_ #[t,t] ty #[v,.slice A n c]).run P w=.ok v' w'∧Own w' B E 3 VtR (xs ++ ys) v' []∧w.grownBy w' v.ownBlock∧∀ b∈rowOf v',b∈rowOf v∨w.heap.size≤b:=by
 obtain ⟨A',c',hv,h1,h2,h3⟩:=hy
 cases hv
 have hrow:∀ {v':Value},(v'.ownBlock=v.ownBlock∨v'.ownBlock=some w.heap.size)→∀ b∈rowOf v',b∈rowOf v∨w.heap.size≤b:=fun {v'} h b hb=>by
  have hb:=zA1.1 hb
  rcases h with h | h
  ·left;rw [h] at hb;exact zA1.2 hb
  ·right;rw [h] at hb;have:=Option.some.inj hb;omega
 rcases h3 with ⟨rfl,-⟩ | ⟨b,off,cs,G,rfl,hc,hf,-⟩
 ·cases A with
  |none =>
   obtain ⟨A0,cap,rfl,hc1,hc2⟩:=hown.form
   exact ⟨_,w,run_app_void t ty E i ht hi A0 _ cap c hc1,by rw [List.append_nil];exact hown,⟨rfl,rfl,rfl,zz8 _,fun _ _ _=>rfl⟩,fun b hb=>.inl hb⟩
  |some a =>
   obtain ⟨cs,o1,o2,o3,o4⟩:=hown
   obtain ⟨v',w',hr,q1,q2,q3,q4⟩:=run_append_own_at (P:=P) w B t ty E i z 3 bytes ht hi hz hsize hby hzs (by decide) _ xs.length cs o1 a 0 c [] (by simp) (fun j u h=>by simp at h) (fun u h=>by cases h) (by simpa using h63) (by simpa using hbytes) hbase
   exact ⟨v',w',hr,⟨cs,by simpa using q1,by rw [List.append_nil];exact o2,Under.nil _,fun g _ h=>by cases h⟩,q2,hrow q4⟩
 ·obtain ⟨cs0,o1,o2,o3,o4⟩:=hown
  have hl:cs.length=ys.length*3:=hf.length (VtR_len w)
  have hG:=hf.nilF (fun x cs G h=>h.2)
  subst hG
  obtain ⟨v',w',hr,q1,q2,q3,q4⟩:=run_append_own_at (P:=P) w B t ty E i z 3 bytes ht hi hz hsize hby hzs (by decide) _ xs.length cs0 o1 ⟨b,off,none⟩ ys.length c cs hl (fun j u hj=>by rw [Addr.add_lit];exact hc j u hj) (VtR_ones hf) h63 hbytes hbase
  refine ⟨v',w',hr,⟨cs0 ++ cs,by rw [List.length_append];exact q1,?_,Under.nil _,fun g _ h=>by cases h⟩,q2,hrow q4⟩
  have h:=Flat.append o2 hf
  exact h
theorem zAJ {P:Program} {w:World} {ops:Array Oper} {rest:List Oper} {o:Oper} {a:Act} {Q:Exit→Act→World→Prop} (hgd:o.guard=none) (s x:Operand) (t:TypeId)
  (ho:o.op=.call { callee:=.builtin .append,args:=#[s,x],argTypes:=#[t,t] }) {sv xv v':Value} {w':World} (hs:a.eval s=sv) (hx:a.eval x=xv)
  (hr:(Builtin.append_ #[t,t] o.type #[sv,xv]).run P w=.ok v' w') (h:wpList P ops Q rest (a.put o.dst v') w'):wpList P ops Q (o :: rest) a w:=by
 refine wpList_plain hgd fun K hK=>?_
 unfold Oper.wp execOp
 simp only [ho,resolve,invoke,builtin,Sem.run_bind,Sem.run_pure,Result.andThen_ok,List.map_toArray,List.map_cons,List.map_nil,hs,hx,hr]
 exact hK _ _ h
end Go.Proofs.Ytghekinfoadcoaa
