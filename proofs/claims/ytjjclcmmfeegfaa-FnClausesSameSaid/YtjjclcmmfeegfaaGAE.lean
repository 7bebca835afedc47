/-
  Lemmas, and contracts of functions. Conditions: none.
-/
import Derived.Test.YtjjclcmmfeegfaaGAD
import Derived.Deep.RegionWith
import Derived.Test.YtjjclcmmfeegfaaGAB
import Derived.Deep.RegionHeld3
import Derived.Test.YtjjclcmmfeegfaaGAA
import Derived.Test.YtjjclcmmfeegfaaGAC

set_option linter.unusedVariables false
set_option linter.unusedSimpArgs false
set_option maxRecDepth 100000
set_option maxHeartbeats 1600000

namespace Go.Proofs.Ytjjclcmmfeegfaa
open Go.RowKit
section
variable {w w0 : World} {H g p : Nat} {F : List Nat}
theorem zAL (h:Chg F w0 w) (hH:w0.heap.size≤H) (a0 a1 a2 a3 a4 a5:Value):Chg F w0 ((((((w.setCell ⟨H,0,none⟩ a0).setCell ⟨H,1,none⟩ a1).setCell ⟨H,2,none⟩ a2).setCell ⟨H,3,none⟩ a3).setCell ⟨H,4,none⟩ a4).setCell ⟨H,5,none⟩ a5):=(((((h.set_new hH).set_new hH).set_new hH).set_new hH).set_new hH).set_new hH
theorem zB2 (h:Rd w g p) (hg:g<H) (a0 a1 a2 a3 a4 a5:Value):Rd ((((((w.setCell ⟨H,0,none⟩ a0).setCell ⟨H,1,none⟩ a1).setCell ⟨H,2,none⟩ a2).setCell ⟨H,3,none⟩ a3).setCell ⟨H,4,none⟩ a4).setCell ⟨H,5,none⟩ a5) g p:=h.keep fun b hb=>by
 have:b≠H:=by omega
 rw [zz7 _ _ _ _ this,zz7 _ _ _ _ this,zz7 _ _ _ _ this,zz7 _ _ _ _ this,zz7 _ _ _ _ this,zz7 _ _ _ _ this]
end
set_option maxHeartbeats 8000000 in
theorem spec_l3Draw:∀ (N:Nat),∀ (_:N≤6) (xs:List Dt) (_:WorldOK xs) (t:Ty) (_:TyIn xs.length t) (dp:Int) (_:dp≤((N:Nat):Int)) (_:((N:Nat):Int)-30≤dp) (w:World) (p g:Nat) (x:Value) (F:List Nat),Rd w g p→p+5*4 ^ N≤900000→Arr w (DtR w) xs x F→Under w F→g∉F →
  Calls Try.prog 91 #[.pointer (some ⟨g,0,none⟩),x,.agg #[t.d,t.i],.int .i64 dp] w (DrewP (4 ^ N) p (5*4 ^ N) g w):=by
 intro N
 induction N with
 |zero =>
  intro _ xs hw t ht dp hdp hlo w p g x F hr hp hx hf hgf
  have hgl:=hr.lt
  have HR:=jj hr
  have t0:decide (dp<2)=true:=decide_eq_true (by push_cast at hdp;omega)
  have hB0:Below w w ((w.alloc (.cells #[t.d,t.i] 25)).alloc (.cells #[(0:Int),(0:Int),(0:Int),(0:Int),(0:Int),.slice none 0 0] 28)):=((zy2 _ _).alloc (zz8 _) _).alloc (by simp) _
  have K0:Hid (Blk ((w.alloc (.cells #[t.d,t.i] 25)).alloc (.cells #[(0:Int),(0:Int),(0:Int),(0:Int),(0:Int),.slice none 0 0] 28)) (w.heap.size+1) 28 #[(0:Int),(0:Int),(0:Int),(0:Int),(0:Int),.slice none 0 0]):=zA8 w _ 28 _
  clear hx hf hgf hr
  go_enter Try.func91,Try.ntmps91
  go_wp2_with fail
  first
  |refine bodyPost_ret (zA1 rfl _ _ (w.heap.size+1) 28 #[(1:Int),(0:Int),(0:Int),(0:Int),(0:Int),.slice none 0 0] (0,0) _ rfl (zA8 _ _ _ _) Try.underlying28 rfl rfl) rfl ?_
   exact ⟨⟨1,0,0,0,0,[]⟩,[(1:Int),(0:Int),(0:Int),(0:Int),(0:Int),.slice none 0 0],[],p,rfl,(zA4 _ _ _).2 ⟨_,rfl,Arr.nil⟩,(fun b hb=>by cases hb),by simp [nodesP,P.size,P.sizes],HR.out.below (((zy2 _ _).alloc (zz8 _) _).alloc (by simp) _),by omega,.of_below (((zy2 _ _).alloc (zz8 _) _).alloc (by simp) _)⟩
  |refine bodyPost_ret (zA1 rfl _ _ (w.heap.size+1) 28 #[(1:Int),(0:Int),(0:Int),(0:Int),(0:Int),.slice none 0 0] (0,0) _ rfl (K0.out.six _ _ _ _ _ _) Try.underlying28 rfl rfl) rfl ?_
   exact ⟨⟨1,0,0,0,0,[]⟩,[(1:Int),(0:Int),(0:Int),(0:Int),(0:Int),.slice none 0 0],[],p,rfl,(zA4 _ _ _).2 ⟨_,rfl,Arr.nil⟩,(fun b hb=>by cases hb),by simp [nodesP,P.size,P.sizes],zB2 (HR.out.below hB0) (by omega) _ _ _ _ _ _,by omega,zAL (.of_below hB0) (by omega) _ _ _ _ _ _⟩
 |succ N ih =>
  intro h6 xs hw t ht dp hdp hlo w p g x F hr hp hx hf hgf
  have IH:=jj (ih (by omega))
  clear ih
  have hp4:=pow4 N
  have hp48:=pow4_le (show N+1≤8 by omega)
  have hgl:=hr.lt
  obtain ⟨A,cap,rfl,hc1,hc2⟩:=hx.form
  have HGF:Hid (∀ b∈F,b∉[g]):=fun b hb h=>hgf (by rw [zy1] at h;rwa [←h])
  have HGf:=jj hgf
  have HW:=jj hw
  have HT:=jj ht
  have hB0:Below w w ((w.alloc (.cells #[t.d,t.i] 25)).alloc (.cells #[(0:Int),(0:Int),(0:Int),(0:Int),(0:Int),.slice none 0 0] 28)):=((zy2 _ _).alloc (zz8 _) _).alloc (by simp) _
  have KT:Hid (Blk ((w.alloc (.cells #[t.d,t.i] 25)).alloc (.cells #[(0:Int),(0:Int),(0:Int),(0:Int),(0:Int),.slice none 0 0] 28)) w.heap.size 25 #[t.d,t.i]):=(Blk.new w _ _).same (Below.heap_alloc _ _ _ (by simp))
  have KR:Hid (Blk ((w.alloc (.cells #[t.d,t.i] 25)).alloc (.cells #[(0:Int),(0:Int),(0:Int),(0:Int),(0:Int),.slice none 0 0] 28)) (w.heap.size+1) 28 #[(0:Int),(0:Int),(0:Int),(0:Int),(0:Int),.slice none 0 0]):=zA8 w _ 28 _
  have HRw:=jj hr
  have HR:=jj (hr.below hB0)
  have hz2:((w.alloc (.cells #[t.d,t.i] 25)).alloc (.cells #[(0:Int),(0:Int),(0:Int),(0:Int),(0:Int),.slice none 0 0] 28)).heap.size=w.heap.size+2:=by simp
  obtain ⟨w2,hw2⟩:∃ X,X=((w.alloc (.cells #[t.d,t.i] 25)).alloc (.cells #[(0:Int),(0:Int),(0:Int),(0:Int),(0:Int),.slice none 0 0] 28)):=⟨_,rfl⟩
  have HW2:=jj hw2
  rw [←hw2] at hB0 KT KR HR hz2
  have HC0:Hid (Chg [g] w w2):=.of_below hB0
  have HX:=jj hx
  have HF:=jj hf
  clear hx hf
  clear hr hgf hw ht hB0 hw2
  by_cases hd2:dp<2
  ·have t0:decide (dp<2)=true:=decide_eq_true hd2
   clear hd2
   go_enter Try.func91,Try.ntmps91
   go_wp2_with fail
   first
   |refine bodyPost_ret (zA1 rfl _ _ (w.heap.size+1) 28 #[(1:Int),(0:Int),(0:Int),(0:Int),(0:Int),.slice none 0 0] (0,0) _ rfl (zA8 _ _ _ _) Try.underlying28 rfl rfl) rfl ?_
    exact ⟨⟨1,0,0,0,0,[]⟩,[(1:Int),(0:Int),(0:Int),(0:Int),(0:Int),.slice none 0 0],[],p,rfl,(zA4 _ _ _).2 ⟨_,rfl,Arr.nil⟩,(fun b hb=>by cases hb),by simp [nodesP,P.size,P.sizes];omega,HRw.out.below (((zy2 _ _).alloc (zz8 _) _).alloc (by simp) _),by omega,.of_below (((zy2 _ _).alloc (zz8 _) _).alloc (by simp) _)⟩
  ·have t0:decide (dp<2)=false:=decide_eq_false hd2
   go_enter Try.func91,Try.ntmps91
   go_wp2_with fail
   rw [←HW2.out]
   clear HW2
   refine (zAH 4 p g w2 HR.out (by omega) (by omega) (by omega)).mono ?_
   rintro e w3 ⟨r3,rfl,-,hR3,hC3⟩
   have HG1:Hid (∀ b,g<b→b∉[g]):=fun b hb h=>by rw [zy1] at h;omega
   have KT3:=jj (KT.out.same (hC3.block _ KT.out.lt (HG1.out _ hgl)))
   have KR3:=jj (KR.out.same (hC3.block _ KR.out.lt (HG1.out _ (by omega))))
   have HC3:=jj (HC0.out.trans hC3)
   have HR3:=jj hR3
   have hz3:=hC3.size
   clear hR3 hC3 KT KR HC0 HR
   cases q3:((r3:Int)==0) with
   |true =>
    have rc0:=(KR3.out.cell 0).trans (show _=some (.int .i64 0) from by simp)
    have rf0:=KR3.out.frozen 0
    have rc1:=(KR3.out.cell 1).trans (show _=some (.int .i64 0) from by simp)
    have rf1:=KR3.out.frozen 1
    have rc2:=(KR3.out.cell 2).trans (show _=some (.int .i64 0) from by simp)
    have rf2:=KR3.out.frozen 2
    have rc3:=(KR3.out.cell 3).trans (show _=some (.int .i64 0) from by simp)
    have rf3:=KR3.out.frozen 3
    have rc4:=(KR3.out.cell 4).trans (show _=some (.int .i64 0) from by simp)
    have rf4:=KR3.out.frozen 4
    have rc5:=(KR3.out.cell 5).trans (show _=some (.slice none 0 0) from by simp)
    have rf5:=KR3.out.frozen 5
    have rlt:=KR3.out.lt
    go_wp2
    clear rc0 rf0 rc1 rf1 rc2 rf2 rc3 rf3 rc4 rf4 rc5 rf5 rlt
    refine bodyPost_ret (zA1 rfl _ _ (w.heap.size+1) 28 #[(1:Int),(0:Int),(0:Int),(0:Int),(0:Int),.slice none 0 0] (0,0) _ rfl (KR3.out.six _ _ _ _ _ _) Try.underlying28 rfl rfl) rfl ?_
    exact ⟨⟨1,0,0,0,0,[]⟩,[(1:Int),(0:Int),(0:Int),(0:Int),(0:Int),.slice none 0 0],[],p+1,rfl,(zA4 _ _ _).2 ⟨_,rfl,Arr.nil⟩,(fun b hb=>by cases hb),by simp [nodesP,P.size,P.sizes];omega,zB2 HR3.out (by omega) _ _ _ _ _ _,by omega,zAL HC3.out (by omega) _ _ _ _ _ _⟩
   |false =>
    go_wp2_with fail
    refine (zAH 6 (p+1) g w3 HR3.out (by omega) (by omega) (by omega)).mono ?_
    rintro e w4 ⟨r4,rfl,-,hR4,hC4⟩
    have KT4:=jj (KT3.out.same (hC4.block _ KT3.out.lt (HG1.out _ hgl)))
    have KR4:=jj (KR3.out.same (hC4.block _ KR3.out.lt (HG1.out _ (by omega))))
    have HC4:=jj (HC3.out.trans hC4)
    have HR4:=jj hR4
    have hz4:=hC4.size
    clear hR4 hC4 KT3 KR3 HC3 HR3 q3
    have hdw:IntKind.i64.wrap (dp-1)=dp-1:=IntWalk.i64_in _ (by omega)
    cases q4:((r4:Int)==0) with
    |true =>
     go_wp2_with fail
     refine zA9 (S:=fun w'=>w'.cell? ⟨w,0,none⟩=t.d∧w'.cell? ⟨w,1,none⟩=t.i) (T:=fun _=>True) (d:=99) (by kernel_rfl) ?_
     have hS1:w4.drew.cell? ⟨w,0,none⟩=t.d∧w4.drew.cell? ⟨w,1,none⟩=t.i:=⟨(KT4.out.cell 0).trans (by simp),(KT4.out.cell 1).trans (by simp)⟩
     have hT1:True:=trivial
     have HC4d:=jj (HC4.out.drew)
     refine wV 0 rfl hS1 hT1 ?_
     (try simp only [zz])
     refine wV 1 rfl hS1 hT1 ?_
     (try simp only [zz])
     refine wV 2 rfl hS1 hT1 ?_
     (try simp only [zz])
     refine wV 3 rfl hS1 hT1 ?_
     (try simp only [zz])
     refine wV 4 rfl hS1 hT1 ?_
     (try simp only [zz])
     refine wV 6 rfl hS1 hT1 ?_
     (try simp only [zz])
     refine wV 7 rfl hS1 hT1 ?_
     (try simp only [zz])
     refine wV 8 rfl hS1 hT1 ?_
     (try simp only [zz])
     refine wV 9 rfl hS1 hT1 ?_
     (try simp only [zz])
     refine wV 10 rfl hS1 hT1 ?_
     (try simp only [zz])
     refine w1 5 rfl fun K hK=>?_
     go_simp
     go_at_call 91
     refine (IH.out xs HW.out t HT.out (dp-1) (by push_cast at hdp;omega) (by push_cast at hlo;omega) w4.drew (p+1+1) g _ F HR4.out.drew (by omega) (HX.out.mono (HC4d.out.kept HF.out HGF.out) fun y _ cs G hk h=>DtR.mono y cs G hk h) (HF.out.mono HC4d.out.size) HGf.out).mono ?_
     rintro e w5 ⟨v5,cs5,F5,q5,rfl,hp5,hf5,hn5,hR5,hq5,hC5⟩
     obtain ⟨kv5,rfl,ha5⟩:=(zA4 _ _ _).1 hp5
     obtain ⟨A5,cap5,rfl,-,-⟩:=ha5.form
     have hC5u:Chg [g] w4 w5:=hC5.undrew
     have KT5:=jj (KT4.out.same (hC5u.block _ KT4.out.lt (HG1.out _ hgl)))
     have KR5:=jj (KR4.out.same (hC5u.block _ KR4.out.lt (HG1.out _ (by omega))))
     have HC5:=jj (HC4.out.trans hC5u)
     have HP5:=jj hp5
     have HF5:=jj hf5
     have HN5:=jj hn5
     have HR5:=jj hR5
     have hz5:=hC5u.size
     have hS2:w5.cell? ⟨w,0,none⟩=t.d∧w5.cell? ⟨w,1,none⟩=t.i:=⟨(KT5.out.cell 0).trans (by simp),(KT5.out.cell 1).trans (by simp)⟩
     clear hp5 hf5 hn5 hR5 hC5 hC5u ha5 KT4 KR4 HC4 HR4 HC4d
     (try dsimp only)
     refine hK.out _ _ hS2 (fun _=>trivial) ?_
     clear hK K
     (try simp only [zz])
     refine w1 11 rfl fun K hK=>?_
     go_simp
     go_at_call 91
     refine (IH.out xs HW.out t HT.out (dp-1) (by push_cast at hdp;omega) (by push_cast at hlo;omega) w5 q5 g _ F HR5.out (by omega) (HX.out.mono (HC5.out.kept HF.out HGF.out) fun y _ cs G hk h=>DtR.mono y cs G hk h) (HF.out.mono HC5.out.size) HGf.out).mono ?_
     rintro e w6 ⟨v6,cs6,F6,q6,rfl,hp6,hf6,hn6,hR6,hq6,hC6⟩
     obtain ⟨kv6,rfl,ha6⟩:=(zA4 _ _ _).1 hp6
     obtain ⟨A6,cap6,rfl,-,-⟩:=ha6.form
     have KT6:=jj (KT5.out.same (hC6.block _ KT5.out.lt (HG1.out _ hgl)))
     have KR6:=jj (KR5.out.same (hC6.block _ KR5.out.lt (HG1.out _ (by omega))))
     have HC6:=jj (HC5.out.trans hC6)
     have HP56:=jj (PR.mono _ _ _ (hC6.kept (fun b hb=>(HF5.out b hb).1) (fun b hb h=>by rw [zy1] at h;exact (HF5.out b hb).2.1 h)) HP5.out)
     have HP6:=jj hp6
     have HF6:=jj hf6
     have HN6:=jj hn6
     have HR6:=jj hR6
     have hz6:=hC6.size
     have hS3:w6.cell? ⟨w,0,none⟩=t.d∧w6.cell? ⟨w,1,none⟩=t.i:=⟨(KT6.out.cell 0).trans (by simp),(KT6.out.cell 1).trans (by simp)⟩
     clear hp6 hf6 hn6 hR6 hC6 ha6 KT5 KR5 HC5 HR5 HP5
     (try dsimp only)
     refine hK.out _ _ hS3 (fun _=>trivial) ?_
     clear hK K
     (try simp only [zz])
     refine w1 12 rfl fun K hK=>?_
     have hb8:Below w6 w6 (w6.alloc (.cells ([.int .i64 v5.op,.int .i64 v5.ct,.int .i64 v5.n,.int .i64 v5.m,.int .i64 v5.va,.slice A5 v5.ks.length cap5,.int .i64 v6.op,.int .i64 v6.ct,.int .i64 v6.n,.int .i64 v6.m,.int .i64 v6.va,.slice A6 v6.ks.length cap6]).toArray 28)):=(zy2 _ _).alloc (zz8 _) _
     have KA8:Hid (Blk (w6.alloc (.cells ([.int .i64 v5.op,.int .i64 v5.ct,.int .i64 v5.n,.int .i64 v5.m,.int .i64 v5.va,.slice A5 v5.ks.length cap5,.int .i64 v6.op,.int .i64 v6.ct,.int .i64 v6.n,.int .i64 v6.m,.int .i64 v6.va,.slice A6 v6.ks.length cap6]).toArray 28)) w6.heap.size 28 ([.int .i64 v5.op,.int .i64 v5.ct,.int .i64 v5.n,.int .i64 v5.m,.int .i64 v5.va,.slice A5 v5.ks.length cap5,.int .i64 v6.op,.int .i64 v6.ct,.int .i64 v6.n,.int .i64 v6.m,.int .i64 v6.va,.slice A6 v6.ks.length cap6]).toArray):=Blk.new _ _ _
     have hS4:(w6.alloc (.cells ([.int .i64 v5.op,.int .i64 v5.ct,.int .i64 v5.n,.int .i64 v5.m,.int .i64 v5.va,.slice A5 v5.ks.length cap5,.int .i64 v6.op,.int .i64 v6.ct,.int .i64 v6.n,.int .i64 v6.m,.int .i64 v6.va,.slice A6 v6.ks.length cap6]).toArray 28)).cell? ⟨w,0,none⟩=t.d∧(w6.alloc (.cells ([.int .i64 v5.op,.int .i64 v5.ct,.int .i64 v5.n,.int .i64 v5.m,.int .i64 v5.va,.slice A5 v5.ks.length cap5,.int .i64 v6.op,.int .i64 v6.ct,.int .i64 v6.n,.int .i64 v6.m,.int .i64 v6.va,.slice A6 v6.ks.length cap6]).toArray 28)).cell? ⟨w,1,none⟩=t.i:=⟨(hb8.cell (p:=⟨w,0,none⟩) KT6.out.lt).trans hS3.1,(hb8.cell (p:=⟨w,1,none⟩) KT6.out.lt).trans hS3.2⟩
     go_simp
     (try dsimp only)
     refine hK.out _ _ hS4 (fun _=>trivial) ?_
     clear hK K
     (try simp only [zz])
     obtain ⟨w8,hw8⟩:∃ X,X=(w6.alloc (.cells ([.int .i64 v5.op,.int .i64 v5.ct,.int .i64 v5.n,.int .i64 v5.m,.int .i64 v5.va,.slice A5 v5.ks.length cap5,.int .i64 v6.op,.int .i64 v6.ct,.int .i64 v6.n,.int .i64 v6.m,.int .i64 v6.va,.slice A6 v6.ks.length cap6]).toArray 28)):=⟨_,rfl⟩
     try rw [←hw8]
     rw [←hw8] at hb8 KA8 hS4
     clear hw8
     have HP58:=jj (HP56.out.below hb8 (fun b hb=>zz9 (HF5.out b hb).1 hz6))
     have HP68:=jj (HP6.out.below hb8 (fun b hb=>(HF6.out b hb).1))
     have KR8:=jj (KR6.out.same (hb8.block _ KR6.out.lt))
     have HC8:=jj (HC6.out.step hb8)
     have HR8:=jj (HR6.out.below hb8)
     have hz8:=KA8.out.lt
     have hk1:=KR6.out.lt
     refine wV 13 rfl hS4 hT1 ?_
     (try simp only [zz])
     refine w1 14 rfl fun K hK=>?_
     have rc0:=(KR8.out.cell 0).trans (show _=some (.int .i64 0) from by simp)
     have rf0:=KR8.out.frozen 0
     have rc1:=(KR8.out.cell 1).trans (show _=some (.int .i64 0) from by simp)
     have rf1:=KR8.out.frozen 1
     have rc2:=(KR8.out.cell 2).trans (show _=some (.int .i64 0) from by simp)
     have rf2:=KR8.out.frozen 2
     have rc3:=(KR8.out.cell 3).trans (show _=some (.int .i64 0) from by simp)
     have rf3:=KR8.out.frozen 3
     have rc4:=(KR8.out.cell 4).trans (show _=some (.int .i64 0) from by simp)
     have rf4:=KR8.out.frozen 4
     have rc5:=(KR8.out.cell 5).trans (show _=some (.slice none 0 0) from by simp)
     have rf5:=KR8.out.frozen 5
     have rlt:=KR8.out.lt
     have hne:w.heap.size+1≠w.heap.size:=by omega
     have hS5:((((((w8.setCell ⟨w.heap.size+1,0,none⟩ (.int .i64 5)).setCell ⟨w.heap.size+1,1,none⟩ (.int .i64 0)).setCell ⟨w.heap.size+1,2,none⟩ (.int .i64 0)).setCell ⟨w.heap.size+1,3,none⟩ (.int .i64 0)).setCell ⟨w.heap.size+1,4,none⟩ (.int .i64 0)).setCell ⟨w.heap.size+1,5,none⟩ (.slice (some ⟨w6,0,none⟩) 2 2)).cell? ⟨w,0,none⟩=t.d∧((((((w8.setCell ⟨w.heap.size+1,0,none⟩ (.int .i64 5)).setCell ⟨w.heap.size+1,1,none⟩ (.int .i64 0)).setCell ⟨w.heap.size+1,2,none⟩ (.int .i64 0)).setCell ⟨w.heap.size+1,3,none⟩ (.int .i64 0)).setCell ⟨w.heap.size+1,4,none⟩ (.int .i64 0)).setCell ⟨w.heap.size+1,5,none⟩ (.slice (some ⟨w6,0,none⟩) 2 2)).cell? ⟨w,1,none⟩=t.i:=by
      have:((((((((w8.setCell ⟨w.heap.size+1,0,none⟩ (.int .i64 5)).setCell ⟨w.heap.size+1,1,none⟩ (.int .i64 0)).setCell ⟨w.heap.size+1,2,none⟩ (.int .i64 0)).setCell ⟨w.heap.size+1,3,none⟩ (.int .i64 0)).setCell ⟨w.heap.size+1,4,none⟩ (.int .i64 0)).setCell ⟨w.heap.size+1,5,none⟩ (.slice (some ⟨w6,0,none⟩) 2 2))).heap[w.heap.size]?)=w8.heap[w.heap.size]?:=by
       rw [zz7 _ _ _ _ (by show w.heap.size≠w.heap.size+1;omega),zz7 _ _ _ _ (by show w.heap.size≠w.heap.size+1;omega),zz7 _ _ _ _ (by show w.heap.size≠w.heap.size+1;omega),zz7 _ _ _ _ (by show w.heap.size≠w.heap.size+1;omega),zz7 _ _ _ _ (by show w.heap.size≠w.heap.size+1;omega),zz7 _ _ _ _ (by show w.heap.size≠w.heap.size+1;omega)]
      exact ⟨(World.cell?_of_block (w:=w8) (a:=⟨w,0,none⟩) this).trans hS4.1,(World.cell?_of_block (w:=w8) (a:=⟨w,1,none⟩) this).trans hS4.2⟩
     have HS5:=jj hS5
     clear hS5
     go_simp
     (try dsimp only)
     refine hK.out _ _ HS5.out (fun _=>trivial) ?_
     clear hK K
     (try simp only [zz])
     refine wE (by kernel_rfl) ?_
     clear rc0 rf0 rc1 rf1 rc2 rf2 rc3 rf3 rc4 rf4 rc5 rf5 rlt hS1 hS2 hS3 hS4 hT1
     have HFF:Hid (∀ b∈w6.heap.size :: (F5 ++ F6),b<w8.heap.size∧b≠g∧w.heap.size≤b∧b≠w.heap.size+1):=fun b hb=>by
      rcases List.mem_cons.1 hb with h | h
      ·exact ⟨by omega,by omega,by omega,by omega⟩
      ·rcases List.mem_append.1 h with h | h
       ·have:=HF5.out b h;exact ⟨by omega,this.2.1,by have:=this.2.2;have:w4.heap.size≤b:=this;omega,by have:=this.2.2;have:w4.heap.size≤b:=this;omega⟩
       ·have:=HF6.out b h;exact ⟨by omega,this.2.1,by omega,by omega⟩
     have HAR:Hid (Arr w8 (PR w8) [v5,v6] (.slice (some ⟨w6,0,none⟩) 2 2) (w6.heap.size :: (F5 ++ F6))):=arr_pats2 KA8.out HP58.out HP68.out
     have HSZ:Hid (nodesP ⟨5,0,0,0,0,[v5,v6]⟩≤4 ^ (N+1)):=by have h1:=HN5.out;have h2:=HN6.out;unfold Hid nodesP at *;simp only [P.size,P.sizes];omega
     have HPQ:Hid (q6≤p+5*4 ^ (N+1)):=by unfold Hid;omega
     go_wp2
     refine bodyPost_ret (zA1 rfl _ _ (w.heap.size+1) 28 #[(5:Int),(0:Int),(0:Int),(0:Int),(0:Int),.slice (some ⟨w6,0,none⟩) 2 2] (0,0) _ rfl (KR8.out.six _ _ _ _ _ _) Try.underlying28 rfl rfl) rfl ?_
     have hkp:Kept (w6.heap.size :: (F5 ++ F6)) w8 _:=zAM (w:=w8) (H:=w.heap.size+1) (fun b hb=>(HFF.out b hb).2.2.2) (.int .i64 5) (.int .i64 0) (.int .i64 0) (.int .i64 0) (.int .i64 0) (.slice (some ⟨w6,0,none⟩) 2 2)
     exact ⟨⟨5,0,0,0,0,[v5,v6]⟩,[(5:Int),(0:Int),(0:Int),(0:Int),(0:Int),.slice (some ⟨w6,0,none⟩) 2 2],_,q6,rfl,(zA4 _ _ _).2 ⟨_,rfl,ArrP.mono HAR.out hkp⟩,fun b hb=>⟨by rw [zAN];exact (HFF.out b hb).1,(HFF.out b hb).2.1,(HFF.out b hb).2.2.1⟩,HSZ.out,zB2 HR8.out (by omega) _ _ _ _ _ _,HPQ.out,zAL HC8.out (by omega) _ _ _ _ _ _⟩
    |false =>
     obtain ⟨y0,y1,ylt⟩:=KT4.out.c2
     rcases id HT.out with hti | ⟨d,i,rfl,hd4,hi4⟩
     ·have t1:(t.d == -1)=true:=by simp [hti]
      clear hti
      go_wp2_with fail
      refine (zAH 10 (p+1+1) g w4 HR4.out (by omega) (by omega) (by omega)).mono ?_
      rintro e w5 ⟨r5,rfl,hr5,hR5,hC5⟩
      have KR5:=jj (KR4.out.same (hC5.block _ KR4.out.lt (HG1.out _ (by omega))))
      have HC5:=jj (HC4.out.trans hC5)
      have HR5:=jj hR5
      have hz5:=hC5.size
      clear hR5 hC5 y0 y1 ylt KT4 KR4 HC4 HR4
      have e5:(10:Int)-(r5:Int)=((10-r5:Nat):Int):=by omega
      have e5w:IntKind.i64.wrap ((10:Int)-(r5:Int))=(10:Int)-(r5:Int):=IntWalk.i64_in _ (by omega)
      go_wp2_with fail
      have h6:=zAH (10-r5) (p+1+1+1) g w5 HR5.out (by omega) (by omega) (by omega)
      clear e5w
      (first | with_reducible refine h6.mono ?_ | (rw [←e5] at h6;with_reducible refine h6.mono ?_) | (trace_state;fail))
      rintro e w6 ⟨r6,rfl,hr6,hR6,hC6⟩
      have KR6:=jj (KR5.out.same (hC6.block _ KR5.out.lt (HG1.out _ (by omega))))
      have HC6:=jj (HC5.out.trans hC6)
      have HR6:=jj hR6
      have hz6:=hC6.size
      clear h6 e5 hR6 hC6 KR5 HC5 HR5
      go_wp2_with fail
      refine (zAH 2 (p+1+1+1+1) g w6 HR6.out (by omega) (by omega) (by omega)).mono ?_
      rintro e w7 ⟨r7,rfl,hr7,hR7,hC7⟩
      have KR7:=jj (KR6.out.same (hC7.block _ KR6.out.lt (HG1.out _ (by omega))))
      have HC7:=jj (HC6.out.trans hC7)
      have HR7:=jj hR7
      have hz7:=hC7.size
      have hmul:r6*r7≤10:=Nat.le_trans (Nat.mul_le_mul (show r6≤10 by omega) (show r7≤1 by omega)) (by omega)
      obtain ⟨M,hM⟩:∃ M:Nat,M=r6*r7:=⟨_,rfl⟩
      have hMI:(r6:Int)*(r7:Int)=(M:Int):=by rw [hM];push_cast;rfl
      rw [←hM] at hmul
      have hmw:IntKind.i64.wrap ((r6:Int)*(r7:Int))=(M:Int):=by rw [hMI];exact IntWalk.i64_in _ (by omega)
      have haw:IntKind.i64.wrap ((r5:Int)+(M:Int))=(r5:Int)+(M:Int):=IntWalk.i64_in _ (by omega)
      have HMI:=jj hMI
      clear hR7 hC7 KR6 HC6 HR6 hM
      clear hMI
      have rc0:=(KR7.out.cell 0).trans (show _=some (.int .i64 0) from by simp)
      have rf0:=KR7.out.frozen 0
      have rc1:=(KR7.out.cell 1).trans (show _=some (.int .i64 0) from by simp)
      have rf1:=KR7.out.frozen 1
      have rc2:=(KR7.out.cell 2).trans (show _=some (.int .i64 0) from by simp)
      have rf2:=KR7.out.frozen 2
      have rc3:=(KR7.out.cell 3).trans (show _=some (.int .i64 0) from by simp)
      have rf3:=KR7.out.frozen 3
      have rc4:=(KR7.out.cell 4).trans (show _=some (.int .i64 0) from by simp)
      have rf4:=KR7.out.frozen 4
      have rc5:=(KR7.out.cell 5).trans (show _=some (.slice none 0 0) from by simp)
      have rf5:=KR7.out.frozen 5
      have rlt:=KR7.out.lt
      go_wp2
      clear rc0 rf0 rc1 rf1 rc2 rf2 rc3 rf3 rc4 rf4 rc5 rf5 rlt
      refine bodyPost_ret (zA1 rfl _ _ (w.heap.size+1) 28 #[(3:Int),(0:Int),(r5:Int),.int .i64 ((r5:Int)+(M:Int)),(0:Int),.slice none 0 0] (0,0) _ rfl (KR7.out.six _ _ _ _ _ _) Try.underlying28 rfl rfl) rfl ?_
      exact ⟨⟨3,0,(r5:Int),(r5:Int)+(M:Int),0,[]⟩,[(3:Int),(0:Int),(r5:Int),.int .i64 ((r5:Int)+(M:Int)),(0:Int),.slice none 0 0],[],p+1+1+1+1+1,rfl,(zA4 _ _ _).2 ⟨_,rfl,Arr.nil⟩,(fun b hb=>by cases hb),by simp [nodesP,P.size,P.sizes];omega,zB2 HR7.out (by omega) _ _ _ _ _ _,by omega,zAL HC7.out (by omega) _ _ _ _ _ _⟩
     ·have t1:((d:Int) == -1)=false:=by rw [beq_eq_false_iff_ne];omega
      have HKL:Hid ((ctorsL xs ⟨(d:Int),(i:Int)⟩).length≤4):=by
       have h:=ctorsL_len HW.out (s:=d*4+i) (by omega)
       rw [tyAt_mk hi4] at h
       exact h
      obtain ⟨i0,hi,hz0,hz1,hz2'⟩:=info_parts info_PE
      have HI:=jj hi
      have HZ0:=jj hz0
      have HZ1:=jj hz1
      have HZ2x:=jj hz2'
      clear hi hz0 hz1 hz2'
      go_wp2_with fail
      refine (spec_l1Ctors xs ⟨(d:Int),(i:Int)⟩ w4 _ F (HX.out.mono (HC4.out.kept HF.out HGF.out) fun y _ cs G hk h=>DtR.mono y cs G hk h) (HF.out.mono HC4.out.size) HW.out HT.out.inWorld).mono ?_
      rintro e w5 ⟨v5,F5,rfl,hb5,ha5,-,hfs5⟩
      have KT5:=jj (KT4.out.same (hb5.block _ KT4.out.lt))
      have KR5:=jj (KR4.out.same (hb5.block _ KR4.out.lt))
      have HC5:=jj (HC4.out.step hb5)
      have HR5:=jj (HR4.out.below hb5)
      have HA5:=jj ha5
      have HU5:Hid (∀ b∈F5,w4.heap.size≤b∧b<w5.heap.size):=hfs5
      have hz5:=hb5.size
      obtain ⟨C5,cap5,rfl,hl1,hl2⟩:=ha5.form
      clear ha5 hfs5 hb5 y0 y1 ylt KT4 KR4 HC4 HR4
      cases q5:(((ctorsL xs ⟨(d:Int),(i:Int)⟩).length:Int)==0) with
      |true =>
       have rc0:=(KR5.out.cell 0).trans (show _=some (.int .i64 0) from by simp)
       have rf0:=KR5.out.frozen 0
       have rc1:=(KR5.out.cell 1).trans (show _=some (.int .i64 0) from by simp)
       have rf1:=KR5.out.frozen 1
       have rc2:=(KR5.out.cell 2).trans (show _=some (.int .i64 0) from by simp)
       have rf2:=KR5.out.frozen 2
       have rc3:=(KR5.out.cell 3).trans (show _=some (.int .i64 0) from by simp)
       have rf3:=KR5.out.frozen 3
       have rc4:=(KR5.out.cell 4).trans (show _=some (.int .i64 0) from by simp)
       have rf4:=KR5.out.frozen 4
       have rc5:=(KR5.out.cell 5).trans (show _=some (.slice none 0 0) from by simp)
       have rf5:=KR5.out.frozen 5
       have rlt:=KR5.out.lt
       go_wp2
       clear rc0 rf0 rc1 rf1 rc2 rf2 rc3 rf3 rc4 rf4 rc5 rf5 rlt
       refine bodyPost_ret (zA1 rfl _ _ (w.heap.size+1) 28 #[(1:Int),(0:Int),(0:Int),(0:Int),(0:Int),.slice none 0 0] (0,0) _ rfl (KR5.out.six _ _ _ _ _ _) Try.underlying28 rfl rfl) rfl ?_
       exact ⟨⟨1,0,0,0,0,[]⟩,[(1:Int),(0:Int),(0:Int),(0:Int),(0:Int),.slice none 0 0],[],p+1+1,rfl,(zA4 _ _ _).2 ⟨_,rfl,Arr.nil⟩,(fun b hb=>by cases hb),by simp [nodesP,P.size,P.sizes];omega,zB2 HR5.out (by omega) _ _ _ _ _ _,by omega,zAL HC5.out (by omega) _ _ _ _ _ _⟩
      |false =>
       have hk1:1≤(ctorsL xs ⟨(d:Int),(i:Int)⟩).length:=by
        rw [beq_eq_false_iff_ne] at q5
        omega
       have hk4:=HKL.out
       go_wp2_with fail
       refine (zAH (ctorsL xs ⟨(d:Int),(i:Int)⟩).length (p+1+1) g w5 HR5.out (by omega) hk1 (by omega)).mono ?_
       rintro e w6 ⟨r,rfl,hrl,hR6,hC6⟩
       have KT6:=jj (KT5.out.same (hC6.block _ KT5.out.lt (HG1.out _ hgl)))
       have KR6:=jj (KR5.out.same (hC6.block _ KR5.out.lt (HG1.out _ (by omega))))
       have HC6:=jj (HC5.out.trans hC6)
       have hz6:=hC6.size
       have hAF6:Arr w6 (NatR w6) (ctorsL xs ⟨(d:Int),(i:Int)⟩) (.slice C5 (ctorsL xs ⟨(d:Int),(i:Int)⟩).length cap5) F5:=ArrNat.kept HA5.out (hC6.kept (fun b hb=>(HU5.out b hb).2) (fun b hb=>HG1.out _ (by have:=(HU5.out b hb).1;omega)))
       obtain ⟨bf,offf,rfl⟩:=hAF6.ptr (by omega)
       obtain ⟨hbfl,cf⟩:=ArrNat.at hAF6 (fun b hb=>zz9 (HU5.out b hb).2 hz6) (zy2 _ _) r hrl
       have hme:(ctorsL xs ⟨(d:Int),(i:Int)⟩)[r]∈(ctorsL xs ⟨(d:Int),(i:Int)⟩):=List.getElem_mem hrl
       obtain ⟨d',m,e1,hkm,hd',hm⟩:=zB6 HT.out.inWorld hme
       obtain rfl:d=d':=Int.ofNat.inj e1
       rw [hkm] at cf hme
       have HME:=jj hme
       have HR6:=jj hR6
       have g1:(0:Int)≤(r:Int):=by omega
       have g2:(r:Int)<((ctorsL xs ⟨(d:Int),(i:Int)⟩).length:Int):=by omega
       have hal:=zBA (i:=(i:Int)) hd4 hm
       have HAL:Hid (∀ a∈argsL xs[d].ctors[m] (i:Int),TyIn xs.length a):=fun a ha=>argsOf_in HW.out HT.out HME.out (by rw [hal];exact ha)
       have hl3:(argsL xs[d].ctors[m] (i:Int)).length≤3:=by rw [argsL_len];exact (HW.out.ctor hd4 hm).args
       have hca:=(HW.out.ctor hd4 hm).args
       clear hkm e1 hme hR6 hC6 hAF6 hal KT5 KR5 HC5 HR5 HA5 q5
       have y0:w6.cell? ⟨w,0,none⟩=(d:Int):=(KT6.out.cell 0).trans (by simp)
       have y1:w6.cell? ⟨w,1,none⟩=(i:Int):=(KT6.out.cell 1).trans (by simp)
       have ylt:=KT6.out.lt
       go_wp2_with fail
       clear y0 y1 ylt cf hbfl
       obtain ⟨wn,hwn⟩:∃ wn,wn=w6.alloc (.cells #[(4:Int),(m:Int),(0:Int),(0:Int),(0:Int),.slice none 0 0] 28):=⟨_,rfl⟩
       have hbn:Below w6 w6 wn:=by rw [hwn];exact (zy2 _ _).alloc (zz8 _) _
       have KN:Hid (Blk wn w6 28 #[(4:Int),(m:Int),(0:Int),(0:Int),(0:Int),.slice none 0 0]):=by rw [hwn];exact Blk.new _ _ _
       rw [←hwn]
       clear hwn
       obtain ⟨D,hD⟩:∃ D,D=w6.heap.size:=⟨_,rfl⟩
       rw [←hD] at KN hbn hz6 ⊢
       have HCn:Hid (Chg [g] w wn):=HC6.out.trans (.of_below (by rw [←hD];exact hbn))
       have KRn:=jj (KR6.out.same (hbn.block _ (by rw [hD];exact KR6.out.lt)))
       have HRn:=jj (HR6.out.keep (w':=wn) (fun b hb=>hbn.block b (by omega)))
       clear hbn HC6 KT6 HR6 KR6 hD
       refine (spec_l1Args xs d m (i:Int) hd4 hm wn _ F (HX.out.mono (HCn.out.kept HF.out HGF.out) fun y _ cs G hk h=>DtR.mono y cs G hk h) (HF.out.mono HCn.out.size) hca).mono ?_
       rintro e w9 ⟨v7,F7,rfl,hb7,ha7,-,hfs7⟩
       have KN9:=jj (KN.out.same (hb7.block _ KN.out.lt))
       have KR9:=jj (KRn.out.same (hb7.block _ KRn.out.lt))
       have HC9:Hid (Chg [g] w w9):=HCn.out.step hb7
       have HR9:=jj (HRn.out.below hb7)
       have HA7:=jj ha7
       have HU7:=jj hfs7.under
       have HL7:Hid (∀ b∈F7,D<b):=fun b hb=>zz9 KN.out.lt (hfs7 b hb).1
       have hDw:D<w9.heap.size:=KN9.out.lt
       have hwD:w.heap.size+1<D:=by omega
       obtain ⟨C7,cap7,rfl,hl71,hl72⟩:=ha7.form
       obtain ⟨Bz,hBz⟩:∃ B,B=w9.heap.size:=⟨_,rfl⟩
       have HBZ:=jj hBz
       have hDB:D<Bz:=by rw [hBz];exact hDw
       clear ha7 hfs7 hb7 KN HCn KRn HRn hBz
       generalize (argsL xs[d].ctors[m] (i:Int))=ls at *
       go_wp2
       go_loopw [13] (fun iv wr=>∃ q:Nat,∃ kv:Value,∃ Fk:List Nat,∃ vs:List P,∃ pq:Nat,q≤ls.length∧iv=.int .i64 q∧Hid (vs.length=q)∧Hid (P.sizes vs≤q*4 ^ N)∧Hid (Blk wr D 28 #[(4:Int),(m:Int),(0:Int),(0:Int),(0:Int),kv])∧Hid (Own wr Bz 28 6 PR vs kv Fk)∧Hid (∀ b∈Fk,Bz≤b)∧Hid (Chg [D,g] w9 wr)∧Hid (Chg [g] w wr)∧w9.heap.size≤wr.heap.size∧Hid (Rd wr g pq)∧pq≤p+3+q*(5*4 ^ N)) (fun iv _=>ls.length-(intOf iv).toNat)
       case atStart=>exact ⟨0,_,[],[],p+1+1+1,Nat.zero_le _,rfl,rfl,Nat.zero_le _,KN9,Own.nil _ _ _ _ _,(fun b hb=>by cases hb),Chg.refl _ _,HC9,zz8 _,HR9,by omega⟩
       case round =>
        clear HC9 KN9 HR9
        obtain ⟨q,kv,Fk,vs,pq,hql,rfl,HVL,HVS,KD,HO,HFh,HC,HCw,hws9,HRq,hpq⟩:=hrel
        obtain ⟨kA,kcap,hkv,hkc1,hkc2⟩:=HO.out.form
        subst hkv
        have klt:=KD.out.lt
        have HA7r:Hid (Arr wr (TyR wr) ls (.slice C7 ls.length cap7) F7):=HA7.out.mono (HC.out.kept HU7.out (fun b hb h=>by have h1:=HL7.out b hb;rcases List.mem_cons.1 h with h2 | h2;omega;rw [zy1] at h2;omega)) (fun y _ cs G _ h=>h)
        have HU7r:Hid (Under wr F7):=HU7.out.mono HC.out.size
        by_cases hil:q<ls.length
        ·have g1:(0:Int)≤(q:Int):=by omega
         have g2:(q:Int)<(ls.length:Int):=by omega
         obtain ⟨b7,off7,rfl⟩:=HA7r.out.ptr (by omega)
         have hb7z:D<b7∧b7<Bz:=by
          obtain ⟨_,_,_,_,e,hb,-⟩:=HA7r.out.get TyR_len hil
          cases e
          exact ⟨HL7.out _ hb,by have:=HU7.out _ hb;rw [HBZ.out];exact this⟩
         obtain ⟨hb7w,k0,k1⟩:=ArrTy.at HA7r.out HU7r.out (zy2 _ _) q hil
         have ha:=HAL.out ls[q] (List.getElem_mem hil)
         have hvl:=HVL.out
         have hvl3:vs.length≤3:=by omega
         clear hvl
         have HA1:=jj ha
         clear ha
         obtain ⟨aq,haq⟩:∃ a,a=ls[q]:=⟨_,rfl⟩
         rw [←haq] at HA1 k0 k1
         clear haq
         have hmx:vs.length+1≤maxLen:=by unfold maxLen;omega
         have hby:(vs.length+1)*64≤140737488355328:=by omega
         have hmul:q*(5*4 ^ N)≤2*(5*4 ^ N):=Nat.mul_le_mul_right _ (by omega)
         have hmul1:(q+1)*(5*4 ^ N)=q*(5*4 ^ N)+5*4 ^ N:=by rw [Nat.add_mul];omega
         have zT:wr.drew.cell? ⟨D,5,none⟩=some (.slice kA vs.length kcap):=(KD.out.cell 5).trans (by simp)
         have zfT:wr.drew.frozen? ⟨D,5,none⟩=false:=KD.out.frozen 5
         have hkT:D<wr.drew.heap.size:=klt
         have hb7':b7<wr.drew.heap.size:=hb7w
         have hDg:D∉[g]:=HG1.out _ (by omega)
         have hb7g:b7∉[g]:=HG1.out _ (by omega)
         have HCd:=jj (HCw.out.drew)
         have HCALL:=jj (IH.out xs HW.out aq HA1.out (dp-1) (by push_cast at hdp;omega) (by push_cast at hlo;omega) wr.drew pq g _ F HRq.out.drew (by omega) (HX.out.mono (HCd.out.kept HF.out HGF.out) fun y _ cs G hk h=>DtR.mono y cs G hk h) (HF.out.mono HCd.out.size) HGf.out)
         go_wp2_with fail
         refine zA9 (S:=fun w'=>w'.cell? ⟨b7,off7+q*2,none⟩=aq.d∧w'.cell? ⟨b7,off7+q*2+1,none⟩=aq.i) (T:=fun w'=>w'.cell? ⟨D,5,none⟩=some (.slice kA vs.length kcap)) (d:=12) (by kernel_rfl) ?_
         have hS1:wr.drew.cell? ⟨b7,off7+q*2,none⟩=aq.d∧wr.drew.cell? ⟨b7,off7+q*2+1,none⟩=aq.i:=⟨k0,k1⟩
         have hT1:wr.drew.cell? ⟨D,5,none⟩=some (.slice kA vs.length kcap):=zT
         refine wV 0 rfl hS1 hT1 ?_
         (try simp only [Act.put,zz4,zz5,zz6])
         refine zB5 (i:=1) (v:=?_) rfl (by decide) rfl (by kernel_rfl) (by kernel_rfl) (by kernel_rfl) (by kernel_rfl) (fun _ _ _ h=>h) (Or.inl ⟨by rfl,?hy1⟩) (by rfl) hS1 hT1 ?_
         case hy1=>(intro W hSw;(try dsimp only at hSw);(obtain ⟨⟨s0,s1⟩,tT⟩:=hSw);go_simp;try with_reducible rfl)
         (try simp only [Act.put,zz4,zz5,zz6])
         refine wV 2 rfl hS1 hT1 ?_
         (try simp only [Act.put,zz4,zz5,zz6])
         refine wV 3 rfl hS1 hT1 ?_
         (try simp only [Act.put,zz4,zz5,zz6])
         refine wV 4 rfl hS1 hT1 ?_
         (try simp only [Act.put,zz4,zz5,zz6])
         refine wV 5 rfl hS1 hT1 ?_
         (try simp only [Act.put,zz4,zz5,zz6])
         refine wV 6 rfl hS1 hT1 ?_
         (try simp only [Act.put,zz4,zz5,zz6])
         refine wV 7 rfl hS1 hT1 ?_
         (try simp only [Act.put,zz4,zz5,zz6])
         refine wV 8 rfl hS1 hT1 ?_
         (try simp only [Act.put,zz4,zz5,zz6])
         refine wV 9 rfl hS1 hT1 ?_
         (try simp only [Act.put,zz4,zz5,zz6])
         refine w1 10 rfl fun K hK=>?_
         go_simp
         go_at_call 91
         with_reducible refine HCALL.out.mono ?_
         rintro e wA ⟨vA,csA,FA,qA,rfl,hpA,hfsA,hnA,hRA,hqA,hbA⟩
         obtain ⟨kvA,rfl,haA⟩:=(zA4 _ _ _).1 hpA
         obtain ⟨A8,cap8,rfl,-,-⟩:=haA.form
         clear haA
         have HBu:Hid (Chg [g] wr wA):=hbA.undrew
         have HPA:=jj hpA
         have HRA:=jj hRA
         have HNA:=jj hnA
         have HFsA:Hid (∀ b∈FA,wr.heap.size≤b∧b<wA.heap.size):=fun b hb=>⟨(hfsA b hb).2.2,(hfsA b hb).1⟩
         have HOA:Hid (Own wA Bz 28 6 PR vs (.slice kA vs.length kcap) Fk):=HO.out.chg PR_mono' HBu.out (fun b hb=>by rw [zy1] at hb;omega) HFh.out
         have hbs:Bz≤wA.heap.size:=by have h1:=HBu.out.size;have h2:=HBZ.out;omega
         clear hpA hRA hnA hfsA
         have hSA:wA.cell? ⟨b7,off7+q*2,none⟩=aq.d∧wA.cell? ⟨b7,off7+q*2+1,none⟩=aq.i:=⟨(hbA.cell (p:=⟨b7,off7+q*2,none⟩) hb7' hb7g).trans k0,(hbA.cell (p:=⟨b7,off7+q*2+1,none⟩) hb7' hb7g).trans k1⟩
         have zA:wA.cell? ⟨D,5,none⟩=some (.slice kA vs.length kcap):=(hbA.cell (p:=⟨D,5,none⟩) hkT hDg).trans zT
         have zfA:wA.frozen? ⟨D,5,none⟩=false:=(hbA.frozen hkT hDg).trans zfT
         have hkA:D<wA.heap.size:=zz9 hkT hbA.size
         have kl1:b7<wA.heap.size:=zz9 hb7' hbA.size
         have kl2:b7<wA.heap.size:=zz9 hb7' hbA.size
         have hSB:(wA.alloc (.cells [.int .i64 vA.op,.int .i64 vA.ct,.int .i64 vA.n,.int .i64 vA.m,.int .i64 vA.va,.slice A8 vA.ks.length cap8].toArray 28)).cell? ⟨b7,off7+q*2,none⟩=aq.d∧(wA.alloc (.cells [.int .i64 vA.op,.int .i64 vA.ct,.int .i64 vA.n,.int .i64 vA.m,.int .i64 vA.va,.slice A8 vA.ks.length cap8].toArray 28)).cell? ⟨b7,off7+q*2+1,none⟩=aq.i:=⟨(World.cell?_alloc_lt _ _ _ kl1).trans hSA.1,(World.cell?_alloc_lt _ _ _ kl2).trans hSA.2⟩
         dsimp only
         refine hK.out _ _ hSA (fun _=>zA) ?_
         clear hK K
         (try simp only [Act.put,zz4,zz5,zz6])
         refine w1 11 rfl fun K hK=>?_
         go_simp
         refine hK.out _ _ hSB (fun _=>(World.cell?_alloc_lt _ _ _ hkA).trans zA) ?_
         clear hK K
         (try simp only [Act.put,zz4,zz5,zz6])
         refine w1 12 rfl fun K hK=>?_
         refine step_push1 (P:=Try.prog) rfl _ _ 26 rfl i0 _ 64 Try.underlying26 HI.out HZ0.out HZ1.out HZ2x.out rfl (by decide) PR_len' PR_mono' (by rfl) HOA.out vA 28 [vA.op,vA.ct,vA.n,vA.m,vA.va,.slice A8 vA.ks.length cap8] FA wA.heap.size (by rfl) rfl (by simp [Value.oneCell']) HPA.out (fun b hb=>(HFsA.out b hb).2) (fun g hg hG=>Nat.lt_irrefl _ (zz9 (HO.out.row g hg).2 (HFsA.out g hG).1)) hmx hby hbs ?_
         intro g cp w7 hown7 hgr7 hat7
         have hrow7:=HOA.out.row
         have n7:∀ x,(x<Bz∨wr.heap.size≤x)→some x≠(Value.ownBlock (.slice kA vs.length kcap)):=fun x hx e=>by
          have h1:=(hrow7 x (zA2.2 e.symm)).1
          have h2:=(HO.out.row x (zA2.2 e.symm)).2
          omega
         have l7:wA.heap.size≤(wA.alloc (.cells [.int .i64 vA.op,.int .i64 vA.ct,.int .i64 vA.n,.int .i64 vA.m,.int .i64 vA.va,.slice A8 vA.ks.length cap8].toArray 28)).heap.size:=by rw [World.size_alloc];exact Nat.le_succ _
         have s7:w7.cell? ⟨b7,off7+q*2,none⟩=aq.d∧w7.cell? ⟨b7,off7+q*2+1,none⟩=aq.i:=⟨(World.grownBy.cell_far hgr7 ⟨b7,off7+q*2,none⟩ (zz9 kl1 l7) (n7 (b7) (by omega))).trans hSB.1,(World.grownBy.cell_far hgr7 ⟨b7,off7+q*2+1,none⟩ (zz9 kl2 l7) (n7 (b7) (by omega))).trans hSB.2⟩
         have z71:w7.cell? ⟨D,5,none⟩=some (.slice kA vs.length kcap):=(World.grownBy.cell_far hgr7 ⟨D,5,none⟩ (zz9 hkA l7) (n7 (D) (by omega))).trans ((World.cell?_alloc_lt _ _ _ hkA).trans zA)
         have zf71:w7.frozen? ⟨D,5,none⟩=false:=(World.grownBy.frozen_far hgr7 ⟨D,5,none⟩ (zz9 hkA l7) (n7 (D) (by omega))).trans (Eq.trans (World.frozen?_of_block (Below.heap_alloc _ _ _ hkA)) zfA)
         refine hK.out _ _ s7 (fun h=>by cases h) ?_
         clear hK K
         (try simp only [Act.put,zz4,zz5,zz6])
         refine wU (i:=13) (v:=?_) rfl (Or.inl ⟨by rfl,?hy13⟩) s7 (fun h=>by cases h) ?_
         case hy13=>(intro W hSw;(try dsimp only at hSw);(obtain ⟨s0,s1⟩:=hSw);go_simp;try with_reducible rfl)
         (try simp only [Act.put,zz4,zz5,zz6])
         refine w1 14 rfl fun K hK=>?_
         go_simp
         refine hK.out _ _ ⟨(World.cell?_setCell_far _ _ _ _ (by show D≠b7;omega)).trans s7.1,(World.cell?_setCell_far _ _ _ _ (by show D≠b7;omega)).trans s7.2⟩ (fun h=>by cases h) ?_
         clear hK K
         (try simp only [Act.put,zz4,zz5,zz6])
         refine wE (by kernel_rfl) ?_
         obtain ⟨r1,r2,r3,r4,r5,r6,r7⟩:=kid_round3 (w:=w) 5 PR_mono' HBZ.out.symm hDB hgl (by omega) KD.out HO.out HFh.out HC.out HCw.out HBu.out HFsA.out hown7 hgr7 HRA.out
         have R1:=jj r1
         have R2:=jj r2
         have R3:=jj r3
         have R4:=jj r4
         have R5:=jj r5
         have R7:=jj r7
         have HV2:Hid ((vs ++ [vA]).length=q+1):=by have:=HVL.out;unfold Hid;rw [List.length_append];simp only [List.length_cons,List.length_nil];omega
         have HS2:Hid (P.sizes (vs ++ [vA])≤(q+1)*4 ^ N):=psizes_snoc vs vA q _ HVS.out HNA.out
         clear r1 r2 r3 r4 r5 r7 hown7 hgr7 hat7 hrow7 n7 l7 s7 z71 zf71 hSA zA zfA hkA hSB hS1 hT1 zT zfT hkT HCALL
         go_wp2
         go_roundw
         case rel=>exact ⟨q+1,_,_,vs ++ [vA],qA,hil,by go_num,HV2,HS2,R1,(by rw [show (vs ++ [vA]).length=vs.length+1 from by rw [List.length_append];rfl] at *;exact R2),R3,R4,R5,r6,R7,by omega⟩
         case measure=>(simp [intOf] <;> omega)
        ·have hq:q=ls.length:=by omega
         obtain ⟨FF,hf1,hf3⟩:=kid_done3 (H:=Bz) HO.out HFh.out (zz8 _)
         have HF1:=jj hf1
         have HF3:=jj hf3
         have e0:=(KD.out.cell 0).trans (show _=some (.int .i64 4) from by simp)
         have e1:=(KD.out.cell 1).trans (show _=some (.int .i64 (m:Int)) from by simp)
         have e2:=(KD.out.cell 2).trans (show _=some (.int .i64 0) from by simp)
         have e3:=(KD.out.cell 3).trans (show _=some (.int .i64 0) from by simp)
         have e4:=(KD.out.cell 4).trans (show _=some (.int .i64 0) from by simp)
         have e5:=(KD.out.cell 5).trans (show _=some (.slice kA vs.length kcap) from by simp)
         have RR:=jj (KR9.out.same (HC.out.block _ KR9.out.lt (by intro h;rcases List.mem_cons.1 h with h2 | h2;omega;rw [zy1] at h2;omega)))
         have hmul:q*(5*4 ^ N)≤3*(5*4 ^ N):=Nat.mul_le_mul_right _ (by omega)
         have hmul2:q*4 ^ N≤3*4 ^ N:=Nat.mul_le_mul_right _ (by omega)
         have HPQ:Hid (pq≤p+5*4 ^ (N+1)):=by unfold Hid;omega
         have HSZ:Hid (nodesP ⟨4,(m:Int),0,0,0,vs⟩≤4 ^ (N+1)):=by have:=HVS.out;unfold Hid nodesP;rw [P.size];omega
         have rc0:=(RR.out.cell 0).trans (show _=some (.int .i64 0) from by simp)
         have rf0:=RR.out.frozen 0
         have rc1:=(RR.out.cell 1).trans (show _=some (.int .i64 0) from by simp)
         have rf1:=RR.out.frozen 1
         have rc2:=(RR.out.cell 2).trans (show _=some (.int .i64 0) from by simp)
         have rf2:=RR.out.frozen 2
         have rc3:=(RR.out.cell 3).trans (show _=some (.int .i64 0) from by simp)
         have rf3:=RR.out.frozen 3
         have rc4:=(RR.out.cell 4).trans (show _=some (.int .i64 0) from by simp)
         have rf4:=RR.out.frozen 4
         have rc5:=(RR.out.cell 5).trans (show _=some (.slice none 0 0) from by simp)
         have rf5:=RR.out.frozen 5
         have rlt:=RR.out.lt
         clear hf1 hf3 hq
         go_wp2
         clear e0 e1 e2 e3 e4 e5 rc0 rf0 rc1 rf1 rc2 rf2 rc3 rf3 rc4 rf4 rc5 rf5 rlt
         refine bodyPost_ret (zA1 rfl _ _ (w.heap.size+1) 28 #[(4:Int),(m:Int),(0:Int),(0:Int),(0:Int),.slice kA vs.length kcap] (0,0) _ rfl (RR.out.six _ _ _ _ _ _) Try.underlying28 rfl rfl) rfl ?_
         have hkp:Kept FF wr _:=zAM (w:=wr) (H:=w.heap.size+1) (fun b hb=>by have:=(HF3.out b hb).1;omega) (.int .i64 4) (.int .i64 (m:Int)) (.int .i64 0) (.int .i64 0) (.int .i64 0) (.slice kA vs.length kcap)
         exact ⟨⟨4,(m:Int),0,0,0,vs⟩,[(4:Int),(m:Int),(0:Int),(0:Int),(0:Int),.slice kA vs.length kcap],FF,pq,rfl,(zA4 _ _ _).2 ⟨_,rfl,ArrP.mono HF1.out hkp⟩,fun b hb=>⟨by rw [zAN];exact (HF3.out b hb).2,by have:=(HF3.out b hb).1;omega,by have:=(HF3.out b hb).1;omega⟩,HSZ.out,zB2 HRq.out (by omega) _ _ _ _ _ _,HPQ.out,zAL HCw.out (by omega) _ _ _ _ _ _⟩
def scanPB (xs:List Dt) (d:Nat) (t:Ty) (p:P) (c:Nat):Bool:=shapeB xs d t p && (decide (c+nodesP p≤60) && linB xs d t p)
def nodeB (xs:List Dt) (t:Ty) (p:P):Bool:=ownB xs t p && p.ks.length==(typesP xs t p).length
def kidSum (p:P) (i:Nat):Nat:=(p.ks.take i).foldl (fun n k=>n+nodesP k) 0
theorem foldl_nodes (l:List P) (n:Nat):l.foldl (fun n k=>n+nodesP k) n=n+(l.length+P.subs l):=by
 induction l generalizing n with
 |nil=>simp [P.subs]
 |cons k l ih=>rw [List.foldl_cons,ih];simp only [P.subs,List.length_cons,nodesP];omega
theorem zAS (p:P) (i:Nat) (h:i<p.ks.length):kidSum p (i+1)=kidSum p i+nodesP p.ks[i]:=by
 unfold kidSum
 rw [take_snoc' p.ks i h,List.foldl_append];rfl
theorem zAK (p:P) {i:Nat} (h:p.ks.length≤i):nodesP p=1+kidSum p i:=by
 unfold kidSum
 rw [List.take_of_length_le h,foldl_nodes]
 obtain ⟨op,ct,n,m,va,ks⟩:=p
 unfold nodesP
 rw [P.size,P.sizes_eq]
 simp only;omega
theorem kidSum_le (p:P) (i:Nat):1+kidSum p i≤nodesP p:=by
 rw [zAK p (zz8 _)]
 unfold kidSum
 rw [foldl_nodes,foldl_nodes]
 have h1:=P.subs_take_le p.ks i
 have h2:(p.ks.take i).length≤p.ks.length:=by rw [List.length_take];omega
 rw [List.take_of_length_le (zz8 _)]
 omega
section
variable {xs : List Dt} {d c i : Nat} {t : Ty} {p : P}
theorem scanPB_node (h:nodeB xs t p=false):scanPB xs (d+1) t p c=false:=by
 have e:shapeB xs (d+1) t p=(nodeB xs t p && ((typesP xs t p).zip p.ks).all fun x=>shapeB xs d x.1 x.2):=by
  unfold nodeB
  rw [Bool.and_assoc];rfl
 unfold scanPB
 rw [e,h];rfl
theorem scanPB_many (h:60<c+1):scanPB xs d t p c=false:=by
 have h1:¬c+nodesP p≤60:=by unfold nodesP;omega
 unfold scanPB
 rw [decide_eq_false h1,Bool.false_and,Bool.and_false]
theorem scanPB_deep:scanPB xs 0 t p c=false:=rfl
structure KidsOk (xs:List Dt) (d:Nat) (t:Ty) (p:P) (c i:Nat):Prop where
 node:nodeB xs t p=true
 le:i≤p.ks.length
 fit:c+1+kidSum p i≤60
 all:∀ j (h:j<p.ks.length) (h':j<(typesP xs t p).length),j<i→shapeB xs d (typesP xs t p)[j] p.ks[j]=true∧linB xs d (typesP xs t p)[j] p.ks[j]=true
theorem KidsOk.len (h:KidsOk xs d t p c i):p.ks.length=(typesP xs t p).length:=by
 have:=h.node
 unfold nodeB at this
 rw [Bool.and_eq_true,beq_iff_eq] at this
 exact this.2
theorem KidsOk.zero (h:nodeB xs t p=true) (hc:c+1≤60):KidsOk xs d t p c 0:=⟨h,Nat.zero_le _,by unfold kidSum;simpa using hc,fun j _ _ hj=>by omega⟩
theorem zip_at (hi:i<p.ks.length) (hi':i<(typesP xs t p).length):((typesP xs t p)[i],p.ks[i])∈(typesP xs t p).zip p.ks:=by
 rw [List.mem_iff_getElem]
 exact ⟨i,by rw [List.length_zip];omega,by rw [List.getElem_zip]⟩
theorem KidsOk.next (h:KidsOk xs d t p c i) (hi:i<p.ks.length) (hi':i<(typesP xs t p).length) (hs:scanPB xs d (typesP xs t p)[i] p.ks[i] (c+1+kidSum p i)=true):KidsOk xs d t p c (i+1):=by
 unfold scanPB at hs
 rw [Bool.and_eq_true,Bool.and_eq_true,decide_eq_true_eq] at hs
 refine ⟨h.node,hi,by rw [zAS p i hi];omega,fun j hj hj' hji=>?_⟩
 rcases Nat.lt_or_ge j i with h1 | h1
 ·exact h.all j hj hj' h1
 ·obtain rfl:j=i:=by omega
  exact ⟨hs.1,hs.2.2⟩
theorem KidsOk.fail (h:KidsOk xs d t p c i) (hi:i<p.ks.length) (hi':i<(typesP xs t p).length) (hs:scanPB xs d (typesP xs t p)[i] p.ks[i] (c+1+kidSum p i)=false):scanPB xs (d+1) t p c=false:=by
 rw [Bool.eq_false_iff]
 intro hk
 unfold scanPB at hk
 rw [Bool.and_eq_true,Bool.and_eq_true,decide_eq_true_eq] at hk
 obtain ⟨h1,h2,h3⟩:=hk
 simp only [shapeB,linB,Bool.and_eq_true] at h1 h3
 have m:=zip_at (xs:=xs) (t:=t) hi hi'
 have s1:=List.all_eq_true.1 h1.2.2 _ m
 have s2:=List.all_eq_true.1 h3.1 _ m
 have s3:c+1+kidSum p i+nodesP p.ks[i]≤60:=by
  have:=kidSum_le p (i+1)
  rw [zAS p i hi] at this
  omega
 unfold scanPB at hs
 rw [s1,s2,decide_eq_true s3] at hs
 cases hs
theorem KidsOk.shape (h:KidsOk xs d t p c p.ks.length):shapeB xs (d+1) t p=true:=by
 have hn:=h.node
 have hl:=h.len
 unfold nodeB at hn
 rw [Bool.and_eq_true] at hn
 unfold shapeB
 rw [hn.1,hn.2,Bool.true_and,Bool.true_and,List.all_eq_true]
 intro x hx
 obtain ⟨i,hi,rfl⟩:=List.mem_iff_getElem.1 hx
 rw [List.length_zip] at hi
 rw [List.getElem_zip]
 exact (h.all i (by omega) (by omega) (by omega)).1
theorem KidsOk.lins (h:KidsOk xs d t p c p.ks.length):(((typesP xs t p).zip p.ks).all fun x=>linB xs d x.1 x.2)=true:=by
 rw [List.all_eq_true]
 intro x hx
 have hl:=h.len
 obtain ⟨i,hi,rfl⟩:=List.mem_iff_getElem.1 hx
 rw [List.length_zip] at hi
 rw [List.getElem_zip]
 exact (h.all i (by omega) (by omega) (by omega)).2
theorem KidsOk.done (h:KidsOk xs d t p c p.ks.length):scanPB xs (d+1) t p c=(if p.op=5 then (match p.ks with | [k0,k1]=>alikeB (varsN xs d t k0) (varsN xs d t k1) | _=>true) else dupFree (varsN xs (d+1) t p)):=by
 have hf:c+nodesP p≤60:=by rw [zAK p (zz8 _)];have:=h.fit;omega
 unfold scanPB
 rw [h.shape,decide_eq_true hf,Bool.true_and,Bool.true_and]
 show ((((typesP xs t p).zip p.ks).all fun x=>linB xs d x.1 x.2) && _)=_
 rw [h.lins,Bool.true_and]
 all_goals rfl
end
theorem ArrP.at {w0 w:World} {b off n cap:Nat} {F:List Nat} {xs:List P} (h:Arr w0 (PR w0) xs (.slice (some ⟨b,off,none⟩) n cap) F) (hF:Under w0 F) (hB:Below w0 w0 w) (i:Nat) (hi:i<xs.length) :
  ∃ A1 cap1 G,b<w.heap.size∧w.cell? ⟨b,off+i*6,none⟩=xs[i].op∧w.cell? ⟨b,off+i*6+1,none⟩=xs[i].ct∧w.cell? ⟨b,off+i*6+2,none⟩=xs[i].n∧w.cell? ⟨b,off+i*6+3,none⟩=xs[i].m∧w.cell? ⟨b,off+i*6+4,none⟩=xs[i].va∧w.cell? ⟨b,off+i*6+5,none⟩=some (.slice A1 xs[i].ks.length cap1) ∧
   Hid (PR w0 xs[i] [xs[i].op,xs[i].ct,xs[i].n,xs[i].m,xs[i].va,.slice A1 xs[i].ks.length cap1] G)∧Hid (Under w0 G)∧(∀ b∈G,b∈F)∧xs[i].ks.length≤cap1∧cap1≤9223372036854775807:=by
 obtain ⟨b',off',cs,G,e,hb,hcs,hv,hG⟩:=h.get PR_len hi
 cases e
 have hbl:=hF _ hb
 have hc:=hcs.same (hB.block _ hbl)
 obtain ⟨kv,rfl,ha⟩:=(zA4 _ _ _).1 hv
 obtain ⟨A1,cap1,rfl,h1,h2⟩:=ha.form
 exact ⟨A1,cap1,G,zz9 hbl hB.size,hc 0 _ rfl,hc 1 _ rfl,hc 2 _ rfl,hc 3 _ rfl,hc 4 _ rfl,hc 5 _ rfl,hv,hF.sub hG,hG,h1,h2⟩
theorem zA5 (p:P):nodesP p=1+P.sizes p.ks:=by obtain ⟨op,ct,n,m,va,ks⟩:=p;unfold nodesP;rw [P.size];simp only;omega
theorem sizesP_step {l:List P} {i:Nat} (h:i<l.length):P.sizes (l.take (i+1))=P.sizes (l.take i)+nodesP l[i]:=by
 rw [P.sizes_eq,P.sizes_eq,P.subs_take_succ l i h,List.length_take,List.length_take]
 unfold nodesP
 omega
theorem zAG (l:List P) (i:Nat):P.sizes (l.take i)≤P.sizes l:=by
 rw [P.sizes_eq,P.sizes_eq,List.length_take]
 have:=P.subs_take_le l i
 omega
theorem nodesP_mem {l:List P} {i:Nat} (h:i<l.length):nodesP l[i]≤P.sizes l:=by
 have h1:=sizesP_step h
 have h2:=zAG l (i+1)
 omega
theorem P.indv {q:P→Prop} (h:∀ v:P,(∀ k∈v.ks,q k)→q v):∀ v,q v:=P.ind fun op ct n m va ks ih=>h ⟨op,ct,n,m,va,ks⟩ ih
def DrewPN (b p n g:Nat) (top:Int) (G:List Nat) (w:World) (e:Ending) (w':World):Prop:=∃ (a:P) (cs:List Value) (F:List Nat) (q:Nat) (m:Int),e=.returned (.tuple #[.agg cs.toArray,.int .i64 m])∧PR w' a cs F∧(∀ b∈F,b<w'.heap.size∧(b∈G∨w.heap.size≤b))∧nodesP a≤b∧Rd w' g q∧q≤p+n∧Chg [g] w w'∧0≤m∧m≤top
theorem psizes_snoc2 (vs:List P) (v k:P) (s:Nat) (h:P.sizes vs≤2*s) (hv:nodesP v≤2*nodesP k):P.sizes (vs ++ [v])≤2*(s+nodesP k):=by
 rw [P.sizes_eq] at h ⊢
 rw [P.subs_snoc,List.length_append]
 unfold nodesP at hv ⊢
 simp only [List.length_cons,List.length_nil]
 omega
def NameP (a:P):Prop:=∀ (w:World) (p g:Nat) (n:Int) (cs:List Value) (G:List Nat),Rd w g p→p+2*nodesP a≤900000→0≤n→n+2*(nodesP a:Int)≤1000000→PR w a cs G→Under w G→(∀ b∈G,b≠g) →
 Calls Try.prog 90 #[.pointer (some ⟨g,0,none⟩),.agg cs.toArray,.int .i64 n] w (DrewPN (2*nodesP a) p (2*nodesP a) g (n+2*(nodesP a:Int)) G w)
set_option maxHeartbeats 8000000 in
theorem l3Name_top (a:P) (ih:∀ k∈a.ks,NameP k) (w:World) (p g:Nat) (n:Int) (cs:List Value) (G:List Nat) (hr:Rd w g p) (hp:p+2*nodesP a≤900000) (hn0:0≤n) (hn1:n+2*(nodesP a:Int)≤1000000) (hv:PR w a cs G) (hG:Under w G) (hGg:∀ b∈G,b≠g) (h5:decide (n>5)=true) :
  Calls Try.prog 90 #[.pointer (some ⟨g,0,none⟩),.agg cs.toArray,.int .i64 n] w (DrewPN (2*nodesP a) p (2*nodesP a) g (n+2*(nodesP a:Int)) G w):=by
 obtain ⟨kv,rfl,ha⟩:=(zA4 _ _ _).1 hv
 obtain ⟨A4,cap4,rfl,hc3,hc4⟩:=ha.form
 have IH:=jj ih
 have hgl:=hr.lt
 have hnp:1≤nodesP a:=by unfold nodesP;omega
 have hka:=zAK a (zz8 a.ks.length)
 have hkl:a.ks.length≤1000000:=by
  have h1:=P.sizes_eq a.ks
  have h2:=zA5 a
  omega
 have hB0:Below w w ((w.alloc (.cells #[a.op,a.ct,a.n,a.m,a.va,.slice A4 a.ks.length cap4] 28)).alloc (.cells #[(0:Int),(0:Int),(0:Int),(0:Int),(0:Int),.slice none 0 0] 28)):=((zy2 _ _).alloc (zz8 _) _).alloc (by simp) _
 have KP:Hid (Blk ((w.alloc (.cells #[a.op,a.ct,a.n,a.m,a.va,.slice A4 a.ks.length cap4] 28)).alloc (.cells #[(0:Int),(0:Int),(0:Int),(0:Int),(0:Int),.slice none 0 0] 28)) w.heap.size 28 #[a.op,a.ct,a.n,a.m,a.va,.slice A4 a.ks.length cap4]):=(Blk.new w _ _).same (Below.heap_alloc _ _ _ (by simp))
 have KR:Hid (Blk ((w.alloc (.cells #[a.op,a.ct,a.n,a.m,a.va,.slice A4 a.ks.length cap4] 28)).alloc (.cells #[(0:Int),(0:Int),(0:Int),(0:Int),(0:Int),.slice none 0 0] 28)) (w.heap.size+1) 28 #[(0:Int),(0:Int),(0:Int),(0:Int),(0:Int),.slice none 0 0]):=zA8 w _ 28 _
 have HR:=jj (hr.below hB0)
 have hz2:((w.alloc (.cells #[a.op,a.ct,a.n,a.m,a.va,.slice A4 a.ks.length cap4] 28)).alloc (.cells #[(0:Int),(0:Int),(0:Int),(0:Int),(0:Int),.slice none 0 0] 28)).heap.size=w.heap.size+2:=by simp
 have HC0:Hid (Chg [g] w ((w.alloc (.cells #[a.op,a.ct,a.n,a.m,a.va,.slice A4 a.ks.length cap4] 28)).alloc (.cells #[(0:Int),(0:Int),(0:Int),(0:Int),(0:Int),.slice none 0 0] 28))):=.of_below hB0
 have HV0:=jj (hv.below hB0 hG)
 have HUN:Hid (∀ b∈G,b<((w.alloc (.cells #[a.op,a.ct,a.n,a.m,a.va,.slice A4 a.ks.length cap4] 28)).alloc (.cells #[(0:Int),(0:Int),(0:Int),(0:Int),(0:Int),.slice none 0 0] 28)).heap.size∧(b∈G∨w.heap.size≤b)∧b≠w.heap.size+1):=fun b hb=>⟨by have:=hG b hb;omega,.inl hb,by have:=hG b hb;omega⟩
 have HA:=jj ha
 have HV:=jj hv
 have HRw:=jj hr
 have HG:=jj hG
 have HGg:=jj hGg
 have HG1:Hid (∀ b,g<b→b∉[g]):=fun b hb h=>by rw [zy1] at h;omega
 clear ih hr hv ha hG hGg hB0
 obtain ⟨z0,z1,z2,z3,z4,z5,zlt⟩:=KP.out.c6
 have rc0:=(KR.out.cell 0).trans (show _=some (.int .i64 0) from by simp)
 have rf0:=KR.out.frozen 0
 have rc1:=(KR.out.cell 1).trans (show _=some (.int .i64 0) from by simp)
 have rf1:=KR.out.frozen 1
 have rc2:=(KR.out.cell 2).trans (show _=some (.int .i64 0) from by simp)
 have rf2:=KR.out.frozen 2
 have rc3:=(KR.out.cell 3).trans (show _=some (.int .i64 0) from by simp)
 have rf3:=KR.out.frozen 3
 have rc4:=(KR.out.cell 4).trans (show _=some (.int .i64 0) from by simp)
 have rf4:=KR.out.frozen 4
 have rc5:=(KR.out.cell 5).trans (show _=some (.slice none 0 0) from by simp)
 have rf5:=KR.out.frozen 5
 have rlt:=KR.out.lt
 go_enter Try.func90,Try.ntmps90
 go_wp2
 clear rc0 rf0 rc1 rf1 rc2 rf2 rc3 rf3 rc4 rf4 rc5 rf5 rlt KR HR HC0 HV0 HUN hz2 KP z0 z1 z2 z3 z4 z5 zlt
 have hBe:Below w w ((w.alloc (.cells #[a.op,a.ct,a.n,a.m,a.va,.slice A4 a.ks.length cap4] 28)).alloc (.cells #[a.op,a.ct,a.n,a.m,a.va,.slice A4 a.ks.length cap4] 28)):=((zy2 _ _).alloc (zz8 _) _).alloc (by simp) _
 have KR:Hid (Blk ((w.alloc (.cells #[a.op,a.ct,a.n,a.m,a.va,.slice A4 a.ks.length cap4] 28)).alloc (.cells #[a.op,a.ct,a.n,a.m,a.va,.slice A4 a.ks.length cap4] 28)) (w.heap.size+1) 28 #[a.op,a.ct,a.n,a.m,a.va,.slice A4 a.ks.length cap4]):=zA8 w _ 28 _
 have HV0:=jj (HV.out.below hBe HG.out)
 have HR:=jj (HRw.out.below hBe)
 have hz2:((w.alloc (.cells #[a.op,a.ct,a.n,a.m,a.va,.slice A4 a.ks.length cap4] 28)).alloc (.cells #[a.op,a.ct,a.n,a.m,a.va,.slice A4 a.ks.length cap4] 28)).heap.size=w.heap.size+2:=by simp
 generalize ((w.alloc (.cells #[a.op,a.ct,a.n,a.m,a.va,.slice A4 a.ks.length cap4] 28)).alloc (.cells #[a.op,a.ct,a.n,a.m,a.va,.slice A4 a.ks.length cap4] 28))=w3 at *
 refine bodyPost_ret (zAB rfl _ _ (w.heap.size+1) 28 #[a.op,a.ct,a.n,a.m,a.va,.slice A4 a.ks.length cap4] (0,0) _ rfl KR.out Try.underlying28 rfl rfl) rfl ?_
 exact ⟨a,[a.op,a.ct,a.n,a.m,a.va,.slice A4 a.ks.length cap4],G,p,n,rfl,HV0.out,fun b hb=>⟨by have:=HG.out b hb;omega,.inl hb⟩,by omega,HR.out,by omega,.of_below hBe,hn0,by omega⟩
set_option maxHeartbeats 8000000 in
theorem l3Name_or (a:P) (ih:∀ k∈a.ks,NameP k) (w:World) (p g:Nat) (n:Int) (cs:List Value) (G:List Nat) (hr:Rd w g p) (hp:p+2*nodesP a≤900000) (hn0:0≤n) (hn1:n+2*(nodesP a:Int)≤1000000) (hv:PR w a cs G) (hG:Under w G) (hGg:∀ b∈G,b≠g) (h5:decide (n>5)=false) (q5:(a.op==5)=true) :
  Calls Try.prog 90 #[.pointer (some ⟨g,0,none⟩),.agg cs.toArray,.int .i64 n] w (DrewPN (2*nodesP a) p (2*nodesP a) g (n+2*(nodesP a:Int)) G w):=by
 obtain ⟨kv,rfl,ha⟩:=(zA4 _ _ _).1 hv
 obtain ⟨A4,cap4,rfl,hc3,hc4⟩:=ha.form
 have IH:=jj ih
 have hgl:=hr.lt
 have hnp:1≤nodesP a:=by unfold nodesP;omega
 have hka:=zAK a (zz8 a.ks.length)
 have hkl:a.ks.length≤1000000:=by
  have h1:=P.sizes_eq a.ks
  have h2:=zA5 a
  omega
 have hB0:Below w w ((w.alloc (.cells #[a.op,a.ct,a.n,a.m,a.va,.slice A4 a.ks.length cap4] 28)).alloc (.cells #[(0:Int),(0:Int),(0:Int),(0:Int),(0:Int),.slice none 0 0] 28)):=((zy2 _ _).alloc (zz8 _) _).alloc (by simp) _
 have KP:Hid (Blk ((w.alloc (.cells #[a.op,a.ct,a.n,a.m,a.va,.slice A4 a.ks.length cap4] 28)).alloc (.cells #[(0:Int),(0:Int),(0:Int),(0:Int),(0:Int),.slice none 0 0] 28)) w.heap.size 28 #[a.op,a.ct,a.n,a.m,a.va,.slice A4 a.ks.length cap4]):=(Blk.new w _ _).same (Below.heap_alloc _ _ _ (by simp))
 have KR:Hid (Blk ((w.alloc (.cells #[a.op,a.ct,a.n,a.m,a.va,.slice A4 a.ks.length cap4] 28)).alloc (.cells #[(0:Int),(0:Int),(0:Int),(0:Int),(0:Int),.slice none 0 0] 28)) (w.heap.size+1) 28 #[(0:Int),(0:Int),(0:Int),(0:Int),(0:Int),.slice none 0 0]):=zA8 w _ 28 _
 have HR:=jj (hr.below hB0)
 have hz2:((w.alloc (.cells #[a.op,a.ct,a.n,a.m,a.va,.slice A4 a.ks.length cap4] 28)).alloc (.cells #[(0:Int),(0:Int),(0:Int),(0:Int),(0:Int),.slice none 0 0] 28)).heap.size=w.heap.size+2:=by simp
 have HC0:Hid (Chg [g] w ((w.alloc (.cells #[a.op,a.ct,a.n,a.m,a.va,.slice A4 a.ks.length cap4] 28)).alloc (.cells #[(0:Int),(0:Int),(0:Int),(0:Int),(0:Int),.slice none 0 0] 28))):=.of_below hB0
 have HV0:=jj (hv.below hB0 hG)
 have HUN:Hid (∀ b∈G,b<((w.alloc (.cells #[a.op,a.ct,a.n,a.m,a.va,.slice A4 a.ks.length cap4] 28)).alloc (.cells #[(0:Int),(0:Int),(0:Int),(0:Int),(0:Int),.slice none 0 0] 28)).heap.size∧(b∈G∨w.heap.size≤b)∧b≠w.heap.size+1):=fun b hb=>⟨by have:=hG b hb;omega,.inl hb,by have:=hG b hb;omega⟩
 have HA:=jj ha
 have HV:=jj hv
 have HRw:=jj hr
 have HG:=jj hG
 have HGg:=jj hGg
 have HG1:Hid (∀ b,g<b→b∉[g]):=fun b hb h=>by rw [zy1] at h;omega
 clear ih hr hv ha hG hGg hB0
 obtain ⟨z0,z1,z2,z3,z4,z5,zlt⟩:=KP.out.c6
 have rc0:=(KR.out.cell 0).trans (show _=some (.int .i64 0) from by simp)
 have rf0:=KR.out.frozen 0
 have rc1:=(KR.out.cell 1).trans (show _=some (.int .i64 0) from by simp)
 have rf1:=KR.out.frozen 1
 have rc2:=(KR.out.cell 2).trans (show _=some (.int .i64 0) from by simp)
 have rf2:=KR.out.frozen 2
 have rc3:=(KR.out.cell 3).trans (show _=some (.int .i64 0) from by simp)
 have rf3:=KR.out.frozen 3
 have rc4:=(KR.out.cell 4).trans (show _=some (.int .i64 0) from by simp)
 have rf4:=KR.out.frozen 4
 have rc5:=(KR.out.cell 5).trans (show _=some (.slice none 0 0) from by simp)
 have rf5:=KR.out.frozen 5
 have rlt:=KR.out.lt
 go_enter Try.func90,Try.ntmps90
 go_wp2
 clear rc0 rf0 rc1 rf1 rc2 rf2 rc3 rf3 rc4 rf4 rc5 rf5 rlt KR HR HC0 HV0 HUN hz2 KP z0 z1 z2 z3 z4 z5 zlt
 have hBe:Below w w ((w.alloc (.cells #[a.op,a.ct,a.n,a.m,a.va,.slice A4 a.ks.length cap4] 28)).alloc (.cells #[a.op,a.ct,a.n,a.m,a.va,.slice A4 a.ks.length cap4] 28)):=((zy2 _ _).alloc (zz8 _) _).alloc (by simp) _
 have KR:Hid (Blk ((w.alloc (.cells #[a.op,a.ct,a.n,a.m,a.va,.slice A4 a.ks.length cap4] 28)).alloc (.cells #[a.op,a.ct,a.n,a.m,a.va,.slice A4 a.ks.length cap4] 28)) (w.heap.size+1) 28 #[a.op,a.ct,a.n,a.m,a.va,.slice A4 a.ks.length cap4]):=zA8 w _ 28 _
 have HV0:=jj (HV.out.below hBe HG.out)
 have HR:=jj (HRw.out.below hBe)
 have hz2:((w.alloc (.cells #[a.op,a.ct,a.n,a.m,a.va,.slice A4 a.ks.length cap4] 28)).alloc (.cells #[a.op,a.ct,a.n,a.m,a.va,.slice A4 a.ks.length cap4] 28)).heap.size=w.heap.size+2:=by simp
 generalize ((w.alloc (.cells #[a.op,a.ct,a.n,a.m,a.va,.slice A4 a.ks.length cap4] 28)).alloc (.cells #[a.op,a.ct,a.n,a.m,a.va,.slice A4 a.ks.length cap4] 28))=w3 at *
 refine bodyPost_ret (zAB rfl _ _ (w.heap.size+1) 28 #[a.op,a.ct,a.n,a.m,a.va,.slice A4 a.ks.length cap4] (0,0) _ rfl KR.out Try.underlying28 rfl rfl) rfl ?_
 exact ⟨a,[a.op,a.ct,a.n,a.m,a.va,.slice A4 a.ks.length cap4],G,p,n,rfl,HV0.out,fun b hb=>⟨by have:=HG.out b hb;omega,.inl hb⟩,by omega,HR.out,by omega,.of_below hBe,hn0,by omega⟩
set_option maxHeartbeats 8000000 in
theorem l3Name_int (a:P) (ih:∀ k∈a.ks,NameP k) (w:World) (p g:Nat) (n:Int) (cs:List Value) (G:List Nat) (hr:Rd w g p) (hp:p+2*nodesP a≤900000) (hn0:0≤n) (hn1:n+2*(nodesP a:Int)≤1000000) (hv:PR w a cs G) (hG:Under w G) (hGg:∀ b∈G,b≠g) (h5:decide (n>5)=false) (q5:(a.op==5)=false) (q3:(a.op==3)=true) :
  Calls Try.prog 90 #[.pointer (some ⟨g,0,none⟩),.agg cs.toArray,.int .i64 n] w (DrewPN (2*nodesP a) p (2*nodesP a) g (n+2*(nodesP a:Int)) G w):=by
 obtain ⟨kv,rfl,ha⟩:=(zA4 _ _ _).1 hv
 obtain ⟨A4,cap4,rfl,hc3,hc4⟩:=ha.form
 have IH:=jj ih
 have hgl:=hr.lt
 have hnp:1≤nodesP a:=by unfold nodesP;omega
 have hka:=zAK a (zz8 a.ks.length)
 have hkl:a.ks.length≤1000000:=by
  have h1:=P.sizes_eq a.ks
  have h2:=zA5 a
  omega
 have hB0:Below w w ((w.alloc (.cells #[a.op,a.ct,a.n,a.m,a.va,.slice A4 a.ks.length cap4] 28)).alloc (.cells #[(0:Int),(0:Int),(0:Int),(0:Int),(0:Int),.slice none 0 0] 28)):=((zy2 _ _).alloc (zz8 _) _).alloc (by simp) _
 have KP:Hid (Blk ((w.alloc (.cells #[a.op,a.ct,a.n,a.m,a.va,.slice A4 a.ks.length cap4] 28)).alloc (.cells #[(0:Int),(0:Int),(0:Int),(0:Int),(0:Int),.slice none 0 0] 28)) w.heap.size 28 #[a.op,a.ct,a.n,a.m,a.va,.slice A4 a.ks.length cap4]):=(Blk.new w _ _).same (Below.heap_alloc _ _ _ (by simp))
 have KR:Hid (Blk ((w.alloc (.cells #[a.op,a.ct,a.n,a.m,a.va,.slice A4 a.ks.length cap4] 28)).alloc (.cells #[(0:Int),(0:Int),(0:Int),(0:Int),(0:Int),.slice none 0 0] 28)) (w.heap.size+1) 28 #[(0:Int),(0:Int),(0:Int),(0:Int),(0:Int),.slice none 0 0]):=zA8 w _ 28 _
 have HR:=jj (hr.below hB0)
 have hz2:((w.alloc (.cells #[a.op,a.ct,a.n,a.m,a.va,.slice A4 a.ks.length cap4] 28)).alloc (.cells #[(0:Int),(0:Int),(0:Int),(0:Int),(0:Int),.slice none 0 0] 28)).heap.size=w.heap.size+2:=by simp
 have HC0:Hid (Chg [g] w ((w.alloc (.cells #[a.op,a.ct,a.n,a.m,a.va,.slice A4 a.ks.length cap4] 28)).alloc (.cells #[(0:Int),(0:Int),(0:Int),(0:Int),(0:Int),.slice none 0 0] 28))):=.of_below hB0
 have HV0:=jj (hv.below hB0 hG)
 have HUN:Hid (∀ b∈G,b<((w.alloc (.cells #[a.op,a.ct,a.n,a.m,a.va,.slice A4 a.ks.length cap4] 28)).alloc (.cells #[(0:Int),(0:Int),(0:Int),(0:Int),(0:Int),.slice none 0 0] 28)).heap.size∧(b∈G∨w.heap.size≤b)∧b≠w.heap.size+1):=fun b hb=>⟨by have:=hG b hb;omega,.inl hb,by have:=hG b hb;omega⟩
 have HA:=jj ha
 have HV:=jj hv
 have HRw:=jj hr
 have HG:=jj hG
 have HGg:=jj hGg
 have HG1:Hid (∀ b,g<b→b∉[g]):=fun b hb h=>by rw [zy1] at h;omega
 clear ih hr hv ha hG hGg hB0
 obtain ⟨z0,z1,z2,z3,z4,z5,zlt⟩:=KP.out.c6
 have rc0:=(KR.out.cell 0).trans (show _=some (.int .i64 0) from by simp)
 have rf0:=KR.out.frozen 0
 have rc1:=(KR.out.cell 1).trans (show _=some (.int .i64 0) from by simp)
 have rf1:=KR.out.frozen 1
 have rc2:=(KR.out.cell 2).trans (show _=some (.int .i64 0) from by simp)
 have rf2:=KR.out.frozen 2
 have rc3:=(KR.out.cell 3).trans (show _=some (.int .i64 0) from by simp)
 have rf3:=KR.out.frozen 3
 have rc4:=(KR.out.cell 4).trans (show _=some (.int .i64 0) from by simp)
 have rf4:=KR.out.frozen 4
 have rc5:=(KR.out.cell 5).trans (show _=some (.slice none 0 0) from by simp)
 have rf5:=KR.out.frozen 5
 have rlt:=KR.out.lt
 go_enter Try.func90,Try.ntmps90
 go_wp2
 clear rc0 rf0 rc1 rf1 rc2 rf2 rc3 rf3 rc4 rf4 rc5 rf5 rlt KR HR HC0 HV0 HUN hz2 KP z0 z1 z2 z3 z4 z5 zlt
 have hBe:Below w w ((w.alloc (.cells #[a.op,a.ct,a.n,a.m,a.va,.slice A4 a.ks.length cap4] 28)).alloc (.cells #[a.op,a.ct,a.n,a.m,a.va,.slice A4 a.ks.length cap4] 28)):=((zy2 _ _).alloc (zz8 _) _).alloc (by simp) _
 have KR:Hid (Blk ((w.alloc (.cells #[a.op,a.ct,a.n,a.m,a.va,.slice A4 a.ks.length cap4] 28)).alloc (.cells #[a.op,a.ct,a.n,a.m,a.va,.slice A4 a.ks.length cap4] 28)) (w.heap.size+1) 28 #[a.op,a.ct,a.n,a.m,a.va,.slice A4 a.ks.length cap4]):=zA8 w _ 28 _
 have HV0:=jj (HV.out.below hBe HG.out)
 have HR:=jj (HRw.out.below hBe)
 have hz2:((w.alloc (.cells #[a.op,a.ct,a.n,a.m,a.va,.slice A4 a.ks.length cap4] 28)).alloc (.cells #[a.op,a.ct,a.n,a.m,a.va,.slice A4 a.ks.length cap4] 28)).heap.size=w.heap.size+2:=by simp
 generalize ((w.alloc (.cells #[a.op,a.ct,a.n,a.m,a.va,.slice A4 a.ks.length cap4] 28)).alloc (.cells #[a.op,a.ct,a.n,a.m,a.va,.slice A4 a.ks.length cap4] 28))=w3 at *
 refine bodyPost_ret (zAB rfl _ _ (w.heap.size+1) 28 #[a.op,a.ct,a.n,a.m,a.va,.slice A4 a.ks.length cap4] (0,0) _ rfl KR.out Try.underlying28 rfl rfl) rfl ?_
 exact ⟨a,[a.op,a.ct,a.n,a.m,a.va,.slice A4 a.ks.length cap4],G,p,n,rfl,HV0.out,fun b hb=>⟨by have:=HG.out b hb;omega,.inl hb⟩,by omega,HR.out,by omega,.of_below hBe,hn0,by omega⟩
def LitN (w:World) (b:Nat) (ls:List Int):Prop:=b<w.heap.size∧Arr w (NatR w) ls (.slice (some ⟨b,0,none⟩) ls.length ls.length) [b]
theorem LitN.new (w:World) (ls:List Int) (hl:ls.length≤1000):LitN (w.alloc (.cells (ls.map (Value.int .i64)).toArray 3)) w.heap.size ls:=⟨by simp,lit_nums w ls hl⟩
theorem LitN.chg {w w':World} {b:Nat} {ls:List Int} {F:List Nat} (h:LitN w b ls) (hc:Chg F w w') (hb:b∉F):LitN w' b ls :=
 ⟨zz9 h.1 hc.size,h.2.mono (hc.kept (fun x hx=>by rw [List.mem_singleton.1 hx];exact h.1) (fun x hx=>by rw [List.mem_singleton.1 hx];exact hb)) fun _ _ _ _ _ h=>h⟩
theorem Chg.alloc {F:List Nat} {w w':World} (h:Chg F w w') (o:Obj):Chg F w (w'.alloc o):=h.step ((zy2 _ _).alloc (zz8 _) _)
set_option maxHeartbeats 8000000 in
theorem l3Name_node (a:P) (ih:∀ k∈a.ks,NameP k) (w:World) (p g:Nat) (n:Int) (cs:List Value) (G:List Nat) (hr:Rd w g p) (hp:p+2*nodesP a≤900000) (hn0:0≤n) (hn1:n+2*(nodesP a:Int)≤1000000) (hv:PR w a cs G) (hG:Under w G) (hGg:∀ b∈G,b≠g) (h5:decide (n>5)=false) (q5:(a.op==5)=false) (q3:(a.op==3)=false) (q1:(a.op==1)=false) :
  Calls Try.prog 90 #[.pointer (some ⟨g,0,none⟩),.agg cs.toArray,.int .i64 n] w (DrewPN (2*nodesP a) p (2*nodesP a) g (n+2*(nodesP a:Int)) G w):=by
 obtain ⟨kv,rfl,ha⟩:=(zA4 _ _ _).1 hv
 obtain ⟨A4,cap4,rfl,hc3,hc4⟩:=ha.form
 have IH:=jj ih
 have hgl:=hr.lt
 have hnp:1≤nodesP a:=by unfold nodesP;omega
 have hka:=zAK a (zz8 a.ks.length)
 have hkl:a.ks.length≤1000000:=by
  have h1:=P.sizes_eq a.ks
  have h2:=zA5 a
  omega
 have hB0:Below w w ((w.alloc (.cells #[a.op,a.ct,a.n,a.m,a.va,.slice A4 a.ks.length cap4] 28)).alloc (.cells #[(0:Int),(0:Int),(0:Int),(0:Int),(0:Int),.slice none 0 0] 28)):=((zy2 _ _).alloc (zz8 _) _).alloc (by simp) _
 have KP:Hid (Blk ((w.alloc (.cells #[a.op,a.ct,a.n,a.m,a.va,.slice A4 a.ks.length cap4] 28)).alloc (.cells #[(0:Int),(0:Int),(0:Int),(0:Int),(0:Int),.slice none 0 0] 28)) w.heap.size 28 #[a.op,a.ct,a.n,a.m,a.va,.slice A4 a.ks.length cap4]):=(Blk.new w _ _).same (Below.heap_alloc _ _ _ (by simp))
 have KR:Hid (Blk ((w.alloc (.cells #[a.op,a.ct,a.n,a.m,a.va,.slice A4 a.ks.length cap4] 28)).alloc (.cells #[(0:Int),(0:Int),(0:Int),(0:Int),(0:Int),.slice none 0 0] 28)) (w.heap.size+1) 28 #[(0:Int),(0:Int),(0:Int),(0:Int),(0:Int),.slice none 0 0]):=zA8 w _ 28 _
 have HR:=jj (hr.below hB0)
 have hz2:((w.alloc (.cells #[a.op,a.ct,a.n,a.m,a.va,.slice A4 a.ks.length cap4] 28)).alloc (.cells #[(0:Int),(0:Int),(0:Int),(0:Int),(0:Int),.slice none 0 0] 28)).heap.size=w.heap.size+2:=by simp
 have HC0:Hid (Chg [g] w ((w.alloc (.cells #[a.op,a.ct,a.n,a.m,a.va,.slice A4 a.ks.length cap4] 28)).alloc (.cells #[(0:Int),(0:Int),(0:Int),(0:Int),(0:Int),.slice none 0 0] 28))):=.of_below hB0
 have HV0:=jj (hv.below hB0 hG)
 have HUN:Hid (∀ b∈G,b<((w.alloc (.cells #[a.op,a.ct,a.n,a.m,a.va,.slice A4 a.ks.length cap4] 28)).alloc (.cells #[(0:Int),(0:Int),(0:Int),(0:Int),(0:Int),.slice none 0 0] 28)).heap.size∧(b∈G∨w.heap.size≤b)∧b≠w.heap.size+1):=fun b hb=>⟨by have:=hG b hb;omega,.inl hb,by have:=hG b hb;omega⟩
 have HA:=jj ha
 have HV:=jj hv
 have HRw:=jj hr
 have HG:=jj hG
 have HGg:=jj hGg
 have HG1:Hid (∀ b,g<b→b∉[g]):=fun b hb h=>by rw [zy1] at h;omega
 clear ih hr hv ha hG hGg hB0
 go_enter Try.func90,Try.ntmps90
 go_wp2_with fail
 obtain ⟨w2,hw2⟩:∃ X,X=((w.alloc (.cells #[a.op,a.ct,a.n,a.m,a.va,.slice A4 a.ks.length cap4] 28)).alloc (.cells #[(0:Int),(0:Int),(0:Int),(0:Int),(0:Int),.slice none 0 0] 28)):=⟨_,rfl⟩
 rw [←hw2] at KP KR HR hz2 HC0 HV0 HUN ⊢
 clear hw2
 obtain ⟨z0,z1,z2,z3,z4,z5,zlt⟩:=KP.out.c6
 obtain ⟨w3,hw3⟩:∃ X,X=w2:=⟨_,rfl⟩
 have hz3:w3.heap.size=w.heap.size+2:=by rw [hw3];exact hz2
 rw [←hw3] at KP KR HC0 HR ⊢
 have KP3:=jj KP.out
 have KR3:=jj KR.out
 have HC3:=jj HC0.out
 have HR3:=jj HR.out
 obtain ⟨p3,hp3⟩:∃ q,q=p:=⟨_,rfl⟩
 rw [←hp3] at HR3
 clear hw3 z0 z1 z2 z3 z4 z5 zlt KP KR HC0 HR HV0 HUN
 have KP3:=jj KP3.out
 obtain ⟨z0,z1,z2,z3,z4,z5,zlt⟩:=KP3.out.c6
 go_wp2
 obtain ⟨w9,hw9⟩:∃ X,X=(w3.alloc (.cells #[a.op,a.ct,a.n,a.m,a.va,.slice none 0 0] 28)):=⟨_,rfl⟩
 obtain ⟨D,hD⟩:∃ D,D=w.heap.size+2:=⟨_,rfl⟩
 have hDw:D=w3.heap.size:=hD.trans hz3.symm
 have KN9:Hid (Blk w9 D 28 #[a.op,a.ct,a.n,a.m,a.va,.slice none 0 0]):=by rw [hw9,hDw];exact Blk.new w3 28 _
 have hk9:∀ b,b<D→w9.heap[b]?=w3.heap[b]?:=fun b hb=>by rw [hw9,Below.heap_alloc _ _ _ (by omega)]
 have hs9:w9.heap.size=D+1:=by rw [hw9,hDw];simp
 have HC9:Hid (Chg [g] w w9):=by rw [hw9];exact HC3.out.alloc _
 have hD2:w.heap.size+2≤D:=by omega
 rw [←hD]
 rw [←hw9]
 clear hDw
 clear hw9
 have KP9:=jj (KP3.out.same (hk9 _ (by omega)))
 have KR9:=jj (KR3.out.same (hk9 _ (by omega)))
 have HR9:=jj (HR3.out.keep (w':=w9) (fun b hb=>hk9 b (by omega)))
 clear z0 z1 z2 z3 z4 z5 zlt
 clear hk9 KP3 KR3 HC3 HR3 hD
 obtain ⟨i0,hi,hz0,hz1,hz2'⟩:=info_parts info_PE
 have HI:=jj hi
 have HZ0:=jj hz0
 have HZ1:=jj hz1
 have HZ2x:=jj hz2'
 clear hi hz0 hz1 hz2'
 go_loopw [9,10] (fun mv iv wr=>∃ q:Nat,∃ m:Int,∃ kv:Value,∃ Fk:List Nat,∃ vs:List P,∃ pq:Nat,q≤a.ks.length∧iv=.int .i64 q∧mv=.int .i64 m∧Hid (vs.length=q)∧Hid (P.sizes vs≤2*kidSum a q)∧Hid (Blk wr D 28 #[a.op,a.ct,a.n,a.m,a.va,kv])∧Hid (Own wr (D+1) 28 6 PR vs kv Fk)∧Hid (∀ b∈Fk,b∈G∨D+1≤b)∧Hid (Chg [D,g] w9 wr)∧Hid (Chg [g] w wr)∧w9.heap.size≤wr.heap.size∧Hid (Rd wr g pq)∧pq≤p3+2*kidSum a q∧0≤m∧m≤n+2*((kidSum a q:Nat):Int)) (fun _ iv _=>a.ks.length-(intOf iv).toNat)
 case atStart=>exact ⟨0,n,_,[],[],p3,Nat.zero_le _,rfl,rfl,rfl,Nat.zero_le _,KN9,Own.nil _ _ _ _ _,(fun b hb=>by cases hb),Chg.refl _ _,HC9,zz8 _,HR9,by omega,hn0,by omega⟩
 case round =>
  clear HC9 KN9 HR9
  obtain ⟨q,m,kv,Fk,vs,pq,hql,rfl,rfl,HVL,HVS,KD,HO,HFh,HC,HCw,hws9,HRq,hpq,hm0,hm1⟩:=hrel
  obtain ⟨kA,kcap,hkv,hkc1,hkc2⟩:=HO.out.form
  subst hkv
  have hDg:∀ b,g<b→b≠D→b∉[D,g]:=fun b h1 h2 h=>by
   rcases List.mem_cons.1 h with h3 | h3
   ·exact h2 h3
   ·rw [zy1] at h3;omega
  have KPr:=jj (KP9.out.same (HC.out.block _ KP9.out.lt (hDg _ hgl (by omega))))
  have KRr:=jj (KR9.out.same (HC.out.block _ KR9.out.lt (hDg _ (by omega) (by omega))))
  have HFk:Hid (∀ b∈Fk,b≠D∧b≠g):=fun b hb=>by
   rcases HFh.out b hb with h | h
   ·exact ⟨by have:=HG.out b h;omega,HGg.out b h⟩
   ·exact ⟨by omega,by omega⟩
  have HAr:Hid (Arr wr (PR wr) a.ks (.slice A4 a.ks.length cap4) G):=ArrP.mono HA.out (HCw.out.kept HG.out (fun b hb h=>by rw [zy1] at h;exact HGg.out b hb h))
  have HGr:Hid (Under wr G):=HG.out.mono HCw.out.size
  have klt:=KD.out.lt
  clear hDg
  obtain ⟨z0,z1,z2,z3,z4,z5,zlt⟩:=KPr.out.c6
  by_cases hil:q<a.ks.length
  ·have g1:(0:Int)≤(q:Int):=by omega
   have g2:(q:Int)<(a.ks.length:Int):=by omega
   obtain ⟨b4,off4,rfl⟩:=HAr.out.ptr (by omega)
   obtain ⟨A7,cap7,G7,hb7,c0,c1,c2,c3,c4,c5,HV7,HG7,hsub,-,-⟩:=ArrP.at HAr.out HGr.out (zy2 _ _) q hil
   have HSUB:=jj hsub
   have hks:=zAS a q hil
   have hkle:=kidSum_le a (q+1)
   have hvl:=HVL.out
   have hvl3:vs.length≤1000000:=by omega
   clear hvl hsub
   have HME:Hid (a.ks[q]∈a.ks):=List.getElem_mem hil
   have HCALL:=jj (IH.out a.ks[q] HME.out wr pq g m _ G7 HRq.out (by omega) hm0 (by omega) HV7.out HG7.out (fun b hb=>HGg.out b (HSUB.out b hb)))
   go_wp2_with fail
   refine HCALL.out.mono ?_
   rintro e wA ⟨vA,csA,FA,qA,mA,rfl,hpA,hfA,hnA,hRA,hqA,hCA,hmA0,hmA1⟩
   obtain ⟨kvA,rfl,haA⟩:=(zA4 _ _ _).1 hpA
   obtain ⟨A8,cap8,rfl,-,-⟩:=haA.form
   have hmx:vs.length+1≤maxLen:=by unfold maxLen;omega
   have hby:(vs.length+1)*64≤140737488355328:=by omega
   have hb9:Below wA wA (wA.alloc (.cells #[vA.op,vA.ct,vA.n,vA.m,vA.va,.slice A8 vA.ks.length cap8] 28)):=(zy2 _ _).alloc (zz8 _) _
   have HBu:Hid (Chg [g] wr (wA.alloc (.cells #[vA.op,vA.ct,vA.n,vA.m,vA.va,.slice A8 vA.ks.length cap8] 28))):=hCA.alloc _
   have HPb:=jj (hpA.below hb9 (fun b hb=>(hfA b hb).1))
   have hDg1:D∉[g]:=HG1.out _ (by omega)
   have KDA:=hCA.block _ klt hDg1
   have zT:wA.cell? ⟨D,5,none⟩=some (.slice kA vs.length kcap):=((KD.out.same KDA).cell 5).trans (by simp)
   have hkA:=(KD.out.same KDA).lt
   have zfT:wA.frozen? ⟨D,5,none⟩=false:=(KD.out.same KDA).frozen 5
   have HFA:Hid (∀ b∈FA,b<wA.heap.size∧(b∈G∨wr.heap.size≤b)):=fun b hb=>⟨(hfA b hb).1,by rcases (hfA b hb).2 with h | h;exact .inl (HSUB.out b h);exact .inr h⟩
   have HFA2:Hid (∀ b∈FA,b≠D∧b≠g):=fun b hb=>by
    rcases (HFA.out b hb).2 with h | h
    ·exact ⟨by have:=HG.out b h;omega,HGg.out b h⟩
    ·exact ⟨by omega,by omega⟩
   have HFA3:Hid (∀ x∈rowOf (.slice kA vs.length kcap),x∉FA):=fun x hx h=>by
    have h1:=HO.out.row x hx
    rcases (HFA.out x h).2 with h2 | h2
    ·have:=HG.out x h2;omega
    ·omega
   have HRA:=jj (hRA.below hb9)
   have HNA:=jj hnA
   have HOb:Hid (Own (wA.alloc (.cells #[vA.op,vA.ct,vA.n,vA.m,vA.va,.slice A8 vA.ks.length cap8] 28)) (D+1) 28 6 PR vs (.slice kA vs.length kcap) Fk):=HO.out.chg2 PR_mono' HBu.out (fun b hb=>by rw [zy1] at hb;omega) (fun b hb h=>by rw [zy1] at h;exact (HFk.out b hb).2 h)
   have hsz:D+1≤(wA.alloc (.cells #[vA.op,vA.ct,vA.n,vA.m,vA.va,.slice A8 vA.ks.length cap8] 28)).heap.size:=by have:=HBu.out.size;omega
   clear z0 z1 z2 z3 z4 z5 zlt c0 c1 c2 c3 c4 c5 hpA hfA hnA hRA haA KDA HCALL hb7
   go_wp2_with (at_builtin;refine Halt.mk ?_)
   refine Halt.of (zA3 (P:=Try.prog) rfl _ _ 26 rfl i0 _ 64 Try.underlying26 HI.out HZ0.out HZ1.out HZ2x.out rfl (by decide) PR_len' PR_mono' (by rfl) HOb.out vA 28 [vA.op,vA.ct,vA.n,vA.m,vA.va,.slice A8 vA.ks.length cap8] FA _ (by rfl) (by simp) (by simp [Value.oneCell']) HPb.out (fun b hb=>by rw [World.size_alloc];have:=(HFA.out b hb).1;omega) HFA3.out hmx hby hsz ?_)
   intro gz cp w7 hown7 hgr7 hat7
   have hrow:=HOb.out.row
   have n7:some D≠(Value.ownBlock (.slice kA vs.length kcap)):=fun e=>by have:=(hrow D (zA2.2 e.symm)).1;omega
   have hl7:D<((wA.alloc (.cells #[vA.op,vA.ct,vA.n,vA.m,vA.va,.slice A8 vA.ks.length cap8] 28)).alloc (.cells [.int .i64 vA.op,.int .i64 vA.ct,.int .i64 vA.n,.int .i64 vA.m,.int .i64 vA.va,.slice A8 vA.ks.length cap8].toArray 28)).heap.size:=by rw [World.size_alloc,World.size_alloc];omega
   have z71:w7.cell? ⟨D,5,none⟩=some (.slice kA vs.length kcap):=(World.grownBy.cell_far hgr7 ⟨D,5,none⟩ hl7 n7).trans ((World.cell?_alloc_lt _ _ _ (by rw [World.size_alloc];show D<_;omega)).trans ((World.cell?_alloc_lt _ _ _ (show D<wA.heap.size from hkA)).trans zT))
   have zf71:w7.frozen? ⟨D,5,none⟩=false:=(World.grownBy.frozen_far hgr7 ⟨D,5,none⟩ hl7 n7).trans (Eq.trans (World.frozen?_of_block (Below.heap_alloc _ _ _ (by rw [World.size_alloc];show D<_;omega))) (Eq.trans (World.frozen?_of_block (Below.heap_alloc _ _ _ (show D<wA.heap.size from hkA))) zfT))
   obtain ⟨r1,r2,r3,r4,r5,r6,r7⟩:=kid_round4 (w:=w) 5 PR_mono' hs9 (Nat.lt_succ_self D) hgl (by omega) KD.out HO.out HFk.out HC.out HCw.out HBu.out HFA2.out hown7 hgr7 HRA.out
   have R1:=jj r1
   have R2:=jj r2
   have R4:=jj r4
   have R5:=jj r5
   have R7:=jj r7
   have R3:Hid (∀ b∈Fk ++ FA,b∈G∨D+1≤b):=fun b hb=>by
    rcases List.mem_append.1 hb with h | h
    ·exact HFh.out b h
    ·rcases (HFA.out b h).2 with h2 | h2
     ·exact .inl h2
     ·exact .inr (by omega)
   have HV2:Hid ((vs ++ [vA]).length=q+1):=by have:=HVL.out;unfold Hid;rw [List.length_append];simp only [List.length_cons,List.length_nil];omega
   have HS2:Hid (P.sizes (vs ++ [vA])≤2*kidSum a (q+1)):=by unfold Hid;rw [hks];exact psizes_snoc2 vs vA _ _ HVS.out HNA.out
   have HKS:=jj hks
   have h7D:D<w7.heap.size:=zz9 hl7 hgr7.size
   clear r1 r2 r3 r4 r5 r7 hown7 hgr7 hat7 hrow n7 hl7 zT zfT hks
   go_wp2
   go_roundw
   case rel=>exact ⟨q+1,mA,_,_,vs ++ [vA],qA,hil,by go_num,rfl,HV2,HS2,R1,(by rw [show (vs ++ [vA]).length=vs.length+1 from by rw [List.length_append];rfl] at *;exact R2),R3,R4,R5,r6,R7,by have:=HKS.out;omega,hmA0,by have:=HKS.out;push_cast [this];omega⟩
   case measure=>(simp [intOf] <;> omega)
  ·obtain ⟨FF,hf1,hf3⟩:=kid_done4 (D:=D) (g:=g) HO.out HFk.out (Nat.lt_succ_self D) (by omega)
   have HF1:=jj hf1
   have HF3:Hid (∀ b∈FF,b<wr.heap.size∧(b∈G∨w.heap.size≤b)∧b≠w.heap.size+1):=fun b hb=>by
    have h:=hf3 b hb
    rcases h.2.2.2 with h2 | h2
    ·rcases HFh.out b h2 with h3 | h3
     ·exact ⟨h.2.2.1,.inl h3,by have:=HG.out b h3;omega⟩
     ·exact ⟨h.2.2.1,.inr (by omega),by omega⟩
    ·exact ⟨h.2.2.1,.inr (by omega),by omega⟩
   have HFg:Hid (∀ b∈FF,b∉[g]):=fun b hb h=>by rw [zy1] at h;exact (hf3 b hb).2.1 h
   have hq:q=a.ks.length:=by omega
   have HSZ:Hid (nodesP ⟨a.op,a.ct,a.n,a.m,a.va,vs⟩≤2*nodesP a-1):=by have h1:=HVS.out;rw [hq] at h1;unfold Hid;rw [zA5];simp only;omega
   have HRP:Hid (PR wr ⟨a.op,a.ct,a.n,a.m,a.va,vs⟩ [a.op,a.ct,a.n,a.m,a.va,.slice kA vs.length kcap] FF):=(zA4 _ _ _).2 ⟨_,rfl,HF1.out⟩
   rw [hq] at hpq hm1
   clear hf1 hf3 hq
   by_cases hm5:m≤5
   ·have d1:decide (m≤5)=true:=decide_eq_true hm5
    clear hm5
    go_wp2_with fail
    refine (zAH 6 pq g wr HRq.out (by omega) (by omega) (by omega)).mono ?_
    rintro e w10 ⟨r10,rfl,-,hR10,hC10⟩
    have KDX:=jj (KD.out.same (hC10.block _ klt (HG1.out _ (by omega))))
    have KRX:=jj (KRr.out.same (hC10.block _ KRr.out.lt (HG1.out _ (by omega))))
    have HCX:=jj (HCw.out.trans hC10)
    have HRX:=jj hR10
    have hzX:=hC10.size
    have HRPX:=jj (PR.mono _ _ _ (hC10.kept (fun b hb=>(HF3.out b hb).1) HFg.out) HRP.out)
    have HFX:Hid (∀ b∈FF,b<w10.heap.size∧(b∈G∨w.heap.size≤b)∧b≠w.heap.size+1):=fun b hb=>⟨zz9 (HF3.out b hb).1 hzX,(HF3.out b hb).2⟩
    clear z0 z1 z2 z3 z4 z5 zlt hR10 hC10
    cases q10:((r10:Int)==0) with
    |true =>
     have hmw:IntKind.i64.wrap (m+1)=m+1:=IntWalk.i64_in _ (by omega)
     have e0:=(KDX.out.cell 0).trans (show _=some (.int .i64 a.op) from by simp)
     have e1:=(KDX.out.cell 1).trans (show _=some (.int .i64 a.ct) from by simp)
     have e2:=(KDX.out.cell 2).trans (show _=some (.int .i64 a.n) from by simp)
     have e3:=(KDX.out.cell 3).trans (show _=some (.int .i64 a.m) from by simp)
     have e4:=(KDX.out.cell 4).trans (show _=some (.int .i64 a.va) from by simp)
     have e5:=(KDX.out.cell 5).trans (show _=some (.slice kA vs.length kcap) from by simp)
     have elt:=KDX.out.lt
     have rc0:=(KRX.out.cell 0).trans (show _=some (.int .i64 0) from by simp)
     have rf0:=KRX.out.frozen 0
     have rc1:=(KRX.out.cell 1).trans (show _=some (.int .i64 0) from by simp)
     have rf1:=KRX.out.frozen 1
     have rc2:=(KRX.out.cell 2).trans (show _=some (.int .i64 0) from by simp)
     have rf2:=KRX.out.frozen 2
     have rc3:=(KRX.out.cell 3).trans (show _=some (.int .i64 0) from by simp)
     have rf3:=KRX.out.frozen 3
     have rc4:=(KRX.out.cell 4).trans (show _=some (.int .i64 0) from by simp)
     have rf4:=KRX.out.frozen 4
     have rc5:=(KRX.out.cell 5).trans (show _=some (.slice none 0 0) from by simp)
     have rf5:=KRX.out.frozen 5
     have rlt:=KRX.out.lt
     go_wp2
     clear rc0 rf0 rc1 rf1 rc2 rf2 rc3 rf3 rc4 rf4 rc5 rf5 rlt
     obtain ⟨w6,hw6⟩:∃ X,X=((((((w10.setCell ⟨w.heap.size+1,0,none⟩ (.int .i64 6)).setCell ⟨w.heap.size+1,1,none⟩ (.int .i64 0)).setCell ⟨w.heap.size+1,2,none⟩ (.int .i64 0)).setCell ⟨w.heap.size+1,3,none⟩ (.int .i64 0)).setCell ⟨w.heap.size+1,4,none⟩ (.int .i64 m)).setCell ⟨w.heap.size+1,5,none⟩ (.slice (some ⟨w10,0,none⟩) 1 1)):=⟨_,rfl⟩
     have hs6:w6.heap.size=w10.heap.size:=by rw [hw6,zAN]
     have K6:Hid (Blk w6 (w.heap.size+1) 28 #[(6:Int),(0:Int),(0:Int),(0:Int),.int .i64 m,.slice (some ⟨w10,0,none⟩) 1 1]):=by rw [hw6];exact KRX.out.six _ _ _ _ _ _
     have hkp:Kept FF w10 w6:=by rw [hw6];exact zAM (w:=w10) (H:=w.heap.size+1) (fun b hb=>(HFX.out b hb).2.2) _ _ _ _ _ _
     have HP6:=jj (PR.mono _ _ _ hkp HRPX.out)
     have HR6:Hid (Rd w6 g (pq+1)):=by rw [hw6];exact zB2 HRX.out (by omega) _ _ _ _ _ _
     have HC6:Hid (Chg [g] w w6):=by rw [hw6];exact zAL HCX.out (by omega) _ _ _ _ _ _
     rw [←hw6]
     clear hw6 hkp
     have hbW:Below w6 w6 (w6.alloc (.cells #[a.op,a.ct,a.n,a.m,a.va,.slice kA vs.length kcap] 28)):=(zy2 _ _).alloc (zz8 _) _
     have KAW:Hid (Blk (w6.alloc (.cells #[a.op,a.ct,a.n,a.m,a.va,.slice kA vs.length kcap] 28)) w10.heap.size 28 #[a.op,a.ct,a.n,a.m,a.va,.slice kA vs.length kcap]):=by rw [←hs6];exact Blk.new _ _ _
     have KRW:=jj (K6.out.same (hbW.block _ K6.out.lt))
     have HCW:=jj (HC6.out.step hbW)
     have HRW:=jj (HR6.out.below hbW)
     have HPW:=jj (HP6.out.below hbW (fun b hb=>by rw [hs6];exact (HFX.out b hb).1))
     have hsW:(w6.alloc (.cells #[a.op,a.ct,a.n,a.m,a.va,.slice kA vs.length kcap] 28)).heap.size=w10.heap.size+1:=by rw [World.size_alloc,hs6]
     generalize (w6.alloc (.cells #[a.op,a.ct,a.n,a.m,a.va,.slice kA vs.length kcap] 28))=wW at *
     have HFW:Hid (∀ b∈w10.heap.size :: FF,b<wW.heap.size∧(b∈G∨w.heap.size≤b)):=fun b hb=>by
      rcases List.mem_cons.1 hb with h | h
      ·exact ⟨by omega,.inr (by omega)⟩
      ·have:=HFX.out b h;exact ⟨by omega,this.2.1⟩
     have HAW:Hid (PR wW ⟨6,0,0,0,m,[⟨a.op,a.ct,a.n,a.m,a.va,vs⟩]⟩ [(6:Int),(0:Int),(0:Int),(0:Int),.int .i64 m,.slice (some ⟨w10,0,none⟩) 1 1] (w10.heap.size :: FF)):=(zA4 _ _ _).2 ⟨_,rfl,arr_pat1 KAW.out HPW.out⟩
     have HSW:Hid (nodesP ⟨6,0,0,0,m,[⟨a.op,a.ct,a.n,a.m,a.va,vs⟩]⟩≤2*nodesP a):=by have h1:=HSZ.out;unfold Hid;rw [zA5];simp only [P.sizes];unfold nodesP at h1 ⊢;omega
     refine bodyPost_ret (zAB rfl _ _ (w.heap.size+1) 28 #[(6:Int),(0:Int),(0:Int),(0:Int),.int .i64 m,.slice (some ⟨w10,0,none⟩) 1 1] (0,0) _ rfl KRW.out Try.underlying28 rfl rfl) rfl ?_
     exact ⟨⟨6,0,0,0,m,[⟨a.op,a.ct,a.n,a.m,a.va,vs⟩]⟩,[(6:Int),(0:Int),(0:Int),(0:Int),.int .i64 m,.slice (some ⟨w10,0,none⟩) 1 1],(w10.heap.size :: FF),pq+1,(m+1),rfl,HAW.out,HFW.out,HSW.out,HRW.out,by omega,HCW.out,by omega,by omega⟩
    |false =>
     have e0:=(KDX.out.cell 0).trans (show _=some (.int .i64 a.op) from by simp)
     have e1:=(KDX.out.cell 1).trans (show _=some (.int .i64 a.ct) from by simp)
     have e2:=(KDX.out.cell 2).trans (show _=some (.int .i64 a.n) from by simp)
     have e3:=(KDX.out.cell 3).trans (show _=some (.int .i64 a.m) from by simp)
     have e4:=(KDX.out.cell 4).trans (show _=some (.int .i64 a.va) from by simp)
     have e5:=(KDX.out.cell 5).trans (show _=some (.slice kA vs.length kcap) from by simp)
     have elt:=KDX.out.lt
     have rc0:=(KRX.out.cell 0).trans (show _=some (.int .i64 0) from by simp)
     have rf0:=KRX.out.frozen 0
     have rc1:=(KRX.out.cell 1).trans (show _=some (.int .i64 0) from by simp)
     have rf1:=KRX.out.frozen 1
     have rc2:=(KRX.out.cell 2).trans (show _=some (.int .i64 0) from by simp)
     have rf2:=KRX.out.frozen 2
     have rc3:=(KRX.out.cell 3).trans (show _=some (.int .i64 0) from by simp)
     have rf3:=KRX.out.frozen 3
     have rc4:=(KRX.out.cell 4).trans (show _=some (.int .i64 0) from by simp)
     have rf4:=KRX.out.frozen 4
     have rc5:=(KRX.out.cell 5).trans (show _=some (.slice none 0 0) from by simp)
     have rf5:=KRX.out.frozen 5
     have rlt:=KRX.out.lt
     go_wp2
     clear rc0 rf0 rc1 rf1 rc2 rf2 rc3 rf3 rc4 rf4 rc5 rf5 rlt
     refine bodyPost_ret (zAB rfl _ _ (w.heap.size+1) 28 #[a.op,a.ct,a.n,a.m,a.va,.slice kA vs.length kcap] (0,0) _ rfl (KRX.out.six _ _ _ _ _ _) Try.underlying28 rfl rfl) rfl ?_
     have hkp:Kept FF w10 _:=zAM (w:=w10) (H:=w.heap.size+1) (fun b hb=>(HFX.out b hb).2.2) (.int .i64 a.op) (.int .i64 a.ct) (.int .i64 a.n) (.int .i64 a.m) (.int .i64 a.va) (.slice kA vs.length kcap)
     exact ⟨⟨a.op,a.ct,a.n,a.m,a.va,vs⟩,[a.op,a.ct,a.n,a.m,a.va,.slice kA vs.length kcap],FF,pq+1,m,rfl,PR.mono _ _ _ hkp HRPX.out,fun b hb=>⟨by rw [zAN];exact (HFX.out b hb).1,(HFX.out b hb).2.1⟩,by have:=HSZ.out;omega,zB2 HRX.out (by omega) _ _ _ _ _ _,by omega,zAL HCX.out (by omega) _ _ _ _ _ _,hm0,by omega⟩
   ·have d1:decide (m≤5)=false:=decide_eq_false hm5
    clear hm5 z0 z1 z2 z3 z4 z5
    obtain ⟨-,-,-,-,-,z5,-⟩:=KPr.out.c6
    have e0:=(KD.out.cell 0).trans (show _=some (.int .i64 a.op) from by simp)
    have e1:=(KD.out.cell 1).trans (show _=some (.int .i64 a.ct) from by simp)
    have e2:=(KD.out.cell 2).trans (show _=some (.int .i64 a.n) from by simp)
    have e3:=(KD.out.cell 3).trans (show _=some (.int .i64 a.m) from by simp)
    have e4:=(KD.out.cell 4).trans (show _=some (.int .i64 a.va) from by simp)
    have e5:=(KD.out.cell 5).trans (show _=some (.slice kA vs.length kcap) from by simp)
    have elt:=KD.out.lt
    have rc0:=(KRr.out.cell 0).trans (show _=some (.int .i64 0) from by simp)
    have rf0:=KRr.out.frozen 0
    have rc1:=(KRr.out.cell 1).trans (show _=some (.int .i64 0) from by simp)
    have rf1:=KRr.out.frozen 1
    have rc2:=(KRr.out.cell 2).trans (show _=some (.int .i64 0) from by simp)
    have rf2:=KRr.out.frozen 2
    have rc3:=(KRr.out.cell 3).trans (show _=some (.int .i64 0) from by simp)
    have rf3:=KRr.out.frozen 3
    have rc4:=(KRr.out.cell 4).trans (show _=some (.int .i64 0) from by simp)
    have rf4:=KRr.out.frozen 4
    have rc5:=(KRr.out.cell 5).trans (show _=some (.slice none 0 0) from by simp)
    have rf5:=KRr.out.frozen 5
    have rlt:=KRr.out.lt
    go_wp2
    clear rc0 rf0 rc1 rf1 rc2 rf2 rc3 rf3 rc4 rf4 rc5 rf5 rlt
    refine bodyPost_ret (zAB rfl _ _ (w.heap.size+1) 28 #[a.op,a.ct,a.n,a.m,a.va,.slice kA vs.length kcap] (0,0) _ rfl (KRr.out.six _ _ _ _ _ _) Try.underlying28 rfl rfl) rfl ?_
    have hkp:Kept FF wr _:=zAM (w:=wr) (H:=w.heap.size+1) (fun b hb=>(HF3.out b hb).2.2) (.int .i64 a.op) (.int .i64 a.ct) (.int .i64 a.n) (.int .i64 a.m) (.int .i64 a.va) (.slice kA vs.length kcap)
    exact ⟨⟨a.op,a.ct,a.n,a.m,a.va,vs⟩,[a.op,a.ct,a.n,a.m,a.va,.slice kA vs.length kcap],FF,pq,m,rfl,PR.mono _ _ _ hkp HRP.out,fun b hb=>⟨by rw [zAN];exact (HF3.out b hb).1,(HF3.out b hb).2.1⟩,by have:=HSZ.out;omega,zB2 HRq.out (by omega) _ _ _ _ _ _,by omega,zAL HCw.out (by omega) _ _ _ _ _ _,hm0,by omega⟩
set_option maxHeartbeats 8000000 in
theorem l3Name_any (a:P) (ih:∀ k∈a.ks,NameP k) (w:World) (p g:Nat) (n:Int) (cs:List Value) (G:List Nat) (hr:Rd w g p) (hp:p+2*nodesP a≤900000) (hn0:0≤n) (hn1:n+2*(nodesP a:Int)≤1000000) (hv:PR w a cs G) (hG:Under w G) (hGg:∀ b∈G,b≠g) (h5:decide (n>5)=false) (q5:(a.op==5)=false) (q3:(a.op==3)=false) (q1:(a.op==1)=true) :
  Calls Try.prog 90 #[.pointer (some ⟨g,0,none⟩),.agg cs.toArray,.int .i64 n] w (DrewPN (2*nodesP a) p (2*nodesP a) g (n+2*(nodesP a:Int)) G w):=by
 obtain ⟨kv,rfl,ha⟩:=(zA4 _ _ _).1 hv
 obtain ⟨A4,cap4,rfl,hc3,hc4⟩:=ha.form
 have IH:=jj ih
 have hgl:=hr.lt
 have hnp:1≤nodesP a:=by unfold nodesP;omega
 have hka:=zAK a (zz8 a.ks.length)
 have hkl:a.ks.length≤1000000:=by
  have h1:=P.sizes_eq a.ks
  have h2:=zA5 a
  omega
 have hB0:Below w w ((w.alloc (.cells #[a.op,a.ct,a.n,a.m,a.va,.slice A4 a.ks.length cap4] 28)).alloc (.cells #[(0:Int),(0:Int),(0:Int),(0:Int),(0:Int),.slice none 0 0] 28)):=((zy2 _ _).alloc (zz8 _) _).alloc (by simp) _
 have KP:Hid (Blk ((w.alloc (.cells #[a.op,a.ct,a.n,a.m,a.va,.slice A4 a.ks.length cap4] 28)).alloc (.cells #[(0:Int),(0:Int),(0:Int),(0:Int),(0:Int),.slice none 0 0] 28)) w.heap.size 28 #[a.op,a.ct,a.n,a.m,a.va,.slice A4 a.ks.length cap4]):=(Blk.new w _ _).same (Below.heap_alloc _ _ _ (by simp))
 have KR:Hid (Blk ((w.alloc (.cells #[a.op,a.ct,a.n,a.m,a.va,.slice A4 a.ks.length cap4] 28)).alloc (.cells #[(0:Int),(0:Int),(0:Int),(0:Int),(0:Int),.slice none 0 0] 28)) (w.heap.size+1) 28 #[(0:Int),(0:Int),(0:Int),(0:Int),(0:Int),.slice none 0 0]):=zA8 w _ 28 _
 have HR:=jj (hr.below hB0)
 have hz2:((w.alloc (.cells #[a.op,a.ct,a.n,a.m,a.va,.slice A4 a.ks.length cap4] 28)).alloc (.cells #[(0:Int),(0:Int),(0:Int),(0:Int),(0:Int),.slice none 0 0] 28)).heap.size=w.heap.size+2:=by simp
 have HC0:Hid (Chg [g] w ((w.alloc (.cells #[a.op,a.ct,a.n,a.m,a.va,.slice A4 a.ks.length cap4] 28)).alloc (.cells #[(0:Int),(0:Int),(0:Int),(0:Int),(0:Int),.slice none 0 0] 28))):=.of_below hB0
 have HV0:=jj (hv.below hB0 hG)
 have HUN:Hid (∀ b∈G,b<((w.alloc (.cells #[a.op,a.ct,a.n,a.m,a.va,.slice A4 a.ks.length cap4] 28)).alloc (.cells #[(0:Int),(0:Int),(0:Int),(0:Int),(0:Int),.slice none 0 0] 28)).heap.size∧(b∈G∨w.heap.size≤b)∧b≠w.heap.size+1):=fun b hb=>⟨by have:=hG b hb;omega,.inl hb,by have:=hG b hb;omega⟩
 have HA:=jj ha
 have HV:=jj hv
 have HRw:=jj hr
 have HG:=jj hG
 have HGg:=jj hGg
 have HG1:Hid (∀ b,g<b→b∉[g]):=fun b hb h=>by rw [zy1] at h;omega
 clear ih hr hv ha hG hGg hB0
 go_enter Try.func90,Try.ntmps90
 go_wp2_with fail
 obtain ⟨w2,hw2⟩:∃ X,X=((w.alloc (.cells #[a.op,a.ct,a.n,a.m,a.va,.slice A4 a.ks.length cap4] 28)).alloc (.cells #[(0:Int),(0:Int),(0:Int),(0:Int),(0:Int),.slice none 0 0] 28)):=⟨_,rfl⟩
 rw [←hw2] at KP KR HR hz2 HC0 HV0 HUN ⊢
 clear hw2
 obtain ⟨z0,z1,z2,z3,z4,z5,zlt⟩:=KP.out.c6
 refine (zAH 2 p g w2 HR.out (by omega) (by omega) (by omega)).mono ?_
 rintro e w3 ⟨r,rfl,-,hR3,hC3⟩
 have KP3:=jj (KP.out.same (hC3.block _ KP.out.lt (HG1.out _ hgl)))
 have KR3:=jj (KR.out.same (hC3.block _ KR.out.lt (HG1.out _ (by omega))))
 have HC3:=jj (HC0.out.trans hC3)
 have HR3:=jj hR3
 have hz3:=hC3.size
 clear z0 z1 z2 z3 z4 z5 zlt hR3 hC3 KP KR HC0 HR HV0 HUN
 obtain ⟨p3,hp3⟩:∃ q,q=p+1:=⟨_,rfl⟩
 rw [←hp3] at HR3
 cases qr:((r:Int)==0) with
 |true =>
  have hnw:IntKind.i64.wrap (n+1)=n+1:=IntWalk.i64_in _ (by omega)
  have HE:Hid (∀ b∈([]:List Nat),b<w3.heap.size∧(b∈G∨w.heap.size≤b)∧b≠w.heap.size+1):=fun b hb=>by cases hb
  have rc0:=(KR3.out.cell 0).trans (show _=some (.int .i64 0) from by simp)
  have rf0:=KR3.out.frozen 0
  have rc1:=(KR3.out.cell 1).trans (show _=some (.int .i64 0) from by simp)
  have rf1:=KR3.out.frozen 1
  have rc2:=(KR3.out.cell 2).trans (show _=some (.int .i64 0) from by simp)
  have rf2:=KR3.out.frozen 2
  have rc3:=(KR3.out.cell 3).trans (show _=some (.int .i64 0) from by simp)
  have rf3:=KR3.out.frozen 3
  have rc4:=(KR3.out.cell 4).trans (show _=some (.int .i64 0) from by simp)
  have rf4:=KR3.out.frozen 4
  have rc5:=(KR3.out.cell 5).trans (show _=some (.slice none 0 0) from by simp)
  have rf5:=KR3.out.frozen 5
  have rlt:=KR3.out.lt
  go_wp2
  clear rc0 rf0 rc1 rf1 rc2 rf2 rc3 rf3 rc4 rf4 rc5 rf5 rlt
  refine bodyPost_ret (zAB rfl _ _ (w.heap.size+1) 28 #[(2:Int),(0:Int),(0:Int),(0:Int),.int .i64 n,.slice none 0 0] (0,0) _ rfl (KR3.out.six _ _ _ _ _ _) Try.underlying28 rfl rfl) rfl ?_
  have hkp:Kept ([]:List Nat) w3 _:=zAM (w:=w3) (H:=w.heap.size+1) (fun b hb=>(HE.out b hb).2.2) (.int .i64 2) (.int .i64 0) (.int .i64 0) (.int .i64 0) (.int .i64 n) (.slice none 0 0)
  exact ⟨⟨2,0,0,0,n,[]⟩,[(2:Int),(0:Int),(0:Int),(0:Int),.int .i64 n,.slice none 0 0],([]:List Nat),p3,(n+1),rfl,PR.mono _ _ _ hkp ((zA4 _ _ _).2 ⟨_,rfl,Arr.nil⟩),fun b hb=>⟨by rw [zAN];exact (HE.out b hb).1,(HE.out b hb).2.1⟩,by simp [nodesP,P.size,P.sizes];omega,zB2 HR3.out (by omega) _ _ _ _ _ _,by omega,zAL HC3.out (by omega) _ _ _ _ _ _,by omega,by omega⟩
 |false =>
  have KP3:=jj KP3.out
  obtain ⟨z0,z1,z2,z3,z4,z5,zlt⟩:=KP3.out.c6
  go_wp2
  clear qr
  obtain ⟨w9,hw9⟩:∃ X,X=(w3.alloc (.cells #[a.op,a.ct,a.n,a.m,a.va,.slice none 0 0] 28)):=⟨_,rfl⟩
  obtain ⟨D,hD⟩:∃ D,D=w3.heap.size:=⟨_,rfl⟩
  have hDw:D=w3.heap.size:=hD
  have KN9:Hid (Blk w9 D 28 #[a.op,a.ct,a.n,a.m,a.va,.slice none 0 0]):=by rw [hw9,hDw];exact Blk.new w3 28 _
  have hk9:∀ b,b<D→w9.heap[b]?=w3.heap[b]?:=fun b hb=>by rw [hw9,Below.heap_alloc _ _ _ (by omega)]
  have hs9:w9.heap.size=D+1:=by rw [hw9,hDw];simp
  have HC9:Hid (Chg [g] w w9):=by rw [hw9];exact HC3.out.alloc _
  have hD2:w.heap.size+2≤D:=by omega
  rw [←hD]
  rw [←hw9]
  clear hDw
  clear hw9
  have KP9:=jj (KP3.out.same (hk9 _ (by omega)))
  have KR9:=jj (KR3.out.same (hk9 _ (by omega)))
  have HR9:=jj (HR3.out.keep (w':=w9) (fun b hb=>hk9 b (by omega)))
  clear z0 z1 z2 z3 z4 z5 zlt
  clear hk9 KP3 KR3 HC3 HR3 hD
  obtain ⟨i0,hi,hz0,hz1,hz2'⟩:=info_parts info_PE
  have HI:=jj hi
  have HZ0:=jj hz0
  have HZ1:=jj hz1
  have HZ2x:=jj hz2'
  clear hi hz0 hz1 hz2'
  go_loopw [9,10] (fun mv iv wr=>∃ q:Nat,∃ m:Int,∃ kv:Value,∃ Fk:List Nat,∃ vs:List P,∃ pq:Nat,q≤a.ks.length∧iv=.int .i64 q∧mv=.int .i64 m∧Hid (vs.length=q)∧Hid (P.sizes vs≤2*kidSum a q)∧Hid (Blk wr D 28 #[a.op,a.ct,a.n,a.m,a.va,kv])∧Hid (Own wr (D+1) 28 6 PR vs kv Fk)∧Hid (∀ b∈Fk,b∈G∨D+1≤b)∧Hid (Chg [D,g] w9 wr)∧Hid (Chg [g] w wr)∧w9.heap.size≤wr.heap.size∧Hid (Rd wr g pq)∧pq≤p3+2*kidSum a q∧0≤m∧m≤n+2*((kidSum a q:Nat):Int)) (fun _ iv _=>a.ks.length-(intOf iv).toNat)
  case atStart=>exact ⟨0,n,_,[],[],p3,Nat.zero_le _,rfl,rfl,rfl,Nat.zero_le _,KN9,Own.nil _ _ _ _ _,(fun b hb=>by cases hb),Chg.refl _ _,HC9,zz8 _,HR9,by omega,hn0,by omega⟩
  case round =>
   clear HC9 KN9 HR9
   obtain ⟨q,m,kv,Fk,vs,pq,hql,rfl,rfl,HVL,HVS,KD,HO,HFh,HC,HCw,hws9,HRq,hpq,hm0,hm1⟩:=hrel
   obtain ⟨kA,kcap,hkv,hkc1,hkc2⟩:=HO.out.form
   subst hkv
   have hDg:∀ b,g<b→b≠D→b∉[D,g]:=fun b h1 h2 h=>by
    rcases List.mem_cons.1 h with h3 | h3
    ·exact h2 h3
    ·rw [zy1] at h3;omega
   have KPr:=jj (KP9.out.same (HC.out.block _ KP9.out.lt (hDg _ hgl (by omega))))
   have KRr:=jj (KR9.out.same (HC.out.block _ KR9.out.lt (hDg _ (by omega) (by omega))))
   have HFk:Hid (∀ b∈Fk,b≠D∧b≠g):=fun b hb=>by
    rcases HFh.out b hb with h | h
    ·exact ⟨by have:=HG.out b h;omega,HGg.out b h⟩
    ·exact ⟨by omega,by omega⟩
   have HAr:Hid (Arr wr (PR wr) a.ks (.slice A4 a.ks.length cap4) G):=ArrP.mono HA.out (HCw.out.kept HG.out (fun b hb h=>by rw [zy1] at h;exact HGg.out b hb h))
   have HGr:Hid (Under wr G):=HG.out.mono HCw.out.size
   have klt:=KD.out.lt
   clear hDg
   obtain ⟨z0,z1,z2,z3,z4,z5,zlt⟩:=KPr.out.c6
   by_cases hil:q<a.ks.length
   ·have g1:(0:Int)≤(q:Int):=by omega
    have g2:(q:Int)<(a.ks.length:Int):=by omega
    obtain ⟨b4,off4,rfl⟩:=HAr.out.ptr (by omega)
    obtain ⟨A7,cap7,G7,hb7,c0,c1,c2,c3,c4,c5,HV7,HG7,hsub,-,-⟩:=ArrP.at HAr.out HGr.out (zy2 _ _) q hil
    have HSUB:=jj hsub
    have hks:=zAS a q hil
    have hkle:=kidSum_le a (q+1)
    have hvl:=HVL.out
    have hvl3:vs.length≤1000000:=by omega
    clear hvl hsub
    have HME:Hid (a.ks[q]∈a.ks):=List.getElem_mem hil
    have HCALL:=jj (IH.out a.ks[q] HME.out wr pq g m _ G7 HRq.out (by omega) hm0 (by omega) HV7.out HG7.out (fun b hb=>HGg.out b (HSUB.out b hb)))
    go_wp2_with fail
    refine HCALL.out.mono ?_
    rintro e wA ⟨vA,csA,FA,qA,mA,rfl,hpA,hfA,hnA,hRA,hqA,hCA,hmA0,hmA1⟩
    obtain ⟨kvA,rfl,haA⟩:=(zA4 _ _ _).1 hpA
    obtain ⟨A8,cap8,rfl,-,-⟩:=haA.form
    have hmx:vs.length+1≤maxLen:=by unfold maxLen;omega
    have hby:(vs.length+1)*64≤140737488355328:=by omega
    have hb9:Below wA wA (wA.alloc (.cells #[vA.op,vA.ct,vA.n,vA.m,vA.va,.slice A8 vA.ks.length cap8] 28)):=(zy2 _ _).alloc (zz8 _) _
    have HBu:Hid (Chg [g] wr (wA.alloc (.cells #[vA.op,vA.ct,vA.n,vA.m,vA.va,.slice A8 vA.ks.length cap8] 28))):=hCA.alloc _
    have HPb:=jj (hpA.below hb9 (fun b hb=>(hfA b hb).1))
    have hDg1:D∉[g]:=HG1.out _ (by omega)
    have KDA:=hCA.block _ klt hDg1
    have zT:wA.cell? ⟨D,5,none⟩=some (.slice kA vs.length kcap):=((KD.out.same KDA).cell 5).trans (by simp)
    have hkA:=(KD.out.same KDA).lt
    have zfT:wA.frozen? ⟨D,5,none⟩=false:=(KD.out.same KDA).frozen 5
    have HFA:Hid (∀ b∈FA,b<wA.heap.size∧(b∈G∨wr.heap.size≤b)):=fun b hb=>⟨(hfA b hb).1,by rcases (hfA b hb).2 with h | h;exact .inl (HSUB.out b h);exact .inr h⟩
    have HFA2:Hid (∀ b∈FA,b≠D∧b≠g):=fun b hb=>by
     rcases (HFA.out b hb).2 with h | h
     ·exact ⟨by have:=HG.out b h;omega,HGg.out b h⟩
     ·exact ⟨by omega,by omega⟩
    have HFA3:Hid (∀ x∈rowOf (.slice kA vs.length kcap),x∉FA):=fun x hx h=>by
     have h1:=HO.out.row x hx
     rcases (HFA.out x h).2 with h2 | h2
     ·have:=HG.out x h2;omega
     ·omega
    have HRA:=jj (hRA.below hb9)
    have HNA:=jj hnA
    have HOb:Hid (Own (wA.alloc (.cells #[vA.op,vA.ct,vA.n,vA.m,vA.va,.slice A8 vA.ks.length cap8] 28)) (D+1) 28 6 PR vs (.slice kA vs.length kcap) Fk):=HO.out.chg2 PR_mono' HBu.out (fun b hb=>by rw [zy1] at hb;omega) (fun b hb h=>by rw [zy1] at h;exact (HFk.out b hb).2 h)
    have hsz:D+1≤(wA.alloc (.cells #[vA.op,vA.ct,vA.n,vA.m,vA.va,.slice A8 vA.ks.length cap8] 28)).heap.size:=by have:=HBu.out.size;omega
    clear z0 z1 z2 z3 z4 z5 zlt c0 c1 c2 c3 c4 c5 hpA hfA hnA hRA haA KDA HCALL hb7
    go_wp2_with (at_builtin;refine Halt.mk ?_)
    refine Halt.of (zA3 (P:=Try.prog) rfl _ _ 26 rfl i0 _ 64 Try.underlying26 HI.out HZ0.out HZ1.out HZ2x.out rfl (by decide) PR_len' PR_mono' (by rfl) HOb.out vA 28 [vA.op,vA.ct,vA.n,vA.m,vA.va,.slice A8 vA.ks.length cap8] FA _ (by rfl) (by simp) (by simp [Value.oneCell']) HPb.out (fun b hb=>by rw [World.size_alloc];have:=(HFA.out b hb).1;omega) HFA3.out hmx hby hsz ?_)
    intro gz cp w7 hown7 hgr7 hat7
    have hrow:=HOb.out.row
    have n7:some D≠(Value.ownBlock (.slice kA vs.length kcap)):=fun e=>by have:=(hrow D (zA2.2 e.symm)).1;omega
    have hl7:D<((wA.alloc (.cells #[vA.op,vA.ct,vA.n,vA.m,vA.va,.slice A8 vA.ks.length cap8] 28)).alloc (.cells [.int .i64 vA.op,.int .i64 vA.ct,.int .i64 vA.n,.int .i64 vA.m,.int .i64 vA.va,.slice A8 vA.ks.length cap8].toArray 28)).heap.size:=by rw [World.size_alloc,World.size_alloc];omega
    have z71:w7.cell? ⟨D,5,none⟩=some (.slice kA vs.length kcap):=(World.grownBy.cell_far hgr7 ⟨D,5,none⟩ hl7 n7).trans ((World.cell?_alloc_lt _ _ _ (by rw [World.size_alloc];show D<_;omega)).trans ((World.cell?_alloc_lt _ _ _ (show D<wA.heap.size from hkA)).trans zT))
    have zf71:w7.frozen? ⟨D,5,none⟩=false:=(World.grownBy.frozen_far hgr7 ⟨D,5,none⟩ hl7 n7).trans (Eq.trans (World.frozen?_of_block (Below.heap_alloc _ _ _ (by rw [World.size_alloc];show D<_;omega))) (Eq.trans (World.frozen?_of_block (Below.heap_alloc _ _ _ (show D<wA.heap.size from hkA))) zfT))
    obtain ⟨r1,r2,r3,r4,r5,r6,r7⟩:=kid_round4 (w:=w) 5 PR_mono' hs9 (Nat.lt_succ_self D) hgl (by omega) KD.out HO.out HFk.out HC.out HCw.out HBu.out HFA2.out hown7 hgr7 HRA.out
    have R1:=jj r1
    have R2:=jj r2
    have R4:=jj r4
    have R5:=jj r5
    have R7:=jj r7
    have R3:Hid (∀ b∈Fk ++ FA,b∈G∨D+1≤b):=fun b hb=>by
     rcases List.mem_append.1 hb with h | h
     ·exact HFh.out b h
     ·rcases (HFA.out b h).2 with h2 | h2
      ·exact .inl h2
      ·exact .inr (by omega)
    have HV2:Hid ((vs ++ [vA]).length=q+1):=by have:=HVL.out;unfold Hid;rw [List.length_append];simp only [List.length_cons,List.length_nil];omega
    have HS2:Hid (P.sizes (vs ++ [vA])≤2*kidSum a (q+1)):=by unfold Hid;rw [hks];exact psizes_snoc2 vs vA _ _ HVS.out HNA.out
    have HKS:=jj hks
    have h7D:D<w7.heap.size:=zz9 hl7 hgr7.size
    clear r1 r2 r3 r4 r5 r7 hown7 hgr7 hat7 hrow n7 hl7 zT zfT hks
    go_wp2
    go_roundw
    case rel=>exact ⟨q+1,mA,_,_,vs ++ [vA],qA,hil,by go_num,rfl,HV2,HS2,R1,(by rw [show (vs ++ [vA]).length=vs.length+1 from by rw [List.length_append];rfl] at *;exact R2),R3,R4,R5,r6,R7,by have:=HKS.out;omega,hmA0,by have:=HKS.out;push_cast [this];omega⟩
    case measure=>(simp [intOf] <;> omega)
   ·obtain ⟨FF,hf1,hf3⟩:=kid_done4 (D:=D) (g:=g) HO.out HFk.out (Nat.lt_succ_self D) (by omega)
    have HF1:=jj hf1
    have HF3:Hid (∀ b∈FF,b<wr.heap.size∧(b∈G∨w.heap.size≤b)∧b≠w.heap.size+1):=fun b hb=>by
     have h:=hf3 b hb
     rcases h.2.2.2 with h2 | h2
     ·rcases HFh.out b h2 with h3 | h3
      ·exact ⟨h.2.2.1,.inl h3,by have:=HG.out b h3;omega⟩
      ·exact ⟨h.2.2.1,.inr (by omega),by omega⟩
     ·exact ⟨h.2.2.1,.inr (by omega),by omega⟩
    have HFg:Hid (∀ b∈FF,b∉[g]):=fun b hb h=>by rw [zy1] at h;exact (hf3 b hb).2.1 h
    have hq:q=a.ks.length:=by omega
    have HSZ:Hid (nodesP ⟨a.op,a.ct,a.n,a.m,a.va,vs⟩≤2*nodesP a-1):=by have h1:=HVS.out;rw [hq] at h1;unfold Hid;rw [zA5];simp only;omega
    have HRP:Hid (PR wr ⟨a.op,a.ct,a.n,a.m,a.va,vs⟩ [a.op,a.ct,a.n,a.m,a.va,.slice kA vs.length kcap] FF):=(zA4 _ _ _).2 ⟨_,rfl,HF1.out⟩
    rw [hq] at hpq hm1
    clear hf1 hf3 hq
    by_cases hm5:m≤5
    ·have d1:decide (m≤5)=true:=decide_eq_true hm5
     clear hm5
     go_wp2_with fail
     refine (zAH 6 pq g wr HRq.out (by omega) (by omega) (by omega)).mono ?_
     rintro e w10 ⟨r10,rfl,-,hR10,hC10⟩
     have KDX:=jj (KD.out.same (hC10.block _ klt (HG1.out _ (by omega))))
     have KRX:=jj (KRr.out.same (hC10.block _ KRr.out.lt (HG1.out _ (by omega))))
     have HCX:=jj (HCw.out.trans hC10)
     have HRX:=jj hR10
     have hzX:=hC10.size
     have HRPX:=jj (PR.mono _ _ _ (hC10.kept (fun b hb=>(HF3.out b hb).1) HFg.out) HRP.out)
     have HFX:Hid (∀ b∈FF,b<w10.heap.size∧(b∈G∨w.heap.size≤b)∧b≠w.heap.size+1):=fun b hb=>⟨zz9 (HF3.out b hb).1 hzX,(HF3.out b hb).2⟩
     clear z0 z1 z2 z3 z4 z5 zlt hR10 hC10
     cases q10:((r10:Int)==0) with
     |true =>
      have hmw:IntKind.i64.wrap (m+1)=m+1:=IntWalk.i64_in _ (by omega)
      have e0:=(KDX.out.cell 0).trans (show _=some (.int .i64 a.op) from by simp)
      have e1:=(KDX.out.cell 1).trans (show _=some (.int .i64 a.ct) from by simp)
      have e2:=(KDX.out.cell 2).trans (show _=some (.int .i64 a.n) from by simp)
      have e3:=(KDX.out.cell 3).trans (show _=some (.int .i64 a.m) from by simp)
      have e4:=(KDX.out.cell 4).trans (show _=some (.int .i64 a.va) from by simp)
      have e5:=(KDX.out.cell 5).trans (show _=some (.slice kA vs.length kcap) from by simp)
      have elt:=KDX.out.lt
      have rc0:=(KRX.out.cell 0).trans (show _=some (.int .i64 0) from by simp)
      have rf0:=KRX.out.frozen 0
      have rc1:=(KRX.out.cell 1).trans (show _=some (.int .i64 0) from by simp)
      have rf1:=KRX.out.frozen 1
      have rc2:=(KRX.out.cell 2).trans (show _=some (.int .i64 0) from by simp)
      have rf2:=KRX.out.frozen 2
      have rc3:=(KRX.out.cell 3).trans (show _=some (.int .i64 0) from by simp)
      have rf3:=KRX.out.frozen 3
      have rc4:=(KRX.out.cell 4).trans (show _=some (.int .i64 0) from by simp)
      have rf4:=KRX.out.frozen 4
      have rc5:=(KRX.out.cell 5).trans (show _=some (.slice none 0 0) from by simp)
      have rf5:=KRX.out.frozen 5
      have rlt:=KRX.out.lt
      go_wp2
      clear rc0 rf0 rc1 rf1 rc2 rf2 rc3 rf3 rc4 rf4 rc5 rf5 rlt
      obtain ⟨w6,hw6⟩:∃ X,X=((((((w10.setCell ⟨w.heap.size+1,0,none⟩ (.int .i64 6)).setCell ⟨w.heap.size+1,1,none⟩ (.int .i64 0)).setCell ⟨w.heap.size+1,2,none⟩ (.int .i64 0)).setCell ⟨w.heap.size+1,3,none⟩ (.int .i64 0)).setCell ⟨w.heap.size+1,4,none⟩ (.int .i64 m)).setCell ⟨w.heap.size+1,5,none⟩ (.slice (some ⟨w10,0,none⟩) 1 1)):=⟨_,rfl⟩
      have hs6:w6.heap.size=w10.heap.size:=by rw [hw6,zAN]
      have K6:Hid (Blk w6 (w.heap.size+1) 28 #[(6:Int),(0:Int),(0:Int),(0:Int),.int .i64 m,.slice (some ⟨w10,0,none⟩) 1 1]):=by rw [hw6];exact KRX.out.six _ _ _ _ _ _
      have hkp:Kept FF w10 w6:=by rw [hw6];exact zAM (w:=w10) (H:=w.heap.size+1) (fun b hb=>(HFX.out b hb).2.2) _ _ _ _ _ _
      have HP6:=jj (PR.mono _ _ _ hkp HRPX.out)
      have HR6:Hid (Rd w6 g (pq+1)):=by rw [hw6];exact zB2 HRX.out (by omega) _ _ _ _ _ _
      have HC6:Hid (Chg [g] w w6):=by rw [hw6];exact zAL HCX.out (by omega) _ _ _ _ _ _
      rw [←hw6]
      clear hw6 hkp
      have hbW:Below w6 w6 (w6.alloc (.cells #[a.op,a.ct,a.n,a.m,a.va,.slice kA vs.length kcap] 28)):=(zy2 _ _).alloc (zz8 _) _
      have KAW:Hid (Blk (w6.alloc (.cells #[a.op,a.ct,a.n,a.m,a.va,.slice kA vs.length kcap] 28)) w10.heap.size 28 #[a.op,a.ct,a.n,a.m,a.va,.slice kA vs.length kcap]):=by rw [←hs6];exact Blk.new _ _ _
      have KRW:=jj (K6.out.same (hbW.block _ K6.out.lt))
      have HCW:=jj (HC6.out.step hbW)
      have HRW:=jj (HR6.out.below hbW)
      have HPW:=jj (HP6.out.below hbW (fun b hb=>by rw [hs6];exact (HFX.out b hb).1))
      have hsW:(w6.alloc (.cells #[a.op,a.ct,a.n,a.m,a.va,.slice kA vs.length kcap] 28)).heap.size=w10.heap.size+1:=by rw [World.size_alloc,hs6]
      generalize (w6.alloc (.cells #[a.op,a.ct,a.n,a.m,a.va,.slice kA vs.length kcap] 28))=wW at *
      have HFW:Hid (∀ b∈w10.heap.size :: FF,b<wW.heap.size∧(b∈G∨w.heap.size≤b)):=fun b hb=>by
       rcases List.mem_cons.1 hb with h | h
       ·exact ⟨by omega,.inr (by omega)⟩
       ·have:=HFX.out b h;exact ⟨by omega,this.2.1⟩
      have HAW:Hid (PR wW ⟨6,0,0,0,m,[⟨a.op,a.ct,a.n,a.m,a.va,vs⟩]⟩ [(6:Int),(0:Int),(0:Int),(0:Int),.int .i64 m,.slice (some ⟨w10,0,none⟩) 1 1] (w10.heap.size :: FF)):=(zA4 _ _ _).2 ⟨_,rfl,arr_pat1 KAW.out HPW.out⟩
      have HSW:Hid (nodesP ⟨6,0,0,0,m,[⟨a.op,a.ct,a.n,a.m,a.va,vs⟩]⟩≤2*nodesP a):=by have h1:=HSZ.out;unfold Hid;rw [zA5];simp only [P.sizes];unfold nodesP at h1 ⊢;omega
      refine bodyPost_ret (zAB rfl _ _ (w.heap.size+1) 28 #[(6:Int),(0:Int),(0:Int),(0:Int),.int .i64 m,.slice (some ⟨w10,0,none⟩) 1 1] (0,0) _ rfl KRW.out Try.underlying28 rfl rfl) rfl ?_
      exact ⟨⟨6,0,0,0,m,[⟨a.op,a.ct,a.n,a.m,a.va,vs⟩]⟩,[(6:Int),(0:Int),(0:Int),(0:Int),.int .i64 m,.slice (some ⟨w10,0,none⟩) 1 1],(w10.heap.size :: FF),pq+1,(m+1),rfl,HAW.out,HFW.out,HSW.out,HRW.out,by omega,HCW.out,by omega,by omega⟩
     |false =>
      have e0:=(KDX.out.cell 0).trans (show _=some (.int .i64 a.op) from by simp)
      have e1:=(KDX.out.cell 1).trans (show _=some (.int .i64 a.ct) from by simp)
      have e2:=(KDX.out.cell 2).trans (show _=some (.int .i64 a.n) from by simp)
      have e3:=(KDX.out.cell 3).trans (show _=some (.int .i64 a.m) from by simp)
      have e4:=(KDX.out.cell 4).trans (show _=some (.int .i64 a.va) from by simp)
      have e5:=(KDX.out.cell 5).trans (show _=some (.slice kA vs.length kcap) from by simp)
      have elt:=KDX.out.lt
      have rc0:=(KRX.out.cell 0).trans (show _=some (.int .i64 0) from by simp)
      have rf0:=KRX.out.frozen 0
      have rc1:=(KRX.out.cell 1).trans (show _=some (.int .i64 0) from by simp)
      have rf1:=KRX.out.frozen 1
      have rc2:=(KRX.out.cell 2).trans (show _=some (.int .i64 0) from by simp)
      have rf2:=KRX.out.frozen 2
      have rc3:=(KRX.out.cell 3).trans (show _=some (.int .i64 0) from by simp)
      have rf3:=KRX.out.frozen 3
      have rc4:=(KRX.out.cell 4).trans (show _=some (.int .i64 0) from by simp)
      have rf4:=KRX.out.frozen 4
      have rc5:=(KRX.out.cell 5).trans (show _=some (.slice none 0 0) from by simp)
      have rf5:=KRX.out.frozen 5
      have rlt:=KRX.out.lt
      go_wp2
      clear rc0 rf0 rc1 rf1 rc2 rf2 rc3 rf3 rc4 rf4 rc5 rf5 rlt
      refine bodyPost_ret (zAB rfl _ _ (w.heap.size+1) 28 #[a.op,a.ct,a.n,a.m,a.va,.slice kA vs.length kcap] (0,0) _ rfl (KRX.out.six _ _ _ _ _ _) Try.underlying28 rfl rfl) rfl ?_
      have hkp:Kept FF w10 _:=zAM (w:=w10) (H:=w.heap.size+1) (fun b hb=>(HFX.out b hb).2.2) (.int .i64 a.op) (.int .i64 a.ct) (.int .i64 a.n) (.int .i64 a.m) (.int .i64 a.va) (.slice kA vs.length kcap)
      exact ⟨⟨a.op,a.ct,a.n,a.m,a.va,vs⟩,[a.op,a.ct,a.n,a.m,a.va,.slice kA vs.length kcap],FF,pq+1,m,rfl,PR.mono _ _ _ hkp HRPX.out,fun b hb=>⟨by rw [zAN];exact (HFX.out b hb).1,(HFX.out b hb).2.1⟩,by have:=HSZ.out;omega,zB2 HRX.out (by omega) _ _ _ _ _ _,by omega,zAL HCX.out (by omega) _ _ _ _ _ _,hm0,by omega⟩
    ·have d1:decide (m≤5)=false:=decide_eq_false hm5
     clear hm5 z0 z1 z2 z3 z4 z5
     obtain ⟨-,-,-,-,-,z5,-⟩:=KPr.out.c6
     have e0:=(KD.out.cell 0).trans (show _=some (.int .i64 a.op) from by simp)
     have e1:=(KD.out.cell 1).trans (show _=some (.int .i64 a.ct) from by simp)
     have e2:=(KD.out.cell 2).trans (show _=some (.int .i64 a.n) from by simp)
     have e3:=(KD.out.cell 3).trans (show _=some (.int .i64 a.m) from by simp)
     have e4:=(KD.out.cell 4).trans (show _=some (.int .i64 a.va) from by simp)
     have e5:=(KD.out.cell 5).trans (show _=some (.slice kA vs.length kcap) from by simp)
     have elt:=KD.out.lt
     have rc0:=(KRr.out.cell 0).trans (show _=some (.int .i64 0) from by simp)
     have rf0:=KRr.out.frozen 0
     have rc1:=(KRr.out.cell 1).trans (show _=some (.int .i64 0) from by simp)
     have rf1:=KRr.out.frozen 1
     have rc2:=(KRr.out.cell 2).trans (show _=some (.int .i64 0) from by simp)
     have rf2:=KRr.out.frozen 2
     have rc3:=(KRr.out.cell 3).trans (show _=some (.int .i64 0) from by simp)
     have rf3:=KRr.out.frozen 3
     have rc4:=(KRr.out.cell 4).trans (show _=some (.int .i64 0) from by simp)
     have rf4:=KRr.out.frozen 4
     have rc5:=(KRr.out.cell 5).trans (show _=some (.slice none 0 0) from by simp)
     have rf5:=KRr.out.frozen 5
     have rlt:=KRr.out.lt
     go_wp2
     clear rc0 rf0 rc1 rf1 rc2 rf2 rc3 rf3 rc4 rf4 rc5 rf5 rlt
     refine bodyPost_ret (zAB rfl _ _ (w.heap.size+1) 28 #[a.op,a.ct,a.n,a.m,a.va,.slice kA vs.length kcap] (0,0) _ rfl (KRr.out.six _ _ _ _ _ _) Try.underlying28 rfl rfl) rfl ?_
     have hkp:Kept FF wr _:=zAM (w:=wr) (H:=w.heap.size+1) (fun b hb=>(HF3.out b hb).2.2) (.int .i64 a.op) (.int .i64 a.ct) (.int .i64 a.n) (.int .i64 a.m) (.int .i64 a.va) (.slice kA vs.length kcap)
     exact ⟨⟨a.op,a.ct,a.n,a.m,a.va,vs⟩,[a.op,a.ct,a.n,a.m,a.va,.slice kA vs.length kcap],FF,pq,m,rfl,PR.mono _ _ _ hkp HRP.out,fun b hb=>⟨by rw [zAN];exact (HF3.out b hb).1,(HF3.out b hb).2.1⟩,by have:=HSZ.out;omega,zB2 HRq.out (by omega) _ _ _ _ _ _,by omega,zAL HCw.out (by omega) _ _ _ _ _ _,hm0,by omega⟩
theorem l3Name_of (a:P) (ih:∀ k∈a.ks,NameP k):NameP a:=by
 intro w p g n cs G hr hp hn0 hn1 hv hG hGg
 cases h5:decide (n>5) with
 |true=>exact l3Name_top a ih w p g n cs G hr hp hn0 hn1 hv hG hGg h5
 |false =>
  cases q5:(a.op==5) with
  |true=>exact l3Name_or a ih w p g n cs G hr hp hn0 hn1 hv hG hGg h5 q5
  |false =>
   cases q3:(a.op==3) with
   |true=>exact l3Name_int a ih w p g n cs G hr hp hn0 hn1 hv hG hGg h5 q5 q3
   |false =>
    cases q1:(a.op==1) with
    |true=>exact l3Name_any a ih w p g n cs G hr hp hn0 hn1 hv hG hGg h5 q5 q3 q1
    |false=>exact l3Name_node a ih w p g n cs G hr hp hn0 hn1 hv hG hGg h5 q5 q3 q1
theorem spec_l3Name:∀ a,NameP a:=P.indv l3Name_of
end Go.Proofs.Ytjjclcmmfeegfaa
