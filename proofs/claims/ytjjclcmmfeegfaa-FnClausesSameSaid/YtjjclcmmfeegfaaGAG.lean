/-
  Lemmas, and contracts of functions. Conditions: none.
-/
import Derived.Test.YtjjclcmmfeegfaaGAE
import Derived.Test.YtjjclcmmfeegfaaGAD
import Derived.Test.YtjjclcmmfeegfaaGAF
import Derived.Test.YtjjclcmmfeegfaaGAB
import Derived.Deep.Cut
import Derived.Deep.RegionWith
import Derived.Test.YtjjclcmmfeegfaaGAA

set_option linter.unusedVariables false
set_option linter.unusedSimpArgs false
set_option maxRecDepth 100000
set_option maxHeartbeats 1600000

namespace Go.Proofs.Ytjjclcmmfeegfaa
open Go.RowKit
def DrewPV (xs:List Dt) (t:Ty) (b p n g:Nat) (w:World) (e:Ending) (w':World):Prop:=∃ (a:P) (cs:List Value) (F:List Nat) (q:Nat),e=.returned (.agg cs.toArray)∧PR w' a cs F∧(∀ b∈F,b<w'.heap.size∧b≠g∧(w.heap.size≤b))∧nodesP a≤b∧patOkB xs t a=true∧Rd w' g q∧q≤p+n∧Chg [g] w w'
theorem any_ok (xs:List Dt) (t:Ty):patOkB xs t ⟨1,0,0,0,0,[]⟩=true:=by
 have e:typesP xs t ⟨1,0,0,0,0,[]⟩=[]:=by unfold typesP kidsN;simp
 have h1:shapeB xs 10 t ⟨1,0,0,0,0,[]⟩=true:=by rw [shapeB,e];rfl
 have h2:varsN xs 10 t ⟨1,0,0,0,0,[]⟩=[]:=by rw [varsN];unfold kidsV;rw [e];rfl
 have h3:linB xs 10 t ⟨1,0,0,0,0,[]⟩=true:=by rw [linB,e];simp only [List.zip_nil_left,List.all_nil,Bool.true_and];rw [if_neg (by decide),h2];rfl
 unfold patOkB
 rw [h1,h3]
 rfl
set_option maxHeartbeats 8000000 in
theorem spec_l3SomeV (xs:List Dt) (hw:WorldOK xs) (t:Ty) (ht:TyIn xs.length t) (w:World) (p g:Nat) (x:Value) (F:List Nat) (hr:Rd w g p) (hp:p≤800000) (hx:Arr w (DtR w) xs x F) (hf:Under w F) (hgF:g∉F) :
  Calls Try.prog 68 #[.pointer (some ⟨g,0,none⟩),x,.agg #[t.d,t.i]] w (DrewPV xs t 512 p 2000 g w):=by
 have hgl:=hr.lt
 obtain ⟨A,cap,rfl,hc1,hc2⟩:=hx.form
 have HW:=jj hw
 have HT:=jj ht
 have HGF:=jj hgF
 have HPB:Hid (p+1+5*4 ^ 4≤900000):=by unfold Hid;rw [pow44];omega
 have HR:=jj hr
 have HX:=jj hx
 have HF:=jj hf
 clear hr hx hf
 clear hw ht hgF
 go_enter Try.func68,Try.ntmps68
 go_wp2_with fail
 obtain ⟨W2,hW2⟩:∃ W2,W2=((w.alloc (.cells #[t.d,t.i] 25)).alloc (.cells #[(0:Int),(0:Int),(0:Int),(0:Int),(0:Int),.slice none 0 0] 28)):=⟨_,rfl⟩
 have hB0:Below w w W2:=by rw [hW2];exact ((zy2 _ _).alloc (zz8 _) _).alloc (by simp) _
 have KT:Hid (Blk W2 w 25 #[t.d,t.i]):=by rw [hW2];exact (Blk.new w _ _).same (Below.heap_alloc _ _ _ (by simp))
 have KR:Hid (Blk W2 (w.heap.size+1) 28 #[(0:Int),(0:Int),(0:Int),(0:Int),(0:Int),.slice none 0 0]):=by rw [hW2];exact zA8 w _ 28 _
 have hws:W2.heap.size=w.heap.size+2:=by rw [hW2];simp
 have HR2:=jj (HR.out.below hB0)
 rw [←hW2]
 clear hW2
 clear HR
 have HR:=HR2
 clear HR2
 have HXK:Hid (∀ C,Chg [g] W2 C→Arr C (DtR C) xs (.slice A xs.length cap) F):=fun C hC=>ArrDt.mono (ArrDt.below HX.out hB0 HF.out) (hC.kept (HF.out.mono hB0.size) (fun b hb h=>HGF.out (by rw [zy1] at h;rw [←h];exact hb)))
 have HUK:Hid (∀ C,Chg [g] W2 C→Under C F):=fun C hC=>(HF.out.mono hB0.size).mono hC.size
 have HWS:=jj hws
 have hws2:w.heap.size+2≤W2.heap.size:=by omega
 clear hws
 go_cut [7] from 9 (fun pv wc=>∃ (gx:Nat) (a:P) (cs:List Value) (Fp:List Nat) (q:Nat),pv=.pointer (some ⟨gx,0,none⟩)∧Hid (Chg [g] W2 wc)∧Hid (Blk wc gx 28 cs.toArray)∧Hid (W2.heap.size≤gx)∧Hid (gx∉Fp)∧Hid (PR wc a cs Fp)∧Hid (∀ b∈Fp,b<wc.heap.size∧b≠g∧W2.heap.size≤b)∧Hid (nodesP a≤512)∧Hid (Rd wc g q)∧Hid (q≤p+2000))
 case first =>
  have HS:Hid (∀ C:World,Chg [g] W2 C→(C.cell? ⟨w,0,none⟩=t.d∧C.cell? ⟨w,1,none⟩=t.i)):=fun C hb=>⟨((KT.out.same (hb.block _ KT.out.lt (by rw [zy1];omega))).cell 0).trans (by simp),((KT.out.same (hb.block _ KT.out.lt (by rw [zy1];omega))).cell 1).trans (by simp)⟩
  have hC0:Chg [g] W2 W2.drew:=(Chg.refl _ _).drew
  refine zA9 (S:=fun w'=>w'.cell? ⟨w,0,none⟩=t.d∧w'.cell? ⟨w,1,none⟩=t.i) (T:=fun _=>True) (d:=99) (by kernel_rfl) ?_
  obtain ⟨wd,hwd⟩:∃ X,X=W2.drew:=⟨_,rfl⟩
  have HR0:=jj (HR.out.keep (w':=wd) (fun b hb=>by rw [hwd];rfl))
  rw [←hwd] at hC0 ⊢
  clear hwd
  have hS0:=HS.out _ hC0
  have hT0:True:=trivial
  refine wV 0 rfl hS0 hT0 ?_
  (try simp only [zz])
  refine wV 1 rfl hS0 hT0 ?_
  (try simp only [zz])
  refine wV 2 rfl hS0 hT0 ?_
  (try simp only [zz])
  refine wV 3 rfl hS0 hT0 ?_
  (try simp only [zz])
  refine wV 4 rfl hS0 hT0 ?_
  (try simp only [zz])
  refine wR (rs:=[5,12]) (by kernel_rfl) (by simp) ?_
  refine AllReadyB.c rfl (fun K hK=>?_) (AllReadyB.c rfl (fun K hK=>?_) AllReadyB.n)
  ·skip
   go_simp
   obtain ⟨C1,hX⟩:∃ X,X=wd.alloc (.cells ([3,2,4,1].map (Value.int .i64)).toArray 3):=⟨_,rfl⟩
   have hX2:=hX
   simp only [List.map_cons,List.map_nil] at hX2
   have hb1:Below wd wd C1:=by rw [hX];exact (zy2 _ _).alloc (zz8 _) _
   have HL1:Hid (LitN C1 wd.heap.size [3,2,4,1]):=by rw [hX];exact LitN.new _ _ (by decide)
   first | rw [←hX] | rw [←hX2]
   clear hX hX2
   have hC1:Chg [g] W2 C1:=hC0.step hb1
   have HLG1:Hid (wd.heap.size≠g):=by have:=hC0.size;unfold Hid;omega
   have HRb2:=jj (HR0.out.below hb1)
   (try dsimp only)
   refine hK.out _ _ (HS.out _ hC1) (fun _=>trivial) ?_
   clear hK K
   (try simp only [zz])
   refine wR (rs:=[6,12]) (by kernel_rfl) (by simp) ?_
   refine AllReadyB.c rfl (fun K hK=>?_) (AllReadyB.c rfl (fun K hK=>?_) AllReadyB.n)
   ·skip
    go_simp
    go_at_call 35
    refine (num_any [3,2,4,1] (by decide) (by decide) p g C1 HRb2.out (by omega) _ _ HL1.out.2 (fun x hx=>by rw [List.mem_singleton.1 hx];exact HL1.out.1) (fun e=>HLG1.out (List.mem_singleton.1 e).symm)).mono ?_
    rintro e C3 ⟨nd,hnd,rfl,hr3,hq3⟩
    have hC3:Chg [g] W2 C3:=hC1.trans hq3
    have HR3:=jj hr3
    have HND:Hid (nd≤((4:Nat):Int)∧((4:Nat):Int)-30≤nd):=by simp at hnd;unfold Hid;omega
    clear hr3 hnd
    (try dsimp only)
    refine hK.out _ _ (HS.out _ hC3) (fun _=>trivial) ?_
    clear hK K
    (try simp only [zz])
    refine wR (rs:=[7,12]) (by kernel_rfl) (by simp) ?_
    refine AllReadyB.c rfl (fun K hK=>?_) (AllReadyB.c rfl (fun K hK=>?_) AllReadyB.n)
    ·skip
     go_simp
     go_at_call 91
     refine (spec_l3Draw 4 (by omega) xs HW.out t HT.out nd HND.out.1 HND.out.2 C3 (p+1) g _ F HR3.out HPB.out (HXK.out _ hC3) (HUK.out _ hC3) HGF.out).mono ?_
     rintro e C4 ⟨ad,cs4,F4,qd,rfl,hp4,hf4,hn4,hr4,hqq4,hq4⟩
     have hC4:Chg [g] W2 C4:=hC3.trans hq4
     obtain ⟨kvd4,rfl,had4⟩:=(zA4 _ _ _).1 hp4
     obtain ⟨dA,dcap,rfl,-,-⟩:=had4.form
     have HP4:=jj hp4
     have HR4:=jj hr4
     have HN4:Hid (nodesP ad≤256):=by have h:=hn4;rw [pow44] at h;exact h
     have HQ4:Hid (qd≤p+1+1280):=by have h:=hqq4;rw [pow44] at h;exact h
     have HU4:Hid (∀ b∈F4,b<C4.heap.size∧b≠g∧W2.heap.size≤b):=fun b hb=>⟨(hf4 b hb).1,(hf4 b hb).2.1,Nat.le_trans hC3.size (hf4 b hb).2.2⟩
     clear hp4 hr4 hn4 hqq4 hf4 had4
     (try dsimp only)
     refine hK.out _ _ (HS.out _ hC4) (fun _=>trivial) ?_
     clear hK K
     (try simp only [zz])
     refine wR (rs:=[8,12]) (by kernel_rfl) (by simp) ?_
     refine AllReadyB.c rfl (fun K hK=>?_) (AllReadyB.c rfl (fun K hK=>?_) AllReadyB.n)
     ·skip
      go_simp
      go_at_call 90
      refine (spec_l3Name ad C4 qd g 0 _ F4 HR4.out (by have h1:=HN4.out;have h2:=HQ4.out;omega) (by omega) (by have h1:=HN4.out;omega) HP4.out (fun b hb=>(HU4.out b hb).1) (fun b hb=>(HU4.out b hb).2.1)).mono ?_
      rintro e C5 ⟨an,cs5,F5,qn,mn,rfl,hp5,hf5,hn5,hr5,hqq5,hq5,-,-⟩
      have hC5:Chg [g] W2 C5:=hC4.trans hq5
      obtain ⟨kvn5,rfl,han5⟩:=(zA4 _ _ _).1 hp5
      obtain ⟨nA,ncap,rfl,-,-⟩:=han5.form
      have HP5:=jj hp5
      have HR5:=jj hr5
      have HNN5:Hid (nodesP an≤512):=by have h1:=HN4.out;unfold Hid;omega
      have HQN5:Hid (qn≤p+2000):=by have h1:=HN4.out;have h2:=HQ4.out;unfold Hid;omega
      have HU5:Hid (∀ b∈F5,b<C5.heap.size∧b≠g∧W2.heap.size≤b):=fun b hb=>by
       obtain ⟨h1,h2⟩:=hf5 b hb
       rcases h2 with h2 | h2
       ·exact ⟨h1,(HU4.out b h2).2⟩
       ·have h3:=hC4.size
        exact ⟨h1,by omega,by omega⟩
      clear hp5 hr5 hn5 hqq5 hf5 han5
      (try dsimp only)
      refine hK.out _ _ (HS.out _ hC5) (fun _=>trivial) ?_
      clear hK K
      (try simp only [zz])
      have hSx5:=HS.out _ hC5
      refine wV 9 rfl hSx5 hT0 ?_
      (try simp only [zz])
      refine wV 10 rfl hSx5 hT0 ?_
      (try simp only [zz])
      refine wV 11 rfl hSx5 hT0 ?_
      (try simp only [zz])
      refine w1 12 rfl fun K hK=>?_
      go_simp
      obtain ⟨C6,hX⟩:∃ X,X=C5.alloc (.cells #[(0:Int),(0:Int),(0:Int),(0:Int),(0:Int),.slice none 0 0] 28):=⟨_,rfl⟩
      have hb6:Below C5 C5 C6:=by rw [hX];exact (zy2 _ _).alloc (zz8 _) _
      have cx6:Hid (Blk C6 C5 28 #[(0:Int),(0:Int),(0:Int),(0:Int),(0:Int),.slice none 0 0]):=by rw [hX];exact Blk.new _ _ _
      rw [←hX]
      clear hX
      have hC6:Chg [g] W2 C6:=hC5.step hb6
      have HGE6:Hid (W2.heap.size≤C5.heap.size):=hC5.size
      have HRb7:=jj (HR5.out.below hb6)
      have cp7:=jj (PR.below HP5.out hb6 (fun b hb=>(HU5.out b hb).1))
      have cu7:Hid (∀ b∈F5,b<C6.heap.size∧b≠g∧W2.heap.size≤b):=fun b hb=>⟨zz9 (HU5.out b hb).1 hb6.size,(HU5.out b hb).2⟩
      (try dsimp only)
      refine hK.out _ _ (HS.out _ hC6) (fun _=>trivial) ?_
      clear hK K
      (try simp only [zz])
      obtain ⟨yy0,yy1,yy2,yy3,yy4,yy5,yylt,ff0,ff1,ff2,ff3,ff4,ff5⟩:=cx6.out.q6
      have hCe:Hid (Chg [g] W2 ((((((C6.setCell ⟨C5,0,none⟩ (.int .i64 an.op)).setCell ⟨C5,1,none⟩ (.int .i64 an.ct)).setCell ⟨C5,2,none⟩ (.int .i64 an.n)).setCell ⟨C5,3,none⟩ (.int .i64 an.m)).setCell ⟨C5,4,none⟩ (.int .i64 an.va)).setCell ⟨C5,5,none⟩ (.slice nA an.ks.length ncap))):=((((((hC6.set_new HGE6.out).set_new HGE6.out).set_new HGE6.out).set_new HGE6.out).set_new HGE6.out).set_new HGE6.out)
      have cbe:Hid (Blk ((((((C6.setCell ⟨C5,0,none⟩ (.int .i64 an.op)).setCell ⟨C5,1,none⟩ (.int .i64 an.ct)).setCell ⟨C5,2,none⟩ (.int .i64 an.n)).setCell ⟨C5,3,none⟩ (.int .i64 an.m)).setCell ⟨C5,4,none⟩ (.int .i64 an.va)).setCell ⟨C5,5,none⟩ (.slice nA an.ks.length ncap)) (C5.heap.size) 28 #[an.op,an.ct,an.n,an.m,an.va,.slice nA an.ks.length ncap]):=((((((cx6.out.set_ 0 _).set_ 1 _).set_ 2 _).set_ 3 _).set_ 4 _).set_ 5 _)
      have hgF:∀ b∈F5,b≠C5.heap.size:=fun b hb e=>Nat.lt_irrefl _ (by have h1:=(HU5.out b hb).1;rw [e] at h1;exact h1)
      have hkp:Kept F5 C6 ((((((C6.setCell ⟨C5,0,none⟩ (.int .i64 an.op)).setCell ⟨C5,1,none⟩ (.int .i64 an.ct)).setCell ⟨C5,2,none⟩ (.int .i64 an.n)).setCell ⟨C5,3,none⟩ (.int .i64 an.m)).setCell ⟨C5,4,none⟩ (.int .i64 an.va)).setCell ⟨C5,5,none⟩ (.slice nA an.ks.length ncap)):=fun b hb=>by rw [zz7 _ _ _ _ (hgF b hb),zz7 _ _ _ _ (hgF b hb),zz7 _ _ _ _ (hgF b hb),zz7 _ _ _ _ (hgF b hb),zz7 _ _ _ _ (hgF b hb),zz7 _ _ _ _ (hgF b hb)]
      have hpe:=jj (PR.mono _ _ _ hkp cp7.out)
      have hse:Hid (∀ b∈F5,b<(((((((C6.setCell ⟨C5,0,none⟩ (.int .i64 an.op)).setCell ⟨C5,1,none⟩ (.int .i64 an.ct)).setCell ⟨C5,2,none⟩ (.int .i64 an.n)).setCell ⟨C5,3,none⟩ (.int .i64 an.m)).setCell ⟨C5,4,none⟩ (.int .i64 an.va)).setCell ⟨C5,5,none⟩ (.slice nA an.ks.length ncap))).heap.size∧b≠g∧W2.heap.size≤b):=fun b hb=>⟨by simpa [World.setCell] using (cu7.out b hb).1,(cu7.out b hb).2⟩
      have hre:=jj (HRb7.out.keep (w':=((((((C6.setCell ⟨C5,0,none⟩ (.int .i64 an.op)).setCell ⟨C5,1,none⟩ (.int .i64 an.ct)).setCell ⟨C5,2,none⟩ (.int .i64 an.n)).setCell ⟨C5,3,none⟩ (.int .i64 an.m)).setCell ⟨C5,4,none⟩ (.int .i64 an.va)).setCell ⟨C5,5,none⟩ (.slice nA an.ks.length ncap))) (fun b hb=>by rw [zz7 _ _ _ _ (by show b≠C5.heap.size;have:=HGE6.out;omega),zz7 _ _ _ _ (by show b≠C5.heap.size;have:=HGE6.out;omega),zz7 _ _ _ _ (by show b≠C5.heap.size;have:=HGE6.out;omega),zz7 _ _ _ _ (by show b≠C5.heap.size;have:=HGE6.out;omega),zz7 _ _ _ _ (by show b≠C5.heap.size;have:=HGE6.out;omega),zz7 _ _ _ _ (by show b≠C5.heap.size;have:=HGE6.out;omega)]))
      have hge:Hid (C5.heap.size∉F5):=fun h=>hgF _ h rfl
      clear hkp hgF
      refine w1 13 rfl fun K hK=>?_
      go_simp
      refine hK.out _ _ (HS.out _ hCe.out) (fun _=>trivial) ?_
      clear hK K
      (try simp only [zz])
      refine w1 14 rfl fun K hK=>?_
      go_simp
      refine hK.out _ _ (HS.out _ hCe.out) (fun _=>trivial) ?_
      clear hK K
      (try simp only [zz])
      refine wE (by kernel_rfl) ?_
      clear yy0 ff0 yy1 ff1 yy2 ff2 yy3 ff3 yy4 ff4 yy5 ff5 yylt
      go_wp2
      go_meet
      case rel=>exact ⟨_,an,_,_,qn,rfl,hCe,cbe,HGE6,hge,hpe,hse,HNN5,hre,HQN5⟩
     ·skip
      have DBX8:Hid (∀ b∈F4,b≠C4.heap.size):=fun b hb e=>Nat.lt_irrefl _ (by have h1:=(HU4.out b hb).1;rw [e] at h1;exact h1)
      go_simp
      obtain ⟨C9,hX⟩:∃ X,X=C4.alloc (.cells #[(0:Int),(0:Int),(0:Int),(0:Int),(0:Int),.slice none 0 0] 28):=⟨_,rfl⟩
      have hb9:Below C4 C4 C9:=by rw [hX];exact (zy2 _ _).alloc (zz8 _) _
      have cx9:Hid (Blk C9 C4 28 #[(0:Int),(0:Int),(0:Int),(0:Int),(0:Int),.slice none 0 0]):=by rw [hX];exact Blk.new _ _ _
      rw [←hX]
      clear hX
      have hC9:Chg [g] W2 C9:=hC4.step hb9
      have HGE9:Hid (W2.heap.size≤C4.heap.size):=hC4.size
      have HRb10:=jj (HR4.out.below hb9)
      have HDb10:=jj (PR.below HP4.out hb9 (fun b hb=>(HU4.out b hb).1))
      have HUb10:Hid (∀ b∈F4,b<C9.heap.size∧b≠g∧W2.heap.size≤b):=fun b hb=>⟨zz9 (HU4.out b hb).1 hb9.size,(HU4.out b hb).2⟩
      (try dsimp only)
      refine hK.out _ _ (HS.out _ hC9) (fun _=>trivial) ?_
      clear hK K
      (try simp only [zz])
      refine w1 8 rfl fun K hK=>?_
      go_simp
      go_at_call 90
      refine (spec_l3Name ad C9 qd g 0 _ F4 HRb10.out (by have h1:=HN4.out;have h2:=HQ4.out;omega) (by omega) (by have h1:=HN4.out;omega) HDb10.out (fun b hb=>(HUb10.out b hb).1) (fun b hb=>(HUb10.out b hb).2.1)).mono ?_
      rintro e C11 ⟨an,cs11,F11,qn,mn,rfl,hp11,hf11,hn11,hr11,hqq11,hq11,-,-⟩
      have hC11:Chg [g] W2 C11:=hC9.trans hq11
      have cb11:Hid (Blk C11 C4 28 #[(0:Int),(0:Int),(0:Int),(0:Int),(0:Int),.slice none 0 0]):=cx9.out.same (hq11.block _ cx9.out.lt (by rw [zy1];have:=HGE9.out;omega))
      obtain ⟨kvn11,rfl,han11⟩:=(zA4 _ _ _).1 hp11
      obtain ⟨nA,ncap,rfl,-,-⟩:=han11.form
      have HP11:=jj hp11
      have HR11:=jj hr11
      have HNN11:Hid (nodesP an≤512):=by have h1:=HN4.out;unfold Hid;omega
      have HQN11:Hid (qn≤p+2000):=by have h1:=HN4.out;have h2:=HQ4.out;unfold Hid;omega
      have HU11:Hid (∀ b∈F11,b<C11.heap.size∧b≠g∧W2.heap.size≤b):=fun b hb=>by
       obtain ⟨h1,h2⟩:=hf11 b hb
       rcases h2 with h2 | h2
       ·exact ⟨h1,(HUb10.out b h2).2⟩
       ·have h3:=hC9.size
        exact ⟨h1,by omega,by omega⟩
      have NBX11:∀ b∈F11,b≠C4.heap.size:=fun b hb e=>by
       rcases (hf11 b hb).2 with h2 | h2
       ·exact DBX8.out b h2 e
       ·exact Nat.lt_irrefl _ (zz9 cx9.out.lt (by rw [←e];exact h2))
      clear hp11 hr11 hn11 hqq11 hf11 han11
      (try dsimp only)
      refine hK.out _ _ (HS.out _ hC11) (fun _=>trivial) ?_
      clear hK K
      (try simp only [zz])
      have hSx11:=HS.out _ hC11
      refine wV 9 rfl hSx11 hT0 ?_
      (try simp only [zz])
      refine wV 10 rfl hSx11 hT0 ?_
      (try simp only [zz])
      refine wV 11 rfl hSx11 hT0 ?_
      (try simp only [zz])
      obtain ⟨yy0,yy1,yy2,yy3,yy4,yy5,yylt,ff0,ff1,ff2,ff3,ff4,ff5⟩:=cb11.out.q6
      have hCe:Hid (Chg [g] W2 ((((((C11.setCell ⟨C4,0,none⟩ (.int .i64 an.op)).setCell ⟨C4,1,none⟩ (.int .i64 an.ct)).setCell ⟨C4,2,none⟩ (.int .i64 an.n)).setCell ⟨C4,3,none⟩ (.int .i64 an.m)).setCell ⟨C4,4,none⟩ (.int .i64 an.va)).setCell ⟨C4,5,none⟩ (.slice nA an.ks.length ncap))):=((((((hC11.set_new HGE9.out).set_new HGE9.out).set_new HGE9.out).set_new HGE9.out).set_new HGE9.out).set_new HGE9.out)
      have cbe:Hid (Blk ((((((C11.setCell ⟨C4,0,none⟩ (.int .i64 an.op)).setCell ⟨C4,1,none⟩ (.int .i64 an.ct)).setCell ⟨C4,2,none⟩ (.int .i64 an.n)).setCell ⟨C4,3,none⟩ (.int .i64 an.m)).setCell ⟨C4,4,none⟩ (.int .i64 an.va)).setCell ⟨C4,5,none⟩ (.slice nA an.ks.length ncap)) (C4.heap.size) 28 #[an.op,an.ct,an.n,an.m,an.va,.slice nA an.ks.length ncap]):=((((((cb11.out.set_ 0 _).set_ 1 _).set_ 2 _).set_ 3 _).set_ 4 _).set_ 5 _)
      have hgF:∀ b∈F11,b≠C4.heap.size:=NBX11
      have hkp:Kept F11 C11 ((((((C11.setCell ⟨C4,0,none⟩ (.int .i64 an.op)).setCell ⟨C4,1,none⟩ (.int .i64 an.ct)).setCell ⟨C4,2,none⟩ (.int .i64 an.n)).setCell ⟨C4,3,none⟩ (.int .i64 an.m)).setCell ⟨C4,4,none⟩ (.int .i64 an.va)).setCell ⟨C4,5,none⟩ (.slice nA an.ks.length ncap)):=fun b hb=>by rw [zz7 _ _ _ _ (hgF b hb),zz7 _ _ _ _ (hgF b hb),zz7 _ _ _ _ (hgF b hb),zz7 _ _ _ _ (hgF b hb),zz7 _ _ _ _ (hgF b hb),zz7 _ _ _ _ (hgF b hb)]
      have hpe:=jj (PR.mono _ _ _ hkp HP11.out)
      have hse:Hid (∀ b∈F11,b<(((((((C11.setCell ⟨C4,0,none⟩ (.int .i64 an.op)).setCell ⟨C4,1,none⟩ (.int .i64 an.ct)).setCell ⟨C4,2,none⟩ (.int .i64 an.n)).setCell ⟨C4,3,none⟩ (.int .i64 an.m)).setCell ⟨C4,4,none⟩ (.int .i64 an.va)).setCell ⟨C4,5,none⟩ (.slice nA an.ks.length ncap))).heap.size∧b≠g∧W2.heap.size≤b):=fun b hb=>⟨by simpa [World.setCell] using (HU11.out b hb).1,(HU11.out b hb).2⟩
      have hre:=jj (HR11.out.keep (w':=((((((C11.setCell ⟨C4,0,none⟩ (.int .i64 an.op)).setCell ⟨C4,1,none⟩ (.int .i64 an.ct)).setCell ⟨C4,2,none⟩ (.int .i64 an.n)).setCell ⟨C4,3,none⟩ (.int .i64 an.m)).setCell ⟨C4,4,none⟩ (.int .i64 an.va)).setCell ⟨C4,5,none⟩ (.slice nA an.ks.length ncap))) (fun b hb=>by rw [zz7 _ _ _ _ (by show b≠C4.heap.size;have:=HGE9.out;omega),zz7 _ _ _ _ (by show b≠C4.heap.size;have:=HGE9.out;omega),zz7 _ _ _ _ (by show b≠C4.heap.size;have:=HGE9.out;omega),zz7 _ _ _ _ (by show b≠C4.heap.size;have:=HGE9.out;omega),zz7 _ _ _ _ (by show b≠C4.heap.size;have:=HGE9.out;omega),zz7 _ _ _ _ (by show b≠C4.heap.size;have:=HGE9.out;omega)]))
      have hge:Hid (C4.heap.size∉F11):=fun h=>hgF _ h rfl
      clear hkp hgF
      refine w1 13 rfl fun K hK=>?_
      go_simp
      refine hK.out _ _ (HS.out _ hCe.out) (fun _=>trivial) ?_
      clear hK K
      (try simp only [zz])
      refine w1 14 rfl fun K hK=>?_
      go_simp
      refine hK.out _ _ (HS.out _ hCe.out) (fun _=>trivial) ?_
      clear hK K
      (try simp only [zz])
      refine wE (by kernel_rfl) ?_
      clear yy0 ff0 yy1 ff1 yy2 ff2 yy3 ff3 yy4 ff4 yy5 ff5 yylt
      go_wp2
      go_meet
      case rel=>exact ⟨_,an,_,_,qn,rfl,hCe,cbe,HGE9,hge,hpe,hse,HNN11,hre,HQN11⟩
    ·skip
     go_simp
     obtain ⟨C12,hX⟩:∃ X,X=C3.alloc (.cells #[(0:Int),(0:Int),(0:Int),(0:Int),(0:Int),.slice none 0 0] 28):=⟨_,rfl⟩
     have hb12:Below C3 C3 C12:=by rw [hX];exact (zy2 _ _).alloc (zz8 _) _
     have cx12:Hid (Blk C12 C3 28 #[(0:Int),(0:Int),(0:Int),(0:Int),(0:Int),.slice none 0 0]):=by rw [hX];exact Blk.new _ _ _
     rw [←hX]
     clear hX
     have hC12:Chg [g] W2 C12:=hC3.step hb12
     have HGE12:Hid (W2.heap.size≤C3.heap.size):=hC3.size
     have HRb13:=jj (HR3.out.below hb12)
     (try dsimp only)
     refine hK.out _ _ (HS.out _ hC12) (fun _=>trivial) ?_
     clear hK K
     (try simp only [zz])
     refine w1 7 rfl fun K hK=>?_
     go_simp
     go_at_call 91
     refine (spec_l3Draw 4 (by omega) xs HW.out t HT.out nd HND.out.1 HND.out.2 C12 (p+1) g _ F HRb13.out HPB.out (HXK.out _ hC12) (HUK.out _ hC12) HGF.out).mono ?_
     rintro e C14 ⟨ad,cs14,F14,qd,rfl,hp14,hf14,hn14,hr14,hqq14,hq14⟩
     have hC14:Chg [g] W2 C14:=hC12.trans hq14
     have cb14:Hid (Blk C14 C3 28 #[(0:Int),(0:Int),(0:Int),(0:Int),(0:Int),.slice none 0 0]):=cx12.out.same (hq14.block _ cx12.out.lt (by rw [zy1];have:=HGE12.out;omega))
     obtain ⟨kvd14,rfl,had14⟩:=(zA4 _ _ _).1 hp14
     obtain ⟨dA,dcap,rfl,-,-⟩:=had14.form
     have HP14:=jj hp14
     have HR14:=jj hr14
     have HN14:Hid (nodesP ad≤256):=by have h:=hn14;rw [pow44] at h;exact h
     have HQ14:Hid (qd≤p+1+1280):=by have h:=hqq14;rw [pow44] at h;exact h
     have HU14:Hid (∀ b∈F14,b<C14.heap.size∧b≠g∧W2.heap.size≤b):=fun b hb=>⟨(hf14 b hb).1,(hf14 b hb).2.1,Nat.le_trans hC12.size (hf14 b hb).2.2⟩
     have DBX14:Hid (∀ b∈F14,b≠C3.heap.size):=fun b hb e=>Nat.lt_irrefl _ (zz9 cx12.out.lt (by rw [←e];exact (hf14 b hb).2.2))
     clear hp14 hr14 hn14 hqq14 hf14 had14
     (try dsimp only)
     refine hK.out _ _ (HS.out _ hC14) (fun _=>trivial) ?_
     clear hK K
     (try simp only [zz])
     refine w1 8 rfl fun K hK=>?_
     go_simp
     go_at_call 90
     refine (spec_l3Name ad C14 qd g 0 _ F14 HR14.out (by have h1:=HN14.out;have h2:=HQ14.out;omega) (by omega) (by have h1:=HN14.out;omega) HP14.out (fun b hb=>(HU14.out b hb).1) (fun b hb=>(HU14.out b hb).2.1)).mono ?_
     rintro e C15 ⟨an,cs15,F15,qn,mn,rfl,hp15,hf15,hn15,hr15,hqq15,hq15,-,-⟩
     have hC15:Chg [g] W2 C15:=hC14.trans hq15
     have cb15:Hid (Blk C15 C3 28 #[(0:Int),(0:Int),(0:Int),(0:Int),(0:Int),.slice none 0 0]):=cb14.out.same (hq15.block _ cb14.out.lt (by rw [zy1];have:=HGE12.out;omega))
     obtain ⟨kvn15,rfl,han15⟩:=(zA4 _ _ _).1 hp15
     obtain ⟨nA,ncap,rfl,-,-⟩:=han15.form
     have HP15:=jj hp15
     have HR15:=jj hr15
     have HNN15:Hid (nodesP an≤512):=by have h1:=HN14.out;unfold Hid;omega
     have HQN15:Hid (qn≤p+2000):=by have h1:=HN14.out;have h2:=HQ14.out;unfold Hid;omega
     have HU15:Hid (∀ b∈F15,b<C15.heap.size∧b≠g∧W2.heap.size≤b):=fun b hb=>by
      obtain ⟨h1,h2⟩:=hf15 b hb
      rcases h2 with h2 | h2
      ·exact ⟨h1,(HU14.out b h2).2⟩
      ·have h3:=hC14.size
       exact ⟨h1,by omega,by omega⟩
     have NBX15:∀ b∈F15,b≠C3.heap.size:=fun b hb e=>by
      rcases (hf15 b hb).2 with h2 | h2
      ·exact DBX14.out b h2 e
      ·exact Nat.lt_irrefl _ (zz9 cb14.out.lt (by rw [←e];exact h2))
     clear hp15 hr15 hn15 hqq15 hf15 han15
     (try dsimp only)
     refine hK.out _ _ (HS.out _ hC15) (fun _=>trivial) ?_
     clear hK K
     (try simp only [zz])
     have hSx15:=HS.out _ hC15
     refine wV 9 rfl hSx15 hT0 ?_
     (try simp only [zz])
     refine wV 10 rfl hSx15 hT0 ?_
     (try simp only [zz])
     refine wV 11 rfl hSx15 hT0 ?_
     (try simp only [zz])
     obtain ⟨yy0,yy1,yy2,yy3,yy4,yy5,yylt,ff0,ff1,ff2,ff3,ff4,ff5⟩:=cb15.out.q6
     have hCe:Hid (Chg [g] W2 ((((((C15.setCell ⟨C3,0,none⟩ (.int .i64 an.op)).setCell ⟨C3,1,none⟩ (.int .i64 an.ct)).setCell ⟨C3,2,none⟩ (.int .i64 an.n)).setCell ⟨C3,3,none⟩ (.int .i64 an.m)).setCell ⟨C3,4,none⟩ (.int .i64 an.va)).setCell ⟨C3,5,none⟩ (.slice nA an.ks.length ncap))):=((((((hC15.set_new HGE12.out).set_new HGE12.out).set_new HGE12.out).set_new HGE12.out).set_new HGE12.out).set_new HGE12.out)
     have cbe:Hid (Blk ((((((C15.setCell ⟨C3,0,none⟩ (.int .i64 an.op)).setCell ⟨C3,1,none⟩ (.int .i64 an.ct)).setCell ⟨C3,2,none⟩ (.int .i64 an.n)).setCell ⟨C3,3,none⟩ (.int .i64 an.m)).setCell ⟨C3,4,none⟩ (.int .i64 an.va)).setCell ⟨C3,5,none⟩ (.slice nA an.ks.length ncap)) (C3.heap.size) 28 #[an.op,an.ct,an.n,an.m,an.va,.slice nA an.ks.length ncap]):=((((((cb15.out.set_ 0 _).set_ 1 _).set_ 2 _).set_ 3 _).set_ 4 _).set_ 5 _)
     have hgF:∀ b∈F15,b≠C3.heap.size:=NBX15
     have hkp:Kept F15 C15 ((((((C15.setCell ⟨C3,0,none⟩ (.int .i64 an.op)).setCell ⟨C3,1,none⟩ (.int .i64 an.ct)).setCell ⟨C3,2,none⟩ (.int .i64 an.n)).setCell ⟨C3,3,none⟩ (.int .i64 an.m)).setCell ⟨C3,4,none⟩ (.int .i64 an.va)).setCell ⟨C3,5,none⟩ (.slice nA an.ks.length ncap)):=fun b hb=>by rw [zz7 _ _ _ _ (hgF b hb),zz7 _ _ _ _ (hgF b hb),zz7 _ _ _ _ (hgF b hb),zz7 _ _ _ _ (hgF b hb),zz7 _ _ _ _ (hgF b hb),zz7 _ _ _ _ (hgF b hb)]
     have hpe:=jj (PR.mono _ _ _ hkp HP15.out)
     have hse:Hid (∀ b∈F15,b<(((((((C15.setCell ⟨C3,0,none⟩ (.int .i64 an.op)).setCell ⟨C3,1,none⟩ (.int .i64 an.ct)).setCell ⟨C3,2,none⟩ (.int .i64 an.n)).setCell ⟨C3,3,none⟩ (.int .i64 an.m)).setCell ⟨C3,4,none⟩ (.int .i64 an.va)).setCell ⟨C3,5,none⟩ (.slice nA an.ks.length ncap))).heap.size∧b≠g∧W2.heap.size≤b):=fun b hb=>⟨by simpa [World.setCell] using (HU15.out b hb).1,(HU15.out b hb).2⟩
     have hre:=jj (HR15.out.keep (w':=((((((C15.setCell ⟨C3,0,none⟩ (.int .i64 an.op)).setCell ⟨C3,1,none⟩ (.int .i64 an.ct)).setCell ⟨C3,2,none⟩ (.int .i64 an.n)).setCell ⟨C3,3,none⟩ (.int .i64 an.m)).setCell ⟨C3,4,none⟩ (.int .i64 an.va)).setCell ⟨C3,5,none⟩ (.slice nA an.ks.length ncap))) (fun b hb=>by rw [zz7 _ _ _ _ (by show b≠C3.heap.size;have:=HGE12.out;omega),zz7 _ _ _ _ (by show b≠C3.heap.size;have:=HGE12.out;omega),zz7 _ _ _ _ (by show b≠C3.heap.size;have:=HGE12.out;omega),zz7 _ _ _ _ (by show b≠C3.heap.size;have:=HGE12.out;omega),zz7 _ _ _ _ (by show b≠C3.heap.size;have:=HGE12.out;omega),zz7 _ _ _ _ (by show b≠C3.heap.size;have:=HGE12.out;omega)]))
     have hge:Hid (C3.heap.size∉F15):=fun h=>hgF _ h rfl
     clear hkp hgF
     refine w1 13 rfl fun K hK=>?_
     go_simp
     refine hK.out _ _ (HS.out _ hCe.out) (fun _=>trivial) ?_
     clear hK K
     (try simp only [zz])
     refine w1 14 rfl fun K hK=>?_
     go_simp
     refine hK.out _ _ (HS.out _ hCe.out) (fun _=>trivial) ?_
     clear hK K
     (try simp only [zz])
     refine wE (by kernel_rfl) ?_
     clear yy0 ff0 yy1 ff1 yy2 ff2 yy3 ff3 yy4 ff4 yy5 ff5 yylt
     go_wp2
     go_meet
     case rel=>exact ⟨_,an,_,_,qn,rfl,hCe,cbe,HGE12,hge,hpe,hse,HNN15,hre,HQN15⟩
   ·skip
    go_simp
    obtain ⟨C16,hX⟩:∃ X,X=C1.alloc (.cells #[(0:Int),(0:Int),(0:Int),(0:Int),(0:Int),.slice none 0 0] 28):=⟨_,rfl⟩
    have hb16:Below C1 C1 C16:=by rw [hX];exact (zy2 _ _).alloc (zz8 _) _
    have cx16:Hid (Blk C16 C1 28 #[(0:Int),(0:Int),(0:Int),(0:Int),(0:Int),.slice none 0 0]):=by rw [hX];exact Blk.new _ _ _
    rw [←hX]
    clear hX
    have hC16:Chg [g] W2 C16:=hC1.step hb16
    have HGE16:Hid (W2.heap.size≤C1.heap.size):=hC1.size
    have HRb17:=jj (HRb2.out.below hb16)
    have HLb17:=jj (HL1.out.chg (F:=[]) (.of_below hb16) (by simp))
    (try dsimp only)
    refine hK.out _ _ (HS.out _ hC16) (fun _=>trivial) ?_
    clear hK K
    (try simp only [zz])
    refine w1 6 rfl fun K hK=>?_
    go_simp
    go_at_call 35
    refine (num_any [3,2,4,1] (by decide) (by decide) p g C16 HRb17.out (by omega) _ _ HLb17.out.2 (fun x hx=>by rw [List.mem_singleton.1 hx];exact HLb17.out.1) (fun e=>HLG1.out (List.mem_singleton.1 e).symm)).mono ?_
    rintro e C18 ⟨nd,hnd,rfl,hr18,hq18⟩
    have hC18:Chg [g] W2 C18:=hC16.trans hq18
    have cb18:Hid (Blk C18 C1 28 #[(0:Int),(0:Int),(0:Int),(0:Int),(0:Int),.slice none 0 0]):=cx16.out.same (hq18.block _ cx16.out.lt (by rw [zy1];have:=HGE16.out;omega))
    have HR18:=jj hr18
    have HND:Hid (nd≤((4:Nat):Int)∧((4:Nat):Int)-30≤nd):=by simp at hnd;unfold Hid;omega
    clear hr18 hnd
    (try dsimp only)
    refine hK.out _ _ (HS.out _ hC18) (fun _=>trivial) ?_
    clear hK K
    (try simp only [zz])
    refine w1 7 rfl fun K hK=>?_
    go_simp
    go_at_call 91
    refine (spec_l3Draw 4 (by omega) xs HW.out t HT.out nd HND.out.1 HND.out.2 C18 (p+1) g _ F HR18.out HPB.out (HXK.out _ hC18) (HUK.out _ hC18) HGF.out).mono ?_
    rintro e C19 ⟨ad,cs19,F19,qd,rfl,hp19,hf19,hn19,hr19,hqq19,hq19⟩
    have hC19:Chg [g] W2 C19:=hC18.trans hq19
    have cb19:Hid (Blk C19 C1 28 #[(0:Int),(0:Int),(0:Int),(0:Int),(0:Int),.slice none 0 0]):=cb18.out.same (hq19.block _ cb18.out.lt (by rw [zy1];have:=HGE16.out;omega))
    obtain ⟨kvd19,rfl,had19⟩:=(zA4 _ _ _).1 hp19
    obtain ⟨dA,dcap,rfl,-,-⟩:=had19.form
    have HP19:=jj hp19
    have HR19:=jj hr19
    have HN19:Hid (nodesP ad≤256):=by have h:=hn19;rw [pow44] at h;exact h
    have HQ19:Hid (qd≤p+1+1280):=by have h:=hqq19;rw [pow44] at h;exact h
    have HU19:Hid (∀ b∈F19,b<C19.heap.size∧b≠g∧W2.heap.size≤b):=fun b hb=>⟨(hf19 b hb).1,(hf19 b hb).2.1,Nat.le_trans hC18.size (hf19 b hb).2.2⟩
    have DBX19:Hid (∀ b∈F19,b≠C1.heap.size):=fun b hb e=>Nat.lt_irrefl _ (zz9 cb18.out.lt (by rw [←e];exact (hf19 b hb).2.2))
    clear hp19 hr19 hn19 hqq19 hf19 had19
    (try dsimp only)
    refine hK.out _ _ (HS.out _ hC19) (fun _=>trivial) ?_
    clear hK K
    (try simp only [zz])
    refine w1 8 rfl fun K hK=>?_
    go_simp
    go_at_call 90
    refine (spec_l3Name ad C19 qd g 0 _ F19 HR19.out (by have h1:=HN19.out;have h2:=HQ19.out;omega) (by omega) (by have h1:=HN19.out;omega) HP19.out (fun b hb=>(HU19.out b hb).1) (fun b hb=>(HU19.out b hb).2.1)).mono ?_
    rintro e C20 ⟨an,cs20,F20,qn,mn,rfl,hp20,hf20,hn20,hr20,hqq20,hq20,-,-⟩
    have hC20:Chg [g] W2 C20:=hC19.trans hq20
    have cb20:Hid (Blk C20 C1 28 #[(0:Int),(0:Int),(0:Int),(0:Int),(0:Int),.slice none 0 0]):=cb19.out.same (hq20.block _ cb19.out.lt (by rw [zy1];have:=HGE16.out;omega))
    obtain ⟨kvn20,rfl,han20⟩:=(zA4 _ _ _).1 hp20
    obtain ⟨nA,ncap,rfl,-,-⟩:=han20.form
    have HP20:=jj hp20
    have HR20:=jj hr20
    have HNN20:Hid (nodesP an≤512):=by have h1:=HN19.out;unfold Hid;omega
    have HQN20:Hid (qn≤p+2000):=by have h1:=HN19.out;have h2:=HQ19.out;unfold Hid;omega
    have HU20:Hid (∀ b∈F20,b<C20.heap.size∧b≠g∧W2.heap.size≤b):=fun b hb=>by
     obtain ⟨h1,h2⟩:=hf20 b hb
     rcases h2 with h2 | h2
     ·exact ⟨h1,(HU19.out b h2).2⟩
     ·have h3:=hC19.size
      exact ⟨h1,by omega,by omega⟩
    have NBX20:∀ b∈F20,b≠C1.heap.size:=fun b hb e=>by
     rcases (hf20 b hb).2 with h2 | h2
     ·exact DBX19.out b h2 e
     ·exact Nat.lt_irrefl _ (zz9 cb19.out.lt (by rw [←e];exact h2))
    clear hp20 hr20 hn20 hqq20 hf20 han20
    (try dsimp only)
    refine hK.out _ _ (HS.out _ hC20) (fun _=>trivial) ?_
    clear hK K
    (try simp only [zz])
    have hSx20:=HS.out _ hC20
    refine wV 9 rfl hSx20 hT0 ?_
    (try simp only [zz])
    refine wV 10 rfl hSx20 hT0 ?_
    (try simp only [zz])
    refine wV 11 rfl hSx20 hT0 ?_
    (try simp only [zz])
    obtain ⟨yy0,yy1,yy2,yy3,yy4,yy5,yylt,ff0,ff1,ff2,ff3,ff4,ff5⟩:=cb20.out.q6
    have hCe:Hid (Chg [g] W2 ((((((C20.setCell ⟨C1,0,none⟩ (.int .i64 an.op)).setCell ⟨C1,1,none⟩ (.int .i64 an.ct)).setCell ⟨C1,2,none⟩ (.int .i64 an.n)).setCell ⟨C1,3,none⟩ (.int .i64 an.m)).setCell ⟨C1,4,none⟩ (.int .i64 an.va)).setCell ⟨C1,5,none⟩ (.slice nA an.ks.length ncap))):=((((((hC20.set_new HGE16.out).set_new HGE16.out).set_new HGE16.out).set_new HGE16.out).set_new HGE16.out).set_new HGE16.out)
    have cbe:Hid (Blk ((((((C20.setCell ⟨C1,0,none⟩ (.int .i64 an.op)).setCell ⟨C1,1,none⟩ (.int .i64 an.ct)).setCell ⟨C1,2,none⟩ (.int .i64 an.n)).setCell ⟨C1,3,none⟩ (.int .i64 an.m)).setCell ⟨C1,4,none⟩ (.int .i64 an.va)).setCell ⟨C1,5,none⟩ (.slice nA an.ks.length ncap)) (C1.heap.size) 28 #[an.op,an.ct,an.n,an.m,an.va,.slice nA an.ks.length ncap]):=((((((cb20.out.set_ 0 _).set_ 1 _).set_ 2 _).set_ 3 _).set_ 4 _).set_ 5 _)
    have hgF:∀ b∈F20,b≠C1.heap.size:=NBX20
    have hkp:Kept F20 C20 ((((((C20.setCell ⟨C1,0,none⟩ (.int .i64 an.op)).setCell ⟨C1,1,none⟩ (.int .i64 an.ct)).setCell ⟨C1,2,none⟩ (.int .i64 an.n)).setCell ⟨C1,3,none⟩ (.int .i64 an.m)).setCell ⟨C1,4,none⟩ (.int .i64 an.va)).setCell ⟨C1,5,none⟩ (.slice nA an.ks.length ncap)):=fun b hb=>by rw [zz7 _ _ _ _ (hgF b hb),zz7 _ _ _ _ (hgF b hb),zz7 _ _ _ _ (hgF b hb),zz7 _ _ _ _ (hgF b hb),zz7 _ _ _ _ (hgF b hb),zz7 _ _ _ _ (hgF b hb)]
    have hpe:=jj (PR.mono _ _ _ hkp HP20.out)
    have hse:Hid (∀ b∈F20,b<(((((((C20.setCell ⟨C1,0,none⟩ (.int .i64 an.op)).setCell ⟨C1,1,none⟩ (.int .i64 an.ct)).setCell ⟨C1,2,none⟩ (.int .i64 an.n)).setCell ⟨C1,3,none⟩ (.int .i64 an.m)).setCell ⟨C1,4,none⟩ (.int .i64 an.va)).setCell ⟨C1,5,none⟩ (.slice nA an.ks.length ncap))).heap.size∧b≠g∧W2.heap.size≤b):=fun b hb=>⟨by simpa [World.setCell] using (HU20.out b hb).1,(HU20.out b hb).2⟩
    have hre:=jj (HR20.out.keep (w':=((((((C20.setCell ⟨C1,0,none⟩ (.int .i64 an.op)).setCell ⟨C1,1,none⟩ (.int .i64 an.ct)).setCell ⟨C1,2,none⟩ (.int .i64 an.n)).setCell ⟨C1,3,none⟩ (.int .i64 an.m)).setCell ⟨C1,4,none⟩ (.int .i64 an.va)).setCell ⟨C1,5,none⟩ (.slice nA an.ks.length ncap))) (fun b hb=>by rw [zz7 _ _ _ _ (by show b≠C1.heap.size;have:=HGE16.out;omega),zz7 _ _ _ _ (by show b≠C1.heap.size;have:=HGE16.out;omega),zz7 _ _ _ _ (by show b≠C1.heap.size;have:=HGE16.out;omega),zz7 _ _ _ _ (by show b≠C1.heap.size;have:=HGE16.out;omega),zz7 _ _ _ _ (by show b≠C1.heap.size;have:=HGE16.out;omega),zz7 _ _ _ _ (by show b≠C1.heap.size;have:=HGE16.out;omega)]))
    have hge:Hid (C1.heap.size∉F20):=fun h=>hgF _ h rfl
    clear hkp hgF
    refine w1 13 rfl fun K hK=>?_
    go_simp
    refine hK.out _ _ (HS.out _ hCe.out) (fun _=>trivial) ?_
    clear hK K
    (try simp only [zz])
    refine w1 14 rfl fun K hK=>?_
    go_simp
    refine hK.out _ _ (HS.out _ hCe.out) (fun _=>trivial) ?_
    clear hK K
    (try simp only [zz])
    refine wE (by kernel_rfl) ?_
    clear yy0 ff0 yy1 ff1 yy2 ff2 yy3 ff3 yy4 ff4 yy5 ff5 yylt
    go_wp2
    go_meet
    case rel=>exact ⟨_,an,_,_,qn,rfl,hCe,cbe,HGE16,hge,hpe,hse,HNN20,hre,HQN20⟩
  ·skip
   go_simp
   obtain ⟨C21,hX⟩:∃ X,X=wd.alloc (.cells #[(0:Int),(0:Int),(0:Int),(0:Int),(0:Int),.slice none 0 0] 28):=⟨_,rfl⟩
   have hb21:Below wd wd C21:=by rw [hX];exact (zy2 _ _).alloc (zz8 _) _
   have cx21:Hid (Blk C21 wd 28 #[(0:Int),(0:Int),(0:Int),(0:Int),(0:Int),.slice none 0 0]):=by rw [hX];exact Blk.new _ _ _
   rw [←hX]
   clear hX
   have hC21:Chg [g] W2 C21:=hC0.step hb21
   have HGE21:Hid (W2.heap.size≤wd.heap.size):=hC0.size
   have HRb22:=jj (HR0.out.below hb21)
   (try dsimp only)
   refine hK.out _ _ (HS.out _ hC21) (fun _=>trivial) ?_
   clear hK K
   (try simp only [zz])
   refine w1 5 rfl fun K hK=>?_
   go_simp
   obtain ⟨C23,hX⟩:∃ X,X=C21.alloc (.cells ([3,2,4,1].map (Value.int .i64)).toArray 3):=⟨_,rfl⟩
   have hX2:=hX
   simp only [List.map_cons,List.map_nil] at hX2
   have hb23:Below C21 C21 C23:=by rw [hX];exact (zy2 _ _).alloc (zz8 _) _
   have HL23:Hid (LitN C23 C21.heap.size [3,2,4,1]):=by rw [hX];exact LitN.new _ _ (by decide)
   first | rw [←hX] | rw [←hX2]
   clear hX hX2
   have hC23:Chg [g] W2 C23:=hC21.step hb23
   have HLG23:Hid (C21.heap.size≠g):=by have:=hC21.size;unfold Hid;omega
   have HRb24:=jj (HRb22.out.below hb23)
   have cb24:Hid (Blk C23 wd 28 #[(0:Int),(0:Int),(0:Int),(0:Int),(0:Int),.slice none 0 0]):=cx21.out.same (hb23.block _ cx21.out.lt)
   (try dsimp only)
   refine hK.out _ _ (HS.out _ hC23) (fun _=>trivial) ?_
   clear hK K
   (try simp only [zz])
   refine w1 6 rfl fun K hK=>?_
   go_simp
   go_at_call 35
   refine (num_any [3,2,4,1] (by decide) (by decide) p g C23 HRb24.out (by omega) _ _ HL23.out.2 (fun x hx=>by rw [List.mem_singleton.1 hx];exact HL23.out.1) (fun e=>HLG23.out (List.mem_singleton.1 e).symm)).mono ?_
   rintro e C25 ⟨nd,hnd,rfl,hr25,hq25⟩
   have hC25:Chg [g] W2 C25:=hC23.trans hq25
   have cb25:Hid (Blk C25 wd 28 #[(0:Int),(0:Int),(0:Int),(0:Int),(0:Int),.slice none 0 0]):=cb24.out.same (hq25.block _ cb24.out.lt (by rw [zy1];have:=HGE21.out;omega))
   have HR25:=jj hr25
   have HND:Hid (nd≤((4:Nat):Int)∧((4:Nat):Int)-30≤nd):=by simp at hnd;unfold Hid;omega
   clear hr25 hnd
   (try dsimp only)
   refine hK.out _ _ (HS.out _ hC25) (fun _=>trivial) ?_
   clear hK K
   (try simp only [zz])
   refine w1 7 rfl fun K hK=>?_
   go_simp
   go_at_call 91
   refine (spec_l3Draw 4 (by omega) xs HW.out t HT.out nd HND.out.1 HND.out.2 C25 (p+1) g _ F HR25.out HPB.out (HXK.out _ hC25) (HUK.out _ hC25) HGF.out).mono ?_
   rintro e C26 ⟨ad,cs26,F26,qd,rfl,hp26,hf26,hn26,hr26,hqq26,hq26⟩
   have hC26:Chg [g] W2 C26:=hC25.trans hq26
   have cb26:Hid (Blk C26 wd 28 #[(0:Int),(0:Int),(0:Int),(0:Int),(0:Int),.slice none 0 0]):=cb25.out.same (hq26.block _ cb25.out.lt (by rw [zy1];have:=HGE21.out;omega))
   obtain ⟨kvd26,rfl,had26⟩:=(zA4 _ _ _).1 hp26
   obtain ⟨dA,dcap,rfl,-,-⟩:=had26.form
   have HP26:=jj hp26
   have HR26:=jj hr26
   have HN26:Hid (nodesP ad≤256):=by have h:=hn26;rw [pow44] at h;exact h
   have HQ26:Hid (qd≤p+1+1280):=by have h:=hqq26;rw [pow44] at h;exact h
   have HU26:Hid (∀ b∈F26,b<C26.heap.size∧b≠g∧W2.heap.size≤b):=fun b hb=>⟨(hf26 b hb).1,(hf26 b hb).2.1,Nat.le_trans hC25.size (hf26 b hb).2.2⟩
   have DBX26:Hid (∀ b∈F26,b≠wd.heap.size):=fun b hb e=>Nat.lt_irrefl _ (zz9 cb25.out.lt (by rw [←e];exact (hf26 b hb).2.2))
   clear hp26 hr26 hn26 hqq26 hf26 had26
   (try dsimp only)
   refine hK.out _ _ (HS.out _ hC26) (fun _=>trivial) ?_
   clear hK K
   (try simp only [zz])
   refine w1 8 rfl fun K hK=>?_
   go_simp
   go_at_call 90
   refine (spec_l3Name ad C26 qd g 0 _ F26 HR26.out (by have h1:=HN26.out;have h2:=HQ26.out;omega) (by omega) (by have h1:=HN26.out;omega) HP26.out (fun b hb=>(HU26.out b hb).1) (fun b hb=>(HU26.out b hb).2.1)).mono ?_
   rintro e C27 ⟨an,cs27,F27,qn,mn,rfl,hp27,hf27,hn27,hr27,hqq27,hq27,-,-⟩
   have hC27:Chg [g] W2 C27:=hC26.trans hq27
   have cb27:Hid (Blk C27 wd 28 #[(0:Int),(0:Int),(0:Int),(0:Int),(0:Int),.slice none 0 0]):=cb26.out.same (hq27.block _ cb26.out.lt (by rw [zy1];have:=HGE21.out;omega))
   obtain ⟨kvn27,rfl,han27⟩:=(zA4 _ _ _).1 hp27
   obtain ⟨nA,ncap,rfl,-,-⟩:=han27.form
   have HP27:=jj hp27
   have HR27:=jj hr27
   have HNN27:Hid (nodesP an≤512):=by have h1:=HN26.out;unfold Hid;omega
   have HQN27:Hid (qn≤p+2000):=by have h1:=HN26.out;have h2:=HQ26.out;unfold Hid;omega
   have HU27:Hid (∀ b∈F27,b<C27.heap.size∧b≠g∧W2.heap.size≤b):=fun b hb=>by
    obtain ⟨h1,h2⟩:=hf27 b hb
    rcases h2 with h2 | h2
    ·exact ⟨h1,(HU26.out b h2).2⟩
    ·have h3:=hC26.size
     exact ⟨h1,by omega,by omega⟩
   have NBX27:∀ b∈F27,b≠wd.heap.size:=fun b hb e=>by
    rcases (hf27 b hb).2 with h2 | h2
    ·exact DBX26.out b h2 e
    ·exact Nat.lt_irrefl _ (zz9 cb26.out.lt (by rw [←e];exact h2))
   clear hp27 hr27 hn27 hqq27 hf27 han27
   (try dsimp only)
   refine hK.out _ _ (HS.out _ hC27) (fun _=>trivial) ?_
   clear hK K
   (try simp only [zz])
   have hSx27:=HS.out _ hC27
   refine wV 9 rfl hSx27 hT0 ?_
   (try simp only [zz])
   refine wV 10 rfl hSx27 hT0 ?_
   (try simp only [zz])
   refine wV 11 rfl hSx27 hT0 ?_
   (try simp only [zz])
   obtain ⟨yy0,yy1,yy2,yy3,yy4,yy5,yylt,ff0,ff1,ff2,ff3,ff4,ff5⟩:=cb27.out.q6
   have hCe:Hid (Chg [g] W2 ((((((C27.setCell ⟨wd,0,none⟩ (.int .i64 an.op)).setCell ⟨wd,1,none⟩ (.int .i64 an.ct)).setCell ⟨wd,2,none⟩ (.int .i64 an.n)).setCell ⟨wd,3,none⟩ (.int .i64 an.m)).setCell ⟨wd,4,none⟩ (.int .i64 an.va)).setCell ⟨wd,5,none⟩ (.slice nA an.ks.length ncap))):=((((((hC27.set_new HGE21.out).set_new HGE21.out).set_new HGE21.out).set_new HGE21.out).set_new HGE21.out).set_new HGE21.out)
   have cbe:Hid (Blk ((((((C27.setCell ⟨wd,0,none⟩ (.int .i64 an.op)).setCell ⟨wd,1,none⟩ (.int .i64 an.ct)).setCell ⟨wd,2,none⟩ (.int .i64 an.n)).setCell ⟨wd,3,none⟩ (.int .i64 an.m)).setCell ⟨wd,4,none⟩ (.int .i64 an.va)).setCell ⟨wd,5,none⟩ (.slice nA an.ks.length ncap)) (wd.heap.size) 28 #[an.op,an.ct,an.n,an.m,an.va,.slice nA an.ks.length ncap]):=((((((cb27.out.set_ 0 _).set_ 1 _).set_ 2 _).set_ 3 _).set_ 4 _).set_ 5 _)
   have hgF:∀ b∈F27,b≠wd.heap.size:=NBX27
   have hkp:Kept F27 C27 ((((((C27.setCell ⟨wd,0,none⟩ (.int .i64 an.op)).setCell ⟨wd,1,none⟩ (.int .i64 an.ct)).setCell ⟨wd,2,none⟩ (.int .i64 an.n)).setCell ⟨wd,3,none⟩ (.int .i64 an.m)).setCell ⟨wd,4,none⟩ (.int .i64 an.va)).setCell ⟨wd,5,none⟩ (.slice nA an.ks.length ncap)):=fun b hb=>by rw [zz7 _ _ _ _ (hgF b hb),zz7 _ _ _ _ (hgF b hb),zz7 _ _ _ _ (hgF b hb),zz7 _ _ _ _ (hgF b hb),zz7 _ _ _ _ (hgF b hb),zz7 _ _ _ _ (hgF b hb)]
   have hpe:=jj (PR.mono _ _ _ hkp HP27.out)
   have hse:Hid (∀ b∈F27,b<(((((((C27.setCell ⟨wd,0,none⟩ (.int .i64 an.op)).setCell ⟨wd,1,none⟩ (.int .i64 an.ct)).setCell ⟨wd,2,none⟩ (.int .i64 an.n)).setCell ⟨wd,3,none⟩ (.int .i64 an.m)).setCell ⟨wd,4,none⟩ (.int .i64 an.va)).setCell ⟨wd,5,none⟩ (.slice nA an.ks.length ncap))).heap.size∧b≠g∧W2.heap.size≤b):=fun b hb=>⟨by simpa [World.setCell] using (HU27.out b hb).1,(HU27.out b hb).2⟩
   have hre:=jj (HR27.out.keep (w':=((((((C27.setCell ⟨wd,0,none⟩ (.int .i64 an.op)).setCell ⟨wd,1,none⟩ (.int .i64 an.ct)).setCell ⟨wd,2,none⟩ (.int .i64 an.n)).setCell ⟨wd,3,none⟩ (.int .i64 an.m)).setCell ⟨wd,4,none⟩ (.int .i64 an.va)).setCell ⟨wd,5,none⟩ (.slice nA an.ks.length ncap))) (fun b hb=>by rw [zz7 _ _ _ _ (by show b≠wd.heap.size;have:=HGE21.out;omega),zz7 _ _ _ _ (by show b≠wd.heap.size;have:=HGE21.out;omega),zz7 _ _ _ _ (by show b≠wd.heap.size;have:=HGE21.out;omega),zz7 _ _ _ _ (by show b≠wd.heap.size;have:=HGE21.out;omega),zz7 _ _ _ _ (by show b≠wd.heap.size;have:=HGE21.out;omega),zz7 _ _ _ _ (by show b≠wd.heap.size;have:=HGE21.out;omega)]))
   have hge:Hid (wd.heap.size∉F27):=fun h=>hgF _ h rfl
   clear hkp hgF
   refine w1 13 rfl fun K hK=>?_
   go_simp
   refine hK.out _ _ (HS.out _ hCe.out) (fun _=>trivial) ?_
   clear hK K
   (try simp only [zz])
   refine w1 14 rfl fun K hK=>?_
   go_simp
   refine hK.out _ _ (HS.out _ hCe.out) (fun _=>trivial) ?_
   clear hK K
   (try simp only [zz])
   refine wE (by kernel_rfl) ?_
   clear yy0 ff0 yy1 ff1 yy2 ff2 yy3 ff3 yy4 ff4 yy5 ff5 yylt
   go_wp2
   go_meet
   case rel=>exact ⟨_,an,_,_,qn,rfl,hCe,cbe,HGE21,hge,hpe,hse,HNN27,hre,HQN27⟩
 case rest =>
  obtain ⟨gx,a,cs,Fp,q,rfl,HC,KX,HGX,HNX,HP,HU,HN,HRD,HQ⟩:=hcut
  obtain ⟨kva,rfl,haa⟩:=(zA4 _ _ _).1 HP.out
  obtain ⟨aA,acap,rfl,-,-⟩:=haa.form
  clear haa
  obtain ⟨w5,hw5⟩:∃ X,X=wc:=⟨_,rfl⟩
  rw [←hw5] at HC KX HP HU HRD ⊢
  clear hw5
  have KT5:Hid (Blk w5 w 25 #[t.d,t.i]):=KT.out.same (HC.out.block _ KT.out.lt (by rw [zy1];omega))
  have KR5:Hid (Blk w5 (w.heap.size+1) 28 #[(0:Int),(0:Int),(0:Int),(0:Int),(0:Int),.slice none 0 0]):=KR.out.same (HC.out.block _ KR.out.lt (by rw [zy1];omega))
  have hC5:Chg [g] w w5:=(Chg.of_below hB0).trans HC.out
  obtain ⟨y0,y1,ylt⟩:=KT5.out.c2
  obtain ⟨x0,x1,x2,x3,x4,x5,xlt⟩:=KX.out.c6
  have HSZ:Hid (a.size≤1048576):=by have:=HN.out;unfold nodesP at this;unfold Hid;omega
  go_wp2_with fail
  refine (spec_l3Is xs HW.out t HT.out a HSZ.out w5 _ F _ Fp (HXK.out _ HC.out) (HUK.out _ HC.out) HP.out (fun b hb=>(HU.out b hb).1)).mono ?_
  rintro e w6 ⟨rfl,hb6⟩
  have hC6:Chg [g] w w6:=hC5.step hb6
  have KR6:=jj (KR5.out.same (hb6.block _ KR5.out.lt))
  have KX6:=jj (KX.out.same (hb6.block _ KX.out.lt))
  have HP6:=jj (HP.out.below hb6 (fun b hb=>(HU.out b hb).1))
  have HR6:=jj (HRD.out.below hb6)
  have h56:=hb6.size
  clear y0 y1 ylt x0 x1 x2 x3 x4 x5 xlt hb6 HRD HP
  obtain ⟨rc0,rc1,rc2,rc3,rc4,rc5,rlt,rf0,rf1,rf2,rf3,rf4,rf5⟩:=KR6.out.q6
  cases hok:patOkB xs t a with
  |false =>
   clear hok
   go_wp2
   clear rc0 rf0 rc1 rf1 rc2 rf2 rc3 rf3 rc4 rf4 rc5 rf5 rlt
   refine bodyPost_ret (zA1 rfl _ _ (w.heap.size+1) 28 #[(1:Int),(0:Int),(0:Int),(0:Int),(0:Int),.slice none 0 0] (0,0) _ rfl (KR6.out.six _ _ _ _ _ _) Try.underlying28 rfl rfl) rfl ?_
   exact ⟨⟨1,0,0,0,0,[]⟩,[(1:Int),(0:Int),(0:Int),(0:Int),(0:Int),.slice none 0 0],[],q,rfl,(zA4 _ _ _).2 ⟨_,rfl,Arr.nil⟩,(fun b hb=>by cases hb),by simp [nodesP,P.size,P.sizes],any_ok xs t,zB2 HR6.out (by omega) _ _ _ _ _ _,HQ.out,zAL hC6 (by omega) _ _ _ _ _ _⟩
  |true =>
   have HOK:=jj hok
   clear hok
   obtain ⟨x0,x1,x2,x3,x4,x5,xlt⟩:=KX6.out.c6
   go_wp2
   clear x0 x1 x2 x3 x4 x5 xlt
   clear rc0 rf0 rc1 rf1 rc2 rf2 rc3 rf3 rc4 rf4 rc5 rf5 rlt
   refine bodyPost_ret (zA1 rfl _ _ (w.heap.size+1) 28 #[a.op,a.ct,a.n,a.m,a.va,.slice aA a.ks.length acap] (0,0) _ rfl (KR6.out.six _ _ _ _ _ _) Try.underlying28 rfl rfl) rfl ?_
   have hkp:Kept Fp w6 ((((((w6.setCell ⟨w.heap.size+1,0,none⟩ (.int .i64 a.op)).setCell ⟨w.heap.size+1,1,none⟩ (.int .i64 a.ct)).setCell ⟨w.heap.size+1,2,none⟩ (.int .i64 a.n)).setCell ⟨w.heap.size+1,3,none⟩ (.int .i64 a.m)).setCell ⟨w.heap.size+1,4,none⟩ (.int .i64 a.va)).setCell ⟨w.heap.size+1,5,none⟩ (.slice aA a.ks.length acap)):=zAM (fun b hb=>by have:=(HU.out b hb).2.2;omega) _ _ _ _ _ _
   refine ⟨a,[a.op,a.ct,a.n,a.m,a.va,.slice aA a.ks.length acap],Fp,q,rfl,PR.mono _ _ _ hkp HP6.out,(fun b hb=>?_),HN.out,HOK.out,zB2 HR6.out (by omega) _ _ _ _ _ _,HQ.out,zAL hC6 (by omega) _ _ _ _ _ _⟩
   rw [zAN]
   exact ⟨zz9 (HU.out b hb).1 h56,(HU.out b hb).2.1,by have:=(HU.out b hb).2.2;omega⟩
@[ext] structure Gd where
 op:Int
 va:Int
 n:Int
def Gd.size (x:Gd):Nat:=0
def Gd.sizes (l:List Gd):Nat:=l.length+sumBy Gd.size l
def GdR (w:World) (x:Gd) (cs:List Value) (F:List Nat):Prop:=cs=[.int .i64 x.op] ++ [.int .i64 x.va] ++ [.int .i64 x.n]∧F=[]
@[ext] structure Cl where
 pat:P
 gd:Gd
def Cl.size (x:Cl):Nat:=x.pat.size
def Cl.sizes (l:List Cl):Nat:=l.length+sumBy Cl.size l
def ClR (w:World) (x:Cl) (cs:List Value) (F:List Nat):Prop:=∃ ds:List Value,cs=ds ++ [.int .i64 x.gd.op,.int .i64 x.gd.va,.int .i64 x.gd.n]∧PR w x.pat ds F
theorem zAV {w:World} {x:Cl} {cs:List Value} {F:List Nat} (h:ClR w x cs F):∃ A cap,cs=[.int .i64 x.pat.op,.int .i64 x.pat.ct,.int .i64 x.pat.n,.int .i64 x.pat.m,.int .i64 x.pat.va,.slice A x.pat.ks.length cap,.int .i64 x.gd.op,.int .i64 x.gd.va,.int .i64 x.gd.n]:=by
 obtain ⟨ds,rfl,ha⟩:=h
 obtain ⟨kv,rfl,ha2⟩:=(zA4 _ _ _).1 ha
 obtain ⟨A,cap,rfl,-,-⟩:=ha2.form
 exact ⟨A,cap,rfl⟩
theorem ClR_len {w:World} (x:Cl) (cs:List Value) (F:List Nat) (h:ClR w x cs F):cs.length=9:=by
 obtain ⟨A,cap,rfl⟩:=zAV h
 rfl
theorem ClR.mono {w w':World} (x:Cl) (cs:List Value) (F:List Nat) (hF:Kept F w w') (h:ClR w x cs F):ClR w' x cs F:=by
 obtain ⟨ds,e,ha⟩:=h
 exact ⟨_,e,PR.mono _ _ _ hF ha⟩
theorem ClR.below {w w':World} {B:Nat} {v:Cl} {cs:List Value} {F:List Nat} (h:ClR w v cs F) (hb:Below B w w') (hF:Under B F):ClR w' v cs F:=ClR.mono v cs F (.of_below hb hF) h
theorem ArrCl.mono {w w':World} {vs:List Cl} {x:Value} {F:List Nat} (h:Arr w (ClR w) vs x F) (hF:Kept F w w'):Arr w' (ClR w') vs x F:=h.mono hF fun v _=>ClR.mono v
theorem ArrCl.below {w w':World} {B:Nat} {vs:List Cl} {x:Value} {F:List Nat} (h:Arr w (ClR w) vs x F) (hb:Below B w w') (hF:Under B F):Arr w' (ClR w') vs x F:=ArrCl.mono h (.of_below hb hF)
def DrewCl (xs:List Dt) (t:Ty) (p n g:Nat) (w:World) (e:Ending) (w':World):Prop:=∃ (c:Cl) (cs:List Value) (F:List Nat) (q:Nat),e=.returned (.agg cs.toArray)∧ClR w' c cs F∧(∀ b∈F,b<w'.heap.size∧b≠g∧w.heap.size≤b)∧nodesP c.pat≤512∧patOkB xs t c.pat=true∧Rd w' g q∧q≤p+n∧Chg [g] w w'
theorem Chg.trans_new2 {F G:List Nat} {a b c:World} (h:Chg F a b) (k:Chg G b c) (hG:∀ g∈G,g∈F∨a.heap.size≤g):Chg F a c :=
 ⟨k.os.trans h.os,k.tape.trans h.tape,k.output.trans h.output,Nat.le_trans h.size k.size,fun x hx hf=>(k.block x (zz9 hx h.size) fun hg=>by
  rcases hG x hg with h1 | h1
  ·exact hf h1
  ·omega).trans (h.block x hx hf)⟩
theorem Blk.nine {w:World} {H:Nat} {T:TypeId} {b0 b1 b2 b3 b4 b5 b6 b7 b8:Value} (h:Blk w H T #[b0,b1,b2,b3,b4,b5,b6,b7,b8]) (a0 a1 a2 a3 a4 a5 a6 a7 a8:Value):Blk (((((((((w.setCell ⟨H,0,none⟩ a0).setCell ⟨H,1,none⟩ a1).setCell ⟨H,2,none⟩ a2).setCell ⟨H,3,none⟩ a3).setCell ⟨H,4,none⟩ a4).setCell ⟨H,5,none⟩ a5).setCell ⟨H,6,none⟩ a6).setCell ⟨H,7,none⟩ a7).setCell ⟨H,8,none⟩ a8) H T #[a0,a1,a2,a3,a4,a5,a6,a7,a8]:=by
 have h0:Blk (w.setCell ⟨H,0,none⟩ a0) H T #[a0,b1,b2,b3,b4,b5,b6,b7,b8]:=h.set_ 0 a0
 have h1:Blk ((w.setCell ⟨H,0,none⟩ a0).setCell ⟨H,1,none⟩ a1) H T #[a0,a1,b2,b3,b4,b5,b6,b7,b8]:=h0.set_ 1 a1
 have h2:Blk (((w.setCell ⟨H,0,none⟩ a0).setCell ⟨H,1,none⟩ a1).setCell ⟨H,2,none⟩ a2) H T #[a0,a1,a2,b3,b4,b5,b6,b7,b8]:=h1.set_ 2 a2
 have h3:Blk ((((w.setCell ⟨H,0,none⟩ a0).setCell ⟨H,1,none⟩ a1).setCell ⟨H,2,none⟩ a2).setCell ⟨H,3,none⟩ a3) H T #[a0,a1,a2,a3,b4,b5,b6,b7,b8]:=h2.set_ 3 a3
 have h4:Blk (((((w.setCell ⟨H,0,none⟩ a0).setCell ⟨H,1,none⟩ a1).setCell ⟨H,2,none⟩ a2).setCell ⟨H,3,none⟩ a3).setCell ⟨H,4,none⟩ a4) H T #[a0,a1,a2,a3,a4,b5,b6,b7,b8]:=h3.set_ 4 a4
 have h5:Blk ((((((w.setCell ⟨H,0,none⟩ a0).setCell ⟨H,1,none⟩ a1).setCell ⟨H,2,none⟩ a2).setCell ⟨H,3,none⟩ a3).setCell ⟨H,4,none⟩ a4).setCell ⟨H,5,none⟩ a5) H T #[a0,a1,a2,a3,a4,a5,b6,b7,b8]:=h4.set_ 5 a5
 have h6:Blk (((((((w.setCell ⟨H,0,none⟩ a0).setCell ⟨H,1,none⟩ a1).setCell ⟨H,2,none⟩ a2).setCell ⟨H,3,none⟩ a3).setCell ⟨H,4,none⟩ a4).setCell ⟨H,5,none⟩ a5).setCell ⟨H,6,none⟩ a6) H T #[a0,a1,a2,a3,a4,a5,a6,b7,b8]:=h5.set_ 6 a6
 have h7:Blk ((((((((w.setCell ⟨H,0,none⟩ a0).setCell ⟨H,1,none⟩ a1).setCell ⟨H,2,none⟩ a2).setCell ⟨H,3,none⟩ a3).setCell ⟨H,4,none⟩ a4).setCell ⟨H,5,none⟩ a5).setCell ⟨H,6,none⟩ a6).setCell ⟨H,7,none⟩ a7) H T #[a0,a1,a2,a3,a4,a5,a6,a7,b8]:=h6.set_ 7 a7
 have h8:Blk (((((((((w.setCell ⟨H,0,none⟩ a0).setCell ⟨H,1,none⟩ a1).setCell ⟨H,2,none⟩ a2).setCell ⟨H,3,none⟩ a3).setCell ⟨H,4,none⟩ a4).setCell ⟨H,5,none⟩ a5).setCell ⟨H,6,none⟩ a6).setCell ⟨H,7,none⟩ a7).setCell ⟨H,8,none⟩ a8) H T #[a0,a1,a2,a3,a4,a5,a6,a7,a8]:=h7.set_ 8 a8
 exact h8
theorem patOk_parts {xs:List Dt} {t:Ty} {a:P} (h:patOkB xs t a=true):shapeB xs 10 t a=true∧nodesP a≤60:=by
 unfold patOkB at h
 simp only [Bool.and_eq_true,decide_eq_true_iff] at h
 exact ⟨h.1,h.2.1⟩
set_option maxHeartbeats 8000000 in
theorem spec_l4Clause (xs:List Dt) (hw:WorldOK xs) (t:Ty) (ht:TyIn xs.length t) (w:World) (p g:Nat) (x:Value) (F:List Nat) (hr:Rd w g p) (hp:p≤700000) (hx:Arr w (DtR w) xs x F) (hf:Under w F) (hgF:g∉F) :
  Calls Try.prog 45 #[.pointer (some ⟨g,0,none⟩),x,.agg #[t.d,t.i]] w (DrewCl xs t p 2300 g w):=by
 have hgl:=hr.lt
 obtain ⟨A,cap,rfl,hc1,hc2⟩:=hx.form
 have HW:=jj hw
 have HT:=jj ht
 have HGF:=jj hgF
 have hB0:Below w w ((w.alloc (.cells #[t.d,t.i] 25)).alloc (.cells #[(0:Int),(0:Int),(0:Int),(0:Int),(0:Int),.slice none 0 0,(0:Int),(0:Int),(0:Int)] 55)):=((zy2 _ _).alloc (zz8 _) _).alloc (by simp) _
 have KT0:Hid (Blk ((w.alloc (.cells #[t.d,t.i] 25)).alloc (.cells #[(0:Int),(0:Int),(0:Int),(0:Int),(0:Int),.slice none 0 0,(0:Int),(0:Int),(0:Int)] 55)) w.heap.size 25 #[t.d,t.i]):=(Blk.new w _ _).same (Below.heap_alloc _ _ _ (by simp))
 have KR0:Hid (Blk ((w.alloc (.cells #[t.d,t.i] 25)).alloc (.cells #[(0:Int),(0:Int),(0:Int),(0:Int),(0:Int),.slice none 0 0,(0:Int),(0:Int),(0:Int)] 55)) (w.heap.size+1) 55 #[(0:Int),(0:Int),(0:Int),(0:Int),(0:Int),.slice none 0 0,(0:Int),(0:Int),(0:Int)]):=zA8 w _ 55 _
 have HR0:=jj (hr.below hB0)
 have HX0:=jj (ArrDt.below hx hB0 hf)
 have HU0:Hid (Under (((w.alloc (.cells #[t.d,t.i] 25)).alloc (.cells #[(0:Int),(0:Int),(0:Int),(0:Int),(0:Int),.slice none 0 0,(0:Int),(0:Int),(0:Int)] 55))).heap.size F):=hf.mono hB0.size
 have hs0:(((w.alloc (.cells #[t.d,t.i] 25)).alloc (.cells #[(0:Int),(0:Int),(0:Int),(0:Int),(0:Int),.slice none 0 0,(0:Int),(0:Int),(0:Int)] 55))).heap.size=w.heap.size+2:=by simp
 clear hr hx hf hw ht hgF
 have y0:((w.alloc (.cells #[t.d,t.i] 25)).alloc (.cells #[(0:Int),(0:Int),(0:Int),(0:Int),(0:Int),.slice none 0 0,(0:Int),(0:Int),(0:Int)] 55)).cell? ⟨w,0,none⟩=t.d:=(KT0.out.cell 0).trans (by simp)
 have y1:((w.alloc (.cells #[t.d,t.i] 25)).alloc (.cells #[(0:Int),(0:Int),(0:Int),(0:Int),(0:Int),.slice none 0 0,(0:Int),(0:Int),(0:Int)] 55)).cell? ⟨w,1,none⟩=t.i:=(KT0.out.cell 1).trans (by simp)
 have ylt:=KT0.out.lt
 go_enter Try.func45,Try.ntmps45
 go_wp2_with fail
 clear y0 y1 ylt
 obtain ⟨w2,hw2⟩:∃ X,X=((w.alloc (.cells #[t.d,t.i] 25)).alloc (.cells #[(0:Int),(0:Int),(0:Int),(0:Int),(0:Int),.slice none 0 0,(0:Int),(0:Int),(0:Int)] 55)):=⟨_,rfl⟩
 rw [←hw2] at hB0 KT0 KR0 HR0 HX0 HU0 hs0 ⊢
 clear hw2
 refine (spec_l3SomeV xs HW.out t HT.out w2 p g _ F HR0.out (by omega) HX0.out HU0.out HGF.out).mono ?_
 rintro e w3 ⟨a,cs3,Fa,q3,rfl,hp3,hf3,hn3,hok3,hr3,hq3,hc3⟩
 obtain ⟨kva,rfl,haa⟩:=(zA4 _ _ _).1 hp3
 obtain ⟨pA,pcap,rfl,-,-⟩:=haa.form
 have hng:∀ b,w.heap.size≤b→b∉[g]:=fun b hb h=>by rw [zy1] at h;omega
 have KT3:=jj (KT0.out.same (hc3.block _ KT0.out.lt (hng _ (by omega))))
 have KR3:=jj (KR0.out.same (hc3.block _ KR0.out.lt (hng _ (by omega))))
 have HX3:=jj (ArrDt.mono HX0.out (hc3.kept HU0.out (fun b hb h=>HGF.out (by rw [zy1] at h;rw [←h];exact hb))))
 have HU3:Hid (Under w3 F):=HU0.out.mono hc3.size
 have hC3:Chg [g] w w3:=(Chg.of_below hB0).trans hc3
 have hz3:w.heap.size+2≤w3.heap.size:=by have:=hc3.size;omega
 have hb4:Below w3 w3 (w3.alloc (.cells #[a.op,a.ct,a.n,a.m,a.va,.slice pA a.ks.length pcap,(0:Int),(0:Int),(0:Int)] 55)):=(zy2 _ _).alloc (zz8 _) _
 have KD4:Hid (Blk (w3.alloc (.cells #[a.op,a.ct,a.n,a.m,a.va,.slice pA a.ks.length pcap,(0:Int),(0:Int),(0:Int)] 55)) w3.heap.size 55 #[a.op,a.ct,a.n,a.m,a.va,.slice pA a.ks.length pcap,(0:Int),(0:Int),(0:Int)]):=Blk.new _ _ _
 have HP4:=jj (PR.below hp3 hb4 (fun b hb=>(hf3 b hb).1))
 have HX4:=jj (ArrDt.below HX3.out hb4 HU3.out)
 have HU4:Hid (Under ((w3.alloc (.cells #[a.op,a.ct,a.n,a.m,a.va,.slice pA a.ks.length pcap,(0:Int),(0:Int),(0:Int)] 55))).heap.size F):=HU3.out.mono hb4.size
 have KR4:=jj (KR3.out.same (hb4.block _ KR3.out.lt))
 have HR4:=jj (hr3.below hb4)
 have hC4:Chg [g] w (w3.alloc (.cells #[a.op,a.ct,a.n,a.m,a.va,.slice pA a.ks.length pcap,(0:Int),(0:Int),(0:Int)] 55)):=hC3.step hb4
 have HF3:Hid (∀ b∈Fa,b<w3.heap.size∧b≠g∧w.heap.size+2≤b):=fun b hb=>⟨(hf3 b hb).1,(hf3 b hb).2.1,by have:=(hf3 b hb).2.2;omega⟩
 have hs4:((w3.alloc (.cells #[a.op,a.ct,a.n,a.m,a.va,.slice pA a.ks.length pcap,(0:Int),(0:Int),(0:Int)] 55))).heap.size=w3.heap.size+1:=by simp
 have HOK:=jj hok3
 have HN3:=jj hn3
 have HSH:=jj (patOk_parts hok3).1
 have hn60:=(patOk_parts hok3).2
 clear hp3 hf3 hn3 hok3 hr3 hc3 haa hC3 hb4 HX3 HU3 KR3 KR0 HR0 HX0 HU0 hB0 KT0
 have y0:w3.cell? ⟨w,0,none⟩=t.d:=(KT3.out.cell 0).trans (by simp)
 have y1:w3.cell? ⟨w,1,none⟩=t.i:=(KT3.out.cell 1).trans (by simp)
 have ylt:=KT3.out.lt
 go_wp2_with fail
 clear y0 y1 ylt
 obtain ⟨w4,hw4⟩:∃ X,X=(w3.alloc (.cells #[a.op,a.ct,a.n,a.m,a.va,.slice pA a.ks.length pcap,(0:Int),(0:Int),(0:Int)] 55)):=⟨_,rfl⟩
 rw [←hw4] at KD4 HP4 HX4 HU4 KR4 HR4 hC4 hs4 ⊢
 clear hw4
 obtain ⟨D,hD⟩:∃ X,X=w3.heap.size:=⟨_,rfl⟩
 rw [←hD] at KD4 HF3 hs4 hz3 ⊢
 clear hD KT3
 have UP4:Hid (Under w4 Fa):=fun b hb=>by have:=(HF3.out b hb).1;omega
 refine (zB8 HW.out HT.out HSH.out (by omega) HX4.out HU4.out HP4.out UP4.out).mono ?_
 rintro e w5 ⟨vv,FV,rfl,hb5,hv5,-,hfv5⟩
 obtain ⟨vA,vcap,rfl,-,-⟩:=hv5.form
 have hvl:=varsN_len xs 10 t a
 obtain ⟨vs,hvs⟩:∃ u,u=varsN xs 10 t a:=⟨_,rfl⟩
 rw [←hvs] at hv5 hvl ⊢
 clear hvs
 have hvl60:vs.length≤60:=by omega
 have KD5:=jj (KD4.out.same (hb5.block _ KD4.out.lt))
 have KR5:=jj (KR4.out.same (hb5.block _ KR4.out.lt))
 have HP5:=jj (PR.below HP4.out hb5 UP4.out)
 have HR5:=jj (HR4.out.below hb5)
 have hC5:Chg [g] w w5:=hC4.step hb5
 have HV5:=jj hv5
 have HFV:Hid (∀ b∈FV,D<b∧b<w5.heap.size):=fun b hb=>⟨by have:=(hfv5 b hb).1;omega,(hfv5 b hb).2⟩
 have hz5:D<w5.heap.size:=by have:=hb5.size;omega
 have hgD:g<D:=by omega
 clear hb5 hv5 hfv5 KD4 KR4 HP4 HR4 hC4 HX4 HU4 UP4 hvl
 go_wp2
 go_loopw [9] (fun iv wr=>∃ (i q:Nat) (gd:Gd),i≤vs.length∧iv=.int .i64 i∧Hid (Blk wr D 55 #[a.op,a.ct,a.n,a.m,a.va,.slice pA a.ks.length pcap,gd.op,gd.va,gd.n])∧Hid (Chg [D,g] w5 wr)∧Hid (Rd wr g q)∧q≤q3+4*i) (fun iv _=>vs.length-(intOf iv).toNat)
 case atStart=>exact ⟨0,q3,⟨0,0,0⟩,Nat.zero_le _,rfl,KD5,Chg.refl _ _,HR5,by omega⟩
 case round =>
  obtain ⟨i,q,gd,hi,rfl,KDr,HCr,HRr,hq⟩:=hrel
  by_cases hlt:i<vs.length
  ·obtain ⟨vb,voff,rfl⟩:=HV5.out.ptr (by omega)
   have HVr:=jj (HV5.out.mono (HCr.out.kept (fun b hb=>(HFV.out b hb).2) (fun b hb h=>by have:=HFV.out b hb;simp only [List.mem_cons,List.not_mem_nil,or_false] at h;omega)) (fun y _ cs G _ h=>(h:VtR wr y cs G)))
   have hvm:vb∈FV:=by
    obtain ⟨_,_,_,_,e,hb,-⟩:=HVr.out.get (VtR_len wr) hlt
    cases e
    exact hb
   have HVB:=jj (HFV.out _ hvm)
   obtain ⟨hvb,v0,v1,-⟩:=ArrVt.at HVr.out (fun b hb=>zz9 (HFV.out b hb).2 HCr.out.size) (zy2 _ _) i hlt
   generalize vs[i]=vi at v0 v1
   have g1:(0:Int)≤(i:Int):=by omega
   have g2:(i:Int)<(vs.length:Int):=by omega
   clear hvm
   cases hd:(vi.ty.d == -1) with
   |false =>
    go_wp2
    go_roundw
    case rel=>exact ⟨i+1,q,gd,by omega,by go_num,KDr,HCr,HRr,by omega⟩
    case measure=>(simp [intOf] <;> omega)
   |true =>
    go_wp2_with fail
    refine (zAH 2 q g wr HRr.out (by omega) (by omega) (by omega)).mono ?_
    rintro e w6 ⟨r6,rfl,hr6,hR6,hC6⟩
    have hvn:vb∉[D,g]:=by have:=HVB.out;simp only [List.mem_cons,List.not_mem_nil,or_false];omega
    have v06:w6.cell? ⟨vb,voff+i*3,none⟩=vi.var:=(hC6.cell hvb (by show vb∉[g];rw [zy1];have:=HVB.out;omega)).trans v0
    have hvb6:vb<w6.heap.size:=zz9 hvb hC6.size
    have KD6:=jj (KDr.out.same (hC6.block _ KDr.out.lt (by rw [zy1];omega)))
    have HC6:Hid (Chg [D,g] w5 w6):=HCr.out.trans (hC6.mono (by simp))
    have HR6:=jj hR6
    clear hR6 hC6 KDr HCr HRr v0 v1 hvb
    cases h6:((r6:Int)==0) with
    |false =>
     go_wp2
     go_roundw
     case rel=>exact ⟨i+1,q+1,gd,by omega,by go_num,KD6,HC6,HR6,by omega⟩
     case measure=>(simp [intOf] <;> omega)
    |true =>
     go_wp2_with fail
     clear h6 hd
     have HS:Hid (∀ C:World,Chg [D,g] w6 C→C.cell? ⟨vb,voff+i*3,none⟩=vi.var):=fun C hC=>(hC.cell hvb6 hvn).trans v06
     have hC0:Chg [D,g] w6 w6.drew:=(Chg.refl _ _).drew
     have KDd:Hid (Blk w6.drew D 55 #[a.op,a.ct,a.n,a.m,a.va,.slice pA a.ks.length pcap,gd.op,gd.va,gd.n]):=KD6.out
     have HRd:Hid (Rd w6.drew g (q+1)):=HR6.out.drew
     refine zA9 (S:=fun w'=>w'.cell? ⟨vb,voff+i*3,none⟩=vi.var) (T:=fun _=>True) (d:=99) (by kernel_rfl) ?_
     obtain ⟨wd,hwd⟩:∃ X,X=w6.drew:=⟨_,rfl⟩
     rw [←hwd] at hC0 KDd HRd ⊢
     clear hwd
     have hS0:=HS.out _ hC0
     have hT0:True:=trivial
     refine wV 0 rfl hS0 hT0 ?_
     (try simp only [zz])
     refine wV 3 rfl hS0 hT0 ?_
     (try simp only [zz])
     refine wV 4 rfl hS0 hT0 ?_
     (try simp only [zz])
     refine wV 5 rfl hS0 hT0 ?_
     (try simp only [zz])
     refine wV 6 rfl hS0 hT0 ?_
     (try simp only [zz])
     refine wV 7 rfl hS0 hT0 ?_
     (try simp only [zz])
     refine wV 8 rfl hS0 hT0 ?_
     (try simp only [zz])
     refine w1 1 rfl fun K hK=>?_
     go_simp
     go_at_call 36
     refine (zAH 2 (q+1) g wd HRd.out (by omega) (by omega) (by omega)).mono ?_
     rintro e C1 ⟨r7,rfl,hr7,hR7,hc7⟩
     have hw7:IntKind.i64.wrap ((1:Int)+(r7:Int))=(1:Int)+(r7:Int):=IntWalk.i64_in _ (by omega)
     have hC1:Chg [D,g] w6 C1:=hC0.trans (hc7.mono (by simp))
     have KD7:=jj (KDd.out.same (hc7.block _ KDd.out.lt (by rw [zy1];omega)))
     have HR7:=jj hR7
     have hS1:=HS.out _ hC1
     clear hR7 hc7
     (try dsimp only)
     refine hK.out _ _ (hS1) (fun _=>trivial) ?_
     clear hK K
     (try simp only [zz])
     refine wV 2 rfl hS1 hT0 ?_
     (try simp only [zz])
     refine w1 9 rfl fun K hK=>?_
     go_simp
     go_at_call 36
     refine (zAH 10 (q+1+1) g C1 HR7.out (by omega) (by omega) (by omega)).mono ?_
     rintro e C2 ⟨r8,rfl,hr8,hR8,hc8⟩
     have hC2:Chg [D,g] w6 C2:=hC1.trans (hc8.mono (by simp))
     have KD8:=jj (KD7.out.same (hc8.block _ KD7.out.lt (by rw [zy1];omega)))
     have HR8:=jj hR8
     have hS2:=HS.out _ hC2
     clear hR8 hc8
     (try dsimp only)
     refine hK.out _ _ (hS2) (fun _=>trivial) ?_
     clear hK K
     (try simp only [zz])
     refine wV 10 rfl hS2 hT0 ?_
     (try simp only [zz])
     refine wV 11 rfl hS2 hT0 ?_
     (try simp only [zz])
     refine w1 12 rfl fun K hK=>?_
     have z0:C2.cell? ⟨D,0,none⟩=a.op:=(KD8.out.cell 0).trans (by simp)
     have zf0:=KD8.out.frozen 0
     have z1:C2.cell? ⟨D,1,none⟩=a.ct:=(KD8.out.cell 1).trans (by simp)
     have zf1:=KD8.out.frozen 1
     have z2:C2.cell? ⟨D,2,none⟩=a.n:=(KD8.out.cell 2).trans (by simp)
     have zf2:=KD8.out.frozen 2
     have z3:C2.cell? ⟨D,3,none⟩=a.m:=(KD8.out.cell 3).trans (by simp)
     have zf3:=KD8.out.frozen 3
     have z4:C2.cell? ⟨D,4,none⟩=a.va:=(KD8.out.cell 4).trans (by simp)
     have zf4:=KD8.out.frozen 4
     have z5:C2.cell? ⟨D,5,none⟩=some (.slice pA a.ks.length pcap):=(KD8.out.cell 5).trans (by simp)
     have zf5:=KD8.out.frozen 5
     have z6:C2.cell? ⟨D,6,none⟩=gd.op:=(KD8.out.cell 6).trans (by simp)
     have zf6:=KD8.out.frozen 6
     have z7:C2.cell? ⟨D,7,none⟩=gd.va:=(KD8.out.cell 7).trans (by simp)
     have zf7:=KD8.out.frozen 7
     have z8:C2.cell? ⟨D,8,none⟩=gd.n:=(KD8.out.cell 8).trans (by simp)
     have zf8:=KD8.out.frozen 8
     have zlt:=KD8.out.lt
     have hC3:Chg [D,g] w6 (((C2.setCell ⟨D,6,none⟩ (.int .i64 (1+(r7:Int)))).setCell ⟨D,7,none⟩ (.int .i64 vi.var)).setCell ⟨D,8,none⟩ (.int .i64 (r8:Int))):=((hC2.set (by simp)).set (by simp)).set (by simp)
     have KD9:Hid (Blk (((C2.setCell ⟨D,6,none⟩ (.int .i64 (1+(r7:Int)))).setCell ⟨D,7,none⟩ (.int .i64 vi.var)).setCell ⟨D,8,none⟩ (.int .i64 (r8:Int))) D 55 #[a.op,a.ct,a.n,a.m,a.va,.slice pA a.ks.length pcap,.int .i64 (1+(r7:Int)),vi.var,(r8:Int)]):=((KD8.out.set_ 6 _).set_ 7 _).set_ 8 _
     have HR9:Hid (Rd (((C2.setCell ⟨D,6,none⟩ (.int .i64 (1+(r7:Int)))).setCell ⟨D,7,none⟩ (.int .i64 vi.var)).setCell ⟨D,8,none⟩ (.int .i64 (r8:Int))) g (q+1+1+1)):=((HR8.out.set hgD).set hgD).set hgD
     go_simp
     refine hK.out _ _ (HS.out _ hC3) (fun _=>trivial) ?_
     clear hK K
     (try simp only [zz])
     clear z0 zf0 z1 zf1 z2 zf2 z3 zf3 z4 zf4 z5 zf5 z6 zf6 z7 zf7 z8 zf8 zlt
     obtain ⟨C3,hX⟩:∃ X,X=(((C2.setCell ⟨D,6,none⟩ (.int .i64 (1+(r7:Int)))).setCell ⟨D,7,none⟩ (.int .i64 vi.var)).setCell ⟨D,8,none⟩ (.int .i64 (r8:Int))):=⟨_,rfl⟩
     rw [←hX] at hC3 KD9 HR9 ⊢
     clear hX
     refine wE (by kernel_rfl) ?_
     clear hS0 hS1 hS2 hT0 hw7
     have HC9:Hid (Chg [D,g] w5 C3):=HC6.out.trans hC3
     clear hC0 hC1 hC2 hC3 KDd HRd KD7 HR7 KD8 HR8 v06 hvb6 hvn
     go_wp2
     go_roundw
     case rel=>exact ⟨i+1,q+1+1+1,⟨1+(r7:Int),vi.var,(r8:Int)⟩,by omega,by go_num,KD9,HC9,HR9,by omega⟩
     case measure=>(simp [intOf] <;> omega)
  ·have KRr:=jj (KR5.out.same (HCr.out.block _ KR5.out.lt (by simp only [List.mem_cons,List.not_mem_nil,or_false];omega)))
   have HPr:=jj (PR.mono _ _ _ (HCr.out.kept (fun b hb=>by have:=(HF3.out b hb).1;omega) (fun b hb h=>by have:=HF3.out b hb;simp only [List.mem_cons,List.not_mem_nil,or_false] at h;omega)) HP5.out)
   have hCr:Chg [g] w wr:=hC5.trans_new2 HCr.out (fun b hb=>by simp only [List.mem_cons,List.not_mem_nil,or_false] at hb;rcases hb with h | h;exact .inr (by omega);exact .inl (by simp [h]))
   have hzr:w5.heap.size≤wr.heap.size:=HCr.out.size
   have KE:Hid (Blk (((((((((wr.setCell ⟨w.heap.size+1,0,none⟩ (.int .i64 a.op)).setCell ⟨w.heap.size+1,1,none⟩ (.int .i64 a.ct)).setCell ⟨w.heap.size+1,2,none⟩ (.int .i64 a.n)).setCell ⟨w.heap.size+1,3,none⟩ (.int .i64 a.m)).setCell ⟨w.heap.size+1,4,none⟩ (.int .i64 a.va)).setCell ⟨w.heap.size+1,5,none⟩ (.slice pA a.ks.length pcap)).setCell ⟨w.heap.size+1,6,none⟩ (.int .i64 gd.op)).setCell ⟨w.heap.size+1,7,none⟩ (.int .i64 gd.va)).setCell ⟨w.heap.size+1,8,none⟩ (.int .i64 gd.n)) (w.heap.size+1) 55 #[a.op,a.ct,a.n,a.m,a.va,.slice pA a.ks.length pcap,gd.op,gd.va,gd.n]):=KRr.out.nine _ _ _ _ _ _ _ _ _
   have hCE:Chg [g] w (((((((((wr.setCell ⟨w.heap.size+1,0,none⟩ (.int .i64 a.op)).setCell ⟨w.heap.size+1,1,none⟩ (.int .i64 a.ct)).setCell ⟨w.heap.size+1,2,none⟩ (.int .i64 a.n)).setCell ⟨w.heap.size+1,3,none⟩ (.int .i64 a.m)).setCell ⟨w.heap.size+1,4,none⟩ (.int .i64 a.va)).setCell ⟨w.heap.size+1,5,none⟩ (.slice pA a.ks.length pcap)).setCell ⟨w.heap.size+1,6,none⟩ (.int .i64 gd.op)).setCell ⟨w.heap.size+1,7,none⟩ (.int .i64 gd.va)).setCell ⟨w.heap.size+1,8,none⟩ (.int .i64 gd.n)):=(((((((((hCr.set_new (by omega)).set_new (by omega)).set_new (by omega)).set_new (by omega)).set_new (by omega)).set_new (by omega)).set_new (by omega)).set_new (by omega)).set_new (by omega))
   have hRE:Rd (((((((((wr.setCell ⟨w.heap.size+1,0,none⟩ (.int .i64 a.op)).setCell ⟨w.heap.size+1,1,none⟩ (.int .i64 a.ct)).setCell ⟨w.heap.size+1,2,none⟩ (.int .i64 a.n)).setCell ⟨w.heap.size+1,3,none⟩ (.int .i64 a.m)).setCell ⟨w.heap.size+1,4,none⟩ (.int .i64 a.va)).setCell ⟨w.heap.size+1,5,none⟩ (.slice pA a.ks.length pcap)).setCell ⟨w.heap.size+1,6,none⟩ (.int .i64 gd.op)).setCell ⟨w.heap.size+1,7,none⟩ (.int .i64 gd.va)).setCell ⟨w.heap.size+1,8,none⟩ (.int .i64 gd.n)) g q:=(((((((((HRr.out.set (by omega)).set (by omega)).set (by omega)).set (by omega)).set (by omega)).set (by omega)).set (by omega)).set (by omega)).set (by omega))
   have hPE:PR (((((((((wr.setCell ⟨w.heap.size+1,0,none⟩ (.int .i64 a.op)).setCell ⟨w.heap.size+1,1,none⟩ (.int .i64 a.ct)).setCell ⟨w.heap.size+1,2,none⟩ (.int .i64 a.n)).setCell ⟨w.heap.size+1,3,none⟩ (.int .i64 a.m)).setCell ⟨w.heap.size+1,4,none⟩ (.int .i64 a.va)).setCell ⟨w.heap.size+1,5,none⟩ (.slice pA a.ks.length pcap)).setCell ⟨w.heap.size+1,6,none⟩ (.int .i64 gd.op)).setCell ⟨w.heap.size+1,7,none⟩ (.int .i64 gd.va)).setCell ⟨w.heap.size+1,8,none⟩ (.int .i64 gd.n)) a [a.op,a.ct,a.n,a.m,a.va,.slice pA a.ks.length pcap] Fa:=PR.mono _ _ _ (fun b hb=>by rw [zz7 _ _ _ _ (by show b≠w.heap.size+1;have:=HF3.out b hb;omega),zz7 _ _ _ _ (by show b≠w.heap.size+1;have:=HF3.out b hb;omega),zz7 _ _ _ _ (by show b≠w.heap.size+1;have:=HF3.out b hb;omega),zz7 _ _ _ _ (by show b≠w.heap.size+1;have:=HF3.out b hb;omega),zz7 _ _ _ _ (by show b≠w.heap.size+1;have:=HF3.out b hb;omega),zz7 _ _ _ _ (by show b≠w.heap.size+1;have:=HF3.out b hb;omega),zz7 _ _ _ _ (by show b≠w.heap.size+1;have:=HF3.out b hb;omega),zz7 _ _ _ _ (by show b≠w.heap.size+1;have:=HF3.out b hb;omega),zz7 _ _ _ _ (by show b≠w.heap.size+1;have:=HF3.out b hb;omega)]) HPr.out
   have hzE:((((((((((wr.setCell ⟨w.heap.size+1,0,none⟩ (.int .i64 a.op)).setCell ⟨w.heap.size+1,1,none⟩ (.int .i64 a.ct)).setCell ⟨w.heap.size+1,2,none⟩ (.int .i64 a.n)).setCell ⟨w.heap.size+1,3,none⟩ (.int .i64 a.m)).setCell ⟨w.heap.size+1,4,none⟩ (.int .i64 a.va)).setCell ⟨w.heap.size+1,5,none⟩ (.slice pA a.ks.length pcap)).setCell ⟨w.heap.size+1,6,none⟩ (.int .i64 gd.op)).setCell ⟨w.heap.size+1,7,none⟩ (.int .i64 gd.va)).setCell ⟨w.heap.size+1,8,none⟩ (.int .i64 gd.n))).heap.size=wr.heap.size:=by simp [World.setCell]
   have HFin:Hid (DrewCl xs t p 2300 g w (.returned (.agg #[a.op,a.ct,a.n,a.m,a.va,.slice pA a.ks.length pcap,gd.op,gd.va,gd.n])) (((((((((wr.setCell ⟨w.heap.size+1,0,none⟩ (.int .i64 a.op)).setCell ⟨w.heap.size+1,1,none⟩ (.int .i64 a.ct)).setCell ⟨w.heap.size+1,2,none⟩ (.int .i64 a.n)).setCell ⟨w.heap.size+1,3,none⟩ (.int .i64 a.m)).setCell ⟨w.heap.size+1,4,none⟩ (.int .i64 a.va)).setCell ⟨w.heap.size+1,5,none⟩ (.slice pA a.ks.length pcap)).setCell ⟨w.heap.size+1,6,none⟩ (.int .i64 gd.op)).setCell ⟨w.heap.size+1,7,none⟩ (.int .i64 gd.va)).setCell ⟨w.heap.size+1,8,none⟩ (.int .i64 gd.n))):=⟨⟨a,gd⟩,[a.op,a.ct,a.n,a.m,a.va,.slice pA a.ks.length pcap,gd.op,gd.va,gd.n],Fa,q,rfl,⟨_,rfl,hPE⟩,fun b hb=>by
    have:=HF3.out b hb
    rw [hzE]
    exact ⟨by omega,this.2.1,by omega⟩,HN3.out,HOK.out,hRE,by omega,hCE⟩
   have KE2:Hid (((((((((((wr.setCell ⟨w.heap.size+1,0,none⟩ (.int .i64 a.op)).setCell ⟨w.heap.size+1,1,none⟩ (.int .i64 a.ct)).setCell ⟨w.heap.size+1,2,none⟩ (.int .i64 a.n)).setCell ⟨w.heap.size+1,3,none⟩ (.int .i64 a.m)).setCell ⟨w.heap.size+1,4,none⟩ (.int .i64 a.va)).setCell ⟨w.heap.size+1,5,none⟩ (.slice pA a.ks.length pcap)).setCell ⟨w.heap.size+1,6,none⟩ (.int .i64 gd.op)).setCell ⟨w.heap.size+1,7,none⟩ (.int .i64 gd.va)).setCell ⟨w.heap.size+1,8,none⟩ (.int .i64 gd.n))).heap[w.heap.size+1]?=some (.cells #[a.op,a.ct,a.n,a.m,a.va,.slice pA a.ks.length pcap,gd.op,gd.va,gd.n] 55 (0,0))):=KE.out
   clear hCE hRE hPE hzE KE
   have z0:wr.cell? ⟨D,0,none⟩=a.op:=(KDr.out.cell 0).trans (by simp)
   have z1:wr.cell? ⟨D,1,none⟩=a.ct:=(KDr.out.cell 1).trans (by simp)
   have z2:wr.cell? ⟨D,2,none⟩=a.n:=(KDr.out.cell 2).trans (by simp)
   have z3:wr.cell? ⟨D,3,none⟩=a.m:=(KDr.out.cell 3).trans (by simp)
   have z4:wr.cell? ⟨D,4,none⟩=a.va:=(KDr.out.cell 4).trans (by simp)
   have z5:wr.cell? ⟨D,5,none⟩=some (.slice pA a.ks.length pcap):=(KDr.out.cell 5).trans (by simp)
   have z6:wr.cell? ⟨D,6,none⟩=gd.op:=(KDr.out.cell 6).trans (by simp)
   have z7:wr.cell? ⟨D,7,none⟩=gd.va:=(KDr.out.cell 7).trans (by simp)
   have z8:wr.cell? ⟨D,8,none⟩=gd.n:=(KDr.out.cell 8).trans (by simp)
   have zlt:=KDr.out.lt
   have rc0:wr.cell? ⟨w.heap.size+1,0,none⟩=some (.int .i64 0):=(KRr.out.cell 0).trans (by simp)
   have rcf0:=KRr.out.frozen 0
   have rc1:wr.cell? ⟨w.heap.size+1,1,none⟩=some (.int .i64 0):=(KRr.out.cell 1).trans (by simp)
   have rcf1:=KRr.out.frozen 1
   have rc2:wr.cell? ⟨w.heap.size+1,2,none⟩=some (.int .i64 0):=(KRr.out.cell 2).trans (by simp)
   have rcf2:=KRr.out.frozen 2
   have rc3:wr.cell? ⟨w.heap.size+1,3,none⟩=some (.int .i64 0):=(KRr.out.cell 3).trans (by simp)
   have rcf3:=KRr.out.frozen 3
   have rc4:wr.cell? ⟨w.heap.size+1,4,none⟩=some (.int .i64 0):=(KRr.out.cell 4).trans (by simp)
   have rcf4:=KRr.out.frozen 4
   have rc5:wr.cell? ⟨w.heap.size+1,5,none⟩=some (.slice none 0 0):=(KRr.out.cell 5).trans (by simp)
   have rcf5:=KRr.out.frozen 5
   have rc6:wr.cell? ⟨w.heap.size+1,6,none⟩=some (.int .i64 0):=(KRr.out.cell 6).trans (by simp)
   have rcf6:=KRr.out.frozen 6
   have rc7:wr.cell? ⟨w.heap.size+1,7,none⟩=some (.int .i64 0):=(KRr.out.cell 7).trans (by simp)
   have rcf7:=KRr.out.frozen 7
   have rc8:wr.cell? ⟨w.heap.size+1,8,none⟩=some (.int .i64 0):=(KRr.out.cell 8).trans (by simp)
   have rcf8:=KRr.out.frozen 8
   have rclt:=KRr.out.lt
   go_wp2
   clear z0 z1 z2 z3 z4 z5 z6 z7 z8 zlt
   clear rc0 rcf0 rc1 rcf1 rc2 rcf2 rc3 rcf3 rc4 rcf4 rc5 rcf5 rc6 rcf6 rc7 rcf7 rc8 rcf8 rclt
   refine bodyPost_ret (zA1 rfl _ _ (w.heap.size+1) 55 #[a.op,a.ct,a.n,a.m,a.va,.slice pA a.ks.length pcap,gd.op,gd.va,gd.n] (0,0) _ rfl KE2.out Try.underlying55 rfl rfl) rfl ?_
   exact HFin.out
theorem info_CE:(Try.prog.info? 55).map (fun i=>(i.zero,i.size,i.bytes))=some (some (.agg #[(0:Int),(0:Int),(0:Int),(0:Int),(0:Int),.slice none 0 0,(0:Int),(0:Int),(0:Int)]),9,88):=by kernel_rfl
theorem ClR_lenA (w:World) (x:Cl) (cs:List Value) (F:List Nat) (h:ClR w x cs F):cs.length=9:=ClR_len x cs F h
theorem zAJ (w w':World) (x:Cl) (cs:List Value) (G:List Nat) (hk:Kept G w w') (h:ClR w x cs G):ClR w' x cs G:=ClR.mono x cs G hk h
def DrewCls (xs:List Dt) (t:Ty) (p n g:Nat) (w:World) (e:Ending) (w':World):Prop:=∃ (cls:List Cl) (v:Value) (F:List Nat) (q:Nat),e=.returned v∧Arr w' (ClR w') cls v F∧(∀ b∈F,b<w'.heap.size∧b≠g∧w.heap.size≤b)∧cls.length≤5∧(∀ c∈cls,nodesP c.pat≤512∧patOkB xs t c.pat=true)∧Rd w' g q∧q≤p+n∧Chg [g] w w'
theorem Chg.under2 {F:List Nat} {a b c:World} (h:Chg F a b) (k:Below a b c):Chg F a c:=⟨k.os.trans h.os,k.tape.trans h.tape,k.output.trans h.output,Nat.le_trans h.size k.size,fun x hx hf=>(k.block x hx).trans (h.block x hx hf)⟩
theorem own_foot {α:Type} {w:World} {B k g:Nat} {E:TypeId} {R:World→α→List Value→List Nat→Prop} {vs:List α} {v:Value} {F:List Nat} (h:Own w B E k R vs v F) (hg:g<B) (hF:∀ b∈F,b≠g∧B≤b):∀ b∈(if vs=[] then [] else rowOf v ++ F),b<w.heap.size∧b≠g∧B≤b:=by
 intro b hb
 by_cases hx:vs=[]
 ·rw [if_pos hx] at hb;cases hb
 ·rw [if_neg hx] at hb
  rcases List.mem_append.1 hb with hb | hb
  ·have:=h.row b hb;exact ⟨this.2,by omega,this.1⟩
  ·exact ⟨h.under b hb,hF b hb⟩
set_option maxHeartbeats 8000000 in
theorem spec_l4List (xs:List Dt) (hw:WorldOK xs) (t:Ty) (ht:TyIn xs.length t) (w:World) (p g:Nat) (x:Value) (F:List Nat) (hr:Rd w g p) (hp:p≤600000) (hx:Arr w (DtR w) xs x F) (hf:Under w F) (hgF:g∉F) :
  Calls Try.prog 40 #[.pointer (some ⟨g,0,none⟩),x,.agg #[t.d,t.i]] w (DrewCls xs t p 12000 g w):=by
 have hgl:=hr.lt
 obtain ⟨A,cap,rfl,hc1,hc2⟩:=hx.form
 obtain ⟨i0,hi,hz0,hz1,hz2⟩:=info_parts info_CE
 have HI:=jj hi
 have HZ0:=jj hz0
 have HZ1:=jj hz1
 have HZ2:=jj hz2
 clear hi hz0 hz1 hz2
 have HW:=jj hw
 have HT:=jj ht
 have HGF:=jj hgF
 have HX:=jj hx
 have HF:=jj hf
 have hb1:Below w w ((w.alloc (.cells #[t.d,t.i] 25)).alloc (.cells #[] 55)):=((zy2 _ _).alloc (zz8 _) _).alloc (by simp) _
 have hB0:Below w w (((w.alloc (.cells #[t.d,t.i] 25)).alloc (.cells #[] 55)).alloc (.cells #[(3:Int),(2:Int),(4:Int),(5:Int),(1:Int),(0:Int)] 3)):=hb1.alloc (by simp;omega) _
 have KT0:Hid (Blk (((w.alloc (.cells #[t.d,t.i] 25)).alloc (.cells #[] 55)).alloc (.cells #[(3:Int),(2:Int),(4:Int),(5:Int),(1:Int),(0:Int)] 3)) w.heap.size 25 #[t.d,t.i]):=((Blk.new w _ _).same (Below.heap_alloc _ _ _ (by simp))).same (Below.heap_alloc _ _ _ (by simp;omega))
 have HR0:=jj (hr.below hB0)
 have hs0:((((w.alloc (.cells #[t.d,t.i] 25)).alloc (.cells #[] 55)).alloc (.cells #[(3:Int),(2:Int),(4:Int),(5:Int),(1:Int),(0:Int)] 3))).heap.size=w.heap.size+3:=by simp
 have HO0:Hid (Own (((w.alloc (.cells #[t.d,t.i] 25)).alloc (.cells #[] 55)).alloc (.cells #[(3:Int),(2:Int),(4:Int),(5:Int),(1:Int),(0:Int)] 3)) (w.heap.size+1) 55 9 ClR ([]:List Cl) (.slice (some ⟨w.heap.size+1,0,none⟩) 0 0) []):=by
  have h:=Own.made (w.alloc (.cells #[t.d,t.i] 25)) (w.heap.size+1) 55 9 ClR #[] 0 (by simp) (by simp [maxLen]) rfl
  rw [World.size_alloc] at h
  exact h.below (fun x cs G hk h=>zAJ _ _ x cs G hk h) ((zy2 _ _).alloc (zz8 _) _)
 have HL0:Hid (LitN (((w.alloc (.cells #[t.d,t.i] 25)).alloc (.cells #[] 55)).alloc (.cells #[(3:Int),(2:Int),(4:Int),(5:Int),(1:Int),(0:Int)] 3)) (w.heap.size+2) [3,2,4,5,1,0]):=by
  have h:=LitN.new ((w.alloc (.cells #[t.d,t.i] 25)).alloc (.cells #[] 55)) [3,2,4,5,1,0] (by decide)
  have e:(((w.alloc (.cells #[t.d,t.i] 25)).alloc (.cells #[] 55))).heap.size=w.heap.size+2:=by simp
  rw [e] at h
  exact h
 clear hr hx hf hw ht hgF hb1
 go_enter Try.func40,Try.ntmps40
 go_wp2_with fail
 obtain ⟨w2,hw2⟩:∃ X,X=(((w.alloc (.cells #[t.d,t.i] 25)).alloc (.cells #[] 55)).alloc (.cells #[(3:Int),(2:Int),(4:Int),(5:Int),(1:Int),(0:Int)] 3)):=⟨_,rfl⟩
 rw [←hw2] at hB0 KT0 HR0 hs0 HO0 HL0 ⊢
 clear hw2
 refine (num_any [3,2,4,5,1,0] (by decide) (by decide) p g w2 HR0.out (by omega) _ _ HL0.out.2 (fun x hx=>by rw [List.mem_singleton.1 hx];exact HL0.out.1) (fun e=>by have:=List.mem_singleton.1 e;omega)).mono ?_
 rintro e w3 ⟨nx,hnx,rfl,hR3,hC3⟩
 obtain ⟨n0,rfl,hn0⟩:∃ k:Nat,nx=(k:Int)∧k≤5:=⟨nx.toNat,by simp at hnx;omega,by simp at hnx;omega⟩
 have hng:∀ b,w.heap.size≤b→b∉[g]:=fun b hb h=>by rw [zy1] at h;omega
 have KT3:=jj (KT0.out.same (hC3.block _ KT0.out.lt (hng _ (by omega))))
 have HO3:=jj (HO0.out.chg2 zAJ hC3 (fun b hb=>by rw [zy1] at hb;omega) (fun b hb=>by cases hb))
 have HR3:=jj hR3
 have HC3:Hid (Chg [g] w w3):=(Chg.of_below hB0).trans hC3
 have hz3:w.heap.size+3≤w3.heap.size:=by have:=hC3.size;omega
 clear hnx hR3 hC3 KT0 HO0 HR0 hB0 HL0
 go_wp2
 go_loopw [7,8] (fun ov iv wr=>∃ (k q:Nat) (cls:List Cl) (Fk:List Nat),iv=.int .i64 k∧cls.length+k≤5∧Hid (Own wr (w.heap.size+1) 55 9 ClR cls ov Fk)∧Hid (∀ b∈Fk,b≠g∧w.heap.size+1≤b)∧Hid (∀ c∈cls,nodesP c.pat≤512∧patOkB xs t c.pat=true)∧Hid (Chg [g] w wr)∧w.heap.size+3≤wr.heap.size∧Hid (Blk wr w 25 #[t.d,t.i])∧Hid (Rd wr g q)∧q+2300*k≤p+11501) (fun _ iv _=>(intOf iv).toNat)
 case atStart=>exact ⟨n0,p+1,[],[],rfl,by simpa using hn0,HO3,(fun b hb=>by cases hb),(fun c hc=>by cases hc),HC3,hz3,KT3,HR3,by omega⟩
 case round =>
  clear HO3 HC3 KT3 HR3
  obtain ⟨k,q,cls,Fk,rfl,hlen,HO,HFk,HCL,HC,hwz,KT,HR,hq⟩:=hrel
  obtain ⟨oA,ocap,hov,hoc1,hoc2⟩:=HO.out.form
  subst hov
  by_cases hk:0<k
  ·have g1:decide ((k:Int)>0)=true:=decide_eq_true (by omega)
   have g2:decide ((0:Int)<(k:Int))=true:=decide_eq_true (by omega)
   have HXr:=jj (ArrDt.mono HX.out (HC.out.kept HF.out (fun b hb h=>HGF.out (by rw [zy1] at h;rw [←h];exact hb))))
   have HUr:Hid (Under wr F):=HF.out.mono HC.out.size
   have y0:wr.cell? ⟨w,0,none⟩=t.d:=(KT.out.cell 0).trans (by simp)
   have y1:wr.cell? ⟨w,1,none⟩=t.i:=(KT.out.cell 1).trans (by simp)
   have ylt:=KT.out.lt
   go_wp2_with fail
   clear y0 y1 ylt
   refine (spec_l4Clause xs HW.out t HT.out wr q g _ F HR.out (by omega) HXr.out HUr.out HGF.out).mono ?_
   rintro e wA ⟨c,csA,FA,qA,rfl,hcA,hfA,hnA,hokA,hRA,hqA,hCA⟩
   obtain ⟨cA,ccap,hcs⟩:=zAV hcA
   subst hcs
   have HCA:=jj hcA
   have HOA:=jj (HO.out.chg2 zAJ hCA (fun b hb=>by rw [zy1] at hb;omega) (fun b hb h=>(HFk.out b hb).1 (List.mem_singleton.1 h)))
   have HFA:=jj hfA
   have HNA:Hid (nodesP c.pat≤512∧patOkB xs t c.pat=true):=⟨hnA,hokA⟩
   have KTA:=jj (KT.out.same (hCA.block _ KT.out.lt (by rw [zy1];omega)))
   have HRA:=jj hRA
   have HCwA:Hid (Chg [g] w wA):=HC.out.trans hCA
   have hzA:wr.heap.size≤wA.heap.size:=hCA.size
   have HVG:Hid (∀ b∈rowOf (.slice oA cls.length ocap),b∉FA):=fun b hb h=>by have h1:=(HO.out.row b hb).2;have h2:=(hfA b h).2.2;omega
   clear hcA hfA hnA hokA hRA hCA HXr HUr
   go_wp2_with (at_builtin;refine Halt.mk ?_)
   refine Halt.of (zA3 (P:=Try.prog) rfl _ _ 50 rfl i0 _ 88 Try.underlying50 HI.out HZ0.out HZ1.out HZ2.out rfl (by decide) ClR_lenA zAJ (by rfl) HOA.out c 55 [c.pat.op,c.pat.ct,c.pat.n,c.pat.m,c.pat.va,.slice cA c.pat.ks.length ccap,c.gd.op,c.gd.va,c.gd.n] FA wA.heap.size (by rfl) rfl (by simp [Value.oneCell']) HCA.out (fun b hb=>(HFA.out b hb).1) HVG.out (by unfold maxLen;omega) (by omega) (by omega) ?_)
   intro gz cp w7 hown hgr hat
   have hb7:Below (w.heap.size+1) wA w7:=(((zy2 _ _).alloc (by omega) _)).trans (grown_below hgr (by simp;omega) (fun b hb=>(HOA.out.row b hb).1))
   have HOw:=jj hown
   have HF7:Hid (∀ b∈Fk ++ FA,b≠g∧w.heap.size+1≤b):=fun b hb=>by
    rcases List.mem_append.1 hb with h | h
    ·exact HFk.out b h
    ·exact ⟨(HFA.out b h).2.1,by have:=(HFA.out b h).2.2;omega⟩
   have HCL7:Hid (∀ c'∈cls ++ [c],nodesP c'.pat≤512∧patOkB xs t c'.pat=true):=fun c' hc'=>by
    rcases List.mem_append.1 hc' with h | h
    ·exact HCL.out c' h
    ·rw [List.mem_singleton.1 h];exact HNA.out
   have HC7:Hid (Chg [g] w w7):=HCwA.out.under2 (hb7.mono (Nat.le_succ _))
   have KT7:=jj (KTA.out.same (hb7.block _ (by omega)))
   have HR7:=jj (HRA.out.keep (fun b hb=>hb7.block b (by omega)))
   have hz7:w.heap.size+3≤w7.heap.size:=by have:=hb7.size;omega
   have hl7:(cls ++ [c]).length=cls.length+1:=by rw [List.length_append];rfl
   have hkw:IntKind.i64.wrap ((k:Int)-1)=((k-1:Nat):Int):=by rw [IntWalk.i64_in _ (by omega)];omega
   clear hown hgr hat hb7 HO HFk HCL HC KT HR HCA HOA HFA HNA KTA HRA HCwA HVG g1 g2
   go_wp2
   go_roundw
   case rel=>exact ⟨k-1,qA,cls ++ [c],Fk ++ FA,(by first | rfl | (congr 1;omega) | (simp;omega)),by omega,HOw,HF7,HCL7,HC7,hz7,KT7,HR7,by omega⟩
   case measure=>(simp [intOf] <;> omega)
  ·have g1:decide ((k:Int)>0)=false:=decide_eq_false (by omega)
   have g2:decide ((0:Int)<(k:Int))=false:=decide_eq_false (by omega)
   have HFin:Hid (DrewCls xs t p 12000 g w (.returned (.slice oA cls.length ocap)) wr):=⟨cls,_,_,q,rfl,HO.out.arr,fun b hb=>by
    have:=own_foot (g:=g) HO.out (by omega) HFk.out b hb
    exact ⟨this.1,this.2.1,by omega⟩,by omega,HCL.out,HR.out,by omega,HC.out⟩
   clear HO HFk HCL HC KT HR
   go_wp2
   go_ret
   exact HFin.out
end Go.Proofs.Ytjjclcmmfeegfaa
