/-
  Lemmas, and contracts of functions. Conditions: none.
-/
import Derived.Test.YtjjclcmmfeegfaaGAH
import Derived.Test.YtjjclcmmfeegfaaGAI
import Derived.Test.YtjjclcmmfeegfaaGAB
import Derived.Test.YtjjclcmmfeegfaaChecked
import Derived.Deep.RegionHeld3
import Derived.BigQuiet
import Derived.Test.YtjjclcmmfeegfaaGAG
import Derived.Laws.EntriesVeiled
import Derived.Deep.QuietTactic
import Derived.Test.YtjjclcmmfeegfaaGAF
import Derived.Test.YtjjclcmmfeegfaaGAD
import Derived.Test.YtjjclcmmfeegfaaGAA
import Derived.Deep.RegionWith
import Derived.IntWalk

set_option linter.unusedVariables false
set_option linter.unusedSimpArgs false
set_option maxRecDepth 100000
set_option maxHeartbeats 1600000

namespace Go.Proofs.Ytjjclcmmfeegfaa
open Go.RowKit
def DrewWTC (w:World) (e:Ending) (w':World):Prop:=∃ (xs:List Dt) (v:Value) (F:List Nat) (t:Ty) (c:Cl) (cs:List Value) (G:List Nat),e=.returned (.tuple #[v,.agg #[t.d,t.i],.agg cs.toArray])∧Below w w w'∧Arr w' (DtR w') xs v F∧Under w'.heap.size F∧ClR w' c cs G∧Under w'.heap.size G∧nodesP c.pat≤2000
theorem ArrCl.top {w:World} {b off n cap:Nat} {F:List Nat} {l:List Cl} (h:Arr w (ClR w) l (.slice (some ⟨b,off,none⟩) n cap) F) (hF:Under w F) (hi:0<l.length) :
  ∃ A7 cap7 G,b∈F∧w.cell? ⟨b,off,none⟩=l[0].pat.op∧w.cell? ⟨b,off+1,none⟩=l[0].pat.ct∧w.cell? ⟨b,off+2,none⟩=l[0].pat.n∧w.cell? ⟨b,off+3,none⟩=l[0].pat.m∧w.cell? ⟨b,off+4,none⟩=l[0].pat.va∧w.cell? ⟨b,off+5,none⟩=some (.slice A7 l[0].pat.ks.length cap7)∧w.cell? ⟨b,off+6,none⟩=l[0].gd.op∧w.cell? ⟨b,off+7,none⟩=l[0].gd.va∧w.cell? ⟨b,off+8,none⟩=l[0].gd.n∧ClR w l[0] [l[0].pat.op,l[0].pat.ct,l[0].pat.n,l[0].pat.m,l[0].pat.va,.slice A7 l[0].pat.ks.length cap7,l[0].gd.op,l[0].gd.va,l[0].gd.n] G∧∀ x∈G,x∈F:=by
 obtain ⟨b',off',cs,G,e,hb,hcs,hv,hG⟩:=h.get ClR_len hi
 cases e
 have hbl:=hF _ hb
 obtain ⟨A7,cap7,rfl⟩:=zAV hv
 rw [Nat.zero_mul,Nat.add_zero] at hcs
 exact ⟨A7,cap7,G,hb,hcs 0 _ rfl,hcs 1 _ rfl,hcs 2 _ rfl,hcs 3 _ rfl,hcs 4 _ rfl,hcs 5 _ rfl,hcs 6 _ rfl,hcs 7 _ rfl,hcs 8 _ rfl,hv,hG⟩
theorem arr_cl1 {w:World} {y:Cl} {cs:List Value} {G:List Nat} {H:Nat} {T:TypeId} (hk:Blk w H T cs.toArray) (h:ClR w y cs G):Arr w (ClR w) [y] (.slice (some ⟨H,0,none⟩) 1 1) (H :: G) :=
 ⟨_,_,rfl,zz8 _,by simp [maxLen],.inr ⟨H,0,cs,G,rfl,(fun j u hj=>by rw [Nat.zero_add,hk.cell];simpa using hj),Flat.one h,rfl⟩⟩
set_option maxHeartbeats 8000000 in
theorem spec_DrawClauseValid (bs0:List Int) (w:World) (v:Value) (F:List Nat) (hx:Arr w (ByR w) bs0 v F) (hf:Under w F) :
  Calls Try.prog 17 #[v] w (DrewWTC w):=by
 have hB0:Below w w ((w.alloc (.cells #[(0:Int),(0:Int)] 25)).alloc (.cells #[(0:Int),(0:Int),(0:Int),(0:Int),(0:Int),.slice none 0 0,(0:Int),(0:Int),(0:Int)] 55)):=((zy2 _ _).alloc (zz8 _) _).alloc (by simp) _
 have K10:Hid (Blk ((w.alloc (.cells #[(0:Int),(0:Int)] 25)).alloc (.cells #[(0:Int),(0:Int),(0:Int),(0:Int),(0:Int),.slice none 0 0,(0:Int),(0:Int),(0:Int)] 55)) (w.heap.size) 25 #[(0:Int),(0:Int)]):=(Blk.new w _ _).same (Below.heap_alloc _ _ _ (by simp))
 have K20:Hid (Blk ((w.alloc (.cells #[(0:Int),(0:Int)] 25)).alloc (.cells #[(0:Int),(0:Int),(0:Int),(0:Int),(0:Int),.slice none 0 0,(0:Int),(0:Int),(0:Int)] 55)) (w.heap.size+1) 55 #[(0:Int),(0:Int),(0:Int),(0:Int),(0:Int),.slice none 0 0,(0:Int),(0:Int),(0:Int)]):=zA8 w _ 55 _
 have HX0:Hid (Arr ((w.alloc (.cells #[(0:Int),(0:Int)] 25)).alloc (.cells #[(0:Int),(0:Int),(0:Int),(0:Int),(0:Int),.slice none 0 0,(0:Int),(0:Int),(0:Int)] 55)) (ByR ((w.alloc (.cells #[(0:Int),(0:Int)] 25)).alloc (.cells #[(0:Int),(0:Int),(0:Int),(0:Int),(0:Int),.slice none 0 0,(0:Int),(0:Int),(0:Int)] 55))) bs0 v F):=ArrBy.mono hx (.of_below hB0 hf)
 have HU0:Hid (Under (((w.alloc (.cells #[(0:Int),(0:Int)] 25)).alloc (.cells #[(0:Int),(0:Int),(0:Int),(0:Int),(0:Int),.slice none 0 0,(0:Int),(0:Int),(0:Int)] 55))).heap.size F):=hf.mono hB0.size
 have hs0:(((w.alloc (.cells #[(0:Int),(0:Int)] 25)).alloc (.cells #[(0:Int),(0:Int),(0:Int),(0:Int),(0:Int),.slice none 0 0,(0:Int),(0:Int),(0:Int)] 55))).heap.size=w.heap.size+2:=by simp
 clear hx hf
 go_enter Try.func17,Try.ntmps17
 go_wp2_with fail
 obtain ⟨w2,hw2⟩:∃ X,X=((w.alloc (.cells #[(0:Int),(0:Int)] 25)).alloc (.cells #[(0:Int),(0:Int),(0:Int),(0:Int),(0:Int),.slice none 0 0,(0:Int),(0:Int),(0:Int)] 55)):=⟨_,rfl⟩
 rw [←hw2] at hB0 K10 K20 HX0 HU0 hs0 ⊢
 clear hw2
 refine (spec_l17Open bs0 w2 v F HX0.out HU0.out).mono ?_
 rintro e w3 ⟨g,rfl,hge,hb3,hR3⟩
 have HR3:=jj hR3
 have hg3:g<w3.heap.size:=hR3.lt
 have HB3:Hid (Below w w w3):=hB0.trans (hb3.mono hB0.size)
 have K13:=jj (K10.out.same (hb3.block _ K10.out.lt))
 have K23:=jj (K20.out.same (hb3.block _ K20.out.lt))
 clear hR3 hb3 HX0 HU0 K10 K20 hB0
 go_wp2_with fail
 refine (spec_l2TypedF 0 g w3 HR3.out (by omega)).mono ?_
 rintro e w4 ⟨xs,xv,FX,t,va,csv,Gv,q4,rfl,htok,hx4,hfx4,hv4,hgv4,-,-,hr4,hq4,hc4⟩
 obtain ⟨kvv,rfl,hav⟩:=(VR_iff _ _ _).1 hv4
 obtain ⟨vA,vcap,rfl,-,-⟩:=hav.form
 obtain ⟨xA,xcap,rfl,-,-⟩:=hx4.form
 have HTOK:=jj htok
 have HFX:Hid (∀ b∈FX,w3.heap.size≤b):=fun b hb=>(hfx4 b hb).1
 have hb6:Below w4 w4 ((w4.alloc (.cells #[t.d,t.i] 25)).alloc (.cells #[va.c,va.n,.slice vA va.ks.length vcap] 46)):=((zy2 _ _).alloc (zz8 _) _).alloc (by simp) _
 have hz34:=hc4.size
 have K1b:Hid (Blk ((w4.alloc (.cells #[t.d,t.i] 25)).alloc (.cells #[va.c,va.n,.slice vA va.ks.length vcap] 46)) (w.heap.size) 25 #[(0:Int),(0:Int)]):=(K13.out.same (hc4.block _ K13.out.lt (by rw [zy1];omega))).same (hb6.block _ (by have:=K13.out.lt;omega))
 have K2b:Hid (Blk ((w4.alloc (.cells #[t.d,t.i] 25)).alloc (.cells #[va.c,va.n,.slice vA va.ks.length vcap] 46)) (w.heap.size+1) 55 #[(0:Int),(0:Int),(0:Int),(0:Int),(0:Int),.slice none 0 0,(0:Int),(0:Int),(0:Int)]):=(K23.out.same (hc4.block _ K23.out.lt (by rw [zy1];omega))).same (hb6.block _ (by have:=K23.out.lt;omega))
 have KTb:Hid (Blk ((w4.alloc (.cells #[t.d,t.i] 25)).alloc (.cells #[va.c,va.n,.slice vA va.ks.length vcap] 46)) w4.heap.size 25 #[t.d,t.i]):=(Blk.new w4 _ _).same (Below.heap_alloc _ _ _ (by simp))
 have HXb:=jj (ArrDt.below hx4 hb6 hfx4.under)
 have UXb:Hid (Under (((w4.alloc (.cells #[t.d,t.i] 25)).alloc (.cells #[va.c,va.n,.slice vA va.ks.length vcap] 46))).heap.size FX):=hfx4.under.mono hb6.size
 have HRb:=jj (hr4.below hb6)
 have HBb:Hid (Below w w ((w4.alloc (.cells #[t.d,t.i] 25)).alloc (.cells #[va.c,va.n,.slice vA va.ks.length vcap] 46))):=(HB3.out.trans (hc4.below (fun b hb=>by rw [zy1] at hb;omega) HB3.out.size)).trans (hb6.mono (Nat.le_trans HB3.out.size hz34))
 clear htok hx4 hfx4 hv4 hgv4 hav hr4 hc4 hb6 HR3 HB3 K13 K23
 go_wp2_with fail
 obtain ⟨wb,hwb⟩:∃ X,X=((w4.alloc (.cells #[t.d,t.i] 25)).alloc (.cells #[va.c,va.n,.slice vA va.ks.length vcap] 46)):=⟨_,rfl⟩
 rw [←hwb] at K1b K2b KTb HXb UXb HRb HBb ⊢
 clear hwb
 obtain ⟨k,hk⟩:∃ X,X=w4.heap.size:=⟨_,rfl⟩
 rw [←hk] at KTb hz34 ⊢
 first | (obtain ⟨k2,hk2⟩:∃ X,X=k+1:=⟨_,rfl⟩;rw [←hk2];clear hk2) | skip
 clear hk
 have hkb:k<wb.heap.size:=KTb.out.lt
 have HS:Hid (∀ C:World,Chg [g,w.heap.size,w.heap.size+1] wb C→(C.cell? ⟨k,0,none⟩=t.d∧C.cell? ⟨k,1,none⟩=t.i)):=fun C hC=>⟨(hC.cell hkb (by simp;omega)).trans ((KTb.out.cell 0).trans (by simp)),(hC.cell hkb (by simp;omega)).trans ((KTb.out.cell 1).trans (by simp))⟩
 have hC0:Chg [g,w.heap.size,w.heap.size+1] wb wb.drew:=(Chg.refl _ _).drew
 have K1d:Hid (Blk wb.drew (w.heap.size) 25 #[(0:Int),(0:Int)]):=K1b.out
 have K2d:Hid (Blk wb.drew (w.heap.size+1) 55 #[(0:Int),(0:Int),(0:Int),(0:Int),(0:Int),.slice none 0 0,(0:Int),(0:Int),(0:Int)]):=K2b.out
 have HXd:Hid (Arr wb.drew (DtR wb.drew) xs (.slice xA xs.length xcap) FX):=ArrDt.drew HXb.out
 have UXd:Hid (Under wb.drew.heap.size FX):=UXb.out
 have HRd:Hid (Rd wb.drew g q4):=HRb.out.drew
 refine zA9 (S:=fun w'=>w'.cell? ⟨k,0,none⟩=t.d∧w'.cell? ⟨k,1,none⟩=t.i) (T:=fun _=>True) (d:=99) (by kernel_rfl) ?_
 obtain ⟨wd,hwd⟩:∃ X,X=wb.drew:=⟨_,rfl⟩
 have hzd:wb.heap.size≤wd.heap.size:=by rw [hwd];exact zz8 _
 rw [←hwd] at hC0 K1d K2d HXd UXd HRd ⊢
 clear hwd
 have hS0:=HS.out _ hC0
 have hT0:True:=trivial
 refine wV 0 rfl hS0 hT0 ?_
 (try simp only [zz])
 refine wV 1 rfl hS0 hT0 ?_
 (try simp only [zz])
 refine wV 2 rfl hS0 hT0 ?_
 (try simp only [zz])
 refine wV 3 rfl hS0 hT0 ?_
 (try simp only [zz])
 refine wV 4 rfl hS0 hT0 ?_
 (try simp only [zz])
 refine wV 5 rfl hS0 hT0 ?_
 (try simp only [zz])
 refine w1 6 rfl fun K hK=>?_
 go_simp
 go_at_call 45
 refine (spec_l4Clause xs (worldOK HTOK.out.ok) t (zB4 HTOK.out.ty) wd q4 g _ FX HRd.out (by omega) HXd.out UXd.out (fun h=>by have:=HFX.out g h;omega)).mono ?_
 rintro e C1 ⟨c,csA,FA,q5,rfl,hc1,hf1,hn1,-,hr1,hq1,hq⟩
 obtain ⟨cA,ccap,hcs⟩:=zAV hc1
 subst hcs
 have hC1:Chg [g,w.heap.size,w.heap.size+1] wb C1:=hC0.trans (hq.mono (by simp))
 have K11:=jj (K1d.out.same (hq.block _ K1d.out.lt (by rw [zy1];omega)))
 have K21:=jj (K2d.out.same (hq.block _ K2d.out.lt (by rw [zy1];omega)))
 have HX1:=jj (ArrDt.mono HXd.out (hq.kept UXd.out (fun b hb h=>by rw [zy1] at h;have:=HFX.out b hb;omega)))
 have UX1:=jj (UXd.out.mono hq.size)
 have HP1:=jj hc1
 have HF1:=jj hf1
 have HR1:=jj hr1
 have hz1:=hq.size
 clear hc1 hf1 hr1 hq K1d K2d HXd UXd HRd
 (try dsimp only)
 refine hK.out _ _ (HS.out _ hC1) (fun _=>trivial) ?_
 clear hK K
 (try simp only [zz])
 refine w1 7 rfl fun K hK=>?_
 go_simp
 obtain ⟨C2,hX⟩:∃ X,X=C1.alloc (.cells #[c.pat.op,c.pat.ct,c.pat.n,c.pat.m,c.pat.va,.slice cA c.pat.ks.length ccap,c.gd.op,c.gd.va,c.gd.n] 55):=⟨_,rfl⟩
 obtain ⟨H,hH⟩:∃ X,X=C1.heap.size:=⟨_,rfl⟩
 have hb2:Below C1 C1 C2:=by rw [hX];exact (zy2 _ _).alloc (zz8 _) _
 have KH2:Hid (Blk C2 H 55 #[c.pat.op,c.pat.ct,c.pat.n,c.pat.m,c.pat.va,.slice cA c.pat.ks.length ccap,c.gd.op,c.gd.va,c.gd.n]):=by rw [hX,hH];exact Blk.new _ _ _
 rw [←hX,←hH]
 clear hX
 have hC2:Chg [g,w.heap.size,w.heap.size+1] wb C2:=hC1.step hb2
 have K12:=jj (K11.out.same (hb2.block _ K11.out.lt))
 have K22:=jj (K21.out.same (hb2.block _ K21.out.lt))
 have HX2:=jj (ArrDt.below HX1.out hb2 UX1.out)
 have UX2:=jj (UX1.out.mono hb2.size)
 have HP2:=jj (ClR.below HP1.out hb2 (fun b hb=>(HF1.out b hb).1))
 have HR2:=jj (HR1.out.below hb2)
 have hz2:=hb2.size
 have HL2:Hid (Arr C2 (ClR C2) [c] (.slice (some ⟨H,0,none⟩) 1 1) (H :: FA)):=arr_cl1 KH2.out HP2.out
 have hHl:=KH2.out.lt
 have UL2:Hid (Under C2 (H :: FA)):=fun b hb=>by
  rcases List.mem_cons.1 hb with e | h
  ·rw [e];exact hHl
  ·exact zz9 (HF1.out b h).1 hz2
 have NL2:Hid (∀ b∈H :: FA,w3.heap.size≤b∧b≠g):=fun b hb=>by
  rcases List.mem_cons.1 hb with e | h
  ·rw [e];omega
  ·have:=(HF1.out b h).2;exact ⟨by omega,this.1⟩
 clear hb2 hH hC1 K11 K21 HX1 UX1 HP1 HR1 HP2 KH2
 (try dsimp only)
 refine hK.out _ _ (HS.out _ hC2) (fun _=>trivial) ?_
 clear hK K
 (try simp only [zz])
 refine w1 8 rfl fun K hK=>?_
 go_simp
 go_at_call 41
 refine (spec_l4Mutate [c] (by simp) 512 (by omega) (fun x hx=>by rw [List.mem_singleton.1 hx];exact hn1) C2 q5 g HR2.out (by omega) _ (H :: FA) HL2.out UL2.out (fun b hb=>(NL2.out b hb).2)).mono ?_
 rintro e C3 ⟨ds,dv,Fd,q6,rfl,hd3,hfd3,-,hln3,hnd3,-,-,hq⟩
 have hC3:Chg [g,w.heap.size,w.heap.size+1] wb C3:=hC2.trans (hq.mono (by simp))
 have K13:=jj (K12.out.same (hq.block _ K12.out.lt (by rw [zy1];omega)))
 have K23:=jj (K22.out.same (hq.block _ K22.out.lt (by rw [zy1];omega)))
 have HX3:=jj (ArrDt.mono HX2.out (hq.kept UX2.out (fun b hb h=>by rw [zy1] at h;have:=HFX.out b hb;omega)))
 have UX3:=jj (UX2.out.mono hq.size)
 have hz3:=hq.size
 have hpos:0<ds.length:=by have h:=hln3;simp only [List.length_cons,List.length_nil] at h;omega
 have hposI:(0:Int)<(ds.length:Int):=by omega
 obtain ⟨dA,dcap,rfl,-,-⟩:=hd3.form
 obtain ⟨db,doff,rfl⟩:=hd3.ptr (by omega)
 obtain ⟨eA,ecap,Gd,hdb,p0,p1,p2,p3,p4,p5,p6,p7,p8,hcl3,hG3⟩:=ArrCl.top hd3 (fun b hb=>(hfd3 b hb).1) hpos
 have hnd0:=hnd3 ds[0] (List.getElem_mem hpos)
 generalize ds[0]=d at p0 p1 p2 p3 p4 p5 p6 p7 p8 hcl3 hnd0
 have HCL3:=jj hcl3
 have hdlt:db<C3.heap.size:=(hfd3 db hdb).1
 have HFP:Hid (∀ x∈[db],w3.heap.size≤x):=fun x hx=>by
  rw [List.mem_singleton.1 hx]
  rcases (hfd3 db hdb).2.2 with h | h
  ·exact (NL2.out _ h).1
  ·omega
 have HND:=jj hnd0
 have UD3:Hid (Under C3 Gd):=fun b hb=>(hfd3 b (hG3 b hb)).1
 have HFD:Hid (∀ b∈Gd,w3.heap.size≤b):=fun b hb=>by
  rcases (hfd3 b (hG3 b hb)).2.2 with h | h
  ·exact (NL2.out b h).1
  ·omega
 clear hd3 hfd3 hnd3 hcl3 hnd0 hG3 hq hC2 K12 K22 HX2 UX2 HL2 UL2 HR2 hln3
 (try dsimp only)
 refine hK.out _ _ (HS.out _ hC3) (fun _=>trivial) ?_
 clear hK K
 (try simp only [zz])
 have hS3:=HS.out _ hC3
 refine wV 11 rfl hS3 hT0 ?_
 (try simp only [zz])
 refine wV 9 rfl hS3 hT0 ?_
 (try simp only [zz])
 refine wR (rs:=[10,12]) (by kernel_rfl) (by simp) ?_
 refine AllReadyB.c rfl (fun K hK=>?_) (AllReadyB.c rfl (fun K hK=>?_) AllReadyB.n)
 focus
  skip
  go_simp
  (try dsimp only)
  refine hK.out _ _ (hS3) (fun _=>trivial) ?_
  clear hK K
  (try simp only [zz])
  clear p0 p1 p2 p3 p4 p5 p6 p7 p8 hdb hdlt hS3
  refine w1 12 rfl fun K hK=>?_
  have yy0:C3.cell? ⟨w,0,none⟩=some (.int .i64 0):=(K13.out.cell 0).trans (by simp)
  have ff0:=K13.out.frozen 0
  have yy1:C3.cell? ⟨w,1,none⟩=some (.int .i64 0):=(K13.out.cell 1).trans (by simp)
  have ff1:=K13.out.frozen 1
  have yylt:=K13.out.lt
  have hC4:Chg [g,w.heap.size,w.heap.size+1] wb ((C3.setCell ⟨w,0,none⟩ (.int .i64 t.d)).setCell ⟨w,1,none⟩ (.int .i64 t.i)):=((hC3.set (by simp)).set (by simp))
  have KK4:Hid (Blk ((C3.setCell ⟨w,0,none⟩ (.int .i64 t.d)).setCell ⟨w,1,none⟩ (.int .i64 t.i)) (w.heap.size) 25 #[t.d,t.i]):=((K13.out.set_ 0 _).set_ 1 _)
  have K234:Hid (Blk ((C3.setCell ⟨w,0,none⟩ (.int .i64 t.d)).setCell ⟨w,1,none⟩ (.int .i64 t.i)) (w.heap.size+1) 55 #[(0:Int),(0:Int),(0:Int),(0:Int),(0:Int),.slice none 0 0,(0:Int),(0:Int),(0:Int)]):=((K23.out.same (zz7 _ _ _ _ (by show w.heap.size+1≠w.heap.size;omega))).same (zz7 _ _ _ _ (by show w.heap.size+1≠w.heap.size;omega)))
  have hz4:(((C3.setCell ⟨w,0,none⟩ (.int .i64 t.d)).setCell ⟨w,1,none⟩ (.int .i64 t.i))).heap.size=C3.heap.size:=by simp [World.setCell]
  have hkX4:Kept FX C3 ((C3.setCell ⟨w,0,none⟩ (.int .i64 t.d)).setCell ⟨w,1,none⟩ (.int .i64 t.i)):=fun x hx=>by rw [zz7 _ _ _ _ (by show x≠w.heap.size;have:=HFX.out x hx;omega),zz7 _ _ _ _ (by show x≠w.heap.size;have:=HFX.out x hx;omega)]
  have hkD4:Kept Gd C3 ((C3.setCell ⟨w,0,none⟩ (.int .i64 t.d)).setCell ⟨w,1,none⟩ (.int .i64 t.i)):=fun x hx=>by rw [zz7 _ _ _ _ (by show x≠w.heap.size;have:=HFD.out x hx;omega),zz7 _ _ _ _ (by show x≠w.heap.size;have:=HFD.out x hx;omega)]
  have hkP4:Kept [db] C3 ((C3.setCell ⟨w,0,none⟩ (.int .i64 t.d)).setCell ⟨w,1,none⟩ (.int .i64 t.i)):=fun x hx=>by rw [zz7 _ _ _ _ (by show x≠w.heap.size;have:=HFP.out x hx;omega),zz7 _ _ _ _ (by show x≠w.heap.size;have:=HFP.out x hx;omega)]
  go_simp
  refine hK.out _ _ (HS.out _ hC4) (fun _=>trivial) ?_
  clear hK K
  (try simp only [zz])
  clear yy0 ff0 yy1 ff1 yylt
  obtain ⟨C4,hX⟩:∃ X,X=((C3.setCell ⟨w,0,none⟩ (.int .i64 t.d)).setCell ⟨w,1,none⟩ (.int .i64 t.i)):=⟨_,rfl⟩
  rw [←hX] at hC4 KK4 K234 hz4 hkX4 hkD4 hkP4 ⊢
  clear hX
 rotate_left
 focus
  skip
  have yy0:C3.cell? ⟨w,0,none⟩=some (.int .i64 0):=(K13.out.cell 0).trans (by simp)
  have ff0:=K13.out.frozen 0
  have yy1:C3.cell? ⟨w,1,none⟩=some (.int .i64 0):=(K13.out.cell 1).trans (by simp)
  have ff1:=K13.out.frozen 1
  have yylt:=K13.out.lt
  have hC4:Chg [g,w.heap.size,w.heap.size+1] wb ((C3.setCell ⟨w,0,none⟩ (.int .i64 t.d)).setCell ⟨w,1,none⟩ (.int .i64 t.i)):=((hC3.set (by simp)).set (by simp))
  have KK4:Hid (Blk ((C3.setCell ⟨w,0,none⟩ (.int .i64 t.d)).setCell ⟨w,1,none⟩ (.int .i64 t.i)) (w.heap.size) 25 #[t.d,t.i]):=((K13.out.set_ 0 _).set_ 1 _)
  have K234:Hid (Blk ((C3.setCell ⟨w,0,none⟩ (.int .i64 t.d)).setCell ⟨w,1,none⟩ (.int .i64 t.i)) (w.heap.size+1) 55 #[(0:Int),(0:Int),(0:Int),(0:Int),(0:Int),.slice none 0 0,(0:Int),(0:Int),(0:Int)]):=((K23.out.same (zz7 _ _ _ _ (by show w.heap.size+1≠w.heap.size;omega))).same (zz7 _ _ _ _ (by show w.heap.size+1≠w.heap.size;omega)))
  have hz4:(((C3.setCell ⟨w,0,none⟩ (.int .i64 t.d)).setCell ⟨w,1,none⟩ (.int .i64 t.i))).heap.size=C3.heap.size:=by simp [World.setCell]
  have hkX4:Kept FX C3 ((C3.setCell ⟨w,0,none⟩ (.int .i64 t.d)).setCell ⟨w,1,none⟩ (.int .i64 t.i)):=fun x hx=>by rw [zz7 _ _ _ _ (by show x≠w.heap.size;have:=HFX.out x hx;omega),zz7 _ _ _ _ (by show x≠w.heap.size;have:=HFX.out x hx;omega)]
  have hkD4:Kept Gd C3 ((C3.setCell ⟨w,0,none⟩ (.int .i64 t.d)).setCell ⟨w,1,none⟩ (.int .i64 t.i)):=fun x hx=>by rw [zz7 _ _ _ _ (by show x≠w.heap.size;have:=HFD.out x hx;omega),zz7 _ _ _ _ (by show x≠w.heap.size;have:=HFD.out x hx;omega)]
  have hkP4:Kept [db] C3 ((C3.setCell ⟨w,0,none⟩ (.int .i64 t.d)).setCell ⟨w,1,none⟩ (.int .i64 t.i)):=fun x hx=>by rw [zz7 _ _ _ _ (by show x≠w.heap.size;have:=HFP.out x hx;omega),zz7 _ _ _ _ (by show x≠w.heap.size;have:=HFP.out x hx;omega)]
  go_simp
  refine hK.out _ _ (HS.out _ hC4) (fun _=>trivial) ?_
  clear hK K
  (try simp only [zz])
  clear yy0 ff0 yy1 ff1 yylt
  obtain ⟨C4,hX⟩:∃ X,X=((C3.setCell ⟨w,0,none⟩ (.int .i64 t.d)).setCell ⟨w,1,none⟩ (.int .i64 t.i)):=⟨_,rfl⟩
  rw [←hX] at hC4 KK4 K234 hz4 hkX4 hkD4 hkP4 ⊢
  clear hX
  have hblk:=hkP4 db (by simp)
  have t0:C4.cell? ⟨db,doff,none⟩=d.pat.op:=(World.cell?_of_block (w:=C3) hblk).trans p0
  have t1:C4.cell? ⟨db,doff+1,none⟩=d.pat.ct:=(World.cell?_of_block (w:=C3) hblk).trans p1
  have t2:C4.cell? ⟨db,doff+2,none⟩=d.pat.n:=(World.cell?_of_block (w:=C3) hblk).trans p2
  have t3:C4.cell? ⟨db,doff+3,none⟩=d.pat.m:=(World.cell?_of_block (w:=C3) hblk).trans p3
  have t4:C4.cell? ⟨db,doff+4,none⟩=d.pat.va:=(World.cell?_of_block (w:=C3) hblk).trans p4
  have t5:C4.cell? ⟨db,doff+5,none⟩=some (.slice eA d.pat.ks.length ecap):=(World.cell?_of_block (w:=C3) hblk).trans p5
  have t6:C4.cell? ⟨db,doff+6,none⟩=d.gd.op:=(World.cell?_of_block (w:=C3) hblk).trans p6
  have t7:C4.cell? ⟨db,doff+7,none⟩=d.gd.va:=(World.cell?_of_block (w:=C3) hblk).trans p7
  have t8:C4.cell? ⟨db,doff+8,none⟩=d.gd.n:=(World.cell?_of_block (w:=C3) hblk).trans p8
  have tlt:db<C4.heap.size:=by omega
  clear p0 p1 p2 p3 p4 p5 p6 p7 p8 hdb hdlt hblk hS3
  refine w1 10 rfl fun K hK=>?_
  go_simp
  (try dsimp only)
  refine hK.out _ _ (HS.out _ hC4) (fun _=>trivial) ?_
  clear hK K
  (try simp only [zz])
  clear t0 t1 t2 t3 t4 t5 t6 t7 t8 tlt
 rotate_left
 all_goals (
  refine w1 13 rfl fun K hK=>?_
  have yy0:C4.cell? ⟨w.heap.size+1,0,none⟩=some (.int .i64 0):=(K234.out.cell 0).trans (by simp)
  have ff0:=K234.out.frozen 0
  have yy1:C4.cell? ⟨w.heap.size+1,1,none⟩=some (.int .i64 0):=(K234.out.cell 1).trans (by simp)
  have ff1:=K234.out.frozen 1
  have yy2:C4.cell? ⟨w.heap.size+1,2,none⟩=some (.int .i64 0):=(K234.out.cell 2).trans (by simp)
  have ff2:=K234.out.frozen 2
  have yy3:C4.cell? ⟨w.heap.size+1,3,none⟩=some (.int .i64 0):=(K234.out.cell 3).trans (by simp)
  have ff3:=K234.out.frozen 3
  have yy4:C4.cell? ⟨w.heap.size+1,4,none⟩=some (.int .i64 0):=(K234.out.cell 4).trans (by simp)
  have ff4:=K234.out.frozen 4
  have yy5:C4.cell? ⟨w.heap.size+1,5,none⟩=some (.slice none 0 0):=(K234.out.cell 5).trans (by simp)
  have ff5:=K234.out.frozen 5
  have yy6:C4.cell? ⟨w.heap.size+1,6,none⟩=some (.int .i64 0):=(K234.out.cell 6).trans (by simp)
  have ff6:=K234.out.frozen 6
  have yy7:C4.cell? ⟨w.heap.size+1,7,none⟩=some (.int .i64 0):=(K234.out.cell 7).trans (by simp)
  have ff7:=K234.out.frozen 7
  have yy8:C4.cell? ⟨w.heap.size+1,8,none⟩=some (.int .i64 0):=(K234.out.cell 8).trans (by simp)
  have ff8:=K234.out.frozen 8
  have yylt:=K234.out.lt
  have hC5:Chg [g,w.heap.size,w.heap.size+1] wb (((((((((C4.setCell ⟨w.heap.size+1,0,none⟩ (.int .i64 d.pat.op)).setCell ⟨w.heap.size+1,1,none⟩ (.int .i64 d.pat.ct)).setCell ⟨w.heap.size+1,2,none⟩ (.int .i64 d.pat.n)).setCell ⟨w.heap.size+1,3,none⟩ (.int .i64 d.pat.m)).setCell ⟨w.heap.size+1,4,none⟩ (.int .i64 d.pat.va)).setCell ⟨w.heap.size+1,5,none⟩ (.slice eA d.pat.ks.length ecap)).setCell ⟨w.heap.size+1,6,none⟩ (.int .i64 d.gd.op)).setCell ⟨w.heap.size+1,7,none⟩ (.int .i64 d.gd.va)).setCell ⟨w.heap.size+1,8,none⟩ (.int .i64 d.gd.n)):=(((((((((hC4.set (by simp)).set (by simp)).set (by simp)).set (by simp)).set (by simp)).set (by simp)).set (by simp)).set (by simp)).set (by simp))
  have KK5:Hid (Blk (((((((((C4.setCell ⟨w.heap.size+1,0,none⟩ (.int .i64 d.pat.op)).setCell ⟨w.heap.size+1,1,none⟩ (.int .i64 d.pat.ct)).setCell ⟨w.heap.size+1,2,none⟩ (.int .i64 d.pat.n)).setCell ⟨w.heap.size+1,3,none⟩ (.int .i64 d.pat.m)).setCell ⟨w.heap.size+1,4,none⟩ (.int .i64 d.pat.va)).setCell ⟨w.heap.size+1,5,none⟩ (.slice eA d.pat.ks.length ecap)).setCell ⟨w.heap.size+1,6,none⟩ (.int .i64 d.gd.op)).setCell ⟨w.heap.size+1,7,none⟩ (.int .i64 d.gd.va)).setCell ⟨w.heap.size+1,8,none⟩ (.int .i64 d.gd.n)) (w.heap.size+1) 55 #[d.pat.op,d.pat.ct,d.pat.n,d.pat.m,d.pat.va,.slice eA d.pat.ks.length ecap,d.gd.op,d.gd.va,d.gd.n]):=(K234.out.nine _ _ _ _ _ _ _ _ _)
  have KK45:Hid (Blk (((((((((C4.setCell ⟨w.heap.size+1,0,none⟩ (.int .i64 d.pat.op)).setCell ⟨w.heap.size+1,1,none⟩ (.int .i64 d.pat.ct)).setCell ⟨w.heap.size+1,2,none⟩ (.int .i64 d.pat.n)).setCell ⟨w.heap.size+1,3,none⟩ (.int .i64 d.pat.m)).setCell ⟨w.heap.size+1,4,none⟩ (.int .i64 d.pat.va)).setCell ⟨w.heap.size+1,5,none⟩ (.slice eA d.pat.ks.length ecap)).setCell ⟨w.heap.size+1,6,none⟩ (.int .i64 d.gd.op)).setCell ⟨w.heap.size+1,7,none⟩ (.int .i64 d.gd.va)).setCell ⟨w.heap.size+1,8,none⟩ (.int .i64 d.gd.n)) (w.heap.size) 25 #[t.d,t.i]):=(((((((((KK4.out.same (zz7 _ _ _ _ (by show w.heap.size≠w.heap.size+1;omega))).same (zz7 _ _ _ _ (by show w.heap.size≠w.heap.size+1;omega))).same (zz7 _ _ _ _ (by show w.heap.size≠w.heap.size+1;omega))).same (zz7 _ _ _ _ (by show w.heap.size≠w.heap.size+1;omega))).same (zz7 _ _ _ _ (by show w.heap.size≠w.heap.size+1;omega))).same (zz7 _ _ _ _ (by show w.heap.size≠w.heap.size+1;omega))).same (zz7 _ _ _ _ (by show w.heap.size≠w.heap.size+1;omega))).same (zz7 _ _ _ _ (by show w.heap.size≠w.heap.size+1;omega))).same (zz7 _ _ _ _ (by show w.heap.size≠w.heap.size+1;omega)))
  have hz5:((((((((((C4.setCell ⟨w.heap.size+1,0,none⟩ (.int .i64 d.pat.op)).setCell ⟨w.heap.size+1,1,none⟩ (.int .i64 d.pat.ct)).setCell ⟨w.heap.size+1,2,none⟩ (.int .i64 d.pat.n)).setCell ⟨w.heap.size+1,3,none⟩ (.int .i64 d.pat.m)).setCell ⟨w.heap.size+1,4,none⟩ (.int .i64 d.pat.va)).setCell ⟨w.heap.size+1,5,none⟩ (.slice eA d.pat.ks.length ecap)).setCell ⟨w.heap.size+1,6,none⟩ (.int .i64 d.gd.op)).setCell ⟨w.heap.size+1,7,none⟩ (.int .i64 d.gd.va)).setCell ⟨w.heap.size+1,8,none⟩ (.int .i64 d.gd.n))).heap.size=C4.heap.size:=by simp [World.setCell]
  have hkX5:Kept FX C4 (((((((((C4.setCell ⟨w.heap.size+1,0,none⟩ (.int .i64 d.pat.op)).setCell ⟨w.heap.size+1,1,none⟩ (.int .i64 d.pat.ct)).setCell ⟨w.heap.size+1,2,none⟩ (.int .i64 d.pat.n)).setCell ⟨w.heap.size+1,3,none⟩ (.int .i64 d.pat.m)).setCell ⟨w.heap.size+1,4,none⟩ (.int .i64 d.pat.va)).setCell ⟨w.heap.size+1,5,none⟩ (.slice eA d.pat.ks.length ecap)).setCell ⟨w.heap.size+1,6,none⟩ (.int .i64 d.gd.op)).setCell ⟨w.heap.size+1,7,none⟩ (.int .i64 d.gd.va)).setCell ⟨w.heap.size+1,8,none⟩ (.int .i64 d.gd.n)):=fun x hx=>by rw [zz7 _ _ _ _ (by show x≠w.heap.size+1;have:=HFX.out x hx;omega),zz7 _ _ _ _ (by show x≠w.heap.size+1;have:=HFX.out x hx;omega),zz7 _ _ _ _ (by show x≠w.heap.size+1;have:=HFX.out x hx;omega),zz7 _ _ _ _ (by show x≠w.heap.size+1;have:=HFX.out x hx;omega),zz7 _ _ _ _ (by show x≠w.heap.size+1;have:=HFX.out x hx;omega),zz7 _ _ _ _ (by show x≠w.heap.size+1;have:=HFX.out x hx;omega),zz7 _ _ _ _ (by show x≠w.heap.size+1;have:=HFX.out x hx;omega),zz7 _ _ _ _ (by show x≠w.heap.size+1;have:=HFX.out x hx;omega),zz7 _ _ _ _ (by show x≠w.heap.size+1;have:=HFX.out x hx;omega)]
  have hkD5:Kept Gd C4 (((((((((C4.setCell ⟨w.heap.size+1,0,none⟩ (.int .i64 d.pat.op)).setCell ⟨w.heap.size+1,1,none⟩ (.int .i64 d.pat.ct)).setCell ⟨w.heap.size+1,2,none⟩ (.int .i64 d.pat.n)).setCell ⟨w.heap.size+1,3,none⟩ (.int .i64 d.pat.m)).setCell ⟨w.heap.size+1,4,none⟩ (.int .i64 d.pat.va)).setCell ⟨w.heap.size+1,5,none⟩ (.slice eA d.pat.ks.length ecap)).setCell ⟨w.heap.size+1,6,none⟩ (.int .i64 d.gd.op)).setCell ⟨w.heap.size+1,7,none⟩ (.int .i64 d.gd.va)).setCell ⟨w.heap.size+1,8,none⟩ (.int .i64 d.gd.n)):=fun x hx=>by rw [zz7 _ _ _ _ (by show x≠w.heap.size+1;have:=HFD.out x hx;omega),zz7 _ _ _ _ (by show x≠w.heap.size+1;have:=HFD.out x hx;omega),zz7 _ _ _ _ (by show x≠w.heap.size+1;have:=HFD.out x hx;omega),zz7 _ _ _ _ (by show x≠w.heap.size+1;have:=HFD.out x hx;omega),zz7 _ _ _ _ (by show x≠w.heap.size+1;have:=HFD.out x hx;omega),zz7 _ _ _ _ (by show x≠w.heap.size+1;have:=HFD.out x hx;omega),zz7 _ _ _ _ (by show x≠w.heap.size+1;have:=HFD.out x hx;omega),zz7 _ _ _ _ (by show x≠w.heap.size+1;have:=HFD.out x hx;omega),zz7 _ _ _ _ (by show x≠w.heap.size+1;have:=HFD.out x hx;omega)]
  have hkP5:Kept [db] C4 (((((((((C4.setCell ⟨w.heap.size+1,0,none⟩ (.int .i64 d.pat.op)).setCell ⟨w.heap.size+1,1,none⟩ (.int .i64 d.pat.ct)).setCell ⟨w.heap.size+1,2,none⟩ (.int .i64 d.pat.n)).setCell ⟨w.heap.size+1,3,none⟩ (.int .i64 d.pat.m)).setCell ⟨w.heap.size+1,4,none⟩ (.int .i64 d.pat.va)).setCell ⟨w.heap.size+1,5,none⟩ (.slice eA d.pat.ks.length ecap)).setCell ⟨w.heap.size+1,6,none⟩ (.int .i64 d.gd.op)).setCell ⟨w.heap.size+1,7,none⟩ (.int .i64 d.gd.va)).setCell ⟨w.heap.size+1,8,none⟩ (.int .i64 d.gd.n)):=fun x hx=>by rw [zz7 _ _ _ _ (by show x≠w.heap.size+1;have:=HFP.out x hx;omega),zz7 _ _ _ _ (by show x≠w.heap.size+1;have:=HFP.out x hx;omega),zz7 _ _ _ _ (by show x≠w.heap.size+1;have:=HFP.out x hx;omega),zz7 _ _ _ _ (by show x≠w.heap.size+1;have:=HFP.out x hx;omega),zz7 _ _ _ _ (by show x≠w.heap.size+1;have:=HFP.out x hx;omega),zz7 _ _ _ _ (by show x≠w.heap.size+1;have:=HFP.out x hx;omega),zz7 _ _ _ _ (by show x≠w.heap.size+1;have:=HFP.out x hx;omega),zz7 _ _ _ _ (by show x≠w.heap.size+1;have:=HFP.out x hx;omega),zz7 _ _ _ _ (by show x≠w.heap.size+1;have:=HFP.out x hx;omega)]
  go_simp
  refine hK.out _ _ (HS.out _ hC5) (fun _=>trivial) ?_
  clear hK K
  (try simp only [zz])
  clear yy0 ff0 yy1 ff1 yy2 ff2 yy3 ff3 yy4 ff4 yy5 ff5 yy6 ff6 yy7 ff7 yy8 ff8 yylt
  obtain ⟨C5,hX⟩:∃ X,X=(((((((((C4.setCell ⟨w.heap.size+1,0,none⟩ (.int .i64 d.pat.op)).setCell ⟨w.heap.size+1,1,none⟩ (.int .i64 d.pat.ct)).setCell ⟨w.heap.size+1,2,none⟩ (.int .i64 d.pat.n)).setCell ⟨w.heap.size+1,3,none⟩ (.int .i64 d.pat.m)).setCell ⟨w.heap.size+1,4,none⟩ (.int .i64 d.pat.va)).setCell ⟨w.heap.size+1,5,none⟩ (.slice eA d.pat.ks.length ecap)).setCell ⟨w.heap.size+1,6,none⟩ (.int .i64 d.gd.op)).setCell ⟨w.heap.size+1,7,none⟩ (.int .i64 d.gd.va)).setCell ⟨w.heap.size+1,8,none⟩ (.int .i64 d.gd.n)):=⟨_,rfl⟩
  rw [←hX] at hC5 KK5 KK45 hz5 hkX5 hkD5 hkP5 ⊢
  clear hX
  refine wE (by kernel_rfl) ?_
  clear hS0 hT0
  have HFin:Hid (DrewWTC w (.returned (.tuple #[.slice xA xs.length xcap,.agg #[t.d,t.i],.agg #[d.pat.op,d.pat.ct,d.pat.n,d.pat.m,d.pat.va,.slice eA d.pat.ks.length ecap,d.gd.op,d.gd.va,d.gd.n]])) C5):=by
   have hz:C5.heap.size=C3.heap.size:=by rw [hz5,hz4]
   refine ⟨xs,_,FX,t,d,[d.pat.op,d.pat.ct,d.pat.n,d.pat.m,d.pat.va,.slice eA d.pat.ks.length ecap,d.gd.op,d.gd.va,d.gd.n],Gd,rfl,HBb.out.trans (hC5.below (by intro x hx;simp at hx;omega) HBb.out.size),ArrDt.mono (ArrDt.mono HX3.out hkX4) hkX5,?_,ClR.mono _ _ _ hkD5 (ClR.mono _ _ _ hkD4 HCL3.out),?_,by have:=HND.out;omega⟩
   ·rw [hz];exact UX3.out
   ·rw [hz];exact UD3.out
  clear hkX4 hkX5 hkD4 hkD5 hkP4 hkP5 hC3 hC4 hC5 hC0
  go_wp2
  refine bodyPost_ret (zAR rfl _ _ (w.heap.size) (w.heap.size+1) 25 55 #[t.d,t.i] #[d.pat.op,d.pat.ct,d.pat.n,d.pat.m,d.pat.va,.slice eA d.pat.ks.length ecap,d.gd.op,d.gd.va,d.gd.n] (0,0) (0,0) _ _ rfl KK45.out Try.underlying25 rfl rfl rfl KK5.out Try.underlying55 rfl rfl) rfl ?_
  exact HFin.out)
mutual
def P.same:P→P→Bool
 |⟨op,ct,n,m,va,ks⟩,⟨op',ct',n',m',va',ks'⟩=>(op==op') && (ct==ct') && (n==n') && (m==m') && (va==va') && P.sames ks ks'
def P.sames:List P→List P→Bool
 |[],[]=>true
 |x :: xs,y :: ys=>P.same x y && P.sames xs ys
 |[],_ :: _=>false
 |_ :: _,[]=>false
end
theorem P.sames_iff_of (ks:List P) (h:∀ k∈ks,∀ b,P.same k b=true↔k=b):∀ ks',P.sames ks ks'=true↔ks=ks':=by
 induction ks with
 |nil=>intro ks';cases ks' <;> simp [P.sames]
 |cons x xs ih =>
  intro ks'
  cases ks' with
  |nil=>simp [P.sames]
  |cons y ys =>
   simp only [P.sames,Bool.and_eq_true,List.cons.injEq]
   rw [h x (by simp) y,ih (fun k hk=>h k (by simp [hk])) ys]
theorem P.same_iff:∀ a b:P,P.same a b=true↔a=b:=P.ind fun op ct n m va ks ih b=>by
 obtain ⟨op',ct',n',m',va',ks'⟩:=b
 simp only [P.same,Bool.and_eq_true,P.sames_iff_of ks ih,beq_iff_eq,P.mk.injEq,and_assoc]
theorem P.same_false {a b:P} (h:a≠b):P.same a b=false:=by
 rw [Bool.eq_false_iff]
 exact fun e=>h ((P.same_iff a b).1 e)
def SameSpecP (a:P):Prop:=∀ (b:P) (w:World) (cs ds:List Value) (F G:List Nat),PR w a cs F→PR w b ds G→Under w F→Under w G →
 Calls Try.prog 47 #[.agg cs.toArray,.agg ds.toArray] w fun e w'=>e=.returned (.bool (P.same a b))∧Below w w w'
theorem spec_PatternSame_all:∀ a,SameSpecP a:=P.ind fun op ct n m va ks ih b w cs ds F G hv hv' hF hG=>by
 obtain ⟨op',ct',n',m',va',ks'⟩:=b
 obtain ⟨kv,rfl,hk⟩:=(zA4 _ _ _).1 hv
 obtain ⟨kv',rfl,hk'⟩:=(zA4 _ _ _).1 hv'
 have IH:=jj ih
 clear ih hv hv'
 have HK:=jj hk
 have HK':=jj hk'
 obtain ⟨A,cap,rfl,hc1,hc2⟩:=hk.form
 obtain ⟨A',cap',rfl,hc3,hc4⟩:=hk'.form
 clear hk hk'
 have HF:=jj hF
 have HG:=jj hG
 clear hF hG
 by_cases e0:op=op'
 ·subst e0
  have t0:(op != op)=false:=by simp
  have s0:(op==op)=true:=by simp
  by_cases e1:ct=ct'
  ·subst e1
   have t1:(ct != ct)=false:=by simp
   have s1:(ct==ct)=true:=by simp
   by_cases e2:n=n'
   ·subst e2
    have t2:(n != n)=false:=by simp
    have s2:(n==n)=true:=by simp
    by_cases e3:m=m'
    ·subst e3
     have t3:(m != m)=false:=by simp
     have s3:(m==m)=true:=by simp
     by_cases e4:va=va'
     ·subst e4
      have t4:(va != va)=false:=by simp
      have s4:(va==va)=true:=by simp
      by_cases hl:ks.length=ks'.length
      ·have tl:((ks.length:Int) != (ks'.length:Int))=false:=by rw [hl];simp
       have HL:=jj hl
       have hle1:ks.length≤ks'.length:=by omega
       have hle2:ks'.length≤ks.length:=by omega
       clear hl
       go_enter Try.func47,Try.ntmps47
       go_wp2
       obtain ⟨W2,hW2⟩:∃ W2,W2=(w.alloc (.cells #[.int .i64 op,.int .i64 ct,.int .i64 n,.int .i64 m,.int .i64 va,.slice A ks.length cap] 28)).alloc (.cells #[.int .i64 op,.int .i64 ct,.int .i64 n,.int .i64 m,.int .i64 va,.slice A' ks'.length cap'] 28):=⟨_,rfl⟩
       have hB2:Below w w W2:=by rw [hW2];exact ((zy2 _ _).alloc (zz8 _) _).alloc (by simp) _
       have hz2:W2.heap.size=w.heap.size+2:=by rw [hW2];simp
       have k1:Blk W2 w 28 #[.int .i64 op,.int .i64 ct,.int .i64 n,.int .i64 m,.int .i64 va,.slice A ks.length cap]:=by rw [hW2];exact (Blk.new w _ _).same (Below.heap_alloc _ _ _ (by simp))
       have k2:Blk W2 (w.heap.size+1) 28 #[.int .i64 op,.int .i64 ct,.int .i64 n,.int .i64 m,.int .i64 va,.slice A' ks'.length cap']:=by rw [hW2];have:=Blk.new (w.alloc (.cells #[.int .i64 op,.int .i64 ct,.int .i64 n,.int .i64 m,.int .i64 va,.slice A ks.length cap] 28)) 28 #[.int .i64 op,.int .i64 ct,.int .i64 n,.int .i64 m,.int .i64 va,.slice A' ks'.length cap'];simpa using this
       rw [←hW2]
       clear hW2
       have K1:=jj k1
       have K2:=jj k2
       have HZ2:=jj hz2
       clear k1 k2 hz2
       go_loopw [5] (fun i wr=>∃ k:Nat,k≤ks.length∧i=.int .i64 k∧Hid (ks.take k=ks'.take k)∧Below W2 W2 wr) (fun i _=>ks.length-(intOf i).toNat)
       case atStart=>exact ⟨0,Nat.zero_le _,rfl,rfl,zy2 _ _⟩
       case round =>
        obtain ⟨k,hk,rfl,HT,hB1⟩:=hrel
        have hB:=hB2.trans (hB1.mono hB2.size)
        have hszr:w.heap.size+2≤wr.heap.size:=by have:=hB1.size;have:=HZ2.out;omega
        have x2:wr.cell? ⟨w,5,none⟩=some (.slice A ks.length cap):=((K1.out.same (hB1.block _ (by have:=HZ2.out;omega))).cell 5).trans (by simp)
        have y2:wr.cell? ⟨w.heap.size+1,5,none⟩=some (.slice A' ks'.length cap'):=((K2.out.same (hB1.block _ (by have:=HZ2.out;omega))).cell 5).trans (by simp)
        by_cases hlt:k<ks.length
        ·have hlt':k<ks'.length:=by omega
         obtain ⟨b,off,cs,F1,rfl,hb,hcs,hv,hF1⟩:=HK.out.get PR_len hlt
         obtain ⟨b',off',ds,G1,rfl,hb',hds,hv',hG1⟩:=HK'.out.get PR_len hlt'
         have hv1:=hv.below hB (HF.out.sub hF1)
         have hv2:=hv'.below hB (HG.out.sub hG1)
         have hbl:=HF.out b hb
         have hbl':=HG.out b' hb'
         have hcs1:=hcs.same (hB.block b hbl)
         have hds1:=hds.same (hB.block b' hbl')
         obtain ⟨kv,rfl,hka⟩:=(zA4 _ _ _).1 hv
         obtain ⟨kv',rfl,hka'⟩:=(zA4 _ _ _).1 hv'
         obtain ⟨A1,cap1,rfl,-,-⟩:=hka.form
         obtain ⟨A2,cap2,rfl,-,-⟩:=hka'.form
         have c0:=hcs1 0 _ rfl
         have c1:=hcs1 1 _ rfl
         have c2:=hcs1 2 _ rfl
         have c3:=hcs1 3 _ rfl
         have c4:=hcs1 4 _ rfl
         have c5:=hcs1 5 _ rfl
         have d0:=hds1 0 _ rfl
         have d1:=hds1 1 _ rfl
         have d2:=hds1 2 _ rfl
         have d3:=hds1 3 _ rfl
         have d4:=hds1 4 _ rfl
         have d5:=hds1 5 _ rfl
         simp only [Nat.add_zero] at c0 d0
         clear hcs hcs1 hv hds hds1 hv' hka hka'
         have HV:=jj hv1
         have HV2:=jj hv2
         have HF1:=jj (HF.out.sub hF1)
         have HG1:=jj (HG.out.sub hG1)
         clear hv1 hv2 hF1 hG1
         by_cases he:ks[k]=ks'[k]
         ·have hsame:P.same ks[k] ks'[k]=true:=(P.same_iff _ _).2 he
          have hT2:Hid (ks.take (k+1)=ks'.take (k+1)):=by rw [take_snoc' ks k hlt,take_snoc' ks' k hlt',HT.out,he];rfl
          clear he
          go_wp2_with fail
          have hkeep:∀ U U':World,(U.cell? ⟨w,5,none⟩=some (.slice (some ⟨b,off,none⟩) ks.length cap)∧U.cell? ⟨w.heap.size+1,5,none⟩=some (.slice (some ⟨b',off',none⟩) ks'.length cap')∧U.cell? ⟨b,off+k*6,none⟩=ks[k].op∧U.cell? ⟨b,off+k*6+1,none⟩=ks[k].ct∧U.cell? ⟨b,off+k*6+2,none⟩=ks[k].n∧U.cell? ⟨b,off+k*6+3,none⟩=ks[k].m∧U.cell? ⟨b,off+k*6+4,none⟩=ks[k].va∧U.cell? ⟨b,off+k*6+5,none⟩=some (.slice A1 ks[k].ks.length cap1)∧U.cell? ⟨b',off'+k*6,none⟩=ks'[k].op∧U.cell? ⟨b',off'+k*6+1,none⟩=ks'[k].ct∧U.cell? ⟨b',off'+k*6+2,none⟩=ks'[k].n∧U.cell? ⟨b',off'+k*6+3,none⟩=ks'[k].m∧U.cell? ⟨b',off'+k*6+4,none⟩=ks'[k].va∧U.cell? ⟨b',off'+k*6+5,none⟩=some (.slice A2 ks'[k].ks.length cap2))→Below U U U'→wr.heap.size≤U.heap.size→(U'.cell? ⟨w,5,none⟩=some (.slice (some ⟨b,off,none⟩) ks.length cap)∧U'.cell? ⟨w.heap.size+1,5,none⟩=some (.slice (some ⟨b',off',none⟩) ks'.length cap')∧U'.cell? ⟨b,off+k*6,none⟩=ks[k].op∧U'.cell? ⟨b,off+k*6+1,none⟩=ks[k].ct∧U'.cell? ⟨b,off+k*6+2,none⟩=ks[k].n∧U'.cell? ⟨b,off+k*6+3,none⟩=ks[k].m∧U'.cell? ⟨b,off+k*6+4,none⟩=ks[k].va∧U'.cell? ⟨b,off+k*6+5,none⟩=some (.slice A1 ks[k].ks.length cap1)∧U'.cell? ⟨b',off'+k*6,none⟩=ks'[k].op∧U'.cell? ⟨b',off'+k*6+1,none⟩=ks'[k].ct∧U'.cell? ⟨b',off'+k*6+2,none⟩=ks'[k].n∧U'.cell? ⟨b',off'+k*6+3,none⟩=ks'[k].m∧U'.cell? ⟨b',off'+k*6+4,none⟩=ks'[k].va∧U'.cell? ⟨b',off'+k*6+5,none⟩=some (.slice A2 ks'[k].ks.length cap2)):=fun U U' h hb hU=>⟨(hb.cell (zz9 (show w.heap.size<wr.heap.size from by omega) hU)).trans h.1,(hb.cell (zz9 (show w.heap.size+1<wr.heap.size from by omega) hU)).trans h.2.1,(hb.cell (zz9 (show b<wr.heap.size from by omega) hU)).trans h.2.2.1,(hb.cell (zz9 (show b<wr.heap.size from by omega) hU)).trans h.2.2.2.1,(hb.cell (zz9 (show b<wr.heap.size from by omega) hU)).trans h.2.2.2.2.1,(hb.cell (zz9 (show b<wr.heap.size from by omega) hU)).trans h.2.2.2.2.2.1,(hb.cell (zz9 (show b<wr.heap.size from by omega) hU)).trans h.2.2.2.2.2.2.1,(hb.cell (zz9 (show b<wr.heap.size from by omega) hU)).trans h.2.2.2.2.2.2.2.1,(hb.cell (zz9 (show b'<wr.heap.size from by omega) hU)).trans h.2.2.2.2.2.2.2.2.1,(hb.cell (zz9 (show b'<wr.heap.size from by omega) hU)).trans h.2.2.2.2.2.2.2.2.2.1,(hb.cell (zz9 (show b'<wr.heap.size from by omega) hU)).trans h.2.2.2.2.2.2.2.2.2.2.1,(hb.cell (zz9 (show b'<wr.heap.size from by omega) hU)).trans h.2.2.2.2.2.2.2.2.2.2.2.1,(hb.cell (zz9 (show b'<wr.heap.size from by omega) hU)).trans h.2.2.2.2.2.2.2.2.2.2.2.2.1,(hb.cell (zz9 (show b'<wr.heap.size from by omega) hU)).trans h.2.2.2.2.2.2.2.2.2.2.2.2.2⟩
          have HKeep:=jj hkeep
          clear hkeep
          go_region_held3 (fun w'=>w'.cell? ⟨w,5,none⟩=some (.slice (some ⟨b,off,none⟩) ks.length cap)∧w'.cell? ⟨w.heap.size+1,5,none⟩=some (.slice (some ⟨b',off',none⟩) ks'.length cap')∧w'.cell? ⟨b,off+k*6,none⟩=ks[k].op∧w'.cell? ⟨b,off+k*6+1,none⟩=ks[k].ct∧w'.cell? ⟨b,off+k*6+2,none⟩=ks[k].n∧w'.cell? ⟨b,off+k*6+3,none⟩=ks[k].m∧w'.cell? ⟨b,off+k*6+4,none⟩=ks[k].va∧w'.cell? ⟨b,off+k*6+5,none⟩=some (.slice A1 ks[k].ks.length cap1)∧w'.cell? ⟨b',off'+k*6,none⟩=ks'[k].op∧w'.cell? ⟨b',off'+k*6+1,none⟩=ks'[k].ct∧w'.cell? ⟨b',off'+k*6+2,none⟩=ks'[k].n∧w'.cell? ⟨b',off'+k*6+3,none⟩=ks'[k].m∧w'.cell? ⟨b',off'+k*6+4,none⟩=ks'[k].va∧w'.cell? ⟨b',off'+k*6+5,none⟩=some (.slice A2 ks'[k].ks.length cap2)) (first | assumption | (exact ⟨x2,y2,c0,c1,c2,c3,c4,c5,d0,d1,d2,d3,d4,d5⟩) | (exact HKeep.out wr.drew w' ⟨x2,y2,c0,c1,c2,c3,c4,c5,d0,d1,d2,d3,d4,d5⟩ hB' (zz8 _))) (first | (go_at_call 47;refine (IH.out _ (List.getElem_mem hlt) ks'[k] _ _ _ F1 G1 HV.out.drew HV2.out.drew (HF1.out.mono hB.size) (HG1.out.mono hB.size)).mono ?_;rintro e w' ⟨rfl,hB'⟩;rw [hsame]))
          have hB3:=hB1.drew.trans (hB'.mono hB1.size)
          go_wp2
          go_roundw
          case rel=>exact ⟨k+1,by omega,by go_num,hT2,hB3⟩
          case measure=>simp [intOf];omega
         ·have hsame:P.same ks[k] ks'[k]=false:=P.same_false he
          have hf:=jj (P.same_false (a:=⟨op,ct,n,m,va,ks⟩) (b:=⟨op,ct,n,m,va,ks'⟩) (fun h=>he (by injection h;simp_all)))
          clear he
          go_wp2_with fail
          have hkeep:∀ U U':World,(U.cell? ⟨w,5,none⟩=some (.slice (some ⟨b,off,none⟩) ks.length cap)∧U.cell? ⟨w.heap.size+1,5,none⟩=some (.slice (some ⟨b',off',none⟩) ks'.length cap')∧U.cell? ⟨b,off+k*6,none⟩=ks[k].op∧U.cell? ⟨b,off+k*6+1,none⟩=ks[k].ct∧U.cell? ⟨b,off+k*6+2,none⟩=ks[k].n∧U.cell? ⟨b,off+k*6+3,none⟩=ks[k].m∧U.cell? ⟨b,off+k*6+4,none⟩=ks[k].va∧U.cell? ⟨b,off+k*6+5,none⟩=some (.slice A1 ks[k].ks.length cap1)∧U.cell? ⟨b',off'+k*6,none⟩=ks'[k].op∧U.cell? ⟨b',off'+k*6+1,none⟩=ks'[k].ct∧U.cell? ⟨b',off'+k*6+2,none⟩=ks'[k].n∧U.cell? ⟨b',off'+k*6+3,none⟩=ks'[k].m∧U.cell? ⟨b',off'+k*6+4,none⟩=ks'[k].va∧U.cell? ⟨b',off'+k*6+5,none⟩=some (.slice A2 ks'[k].ks.length cap2))→Below U U U'→wr.heap.size≤U.heap.size→(U'.cell? ⟨w,5,none⟩=some (.slice (some ⟨b,off,none⟩) ks.length cap)∧U'.cell? ⟨w.heap.size+1,5,none⟩=some (.slice (some ⟨b',off',none⟩) ks'.length cap')∧U'.cell? ⟨b,off+k*6,none⟩=ks[k].op∧U'.cell? ⟨b,off+k*6+1,none⟩=ks[k].ct∧U'.cell? ⟨b,off+k*6+2,none⟩=ks[k].n∧U'.cell? ⟨b,off+k*6+3,none⟩=ks[k].m∧U'.cell? ⟨b,off+k*6+4,none⟩=ks[k].va∧U'.cell? ⟨b,off+k*6+5,none⟩=some (.slice A1 ks[k].ks.length cap1)∧U'.cell? ⟨b',off'+k*6,none⟩=ks'[k].op∧U'.cell? ⟨b',off'+k*6+1,none⟩=ks'[k].ct∧U'.cell? ⟨b',off'+k*6+2,none⟩=ks'[k].n∧U'.cell? ⟨b',off'+k*6+3,none⟩=ks'[k].m∧U'.cell? ⟨b',off'+k*6+4,none⟩=ks'[k].va∧U'.cell? ⟨b',off'+k*6+5,none⟩=some (.slice A2 ks'[k].ks.length cap2)):=fun U U' h hb hU=>⟨(hb.cell (zz9 (show w.heap.size<wr.heap.size from by omega) hU)).trans h.1,(hb.cell (zz9 (show w.heap.size+1<wr.heap.size from by omega) hU)).trans h.2.1,(hb.cell (zz9 (show b<wr.heap.size from by omega) hU)).trans h.2.2.1,(hb.cell (zz9 (show b<wr.heap.size from by omega) hU)).trans h.2.2.2.1,(hb.cell (zz9 (show b<wr.heap.size from by omega) hU)).trans h.2.2.2.2.1,(hb.cell (zz9 (show b<wr.heap.size from by omega) hU)).trans h.2.2.2.2.2.1,(hb.cell (zz9 (show b<wr.heap.size from by omega) hU)).trans h.2.2.2.2.2.2.1,(hb.cell (zz9 (show b<wr.heap.size from by omega) hU)).trans h.2.2.2.2.2.2.2.1,(hb.cell (zz9 (show b'<wr.heap.size from by omega) hU)).trans h.2.2.2.2.2.2.2.2.1,(hb.cell (zz9 (show b'<wr.heap.size from by omega) hU)).trans h.2.2.2.2.2.2.2.2.2.1,(hb.cell (zz9 (show b'<wr.heap.size from by omega) hU)).trans h.2.2.2.2.2.2.2.2.2.2.1,(hb.cell (zz9 (show b'<wr.heap.size from by omega) hU)).trans h.2.2.2.2.2.2.2.2.2.2.2.1,(hb.cell (zz9 (show b'<wr.heap.size from by omega) hU)).trans h.2.2.2.2.2.2.2.2.2.2.2.2.1,(hb.cell (zz9 (show b'<wr.heap.size from by omega) hU)).trans h.2.2.2.2.2.2.2.2.2.2.2.2.2⟩
          have HKeep:=jj hkeep
          clear hkeep
          go_region_held3 (fun w'=>w'.cell? ⟨w,5,none⟩=some (.slice (some ⟨b,off,none⟩) ks.length cap)∧w'.cell? ⟨w.heap.size+1,5,none⟩=some (.slice (some ⟨b',off',none⟩) ks'.length cap')∧w'.cell? ⟨b,off+k*6,none⟩=ks[k].op∧w'.cell? ⟨b,off+k*6+1,none⟩=ks[k].ct∧w'.cell? ⟨b,off+k*6+2,none⟩=ks[k].n∧w'.cell? ⟨b,off+k*6+3,none⟩=ks[k].m∧w'.cell? ⟨b,off+k*6+4,none⟩=ks[k].va∧w'.cell? ⟨b,off+k*6+5,none⟩=some (.slice A1 ks[k].ks.length cap1)∧w'.cell? ⟨b',off'+k*6,none⟩=ks'[k].op∧w'.cell? ⟨b',off'+k*6+1,none⟩=ks'[k].ct∧w'.cell? ⟨b',off'+k*6+2,none⟩=ks'[k].n∧w'.cell? ⟨b',off'+k*6+3,none⟩=ks'[k].m∧w'.cell? ⟨b',off'+k*6+4,none⟩=ks'[k].va∧w'.cell? ⟨b',off'+k*6+5,none⟩=some (.slice A2 ks'[k].ks.length cap2)) (first | assumption | (exact ⟨x2,y2,c0,c1,c2,c3,c4,c5,d0,d1,d2,d3,d4,d5⟩) | (exact HKeep.out wr.drew w' ⟨x2,y2,c0,c1,c2,c3,c4,c5,d0,d1,d2,d3,d4,d5⟩ hB' (zz8 _))) (first | (go_at_call 47;refine (IH.out _ (List.getElem_mem hlt) ks'[k] _ _ _ F1 G1 HV.out.drew HV2.out.drew (HF1.out.mono hB.size) (HG1.out.mono hB.size)).mono ?_;rintro e w' ⟨rfl,hB'⟩;rw [hsame]))
          have hB3:=hB.drew.trans (hB'.mono hB.size)
          go_wp2
          go_ret
          exact ⟨zA0 hf.out.symm,hB3⟩
        ·have hT:=HT.out
         rw [List.take_of_length_le (by omega),List.take_of_length_le (by omega)] at hT
         have hf:=jj ((P.same_iff ⟨op,ct,n,m,va,ks⟩ ⟨op,ct,n,m,va,ks'⟩).2 (by rw [hT]))
         clear hT
         go_wp2
         go_ret
         exact ⟨zA0 hf.out.symm,hB⟩
      ·have tl:((ks.length:Int) != (ks'.length:Int))=true:=by rw [bne_iff_ne];omega
       have hf:=jj (P.same_false (a:=⟨op,ct,n,m,va,ks⟩) (b:=⟨op,ct,n,m,va,ks'⟩) (fun h=>hl (by injection h;simp_all)))
       clear hl
       go_enter Try.func47,Try.ntmps47
       go_wp2
       go_ret
       exact ⟨zA0 hf.out.symm,((zy2 _ _).alloc (zz8 _) _).alloc (by simp) _⟩
     ·have t4:(va != va')=true:=by simpa using e4
      have s4:(va==va')=false:=by simpa using e4
      have hf:=jj (P.same_false (a:=⟨op,ct,n,m,va,ks⟩) (b:=⟨op,ct,n,m,va',ks'⟩) (fun h=>e4 (by injection h)))
      clear e4
      go_enter Try.func47,Try.ntmps47
      go_wp2
      go_ret
      exact ⟨zA0 hf.out.symm,((zy2 _ _).alloc (zz8 _) _).alloc (by simp) _⟩
    ·have t3:(m != m')=true:=by simpa using e3
     have s3:(m==m')=false:=by simpa using e3
     have hf:=jj (P.same_false (a:=⟨op,ct,n,m,va,ks⟩) (b:=⟨op,ct,n,m',va',ks'⟩) (fun h=>e3 (by injection h)))
     clear e3
     go_enter Try.func47,Try.ntmps47
     go_wp2
     go_ret
     exact ⟨zA0 hf.out.symm,((zy2 _ _).alloc (zz8 _) _).alloc (by simp) _⟩
   ·have t2:(n != n')=true:=by simpa using e2
    have s2:(n==n')=false:=by simpa using e2
    have hf:=jj (P.same_false (a:=⟨op,ct,n,m,va,ks⟩) (b:=⟨op,ct,n',m',va',ks'⟩) (fun h=>e2 (by injection h)))
    clear e2
    go_enter Try.func47,Try.ntmps47
    go_wp2
    go_ret
    exact ⟨zA0 hf.out.symm,((zy2 _ _).alloc (zz8 _) _).alloc (by simp) _⟩
  ·have t1:(ct != ct')=true:=by simpa using e1
   have s1:(ct==ct')=false:=by simpa using e1
   have hf:=jj (P.same_false (a:=⟨op,ct,n,m,va,ks⟩) (b:=⟨op,ct',n',m',va',ks'⟩) (fun h=>e1 (by injection h)))
   clear e1
   go_enter Try.func47,Try.ntmps47
   go_wp2
   go_ret
   exact ⟨zA0 hf.out.symm,((zy2 _ _).alloc (zz8 _) _).alloc (by simp) _⟩
 ·have t0:(op != op')=true:=by simpa using e0
  have s0:(op==op')=false:=by simpa using e0
  have hf:=jj (P.same_false (a:=⟨op,ct,n,m,va,ks⟩) (b:=⟨op',ct',n',m',va',ks'⟩) (fun h=>e0 (by injection h)))
  clear e0
  go_enter Try.func47,Try.ntmps47
  go_wp2
  go_ret
  exact ⟨zA0 hf.out.symm,((zy2 _ _).alloc (zz8 _) _).alloc (by simp) _⟩
theorem spec_PatternSame (a b:P) (w:World) (cs ds:List Value) (F G:List Nat) (hx:PR w a cs F) (hy:PR w b ds G) (hF:Under w F) (hG:Under w G) :
  Calls Try.prog 47 #[.agg cs.toArray,.agg ds.toArray] w fun e w'=>e=.returned (.bool (P.same a b))∧Below w w w':=spec_PatternSame_all a b w cs ds F G hx hy hF hG
theorem P.sames_iff (ks ks':List P):P.sames ks ks'=true↔ks=ks':=P.sames_iff_of ks (fun k _=>P.same_iff k) ks'
theorem P.sames_false {ks ks':List P} (h:ks≠ks'):P.sames ks ks'=false:=by
 rw [Bool.eq_false_iff]
 exact fun e=>h ((P.sames_iff ks ks').1 e)
def SameImplP (a:P):Prop:=∀ (b:P) (w:World) (cs ds:List Value) (F G:List Nat),PR w a cs F→PR w b ds G→Under w F→Under w G →
 Calls Try.prog 10 #[.agg cs.toArray,.agg ds.toArray] w fun e w'=>e=.returned (.bool (P.same a b))∧Below w w w'
theorem EqualFunc_ofP (ks:List P) (ih:∀ k∈ks,SameImplP k) (ks':List P) (w:World) (x y:Value) (F G:List Nat) (hx:Arr w (PR w) ks x F) (hy:Arr w (PR w) ks' y G) (hF:Under w F) (hG:Under w G) :
  Calls Try.prog 31 #[x,y,.func (.func 10) #[] #[]] w fun e w'=>e=.returned (.bool (P.sames ks ks'))∧Below w w w':=by
 have HX:=jj hx
 have HY:=jj hy
 obtain ⟨A,cap,rfl,hc1,hc2⟩:=hx.form
 obtain ⟨A',cap',rfl,hc3,hc4⟩:=hy.form
 clear hx hy
 have IH:=jj ih
 clear ih
 have HF:=jj hF
 have HG:=jj hG
 clear hF hG
 by_cases hl:ks.length=ks'.length
 ·have tl:((ks.length:Int) != (ks'.length:Int))=false:=by rw [hl];simp
  have HL:=jj hl
  have hle1:ks.length≤ks'.length:=by omega
  have hle2:ks'.length≤ks.length:=by omega
  clear hl
  go_enter Try.func31,Try.ntmps31
  go_wp2
  go_loopw [17] (fun i wr=>∃ k:Nat,k≤ks.length∧i=.int .i64 k∧Hid (ks.take k=ks'.take k)∧Below w w wr) (fun i _=>ks.length-(intOf i).toNat)
  case atStart=>exact ⟨0,Nat.zero_le _,rfl,rfl,zy2 _ _⟩
  case round =>
   obtain ⟨k,hk,rfl,HT,hB⟩:=hrel
   by_cases hlt:k<ks.length
   ·have hlt':k<ks'.length:=by omega
    obtain ⟨b,off,cs,F1,rfl,hb,hcs,hv,hF1⟩:=HX.out.get PR_len hlt
    obtain ⟨b',off',ds,G1,rfl,hb',hds,hv',hG1⟩:=HY.out.get PR_len hlt'
    have hv1:=hv.below hB (HF.out.sub hF1)
    have hv2:=hv'.below hB (HG.out.sub hG1)
    have hbl:=zz9 (HF.out b hb) hB.size
    have hbl':=zz9 (HG.out b' hb') hB.size
    have hcs1:=hcs.same (hB.block b (HF.out b hb))
    have hds1:=hds.same (hB.block b' (HG.out b' hb'))
    obtain ⟨kv,rfl,hka⟩:=(zA4 _ _ _).1 hv
    obtain ⟨kv',rfl,hka'⟩:=(zA4 _ _ _).1 hv'
    obtain ⟨A1,cap1,rfl,-,-⟩:=hka.form
    obtain ⟨A2,cap2,rfl,-,-⟩:=hka'.form
    have c0:=hcs1 0 _ rfl
    have c1:=hcs1 1 _ rfl
    have c2:=hcs1 2 _ rfl
    have c3:=hcs1 3 _ rfl
    have c4:=hcs1 4 _ rfl
    have c5:=hcs1 5 _ rfl
    have d0:=hds1 0 _ rfl
    have d1:=hds1 1 _ rfl
    have d2:=hds1 2 _ rfl
    have d3:=hds1 3 _ rfl
    have d4:=hds1 4 _ rfl
    have d5:=hds1 5 _ rfl
    simp only [Nat.add_zero] at c0 d0
    clear hcs hcs1 hv hds hds1 hv' hka hka'
    have HV:=jj hv1
    have HV2:=jj hv2
    have HF1:=jj (HF.out.sub hF1)
    have HG1:=jj (HG.out.sub hG1)
    clear hv1 hv2 hF1 hG1
    go_wp2_with fail
    obtain ⟨W2,hW2⟩:∃ W2,W2=(wr.alloc (.cells #[ks[k].op,ks[k].ct,ks[k].n,ks[k].m,ks[k].va,.slice A1 ks[k].ks.length cap1] 28)).alloc (.cells #[ks'[k].op,ks'[k].ct,ks'[k].n,ks'[k].m,ks'[k].va,.slice A2 ks'[k].ks.length cap2] 28):=⟨_,rfl⟩
    have hb2:Below wr wr W2:=by rw [hW2];exact ((zy2 _ _).alloc (zz8 _) _).alloc (by simp) _
    rw [←hW2]
    clear hW2
    have hB2:=hB.trans (hb2.mono hB.size)
    refine (IH.out _ (List.getElem_mem hlt) ks'[k] W2 _ _ F1 G1 (HV.out.below hb2 (HF1.out.mono hB.size)) (HV2.out.below hb2 (HG1.out.mono hB.size)) (HF1.out.mono hB2.size) (HG1.out.mono hB2.size)).mono ?_
    rintro e w' ⟨rfl,hB'⟩
    have hB3:=hB2.trans (hB'.mono hB2.size)
    by_cases he:ks[k]=ks'[k]
    ·rw [(P.same_iff _ _).2 he]
     have hT2:Hid (ks.take (k+1)=ks'.take (k+1)):=by rw [take_snoc' ks k hlt,take_snoc' ks' k hlt',HT.out,he];rfl
     clear he
     go_wp2
     go_roundw
     case rel=>exact ⟨k+1,by omega,by go_num,hT2,hB3⟩
     case measure=>simp [intOf];omega
    ·rw [P.same_false he]
     have hf:=jj (P.sames_false (ks:=ks) (ks':=ks') (fun h=>he (by simp only [h])))
     clear he
     go_wp2
     go_ret
     exact ⟨zA0 hf.out.symm,hB3⟩
   ·have hT:=HT.out
    rw [List.take_of_length_le (by omega),List.take_of_length_le (by omega)] at hT
    have hf:=jj ((P.sames_iff ks ks').2 hT)
    clear hT
    go_wp2
    go_ret
    exact ⟨zA0 hf.out.symm,hB⟩
 ·have tl:((ks.length:Int) != (ks'.length:Int))=true:=by rw [bne_iff_ne];omega
  have hf:=jj (P.sames_false (ks:=ks) (ks':=ks') (fun h=>hl (by rw [h])))
  clear hl
  go_enter Try.func31,Try.ntmps31
  go_wp2
  go_ret
  exact ⟨zA0 hf.out.symm,zy2 _ _⟩
theorem impl_PatternSame_all:∀ a,SameImplP a:=P.ind fun op ct n m va ks ih b w cs ds F G hv hv' hF hG=>by
 obtain ⟨op',ct',n',m',va',ks'⟩:=b
 obtain ⟨kv,rfl,hk⟩:=(zA4 _ _ _).1 hv
 obtain ⟨kv',rfl,hk'⟩:=(zA4 _ _ _).1 hv'
 have IH:=jj ih
 clear ih hv hv'
 have HK:=jj hk
 have HK':=jj hk'
 obtain ⟨A,cap,rfl,hc1,hc2⟩:=hk.form
 obtain ⟨A',cap',rfl,hc3,hc4⟩:=hk'.form
 clear hk hk'
 have HF:=jj hF
 have HG:=jj hG
 clear hF hG
 by_cases e0:op=op'
 ·subst e0
  have t0:(op != op)=false:=by simp
  have s0:(op==op)=true:=by simp
  by_cases e1:ct=ct'
  ·subst e1
   have t1:(ct != ct)=false:=by simp
   have s1:(ct==ct)=true:=by simp
   by_cases e2:n=n'
   ·subst e2
    have t2:(n != n)=false:=by simp
    have s2:(n==n)=true:=by simp
    by_cases e3:m=m'
    ·subst e3
     have t3:(m != m)=false:=by simp
     have s3:(m==m)=true:=by simp
     by_cases e4:va=va'
     ·subst e4
      have t4:(va != va)=false:=by simp
      have s4:(va==va)=true:=by simp
      go_enter Try.func10,Try.ntmps10
      go_wp2_with fail
      obtain ⟨W2,hW2⟩:∃ W2,W2=(w.alloc (.cells #[.int .i64 op,.int .i64 ct,.int .i64 n,.int .i64 m,.int .i64 va,.slice A ks.length cap] 28)).alloc (.cells #[.int .i64 op,.int .i64 ct,.int .i64 n,.int .i64 m,.int .i64 va,.slice A' ks'.length cap'] 28):=⟨_,rfl⟩
      have hB2:Below w w W2:=by rw [hW2];exact ((zy2 _ _).alloc (zz8 _) _).alloc (by simp) _
      rw [←hW2]
      clear hW2
      refine (EqualFunc_ofP ks IH.out ks' W2 _ _ F G (ArrP.below HK.out hB2 HF.out) (ArrP.below HK'.out hB2 HG.out) (HF.out.mono hB2.size) (HG.out.mono hB2.size)).mono ?_
      rintro e w' ⟨rfl,hB'⟩
      have hB3:=hB2.trans (hB'.mono hB2.size)
      have hf:Hid (P.sames ks ks'=P.same ⟨op,ct,n,m,va,ks⟩ ⟨op,ct,n,m,va,ks'⟩):=by simp [Hid,P.same]
      generalize P.sames ks ks'=bb at *
      go_wp2
      go_ret
      exact ⟨zA0 hf.out,hB3⟩
     ·have t4:(va != va')=true:=by simpa using e4
      have s4:(va==va')=false:=by simpa using e4
      have hf:=jj (P.same_false (a:=⟨op,ct,n,m,va,ks⟩) (b:=⟨op,ct,n,m,va',ks'⟩) (fun h=>e4 (by injection h)))
      clear e4
      go_enter Try.func10,Try.ntmps10
      go_wp2
      go_ret
      exact ⟨zA0 hf.out.symm,((zy2 _ _).alloc (zz8 _) _).alloc (by simp) _⟩
    ·have t3:(m != m')=true:=by simpa using e3
     have s3:(m==m')=false:=by simpa using e3
     have hf:=jj (P.same_false (a:=⟨op,ct,n,m,va,ks⟩) (b:=⟨op,ct,n,m',va',ks'⟩) (fun h=>e3 (by injection h)))
     clear e3
     go_enter Try.func10,Try.ntmps10
     go_wp2
     go_ret
     exact ⟨zA0 hf.out.symm,((zy2 _ _).alloc (zz8 _) _).alloc (by simp) _⟩
   ·have t2:(n != n')=true:=by simpa using e2
    have s2:(n==n')=false:=by simpa using e2
    have hf:=jj (P.same_false (a:=⟨op,ct,n,m,va,ks⟩) (b:=⟨op,ct,n',m',va',ks'⟩) (fun h=>e2 (by injection h)))
    clear e2
    go_enter Try.func10,Try.ntmps10
    go_wp2
    go_ret
    exact ⟨zA0 hf.out.symm,((zy2 _ _).alloc (zz8 _) _).alloc (by simp) _⟩
  ·have t1:(ct != ct')=true:=by simpa using e1
   have s1:(ct==ct')=false:=by simpa using e1
   have hf:=jj (P.same_false (a:=⟨op,ct,n,m,va,ks⟩) (b:=⟨op,ct',n',m',va',ks'⟩) (fun h=>e1 (by injection h)))
   clear e1
   go_enter Try.func10,Try.ntmps10
   go_wp2
   go_ret
   exact ⟨zA0 hf.out.symm,((zy2 _ _).alloc (zz8 _) _).alloc (by simp) _⟩
 ·have t0:(op != op')=true:=by simpa using e0
  have s0:(op==op')=false:=by simpa using e0
  have hf:=jj (P.same_false (a:=⟨op,ct,n,m,va,ks⟩) (b:=⟨op',ct',n',m',va',ks'⟩) (fun h=>e0 (by injection h)))
  clear e0
  go_enter Try.func10,Try.ntmps10
  go_wp2
  go_ret
  exact ⟨zA0 hf.out.symm,((zy2 _ _).alloc (zz8 _) _).alloc (by simp) _⟩
theorem impl_PatternSame (a b:P) (w:World) (cs ds:List Value) (F G:List Nat) (hx:PR w a cs F) (hy:PR w b ds G) (hF:Under w F) (hG:Under w G) :
  Calls Try.prog 10 #[.agg cs.toArray,.agg ds.toArray] w fun e w'=>e=.returned (.bool (P.same a b))∧Below w w w':=impl_PatternSame_all a b w cs ds F G hx hy hF hG
def Gd.same (a b:Gd):Bool:=a.op==b.op && (a.va==b.va && a.n==b.n)
theorem Gd.same_iff (a b:Gd):Gd.same a b=true↔a=b:=by
 unfold Gd.same
 rw [Bool.and_eq_true,Bool.and_eq_true,beq_iff_eq,beq_iff_eq,beq_iff_eq]
 constructor
 ·rintro ⟨h1,h2,h3⟩;exact Gd.ext h1 h2 h3
 ·rintro rfl;exact ⟨rfl,rfl,rfl⟩
def Cl.same (a b:Cl):Bool:=Gd.same a.gd b.gd && P.same a.pat b.pat
theorem Cl.same_iff (a b:Cl):Cl.same a b=true↔a=b:=by
 unfold Cl.same
 rw [Bool.and_eq_true,Gd.same_iff,P.same_iff]
 constructor
 ·rintro ⟨h1,h2⟩;exact Cl.ext h2 h1
 ·rintro rfl;exact ⟨rfl,rfl⟩
theorem sameClause_closure (a b:Cl) (w:World) (cs ds:List Value) (F G:List Nat) (hv:ClR w a cs F) (hv':ClR w b ds G) (hF:Under w F) (hG:Under w G) :
  Calls Try.prog 43 #[.agg cs.toArray,.agg ds.toArray] w fun e w'=>e=.returned (.bool (Cl.same a b))∧Below w w w':=by
 obtain ⟨pv,rfl,ha⟩:=hv
 obtain ⟨pv',rfl,ha'⟩:=hv'
 have HX:=jj ha
 have HY:=jj ha'
 obtain ⟨kv,rfl,hk⟩:=(zA4 _ _ _).1 ha
 obtain ⟨kv',rfl,hk'⟩:=(zA4 _ _ _).1 ha'
 obtain ⟨A,cap,rfl,-,-⟩:=hk.form
 obtain ⟨A',cap',rfl,-,-⟩:=hk'.form
 clear ha ha' hk hk'
 have HF:=jj hF
 have HG:=jj hG
 clear hF hG
 go_enter Try.func43,Try.ntmps43
 go_wp2_with fail
 obtain ⟨W2,hW2⟩:∃ W2,W2=(w.alloc (.cells #[a.pat.op,a.pat.ct,a.pat.n,a.pat.m,a.pat.va,.slice A a.pat.ks.length cap,a.gd.op,a.gd.va,a.gd.n] 55)).alloc (.cells #[b.pat.op,b.pat.ct,b.pat.n,b.pat.m,b.pat.va,.slice A' b.pat.ks.length cap',b.gd.op,b.gd.va,b.gd.n] 55):=⟨_,rfl⟩
 have hB2:Below w w W2:=by rw [hW2];exact ((zy2 _ _).alloc (zz8 _) _).alloc (by simp) _
 have k1:Blk W2 w 55 #[a.pat.op,a.pat.ct,a.pat.n,a.pat.m,a.pat.va,.slice A a.pat.ks.length cap,a.gd.op,a.gd.va,a.gd.n]:=by rw [hW2];exact (Blk.new w _ _).same (Below.heap_alloc _ _ _ (by simp))
 have k2:Blk W2 (w.heap.size+1) 55 #[b.pat.op,b.pat.ct,b.pat.n,b.pat.m,b.pat.va,.slice A' b.pat.ks.length cap',b.gd.op,b.gd.va,b.gd.n]:=by rw [hW2];have:=Blk.new (w.alloc (.cells #[a.pat.op,a.pat.ct,a.pat.n,a.pat.m,a.pat.va,.slice A a.pat.ks.length cap,a.gd.op,a.gd.va,a.gd.n] 55)) 55 #[b.pat.op,b.pat.ct,b.pat.n,b.pat.m,b.pat.va,.slice A' b.pat.ks.length cap',b.gd.op,b.gd.va,b.gd.n];simpa using this
 rw [←hW2]
 clear hW2
 have K1:=jj k1
 have K2:=jj k2
 clear k1 k2
 refine (impl_PatternSame a.pat b.pat W2 _ _ F G (HX.out.below hB2 HF.out) (HY.out.below hB2 HG.out) (HF.out.mono hB2.size) (HG.out.mono hB2.size)).mono ?_
 rintro e w' ⟨rfl,hB'⟩
 have hB3:=hB2.trans (hB'.mono hB2.size)
 cases hp:P.same a.pat b.pat with
 |false =>
  have hf:Hid (Cl.same a b=false):=by unfold Hid Cl.same;rw [hp,Bool.and_false]
  clear hp
  go_wp2
  go_ret
  exact ⟨zA0 hf.out.symm,hB3⟩
 |true =>
  have hc:Cl.same a b=Gd.same a.gd b.gd:=by unfold Cl.same;rw [hp,Bool.and_true]
  clear hp
  unfold Gd.same at hc
  have k1:=K1.out.same (hB'.block _ K1.out.lt)
  have k2:=K2.out.same (hB'.block _ K2.out.lt)
  have x0:w'.cell? ⟨w,0,none⟩=a.pat.op:=(k1.cell 0).trans (by simp)
  have y0:w'.cell? ⟨w.heap.size+1,0,none⟩=b.pat.op:=(k2.cell 0).trans (by simp)
  have x1:w'.cell? ⟨w,1,none⟩=a.pat.ct:=(k1.cell 1).trans (by simp)
  have y1:w'.cell? ⟨w.heap.size+1,1,none⟩=b.pat.ct:=(k2.cell 1).trans (by simp)
  have x2:w'.cell? ⟨w,2,none⟩=a.pat.n:=(k1.cell 2).trans (by simp)
  have y2:w'.cell? ⟨w.heap.size+1,2,none⟩=b.pat.n:=(k2.cell 2).trans (by simp)
  have x3:w'.cell? ⟨w,3,none⟩=a.pat.m:=(k1.cell 3).trans (by simp)
  have y3:w'.cell? ⟨w.heap.size+1,3,none⟩=b.pat.m:=(k2.cell 3).trans (by simp)
  have x4:w'.cell? ⟨w,4,none⟩=a.pat.va:=(k1.cell 4).trans (by simp)
  have y4:w'.cell? ⟨w.heap.size+1,4,none⟩=b.pat.va:=(k2.cell 4).trans (by simp)
  have x5:w'.cell? ⟨w,5,none⟩=some (.slice A a.pat.ks.length cap):=(k1.cell 5).trans (by simp)
  have y5:w'.cell? ⟨w.heap.size+1,5,none⟩=some (.slice A' b.pat.ks.length cap'):=(k2.cell 5).trans (by simp)
  have x6:w'.cell? ⟨w,6,none⟩=a.gd.op:=(k1.cell 6).trans (by simp)
  have y6:w'.cell? ⟨w.heap.size+1,6,none⟩=b.gd.op:=(k2.cell 6).trans (by simp)
  have x7:w'.cell? ⟨w,7,none⟩=a.gd.va:=(k1.cell 7).trans (by simp)
  have y7:w'.cell? ⟨w.heap.size+1,7,none⟩=b.gd.va:=(k2.cell 7).trans (by simp)
  have x8:w'.cell? ⟨w,8,none⟩=a.gd.n:=(k1.cell 8).trans (by simp)
  have y8:w'.cell? ⟨w.heap.size+1,8,none⟩=b.gd.n:=(k2.cell 8).trans (by simp)
  clear k1 k2
  cases e0:(a.gd.op==b.gd.op) with
  |false =>
   have hf:Hid (Cl.same a b=false):=by rw [e0,Bool.false_and] at hc;exact hc
   clear hc
   go_wp2
   go_ret
   exact ⟨zA0 hf.out.symm,hB3⟩
  |true =>
   rw [e0,Bool.true_and] at hc
   cases e1:(a.gd.va==b.gd.va) with
   |false =>
    have hf:Hid (Cl.same a b=false):=by rw [e1,Bool.false_and] at hc;exact hc
    clear hc
    go_wp2
    go_ret
    exact ⟨zA0 hf.out.symm,hB3⟩
   |true =>
    rw [e1,Bool.true_and] at hc
    cases e2:(a.gd.n==b.gd.n) with
    |false =>
     have hf:Hid (Cl.same a b=false):=by rw [e2] at hc;exact hc
     clear hc
     go_wp2
     go_ret
     exact ⟨zA0 hf.out.symm,hB3⟩
    |true =>
     have hf:Hid (Cl.same a b=true):=by rw [e2] at hc;exact hc
     clear hc
     go_wp2
     go_ret
     exact ⟨zA0 hf.out.symm,hB3⟩
theorem EqualFunc_Cl (xs ys:List Cl) (w:World) (x y:Value) (F G:List Nat) (hx:Arr w (ClR w) xs x F) (hy:Arr w (ClR w) ys y G) (hF:Under w F) (hG:Under w G) :
  Calls Try.prog 42 #[x,y,.func (.func 43) #[] #[]] w fun e w'=>e=.returned (.bool (sameBy Cl.same xs ys))∧Below w w w':=by
 have HX:=jj hx
 have HY:=jj hy
 obtain ⟨A,cap,rfl,hc1,hc2⟩:=hx.form
 obtain ⟨A',cap',rfl,hc3,hc4⟩:=hy.form
 clear hx hy
 have HF:=jj hF
 have HG:=jj hG
 clear hF hG
 by_cases hl:xs.length=ys.length
 ·have tl:((xs.length:Int) != (ys.length:Int))=false:=by rw [hl];simp
  have hle1:xs.length≤ys.length:=by omega
  have hle2:ys.length≤xs.length:=by omega
  clear hl
  go_enter Try.func42,Try.ntmps42
  go_wp2
  go_loopw [17] (fun i wr=>∃ k:Nat,k≤xs.length∧i=.int .i64 k∧Hid (sameBy Cl.same xs ys=sameBy Cl.same (xs.drop k) (ys.drop k))∧Below w w wr) (fun i _=>xs.length-(intOf i).toNat)
  case atStart=>exact ⟨0,Nat.zero_le _,rfl,rfl,zy2 _ _⟩
  case round =>
   obtain ⟨k,hk,rfl,HT,hB⟩:=hrel
   by_cases hlt:k<xs.length
   ·have hlt':k<ys.length:=by omega
    have hd:=sameBy_drop (f:=Cl.same) xs ys k hlt hlt'
    have HD:=jj hd
    clear hd
    obtain ⟨b,off,cs,G_,rfl,hb,hcs,hvc,hG_⟩:=HX.out.get ClR_len hlt
    have hbl:=HF.out b hb
    have hGFc:=HF.out.sub hG_
    have hwc:=hvc.below hB hGFc
    have hcsc:=hcs.same (hB.block b hbl)
    obtain ⟨A1,cap1,rfl⟩:=zAV hvc
    have c0:=hcsc 0 _ rfl
    have c1:=hcsc 1 _ rfl
    have c2:=hcsc 2 _ rfl
    have c3:=hcsc 3 _ rfl
    have c4:=hcsc 4 _ rfl
    have c5:=hcsc 5 _ rfl
    have c6:=hcsc 6 _ rfl
    have c7:=hcsc 7 _ rfl
    have c8:=hcsc 8 _ rfl
    simp only [Nat.add_zero] at c0
    clear hcs hcsc hvc hG_
    have HV:=jj hwc
    clear hwc
    have HG_:=jj hGFc
    clear hGFc
    obtain ⟨b2,off2,ds,G2,rfl,hb2,hds,hvd,hG2⟩:=HY.out.get ClR_len hlt'
    have hbl2:=HG.out b2 hb2
    have hGFd:=HG.out.sub hG2
    have hwd:=hvd.below hB hGFd
    have hcsd:=hds.same (hB.block b2 hbl2)
    obtain ⟨A2,cap2,rfl⟩:=zAV hvd
    have d0:=hcsd 0 _ rfl
    have d1:=hcsd 1 _ rfl
    have d2:=hcsd 2 _ rfl
    have d3:=hcsd 3 _ rfl
    have d4:=hcsd 4 _ rfl
    have d5:=hcsd 5 _ rfl
    have d6:=hcsd 6 _ rfl
    have d7:=hcsd 7 _ rfl
    have d8:=hcsd 8 _ rfl
    simp only [Nat.add_zero] at d0
    clear hds hcsd hvd hG2
    have HV2:=jj hwd
    clear hwd
    have HG2:=jj hGFd
    clear hGFd
    have hblw:=zz9 hbl hB.size
    have hblw2:=zz9 hbl2 hB.size
    go_wp2_with fail
    obtain ⟨W2,hW2⟩:∃ W2,W2=(wr.alloc (.cells #[xs[k].pat.op,xs[k].pat.ct,xs[k].pat.n,xs[k].pat.m,xs[k].pat.va,.slice A1 xs[k].pat.ks.length cap1,xs[k].gd.op,xs[k].gd.va,xs[k].gd.n] 55)).alloc (.cells #[ys[k].pat.op,ys[k].pat.ct,ys[k].pat.n,ys[k].pat.m,ys[k].pat.va,.slice A2 ys[k].pat.ks.length cap2,ys[k].gd.op,ys[k].gd.va,ys[k].gd.n] 55):=⟨_,rfl⟩
    have hb2:Below wr wr W2:=by rw [hW2];exact ((zy2 _ _).alloc (zz8 _) _).alloc (by simp) _
    rw [←hW2]
    clear hW2
    have hB2:=hB.trans (hb2.mono hB.size)
    refine (sameClause_closure xs[k] ys[k] W2 _ _ G_ G2 (HV.out.below hb2 (HG_.out.mono hB.size)) (HV2.out.below hb2 (HG2.out.mono hB.size)) (HG_.out.mono hB2.size) (HG2.out.mono hB2.size)).mono ?_
    rintro e w' ⟨rfl,hB'⟩
    have hB3:=hB2.trans (hB'.mono hB2.size)
    cases hs:Cl.same xs[k] ys[k] with
    |true =>
     have hT2:Hid (sameBy Cl.same xs ys=sameBy Cl.same (xs.drop (k+1)) (ys.drop (k+1))):=by have hd:=HD.out;rw [hs,Bool.true_and] at hd;exact HT.out.trans hd
     clear hs
     go_wp2
     go_roundw
     case rel=>exact ⟨k+1,by omega,by go_num,hT2,hB3⟩
     case measure=>simp [intOf];omega
    |false =>
     have hf:Hid (sameBy Cl.same xs ys=false):=by have hd:=HD.out;rw [hs,Bool.false_and] at hd;exact HT.out.trans hd
     clear hs
     go_wp2
     go_ret
     exact ⟨zA0 hf.out.symm,hB3⟩
   ·have hT:=HT.out
    rw [List.drop_of_length_le (by omega),List.drop_of_length_le (by omega)] at hT
    have hf:Hid (sameBy Cl.same xs ys=true):=hT
    clear hT
    go_wp2
    go_ret
    exact ⟨zA0 hf.out.symm,hB⟩
 ·have tl:((xs.length:Int) != (ys.length:Int))=true:=by rw [bne_iff_ne];omega
  have hf:=jj (sameBy_len_false (f:=Cl.same) hl)
  clear hl
  go_enter Try.func42,Try.ntmps42
  go_wp2
  go_ret
  exact ⟨zA0 hf.out.symm,zy2 _ _⟩
theorem impl_ClausesSame (xs ys:List Cl) (w:World) (x y:Value) (F G:List Nat) (hx:Arr w (ClR w) xs x F) (hy:Arr w (ClR w) ys y G) (hF:Under w F) (hG:Under w G) :
  Calls Try.prog 16 #[x,y] w fun e w'=>e=.returned (.bool (sameBy Cl.same xs ys))∧Below w w w':=by
 have HX:=jj hx
 have HY:=jj hy
 obtain ⟨A,cap,rfl,hc1,hc2⟩:=hx.form
 obtain ⟨A',cap',rfl,hc3,hc4⟩:=hy.form
 clear hx hy
 have HF:=jj hF
 have HG:=jj hG
 clear hF hG
 go_enter Try.func16,Try.ntmps16
 go_wp2_with fail
 refine (EqualFunc_Cl xs ys w _ _ F G HX.out HY.out HF.out HG.out).mono ?_
 rintro e w' ⟨rfl,hB'⟩
 generalize hbb:sameBy Cl.same xs ys=bb
 have HBB:=jj hbb
 clear hbb
 go_wp2
 go_ret
 exact ⟨zA0 HBB.out.symm,hB'⟩
theorem ClR_pat {w:World} {x:Cl} {A:Option Addr} {cap:Nat} {F:List Nat} (h:ClR w x [x.pat.op,x.pat.ct,x.pat.n,x.pat.m,x.pat.va,.slice A x.pat.ks.length cap,x.gd.op,x.gd.va,x.gd.n] F):PR w x.pat [x.pat.op,x.pat.ct,x.pat.n,x.pat.m,x.pat.va,.slice A x.pat.ks.length cap] F:=by
 obtain ⟨ds,e,ha⟩:=h
 have ha0:=ha
 obtain ⟨kv,rfl,ha2⟩:=(zA4 _ _ _).1 ha
 obtain ⟨A',cap',rfl,-,-⟩:=ha2.form
 simp at e
 obtain ⟨rfl,rfl⟩:=e
 exact ha0
set_option maxHeartbeats 3200000 in
theorem spec_ClausesSame (xs ys:List Cl) (w:World) (x y:Value) (F G:List Nat) (hx:Arr w (ClR w) xs x F) (hy:Arr w (ClR w) ys y G) (hF:Under w F) (hG:Under w G) :
  Calls Try.prog 19 #[x,y] w fun e w'=>e=.returned (.bool (sameBy Cl.same xs ys))∧Below w w w':=by
 have HX:=jj hx
 have HY:=jj hy
 obtain ⟨A,cap,rfl,hc1,hc2⟩:=hx.form
 obtain ⟨A',cap',rfl,hc3,hc4⟩:=hy.form
 clear hx hy
 have HF:=jj hF
 have HG:=jj hG
 clear hF hG
 by_cases hl:xs.length=ys.length
 ·have tl:((xs.length:Int) != (ys.length:Int))=false:=by rw [hl];simp
  have hle1:xs.length≤ys.length:=by omega
  have hle2:ys.length≤xs.length:=by omega
  clear hl
  go_enter Try.func19,Try.ntmps19
  go_wp2
  go_loopw [5] (fun i wr=>∃ k:Nat,k≤xs.length∧i=.int .i64 k∧Hid (sameBy Cl.same xs ys=sameBy Cl.same (xs.drop k) (ys.drop k))∧Below w w wr) (fun i _=>xs.length-(intOf i).toNat)
  case atStart=>exact ⟨0,Nat.zero_le _,rfl,rfl,zy2 _ _⟩
  case round =>
   obtain ⟨k,hk,rfl,HT,hB⟩:=hrel
   by_cases hlt:k<xs.length
   ·have hlt':k<ys.length:=by omega
    have hi0:(0:Int)≤(k:Int):=by omega
    have hi1:(k:Int)<(xs.length:Int):=by omega
    have hi2:(k:Int)<(ys.length:Int):=by omega
    have hd:=sameBy_drop (f:=Cl.same) xs ys k hlt hlt'
    have HD:=jj hd
    clear hd
    obtain ⟨b,off,cs,G1,rfl,hb,hcs,hvc,hG1⟩:=HX.out.get ClR_len hlt
    have hbl:=HF.out b hb
    have hGFc:=HF.out.sub hG1
    have hwc:=hvc.below hB hGFc
    have hcsc:=hcs.same (hB.block b hbl)
    obtain ⟨A1,cap1,rfl⟩:=zAV hvc
    have c0:=hcsc 0 _ rfl
    have c1:=hcsc 1 _ rfl
    have c2:=hcsc 2 _ rfl
    have c3:=hcsc 3 _ rfl
    have c4:=hcsc 4 _ rfl
    have c5:=hcsc 5 _ rfl
    have c6:=hcsc 6 _ rfl
    have c7:=hcsc 7 _ rfl
    have c8:=hcsc 8 _ rfl
    simp only [Nat.add_zero] at c0
    clear hcs hcsc hvc hG1
    have HV:=jj hwc
    clear hwc
    have HG1:=jj hGFc
    clear hGFc
    obtain ⟨b2,off2,ds,G2,rfl,hb2,hds,hvd,hG2⟩:=HY.out.get ClR_len hlt'
    have hbl2:=HG.out b2 hb2
    have hGFd:=HG.out.sub hG2
    have hwd:=hvd.below hB hGFd
    have hcsd:=hds.same (hB.block b2 hbl2)
    obtain ⟨A2,cap2,rfl⟩:=zAV hvd
    have d0:=hcsd 0 _ rfl
    have d1:=hcsd 1 _ rfl
    have d2:=hcsd 2 _ rfl
    have d3:=hcsd 3 _ rfl
    have d4:=hcsd 4 _ rfl
    have d5:=hcsd 5 _ rfl
    have d6:=hcsd 6 _ rfl
    have d7:=hcsd 7 _ rfl
    have d8:=hcsd 8 _ rfl
    simp only [Nat.add_zero] at d0
    clear hds hcsd hvd hG2
    have HV2:=jj hwd
    clear hwd
    have HG2:=jj hGFd
    clear hGFd
    have HBq:=jj (fun n=>zB1 hB n)
    cases hg:Gd.same xs[k].gd ys[k].gd with
    |false =>
     have hf:Hid (sameBy Cl.same xs ys=false):=by have hd:=HD.out;unfold Cl.same at hd;rw [hg,Bool.false_and,Bool.false_and] at hd;exact HT.out.trans hd
     unfold Gd.same at hg
     cases e0:(xs[k].gd.op==ys[k].gd.op) with
     |false =>
      clear hg
      go_wp2_with fail
      go_quiet (fail)
      go_wp2
      go_ret
      exact ⟨zA0 hf.out.symm,HBq.out _⟩
     |true =>
      rw [e0,Bool.true_and] at hg
      cases e1:(xs[k].gd.va==ys[k].gd.va) with
      |false =>
       clear hg
       go_wp2_with fail
       go_quiet (fail)
       go_wp2
       go_ret
       exact ⟨zA0 hf.out.symm,HBq.out _⟩
      |true =>
       rw [e1,Bool.true_and] at hg
       go_wp2_with fail
       go_quiet (fail)
       go_wp2
       go_ret
       exact ⟨zA0 hf.out.symm,HBq.out _⟩
    |true =>
     have e0:(xs[k].gd.op==ys[k].gd.op)=true:=by rw [(Gd.same_iff _ _).1 hg];simp
     have e1:(xs[k].gd.va==ys[k].gd.va)=true:=by rw [(Gd.same_iff _ _).1 hg];simp
     have e2:(xs[k].gd.n==ys[k].gd.n)=true:=by rw [(Gd.same_iff _ _).1 hg];simp
     have hs:Cl.same xs[k] ys[k]=P.same xs[k].pat ys[k].pat:=by unfold Cl.same;rw [hg,Bool.true_and]
     have HSm:=jj hs
     clear hs hg
     go_wp2_with fail
     cases hs:P.same xs[k].pat ys[k].pat with
     |true =>
      have hT4:Hid (sameBy Cl.same xs ys=sameBy Cl.same (xs.drop (k+1)) (ys.drop (k+1))):=by have hd:=HD.out;rw [HSm.out,hs,Bool.true_and] at hd;exact HT.out.trans hd
      have HS:=jj hs
      clear hs
      have hkeep:∀ U U':World,(U.cell? ⟨b,off+k*9,none⟩=xs[k].pat.op∧U.cell? ⟨b,off+k*9+1,none⟩=xs[k].pat.ct∧U.cell? ⟨b,off+k*9+2,none⟩=xs[k].pat.n∧U.cell? ⟨b,off+k*9+3,none⟩=xs[k].pat.m∧U.cell? ⟨b,off+k*9+4,none⟩=xs[k].pat.va∧U.cell? ⟨b,off+k*9+5,none⟩=some (.slice A1 xs[k].pat.ks.length cap1)∧U.cell? ⟨b,off+k*9+6,none⟩=xs[k].gd.op∧U.cell? ⟨b,off+k*9+7,none⟩=xs[k].gd.va∧U.cell? ⟨b,off+k*9+8,none⟩=xs[k].gd.n∧U.cell? ⟨b2,off2+k*9,none⟩=ys[k].pat.op∧U.cell? ⟨b2,off2+k*9+1,none⟩=ys[k].pat.ct∧U.cell? ⟨b2,off2+k*9+2,none⟩=ys[k].pat.n∧U.cell? ⟨b2,off2+k*9+3,none⟩=ys[k].pat.m∧U.cell? ⟨b2,off2+k*9+4,none⟩=ys[k].pat.va∧U.cell? ⟨b2,off2+k*9+5,none⟩=some (.slice A2 ys[k].pat.ks.length cap2)∧U.cell? ⟨b2,off2+k*9+6,none⟩=ys[k].gd.op∧U.cell? ⟨b2,off2+k*9+7,none⟩=ys[k].gd.va∧U.cell? ⟨b2,off2+k*9+8,none⟩=ys[k].gd.n)→Below U U U'→wr.heap.size≤U.heap.size→(U'.cell? ⟨b,off+k*9,none⟩=xs[k].pat.op∧U'.cell? ⟨b,off+k*9+1,none⟩=xs[k].pat.ct∧U'.cell? ⟨b,off+k*9+2,none⟩=xs[k].pat.n∧U'.cell? ⟨b,off+k*9+3,none⟩=xs[k].pat.m∧U'.cell? ⟨b,off+k*9+4,none⟩=xs[k].pat.va∧U'.cell? ⟨b,off+k*9+5,none⟩=some (.slice A1 xs[k].pat.ks.length cap1)∧U'.cell? ⟨b,off+k*9+6,none⟩=xs[k].gd.op∧U'.cell? ⟨b,off+k*9+7,none⟩=xs[k].gd.va∧U'.cell? ⟨b,off+k*9+8,none⟩=xs[k].gd.n∧U'.cell? ⟨b2,off2+k*9,none⟩=ys[k].pat.op∧U'.cell? ⟨b2,off2+k*9+1,none⟩=ys[k].pat.ct∧U'.cell? ⟨b2,off2+k*9+2,none⟩=ys[k].pat.n∧U'.cell? ⟨b2,off2+k*9+3,none⟩=ys[k].pat.m∧U'.cell? ⟨b2,off2+k*9+4,none⟩=ys[k].pat.va∧U'.cell? ⟨b2,off2+k*9+5,none⟩=some (.slice A2 ys[k].pat.ks.length cap2)∧U'.cell? ⟨b2,off2+k*9+6,none⟩=ys[k].gd.op∧U'.cell? ⟨b2,off2+k*9+7,none⟩=ys[k].gd.va∧U'.cell? ⟨b2,off2+k*9+8,none⟩=ys[k].gd.n):=fun U U' h hb hU=>⟨(hb.cell (zz9 (zz9 hbl hB.size) hU)).trans h.1,(hb.cell (zz9 (zz9 hbl hB.size) hU)).trans h.2.1,(hb.cell (zz9 (zz9 hbl hB.size) hU)).trans h.2.2.1,(hb.cell (zz9 (zz9 hbl hB.size) hU)).trans h.2.2.2.1,(hb.cell (zz9 (zz9 hbl hB.size) hU)).trans h.2.2.2.2.1,(hb.cell (zz9 (zz9 hbl hB.size) hU)).trans h.2.2.2.2.2.1,(hb.cell (zz9 (zz9 hbl hB.size) hU)).trans h.2.2.2.2.2.2.1,(hb.cell (zz9 (zz9 hbl hB.size) hU)).trans h.2.2.2.2.2.2.2.1,(hb.cell (zz9 (zz9 hbl hB.size) hU)).trans h.2.2.2.2.2.2.2.2.1,(hb.cell (zz9 (zz9 hbl2 hB.size) hU)).trans h.2.2.2.2.2.2.2.2.2.1,(hb.cell (zz9 (zz9 hbl2 hB.size) hU)).trans h.2.2.2.2.2.2.2.2.2.2.1,(hb.cell (zz9 (zz9 hbl2 hB.size) hU)).trans h.2.2.2.2.2.2.2.2.2.2.2.1,(hb.cell (zz9 (zz9 hbl2 hB.size) hU)).trans h.2.2.2.2.2.2.2.2.2.2.2.2.1,(hb.cell (zz9 (zz9 hbl2 hB.size) hU)).trans h.2.2.2.2.2.2.2.2.2.2.2.2.2.1,(hb.cell (zz9 (zz9 hbl2 hB.size) hU)).trans h.2.2.2.2.2.2.2.2.2.2.2.2.2.2.1,(hb.cell (zz9 (zz9 hbl2 hB.size) hU)).trans h.2.2.2.2.2.2.2.2.2.2.2.2.2.2.2.1,(hb.cell (zz9 (zz9 hbl2 hB.size) hU)).trans h.2.2.2.2.2.2.2.2.2.2.2.2.2.2.2.2.1,(hb.cell (zz9 (zz9 hbl2 hB.size) hU)).trans h.2.2.2.2.2.2.2.2.2.2.2.2.2.2.2.2.2⟩
      have HKeep:=jj hkeep
      clear hkeep
      go_region_held3 (fun w'=>w'.cell? ⟨b,off+k*9,none⟩=xs[k].pat.op∧w'.cell? ⟨b,off+k*9+1,none⟩=xs[k].pat.ct∧w'.cell? ⟨b,off+k*9+2,none⟩=xs[k].pat.n∧w'.cell? ⟨b,off+k*9+3,none⟩=xs[k].pat.m∧w'.cell? ⟨b,off+k*9+4,none⟩=xs[k].pat.va∧w'.cell? ⟨b,off+k*9+5,none⟩=some (.slice A1 xs[k].pat.ks.length cap1)∧w'.cell? ⟨b,off+k*9+6,none⟩=xs[k].gd.op∧w'.cell? ⟨b,off+k*9+7,none⟩=xs[k].gd.va∧w'.cell? ⟨b,off+k*9+8,none⟩=xs[k].gd.n∧w'.cell? ⟨b2,off2+k*9,none⟩=ys[k].pat.op∧w'.cell? ⟨b2,off2+k*9+1,none⟩=ys[k].pat.ct∧w'.cell? ⟨b2,off2+k*9+2,none⟩=ys[k].pat.n∧w'.cell? ⟨b2,off2+k*9+3,none⟩=ys[k].pat.m∧w'.cell? ⟨b2,off2+k*9+4,none⟩=ys[k].pat.va∧w'.cell? ⟨b2,off2+k*9+5,none⟩=some (.slice A2 ys[k].pat.ks.length cap2)∧w'.cell? ⟨b2,off2+k*9+6,none⟩=ys[k].gd.op∧w'.cell? ⟨b2,off2+k*9+7,none⟩=ys[k].gd.va∧w'.cell? ⟨b2,off2+k*9+8,none⟩=ys[k].gd.n) (first | assumption | (exact ⟨c0,c1,c2,c3,c4,c5,c6,c7,c8,d0,d1,d2,d3,d4,d5,d6,d7,d8⟩) | (exact HKeep.out wr.drew w' ⟨c0,c1,c2,c3,c4,c5,c6,c7,c8,d0,d1,d2,d3,d4,d5,d6,d7,d8⟩ hB' (zz8 _))) (first | (go_at_call 47;((with_reducible refine (spec_PatternSame xs[k].pat ys[k].pat _ _ _ G1 G2 (ClR_pat HV.out).drew (ClR_pat HV2.out).drew (Under.drew (HG1.out.mono hB.size)) (Under.drew (HG2.out.mono hB.size))).mono ?_);rintro e w' ⟨rfl,hB'⟩;rw [HS.out])))
      have hB3:=hB.drew.trans (hB'.mono hB.size)
      go_wp2
      go_roundw
      case rel=>exact ⟨k+1,by omega,by go_num,hT4,hB3⟩
      case measure=>simp [intOf];omega
     |false =>
      have hf:Hid (sameBy Cl.same xs ys=false):=by have hd:=HD.out;rw [HSm.out,hs,Bool.false_and] at hd;exact HT.out.trans hd
      have HS:=jj hs
      clear hs
      have hkeep:∀ U U':World,(U.cell? ⟨b,off+k*9,none⟩=xs[k].pat.op∧U.cell? ⟨b,off+k*9+1,none⟩=xs[k].pat.ct∧U.cell? ⟨b,off+k*9+2,none⟩=xs[k].pat.n∧U.cell? ⟨b,off+k*9+3,none⟩=xs[k].pat.m∧U.cell? ⟨b,off+k*9+4,none⟩=xs[k].pat.va∧U.cell? ⟨b,off+k*9+5,none⟩=some (.slice A1 xs[k].pat.ks.length cap1)∧U.cell? ⟨b,off+k*9+6,none⟩=xs[k].gd.op∧U.cell? ⟨b,off+k*9+7,none⟩=xs[k].gd.va∧U.cell? ⟨b,off+k*9+8,none⟩=xs[k].gd.n∧U.cell? ⟨b2,off2+k*9,none⟩=ys[k].pat.op∧U.cell? ⟨b2,off2+k*9+1,none⟩=ys[k].pat.ct∧U.cell? ⟨b2,off2+k*9+2,none⟩=ys[k].pat.n∧U.cell? ⟨b2,off2+k*9+3,none⟩=ys[k].pat.m∧U.cell? ⟨b2,off2+k*9+4,none⟩=ys[k].pat.va∧U.cell? ⟨b2,off2+k*9+5,none⟩=some (.slice A2 ys[k].pat.ks.length cap2)∧U.cell? ⟨b2,off2+k*9+6,none⟩=ys[k].gd.op∧U.cell? ⟨b2,off2+k*9+7,none⟩=ys[k].gd.va∧U.cell? ⟨b2,off2+k*9+8,none⟩=ys[k].gd.n)→Below U U U'→wr.heap.size≤U.heap.size→(U'.cell? ⟨b,off+k*9,none⟩=xs[k].pat.op∧U'.cell? ⟨b,off+k*9+1,none⟩=xs[k].pat.ct∧U'.cell? ⟨b,off+k*9+2,none⟩=xs[k].pat.n∧U'.cell? ⟨b,off+k*9+3,none⟩=xs[k].pat.m∧U'.cell? ⟨b,off+k*9+4,none⟩=xs[k].pat.va∧U'.cell? ⟨b,off+k*9+5,none⟩=some (.slice A1 xs[k].pat.ks.length cap1)∧U'.cell? ⟨b,off+k*9+6,none⟩=xs[k].gd.op∧U'.cell? ⟨b,off+k*9+7,none⟩=xs[k].gd.va∧U'.cell? ⟨b,off+k*9+8,none⟩=xs[k].gd.n∧U'.cell? ⟨b2,off2+k*9,none⟩=ys[k].pat.op∧U'.cell? ⟨b2,off2+k*9+1,none⟩=ys[k].pat.ct∧U'.cell? ⟨b2,off2+k*9+2,none⟩=ys[k].pat.n∧U'.cell? ⟨b2,off2+k*9+3,none⟩=ys[k].pat.m∧U'.cell? ⟨b2,off2+k*9+4,none⟩=ys[k].pat.va∧U'.cell? ⟨b2,off2+k*9+5,none⟩=some (.slice A2 ys[k].pat.ks.length cap2)∧U'.cell? ⟨b2,off2+k*9+6,none⟩=ys[k].gd.op∧U'.cell? ⟨b2,off2+k*9+7,none⟩=ys[k].gd.va∧U'.cell? ⟨b2,off2+k*9+8,none⟩=ys[k].gd.n):=fun U U' h hb hU=>⟨(hb.cell (zz9 (zz9 hbl hB.size) hU)).trans h.1,(hb.cell (zz9 (zz9 hbl hB.size) hU)).trans h.2.1,(hb.cell (zz9 (zz9 hbl hB.size) hU)).trans h.2.2.1,(hb.cell (zz9 (zz9 hbl hB.size) hU)).trans h.2.2.2.1,(hb.cell (zz9 (zz9 hbl hB.size) hU)).trans h.2.2.2.2.1,(hb.cell (zz9 (zz9 hbl hB.size) hU)).trans h.2.2.2.2.2.1,(hb.cell (zz9 (zz9 hbl hB.size) hU)).trans h.2.2.2.2.2.2.1,(hb.cell (zz9 (zz9 hbl hB.size) hU)).trans h.2.2.2.2.2.2.2.1,(hb.cell (zz9 (zz9 hbl hB.size) hU)).trans h.2.2.2.2.2.2.2.2.1,(hb.cell (zz9 (zz9 hbl2 hB.size) hU)).trans h.2.2.2.2.2.2.2.2.2.1,(hb.cell (zz9 (zz9 hbl2 hB.size) hU)).trans h.2.2.2.2.2.2.2.2.2.2.1,(hb.cell (zz9 (zz9 hbl2 hB.size) hU)).trans h.2.2.2.2.2.2.2.2.2.2.2.1,(hb.cell (zz9 (zz9 hbl2 hB.size) hU)).trans h.2.2.2.2.2.2.2.2.2.2.2.2.1,(hb.cell (zz9 (zz9 hbl2 hB.size) hU)).trans h.2.2.2.2.2.2.2.2.2.2.2.2.2.1,(hb.cell (zz9 (zz9 hbl2 hB.size) hU)).trans h.2.2.2.2.2.2.2.2.2.2.2.2.2.2.1,(hb.cell (zz9 (zz9 hbl2 hB.size) hU)).trans h.2.2.2.2.2.2.2.2.2.2.2.2.2.2.2.1,(hb.cell (zz9 (zz9 hbl2 hB.size) hU)).trans h.2.2.2.2.2.2.2.2.2.2.2.2.2.2.2.2.1,(hb.cell (zz9 (zz9 hbl2 hB.size) hU)).trans h.2.2.2.2.2.2.2.2.2.2.2.2.2.2.2.2.2⟩
      have HKeep:=jj hkeep
      clear hkeep
      go_region_held3 (fun w'=>w'.cell? ⟨b,off+k*9,none⟩=xs[k].pat.op∧w'.cell? ⟨b,off+k*9+1,none⟩=xs[k].pat.ct∧w'.cell? ⟨b,off+k*9+2,none⟩=xs[k].pat.n∧w'.cell? ⟨b,off+k*9+3,none⟩=xs[k].pat.m∧w'.cell? ⟨b,off+k*9+4,none⟩=xs[k].pat.va∧w'.cell? ⟨b,off+k*9+5,none⟩=some (.slice A1 xs[k].pat.ks.length cap1)∧w'.cell? ⟨b,off+k*9+6,none⟩=xs[k].gd.op∧w'.cell? ⟨b,off+k*9+7,none⟩=xs[k].gd.va∧w'.cell? ⟨b,off+k*9+8,none⟩=xs[k].gd.n∧w'.cell? ⟨b2,off2+k*9,none⟩=ys[k].pat.op∧w'.cell? ⟨b2,off2+k*9+1,none⟩=ys[k].pat.ct∧w'.cell? ⟨b2,off2+k*9+2,none⟩=ys[k].pat.n∧w'.cell? ⟨b2,off2+k*9+3,none⟩=ys[k].pat.m∧w'.cell? ⟨b2,off2+k*9+4,none⟩=ys[k].pat.va∧w'.cell? ⟨b2,off2+k*9+5,none⟩=some (.slice A2 ys[k].pat.ks.length cap2)∧w'.cell? ⟨b2,off2+k*9+6,none⟩=ys[k].gd.op∧w'.cell? ⟨b2,off2+k*9+7,none⟩=ys[k].gd.va∧w'.cell? ⟨b2,off2+k*9+8,none⟩=ys[k].gd.n) (first | assumption | (exact ⟨c0,c1,c2,c3,c4,c5,c6,c7,c8,d0,d1,d2,d3,d4,d5,d6,d7,d8⟩) | (exact HKeep.out wr.drew w' ⟨c0,c1,c2,c3,c4,c5,c6,c7,c8,d0,d1,d2,d3,d4,d5,d6,d7,d8⟩ hB' (zz8 _))) (first | (go_at_call 47;((with_reducible refine (spec_PatternSame xs[k].pat ys[k].pat _ _ _ G1 G2 (ClR_pat HV.out).drew (ClR_pat HV2.out).drew (Under.drew (HG1.out.mono hB.size)) (Under.drew (HG2.out.mono hB.size))).mono ?_);rintro e w' ⟨rfl,hB'⟩;rw [HS.out])))
      have hB3:=hB.drew.trans (hB'.mono hB.size)
      go_wp2
      go_ret
      exact ⟨zA0 hf.out.symm,hB3⟩
   ·have hT:=HT.out
    rw [List.drop_of_length_le (by omega),List.drop_of_length_le (by omega)] at hT
    have hf:Hid (sameBy Cl.same xs ys=true):=hT
    clear hT
    go_wp2
    go_ret
    exact ⟨zA0 hf.out.symm,hB⟩
 ·have tl:((xs.length:Int) != (ys.length:Int))=true:=by rw [bne_iff_ne];omega
  have hf:=jj (sameBy_len_false (f:=Cl.same) hl)
  clear hl
  go_enter Try.func19,Try.ntmps19
  go_wp2
  go_ret
  exact ⟨zA0 hf.out.symm,zy2 _ _⟩
def hasV (ys:List Vt) (v:Vt):Bool:=ys.any fun u=>Vt.same u v
theorem Vt.same_comm (a b:Vt):Vt.same a b=Vt.same b a:=by
 rw [Bool.eq_iff_iff,Vt.same_iff,Vt.same_iff];exact eq_comm
theorem Index_Vt (xs:List Vt) (v:Vt) (r:Int) (hr:FirstAt (fun x=>Vt.same x v) xs r) (w:World) (x:Value) (F:List Nat) (hx:Arr w (VtR w) xs x F) (hf:Under w F) :
  Calls Try.prog 118 #[x,.agg #[v.var,v.ty.d,v.ty.i]] w fun e w'=>e=.returned (.int .i64 r)∧Below w w w':=by
 obtain ⟨A,cap,rfl,hc1,hc2⟩:=hx.form
 have HX:=jj hx
 have HF:=jj hf
 have HR:=jj hr
 clear hx hf hr
 have hB0:Below w w (w.alloc (.cells #[v.var,v.ty.d,v.ty.i] 107)):=(zy2 _ _).alloc (zz8 _) _
 have K0:Hid (Blk (w.alloc (.cells #[v.var,v.ty.d,v.ty.i] 107)) w.heap.size 107 #[v.var,v.ty.d,v.ty.i]):=Blk.new _ _ _
 go_enter Try.func118,Try.ntmps118
 go_wp2
 go_loopw [8] (fun i wr=>∃ k:Nat,k≤xs.length∧i=.int .i64 k∧Hid (∀ j (hj:j<xs.length),j<k→Vt.same xs[j] v=false)∧Hid (Blk wr w 107 #[v.var,v.ty.d,v.ty.i])∧Below w w wr) (fun i _=>xs.length-(intOf i).toNat)
 case atStart=>exact ⟨0,Nat.zero_le _,rfl,fun j hj h=>by omega,K0,hB0⟩
 case round =>
  clear hB0 K0
  obtain ⟨k,hk,rfl,HT,KV,hB⟩:=hrel
  by_cases hlt:k<xs.length
  ·have g1:(0:Int)≤(k:Int):=by omega
   have g2:(k:Int)<(xs.length:Int):=by omega
   obtain ⟨b,off,rfl⟩:=HX.out.ptr (by omega)
   obtain ⟨hb,c0,c1,c2⟩:=ArrVt.at HX.out HF.out hB k hlt
   have z0:wr.cell? ⟨w,0,none⟩=v.var:=(KV.out.cell 0).trans (by simp)
   have z1:wr.cell? ⟨w,1,none⟩=v.ty.d:=(KV.out.cell 1).trans (by simp)
   have z2:wr.cell? ⟨w,2,none⟩=v.ty.i:=(KV.out.cell 2).trans (by simp)
   have hzl:=KV.out.lt
   have HBQ:=jj (fun n=>zB1 hB n)
   cases hs:Vt.same xs[k] v with
   |true =>
    have hf:=jj (HR.out.hit hlt hs (fun j hj h=>HT.out j hj h))
    have he:=(Vt.same_iff _ _).1 hs
    have e0:(v.var==xs[k].var)=true:=by rw [he];simp
    have e1:(v.ty.d==xs[k].ty.d)=true:=by rw [he];simp
    have e2:(v.ty.i==xs[k].ty.i)=true:=by rw [he];simp
    clear hs he
    go_wp2_with fail
    go_quiet (fail)
    go_wp2
    go_ret
    exact ⟨zAP hf.out.symm,HBQ.out _⟩
   |false =>
    have hT2:Hid (∀ j (hj:j<xs.length),j<k+1→Vt.same xs[j] v=false):=fun j hj h=>by
     rcases Nat.lt_or_ge j k with h2 | h2
     ·exact HT.out j hj h2
     ·obtain rfl:j=k:=by omega
      exact hs
    rw [Vt.same_comm] at hs
    unfold Vt.same at hs
    cases e0:(v.var==xs[k].var) with
    |false =>
     clear hs
     go_wp2_with fail
     go_quiet (fail)
     go_wp2
     go_roundw
     case rel=>exact ⟨k+1,by omega,by go_num,hT2,(Blk.same KV.out rfl),HBQ.out _⟩
     case measure=>(simp [intOf] <;> omega)
    |true =>
     rw [e0,Bool.true_and] at hs
     cases e1:(v.ty.d==xs[k].ty.d) with
     |false =>
      clear hs
      go_wp2_with fail
      go_quiet (fail)
      go_wp2
      go_roundw
      case rel=>exact ⟨k+1,by omega,by go_num,hT2,(Blk.same KV.out rfl),HBQ.out _⟩
      case measure=>(simp [intOf] <;> omega)
     |true =>
      rw [e1,Bool.true_and] at hs
      go_wp2_with fail
      go_quiet (fail)
      go_wp2
      go_roundw
      case rel=>exact ⟨k+1,by omega,by go_num,hT2,(Blk.same KV.out rfl),HBQ.out _⟩
      case measure=>(simp [intOf] <;> omega)
  ·have hf:Hid (r = -1):=HR.out.miss (fun j hj=>HT.out j hj (by omega))
   go_wp2
   go_ret
   exact ⟨zAP hf.out.symm,hB⟩
theorem Contains_Vt (xs:List Vt) (v:Vt) (w:World) (x:Value) (F:List Nat) (hx:Arr w (VtR w) xs x F) (hf:Under w F) :
  Calls Try.prog 93 #[x,.agg #[v.var,v.ty.d,v.ty.i]] w fun e w'=>e=.returned (.bool (hasV xs v))∧Below w w w':=by
 obtain ⟨r,hr⟩:=FirstAt.ex (fun x=>Vt.same x v) xs
 have hres:Hid (hasV xs v=decide (0≤r)):=hr.any
 obtain ⟨A,cap,rfl,hc1,hc2⟩:=hx.form
 have HX:=jj hx
 have HF:=jj hf
 have HR:=jj hr
 clear hx hf hr
 go_enter Try.func93,Try.ntmps93
 go_wp2_with fail
 obtain ⟨W2,hW2⟩:∃ W2,W2=w.alloc (.cells #[v.var,v.ty.d,v.ty.i] 107):=⟨_,rfl⟩
 have hB:Below w w W2:=by rw [hW2];exact (zy2 _ _).alloc (zz8 _) _
 rw [←hW2]
 clear hW2
 refine (Index_Vt xs v r HR.out W2 _ F (Arr.mono (w:=w) HX.out (.of_below hB HF.out) (fun x _ cs G hk h=>zA6 _ _ x cs G hk h)) (HF.out.mono hB.size)).mono ?_
 rintro e w' ⟨rfl,hB'⟩
 have hB3:=hB.trans (hB'.mono hB.size)
 go_wp2
 go_ret
 exact ⟨zA0 hres.out.symm,hB3⟩
theorem sameVars_closure (ys:List Vt) (A2:Option Addr) (cap2:Nat) (v:Vt) (w:World) (G:List Nat) (g:Nat) (hx:Arr w (VtR w) ys (.slice A2 ys.length cap2) G) (hf:Under w G) (hg:w.cell? ⟨g,0,none⟩=some (.slice A2 ys.length cap2)) (hgl:g<w.heap.size) :
  Calls Try.prog 111 #[.agg #[v.var,v.ty.d,v.ty.i],.pointer (some ⟨g,0,none⟩)] w fun e w'=>e=.returned (.bool (!hasV ys v))∧Below w w w':=by
 have HX:=jj hx
 have HF:=jj hf
 clear hx hf
 go_enter Try.func111,Try.ntmps111
 go_wp2_with fail
 obtain ⟨W2,hW2⟩:∃ W2,W2=w.alloc (.cells #[v.var,v.ty.d,v.ty.i] 107):=⟨_,rfl⟩
 have hB:Below w w W2:=by rw [hW2];exact (zy2 _ _).alloc (zz8 _) _
 rw [←hW2]
 clear hW2
 refine (Contains_Vt ys v W2 _ G (Arr.mono (w:=w) HX.out (.of_below hB HF.out) (fun x _ cs G hk h=>zA6 _ _ x cs G hk h)) (HF.out.mono hB.size)).mono ?_
 rintro e w' ⟨rfl,hB'⟩
 have hB3:=hB.trans (hB'.mono hB.size)
 generalize hbb:hasV ys v=bb
 have HBB:=jj hbb
 clear hbb
 go_wp2
 go_ret
 exact ⟨zA0 (by rw [HBB.out]),hB3⟩
theorem IndexFunc_Vt (ys:List Vt) (A2:Option Addr) (cap2:Nat) (xs:List Vt) (r:Int) (hr:FirstAt (fun v=>!hasV ys v) xs r) (w:World) (x:Value) (F G:List Nat) (g:Nat) (hx:Arr w (VtR w) xs x F) (hf:Under w F) (hy:Arr w (VtR w) ys (.slice A2 ys.length cap2) G) (hh:Under w G) (hg:w.cell? ⟨g,0,none⟩=some (.slice A2 ys.length cap2)) (hgl:g<w.heap.size) :
  Calls Try.prog 124 #[x,.func (.func 111) #[] #[.pointer (some ⟨g,0,none⟩)]] w fun e w'=>e=.returned (.int .i64 r)∧Below w w w':=by
 obtain ⟨A,cap,rfl,hc1,hc2⟩:=hx.form
 have HX:=jj hx
 have HF:=jj hf
 have HR:=jj hr
 have HY:=jj hy
 have HH:=jj hh
 have HG:=jj hg
 clear hx hf hr hy hh hg
 go_enter Try.func124,Try.ntmps124
 go_wp2
 go_loopw [8] (fun i wr=>∃ k:Nat,k≤xs.length∧i=.int .i64 k∧Hid (∀ j (hj:j<xs.length),j<k→(!hasV ys xs[j])=false)∧Below w w wr) (fun i _=>xs.length-(intOf i).toNat)
 case atStart=>exact ⟨0,Nat.zero_le _,rfl,fun j hj h=>by omega,zy2 _ _⟩
 case round =>
  obtain ⟨k,hk,rfl,HT,hB⟩:=hrel
  by_cases hlt:k<xs.length
  ·have hi0:(0:Int)≤(k:Int):=by omega
   have hi1:(k:Int)<(xs.length:Int):=by omega
   obtain ⟨b,off,rfl⟩:=HX.out.ptr (by omega)
   obtain ⟨hb,c0,c1,c2⟩:=ArrVt.at HX.out HF.out hB k hlt
   go_wp2_with fail
   refine (sameVars_closure ys A2 cap2 xs[k] wr G g (Arr.mono (w:=w) HY.out (.of_below hB HH.out) (fun x _ cs G hk h=>zA6 _ _ x cs G hk h)) (HH.out.mono hB.size) ((hB.cell (p:=⟨g,0,none⟩) hgl).trans HG.out) (zz9 hgl hB.size)).mono ?_
   rintro e w' ⟨rfl,hB'⟩
   have hB3:=hB.trans (hB'.mono hB.size)
   cases hq:hasV ys xs[k] with
   |false =>
    have hf:Hid (r=(k:Int)):=HR.out.hit hlt (by simp [hq]) (fun j hj h=>HT.out j hj h)
    clear hq
    go_wp2
    go_ret
    exact ⟨zAP hf.out.symm,hB3⟩
   |true =>
    have hT2:Hid (∀ j (hj:j<xs.length),j<k+1→(!hasV ys xs[j])=false):=fun j hj h=>by
     rcases Nat.lt_or_ge j k with h2 | h2
     ·exact HT.out j hj h2
     ·obtain rfl:j=k:=by omega
      rw [hq];rfl
    clear hq
    go_wp2
    go_roundw
    case rel=>exact ⟨k+1,by omega,by go_num,hT2,hB3⟩
    case measure=>simp [intOf];omega
  ·have hf:Hid (r = -1):=HR.out.miss (fun j hj=>HT.out j hj (by omega))
   go_wp2
   go_ret
   exact ⟨zAP hf.out.symm,hB⟩
theorem ContainsFunc_Vt (ys:List Vt) (A2:Option Addr) (cap2:Nat) (xs:List Vt) (w:World) (x:Value) (F G:List Nat) (g:Nat) (hx:Arr w (VtR w) xs x F) (hf:Under w F) (hy:Arr w (VtR w) ys (.slice A2 ys.length cap2) G) (hh:Under w G) (hg:w.cell? ⟨g,0,none⟩=some (.slice A2 ys.length cap2)) (hgl:g<w.heap.size) :
  Calls Try.prog 110 #[x,.func (.func 111) #[] #[.pointer (some ⟨g,0,none⟩)]] w fun e w'=>e=.returned (.bool (xs.any fun v=>!hasV ys v))∧Below w w w':=by
 obtain ⟨r,hr⟩:=FirstAt.ex (fun v=>!hasV ys v) xs
 have hres:Hid ((xs.any fun v=>!hasV ys v)=decide (0≤r)):=hr.any
 have hcall:=IndexFunc_Vt ys A2 cap2 xs r hr w x F G g hx hf hy hh hg hgl
 obtain ⟨A,cap,rfl,hc1,hc2⟩:=hx.form
 have HC:=jj hcall
 clear hcall hr hx hf hy hh hg
 go_enter Try.func110,Try.ntmps110
 go_wp2_with fail
 refine HC.out.mono ?_
 rintro e w' ⟨rfl,hB'⟩
 go_wp2
 go_ret
 exact ⟨zA0 hres.out.symm,hB'⟩
theorem sameV_eq (a b:List Vt):sameV a b=(((a.length:Int)==(b.length:Int)) && !(a.any fun v=>!hasV b v)):=by
 unfold sameV
 rw [any_not_all]
 congr 1
 rw [Bool.eq_iff_iff];simp <;> omega
theorem impl_sameVars (xs ys:List Vt) (w:World) (x y:Value) (F G:List Nat) (hx:Arr w (VtR w) xs x F) (hf:Under w F) (hy:Arr w (VtR w) ys y G) (hh:Under w G) :
  Calls Try.prog 83 #[x,y] w fun e w'=>e=.returned (.bool (sameV xs ys))∧Below w w w':=by
 obtain ⟨A,cap,rfl,hc1,hc2⟩:=hx.form
 obtain ⟨A2,cap2,rfl,hd1,hd2⟩:=hy.form
 have HX:=jj hx
 have HF:=jj hf
 have HY:=jj hy
 have HH:=jj hh
 clear hx hf hy hh
 have hres:=sameV_eq xs ys
 obtain ⟨W2,hW2⟩:∃ W2,W2=w.alloc (.cells #[.slice A2 ys.length cap2] 33):=⟨_,rfl⟩
 have hB:Below w w W2:=by rw [hW2];exact (zy2 _ _).alloc (zz8 _) _
 have KB:Blk W2 w 33 #[.slice A2 ys.length cap2]:=by rw [hW2];exact Blk.new _ _ _
 have y0:W2.cell? ⟨w,0,none⟩=some (.slice A2 ys.length cap2):=(KB.cell 0).trans (by simp)
 have ylt:=KB.lt
 have HW2:=jj hW2
 clear hW2 KB
 cases e0:((xs.length:Int)==(ys.length:Int)) with
 |false =>
  rw [e0] at hres
  have HRes:=jj hres
  clear hres
  go_enter Try.func83,Try.ntmps83
  go_wp2
  go_ret
  exact ⟨zA0 HRes.out.symm,by rw [←HW2.out];exact hB⟩
 |true =>
  rw [e0,Bool.true_and] at hres
  have HRes:=jj hres
  clear hres
  go_enter Try.func83,Try.ntmps83
  go_wp2_with fail
  rw [←HW2.out]
  refine (ContainsFunc_Vt ys A2 cap2 xs W2 _ F G w.heap.size (Arr.mono (w:=w) HX.out (.of_below hB HF.out) (fun x _ cs G hk h=>zA6 _ _ x cs G hk h)) (HF.out.mono hB.size) (Arr.mono (w:=w) HY.out (.of_below hB HH.out) (fun x _ cs G hk h=>zA6 _ _ x cs G hk h)) (HH.out.mono hB.size) y0 ylt).mono ?_
  rintro e w' ⟨rfl,hB'⟩
  have hB3:=hB.trans (hB'.mono hB.size)
  generalize (xs.any fun v=>!hasV ys v)=bb at *
  go_wp2
  go_ret
  exact ⟨zA0 HRes.out.symm,hB3⟩
theorem argTy_ok {n:Int} {a:Ty} {r:Int} (h:argOkB n a=true) (h0:0≤r) (h3:r≤3):typeOkB n (argTy r a)=true:=by
 unfold argOkB at h
 cases hi:(a.i == -1) with
 |true =>
  rw [argTy_yes hi]
  rw [beq_iff_eq] at hi
  split at h
  ·rw [beq_iff_eq] at h;omega
  ·rename_i hd
   rw [Bool.and_eq_true] at h
   unfold typeOkB
   rw [if_neg hd,h.1,Bool.true_and,zAF]
   exact ⟨h0,h3⟩
 |false =>
  rw [argTy_no hi]
  rw [beq_eq_false_iff_ne] at hi
  unfold typeOkB
  split at h
  ·rename_i hd
   rw [if_pos hd];exact h
  ·rename_i hd
   rw [Bool.and_eq_true,zAF a.i] at h
   rw [if_neg hd,h.1,Bool.true_and,zAF]
   omega
theorem resIdx_range {n:Nat} {c:Kt} (hc:KtOk n c) {i:Int} (h0:0≤i) (h3:i≤3):0≤resIdx c i∧resIdx c i≤3:=by
 unfold resIdx
 split
 ·exact ⟨h0,h3⟩
 ·exact ⟨hc.lo,hc.hi⟩
theorem typeOkB_data {n:Int} {t:Ty} (h:typeOkB n t=true) (hd:¬t.d = -1):0≤t.i∧t.i≤3:=by
 unfold typeOkB at h
 rw [if_neg hd,Bool.and_eq_true] at h
 exact (zAF _ _ _).1 h.2
theorem ctorsOfL_at {xs:List Dt} {t:Ty} {k:Int} (h:hasB (ctorsOfL xs t) k=true):typeValidB xs t=true∧WorldOK xs∧∃ (d m:Nat) (hd:d<xs.length) (hm:m<xs[d].ctors.length),t.d=(d:Int)∧k=(m:Int)∧argTypesL xs t k=argsL xs[d].ctors[m] t.i∧0≤t.i∧t.i≤3:=by
 obtain ⟨e,hw,d,m,hd,h1,h2,hm⟩:=argTypesL_yes h
 have hv:typeValidB xs t=true:=by
  rw [hasB_iff] at h
  unfold ctorsOfL at h
  split at h
  ·assumption
  ·cases h
 obtain ⟨-,hto⟩:=typeValid_split hv
 have hi:=typeOkB_data hto (by omega)
 refine ⟨hv,hw,d,m,hd,hm,h1,h2,?_,hi⟩
 obtain ⟨t1,t2⟩:=t
 simp only at h1
 subst h1 h2
 rw [e,zBA hd hm]
theorem argTypesL_valid {xs:List Dt} {t:Ty} {k:Int} {a:Ty} (ha:a∈argTypesL xs t k):typeValidB xs a=true:=by
 cases h:hasB (ctorsOfL xs t) k with
 |false=>rw [argTypesL_no h] at ha;cases ha
 |true =>
  obtain ⟨hv,hw,d,m,hd,hm,h1,h2,e,h0,h3⟩:=ctorsOfL_at h
  rw [e] at ha
  obtain ⟨b,hb,rfl⟩:=List.mem_map.1 ha
  have hr:=resIdx_range (hw.ctor hd hm) h0 h3
  unfold typeValidB at hv ⊢
  rw [Bool.and_eq_true] at hv ⊢
  exact ⟨hv.1,argTy_ok ((hw.ctor hd hm).all b hb) hr.1 hr.2⟩
def guardB (g:Gd) (vs:List Vt):Bool:=if g.op=0 then g.va==0 && g.n==0 else withinB g.op 1 2 && (withinB g.n 0 9 && hasV vs ⟨g.va,⟨-1,0⟩⟩)
def findNum (vs:List Vt) (n:Int):Bool:=match vs.find? (fun u=>u.var==n) with | some u=>u.ty.d == -1 | none=>false
theorem findNum_some {vs:List Vt} {n:Int} {u:Vt} (h:vs.find? (fun u=>u.var==n)=some u):findNum vs n=(u.ty.d == -1):=by unfold findNum;rw [h]
theorem findNum_none {vs:List Vt} {n:Int} (h:vs.find? (fun u=>u.var==n)=none):findNum vs n=false:=by unfold findNum;rw [h]
def guardSB (g:Gd) (vs:List Vt):Bool:=if g.op=0 then g.va==0 && g.n==0 else (g.op==1 || g.op==2) && (decide (0≤g.n) && (decide (g.n≤9) && findNum vs g.va))
theorem withinB_12 (n:Int):withinB n 1 2=(n==1 || n==2):=by
 unfold withinB
 rw [Bool.eq_iff_iff]
 simp
 omega
theorem has_find {vs:List Vt} (hd:dupFree vs=true) (ht:∀ u∈vs,u.ty.d = -1→u.ty.i=0) (n:Int):hasV vs ⟨n,⟨-1,0⟩⟩=findNum vs n:=by
 have hn:(vs.map Vt.var).Nodup:=of_decide_eq_true hd
 unfold hasV findNum
 rw [Bool.eq_iff_iff,List.any_eq_true]
 constructor
 ·rintro ⟨u,hm,hu⟩
  obtain rfl:=(Vt.same_iff u _).1 hu
  have:=find_of_nodup hn hm
  simp only at this
  rw [this];rfl
 ·intro h
  split at h
  ·rename_i u hu
   have hm:=List.mem_of_find?_eq_some hu
   have hv:=List.find?_some hu
   have hd1:u.ty.d = -1:=by simpa using h
   have hi:=ht u hm hd1
   refine ⟨u,hm,(Vt.same_iff _ _).2 ?_⟩
   obtain ⟨v,d,i⟩:=u
   simp only [beq_iff_eq] at hv hd1 hi
   rw [hv,hd1,hi]
  ·cases h
theorem guard_eq {g:Gd} {vs:List Vt} (hd:dupFree vs=true) (ht:∀ u∈vs,u.ty.d = -1→u.ty.i=0):guardSB g vs=guardB g vs:=by
 unfold guardSB guardB
 rw [has_find hd ht,withinB_12]
 split
 ·rfl
 ·unfold withinB
  rw [Bool.and_assoc]
theorem typesP_valid {xs:List Dt} {t:Ty} (h:typeValidB xs t=true) {p:P} (ho:ownB xs t p=true):∀ a∈typesP xs t p,typeValidB xs a=true:=fun a ha=>by
 by_cases h4:p.op=4
 ·unfold typesP at ha
  rw [if_pos h4] at ha
  have hc:=ownB_ctor h4 ho
  have e1:ctorsOfL xs t=ctorsL xs t:=by unfold ctorsOfL;rw [if_pos h]
  have e2:hasB (ctorsOfL xs t) p.ct=true:=by rw [e1];exact (hasB_iff _ _).2 hc
  have e3:argTypesL xs t p.ct=argsOf xs t p.ct:=by unfold argTypesL;rw [if_pos e2]
  exact argTypesL_valid (t:=t) (k:=p.ct) (by rw [e3];exact ha)
 ·rw [zB9 h4] at ha
  have:=List.eq_of_mem_replicate ha
  rw [this];exact h
theorem vars_valid {xs:List Dt}:∀ (d:Nat) (t:Ty) (p:P),typeValidB xs t=true→shapeB xs d t p=true→∀ u∈varsN xs d t p,typeValidB xs u.ty=true
 |0,_,_,_,h,_,_=>by simp [shapeB] at h
 |d+1,t,p,ht,hs,u,hu=>by
  have e:varsN xs (d+1) t p=(if namedB p=true then [⟨p.va,t⟩] else []) ++ (kidsV xs t p).flatMap fun x=>varsN xs d x.1 x.2:=rfl
  rw [e,List.mem_append] at hu
  simp only [shapeB,Bool.and_eq_true] at hs
  rcases hu with hu | hu
  ·split at hu
   ·rw [zy1] at hu
    rw [hu];exact ht
   ·cases hu
  ·rw [List.mem_flatMap] at hu
   obtain ⟨x,hx,hu⟩:=hu
   have hx2:x∈(typesP xs t p).zip p.ks:=List.mem_of_mem_take hx
   have h1:=List.all_eq_true.1 hs.2.2 x hx2
   exact vars_valid d x.1 x.2 (typesP_valid ht hs.1 _ (List.of_mem_zip hx2).1) h1 u hu
theorem typeValid_int {xs:List Dt} {t:Ty} (h:typeValidB xs t=true) (hd:t.d = -1):t.i=0:=by
 unfold typeValidB typeOkB at h
 rw [if_pos hd,Bool.and_eq_true,beq_iff_eq] at h
 exact h.2
def clauseB (xs:List Dt) (t:Ty) (c:Cl):Bool:=patOkB xs t c.pat && guardB c.gd (varsN xs 10 t c.pat)
def clauseValidB (xs:List Dt) (t:Ty) (c:Cl):Bool:=typeValidB xs t && clauseB xs t c
def clausesValidB (xs:List Dt) (t:Ty) (l:List Cl):Bool:=typeValidB xs t && (decide (l.length≤8) && l.all (clauseB xs t))
theorem guard_pat {xs:List Dt} {t:Ty} (ht:typeValidB xs t=true) {p:P} (h:patOkB xs t p=true) (g:Gd):guardSB g (varsN xs 10 t p)=guardB g (varsN xs 10 t p):=by
 unfold patOkB at h
 simp only [Bool.and_eq_true] at h
 exact guard_eq (lin_dup xs 10 t p h.1 h.2.2) (fun u hu hd=>typeValid_int (vars_valid 10 t p ht h.1 u hu) hd)
theorem spec_l4Guard (g:Gd) (vs:List Vt) (w:World) (y:Value) (F:List Nat) (hy:Arr w (VtR w) vs y F) (hf:Under w F) :
  Calls Try.prog 73 #[.agg #[g.op,g.va,g.n],y] w fun e w'=>e=.returned (.bool (guardSB g vs))∧Below w w w':=by
 obtain ⟨A,cap,rfl,hc1,hc2⟩:=hy.form
 have HY:=jj hy
 have HF:=jj hf
 clear hy hf
 obtain ⟨W2,hW2⟩:∃ W2,W2=(w.alloc (.cells #[g.op,g.va,g.n] 39)):=⟨_,rfl⟩
 have hB:Below w w W2:=by rw [hW2];exact (zy2 _ _).alloc (zz8 _) _
 have KB:Blk W2 w 39 #[g.op,g.va,g.n]:=by rw [hW2];exact Blk.new _ _ _
 obtain ⟨y0,y1,y2,ylt⟩:=KB.c3
 have HW2:=jj hW2
 clear KB hW2
 by_cases h0:g.op=0
 ·have t0:(g.op==0)=true:=by simp [h0]
  have HZ:=jj h0
  clear h0
  cases q1:(g.va==0) with
  |false =>
   have hf:Hid (guardSB g vs=false):=by unfold Hid guardSB;rw [if_pos HZ.out,q1];rfl
   go_enter Try.func73,Try.ntmps73
   go_wp2_with fail
   rw [←HW2.out]
   go_wp2
   go_ret
   exact ⟨zA0 hf.out.symm,hB⟩
  |true =>
   have hf:Hid (guardSB g vs=(g.n==0)):=by unfold Hid guardSB;rw [if_pos HZ.out,q1];rfl
   go_enter Try.func73,Try.ntmps73
   go_wp2_with fail
   rw [←HW2.out]
   go_wp2
   go_ret
   exact ⟨zA0 hf.out.symm,hB⟩
 ·have t0:(g.op==0)=false:=by simpa using h0
  have HZ:=jj h0
  clear h0
  cases p1:(g.op != 1) with
  |false =>
   have HOP:Hid ((g.op==1 || g.op==2)=true):=(by have h1:g.op=1:=(by simpa using p1);simp [h1,Hid])
   by_cases hn0:g.n<0
   ·have t3:decide (g.n<0)=true:=decide_eq_true hn0
    have hf:Hid (guardSB g vs=false):=by unfold Hid guardSB;rw [if_neg HZ.out,decide_eq_false (show ¬0≤g.n from by omega),Bool.false_and,Bool.and_false]
    clear hn0
    go_enter Try.func73,Try.ntmps73
    go_wp2_with fail
    rw [←HW2.out]
    go_wp2
    go_ret
    exact ⟨zA0 hf.out.symm,hB⟩
   ·have t3:decide (g.n<0)=false:=decide_eq_false hn0
    by_cases hn9:g.n>9
    ·have t4:decide (g.n>9)=true:=decide_eq_true hn9
     have hf:Hid (guardSB g vs=false):=by unfold Hid guardSB;rw [if_neg HZ.out,decide_eq_false (show ¬g.n≤9 from by omega),Bool.false_and,Bool.and_false,Bool.and_false]
     clear hn0 hn9
     go_enter Try.func73,Try.ntmps73
     go_wp2_with fail
     rw [←HW2.out]
     go_wp2
     go_ret
     exact ⟨zA0 hf.out.symm,hB⟩
    ·have t4:decide (g.n>9)=false:=decide_eq_false hn9
     have HQ:Hid (((g.op==1 || g.op==2) && (decide (0≤g.n) && (decide (g.n≤9) && findNum vs g.va)))=findNum vs g.va):=by unfold Hid;rw [HOP.out,decide_eq_true (show 0≤g.n from by omega),decide_eq_true (show g.n≤9 from by omega)];simp only [Bool.true_and]
     clear hn0 hn9
     obtain ⟨r,hr⟩:=FirstAt.ex (fun u:Vt=>u.var==g.va) vs
     have hff:=find_first hr
     have HR:=jj hr
     clear hr
     go_enter Try.func73,Try.ntmps73
     go_wp2_with fail
     rw [←HW2.out]
     refine (spec_l3Find vs g.va r HR.out W2 _ F (Arr.mono (w:=w) HY.out (.of_below hB HF.out) (fun x _ cs G hk h=>zA6 _ _ x cs G hk h)) (HF.out.mono hB.size)).mono ?_
     rintro e w' ⟨rfl,hB'⟩
     have hB3:=hB.trans (hB'.mono hB.size)
     clear y0 y1 y2 ylt
     rcases hff with ⟨m,hm,rfl,hfd⟩ | ⟨rfl,hfd⟩
     ·have t5:decide ((m:Int)≥0)=true:=decide_eq_true (by omega)
      have t6:decide (0≤(m:Int))=true:=decide_eq_true (by omega)
      have i0:(0:Int)≤(m:Int):=by omega
      have i1:(m:Int)<(vs.length:Int):=by omega
      obtain ⟨b,off,rfl⟩:=HY.out.ptr (by omega)
      obtain ⟨hb,c0,c1,c2⟩:=ArrVt.at HY.out HF.out hB3 m hm
      have hf:Hid (guardSB g vs=(vs[m].ty.d == -1)):=by unfold Hid guardSB;rw [if_neg HZ.out,HQ.out,findNum_some hfd]
      clear hfd
      go_wp2
      go_ret
      exact ⟨zA0 hf.out.symm,hB3⟩
     ·have hf:Hid (guardSB g vs=false):=by unfold Hid guardSB;rw [if_neg HZ.out,HQ.out,findNum_none hfd]
      clear hfd
      go_wp2
      go_ret
      exact ⟨zA0 hf.out.symm,hB3⟩
  |true =>
   cases p2:(g.op != 2) with
   |false =>
    have HOP:Hid ((g.op==1 || g.op==2)=true):=(by have h1:g.op=2:=(by simpa using p2);simp [h1,Hid])
    by_cases hn0:g.n<0
    ·have t3:decide (g.n<0)=true:=decide_eq_true hn0
     have hf:Hid (guardSB g vs=false):=by unfold Hid guardSB;rw [if_neg HZ.out,decide_eq_false (show ¬0≤g.n from by omega),Bool.false_and,Bool.and_false]
     clear hn0
     go_enter Try.func73,Try.ntmps73
     go_wp2_with fail
     rw [←HW2.out]
     go_wp2
     go_ret
     exact ⟨zA0 hf.out.symm,hB⟩
    ·have t3:decide (g.n<0)=false:=decide_eq_false hn0
     by_cases hn9:g.n>9
     ·have t4:decide (g.n>9)=true:=decide_eq_true hn9
      have hf:Hid (guardSB g vs=false):=by unfold Hid guardSB;rw [if_neg HZ.out,decide_eq_false (show ¬g.n≤9 from by omega),Bool.false_and,Bool.and_false,Bool.and_false]
      clear hn0 hn9
      go_enter Try.func73,Try.ntmps73
      go_wp2_with fail
      rw [←HW2.out]
      go_wp2
      go_ret
      exact ⟨zA0 hf.out.symm,hB⟩
     ·have t4:decide (g.n>9)=false:=decide_eq_false hn9
      have HQ:Hid (((g.op==1 || g.op==2) && (decide (0≤g.n) && (decide (g.n≤9) && findNum vs g.va)))=findNum vs g.va):=by unfold Hid;rw [HOP.out,decide_eq_true (show 0≤g.n from by omega),decide_eq_true (show g.n≤9 from by omega)];simp only [Bool.true_and]
      clear hn0 hn9
      obtain ⟨r,hr⟩:=FirstAt.ex (fun u:Vt=>u.var==g.va) vs
      have hff:=find_first hr
      have HR:=jj hr
      clear hr
      go_enter Try.func73,Try.ntmps73
      go_wp2_with fail
      rw [←HW2.out]
      refine (spec_l3Find vs g.va r HR.out W2 _ F (Arr.mono (w:=w) HY.out (.of_below hB HF.out) (fun x _ cs G hk h=>zA6 _ _ x cs G hk h)) (HF.out.mono hB.size)).mono ?_
      rintro e w' ⟨rfl,hB'⟩
      have hB3:=hB.trans (hB'.mono hB.size)
      clear y0 y1 y2 ylt
      rcases hff with ⟨m,hm,rfl,hfd⟩ | ⟨rfl,hfd⟩
      ·have t5:decide ((m:Int)≥0)=true:=decide_eq_true (by omega)
       have t6:decide (0≤(m:Int))=true:=decide_eq_true (by omega)
       have i0:(0:Int)≤(m:Int):=by omega
       have i1:(m:Int)<(vs.length:Int):=by omega
       obtain ⟨b,off,rfl⟩:=HY.out.ptr (by omega)
       obtain ⟨hb,c0,c1,c2⟩:=ArrVt.at HY.out HF.out hB3 m hm
       have hf:Hid (guardSB g vs=(vs[m].ty.d == -1)):=by unfold Hid guardSB;rw [if_neg HZ.out,HQ.out,findNum_some hfd]
       clear hfd
       go_wp2
       go_ret
       exact ⟨zA0 hf.out.symm,hB3⟩
      ·have hf:Hid (guardSB g vs=false):=by unfold Hid guardSB;rw [if_neg HZ.out,HQ.out,findNum_none hfd]
       clear hfd
       go_wp2
       go_ret
       exact ⟨zA0 hf.out.symm,hB3⟩
   |true =>
    have hf:Hid (guardSB g vs=false):=by unfold Hid guardSB;rw [if_neg HZ.out,(show (g.op==1 || g.op==2)=false from (by simp only [bne_iff_ne,ne_eq] at p1 p2;simp [p1,p2]))];rfl
    go_enter Try.func73,Try.ntmps73
    go_wp2_with fail
    rw [←HW2.out]
    go_wp2
    go_ret
    exact ⟨zA0 hf.out.symm,hB⟩
theorem impl_guardOk (g:Gd) (vs:List Vt) (w:World) (y:Value) (F:List Nat) (hy:Arr w (VtR w) vs y F) (hf:Under w F) :
  Calls Try.prog 70 #[.agg #[g.op,g.va,g.n],y] w fun e w'=>e=.returned (.bool (guardB g vs))∧Below w w w':=by
 obtain ⟨A,cap,rfl,hc1,hc2⟩:=hy.form
 have HY:=jj hy
 have HF:=jj hf
 clear hy hf
 obtain ⟨W2,hW2⟩:∃ W2,W2=(w.alloc (.cells #[g.op,g.va,g.n] 39)):=⟨_,rfl⟩
 have hB:Below w w W2:=by rw [hW2];exact (zy2 _ _).alloc (zz8 _) _
 have KB:Blk W2 w 39 #[g.op,g.va,g.n]:=by rw [hW2];exact Blk.new _ _ _
 obtain ⟨y0,y1,y2,ylt⟩:=KB.c3
 have HW2:=jj hW2
 clear KB hW2
 by_cases h0:g.op=0
 ·have t0:(g.op==0)=true:=by simp [h0]
  have HZ:=jj h0
  clear h0
  by_cases h1:g.va=0
  ·by_cases h2:g.n=0
   ·have hf:Hid (guardB g vs=true):=by unfold Hid guardB;rw [if_pos HZ.out];simp [h1,h2]
    clear hB y0 y1 y2 ylt HW2
    go_enter Try.func70,Try.ntmps70
    go_wp2
    go_ret
    exact ⟨zA0 hf.out.symm,(zy2 _ _).alloc (zz8 _) _⟩
   ·have hf:Hid (guardB g vs=false):=by unfold Hid guardB;rw [if_pos HZ.out];simp [h1,h2]
    clear hB y0 y1 y2 ylt HW2
    go_enter Try.func70,Try.ntmps70
    go_wp2
    go_ret
    exact ⟨zA0 hf.out.symm,(zy2 _ _).alloc (zz8 _) _⟩
  ·by_cases h2:g.n=0
   ·have hf:Hid (guardB g vs=false):=by unfold Hid guardB;rw [if_pos HZ.out];simp [h1,h2]
    clear hB y0 y1 y2 ylt HW2
    go_enter Try.func70,Try.ntmps70
    go_wp2
    go_ret
    exact ⟨zA0 hf.out.symm,(zy2 _ _).alloc (zz8 _) _⟩
   ·have hf:Hid (guardB g vs=false):=by unfold Hid guardB;rw [if_pos HZ.out];simp [h1,h2]
    clear hB y0 y1 y2 ylt HW2
    go_enter Try.func70,Try.ntmps70
    go_wp2
    go_ret
    exact ⟨zA0 hf.out.symm,(zy2 _ _).alloc (zz8 _) _⟩
 ·have t0:(g.op==0)=false:=by simpa using h0
  have HZ:=jj h0
  clear h0
  go_enter Try.func70,Try.ntmps70
  go_wp2_with fail
  rw [←HW2.out]
  refine (zAE g.op 1 2 W2).mono ?_
  rintro e w3 ⟨rfl,rfl⟩
  cases p1:withinB g.op 1 2 with
  |false =>
   have hf:Hid (guardB g vs=false):=by unfold Hid guardB;rw [if_neg HZ.out,p1];rfl
   clear p1
   go_wp2
   go_ret
   exact ⟨zA0 hf.out.symm,hB⟩
  |true =>
   go_wp2_with fail
   refine (zAE g.n 0 9 W2).mono ?_
   rintro e w4 ⟨rfl,rfl⟩
   cases p2:withinB g.n 0 9 with
   |false =>
    have hf:Hid (guardB g vs=false):=by unfold Hid guardB;rw [if_neg HZ.out,p1,p2];rfl
    clear p1 p2
    go_wp2
    go_ret
    exact ⟨zA0 hf.out.symm,hB⟩
   |true =>
    have hf:Hid (guardB g vs=hasV vs ⟨g.va,⟨-1,0⟩⟩):=by unfold Hid guardB;rw [if_neg HZ.out,p1,p2];rfl
    clear p1 p2
    go_wp2_with fail
    refine (Contains_Vt vs ⟨g.va,⟨-1,0⟩⟩ W2 _ F (Arr.mono (w:=w) HY.out (.of_below hB HF.out) (fun x _ cs G hk h=>zA6 _ _ x cs G hk h)) (HF.out.mono hB.size)).mono ?_
    rintro e w' ⟨rfl,hB'⟩
    have hB3:=hB.trans (hB'.mono hB.size)
    generalize hasV vs ⟨g.va,⟨-1,0⟩⟩=bb at *
    clear y0 y1 y2 ylt
    go_wp2
    go_ret
    exact ⟨zA0 hf.out.symm,hB3⟩
end Go.Proofs.Ytjjclcmmfeegfaa
