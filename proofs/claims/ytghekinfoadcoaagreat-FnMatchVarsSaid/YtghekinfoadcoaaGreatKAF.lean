/-
  Lemmas, and contracts of functions. Conditions: none.
-/
import Derived.Test.YtghekinfoadcoaaGreatKAE
import Derived.Deep.RegionWith
import Derived.Test.YtghekinfoadcoaaGreatKAC
import Derived.Test.YtghekinfoadcoaaGreatKAA
import Derived.Test.YtghekinfoadcoaaGreatKAB
import Derived.Deep.RegionHeld3

set_option linter.unusedVariables false
set_option linter.unusedSimpArgs false
set_option maxRecDepth 100000
set_option maxHeartbeats 1600000

namespace Go.Proofs.YtghekinfoadcoaaGreat
open Go.RowKit
theorem results_tmp_cell_cell {P:Program} {fn:Func} {u p1 p2:Tmp} {ty1 ty2:TypeId} (h:fn.results=#[.tmp u,.cell p1 ty1,.cell p2 ty2]) (tmps:Array Value) (w:World) (g1 g2:Nat) (t1 t2:TypeId) (cs1 cs2:Array Value) (fr1 fr2:Nat×Nat) (d1 d2:TypeDesc)
  (hp1:tmps.getD p1 undef=.pointer (some ⟨g1,0,none⟩)) (hg1:w.heap[g1]?=some (.cells cs1 t1 fr1)) (hu1:P.underlying ty1=some d1) (hd1:(match d1 with | .struct _ | .array _ _=>true | _=>false)=true) (hi1:(P.info? ty1).map (·.size)=some cs1.size)
  (hp2:tmps.getD p2 undef=.pointer (some ⟨g2,0,none⟩)) (hg2:w.heap[g2]?=some (.cells cs2 t2 fr2)) (hu2:P.underlying ty2=some d2) (hd2:(match d2 with | .struct _ | .array _ _=>true | _=>false)=true) (hi2:(P.info? ty2).map (·.size)=some cs2.size) :
  (results fn tmps).run P w=.ok (.tuple #[tmps.getD u undef,.agg cs1,.agg cs2]) w:=by
 have hp1':tmps[p1]?.getD undef=.pointer (some ⟨g1,0,none⟩):=by simpa using hp1
 have hp2':tmps[p2]?.getD undef=.pointer (some ⟨g2,0,none⟩):=by simpa using hp2
 simp [results,h,hp1',hp2',asAddr,run_loadVar_row w g1 t1 ty1 cs1 fr1 d1 hg1 hu1 hd1 hi1,run_loadVar_row w g2 t2 ty2 cs2 fr2 d2 hg2 hu2 hd2 hi2]
theorem pow44:4 ^ 4=256:=by decide
def smallTab (xs:List Dt):Bool:=(tableL xs).all fun x=>decide (x≤4)
theorem seven_tab:sevenT.all (fun t=>match parseW t with | some xs=>smallTab xs | none=>false)=true:=by decide +kernel
theorem seven_small {t:List UInt8} (h:t∈sevenT):∃ xs,parseB (bs t)=some xs∧worldOk xs=true∧0<xs.length∧smallTab xs=true:=by
 obtain ⟨xs,h1,h2,h3⟩:=fineW_ex (List.all_eq_true.1 sevenT_fine t h)
 have h4:=List.all_eq_true.1 seven_tab t h
 rw [h1] at h4
 obtain ⟨ys,g1,g2,g3⟩:=seven_parse h
 have hb:parseB (bs t)=parseW t:=by first | rfl | (unfold parseB;simp [bs_toList]) | (unfold parseB;rfl)
 exact ⟨xs,hb.trans h1,h2,h3,h4⟩
theorem depth_small {xs:List Dt} (h:smallTab xs=true) (t:Ty):depthIn (tableL xs) t≤4:=by
 unfold depthIn
 split
 ·omega
 ·unfold smallTab at h
  rw [List.all_eq_true] at h
  rw [List.getD_eq_getElem?_getD]
  cases e:(tableL xs)[slotOf t]? with
  |none=>simp
  |some x =>
   have:=h x (List.mem_of_getElem? e)
   simpa using this
structure TypedOk (xs:List Dt) (t:Ty):Prop where
 ok:worldOk xs=true
 pos:0<xs.length
 small:smallTab xs=true
 ty:typeOkB xs.length t=true
 dep:depthIn (tableL xs) t≠0
def DrewTyped (p n g:Nat) (w:World) (e:Ending) (w':World):Prop:=∃ (xs:List Dt) (v:Value) (F:List Nat) (t:Ty) (a:V) (cs:List Value) (G:List Nat) (q:Nat),e=.returned (.tuple #[v,.agg #[.int .i64 t.d,.int .i64 t.i],.agg cs.toArray])∧TypedOk xs t∧Arr w' (DtR w') xs v F∧Fresh w w' F∧VR w' a cs G∧Fresh w w' G∧nodes a≤256∧Rd w' g q∧q≤p+n∧Chg [g] w w'
theorem spec_l2Typed (p g:Nat) (w:World) (h:Rd w g p) (hp:p≤800000) :
  Calls Tryz.prog 83 #[.pointer (some ⟨g,0,none⟩)] w (DrewTyped p 300 g w):=by
 have hgl:=h.lt
 have hB0:Below w.heap.size w ((w.alloc (.cells #[.int .i64 0,.int .i64 0] 39)).alloc (.cells #[.int .i64 0,.int .i64 0,.slice none 0 0] 47)):=((zy2 _ _).alloc (zz8 _) _).alloc (by simp) _
 have HR0:Hid (Rd ((w.alloc (.cells #[.int .i64 0,.int .i64 0] 39)).alloc (.cells #[.int .i64 0,.int .i64 0,.slice none 0 0] 47)) g p):=h.below hB0
 have KT0:Hid (Blk ((w.alloc (.cells #[.int .i64 0,.int .i64 0] 39)).alloc (.cells #[.int .i64 0,.int .i64 0,.slice none 0 0] 47)) w.heap.size 39 #[.int .i64 0,.int .i64 0]):=(Blk.new w _ _).same (Below.heap_alloc _ _ _ (by simp))
 have KV0:Hid (Blk ((w.alloc (.cells #[.int .i64 0,.int .i64 0] 39)).alloc (.cells #[.int .i64 0,.int .i64 0,.slice none 0 0] 47)) (w.heap.size+1) 47 #[.int .i64 0,.int .i64 0,.slice none 0 0]):=zA7 w _ 47 _
 have hz0:((w.alloc (.cells #[.int .i64 0,.int .i64 0] 39)).alloc (.cells #[.int .i64 0,.int .i64 0,.slice none 0 0] 47)).heap.size=w.heap.size+2:=by simp
 clear h
 go_enter Tryz.func83,Tryz.ntmps83
 go_wp2_with fail
 obtain ⟨w2,hw2⟩:∃ X,X=((w.alloc (.cells #[.int .i64 0,.int .i64 0] 39)).alloc (.cells #[.int .i64 0,.int .i64 0,.slice none 0 0] 47)):=⟨_,rfl⟩
 rw [←hw2] at hB0 HR0 KT0 KV0 hz0 ⊢
 clear hw2
 refine (spec_l1WorldQ (fun xs=>worldOk xs=true∧0<xs.length∧smallTab xs=true) (fun t ht=>seven_small ht) p g w2 HR0.out (by omega)).mono ?_
 rintro e w3 ⟨xs,v3,FA,q3,rfl,⟨hok,hpos,hsm⟩,ha3,hfs3,hR3,hq3,hC3⟩
 have HW:=jj (worldOK hok)
 have HOKW:=jj hok
 have HSM:=jj hsm
 have HFA2:Hid (∀ b∈FA,w.heap.size+2≤b):=fun b hb=>by have:=(hfs3 b hb).1;omega
 have HGA:Hid (∀ b∈FA,b∉[g]):=fun b hb h=>by rw [zy1] at h;have:=(hfs3 b hb).1;omega
 have KT3:=jj (KT0.out.same (hC3.block _ KT0.out.lt (by rw [zy1];omega)))
 have KV3:=jj (KV0.out.same (hC3.block _ KV0.out.lt (by rw [zy1];omega)))
 have HC3:Hid (Chg [g] w w3):=(Chg.of_below hB0).trans hC3
 have HA3:=jj ha3
 have HU3:=jj hfs3.under
 have HR3:=jj hR3
 have hlen:=HW.out.len
 have hz3:=hC3.size
 obtain ⟨A1,cap1,rfl,hc1,hc2⟩:=ha3.form
 clear hok hsm ha3 hfs3 hR3 hC3 KT0 KV0 HR0 hB0
 go_wp2_with fail
 refine (spec_l1Table xs HW.out w3 _ FA HA3.out HU3.out).mono ?_
 rintro e w4 ⟨u4,HT,rfl,hb4,hy4,-,hfs4⟩
 have KT4:=jj (KT3.out.same (hb4.block _ KT3.out.lt))
 have KV4:=jj (KV3.out.same (hb4.block _ KV3.out.lt))
 have HC4:Hid (Chg [g] w w4):=HC3.out.step hb4
 have HA4:=jj (ArrDt.below HA3.out hb4 HU3.out)
 have HU4:=jj (HU3.out.mono hb4.size)
 have HY4:=jj hy4
 have HYU4:=jj hfs4.under
 have HGT:Hid (∀ b∈HT,b∉[g]):=fun b hb h=>by rw [zy1] at h;have:=(hfs4 b hb).1;omega
 have HR4:=jj (HR3.out.below hb4)
 have hz4:=hb4.size
 obtain ⟨U4,ucap,rfl,hu1,hu2⟩:=hy4.form
 clear hy4 hfs4 hb4 KT3 KV3 HC3 HA3 HU3 HR3
 go_wp2_with fail
 refine (zB7 xs.length q3 g w4 HR4.out (by omega) (by omega) (by omega)).mono ?_
 rintro e w5 ⟨r,rfl,hr,hR5,hC5⟩
 have HR5:=jj hR5
 have HC5:=jj hC5
 clear hR5 hC5
 go_wp2_with fail
 refine (num_lit [0,0,1,2] (by decide) (by decide) (q3+1) g w5 HR5.out (by omega)).mono ?_
 rintro e w6 ⟨x,hx,rfl,hR6,hC6⟩
 have hx2:0≤x∧x≤2:=by
  simp only [List.mem_cons,List.mem_nil_iff,or_false] at hx
  omega
 have hC46:=HC5.out.trans hC6
 have HG1:Hid (∀ b,g<b→b∉[g]):=fun b hb h=>by rw [zy1] at h;omega
 have KT6:=jj (KT4.out.same (hC46.block _ KT4.out.lt (HG1.out _ hgl)))
 have KV6:=jj (KV4.out.same (hC46.block _ KV4.out.lt (HG1.out _ (by omega))))
 have HC6:=jj (HC4.out.trans hC46)
 have HA6:=jj (ArrDt.mono HA4.out (hC46.kept HU4.out HGA.out))
 have HU6:=jj (HU4.out.mono hC46.size)
 have HY6:=jj (ArrNat.kept HY4.out (hC46.kept HYU4.out HGT.out))
 have HYU6:=jj (HYU4.out.mono hC46.size)
 have HR6:=jj hR6
 have hz6:=hC46.size
 clear hx hC46 hR6 hC6 HR5 HC5 KT4 KV4 HC4 HA4 HU4 HY4 HYU4 HR4
 go_wp2_with fail
 obtain ⟨w7,hw7⟩:∃ X,X=w6.alloc (.cells #[.int .i64 (r:Int),.int .i64 x] 39):=⟨_,rfl⟩
 have hb7:Below w6.heap.size w6 w7:=by rw [hw7];exact (zy2 _ _).alloc (zz8 _) _
 have K7:Hid (Blk w7 w6.heap.size 39 #[.int .i64 (r:Int),.int .i64 x]):=by rw [hw7];exact Blk.new _ _ _
 rw [←hw7]
 clear hw7
 obtain ⟨k7,hk7⟩:∃ X,X=w6.heap.size:=⟨_,rfl⟩
 rw [←hk7] at K7 ⊢
 have hk7w:w.heap.size+2≤k7:=by omega
 obtain ⟨x2,rfl⟩:∃ n:Nat,x=(n:Int):=⟨x.toNat,by omega⟩
 have HTI:Hid (TyIn xs.length ⟨(r:Int),(x2:Int)⟩):=.inr ⟨r,x2,rfl,hr,by omega⟩
 have KT7:=jj (KT6.out.same (hb7.block _ KT6.out.lt))
 have KV7:=jj (KV6.out.same (hb7.block _ KV6.out.lt))
 have HC7:=jj (HC6.out.step hb7)
 have HA7:=jj (ArrDt.below HA6.out hb7 HU6.out)
 have HU7:=jj (HU6.out.mono hb7.size)
 have HY7:=jj (ArrNat.below HY6.out hb7 HYU6.out)
 have HYU7:=jj (HYU6.out.mono hb7.size)
 have HR7:=jj (HR6.out.below hb7)
 have HK7A:Hid (∀ b∈FA,b≠k7):=fun b hb e=>by have:=HU6.out b hb;omega
 have HK7T:Hid (∀ b∈HT,b≠k7):=fun b hb e=>by have:=HYU6.out b hb;omega
 clear hb7 hk7 KT6 KV6 HC6 HA6 HU6 HY6 HYU6 HR6
 refine (spec_l1Depth xs.length HW.out.len (tableL xs) (tableL_small HW.out) ⟨(r:Int),(x2:Int)⟩ HTI.out w7 _ HT HY7.out HYU7.out).mono ?_
 rintro e w7' ⟨rfl,hb8⟩
 have KTR:=jj (KT7.out.same (hb8.block _ KT7.out.lt))
 have KVR:=jj (KV7.out.same (hb8.block _ KV7.out.lt))
 have HC8:=jj (HC7.out.step hb8)
 have HA8:=jj (ArrDt.below HA7.out hb8 HU7.out)
 have HU8:=jj (HU7.out.mono hb8.size)
 have HTT:=jj (ArrNat.below HY7.out hb8 HYU7.out)
 have HTU:=jj (HYU7.out.mono hb8.size)
 have HR8:=jj (HR7.out.below hb8)
 have K8:=jj (K7.out.same (hb8.block _ K7.out.lt))
 clear hb8 KT7 KV7 HC7 HA7 HU7 HY7 HYU7 HR7 K7
 obtain ⟨w7,hw7⟩:∃ X,X=w7':=⟨_,rfl⟩
 rw [←hw7] at KTR KVR HC8 HA8 HU8 HTT HTU HR8 K8 ⊢
 clear hw7
 have HC7:=HC8
 have HA7:=HA8
 have HU7:=HU8
 have HR7:=HR8
 have K7:=K8
 clear HC8 HA8 HU8 HR8 K8
 obtain ⟨p7,hp7⟩:∃ n,n=q3+1+1:=⟨_,rfl⟩
 rw [←hp7] at HR7
 obtain ⟨de,hde⟩:∃ n,n=depthIn (tableL xs) ⟨(r:Int),(x2:Int)⟩:=⟨_,rfl⟩
 rw [←hde]
 have HDE:=jj hde
 clear hde
 cases q0:(de==0) with
 |false =>
  have HOK:Hid (TypedOk xs ⟨(r:Int),(x2:Int)⟩):=⟨HOKW.out,hpos,HSM.out,by simp only [typeOkB,withinB];rw [if_neg (by omega),decide_eq_true (show (0:Int)≤(r:Int) from by omega),decide_eq_true (show (r:Int)≤(xs.length:Int)-1 from by omega),decide_eq_true (show (0:Int)≤(x2:Int) from by omega),decide_eq_true (show (x2:Int)≤3 from by omega)];rfl,by rw [←HDE.out];simpa using q0⟩
  have q0:w7.cell? ⟨k7,0,none⟩=some (.int .i64 (r:Int)):=(K7.out.cell 0).trans (by simp)
  have q1:w7.cell? ⟨k7,1,none⟩=some (.int .i64 (x2:Int)):=(K7.out.cell 1).trans (by simp)
  have qlt:=K7.out.lt
  go_wp2_with fail
  refine zA5 (S:=fun w'=>w'.cell? ⟨k7,0,none⟩=some (.int .i64 (r:Int))∧w'.cell? ⟨k7,1,none⟩=some (.int .i64 (x2:Int))) (T:=fun _=>True) (d:=99) (by kernel_rfl) ?_
  have hS1:w7.drew.cell? ⟨k7,0,none⟩=some (.int .i64 (r:Int))∧w7.drew.cell? ⟨k7,1,none⟩=some (.int .i64 (x2:Int)):=⟨q0,q1⟩
  have hT1:True:=trivial
  clear q0 q1
  refine wV 0 rfl hS1 hT1 ?_
  (try simp only [zz])
  refine wV 1 rfl hS1 hT1 ?_
  (try simp only [zz])
  refine wV 2 rfl hS1 hT1 ?_
  (try simp only [zz])
  refine wV 3 rfl hS1 hT1 ?_
  (try simp only [zz])
  refine wV 4 rfl hS1 hT1 ?_
  (try simp only [zz])
  refine wV 5 rfl hS1 hT1 ?_
  (try simp only [zz])
  refine wV 6 rfl hS1 hT1 ?_
  (try simp only [zz])
  refine w1 7 rfl fun K hK=>?_
  have hbl:Below w7.heap.size w7 (w7.drew.alloc (.cells ([3,2,4,1].map (Value.int .i64)).toArray 3)):=(zy2 _ _).drew.alloc (zz8 _) _
  have hS2:(w7.drew.alloc (.cells ([3,2,4,1].map (Value.int .i64)).toArray 3)).cell? ⟨k7,0,none⟩=some (.int .i64 (r:Int))∧(w7.drew.alloc (.cells ([3,2,4,1].map (Value.int .i64)).toArray 3)).cell? ⟨k7,1,none⟩=some (.int .i64 (x2:Int)):=⟨(hbl.cell (p:=⟨k7,0,none⟩) qlt).trans hS1.1,(hbl.cell (p:=⟨k7,1,none⟩) qlt).trans hS1.2⟩
  go_simp
  (try dsimp only)
  refine hK.out _ _ hS2 (fun _=>trivial) ?_
  clear hK K
  (try simp only [zz])
  refine w1 8 rfl fun K hK=>?_
  go_simp
  go_at_call 86
  refine (num_lit [3,2,4,1] (by decide) (by decide) p7 g w7.drew HR7.out.drew (by omega)).mono ?_
  rintro e w8 ⟨dp,hdp,rfl,hR8,hC8⟩
  have hdp4:1≤dp∧dp≤4:=by
   simp only [List.mem_cons,List.mem_nil_iff,or_false] at hdp
   omega
  have hC8u:Chg [g] w7 w8:=hC8.undrew
  have k7g:k7∉[g]:=by rw [zy1];omega
  have hS3:w8.cell? ⟨k7,0,none⟩=some (.int .i64 (r:Int))∧w8.cell? ⟨k7,1,none⟩=some (.int .i64 (x2:Int)):=⟨(hC8u.cell (p:=⟨k7,0,none⟩) qlt k7g).trans hS1.1,(hC8u.cell (p:=⟨k7,1,none⟩) qlt k7g).trans hS1.2⟩
  have HR8:=jj hR8
  clear hdp hR8
  (try dsimp only)
  refine hK.out _ _ hS3 (fun _=>trivial) ?_
  clear hK K
  (try simp only [zz])
  refine w1 9 rfl fun K hK=>?_
  have HC8:=jj (HC7.out.trans hC8u)
  have HA8:=jj (ArrDt.mono HA7.out (hC8u.kept HU7.out HGA.out))
  have HU8:=jj (HU7.out.mono hC8u.size)
  have HT8:=jj (ArrNat.kept HTT.out (hC8u.kept HTU.out HGT.out))
  have HTU8:=jj (HTU.out.mono hC8u.size)
  have hz8:=hC8u.size
  go_simp
  go_at_call 113
  refine (spec_l2Draw 4 (by omega) xs HW.out ⟨(r:Int),(x2:Int)⟩ (zAX HOK.out.ty) HOK.out.dep dp (by omega) (by omega) (depth_small HOK.out.small _) w8 (p7+1) g _ FA _ HT HR8.out (by rw [pow44];omega) HA8.out HU8.out (fun h=>HGA.out g h (by simp)) HT8.out HTU8.out (fun h=>HGT.out g h (by simp))).mono ?_
  rintro e w10 ⟨vA,csA,GA,q10,rfl,hpA,hfsA,hnA,hR10,hq10,hC10⟩
  obtain ⟨kvA,rfl,haA⟩:=(zAE _ _ _).1 hpA
  obtain ⟨A8,cap8,rfl,-,-⟩:=haA.form
  have k7g':k7∉[g]:=k7g
  have hS4:w10.cell? ⟨k7,0,none⟩=some (.int .i64 (r:Int))∧w10.cell? ⟨k7,1,none⟩=some (.int .i64 (x2:Int)):=⟨(hC10.cell (p:=⟨k7,0,none⟩) (zz9 qlt hz8) k7g').trans hS3.1,(hC10.cell (p:=⟨k7,1,none⟩) (zz9 qlt hz8) k7g').trans hS3.2⟩
  have KT10:=jj (KTR.out.same ((hC8u.trans hC10).block _ KTR.out.lt (by rw [zy1];omega)))
  have KV10:=jj (KVR.out.same ((hC8u.trans hC10).block _ KVR.out.lt (by rw [zy1];omega)))
  have HC10:=jj (HC8.out.trans hC10)
  have HA10:=jj (ArrDt.mono HA8.out (hC10.kept HU8.out HGA.out))
  have HU10:=jj (HU8.out.mono hC10.size)
  have HPA:=jj hpA
  have HFA:Hid (∀ b∈GA,w.heap.size+2≤b∧b<w10.heap.size):=fun b hb=>⟨by have:=(hfsA b hb).1;omega,(hfsA b hb).2⟩
  have HNA:=jj hnA
  have HR10:=jj hR10
  have hk7:=hk7w
  have HK0:Hid (w.heap.size≠k7):=by unfold Hid;omega
  have HK1:Hid (w.heap.size+1≠k7):=by unfold Hid;omega
  have x0:w10.cell? ⟨w.heap.size,0,none⟩=some (.int .i64 0):=(KT10.out.cell 0).trans (by simp)
  have x1:w10.cell? ⟨w.heap.size,1,none⟩=some (.int .i64 0):=(KT10.out.cell 1).trans (by simp)
  have xf0:=KT10.out.frozen 0
  have xf1:=KT10.out.frozen 1
  have xlt:=KT10.out.lt
  have z0:w10.cell? ⟨w.heap.size+1,0,none⟩=some (.int .i64 0):=(KV10.out.cell 0).trans (by simp)
  have z1:w10.cell? ⟨w.heap.size+1,1,none⟩=some (.int .i64 0):=(KV10.out.cell 1).trans (by simp)
  have z2:w10.cell? ⟨w.heap.size+1,2,none⟩=some (.slice none 0 0):=(KV10.out.cell 2).trans (by simp)
  have zf0:=KV10.out.frozen 0
  have zf1:=KV10.out.frozen 1
  have zf2:=KV10.out.frozen 2
  have zlt:=KV10.out.lt
  have HS4:=jj hS4
  have hs10:∀ b,b≠w.heap.size→b≠w.heap.size+1→(((((w10.setCell ⟨w.heap.size,0,none⟩ (.int .i64 (r:Int))).setCell ⟨w.heap.size,1,none⟩ (.int .i64 (x2:Int))).setCell ⟨w.heap.size+1,0,none⟩ (.int .i64 vA.c)).setCell ⟨w.heap.size+1,1,none⟩ (.int .i64 vA.n)).setCell ⟨w.heap.size+1,2,none⟩ (.slice A8 vA.ks.length cap8)).heap[b]?=w10.heap[b]?:=fun b h1 h2=>by
   rw [zz7 _ _ _ _ (by show b≠_;exact h2),zz7 _ _ _ _ (by show b≠_;exact h2),zz7 _ _ _ _ (by show b≠_;exact h2),zz7 _ _ _ _ (by show b≠_;exact h1),zz7 _ _ _ _ (by show b≠_;exact h1)]
  have HKE:Hid (∀ F:List Nat,(∀ b∈F,w.heap.size+2≤b)→Kept F w10 (((((w10.setCell ⟨w.heap.size,0,none⟩ (.int .i64 (r:Int))).setCell ⟨w.heap.size,1,none⟩ (.int .i64 (x2:Int))).setCell ⟨w.heap.size+1,0,none⟩ (.int .i64 vA.c)).setCell ⟨w.heap.size+1,1,none⟩ (.int .i64 vA.n)).setCell ⟨w.heap.size+1,2,none⟩ (.slice A8 vA.ks.length cap8))):=fun F hF b hb=>hs10 b (by have:=hF b hb;omega) (by have:=hF b hb;omega)
  have hsz:(((((w10.setCell ⟨w.heap.size,0,none⟩ (.int .i64 (r:Int))).setCell ⟨w.heap.size,1,none⟩ (.int .i64 (x2:Int))).setCell ⟨w.heap.size+1,0,none⟩ (.int .i64 vA.c)).setCell ⟨w.heap.size+1,1,none⟩ (.int .i64 vA.n)).setCell ⟨w.heap.size+1,2,none⟩ (.slice A8 vA.ks.length cap8)).heap.size=w10.heap.size:=by simp [World.setCell]
  have KTe:Hid (Blk (((((w10.setCell ⟨w.heap.size,0,none⟩ (.int .i64 (r:Int))).setCell ⟨w.heap.size,1,none⟩ (.int .i64 (x2:Int))).setCell ⟨w.heap.size+1,0,none⟩ (.int .i64 vA.c)).setCell ⟨w.heap.size+1,1,none⟩ (.int .i64 vA.n)).setCell ⟨w.heap.size+1,2,none⟩ (.slice A8 vA.ks.length cap8)) w.heap.size 39 #[.int .i64 (r:Int),.int .i64 (x2:Int)]):=(((KT10.out.set_ 0 _).set_ 1 _).same (by rw [zz7 _ _ _ _ (by show w.heap.size≠w.heap.size+1;omega),zz7 _ _ _ _ (by show w.heap.size≠w.heap.size+1;omega),zz7 _ _ _ _ (by show w.heap.size≠w.heap.size+1;omega)]))
  have KVe:Hid (Blk (((((w10.setCell ⟨w.heap.size,0,none⟩ (.int .i64 (r:Int))).setCell ⟨w.heap.size,1,none⟩ (.int .i64 (x2:Int))).setCell ⟨w.heap.size+1,0,none⟩ (.int .i64 vA.c)).setCell ⟨w.heap.size+1,1,none⟩ (.int .i64 vA.n)).setCell ⟨w.heap.size+1,2,none⟩ (.slice A8 vA.ks.length cap8)) (w.heap.size+1) 47 #[.int .i64 vA.c,.int .i64 vA.n,.slice A8 vA.ks.length cap8]):=(((KV10.out.same (by rw [zz7 _ _ _ _ (by show w.heap.size+1≠w.heap.size;omega),zz7 _ _ _ _ (by show w.heap.size+1≠w.heap.size;omega)])).set_ 0 _).set_ 1 _).set_ 2 _
  have hCe:Chg [g] w (((((w10.setCell ⟨w.heap.size,0,none⟩ (.int .i64 (r:Int))).setCell ⟨w.heap.size,1,none⟩ (.int .i64 (x2:Int))).setCell ⟨w.heap.size+1,0,none⟩ (.int .i64 vA.c)).setCell ⟨w.heap.size+1,1,none⟩ (.int .i64 vA.n)).setCell ⟨w.heap.size+1,2,none⟩ (.slice A8 vA.ks.length cap8)):=((((HC10.out.set_new (zz8 _)).set_new (zz8 _)).set_new (by omega)).set_new (by omega)).set_new (by omega)
  have HFin:Hid (DrewTyped p 300 g w (.returned (.tuple #[.slice A1 xs.length cap1,.agg #[.int .i64 (r:Int),.int .i64 (x2:Int)],.agg #[.int .i64 vA.c,.int .i64 vA.n,.slice A8 vA.ks.length cap8]])) (((((w10.setCell ⟨w.heap.size,0,none⟩ (.int .i64 (r:Int))).setCell ⟨w.heap.size,1,none⟩ (.int .i64 (x2:Int))).setCell ⟨w.heap.size+1,0,none⟩ (.int .i64 vA.c)).setCell ⟨w.heap.size+1,1,none⟩ (.int .i64 vA.n)).setCell ⟨w.heap.size+1,2,none⟩ (.slice A8 vA.ks.length cap8))) :=
   ⟨xs,_,FA,⟨(r:Int),(x2:Int)⟩,vA,[.int .i64 vA.c,.int .i64 vA.n,.slice A8 vA.ks.length cap8],GA,q10,rfl,HOK.out,ArrDt.mono HA10.out (HKE.out _ HFA2.out),fun b hb=>⟨by have:=HFA2.out b hb;omega,by rw [hsz];exact HU10.out b hb⟩,VR.mono _ _ _ (HKE.out _ (fun b hb=>(HFA.out b hb).1)) HPA.out,fun b hb=>⟨by have:=(HFA.out b hb).1;omega,by rw [hsz];exact (HFA.out b hb).2⟩,(by have:=HNA.out;rwa [pow44] at this),HR10.out.keep (fun b hb=>hs10 b (by omega) (by omega)),by rw [pow44] at hq10;omega,hCe⟩
  clear hpA hfsA hnA hR10 hC10 haA hs10 hsz hCe hC8 hC8u KT10 KV10 HA8 HU8 HT8 HTU8
  (try dsimp only)
  refine hK.out _ _ HS4.out (fun _=>trivial) ?_
  clear hK K
  (try simp only [zz])
  refine w1 10 rfl fun K hK=>?_
  go_simp
  (try dsimp only)
  refine hK.out _ _ HS4.out (fun _=>trivial) ?_
  clear hK K
  (try simp only [zz])
  refine w1 11 rfl fun K hK=>?_
  go_simp
  (try dsimp only)
  refine hK.out _ _ ⟨(World.cell?_setCell_far _ _ _ _ (by exact HK0.out)).trans ((World.cell?_setCell_far _ _ _ _ (by exact HK0.out)).trans (HS4.out.1)),(World.cell?_setCell_far _ _ _ _ (by exact HK0.out)).trans ((World.cell?_setCell_far _ _ _ _ (by exact HK0.out)).trans (HS4.out.2))⟩ (fun _=>trivial) ?_
  clear hK K
  (try simp only [zz])
  refine w1 12 rfl fun K hK=>?_
  go_simp
  (try dsimp only)
  refine hK.out _ _ ⟨(World.cell?_setCell_far _ _ _ _ (by exact HK1.out)).trans ((World.cell?_setCell_far _ _ _ _ (by exact HK1.out)).trans ((World.cell?_setCell_far _ _ _ _ (by exact HK1.out)).trans ((World.cell?_setCell_far _ _ _ _ (by exact HK0.out)).trans ((World.cell?_setCell_far _ _ _ _ (by exact HK0.out)).trans (HS4.out.1))))),(World.cell?_setCell_far _ _ _ _ (by exact HK1.out)).trans ((World.cell?_setCell_far _ _ _ _ (by exact HK1.out)).trans ((World.cell?_setCell_far _ _ _ _ (by exact HK1.out)).trans ((World.cell?_setCell_far _ _ _ _ (by exact HK0.out)).trans ((World.cell?_setCell_far _ _ _ _ (by exact HK0.out)).trans (HS4.out.2)))))⟩ (fun _=>trivial) ?_
  clear hK K
  (try simp only [zz])
  refine wE (by kernel_rfl) ?_
  clear hS1 hS2 hS3 hS4 hT1 x0 x1 xf0 xf1 z0 z1 z2 zf0 zf1 zf2 xlt zlt hbl
  go_wp2
  refine bodyPost_ret (results_tmp_cell_cell rfl _ _ w.heap.size (w.heap.size+1) 39 47 #[.int .i64 (r:Int),.int .i64 (x2:Int)] #[.int .i64 vA.c,.int .i64 vA.n,.slice A8 vA.ks.length cap8] (0,0) (0,0) _ _ rfl KTe.out Tryz.underlying39 rfl rfl rfl KVe.out Tryz.underlying47 rfl rfl) rfl ?_
  exact HFin.out
 |true =>
  have HOK:Hid (TypedOk xs ⟨-1,0⟩):=⟨HOKW.out,hpos,HSM.out,by unfold typeOkB;rw [if_pos rfl];rfl,by rw [depthIn_int rfl];decide⟩
  have a0:w7.cell? ⟨k7,0,none⟩=some (.int .i64 (r:Int)):=(K7.out.cell 0).trans (by simp)
  have a1:w7.cell? ⟨k7,1,none⟩=some (.int .i64 (x2:Int)):=(K7.out.cell 1).trans (by simp)
  have af0:=K7.out.frozen 0
  have af1:=K7.out.frozen 1
  have alt:=K7.out.lt
  go_wp2_with fail
  clear a0 a1 af0 af1
  obtain ⟨wz,hwz⟩:∃ X,X=(w7.setCell ⟨k7,0,none⟩ (.int .i64 (-1))).setCell ⟨k7,1,none⟩ (.int .i64 0):=⟨_,rfl⟩
  have hkz:∀ b,b≠k7→wz.heap[b]?=w7.heap[b]?:=fun b hb=>by rw [hwz,zz7 _ _ _ _ (by show b≠_;exact hb),zz7 _ _ _ _ (by show b≠_;exact hb)]
  have hsz:wz.heap.size=w7.heap.size:=by rw [hwz];simp [World.setCell]
  have K7z:Hid (Blk wz k7 39 #[.int .i64 (-1),.int .i64 0]):=by rw [hwz];exact (K7.out.set_ 0 _).set_ 1 _
  have HCz:Hid (Chg [g] w wz):=by rw [hwz];exact (HC7.out.set_new (by omega)).set_new (by omega)
  rw [←hwz]
  clear hwz
  have KTz:=jj (KTR.out.same (hkz _ (by omega)))
  have KVz:=jj (KVR.out.same (hkz _ (by omega)))
  have HAz:=jj (ArrDt.mono HA7.out (fun b hb=>hkz b (HK7A.out b hb)))
  have HUz:Hid (Under wz.heap.size FA):=by rw [hsz];exact HU7.out
  have HTz:=jj (ArrNat.kept HTT.out (fun b hb=>hkz b (HK7T.out b hb)))
  have HTUz:Hid (Under wz.heap.size HT):=by rw [hsz];exact HTU.out
  have HRz:=jj (HR7.out.keep (fun b hb=>hkz b (by omega)))
  clear KTR KVR HA7 HU7 HTT HTU HR7 K7 HC7 hkz hsz alt
  obtain ⟨w7o,hw7o⟩:∃ X,X=w7:=⟨_,rfl⟩
  clear hw7o w7o
  obtain ⟨w7,hw7⟩:∃ X,X=wz:=⟨_,rfl⟩
  rw [←hw7] at K7z HCz KTz KVz HAz HUz HTz HTUz HRz ⊢
  clear hw7
  have KTR:=KTz
  have KVR:=KVz
  have HC7:=HCz
  have HA7:=HAz
  have HU7:=HUz
  have HTT:=HTz
  have HTU:=HTUz
  have HR7:=HRz
  have K7:=K7z
  clear KTz KVz HCz HAz HUz HTz HTUz HRz K7z
  have q0:w7.cell? ⟨k7,0,none⟩=some (.int .i64 (-1)):=(K7.out.cell 0).trans (by simp)
  have q1:w7.cell? ⟨k7,1,none⟩=some (.int .i64 0):=(K7.out.cell 1).trans (by simp)
  have qlt:=K7.out.lt
  go_wp2_with fail
  refine zA5 (S:=fun w'=>w'.cell? ⟨k7,0,none⟩=some (.int .i64 (-1))∧w'.cell? ⟨k7,1,none⟩=some (.int .i64 0)) (T:=fun _=>True) (d:=99) (by kernel_rfl) ?_
  have hS1:w7.drew.cell? ⟨k7,0,none⟩=some (.int .i64 (-1))∧w7.drew.cell? ⟨k7,1,none⟩=some (.int .i64 0):=⟨q0,q1⟩
  have hT1:True:=trivial
  clear q0 q1
  refine wV 0 rfl hS1 hT1 ?_
  (try simp only [zz])
  refine wV 1 rfl hS1 hT1 ?_
  (try simp only [zz])
  refine wV 2 rfl hS1 hT1 ?_
  (try simp only [zz])
  refine wV 3 rfl hS1 hT1 ?_
  (try simp only [zz])
  refine wV 4 rfl hS1 hT1 ?_
  (try simp only [zz])
  refine wV 5 rfl hS1 hT1 ?_
  (try simp only [zz])
  refine wV 6 rfl hS1 hT1 ?_
  (try simp only [zz])
  refine w1 7 rfl fun K hK=>?_
  have hbl:Below w7.heap.size w7 (w7.drew.alloc (.cells ([3,2,4,1].map (Value.int .i64)).toArray 3)):=(zy2 _ _).drew.alloc (zz8 _) _
  have hS2:(w7.drew.alloc (.cells ([3,2,4,1].map (Value.int .i64)).toArray 3)).cell? ⟨k7,0,none⟩=some (.int .i64 (-1))∧(w7.drew.alloc (.cells ([3,2,4,1].map (Value.int .i64)).toArray 3)).cell? ⟨k7,1,none⟩=some (.int .i64 0):=⟨(hbl.cell (p:=⟨k7,0,none⟩) qlt).trans hS1.1,(hbl.cell (p:=⟨k7,1,none⟩) qlt).trans hS1.2⟩
  go_simp
  (try dsimp only)
  refine hK.out _ _ hS2 (fun _=>trivial) ?_
  clear hK K
  (try simp only [zz])
  refine w1 8 rfl fun K hK=>?_
  go_simp
  go_at_call 86
  refine (num_lit [3,2,4,1] (by decide) (by decide) p7 g w7.drew HR7.out.drew (by omega)).mono ?_
  rintro e w8 ⟨dp,hdp,rfl,hR8,hC8⟩
  have hdp4:1≤dp∧dp≤4:=by
   simp only [List.mem_cons,List.mem_nil_iff,or_false] at hdp
   omega
  have hC8u:Chg [g] w7 w8:=hC8.undrew
  have k7g:k7∉[g]:=by rw [zy1];omega
  have hS3:w8.cell? ⟨k7,0,none⟩=some (.int .i64 (-1))∧w8.cell? ⟨k7,1,none⟩=some (.int .i64 0):=⟨(hC8u.cell (p:=⟨k7,0,none⟩) qlt k7g).trans hS1.1,(hC8u.cell (p:=⟨k7,1,none⟩) qlt k7g).trans hS1.2⟩
  have HR8:=jj hR8
  clear hdp hR8
  (try dsimp only)
  refine hK.out _ _ hS3 (fun _=>trivial) ?_
  clear hK K
  (try simp only [zz])
  refine w1 9 rfl fun K hK=>?_
  have HC8:=jj (HC7.out.trans hC8u)
  have HA8:=jj (ArrDt.mono HA7.out (hC8u.kept HU7.out HGA.out))
  have HU8:=jj (HU7.out.mono hC8u.size)
  have HT8:=jj (ArrNat.kept HTT.out (hC8u.kept HTU.out HGT.out))
  have HTU8:=jj (HTU.out.mono hC8u.size)
  have hz8:=hC8u.size
  go_simp
  go_at_call 113
  refine (spec_l2Draw 4 (by omega) xs HW.out ⟨(-1),0⟩ (zAX HOK.out.ty) HOK.out.dep dp (by omega) (by omega) (depth_small HOK.out.small _) w8 (p7+1) g _ FA _ HT HR8.out (by rw [pow44];omega) HA8.out HU8.out (fun h=>HGA.out g h (by simp)) HT8.out HTU8.out (fun h=>HGT.out g h (by simp))).mono ?_
  rintro e w10 ⟨vA,csA,GA,q10,rfl,hpA,hfsA,hnA,hR10,hq10,hC10⟩
  obtain ⟨kvA,rfl,haA⟩:=(zAE _ _ _).1 hpA
  obtain ⟨A8,cap8,rfl,-,-⟩:=haA.form
  have k7g':k7∉[g]:=k7g
  have hS4:w10.cell? ⟨k7,0,none⟩=some (.int .i64 (-1))∧w10.cell? ⟨k7,1,none⟩=some (.int .i64 0):=⟨(hC10.cell (p:=⟨k7,0,none⟩) (zz9 qlt hz8) k7g').trans hS3.1,(hC10.cell (p:=⟨k7,1,none⟩) (zz9 qlt hz8) k7g').trans hS3.2⟩
  have KT10:=jj (KTR.out.same ((hC8u.trans hC10).block _ KTR.out.lt (by rw [zy1];omega)))
  have KV10:=jj (KVR.out.same ((hC8u.trans hC10).block _ KVR.out.lt (by rw [zy1];omega)))
  have HC10:=jj (HC8.out.trans hC10)
  have HA10:=jj (ArrDt.mono HA8.out (hC10.kept HU8.out HGA.out))
  have HU10:=jj (HU8.out.mono hC10.size)
  have HPA:=jj hpA
  have HFA:Hid (∀ b∈GA,w.heap.size+2≤b∧b<w10.heap.size):=fun b hb=>⟨by have:=(hfsA b hb).1;omega,(hfsA b hb).2⟩
  have HNA:=jj hnA
  have HR10:=jj hR10
  have hk7:=hk7w
  have HK0:Hid (w.heap.size≠k7):=by unfold Hid;omega
  have HK1:Hid (w.heap.size+1≠k7):=by unfold Hid;omega
  have x0:w10.cell? ⟨w.heap.size,0,none⟩=some (.int .i64 0):=(KT10.out.cell 0).trans (by simp)
  have x1:w10.cell? ⟨w.heap.size,1,none⟩=some (.int .i64 0):=(KT10.out.cell 1).trans (by simp)
  have xf0:=KT10.out.frozen 0
  have xf1:=KT10.out.frozen 1
  have xlt:=KT10.out.lt
  have z0:w10.cell? ⟨w.heap.size+1,0,none⟩=some (.int .i64 0):=(KV10.out.cell 0).trans (by simp)
  have z1:w10.cell? ⟨w.heap.size+1,1,none⟩=some (.int .i64 0):=(KV10.out.cell 1).trans (by simp)
  have z2:w10.cell? ⟨w.heap.size+1,2,none⟩=some (.slice none 0 0):=(KV10.out.cell 2).trans (by simp)
  have zf0:=KV10.out.frozen 0
  have zf1:=KV10.out.frozen 1
  have zf2:=KV10.out.frozen 2
  have zlt:=KV10.out.lt
  have HS4:=jj hS4
  have hs10:∀ b,b≠w.heap.size→b≠w.heap.size+1→(((((w10.setCell ⟨w.heap.size,0,none⟩ (.int .i64 (-1))).setCell ⟨w.heap.size,1,none⟩ (.int .i64 0)).setCell ⟨w.heap.size+1,0,none⟩ (.int .i64 vA.c)).setCell ⟨w.heap.size+1,1,none⟩ (.int .i64 vA.n)).setCell ⟨w.heap.size+1,2,none⟩ (.slice A8 vA.ks.length cap8)).heap[b]?=w10.heap[b]?:=fun b h1 h2=>by
   rw [zz7 _ _ _ _ (by show b≠_;exact h2),zz7 _ _ _ _ (by show b≠_;exact h2),zz7 _ _ _ _ (by show b≠_;exact h2),zz7 _ _ _ _ (by show b≠_;exact h1),zz7 _ _ _ _ (by show b≠_;exact h1)]
  have HKE:Hid (∀ F:List Nat,(∀ b∈F,w.heap.size+2≤b)→Kept F w10 (((((w10.setCell ⟨w.heap.size,0,none⟩ (.int .i64 (-1))).setCell ⟨w.heap.size,1,none⟩ (.int .i64 0)).setCell ⟨w.heap.size+1,0,none⟩ (.int .i64 vA.c)).setCell ⟨w.heap.size+1,1,none⟩ (.int .i64 vA.n)).setCell ⟨w.heap.size+1,2,none⟩ (.slice A8 vA.ks.length cap8))):=fun F hF b hb=>hs10 b (by have:=hF b hb;omega) (by have:=hF b hb;omega)
  have hsz:(((((w10.setCell ⟨w.heap.size,0,none⟩ (.int .i64 (-1))).setCell ⟨w.heap.size,1,none⟩ (.int .i64 0)).setCell ⟨w.heap.size+1,0,none⟩ (.int .i64 vA.c)).setCell ⟨w.heap.size+1,1,none⟩ (.int .i64 vA.n)).setCell ⟨w.heap.size+1,2,none⟩ (.slice A8 vA.ks.length cap8)).heap.size=w10.heap.size:=by simp [World.setCell]
  have KTe:Hid (Blk (((((w10.setCell ⟨w.heap.size,0,none⟩ (.int .i64 (-1))).setCell ⟨w.heap.size,1,none⟩ (.int .i64 0)).setCell ⟨w.heap.size+1,0,none⟩ (.int .i64 vA.c)).setCell ⟨w.heap.size+1,1,none⟩ (.int .i64 vA.n)).setCell ⟨w.heap.size+1,2,none⟩ (.slice A8 vA.ks.length cap8)) w.heap.size 39 #[.int .i64 (-1),.int .i64 0]):=(((KT10.out.set_ 0 _).set_ 1 _).same (by rw [zz7 _ _ _ _ (by show w.heap.size≠w.heap.size+1;omega),zz7 _ _ _ _ (by show w.heap.size≠w.heap.size+1;omega),zz7 _ _ _ _ (by show w.heap.size≠w.heap.size+1;omega)]))
  have KVe:Hid (Blk (((((w10.setCell ⟨w.heap.size,0,none⟩ (.int .i64 (-1))).setCell ⟨w.heap.size,1,none⟩ (.int .i64 0)).setCell ⟨w.heap.size+1,0,none⟩ (.int .i64 vA.c)).setCell ⟨w.heap.size+1,1,none⟩ (.int .i64 vA.n)).setCell ⟨w.heap.size+1,2,none⟩ (.slice A8 vA.ks.length cap8)) (w.heap.size+1) 47 #[.int .i64 vA.c,.int .i64 vA.n,.slice A8 vA.ks.length cap8]):=(((KV10.out.same (by rw [zz7 _ _ _ _ (by show w.heap.size+1≠w.heap.size;omega),zz7 _ _ _ _ (by show w.heap.size+1≠w.heap.size;omega)])).set_ 0 _).set_ 1 _).set_ 2 _
  have hCe:Chg [g] w (((((w10.setCell ⟨w.heap.size,0,none⟩ (.int .i64 (-1))).setCell ⟨w.heap.size,1,none⟩ (.int .i64 0)).setCell ⟨w.heap.size+1,0,none⟩ (.int .i64 vA.c)).setCell ⟨w.heap.size+1,1,none⟩ (.int .i64 vA.n)).setCell ⟨w.heap.size+1,2,none⟩ (.slice A8 vA.ks.length cap8)):=((((HC10.out.set_new (zz8 _)).set_new (zz8 _)).set_new (by omega)).set_new (by omega)).set_new (by omega)
  have HFin:Hid (DrewTyped p 300 g w (.returned (.tuple #[.slice A1 xs.length cap1,.agg #[.int .i64 (-1),.int .i64 0],.agg #[.int .i64 vA.c,.int .i64 vA.n,.slice A8 vA.ks.length cap8]])) (((((w10.setCell ⟨w.heap.size,0,none⟩ (.int .i64 (-1))).setCell ⟨w.heap.size,1,none⟩ (.int .i64 0)).setCell ⟨w.heap.size+1,0,none⟩ (.int .i64 vA.c)).setCell ⟨w.heap.size+1,1,none⟩ (.int .i64 vA.n)).setCell ⟨w.heap.size+1,2,none⟩ (.slice A8 vA.ks.length cap8))) :=
   ⟨xs,_,FA,⟨(-1),0⟩,vA,[.int .i64 vA.c,.int .i64 vA.n,.slice A8 vA.ks.length cap8],GA,q10,rfl,HOK.out,ArrDt.mono HA10.out (HKE.out _ HFA2.out),fun b hb=>⟨by have:=HFA2.out b hb;omega,by rw [hsz];exact HU10.out b hb⟩,VR.mono _ _ _ (HKE.out _ (fun b hb=>(HFA.out b hb).1)) HPA.out,fun b hb=>⟨by have:=(HFA.out b hb).1;omega,by rw [hsz];exact (HFA.out b hb).2⟩,(by have:=HNA.out;rwa [pow44] at this),HR10.out.keep (fun b hb=>hs10 b (by omega) (by omega)),by rw [pow44] at hq10;omega,hCe⟩
  clear hpA hfsA hnA hR10 hC10 haA hs10 hsz hCe hC8 hC8u KT10 KV10 HA8 HU8 HT8 HTU8
  (try dsimp only)
  refine hK.out _ _ HS4.out (fun _=>trivial) ?_
  clear hK K
  (try simp only [zz])
  refine w1 10 rfl fun K hK=>?_
  go_simp
  (try dsimp only)
  refine hK.out _ _ HS4.out (fun _=>trivial) ?_
  clear hK K
  (try simp only [zz])
  refine w1 11 rfl fun K hK=>?_
  go_simp
  (try dsimp only)
  refine hK.out _ _ ⟨(World.cell?_setCell_far _ _ _ _ (by exact HK0.out)).trans ((World.cell?_setCell_far _ _ _ _ (by exact HK0.out)).trans (HS4.out.1)),(World.cell?_setCell_far _ _ _ _ (by exact HK0.out)).trans ((World.cell?_setCell_far _ _ _ _ (by exact HK0.out)).trans (HS4.out.2))⟩ (fun _=>trivial) ?_
  clear hK K
  (try simp only [zz])
  refine w1 12 rfl fun K hK=>?_
  go_simp
  (try dsimp only)
  refine hK.out _ _ ⟨(World.cell?_setCell_far _ _ _ _ (by exact HK1.out)).trans ((World.cell?_setCell_far _ _ _ _ (by exact HK1.out)).trans ((World.cell?_setCell_far _ _ _ _ (by exact HK1.out)).trans ((World.cell?_setCell_far _ _ _ _ (by exact HK0.out)).trans ((World.cell?_setCell_far _ _ _ _ (by exact HK0.out)).trans (HS4.out.1))))),(World.cell?_setCell_far _ _ _ _ (by exact HK1.out)).trans ((World.cell?_setCell_far _ _ _ _ (by exact HK1.out)).trans ((World.cell?_setCell_far _ _ _ _ (by exact HK1.out)).trans ((World.cell?_setCell_far _ _ _ _ (by exact HK0.out)).trans ((World.cell?_setCell_far _ _ _ _ (by exact HK0.out)).trans (HS4.out.2)))))⟩ (fun _=>trivial) ?_
  clear hK K
  (try simp only [zz])
  refine wE (by kernel_rfl) ?_
  clear hS1 hS2 hS3 hS4 hT1 x0 x1 xf0 xf1 z0 z1 z2 zf0 zf1 zf2 xlt zlt hbl
  go_wp2
  refine bodyPost_ret (results_tmp_cell_cell rfl _ _ w.heap.size (w.heap.size+1) 39 47 #[.int .i64 (-1),.int .i64 0] #[.int .i64 vA.c,.int .i64 vA.n,.slice A8 vA.ks.length cap8] (0,0) (0,0) _ _ rfl KTe.out Tryz.underlying39 rfl rfl rfl KVe.out Tryz.underlying47 rfl rfl) rfl ?_
  exact HFin.out
structure Vt where
 var:Int
 ty:Ty
def VtR (_:World) (x:Vt) (cs:List Value) (F:List Nat):Prop:=cs=[.int .i64 x.var,.int .i64 x.ty.d,.int .i64 x.ty.i]∧F=[]
theorem VtR_len (w:World) (x:Vt) (cs:List Value) (F:List Nat) (h:VtR w x cs F):cs.length=3:=by rw [h.1];rfl
theorem zAC (w w':World) (x:Vt) (cs:List Value) (F:List Nat) (_:Kept F w w') (h:VtR w x cs F):VtR w' x cs F:=h
def Vt.same (a b:Vt):Bool:=a.var==b.var && (a.ty.d==b.ty.d && a.ty.i==b.ty.i)
theorem Vt.same_iff (a b:Vt):Vt.same a b=true↔a=b:=by
 obtain ⟨v,d,i⟩:=a
 obtain ⟨v',d',i'⟩:=b
 simp [Vt.same]
def namedB (p:P):Bool:=p.op==2 || p.op==6
def kindB (xs:List Dt) (t:Ty) (p:P):Bool:=if p.op=3 then t.d == -1 && (decide (0≤p.n) && (decide (p.n≤p.m) && decide (p.m≤9))) else if p.op=4 then hasB (ctorsL xs t) p.ct else (p.op==1 || (p.op==2 || (p.op==5 || p.op==6)))
def ownB (xs:List Dt) (t:Ty) (p:P):Bool:=(if namedB p=true then decide (0≤p.va) && decide (p.va≤5) else p.va==0) && ((p.op==3 || (p.n==0 && p.m==0)) && ((p.op==4 || p.ct==0) && kindB xs t p))
def kidsN (op:Int):Nat:=if op=5 then 2 else if op=6 then 1 else 0
def typesP (xs:List Dt) (t:Ty) (p:P):List Ty:=if p.op=4 then argsOf xs t p.ct else List.replicate (kidsN p.op) t
def shapeB (xs:List Dt):Nat→Ty→P→Bool
 |0,_,_=>false
 |d+1,t,p=>ownB xs t p && (p.ks.length==(typesP xs t p).length && ((typesP xs t p).zip p.ks).all fun x=>shapeB xs d x.1 x.2)
def nodesP (p:P):Nat:=p.size+1
def kidsV (xs:List Dt) (t:Ty) (p:P):List (Ty×P):=((typesP xs t p).zip p.ks).take (if p.op=5 then 1 else p.ks.length)
def varsN (xs:List Dt):Nat→Ty→P→List Vt
 |0,_,_=>[]
 |d+1,t,p=>(if namedB p=true then [⟨p.va,t⟩] else []) ++ (kidsV xs t p).flatMap fun x=>varsN xs d x.1 x.2
def dupFree (l:List Vt):Bool:=decide ((l.map Vt.var).Nodup)
def alikeB (a b:List Vt):Bool:=(a.all fun v=>match b.find? fun u=>u.var==v.var with | some u=>(u.ty.d==v.ty.d && u.ty.i==v.ty.i) | none=>false) && a.length==b.length
def sameV (a b:List Vt):Bool:=a.length==b.length && a.all fun v=>b.any fun u=>Vt.same u v
def linB (xs:List Dt):Nat→Ty→P→Bool
 |0,_,_=>true
 |d+1,t,p=>(((typesP xs t p).zip p.ks).all fun x=>linB xs d x.1 x.2) && (if p.op=5 then (match p.ks with | [k0,k1]=>alikeB (varsN xs d t k0) (varsN xs d t k1) | _=>true) else dupFree (varsN xs (d+1) t p))
def patOkB (xs:List Dt) (t:Ty) (p:P):Bool:=shapeB xs 10 t p && (decide (nodesP p≤60) && linB xs 10 t p)
theorem zAY {xs:List Dt} {t:Ty} {p:P} (h:p.op=5):typesP xs t p=[t,t]:=by
 unfold typesP kidsN
 rw [if_neg (by omega),if_pos h];rfl
theorem typesP_as {xs:List Dt} {t:Ty} {p:P} (h:p.op=6):typesP xs t p=[t]:=by
 unfold typesP kidsN
 rw [if_neg (by omega),if_neg (by omega),if_pos h];rfl
theorem kids_two {α:Type} {l:List α} (h:l.length=2):∃ a b,l=[a,b]:=by
 match l,h with
 |[a,b],_=>exact ⟨a,b,rfl⟩
theorem lin_dup (xs:List Dt):∀ (d:Nat) (t:Ty) (p:P),shapeB xs d t p=true→linB xs d t p=true→dupFree (varsN xs d t p)=true
 |0,_,_,h,_=>by simp [shapeB] at h
 |d+1,t,p,hs,hl=>by
  simp only [shapeB,linB,Bool.and_eq_true] at hs hl
  by_cases h5:p.op=5
  ·have hty:=zAY (xs:=xs) (t:=t) h5
   obtain ⟨h1,h2,h3⟩:=hs
   rw [hty] at h2 h3
   obtain ⟨k0,k1,hk⟩:=kids_two (by simpa using h2)
   have hv:varsN xs (d+1) t p=varsN xs d t k0:=by
    have e:varsN xs (d+1) t p=(if namedB p=true then [⟨p.va,t⟩] else []) ++ (kidsV xs t p).flatMap fun x=>varsN xs d x.1 x.2:=rfl
    have kv:kidsV xs t p=[(t,k0)]:=by unfold kidsV;rw [hty,hk,h5];rfl
    have nb:namedB p=false:=by unfold namedB;rw [h5];rfl
    rw [e,kv,nb]
    simp
   rw [hv]
   rw [hk] at h3
   have hl1:=hl.1
   rw [hty,hk] at hl1
   simp only [List.zip_cons_cons,List.zip_nil_right,List.all_cons,List.all_nil,Bool.and_true,Bool.and_eq_true] at h3 hl1
   exact lin_dup xs d t k0 h3.1 hl1.1
  ·have hl2:=hl.2
   rwa [if_neg h5] at hl2
theorem find_of_nodup:∀ {b:List Vt} {u:Vt},(b.map Vt.var).Nodup→u∈b→b.find? (fun x=>x.var==u.var)=some u
 |[],_,_,h=>by cases h
 |x :: b,u,hn,h=>by
  rw [List.map_cons,List.nodup_cons] at hn
  rcases List.mem_cons.1 h with rfl | h
  ·simp
  ·have hx:(x.var==u.var)=false:=by
    rw [beq_eq_false_iff_ne]
    intro e
    exact hn.1 (by rw [e];exact List.mem_map_of_mem h)
   rw [List.find?_cons,hx]
   exact find_of_nodup hn.2 h
theorem alike_same {a b:List Vt} (hb:dupFree b=true):alikeB a b=sameV a b:=by
 have hn:(b.map Vt.var).Nodup:=of_decide_eq_true hb
 have key:∀ v:Vt,(match b.find? fun u=>u.var==v.var with | some u=>(u.ty.d==v.ty.d && u.ty.i==v.ty.i) | none=>false)=b.any fun u=>Vt.same u v:=fun v=>by
  rw [Bool.eq_iff_iff,List.any_eq_true]
  constructor
  ·intro h
   split at h
   ·rename_i u hu
    have hm:=List.mem_of_find?_eq_some hu
    have hv:=List.find?_some hu
    exact ⟨u,hm,by
     unfold Vt.same
     rw [hv]
     simpa using h⟩
   ·cases h
  ·rintro ⟨u,hm,hu⟩
   obtain rfl:=(Vt.same_iff u v).1 hu
   rw [find_of_nodup hn hm]
   simp
 unfold alikeB sameV
 rw [Bool.and_comm]
 congr 1
 exact congrArg (fun f=>a.all f) (funext key)
theorem Own.chg2 {α:Type} {R:World→α→List Value→List Nat→Prop} {w w':World} {B k:Nat} {E:TypeId} {xs:List α} {v:Value} {F L:List Nat} (hRm:∀ w w' x cs G,Kept G w w'→R w x cs G→R w' x cs G) (h:Own w B E k R xs v F) (hc:Chg L w w') (hL:∀ b∈L,b<B) (hF:∀ b∈F,b∉L):Own w' B E k R xs v F :=
 h.mono (fun x cs G hk h=>hRm _ _ x cs G hk h) (hc.kept (fun b hb=>by
  rcases List.mem_append.1 hb with h1 | h1
  ·exact (h.row b h1).2
  ·exact h.under b h1) (fun b hb hl=>by
  have h2:=hL b hl
  rcases List.mem_append.1 hb with h1 | h1
  ·have:=(h.row b h1).1;omega
  ·exact hF b h1 hl)) hc.size
section
variable {α : Type} {w w9 wr wA w7 : World} {D Bz H k g : Nat} {T E : TypeId} {cells : Array Value} {R : World → α → List Value → List Nat → Prop} {xs ys : List α} {v v' : Value} {F G : List Nat} {o : Obj}
theorem kid_round4 (j:Nat) (hRm:∀ w w' x cs G,Kept G w w'→R w x cs G→R w' x cs G) (hw9:w9.heap.size=Bz) (hDB:D<Bz) (hgw:g<w.heap.size) (hwD:w.heap.size≤D) (KD:Blk wr D T cells) (HO:Own wr Bz E k R xs v F) (HFh:∀ b∈F,b≠D∧b≠g) (HC:Chg [D,g] w9 wr) (hB:Chg [g] w wr)
  (hBu:Chg [g] wr wA) (hfsA:∀ b∈G,b≠D∧b≠g) (hown:Own w7 Bz E k R ys v' (F ++ G)) (hgr:(wA.alloc o).grownBy w7 v.ownBlock) {p:Nat} (hR:Rd wA g p) :
  Blk (w7.setCell ⟨D,j,none⟩ v') D T (cells.setIfInBounds j v')∧Own (w7.setCell ⟨D,j,none⟩ v') Bz E k R ys v' (F ++ G)∧(∀ b∈F ++ G,b≠D∧b≠g)∧Chg [D,g] w9 (w7.setCell ⟨D,j,none⟩ v')∧Chg [g] w (w7.setCell ⟨D,j,none⟩ v')∧w9.heap.size≤(w7.setCell ⟨D,j,none⟩ v').heap.size∧Rd (w7.setCell ⟨D,j,none⟩ v') g p:=by
 have hlt:=KD.lt
 have hA:=hBu.size
 have hz:=HC.size
 rw [hw9] at hz
 have hws:=hB.size
 have hFG:∀ b∈F ++ G,b≠D∧b≠g:=fun b hb=>by
  rcases List.mem_append.1 hb with h | h
  ·exact HFh b h
  ·exact hfsA b h
 have hBA7:Below Bz wA w7:=((zy2 Bz wA).alloc (by omega) o).grown hgr (by rw [World.size_alloc];omega) (fun g hg=>(HO.row g (zA2.2 hg)).1)
 have hC7:Chg [D,g] w9 w7:=chg_under (HC.trans (hBu.mono (by simp))) (by rw [hw9];exact hBA7)
 have hC8:Chg [D,g] w9 (w7.setCell ⟨D,j,none⟩ v'):=hC7.set (by simp)
 have hD7:w7.heap[D]?=wr.heap[D]?:=(hBA7.block D (by omega)).trans (hBu.block D hlt (by rw [zy1];omega))
 refine ⟨(KD.same hD7).set_ j v',Own.set (j:=j) hRm hown v' (fun h=>by have:=(hown.row _ h).1;omega) (fun h=>(hFG _ h).1 rfl),hFG,hC8,?_,hC8.size,hR.keep fun b hb=>?_⟩
 ·exact (chg_under (hB.trans hBu) (hBA7.mono (by omega))).set_new hwD
 ·exact (zz7 w7 ⟨D,j,none⟩ v' b (by show b≠D;omega)).trans (hBA7.block b (by omega))
theorem kid_done4 (HO:Own wr Bz E k R xs v F) (HFh:∀ b∈F,b≠D∧b≠g) (hD:D<Bz) (hg:g<Bz):∃ FF,Arr wr (R wr) xs v FF∧∀ b∈FF,b≠D∧b≠g∧b<wr.heap.size∧(b∈F∨Bz≤b) :=
 ⟨_,HO.arr,fun b hb=>by
  split at hb
  ·cases hb
  ·rcases List.mem_append.1 hb with h | h
   ·have:=HO.row b h;exact ⟨by omega,by omega,this.2,.inr this.1⟩
   ·have:=HFh b h;exact ⟨this.1,this.2,HO.under b h,.inl h⟩⟩
end
def DrewP (b p n g:Nat) (w:World) (e:Ending) (w':World):Prop:=∃ (a:P) (cs:List Value) (F:List Nat) (q:Nat),e=.returned (.agg cs.toArray)∧PR w' a cs F∧(∀ b∈F,b<w'.heap.size∧b≠g∧(w.heap.size≤b))∧nodesP a≤b∧Rd w' g q∧q≤p+n∧Chg [g] w w'
theorem arr_pats2 {w:World} {g:Nat} {T:TypeId} {a b:P} {ca cb:List Value} {Fa Fb:List Nat} (h:Blk w g T (ca ++ cb).toArray) (ha:PR w a ca Fa) (hb:PR w b cb Fb):Arr w (PR w) [a,b] (.slice (some ⟨g,0,none⟩) 2 2) (g :: (Fa ++ Fb)) :=
 ⟨_,2,rfl,zz8 _,by simp [maxLen],.inr ⟨g,0,ca ++ cb,Fa ++ Fb,rfl,fun j u hj=>by rw [Nat.zero_add,h.cell];simpa using hj,⟨ca,cb,Fa,Fb,rfl,rfl,ha,⟨cb,[],Fb,[],by simp,by simp,hb,rfl,rfl⟩⟩,rfl⟩⟩
theorem arr_pat1 {w:World} {g:Nat} {T:TypeId} {a:P} {ca:List Value} {Fa:List Nat} (h:Blk w g T ca.toArray) (ha:PR w a ca Fa):Arr w (PR w) [a] (.slice (some ⟨g,0,none⟩) 1 1) (g :: Fa) :=
 ⟨_,1,rfl,zz8 _,by simp [maxLen],.inr ⟨g,0,ca,Fa,rfl,fun j u hj=>by rw [Nat.zero_add,h.cell];simpa using hj,⟨ca,[],Fa,[],by simp,by simp,ha,rfl,rfl⟩,rfl⟩⟩
theorem psizes_snoc (vs:List P) (v:P) (q b:Nat) (h:P.sizes vs≤q*b) (hv:nodesP v≤b):P.sizes (vs ++ [v])≤(q+1)*b:=by
 rw [P.sizes_eq] at h ⊢
 rw [P.subs_snoc,List.length_append,Nat.add_mul]
 unfold nodesP at hv
 simp only [List.length_cons,List.length_nil]
 omega
section
variable {w w0 : World} {H g p : Nat} {F : List Nat}
theorem zAQ (h:Chg F w0 w) (hH:w0.heap.size≤H) (a0 a1 a2 a3 a4 a5:Value):Chg F w0 ((((((w.setCell ⟨H,0,none⟩ a0).setCell ⟨H,1,none⟩ a1).setCell ⟨H,2,none⟩ a2).setCell ⟨H,3,none⟩ a3).setCell ⟨H,4,none⟩ a4).setCell ⟨H,5,none⟩ a5):=(((((h.set_new hH).set_new hH).set_new hH).set_new hH).set_new hH).set_new hH
theorem zBC (h:Rd w g p) (hg:g<H) (a0 a1 a2 a3 a4 a5:Value):Rd ((((((w.setCell ⟨H,0,none⟩ a0).setCell ⟨H,1,none⟩ a1).setCell ⟨H,2,none⟩ a2).setCell ⟨H,3,none⟩ a3).setCell ⟨H,4,none⟩ a4).setCell ⟨H,5,none⟩ a5) g p:=h.keep fun b hb=>by
 have:b≠H:=by omega
 rw [zz7 _ _ _ _ this,zz7 _ _ _ _ this,zz7 _ _ _ _ this,zz7 _ _ _ _ this,zz7 _ _ _ _ this,zz7 _ _ _ _ this]
end
set_option maxHeartbeats 8000000 in
theorem spec_l3Draw:∀ (N:Nat),∀ (_:N≤6) (xs:List Dt) (_:WorldOK xs) (t:Ty) (_:TyIn xs.length t) (dp:Int) (_:dp≤((N:Nat):Int)) (_:((N:Nat):Int)-30≤dp) (w:World) (p g:Nat) (x:Value) (F:List Nat),Rd w g p→p+5*4 ^ N≤900000→Arr w (DtR w) xs x F→Under w.heap.size F→g∉F →
  Calls Tryz.prog 115 #[.pointer (some ⟨g,0,none⟩),x,.agg #[.int .i64 t.d,.int .i64 t.i],.int .i64 dp] w (DrewP (4 ^ N) p (5*4 ^ N) g w):=by
 intro N
 induction N with
 |zero =>
  intro _ xs hw t ht dp hdp hlo w p g x F hr hp hx hf hgf
  have hgl:=hr.lt
  have HR:=jj hr
  have t0:decide (dp<2)=true:=decide_eq_true (by push_cast at hdp;omega)
  have hB0:Below w.heap.size w ((w.alloc (.cells #[.int .i64 t.d,.int .i64 t.i] 39)).alloc (.cells #[.int .i64 0,.int .i64 0,.int .i64 0,.int .i64 0,.int .i64 0,.slice none 0 0] 43)):=((zy2 _ _).alloc (zz8 _) _).alloc (by simp) _
  have K0:Hid (Blk ((w.alloc (.cells #[.int .i64 t.d,.int .i64 t.i] 39)).alloc (.cells #[.int .i64 0,.int .i64 0,.int .i64 0,.int .i64 0,.int .i64 0,.slice none 0 0] 43)) (w.heap.size+1) 43 #[.int .i64 0,.int .i64 0,.int .i64 0,.int .i64 0,.int .i64 0,.slice none 0 0]):=zA7 w _ 43 _
  clear hx hf hgf hr
  go_enter Tryz.func115,Tryz.ntmps115
  go_wp2_with fail
  first
  |refine bodyPost_ret (zA1 rfl _ _ (w.heap.size+1) 43 #[.int .i64 1,.int .i64 0,.int .i64 0,.int .i64 0,.int .i64 0,.slice none 0 0] (0,0) _ rfl (zA7 _ _ _ _) Tryz.underlying43 rfl rfl) rfl ?_
   exact ⟨⟨1,0,0,0,0,[]⟩,[.int .i64 1,.int .i64 0,.int .i64 0,.int .i64 0,.int .i64 0,.slice none 0 0],[],p,rfl,(zA9 _ _ _).2 ⟨_,rfl,Arr.nil⟩,(fun b hb=>by cases hb),by simp [nodesP,P.size,P.sizes],HR.out.below (((zy2 _ _).alloc (zz8 _) _).alloc (by simp) _),by omega,.of_below (((zy2 _ _).alloc (zz8 _) _).alloc (by simp) _)⟩
  |refine bodyPost_ret (zA1 rfl _ _ (w.heap.size+1) 43 #[.int .i64 1,.int .i64 0,.int .i64 0,.int .i64 0,.int .i64 0,.slice none 0 0] (0,0) _ rfl (K0.out.six _ _ _ _ _ _) Tryz.underlying43 rfl rfl) rfl ?_
   exact ⟨⟨1,0,0,0,0,[]⟩,[.int .i64 1,.int .i64 0,.int .i64 0,.int .i64 0,.int .i64 0,.slice none 0 0],[],p,rfl,(zA9 _ _ _).2 ⟨_,rfl,Arr.nil⟩,(fun b hb=>by cases hb),by simp [nodesP,P.size,P.sizes],zBC (HR.out.below hB0) (by omega) _ _ _ _ _ _,by omega,zAQ (.of_below hB0) (by omega) _ _ _ _ _ _⟩
 |succ N ih =>
  intro h6 xs hw t ht dp hdp hlo w p g x F hr hp hx hf hgf
  have IH:=jj (ih (by omega))
  clear ih
  have hp4:=pow4 N
  have hp48:=pow4_le (show N+1≤8 by omega)
  have hgl:=hr.lt
  obtain ⟨A,cap,rfl,hc1,hc2⟩:=hx.form
  have HGF:Hid (∀ b∈F,b∉[g]):=fun b hb h=>hgf (by rw [zy1] at h;rwa [←h])
  have HGf:=jj hgf
  have HW:=jj hw
  have HT:=jj ht
  have hB0:Below w.heap.size w ((w.alloc (.cells #[.int .i64 t.d,.int .i64 t.i] 39)).alloc (.cells #[.int .i64 0,.int .i64 0,.int .i64 0,.int .i64 0,.int .i64 0,.slice none 0 0] 43)):=((zy2 _ _).alloc (zz8 _) _).alloc (by simp) _
  have KT:Hid (Blk ((w.alloc (.cells #[.int .i64 t.d,.int .i64 t.i] 39)).alloc (.cells #[.int .i64 0,.int .i64 0,.int .i64 0,.int .i64 0,.int .i64 0,.slice none 0 0] 43)) w.heap.size 39 #[.int .i64 t.d,.int .i64 t.i]):=(Blk.new w _ _).same (Below.heap_alloc _ _ _ (by simp))
  have KR:Hid (Blk ((w.alloc (.cells #[.int .i64 t.d,.int .i64 t.i] 39)).alloc (.cells #[.int .i64 0,.int .i64 0,.int .i64 0,.int .i64 0,.int .i64 0,.slice none 0 0] 43)) (w.heap.size+1) 43 #[.int .i64 0,.int .i64 0,.int .i64 0,.int .i64 0,.int .i64 0,.slice none 0 0]):=zA7 w _ 43 _
  have HRw:=jj hr
  have HR:=jj (hr.below hB0)
  have hz2:((w.alloc (.cells #[.int .i64 t.d,.int .i64 t.i] 39)).alloc (.cells #[.int .i64 0,.int .i64 0,.int .i64 0,.int .i64 0,.int .i64 0,.slice none 0 0] 43)).heap.size=w.heap.size+2:=by simp
  obtain ⟨w2,hw2⟩:∃ X,X=((w.alloc (.cells #[.int .i64 t.d,.int .i64 t.i] 39)).alloc (.cells #[.int .i64 0,.int .i64 0,.int .i64 0,.int .i64 0,.int .i64 0,.slice none 0 0] 43)):=⟨_,rfl⟩
  have HW2:=jj hw2
  rw [←hw2] at hB0 KT KR HR hz2
  have HC0:Hid (Chg [g] w w2):=.of_below hB0
  have HX:=jj hx
  have HF:=jj hf
  clear hx hf
  clear hr hgf hw ht hB0 hw2
  by_cases hd2:dp<2
  ·have t0:decide (dp<2)=true:=decide_eq_true hd2
   clear hd2
   go_enter Tryz.func115,Tryz.ntmps115
   go_wp2_with fail
   first
   |refine bodyPost_ret (zA1 rfl _ _ (w.heap.size+1) 43 #[.int .i64 1,.int .i64 0,.int .i64 0,.int .i64 0,.int .i64 0,.slice none 0 0] (0,0) _ rfl (zA7 _ _ _ _) Tryz.underlying43 rfl rfl) rfl ?_
    exact ⟨⟨1,0,0,0,0,[]⟩,[.int .i64 1,.int .i64 0,.int .i64 0,.int .i64 0,.int .i64 0,.slice none 0 0],[],p,rfl,(zA9 _ _ _).2 ⟨_,rfl,Arr.nil⟩,(fun b hb=>by cases hb),by simp [nodesP,P.size,P.sizes];omega,HRw.out.below (((zy2 _ _).alloc (zz8 _) _).alloc (by simp) _),by omega,.of_below (((zy2 _ _).alloc (zz8 _) _).alloc (by simp) _)⟩
  ·have t0:decide (dp<2)=false:=decide_eq_false hd2
   go_enter Tryz.func115,Tryz.ntmps115
   go_wp2_with fail
   rw [←HW2.out]
   clear HW2
   refine (zB7 4 p g w2 HR.out (by omega) (by omega) (by omega)).mono ?_
   rintro e w3 ⟨r3,rfl,-,hR3,hC3⟩
   have HG1:Hid (∀ b,g<b→b∉[g]):=fun b hb h=>by rw [zy1] at h;omega
   have KT3:=jj (KT.out.same (hC3.block _ KT.out.lt (HG1.out _ hgl)))
   have KR3:=jj (KR.out.same (hC3.block _ KR.out.lt (HG1.out _ (by omega))))
   have HC3:=jj (HC0.out.trans hC3)
   have HR3:=jj hR3
   have hz3:=hC3.size
   clear hR3 hC3 KT KR HC0 HR
   cases q3:((r3:Int)==0) with
   |true =>
    have rc0:=(KR3.out.cell 0).trans (show _=some (.int .i64 0) from by simp)
    have rf0:=KR3.out.frozen 0
    have rc1:=(KR3.out.cell 1).trans (show _=some (.int .i64 0) from by simp)
    have rf1:=KR3.out.frozen 1
    have rc2:=(KR3.out.cell 2).trans (show _=some (.int .i64 0) from by simp)
    have rf2:=KR3.out.frozen 2
    have rc3:=(KR3.out.cell 3).trans (show _=some (.int .i64 0) from by simp)
    have rf3:=KR3.out.frozen 3
    have rc4:=(KR3.out.cell 4).trans (show _=some (.int .i64 0) from by simp)
    have rf4:=KR3.out.frozen 4
    have rc5:=(KR3.out.cell 5).trans (show _=some (.slice none 0 0) from by simp)
    have rf5:=KR3.out.frozen 5
    have rlt:=KR3.out.lt
    go_wp2
    clear rc0 rf0 rc1 rf1 rc2 rf2 rc3 rf3 rc4 rf4 rc5 rf5 rlt
    refine bodyPost_ret (zA1 rfl _ _ (w.heap.size+1) 43 #[.int .i64 1,.int .i64 0,.int .i64 0,.int .i64 0,.int .i64 0,.slice none 0 0] (0,0) _ rfl (KR3.out.six _ _ _ _ _ _) Tryz.underlying43 rfl rfl) rfl ?_
    exact ⟨⟨1,0,0,0,0,[]⟩,[.int .i64 1,.int .i64 0,.int .i64 0,.int .i64 0,.int .i64 0,.slice none 0 0],[],p+1,rfl,(zA9 _ _ _).2 ⟨_,rfl,Arr.nil⟩,(fun b hb=>by cases hb),by simp [nodesP,P.size,P.sizes];omega,zBC HR3.out (by omega) _ _ _ _ _ _,by omega,zAQ HC3.out (by omega) _ _ _ _ _ _⟩
   |false =>
    go_wp2_with fail
    refine (zB7 6 (p+1) g w3 HR3.out (by omega) (by omega) (by omega)).mono ?_
    rintro e w4 ⟨r4,rfl,-,hR4,hC4⟩
    have KT4:=jj (KT3.out.same (hC4.block _ KT3.out.lt (HG1.out _ hgl)))
    have KR4:=jj (KR3.out.same (hC4.block _ KR3.out.lt (HG1.out _ (by omega))))
    have HC4:=jj (HC3.out.trans hC4)
    have HR4:=jj hR4
    have hz4:=hC4.size
    clear hR4 hC4 KT3 KR3 HC3 HR3 q3
    have hdw:IntKind.i64.wrap (dp-1)=dp-1:=IntWalk.i64_in _ (by omega)
    cases q4:((r4:Int)==0) with
    |true =>
     go_wp2_with fail
     refine zA5 (S:=fun w'=>w'.cell? ⟨w.heap.size,0,none⟩=some (.int .i64 t.d)∧w'.cell? ⟨w.heap.size,1,none⟩=some (.int .i64 t.i)) (T:=fun _=>True) (d:=99) (by kernel_rfl) ?_
     have hS1:w4.drew.cell? ⟨w.heap.size,0,none⟩=some (.int .i64 t.d)∧w4.drew.cell? ⟨w.heap.size,1,none⟩=some (.int .i64 t.i):=⟨(KT4.out.cell 0).trans (by simp),(KT4.out.cell 1).trans (by simp)⟩
     have hT1:True:=trivial
     have HC4d:=jj (HC4.out.drew)
     refine wV 0 rfl hS1 hT1 ?_
     (try simp only [zz])
     refine wV 1 rfl hS1 hT1 ?_
     (try simp only [zz])
     refine wV 2 rfl hS1 hT1 ?_
     (try simp only [zz])
     refine wV 3 rfl hS1 hT1 ?_
     (try simp only [zz])
     refine wV 4 rfl hS1 hT1 ?_
     (try simp only [zz])
     refine wV 6 rfl hS1 hT1 ?_
     (try simp only [zz])
     refine wV 7 rfl hS1 hT1 ?_
     (try simp only [zz])
     refine wV 8 rfl hS1 hT1 ?_
     (try simp only [zz])
     refine wV 9 rfl hS1 hT1 ?_
     (try simp only [zz])
     refine wV 10 rfl hS1 hT1 ?_
     (try simp only [zz])
     refine w1 5 rfl fun K hK=>?_
     go_simp
     go_at_call 115
     refine (IH.out xs HW.out t HT.out (dp-1) (by push_cast at hdp;omega) (by push_cast at hlo;omega) w4.drew (p+1+1) g _ F HR4.out.drew (by omega) (HX.out.mono (HC4d.out.kept HF.out HGF.out) fun y _ cs G hk h=>DtR.mono y cs G hk h) (HF.out.mono HC4d.out.size) HGf.out).mono ?_
     rintro e w5 ⟨v5,cs5,F5,q5,rfl,hp5,hf5,hn5,hR5,hq5,hC5⟩
     obtain ⟨kv5,rfl,ha5⟩:=(zA9 _ _ _).1 hp5
     obtain ⟨A5,cap5,rfl,-,-⟩:=ha5.form
     have hC5u:Chg [g] w4 w5:=hC5.undrew
     have KT5:=jj (KT4.out.same (hC5u.block _ KT4.out.lt (HG1.out _ hgl)))
     have KR5:=jj (KR4.out.same (hC5u.block _ KR4.out.lt (HG1.out _ (by omega))))
     have HC5:=jj (HC4.out.trans hC5u)
     have HP5:=jj hp5
     have HF5:=jj hf5
     have HN5:=jj hn5
     have HR5:=jj hR5
     have hz5:=hC5u.size
     have hS2:w5.cell? ⟨w.heap.size,0,none⟩=some (.int .i64 t.d)∧w5.cell? ⟨w.heap.size,1,none⟩=some (.int .i64 t.i):=⟨(KT5.out.cell 0).trans (by simp),(KT5.out.cell 1).trans (by simp)⟩
     clear hp5 hf5 hn5 hR5 hC5 hC5u ha5 KT4 KR4 HC4 HR4 HC4d
     (try dsimp only)
     refine hK.out _ _ hS2 (fun _=>trivial) ?_
     clear hK K
     (try simp only [zz])
     refine w1 11 rfl fun K hK=>?_
     go_simp
     go_at_call 115
     refine (IH.out xs HW.out t HT.out (dp-1) (by push_cast at hdp;omega) (by push_cast at hlo;omega) w5 q5 g _ F HR5.out (by omega) (HX.out.mono (HC5.out.kept HF.out HGF.out) fun y _ cs G hk h=>DtR.mono y cs G hk h) (HF.out.mono HC5.out.size) HGf.out).mono ?_
     rintro e w6 ⟨v6,cs6,F6,q6,rfl,hp6,hf6,hn6,hR6,hq6,hC6⟩
     obtain ⟨kv6,rfl,ha6⟩:=(zA9 _ _ _).1 hp6
     obtain ⟨A6,cap6,rfl,-,-⟩:=ha6.form
     have KT6:=jj (KT5.out.same (hC6.block _ KT5.out.lt (HG1.out _ hgl)))
     have KR6:=jj (KR5.out.same (hC6.block _ KR5.out.lt (HG1.out _ (by omega))))
     have HC6:=jj (HC5.out.trans hC6)
     have HP56:=jj (PR.mono _ _ _ (hC6.kept (fun b hb=>(HF5.out b hb).1) (fun b hb h=>by rw [zy1] at h;exact (HF5.out b hb).2.1 h)) HP5.out)
     have HP6:=jj hp6
     have HF6:=jj hf6
     have HN6:=jj hn6
     have HR6:=jj hR6
     have hz6:=hC6.size
     have hS3:w6.cell? ⟨w.heap.size,0,none⟩=some (.int .i64 t.d)∧w6.cell? ⟨w.heap.size,1,none⟩=some (.int .i64 t.i):=⟨(KT6.out.cell 0).trans (by simp),(KT6.out.cell 1).trans (by simp)⟩
     clear hp6 hf6 hn6 hR6 hC6 ha6 KT5 KR5 HC5 HR5 HP5
     (try dsimp only)
     refine hK.out _ _ hS3 (fun _=>trivial) ?_
     clear hK K
     (try simp only [zz])
     refine w1 12 rfl fun K hK=>?_
     have hb8:Below w6.heap.size w6 (w6.alloc (.cells ([.int .i64 v5.op,.int .i64 v5.ct,.int .i64 v5.n,.int .i64 v5.m,.int .i64 v5.va,.slice A5 v5.ks.length cap5,.int .i64 v6.op,.int .i64 v6.ct,.int .i64 v6.n,.int .i64 v6.m,.int .i64 v6.va,.slice A6 v6.ks.length cap6]).toArray 43)):=(zy2 _ _).alloc (zz8 _) _
     have KA8:Hid (Blk (w6.alloc (.cells ([.int .i64 v5.op,.int .i64 v5.ct,.int .i64 v5.n,.int .i64 v5.m,.int .i64 v5.va,.slice A5 v5.ks.length cap5,.int .i64 v6.op,.int .i64 v6.ct,.int .i64 v6.n,.int .i64 v6.m,.int .i64 v6.va,.slice A6 v6.ks.length cap6]).toArray 43)) w6.heap.size 43 ([.int .i64 v5.op,.int .i64 v5.ct,.int .i64 v5.n,.int .i64 v5.m,.int .i64 v5.va,.slice A5 v5.ks.length cap5,.int .i64 v6.op,.int .i64 v6.ct,.int .i64 v6.n,.int .i64 v6.m,.int .i64 v6.va,.slice A6 v6.ks.length cap6]).toArray):=Blk.new _ _ _
     have hS4:(w6.alloc (.cells ([.int .i64 v5.op,.int .i64 v5.ct,.int .i64 v5.n,.int .i64 v5.m,.int .i64 v5.va,.slice A5 v5.ks.length cap5,.int .i64 v6.op,.int .i64 v6.ct,.int .i64 v6.n,.int .i64 v6.m,.int .i64 v6.va,.slice A6 v6.ks.length cap6]).toArray 43)).cell? ⟨w.heap.size,0,none⟩=some (.int .i64 t.d)∧(w6.alloc (.cells ([.int .i64 v5.op,.int .i64 v5.ct,.int .i64 v5.n,.int .i64 v5.m,.int .i64 v5.va,.slice A5 v5.ks.length cap5,.int .i64 v6.op,.int .i64 v6.ct,.int .i64 v6.n,.int .i64 v6.m,.int .i64 v6.va,.slice A6 v6.ks.length cap6]).toArray 43)).cell? ⟨w.heap.size,1,none⟩=some (.int .i64 t.i):=⟨(hb8.cell (p:=⟨w.heap.size,0,none⟩) KT6.out.lt).trans hS3.1,(hb8.cell (p:=⟨w.heap.size,1,none⟩) KT6.out.lt).trans hS3.2⟩
     go_simp
     (try dsimp only)
     refine hK.out _ _ hS4 (fun _=>trivial) ?_
     clear hK K
     (try simp only [zz])
     obtain ⟨w8,hw8⟩:∃ X,X=(w6.alloc (.cells ([.int .i64 v5.op,.int .i64 v5.ct,.int .i64 v5.n,.int .i64 v5.m,.int .i64 v5.va,.slice A5 v5.ks.length cap5,.int .i64 v6.op,.int .i64 v6.ct,.int .i64 v6.n,.int .i64 v6.m,.int .i64 v6.va,.slice A6 v6.ks.length cap6]).toArray 43)):=⟨_,rfl⟩
     try rw [←hw8]
     rw [←hw8] at hb8 KA8 hS4
     clear hw8
     have HP58:=jj (HP56.out.below hb8 (fun b hb=>zz9 (HF5.out b hb).1 hz6))
     have HP68:=jj (HP6.out.below hb8 (fun b hb=>(HF6.out b hb).1))
     have KR8:=jj (KR6.out.same (hb8.block _ KR6.out.lt))
     have HC8:=jj (HC6.out.step hb8)
     have HR8:=jj (HR6.out.below hb8)
     have hz8:=KA8.out.lt
     have hk1:=KR6.out.lt
     refine wV 13 rfl hS4 hT1 ?_
     (try simp only [zz])
     refine w1 14 rfl fun K hK=>?_
     have rc0:=(KR8.out.cell 0).trans (show _=some (.int .i64 0) from by simp)
     have rf0:=KR8.out.frozen 0
     have rc1:=(KR8.out.cell 1).trans (show _=some (.int .i64 0) from by simp)
     have rf1:=KR8.out.frozen 1
     have rc2:=(KR8.out.cell 2).trans (show _=some (.int .i64 0) from by simp)
     have rf2:=KR8.out.frozen 2
     have rc3:=(KR8.out.cell 3).trans (show _=some (.int .i64 0) from by simp)
     have rf3:=KR8.out.frozen 3
     have rc4:=(KR8.out.cell 4).trans (show _=some (.int .i64 0) from by simp)
     have rf4:=KR8.out.frozen 4
     have rc5:=(KR8.out.cell 5).trans (show _=some (.slice none 0 0) from by simp)
     have rf5:=KR8.out.frozen 5
     have rlt:=KR8.out.lt
     have hne:w.heap.size+1≠w.heap.size:=by omega
     have hS5:((((((w8.setCell ⟨w.heap.size+1,0,none⟩ (.int .i64 5)).setCell ⟨w.heap.size+1,1,none⟩ (.int .i64 0)).setCell ⟨w.heap.size+1,2,none⟩ (.int .i64 0)).setCell ⟨w.heap.size+1,3,none⟩ (.int .i64 0)).setCell ⟨w.heap.size+1,4,none⟩ (.int .i64 0)).setCell ⟨w.heap.size+1,5,none⟩ (.slice (some ⟨w6.heap.size,0,none⟩) 2 2)).cell? ⟨w.heap.size,0,none⟩=some (.int .i64 t.d)∧((((((w8.setCell ⟨w.heap.size+1,0,none⟩ (.int .i64 5)).setCell ⟨w.heap.size+1,1,none⟩ (.int .i64 0)).setCell ⟨w.heap.size+1,2,none⟩ (.int .i64 0)).setCell ⟨w.heap.size+1,3,none⟩ (.int .i64 0)).setCell ⟨w.heap.size+1,4,none⟩ (.int .i64 0)).setCell ⟨w.heap.size+1,5,none⟩ (.slice (some ⟨w6.heap.size,0,none⟩) 2 2)).cell? ⟨w.heap.size,1,none⟩=some (.int .i64 t.i):=by
      have:((((((((w8.setCell ⟨w.heap.size+1,0,none⟩ (.int .i64 5)).setCell ⟨w.heap.size+1,1,none⟩ (.int .i64 0)).setCell ⟨w.heap.size+1,2,none⟩ (.int .i64 0)).setCell ⟨w.heap.size+1,3,none⟩ (.int .i64 0)).setCell ⟨w.heap.size+1,4,none⟩ (.int .i64 0)).setCell ⟨w.heap.size+1,5,none⟩ (.slice (some ⟨w6.heap.size,0,none⟩) 2 2))).heap[w.heap.size]?)=w8.heap[w.heap.size]?:=by
       rw [zz7 _ _ _ _ (by show w.heap.size≠w.heap.size+1;omega),zz7 _ _ _ _ (by show w.heap.size≠w.heap.size+1;omega),zz7 _ _ _ _ (by show w.heap.size≠w.heap.size+1;omega),zz7 _ _ _ _ (by show w.heap.size≠w.heap.size+1;omega),zz7 _ _ _ _ (by show w.heap.size≠w.heap.size+1;omega),zz7 _ _ _ _ (by show w.heap.size≠w.heap.size+1;omega)]
      exact ⟨(World.cell?_of_block (w:=w8) (a:=⟨w.heap.size,0,none⟩) this).trans hS4.1,(World.cell?_of_block (w:=w8) (a:=⟨w.heap.size,1,none⟩) this).trans hS4.2⟩
     have HS5:=jj hS5
     clear hS5
     go_simp
     (try dsimp only)
     refine hK.out _ _ HS5.out (fun _=>trivial) ?_
     clear hK K
     (try simp only [zz])
     refine wE (by kernel_rfl) ?_
     clear rc0 rf0 rc1 rf1 rc2 rf2 rc3 rf3 rc4 rf4 rc5 rf5 rlt hS1 hS2 hS3 hS4 hT1
     have HFF:Hid (∀ b∈w6.heap.size :: (F5 ++ F6),b<w8.heap.size∧b≠g∧w.heap.size≤b∧b≠w.heap.size+1):=fun b hb=>by
      rcases List.mem_cons.1 hb with h | h
      ·exact ⟨by omega,by omega,by omega,by omega⟩
      ·rcases List.mem_append.1 h with h | h
       ·have:=HF5.out b h;exact ⟨by omega,this.2.1,by have:=this.2.2;have:w4.heap.size≤b:=this;omega,by have:=this.2.2;have:w4.heap.size≤b:=this;omega⟩
       ·have:=HF6.out b h;exact ⟨by omega,this.2.1,by omega,by omega⟩
     have HAR:Hid (Arr w8 (PR w8) [v5,v6] (.slice (some ⟨w6.heap.size,0,none⟩) 2 2) (w6.heap.size :: (F5 ++ F6))):=arr_pats2 KA8.out HP58.out HP68.out
     have HSZ:Hid (nodesP ⟨5,0,0,0,0,[v5,v6]⟩≤4 ^ (N+1)):=by have h1:=HN5.out;have h2:=HN6.out;unfold Hid nodesP at *;simp only [P.size,P.sizes];omega
     have HPQ:Hid (q6≤p+5*4 ^ (N+1)):=by unfold Hid;omega
     go_wp2
     refine bodyPost_ret (zA1 rfl _ _ (w.heap.size+1) 43 #[.int .i64 5,.int .i64 0,.int .i64 0,.int .i64 0,.int .i64 0,.slice (some ⟨w6.heap.size,0,none⟩) 2 2] (0,0) _ rfl (KR8.out.six _ _ _ _ _ _) Tryz.underlying43 rfl rfl) rfl ?_
     have hkp:Kept (w6.heap.size :: (F5 ++ F6)) w8 _:=zAR (w:=w8) (H:=w.heap.size+1) (fun b hb=>(HFF.out b hb).2.2.2) (.int .i64 5) (.int .i64 0) (.int .i64 0) (.int .i64 0) (.int .i64 0) (.slice (some ⟨w6.heap.size,0,none⟩) 2 2)
     exact ⟨⟨5,0,0,0,0,[v5,v6]⟩,[.int .i64 5,.int .i64 0,.int .i64 0,.int .i64 0,.int .i64 0,.slice (some ⟨w6.heap.size,0,none⟩) 2 2],_,q6,rfl,(zA9 _ _ _).2 ⟨_,rfl,ArrP.mono HAR.out hkp⟩,fun b hb=>⟨by rw [zAS];exact (HFF.out b hb).1,(HFF.out b hb).2.1,(HFF.out b hb).2.2.1⟩,HSZ.out,zBC HR8.out (by omega) _ _ _ _ _ _,HPQ.out,zAQ HC8.out (by omega) _ _ _ _ _ _⟩
    |false =>
     obtain ⟨y0,y1,ylt⟩:=KT4.out.c2
     rcases id HT.out with hti | ⟨d,i,rfl,hd4,hi4⟩
     ·have t1:(t.d == -1)=true:=by simp [hti]
      clear hti
      go_wp2_with fail
      refine (zB7 10 (p+1+1) g w4 HR4.out (by omega) (by omega) (by omega)).mono ?_
      rintro e w5 ⟨r5,rfl,hr5,hR5,hC5⟩
      have KR5:=jj (KR4.out.same (hC5.block _ KR4.out.lt (HG1.out _ (by omega))))
      have HC5:=jj (HC4.out.trans hC5)
      have HR5:=jj hR5
      have hz5:=hC5.size
      clear hR5 hC5 y0 y1 ylt KT4 KR4 HC4 HR4
      have e5:(10:Int)-(r5:Int)=((10-r5:Nat):Int):=by omega
      have e5w:IntKind.i64.wrap ((10:Int)-(r5:Int))=(10:Int)-(r5:Int):=IntWalk.i64_in _ (by omega)
      go_wp2_with fail
      have h6:=zB7 (10-r5) (p+1+1+1) g w5 HR5.out (by omega) (by omega) (by omega)
      clear e5w
      (first | with_reducible refine h6.mono ?_ | (rw [←e5] at h6;with_reducible refine h6.mono ?_) | (trace_state;fail))
      rintro e w6 ⟨r6,rfl,hr6,hR6,hC6⟩
      have KR6:=jj (KR5.out.same (hC6.block _ KR5.out.lt (HG1.out _ (by omega))))
      have HC6:=jj (HC5.out.trans hC6)
      have HR6:=jj hR6
      have hz6:=hC6.size
      clear h6 e5 hR6 hC6 KR5 HC5 HR5
      go_wp2_with fail
      refine (zB7 2 (p+1+1+1+1) g w6 HR6.out (by omega) (by omega) (by omega)).mono ?_
      rintro e w7 ⟨r7,rfl,hr7,hR7,hC7⟩
      have KR7:=jj (KR6.out.same (hC7.block _ KR6.out.lt (HG1.out _ (by omega))))
      have HC7:=jj (HC6.out.trans hC7)
      have HR7:=jj hR7
      have hz7:=hC7.size
      have hmul:r6*r7≤10:=Nat.le_trans (Nat.mul_le_mul (show r6≤10 by omega) (show r7≤1 by omega)) (by omega)
      obtain ⟨M,hM⟩:∃ M:Nat,M=r6*r7:=⟨_,rfl⟩
      have hMI:(r6:Int)*(r7:Int)=(M:Int):=by rw [hM];push_cast;rfl
      rw [←hM] at hmul
      have hmw:IntKind.i64.wrap ((r6:Int)*(r7:Int))=(M:Int):=by rw [hMI];exact IntWalk.i64_in _ (by omega)
      have haw:IntKind.i64.wrap ((r5:Int)+(M:Int))=(r5:Int)+(M:Int):=IntWalk.i64_in _ (by omega)
      have HMI:=jj hMI
      clear hR7 hC7 KR6 HC6 HR6 hM
      clear hMI
      have rc0:=(KR7.out.cell 0).trans (show _=some (.int .i64 0) from by simp)
      have rf0:=KR7.out.frozen 0
      have rc1:=(KR7.out.cell 1).trans (show _=some (.int .i64 0) from by simp)
      have rf1:=KR7.out.frozen 1
      have rc2:=(KR7.out.cell 2).trans (show _=some (.int .i64 0) from by simp)
      have rf2:=KR7.out.frozen 2
      have rc3:=(KR7.out.cell 3).trans (show _=some (.int .i64 0) from by simp)
      have rf3:=KR7.out.frozen 3
      have rc4:=(KR7.out.cell 4).trans (show _=some (.int .i64 0) from by simp)
      have rf4:=KR7.out.frozen 4
      have rc5:=(KR7.out.cell 5).trans (show _=some (.slice none 0 0) from by simp)
      have rf5:=KR7.out.frozen 5
      have rlt:=KR7.out.lt
      go_wp2
      clear rc0 rf0 rc1 rf1 rc2 rf2 rc3 rf3 rc4 rf4 rc5 rf5 rlt
      refine bodyPost_ret (zA1 rfl _ _ (w.heap.size+1) 43 #[.int .i64 3,.int .i64 0,.int .i64 (r5:Int),.int .i64 ((r5:Int)+(M:Int)),.int .i64 0,.slice none 0 0] (0,0) _ rfl (KR7.out.six _ _ _ _ _ _) Tryz.underlying43 rfl rfl) rfl ?_
      exact ⟨⟨3,0,(r5:Int),(r5:Int)+(M:Int),0,[]⟩,[.int .i64 3,.int .i64 0,.int .i64 (r5:Int),.int .i64 ((r5:Int)+(M:Int)),.int .i64 0,.slice none 0 0],[],p+1+1+1+1+1,rfl,(zA9 _ _ _).2 ⟨_,rfl,Arr.nil⟩,(fun b hb=>by cases hb),by simp [nodesP,P.size,P.sizes];omega,zBC HR7.out (by omega) _ _ _ _ _ _,by omega,zAQ HC7.out (by omega) _ _ _ _ _ _⟩
     ·have t1:((d:Int) == -1)=false:=by rw [beq_eq_false_iff_ne];omega
      have HKL:Hid ((ctorsL xs ⟨(d:Int),(i:Int)⟩).length≤4):=by
       have h:=ctorsL_len HW.out (s:=d*4+i) (by omega)
       rw [tyAt_mk hi4] at h
       exact h
      obtain ⟨i0,hi,hz0,hz1,hz2'⟩:=info_parts info_PE
      have HI:=jj hi
      have HZ0:=jj hz0
      have HZ1:=jj hz1
      have HZ2x:=jj hz2'
      clear hi hz0 hz1 hz2'
      go_wp2_with fail
      refine (spec_l1Ctors xs ⟨(d:Int),(i:Int)⟩ w4 _ F (HX.out.mono (HC4.out.kept HF.out HGF.out) fun y _ cs G hk h=>DtR.mono y cs G hk h) (HF.out.mono HC4.out.size) HW.out HT.out.inWorld).mono ?_
      rintro e w5 ⟨v5,F5,rfl,hb5,ha5,-,hfs5⟩
      have KT5:=jj (KT4.out.same (hb5.block _ KT4.out.lt))
      have KR5:=jj (KR4.out.same (hb5.block _ KR4.out.lt))
      have HC5:=jj (HC4.out.step hb5)
      have HR5:=jj (HR4.out.below hb5)
      have HA5:=jj ha5
      have HU5:Hid (∀ b∈F5,w4.heap.size≤b∧b<w5.heap.size):=hfs5
      have hz5:=hb5.size
      obtain ⟨C5,cap5,rfl,hl1,hl2⟩:=ha5.form
      clear ha5 hfs5 hb5 y0 y1 ylt KT4 KR4 HC4 HR4
      cases q5:(((ctorsL xs ⟨(d:Int),(i:Int)⟩).length:Int)==0) with
      |true =>
       have rc0:=(KR5.out.cell 0).trans (show _=some (.int .i64 0) from by simp)
       have rf0:=KR5.out.frozen 0
       have rc1:=(KR5.out.cell 1).trans (show _=some (.int .i64 0) from by simp)
       have rf1:=KR5.out.frozen 1
       have rc2:=(KR5.out.cell 2).trans (show _=some (.int .i64 0) from by simp)
       have rf2:=KR5.out.frozen 2
       have rc3:=(KR5.out.cell 3).trans (show _=some (.int .i64 0) from by simp)
       have rf3:=KR5.out.frozen 3
       have rc4:=(KR5.out.cell 4).trans (show _=some (.int .i64 0) from by simp)
       have rf4:=KR5.out.frozen 4
       have rc5:=(KR5.out.cell 5).trans (show _=some (.slice none 0 0) from by simp)
       have rf5:=KR5.out.frozen 5
       have rlt:=KR5.out.lt
       go_wp2
       clear rc0 rf0 rc1 rf1 rc2 rf2 rc3 rf3 rc4 rf4 rc5 rf5 rlt
       refine bodyPost_ret (zA1 rfl _ _ (w.heap.size+1) 43 #[.int .i64 1,.int .i64 0,.int .i64 0,.int .i64 0,.int .i64 0,.slice none 0 0] (0,0) _ rfl (KR5.out.six _ _ _ _ _ _) Tryz.underlying43 rfl rfl) rfl ?_
       exact ⟨⟨1,0,0,0,0,[]⟩,[.int .i64 1,.int .i64 0,.int .i64 0,.int .i64 0,.int .i64 0,.slice none 0 0],[],p+1+1,rfl,(zA9 _ _ _).2 ⟨_,rfl,Arr.nil⟩,(fun b hb=>by cases hb),by simp [nodesP,P.size,P.sizes];omega,zBC HR5.out (by omega) _ _ _ _ _ _,by omega,zAQ HC5.out (by omega) _ _ _ _ _ _⟩
      |false =>
       have hk1:1≤(ctorsL xs ⟨(d:Int),(i:Int)⟩).length:=by
        rw [beq_eq_false_iff_ne] at q5
        omega
       have hk4:=HKL.out
       go_wp2_with fail
       refine (zB7 (ctorsL xs ⟨(d:Int),(i:Int)⟩).length (p+1+1) g w5 HR5.out (by omega) hk1 (by omega)).mono ?_
       rintro e w6 ⟨r,rfl,hrl,hR6,hC6⟩
       have KT6:=jj (KT5.out.same (hC6.block _ KT5.out.lt (HG1.out _ hgl)))
       have KR6:=jj (KR5.out.same (hC6.block _ KR5.out.lt (HG1.out _ (by omega))))
       have HC6:=jj (HC5.out.trans hC6)
       have hz6:=hC6.size
       have hAF6:Arr w6 (NatR w6) (ctorsL xs ⟨(d:Int),(i:Int)⟩) (.slice C5 (ctorsL xs ⟨(d:Int),(i:Int)⟩).length cap5) F5:=ArrNat.kept HA5.out (hC6.kept (fun b hb=>(HU5.out b hb).2) (fun b hb=>HG1.out _ (by have:=(HU5.out b hb).1;omega)))
       obtain ⟨bf,offf,rfl⟩:=hAF6.ptr (by omega)
       obtain ⟨hbfl,cf⟩:=ArrNat.at hAF6 (fun b hb=>zz9 (HU5.out b hb).2 hz6) (zy2 _ _) r hrl
       have hme:(ctorsL xs ⟨(d:Int),(i:Int)⟩)[r]∈(ctorsL xs ⟨(d:Int),(i:Int)⟩):=List.getElem_mem hrl
       obtain ⟨d',m,e1,hkm,hd',hm⟩:=zB2 HT.out.inWorld hme
       obtain rfl:d=d':=Int.ofNat.inj e1
       rw [hkm] at cf hme
       have HME:=jj hme
       have HR6:=jj hR6
       have g1:(0:Int)≤(r:Int):=by omega
       have g2:(r:Int)<((ctorsL xs ⟨(d:Int),(i:Int)⟩).length:Int):=by omega
       have hal:=zAU (i:=(i:Int)) hd4 hm
       have HAL:Hid (∀ a∈argsL xs[d].ctors[m] (i:Int),TyIn xs.length a):=fun a ha=>argsOf_in HW.out HT.out HME.out (by rw [hal];exact ha)
       have hl3:(argsL xs[d].ctors[m] (i:Int)).length≤3:=by rw [argsL_len];exact (HW.out.ctor hd4 hm).args
       have hca:=(HW.out.ctor hd4 hm).args
       clear hkm e1 hme hR6 hC6 hAF6 hal KT5 KR5 HC5 HR5 HA5 q5
       have y0:w6.cell? ⟨w.heap.size,0,none⟩=some (.int .i64 (d:Int)):=(KT6.out.cell 0).trans (by simp)
       have y1:w6.cell? ⟨w.heap.size,1,none⟩=some (.int .i64 (i:Int)):=(KT6.out.cell 1).trans (by simp)
       have ylt:=KT6.out.lt
       go_wp2_with fail
       clear y0 y1 ylt cf hbfl
       obtain ⟨wn,hwn⟩:∃ wn,wn=w6.alloc (.cells #[.int .i64 4,.int .i64 (m:Int),.int .i64 0,.int .i64 0,.int .i64 0,.slice none 0 0] 43):=⟨_,rfl⟩
       have hbn:Below w6.heap.size w6 wn:=by rw [hwn];exact (zy2 _ _).alloc (zz8 _) _
       have KN:Hid (Blk wn w6.heap.size 43 #[.int .i64 4,.int .i64 (m:Int),.int .i64 0,.int .i64 0,.int .i64 0,.slice none 0 0]):=by rw [hwn];exact Blk.new _ _ _
       rw [←hwn]
       clear hwn
       obtain ⟨D,hD⟩:∃ D,D=w6.heap.size:=⟨_,rfl⟩
       rw [←hD] at KN hbn hz6 ⊢
       have HCn:Hid (Chg [g] w wn):=HC6.out.trans (.of_below (by rw [←hD];exact hbn))
       have KRn:=jj (KR6.out.same (hbn.block _ (by rw [hD];exact KR6.out.lt)))
       have HRn:=jj (HR6.out.keep (w':=wn) (fun b hb=>hbn.block b (by omega)))
       clear hbn HC6 KT6 HR6 KR6 hD
       refine (spec_l1Args xs d m (i:Int) hd4 hm wn _ F (HX.out.mono (HCn.out.kept HF.out HGF.out) fun y _ cs G hk h=>DtR.mono y cs G hk h) (HF.out.mono HCn.out.size) hca).mono ?_
       rintro e w9 ⟨v7,F7,rfl,hb7,ha7,-,hfs7⟩
       have KN9:=jj (KN.out.same (hb7.block _ KN.out.lt))
       have KR9:=jj (KRn.out.same (hb7.block _ KRn.out.lt))
       have HC9:Hid (Chg [g] w w9):=HCn.out.step hb7
       have HR9:=jj (HRn.out.below hb7)
       have HA7:=jj ha7
       have HU7:=jj hfs7.under
       have HL7:Hid (∀ b∈F7,D<b):=fun b hb=>zz9 KN.out.lt (hfs7 b hb).1
       have hDw:D<w9.heap.size:=KN9.out.lt
       have hwD:w.heap.size+1<D:=by omega
       obtain ⟨C7,cap7,rfl,hl71,hl72⟩:=ha7.form
       obtain ⟨Bz,hBz⟩:∃ B,B=w9.heap.size:=⟨_,rfl⟩
       have HBZ:=jj hBz
       have hDB:D<Bz:=by rw [hBz];exact hDw
       clear ha7 hfs7 hb7 KN HCn KRn HRn hBz
       generalize (argsL xs[d].ctors[m] (i:Int))=ls at *
       go_wp2
       go_loopw [13] (fun iv wr=>∃ q:Nat,∃ kv:Value,∃ Fk:List Nat,∃ vs:List P,∃ pq:Nat,q≤ls.length∧iv=.int .i64 q∧Hid (vs.length=q)∧Hid (P.sizes vs≤q*4 ^ N)∧Hid (Blk wr D 43 #[.int .i64 4,.int .i64 (m:Int),.int .i64 0,.int .i64 0,.int .i64 0,kv])∧Hid (Own wr Bz 43 6 PR vs kv Fk)∧Hid (∀ b∈Fk,Bz≤b)∧Hid (Chg [D,g] w9 wr)∧Hid (Chg [g] w wr)∧w9.heap.size≤wr.heap.size∧Hid (Rd wr g pq)∧pq≤p+3+q*(5*4 ^ N)) (fun iv _=>ls.length-(intOf iv).toNat)
       case atStart=>exact ⟨0,_,[],[],p+1+1+1,Nat.zero_le _,rfl,rfl,Nat.zero_le _,KN9,Own.nil _ _ _ _ _,(fun b hb=>by cases hb),Chg.refl _ _,HC9,zz8 _,HR9,by omega⟩
       case round =>
        clear HC9 KN9 HR9
        obtain ⟨q,kv,Fk,vs,pq,hql,rfl,HVL,HVS,KD,HO,HFh,HC,HCw,hws9,HRq,hpq⟩:=hrel
        obtain ⟨kA,kcap,hkv,hkc1,hkc2⟩:=HO.out.form
        subst hkv
        have klt:=KD.out.lt
        have HA7r:Hid (Arr wr (TyR wr) ls (.slice C7 ls.length cap7) F7):=HA7.out.mono (HC.out.kept HU7.out (fun b hb h=>by have h1:=HL7.out b hb;rcases List.mem_cons.1 h with h2 | h2;omega;rw [zy1] at h2;omega)) (fun y _ cs G _ h=>h)
        have HU7r:Hid (Under wr.heap.size F7):=HU7.out.mono HC.out.size
        by_cases hil:q<ls.length
        ·have g1:(0:Int)≤(q:Int):=by omega
         have g2:(q:Int)<(ls.length:Int):=by omega
         obtain ⟨b7,off7,rfl⟩:=HA7r.out.ptr (by omega)
         have hb7z:D<b7∧b7<Bz:=by
          obtain ⟨_,_,_,_,e,hb,-⟩:=HA7r.out.get TyR_len hil
          cases e
          exact ⟨HL7.out _ hb,by have:=HU7.out _ hb;rw [HBZ.out];exact this⟩
         obtain ⟨hb7w,k0,k1⟩:=ArrTy.at HA7r.out HU7r.out (zy2 _ _) q hil
         have ha:=HAL.out ls[q] (List.getElem_mem hil)
         have hvl:=HVL.out
         have hvl3:vs.length≤3:=by omega
         clear hvl
         have HA1:=jj ha
         clear ha
         obtain ⟨aq,haq⟩:∃ a,a=ls[q]:=⟨_,rfl⟩
         rw [←haq] at HA1 k0 k1
         clear haq
         have hmx:vs.length+1≤maxLen:=by unfold maxLen;omega
         have hby:(vs.length+1)*64≤140737488355328:=by omega
         have hmul:q*(5*4 ^ N)≤2*(5*4 ^ N):=Nat.mul_le_mul_right _ (by omega)
         have hmul1:(q+1)*(5*4 ^ N)=q*(5*4 ^ N)+5*4 ^ N:=by rw [Nat.add_mul];omega
         have zT:wr.drew.cell? ⟨D,5,none⟩=some (.slice kA vs.length kcap):=(KD.out.cell 5).trans (by simp)
         have zfT:wr.drew.frozen? ⟨D,5,none⟩=false:=KD.out.frozen 5
         have hkT:D<wr.drew.heap.size:=klt
         have hb7':b7<wr.drew.heap.size:=hb7w
         have hDg:D∉[g]:=HG1.out _ (by omega)
         have hb7g:b7∉[g]:=HG1.out _ (by omega)
         have HCd:=jj (HCw.out.drew)
         have HCALL:=jj (IH.out xs HW.out aq HA1.out (dp-1) (by push_cast at hdp;omega) (by push_cast at hlo;omega) wr.drew pq g _ F HRq.out.drew (by omega) (HX.out.mono (HCd.out.kept HF.out HGF.out) fun y _ cs G hk h=>DtR.mono y cs G hk h) (HF.out.mono HCd.out.size) HGf.out)
         go_wp2_with fail
         refine zA5 (S:=fun w'=>w'.cell? ⟨b7,off7+q*2,none⟩=some (.int .i64 aq.d)∧w'.cell? ⟨b7,off7+q*2+1,none⟩=some (.int .i64 aq.i)) (T:=fun w'=>w'.cell? ⟨D,5,none⟩=some (.slice kA vs.length kcap)) (d:=12) (by kernel_rfl) ?_
         have hS1:wr.drew.cell? ⟨b7,off7+q*2,none⟩=some (.int .i64 aq.d)∧wr.drew.cell? ⟨b7,off7+q*2+1,none⟩=some (.int .i64 aq.i):=⟨k0,k1⟩
         have hT1:wr.drew.cell? ⟨D,5,none⟩=some (.slice kA vs.length kcap):=zT
         refine wV 0 rfl hS1 hT1 ?_
         (try simp only [Act.put,zz4,zz5,zz6])
         refine zAZ (i:=1) (v:=?_) rfl (by decide) rfl (by kernel_rfl) (by kernel_rfl) (by kernel_rfl) (by kernel_rfl) (fun _ _ _ h=>h) (Or.inl ⟨by rfl,?hy1⟩) (by rfl) hS1 hT1 ?_
         case hy1=>(intro W hSw;(try dsimp only at hSw);(obtain ⟨⟨s0,s1⟩,tT⟩:=hSw);go_simp;try with_reducible rfl)
         (try simp only [Act.put,zz4,zz5,zz6])
         refine wV 2 rfl hS1 hT1 ?_
         (try simp only [Act.put,zz4,zz5,zz6])
         refine wV 3 rfl hS1 hT1 ?_
         (try simp only [Act.put,zz4,zz5,zz6])
         refine wV 4 rfl hS1 hT1 ?_
         (try simp only [Act.put,zz4,zz5,zz6])
         refine wV 5 rfl hS1 hT1 ?_
         (try simp only [Act.put,zz4,zz5,zz6])
         refine wV 6 rfl hS1 hT1 ?_
         (try simp only [Act.put,zz4,zz5,zz6])
         refine wV 7 rfl hS1 hT1 ?_
         (try simp only [Act.put,zz4,zz5,zz6])
         refine wV 8 rfl hS1 hT1 ?_
         (try simp only [Act.put,zz4,zz5,zz6])
         refine wV 9 rfl hS1 hT1 ?_
         (try simp only [Act.put,zz4,zz5,zz6])
         refine w1 10 rfl fun K hK=>?_
         go_simp
         go_at_call 115
         with_reducible refine HCALL.out.mono ?_
         rintro e wA ⟨vA,csA,FA,qA,rfl,hpA,hfsA,hnA,hRA,hqA,hbA⟩
         obtain ⟨kvA,rfl,haA⟩:=(zA9 _ _ _).1 hpA
         obtain ⟨A8,cap8,rfl,-,-⟩:=haA.form
         clear haA
         have HBu:Hid (Chg [g] wr wA):=hbA.undrew
         have HPA:=jj hpA
         have HRA:=jj hRA
         have HNA:=jj hnA
         have HFsA:Hid (∀ b∈FA,wr.heap.size≤b∧b<wA.heap.size):=fun b hb=>⟨(hfsA b hb).2.2,(hfsA b hb).1⟩
         have HOA:Hid (Own wA Bz 43 6 PR vs (.slice kA vs.length kcap) Fk):=HO.out.chg PR_mono' HBu.out (fun b hb=>by rw [zy1] at hb;omega) HFh.out
         have hbs:Bz≤wA.heap.size:=by have h1:=HBu.out.size;have h2:=HBZ.out;omega
         clear hpA hRA hnA hfsA
         have hSA:wA.cell? ⟨b7,off7+q*2,none⟩=some (.int .i64 aq.d)∧wA.cell? ⟨b7,off7+q*2+1,none⟩=some (.int .i64 aq.i):=⟨(hbA.cell (p:=⟨b7,off7+q*2,none⟩) hb7' hb7g).trans k0,(hbA.cell (p:=⟨b7,off7+q*2+1,none⟩) hb7' hb7g).trans k1⟩
         have zA:wA.cell? ⟨D,5,none⟩=some (.slice kA vs.length kcap):=(hbA.cell (p:=⟨D,5,none⟩) hkT hDg).trans zT
         have zfA:wA.frozen? ⟨D,5,none⟩=false:=(hbA.frozen hkT hDg).trans zfT
         have hkA:D<wA.heap.size:=zz9 hkT hbA.size
         have kl1:b7<wA.heap.size:=zz9 hb7' hbA.size
         have kl2:b7<wA.heap.size:=zz9 hb7' hbA.size
         have hSB:(wA.alloc (.cells [.int .i64 vA.op,.int .i64 vA.ct,.int .i64 vA.n,.int .i64 vA.m,.int .i64 vA.va,.slice A8 vA.ks.length cap8].toArray 43)).cell? ⟨b7,off7+q*2,none⟩=some (.int .i64 aq.d)∧(wA.alloc (.cells [.int .i64 vA.op,.int .i64 vA.ct,.int .i64 vA.n,.int .i64 vA.m,.int .i64 vA.va,.slice A8 vA.ks.length cap8].toArray 43)).cell? ⟨b7,off7+q*2+1,none⟩=some (.int .i64 aq.i):=⟨(World.cell?_alloc_lt _ _ _ kl1).trans hSA.1,(World.cell?_alloc_lt _ _ _ kl2).trans hSA.2⟩
         dsimp only
         refine hK.out _ _ hSA (fun _=>zA) ?_
         clear hK K
         (try simp only [Act.put,zz4,zz5,zz6])
         refine w1 11 rfl fun K hK=>?_
         go_simp
         refine hK.out _ _ hSB (fun _=>(World.cell?_alloc_lt _ _ _ hkA).trans zA) ?_
         clear hK K
         (try simp only [Act.put,zz4,zz5,zz6])
         refine w1 12 rfl fun K hK=>?_
         refine zBI (P:=Tryz.prog) rfl _ _ 41 rfl i0 _ 64 Tryz.underlying41 HI.out HZ0.out HZ1.out HZ2x.out rfl (by decide) PR_len' PR_mono' (by rfl) HOA.out vA 43 [.int .i64 vA.op,.int .i64 vA.ct,.int .i64 vA.n,.int .i64 vA.m,.int .i64 vA.va,.slice A8 vA.ks.length cap8] FA wA.heap.size (by rfl) rfl (by simp [Value.oneCell']) HPA.out (fun b hb=>(HFsA.out b hb).2) (fun g hg hG=>Nat.lt_irrefl _ (zz9 (HO.out.row g hg).2 (HFsA.out g hG).1)) hmx hby hbs ?_
         intro g cp w7 hown7 hgr7 hat7
         have hrow7:=HOA.out.row
         have n7:∀ x,(x<Bz∨wr.heap.size≤x)→some x≠(Value.ownBlock (.slice kA vs.length kcap)):=fun x hx e=>by
          have h1:=(hrow7 x (zA2.2 e.symm)).1
          have h2:=(HO.out.row x (zA2.2 e.symm)).2
          omega
         have l7:wA.heap.size≤(wA.alloc (.cells [.int .i64 vA.op,.int .i64 vA.ct,.int .i64 vA.n,.int .i64 vA.m,.int .i64 vA.va,.slice A8 vA.ks.length cap8].toArray 43)).heap.size:=by rw [World.size_alloc];exact Nat.le_succ _
         have s7:w7.cell? ⟨b7,off7+q*2,none⟩=some (.int .i64 aq.d)∧w7.cell? ⟨b7,off7+q*2+1,none⟩=some (.int .i64 aq.i):=⟨(World.grownBy.cell_far hgr7 ⟨b7,off7+q*2,none⟩ (zz9 kl1 l7) (n7 (b7) (by omega))).trans hSB.1,(World.grownBy.cell_far hgr7 ⟨b7,off7+q*2+1,none⟩ (zz9 kl2 l7) (n7 (b7) (by omega))).trans hSB.2⟩
         have z71:w7.cell? ⟨D,5,none⟩=some (.slice kA vs.length kcap):=(World.grownBy.cell_far hgr7 ⟨D,5,none⟩ (zz9 hkA l7) (n7 (D) (by omega))).trans ((World.cell?_alloc_lt _ _ _ hkA).trans zA)
         have zf71:w7.frozen? ⟨D,5,none⟩=false:=(World.grownBy.frozen_far hgr7 ⟨D,5,none⟩ (zz9 hkA l7) (n7 (D) (by omega))).trans (Eq.trans (World.frozen?_of_block (Below.heap_alloc _ _ _ hkA)) zfA)
         refine hK.out _ _ s7 (fun h=>by cases h) ?_
         clear hK K
         (try simp only [Act.put,zz4,zz5,zz6])
         refine wU (i:=13) (v:=?_) rfl (Or.inl ⟨by rfl,?hy13⟩) s7 (fun h=>by cases h) ?_
         case hy13=>(intro W hSw;(try dsimp only at hSw);(obtain ⟨s0,s1⟩:=hSw);go_simp;try with_reducible rfl)
         (try simp only [Act.put,zz4,zz5,zz6])
         refine w1 14 rfl fun K hK=>?_
         go_simp
         refine hK.out _ _ ⟨(World.cell?_setCell_far _ _ _ _ (by show D≠b7;omega)).trans s7.1,(World.cell?_setCell_far _ _ _ _ (by show D≠b7;omega)).trans s7.2⟩ (fun h=>by cases h) ?_
         clear hK K
         (try simp only [Act.put,zz4,zz5,zz6])
         refine wE (by kernel_rfl) ?_
         obtain ⟨r1,r2,r3,r4,r5,r6,r7⟩:=kid_round3 (w:=w) 5 PR_mono' HBZ.out.symm hDB hgl (by omega) KD.out HO.out HFh.out HC.out HCw.out HBu.out HFsA.out hown7 hgr7 HRA.out
         have R1:=jj r1
         have R2:=jj r2
         have R3:=jj r3
         have R4:=jj r4
         have R5:=jj r5
         have R7:=jj r7
         have HV2:Hid ((vs ++ [vA]).length=q+1):=by have:=HVL.out;unfold Hid;rw [List.length_append];simp only [List.length_cons,List.length_nil];omega
         have HS2:Hid (P.sizes (vs ++ [vA])≤(q+1)*4 ^ N):=psizes_snoc vs vA q _ HVS.out HNA.out
         clear r1 r2 r3 r4 r5 r7 hown7 hgr7 hat7 hrow7 n7 l7 s7 z71 zf71 hSA zA zfA hkA hSB hS1 hT1 zT zfT hkT HCALL
         go_wp2
         go_roundw
         case rel=>exact ⟨q+1,_,_,vs ++ [vA],qA,hil,by go_num,HV2,HS2,R1,(by rw [show (vs ++ [vA]).length=vs.length+1 from by rw [List.length_append];rfl] at *;exact R2),R3,R4,R5,r6,R7,by omega⟩
         case measure=>(simp [intOf] <;> omega)
        ·have hq:q=ls.length:=by omega
         obtain ⟨FF,hf1,hf3⟩:=kid_done3 (H:=Bz) HO.out HFh.out (zz8 _)
         have HF1:=jj hf1
         have HF3:=jj hf3
         have e0:=(KD.out.cell 0).trans (show _=some (.int .i64 4) from by simp)
         have e1:=(KD.out.cell 1).trans (show _=some (.int .i64 (m:Int)) from by simp)
         have e2:=(KD.out.cell 2).trans (show _=some (.int .i64 0) from by simp)
         have e3:=(KD.out.cell 3).trans (show _=some (.int .i64 0) from by simp)
         have e4:=(KD.out.cell 4).trans (show _=some (.int .i64 0) from by simp)
         have e5:=(KD.out.cell 5).trans (show _=some (.slice kA vs.length kcap) from by simp)
         have RR:=jj (KR9.out.same (HC.out.block _ KR9.out.lt (by intro h;rcases List.mem_cons.1 h with h2 | h2;omega;rw [zy1] at h2;omega)))
         have hmul:q*(5*4 ^ N)≤3*(5*4 ^ N):=Nat.mul_le_mul_right _ (by omega)
         have hmul2:q*4 ^ N≤3*4 ^ N:=Nat.mul_le_mul_right _ (by omega)
         have HPQ:Hid (pq≤p+5*4 ^ (N+1)):=by unfold Hid;omega
         have HSZ:Hid (nodesP ⟨4,(m:Int),0,0,0,vs⟩≤4 ^ (N+1)):=by have:=HVS.out;unfold Hid nodesP;rw [P.size];omega
         have rc0:=(RR.out.cell 0).trans (show _=some (.int .i64 0) from by simp)
         have rf0:=RR.out.frozen 0
         have rc1:=(RR.out.cell 1).trans (show _=some (.int .i64 0) from by simp)
         have rf1:=RR.out.frozen 1
         have rc2:=(RR.out.cell 2).trans (show _=some (.int .i64 0) from by simp)
         have rf2:=RR.out.frozen 2
         have rc3:=(RR.out.cell 3).trans (show _=some (.int .i64 0) from by simp)
         have rf3:=RR.out.frozen 3
         have rc4:=(RR.out.cell 4).trans (show _=some (.int .i64 0) from by simp)
         have rf4:=RR.out.frozen 4
         have rc5:=(RR.out.cell 5).trans (show _=some (.slice none 0 0) from by simp)
         have rf5:=RR.out.frozen 5
         have rlt:=RR.out.lt
         clear hf1 hf3 hq
         go_wp2
         clear e0 e1 e2 e3 e4 e5 rc0 rf0 rc1 rf1 rc2 rf2 rc3 rf3 rc4 rf4 rc5 rf5 rlt
         refine bodyPost_ret (zA1 rfl _ _ (w.heap.size+1) 43 #[.int .i64 4,.int .i64 (m:Int),.int .i64 0,.int .i64 0,.int .i64 0,.slice kA vs.length kcap] (0,0) _ rfl (RR.out.six _ _ _ _ _ _) Tryz.underlying43 rfl rfl) rfl ?_
         have hkp:Kept FF wr _:=zAR (w:=wr) (H:=w.heap.size+1) (fun b hb=>by have:=(HF3.out b hb).1;omega) (.int .i64 4) (.int .i64 (m:Int)) (.int .i64 0) (.int .i64 0) (.int .i64 0) (.slice kA vs.length kcap)
         exact ⟨⟨4,(m:Int),0,0,0,vs⟩,[.int .i64 4,.int .i64 (m:Int),.int .i64 0,.int .i64 0,.int .i64 0,.slice kA vs.length kcap],FF,pq,rfl,(zA9 _ _ _).2 ⟨_,rfl,ArrP.mono HF1.out hkp⟩,fun b hb=>⟨by rw [zAS];exact (HF3.out b hb).2,by have:=(HF3.out b hb).1;omega,by have:=(HF3.out b hb).1;omega⟩,HSZ.out,zBC HRq.out (by omega) _ _ _ _ _ _,HPQ.out,zAQ HCw.out (by omega) _ _ _ _ _ _⟩
def scanPB (xs:List Dt) (d:Nat) (t:Ty) (p:P) (c:Nat):Bool:=shapeB xs d t p && (decide (c+nodesP p≤60) && linB xs d t p)
def nodeB (xs:List Dt) (t:Ty) (p:P):Bool:=ownB xs t p && p.ks.length==(typesP xs t p).length
def kidSum (p:P) (i:Nat):Nat:=(p.ks.take i).foldl (fun n k=>n+nodesP k) 0
theorem foldl_nodes (l:List P) (n:Nat):l.foldl (fun n k=>n+nodesP k) n=n+(l.length+P.subs l):=by
 induction l generalizing n with
 |nil=>simp [P.subs]
 |cons k l ih=>rw [List.foldl_cons,ih];simp only [P.subs,List.length_cons,nodesP];omega
theorem zB0 (p:P) (i:Nat) (h:i<p.ks.length):kidSum p (i+1)=kidSum p i+nodesP p.ks[i]:=by
 unfold kidSum
 rw [take_snoc' p.ks i h,List.foldl_append];rfl
theorem zAP (p:P) {i:Nat} (h:p.ks.length≤i):nodesP p=1+kidSum p i:=by
 unfold kidSum
 rw [List.take_of_length_le h,foldl_nodes]
 obtain ⟨op,ct,n,m,va,ks⟩:=p
 unfold nodesP
 rw [P.size,P.sizes_eq]
 simp only;omega
theorem kidSum_le (p:P) (i:Nat):1+kidSum p i≤nodesP p:=by
 rw [zAP p (zz8 _)]
 unfold kidSum
 rw [foldl_nodes,foldl_nodes]
 have h1:=P.subs_take_le p.ks i
 have h2:(p.ks.take i).length≤p.ks.length:=by rw [List.length_take];omega
 rw [List.take_of_length_le (zz8 _)]
 omega
section
variable {xs : List Dt} {d c i : Nat} {t : Ty} {p : P}
theorem scanPB_node (h:nodeB xs t p=false):scanPB xs (d+1) t p c=false:=by
 have e:shapeB xs (d+1) t p=(nodeB xs t p && ((typesP xs t p).zip p.ks).all fun x=>shapeB xs d x.1 x.2):=by
  unfold nodeB
  rw [Bool.and_assoc];rfl
 unfold scanPB
 rw [e,h];rfl
theorem scanPB_many (h:60<c+1):scanPB xs d t p c=false:=by
 have h1:¬c+nodesP p≤60:=by unfold nodesP;omega
 unfold scanPB
 rw [decide_eq_false h1,Bool.false_and,Bool.and_false]
theorem scanPB_deep:scanPB xs 0 t p c=false:=rfl
structure KidsOk (xs:List Dt) (d:Nat) (t:Ty) (p:P) (c i:Nat):Prop where
 node:nodeB xs t p=true
 le:i≤p.ks.length
 fit:c+1+kidSum p i≤60
 all:∀ j (h:j<p.ks.length) (h':j<(typesP xs t p).length),j<i→shapeB xs d (typesP xs t p)[j] p.ks[j]=true∧linB xs d (typesP xs t p)[j] p.ks[j]=true
theorem KidsOk.len (h:KidsOk xs d t p c i):p.ks.length=(typesP xs t p).length:=by
 have:=h.node
 unfold nodeB at this
 rw [Bool.and_eq_true,beq_iff_eq] at this
 exact this.2
theorem KidsOk.zero (h:nodeB xs t p=true) (hc:c+1≤60):KidsOk xs d t p c 0:=⟨h,Nat.zero_le _,by unfold kidSum;simpa using hc,fun j _ _ hj=>by omega⟩
theorem zip_at (hi:i<p.ks.length) (hi':i<(typesP xs t p).length):((typesP xs t p)[i],p.ks[i])∈(typesP xs t p).zip p.ks:=by
 rw [List.mem_iff_getElem]
 exact ⟨i,by rw [List.length_zip];omega,by rw [List.getElem_zip]⟩
theorem KidsOk.next (h:KidsOk xs d t p c i) (hi:i<p.ks.length) (hi':i<(typesP xs t p).length) (hs:scanPB xs d (typesP xs t p)[i] p.ks[i] (c+1+kidSum p i)=true):KidsOk xs d t p c (i+1):=by
 unfold scanPB at hs
 rw [Bool.and_eq_true,Bool.and_eq_true,decide_eq_true_eq] at hs
 refine ⟨h.node,hi,by rw [zB0 p i hi];omega,fun j hj hj' hji=>?_⟩
 rcases Nat.lt_or_ge j i with h1 | h1
 ·exact h.all j hj hj' h1
 ·obtain rfl:j=i:=by omega
  exact ⟨hs.1,hs.2.2⟩
theorem KidsOk.fail (h:KidsOk xs d t p c i) (hi:i<p.ks.length) (hi':i<(typesP xs t p).length) (hs:scanPB xs d (typesP xs t p)[i] p.ks[i] (c+1+kidSum p i)=false):scanPB xs (d+1) t p c=false:=by
 rw [Bool.eq_false_iff]
 intro hk
 unfold scanPB at hk
 rw [Bool.and_eq_true,Bool.and_eq_true,decide_eq_true_eq] at hk
 obtain ⟨h1,h2,h3⟩:=hk
 simp only [shapeB,linB,Bool.and_eq_true] at h1 h3
 have m:=zip_at (xs:=xs) (t:=t) hi hi'
 have s1:=List.all_eq_true.1 h1.2.2 _ m
 have s2:=List.all_eq_true.1 h3.1 _ m
 have s3:c+1+kidSum p i+nodesP p.ks[i]≤60:=by
  have:=kidSum_le p (i+1)
  rw [zB0 p i hi] at this
  omega
 unfold scanPB at hs
 rw [s1,s2,decide_eq_true s3] at hs
 cases hs
theorem KidsOk.shape (h:KidsOk xs d t p c p.ks.length):shapeB xs (d+1) t p=true:=by
 have hn:=h.node
 have hl:=h.len
 unfold nodeB at hn
 rw [Bool.and_eq_true] at hn
 unfold shapeB
 rw [hn.1,hn.2,Bool.true_and,Bool.true_and,List.all_eq_true]
 intro x hx
 obtain ⟨i,hi,rfl⟩:=List.mem_iff_getElem.1 hx
 rw [List.length_zip] at hi
 rw [List.getElem_zip]
 exact (h.all i (by omega) (by omega) (by omega)).1
theorem KidsOk.lins (h:KidsOk xs d t p c p.ks.length):(((typesP xs t p).zip p.ks).all fun x=>linB xs d x.1 x.2)=true:=by
 rw [List.all_eq_true]
 intro x hx
 have hl:=h.len
 obtain ⟨i,hi,rfl⟩:=List.mem_iff_getElem.1 hx
 rw [List.length_zip] at hi
 rw [List.getElem_zip]
 exact (h.all i (by omega) (by omega) (by omega)).2
theorem KidsOk.done (h:KidsOk xs d t p c p.ks.length):scanPB xs (d+1) t p c=(if p.op=5 then (match p.ks with | [k0,k1]=>alikeB (varsN xs d t k0) (varsN xs d t k1) | _=>true) else dupFree (varsN xs (d+1) t p)):=by
 have hf:c+nodesP p≤60:=by rw [zAP p (zz8 _)];have:=h.fit;omega
 unfold scanPB
 rw [h.shape,decide_eq_true hf,Bool.true_and,Bool.true_and]
 show ((((typesP xs t p).zip p.ks).all fun x=>linB xs d x.1 x.2) && _)=_
 rw [h.lins,Bool.true_and]
 all_goals rfl
end
theorem ArrP.at {w0 w:World} {b off n cap:Nat} {F:List Nat} {xs:List P} (h:Arr w0 (PR w0) xs (.slice (some ⟨b,off,none⟩) n cap) F) (hF:Under w0.heap.size F) (hB:Below w0.heap.size w0 w) (i:Nat) (hi:i<xs.length) :
  ∃ A1 cap1 G,b<w.heap.size∧w.cell? ⟨b,off+i*6,none⟩=some (.int .i64 xs[i].op)∧w.cell? ⟨b,off+i*6+1,none⟩=some (.int .i64 xs[i].ct)∧w.cell? ⟨b,off+i*6+2,none⟩=some (.int .i64 xs[i].n)∧w.cell? ⟨b,off+i*6+3,none⟩=some (.int .i64 xs[i].m)∧w.cell? ⟨b,off+i*6+4,none⟩=some (.int .i64 xs[i].va)∧w.cell? ⟨b,off+i*6+5,none⟩=some (.slice A1 xs[i].ks.length cap1) ∧
   Hid (PR w0 xs[i] [.int .i64 xs[i].op,.int .i64 xs[i].ct,.int .i64 xs[i].n,.int .i64 xs[i].m,.int .i64 xs[i].va,.slice A1 xs[i].ks.length cap1] G)∧Hid (Under w0.heap.size G)∧(∀ b∈G,b∈F)∧xs[i].ks.length≤cap1∧cap1≤9223372036854775807:=by
 obtain ⟨b',off',cs,G,e,hb,hcs,hv,hG⟩:=h.get PR_len hi
 cases e
 have hbl:=hF _ hb
 have hc:=hcs.same (hB.block _ hbl)
 obtain ⟨kv,rfl,ha⟩:=(zA9 _ _ _).1 hv
 obtain ⟨A1,cap1,rfl,h1,h2⟩:=ha.form
 exact ⟨A1,cap1,G,zz9 hbl hB.size,hc 0 _ rfl,hc 1 _ rfl,hc 2 _ rfl,hc 3 _ rfl,hc 4 _ rfl,hc 5 _ rfl,hv,hF.sub hG,hG,h1,h2⟩
theorem zA6 (p:P):nodesP p=1+P.sizes p.ks:=by obtain ⟨op,ct,n,m,va,ks⟩:=p;unfold nodesP;rw [P.size];simp only;omega
theorem zBL {l:List P} {i:Nat} (h:i<l.length):P.sizes (l.take (i+1))=P.sizes (l.take i)+nodesP l[i]:=by
 rw [P.sizes_eq,P.sizes_eq,P.subs_take_succ l i h,List.length_take,List.length_take]
 unfold nodesP
 omega
theorem zAJ (l:List P) (i:Nat):P.sizes (l.take i)≤P.sizes l:=by
 rw [P.sizes_eq,P.sizes_eq,List.length_take]
 have:=P.subs_take_le l i
 omega
theorem zBM {l:List P} {i:Nat} (h:i<l.length):nodesP l[i]≤P.sizes l:=by
 have h1:=zBL h
 have h2:=zAJ l (i+1)
 omega
theorem P.indv {q:P→Prop} (h:∀ v:P,(∀ k∈v.ks,q k)→q v):∀ v,q v:=P.ind fun op ct n m va ks ih=>h ⟨op,ct,n,m,va,ks⟩ ih
def DrewPN (b p n g:Nat) (top:Int) (G:List Nat) (w:World) (e:Ending) (w':World):Prop:=∃ (a:P) (cs:List Value) (F:List Nat) (q:Nat) (m:Int),e=.returned (.tuple #[.agg cs.toArray,.int .i64 m])∧PR w' a cs F∧(∀ b∈F,b<w'.heap.size∧(b∈G∨w.heap.size≤b))∧nodesP a≤b∧Rd w' g q∧q≤p+n∧Chg [g] w w'∧0≤m∧m≤top
theorem psizes_snoc2 (vs:List P) (v k:P) (s:Nat) (h:P.sizes vs≤2*s) (hv:nodesP v≤2*nodesP k):P.sizes (vs ++ [v])≤2*(s+nodesP k):=by
 rw [P.sizes_eq] at h ⊢
 rw [P.subs_snoc,List.length_append]
 unfold nodesP at hv ⊢
 simp only [List.length_cons,List.length_nil]
 omega
def NameP (a:P):Prop:=∀ (w:World) (p g:Nat) (n:Int) (cs:List Value) (G:List Nat),Rd w g p→p+2*nodesP a≤900000→0≤n→n+2*(nodesP a:Int)≤1000000→PR w a cs G→Under w.heap.size G→(∀ b∈G,b≠g) →
 Calls Tryz.prog 114 #[.pointer (some ⟨g,0,none⟩),.agg cs.toArray,.int .i64 n] w (DrewPN (2*nodesP a) p (2*nodesP a) g (n+2*(nodesP a:Int)) G w)
set_option maxHeartbeats 8000000 in
theorem l3Name_top (a:P) (ih:∀ k∈a.ks,NameP k) (w:World) (p g:Nat) (n:Int) (cs:List Value) (G:List Nat) (hr:Rd w g p) (hp:p+2*nodesP a≤900000) (hn0:0≤n) (hn1:n+2*(nodesP a:Int)≤1000000) (hv:PR w a cs G) (hG:Under w.heap.size G) (hGg:∀ b∈G,b≠g) (h5:decide (n>5)=true) :
  Calls Tryz.prog 114 #[.pointer (some ⟨g,0,none⟩),.agg cs.toArray,.int .i64 n] w (DrewPN (2*nodesP a) p (2*nodesP a) g (n+2*(nodesP a:Int)) G w):=by
 obtain ⟨kv,rfl,ha⟩:=(zA9 _ _ _).1 hv
 obtain ⟨A4,cap4,rfl,hc3,hc4⟩:=ha.form
 have IH:=jj ih
 have hgl:=hr.lt
 have hnp:1≤nodesP a:=by unfold nodesP;omega
 have hka:=zAP a (zz8 a.ks.length)
 have hkl:a.ks.length≤1000000:=by
  have h1:=P.sizes_eq a.ks
  have h2:=zA6 a
  omega
 have hB0:Below w.heap.size w ((w.alloc (.cells #[.int .i64 a.op,.int .i64 a.ct,.int .i64 a.n,.int .i64 a.m,.int .i64 a.va,.slice A4 a.ks.length cap4] 43)).alloc (.cells #[.int .i64 0,.int .i64 0,.int .i64 0,.int .i64 0,.int .i64 0,.slice none 0 0] 43)):=((zy2 _ _).alloc (zz8 _) _).alloc (by simp) _
 have KP:Hid (Blk ((w.alloc (.cells #[.int .i64 a.op,.int .i64 a.ct,.int .i64 a.n,.int .i64 a.m,.int .i64 a.va,.slice A4 a.ks.length cap4] 43)).alloc (.cells #[.int .i64 0,.int .i64 0,.int .i64 0,.int .i64 0,.int .i64 0,.slice none 0 0] 43)) w.heap.size 43 #[.int .i64 a.op,.int .i64 a.ct,.int .i64 a.n,.int .i64 a.m,.int .i64 a.va,.slice A4 a.ks.length cap4]):=(Blk.new w _ _).same (Below.heap_alloc _ _ _ (by simp))
 have KR:Hid (Blk ((w.alloc (.cells #[.int .i64 a.op,.int .i64 a.ct,.int .i64 a.n,.int .i64 a.m,.int .i64 a.va,.slice A4 a.ks.length cap4] 43)).alloc (.cells #[.int .i64 0,.int .i64 0,.int .i64 0,.int .i64 0,.int .i64 0,.slice none 0 0] 43)) (w.heap.size+1) 43 #[.int .i64 0,.int .i64 0,.int .i64 0,.int .i64 0,.int .i64 0,.slice none 0 0]):=zA7 w _ 43 _
 have HR:=jj (hr.below hB0)
 have hz2:((w.alloc (.cells #[.int .i64 a.op,.int .i64 a.ct,.int .i64 a.n,.int .i64 a.m,.int .i64 a.va,.slice A4 a.ks.length cap4] 43)).alloc (.cells #[.int .i64 0,.int .i64 0,.int .i64 0,.int .i64 0,.int .i64 0,.slice none 0 0] 43)).heap.size=w.heap.size+2:=by simp
 have HC0:Hid (Chg [g] w ((w.alloc (.cells #[.int .i64 a.op,.int .i64 a.ct,.int .i64 a.n,.int .i64 a.m,.int .i64 a.va,.slice A4 a.ks.length cap4] 43)).alloc (.cells #[.int .i64 0,.int .i64 0,.int .i64 0,.int .i64 0,.int .i64 0,.slice none 0 0] 43))):=.of_below hB0
 have HV0:=jj (hv.below hB0 hG)
 have HUN:Hid (∀ b∈G,b<((w.alloc (.cells #[.int .i64 a.op,.int .i64 a.ct,.int .i64 a.n,.int .i64 a.m,.int .i64 a.va,.slice A4 a.ks.length cap4] 43)).alloc (.cells #[.int .i64 0,.int .i64 0,.int .i64 0,.int .i64 0,.int .i64 0,.slice none 0 0] 43)).heap.size∧(b∈G∨w.heap.size≤b)∧b≠w.heap.size+1):=fun b hb=>⟨by have:=hG b hb;omega,.inl hb,by have:=hG b hb;omega⟩
 have HA:=jj ha
 have HV:=jj hv
 have HRw:=jj hr
 have HG:=jj hG
 have HGg:=jj hGg
 have HG1:Hid (∀ b,g<b→b∉[g]):=fun b hb h=>by rw [zy1] at h;omega
 clear ih hr hv ha hG hGg hB0
 obtain ⟨z0,z1,z2,z3,z4,z5,zlt⟩:=KP.out.c6
 have rc0:=(KR.out.cell 0).trans (show _=some (.int .i64 0) from by simp)
 have rf0:=KR.out.frozen 0
 have rc1:=(KR.out.cell 1).trans (show _=some (.int .i64 0) from by simp)
 have rf1:=KR.out.frozen 1
 have rc2:=(KR.out.cell 2).trans (show _=some (.int .i64 0) from by simp)
 have rf2:=KR.out.frozen 2
 have rc3:=(KR.out.cell 3).trans (show _=some (.int .i64 0) from by simp)
 have rf3:=KR.out.frozen 3
 have rc4:=(KR.out.cell 4).trans (show _=some (.int .i64 0) from by simp)
 have rf4:=KR.out.frozen 4
 have rc5:=(KR.out.cell 5).trans (show _=some (.slice none 0 0) from by simp)
 have rf5:=KR.out.frozen 5
 have rlt:=KR.out.lt
 go_enter Tryz.func114,Tryz.ntmps114
 go_wp2
 clear rc0 rf0 rc1 rf1 rc2 rf2 rc3 rf3 rc4 rf4 rc5 rf5 rlt KR HR HC0 HV0 HUN hz2 KP z0 z1 z2 z3 z4 z5 zlt
 have hBe:Below w.heap.size w ((w.alloc (.cells #[.int .i64 a.op,.int .i64 a.ct,.int .i64 a.n,.int .i64 a.m,.int .i64 a.va,.slice A4 a.ks.length cap4] 43)).alloc (.cells #[.int .i64 a.op,.int .i64 a.ct,.int .i64 a.n,.int .i64 a.m,.int .i64 a.va,.slice A4 a.ks.length cap4] 43)):=((zy2 _ _).alloc (zz8 _) _).alloc (by simp) _
 have KR:Hid (Blk ((w.alloc (.cells #[.int .i64 a.op,.int .i64 a.ct,.int .i64 a.n,.int .i64 a.m,.int .i64 a.va,.slice A4 a.ks.length cap4] 43)).alloc (.cells #[.int .i64 a.op,.int .i64 a.ct,.int .i64 a.n,.int .i64 a.m,.int .i64 a.va,.slice A4 a.ks.length cap4] 43)) (w.heap.size+1) 43 #[.int .i64 a.op,.int .i64 a.ct,.int .i64 a.n,.int .i64 a.m,.int .i64 a.va,.slice A4 a.ks.length cap4]):=zA7 w _ 43 _
 have HV0:=jj (HV.out.below hBe HG.out)
 have HR:=jj (HRw.out.below hBe)
 have hz2:((w.alloc (.cells #[.int .i64 a.op,.int .i64 a.ct,.int .i64 a.n,.int .i64 a.m,.int .i64 a.va,.slice A4 a.ks.length cap4] 43)).alloc (.cells #[.int .i64 a.op,.int .i64 a.ct,.int .i64 a.n,.int .i64 a.m,.int .i64 a.va,.slice A4 a.ks.length cap4] 43)).heap.size=w.heap.size+2:=by simp
 generalize ((w.alloc (.cells #[.int .i64 a.op,.int .i64 a.ct,.int .i64 a.n,.int .i64 a.m,.int .i64 a.va,.slice A4 a.ks.length cap4] 43)).alloc (.cells #[.int .i64 a.op,.int .i64 a.ct,.int .i64 a.n,.int .i64 a.m,.int .i64 a.va,.slice A4 a.ks.length cap4] 43))=w3 at *
 refine bodyPost_ret (zAG rfl _ _ (w.heap.size+1) 43 #[.int .i64 a.op,.int .i64 a.ct,.int .i64 a.n,.int .i64 a.m,.int .i64 a.va,.slice A4 a.ks.length cap4] (0,0) _ rfl KR.out Tryz.underlying43 rfl rfl) rfl ?_
 exact ⟨a,[.int .i64 a.op,.int .i64 a.ct,.int .i64 a.n,.int .i64 a.m,.int .i64 a.va,.slice A4 a.ks.length cap4],G,p,n,rfl,HV0.out,fun b hb=>⟨by have:=HG.out b hb;omega,.inl hb⟩,by omega,HR.out,by omega,.of_below hBe,hn0,by omega⟩
set_option maxHeartbeats 8000000 in
theorem l3Name_or (a:P) (ih:∀ k∈a.ks,NameP k) (w:World) (p g:Nat) (n:Int) (cs:List Value) (G:List Nat) (hr:Rd w g p) (hp:p+2*nodesP a≤900000) (hn0:0≤n) (hn1:n+2*(nodesP a:Int)≤1000000) (hv:PR w a cs G) (hG:Under w.heap.size G) (hGg:∀ b∈G,b≠g) (h5:decide (n>5)=false) (q5:(a.op==5)=true) :
  Calls Tryz.prog 114 #[.pointer (some ⟨g,0,none⟩),.agg cs.toArray,.int .i64 n] w (DrewPN (2*nodesP a) p (2*nodesP a) g (n+2*(nodesP a:Int)) G w):=by
 obtain ⟨kv,rfl,ha⟩:=(zA9 _ _ _).1 hv
 obtain ⟨A4,cap4,rfl,hc3,hc4⟩:=ha.form
 have IH:=jj ih
 have hgl:=hr.lt
 have hnp:1≤nodesP a:=by unfold nodesP;omega
 have hka:=zAP a (zz8 a.ks.length)
 have hkl:a.ks.length≤1000000:=by
  have h1:=P.sizes_eq a.ks
  have h2:=zA6 a
  omega
 have hB0:Below w.heap.size w ((w.alloc (.cells #[.int .i64 a.op,.int .i64 a.ct,.int .i64 a.n,.int .i64 a.m,.int .i64 a.va,.slice A4 a.ks.length cap4] 43)).alloc (.cells #[.int .i64 0,.int .i64 0,.int .i64 0,.int .i64 0,.int .i64 0,.slice none 0 0] 43)):=((zy2 _ _).alloc (zz8 _) _).alloc (by simp) _
 have KP:Hid (Blk ((w.alloc (.cells #[.int .i64 a.op,.int .i64 a.ct,.int .i64 a.n,.int .i64 a.m,.int .i64 a.va,.slice A4 a.ks.length cap4] 43)).alloc (.cells #[.int .i64 0,.int .i64 0,.int .i64 0,.int .i64 0,.int .i64 0,.slice none 0 0] 43)) w.heap.size 43 #[.int .i64 a.op,.int .i64 a.ct,.int .i64 a.n,.int .i64 a.m,.int .i64 a.va,.slice A4 a.ks.length cap4]):=(Blk.new w _ _).same (Below.heap_alloc _ _ _ (by simp))
 have KR:Hid (Blk ((w.alloc (.cells #[.int .i64 a.op,.int .i64 a.ct,.int .i64 a.n,.int .i64 a.m,.int .i64 a.va,.slice A4 a.ks.length cap4] 43)).alloc (.cells #[.int .i64 0,.int .i64 0,.int .i64 0,.int .i64 0,.int .i64 0,.slice none 0 0] 43)) (w.heap.size+1) 43 #[.int .i64 0,.int .i64 0,.int .i64 0,.int .i64 0,.int .i64 0,.slice none 0 0]):=zA7 w _ 43 _
 have HR:=jj (hr.below hB0)
 have hz2:((w.alloc (.cells #[.int .i64 a.op,.int .i64 a.ct,.int .i64 a.n,.int .i64 a.m,.int .i64 a.va,.slice A4 a.ks.length cap4] 43)).alloc (.cells #[.int .i64 0,.int .i64 0,.int .i64 0,.int .i64 0,.int .i64 0,.slice none 0 0] 43)).heap.size=w.heap.size+2:=by simp
 have HC0:Hid (Chg [g] w ((w.alloc (.cells #[.int .i64 a.op,.int .i64 a.ct,.int .i64 a.n,.int .i64 a.m,.int .i64 a.va,.slice A4 a.ks.length cap4] 43)).alloc (.cells #[.int .i64 0,.int .i64 0,.int .i64 0,.int .i64 0,.int .i64 0,.slice none 0 0] 43))):=.of_below hB0
 have HV0:=jj (hv.below hB0 hG)
 have HUN:Hid (∀ b∈G,b<((w.alloc (.cells #[.int .i64 a.op,.int .i64 a.ct,.int .i64 a.n,.int .i64 a.m,.int .i64 a.va,.slice A4 a.ks.length cap4] 43)).alloc (.cells #[.int .i64 0,.int .i64 0,.int .i64 0,.int .i64 0,.int .i64 0,.slice none 0 0] 43)).heap.size∧(b∈G∨w.heap.size≤b)∧b≠w.heap.size+1):=fun b hb=>⟨by have:=hG b hb;omega,.inl hb,by have:=hG b hb;omega⟩
 have HA:=jj ha
 have HV:=jj hv
 have HRw:=jj hr
 have HG:=jj hG
 have HGg:=jj hGg
 have HG1:Hid (∀ b,g<b→b∉[g]):=fun b hb h=>by rw [zy1] at h;omega
 clear ih hr hv ha hG hGg hB0
 obtain ⟨z0,z1,z2,z3,z4,z5,zlt⟩:=KP.out.c6
 have rc0:=(KR.out.cell 0).trans (show _=some (.int .i64 0) from by simp)
 have rf0:=KR.out.frozen 0
 have rc1:=(KR.out.cell 1).trans (show _=some (.int .i64 0) from by simp)
 have rf1:=KR.out.frozen 1
 have rc2:=(KR.out.cell 2).trans (show _=some (.int .i64 0) from by simp)
 have rf2:=KR.out.frozen 2
 have rc3:=(KR.out.cell 3).trans (show _=some (.int .i64 0) from by simp)
 have rf3:=KR.out.frozen 3
 have rc4:=(KR.out.cell 4).trans (show _=some (.int .i64 0) from by simp)
 have rf4:=KR.out.frozen 4
 have rc5:=(KR.out.cell 5).trans (show _=some (.slice none 0 0) from by simp)
 have rf5:=KR.out.frozen 5
 have rlt:=KR.out.lt
 go_enter Tryz.func114,Tryz.ntmps114
 go_wp2
 clear rc0 rf0 rc1 rf1 rc2 rf2 rc3 rf3 rc4 rf4 rc5 rf5 rlt KR HR HC0 HV0 HUN hz2 KP z0 z1 z2 z3 z4 z5 zlt
 have hBe:Below w.heap.size w ((w.alloc (.cells #[.int .i64 a.op,.int .i64 a.ct,.int .i64 a.n,.int .i64 a.m,.int .i64 a.va,.slice A4 a.ks.length cap4] 43)).alloc (.cells #[.int .i64 a.op,.int .i64 a.ct,.int .i64 a.n,.int .i64 a.m,.int .i64 a.va,.slice A4 a.ks.length cap4] 43)):=((zy2 _ _).alloc (zz8 _) _).alloc (by simp) _
 have KR:Hid (Blk ((w.alloc (.cells #[.int .i64 a.op,.int .i64 a.ct,.int .i64 a.n,.int .i64 a.m,.int .i64 a.va,.slice A4 a.ks.length cap4] 43)).alloc (.cells #[.int .i64 a.op,.int .i64 a.ct,.int .i64 a.n,.int .i64 a.m,.int .i64 a.va,.slice A4 a.ks.length cap4] 43)) (w.heap.size+1) 43 #[.int .i64 a.op,.int .i64 a.ct,.int .i64 a.n,.int .i64 a.m,.int .i64 a.va,.slice A4 a.ks.length cap4]):=zA7 w _ 43 _
 have HV0:=jj (HV.out.below hBe HG.out)
 have HR:=jj (HRw.out.below hBe)
 have hz2:((w.alloc (.cells #[.int .i64 a.op,.int .i64 a.ct,.int .i64 a.n,.int .i64 a.m,.int .i64 a.va,.slice A4 a.ks.length cap4] 43)).alloc (.cells #[.int .i64 a.op,.int .i64 a.ct,.int .i64 a.n,.int .i64 a.m,.int .i64 a.va,.slice A4 a.ks.length cap4] 43)).heap.size=w.heap.size+2:=by simp
 generalize ((w.alloc (.cells #[.int .i64 a.op,.int .i64 a.ct,.int .i64 a.n,.int .i64 a.m,.int .i64 a.va,.slice A4 a.ks.length cap4] 43)).alloc (.cells #[.int .i64 a.op,.int .i64 a.ct,.int .i64 a.n,.int .i64 a.m,.int .i64 a.va,.slice A4 a.ks.length cap4] 43))=w3 at *
 refine bodyPost_ret (zAG rfl _ _ (w.heap.size+1) 43 #[.int .i64 a.op,.int .i64 a.ct,.int .i64 a.n,.int .i64 a.m,.int .i64 a.va,.slice A4 a.ks.length cap4] (0,0) _ rfl KR.out Tryz.underlying43 rfl rfl) rfl ?_
 exact ⟨a,[.int .i64 a.op,.int .i64 a.ct,.int .i64 a.n,.int .i64 a.m,.int .i64 a.va,.slice A4 a.ks.length cap4],G,p,n,rfl,HV0.out,fun b hb=>⟨by have:=HG.out b hb;omega,.inl hb⟩,by omega,HR.out,by omega,.of_below hBe,hn0,by omega⟩
set_option maxHeartbeats 8000000 in
theorem l3Name_int (a:P) (ih:∀ k∈a.ks,NameP k) (w:World) (p g:Nat) (n:Int) (cs:List Value) (G:List Nat) (hr:Rd w g p) (hp:p+2*nodesP a≤900000) (hn0:0≤n) (hn1:n+2*(nodesP a:Int)≤1000000) (hv:PR w a cs G) (hG:Under w.heap.size G) (hGg:∀ b∈G,b≠g) (h5:decide (n>5)=false) (q5:(a.op==5)=false) (q3:(a.op==3)=true) :
  Calls Tryz.prog 114 #[.pointer (some ⟨g,0,none⟩),.agg cs.toArray,.int .i64 n] w (DrewPN (2*nodesP a) p (2*nodesP a) g (n+2*(nodesP a:Int)) G w):=by
 obtain ⟨kv,rfl,ha⟩:=(zA9 _ _ _).1 hv
 obtain ⟨A4,cap4,rfl,hc3,hc4⟩:=ha.form
 have IH:=jj ih
 have hgl:=hr.lt
 have hnp:1≤nodesP a:=by unfold nodesP;omega
 have hka:=zAP a (zz8 a.ks.length)
 have hkl:a.ks.length≤1000000:=by
  have h1:=P.sizes_eq a.ks
  have h2:=zA6 a
  omega
 have hB0:Below w.heap.size w ((w.alloc (.cells #[.int .i64 a.op,.int .i64 a.ct,.int .i64 a.n,.int .i64 a.m,.int .i64 a.va,.slice A4 a.ks.length cap4] 43)).alloc (.cells #[.int .i64 0,.int .i64 0,.int .i64 0,.int .i64 0,.int .i64 0,.slice none 0 0] 43)):=((zy2 _ _).alloc (zz8 _) _).alloc (by simp) _
 have KP:Hid (Blk ((w.alloc (.cells #[.int .i64 a.op,.int .i64 a.ct,.int .i64 a.n,.int .i64 a.m,.int .i64 a.va,.slice A4 a.ks.length cap4] 43)).alloc (.cells #[.int .i64 0,.int .i64 0,.int .i64 0,.int .i64 0,.int .i64 0,.slice none 0 0] 43)) w.heap.size 43 #[.int .i64 a.op,.int .i64 a.ct,.int .i64 a.n,.int .i64 a.m,.int .i64 a.va,.slice A4 a.ks.length cap4]):=(Blk.new w _ _).same (Below.heap_alloc _ _ _ (by simp))
 have KR:Hid (Blk ((w.alloc (.cells #[.int .i64 a.op,.int .i64 a.ct,.int .i64 a.n,.int .i64 a.m,.int .i64 a.va,.slice A4 a.ks.length cap4] 43)).alloc (.cells #[.int .i64 0,.int .i64 0,.int .i64 0,.int .i64 0,.int .i64 0,.slice none 0 0] 43)) (w.heap.size+1) 43 #[.int .i64 0,.int .i64 0,.int .i64 0,.int .i64 0,.int .i64 0,.slice none 0 0]):=zA7 w _ 43 _
 have HR:=jj (hr.below hB0)
 have hz2:((w.alloc (.cells #[.int .i64 a.op,.int .i64 a.ct,.int .i64 a.n,.int .i64 a.m,.int .i64 a.va,.slice A4 a.ks.length cap4] 43)).alloc (.cells #[.int .i64 0,.int .i64 0,.int .i64 0,.int .i64 0,.int .i64 0,.slice none 0 0] 43)).heap.size=w.heap.size+2:=by simp
 have HC0:Hid (Chg [g] w ((w.alloc (.cells #[.int .i64 a.op,.int .i64 a.ct,.int .i64 a.n,.int .i64 a.m,.int .i64 a.va,.slice A4 a.ks.length cap4] 43)).alloc (.cells #[.int .i64 0,.int .i64 0,.int .i64 0,.int .i64 0,.int .i64 0,.slice none 0 0] 43))):=.of_below hB0
 have HV0:=jj (hv.below hB0 hG)
 have HUN:Hid (∀ b∈G,b<((w.alloc (.cells #[.int .i64 a.op,.int .i64 a.ct,.int .i64 a.n,.int .i64 a.m,.int .i64 a.va,.slice A4 a.ks.length cap4] 43)).alloc (.cells #[.int .i64 0,.int .i64 0,.int .i64 0,.int .i64 0,.int .i64 0,.slice none 0 0] 43)).heap.size∧(b∈G∨w.heap.size≤b)∧b≠w.heap.size+1):=fun b hb=>⟨by have:=hG b hb;omega,.inl hb,by have:=hG b hb;omega⟩
 have HA:=jj ha
 have HV:=jj hv
 have HRw:=jj hr
 have HG:=jj hG
 have HGg:=jj hGg
 have HG1:Hid (∀ b,g<b→b∉[g]):=fun b hb h=>by rw [zy1] at h;omega
 clear ih hr hv ha hG hGg hB0
 obtain ⟨z0,z1,z2,z3,z4,z5,zlt⟩:=KP.out.c6
 have rc0:=(KR.out.cell 0).trans (show _=some (.int .i64 0) from by simp)
 have rf0:=KR.out.frozen 0
 have rc1:=(KR.out.cell 1).trans (show _=some (.int .i64 0) from by simp)
 have rf1:=KR.out.frozen 1
 have rc2:=(KR.out.cell 2).trans (show _=some (.int .i64 0) from by simp)
 have rf2:=KR.out.frozen 2
 have rc3:=(KR.out.cell 3).trans (show _=some (.int .i64 0) from by simp)
 have rf3:=KR.out.frozen 3
 have rc4:=(KR.out.cell 4).trans (show _=some (.int .i64 0) from by simp)
 have rf4:=KR.out.frozen 4
 have rc5:=(KR.out.cell 5).trans (show _=some (.slice none 0 0) from by simp)
 have rf5:=KR.out.frozen 5
 have rlt:=KR.out.lt
 go_enter Tryz.func114,Tryz.ntmps114
 go_wp2
 clear rc0 rf0 rc1 rf1 rc2 rf2 rc3 rf3 rc4 rf4 rc5 rf5 rlt KR HR HC0 HV0 HUN hz2 KP z0 z1 z2 z3 z4 z5 zlt
 have hBe:Below w.heap.size w ((w.alloc (.cells #[.int .i64 a.op,.int .i64 a.ct,.int .i64 a.n,.int .i64 a.m,.int .i64 a.va,.slice A4 a.ks.length cap4] 43)).alloc (.cells #[.int .i64 a.op,.int .i64 a.ct,.int .i64 a.n,.int .i64 a.m,.int .i64 a.va,.slice A4 a.ks.length cap4] 43)):=((zy2 _ _).alloc (zz8 _) _).alloc (by simp) _
 have KR:Hid (Blk ((w.alloc (.cells #[.int .i64 a.op,.int .i64 a.ct,.int .i64 a.n,.int .i64 a.m,.int .i64 a.va,.slice A4 a.ks.length cap4] 43)).alloc (.cells #[.int .i64 a.op,.int .i64 a.ct,.int .i64 a.n,.int .i64 a.m,.int .i64 a.va,.slice A4 a.ks.length cap4] 43)) (w.heap.size+1) 43 #[.int .i64 a.op,.int .i64 a.ct,.int .i64 a.n,.int .i64 a.m,.int .i64 a.va,.slice A4 a.ks.length cap4]):=zA7 w _ 43 _
 have HV0:=jj (HV.out.below hBe HG.out)
 have HR:=jj (HRw.out.below hBe)
 have hz2:((w.alloc (.cells #[.int .i64 a.op,.int .i64 a.ct,.int .i64 a.n,.int .i64 a.m,.int .i64 a.va,.slice A4 a.ks.length cap4] 43)).alloc (.cells #[.int .i64 a.op,.int .i64 a.ct,.int .i64 a.n,.int .i64 a.m,.int .i64 a.va,.slice A4 a.ks.length cap4] 43)).heap.size=w.heap.size+2:=by simp
 generalize ((w.alloc (.cells #[.int .i64 a.op,.int .i64 a.ct,.int .i64 a.n,.int .i64 a.m,.int .i64 a.va,.slice A4 a.ks.length cap4] 43)).alloc (.cells #[.int .i64 a.op,.int .i64 a.ct,.int .i64 a.n,.int .i64 a.m,.int .i64 a.va,.slice A4 a.ks.length cap4] 43))=w3 at *
 refine bodyPost_ret (zAG rfl _ _ (w.heap.size+1) 43 #[.int .i64 a.op,.int .i64 a.ct,.int .i64 a.n,.int .i64 a.m,.int .i64 a.va,.slice A4 a.ks.length cap4] (0,0) _ rfl KR.out Tryz.underlying43 rfl rfl) rfl ?_
 exact ⟨a,[.int .i64 a.op,.int .i64 a.ct,.int .i64 a.n,.int .i64 a.m,.int .i64 a.va,.slice A4 a.ks.length cap4],G,p,n,rfl,HV0.out,fun b hb=>⟨by have:=HG.out b hb;omega,.inl hb⟩,by omega,HR.out,by omega,.of_below hBe,hn0,by omega⟩
def LitN (w:World) (b:Nat) (ls:List Int):Prop:=b<w.heap.size∧Arr w (NatR w) ls (.slice (some ⟨b,0,none⟩) ls.length ls.length) [b]
theorem LitN.new (w:World) (ls:List Int) (hl:ls.length≤1000):LitN (w.alloc (.cells (ls.map (Value.int .i64)).toArray 3)) w.heap.size ls:=⟨by simp,lit_nums w ls hl⟩
theorem LitN.chg {w w':World} {b:Nat} {ls:List Int} {F:List Nat} (h:LitN w b ls) (hc:Chg F w w') (hb:b∉F):LitN w' b ls :=
 ⟨zz9 h.1 hc.size,h.2.mono (hc.kept (fun x hx=>by rw [List.mem_singleton.1 hx];exact h.1) (fun x hx=>by rw [List.mem_singleton.1 hx];exact hb)) fun _ _ _ _ _ h=>h⟩
theorem Chg.alloc {F:List Nat} {w w':World} (h:Chg F w w') (o:Obj):Chg F w (w'.alloc o):=h.step ((zy2 _ _).alloc (zz8 _) _)
end Go.Proofs.YtghekinfoadcoaaGreat
