/-
  Lemmas, and contracts of functions. Conditions: none.
-/
import Derived.Test.YtjjclcmmfeegfaaGreatDoorJAC
import Derived.Test.YtjjclcmmfeegfaaGreatDoorJAH
import Derived.Test.YtjjclcmmfeegfaaGreatDoorJAD
import Derived.Lib.Join
import Derived.Test.YtjjclcmmfeegfaaGreatDoorJAB
import Derived.Test.YtjjclcmmfeegfaaGreatDoorJAA
import Derived.Deep.RegionWith
import Derived.Deep.RegionHeld3
import Derived.Deep.QuietTactic
import Derived.BigQuiet
import Derived.IntWalk
import Derived.Test.YtjjclcmmfeegfaaGreatDoorJAF
import Derived.Test.YtjjclcmmfeegfaaGreatDoorChecked
import Derived.Maps.AppendAt

set_option linter.unusedVariables false
set_option linter.unusedSimpArgs false
set_option maxRecDepth 100000
set_option maxHeartbeats 1600000

namespace Go.Proofs.YtjjclcmmfeegfaaGreatDoor
open Go.RowKit
def MadeP2 (p:P) (b:Bool) (w:World) (e:Ending) (w':World):Prop:=∃ cs F,e=.returned (.tuple #[.agg cs.toArray,.bool b])∧Below w w w'∧PR w' p cs F∧Free w' F∧Fresh w w' F
def zeroP:P:=⟨0,0,0,0,0,[]⟩
def patternOfR (xs:List Dt) (t:Ty) (v:V):P:=if valueValidB xs t v=true then patOf v else zeroP
theorem patOf_size:∀ v:V,(patOf v).size≤v.size:=V.indv fun v ih=>by
 by_cases h:v.c = -1
 ·rw [patOf_num h];simp [P.size,P.sizes]
 ·rw [patOf_ctor h]
  obtain ⟨c,n,ks⟩:=v
  simp only [P.size,V.size]
  have key:∀ l:List V,(∀ k∈l,(patOf k).size≤k.size)→P.sizes (l.map patOf)≤V.sizes l:=by
   intro l
   induction l with
   |nil=>intro _;simp [P.sizes,V.sizes]
   |cons a l ihl =>
    intro hl
    have h1:=hl a (by simp)
    have h2:=ihl fun k hk=>hl k (by simp [hk])
    simp only [List.map_cons,P.sizes,V.sizes]
    omega
  exact key ks ih
theorem patternOfR_size (xs:List Dt) (t:Ty) (v:V):(patternOfR xs t v).size≤v.size:=by
 unfold patternOfR
 split
 ·exact patOf_size v
 ·simp [zeroP,P.size,P.sizes]
theorem spec_PatternOf (xs:List Dt) (t:Ty) (v:V) (w:World) (x:Value) (F:List Nat) (cs:List Value) (G:List Nat) (hx:Arr w (DtR w) xs x F) (hf:Under w F) (hv:VR w v cs G) (hg:Under w G) (hz:v.size≤1048576) :
  Calls Tryz.prog 25 #[x,.agg #[t.d,t.i],.agg cs.toArray] w (MadeP2 (patternOfR xs t v) (valueValidB xs t v) w):=by
 obtain ⟨kv,rfl,ha⟩:=(zA6 _ _ _).1 hv
 obtain ⟨A,cap,rfl,hc1,hc2⟩:=hx.form
 obtain ⟨A4,cap4,rfl,hc3,hc4⟩:=ha.form
 have HV:=jj hv
 have HX:=jj hx
 have HF:=jj hf
 have HG:=jj hg
 clear hx hf hg
 clear ha hv
 go_enter Tryz.func25,Tryz.ntmps25
 go_wp2_with fail
 obtain ⟨W2,hW2⟩:∃ W2,W2=(((w.alloc (.cells #[t.d,t.i] 25)).alloc (.cells #[v.c,v.n,.slice A4 v.ks.length cap4] 45)).alloc (.cells #[(0:Int),(0:Int),(0:Int),(0:Int),(0:Int),.slice none 0 0] 28)):=⟨_,rfl⟩
 have hB0:Below w w W2:=by rw [hW2];exact (((zy2 _ _).alloc (zz8 _) _).alloc (by simp) _).alloc (by simp;omega) _
 have KT:Hid (Blk W2 w 25 #[t.d,t.i]):=by rw [hW2];exact ((Blk.new w _ _).same (Below.heap_alloc _ _ _ (by simp))).same (Below.heap_alloc _ _ _ (by simp;omega))
 have KV:Hid (Blk W2 (w.heap.size+1) 45 #[v.c,v.n,.slice A4 v.ks.length cap4]):=by rw [hW2];exact (zAG w _ 45 #[v.c,v.n,.slice A4 v.ks.length cap4]).same (Below.heap_alloc _ _ _ (by simp))
 have KR:Hid (Blk W2 (w.heap.size+2) 28 #[(0:Int),(0:Int),(0:Int),(0:Int),(0:Int),.slice none 0 0]):=by
  rw [hW2]
  have h:=Blk.new ((w.alloc (.cells #[t.d,t.i] 25)).alloc (.cells #[v.c,v.n,.slice A4 v.ks.length cap4] 45)) 28 #[(0:Int),(0:Int),(0:Int),(0:Int),(0:Int),.slice none 0 0]
  rw [show ((w.alloc (.cells #[t.d,t.i] 25)).alloc (.cells #[v.c,v.n,.slice A4 v.ks.length cap4] 45)).heap.size=w.heap.size+2 from by simp] at h
  exact h
 rw [←hW2]
 clear hW2
 obtain ⟨y0,y1,-⟩:=KT.out.c2
 obtain ⟨z0,z1,z2,-⟩:=KV.out.c3
 have klt:=KT.out.lt
 have klt2:=KV.out.lt
 go_wp2_with fail
 refine (spec_ValueValid xs t v W2 _ F _ G (ArrDt.below HX.out hB0 HF.out) (HF.out.mono hB0.size) (HV.out.below hB0 HG.out) (HG.out.mono hB0.size) hz).mono ?_
 rintro e w3 ⟨rfl,hb3⟩
 have hB3:=hB0.trans (hb3.mono hB0.size)
 have KV3:=jj (KV.out.same (hb3.block _ KV.out.lt))
 have KT3:=jj (KT.out.same (hb3.block _ KT.out.lt))
 have KR3:=jj (KR.out.same (hb3.block _ KR.out.lt))
 clear y0 y1 z0 z1 z2 klt klt2
 obtain ⟨y0,y1,-⟩:=KT3.out.c2
 obtain ⟨z0,z1,z2,-⟩:=KV3.out.c3
 have klt:=KT3.out.lt
 have klt2:=KV3.out.lt
 clear hb3 KT KV KR
 cases e1:valueValidB xs t v with
 |false =>
  have hf:Hid (patternOfR xs t v=zeroP):=by unfold Hid patternOfR;rw [e1];rfl
  have HE:=jj e1
  clear e1
  have rc0:=(KR3.out.cell 0).trans (show _=some (.int .i64 0) from by simp)
  have rf0:=KR3.out.frozen 0
  have rc1:=(KR3.out.cell 1).trans (show _=some (.int .i64 0) from by simp)
  have rf1:=KR3.out.frozen 1
  have rc2:=(KR3.out.cell 2).trans (show _=some (.int .i64 0) from by simp)
  have rf2:=KR3.out.frozen 2
  have rc3:=(KR3.out.cell 3).trans (show _=some (.int .i64 0) from by simp)
  have rf3:=KR3.out.frozen 3
  have rc4:=(KR3.out.cell 4).trans (show _=some (.int .i64 0) from by simp)
  have rf4:=KR3.out.frozen 4
  have rc5:=(KR3.out.cell 5).trans (show _=some (.slice none 0 0) from by simp)
  have rf5:=KR3.out.frozen 5
  have rlt:=KR3.out.lt
  go_wp2
  clear rc0 rf0 rc1 rf1 rc2 rf2 rc3 rf3 rc4 rf4 rc5 rf5 rlt
  refine bodyPost_ret (zBC rfl _ _ (w.heap.size+2) 28 #[(0:Int),(0:Int),(0:Int),(0:Int),(0:Int),.slice none 0 0] (0,0) _ rfl (KR3.out.six _ _ _ _ _ _) Tryz.underlying28 rfl rfl) rfl ?_
  exact ⟨[(0:Int),(0:Int),(0:Int),(0:Int),(0:Int),.slice none 0 0],[],by rw [HE.out];rfl,below_six hB3 (by omega) _ _ _ _ _ _,by rw [hf.out];exact (zAE _ _ _).2 ⟨_,rfl,Arr.nil⟩,Free.nil _,Fresh.nil _ _⟩
 |true =>
  have hf:Hid (patternOfR xs t v=patOf v):=by unfold Hid patternOfR;rw [e1];rfl
  have HE:=jj e1
  clear e1
  go_wp2_with fail
  refine (spec_l3Of v w3 _ G (HV.out.below hB3 HG.out) (HG.out.mono hB3.size) hz).mono ?_
  rintro e w4 ⟨cs4,F4,rfl,hb4,hp4,hfr4,hfs4⟩
  obtain ⟨kv4,rfl,ha4⟩:=(zAE _ _ _).1 hp4
  obtain ⟨A5,cap5,rfl,-,-⟩:=ha4.form
  have hB4:=hB3.trans (hb4.mono hB3.size)
  have KR4:=jj (KR3.out.same (hb4.block _ KR3.out.lt))
  have HN4:Hid (∀ b∈F4,b≠w.heap.size+2):=fun b hb e=>by have h1:=(hfs4 b hb).1;have h2:=KR3.out.lt;omega
  have HP4:=jj hp4
  have HFR4:=jj hfr4
  have HFS4:Hid (Fresh w w4 F4):=fun b hb=>⟨Nat.le_trans hB3.size (hfs4 b hb).1,(hfs4 b hb).2⟩
  clear hp4 hfr4 hfs4 hb4 ha4 y0 y1 z0 z1 z2 klt klt2
  generalize (patOf v).ks.length=n5 at *
  generalize (patOf v).op=c0 at *
  generalize (patOf v).ct=c1 at *
  generalize (patOf v).n=c2 at *
  generalize (patOf v).m=c3 at *
  generalize (patOf v).va=c4 at *
  have rc0:=(KR4.out.cell 0).trans (show _=some (.int .i64 0) from by simp)
  have rf0:=KR4.out.frozen 0
  have rc1:=(KR4.out.cell 1).trans (show _=some (.int .i64 0) from by simp)
  have rf1:=KR4.out.frozen 1
  have rc2:=(KR4.out.cell 2).trans (show _=some (.int .i64 0) from by simp)
  have rf2:=KR4.out.frozen 2
  have rc3:=(KR4.out.cell 3).trans (show _=some (.int .i64 0) from by simp)
  have rf3:=KR4.out.frozen 3
  have rc4:=(KR4.out.cell 4).trans (show _=some (.int .i64 0) from by simp)
  have rf4:=KR4.out.frozen 4
  have rc5:=(KR4.out.cell 5).trans (show _=some (.slice none 0 0) from by simp)
  have rf5:=KR4.out.frozen 5
  have rlt:=KR4.out.lt
  go_wp2
  clear rc0 rf0 rc1 rf1 rc2 rf2 rc3 rf3 rc4 rf4 rc5 rf5 rlt
  refine bodyPost_ret (zBC rfl _ _ (w.heap.size+2) 28 #[.int .i64 c0,.int .i64 c1,.int .i64 c2,.int .i64 c3,.int .i64 c4,.slice A5 n5 cap5] (0,0) _ rfl (KR4.out.six _ _ _ _ _ _) Tryz.underlying28 rfl rfl) rfl ?_
  have hkp:Kept F4 w4 _:=kept_six (w:=w4) (H:=w.heap.size+2) HN4.out (.int .i64 c0) (.int .i64 c1) (.int .i64 c2) (.int .i64 c3) (.int .i64 c4) (.slice A5 n5 cap5)
  exact ⟨[.int .i64 c0,.int .i64 c1,.int .i64 c2,.int .i64 c3,.int .i64 c4,.slice A5 n5 cap5],F4,by rw [HE.out];rfl,below_six hB4 (by omega) _ _ _ _ _ _,by rw [hf.out];exact PR.mono _ _ _ hkp HP4.out,HFR4.out.kept hkp,fun b hb=>⟨(HFS4.out b hb).1,by rw [size_six];exact (HFS4.out b hb).2⟩⟩
theorem impl_PatternOf (xs:List Dt) (t:Ty) (v:V) (w:World) (x:Value) (F:List Nat) (cs:List Value) (G:List Nat) (hx:Arr w (DtR w) xs x F) (hf:Under w F) (hv:VR w v cs G) (hg:Under w G) (hz:v.size≤1048576) :
  Calls Tryz.prog 24 #[x,.agg #[t.d,t.i],.agg cs.toArray] w (MadeP2 (patternOfR xs t v) (valueValidB xs t v) w):=by
 obtain ⟨kv,rfl,ha⟩:=(zA6 _ _ _).1 hv
 obtain ⟨A,cap,rfl,hc1,hc2⟩:=hx.form
 obtain ⟨A4,cap4,rfl,hc3,hc4⟩:=ha.form
 have HV:=jj hv
 have HX:=jj hx
 have HF:=jj hf
 have HG:=jj hg
 clear hx hf hg
 clear ha hv
 go_enter Tryz.func24,Tryz.ntmps24
 go_wp2_with fail
 obtain ⟨W2,hW2⟩:∃ W2,W2=(((w.alloc (.cells #[t.d,t.i] 25)).alloc (.cells #[v.c,v.n,.slice A4 v.ks.length cap4] 45)).alloc (.cells #[(0:Int),(0:Int),(0:Int),(0:Int),(0:Int),.slice none 0 0] 28)):=⟨_,rfl⟩
 have hB0:Below w w W2:=by rw [hW2];exact (((zy2 _ _).alloc (zz8 _) _).alloc (by simp) _).alloc (by simp;omega) _
 have KT:Hid (Blk W2 w 25 #[t.d,t.i]):=by rw [hW2];exact ((Blk.new w _ _).same (Below.heap_alloc _ _ _ (by simp))).same (Below.heap_alloc _ _ _ (by simp;omega))
 have KV:Hid (Blk W2 (w.heap.size+1) 45 #[v.c,v.n,.slice A4 v.ks.length cap4]):=by rw [hW2];exact (zAG w _ 45 #[v.c,v.n,.slice A4 v.ks.length cap4]).same (Below.heap_alloc _ _ _ (by simp))
 have KR:Hid (Blk W2 (w.heap.size+2) 28 #[(0:Int),(0:Int),(0:Int),(0:Int),(0:Int),.slice none 0 0]):=by
  rw [hW2]
  have h:=Blk.new ((w.alloc (.cells #[t.d,t.i] 25)).alloc (.cells #[v.c,v.n,.slice A4 v.ks.length cap4] 45)) 28 #[(0:Int),(0:Int),(0:Int),(0:Int),(0:Int),.slice none 0 0]
  rw [show ((w.alloc (.cells #[t.d,t.i] 25)).alloc (.cells #[v.c,v.n,.slice A4 v.ks.length cap4] 45)).heap.size=w.heap.size+2 from by simp] at h
  exact h
 rw [←hW2]
 clear hW2
 obtain ⟨y0,y1,-⟩:=KT.out.c2
 obtain ⟨z0,z1,z2,-⟩:=KV.out.c3
 have klt:=KT.out.lt
 have klt2:=KV.out.lt
 go_wp2_with fail
 refine (impl_ValueValid xs t v W2 _ F _ G (ArrDt.below HX.out hB0 HF.out) (HF.out.mono hB0.size) (HV.out.below hB0 HG.out) (HG.out.mono hB0.size) hz).mono ?_
 rintro e w3 ⟨rfl,hb3⟩
 have hB3:=hB0.trans (hb3.mono hB0.size)
 have KV3:=jj (KV.out.same (hb3.block _ KV.out.lt))
 have KT3:=jj (KT.out.same (hb3.block _ KT.out.lt))
 have KR3:=jj (KR.out.same (hb3.block _ KR.out.lt))
 clear y0 y1 z0 z1 z2 klt klt2
 obtain ⟨y0,y1,-⟩:=KT3.out.c2
 obtain ⟨z0,z1,z2,-⟩:=KV3.out.c3
 have klt:=KT3.out.lt
 have klt2:=KV3.out.lt
 clear hb3 KT KV KR
 cases e1:valueValidB xs t v with
 |false =>
  have hf:Hid (patternOfR xs t v=zeroP):=by unfold Hid patternOfR;rw [e1];rfl
  have HE:=jj e1
  clear e1
  have rc0:=(KR3.out.cell 0).trans (show _=some (.int .i64 0) from by simp)
  have rf0:=KR3.out.frozen 0
  have rc1:=(KR3.out.cell 1).trans (show _=some (.int .i64 0) from by simp)
  have rf1:=KR3.out.frozen 1
  have rc2:=(KR3.out.cell 2).trans (show _=some (.int .i64 0) from by simp)
  have rf2:=KR3.out.frozen 2
  have rc3:=(KR3.out.cell 3).trans (show _=some (.int .i64 0) from by simp)
  have rf3:=KR3.out.frozen 3
  have rc4:=(KR3.out.cell 4).trans (show _=some (.int .i64 0) from by simp)
  have rf4:=KR3.out.frozen 4
  have rc5:=(KR3.out.cell 5).trans (show _=some (.slice none 0 0) from by simp)
  have rf5:=KR3.out.frozen 5
  have rlt:=KR3.out.lt
  go_wp2
  clear rc0 rf0 rc1 rf1 rc2 rf2 rc3 rf3 rc4 rf4 rc5 rf5 rlt
  refine bodyPost_ret (zBC rfl _ _ (w.heap.size+2) 28 #[(0:Int),(0:Int),(0:Int),(0:Int),(0:Int),.slice none 0 0] (0,0) _ rfl (KR3.out.six _ _ _ _ _ _) Tryz.underlying28 rfl rfl) rfl ?_
  exact ⟨[(0:Int),(0:Int),(0:Int),(0:Int),(0:Int),.slice none 0 0],[],by rw [HE.out];rfl,below_six hB3 (by omega) _ _ _ _ _ _,by rw [hf.out];exact (zAE _ _ _).2 ⟨_,rfl,Arr.nil⟩,Free.nil _,Fresh.nil _ _⟩
 |true =>
  have hf:Hid (patternOfR xs t v=patOf v):=by unfold Hid patternOfR;rw [e1];rfl
  have HE:=jj e1
  clear e1
  go_wp2_with fail
  refine (impl_patternOf v w3 _ G (HV.out.below hB3 HG.out) (HG.out.mono hB3.size) hz).mono ?_
  rintro e w4 ⟨cs4,F4,rfl,hb4,hp4,hfr4,hfs4⟩
  obtain ⟨kv4,rfl,ha4⟩:=(zAE _ _ _).1 hp4
  obtain ⟨A5,cap5,rfl,-,-⟩:=ha4.form
  have hB4:=hB3.trans (hb4.mono hB3.size)
  have KR4:=jj (KR3.out.same (hb4.block _ KR3.out.lt))
  have HN4:Hid (∀ b∈F4,b≠w.heap.size+2):=fun b hb e=>by have h1:=(hfs4 b hb).1;have h2:=KR3.out.lt;omega
  have HP4:=jj hp4
  have HFR4:=jj hfr4
  have HFS4:Hid (Fresh w w4 F4):=fun b hb=>⟨Nat.le_trans hB3.size (hfs4 b hb).1,(hfs4 b hb).2⟩
  clear hp4 hfr4 hfs4 hb4 ha4 y0 y1 z0 z1 z2 klt klt2
  generalize (patOf v).ks.length=n5 at *
  generalize (patOf v).op=c0 at *
  generalize (patOf v).ct=c1 at *
  generalize (patOf v).n=c2 at *
  generalize (patOf v).m=c3 at *
  generalize (patOf v).va=c4 at *
  have rc0:=(KR4.out.cell 0).trans (show _=some (.int .i64 0) from by simp)
  have rf0:=KR4.out.frozen 0
  have rc1:=(KR4.out.cell 1).trans (show _=some (.int .i64 0) from by simp)
  have rf1:=KR4.out.frozen 1
  have rc2:=(KR4.out.cell 2).trans (show _=some (.int .i64 0) from by simp)
  have rf2:=KR4.out.frozen 2
  have rc3:=(KR4.out.cell 3).trans (show _=some (.int .i64 0) from by simp)
  have rf3:=KR4.out.frozen 3
  have rc4:=(KR4.out.cell 4).trans (show _=some (.int .i64 0) from by simp)
  have rf4:=KR4.out.frozen 4
  have rc5:=(KR4.out.cell 5).trans (show _=some (.slice none 0 0) from by simp)
  have rf5:=KR4.out.frozen 5
  have rlt:=KR4.out.lt
  go_wp2
  clear rc0 rf0 rc1 rf1 rc2 rf2 rc3 rf3 rc4 rf4 rc5 rf5 rlt
  refine bodyPost_ret (zBC rfl _ _ (w.heap.size+2) 28 #[.int .i64 c0,.int .i64 c1,.int .i64 c2,.int .i64 c3,.int .i64 c4,.slice A5 n5 cap5] (0,0) _ rfl (KR4.out.six _ _ _ _ _ _) Tryz.underlying28 rfl rfl) rfl ?_
  have hkp:Kept F4 w4 _:=kept_six (w:=w4) (H:=w.heap.size+2) HN4.out (.int .i64 c0) (.int .i64 c1) (.int .i64 c2) (.int .i64 c3) (.int .i64 c4) (.slice A5 n5 cap5)
  exact ⟨[.int .i64 c0,.int .i64 c1,.int .i64 c2,.int .i64 c3,.int .i64 c4,.slice A5 n5 cap5],F4,by rw [HE.out];rfl,below_six hB4 (by omega) _ _ _ _ _ _,by rw [hf.out];exact PR.mono _ _ _ hkp HP4.out,HFR4.out.kept hkp,fun b hb=>⟨(HFS4.out b hb).1,by rw [size_six];exact (HFS4.out b hb).2⟩⟩
theorem joinTail_cons (sep x:List UInt8) (r:List (List UInt8)):Lib.joinTail sep (x :: r)=sep ++ x ++ Lib.joinTail sep r:=by simp [Lib.joinTail]
theorem join_of {α:Type} (f:α→List UInt8) (g:Bool→List α→List UInt8) (s:UInt8) (h0:∀ b,g b []=[]) (h1:∀ x l,g true (x :: l)=f x ++ g false l) (h2:∀ x l,g false (x :: l)=s :: (f x ++ g false l)) (l:List α):Lib.join (l.map f) [s]=g true l:=by
 have key:∀ l:List α,Lib.joinTail [s] (l.map f)=g false l:=by
  intro l
  induction l with
  |nil=>rw [h0];rfl
  |cons x l ih=>rw [List.map_cons,joinTail_cons,ih,h2];rfl
 cases l with
 |nil=>rw [h0];rfl
 |cons x l=>rw [List.map_cons,Lib.join_cons,key,h1]
def listedT (ls:List ByteArray):List UInt8:=if ls=[] then [] else 40 :: (Lib.join (ls.map tl) [44] ++ [41])
def tyB (xs:List Dt) (t:Ty):ByteArray:=bs (tyT xs t)
def ktB (xs:List Dt) (c:Kt):ByteArray:=bs (ktT xs c)
def dtT (xs:List Dt) (x:Dt):List UInt8:=tl x.name ++ (61 :: ktsT xs true x.ctors)
def dtB (xs:List Dt) (x:Dt):ByteArray:=bs (dtT xs x)
def ctorN (xs:List Dt) (t:Ty) (k:Int):List UInt8:=match ctorAt xs t k with | some c=>tl c.name | none=>[]
theorem ctorN_get {xs:List Dt} {d k:Nat} {i:Int} (hd:d<xs.length) (hk:k<xs[d].ctors.length):ctorN xs ⟨(d:Int),i⟩ (k:Int)=tl xs[d].ctors[k].name:=by
 unfold ctorN ctorAt
 simp only
 rw [ctorsAt_get hd,Int.toNat_natCast,List.getElem?_eq_getElem hk]
def lst:Bool→List (List UInt8)→List UInt8
 |_,[]=>[]
 |b,a :: l=>(if b=true then 40 else 44) :: (a ++ lst false l)
def closeL (n:Nat):List UInt8:=if 0<n then [41] else []
theorem lst_join (a:List UInt8) (l:List (List UInt8)):lst true (a :: l)=40 :: Lib.join (a :: l) [44]:=by
 have h:=join_of id (fun b l=>if b=true then (match l with | []=>[] | x :: l=>x ++ lst false l) else lst false l) 44 (fun b=>by cases b <;> rfl) (fun x l=>rfl) (fun x l=>rfl) (a :: l)
 rw [List.map_id] at h
 rw [h];rfl
theorem listedT_lst (l:List (List UInt8)):listedT (l.map bs)=lst true l ++ closeL l.length:=by
 unfold listedT closeL
 cases hl:l with
 |nil=>rfl
 |cons a l =>
  have e:((a :: l).map bs).map tl=a :: l:=by rw [List.map_map];exact (List.map_congr_left (fun x _=>tl_bs x)).trans (List.map_id _)
  rw [if_neg (by simp),if_pos (by simp),e,lst_join]
  rfl
theorem closeL_len (n:Nat):(closeL n).length≤1:=by unfold closeL;split <;> simp
structure Vt where
 var:Int
 ty:Ty
def VtR (_:World) (x:Vt) (cs:List Value) (F:List Nat):Prop:=cs=[.int .i64 x.var,.int .i64 x.ty.d,.int .i64 x.ty.i]∧F=[]
theorem VtR_len (w:World) (x:Vt) (cs:List Value) (F:List Nat) (h:VtR w x cs F):cs.length=3:=by rw [h.1];rfl
theorem zAN (w w':World) (x:Vt) (cs:List Value) (F:List Nat) (_:Kept F w w') (h:VtR w x cs F):VtR w' x cs F:=h
def Vt.same (a b:Vt):Bool:=a.var==b.var && (a.ty.d==b.ty.d && a.ty.i==b.ty.i)
theorem Vt.same_iff (a b:Vt):Vt.same a b=true↔a=b:=by
 obtain ⟨v,d,i⟩:=a
 obtain ⟨v',d',i'⟩:=b
 simp [Vt.same]
def namedB (p:P):Bool:=p.op==2 || p.op==6
def kindB (xs:List Dt) (t:Ty) (p:P):Bool:=if p.op=3 then t.d == -1 && (decide (0≤p.n) && (decide (p.n≤p.m) && decide (p.m≤9))) else if p.op=4 then hasB (ctorsL xs t) p.ct else (p.op==1 || (p.op==2 || (p.op==5 || p.op==6)))
def ownB (xs:List Dt) (t:Ty) (p:P):Bool:=(if namedB p=true then decide (0≤p.va) && decide (p.va≤5) else p.va==0) && ((p.op==3 || (p.n==0 && p.m==0)) && ((p.op==4 || p.ct==0) && kindB xs t p))
def kidsN (op:Int):Nat:=if op=5 then 2 else if op=6 then 1 else 0
def typesP (xs:List Dt) (t:Ty) (p:P):List Ty:=if p.op=4 then argsOf xs t p.ct else List.replicate (kidsN p.op) t
def shapeB (xs:List Dt):Nat→Ty→P→Bool
 |0,_,_=>false
 |d+1,t,p=>ownB xs t p && (p.ks.length==(typesP xs t p).length && ((typesP xs t p).zip p.ks).all fun x=>shapeB xs d x.1 x.2)
def nodesP (p:P):Nat:=p.size+1
def kidsV (xs:List Dt) (t:Ty) (p:P):List (Ty×P):=((typesP xs t p).zip p.ks).take (if p.op=5 then 1 else p.ks.length)
def varsN (xs:List Dt):Nat→Ty→P→List Vt
 |0,_,_=>[]
 |d+1,t,p=>(if namedB p=true then [⟨p.va,t⟩] else []) ++ (kidsV xs t p).flatMap fun x=>varsN xs d x.1 x.2
def dupFree (l:List Vt):Bool:=decide ((l.map Vt.var).Nodup)
def alikeB (a b:List Vt):Bool:=(a.all fun v=>match b.find? fun u=>u.var==v.var with | some u=>(u.ty.d==v.ty.d && u.ty.i==v.ty.i) | none=>false) && a.length==b.length
def sameV (a b:List Vt):Bool:=a.length==b.length && a.all fun v=>b.any fun u=>Vt.same u v
def linB (xs:List Dt):Nat→Ty→P→Bool
 |0,_,_=>true
 |d+1,t,p=>(((typesP xs t p).zip p.ks).all fun x=>linB xs d x.1 x.2) && (if p.op=5 then (match p.ks with | [k0,k1]=>alikeB (varsN xs d t k0) (varsN xs d t k1) | _=>true) else dupFree (varsN xs (d+1) t p))
def patOkB (xs:List Dt) (t:Ty) (p:P):Bool:=shapeB xs 10 t p && (decide (nodesP p≤60) && linB xs 10 t p)
theorem typesP_or {xs:List Dt} {t:Ty} {p:P} (h:p.op=5):typesP xs t p=[t,t]:=by
 unfold typesP kidsN
 rw [if_neg (by omega),if_pos h];rfl
theorem typesP_as {xs:List Dt} {t:Ty} {p:P} (h:p.op=6):typesP xs t p=[t]:=by
 unfold typesP kidsN
 rw [if_neg (by omega),if_neg (by omega),if_pos h];rfl
theorem kids_two {α:Type} {l:List α} (h:l.length=2):∃ a b,l=[a,b]:=by
 match l,h with
 |[a,b],_=>exact ⟨a,b,rfl⟩
theorem lin_dup (xs:List Dt):∀ (d:Nat) (t:Ty) (p:P),shapeB xs d t p=true→linB xs d t p=true→dupFree (varsN xs d t p)=true
 |0,_,_,h,_=>by simp [shapeB] at h
 |d+1,t,p,hs,hl=>by
  simp only [shapeB,linB,Bool.and_eq_true] at hs hl
  by_cases h5:p.op=5
  ·have hty:=typesP_or (xs:=xs) (t:=t) h5
   obtain ⟨h1,h2,h3⟩:=hs
   rw [hty] at h2 h3
   obtain ⟨k0,k1,hk⟩:=kids_two (by simpa using h2)
   have hv:varsN xs (d+1) t p=varsN xs d t k0:=by
    have e:varsN xs (d+1) t p=(if namedB p=true then [⟨p.va,t⟩] else []) ++ (kidsV xs t p).flatMap fun x=>varsN xs d x.1 x.2:=rfl
    have kv:kidsV xs t p=[(t,k0)]:=by unfold kidsV;rw [hty,hk,h5];rfl
    have nb:namedB p=false:=by unfold namedB;rw [h5];rfl
    rw [e,kv,nb]
    simp
   rw [hv]
   rw [hk] at h3
   have hl1:=hl.1
   rw [hty,hk] at hl1
   simp only [List.zip_cons_cons,List.zip_nil_right,List.all_cons,List.all_nil,Bool.and_true,Bool.and_eq_true] at h3 hl1
   exact lin_dup xs d t k0 h3.1 hl1.1
  ·have hl2:=hl.2
   rwa [if_neg h5] at hl2
theorem find_of_nodup:∀ {b:List Vt} {u:Vt},(b.map Vt.var).Nodup→u∈b→b.find? (fun x=>x.var==u.var)=some u
 |[],_,_,h=>by cases h
 |x :: b,u,hn,h=>by
  rw [List.map_cons,List.nodup_cons] at hn
  rcases List.mem_cons.1 h with rfl | h
  ·simp
  ·have hx:(x.var==u.var)=false:=by
    rw [beq_eq_false_iff_ne]
    intro e
    exact hn.1 (by rw [e];exact List.mem_map_of_mem h)
   rw [List.find?_cons,hx]
   exact find_of_nodup hn.2 h
theorem alike_same {a b:List Vt} (hb:dupFree b=true):alikeB a b=sameV a b:=by
 have hn:(b.map Vt.var).Nodup:=of_decide_eq_true hb
 have key:∀ v:Vt,(match b.find? fun u=>u.var==v.var with | some u=>(u.ty.d==v.ty.d && u.ty.i==v.ty.i) | none=>false)=b.any fun u=>Vt.same u v:=fun v=>by
  rw [Bool.eq_iff_iff,List.any_eq_true]
  constructor
  ·intro h
   split at h
   ·rename_i u hu
    have hm:=List.mem_of_find?_eq_some hu
    have hv:=List.find?_some hu
    exact ⟨u,hm,by
     unfold Vt.same
     rw [hv]
     simpa using h⟩
   ·cases h
  ·rintro ⟨u,hm,hu⟩
   obtain rfl:=(Vt.same_iff u v).1 hu
   rw [find_of_nodup hn hm]
   simp
 unfold alikeB sameV
 rw [Bool.and_comm]
 congr 1
 exact congrArg (fun f=>a.all f) (funext key)
theorem ArrP.at {w0 w:World} {b off n cap:Nat} {F:List Nat} {xs:List P} (h:Arr w0 (PR w0) xs (.slice (some ⟨b,off,none⟩) n cap) F) (hF:Under w0 F) (hB:Below w0 w0 w) (i:Nat) (hi:i<xs.length) :
  ∃ A1 cap1 G,b<w.heap.size∧w.cell? ⟨b,off+i*6,none⟩=xs[i].op∧w.cell? ⟨b,off+i*6+1,none⟩=xs[i].ct∧w.cell? ⟨b,off+i*6+2,none⟩=xs[i].n∧w.cell? ⟨b,off+i*6+3,none⟩=xs[i].m∧w.cell? ⟨b,off+i*6+4,none⟩=xs[i].va∧w.cell? ⟨b,off+i*6+5,none⟩=some (.slice A1 xs[i].ks.length cap1) ∧
   Hid (PR w0 xs[i] [xs[i].op,xs[i].ct,xs[i].n,xs[i].m,xs[i].va,.slice A1 xs[i].ks.length cap1] G)∧Hid (Under w0 G)∧(∀ b∈G,b∈F)∧xs[i].ks.length≤cap1∧cap1≤9223372036854775807:=by
 obtain ⟨b',off',cs,G,e,hb,hcs,hv,hG⟩:=h.get PR_len hi
 cases e
 have hbl:=hF _ hb
 have hc:=hcs.same (hB.block _ hbl)
 obtain ⟨kv,rfl,ha⟩:=(zAE _ _ _).1 hv
 obtain ⟨A1,cap1,rfl,h1,h2⟩:=ha.form
 exact ⟨A1,cap1,G,zz9 hbl hB.size,hc 0 _ rfl,hc 1 _ rfl,hc 2 _ rfl,hc 3 _ rfl,hc 4 _ rfl,hc 5 _ rfl,hv,hF.sub hG,hG,h1,h2⟩
theorem nodesP_ks (p:P):nodesP p=1+P.sizes p.ks:=by obtain ⟨op,ct,n,m,va,ks⟩:=p;unfold nodesP;rw [P.size];simp only;omega
theorem sizesP_step {l:List P} {i:Nat} (h:i<l.length):P.sizes (l.take (i+1))=P.sizes (l.take i)+nodesP l[i]:=by
 rw [P.sizes_eq,P.sizes_eq,P.subs_take_succ l i h,List.length_take,List.length_take]
 unfold nodesP
 omega
theorem zBA (l:List P) (i:Nat):P.sizes (l.take i)≤P.sizes l:=by
 rw [P.sizes_eq,P.sizes_eq,List.length_take]
 have:=P.subs_take_le l i
 omega
theorem nodesP_mem {l:List P} {i:Nat} (h:i<l.length):nodesP l[i]≤P.sizes l:=by
 have h1:=sizesP_step h
 have h2:=zBA l (i+1)
 omega
theorem P.indv {q:P→Prop} (h:∀ v:P,(∀ k∈v.ks,q k)→q v):∀ v,q v:=P.ind fun op ct n m va ks ih=>h ⟨op,ct,n,m,va,ks⟩ ih
def repTo (t:Ty) (i:Nat):List Ty:=List.replicate i t
theorem repTo_len (t:Ty) (i:Nat):(repTo t i).length=i:=List.length_replicate
theorem kidsN_le (op:Int):kidsN op≤2:=by unfold kidsN;split;omega;split <;> omega
theorem typesP_no {xs:List Dt} {t:Ty} {p:P} (h:¬p.op=4):typesP xs t p=repTo t (kidsN p.op):=by unfold typesP;rw [if_neg h];rfl
theorem ownB_ctor {xs:List Dt} {t:Ty} {p:P} (h:p.op=4) (ho:ownB xs t p=true):p.ct∈ctorsL xs t:=by
 unfold ownB kindB at ho
 simp only [Bool.and_eq_true] at ho
 have h2:=ho.2.2.2
 rw [if_neg (by omega),if_pos h] at h2
 exact (hasB_iff _ _).1 h2
def allP (f:Ty→P→Bool) (ls:List Ty) (ks:List P):Bool:=(ls.zip ks).all fun x=>f x.1 x.2
theorem shapeB_succ (xs:List Dt) (d:Nat) (t:Ty) (p:P):shapeB xs (d+1) t p=(ownB xs t p && (p.ks.length==(typesP xs t p).length && allP (shapeB xs d) (typesP xs t p) p.ks)):=rfl
theorem typesP_in {xs:List Dt} (hw:WorldOK xs) {t:Ty} (ht:TyIn xs.length t) {p:P} (ho:ownB xs t p=true):∀ a∈typesP xs t p,TyIn xs.length a:=fun a ha=>by
 by_cases h4:p.op=4
 ·unfold typesP at ha
  rw [if_pos h4] at ha
  exact zB8 hw ht (ownB_ctor h4 ho) ha
 ·rw [typesP_no h4] at ha
  have:=List.eq_of_mem_replicate ha
  rw [this];exact ht
theorem typesP_len {xs:List Dt} (hw:WorldOK xs) {t:Ty} (ht:TyIn xs.length t) {p:P} (ho:ownB xs t p=true):(typesP xs t p).length≤3:=by
 by_cases h4:p.op=4
 ·unfold typesP
  rw [if_pos h4]
  exact argsOf_len3 hw ht (ownB_ctor h4 ho)
 ·rw [typesP_no h4,repTo_len]
  have:=kidsN_le p.op
  omega
def ShapeS (p:P):Prop:=∀ (xs:List Dt) (_:WorldOK xs) (d:Nat) (_:d≤10) (t:Ty) (_:TyIn xs.length t) (w:World) (x:Value) (F:List Nat) (cs:List Value) (G:List Nat),Arr w (DtR w) xs x F→Under w F→PR w p cs G→Under w G →
 Calls Tryz.prog 131 #[x,.agg #[t.d,t.i],.agg cs.toArray,(d:Int)] w fun e w'=>e=.returned (.bool (shapeB xs d t p))∧Below w w w'
def scanPB (xs:List Dt) (d:Nat) (t:Ty) (p:P) (c:Nat):Bool:=shapeB xs d t p && (decide (c+nodesP p≤60) && linB xs d t p)
def nodeB (xs:List Dt) (t:Ty) (p:P):Bool:=ownB xs t p && p.ks.length==(typesP xs t p).length
def kidSum (p:P) (i:Nat):Nat:=(p.ks.take i).foldl (fun n k=>n+nodesP k) 0
theorem foldl_nodes (l:List P) (n:Nat):l.foldl (fun n k=>n+nodesP k) n=n+(l.length+P.subs l):=by
 induction l generalizing n with
 |nil=>simp [P.subs]
 |cons k l ih=>rw [List.foldl_cons,ih];simp only [P.subs,List.length_cons,nodesP];omega
theorem zB2 (p:P) (i:Nat) (h:i<p.ks.length):kidSum p (i+1)=kidSum p i+nodesP p.ks[i]:=by
 unfold kidSum
 rw [take_snoc' p.ks i h,List.foldl_append];rfl
theorem zBF (p:P) {i:Nat} (h:p.ks.length≤i):nodesP p=1+kidSum p i:=by
 unfold kidSum
 rw [List.take_of_length_le h,foldl_nodes]
 obtain ⟨op,ct,n,m,va,ks⟩:=p
 unfold nodesP
 rw [P.size,P.sizes_eq]
 simp only;omega
theorem kidSum_le (p:P) (i:Nat):1+kidSum p i≤nodesP p:=by
 rw [zBF p (zz8 _)]
 unfold kidSum
 rw [foldl_nodes,foldl_nodes]
 have h1:=P.subs_take_le p.ks i
 have h2:(p.ks.take i).length≤p.ks.length:=by rw [List.length_take];omega
 rw [List.take_of_length_le (zz8 _)]
 omega
section
variable {xs : List Dt} {d c i : Nat} {t : Ty} {p : P}
theorem scanPB_node (h:nodeB xs t p=false):scanPB xs (d+1) t p c=false:=by
 have e:shapeB xs (d+1) t p=(nodeB xs t p && ((typesP xs t p).zip p.ks).all fun x=>shapeB xs d x.1 x.2):=by
  unfold nodeB
  rw [Bool.and_assoc];rfl
 unfold scanPB
 rw [e,h];rfl
theorem scanPB_many (h:60<c+1):scanPB xs d t p c=false:=by
 have h1:¬c+nodesP p≤60:=by unfold nodesP;omega
 unfold scanPB
 rw [decide_eq_false h1,Bool.false_and,Bool.and_false]
theorem scanPB_deep:scanPB xs 0 t p c=false:=rfl
structure KidsOk (xs:List Dt) (d:Nat) (t:Ty) (p:P) (c i:Nat):Prop where
 node:nodeB xs t p=true
 le:i≤p.ks.length
 fit:c+1+kidSum p i≤60
 all:∀ j (h:j<p.ks.length) (h':j<(typesP xs t p).length),j<i→shapeB xs d (typesP xs t p)[j] p.ks[j]=true∧linB xs d (typesP xs t p)[j] p.ks[j]=true
theorem KidsOk.len (h:KidsOk xs d t p c i):p.ks.length=(typesP xs t p).length:=by
 have:=h.node
 unfold nodeB at this
 rw [Bool.and_eq_true,beq_iff_eq] at this
 exact this.2
theorem KidsOk.zero (h:nodeB xs t p=true) (hc:c+1≤60):KidsOk xs d t p c 0:=⟨h,Nat.zero_le _,by unfold kidSum;simpa using hc,fun j _ _ hj=>by omega⟩
theorem zip_at (hi:i<p.ks.length) (hi':i<(typesP xs t p).length):((typesP xs t p)[i],p.ks[i])∈(typesP xs t p).zip p.ks:=by
 rw [List.mem_iff_getElem]
 exact ⟨i,by rw [List.length_zip];omega,by rw [List.getElem_zip]⟩
theorem KidsOk.next (h:KidsOk xs d t p c i) (hi:i<p.ks.length) (hi':i<(typesP xs t p).length) (hs:scanPB xs d (typesP xs t p)[i] p.ks[i] (c+1+kidSum p i)=true):KidsOk xs d t p c (i+1):=by
 unfold scanPB at hs
 rw [Bool.and_eq_true,Bool.and_eq_true,decide_eq_true_eq] at hs
 refine ⟨h.node,hi,by rw [zB2 p i hi];omega,fun j hj hj' hji=>?_⟩
 rcases Nat.lt_or_ge j i with h1 | h1
 ·exact h.all j hj hj' h1
 ·obtain rfl:j=i:=by omega
  exact ⟨hs.1,hs.2.2⟩
theorem KidsOk.fail (h:KidsOk xs d t p c i) (hi:i<p.ks.length) (hi':i<(typesP xs t p).length) (hs:scanPB xs d (typesP xs t p)[i] p.ks[i] (c+1+kidSum p i)=false):scanPB xs (d+1) t p c=false:=by
 rw [Bool.eq_false_iff]
 intro hk
 unfold scanPB at hk
 rw [Bool.and_eq_true,Bool.and_eq_true,decide_eq_true_eq] at hk
 obtain ⟨h1,h2,h3⟩:=hk
 simp only [shapeB,linB,Bool.and_eq_true] at h1 h3
 have m:=zip_at (xs:=xs) (t:=t) hi hi'
 have s1:=List.all_eq_true.1 h1.2.2 _ m
 have s2:=List.all_eq_true.1 h3.1 _ m
 have s3:c+1+kidSum p i+nodesP p.ks[i]≤60:=by
  have:=kidSum_le p (i+1)
  rw [zB2 p i hi] at this
  omega
 unfold scanPB at hs
 rw [s1,s2,decide_eq_true s3] at hs
 cases hs
theorem KidsOk.shape (h:KidsOk xs d t p c p.ks.length):shapeB xs (d+1) t p=true:=by
 have hn:=h.node
 have hl:=h.len
 unfold nodeB at hn
 rw [Bool.and_eq_true] at hn
 unfold shapeB
 rw [hn.1,hn.2,Bool.true_and,Bool.true_and,List.all_eq_true]
 intro x hx
 obtain ⟨i,hi,rfl⟩:=List.mem_iff_getElem.1 hx
 rw [List.length_zip] at hi
 rw [List.getElem_zip]
 exact (h.all i (by omega) (by omega) (by omega)).1
theorem KidsOk.lins (h:KidsOk xs d t p c p.ks.length):(((typesP xs t p).zip p.ks).all fun x=>linB xs d x.1 x.2)=true:=by
 rw [List.all_eq_true]
 intro x hx
 have hl:=h.len
 obtain ⟨i,hi,rfl⟩:=List.mem_iff_getElem.1 hx
 rw [List.length_zip] at hi
 rw [List.getElem_zip]
 exact (h.all i (by omega) (by omega) (by omega)).2
theorem KidsOk.done (h:KidsOk xs d t p c p.ks.length):scanPB xs (d+1) t p c=(if p.op=5 then (match p.ks with | [k0,k1]=>alikeB (varsN xs d t k0) (varsN xs d t k1) | _=>true) else dupFree (varsN xs (d+1) t p)):=by
 have hf:c+nodesP p≤60:=by rw [zBF p (zz8 _)];have:=h.fit;omega
 unfold scanPB
 rw [h.shape,decide_eq_true hf,Bool.true_and,Bool.true_and]
 show ((((typesP xs t p).zip p.ks).all fun x=>linB xs d x.1 x.2) && _)=_
 rw [h.lins,Bool.true_and]
 all_goals rfl
end
theorem ArrVt.at {w0 w:World} {b off n cap:Nat} {F:List Nat} {xs:List Vt} (h:Arr w0 (VtR w0) xs (.slice (some ⟨b,off,none⟩) n cap) F) (hF:Under w0 F) (hB:Below w0 w0 w) (i:Nat) (hi:i<xs.length) :
  b<w.heap.size∧w.cell? ⟨b,off+i*3,none⟩=xs[i].var∧w.cell? ⟨b,off+i*3+1,none⟩=xs[i].ty.d∧w.cell? ⟨b,off+i*3+2,none⟩=xs[i].ty.i:=by
 obtain ⟨b',off',cs,G,e,hb,hcs,hv,hG⟩:=h.get (VtR_len w0) hi
 cases e
 have hbl:=hF _ hb
 have hc:=hcs.same (hB.block _ hbl)
 obtain ⟨rfl,rfl⟩:=hv
 exact ⟨zz9 hbl hB.size,hc 0 _ rfl,hc 1 _ rfl,hc 2 _ rfl⟩
theorem allP_at {f:Ty→P→Bool} {ls:List Ty} {ks:List P} (h:allP f ls ks=true) {i:Nat} (h1:i<ls.length) (h2:i<ks.length):f ls[i] ks[i]=true:=by
 unfold allP at h
 rw [List.all_eq_true] at h
 exact h _ (List.mem_iff_getElem.2 ⟨i,by rw [List.length_zip];omega,by rw [List.getElem_zip]⟩)
theorem snd_zip {α β:Type}:∀ (l:List α) (m:List β),(l.zip m).map Prod.snd=m.take l.length
 |[],m=>by simp
 |a :: l,[]=>by simp
 |a :: l,b :: m=>by simp [snd_zip l m]
theorem info_VtE:(Tryz.prog.info? 181).map (fun i=>(i.zero,i.size,i.bytes))=some (some (.agg #[(0:Int),(0:Int),(0:Int)]),3,24):=by kernel_rfl
theorem chg_grow {F G:List Nat} {a b c:World} (h:Chg F a b) (k:Chg G b c) (hr:∀ g∈G,g∈F∨a.heap.size≤g):Chg F a c :=
 ⟨k.os.trans h.os,k.tape.trans h.tape,k.output.trans h.output,Nat.le_trans h.size k.size,fun i hi hF=>(k.block i (zz9 hi h.size) (fun hG=>by
  rcases hr i hG with h1 | h1
  ·exact hF h1
  ·omega)).trans (h.block i hi hF)⟩
theorem grown_chg {wr w7:World} {v:Value} {o:Obj} (hgr:(wr.alloc o).grownBy w7 v.ownBlock):Chg (rowOf v) wr w7 :=
 ⟨hgr.os,hgr.tape,hgr.output,Nat.le_trans (by simp) hgr.size,fun b hb hF=>(hgr.block b (by simp;omega) (fun e=>hF (zA1.2 e.symm))).trans (Below.heap_alloc _ _ _ hb)⟩
theorem grown_rows {wr:World} {v:Value} {g n cp:Nat} (hat:v.ownBlock=some g∨g=wr.heap.size+1):∀ g'∈rowOf (.slice (some ⟨g,0,none⟩) n cp),g'∈rowOf v∨wr.heap.size≤g':=fun g' hg'=>by
 rw [zA3,zy1] at hg'
 subst hg'
 rcases hat with h | h
 ·exact .inl (zA1.2 h)
 ·exact .inr (by omega)
def accP (ys:List Vt) (xs:List Dt) (d:Nat) (t:Ty) (p:P) (i:Nat):List Vt:=ys ++ ((if namedB p=true then [⟨p.va,t⟩] else []) ++ (((typesP xs t p).zip p.ks).take i).flatMap fun x=>varsN xs d x.1 x.2)
theorem accP_named {ys:List Vt} {xs:List Dt} {d:Nat} {t:Ty} {p:P} (h:namedB p=true):accP ys xs d t p 0=ys ++ [⟨p.va,t⟩]:=by unfold accP;rw [if_pos h];simp
theorem accP_bare {ys:List Vt} {xs:List Dt} {d:Nat} {t:Ty} {p:P} (h:namedB p=false):accP ys xs d t p 0=ys:=by unfold accP;rw [if_neg (by simp [h])];simp
theorem accP_succ (ys:List Vt) {xs:List Dt} (d:Nat) {t:Ty} {p:P} {i:Nat} (h1:i<(typesP xs t p).length) (h2:i<p.ks.length):accP ys xs d t p (i+1)=accP ys xs d t p i ++ varsN xs d (typesP xs t p)[i] p.ks[i]:=by
 unfold accP
 rw [take_snoc' _ i (by rw [List.length_zip];omega),List.flatMap_append,List.getElem_zip]
 simp [List.append_assoc]
theorem accP_done {ys:List Vt} {xs:List Dt} {d:Nat} {t:Ty} {p:P} {i:Nat} (h:i=if p.op=5 then 1 else p.ks.length):accP ys xs d t p i=ys ++ varsN xs (d+1) t p:=by
 subst h;rfl
theorem varsN_len (xs:List Dt):∀ (d:Nat) (t:Ty) (p:P),(varsN xs d t p).length≤nodesP p
 |0,_,_=>by simp [varsN]
 |d+1,t,p=>by
  have key:∀ (l:List (Ty×P)),(l.flatMap fun x=>varsN xs d x.1 x.2).length≤P.sizes (l.map Prod.snd):=by
   intro l
   induction l with
   |nil=>simp
   |cons a l ih =>
    have h1:=varsN_len xs d a.1 a.2
    unfold nodesP at h1
    simp only [List.flatMap_cons,List.length_append,List.map_cons,P.sizes]
    omega
  have h2:P.sizes ((kidsV xs t p).map Prod.snd)≤P.sizes p.ks:=by
   have e:∃ n,(kidsV xs t p).map Prod.snd=p.ks.take n:=by
    unfold kidsV
    rw [List.map_take,snd_zip,List.take_take]
    exact ⟨_,rfl⟩
   obtain ⟨n,e⟩:=e
   rw [e]
   exact zBA p.ks n
  have h3:=key (kidsV xs t p)
  have h4:((if namedB p=true then [(⟨p.va,t⟩:Vt)] else []):List Vt).length≤1:=by split <;> simp
  have h5:=nodesP_ks p
  show ((if namedB p=true then [(⟨p.va,t⟩:Vt)] else []) ++ (kidsV xs t p).flatMap fun x=>varsN xs d x.1 x.2).length≤nodesP p
  rw [List.length_append]
  omega
theorem accP_len (ys:List Vt) (xs:List Dt) (d:Nat) (t:Ty) (p:P) (i:Nat):(accP ys xs d t p i).length≤ys.length+1+P.sizes (p.ks.take i):=by
 have key:∀ (l:List (Ty×P)),(l.flatMap fun x=>varsN xs d x.1 x.2).length≤P.sizes (l.map Prod.snd):=by
  intro l
  induction l with
  |nil=>simp
  |cons a l ih =>
   have h1:=varsN_len xs d a.1 a.2
   unfold nodesP at h1
   simp only [List.flatMap_cons,List.length_append,List.map_cons,P.sizes]
   omega
 have h3:=key (((typesP xs t p).zip p.ks).take i)
 have e:∃ n,(((typesP xs t p).zip p.ks).take i).map Prod.snd=(p.ks.take i).take n:=by
  rw [List.map_take,snd_zip,List.take_take]
  exact ⟨(typesP xs t p).length,by rw [List.take_take,Nat.min_comm]⟩
 obtain ⟨n,e⟩:=e
 rw [e] at h3
 have h2:=zBA (p.ks.take i) n
 have h4:((if namedB p=true then [(⟨p.va,t⟩:Vt)] else []):List Vt).length≤1:=by split <;> simp
 unfold accP
 rw [List.length_append,List.length_append]
 omega
def VarsPost (xs:List Dt) (d:Nat) (t:Ty) (p:P) (B:Nat) (ys:List Vt) (ov:Value) (w:World) (e:Ending) (w':World):Prop :=
 ∃ ov',e=.returned ov'∧Own w' B 181 3 VtR (ys ++ varsN xs d t p) ov' []∧Chg (rowOf ov) w w'∧∀ g∈rowOf ov',g∈rowOf ov∨w.heap.size≤g
def VarsS (p:P):Prop:=∀ (xs:List Dt) (_:WorldOK xs) (d:Nat) (t:Ty) (_:TyIn xs.length t) (_:shapeB xs d t p=true) (w:World) (x:Value) (F:List Nat) (cs:List Value) (G:List Nat) (B:Nat) (ys:List Vt) (ov:Value),Own w B 181 3 VtR ys ov []→B≤w.heap.size→ys.length+nodesP p≤4000000 →
 Arr w (DtR w) xs x F→Under B F→PR w p cs G→Under B G →
 Calls Tryz.prog 168 #[ov,x,.agg #[t.d,t.i],.agg cs.toArray] w (VarsPost xs d t p B ys ov w)
def alikeOne (b:List Vt) (v:Vt):Bool:=match b.find? fun u=>u.var==v.var with | some u=>(u.ty.d==v.ty.d && u.ty.i==v.ty.i) | none=>false
theorem dup_no {l:List Vt} {i j:Nat} (hi:i<l.length) (hj:j<l.length) (hij:i<j) (h:l[i].var=l[j].var):dupFree l=false:=by
 unfold dupFree
 rw [decide_eq_false_iff_not]
 intro hn
 have:=List.pairwise_iff_getElem.1 hn i j (by simpa using hi) (by simpa using hj) hij
 simp [h] at this
theorem dup_yes {l:List Vt} (h:∀ j (hj:j<l.length),∀ i (hi:i<l.length),i<j→l[i].var≠l[j].var):dupFree l=true:=by
 unfold dupFree
 rw [decide_eq_true_eq]
 refine List.pairwise_iff_getElem.2 fun i j hi hj hij=>?_
 simp only [List.getElem_map]
 exact h j (by simpa using hj) i (by simpa using hi) hij
def LinS (p:P):Prop:=∀ (xs:List Dt) (_:WorldOK xs) (d:Nat) (t:Ty) (_:TyIn xs.length t) (_:shapeB xs d t p=true) (_:nodesP p≤4000000) (w:World) (x:Value) (F:List Nat) (cs:List Value) (G:List Nat),Arr w (DtR w) xs x F→Under w F→PR w p cs G→Under w G →
 Calls Tryz.prog 133 #[x,.agg #[t.d,t.i],.agg cs.toArray] w fun e w'=>e=.returned (.bool (linB xs d t p))∧Below w w w'
structure UptoP (v:P) (most:Int) (c:Int):Prop where
 lo:1≤c
 hi:c≤nodesP v
 yes:(nodesP v:Int)≤most→c=nodesP v
 no:most<nodesP v→most<c
def CountPostP (v:P) (most:Int) (w:World) (e:Ending) (w':World):Prop:=∃ c:Int,e=.returned (.int .i64 c)∧UptoP v most c∧Below w w w'
def CountP (v:P):Prop:=∀ (most:Int) (_:0≤most) (_:most≤1000) (w:World) (cs:List Value) (G:List Nat),PR w v cs G→Under w G→nodesP v≤2000000 →
 Calls Tryz.prog 132 #[.agg cs.toArray,.int .i64 most] w (CountPostP v most w)
def patternValidB (xs:List Dt) (t:Ty) (p:P):Bool:=typeValidB xs t && patOkB xs t p
def patternVarsL (xs:List Dt) (t:Ty) (p:P):List Vt:=if patternValidB xs t p=true then varsN xs 10 t p else []
theorem patValid_split {xs:List Dt} {t:Ty} {p:P} (h:patternValidB xs t p=true):WorldOK xs∧TyIn xs.length t∧shapeB xs 10 t p=true∧nodesP p≤60:=by
 unfold patternValidB at h
 rw [Bool.and_eq_true] at h
 obtain ⟨hw,hto⟩:=zAL h.1
 have h2:=h.2
 unfold patOkB at h2
 simp only [Bool.and_eq_true,decide_eq_true_eq] at h2
 exact ⟨hw,zAO hto,h2.1,h2.2.1⟩
def letT (v:Int):List UInt8:=[UInt8.ofNat (97+v.toNat)]
def nodeT (xs:List Dt) (t:Ty) (p:P) (l:List (List UInt8)):List UInt8 :=
 if p.op=1 then [95] else if p.op=2 then letT p.va else if p.op=3 then (if p.n=p.m then digT p.n else digT p.n ++ (45 :: digT p.m))
 else if p.op=5 then 40 :: (l.getD 0 [] ++ 124 :: (l.getD 1 [] ++ [41])) else if p.op=6 then letT p.va ++ 64 :: l.getD 0 []
 else ctorN xs t p.ct ++ (lst true l ++ closeL l.length)
def pT (xs:List Dt):Nat→Ty→P→List UInt8
 |0,_,_=>[]
 |d+1,t,p=>nodeT xs t p (List.zipWith (pT xs d) (typesP xs t p) p.ks)
theorem pT_succ (xs:List Dt) (d:Nat) (t:Ty) (p:P):pT xs (d+1) t p=nodeT xs t p (List.zipWith (pT xs d) (typesP xs t p) p.ks):=rfl
theorem nodeT_1 {xs:List Dt} {t:Ty} {p:P} {l:List (List UInt8)} (h:p.op=1):nodeT xs t p l=[95]:=if_pos h
theorem nodeT_2 {xs:List Dt} {t:Ty} {p:P} {l:List (List UInt8)} (h:p.op=2):nodeT xs t p l=letT p.va:=by unfold nodeT;rw [if_neg (by omega),if_pos h]
theorem nodeT_3 {xs:List Dt} {t:Ty} {p:P} {l:List (List UInt8)} (h:p.op=3):nodeT xs t p l=(if p.n=p.m then digT p.n else digT p.n ++ (45 :: digT p.m)):=by unfold nodeT;rw [if_neg (by omega),if_neg (by omega),if_pos h]
theorem nodeT_5 {xs:List Dt} {t:Ty} {p:P} {l:List (List UInt8)} (h:p.op=5):nodeT xs t p l=40 :: (l.getD 0 [] ++ 124 :: (l.getD 1 [] ++ [41])):=by unfold nodeT;rw [if_neg (by omega),if_neg (by omega),if_neg (by omega),if_pos h]
theorem nodeT_6 {xs:List Dt} {t:Ty} {p:P} {l:List (List UInt8)} (h:p.op=6):nodeT xs t p l=letT p.va ++ 64 :: l.getD 0 []:=by unfold nodeT;rw [if_neg (by omega),if_neg (by omega),if_neg (by omega),if_neg (by omega),if_pos h]
theorem nodeT_4 {xs:List Dt} {t:Ty} {p:P} {l:List (List UInt8)} (h:p.op=4):nodeT xs t p l=ctorN xs t p.ct ++ (lst true l ++ closeL l.length):=by unfold nodeT;rw [if_neg (by omega),if_neg (by omega),if_neg (by omega),if_neg (by omega),if_neg (by omega)]
theorem allP_get {f:Ty→P→Bool}:∀ {ls:List Ty} {ks:List P},allP f ls ks=true→∀ (i:Nat) (h1:i<ls.length) (h2:i<ks.length),f ls[i] ks[i]=true:=fun {ls ks} h i h1 h2=>by
 unfold allP at h
 rw [List.all_eq_true] at h
 have hz:i<(ls.zip ks).length:=by rw [List.length_zip];omega
 have:=h _ (List.getElem_mem hz)
 rwa [List.getElem_zip] at this
theorem sizesP_cons (k:P) (ks:List P):P.sizes (k :: ks)=nodesP k+P.sizes ks:=by simp only [P.sizes,nodesP];omega
theorem lstP_len {f:Ty→P→List UInt8} {g:Ty→P→Bool} (m:Nat):∀ (ls:List Ty) (ks:List P) (b:Bool),(∀ a∈ls,∀ k,g a k=true→(f a k).length+1≤m*nodesP k)→allP g ls ks=true→(lst b (List.zipWith f ls ks)).length≤m*P.sizes ks
 |[],ks,b,_,_=>by simp [lst]
 |_ :: _,[],b,_,_=>by simp [lst]
 |a :: ls,k :: ks,b,h,hz=>by
  have hz0:=hz
  unfold allP at hz
  rw [List.zip_cons_cons,List.all_cons,Bool.and_eq_true] at hz
  have h1:=h a (by simp) k hz.1
  have h2:=lstP_len m ls ks false (fun x hx=>h x (by simp [hx])) hz.2
  rw [sizesP_cons,Nat.mul_add,List.zipWith_cons_cons,lst,List.length_cons,List.length_append]
  omega
theorem ops_of {xs:List Dt} {t:Ty} {p:P} (h:ownB xs t p=true):p.op=1∨p.op=2∨p.op=3∨p.op=4∨p.op=5∨p.op=6:=by
 unfold ownB kindB at h
 by_cases h3:p.op=3
 ·exact .inr (.inr (.inl h3))
 ·by_cases h4:p.op=4
  ·exact .inr (.inr (.inr (.inl h4)))
  ·rw [if_neg h3,if_neg h4] at h
   simp only [Bool.and_eq_true,Bool.or_eq_true,beq_iff_eq] at h
   rcases h.2.2.2 with h | h | h | h
   ·exact .inl h
   ·exact .inr (.inl h)
   ·exact .inr (.inr (.inr (.inr (.inl h))))
   ·exact .inr (.inr (.inr (.inr (.inr h))))
theorem own_ctor {xs:List Dt} {t:Ty} {p:P} (h:ownB xs t p=true) (h4:p.op=4):hasB (ctorsL xs t) p.ct=true:=by
 unfold ownB kindB at h
 rw [if_neg (show ¬p.op=3 by omega),if_pos h4] at h
 simp only [Bool.and_eq_true] at h
 exact h.2.2.2
theorem own_int {xs:List Dt} {t:Ty} {p:P} (h:ownB xs t p=true) (h3:p.op=3):0≤p.n∧p.n≤p.m∧p.m≤9:=by
 unfold ownB kindB at h
 rw [if_pos h3] at h
 simp only [Bool.and_eq_true,decide_eq_true_eq] at h
 exact h.2.2.2.2
theorem own_var {xs:List Dt} {t:Ty} {p:P} (h:ownB xs t p=true) (h2:namedB p=true):0≤p.va∧p.va≤5:=by
 unfold ownB at h
 rw [if_pos h2] at h
 simp only [Bool.and_eq_true,decide_eq_true_eq] at h
 exact h.1
theorem zB3 {xs:List Dt} {d:Nat} {t:Ty} {p:P} (h:shapeB xs (d+1) t p=true):ownB xs t p=true∧p.ks.length=(typesP xs t p).length∧allP (shapeB xs d) (typesP xs t p) p.ks=true:=by
 rw [shapeB_succ,Bool.and_eq_true,Bool.and_eq_true] at h
 exact ⟨h.1,eq_of_beq h.2.1,h.2.2⟩
theorem ctor_parts {xs:List Dt} {q r:Nat} {p:P} (hq:q<xs.length) (h:ownB xs ⟨(q:Int),(r:Int)⟩ p=true) (h4:p.op=4) :
  ∃ k:Nat,p.ct=(k:Int)∧∃ hk:k<xs[q].ctors.length,typesP xs ⟨(q:Int),(r:Int)⟩ p=argsL xs[q].ctors[k] (r:Int):=by
 have h1:=own_ctor h h4
 obtain ⟨q',k,e2,hvc,hq',hkl⟩:=zAT (xs:=xs) (t:=⟨(q:Int),(r:Int)⟩) (.inr ⟨q,rfl,hq⟩) ((hasB_iff _ _).1 h1)
 obtain rfl:q=q':=Int.ofNat.inj e2
 exact ⟨k,hvc,hkl,by unfold typesP;rw [if_pos h4,hvc,zAF hq hkl]⟩
theorem ctor_data {xs:List Dt} {t:Ty} (ht:TyIn xs.length t) {p:P} (h:ownB xs t p=true) (h4:p.op=4):∃ q r:Nat,t=⟨(q:Int),(r:Int)⟩∧q<xs.length∧r<4:=by
 rcases ht with ht | ht
 ·have h1:=own_ctor h h4
  rw [ctorsL_int ht] at h1
  simp [hasB] at h1
 ·exact ht
theorem letT_len (v:Int):(letT v).length=1:=rfl
theorem pT_len {xs:List Dt} (hw:WorldOK xs):∀ (d:Nat) (t:Ty) (p:P),TyIn xs.length t→shapeB xs d t p=true→(pT xs d t p).length+1≤8*nodesP p
 |0,t,p,_,h=>by rw [shapeB] at h;cases h
 |d+1,t,p,ht,h=>by
  obtain ⟨ho,hl,ha⟩:=zB3 h
  have hn:1≤nodesP p:=by unfold nodesP;omega
  have hk:∀ a∈typesP xs t p,∀ k,shapeB xs d a k=true→(pT xs d a k).length+1≤8*nodesP k:=fun a ha k hk=>pT_len hw d a k (typesP_in hw ht ho a ha) hk
  rw [pT_succ]
  rcases ops_of ho with h1 | h1 | h1 | h1 | h1 | h1
  ·rw [nodeT_1 h1];simp;omega
  ·rw [nodeT_2 h1,letT_len];omega
  ·rw [nodeT_3 h1];split
   ·rw [digT_len];omega
   ·rw [List.length_append,List.length_cons,digT_len,digT_len];omega
  ·obtain ⟨q,r,rfl,hql,hrl⟩:=ctor_data ht ho h1
   obtain ⟨k,hvc,hkl,hty⟩:=ctor_parts hql ho h1
   have h4:=lstP_len 8 (typesP xs ⟨(q:Int),(r:Int)⟩ p) p.ks true hk ha
   have h5:=nameOk_len (hw.ctor hql hkl).name
   have h6:(tl xs[q].ctors[k].name).length=xs[q].ctors[k].name.size:=rfl
   have h7:=closeL_len (List.zipWith (pT xs d) (typesP xs ⟨(q:Int),(r:Int)⟩ p) p.ks).length
   rw [nodeT_4 h1,hvc,ctorN_get hql hkl,nodesP_ks,List.length_append,List.length_append]
   omega
  ·have hty:=typesP_or (xs:=xs) (t:=t) h1
   rw [hty] at hl ha hk ⊢
   obtain ⟨k0,k1,hks⟩:=kids_two hl
   rw [hks] at ha ⊢
   have a0:=hk t (by simp) k0 (allP_get ha 0 (by simp) (by simp))
   have a1:=hk t (by simp) k1 (allP_get ha 1 (by simp) (by simp))
   rw [nodeT_5 h1,nodesP_ks,hks,sizesP_cons,sizesP_cons]
   simp only [List.zipWith_cons_cons,List.getD_cons_zero,List.getD_cons_succ,List.length_cons,List.length_append,List.length_nil]
   omega
  ·have hty:=typesP_as (xs:=xs) (t:=t) h1
   rw [hty] at hl ha hk ⊢
   obtain ⟨k0,hks⟩:∃ k0,p.ks=[k0]:=List.length_eq_one_iff.1 hl
   rw [hks] at ha ⊢
   have a0:=hk t (by simp) k0 (allP_get ha 0 (by simp) (by simp))
   rw [nodeT_6 h1,nodesP_ks,hks,sizesP_cons]
   simp only [List.zipWith_cons_cons,List.getD_cons_zero,List.length_cons,List.length_append,letT_len]
   omega
def fmtP (xs:List Dt) (t:Ty) (p:P):ByteArray:=if patternValidB xs t p=true then bs (pT xs 10 t p) else ⟨#[]⟩
theorem zipAll_get {f:Ty→V→Bool}:∀ {ls:List Ty} {ks:List V},zipAll f ls ks=true→∀ (i:Nat) (h1:i<ls.length) (h2:i<ks.length),f ls[i] ks[i]=true
 |_ :: _,_ :: _,h,0,_,_=>by rw [zipAll,Bool.and_eq_true] at h;exact h.1
 |_ :: ls,_ :: ks,h,i+1,h1,h2=>by
  rw [zipAll,Bool.and_eq_true] at h
  exact zipAll_get h.2 i (by simpa using h1) (by simpa using h2)
theorem lst_zip_len {f:Ty→V→List UInt8} {g:Ty→V→Bool} (m:Nat):∀ (ls:List Ty) (ks:List V) (b:Bool),(∀ a∈ls,∀ k,g a k=true→(f a k).length+1≤m*nodes k)→zipAll g ls ks=true→(lst b (List.zipWith f ls ks)).length≤m*V.sizes ks
 |[],ks,b,_,_=>by simp [lst]
 |_ :: _,[],b,_,_=>by simp [lst]
 |a :: ls,k :: ks,b,h,hz=>by
  rw [zipAll,Bool.and_eq_true] at hz
  have h1:=h a (by simp) k hz.1
  have h2:=lst_zip_len m ls ks false (fun x hx=>h x (by simp [hx])) hz.2
  have h3:V.sizes (k :: ks)=nodes k+V.sizes ks:=by simp [V.sizes,nodes]
  rw [h3,Nat.mul_add,List.zipWith_cons_cons,lst,List.length_cons,List.length_append]
  omega
def vT (xs:List Dt):Nat→Ty→V→List UInt8
 |0,_,_=>[]
 |d+1,t,v=>if t.d = -1 then digT v.n else ctorN xs t v.c ++ (lst true (List.zipWith (vT xs d) (argsOf xs t v.c) v.ks) ++ closeL (argsOf xs t v.c).length)
theorem vT_int {xs:List Dt} {d:Nat} {t:Ty} {v:V} (h:t.d = -1):vT xs (d+1) t v=digT v.n:=by rw [vT,if_pos h]
theorem vT_data {xs:List Dt} {d:Nat} {t:Ty} {v:V} (h:¬t.d = -1):vT xs (d+1) t v=ctorN xs t v.c ++ (lst true (List.zipWith (vT xs d) (argsOf xs t v.c) v.ks) ++ closeL (argsOf xs t v.c).length):=by rw [vT,if_neg h]
theorem fits_parts {xs:List Dt} {d q r:Nat} {v:V} (hq:q<xs.length) (h:fitsV xs (d+1) ⟨(q:Int),(r:Int)⟩ v=true) :
  ∃ k:Nat,v.c=(k:Int)∧∃ hk:k<xs[q].ctors.length,hasB (ctorsL xs ⟨(q:Int),(r:Int)⟩) v.c=true∧v.ks.length=(argsL xs[q].ctors[k] (r:Int)).length∧zipAll (fitsV xs d) (argsL xs[q].ctors[k] (r:Int)) v.ks=true:=by
 rw [zB1 (by show ¬((q:Int) = -1);omega),Bool.and_eq_true,Bool.and_eq_true,Bool.and_eq_true] at h
 obtain ⟨-,h1,h2,h3⟩:=h
 obtain ⟨q',k,e2,hvc,hq',hkl⟩:=zAT (xs:=xs) (t:=⟨(q:Int),(r:Int)⟩) (.inr ⟨q,rfl,hq⟩) ((hasB_iff _ _).1 h1)
 obtain rfl:q=q':=Int.ofNat.inj e2
 rw [hvc,zAF hq hkl] at h2 h3
 exact ⟨k,hvc,hkl,h1,of_decide_eq_true h2,h3⟩
theorem vT_len {xs:List Dt} (hw:WorldOK xs):∀ (d:Nat) (t:Ty) (v:V),TyIn xs.length t→fitsV xs d t v=true→(vT xs d t v).length+1≤8*nodes v
 |0,t,v,_,h=>by rw [fitsV] at h;cases h
 |d+1,t,v,ht,h=>by
  rcases ht with ht | ⟨q,r,rfl,hql,hrl⟩
  ·rw [vT_int ht,digT_len];unfold nodes;omega
  ·obtain ⟨k,hvc,hkl,h1,h2,h3⟩:=fits_parts hql h
   rw [vT_data (by show ¬((q:Int) = -1);omega),hvc,zAF hql hkl,ctorN_get hql hkl]
   have h4:=lst_zip_len (f:=vT xs d) 8 (argsL xs[q].ctors[k] (r:Int)) v.ks true (fun a ha k hk=>vT_len hw d a k (argTy_in (hw.ctor hql hkl) (by omega) (by omega) ha) hk) h3
   have h5:=nameOk_len (hw.ctor hql hkl).name
   have h6:(tl xs[q].ctors[k].name).length=xs[q].ctors[k].name.size:=rfl
   have h7:=closeL_len (argsL xs[q].ctors[k] (r:Int)).length
   rw [zAI,List.length_append,List.length_append]
   omega
def fmtV (xs:List Dt) (t:Ty) (v:V):ByteArray:=if valueValidB xs t v=true then bs (vT xs 10 t v) else ⟨#[]⟩
theorem valid_parts {xs:List Dt} {t:Ty} {v:V} (h:valueValidB xs t v=true):WorldOK xs∧TyIn xs.length t∧fitsV xs 10 t v=true∧nodes v≤60:=by
 unfold valueValidB valueOkB at h
 rw [Bool.and_eq_true,Bool.and_eq_true] at h
 obtain ⟨hw,hto⟩:=zAL h.1
 exact ⟨hw,zAO hto,h.2.1,of_decide_eq_true h.2.2⟩
theorem shapeB_def (xs:List Dt) (d:Nat) (t:Ty) (p:P):shapeB xs (d+1) t p=(ownB xs t p && (p.ks.length==(typesP xs t p).length && ((typesP xs t p).zip p.ks).all fun x=>shapeB xs d x.1 x.2)):=rfl
theorem linB_def (xs:List Dt) (d:Nat) (t:Ty) (p:P):linB xs (d+1) t p=((((typesP xs t p).zip p.ks).all fun x=>linB xs d x.1 x.2) && (if p.op=5 then (match p.ks with | [k0,k1]=>alikeB (varsN xs d t k0) (varsN xs d t k1) | _=>true) else dupFree (varsN xs (d+1) t p))):=rfl
theorem varsN_def (xs:List Dt) (d:Nat) (t:Ty) (p:P):varsN xs (d+1) t p=(if namedB p=true then [⟨p.va,t⟩] else []) ++ (kidsV xs t p).flatMap fun x=>varsN xs d x.1 x.2:=rfl
@[ext] structure Bd where
 var:Int
 val:V
def Bd.size (x:Bd):Nat:=x.val.size
def Bd.sizes (l:List Bd):Nat:=l.length+sumBy Bd.size l
def BdR (w:World) (x:Bd) (cs:List Value) (F:List Nat):Prop:=∃ ds:List Value,cs=[.int .i64 x.var] ++ ds∧VR w x.val ds F
theorem BdR_form {w:World} {x:Bd} {cs:List Value} {F:List Nat} (h:BdR w x cs F):∃ A cap,cs=[.int .i64 x.var,.int .i64 x.val.c,.int .i64 x.val.n,.slice A x.val.ks.length cap]:=by
 obtain ⟨ds,rfl,ha⟩:=h
 obtain ⟨kv,rfl,ha2⟩:=(zA6 _ _ _).1 ha
 obtain ⟨A,cap,rfl,-,-⟩:=ha2.form
 exact ⟨A,cap,rfl⟩
theorem BdR_len {w:World} (x:Bd) (cs:List Value) (F:List Nat) (h:BdR w x cs F):cs.length=4:=by
 obtain ⟨A,cap,rfl⟩:=BdR_form h
 rfl
mutual
def P.mat:P→V→Option (List Bd)
 |⟨op,ct,n,m,va,ks⟩,v =>
  if op=1 then some []
  else if op=2 then some [⟨va,v⟩]
  else if op=3 then (if withinB v.n n m=true then some [] else none)
  else if op=5 then P.mator ks v
  else if op=6 then (P.mator ks v).map (fun l=>⟨va,v⟩ :: l)
  else if v.c=ct then P.mats ks v.ks else none
def P.mats:List P→List V→Option (List Bd)
 |[],_=>some []
 |k :: ks,[]=>none
 |k :: ks,v :: vs=>match P.mat k v with
  |none=>none
  |some a=>match P.mats ks vs with
   |none=>none
   |some b=>some (a ++ b)
def P.mator:List P→V→Option (List Bd)
 |[],_=>none
 |k :: ks,v=>match P.mat k v with
  |none=>P.mator ks v
  |some a=>some a
end
theorem P.mat_eq (p:P) (v:V):P.mat p v=if p.op=1 then some [] else if p.op=2 then some [⟨p.va,v⟩] else if p.op=3 then (if withinB v.n p.n p.m=true then some [] else none) else if p.op=5 then P.mator p.ks v else if p.op=6 then (P.mator p.ks v).map (fun l=>⟨p.va,v⟩ :: l) else if v.c=p.ct then P.mats p.ks v.ks else none:=by
 obtain ⟨op,ct,n,m,va,ks⟩:=p
 rw [P.mat]
theorem mat_1 {p:P} {v:V} (h:p.op=1):P.mat p v=some []:=by rw [P.mat_eq,if_pos h]
theorem mat_2 {p:P} {v:V} (h:p.op=2):P.mat p v=some [⟨p.va,v⟩]:=by rw [P.mat_eq,if_neg (by omega),if_pos h]
theorem mat_3 {p:P} {v:V} (h:p.op=3):P.mat p v=if withinB v.n p.n p.m=true then some [] else none:=by rw [P.mat_eq,if_neg (by omega),if_neg (by omega),if_pos h]
theorem mat_5 {p:P} {v:V} {k0 k1:P} (h:p.op=5) (hk:p.ks=[k0,k1]):P.mat p v=(match P.mat k0 v with | some a=>some a | none=>P.mat k1 v):=by
 rw [P.mat_eq,if_neg (by omega),if_neg (by omega),if_neg (by omega),if_pos h,hk,P.mator,P.mator,P.mator]
 cases P.mat k0 v with
 |some a=>rfl
 |none=>cases P.mat k1 v <;> rfl
theorem mat_6 {p:P} {v:V} {k0:P} (h:p.op=6) (hk:p.ks=[k0]):P.mat p v=(P.mat k0 v).map (fun l=>⟨p.va,v⟩ :: l):=by
 rw [P.mat_eq,if_neg (by omega),if_neg (by omega),if_neg (by omega),if_neg (by omega),if_pos h,hk,P.mator,P.mator]
 cases P.mat k0 v <;> rfl
theorem mat_4 {p:P} {v:V} (h:p.op=4):P.mat p v=if v.c=p.ct then P.mats p.ks v.ks else none:=by rw [P.mat_eq,if_neg (by omega),if_neg (by omega),if_neg (by omega),if_neg (by omega),if_neg (by omega)]
theorem mats_nil (vs:List V):P.mats [] vs=some []:=by cases vs <;> rfl
theorem mats_snoc:∀ (ks:List P) (vs:List V) (k:P) (v:V),ks.length=vs.length→P.mats (ks ++ [k]) (vs ++ [v])=(match P.mats ks vs with | none=>none | some a=>match P.mat k v with | none=>none | some b=>some (a ++ b))
 |[],[],k,v,_=>by
  simp only [List.nil_append,P.mats]
  cases P.mat k v with
  |none=>rfl
  |some b=>simp
 |x :: ks,y :: vs,k,v,h=>by
  rw [List.cons_append,List.cons_append,P.mats,P.mats,mats_snoc ks vs k v (by simpa using h)]
  cases P.mat x y with
  |none=>rfl
  |some a =>
   cases P.mats ks vs with
   |none=>rfl
   |some b =>
    cases P.mat k v with
    |none=>rfl
    |some c=>simp
 |[],_ :: _,_,_,h=>by simp at h
 |_ :: _,[],_,_,h=>by simp at h
theorem mats_bad:∀ (ks:List P) (vs:List V) (i:Nat),P.mats (ks.take i) (vs.take i)=none→P.mats ks vs=none
 |[],vs,i,h=>by rw [List.take_nil,mats_nil] at h;cases h
 |k :: ks,vs,0,h=>by rw [List.take_zero,mats_nil] at h;cases h
 |k :: ks,[],i+1,h=>rfl
 |k :: ks,v :: vs,i+1,h=>by
  rw [List.take_succ_cons,List.take_succ_cons,P.mats] at h
  rw [P.mats]
  cases hk:P.mat k v with
  |none=>rfl
  |some a =>
   rw [hk] at h
   cases hm:P.mats (ks.take i) (vs.take i) with
   |none=>rw [mats_bad ks vs i hm]
   |some b=>rw [hm] at h;cases h
theorem mats_take {ks:List P} {vs:List V} {i:Nat} (h1:i<ks.length) (h2:i<vs.length):P.mats (ks.take (i+1)) (vs.take (i+1))=(match P.mats (ks.take i) (vs.take i) with | none=>none | some a=>match P.mat ks[i] vs[i] with | none=>none | some b=>some (a ++ b)):=by
 rw [List.take_succ_eq_append_getElem h1,List.take_succ_eq_append_getElem h2]
 exact mats_snoc _ _ _ _ (by rw [List.length_take,List.length_take];omega)
theorem info_BE:(Tryz.prog.info? 137).map (fun i=>(i.zero,i.size,i.bytes))=some (some (.agg #[(0:Int),(0:Int),(0:Int),.slice none 0 0]),4,48):=by kernel_rfl
theorem BdR_mono2 (w w':World) (x:Bd) (cs:List Value) (G:List Nat) (hk:Kept G w w') (h:BdR w x cs G):BdR w' x cs G:=by
 obtain ⟨ds,rfl,h⟩:=h
 exact ⟨ds,rfl,VR.mono _ _ _ hk h⟩
theorem BdR_len2 (w:World) (x:Bd) (cs:List Value) (G:List Nat) (h:BdR w x cs G):cs.length=4:=BdR_len x cs G h
theorem BdR_one (w:World) (x:Bd) (cs:List Value) (G:List Nat) (h:BdR w x cs G):∀ u∈cs,u.oneCell'=true:=by
 obtain ⟨A,cap,rfl⟩:=BdR_form h
 simp [Value.oneCell']
theorem BdR_of {w:World} {va:Int} {v:V} {A:Option Addr} {cap:Nat} {G:List Nat} (h:VR w v [v.c,v.n,.slice A v.ks.length cap] G):BdR w ⟨va,v⟩ [.int .i64 va,v.c,v.n,.slice A v.ks.length cap] G:=⟨_,rfl,h⟩
theorem mat_len:∀ (p:P) (v:V) (l:List Bd),P.mat p v=some l→l.length≤nodesP p:=P.ind fun op ct n m va ks ih v l h=>by
 have hs:∀ (ks:List P) (_:∀ k∈ks,∀ (v:V) (l:List Bd),P.mat k v=some l→l.length≤nodesP k) (vs:List V) (l:List Bd),P.mats ks vs=some l→l.length≤P.sizes ks:=by
  intro ks
  induction ks with
  |nil=>intro _ vs l h;rw [mats_nil] at h;cases h;exact Nat.zero_le _
  |cons k ks ih2 =>
   intro hk vs l h
   cases vs with
   |nil=>cases h
   |cons v vs =>
    rw [P.mats] at h
    cases hm:P.mat k v with
    |none=>rw [hm] at h;cases h
    |some a =>
     rw [hm] at h
     cases hn:P.mats ks vs with
     |none=>rw [hn] at h;cases h
     |some b =>
      rw [hn] at h
      cases h
      have h1:=hk k (by simp) v a hm
      have h2:=ih2 (fun x hx=>hk x (by simp [hx])) vs b hn
      have h3:P.sizes (k :: ks)=nodesP k+P.sizes ks:=by simp only [P.sizes,nodesP];omega
      rw [List.length_append,h3];omega
 have ho:∀ (ks:List P) (_:∀ k∈ks,∀ (v:V) (l:List Bd),P.mat k v=some l→l.length≤nodesP k) (v:V) (l:List Bd),P.mator ks v=some l→l.length≤P.sizes ks:=by
  intro ks
  induction ks with
  |nil=>intro _ v l h;cases h
  |cons k ks ih2 =>
   intro hk v l h
   have h3:P.sizes (k :: ks)=nodesP k+P.sizes ks:=by simp only [P.sizes,nodesP];omega
   rw [P.mator] at h
   cases hm:P.mat k v with
   |none =>
    rw [hm] at h
    have:=ih2 (fun x hx=>hk x (by simp [hx])) v l h
    rw [h3];omega
   |some a =>
    rw [hm] at h
    cases h
    have h1:=hk k (by simp) v _ hm
    rw [h3];omega
 have hn:nodesP ⟨op,ct,n,m,va,ks⟩=P.sizes ks+1:=rfl
 rw [P.mat] at h
 rw [hn]
 split at h
 ·cases h;exact Nat.zero_le _
 ·split at h
  ·cases h;simp
  ·split at h
   ·split at h
    ·cases h;exact Nat.zero_le _
    ·cases h
   ·split at h
    ·have:=ho ks ih v l h;omega
    ·split at h
     ·cases hm:P.mator ks v with
      |none=>rw [hm] at h;cases h
      |some a =>
       rw [hm] at h
       cases h
       have:=ho ks ih v a hm
       simp;omega
     ·split at h
      ·have:=hs ks ih v.ks l h;omega
      ·cases h
theorem under_ifA {α:Type} {w:World} {B k:Nat} {E:TypeId} {R:World→α→List Value→List Nat→Prop} {vs:List α} {v:Value} {F:List Nat} (h:Own w B E k R vs v F):Under w (if vs=[] then [] else rowOf v ++ F):=by
 by_cases hx:vs=[]
 ·rw [if_pos hx];exact Under.nil _
 ·rw [if_neg hx]
  intro b hb
  rcases List.mem_append.1 hb with hb | hb
  ·exact (h.row b hb).2
  ·exact h.under b hb
theorem shape_parts2 {xs:List Dt} {d:Nat} {t:Ty} {p:P} (h:shapeB xs (d+1) t p=true):ownB xs t p=true∧p.ks.length=(typesP xs t p).length∧∀ (i:Nat) (h1:i<(typesP xs t p).length) (h2:i<p.ks.length),shapeB xs d (typesP xs t p)[i] p.ks[i]=true:=by
 have h0:shapeB xs (d+1) t p=(ownB xs t p && (p.ks.length==(typesP xs t p).length && ((typesP xs t p).zip p.ks).all fun x=>shapeB xs d x.1 x.2)):=rfl
 rw [h0,Bool.and_eq_true,Bool.and_eq_true,beq_iff_eq,List.all_eq_true] at h
 refine ⟨h.1,h.2.1,fun i h1 h2=>?_⟩
 have hz:i<((typesP xs t p).zip p.ks).length:=by rw [List.length_zip];omega
 have:=h.2.2 _ (List.getElem_mem hz)
 rwa [List.getElem_zip] at this
theorem ops_of2 {xs:List Dt} {t:Ty} {p:P} (h:ownB xs t p=true):p.op=1∨p.op=2∨p.op=3∨p.op=4∨p.op=5∨p.op=6:=by
 unfold ownB kindB at h
 by_cases h3:p.op=3
 ·exact .inr (.inr (.inl h3))
 ·by_cases h4:p.op=4
  ·exact .inr (.inr (.inr (.inl h4)))
  ·rw [if_neg h3,if_neg h4] at h
   simp only [Bool.and_eq_true,Bool.or_eq_true,beq_iff_eq] at h
   rcases h.2.2.2 with h | h | h | h
   ·exact .inl h
   ·exact .inr (.inl h)
   ·exact .inr (.inr (.inr (.inr (.inl h))))
   ·exact .inr (.inr (.inr (.inr (.inr h))))
theorem zipAll_nth2 {f:Ty→V→Bool}:∀ {ls:List Ty} {ks:List V},zipAll f ls ks=true→∀ (i:Nat) (h1:i<ls.length) (h2:i<ks.length),f ls[i] ks[i]=true
 |_ :: _,_ :: _,h,0,_,_=>by rw [zipAll,Bool.and_eq_true] at h;exact h.1
 |_ :: ls,_ :: ks,h,i+1,h1,h2=>by
  rw [zipAll,Bool.and_eq_true] at h
  exact zipAll_nth2 h.2 i (by simpa using h1) (by simpa using h2)
theorem ctor_kids {xs:List Dt} {d e:Nat} {t:Ty} {p:P} {v:V} (hs:shapeB xs (d+1) t p=true) (hf:fitsV xs (e+1) t v=true) (h4:p.op=4) (hc:v.c=p.ct) :
  v.ks.length=p.ks.length∧∀ (i:Nat) (h1:i<p.ks.length) (h2:i<v.ks.length),∃ a,shapeB xs d a p.ks[i]=true∧fitsV xs e a v.ks[i]=true:=by
 obtain ⟨ho,hl,ha⟩:=shape_parts2 hs
 have hk:hasB (ctorsL xs t) p.ct=true:=by
  unfold ownB kindB at ho
  rw [if_neg (show ¬p.op=3 by omega),if_pos h4] at ho
  simp only [Bool.and_eq_true] at ho
  exact ho.2.2.2
 have hd:¬t.d = -1:=fun hd=>by
  unfold ctorsL at hk
  rw [if_pos hd] at hk
  cases hk
 have ht:typesP xs t p=argsOf xs t p.ct:=by unfold typesP;rw [if_pos h4]
 rw [zB1 hd] at hf
 simp only [Bool.and_eq_true,decide_eq_true_iff] at hf
 obtain ⟨-,-,h5,h6⟩:=hf
 rw [hc] at h5 h6
 refine ⟨by rw [h5,hl,ht],fun i h1 h2=>⟨(argsOf xs t p.ct)[i]'(by omega),?_,zipAll_nth2 h6 i (by omega) h2⟩⟩
 have:=ha i (by omega) h1
 simp only [ht] at this
 exact this
def MatS (p:P) (v:V) (bs:List Bd) (w:World) (e:Ending) (w':World):Prop:=∃ (x:Value) (ok:Bool) (F:List Nat),e=.returned (.tuple #[x,.bool ok])∧Below w w w'∧ok=(P.mat p v).isSome∧∀ l,P.mat p v=some l→Arr w' (BdR w') (bs ++ l) x F∧Under w'.heap.size F
def kidTo (ks:List V) (i:Nat):List V:=ks.take i
theorem kidTo_len (ks:List V) (i:Nat):(kidTo ks i).length≤i:=by unfold kidTo;rw [List.length_take];omega
theorem kidTo_succ (ks:List V) (i:Nat) (h:i<ks.length):kidTo ks (i+1)=kidTo ks i ++ [ks[i]]:=take_snoc' ks i h
theorem kidTo_all (ks:List V) {i:Nat} (h:ks.length≤i):kidTo ks i=ks:=List.take_of_length_le h
theorem V.sizes_mem2 (l:List V) (k:Nat) (h:k<l.length):l[k].size≤V.sizes l:=by
 have:=V.size_lt l k h
 omega
def CopyV (fn:FuncId) (v:V):Prop:=∀ (w:World) (cs:List Value) (G:List Nat),VR w v cs G→Under w G→v.size≤1048576 →
 Calls Tryz.prog fn #[.agg cs.toArray] w (MadeVt v w)
theorem push_free {w w1 w2:World} {v:Value} {F G:List Nat} {o:Obj} (hF:Free w F) (hFu:Under w F) (hb:Below w w w1) (hG:Free w1 G) (hGf:∀ b∈G,w.heap.size≤b∧b<w1.heap.size)
  (hg:(w1.alloc o).grownBy w2 v.ownBlock) (hv:∀ g∈rowOf v,g∉F) (hvl:∀ g∈rowOf v,g<w.heap.size):Free w2 (F ++ G):=by
 have h1:Under (w1.alloc o).heap.size (F ++ G):=fun b hb'=>by
  rw [World.size_alloc]
  rcases List.mem_append.1 hb' with h | h
  ·have:=hFu b h;have:=hb.size;omega
  ·have:=(hGf b h).2;omega
 have hkF:Kept F w (w1.alloc o):=fun b h=>(Below.heap_alloc _ _ _ (zz9 (hFu b h) hb.size)).trans (hb.block b (hFu b h))
 have hkG:Kept G w1 (w1.alloc o):=fun b h=>Below.heap_alloc _ _ _ (hGf b h).2
 have h2:Free (w1.alloc o) (F ++ G):=by
  refine ⟨List.nodup_append.2 ⟨hF.1,hG.1,fun a ha c hc hac=>?_⟩,fun b hb' i=>?_⟩
  ·subst hac
   exact Nat.lt_irrefl _ (zz9 (hFu _ ha) (hGf _ hc).1)
  ·rcases List.mem_append.1 hb' with h | h
   ·exact (hF.kept hkF).2 b h i
   ·exact (hG.kept hkG).2 b h i
 exact h2.kept (grown_kept hg h1 fun g hg hgF=>by
  rcases List.mem_append.1 hgF with h | h
  ·exact hv g hg h
  ·exact Nat.lt_irrefl _ (zz9 (hvl g hg) (hGf g h).1))
def sortB (bs:List Bd):List Bd:=(List.range 6).flatMap fun (n:Nat)=>bs.filter fun b=>b.var==(n:Int)
def sortTo (bs:List Bd) (n i:Nat):List Bd:=((List.range n).flatMap fun (n:Nat)=>bs.filter fun b=>b.var==(n:Int)) ++ (bs.take i).filter fun b=>b.var==(n:Int)
def matchB (xs:List Dt) (t:Ty) (p:P) (v:V):Bool:=patternValidB xs t p && (valueOkB xs t v && (P.mat p v).isSome)
def matchV (xs:List Dt) (t:Ty) (p:P) (v:V):List Bd:=if matchB xs t p v=true then sortB ((P.mat p v).getD []) else []
theorem matchV_no {xs:List Dt} {t:Ty} {p:P} {v:V} (h:matchB xs t p v=false):matchV xs t p v=[]:=if_neg (by simp [h])
def MadeBd (bs:List Bd) (b:Bool) (w:World) (e:Ending) (w':World):Prop:=∃ x F,e=.returned (.tuple #[x,.bool b])∧Below w w w'∧Arr w' (BdR w') bs x F∧Free w' F∧Fresh w w' F
theorem mat_small:∀ (p:P) (v:V) (l:List Bd),P.mat p v=some l→∀ b∈l,b.val.size≤v.size:=P.ind fun op ct n m va ks ih v l h=>by
 have hs:∀ (ks:List P) (_:∀ k∈ks,∀ (v:V) (l:List Bd),P.mat k v=some l→∀ b∈l,b.val.size≤v.size) (vs:List V) (l:List Bd),P.mats ks vs=some l→∀ b∈l,b.val.size≤V.sizes vs:=by
  intro ks
  induction ks with
  |nil=>intro _ vs l h;rw [mats_nil] at h;cases h;intro b hb;cases hb
  |cons k ks ih2 =>
   intro hk vs l h
   cases vs with
   |nil=>cases h
   |cons v vs =>
    rw [P.mats] at h
    have h3:V.sizes (v :: vs)=1+v.size+V.sizes vs:=by simp only [V.sizes]
    cases hm:P.mat k v with
    |none=>rw [hm] at h;cases h
    |some a =>
     rw [hm] at h
     cases hn:P.mats ks vs with
     |none=>rw [hn] at h;cases h
     |some b =>
      rw [hn] at h
      cases h
      intro x hx
      rw [h3]
      rcases List.mem_append.1 hx with hx | hx
      ·have:=hk k (by simp) v a hm x hx;omega
      ·have:=ih2 (fun y hy=>hk y (by simp [hy])) vs b hn x hx;omega
 have ho:∀ (ks:List P) (_:∀ k∈ks,∀ (v:V) (l:List Bd),P.mat k v=some l→∀ b∈l,b.val.size≤v.size) (v:V) (l:List Bd),P.mator ks v=some l→∀ b∈l,b.val.size≤v.size:=by
  intro ks
  induction ks with
  |nil=>intro _ v l h;cases h
  |cons k ks ih2 =>
   intro hk v l h
   rw [P.mator] at h
   cases hm:P.mat k v with
   |none=>rw [hm] at h;exact ih2 (fun y hy=>hk y (by simp [hy])) v l h
   |some a=>rw [hm] at h;cases h;exact hk k (by simp) v _ hm
 rw [P.mat] at h
 split at h
 ·cases h;intro b hb;cases hb
 ·split at h
  ·cases h;intro b hb;rw [List.mem_singleton.1 hb];exact zz8 _
  ·split at h
   ·split at h
    ·cases h;intro b hb;cases hb
    ·cases h
   ·split at h
    ·exact ho ks ih v l h
    ·split at h
     ·cases hm:P.mator ks v with
      |none=>rw [hm] at h;cases h
      |some a =>
       rw [hm] at h
       cases h
       intro b hb
       rcases List.mem_cons.1 hb with e | e
       ·rw [e];exact zz8 _
       ·exact ho ks ih v a hm b e
     ·split at h
      ·intro b hb
       have h1:=hs ks ih v.ks l h b hb
       have h2:v.size=V.sizes v.ks:=by obtain ⟨a,b,c⟩:=v;rfl
       omega
      ·cases h
mutual
def V.same:V→V→Bool
 |⟨c,n,ks⟩,⟨c',n',ks'⟩=>(c==c') && (n==n') && V.sames ks ks'
def V.sames:List V→List V→Bool
 |[],[]=>true
 |x :: xs,y :: ys=>V.same x y && V.sames xs ys
 |[],_ :: _=>false
 |_ :: _,[]=>false
end
theorem V.sames_iff_of (ks:List V) (h:∀ k∈ks,∀ b,V.same k b=true↔k=b):∀ ks',V.sames ks ks'=true↔ks=ks':=by
 induction ks with
 |nil=>intro ks';cases ks' <;> simp [V.sames]
 |cons x xs ih =>
  intro ks'
  cases ks' with
  |nil=>simp [V.sames]
  |cons y ys =>
   simp only [V.sames,Bool.and_eq_true,List.cons.injEq]
   rw [h x (by simp) y,ih (fun k hk=>h k (by simp [hk])) ys]
theorem V.same_iff:∀ a b:V,V.same a b=true↔a=b:=V.ind fun c n ks ih b=>by
 obtain ⟨c',n',ks'⟩:=b
 simp only [V.same,Bool.and_eq_true,V.sames_iff_of ks ih,beq_iff_eq,V.mk.injEq,and_assoc]
theorem V.same_false {a b:V} (h:a≠b):V.same a b=false:=by
 rw [Bool.eq_false_iff]
 exact fun e=>h ((V.same_iff a b).1 e)
theorem allP_pats {xs:List Dt} {d:Nat}:∀ (ls:List Ty) (ks:List V),ls.length=ks.length→(∀ a∈ls,∀ k,fitsV xs d a k=true→shapeB xs d a (patOf k)=true∧linB xs d a (patOf k)=true∧varsN xs d a (patOf k)=[])→zipAll (fitsV xs d) ls ks=true →
  ((ls.zip (ks.map patOf)).all fun x=>shapeB xs d x.1 x.2)=true∧((ls.zip (ks.map patOf)).all fun x=>linB xs d x.1 x.2)=true∧((ls.zip (ks.map patOf)).flatMap fun x=>varsN xs d x.1 x.2)=[]
 |[],[],_,_,_=>⟨rfl,rfl,rfl⟩
 |a :: ls,k :: ks,hl,h,hz=>by
  rw [zipAll,Bool.and_eq_true] at hz
  obtain ⟨h1,h2,h3⟩:=h a (by simp) k hz.1
  obtain ⟨h4,h5,h6⟩:=allP_pats ls ks (by simpa using hl) (fun x hx=>h x (by simp [hx])) hz.2
  rw [List.map_cons,List.zip_cons_cons]
  refine ⟨?_,?_,?_⟩
  ·rw [List.all_cons,Bool.and_eq_true];exact ⟨h1,h4⟩
  ·rw [List.all_cons,Bool.and_eq_true];exact ⟨h2,h5⟩
  ·rw [List.flatMap_cons,h6];show varsN xs d a (patOf k) ++ []=[];rw [h3];rfl
 |[],_ :: _,hl,_,_=>by cases hl
 |_ :: _,[],hl,_,_=>by cases hl
theorem patOf_shape {xs:List Dt} (hw:WorldOK xs):∀ (d:Nat) (t:Ty) (v:V),TyIn xs.length t→fitsV xs d t v=true→shapeB xs d t (patOf v)=true∧linB xs d t (patOf v)=true∧varsN xs d t (patOf v)=[]
 |0,_,_,_,h=>by cases h
 |d+1,t,v,ht,h=>by
  rcases ht with ht | ⟨q,r,rfl,hql,hrl⟩
  ·rw [zB9 ht] at h
   unfold isNum at h
   simp only [Bool.and_eq_true,beq_iff_eq,zA8] at h
   rw [patOf_num h.1]
   have h0:=h.2.1.1
   have h9:=h.2.1.2
   have e:varsN xs (d+1) t ⟨3,0,v.n,v.n,0,[]⟩=[]:=by rw [varsN_def];unfold namedB kidsV;simp
   refine ⟨?_,?_,e⟩
   ·rw [shapeB_def]
    unfold ownB namedB kindB typesP kidsN
    simp [ht,h0,h9]
   ·rw [linB_def,e]
    simp [dupFree]
  ·obtain ⟨k,hvc,hkl,h1,h2,h3⟩:=fits_parts hql h
   have hty:typesP xs ⟨(q:Int),(r:Int)⟩ ⟨4,v.c,0,0,0,v.ks.map patOf⟩=argsL xs[q].ctors[k] (r:Int):=by
    unfold typesP
    rw [if_pos rfl]
    show argsOf xs _ v.c=_
    rw [hvc,zAF hql hkl]
   obtain ⟨z1,z2,z3⟩:=allP_pats (argsL xs[q].ctors[k] (r:Int)) v.ks h2.symm (fun a ha k' hk'=>patOf_shape hw d a k' (argTy_in (hw.ctor hql hkl) (by omega) (by omega) ha) hk') h3
   rw [patOf_ctor (by omega)]
   have e:varsN xs (d+1) ⟨(q:Int),(r:Int)⟩ ⟨4,v.c,0,0,0,v.ks.map patOf⟩=[]:=by
    rw [varsN_def]
    unfold namedB kidsV
    rw [hty]
    show [] ++ (((argsL xs[q].ctors[k] (r:Int)).zip (v.ks.map patOf)).take (v.ks.map patOf).length).flatMap _=[]
    rw [List.take_of_length_le (by simp;omega),List.nil_append]
    exact z3
   refine ⟨?_,?_,e⟩
   ·rw [shapeB_def,hty,Bool.and_eq_true,Bool.and_eq_true]
    refine ⟨?_,?_,z1⟩
    ·unfold ownB namedB kindB
     simp [h1]
    ·simp [h2]
   ·rw [linB_def,hty,e,Bool.and_eq_true]
    refine ⟨z2,?_⟩
    simp [dupFree]
theorem patOf_valid {xs:List Dt} {t:Ty} {v:V} (h:valueValidB xs t v=true):patternValidB xs t (patOf v)=true:=by
 obtain ⟨hw,ht,hf,hn⟩:=valid_parts h
 obtain ⟨h1,h2,-⟩:=patOf_shape hw 10 t v ht hf
 have h3:=patOf_size v
 unfold patternValidB patOkB
 unfold valueValidB at h
 rw [Bool.and_eq_true] at h
 rw [h.1,h1,h2]
 simp only [Bool.true_and,Bool.and_true,decide_eq_true_iff]
 unfold nodesP
 unfold nodes at hn
 omega
theorem mats_pats {xs:List Dt} {d:Nat}:∀ (ls:List Ty) (ks us:List V),ls.length=ks.length→ls.length=us.length→(∀ a∈ls,∀ k u,fitsV xs d a k=true→fitsV xs d a u=true→(k=u→P.mat (patOf k) u=some [])∧(k≠u→P.mat (patOf k) u=none)) →
  zipAll (fitsV xs d) ls ks=true→zipAll (fitsV xs d) ls us=true→(ks=us→P.mats (ks.map patOf) us=some [])∧(ks≠us→P.mats (ks.map patOf) us=none)
 |[],[],[],_,_,_,_,_=>⟨fun _=>rfl,fun h=>absurd rfl h⟩
 |a :: ls,k :: ks,u :: us,h1,h2,h,hz,hy=>by
  rw [zipAll,Bool.and_eq_true] at hz hy
  obtain ⟨e1,n1⟩:=h a (by simp) k u hz.1 hy.1
  obtain ⟨e2,n2⟩:=mats_pats ls ks us (by simpa using h1) (by simpa using h2) (fun x hx=>h x (by simp [hx])) hz.2 hy.2
  rw [List.map_cons,P.mats]
  refine ⟨fun e=>?_,fun e=>?_⟩
  ·obtain ⟨ea,eb⟩:=List.cons.inj e
   rw [e1 ea,e2 eb];rfl
  ·by_cases ea:k=u
   ·have eb:ks≠us:=fun eb=>e (by rw [ea,eb])
    rw [e1 ea,n2 eb]
   ·rw [n1 ea]
 |[],_ :: _,_,h,_,_,_,_=>by cases h
 |_ :: _,[],_,h,_,_,_,_=>by cases h
 |[],[],_ :: _,_,h,_,_,_=>by cases h
 |_ :: _,_ :: _,[],_,h,_,_,_=>by cases h
theorem mat_patOf {xs:List Dt} (hw:WorldOK xs):∀ (d:Nat) (t:Ty) (v u:V),TyIn xs.length t→fitsV xs d t v=true→fitsV xs d t u=true→(v=u→P.mat (patOf v) u=some [])∧(v≠u→P.mat (patOf v) u=none)
 |0,_,_,_,_,h,_=>by cases h
 |d+1,t,v,u,ht,hv,hu=>by
  rcases ht with ht | ⟨q,r,rfl,hql,hrl⟩
  ·rw [zB9 ht] at hv hu
   unfold isNum at hv hu
   simp only [Bool.and_eq_true,beq_iff_eq,decide_eq_true_iff,List.length_eq_zero_iff] at hv hu
   rw [patOf_num hv.1,mat_3 (p:=⟨3,0,v.n,v.n,0,[]⟩) rfl]
   have ev:v=⟨-1,v.n,[]⟩:=by obtain ⟨c,n,ks⟩:=v;simp only at hv ⊢;rw [hv.1,hv.2.2]
   have eu:u=⟨-1,u.n,[]⟩:=by obtain ⟨c,n,ks⟩:=u;simp only at hu ⊢;rw [hu.1,hu.2.2]
   refine ⟨fun e=>?_,fun e=>?_⟩
   ·rw [if_pos ((zA8 _ _ _).2 (by rw [e];exact ⟨Int.le_refl _,Int.le_refl _⟩))]
   ·rw [if_neg fun hh=>?_]
    have h1:=(zA8 _ _ _).1 hh
    exact e (by rw [ev,eu,show v.n=u.n from by have:=h1.1;have:=h1.2;simp only at *;omega])
  ·have hv0:v.n=0:=by rw [zB1 (by show ¬((q:Int) = -1);omega),Bool.and_eq_true,beq_iff_eq] at hv;exact hv.1
   have hu0:u.n=0:=by rw [zB1 (by show ¬((q:Int) = -1);omega),Bool.and_eq_true,beq_iff_eq] at hu;exact hu.1
   obtain ⟨k,hvc,hkl,h1,h2,h3⟩:=fits_parts hql hv
   obtain ⟨k',huc,hkl',g1,g2,g3⟩:=fits_parts hql hu
   rw [patOf_ctor (by omega),mat_4 (p:=⟨4,v.c,0,0,0,v.ks.map patOf⟩) rfl]
   by_cases hc:u.c=v.c
   ·obtain rfl:k=k':=by omega
    have ih:=mats_pats (argsL xs[q].ctors[k] (r:Int)) v.ks u.ks h2.symm g2.symm (fun a ha x y hx hy=>mat_patOf hw d a x y (argTy_in (hw.ctor hql hkl) (by omega) (by omega) ha) hx hy) h3 g3
    rw [if_pos hc]
    refine ⟨fun e=>ih.1 (by rw [e]),fun e=>ih.2 fun e2=>e ?_⟩
    obtain ⟨c,n,ks⟩:=v
    obtain ⟨c',n',ks'⟩:=u
    simp only at *
    rw [hc,hv0,hu0,e2]
   ·rw [if_neg hc]
    exact ⟨fun e=>absurd (by rw [e]) hc,fun _=>rfl⟩
theorem match_patOf {xs:List Dt} {t:Ty} {v:V} (u:V) (h:valueValidB xs t v=true):matchB xs t (patOf v) u=V.same u v:=by
 obtain ⟨hw,ht,hf,hn⟩:=valid_parts h
 unfold matchB
 rw [patOf_valid h,Bool.true_and]
 by_cases e:u=v
 ·subst e
  unfold valueValidB at h
  rw [Bool.and_eq_true] at h
  rw [h.2,(mat_patOf hw 10 t u u ht hf hf).1 rfl,(V.same_iff u u).2 rfl]
  rfl
 ·have hs:V.same u v=false:=by
   cases hc:V.same u v with
   |false=>rfl
   |true=>exact absurd ((V.same_iff u v).1 hc) e
  rw [hs]
  cases ho:valueOkB xs t u with
  |false=>rfl
  |true =>
   unfold valueOkB at ho
   rw [Bool.and_eq_true] at ho
   rw [(mat_patOf hw 10 t v u ht hf ho.1).2 fun e2=>e e2.symm]
   rfl
theorem matchV_patOf {xs:List Dt} {t:Ty} {v:V} (h:valueValidB xs t v=true):matchV xs t (patOf v) v=[]:=by
 obtain ⟨hw,ht,hf,hn⟩:=valid_parts h
 unfold matchV
 rw [if_pos (by rw [match_patOf v h];exact (V.same_iff v v).2 rfl),(mat_patOf hw 10 t v v ht hf hf).1 rfl]
 rfl
theorem pT_pats {xs:List Dt} {d:Nat}:∀ (ls:List Ty) (ks:List V),(∀ a∈ls,∀ k,fitsV xs d a k=true→pT xs d a (patOf k)=vT xs d a k)→zipAll (fitsV xs d) ls ks=true→List.zipWith (pT xs d) ls (ks.map patOf)=List.zipWith (vT xs d) ls ks
 |[],_,_,_=>by simp
 |_ :: _,[],_,_=>by simp
 |a :: ls,k :: ks,h,hz=>by
  rw [zipAll,Bool.and_eq_true] at hz
  rw [List.map_cons,List.zipWith_cons_cons,List.zipWith_cons_cons,h a (by simp) k hz.1,pT_pats ls ks (fun x hx=>h x (by simp [hx])) hz.2]
theorem pT_patOf {xs:List Dt} (hw:WorldOK xs):∀ (d:Nat) (t:Ty) (v:V),TyIn xs.length t→fitsV xs d t v=true→pT xs d t (patOf v)=vT xs d t v
 |0,_,_,_,h=>by cases h
 |d+1,t,v,ht,h=>by
  rcases ht with ht | ⟨q,r,rfl,hql,hrl⟩
  ·rw [zB9 ht] at h
   unfold isNum at h
   simp only [Bool.and_eq_true,beq_iff_eq] at h
   rw [patOf_num h.1,pT_succ,nodeT_3 rfl,if_pos rfl,vT_int ht]
  ·obtain ⟨k,hvc,hkl,h1,h2,h3⟩:=fits_parts hql h
   have hty:typesP xs ⟨(q:Int),(r:Int)⟩ ⟨4,v.c,0,0,0,v.ks.map patOf⟩=argsOf xs ⟨(q:Int),(r:Int)⟩ v.c:=by
    unfold typesP
    rw [if_pos rfl]
   rw [patOf_ctor (by omega),pT_succ,nodeT_4 rfl,hty,vT_data (by show ¬((q:Int) = -1);omega)]
   have hz:zipAll (fitsV xs d) (argsOf xs ⟨(q:Int),(r:Int)⟩ v.c) v.ks=true:=by rw [hvc,zAF hql hkl];exact h3
   have hl:v.ks.length=(argsOf xs ⟨(q:Int),(r:Int)⟩ v.c).length:=by rw [hvc,zAF hql hkl];exact h2
   rw [pT_pats _ _ (fun a ha k' hk'=>pT_patOf hw d a k' (by rw [hvc,zAF hql hkl] at ha;exact argTy_in (hw.ctor hql hkl) (by omega) (by omega) ha) hk') hz]
   rw [List.length_zipWith,hl,Nat.min_self]
theorem text_patOf {xs:List Dt} {t:Ty} {v:V} (h:valueValidB xs t v=true):fmtP xs t (patOf v)=fmtV xs t v:=by
 obtain ⟨hw,ht,hf,hn⟩:=valid_parts h
 unfold fmtP fmtV
 rw [if_pos (patOf_valid h),if_pos h,pT_patOf hw 10 t v ht hf]
theorem run_app_void {P:Program} {w:World} (t ty e:TypeId) (i:TypeInfo) (ht:P.underlying t=some (.slice e)) (hi:P.info? e=some i) (A0:Option Addr) (n cap c:Nat) (hle:n≤cap) :
  (Builtin.append_ #[t,t] ty #[.slice A0 n cap,.slice none 0 c]).run P w=.ok (.slice A0 n cap) w:=by
 cases A0 <;> simp [Builtin.append_,run_underlying ht,sizeOf,typeInfo,hi,Builtin.lenOf,Builtin.firstCells,storeCells,hle]
theorem VtR_ones {w:World}:∀ {ys:List Vt} {cs:List Value} {G:List Nat},Flat (VtR w) ys cs G→∀ u∈cs,u.oneCell'=true
 |[],cs,G,h=>by rw [h.1];intro u hu;cases hu
 |y :: ys,cs,G,h=>by
  obtain ⟨c1,c2,F1,F2,rfl,rfl,h1,h2⟩:=h
  obtain ⟨rfl,rfl⟩:=h1
  intro u hu
  rcases List.mem_append.1 hu with h | h
  ·simp at h
   rcases h with rfl | rfl | rfl <;> rfl
  ·exact VtR_ones h2 u h
theorem run_append_vars {P:Program} {w:World} {B:Nat} {E:TypeId} (t ty:TypeId) (i:TypeInfo) (z:Value) (bytes:Nat) (ht:P.underlying t=some (.slice E)) (hi:P.info? E=some i) (hz:i.zero=some z)
  (hsize:i.size=3) (hby:i.bytes=bytes) (hzs:z.cells.size=3) {xs:List Vt} {v:Value}
  (hown:Own w B E 3 VtR xs v []) {ys:List Vt} {A:Option Addr} {n c:Nat} {F:List Nat} (hy:Arr w (VtR w) ys (.slice A n c) F)
  (h63:xs.length+ys.length≤maxLen) (hbytes:(xs.length+ys.length)*bytes≤140737488355328) (hbase:B≤w.heap.size) :
  ∃ v' w',(Builtin.append_ #[t,t] ty #[v,.slice A n c]).run P w=.ok v' w'∧Own w' B E 3 VtR (xs ++ ys) v' []∧w.grownBy w' v.ownBlock∧∀ b∈rowOf v',b∈rowOf v∨w.heap.size≤b:=by
 obtain ⟨A',c',hv,h1,h2,h3⟩:=hy
 cases hv
 have hrow:∀ {v':Value},(v'.ownBlock=v.ownBlock∨v'.ownBlock=some w.heap.size)→∀ b∈rowOf v',b∈rowOf v∨w.heap.size≤b:=fun {v'} h b hb=>by
  have hb:=zA1.1 hb
  rcases h with h | h
  ·left;rw [h] at hb;exact zA1.2 hb
  ·right;rw [h] at hb;have:=Option.some.inj hb;omega
 rcases h3 with ⟨rfl,-⟩ | ⟨b,off,cs,G,rfl,hc,hf,-⟩
 ·cases A with
  |none =>
   obtain ⟨A0,cap,rfl,hc1,hc2⟩:=hown.form
   exact ⟨_,w,run_app_void t ty E i ht hi A0 _ cap c hc1,by rw [List.append_nil];exact hown,⟨rfl,rfl,rfl,zz8 _,fun _ _ _=>rfl⟩,fun b hb=>.inl hb⟩
  |some a =>
   obtain ⟨cs,o1,o2,o3,o4⟩:=hown
   obtain ⟨v',w',hr,q1,q2,q3,q4⟩:=run_append_own_at (P:=P) w B t ty E i z 3 bytes ht hi hz hsize hby hzs (by decide) _ xs.length cs o1 a 0 c [] (by simp) (fun j u h=>by simp at h) (fun u h=>by cases h) (by simpa using h63) (by simpa using hbytes) hbase
   exact ⟨v',w',hr,⟨cs,by simpa using q1,by rw [List.append_nil];exact o2,Under.nil _,fun g _ h=>by cases h⟩,q2,hrow q4⟩
 ·obtain ⟨cs0,o1,o2,o3,o4⟩:=hown
  have hl:cs.length=ys.length*3:=hf.length (VtR_len w)
  have hG:=hf.nilF (fun x cs G h=>h.2)
  subst hG
  obtain ⟨v',w',hr,q1,q2,q3,q4⟩:=run_append_own_at (P:=P) w B t ty E i z 3 bytes ht hi hz hsize hby hzs (by decide) _ xs.length cs0 o1 ⟨b,off,none⟩ ys.length c cs hl (fun j u hj=>by rw [Addr.add_lit];exact hc j u hj) (VtR_ones hf) h63 hbytes hbase
  refine ⟨v',w',hr,⟨cs0 ++ cs,by rw [List.length_append];exact q1,?_,Under.nil _,fun g _ h=>by cases h⟩,q2,hrow q4⟩
  have h:=Flat.append o2 hf
  exact h
theorem zAQ {P:Program} {w:World} {ops:Array Oper} {rest:List Oper} {o:Oper} {a:Act} {Q:Exit→Act→World→Prop} (hgd:o.guard=none) (s x:Operand) (t:TypeId)
  (ho:o.op=.call { callee:=.builtin .append,args:=#[s,x],argTypes:=#[t,t] }) {sv xv v':Value} {w':World} (hs:a.eval s=sv) (hx:a.eval x=xv)
  (hr:(Builtin.append_ #[t,t] o.type #[sv,xv]).run P w=.ok v' w') (h:wpList P ops Q rest (a.put o.dst v') w'):wpList P ops Q (o :: rest) a w:=by
 refine wpList_plain hgd fun K hK=>?_
 unfold Oper.wp execOp
 simp only [ho,resolve,invoke,builtin,Sem.run_bind,Sem.run_pure,Result.andThen_ok,List.map_toArray,List.map_cons,List.map_nil,hs,hx,hr]
 exact hK _ _ h
end Go.Proofs.YtjjclcmmfeegfaaGreatDoor
