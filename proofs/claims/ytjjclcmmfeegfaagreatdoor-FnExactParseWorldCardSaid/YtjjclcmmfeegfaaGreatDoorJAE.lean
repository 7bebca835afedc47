/-
  Lemmas, and contracts of functions. Conditions: none.
-/
import Derived.Test.YtjjclcmmfeegfaaGreatDoorJAD
import Derived.Test.YtjjclcmmfeegfaaGreatDoorChecked
import Derived.Deep.RegionHeld3
import Derived.Test.YtjjclcmmfeegfaaGreatDoorJAA
import Derived.Test.YtjjclcmmfeegfaaGreatDoorJAB
import Derived.Laws.BytesArg
import Derived.Deep.RegionWith
import Derived.Test.YtjjclcmmfeegfaaGreatDoorJAC
import Derived.Handed
import Derived.LaidLaws
import Derived.FnData
import Derived.Shelf.Vars
import Derived.ProofKit
import Derived.LaidMore

set_option linter.unusedVariables false
set_option linter.unusedSimpArgs false
set_option maxRecDepth 100000
set_option maxHeartbeats 1600000

namespace Go.Proofs.YtjjclcmmfeegfaaGreatDoor
open Go.RowKit
set_option maxHeartbeats 800000 in
theorem eqTypeS_any (ks:List Ty) (w:World) (F F2:List Nat) (x y:Value) (hx:Arr w (TyR w) ks x F) (hy:Arr w (TyR w) ks y F2) (hF:Under w F) (hF2:Under w F2) :
  Calls Tryz.prog 187 #[x,y] w fun e w'=>e=.returned (.bool true)∧Below w w w':=by
 have HX:=jj hx
 have HY:=jj hy
 obtain ⟨A,cap,rfl,hl,hm⟩:=hx.form
 obtain ⟨A',cap',rfl,hl',hm'⟩:=hy.form
 clear hx hy
 have HF:=jj hF
 have HF2:=jj hF2
 clear hF hF2
 go_enter Tryz.func187,Tryz.ntmps187
 go_wp2
 go_loopw [5] (fun i wr=>∃ k:Nat,k≤ks.length∧i=.int .i64 k∧Below w w wr) (fun i _=>ks.length-(intOf i).toNat)
 case atStart=>exact ⟨0,Nat.zero_le _,rfl,zy2 _ _⟩
 case round =>
  obtain ⟨k,hk,rfl,hB⟩:=hrel
  have hBs:=hB.size
  by_cases hlt:k<ks.length
  ·obtain ⟨b,off,cs,G,rfl,hb,hcs,hvc,hG⟩:=HX.out.get TyR_len hlt
   have hbl:=HF.out b hb
   have hGFc:=HF.out.sub hG
   have hwc:=hvc.below hB hGFc
   have hcsc:=hcs.same (hB.block b hbl)
   obtain rfl:=TyR_form hvc
   have c0:=hcsc 0 _ rfl
   have c1:=hcsc 1 _ rfl
   simp only [Nat.add_zero] at c0
   clear hcs hcsc hvc hG
   have HV:=jj hwc
   clear hwc
   have HG:=jj hGFc
   clear hGFc
   obtain ⟨b2,off2,ds,G2,rfl,hb2,hds,hvd,hG2⟩:=HY.out.get TyR_len hlt
   have hbl2:=HF2.out b2 hb2
   have hGFd:=HF2.out.sub hG2
   have hwd:=hvd.below hB hGFd
   have hcsd:=hds.same (hB.block b2 hbl2)
   obtain rfl:=TyR_form hvd
   have d0:=hcsd 0 _ rfl
   have d1:=hcsd 1 _ rfl
   simp only [Nat.add_zero] at d0
   clear hds hcsd hvd hG2
   have HV2:=jj hwd
   clear hwd
   have HG2:=jj hGFd
   clear hGFd
   go_wp2_with fail
   have hkeep:∀ U U':World,(U.cell? ⟨b,off+k*2,none⟩=ks[k].d∧U.cell? ⟨b,off+k*2+1,none⟩=ks[k].i∧U.cell? ⟨b2,off2+k*2,none⟩=ks[k].d∧U.cell? ⟨b2,off2+k*2+1,none⟩=ks[k].i)→Below U U U'→wr.heap.size≤U.heap.size→(U'.cell? ⟨b,off+k*2,none⟩=ks[k].d∧U'.cell? ⟨b,off+k*2+1,none⟩=ks[k].i∧U'.cell? ⟨b2,off2+k*2,none⟩=ks[k].d∧U'.cell? ⟨b2,off2+k*2+1,none⟩=ks[k].i):=fun U U' h hb hU=>⟨(hb.cell (zz9 (show b<wr.heap.size from by omega) hU)).trans h.1,(hb.cell (zz9 (show b<wr.heap.size from by omega) hU)).trans h.2.1,(hb.cell (zz9 (show b2<wr.heap.size from by omega) hU)).trans h.2.2.1,(hb.cell (zz9 (show b2<wr.heap.size from by omega) hU)).trans h.2.2.2⟩
   have HKeep:=jj hkeep
   clear hkeep
   go_region_held3 (fun w'=>w'.cell? ⟨b,off+k*2,none⟩=ks[k].d∧w'.cell? ⟨b,off+k*2+1,none⟩=ks[k].i∧w'.cell? ⟨b2,off2+k*2,none⟩=ks[k].d∧w'.cell? ⟨b2,off2+k*2+1,none⟩=ks[k].i) (first | assumption | (exact ⟨c0,c1,d0,d1⟩) | (exact HKeep.out wr.drew w' ⟨c0,c1,d0,d1⟩ hB' (zz8 _))) (first | (go_at_call 217;((with_reducible refine (eqType_any ks[k] _ _ _ G G2 HV.out.drew HV2.out.drew (Under.drew (HG.out.mono hB.size)) (Under.drew (HG2.out.mono hB.size))).mono ?_);rintro e w' ⟨rfl,hB'⟩)))
   have hB3:=hB.drew.trans (hB'.mono hB.size)
   go_wp2
   go_roundw
   case rel=>exact ⟨k+1,by omega,by go_num,hB3⟩
   case measure=>simp [intOf];omega
  ·go_wp2
   go_ret
   exact ⟨rfl,hB⟩
set_option maxHeartbeats 400000 in
theorem eqCtor_any (x:Kt) (w:World) (cs ds:List Value) (F F2:List Nat) (hv:KtR w x cs F) (hv2:KtR w x ds F2) (hF:Under w F) (hF2:Under w F2) :
  Calls Tryz.prog 149 #[.agg cs.toArray,.agg ds.toArray] w fun e w'=>e=.returned (.bool true)∧Below w w w':=by
 obtain ⟨kv,rfl,ha,hs0⟩:=hv
 have HA:=jj ha
 obtain ⟨A,cap,rfl,-,-⟩:=ha.form
 clear ha
 obtain ⟨kv',rfl,hb,hs20⟩:=hv2
 have HA2:=jj hb
 obtain ⟨A',cap',rfl,-,-⟩:=hb.form
 clear hb
 have ne_idx:(x.idx != x.idx)=false:=by simp
 have HF:=jj hF
 have HF2:=jj hF2
 clear hF hF2
 go_enter Tryz.func149,Tryz.ntmps149
 go_wp2_with fail
 obtain ⟨W2,hW2⟩:∃ W2,W2=(w.alloc (.cells #[.string x.name,.slice A x.args.length cap,x.idx] 67)).alloc (.cells #[.string x.name,.slice A' x.args.length cap',x.idx] 67):=⟨_,rfl⟩
 have hB2:Below w w W2:=by rw [hW2];exact ((zy2 _ _).alloc (zz8 _) _).alloc (by simp) _
 have hz2:w.heap.size+2≤W2.heap.size:=by rw [hW2];simp
 have b0:Blk W2 w 67 #[.string x.name,.slice A x.args.length cap,x.idx]:=by rw [hW2];exact (Blk.new w _ _).same (Below.heap_alloc _ _ _ (by simp))
 have b1:Blk W2 (w.heap.size+1) 67 #[.string x.name,.slice A' x.args.length cap',x.idx]:=by rw [hW2];have:=Blk.new (w.alloc (.cells #[.string x.name,.slice A x.args.length cap,x.idx] 67)) 67 #[.string x.name,.slice A' x.args.length cap',x.idx];simpa using this
 rw [←hW2]
 clear hW2
 refine (eqTypeS_any x.args W2 F F2 _ _ (ArrTy.below HA.out hB2 HF.out) (ArrTy.below HA2.out hB2 HF2.out) (HF.out.mono hB2.size) (HF2.out.mono hB2.size)).mono ?_
 rintro e V0 ⟨rfl,hb0⟩
 have hB3:=hB2.trans (hb0.mono hB2.size)
 have m0:=b0.same (hb0.block _ b0.lt)
 have m1:=b1.same (hb0.block _ b1.lt)
 clear b0 b1
 have b0:=m0
 have b1:=m1
 clear m0 m1 hb0
 have a0:V0.cell? ⟨w,0,none⟩=some (.string x.name):=(b0.cell 0).trans (by simp)
 have c0:V0.cell? ⟨w.heap.size+1,0,none⟩=some (.string x.name):=(b1.cell 0).trans (by simp)
 have a1:V0.cell? ⟨w,1,none⟩=some (.slice A x.args.length cap):=(b0.cell 1).trans (by simp)
 have c1:V0.cell? ⟨w.heap.size+1,1,none⟩=some (.slice A' x.args.length cap'):=(b1.cell 1).trans (by simp)
 have a2:V0.cell? ⟨w,2,none⟩=x.idx:=(b0.cell 2).trans (by simp)
 have c2:V0.cell? ⟨w.heap.size+1,2,none⟩=x.idx:=(b1.cell 2).trans (by simp)
 clear b0 b1
 go_wp2
 go_ret
 exact ⟨rfl,hB3⟩
set_option maxHeartbeats 800000 in
theorem eqCtorS_any (ks:List Kt) (w:World) (F F2:List Nat) (x y:Value) (hx:Arr w (KtR w) ks x F) (hy:Arr w (KtR w) ks y F2) (hF:Under w F) (hF2:Under w F2) :
  Calls Tryz.prog 99 #[x,y] w fun e w'=>e=.returned (.bool true)∧Below w w w':=by
 have HX:=jj hx
 have HY:=jj hy
 obtain ⟨A,cap,rfl,hl,hm⟩:=hx.form
 obtain ⟨A',cap',rfl,hl',hm'⟩:=hy.form
 clear hx hy
 have HF:=jj hF
 have HF2:=jj hF2
 clear hF hF2
 go_enter Tryz.func99,Tryz.ntmps99
 go_wp2
 go_loopw [5] (fun i wr=>∃ k:Nat,k≤ks.length∧i=.int .i64 k∧Below w w wr) (fun i _=>ks.length-(intOf i).toNat)
 case atStart=>exact ⟨0,Nat.zero_le _,rfl,zy2 _ _⟩
 case round =>
  obtain ⟨k,hk,rfl,hB⟩:=hrel
  have hBs:=hB.size
  by_cases hlt:k<ks.length
  ·obtain ⟨b,off,cs,G,rfl,hb,hcs,hvc,hG⟩:=HX.out.get KtR_len hlt
   have hbl:=HF.out b hb
   have hGFc:=HF.out.sub hG
   have hwc:=hvc.below hB hGFc
   have hcsc:=hcs.same (hB.block b hbl)
   obtain ⟨A1,cap1,rfl⟩:=KtR_form hvc
   have c0:=hcsc 0 _ rfl
   have c1:=hcsc 1 _ rfl
   have c2:=hcsc 2 _ rfl
   simp only [Nat.add_zero] at c0
   clear hcs hcsc hvc hG
   have HV:=jj hwc
   clear hwc
   have HG:=jj hGFc
   clear hGFc
   obtain ⟨b2,off2,ds,G2,rfl,hb2,hds,hvd,hG2⟩:=HY.out.get KtR_len hlt
   have hbl2:=HF2.out b2 hb2
   have hGFd:=HF2.out.sub hG2
   have hwd:=hvd.below hB hGFd
   have hcsd:=hds.same (hB.block b2 hbl2)
   obtain ⟨A2,cap2,rfl⟩:=KtR_form hvd
   have d0:=hcsd 0 _ rfl
   have d1:=hcsd 1 _ rfl
   have d2:=hcsd 2 _ rfl
   simp only [Nat.add_zero] at d0
   clear hds hcsd hvd hG2
   have HV2:=jj hwd
   clear hwd
   have HG2:=jj hGFd
   clear hGFd
   go_wp2_with fail
   have hkeep:∀ U U':World,(U.cell? ⟨b,off+k*3,none⟩=some (.string ks[k].name)∧U.cell? ⟨b,off+k*3+1,none⟩=some (.slice A1 ks[k].args.length cap1)∧U.cell? ⟨b,off+k*3+2,none⟩=ks[k].idx∧U.cell? ⟨b2,off2+k*3,none⟩=some (.string ks[k].name)∧U.cell? ⟨b2,off2+k*3+1,none⟩=some (.slice A2 ks[k].args.length cap2)∧U.cell? ⟨b2,off2+k*3+2,none⟩=ks[k].idx)→Below U U U'→wr.heap.size≤U.heap.size→(U'.cell? ⟨b,off+k*3,none⟩=some (.string ks[k].name)∧U'.cell? ⟨b,off+k*3+1,none⟩=some (.slice A1 ks[k].args.length cap1)∧U'.cell? ⟨b,off+k*3+2,none⟩=ks[k].idx∧U'.cell? ⟨b2,off2+k*3,none⟩=some (.string ks[k].name)∧U'.cell? ⟨b2,off2+k*3+1,none⟩=some (.slice A2 ks[k].args.length cap2)∧U'.cell? ⟨b2,off2+k*3+2,none⟩=ks[k].idx):=fun U U' h hb hU=>⟨(hb.cell (zz9 (show b<wr.heap.size from by omega) hU)).trans h.1,(hb.cell (zz9 (show b<wr.heap.size from by omega) hU)).trans h.2.1,(hb.cell (zz9 (show b<wr.heap.size from by omega) hU)).trans h.2.2.1,(hb.cell (zz9 (show b2<wr.heap.size from by omega) hU)).trans h.2.2.2.1,(hb.cell (zz9 (show b2<wr.heap.size from by omega) hU)).trans h.2.2.2.2.1,(hb.cell (zz9 (show b2<wr.heap.size from by omega) hU)).trans h.2.2.2.2.2⟩
   have HKeep:=jj hkeep
   clear hkeep
   go_region_held3 (fun w'=>w'.cell? ⟨b,off+k*3,none⟩=some (.string ks[k].name)∧w'.cell? ⟨b,off+k*3+1,none⟩=some (.slice A1 ks[k].args.length cap1)∧w'.cell? ⟨b,off+k*3+2,none⟩=ks[k].idx∧w'.cell? ⟨b2,off2+k*3,none⟩=some (.string ks[k].name)∧w'.cell? ⟨b2,off2+k*3+1,none⟩=some (.slice A2 ks[k].args.length cap2)∧w'.cell? ⟨b2,off2+k*3+2,none⟩=ks[k].idx) (first | assumption | (exact ⟨c0,c1,c2,d0,d1,d2⟩) | (exact HKeep.out wr.drew w' ⟨c0,c1,c2,d0,d1,d2⟩ hB' (zz8 _))) (first | (go_at_call 149;((with_reducible refine (eqCtor_any ks[k] _ _ _ G G2 HV.out.drew HV2.out.drew (Under.drew (HG.out.mono hB.size)) (Under.drew (HG2.out.mono hB.size))).mono ?_);rintro e w' ⟨rfl,hB'⟩)))
   have hB3:=hB.drew.trans (hB'.mono hB.size)
   go_wp2
   go_roundw
   case rel=>exact ⟨k+1,by omega,by go_num,hB3⟩
   case measure=>simp [intOf];omega
  ·go_wp2
   go_ret
   exact ⟨rfl,hB⟩
set_option maxHeartbeats 400000 in
theorem eqData_any (x:Dt) (w:World) (cs ds:List Value) (F F2:List Nat) (hv:DtR w x cs F) (hv2:DtR w x ds F2) (hF:Under w F) (hF2:Under w F2) :
  Calls Tryz.prog 43 #[.agg cs.toArray,.agg ds.toArray] w fun e w'=>e=.returned (.bool true)∧Below w w w':=by
 obtain ⟨kv,rfl,ha,hs0⟩:=hv
 have HA:=jj ha
 obtain ⟨A,cap,rfl,-,-⟩:=ha.form
 clear ha
 obtain ⟨kv',rfl,hb,hs20⟩:=hv2
 have HA2:=jj hb
 obtain ⟨A',cap',rfl,-,-⟩:=hb.form
 clear hb
 have HF:=jj hF
 have HF2:=jj hF2
 clear hF hF2
 go_enter Tryz.func43,Tryz.ntmps43
 go_wp2_with fail
 obtain ⟨W2,hW2⟩:∃ W2,W2=(w.alloc (.cells #[.string x.name,.slice A x.ctors.length cap] 64)).alloc (.cells #[.string x.name,.slice A' x.ctors.length cap'] 64):=⟨_,rfl⟩
 have hB2:Below w w W2:=by rw [hW2];exact ((zy2 _ _).alloc (zz8 _) _).alloc (by simp) _
 have hz2:w.heap.size+2≤W2.heap.size:=by rw [hW2];simp
 have b0:Blk W2 w 64 #[.string x.name,.slice A x.ctors.length cap]:=by rw [hW2];exact (Blk.new w _ _).same (Below.heap_alloc _ _ _ (by simp))
 have b1:Blk W2 (w.heap.size+1) 64 #[.string x.name,.slice A' x.ctors.length cap']:=by rw [hW2];have:=Blk.new (w.alloc (.cells #[.string x.name,.slice A x.ctors.length cap] 64)) 64 #[.string x.name,.slice A' x.ctors.length cap'];simpa using this
 rw [←hW2]
 clear hW2
 refine (eqCtorS_any x.ctors W2 F F2 _ _ (ArrKt.below HA.out hB2 HF.out) (ArrKt.below HA2.out hB2 HF2.out) (HF.out.mono hB2.size) (HF2.out.mono hB2.size)).mono ?_
 rintro e V0 ⟨rfl,hb0⟩
 have hB3:=hB2.trans (hb0.mono hB2.size)
 have m0:=b0.same (hb0.block _ b0.lt)
 have m1:=b1.same (hb0.block _ b1.lt)
 clear b0 b1
 have b0:=m0
 have b1:=m1
 clear m0 m1 hb0
 have a0:V0.cell? ⟨w,0,none⟩=some (.string x.name):=(b0.cell 0).trans (by simp)
 have c0:V0.cell? ⟨w.heap.size+1,0,none⟩=some (.string x.name):=(b1.cell 0).trans (by simp)
 have a1:V0.cell? ⟨w,1,none⟩=some (.slice A x.ctors.length cap):=(b0.cell 1).trans (by simp)
 have c1:V0.cell? ⟨w.heap.size+1,1,none⟩=some (.slice A' x.ctors.length cap'):=(b1.cell 1).trans (by simp)
 clear b0 b1
 go_wp2
 go_ret
 exact ⟨rfl,hB3⟩
set_option maxHeartbeats 800000 in
theorem eqDataS_any (ks:List Dt) (w:World) (F F2:List Nat) (x y:Value) (hx:Arr w (DtR w) ks x F) (hy:Arr w (DtR w) ks y F2) (hF:Under w F) (hF2:Under w F2) :
  Calls Tryz.prog 13 #[x,y] w fun e w'=>e=.returned (.bool true)∧Below w w w':=by
 have HX:=jj hx
 have HY:=jj hy
 obtain ⟨A,cap,rfl,hl,hm⟩:=hx.form
 obtain ⟨A',cap',rfl,hl',hm'⟩:=hy.form
 clear hx hy
 have HF:=jj hF
 have HF2:=jj hF2
 clear hF hF2
 go_enter Tryz.func13,Tryz.ntmps13
 go_wp2
 go_loopw [5] (fun i wr=>∃ k:Nat,k≤ks.length∧i=.int .i64 k∧Below w w wr) (fun i _=>ks.length-(intOf i).toNat)
 case atStart=>exact ⟨0,Nat.zero_le _,rfl,zy2 _ _⟩
 case round =>
  obtain ⟨k,hk,rfl,hB⟩:=hrel
  have hBs:=hB.size
  by_cases hlt:k<ks.length
  ·obtain ⟨b,off,cs,G,rfl,hb,hcs,hvc,hG⟩:=HX.out.get DtR_len hlt
   have hbl:=HF.out b hb
   have hGFc:=HF.out.sub hG
   have hwc:=hvc.below hB hGFc
   have hcsc:=hcs.same (hB.block b hbl)
   obtain ⟨A1,cap1,rfl⟩:=DtR_form hvc
   have c0:=hcsc 0 _ rfl
   have c1:=hcsc 1 _ rfl
   simp only [Nat.add_zero] at c0
   clear hcs hcsc hvc hG
   have HV:=jj hwc
   clear hwc
   have HG:=jj hGFc
   clear hGFc
   obtain ⟨b2,off2,ds,G2,rfl,hb2,hds,hvd,hG2⟩:=HY.out.get DtR_len hlt
   have hbl2:=HF2.out b2 hb2
   have hGFd:=HF2.out.sub hG2
   have hwd:=hvd.below hB hGFd
   have hcsd:=hds.same (hB.block b2 hbl2)
   obtain ⟨A2,cap2,rfl⟩:=DtR_form hvd
   have d0:=hcsd 0 _ rfl
   have d1:=hcsd 1 _ rfl
   simp only [Nat.add_zero] at d0
   clear hds hcsd hvd hG2
   have HV2:=jj hwd
   clear hwd
   have HG2:=jj hGFd
   clear hGFd
   go_wp2_with fail
   have hkeep:∀ U U':World,(U.cell? ⟨b,off+k*2,none⟩=some (.string ks[k].name)∧U.cell? ⟨b,off+k*2+1,none⟩=some (.slice A1 ks[k].ctors.length cap1)∧U.cell? ⟨b2,off2+k*2,none⟩=some (.string ks[k].name)∧U.cell? ⟨b2,off2+k*2+1,none⟩=some (.slice A2 ks[k].ctors.length cap2))→Below U U U'→wr.heap.size≤U.heap.size→(U'.cell? ⟨b,off+k*2,none⟩=some (.string ks[k].name)∧U'.cell? ⟨b,off+k*2+1,none⟩=some (.slice A1 ks[k].ctors.length cap1)∧U'.cell? ⟨b2,off2+k*2,none⟩=some (.string ks[k].name)∧U'.cell? ⟨b2,off2+k*2+1,none⟩=some (.slice A2 ks[k].ctors.length cap2)):=fun U U' h hb hU=>⟨(hb.cell (zz9 (show b<wr.heap.size from by omega) hU)).trans h.1,(hb.cell (zz9 (show b<wr.heap.size from by omega) hU)).trans h.2.1,(hb.cell (zz9 (show b2<wr.heap.size from by omega) hU)).trans h.2.2.1,(hb.cell (zz9 (show b2<wr.heap.size from by omega) hU)).trans h.2.2.2⟩
   have HKeep:=jj hkeep
   clear hkeep
   go_region_held3 (fun w'=>w'.cell? ⟨b,off+k*2,none⟩=some (.string ks[k].name)∧w'.cell? ⟨b,off+k*2+1,none⟩=some (.slice A1 ks[k].ctors.length cap1)∧w'.cell? ⟨b2,off2+k*2,none⟩=some (.string ks[k].name)∧w'.cell? ⟨b2,off2+k*2+1,none⟩=some (.slice A2 ks[k].ctors.length cap2)) (first | assumption | (exact ⟨c0,c1,d0,d1⟩) | (exact HKeep.out wr.drew w' ⟨c0,c1,d0,d1⟩ hB' (zz8 _))) (first | (go_at_call 43;((with_reducible refine (eqData_any ks[k] _ _ _ G G2 HV.out.drew HV2.out.drew (Under.drew (HG.out.mono hB.size)) (Under.drew (HG2.out.mono hB.size))).mono ?_);rintro e w' ⟨rfl,hB'⟩)))
   have hB3:=hB.drew.trans (hB'.mono hB.size)
   go_wp2
   go_roundw
   case rel=>exact ⟨k+1,by omega,by go_num,hB3⟩
   case measure=>simp [intOf];omega
  ·go_wp2
   go_ret
   exact ⟨rfl,hB⟩
def digs (n:Nat):List UInt8:=if h:n=0 then [] else digs (n / 10) ++ [UInt8.ofNat (48+n % 10)]
termination_by n
decreasing_by omega
def mtext (k:Int):ByteArray:=if k≤0 then ⟨#[109,48]⟩ else ⟨(109 :: digs k.toNat).toArray⟩
theorem digs_zero:digs 0=[]:=by rw [digs];rfl
theorem digs_pos (n:Nat) (h:0<n):digs n=digs (n / 10) ++ [UInt8.ofNat (48+n % 10)]:=by rw [digs,dif_neg (by omega)]
theorem digs_len (n:Nat):(digs n).length≤n:=by
 induction n using Nat.strongRecOn with
 |ind n ih =>
  rcases Nat.eq_zero_or_pos n with rfl | h
  ·rw [digs_zero];exact zz8 _
  ·rw [digs_pos n h,List.length_append,List.length_singleton]
   have:=ih (n / 10) (by omega)
   omega
theorem mtext_le (k:Int) (h0:0≤k) (h:k≤1099511627776):(mtext k).size≤9223372036854775807:=by
 unfold mtext
 split
 ·decide
 ·have:=digs_len k.toNat
  show (109 :: digs k.toNat).toArray.size≤_
  rw [List.size_toArray,List.length_cons]
  omega
theorem markText_any (k:Int) (w:World) (h0:0≤k) (hk:k≤1099511627776):Calls Tryz.prog 44 #[.int .i64 k] w fun e w'=>e=.returned (.string (mtext k))∧Below w w w':=by
 by_cases hz:k≤0
 ·have hf:Hid (mtext k=⟨#[109,48]⟩):=by unfold Hid mtext;rw [if_pos hz]
  go_enter Tryz.func44,Tryz.ntmps44
  go_wp2
  go_ret
  exact ⟨by rw [hf.out];rfl,zy2 _ _⟩
 ·obtain ⟨n0,rfl⟩:=Int.eq_ofNat_of_zero_le h0
  have hf:Hid (mtext (n0:Int)=⟨(109 :: digs n0).toArray⟩):=by unfold Hid mtext;rw [if_neg hz];rfl
  have hkn:n0≤1099511627776:=by omega
  go_enter Tryz.func44,Tryz.ntmps44
  go_wp2
  go_loopw [0,3] (fun kv ov wr=>∃ n:Nat,∃ out:ByteArray,kv=.int .i64 n∧ov=.string out∧n≤1099511627776∧Hid (digs n0=digs n ++ out.data.toList)∧out.size+n≤n0∧Below w w wr) (fun kv _ _=>(intOf kv).toNat)
  case atStart=>exact ⟨n0,⟨#[]⟩,rfl,rfl,hkn,(show digs n0=digs n0 ++ [] from (List.append_nil _).symm),(by show 0+n0≤n0;omega),zy2 _ _⟩
  case round =>
   obtain ⟨n,out,rfl,rfl,hn,HD,hsz,hB⟩:=hrel
   by_cases hlt:0<n
   ·have g1:(0:Int)≤(n:Int):=by omega
    have g2:(0:Int)<(n:Int):=by omega
    have hcv:=conv1 wr (48+(n:Int) % 10)
    have hdg:=digs_pos n hlt
    have HD2:Hid (digs n0=digs (n / 10) ++ (strOfNums [48+(n:Int) % 10] ++ out).data.toList):=by
     unfold Hid
     rw [HD.out,hdg,data_append,strOfNums_data,List.append_assoc]
     congr 3
     all_goals (simp only [List.map_cons,List.map_nil];try (congr 2;omega))
    have hs2:(strOfNums [48+(n:Int) % 10] ++ out).size+n / 10≤n0:=by rw [zA6,strOfNums_size];simp only [List.length_singleton];omega
    have HS2:=jj hs2
    have hcat:(strOfNums [48+(n:Int) % 10]).size+out.size≤9223372036854775807:=by rw [strOfNums_size];simp only [List.length_singleton];omega
    clear hs2 hdg
    go_wp2
    go_roundw
    case rel=>exact ⟨n / 10,_,(by go_num),rfl,by omega,HD2,HS2.out,hB.alloc hB.size _⟩
    case measure=>(simp [intOf] <;> omega)
   ·obtain rfl:n=0:=by omega
    have hfin:mtext (n0:Int)=⟨#[109]⟩ ++ out:=by
     rw [hf.out]
     refine bytes_ext ?_
     rw [data_append]
     have h:=HD.out
     rw [digs_zero,List.nil_append] at h
     rw [←h]
     simp
    have HFin:=jj hfin
    clear hfin
    go_wp2
    go_ret
    exact ⟨by rw [HFin.out];rfl,hB⟩
def cntTy (x:Ty):Nat:=2
def mkTy (k:Int) (x:Ty):Ty:=⟨k,k+1⟩
theorem cntTy_def (x:Ty):cntTy x=2:=rfl
theorem markTypeS_any (xs:List Ty) (w:World) (v:Value) (F:List Nat) (k0:Int) (h0:0≤k0) (hk:k0+(sumBy cntTy xs:Nat)≤1099511627776) (hx:Arr w (TyR w) xs v F) (hfr:Free w F) (hf:Under w F) :
  Calls Tryz.prog 100 #[v,.int .i64 k0] w fun e w'=>e=.returned (.int .i64 (k0+(sumBy cntTy xs:Nat)))∧Chg F w w'∧Arr w' (TyR w') (mkS mkTy cntTy k0 xs) v F∧Free w' F:=by
 have HX:=jj (And.intro hx (And.intro hfr (Chg.refl F w)))
 obtain ⟨A,cap,rfl,hc1,hc2⟩:=hx.form
 have HF:=jj hf
 have HK:=jj hk
 clear hx hfr hf hk
 go_enter Tryz.func100,Tryz.ntmps100
 go_wp2
 go_loopw [1,5] (fun kv iv wr=>∃ i:Nat,∃ m:Int,i≤xs.length∧iv=.int .i64 i∧kv=.int .i64 m∧0≤m∧Hid (m=k0+(sumBy cntTy (xs.take i):Nat))∧Hid (Arr wr (TyR wr) (mkTo mkTy cntTy k0 xs i) (.slice A xs.length cap) F∧Free wr F∧Chg F w wr)) (fun _ iv _=>xs.length-(intOf iv).toNat)
 case atStart=>exact ⟨0,k0,Nat.zero_le _,rfl,rfl,h0,(by simp [Hid,sumBy]),HX⟩
 case round =>
  obtain ⟨i,m,hi,rfl,rfl,hm0,HM,HR⟩:=hrel
  by_cases hlt:i<xs.length
  ·have g1:(0:Int)≤(i:Int):=by omega
   have g2:(i:Int)<(xs.length:Int):=by omega
   obtain ⟨b,off,c,F1,F2,F3,cap',hv,hFe,hc,hr,hfr2,hnb,hbl,hfz,hu2,hclose⟩:=HR.out.1.focus (fun w=>TyR_len (w:=w)) (fun w w' x cs G hk h=>TyR.mono (w:=w) (w':=w') x cs G hk h) HR.out.2.1 (HF.out.mono HR.out.2.2.size) (i:=i) (by rw [mkTo_length];exact hlt)
   obtain rfl:A=some ⟨b,off,none⟩:=by injection hv
   rw [mkTo_get hlt] at hr
   have hsum:m+(cntTy xs[i]:Nat)≤1099511627776:=by
    have h1:=HM.out
    have h2:=HK.out
    have h3:=zAO cntTy xs (i+1)
    rw [zA4 cntTy xs i hlt] at h3
    omega
   have HCl:=jj hclose
   have HHv:=jj hv
   have HFe:=jj hFe
   clear hclose hv hFe
   obtain ⟨rfl,rfl⟩:=hr
   have hcd:=cntTy_def xs[i]
   rw [hcd] at hsum
   have x0:wr.cell? ⟨b,off+i*2,none⟩=xs[i].d:=hc 0 _ rfl
   have x1:wr.cell? ⟨b,off+i*2+1,none⟩=xs[i].i:=hc 1 _ rfl
   clear hc
   have HFr2:=jj hfr2
   have HU2:=jj hu2
   have HNB:=jj hnb
   have HCD:=jj hcd
   clear hfr2 hu2 hnb hcd
   have HFz:=jj hfz
   clear hfz
   have U0:=jj (Upd.refl b (off+i*2) 2 [] wr)
   have K0:=jj (Kept.refl [] wr)
   have z0:wr.frozen? ⟨b,off+i*2,none⟩=false:=(U0.out.froz _).trans (HFz.out _)
   have z1:wr.frozen? ⟨b,off+i*2+1,none⟩=false:=(U0.out.froz _).trans (HFz.out _)
   have X0:=jj x0
   have X1:=jj x1
   have U1:=jj (U0.out.set (j:=off+i*2) (by omega) (by omega) (.int .i64 (m)))
   have Y0:=jj (show (wr.setCell ⟨b,off+i*2,none⟩ (.int .i64 (m))).cell? ⟨b,off+i*2,none⟩=some (.int .i64 (m)) from World.cell?_setCell_same _ _ _ X0.out)
   have Y1:=jj ((World.cell?_setCell_other _ ⟨b,off+i*2,none⟩ ⟨b,off+i*2+1,none⟩ (.int .i64 (m)) (by intro e;injection e;omega)).trans X1.out)
   clear X0 X1
   have X0:=Y0
   have X1:=Y1
   clear Y0 Y1
   have U2:=jj (U1.out.set (j:=off+i*2+1) (by omega) (by omega) (.int .i64 (m+1)))
   have Y0:=jj ((World.cell?_setCell_other _ ⟨b,off+i*2+1,none⟩ ⟨b,off+i*2,none⟩ (.int .i64 (m+1)) (by intro e;injection e;omega)).trans X0.out)
   have Y1:=jj (show ((wr.setCell ⟨b,off+i*2,none⟩ (.int .i64 (m))).setCell ⟨b,off+i*2+1,none⟩ (.int .i64 (m+1))).cell? ⟨b,off+i*2+1,none⟩=some (.int .i64 (m+1)) from World.cell?_setCell_same _ _ _ X1.out)
   clear X0 X1
   have X0:=Y0
   have X1:=Y1
   clear Y0 Y1
   have hfin:=HCl.out ((wr.setCell ⟨b,off+i*2,none⟩ (.int .i64 (m))).setCell ⟨b,off+i*2+1,none⟩ (.int .i64 (m+1))) (mkTy m xs[i]) _ U2.out (CellsAt.cons X0.out (CellsAt.cons X1.out (CellsAt.nil _ _ _))) (⟨rfl,rfl⟩) (Free.nil _)
   have hst:(mkTo mkTy cntTy k0 xs i).set i (mkTy m xs[i])=mkTo mkTy cntTy k0 xs (i+1):=by rw [HM.out];exact mkTo_step hlt
   rw [hst] at hfin
   clear hst
   have HFin:=jj (And.intro hfin.1 (And.intro hfin.2.1 (HR.out.2.2.trans hfin.2.2)))
   clear hfin
   have HM2:Hid (m+1+1=k0+(sumBy cntTy (xs.take (i+1)):Nat)):=by
    have h1:=HM.out
    have h2:=HCD.out
    unfold Hid
    rw [zA4 cntTy xs i hlt]
    omega
   go_wp2
   go_roundw
   case rel=>exact ⟨i+1,m+1+1,by omega,by go_num,rfl,by omega,HM2,HFin.out⟩
   case measure=>(simp [intOf] <;> omega)
  ·have HEnd:Hid (Chg F w wr∧Arr wr (TyR wr) (mkS mkTy cntTy k0 xs) (.slice A xs.length cap) F∧Free wr F):=by
    have h:=HR.out
    rw [mkTo_all k0 xs (by omega)] at h
    exact ⟨h.2.2,h.1,h.2.1⟩
   have hf:Hid (m=k0+(sumBy cntTy xs:Nat)):=by
    have h:=HM.out
    rwa [List.take_of_length_le (by omega)] at h
   go_wp2
   go_ret
   exact ⟨ret_int hf.out,HEnd.out⟩
def cntKt (x:Kt):Nat:=2+sumBy cntTy x.args
def mkKt (k:Int) (x:Kt):Kt:=⟨mtext (k),mkS mkTy cntTy (k+1) x.args,k+1+(sumBy cntTy x.args:Nat)⟩
theorem cntKt_def (x:Kt):cntKt x=2+sumBy cntTy x.args:=rfl
theorem markCtorS_any (xs:List Kt) (w:World) (v:Value) (F:List Nat) (k0:Int) (h0:0≤k0) (hk:k0+(sumBy cntKt xs:Nat)≤1099511627776) (hx:Arr w (KtR w) xs v F) (hfr:Free w F) (hf:Under w F) :
  Calls Tryz.prog 45 #[v,.int .i64 k0] w fun e w'=>e=.returned (.int .i64 (k0+(sumBy cntKt xs:Nat)))∧Chg F w w'∧Arr w' (KtR w') (mkS mkKt cntKt k0 xs) v F∧Free w' F:=by
 have HX:=jj (And.intro hx (And.intro hfr (Chg.refl F w)))
 obtain ⟨A,cap,rfl,hc1,hc2⟩:=hx.form
 have HF:=jj hf
 have HK:=jj hk
 clear hx hfr hf hk
 go_enter Tryz.func45,Tryz.ntmps45
 go_wp2
 go_loopw [1,5] (fun kv iv wr=>∃ i:Nat,∃ m:Int,i≤xs.length∧iv=.int .i64 i∧kv=.int .i64 m∧0≤m∧Hid (m=k0+(sumBy cntKt (xs.take i):Nat))∧Hid (Arr wr (KtR wr) (mkTo mkKt cntKt k0 xs i) (.slice A xs.length cap) F∧Free wr F∧Chg F w wr)) (fun _ iv _=>xs.length-(intOf iv).toNat)
 case atStart=>exact ⟨0,k0,Nat.zero_le _,rfl,rfl,h0,(by simp [Hid,sumBy]),HX⟩
 case round =>
  obtain ⟨i,m,hi,rfl,rfl,hm0,HM,HR⟩:=hrel
  by_cases hlt:i<xs.length
  ·have g1:(0:Int)≤(i:Int):=by omega
   have g2:(i:Int)<(xs.length:Int):=by omega
   obtain ⟨b,off,c,F1,F2,F3,cap',hv,hFe,hc,hr,hfr2,hnb,hbl,hfz,hu2,hclose⟩:=HR.out.1.focus (fun w=>KtR_len (w:=w)) (fun w w' x cs G hk h=>KtR.mono (w:=w) (w':=w') x cs G hk h) HR.out.2.1 (HF.out.mono HR.out.2.2.size) (i:=i) (by rw [mkTo_length];exact hlt)
   obtain rfl:A=some ⟨b,off,none⟩:=by injection hv
   rw [mkTo_get hlt] at hr
   have hsum:m+(cntKt xs[i]:Nat)≤1099511627776:=by
    have h1:=HM.out
    have h2:=HK.out
    have h3:=zAO cntKt xs (i+1)
    rw [zA4 cntKt xs i hlt] at h3
    omega
   have HCl:=jj hclose
   have HHv:=jj hv
   have HFe:=jj hFe
   clear hclose hv hFe
   obtain ⟨kv,rfl,ha,hs0⟩:=hr
   obtain ⟨A1,cap1,rfl,-,-⟩:=ha.form
   have hcd:=cntKt_def xs[i]
   rw [hcd] at hsum
   have x0:wr.cell? ⟨b,off+i*3,none⟩=some (.string xs[i].name):=hc 0 _ rfl
   have x1:wr.cell? ⟨b,off+i*3+1,none⟩=some (.slice A1 xs[i].args.length cap1):=hc 1 _ rfl
   have x2:wr.cell? ⟨b,off+i*3+2,none⟩=xs[i].idx:=hc 2 _ rfl
   clear hc
   have HA:=jj ha
   have HFr2:=jj hfr2
   have HU2:=jj hu2
   have HNB:=jj hnb
   clear ha hfr2 hu2 hnb
   have hsn:(0:Int)≤(sumBy cntTy xs[i].args:Nat):=by omega
   generalize hsg:sumBy cntTy xs[i].args=s at *
   have HSG:=jj hsg
   have HCD:=jj hcd
   clear hsg hcd
   have HFz:=jj hfz
   clear hfz
   have U0:=jj (Upd.refl b (off+i*3) 3 F2 wr)
   have K0:=jj (Kept.refl F2 wr)
   have z0:wr.frozen? ⟨b,off+i*3,none⟩=false:=(U0.out.froz _).trans (HFz.out _)
   have z2:wr.frozen? ⟨b,off+i*3+2,none⟩=false:=(U0.out.froz _).trans (HFz.out _)
   go_wp2_with fail
   refine (markText_any (m) _ (by omega) (by omega)).mono ?_
   rintro e v1 ⟨rfl,hb1⟩
   have hlE1:b<wr.heap.size:=zz9 hbl U0.out.size
   have U1:=jj (U0.out.below hb1 hlE1)
   have K1:=jj (K0.out.step hb1 (HU2.out.mono U0.out.size))
   have y0:=(hb1.cell (p:=⟨b,off+i*3,none⟩) hlE1).trans x0
   have y1:=(hb1.cell (p:=⟨b,off+i*3+1,none⟩) hlE1).trans x1
   have y2:=(hb1.cell (p:=⟨b,off+i*3+2,none⟩) hlE1).trans x2
   clear x0 x1 x2 z0 z2
   have x0:=y0
   have x1:=y1
   have x2:=y2
   clear y0 y1 y2
   have hb11:b<v1.heap.size:=zz9 hbl U1.out.size
   have z0:v1.frozen? ⟨b,off+i*3,none⟩=false:=(U1.out.froz _).trans (HFz.out _)
   have z2:v1.frozen? ⟨b,off+i*3+2,none⟩=false:=(U1.out.froz _).trans (HFz.out _)
   clear hb1 hlE1
   go_wp2_with fail
   have U2:=jj (U1.out.set (j:=off+i*3) (by omega) (by omega) (.string (mtext (m))))
   have K2:=jj (K1.out.set (b:=b) (j:=off+i*3) (u:=.string (mtext (m))) HNB.out)
   have y0:(v1.setCell ⟨b,off+i*3,none⟩ (.string (mtext (m)))).cell? ⟨b,off+i*3,none⟩=some (.string (mtext (m))):=World.cell?_setCell_same _ _ _ x0
   have y1:=(World.cell?_setCell_other _ ⟨b,off+i*3,none⟩ ⟨b,off+i*3+1,none⟩ (.string (mtext (m))) (by intro e;injection e;omega)).trans x1
   have y2:=(World.cell?_setCell_other _ ⟨b,off+i*3,none⟩ ⟨b,off+i*3+2,none⟩ (.string (mtext (m))) (by intro e;injection e;omega)).trans x2
   clear x0 x1 x2
   have x0:=y0
   have x1:=y1
   have x2:=y2
   clear y0 y1 y2
   refine (markTypeS_any xs[i].args _ _ F2 (m+1) (by omega) (by rw [HSG.out];omega) (HA.out.mono K2.out (fun x _ cs G hk h=>(fun w w' x cs G hk h=>TyR.mono (w:=w) (w':=w') x cs G hk h) _ _ x cs G hk h)) (HFr2.out.kept K2.out) (HU2.out.mono U2.out.size)).mono ?_
   rintro e v2 ⟨rfl,hg2,hm2,hfr2⟩
   have hlE2:b<(v1.setCell ⟨b,off+i*3,none⟩ (.string (mtext (m)))).heap.size:=zz9 hbl U2.out.size
   have U3:=jj (U2.out.sub hg2 HNB.out hlE2)
   have y0:=(World.cell?_of_block (w:=(v1.setCell ⟨b,off+i*3,none⟩ (.string (mtext (m))))) (a:=⟨b,off+i*3,none⟩) (hg2.block b hlE2 HNB.out)).trans x0
   have y1:=(World.cell?_of_block (w:=(v1.setCell ⟨b,off+i*3,none⟩ (.string (mtext (m))))) (a:=⟨b,off+i*3+1,none⟩) (hg2.block b hlE2 HNB.out)).trans x1
   have y2:=(World.cell?_of_block (w:=(v1.setCell ⟨b,off+i*3,none⟩ (.string (mtext (m))))) (a:=⟨b,off+i*3+2,none⟩) (hg2.block b hlE2 HNB.out)).trans x2
   clear x0 x1 x2 z0 z2
   have x0:=y0
   have x1:=y1
   have x2:=y2
   clear y0 y1 y2
   have hb12:b<v2.heap.size:=zz9 hbl U3.out.size
   have z0:v2.frozen? ⟨b,off+i*3,none⟩=false:=(U3.out.froz _).trans (HFz.out _)
   have z2:v2.frozen? ⟨b,off+i*3+2,none⟩=false:=(U3.out.froz _).trans (HFz.out _)
   have HMk:=jj hm2
   have HFrk:=jj hfr2
   have hgs2:=hg2.size
   clear hm2 hfr2 hg2 hlE2
   have K3:=jj (Kept.refl F2 v2)
   rw [HSG.out]
   have X0:=jj x0
   have X1:=jj x1
   have X2:=jj x2
   have U4:=jj (U3.out.set (j:=off+i*3+2) (by omega) (by omega) (.int .i64 (m+1+(s:Int))))
   have K4:=jj (K3.out.set (b:=b) (j:=off+i*3+2) (u:=.int .i64 (m+1+(s:Int))) HNB.out)
   have Y0:=jj ((World.cell?_setCell_other _ ⟨b,off+i*3+2,none⟩ ⟨b,off+i*3,none⟩ (.int .i64 (m+1+(s:Int))) (by intro e;injection e;omega)).trans X0.out)
   have Y1:=jj ((World.cell?_setCell_other _ ⟨b,off+i*3+2,none⟩ ⟨b,off+i*3+1,none⟩ (.int .i64 (m+1+(s:Int))) (by intro e;injection e;omega)).trans X1.out)
   have Y2:=jj (show (v2.setCell ⟨b,off+i*3+2,none⟩ (.int .i64 (m+1+(s:Int)))).cell? ⟨b,off+i*3+2,none⟩=some (.int .i64 (m+1+(s:Int))) from World.cell?_setCell_same _ _ _ X2.out)
   clear X0 X1 X2
   have X0:=Y0
   have X1:=Y1
   have X2:=Y2
   clear Y0 Y1 Y2
   have hfin:=HCl.out (v2.setCell ⟨b,off+i*3+2,none⟩ (.int .i64 (m+1+(s:Int)))) (mkKt m xs[i]) _ U4.out (CellsAt.cons X0.out (CellsAt.cons X1.out (CellsAt.cons X2.out (CellsAt.nil _ _ _)))) (by obtain rfl:=HSG.out;exact ⟨_,rfl,(HMk.out.mono K4.out (fun x _ cs G hk h=>(fun w w' x cs G hk h=>TyR.mono (w:=w) (w':=w') x cs G hk h) _ _ x cs G hk h)),mtext_le _ (by omega) (by omega)⟩) (HFrk.out.kept K4.out)
   have hst:(mkTo mkKt cntKt k0 xs i).set i (mkKt m xs[i])=mkTo mkKt cntKt k0 xs (i+1):=by rw [HM.out];exact mkTo_step hlt
   rw [hst] at hfin
   clear hst
   have HFin:=jj (And.intro hfin.1 (And.intro hfin.2.1 (HR.out.2.2.trans hfin.2.2)))
   clear hfin
   have HM2:Hid (m+1+(s:Int)+1=k0+(sumBy cntKt (xs.take (i+1)):Nat)):=by
    have h1:=HM.out
    have h2:=HCD.out
    unfold Hid
    rw [zA4 cntKt xs i hlt]
    omega
   go_wp2
   go_roundw
   case rel=>exact ⟨i+1,m+1+(s:Int)+1,by omega,by go_num,rfl,by omega,HM2,HFin.out⟩
   case measure=>(simp [intOf] <;> omega)
  ·have HEnd:Hid (Chg F w wr∧Arr wr (KtR wr) (mkS mkKt cntKt k0 xs) (.slice A xs.length cap) F∧Free wr F):=by
    have h:=HR.out
    rw [mkTo_all k0 xs (by omega)] at h
    exact ⟨h.2.2,h.1,h.2.1⟩
   have hf:Hid (m=k0+(sumBy cntKt xs:Nat)):=by
    have h:=HM.out
    rwa [List.take_of_length_le (by omega)] at h
   go_wp2
   go_ret
   exact ⟨ret_int hf.out,HEnd.out⟩
def cntDt (x:Dt):Nat:=1+sumBy cntKt x.ctors
def mkDt (k:Int) (x:Dt):Dt:=⟨mtext (k),mkS mkKt cntKt (k+1) x.ctors⟩
theorem cntDt_def (x:Dt):cntDt x=1+sumBy cntKt x.ctors:=rfl
theorem markDataS_any (xs:List Dt) (w:World) (v:Value) (F:List Nat) (k0:Int) (h0:0≤k0) (hk:k0+(sumBy cntDt xs:Nat)≤1099511627776) (hx:Arr w (DtR w) xs v F) (hfr:Free w F) (hf:Under w F) :
  Calls Tryz.prog 14 #[v,.int .i64 k0] w fun e w'=>e=.returned (.int .i64 (k0+(sumBy cntDt xs:Nat)))∧Chg F w w'∧Arr w' (DtR w') (mkS mkDt cntDt k0 xs) v F∧Free w' F:=by
 have HX:=jj (And.intro hx (And.intro hfr (Chg.refl F w)))
 obtain ⟨A,cap,rfl,hc1,hc2⟩:=hx.form
 have HF:=jj hf
 have HK:=jj hk
 clear hx hfr hf hk
 go_enter Tryz.func14,Tryz.ntmps14
 go_wp2
 go_loopw [1,5] (fun kv iv wr=>∃ i:Nat,∃ m:Int,i≤xs.length∧iv=.int .i64 i∧kv=.int .i64 m∧0≤m∧Hid (m=k0+(sumBy cntDt (xs.take i):Nat))∧Hid (Arr wr (DtR wr) (mkTo mkDt cntDt k0 xs i) (.slice A xs.length cap) F∧Free wr F∧Chg F w wr)) (fun _ iv _=>xs.length-(intOf iv).toNat)
 case atStart=>exact ⟨0,k0,Nat.zero_le _,rfl,rfl,h0,(by simp [Hid,sumBy]),HX⟩
 case round =>
  obtain ⟨i,m,hi,rfl,rfl,hm0,HM,HR⟩:=hrel
  by_cases hlt:i<xs.length
  ·have g1:(0:Int)≤(i:Int):=by omega
   have g2:(i:Int)<(xs.length:Int):=by omega
   obtain ⟨b,off,c,F1,F2,F3,cap',hv,hFe,hc,hr,hfr2,hnb,hbl,hfz,hu2,hclose⟩:=HR.out.1.focus (fun w=>DtR_len (w:=w)) (fun w w' x cs G hk h=>DtR.mono (w:=w) (w':=w') x cs G hk h) HR.out.2.1 (HF.out.mono HR.out.2.2.size) (i:=i) (by rw [mkTo_length];exact hlt)
   obtain rfl:A=some ⟨b,off,none⟩:=by injection hv
   rw [mkTo_get hlt] at hr
   have hsum:m+(cntDt xs[i]:Nat)≤1099511627776:=by
    have h1:=HM.out
    have h2:=HK.out
    have h3:=zAO cntDt xs (i+1)
    rw [zA4 cntDt xs i hlt] at h3
    omega
   have HCl:=jj hclose
   have HHv:=jj hv
   have HFe:=jj hFe
   clear hclose hv hFe
   obtain ⟨kv,rfl,ha,hs0⟩:=hr
   obtain ⟨A1,cap1,rfl,-,-⟩:=ha.form
   have hcd:=cntDt_def xs[i]
   rw [hcd] at hsum
   have x0:wr.cell? ⟨b,off+i*2,none⟩=some (.string xs[i].name):=hc 0 _ rfl
   have x1:wr.cell? ⟨b,off+i*2+1,none⟩=some (.slice A1 xs[i].ctors.length cap1):=hc 1 _ rfl
   clear hc
   have HA:=jj ha
   have HFr2:=jj hfr2
   have HU2:=jj hu2
   have HNB:=jj hnb
   clear ha hfr2 hu2 hnb
   have hsn:(0:Int)≤(sumBy cntKt xs[i].ctors:Nat):=by omega
   generalize hsg:sumBy cntKt xs[i].ctors=s at *
   have HSG:=jj hsg
   have HCD:=jj hcd
   clear hsg hcd
   have HFz:=jj hfz
   clear hfz
   have U0:=jj (Upd.refl b (off+i*2) 2 F2 wr)
   have K0:=jj (Kept.refl F2 wr)
   have z0:wr.frozen? ⟨b,off+i*2,none⟩=false:=(U0.out.froz _).trans (HFz.out _)
   go_wp2_with fail
   refine (markText_any (m) _ (by omega) (by omega)).mono ?_
   rintro e v1 ⟨rfl,hb1⟩
   have hlE1:b<wr.heap.size:=zz9 hbl U0.out.size
   have U1:=jj (U0.out.below hb1 hlE1)
   have K1:=jj (K0.out.step hb1 (HU2.out.mono U0.out.size))
   have y0:=(hb1.cell (p:=⟨b,off+i*2,none⟩) hlE1).trans x0
   have y1:=(hb1.cell (p:=⟨b,off+i*2+1,none⟩) hlE1).trans x1
   clear x0 x1 z0
   have x0:=y0
   have x1:=y1
   clear y0 y1
   have hb11:b<v1.heap.size:=zz9 hbl U1.out.size
   have z0:v1.frozen? ⟨b,off+i*2,none⟩=false:=(U1.out.froz _).trans (HFz.out _)
   clear hb1 hlE1
   go_wp2_with fail
   have U2:=jj (U1.out.set (j:=off+i*2) (by omega) (by omega) (.string (mtext (m))))
   have K2:=jj (K1.out.set (b:=b) (j:=off+i*2) (u:=.string (mtext (m))) HNB.out)
   have y0:(v1.setCell ⟨b,off+i*2,none⟩ (.string (mtext (m)))).cell? ⟨b,off+i*2,none⟩=some (.string (mtext (m))):=World.cell?_setCell_same _ _ _ x0
   have y1:=(World.cell?_setCell_other _ ⟨b,off+i*2,none⟩ ⟨b,off+i*2+1,none⟩ (.string (mtext (m))) (by intro e;injection e;omega)).trans x1
   clear x0 x1
   have x0:=y0
   have x1:=y1
   clear y0 y1
   refine (markCtorS_any xs[i].ctors _ _ F2 (m+1) (by omega) (by rw [HSG.out];omega) (HA.out.mono K2.out (fun x _ cs G hk h=>(fun w w' x cs G hk h=>KtR.mono (w:=w) (w':=w') x cs G hk h) _ _ x cs G hk h)) (HFr2.out.kept K2.out) (HU2.out.mono U2.out.size)).mono ?_
   rintro e v2 ⟨rfl,hg2,hm2,hfr2⟩
   have hlE2:b<(v1.setCell ⟨b,off+i*2,none⟩ (.string (mtext (m)))).heap.size:=zz9 hbl U2.out.size
   have U3:=jj (U2.out.sub hg2 HNB.out hlE2)
   have y0:=(World.cell?_of_block (w:=(v1.setCell ⟨b,off+i*2,none⟩ (.string (mtext (m))))) (a:=⟨b,off+i*2,none⟩) (hg2.block b hlE2 HNB.out)).trans x0
   have y1:=(World.cell?_of_block (w:=(v1.setCell ⟨b,off+i*2,none⟩ (.string (mtext (m))))) (a:=⟨b,off+i*2+1,none⟩) (hg2.block b hlE2 HNB.out)).trans x1
   clear x0 x1 z0
   have x0:=y0
   have x1:=y1
   clear y0 y1
   have hb12:b<v2.heap.size:=zz9 hbl U3.out.size
   have z0:v2.frozen? ⟨b,off+i*2,none⟩=false:=(U3.out.froz _).trans (HFz.out _)
   have HMk:=jj hm2
   have HFrk:=jj hfr2
   have hgs2:=hg2.size
   clear hm2 hfr2 hg2 hlE2
   have K3:=jj (Kept.refl F2 v2)
   rw [HSG.out]
   have X0:=jj x0
   have X1:=jj x1
   have hfin:=HCl.out v2 (mkDt m xs[i]) _ U3.out (CellsAt.cons X0.out (CellsAt.cons X1.out (CellsAt.nil _ _ _))) (by obtain rfl:=HSG.out;exact ⟨_,rfl,(HMk.out.mono K3.out (fun x _ cs G hk h=>(fun w w' x cs G hk h=>KtR.mono (w:=w) (w':=w') x cs G hk h) _ _ x cs G hk h)),mtext_le _ (by omega) (by omega)⟩) (HFrk.out.kept K3.out)
   have hst:(mkTo mkDt cntDt k0 xs i).set i (mkDt m xs[i])=mkTo mkDt cntDt k0 xs (i+1):=by rw [HM.out];exact mkTo_step hlt
   rw [hst] at hfin
   clear hst
   have HFin:=jj (And.intro hfin.1 (And.intro hfin.2.1 (HR.out.2.2.trans hfin.2.2)))
   clear hfin
   have HM2:Hid (m+1+(s:Int)=k0+(sumBy cntDt (xs.take (i+1)):Nat)):=by
    have h1:=HM.out
    have h2:=HCD.out
    unfold Hid
    rw [zA4 cntDt xs i hlt]
    omega
   go_wp2
   go_roundw
   case rel=>exact ⟨i+1,m+1+(s:Int),by omega,by go_num,rfl,by omega,HM2,HFin.out⟩
   case measure=>(simp [intOf] <;> omega)
  ·have HEnd:Hid (Chg F w wr∧Arr wr (DtR wr) (mkS mkDt cntDt k0 xs) (.slice A xs.length cap) F∧Free wr F):=by
    have h:=HR.out
    rw [mkTo_all k0 xs (by omega)] at h
    exact ⟨h.2.2,h.1,h.2.1⟩
   have hf:Hid (m=k0+(sumBy cntDt xs:Nat)):=by
    have h:=HM.out
    rwa [List.take_of_length_le (by omega)] at h
   go_wp2
   go_ret
   exact ⟨ret_int hf.out,HEnd.out⟩
theorem heldTypeS_any (xs:List Ty) (w:World) (v:Value) (F:List Nat) (k0:Int) (h0:0≤k0) (hk:k0+(sumBy cntTy xs:Nat)≤1099511627776) (hx:Arr w (TyR w) (mkS mkTy cntTy k0 xs) v F) (hf:Under w F) :
  Calls Tryz.prog 101 #[v,.int .i64 k0] w fun e w'=>e=.returned (.int .i64 (k0+(sumBy cntTy xs:Nat)))∧Below w w w':=by
 obtain ⟨A,cap,rfl,hc1,hc2⟩:=hx.form
 rw [zA3] at hx hc1
 rw [zA3]
 have HX:=jj hx
 have HF:=jj hf
 have HK:=jj hk
 clear hx hf hk
 go_enter Tryz.func101,Tryz.ntmps101
 go_wp2
 go_loopw [1,5] (fun kv iv wr=>∃ i:Nat,∃ m:Int,i≤xs.length∧iv=.int .i64 i∧kv=.int .i64 m∧0≤m∧Hid (m=k0+(sumBy cntTy (xs.take i):Nat))∧Below w w wr) (fun _ iv _=>xs.length-(intOf iv).toNat)
 case atStart=>exact ⟨0,k0,Nat.zero_le _,rfl,rfl,h0,(by simp [Hid,sumBy]),zy2 _ _⟩
 case round =>
  obtain ⟨i,m,hi,rfl,rfl,hm0,HM,hB⟩:=hrel
  by_cases hlt:i<xs.length
  ·have g1:(0:Int)≤(i:Int):=by omega
   have g2:(i:Int)<(xs.length:Int):=by omega
   obtain ⟨b,off,c,F2,rfl,hb,hc,hr,hG⟩:=HX.out.get ((fun w=>TyR_len (w:=w)) _) (i:=i) (by rw [zA3];exact hlt)
   have hge:(mkS mkTy cntTy k0 xs)[i]'(by rw [zA3];exact hlt)=mkTy m xs[i]:=by
    have h:=mkS_get (mk:=mkTy) (cnt:=cntTy) (k:=k0) hlt
    rw [←HM.out,List.getElem?_eq_getElem (by rw [zA3];exact hlt)] at h
    exact Option.some.inj h
   rw [hge] at hr
   clear hge
   have hbl:=HF.out b hb
   have hc:=hc.same (hB.block b hbl)
   have hu2:=HF.out.sub hG
   clear hG hb
   have hbw:=zz9 hbl hB.size
   have hsum:m+(cntTy xs[i]:Nat)≤1099511627776:=by
    have h1:=HM.out
    have h2:=HK.out
    have h3:=zAO cntTy xs (i+1)
    rw [zA4 cntTy xs i hlt] at h3
    omega
   unfold mkTy at hr
   obtain ⟨rfl,rfl⟩:=hr
   have hcd:=cntTy_def xs[i]
   rw [hcd] at hsum
   have x0:wr.cell? ⟨b,off+i*2,none⟩=some (.int .i64 (m)):=hc 0 _ rfl
   have x1:wr.cell? ⟨b,off+i*2+1,none⟩=some (.int .i64 (m+1)):=hc 1 _ rfl
   clear hc
   have HCD:=jj hcd
   clear hcd hu2
   have HM2:Hid (m+1+1=k0+(sumBy cntTy (xs.take (i+1)):Nat)):=by
    have h1:=HM.out
    have h2:=HCD.out
    unfold Hid
    rw [zA4 cntTy xs i hlt]
    omega
   go_wp2
   go_roundw
   case rel=>exact ⟨i+1,m+1+1,by omega,by go_num,rfl,by omega,HM2,hB⟩
   case measure=>(simp [intOf] <;> omega)
  ·have hf:Hid (m=k0+(sumBy cntTy xs:Nat)):=by
    have h:=HM.out
    rwa [List.take_of_length_le (by omega)] at h
   go_wp2
   go_ret
   exact ⟨ret_int hf.out,hB⟩
theorem heldCtorS_any (xs:List Kt) (w:World) (v:Value) (F:List Nat) (k0:Int) (h0:0≤k0) (hk:k0+(sumBy cntKt xs:Nat)≤1099511627776) (hx:Arr w (KtR w) (mkS mkKt cntKt k0 xs) v F) (hf:Under w F) :
  Calls Tryz.prog 46 #[v,.int .i64 k0] w fun e w'=>e=.returned (.int .i64 (k0+(sumBy cntKt xs:Nat)))∧Below w w w':=by
 obtain ⟨A,cap,rfl,hc1,hc2⟩:=hx.form
 rw [zA3] at hx hc1
 rw [zA3]
 have HX:=jj hx
 have HF:=jj hf
 have HK:=jj hk
 clear hx hf hk
 go_enter Tryz.func46,Tryz.ntmps46
 go_wp2
 go_loopw [1,5] (fun kv iv wr=>∃ i:Nat,∃ m:Int,i≤xs.length∧iv=.int .i64 i∧kv=.int .i64 m∧0≤m∧Hid (m=k0+(sumBy cntKt (xs.take i):Nat))∧Below w w wr) (fun _ iv _=>xs.length-(intOf iv).toNat)
 case atStart=>exact ⟨0,k0,Nat.zero_le _,rfl,rfl,h0,(by simp [Hid,sumBy]),zy2 _ _⟩
 case round =>
  obtain ⟨i,m,hi,rfl,rfl,hm0,HM,hB⟩:=hrel
  by_cases hlt:i<xs.length
  ·have g1:(0:Int)≤(i:Int):=by omega
   have g2:(i:Int)<(xs.length:Int):=by omega
   obtain ⟨b,off,c,F2,rfl,hb,hc,hr,hG⟩:=HX.out.get ((fun w=>KtR_len (w:=w)) _) (i:=i) (by rw [zA3];exact hlt)
   have hge:(mkS mkKt cntKt k0 xs)[i]'(by rw [zA3];exact hlt)=mkKt m xs[i]:=by
    have h:=mkS_get (mk:=mkKt) (cnt:=cntKt) (k:=k0) hlt
    rw [←HM.out,List.getElem?_eq_getElem (by rw [zA3];exact hlt)] at h
    exact Option.some.inj h
   rw [hge] at hr
   clear hge
   have hbl:=HF.out b hb
   have hc:=hc.same (hB.block b hbl)
   have hu2:=HF.out.sub hG
   clear hG hb
   have hbw:=zz9 hbl hB.size
   have hsum:m+(cntKt xs[i]:Nat)≤1099511627776:=by
    have h1:=HM.out
    have h2:=HK.out
    have h3:=zAO cntKt xs (i+1)
    rw [zA4 cntKt xs i hlt] at h3
    omega
   unfold mkKt at hr
   obtain ⟨kv,rfl,ha,hs0⟩:=hr
   obtain ⟨A1,cap1,rfl,-,-⟩:=ha.form
   have hcd:=cntKt_def xs[i]
   rw [hcd] at hsum
   simp only [zA3] at hc
   have x0:wr.cell? ⟨b,off+i*3,none⟩=some (.string (mtext (m))):=hc 0 _ rfl
   have x1:wr.cell? ⟨b,off+i*3+1,none⟩=some (.slice A1 xs[i].args.length cap1):=hc 1 _ rfl
   have x2:wr.cell? ⟨b,off+i*3+2,none⟩=some (.int .i64 (m+1+(sumBy cntTy xs[i].args:Nat))):=hc 2 _ rfl
   clear hc
   simp only [zA3] at ha
   have HA:=jj ha
   have HU2:=jj hu2
   clear ha hu2
   have hsn:(0:Int)≤(sumBy cntTy xs[i].args:Nat):=by omega
   generalize hsg:sumBy cntTy xs[i].args=s at *
   have HSG:=jj hsg
   have HCD:=jj hcd
   clear hsg hcd
   go_wp2_with fail
   have hkeep:Kp wr.heap.size (fun U=>U.cell? ⟨b,off+i*3,none⟩=some (.string (mtext (m)))):=fun U U' h hUU hU=>(hUU.cell (zz9 (hbw) hU)).trans h
   have HKeep:=jj hkeep
   clear hkeep
   go_region_held3 (fun w'=>w'.cell? ⟨b,off+i*3,none⟩=some (.string (mtext (m)))) (first | assumption | (exact x0) | (exact HKeep.out wr.drew v1 x0 hb1 (zz8 _))) (first | (go_at_call 44;((with_reducible refine (markText_any (m) _ (by omega) (by omega)).mono ?_);rintro e v1 ⟨rfl,hb1⟩)))
   have hB:=hB.drew
   have y0:=(hb1.cell (p:=⟨b,off+i*3,none⟩) hbw).trans x0
   have y1:=(hb1.cell (p:=⟨b,off+i*3+1,none⟩) hbw).trans x1
   have y2:=(hb1.cell (p:=⟨b,off+i*3+2,none⟩) hbw).trans x2
   clear x0 x1 x2
   have x0:=y0
   have x1:=y1
   have x2:=y2
   clear y0 y1 y2
   have hB1:=hB.trans (hb1.mono hB.size)
   have hbw:=zz9 hbw hb1.size
   clear hb1
   go_wp2_with fail
   refine (heldTypeS_any xs[i].args _ _ F2 (m+1) (by omega) (by rw [HSG.out];omega) (HA.out.mono (.of_below hB1 HU2.out) (fun x _ cs G hk h=>(fun w w' x cs G hk h=>TyR.mono (w:=w) (w':=w') x cs G hk h) _ _ x cs G hk h)) (HU2.out.mono hB1.size)).mono ?_
   rintro e v2 ⟨rfl,hb2⟩
   rw [HSG.out]
   have y0:=(hb2.cell (p:=⟨b,off+i*3,none⟩) hbw).trans x0
   have y1:=(hb2.cell (p:=⟨b,off+i*3+1,none⟩) hbw).trans x1
   have y2:=(hb2.cell (p:=⟨b,off+i*3+2,none⟩) hbw).trans x2
   clear x0 x1 x2
   have x0:=y0
   have x1:=y1
   have x2:=y2
   clear y0 y1 y2
   have hB2:=hB1.trans (hb2.mono hB1.size)
   have hbw:=zz9 hbw hb2.size
   clear hb2
   have HM2:Hid (m+1+(s:Int)+1=k0+(sumBy cntKt (xs.take (i+1)):Nat)):=by
    have h1:=HM.out
    have h2:=HCD.out
    unfold Hid
    rw [zA4 cntKt xs i hlt]
    omega
   go_wp2
   go_roundw
   case rel=>exact ⟨i+1,m+1+(s:Int)+1,by omega,by go_num,rfl,by omega,HM2,hB2⟩
   case measure=>(simp [intOf] <;> omega)
  ·have hf:Hid (m=k0+(sumBy cntKt xs:Nat)):=by
    have h:=HM.out
    rwa [List.take_of_length_le (by omega)] at h
   go_wp2
   go_ret
   exact ⟨ret_int hf.out,hB⟩
theorem heldDataS_any (xs:List Dt) (w:World) (v:Value) (F:List Nat) (k0:Int) (h0:0≤k0) (hk:k0+(sumBy cntDt xs:Nat)≤1099511627776) (hx:Arr w (DtR w) (mkS mkDt cntDt k0 xs) v F) (hf:Under w F) :
  Calls Tryz.prog 15 #[v,.int .i64 k0] w fun e w'=>e=.returned (.int .i64 (k0+(sumBy cntDt xs:Nat)))∧Below w w w':=by
 obtain ⟨A,cap,rfl,hc1,hc2⟩:=hx.form
 rw [zA3] at hx hc1
 rw [zA3]
 have HX:=jj hx
 have HF:=jj hf
 have HK:=jj hk
 clear hx hf hk
 go_enter Tryz.func15,Tryz.ntmps15
 go_wp2
 go_loopw [1,5] (fun kv iv wr=>∃ i:Nat,∃ m:Int,i≤xs.length∧iv=.int .i64 i∧kv=.int .i64 m∧0≤m∧Hid (m=k0+(sumBy cntDt (xs.take i):Nat))∧Below w w wr) (fun _ iv _=>xs.length-(intOf iv).toNat)
 case atStart=>exact ⟨0,k0,Nat.zero_le _,rfl,rfl,h0,(by simp [Hid,sumBy]),zy2 _ _⟩
 case round =>
  obtain ⟨i,m,hi,rfl,rfl,hm0,HM,hB⟩:=hrel
  by_cases hlt:i<xs.length
  ·have g1:(0:Int)≤(i:Int):=by omega
   have g2:(i:Int)<(xs.length:Int):=by omega
   obtain ⟨b,off,c,F2,rfl,hb,hc,hr,hG⟩:=HX.out.get ((fun w=>DtR_len (w:=w)) _) (i:=i) (by rw [zA3];exact hlt)
   have hge:(mkS mkDt cntDt k0 xs)[i]'(by rw [zA3];exact hlt)=mkDt m xs[i]:=by
    have h:=mkS_get (mk:=mkDt) (cnt:=cntDt) (k:=k0) hlt
    rw [←HM.out,List.getElem?_eq_getElem (by rw [zA3];exact hlt)] at h
    exact Option.some.inj h
   rw [hge] at hr
   clear hge
   have hbl:=HF.out b hb
   have hc:=hc.same (hB.block b hbl)
   have hu2:=HF.out.sub hG
   clear hG hb
   have hbw:=zz9 hbl hB.size
   have hsum:m+(cntDt xs[i]:Nat)≤1099511627776:=by
    have h1:=HM.out
    have h2:=HK.out
    have h3:=zAO cntDt xs (i+1)
    rw [zA4 cntDt xs i hlt] at h3
    omega
   unfold mkDt at hr
   obtain ⟨kv,rfl,ha,hs0⟩:=hr
   obtain ⟨A1,cap1,rfl,-,-⟩:=ha.form
   have hcd:=cntDt_def xs[i]
   rw [hcd] at hsum
   simp only [zA3] at hc
   have x0:wr.cell? ⟨b,off+i*2,none⟩=some (.string (mtext (m))):=hc 0 _ rfl
   have x1:wr.cell? ⟨b,off+i*2+1,none⟩=some (.slice A1 xs[i].ctors.length cap1):=hc 1 _ rfl
   clear hc
   simp only [zA3] at ha
   have HA:=jj ha
   have HU2:=jj hu2
   clear ha hu2
   have hsn:(0:Int)≤(sumBy cntKt xs[i].ctors:Nat):=by omega
   generalize hsg:sumBy cntKt xs[i].ctors=s at *
   have HSG:=jj hsg
   have HCD:=jj hcd
   clear hsg hcd
   go_wp2_with fail
   have hkeep:Kp wr.heap.size (fun U=>U.cell? ⟨b,off+i*2,none⟩=some (.string (mtext (m)))):=fun U U' h hUU hU=>(hUU.cell (zz9 (hbw) hU)).trans h
   have HKeep:=jj hkeep
   clear hkeep
   go_region_held3 (fun w'=>w'.cell? ⟨b,off+i*2,none⟩=some (.string (mtext (m)))) (first | assumption | (exact x0) | (exact HKeep.out wr.drew v1 x0 hb1 (zz8 _))) (first | (go_at_call 44;((with_reducible refine (markText_any (m) _ (by omega) (by omega)).mono ?_);rintro e v1 ⟨rfl,hb1⟩)))
   have hB:=hB.drew
   have y0:=(hb1.cell (p:=⟨b,off+i*2,none⟩) hbw).trans x0
   have y1:=(hb1.cell (p:=⟨b,off+i*2+1,none⟩) hbw).trans x1
   clear x0 x1
   have x0:=y0
   have x1:=y1
   clear y0 y1
   have hB1:=hB.trans (hb1.mono hB.size)
   have hbw:=zz9 hbw hb1.size
   clear hb1
   go_wp2_with fail
   refine (heldCtorS_any xs[i].ctors _ _ F2 (m+1) (by omega) (by rw [HSG.out];omega) (HA.out.mono (.of_below hB1 HU2.out) (fun x _ cs G hk h=>(fun w w' x cs G hk h=>KtR.mono (w:=w) (w':=w') x cs G hk h) _ _ x cs G hk h)) (HU2.out.mono hB1.size)).mono ?_
   rintro e v2 ⟨rfl,hb2⟩
   rw [HSG.out]
   have y0:=(hb2.cell (p:=⟨b,off+i*2,none⟩) hbw).trans x0
   have y1:=(hb2.cell (p:=⟨b,off+i*2+1,none⟩) hbw).trans x1
   clear x0 x1
   have x0:=y0
   have x1:=y1
   clear y0 y1
   have hB2:=hB1.trans (hb2.mono hB1.size)
   have hbw:=zz9 hbw hb2.size
   clear hb2
   have HM2:Hid (m+1+(s:Int)=k0+(sumBy cntDt (xs.take (i+1)):Nat)):=by
    have h1:=HM.out
    have h2:=HCD.out
    unfold Hid
    rw [zA4 cntDt xs i hlt]
    omega
   have hnn:0≤m+1+(s:Int):=by omega
   go_wp2
   go_roundw
   case rel=>exact ⟨i+1,m+1+(s:Int),by omega,by go_num,rfl,by omega,HM2,hB2⟩
   case measure=>(simp [intOf] <;> omega)
  ·have hf:Hid (m=k0+(sumBy cntDt xs:Nat)):=by
    have h:=HM.out
    rwa [List.take_of_length_le (by omega)] at h
   go_wp2
   go_ret
   exact ⟨ret_int hf.out,hB⟩
section
variable {H : Type} {enc : TypeId × Value → H}
theorem lift_shaped {a:Assume} {C:Checked} {os:Os} {f:FuncId} {fn:Func} {s:ChangeSpec} {conds:List PathCond} {apart fresh handsOn again:Bool} {X:World→Array Value→Prop}
  (hX:∀ (w w':World) (args:Array Value),w.heap=w'.heap→X w args→X w' args)
  (own:ownKnob C.prog.godebug=none) (started:os.Started) (noInit:C.prog.inits.idxOf? f=none) (hfn:C.prog.funcs[f]?=some fn)
  (witness:∃ (w:World) (tape:Tape) (i:Input),w.os=os∧(w.forCall tape i).Shaped C.prog∧i.vars=[]∧Input.okWide C.prog (w.forCall tape i) .any w.heap.size f i ∧
   ((s.pre enc C.prog fn conds apart (w.forCall tape i).memory i.args∧X (w.forCall tape i).memory i.args)∧sizedMet enc C.prog fn (OpenSpec.ofChange s) apart (w.forCall tape i).memory i.args)∧a.holds C.prog (lone (Frame.enter C.prog f i.args .normal) [] (w.forCall tape i)))
  (contract:∀ (W:World) (base:Nat) (args:Array Value) (ds gs:List (DataW H)) (before:List MemPlace),
   (∀ (j:Nat) t v,fn.params[j]?=some t→args[j]?=some v→Value.okWide C.prog W .any base t v) →
   DataW.Whole enc C.prog fn.params.toList s.vars apart W args.toList ds gs before→X W args→W.ShapedOpen C.prog →
   Calls C.prog f args W fun e W'=>∃ v,e=.returned v∧s.post enc C.prog fn apart fresh handsOn again W args v W') :
  ReturnsInHanded a C os f .any (fun w args=>(s.pre enc C.prog fn conds apart w args∧X w args)∧sizedMet enc C.prog fn (OpenSpec.ofChange s) apart w args) (s.post enc C.prog fn apart fresh handsOn again):=by
 refine returnsInHanded_of_calls own started noInit witness ?_
 intro w tape i _ hsh _ hok hpre _
 obtain ⟨_,_,_,fn',hfn',_,_,_,_,hval⟩:=hok
 obtain rfl:fn'=fn:=Option.some.inj (hfn'.symm.trans hfn)
 obtain ⟨⟨⟨ds,gs,before,hw,_⟩,hx⟩,_⟩:=hpre
 refine (contract (w.forCall tape i) w.heap.size i.args ds gs before hval (DataW.Whole.of_heap (w':=w.forCall tape i) (by rfl) hw) (hX _ _ _ (by rfl) hx) hsh).mono fun e W' ⟨v,he,hp⟩=>?_
 subst he
 exact ChangeSpec.post_blind hp
end
theorem laid_at {P:Program} {w:World}:∀ {l:List (String×DataW Unit)} {ps:List MemPlace} {n:String} {d:DataW Unit},DataW.LaidVars P w l ps→(n,d)∈l →
  ∃ g t cs fuel p,P.globalNamed n=some g∧(P.globals[g]?).map (·.type)=some t∧w.var? P n=some cs∧DataW.trod (fun _=>()) P w 0 (fun _=>true) false fuel t cs.toList=some (d,p)
 |[],_,_,_,_,h=>by cases h
 |(n',d') :: l,ps,n,d,⟨g,t,cs,fuel,p,q,h1,h2,h3,h4,hs,e⟩,h=>by
  rcases List.mem_cons.1 h with h | h
  ·cases h;exact ⟨g,t,cs,fuel,p,h1,h2,h3,h4⟩
  ·exact laid_at hs h
theorem laid_iface {P:Program} {w:World} {l:List (String×DataW Unit)} {k g:Nat} {n nm:String} {d:DataW Unit} {t:TypeId} {ms:Array (String×TypeId)} (h:laidMetH P l w) (h0:(l.filter fun x=>x.2.handleName?.isSome)=[])
  (hm:l[k]?=some (n,.iface nm d)) (hg:P.globalNamed n=some g) (ht:(P.globals[g]?).map (·.type)=some t) (hu:P.underlying t=some (.interface ms)):∃ ev,w.cell? ⟨g,0,none⟩=some ev∧(ev=.nilIface∨∃ te pe,ev=.iface te pe):=by
 unfold laidMetH at h
 rw [h0] at h
 obtain ⟨ps,hl,-,-⟩:=h
 obtain ⟨g',t',cs,fuel,p,h1,h2,h3,h4⟩:=laid_at hl (List.mem_of_getElem? hm)
 rw [hg] at h1
 cases h1
 rw [ht] at h2
 cases h2
 obtain ⟨_,u,v,hcs,-,-⟩:=iface_of_trod hu h4
 refine ⟨.iface u v,?_,.inr ⟨u,v,rfl⟩⟩
 rw [World.var?_cell hg h3 0,←Array.getElem?_toList,hcs]
 rfl
theorem shaped_lt {w:World} {g:Nat} {zero:Array Value} {t:TypeId} (h:w.ShapedOpen Tryz.prog) (hg:g<Tryz.prog.globals.size) (h0:((begin Tryz.prog (fun _ _=>0) default).world.heap[g]?).bind Obj.row?=some (zero,t)):g<w.heap.size:=by
 obtain ⟨cs,hh,-,-⟩:=h.1 g zero t hg h0
 exact (Array.getElem?_eq_some_iff.1 hh).1
theorem vars_shaped {w:World} {l:List (String×DataW Unit)} {j k:Nat} {n1 n2:String} {d1 d2:DataW Unit} (hs:w.ShapedOpen Tryz.prog) (h:laidMetH Tryz.prog l w) (h0:(l.filter fun x=>x.2.handleName?.isSome)=[])
  (hj : l[j]? = some ("strconv.ErrSyntax", .iface n1 d1)) (hk : l[k]? = some ("strconv.ErrRange", .iface n2 d2)) : VarsOK w :=
 ⟨cell_of_shapedOpen_int (zero:=#[.int .i64 0]) (t:=3) hs (of_decide_eq_true (by kernel_rfl)) (by kernel_rfl) rfl (by kernel_rfl) (by kernel_rfl) Tryz.underlying3,
 laid_iface (t:=112) h h0 hj (by kernel_rfl) (by kernel_rfl) Tryz.underlying112,
 laid_iface (t:=112) h h0 hk (by kernel_rfl) (by kernel_rfl) Tryz.underlying112,
 shaped_lt (zero:=#[.int .i64 0]) (t:=3) hs (of_decide_eq_true (by kernel_rfl)) (by kernel_rfl),shaped_lt (zero:=#[.nilIface]) (t:=112) hs (of_decide_eq_true (by kernel_rfl)) (by kernel_rfl),shaped_lt (zero:=#[.nilIface]) (t:=112) hs (of_decide_eq_true (by kernel_rfl)) (by kernel_rfl)⟩
end Go.Proofs.YtjjclcmmfeegfaaGreatDoor
