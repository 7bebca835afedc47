/-
  FnExactSplitOr: for every argument the law returns true. Conditions: none.
-/
import Derived.Test.YtghekinfoadcoaaKAA
import Derived.Test.YtghekinfoadcoaaKAG
import Derived.Test.YtghekinfoadcoaaKAH
import Derived.Test.YtghekinfoadcoaaKAD
import Derived.Deep.Cut
import Derived.Deep.RegionWith
import Derived.Deep.RegionHeld3
import Derived.BigQuiet
import Derived.Test.YtghekinfoadcoaaRows
import Derived.Test.YtghekinfoadcoaaKAI
import Derived.ProofKit
import Derived.OpenShut
import Derived.ShutString
import Derived.ChangeOld
import Derived.Below

set_option linter.unusedVariables false
set_option linter.unusedSimpArgs false
set_option maxRecDepth 100000
set_option maxHeartbeats 1600000

namespace Go.Proofs.Ytghekinfoadcoaa.fnExactSplitOr
open Go.RowKit
set_option maxHeartbeats 3200000 in
theorem walk {W:World} (x0:List Dt) (v0:Value) (F0:List Nat) (hR0:Arr W (DtR W) x0 v0 F0) (hU0:Under W.heap.size F0) (x1:Ty) (cs1:List Value) (F1:List Nat) (hR1:TyR W x1 cs1 F1) (hU1:Under W.heap.size F1) (x2:P) (cs2:List Value) (F2:List Nat) (hR2:PR W x2 cs2 F2) (hU2:Under W.heap.size F2) (w:World) (hw:w=W) :
  Calls Try.prog 3 #[v0,.agg cs1.toArray,.agg cs2.toArray] w fun e w'=>e=.returned (.bool true)∧Below w.heap.size w w':=by
 subst hw
 obtain ⟨A0,cap0,rfl,-,-⟩:=hR0.form
 obtain ⟨rfl,rfl⟩:=hR1
 obtain ⟨kv2,rfl,ha2⟩:=(zA4 _ _ _).1 hR2
 obtain ⟨A2,cap2,rfl,-,-⟩:=ha2.form
 clear ha2
 have HR0:=jj hR0
 have HU0:=jj hU0
 clear hR0 hU0
 have HR2:=jj hR2
 have HU2:=jj hU2
 clear hR2 hU2
 go_enter Try.func3,Try.ntmps3
 go_wp2_with fail
 have hB0:Below w.heap.size w w:=zy2 _ _
 obtain ⟨W1,hW⟩:∃ X,X=((w.alloc (.cells #[.int .i64 x1.d,.int .i64 x1.i] 24)).alloc (.cells #[.int .i64 x2.op,.int .i64 x2.ct,.int .i64 x2.n,.int .i64 x2.m,.int .i64 x2.va,.slice A2 x2.ks.length cap2] 27)):=⟨_,rfl⟩
 have hb1:Below w.heap.size w W1:=by rw [hW];exact (((zy2 w.heap.size w).alloc (by simp <;> omega) _).alloc (by simp <;> omega) _)
 have bx1:Hid (Blk W1 (w.heap.size) 24 #[.int .i64 x1.d,.int .i64 x1.i]):=by
  rw [hW]
  have h0:=Blk.new w 24 #[.int .i64 x1.d,.int .i64 x1.i]
  exact (h0).same (Below.heap_alloc _ _ _ (by simp <;> omega))
 have bx2:Hid (Blk W1 (w.heap.size+1) 27 #[.int .i64 x2.op,.int .i64 x2.ct,.int .i64 x2.n,.int .i64 x2.m,.int .i64 x2.va,.slice A2 x2.ks.length cap2]):=by
  rw [hW]
  have h0:=Blk.new (w.alloc (.cells #[.int .i64 x1.d,.int .i64 x1.i] 24)) 27 #[.int .i64 x2.op,.int .i64 x2.ct,.int .i64 x2.n,.int .i64 x2.m,.int .i64 x2.va,.slice A2 x2.ks.length cap2]
  rw [show ((w.alloc (.cells #[.int .i64 x1.d,.int .i64 x1.i] 24))).heap.size=w.heap.size+1 from by simp] at h0
  exact h0
 rw [←hW]
 clear hW
 have hB2:=hB0.trans (hb1.mono hB0.size)
 refine (szDataS_any x0 W1 F0 _ (1048576) (ArrDt.below HR0.out hB2 HU0.out) (HU0.out.mono hB2.size) (by omega) (by omega)).mono ?_
 rintro e W3 ⟨rfl,hb3⟩
 have hB4:=hB2.trans (hb3.mono hB2.size)
 have bx1n:Hid (Blk W3 (w.heap.size) 24 #[.int .i64 x1.d,.int .i64 x1.i]):=bx1.out.same (hb3.block _ bx1.out.lt)
 clear bx1
 have bx1:=bx1n
 clear bx1n
 have bx2n:Hid (Blk W3 (w.heap.size+1) 27 #[.int .i64 x2.op,.int .i64 x2.ct,.int .i64 x2.n,.int .i64 x2.m,.int .i64 x2.va,.slice A2 x2.ks.length cap2]):=bx2.out.same (hb3.block _ bx2.out.lt)
 clear bx2
 have bx2:=bx2n
 clear bx2n
 by_cases hz0:((Dt.sizes x0):Int)≤1048576
 ·rw [show szLeft (Dt.sizes x0) (1048576)=1048576-((Dt.sizes x0):Int) from if_pos hz0]
  have hnn0:0≤1048576-((Dt.sizes x0):Int):=by omega
  have bx1c0:W3.cell? ⟨w.heap.size,0,none⟩=some (.int .i64 x1.d):=(bx1.out.cell 0).trans (by simp)
  have bx1c1:W3.cell? ⟨w.heap.size,1,none⟩=some (.int .i64 x1.i):=(bx1.out.cell 1).trans (by simp)
  have bx1lt:w.heap.size<W3.heap.size:=bx1.out.lt
  have bx2c0:W3.cell? ⟨w.heap.size+1,0,none⟩=some (.int .i64 x2.op):=(bx2.out.cell 0).trans (by simp)
  have bx2c1:W3.cell? ⟨w.heap.size+1,1,none⟩=some (.int .i64 x2.ct):=(bx2.out.cell 1).trans (by simp)
  have bx2c2:W3.cell? ⟨w.heap.size+1,2,none⟩=some (.int .i64 x2.n):=(bx2.out.cell 2).trans (by simp)
  have bx2c3:W3.cell? ⟨w.heap.size+1,3,none⟩=some (.int .i64 x2.m):=(bx2.out.cell 3).trans (by simp)
  have bx2c4:W3.cell? ⟨w.heap.size+1,4,none⟩=some (.int .i64 x2.va):=(bx2.out.cell 4).trans (by simp)
  have bx2c5:W3.cell? ⟨w.heap.size+1,5,none⟩=some (.slice A2 x2.ks.length cap2):=(bx2.out.cell 5).trans (by simp)
  have bx2lt:w.heap.size+1<W3.heap.size:=bx2.out.lt
  go_wp2_with fail
  clear bx1c0 bx1c1 bx2c0 bx2c1 bx2c2 bx2c3 bx2c4 bx2c5 bx1lt bx2lt
  refine (szPattern_any x2 W3 _ F2 (1048576-((Dt.sizes x0):Int)) (HR2.out.below hB4 HU2.out) (HU2.out.mono hB4.size) (by omega) (by omega)).mono ?_
  rintro e W5 ⟨rfl,hb5⟩
  have hB6:=hB4.trans (hb5.mono hB4.size)
  have bx1n:Hid (Blk W5 (w.heap.size) 24 #[.int .i64 x1.d,.int .i64 x1.i]):=bx1.out.same (hb5.block _ bx1.out.lt)
  clear bx1
  have bx1:=bx1n
  clear bx1n
  have bx2n:Hid (Blk W5 (w.heap.size+1) 27 #[.int .i64 x2.op,.int .i64 x2.ct,.int .i64 x2.n,.int .i64 x2.m,.int .i64 x2.va,.slice A2 x2.ks.length cap2]):=bx2.out.same (hb5.block _ bx2.out.lt)
  clear bx2
  have bx2:=bx2n
  clear bx2n
  by_cases hz2:(x2.size:Int)≤1048576-((Dt.sizes x0):Int)
  ·rw [show szLeft x2.size (1048576-((Dt.sizes x0):Int))=1048576-((Dt.sizes x0):Int)-(x2.size:Int) from if_pos hz2]
   have hnn2:0≤1048576-((Dt.sizes x0):Int)-(x2.size:Int):=by omega
   have hs0:(Dt.sizes x0)≤1048576:=by omega
   have hs2:x2.size≤1048576:=by omega
   have bx1c0:W5.cell? ⟨w.heap.size,0,none⟩=some (.int .i64 x1.d):=(bx1.out.cell 0).trans (by simp)
   have bx1c1:W5.cell? ⟨w.heap.size,1,none⟩=some (.int .i64 x1.i):=(bx1.out.cell 1).trans (by simp)
   have bx1lt:w.heap.size<W5.heap.size:=bx1.out.lt
   have bx2c0:W5.cell? ⟨w.heap.size+1,0,none⟩=some (.int .i64 x2.op):=(bx2.out.cell 0).trans (by simp)
   have bx2c1:W5.cell? ⟨w.heap.size+1,1,none⟩=some (.int .i64 x2.ct):=(bx2.out.cell 1).trans (by simp)
   have bx2c2:W5.cell? ⟨w.heap.size+1,2,none⟩=some (.int .i64 x2.n):=(bx2.out.cell 2).trans (by simp)
   have bx2c3:W5.cell? ⟨w.heap.size+1,3,none⟩=some (.int .i64 x2.m):=(bx2.out.cell 3).trans (by simp)
   have bx2c4:W5.cell? ⟨w.heap.size+1,4,none⟩=some (.int .i64 x2.va):=(bx2.out.cell 4).trans (by simp)
   have bx2c5:W5.cell? ⟨w.heap.size+1,5,none⟩=some (.slice A2 x2.ks.length cap2):=(bx2.out.cell 5).trans (by simp)
   have bx2lt:w.heap.size+1<W5.heap.size:=bx2.out.lt
   go_wp2_with fail
   have SB7_bx1:=jj bx1.out.lt
   have SB7_bx2:=jj bx2.out.lt
   have hkeep:∀ U U':World,(U.cell? ⟨w.heap.size,0,none⟩=some (.int .i64 x1.d)∧U.cell? ⟨w.heap.size,1,none⟩=some (.int .i64 x1.i)∧U.cell? ⟨w.heap.size+1,0,none⟩=some (.int .i64 x2.op)∧U.cell? ⟨w.heap.size+1,1,none⟩=some (.int .i64 x2.ct)∧U.cell? ⟨w.heap.size+1,2,none⟩=some (.int .i64 x2.n)∧U.cell? ⟨w.heap.size+1,3,none⟩=some (.int .i64 x2.m)∧U.cell? ⟨w.heap.size+1,4,none⟩=some (.int .i64 x2.va)∧U.cell? ⟨w.heap.size+1,5,none⟩=some (.slice A2 x2.ks.length cap2))→Below U.heap.size U U'→W5.heap.size≤U.heap.size→(U'.cell? ⟨w.heap.size,0,none⟩=some (.int .i64 x1.d)∧U'.cell? ⟨w.heap.size,1,none⟩=some (.int .i64 x1.i)∧U'.cell? ⟨w.heap.size+1,0,none⟩=some (.int .i64 x2.op)∧U'.cell? ⟨w.heap.size+1,1,none⟩=some (.int .i64 x2.ct)∧U'.cell? ⟨w.heap.size+1,2,none⟩=some (.int .i64 x2.n)∧U'.cell? ⟨w.heap.size+1,3,none⟩=some (.int .i64 x2.m)∧U'.cell? ⟨w.heap.size+1,4,none⟩=some (.int .i64 x2.va)∧U'.cell? ⟨w.heap.size+1,5,none⟩=some (.slice A2 x2.ks.length cap2)):=fun U U' h hb hU=>⟨(hb.cell (zz9 (bx1lt) hU)).trans h.1,(hb.cell (zz9 (bx1lt) hU)).trans h.2.1,(hb.cell (zz9 (bx2lt) hU)).trans h.2.2.1,(hb.cell (zz9 (bx2lt) hU)).trans h.2.2.2.1,(hb.cell (zz9 (bx2lt) hU)).trans h.2.2.2.2.1,(hb.cell (zz9 (bx2lt) hU)).trans h.2.2.2.2.2.1,(hb.cell (zz9 (bx2lt) hU)).trans h.2.2.2.2.2.2.1,(hb.cell (zz9 (bx2lt) hU)).trans h.2.2.2.2.2.2.2⟩
   have HKeep:=jj hkeep
   clear hkeep
   go_region_held3 (fun w'=>w'.cell? ⟨w.heap.size,0,none⟩=some (.int .i64 x1.d)∧w'.cell? ⟨w.heap.size,1,none⟩=some (.int .i64 x1.i)∧w'.cell? ⟨w.heap.size+1,0,none⟩=some (.int .i64 x2.op)∧w'.cell? ⟨w.heap.size+1,1,none⟩=some (.int .i64 x2.ct)∧w'.cell? ⟨w.heap.size+1,2,none⟩=some (.int .i64 x2.n)∧w'.cell? ⟨w.heap.size+1,3,none⟩=some (.int .i64 x2.m)∧w'.cell? ⟨w.heap.size+1,4,none⟩=some (.int .i64 x2.va)∧w'.cell? ⟨w.heap.size+1,5,none⟩=some (.slice A2 x2.ks.length cap2)) (first | assumption | (exact ⟨bx1c0,bx1c1,bx2c0,bx2c1,bx2c2,bx2c3,bx2c4,bx2c5⟩) | (exact HKeep.out W5.drew W8 ⟨bx1c0,bx1c1,bx2c0,bx2c1,bx2c2,bx2c3,bx2c4,bx2c5⟩ hb8 (zz8 _)) | (exact HKeep.out W8 W9 (by assumption) hb9 hleW8) | (exact HKeep.out W9 W10 (by assumption) hb10 hleW9) | (exact HKeep.out W10 W11 (by assumption) hb11 hleW10)) (first | (go_at_call 7;((with_reducible refine (toDataS_any x0 _ F0 _ (ArrDt.below HR0.out hB6.drew HU0.out) (HU0.out.mono hB6.drew.size) hs0).mono ?_);rintro e W8 ⟨y8,G8,rfl,hb8,hv8,hfr8,hfs8⟩);have hB8:=hB6.drew.trans (hb8.mono hB6.drew.size);have hleW8:W5.heap.size≤W8.heap.size:=hb8.size) | (go_at_call 8;((with_reducible refine (toType_any x1 _ _ [] (TyR.mk0 _ x1) (Under.nil _) (Ty.size_le x1)).mono ?_);rintro e W9 ⟨ds9,G9,rfl,hb9,⟨rfl,rfl⟩,hfr9,hfs9⟩);have hB9:=hB8.trans (hb9.mono hB8.size);have hleW9:W5.heap.size≤W9.heap.size:=Nat.le_trans hleW8 hb9.size) | (go_at_call 9;((with_reducible refine (toPattern_any x2 _ _ F2 (HR2.out.below hB9 HU2.out) (HU2.out.mono hB9.size) hs2).mono ?_);rintro e W10 ⟨ds10,G10,rfl,hb10,hv10,hfr10,hfs10⟩);have hB10:=hB9.trans (hb10.mono hB9.size);have hleW10:W5.heap.size≤W10.heap.size:=Nat.le_trans hleW9 hb10.size) | (go_at_call 6;((with_reducible refine (spec_SplitOr x0 x1 x2 hs2 _ _ G8 _ G10 (ArrDt.below (ArrDt.below hv8 hb9 hfs8.under) hb10 (hfs8.under.mono hb9.size)) ((hfs8.under.mono hb9.size).mono hb10.size) hv10 hfs10.under).mono ?_);rintro e W11 ⟨vr_w0,F_w0,rfl,hb11,ha_w0,hfr_w0,hfs_w0⟩)))
   have hbt12_0:=hb8
   have hbt12_1:=hbt12_0.trans (hb9.mono hbt12_0.size)
   have hbt12_2:=hbt12_1.trans (hb10.mono hbt12_1.size)
   have hbt12_3:=hbt12_2.trans (hb11.mono hbt12_2.size)
   clear bx1c0 bx1c1 bx2c0 bx2c1 bx2c2 bx2c3 bx2c4 bx2c5 bx1lt bx2lt
   have hfz_w0:Fresh W5 W11 F_w0:=fun b hb=>⟨Nat.le_trans hbt12_2.size (hfs_w0 b hb).1,(hfs_w0 b hb).2⟩
   have nb_bx1_w0:=jj (fun (hj:_∈F_w0)=>Nat.lt_irrefl _ (zz9 SB7_bx1.out (hfz_w0 _ hj).1))
   have nb_bx2_w0:=jj (fun (hj:_∈F_w0)=>Nat.lt_irrefl _ (zz9 SB7_bx2.out (hfz_w0 _ hj).1))
   have LB_w0:=jj (fun b (hj:b∈F_w0)=>Nat.le_trans hB6.size (hfz_w0 b hj).1)
   have X_w0:=jj ha_w0
   have Y_w0:=jj hfs_w0.under
   have Z_w0:=jj hfr_w0
   obtain ⟨A_w0,cap_w0,rfl,-,-⟩:=X_w0.out.form
   clear ha_w0 hfr_w0 hfs_w0 hfz_w0
   have hB13:=hB6.drew.trans (hbt12_3.mono hB6.size)
   have bx1n:Hid (Blk W11 (w.heap.size) 24 #[.int .i64 x1.d,.int .i64 x1.i]):=bx1.out.same (hbt12_3.block _ bx1.out.lt)
   clear bx1
   have bx1:=bx1n
   clear bx1n
   have bx2n:Hid (Blk W11 (w.heap.size+1) 27 #[.int .i64 x2.op,.int .i64 x2.ct,.int .i64 x2.n,.int .i64 x2.m,.int .i64 x2.va,.slice A2 x2.ks.length cap2]):=bx2.out.same (hbt12_3.block _ bx2.out.lt)
   clear bx2
   have bx2:=bx2n
   clear bx2n
   generalize hres:splitV x0 x1 x2=r0 at *
   have HRes:=jj hres
   clear hres
   generalize hresb:splitB x0 x1 x2=rb at *
   have HResb:=jj hresb
   clear hresb
   have bx1c0:W11.cell? ⟨w.heap.size,0,none⟩=some (.int .i64 x1.d):=(bx1.out.cell 0).trans (by simp)
   have bx1c1:W11.cell? ⟨w.heap.size,1,none⟩=some (.int .i64 x1.i):=(bx1.out.cell 1).trans (by simp)
   have bx1lt:w.heap.size<W11.heap.size:=bx1.out.lt
   have bx2c0:W11.cell? ⟨w.heap.size+1,0,none⟩=some (.int .i64 x2.op):=(bx2.out.cell 0).trans (by simp)
   have bx2c1:W11.cell? ⟨w.heap.size+1,1,none⟩=some (.int .i64 x2.ct):=(bx2.out.cell 1).trans (by simp)
   have bx2c2:W11.cell? ⟨w.heap.size+1,2,none⟩=some (.int .i64 x2.n):=(bx2.out.cell 2).trans (by simp)
   have bx2c3:W11.cell? ⟨w.heap.size+1,3,none⟩=some (.int .i64 x2.m):=(bx2.out.cell 3).trans (by simp)
   have bx2c4:W11.cell? ⟨w.heap.size+1,4,none⟩=some (.int .i64 x2.va):=(bx2.out.cell 4).trans (by simp)
   have bx2c5:W11.cell? ⟨w.heap.size+1,5,none⟩=some (.slice A2 x2.ks.length cap2):=(bx2.out.cell 5).trans (by simp)
   have bx2lt:w.heap.size+1<W11.heap.size:=bx2.out.lt
   go_wp2_with fail
   clear bx1c0 bx1c1 bx2c0 bx2c1 bx2c2 bx2c3 bx2c4 bx2c5 bx1lt bx2lt
   have SU14_w0:=Y_w0
   have SB14_bx1:=jj bx1.out.lt
   have SB14_bx2:=jj bx2.out.lt
   refine (toDataS_any x0 W11 F0 _ (ArrDt.below HR0.out hB13 HU0.out) (HU0.out.mono hB13.size) hs0).mono ?_
   rintro e W15 ⟨y15,G15,rfl,hb15,hv15,hfr15,hfs15⟩
   have hB16:=hB13.trans (hb15.mono hB13.size)
   have bx1n:Hid (Blk W15 (w.heap.size) 24 #[.int .i64 x1.d,.int .i64 x1.i]):=bx1.out.same (hb15.block _ bx1.out.lt)
   clear bx1
   have bx1:=bx1n
   clear bx1n
   have bx2n:Hid (Blk W15 (w.heap.size+1) 27 #[.int .i64 x2.op,.int .i64 x2.ct,.int .i64 x2.n,.int .i64 x2.m,.int .i64 x2.va,.slice A2 x2.ks.length cap2]):=bx2.out.same (hb15.block _ bx2.out.lt)
   clear bx2
   have bx2:=bx2n
   clear bx2n
   have KP:=jj (show Kept F_w0 W11 W15 from (Kept.of_below (w:=W11) hb15 Y_w0.out))
   have X_w0n:=jj (X_w0.out.mono KP.out (fun x _ cs G hk h=>(fun w w' x cs G hk h=>PR.mono (w:=w) (w':=w') x cs G hk h) _ _ x cs G hk h))
   have Y_w0n:=jj (Y_w0.out.mono hb15.size)
   have Z_w0n:=jj (Z_w0.out.kept KP.out)
   clear X_w0 Y_w0 KP Z_w0
   have X_w0:=X_w0n
   have Y_w0:=Y_w0n
   have Z_w0:=Z_w0n
   clear X_w0n Y_w0n Z_w0n
   obtain ⟨B0,bap0,rfl,-,-⟩:=hv15.form
   have X0:=jj hv15
   have Y0:=jj hfs15.under
   have Z_x0:=jj hfr15
   have dj_w0_x0:=jj (fun b (hb:b∈F_w0) (hj:b∈G15)=>Nat.lt_irrefl _ (zz9 (SU14_w0.out b hb) (hfs15 b hj).1))
   have dj_x0_w0:=jj (fun b (hj:b∈G15) (hb:b∈F_w0)=>Nat.lt_irrefl _ (zz9 (SU14_w0.out b hb) (hfs15 b hj).1))
   have nb_bx1_x0:=jj (fun (hj:_∈G15)=>Nat.lt_irrefl _ (zz9 SB14_bx1.out (hfs15 _ hj).1))
   have nb_bx2_x0:=jj (fun (hj:_∈G15)=>Nat.lt_irrefl _ (zz9 SB14_bx2.out (hfs15 _ hj).1))
   have LB_x0:=jj (fun b (hj:b∈G15)=>Nat.le_trans hB13.size (hfs15 b hj).1)
   clear hv15 hfr15 hfs15
   have bx1c0:W15.cell? ⟨w.heap.size,0,none⟩=some (.int .i64 x1.d):=(bx1.out.cell 0).trans (by simp)
   have bx1c1:W15.cell? ⟨w.heap.size,1,none⟩=some (.int .i64 x1.i):=(bx1.out.cell 1).trans (by simp)
   have bx1lt:w.heap.size<W15.heap.size:=bx1.out.lt
   have bx2c0:W15.cell? ⟨w.heap.size+1,0,none⟩=some (.int .i64 x2.op):=(bx2.out.cell 0).trans (by simp)
   have bx2c1:W15.cell? ⟨w.heap.size+1,1,none⟩=some (.int .i64 x2.ct):=(bx2.out.cell 1).trans (by simp)
   have bx2c2:W15.cell? ⟨w.heap.size+1,2,none⟩=some (.int .i64 x2.n):=(bx2.out.cell 2).trans (by simp)
   have bx2c3:W15.cell? ⟨w.heap.size+1,3,none⟩=some (.int .i64 x2.m):=(bx2.out.cell 3).trans (by simp)
   have bx2c4:W15.cell? ⟨w.heap.size+1,4,none⟩=some (.int .i64 x2.va):=(bx2.out.cell 4).trans (by simp)
   have bx2c5:W15.cell? ⟨w.heap.size+1,5,none⟩=some (.slice A2 x2.ks.length cap2):=(bx2.out.cell 5).trans (by simp)
   have bx2lt:w.heap.size+1<W15.heap.size:=bx2.out.lt
   go_wp2_with fail
   clear bx1c0 bx1c1 bx2c0 bx2c1 bx2c2 bx2c3 bx2c4 bx2c5 bx1lt bx2lt
   have SU17_w0:=Y_w0
   have SU17_x0:=Y0
   have SB17_bx1:=jj bx1.out.lt
   have SB17_bx2:=jj bx2.out.lt
   refine (toPattern_any x2 W15 _ F2 (HR2.out.below hB16 HU2.out) (HU2.out.mono hB16.size) hs2).mono ?_
   rintro e W18 ⟨ds18,G18,rfl,hb18,hv18,hfr18,hfs18⟩
   have hB19:=hB16.trans (hb18.mono hB16.size)
   have bx1n:Hid (Blk W18 (w.heap.size) 24 #[.int .i64 x1.d,.int .i64 x1.i]):=bx1.out.same (hb18.block _ bx1.out.lt)
   clear bx1
   have bx1:=bx1n
   clear bx1n
   have bx2n:Hid (Blk W18 (w.heap.size+1) 27 #[.int .i64 x2.op,.int .i64 x2.ct,.int .i64 x2.n,.int .i64 x2.m,.int .i64 x2.va,.slice A2 x2.ks.length cap2]):=bx2.out.same (hb18.block _ bx2.out.lt)
   clear bx2
   have bx2:=bx2n
   clear bx2n
   have KP:=jj (show Kept F_w0 W15 W18 from (Kept.of_below (w:=W15) hb18 Y_w0.out))
   have X_w0n:=jj (X_w0.out.mono KP.out (fun x _ cs G hk h=>(fun w w' x cs G hk h=>PR.mono (w:=w) (w':=w') x cs G hk h) _ _ x cs G hk h))
   have Y_w0n:=jj (Y_w0.out.mono hb18.size)
   have Z_w0n:=jj (Z_w0.out.kept KP.out)
   clear X_w0 Y_w0 KP Z_w0
   have X_w0:=X_w0n
   have Y_w0:=Y_w0n
   have Z_w0:=Z_w0n
   clear X_w0n Y_w0n Z_w0n
   have KP:=jj (show Kept G15 W15 W18 from (Kept.of_below (w:=W15) hb18 Y0.out))
   have X0n:=jj (ArrDt.mono X0.out KP.out)
   have Y0n:=jj (Y0.out.mono hb18.size)
   have Z_x0n:=jj (Z_x0.out.kept KP.out)
   clear X0 Y0 KP Z_x0
   have X0:=X0n
   have Y0:=Y0n
   have Z_x0:=Z_x0n
   clear X0n Y0n Z_x0n
   obtain ⟨kw18,rfl,hw18⟩:=(zA4 _ _ _).1 hv18
   obtain ⟨B2,bap2,rfl,-,-⟩:=hw18.form
   clear hw18
   have X2:=jj hv18
   have Y2:=jj hfs18.under
   have Z_x2:=jj hfr18
   have dj_w0_x2:=jj (fun b (hb:b∈F_w0) (hj:b∈G18)=>Nat.lt_irrefl _ (zz9 (SU17_w0.out b hb) (hfs18 b hj).1))
   have dj_x2_w0:=jj (fun b (hj:b∈G18) (hb:b∈F_w0)=>Nat.lt_irrefl _ (zz9 (SU17_w0.out b hb) (hfs18 b hj).1))
   have dj_x0_x2:=jj (fun b (hb:b∈G15) (hj:b∈G18)=>Nat.lt_irrefl _ (zz9 (SU17_x0.out b hb) (hfs18 b hj).1))
   have dj_x2_x0:=jj (fun b (hj:b∈G18) (hb:b∈G15)=>Nat.lt_irrefl _ (zz9 (SU17_x0.out b hb) (hfs18 b hj).1))
   have nb_bx1_x2:=jj (fun (hj:_∈G18)=>Nat.lt_irrefl _ (zz9 SB17_bx1.out (hfs18 _ hj).1))
   have nb_bx2_x2:=jj (fun (hj:_∈G18)=>Nat.lt_irrefl _ (zz9 SB17_bx2.out (hfs18 _ hj).1))
   have LB_x2:=jj (fun b (hj:b∈G18)=>Nat.le_trans hB16.size (hfs18 b hj).1)
   clear hv18 hfr18 hfs18
   have bx1c0:W18.cell? ⟨w.heap.size,0,none⟩=some (.int .i64 x1.d):=(bx1.out.cell 0).trans (by simp)
   have bx1c1:W18.cell? ⟨w.heap.size,1,none⟩=some (.int .i64 x1.i):=(bx1.out.cell 1).trans (by simp)
   have bx1lt:w.heap.size<W18.heap.size:=bx1.out.lt
   have bx2c0:W18.cell? ⟨w.heap.size+1,0,none⟩=some (.int .i64 x2.op):=(bx2.out.cell 0).trans (by simp)
   have bx2c1:W18.cell? ⟨w.heap.size+1,1,none⟩=some (.int .i64 x2.ct):=(bx2.out.cell 1).trans (by simp)
   have bx2c2:W18.cell? ⟨w.heap.size+1,2,none⟩=some (.int .i64 x2.n):=(bx2.out.cell 2).trans (by simp)
   have bx2c3:W18.cell? ⟨w.heap.size+1,3,none⟩=some (.int .i64 x2.m):=(bx2.out.cell 3).trans (by simp)
   have bx2c4:W18.cell? ⟨w.heap.size+1,4,none⟩=some (.int .i64 x2.va):=(bx2.out.cell 4).trans (by simp)
   have bx2c5:W18.cell? ⟨w.heap.size+1,5,none⟩=some (.slice A2 x2.ks.length cap2):=(bx2.out.cell 5).trans (by simp)
   have bx2lt:w.heap.size+1<W18.heap.size:=bx2.out.lt
   go_wp2_with fail
   clear bx1c0 bx1c1 bx2c0 bx2c1 bx2c2 bx2c3 bx2c4 bx2c5 bx1lt bx2lt
   have nb_xb2_w0:=jj (fun (hj:_∈F_w0)=>Nat.lt_irrefl _ (Y_w0.out _ hj))
   have nb_xb2_x0:=jj (fun (hj:_∈G15)=>Nat.lt_irrefl _ (Y0.out _ hj))
   have nb_xb2_x2:=jj (fun (hj:_∈G18)=>Nat.lt_irrefl _ (Y2.out _ hj))
   obtain ⟨W20,hW⟩:∃ X,X=W18.alloc (.cells #[.int .i64 x2.op,.int .i64 x2.ct,.int .i64 x2.n,.int .i64 x2.m,.int .i64 x2.va,.slice B2 x2.ks.length bap2] 38):=⟨_,rfl⟩
   have hb20:Below W18.heap.size W18 W20:=by rw [hW];exact (zy2 _ _).alloc (zz8 _) _
   have xb2:Hid (Blk W20 W18.heap.size 38 #[.int .i64 x2.op,.int .i64 x2.ct,.int .i64 x2.n,.int .i64 x2.m,.int .i64 x2.va,.slice B2 x2.ks.length bap2]):=by rw [hW];exact Blk.new _ _ _
   rw [←hW]
   clear hW
   have hB21:=hB19.trans (hb20.mono hB19.size)
   have bx1n:Hid (Blk W20 (w.heap.size) 24 #[.int .i64 x1.d,.int .i64 x1.i]):=bx1.out.same (hb20.block _ bx1.out.lt)
   clear bx1
   have bx1:=bx1n
   clear bx1n
   have bx2n:Hid (Blk W20 (w.heap.size+1) 27 #[.int .i64 x2.op,.int .i64 x2.ct,.int .i64 x2.n,.int .i64 x2.m,.int .i64 x2.va,.slice A2 x2.ks.length cap2]):=bx2.out.same (hb20.block _ bx2.out.lt)
   clear bx2
   have bx2:=bx2n
   clear bx2n
   have KP:=jj (show Kept F_w0 W18 W20 from (Kept.of_below (w:=W18) hb20 Y_w0.out))
   have X_w0n:=jj (X_w0.out.mono KP.out (fun x _ cs G hk h=>(fun w w' x cs G hk h=>PR.mono (w:=w) (w':=w') x cs G hk h) _ _ x cs G hk h))
   have Y_w0n:=jj (Y_w0.out.mono hb20.size)
   have Z_w0n:=jj (Z_w0.out.kept KP.out)
   clear X_w0 Y_w0 KP Z_w0
   have X_w0:=X_w0n
   have Y_w0:=Y_w0n
   have Z_w0:=Z_w0n
   clear X_w0n Y_w0n Z_w0n
   have KP:=jj (show Kept G15 W18 W20 from (Kept.of_below (w:=W18) hb20 Y0.out))
   have X0n:=jj (ArrDt.mono X0.out KP.out)
   have Y0n:=jj (Y0.out.mono hb20.size)
   have Z_x0n:=jj (Z_x0.out.kept KP.out)
   clear X0 Y0 KP Z_x0
   have X0:=X0n
   have Y0:=Y0n
   have Z_x0:=Z_x0n
   clear X0n Y0n Z_x0n
   have KP:=jj (show Kept G18 W18 W20 from (Kept.of_below (w:=W18) hb20 Y2.out))
   have X2n:=jj (PR.mono _ _ _ KP.out X2.out)
   have Y2n:=jj (Y2.out.mono hb20.size)
   have Z_x2n:=jj (Z_x2.out.kept KP.out)
   clear X2 Y2 KP Z_x2
   have X2:=X2n
   have Y2:=Y2n
   have Z_x2:=Z_x2n
   clear X2n Y2n Z_x2n
   have bx1c0:W20.cell? ⟨w.heap.size,0,none⟩=some (.int .i64 x1.d):=(bx1.out.cell 0).trans (by simp)
   have bx1c1:W20.cell? ⟨w.heap.size,1,none⟩=some (.int .i64 x1.i):=(bx1.out.cell 1).trans (by simp)
   have bx1lt:w.heap.size<W20.heap.size:=bx1.out.lt
   have bx2c0:W20.cell? ⟨w.heap.size+1,0,none⟩=some (.int .i64 x2.op):=(bx2.out.cell 0).trans (by simp)
   have bx2c1:W20.cell? ⟨w.heap.size+1,1,none⟩=some (.int .i64 x2.ct):=(bx2.out.cell 1).trans (by simp)
   have bx2c2:W20.cell? ⟨w.heap.size+1,2,none⟩=some (.int .i64 x2.n):=(bx2.out.cell 2).trans (by simp)
   have bx2c3:W20.cell? ⟨w.heap.size+1,3,none⟩=some (.int .i64 x2.m):=(bx2.out.cell 3).trans (by simp)
   have bx2c4:W20.cell? ⟨w.heap.size+1,4,none⟩=some (.int .i64 x2.va):=(bx2.out.cell 4).trans (by simp)
   have bx2c5:W20.cell? ⟨w.heap.size+1,5,none⟩=some (.slice A2 x2.ks.length cap2):=(bx2.out.cell 5).trans (by simp)
   have bx2lt:w.heap.size+1<W20.heap.size:=bx2.out.lt
   have xb2c0:W20.cell? ⟨W18.heap.size,0,none⟩=some (.int .i64 x2.op):=(xb2.out.cell 0).trans (by simp)
   have xb2c1:W20.cell? ⟨W18.heap.size,1,none⟩=some (.int .i64 x2.ct):=(xb2.out.cell 1).trans (by simp)
   have xb2c2:W20.cell? ⟨W18.heap.size,2,none⟩=some (.int .i64 x2.n):=(xb2.out.cell 2).trans (by simp)
   have xb2c3:W20.cell? ⟨W18.heap.size,3,none⟩=some (.int .i64 x2.m):=(xb2.out.cell 3).trans (by simp)
   have xb2c4:W20.cell? ⟨W18.heap.size,4,none⟩=some (.int .i64 x2.va):=(xb2.out.cell 4).trans (by simp)
   have xb2c5:W20.cell? ⟨W18.heap.size,5,none⟩=some (.slice B2 x2.ks.length bap2):=(xb2.out.cell 5).trans (by simp)
   have xb2lt:W18.heap.size<W20.heap.size:=xb2.out.lt
   go_wp2_with fail
   have SU22_w0:=Y_w0
   have SU22_x0:=Y0
   have SU22_x2:=Y2
   have SB22_bx1:=jj bx1.out.lt
   have SB22_bx2:=jj bx2.out.lt
   have SB22_xb2:=jj xb2.out.lt
   have hkeep:∀ U U':World,(U.cell? ⟨w.heap.size,0,none⟩=some (.int .i64 x1.d)∧U.cell? ⟨w.heap.size,1,none⟩=some (.int .i64 x1.i)∧U.cell? ⟨W18.heap.size,0,none⟩=some (.int .i64 x2.op)∧U.cell? ⟨W18.heap.size,1,none⟩=some (.int .i64 x2.ct)∧U.cell? ⟨W18.heap.size,2,none⟩=some (.int .i64 x2.n)∧U.cell? ⟨W18.heap.size,3,none⟩=some (.int .i64 x2.m)∧U.cell? ⟨W18.heap.size,4,none⟩=some (.int .i64 x2.va)∧U.cell? ⟨W18.heap.size,5,none⟩=some (.slice B2 x2.ks.length bap2))→Below U.heap.size U U'→W20.heap.size≤U.heap.size→(U'.cell? ⟨w.heap.size,0,none⟩=some (.int .i64 x1.d)∧U'.cell? ⟨w.heap.size,1,none⟩=some (.int .i64 x1.i)∧U'.cell? ⟨W18.heap.size,0,none⟩=some (.int .i64 x2.op)∧U'.cell? ⟨W18.heap.size,1,none⟩=some (.int .i64 x2.ct)∧U'.cell? ⟨W18.heap.size,2,none⟩=some (.int .i64 x2.n)∧U'.cell? ⟨W18.heap.size,3,none⟩=some (.int .i64 x2.m)∧U'.cell? ⟨W18.heap.size,4,none⟩=some (.int .i64 x2.va)∧U'.cell? ⟨W18.heap.size,5,none⟩=some (.slice B2 x2.ks.length bap2)):=fun U U' h hb hU=>⟨(hb.cell (zz9 (bx1lt) hU)).trans h.1,(hb.cell (zz9 (bx1lt) hU)).trans h.2.1,(hb.cell (zz9 (xb2lt) hU)).trans h.2.2.1,(hb.cell (zz9 (xb2lt) hU)).trans h.2.2.2.1,(hb.cell (zz9 (xb2lt) hU)).trans h.2.2.2.2.1,(hb.cell (zz9 (xb2lt) hU)).trans h.2.2.2.2.2.1,(hb.cell (zz9 (xb2lt) hU)).trans h.2.2.2.2.2.2.1,(hb.cell (zz9 (xb2lt) hU)).trans h.2.2.2.2.2.2.2⟩
   have HKeep:=jj hkeep
   clear hkeep
   go_region_held3 (fun w'=>w'.cell? ⟨w.heap.size,0,none⟩=some (.int .i64 x1.d)∧w'.cell? ⟨w.heap.size,1,none⟩=some (.int .i64 x1.i)∧w'.cell? ⟨W18.heap.size,0,none⟩=some (.int .i64 x2.op)∧w'.cell? ⟨W18.heap.size,1,none⟩=some (.int .i64 x2.ct)∧w'.cell? ⟨W18.heap.size,2,none⟩=some (.int .i64 x2.n)∧w'.cell? ⟨W18.heap.size,3,none⟩=some (.int .i64 x2.m)∧w'.cell? ⟨W18.heap.size,4,none⟩=some (.int .i64 x2.va)∧w'.cell? ⟨W18.heap.size,5,none⟩=some (.slice B2 x2.ks.length bap2)) (first | assumption | (exact ⟨bx1c0,bx1c1,xb2c0,xb2c1,xb2c2,xb2c3,xb2c4,xb2c5⟩) | (exact HKeep.out W20.drew W23 ⟨bx1c0,bx1c1,xb2c0,xb2c1,xb2c2,xb2c3,xb2c4,xb2c5⟩ hb23 (zz8 _)) | (exact HKeep.out W23 W24 (by assumption) hb24 hleW23)) (first | (go_at_call 8;((with_reducible refine (toType_any x1 _ _ [] (TyR.mk0 _ x1) (Under.nil _) (Ty.size_le x1)).mono ?_);rintro e W23 ⟨ds23,G23,rfl,hb23,⟨rfl,rfl⟩,hfr23,hfs23⟩);have hB23:=hB21.drew.trans (hb23.mono hB21.drew.size);have hleW23:W20.heap.size≤W23.heap.size:=hb23.size) | (go_at_call 10;((with_reducible refine (split_rw HResb.out (impl_SplitOr x0 x1 x2 hs2 _ _ G15 _ G18 (ArrDt.below (ArrDt.drew X0.out) hb23 (Under.drew Y0.out)) ((Under.drew Y0.out).mono hb23.size) (X2.out.drew.below hb23 (Under.drew Y2.out)) ((Under.drew Y2.out).mono hb23.size))).mono ?_);rintro e W24 ⟨vr_g0,F_g0,rfl,hb24,ha_g0,hfr_g0,hfs_g0⟩)))
   have hbt25_0:=hb23
   have hbt25_1:=hbt25_0.trans (hb24.mono hbt25_0.size)
   clear bx1c0 bx1c1 bx2c0 bx2c1 bx2c2 bx2c3 bx2c4 bx2c5 xb2c0 xb2c1 xb2c2 xb2c3 xb2c4 xb2c5 bx1lt bx2lt xb2lt
   have hfz_g0:Fresh W20 W24 F_g0:=fun b hb=>⟨Nat.le_trans hbt25_0.size (hfs_g0 b hb).1,(hfs_g0 b hb).2⟩
   have dj_w0_g0:=jj (fun b (hb:b∈F_w0) (hj:b∈F_g0)=>Nat.lt_irrefl _ (zz9 (SU22_w0.out b hb) (hfz_g0 b hj).1))
   have dj_g0_w0:=jj (fun b (hj:b∈F_g0) (hb:b∈F_w0)=>Nat.lt_irrefl _ (zz9 (SU22_w0.out b hb) (hfz_g0 b hj).1))
   have dj_x0_g0:=jj (fun b (hb:b∈G15) (hj:b∈F_g0)=>Nat.lt_irrefl _ (zz9 (SU22_x0.out b hb) (hfz_g0 b hj).1))
   have dj_g0_x0:=jj (fun b (hj:b∈F_g0) (hb:b∈G15)=>Nat.lt_irrefl _ (zz9 (SU22_x0.out b hb) (hfz_g0 b hj).1))
   have dj_x2_g0:=jj (fun b (hb:b∈G18) (hj:b∈F_g0)=>Nat.lt_irrefl _ (zz9 (SU22_x2.out b hb) (hfz_g0 b hj).1))
   have dj_g0_x2:=jj (fun b (hj:b∈F_g0) (hb:b∈G18)=>Nat.lt_irrefl _ (zz9 (SU22_x2.out b hb) (hfz_g0 b hj).1))
   have nb_bx1_g0:=jj (fun (hj:_∈F_g0)=>Nat.lt_irrefl _ (zz9 SB22_bx1.out (hfz_g0 _ hj).1))
   have nb_bx2_g0:=jj (fun (hj:_∈F_g0)=>Nat.lt_irrefl _ (zz9 SB22_bx2.out (hfz_g0 _ hj).1))
   have nb_xb2_g0:=jj (fun (hj:_∈F_g0)=>Nat.lt_irrefl _ (zz9 SB22_xb2.out (hfz_g0 _ hj).1))
   have LB_g0:=jj (fun b (hj:b∈F_g0)=>Nat.le_trans hB21.size (hfz_g0 b hj).1)
   have X_g0:=jj ha_g0
   have Y_g0:=jj hfs_g0.under
   have Z_g0:=jj hfr_g0
   have X_g0:=(show Hid (Arr W24 (PR W24) r0 vr_g0 F_g0) from by rw [←HRes.out];exact X_g0.out)
   obtain ⟨A_g0,cap_g0,rfl,-,-⟩:=X_g0.out.form
   clear ha_g0 hfr_g0 hfs_g0 hfz_g0
   have hB26:=hB21.drew.trans (hbt25_1.mono hB21.size)
   have bx1n:Hid (Blk W24 (w.heap.size) 24 #[.int .i64 x1.d,.int .i64 x1.i]):=bx1.out.same (hbt25_1.block _ bx1.out.lt)
   clear bx1
   have bx1:=bx1n
   clear bx1n
   have bx2n:Hid (Blk W24 (w.heap.size+1) 27 #[.int .i64 x2.op,.int .i64 x2.ct,.int .i64 x2.n,.int .i64 x2.m,.int .i64 x2.va,.slice A2 x2.ks.length cap2]):=bx2.out.same (hbt25_1.block _ bx2.out.lt)
   clear bx2
   have bx2:=bx2n
   clear bx2n
   have xb2n:Hid (Blk W24 (W18.heap.size) 38 #[.int .i64 x2.op,.int .i64 x2.ct,.int .i64 x2.n,.int .i64 x2.m,.int .i64 x2.va,.slice B2 x2.ks.length bap2]):=xb2.out.same (hbt25_1.block _ xb2.out.lt)
   clear xb2
   have xb2:=xb2n
   clear xb2n
   have KP:=jj (show Kept F_w0 W20 W24 from (Kept.of_below (w:=W20) (zAA hbt25_1) Y_w0.out))
   have X_w0n:=jj (X_w0.out.mono KP.out (fun x _ cs G hk h=>(fun w w' x cs G hk h=>PR.mono (w:=w) (w':=w') x cs G hk h) _ _ x cs G hk h))
   have Y_w0n:=jj (Y_w0.out.mono hbt25_1.size)
   have Z_w0n:=jj (Z_w0.out.kept KP.out)
   clear X_w0 Y_w0 KP Z_w0
   have X_w0:=X_w0n
   have Y_w0:=Y_w0n
   have Z_w0:=Z_w0n
   clear X_w0n Y_w0n Z_w0n
   have KP:=jj (show Kept G15 W20 W24 from (Kept.of_below (w:=W20) (zAA hbt25_1) Y0.out))
   have X0n:=jj (ArrDt.mono X0.out KP.out)
   have Y0n:=jj (Y0.out.mono hbt25_1.size)
   have Z_x0n:=jj (Z_x0.out.kept KP.out)
   clear X0 Y0 KP Z_x0
   have X0:=X0n
   have Y0:=Y0n
   have Z_x0:=Z_x0n
   clear X0n Y0n Z_x0n
   have KP:=jj (show Kept G18 W20 W24 from (Kept.of_below (w:=W20) (zAA hbt25_1) Y2.out))
   have X2n:=jj (PR.mono _ _ _ KP.out X2.out)
   have Y2n:=jj (Y2.out.mono hbt25_1.size)
   have Z_x2n:=jj (Z_x2.out.kept KP.out)
   clear X2 Y2 KP Z_x2
   have X2:=X2n
   have Y2:=Y2n
   have Z_x2:=Z_x2n
   clear X2n Y2n Z_x2n
   have hne:True:=trivial
   clear hne
   have hneb:(rb != rb)=false:=by simp
   have bx1c0:W24.cell? ⟨w.heap.size,0,none⟩=some (.int .i64 x1.d):=(bx1.out.cell 0).trans (by simp)
   have bx1c1:W24.cell? ⟨w.heap.size,1,none⟩=some (.int .i64 x1.i):=(bx1.out.cell 1).trans (by simp)
   have bx1lt:w.heap.size<W24.heap.size:=bx1.out.lt
   have bx2c0:W24.cell? ⟨w.heap.size+1,0,none⟩=some (.int .i64 x2.op):=(bx2.out.cell 0).trans (by simp)
   have bx2c1:W24.cell? ⟨w.heap.size+1,1,none⟩=some (.int .i64 x2.ct):=(bx2.out.cell 1).trans (by simp)
   have bx2c2:W24.cell? ⟨w.heap.size+1,2,none⟩=some (.int .i64 x2.n):=(bx2.out.cell 2).trans (by simp)
   have bx2c3:W24.cell? ⟨w.heap.size+1,3,none⟩=some (.int .i64 x2.m):=(bx2.out.cell 3).trans (by simp)
   have bx2c4:W24.cell? ⟨w.heap.size+1,4,none⟩=some (.int .i64 x2.va):=(bx2.out.cell 4).trans (by simp)
   have bx2c5:W24.cell? ⟨w.heap.size+1,5,none⟩=some (.slice A2 x2.ks.length cap2):=(bx2.out.cell 5).trans (by simp)
   have bx2lt:w.heap.size+1<W24.heap.size:=bx2.out.lt
   have xb2c0:W24.cell? ⟨W18.heap.size,0,none⟩=some (.int .i64 x2.op):=(xb2.out.cell 0).trans (by simp)
   have xb2c1:W24.cell? ⟨W18.heap.size,1,none⟩=some (.int .i64 x2.ct):=(xb2.out.cell 1).trans (by simp)
   have xb2c2:W24.cell? ⟨W18.heap.size,2,none⟩=some (.int .i64 x2.n):=(xb2.out.cell 2).trans (by simp)
   have xb2c3:W24.cell? ⟨W18.heap.size,3,none⟩=some (.int .i64 x2.m):=(xb2.out.cell 3).trans (by simp)
   have xb2c4:W24.cell? ⟨W18.heap.size,4,none⟩=some (.int .i64 x2.va):=(xb2.out.cell 4).trans (by simp)
   have xb2c5:W24.cell? ⟨W18.heap.size,5,none⟩=some (.slice B2 x2.ks.length bap2):=(xb2.out.cell 5).trans (by simp)
   have xb2lt:W18.heap.size<W24.heap.size:=xb2.out.lt
   go_wp2_with fail
   clear bx1c0 bx1c1 bx2c0 bx2c1 bx2c2 bx2c3 bx2c4 bx2c5 xb2c0 xb2c1 xb2c2 xb2c3 xb2c4 xb2c5 bx1lt bx2lt xb2lt
   refine (eqPatternS_any r0 W24 F_g0 F_w0 _ _ X_g0.out X_w0.out Y_g0.out Y_w0.out).mono ?_
   rintro e W27 ⟨rfl,hb27⟩
   have hB28:=hB26.trans (hb27.mono hB26.size)
   have bx1n:Hid (Blk W27 (w.heap.size) 24 #[.int .i64 x1.d,.int .i64 x1.i]):=bx1.out.same (hb27.block _ bx1.out.lt)
   clear bx1
   have bx1:=bx1n
   clear bx1n
   have bx2n:Hid (Blk W27 (w.heap.size+1) 27 #[.int .i64 x2.op,.int .i64 x2.ct,.int .i64 x2.n,.int .i64 x2.m,.int .i64 x2.va,.slice A2 x2.ks.length cap2]):=bx2.out.same (hb27.block _ bx2.out.lt)
   clear bx2
   have bx2:=bx2n
   clear bx2n
   have xb2n:Hid (Blk W27 (W18.heap.size) 38 #[.int .i64 x2.op,.int .i64 x2.ct,.int .i64 x2.n,.int .i64 x2.m,.int .i64 x2.va,.slice B2 x2.ks.length bap2]):=xb2.out.same (hb27.block _ xb2.out.lt)
   clear xb2
   have xb2:=xb2n
   clear xb2n
   have KP:=jj (show Kept F_w0 W24 W27 from (Kept.of_below (w:=W24) hb27 Y_w0.out))
   have X_w0n:=jj (X_w0.out.mono KP.out (fun x _ cs G hk h=>(fun w w' x cs G hk h=>PR.mono (w:=w) (w':=w') x cs G hk h) _ _ x cs G hk h))
   have Y_w0n:=jj (Y_w0.out.mono hb27.size)
   have Z_w0n:=jj (Z_w0.out.kept KP.out)
   clear X_w0 Y_w0 KP Z_w0
   have X_w0:=X_w0n
   have Y_w0:=Y_w0n
   have Z_w0:=Z_w0n
   clear X_w0n Y_w0n Z_w0n
   have KP:=jj (show Kept G15 W24 W27 from (Kept.of_below (w:=W24) hb27 Y0.out))
   have X0n:=jj (ArrDt.mono X0.out KP.out)
   have Y0n:=jj (Y0.out.mono hb27.size)
   have Z_x0n:=jj (Z_x0.out.kept KP.out)
   clear X0 Y0 KP Z_x0
   have X0:=X0n
   have Y0:=Y0n
   have Z_x0:=Z_x0n
   clear X0n Y0n Z_x0n
   have KP:=jj (show Kept G18 W24 W27 from (Kept.of_below (w:=W24) hb27 Y2.out))
   have X2n:=jj (PR.mono _ _ _ KP.out X2.out)
   have Y2n:=jj (Y2.out.mono hb27.size)
   have Z_x2n:=jj (Z_x2.out.kept KP.out)
   clear X2 Y2 KP Z_x2
   have X2:=X2n
   have Y2:=Y2n
   have Z_x2:=Z_x2n
   clear X2n Y2n Z_x2n
   have KP:=jj (show Kept F_g0 W24 W27 from (Kept.of_below (w:=W24) hb27 Y_g0.out))
   have X_g0n:=jj (X_g0.out.mono KP.out (fun x _ cs G hk h=>(fun w w' x cs G hk h=>PR.mono (w:=w) (w':=w') x cs G hk h) _ _ x cs G hk h))
   have Y_g0n:=jj (Y_g0.out.mono hb27.size)
   have Z_g0n:=jj (Z_g0.out.kept KP.out)
   clear X_g0 Y_g0 KP Z_g0
   have X_g0:=X_g0n
   have Y_g0:=Y_g0n
   have Z_g0:=Z_g0n
   clear X_g0n Y_g0n Z_g0n
   have bx1c0:W27.cell? ⟨w.heap.size,0,none⟩=some (.int .i64 x1.d):=(bx1.out.cell 0).trans (by simp)
   have bx1c1:W27.cell? ⟨w.heap.size,1,none⟩=some (.int .i64 x1.i):=(bx1.out.cell 1).trans (by simp)
   have bx1lt:w.heap.size<W27.heap.size:=bx1.out.lt
   have bx2c0:W27.cell? ⟨w.heap.size+1,0,none⟩=some (.int .i64 x2.op):=(bx2.out.cell 0).trans (by simp)
   have bx2c1:W27.cell? ⟨w.heap.size+1,1,none⟩=some (.int .i64 x2.ct):=(bx2.out.cell 1).trans (by simp)
   have bx2c2:W27.cell? ⟨w.heap.size+1,2,none⟩=some (.int .i64 x2.n):=(bx2.out.cell 2).trans (by simp)
   have bx2c3:W27.cell? ⟨w.heap.size+1,3,none⟩=some (.int .i64 x2.m):=(bx2.out.cell 3).trans (by simp)
   have bx2c4:W27.cell? ⟨w.heap.size+1,4,none⟩=some (.int .i64 x2.va):=(bx2.out.cell 4).trans (by simp)
   have bx2c5:W27.cell? ⟨w.heap.size+1,5,none⟩=some (.slice A2 x2.ks.length cap2):=(bx2.out.cell 5).trans (by simp)
   have bx2lt:w.heap.size+1<W27.heap.size:=bx2.out.lt
   have xb2c0:W27.cell? ⟨W18.heap.size,0,none⟩=some (.int .i64 x2.op):=(xb2.out.cell 0).trans (by simp)
   have xb2c1:W27.cell? ⟨W18.heap.size,1,none⟩=some (.int .i64 x2.ct):=(xb2.out.cell 1).trans (by simp)
   have xb2c2:W27.cell? ⟨W18.heap.size,2,none⟩=some (.int .i64 x2.n):=(xb2.out.cell 2).trans (by simp)
   have xb2c3:W27.cell? ⟨W18.heap.size,3,none⟩=some (.int .i64 x2.m):=(xb2.out.cell 3).trans (by simp)
   have xb2c4:W27.cell? ⟨W18.heap.size,4,none⟩=some (.int .i64 x2.va):=(xb2.out.cell 4).trans (by simp)
   have xb2c5:W27.cell? ⟨W18.heap.size,5,none⟩=some (.slice B2 x2.ks.length bap2):=(xb2.out.cell 5).trans (by simp)
   have xb2lt:W18.heap.size<W27.heap.size:=xb2.out.lt
   go_wp2_with fail
   clear bx1c0 bx1c1 bx2c0 bx2c1 bx2c2 bx2c3 bx2c4 bx2c5 xb2c0 xb2c1 xb2c2 xb2c3 xb2c4 xb2c5 bx1lt bx2lt xb2lt
   refine (toDataS_any x0 W27 F0 _ (ArrDt.below HR0.out hB28 HU0.out) (HU0.out.mono hB28.size) hs0).mono ?_
   rintro e W29 ⟨y29,G29,rfl,hb29,hv29,hfr29,hfs29⟩
   have hB31:=hB28.trans (hb29.mono hB28.size)
   have bx1n:Hid (Blk W29 (w.heap.size) 24 #[.int .i64 x1.d,.int .i64 x1.i]):=bx1.out.same (hb29.block _ bx1.out.lt)
   clear bx1
   have bx1:=bx1n
   clear bx1n
   have bx2n:Hid (Blk W29 (w.heap.size+1) 27 #[.int .i64 x2.op,.int .i64 x2.ct,.int .i64 x2.n,.int .i64 x2.m,.int .i64 x2.va,.slice A2 x2.ks.length cap2]):=bx2.out.same (hb29.block _ bx2.out.lt)
   clear bx2
   have bx2:=bx2n
   clear bx2n
   have xb2n:Hid (Blk W29 (W18.heap.size) 38 #[.int .i64 x2.op,.int .i64 x2.ct,.int .i64 x2.n,.int .i64 x2.m,.int .i64 x2.va,.slice B2 x2.ks.length bap2]):=xb2.out.same (hb29.block _ xb2.out.lt)
   clear xb2
   have xb2:=xb2n
   clear xb2n
   have KP:=jj (show Kept F_w0 W27 W29 from (Kept.of_below (w:=W27) hb29 Y_w0.out))
   have X_w0n:=jj (X_w0.out.mono KP.out (fun x _ cs G hk h=>(fun w w' x cs G hk h=>PR.mono (w:=w) (w':=w') x cs G hk h) _ _ x cs G hk h))
   have Y_w0n:=jj (Y_w0.out.mono hb29.size)
   have Z_w0n:=jj (Z_w0.out.kept KP.out)
   clear X_w0 Y_w0 KP Z_w0
   have X_w0:=X_w0n
   have Y_w0:=Y_w0n
   have Z_w0:=Z_w0n
   clear X_w0n Y_w0n Z_w0n
   have KP:=jj (show Kept G15 W27 W29 from (Kept.of_below (w:=W27) hb29 Y0.out))
   have X0n:=jj (ArrDt.mono X0.out KP.out)
   have Y0n:=jj (Y0.out.mono hb29.size)
   have Z_x0n:=jj (Z_x0.out.kept KP.out)
   clear X0 Y0 KP Z_x0
   have X0:=X0n
   have Y0:=Y0n
   have Z_x0:=Z_x0n
   clear X0n Y0n Z_x0n
   have KP:=jj (show Kept G18 W27 W29 from (Kept.of_below (w:=W27) hb29 Y2.out))
   have X2n:=jj (PR.mono _ _ _ KP.out X2.out)
   have Y2n:=jj (Y2.out.mono hb29.size)
   have Z_x2n:=jj (Z_x2.out.kept KP.out)
   clear X2 Y2 KP Z_x2
   have X2:=X2n
   have Y2:=Y2n
   have Z_x2:=Z_x2n
   clear X2n Y2n Z_x2n
   have KP:=jj (show Kept F_g0 W27 W29 from (Kept.of_below (w:=W27) hb29 Y_g0.out))
   have X_g0n:=jj (X_g0.out.mono KP.out (fun x _ cs G hk h=>(fun w w' x cs G hk h=>PR.mono (w:=w) (w':=w') x cs G hk h) _ _ x cs G hk h))
   have Y_g0n:=jj (Y_g0.out.mono hb29.size)
   have Z_g0n:=jj (Z_g0.out.kept KP.out)
   clear X_g0 Y_g0 KP Z_g0
   have X_g0:=X_g0n
   have Y_g0:=Y_g0n
   have Z_g0:=Z_g0n
   clear X_g0n Y_g0n Z_g0n
   have bx1c0:W29.cell? ⟨w.heap.size,0,none⟩=some (.int .i64 x1.d):=(bx1.out.cell 0).trans (by simp)
   have bx1c1:W29.cell? ⟨w.heap.size,1,none⟩=some (.int .i64 x1.i):=(bx1.out.cell 1).trans (by simp)
   have bx1lt:w.heap.size<W29.heap.size:=bx1.out.lt
   have bx2c0:W29.cell? ⟨w.heap.size+1,0,none⟩=some (.int .i64 x2.op):=(bx2.out.cell 0).trans (by simp)
   have bx2c1:W29.cell? ⟨w.heap.size+1,1,none⟩=some (.int .i64 x2.ct):=(bx2.out.cell 1).trans (by simp)
   have bx2c2:W29.cell? ⟨w.heap.size+1,2,none⟩=some (.int .i64 x2.n):=(bx2.out.cell 2).trans (by simp)
   have bx2c3:W29.cell? ⟨w.heap.size+1,3,none⟩=some (.int .i64 x2.m):=(bx2.out.cell 3).trans (by simp)
   have bx2c4:W29.cell? ⟨w.heap.size+1,4,none⟩=some (.int .i64 x2.va):=(bx2.out.cell 4).trans (by simp)
   have bx2c5:W29.cell? ⟨w.heap.size+1,5,none⟩=some (.slice A2 x2.ks.length cap2):=(bx2.out.cell 5).trans (by simp)
   have bx2lt:w.heap.size+1<W29.heap.size:=bx2.out.lt
   have xb2c0:W29.cell? ⟨W18.heap.size,0,none⟩=some (.int .i64 x2.op):=(xb2.out.cell 0).trans (by simp)
   have xb2c1:W29.cell? ⟨W18.heap.size,1,none⟩=some (.int .i64 x2.ct):=(xb2.out.cell 1).trans (by simp)
   have xb2c2:W29.cell? ⟨W18.heap.size,2,none⟩=some (.int .i64 x2.n):=(xb2.out.cell 2).trans (by simp)
   have xb2c3:W29.cell? ⟨W18.heap.size,3,none⟩=some (.int .i64 x2.m):=(xb2.out.cell 3).trans (by simp)
   have xb2c4:W29.cell? ⟨W18.heap.size,4,none⟩=some (.int .i64 x2.va):=(xb2.out.cell 4).trans (by simp)
   have xb2c5:W29.cell? ⟨W18.heap.size,5,none⟩=some (.slice B2 x2.ks.length bap2):=(xb2.out.cell 5).trans (by simp)
   have xb2lt:W18.heap.size<W29.heap.size:=xb2.out.lt
   go_wp2_with fail
   clear bx1c0 bx1c1 bx2c0 bx2c1 bx2c2 bx2c3 bx2c4 bx2c5 xb2c0 xb2c1 xb2c2 xb2c3 xb2c4 xb2c5 bx1lt bx2lt xb2lt
   refine (eqDataS_any x0 W29 G15 G29 _ _ X0.out hv29 Y0.out hfs29.under).mono ?_
   rintro e W30 ⟨rfl,hb30⟩
   have hB32:=hB31.trans (hb30.mono hB31.size)
   have bx1n:Hid (Blk W30 (w.heap.size) 24 #[.int .i64 x1.d,.int .i64 x1.i]):=bx1.out.same (hb30.block _ bx1.out.lt)
   clear bx1
   have bx1:=bx1n
   clear bx1n
   have bx2n:Hid (Blk W30 (w.heap.size+1) 27 #[.int .i64 x2.op,.int .i64 x2.ct,.int .i64 x2.n,.int .i64 x2.m,.int .i64 x2.va,.slice A2 x2.ks.length cap2]):=bx2.out.same (hb30.block _ bx2.out.lt)
   clear bx2
   have bx2:=bx2n
   clear bx2n
   have xb2n:Hid (Blk W30 (W18.heap.size) 38 #[.int .i64 x2.op,.int .i64 x2.ct,.int .i64 x2.n,.int .i64 x2.m,.int .i64 x2.va,.slice B2 x2.ks.length bap2]):=xb2.out.same (hb30.block _ xb2.out.lt)
   clear xb2
   have xb2:=xb2n
   clear xb2n
   have KP:=jj (show Kept F_w0 W29 W30 from (Kept.of_below (w:=W29) hb30 Y_w0.out))
   have X_w0n:=jj (X_w0.out.mono KP.out (fun x _ cs G hk h=>(fun w w' x cs G hk h=>PR.mono (w:=w) (w':=w') x cs G hk h) _ _ x cs G hk h))
   have Y_w0n:=jj (Y_w0.out.mono hb30.size)
   have Z_w0n:=jj (Z_w0.out.kept KP.out)
   clear X_w0 Y_w0 KP Z_w0
   have X_w0:=X_w0n
   have Y_w0:=Y_w0n
   have Z_w0:=Z_w0n
   clear X_w0n Y_w0n Z_w0n
   have KP:=jj (show Kept G15 W29 W30 from (Kept.of_below (w:=W29) hb30 Y0.out))
   have X0n:=jj (ArrDt.mono X0.out KP.out)
   have Y0n:=jj (Y0.out.mono hb30.size)
   have Z_x0n:=jj (Z_x0.out.kept KP.out)
   clear X0 Y0 KP Z_x0
   have X0:=X0n
   have Y0:=Y0n
   have Z_x0:=Z_x0n
   clear X0n Y0n Z_x0n
   have KP:=jj (show Kept G18 W29 W30 from (Kept.of_below (w:=W29) hb30 Y2.out))
   have X2n:=jj (PR.mono _ _ _ KP.out X2.out)
   have Y2n:=jj (Y2.out.mono hb30.size)
   have Z_x2n:=jj (Z_x2.out.kept KP.out)
   clear X2 Y2 KP Z_x2
   have X2:=X2n
   have Y2:=Y2n
   have Z_x2:=Z_x2n
   clear X2n Y2n Z_x2n
   have KP:=jj (show Kept F_g0 W29 W30 from (Kept.of_below (w:=W29) hb30 Y_g0.out))
   have X_g0n:=jj (X_g0.out.mono KP.out (fun x _ cs G hk h=>(fun w w' x cs G hk h=>PR.mono (w:=w) (w':=w') x cs G hk h) _ _ x cs G hk h))
   have Y_g0n:=jj (Y_g0.out.mono hb30.size)
   have Z_g0n:=jj (Z_g0.out.kept KP.out)
   clear X_g0 Y_g0 KP Z_g0
   have X_g0:=X_g0n
   have Y_g0:=Y_g0n
   have Z_g0:=Z_g0n
   clear X_g0n Y_g0n Z_g0n
   have bx1c0:W30.cell? ⟨w.heap.size,0,none⟩=some (.int .i64 x1.d):=(bx1.out.cell 0).trans (by simp)
   have bx1c1:W30.cell? ⟨w.heap.size,1,none⟩=some (.int .i64 x1.i):=(bx1.out.cell 1).trans (by simp)
   have bx1lt:w.heap.size<W30.heap.size:=bx1.out.lt
   have bx2c0:W30.cell? ⟨w.heap.size+1,0,none⟩=some (.int .i64 x2.op):=(bx2.out.cell 0).trans (by simp)
   have bx2c1:W30.cell? ⟨w.heap.size+1,1,none⟩=some (.int .i64 x2.ct):=(bx2.out.cell 1).trans (by simp)
   have bx2c2:W30.cell? ⟨w.heap.size+1,2,none⟩=some (.int .i64 x2.n):=(bx2.out.cell 2).trans (by simp)
   have bx2c3:W30.cell? ⟨w.heap.size+1,3,none⟩=some (.int .i64 x2.m):=(bx2.out.cell 3).trans (by simp)
   have bx2c4:W30.cell? ⟨w.heap.size+1,4,none⟩=some (.int .i64 x2.va):=(bx2.out.cell 4).trans (by simp)
   have bx2c5:W30.cell? ⟨w.heap.size+1,5,none⟩=some (.slice A2 x2.ks.length cap2):=(bx2.out.cell 5).trans (by simp)
   have bx2lt:w.heap.size+1<W30.heap.size:=bx2.out.lt
   have xb2c0:W30.cell? ⟨W18.heap.size,0,none⟩=some (.int .i64 x2.op):=(xb2.out.cell 0).trans (by simp)
   have xb2c1:W30.cell? ⟨W18.heap.size,1,none⟩=some (.int .i64 x2.ct):=(xb2.out.cell 1).trans (by simp)
   have xb2c2:W30.cell? ⟨W18.heap.size,2,none⟩=some (.int .i64 x2.n):=(xb2.out.cell 2).trans (by simp)
   have xb2c3:W30.cell? ⟨W18.heap.size,3,none⟩=some (.int .i64 x2.m):=(xb2.out.cell 3).trans (by simp)
   have xb2c4:W30.cell? ⟨W18.heap.size,4,none⟩=some (.int .i64 x2.va):=(xb2.out.cell 4).trans (by simp)
   have xb2c5:W30.cell? ⟨W18.heap.size,5,none⟩=some (.slice B2 x2.ks.length bap2):=(xb2.out.cell 5).trans (by simp)
   have xb2lt:W18.heap.size<W30.heap.size:=xb2.out.lt
   go_wp2_with fail
   have hkeep:∀ U U':World,(U.cell? ⟨W18.heap.size,0,none⟩=some (.int .i64 x2.op)∧U.cell? ⟨W18.heap.size,1,none⟩=some (.int .i64 x2.ct)∧U.cell? ⟨W18.heap.size,2,none⟩=some (.int .i64 x2.n)∧U.cell? ⟨W18.heap.size,3,none⟩=some (.int .i64 x2.m)∧U.cell? ⟨W18.heap.size,4,none⟩=some (.int .i64 x2.va)∧U.cell? ⟨W18.heap.size,5,none⟩=some (.slice B2 x2.ks.length bap2)∧U.cell? ⟨w.heap.size+1,0,none⟩=some (.int .i64 x2.op)∧U.cell? ⟨w.heap.size+1,1,none⟩=some (.int .i64 x2.ct)∧U.cell? ⟨w.heap.size+1,2,none⟩=some (.int .i64 x2.n)∧U.cell? ⟨w.heap.size+1,3,none⟩=some (.int .i64 x2.m)∧U.cell? ⟨w.heap.size+1,4,none⟩=some (.int .i64 x2.va)∧U.cell? ⟨w.heap.size+1,5,none⟩=some (.slice A2 x2.ks.length cap2))→Below U.heap.size U U'→W30.heap.size≤U.heap.size→(U'.cell? ⟨W18.heap.size,0,none⟩=some (.int .i64 x2.op)∧U'.cell? ⟨W18.heap.size,1,none⟩=some (.int .i64 x2.ct)∧U'.cell? ⟨W18.heap.size,2,none⟩=some (.int .i64 x2.n)∧U'.cell? ⟨W18.heap.size,3,none⟩=some (.int .i64 x2.m)∧U'.cell? ⟨W18.heap.size,4,none⟩=some (.int .i64 x2.va)∧U'.cell? ⟨W18.heap.size,5,none⟩=some (.slice B2 x2.ks.length bap2)∧U'.cell? ⟨w.heap.size+1,0,none⟩=some (.int .i64 x2.op)∧U'.cell? ⟨w.heap.size+1,1,none⟩=some (.int .i64 x2.ct)∧U'.cell? ⟨w.heap.size+1,2,none⟩=some (.int .i64 x2.n)∧U'.cell? ⟨w.heap.size+1,3,none⟩=some (.int .i64 x2.m)∧U'.cell? ⟨w.heap.size+1,4,none⟩=some (.int .i64 x2.va)∧U'.cell? ⟨w.heap.size+1,5,none⟩=some (.slice A2 x2.ks.length cap2)):=fun U U' h hb hU=>⟨(hb.cell (zz9 (xb2lt) hU)).trans h.1,(hb.cell (zz9 (xb2lt) hU)).trans h.2.1,(hb.cell (zz9 (xb2lt) hU)).trans h.2.2.1,(hb.cell (zz9 (xb2lt) hU)).trans h.2.2.2.1,(hb.cell (zz9 (xb2lt) hU)).trans h.2.2.2.2.1,(hb.cell (zz9 (xb2lt) hU)).trans h.2.2.2.2.2.1,(hb.cell (zz9 (bx2lt) hU)).trans h.2.2.2.2.2.2.1,(hb.cell (zz9 (bx2lt) hU)).trans h.2.2.2.2.2.2.2.1,(hb.cell (zz9 (bx2lt) hU)).trans h.2.2.2.2.2.2.2.2.1,(hb.cell (zz9 (bx2lt) hU)).trans h.2.2.2.2.2.2.2.2.2.1,(hb.cell (zz9 (bx2lt) hU)).trans h.2.2.2.2.2.2.2.2.2.2.1,(hb.cell (zz9 (bx2lt) hU)).trans h.2.2.2.2.2.2.2.2.2.2.2⟩
   have HKeep:=jj hkeep
   clear hkeep
   go_region_held3 (fun w'=>w'.cell? ⟨W18.heap.size,0,none⟩=some (.int .i64 x2.op)∧w'.cell? ⟨W18.heap.size,1,none⟩=some (.int .i64 x2.ct)∧w'.cell? ⟨W18.heap.size,2,none⟩=some (.int .i64 x2.n)∧w'.cell? ⟨W18.heap.size,3,none⟩=some (.int .i64 x2.m)∧w'.cell? ⟨W18.heap.size,4,none⟩=some (.int .i64 x2.va)∧w'.cell? ⟨W18.heap.size,5,none⟩=some (.slice B2 x2.ks.length bap2)∧w'.cell? ⟨w.heap.size+1,0,none⟩=some (.int .i64 x2.op)∧w'.cell? ⟨w.heap.size+1,1,none⟩=some (.int .i64 x2.ct)∧w'.cell? ⟨w.heap.size+1,2,none⟩=some (.int .i64 x2.n)∧w'.cell? ⟨w.heap.size+1,3,none⟩=some (.int .i64 x2.m)∧w'.cell? ⟨w.heap.size+1,4,none⟩=some (.int .i64 x2.va)∧w'.cell? ⟨w.heap.size+1,5,none⟩=some (.slice A2 x2.ks.length cap2)) (first | assumption | (exact ⟨xb2c0,xb2c1,xb2c2,xb2c3,xb2c4,xb2c5,bx2c0,bx2c1,bx2c2,bx2c3,bx2c4,bx2c5⟩) | (exact HKeep.out W30.drew W33 ⟨xb2c0,xb2c1,xb2c2,xb2c3,xb2c4,xb2c5,bx2c0,bx2c1,bx2c2,bx2c3,bx2c4,bx2c5⟩ hb33 (zz8 _)) | (exact HKeep.out W33 W34 (by assumption) hb34 hleW33)) (first | (go_at_call 9;((with_reducible refine (toPattern_any x2 _ _ F2 (HR2.out.below hB32.drew HU2.out) (HU2.out.mono hB32.drew.size) hs2).mono ?_);rintro e W33 ⟨ds33,G33,rfl,hb33,hv33,hfr33,hfs33⟩);have hleW33:W30.heap.size≤W33.heap.size:=hb33.size) | (go_at_call 13;((with_reducible refine (eqPattern_any x2 _ _ _ G18 G33 (X2.out.drew.below hb33 (Under.drew Y2.out)) hv33 ((Under.drew Y2.out).mono hb33.size) hfs33.under).mono ?_);rintro e W34 ⟨rfl,hb34⟩)))
   have hbt34:=hb33.trans (hb34.mono hb33.size)
   clear bx1c0 bx1c1 bx2c0 bx2c1 bx2c2 bx2c3 bx2c4 bx2c5 xb2c0 xb2c1 xb2c2 xb2c3 xb2c4 xb2c5 bx1lt bx2lt xb2lt
   have hB35:=hB32.drew.trans (hbt34.mono hB32.size)
   have bx1n:Hid (Blk W34 (w.heap.size) 24 #[.int .i64 x1.d,.int .i64 x1.i]):=bx1.out.same (hbt34.block _ bx1.out.lt)
   clear bx1
   have bx1:=bx1n
   clear bx1n
   have bx2n:Hid (Blk W34 (w.heap.size+1) 27 #[.int .i64 x2.op,.int .i64 x2.ct,.int .i64 x2.n,.int .i64 x2.m,.int .i64 x2.va,.slice A2 x2.ks.length cap2]):=bx2.out.same (hbt34.block _ bx2.out.lt)
   clear bx2
   have bx2:=bx2n
   clear bx2n
   have xb2n:Hid (Blk W34 (W18.heap.size) 38 #[.int .i64 x2.op,.int .i64 x2.ct,.int .i64 x2.n,.int .i64 x2.m,.int .i64 x2.va,.slice B2 x2.ks.length bap2]):=xb2.out.same (hbt34.block _ xb2.out.lt)
   clear xb2
   have xb2:=xb2n
   clear xb2n
   have KP:=jj (show Kept F_w0 W30 W34 from (Kept.of_below (w:=W30) (zAA hbt34) Y_w0.out))
   have X_w0n:=jj (X_w0.out.mono KP.out (fun x _ cs G hk h=>(fun w w' x cs G hk h=>PR.mono (w:=w) (w':=w') x cs G hk h) _ _ x cs G hk h))
   have Y_w0n:=jj (Y_w0.out.mono hbt34.size)
   have Z_w0n:=jj (Z_w0.out.kept KP.out)
   clear X_w0 Y_w0 KP Z_w0
   have X_w0:=X_w0n
   have Y_w0:=Y_w0n
   have Z_w0:=Z_w0n
   clear X_w0n Y_w0n Z_w0n
   have KP:=jj (show Kept G15 W30 W34 from (Kept.of_below (w:=W30) (zAA hbt34) Y0.out))
   have X0n:=jj (ArrDt.mono X0.out KP.out)
   have Y0n:=jj (Y0.out.mono hbt34.size)
   have Z_x0n:=jj (Z_x0.out.kept KP.out)
   clear X0 Y0 KP Z_x0
   have X0:=X0n
   have Y0:=Y0n
   have Z_x0:=Z_x0n
   clear X0n Y0n Z_x0n
   have KP:=jj (show Kept G18 W30 W34 from (Kept.of_below (w:=W30) (zAA hbt34) Y2.out))
   have X2n:=jj (PR.mono _ _ _ KP.out X2.out)
   have Y2n:=jj (Y2.out.mono hbt34.size)
   have Z_x2n:=jj (Z_x2.out.kept KP.out)
   clear X2 Y2 KP Z_x2
   have X2:=X2n
   have Y2:=Y2n
   have Z_x2:=Z_x2n
   clear X2n Y2n Z_x2n
   have KP:=jj (show Kept F_g0 W30 W34 from (Kept.of_below (w:=W30) (zAA hbt34) Y_g0.out))
   have X_g0n:=jj (X_g0.out.mono KP.out (fun x _ cs G hk h=>(fun w w' x cs G hk h=>PR.mono (w:=w) (w':=w') x cs G hk h) _ _ x cs G hk h))
   have Y_g0n:=jj (Y_g0.out.mono hbt34.size)
   have Z_g0n:=jj (Z_g0.out.kept KP.out)
   clear X_g0 Y_g0 KP Z_g0
   have X_g0:=X_g0n
   have Y_g0:=Y_g0n
   have Z_g0:=Z_g0n
   clear X_g0n Y_g0n Z_g0n
   have bx1c0:W34.cell? ⟨w.heap.size,0,none⟩=some (.int .i64 x1.d):=(bx1.out.cell 0).trans (by simp)
   have bx1c1:W34.cell? ⟨w.heap.size,1,none⟩=some (.int .i64 x1.i):=(bx1.out.cell 1).trans (by simp)
   have bx1lt:w.heap.size<W34.heap.size:=bx1.out.lt
   have bx2c0:W34.cell? ⟨w.heap.size+1,0,none⟩=some (.int .i64 x2.op):=(bx2.out.cell 0).trans (by simp)
   have bx2c1:W34.cell? ⟨w.heap.size+1,1,none⟩=some (.int .i64 x2.ct):=(bx2.out.cell 1).trans (by simp)
   have bx2c2:W34.cell? ⟨w.heap.size+1,2,none⟩=some (.int .i64 x2.n):=(bx2.out.cell 2).trans (by simp)
   have bx2c3:W34.cell? ⟨w.heap.size+1,3,none⟩=some (.int .i64 x2.m):=(bx2.out.cell 3).trans (by simp)
   have bx2c4:W34.cell? ⟨w.heap.size+1,4,none⟩=some (.int .i64 x2.va):=(bx2.out.cell 4).trans (by simp)
   have bx2c5:W34.cell? ⟨w.heap.size+1,5,none⟩=some (.slice A2 x2.ks.length cap2):=(bx2.out.cell 5).trans (by simp)
   have bx2lt:w.heap.size+1<W34.heap.size:=bx2.out.lt
   have xb2c0:W34.cell? ⟨W18.heap.size,0,none⟩=some (.int .i64 x2.op):=(xb2.out.cell 0).trans (by simp)
   have xb2c1:W34.cell? ⟨W18.heap.size,1,none⟩=some (.int .i64 x2.ct):=(xb2.out.cell 1).trans (by simp)
   have xb2c2:W34.cell? ⟨W18.heap.size,2,none⟩=some (.int .i64 x2.n):=(xb2.out.cell 2).trans (by simp)
   have xb2c3:W34.cell? ⟨W18.heap.size,3,none⟩=some (.int .i64 x2.m):=(xb2.out.cell 3).trans (by simp)
   have xb2c4:W34.cell? ⟨W18.heap.size,4,none⟩=some (.int .i64 x2.va):=(xb2.out.cell 4).trans (by simp)
   have xb2c5:W34.cell? ⟨W18.heap.size,5,none⟩=some (.slice B2 x2.ks.length bap2):=(xb2.out.cell 5).trans (by simp)
   have xb2lt:W18.heap.size<W34.heap.size:=xb2.out.lt
   go_wp2_with fail
   clear bx1c0 bx1c1 bx2c0 bx2c1 bx2c2 bx2c3 bx2c4 bx2c5 xb2c0 xb2c1 xb2c2 xb2c3 xb2c4 xb2c5 bx1lt bx2lt xb2lt
   have hcn0:sumBy cntDt x0≤16777216:=by have:=cntsDt_le x0;omega
   refine (markDataS_any x0 W34 _ G15 (1) (by omega) (by omega) X0.out Z_x0.out Y0.out).mono ?_
   rintro e W36 ⟨rfl,hg36,hm36,hfr36⟩
   clear hm36 hfr36
   have hB37:=hB35.trans (hg36.below LB_x0.out hB35.size)
   have bx1n:Hid (Blk W36 (w.heap.size) 24 #[.int .i64 x1.d,.int .i64 x1.i]):=bx1.out.same (hg36.block _ bx1.out.lt nb_bx1_x0.out)
   clear bx1
   have bx1:=bx1n
   clear bx1n
   have bx2n:Hid (Blk W36 (w.heap.size+1) 27 #[.int .i64 x2.op,.int .i64 x2.ct,.int .i64 x2.n,.int .i64 x2.m,.int .i64 x2.va,.slice A2 x2.ks.length cap2]):=bx2.out.same (hg36.block _ bx2.out.lt nb_bx2_x0.out)
   clear bx2
   have bx2:=bx2n
   clear bx2n
   have xb2n:Hid (Blk W36 (W18.heap.size) 38 #[.int .i64 x2.op,.int .i64 x2.ct,.int .i64 x2.n,.int .i64 x2.m,.int .i64 x2.va,.slice B2 x2.ks.length bap2]):=xb2.out.same (hg36.block _ xb2.out.lt nb_xb2_x0.out)
   clear xb2
   have xb2:=xb2n
   clear xb2n
   have KP:=jj (show Kept F_w0 W34 W36 from (hg36.kept Y_w0.out dj_w0_x0.out))
   have X_w0n:=jj (X_w0.out.mono KP.out (fun x _ cs G hk h=>(fun w w' x cs G hk h=>PR.mono (w:=w) (w':=w') x cs G hk h) _ _ x cs G hk h))
   have Y_w0n:=jj (Y_w0.out.mono hg36.size)
   have Z_w0n:=jj (Z_w0.out.kept KP.out)
   clear X_w0 Y_w0 KP Z_w0
   have X_w0:=X_w0n
   have Y_w0:=Y_w0n
   have Z_w0:=Z_w0n
   clear X_w0n Y_w0n Z_w0n
   have KP:=jj (show Kept G18 W34 W36 from (hg36.kept Y2.out dj_x2_x0.out))
   have X2n:=jj (PR.mono _ _ _ KP.out X2.out)
   have Y2n:=jj (Y2.out.mono hg36.size)
   have Z_x2n:=jj (Z_x2.out.kept KP.out)
   clear X2 Y2 KP Z_x2
   have X2:=X2n
   have Y2:=Y2n
   have Z_x2:=Z_x2n
   clear X2n Y2n Z_x2n
   have KP:=jj (show Kept F_g0 W34 W36 from (hg36.kept Y_g0.out dj_g0_x0.out))
   have X_g0n:=jj (X_g0.out.mono KP.out (fun x _ cs G hk h=>(fun w w' x cs G hk h=>PR.mono (w:=w) (w':=w') x cs G hk h) _ _ x cs G hk h))
   have Y_g0n:=jj (Y_g0.out.mono hg36.size)
   have Z_g0n:=jj (Z_g0.out.kept KP.out)
   clear X_g0 Y_g0 KP Z_g0
   have X_g0:=X_g0n
   have Y_g0:=Y_g0n
   have Z_g0:=Z_g0n
   clear X_g0n Y_g0n Z_g0n
   generalize hkk0:sumBy cntDt x0=kk0 at *
   clear hkk0
   have bx1c0:W36.cell? ⟨w.heap.size,0,none⟩=some (.int .i64 x1.d):=(bx1.out.cell 0).trans (by simp)
   have bx1c1:W36.cell? ⟨w.heap.size,1,none⟩=some (.int .i64 x1.i):=(bx1.out.cell 1).trans (by simp)
   have bx1lt:w.heap.size<W36.heap.size:=bx1.out.lt
   have bx2c0:W36.cell? ⟨w.heap.size+1,0,none⟩=some (.int .i64 x2.op):=(bx2.out.cell 0).trans (by simp)
   have bx2c1:W36.cell? ⟨w.heap.size+1,1,none⟩=some (.int .i64 x2.ct):=(bx2.out.cell 1).trans (by simp)
   have bx2c2:W36.cell? ⟨w.heap.size+1,2,none⟩=some (.int .i64 x2.n):=(bx2.out.cell 2).trans (by simp)
   have bx2c3:W36.cell? ⟨w.heap.size+1,3,none⟩=some (.int .i64 x2.m):=(bx2.out.cell 3).trans (by simp)
   have bx2c4:W36.cell? ⟨w.heap.size+1,4,none⟩=some (.int .i64 x2.va):=(bx2.out.cell 4).trans (by simp)
   have bx2c5:W36.cell? ⟨w.heap.size+1,5,none⟩=some (.slice A2 x2.ks.length cap2):=(bx2.out.cell 5).trans (by simp)
   have bx2lt:w.heap.size+1<W36.heap.size:=bx2.out.lt
   have xb2c0:W36.cell? ⟨W18.heap.size,0,none⟩=some (.int .i64 x2.op):=(xb2.out.cell 0).trans (by simp)
   have xb2c1:W36.cell? ⟨W18.heap.size,1,none⟩=some (.int .i64 x2.ct):=(xb2.out.cell 1).trans (by simp)
   have xb2c2:W36.cell? ⟨W18.heap.size,2,none⟩=some (.int .i64 x2.n):=(xb2.out.cell 2).trans (by simp)
   have xb2c3:W36.cell? ⟨W18.heap.size,3,none⟩=some (.int .i64 x2.m):=(xb2.out.cell 3).trans (by simp)
   have xb2c4:W36.cell? ⟨W18.heap.size,4,none⟩=some (.int .i64 x2.va):=(xb2.out.cell 4).trans (by simp)
   have xb2c5:W36.cell? ⟨W18.heap.size,5,none⟩=some (.slice B2 x2.ks.length bap2):=(xb2.out.cell 5).trans (by simp)
   have xb2lt:W18.heap.size<W36.heap.size:=xb2.out.lt
   go_wp2_with fail
   clear bx1c0 bx1c1 bx2c0 bx2c1 bx2c2 bx2c3 bx2c4 bx2c5 xb2c0 xb2c1 xb2c2 xb2c3 xb2c4 xb2c5 bx1lt bx2lt xb2lt
   have hcn2:sumBy cntP x2.ks≤16777216:=by have h1:=cntsP_le x2.ks;have h2:=P.size_sizes x2;omega
   refine (markPattern_any x2 W36 _ G18 (1+(kk0:Int)) (by omega) (by omega) X2.out Z_x2.out Y2.out).mono ?_
   rintro e W38 ⟨rfl,hg38,hm38,hfr38⟩
   clear hm38 hfr38
   have hB39:=hB37.trans (hg38.below LB_x2.out hB37.size)
   have bx1n:Hid (Blk W38 (w.heap.size) 24 #[.int .i64 x1.d,.int .i64 x1.i]):=bx1.out.same (hg38.block _ bx1.out.lt nb_bx1_x2.out)
   clear bx1
   have bx1:=bx1n
   clear bx1n
   have bx2n:Hid (Blk W38 (w.heap.size+1) 27 #[.int .i64 x2.op,.int .i64 x2.ct,.int .i64 x2.n,.int .i64 x2.m,.int .i64 x2.va,.slice A2 x2.ks.length cap2]):=bx2.out.same (hg38.block _ bx2.out.lt nb_bx2_x2.out)
   clear bx2
   have bx2:=bx2n
   clear bx2n
   have xb2n:Hid (Blk W38 (W18.heap.size) 38 #[.int .i64 x2.op,.int .i64 x2.ct,.int .i64 x2.n,.int .i64 x2.m,.int .i64 x2.va,.slice B2 x2.ks.length bap2]):=xb2.out.same (hg38.block _ xb2.out.lt nb_xb2_x2.out)
   clear xb2
   have xb2:=xb2n
   clear xb2n
   have KP:=jj (show Kept F_w0 W36 W38 from (hg38.kept Y_w0.out dj_w0_x2.out))
   have X_w0n:=jj (X_w0.out.mono KP.out (fun x _ cs G hk h=>(fun w w' x cs G hk h=>PR.mono (w:=w) (w':=w') x cs G hk h) _ _ x cs G hk h))
   have Y_w0n:=jj (Y_w0.out.mono hg38.size)
   have Z_w0n:=jj (Z_w0.out.kept KP.out)
   clear X_w0 Y_w0 KP Z_w0
   have X_w0:=X_w0n
   have Y_w0:=Y_w0n
   have Z_w0:=Z_w0n
   clear X_w0n Y_w0n Z_w0n
   have KP:=jj (show Kept F_g0 W36 W38 from (hg38.kept Y_g0.out dj_g0_x2.out))
   have X_g0n:=jj (X_g0.out.mono KP.out (fun x _ cs G hk h=>(fun w w' x cs G hk h=>PR.mono (w:=w) (w':=w') x cs G hk h) _ _ x cs G hk h))
   have Y_g0n:=jj (Y_g0.out.mono hg38.size)
   have Z_g0n:=jj (Z_g0.out.kept KP.out)
   clear X_g0 Y_g0 KP Z_g0
   have X_g0:=X_g0n
   have Y_g0:=Y_g0n
   have Z_g0:=Z_g0n
   clear X_g0n Y_g0n Z_g0n
   generalize hkk2:sumBy cntP x2.ks=kk2 at *
   clear hkk2
   have hkp:¬(1+(kk0:Int)+(kk2:Int)<0):=by omega
   have bx1c0:W38.cell? ⟨w.heap.size,0,none⟩=some (.int .i64 x1.d):=(bx1.out.cell 0).trans (by simp)
   have bx1c1:W38.cell? ⟨w.heap.size,1,none⟩=some (.int .i64 x1.i):=(bx1.out.cell 1).trans (by simp)
   have bx1lt:w.heap.size<W38.heap.size:=bx1.out.lt
   have bx2c0:W38.cell? ⟨w.heap.size+1,0,none⟩=some (.int .i64 x2.op):=(bx2.out.cell 0).trans (by simp)
   have bx2c1:W38.cell? ⟨w.heap.size+1,1,none⟩=some (.int .i64 x2.ct):=(bx2.out.cell 1).trans (by simp)
   have bx2c2:W38.cell? ⟨w.heap.size+1,2,none⟩=some (.int .i64 x2.n):=(bx2.out.cell 2).trans (by simp)
   have bx2c3:W38.cell? ⟨w.heap.size+1,3,none⟩=some (.int .i64 x2.m):=(bx2.out.cell 3).trans (by simp)
   have bx2c4:W38.cell? ⟨w.heap.size+1,4,none⟩=some (.int .i64 x2.va):=(bx2.out.cell 4).trans (by simp)
   have bx2c5:W38.cell? ⟨w.heap.size+1,5,none⟩=some (.slice A2 x2.ks.length cap2):=(bx2.out.cell 5).trans (by simp)
   have bx2lt:w.heap.size+1<W38.heap.size:=bx2.out.lt
   have xb2c0:W38.cell? ⟨W18.heap.size,0,none⟩=some (.int .i64 x2.op):=(xb2.out.cell 0).trans (by simp)
   have xb2c1:W38.cell? ⟨W18.heap.size,1,none⟩=some (.int .i64 x2.ct):=(xb2.out.cell 1).trans (by simp)
   have xb2c2:W38.cell? ⟨W18.heap.size,2,none⟩=some (.int .i64 x2.n):=(xb2.out.cell 2).trans (by simp)
   have xb2c3:W38.cell? ⟨W18.heap.size,3,none⟩=some (.int .i64 x2.m):=(xb2.out.cell 3).trans (by simp)
   have xb2c4:W38.cell? ⟨W18.heap.size,4,none⟩=some (.int .i64 x2.va):=(xb2.out.cell 4).trans (by simp)
   have xb2c5:W38.cell? ⟨W18.heap.size,5,none⟩=some (.slice B2 x2.ks.length bap2):=(xb2.out.cell 5).trans (by simp)
   have xb2lt:W18.heap.size<W38.heap.size:=xb2.out.lt
   go_wp2_with fail
   clear bx1c0 bx1c1 bx2c0 bx2c1 bx2c2 bx2c3 bx2c4 bx2c5 xb2c0 xb2c1 xb2c2 xb2c3 xb2c4 xb2c5 bx1lt bx2lt xb2lt
   refine (eqPatternS_any r0 W38 F_g0 F_w0 _ _ X_g0.out X_w0.out Y_g0.out Y_w0.out).mono ?_
   rintro e W40 ⟨rfl,hb40⟩
   have hB41:=hB39.trans (hb40.mono hB39.size)
   have bx1n:Hid (Blk W40 (w.heap.size) 24 #[.int .i64 x1.d,.int .i64 x1.i]):=bx1.out.same (hb40.block _ bx1.out.lt)
   clear bx1
   have bx1:=bx1n
   clear bx1n
   have bx2n:Hid (Blk W40 (w.heap.size+1) 27 #[.int .i64 x2.op,.int .i64 x2.ct,.int .i64 x2.n,.int .i64 x2.m,.int .i64 x2.va,.slice A2 x2.ks.length cap2]):=bx2.out.same (hb40.block _ bx2.out.lt)
   clear bx2
   have bx2:=bx2n
   clear bx2n
   have xb2n:Hid (Blk W40 (W18.heap.size) 38 #[.int .i64 x2.op,.int .i64 x2.ct,.int .i64 x2.n,.int .i64 x2.m,.int .i64 x2.va,.slice B2 x2.ks.length bap2]):=xb2.out.same (hb40.block _ xb2.out.lt)
   clear xb2
   have xb2:=xb2n
   clear xb2n
   have KP:=jj (show Kept F_w0 W38 W40 from (Kept.of_below (w:=W38) hb40 Y_w0.out))
   have X_w0n:=jj (X_w0.out.mono KP.out (fun x _ cs G hk h=>(fun w w' x cs G hk h=>PR.mono (w:=w) (w':=w') x cs G hk h) _ _ x cs G hk h))
   have Y_w0n:=jj (Y_w0.out.mono hb40.size)
   have Z_w0n:=jj (Z_w0.out.kept KP.out)
   clear X_w0 Y_w0 KP Z_w0
   have X_w0:=X_w0n
   have Y_w0:=Y_w0n
   have Z_w0:=Z_w0n
   clear X_w0n Y_w0n Z_w0n
   have KP:=jj (show Kept F_g0 W38 W40 from (Kept.of_below (w:=W38) hb40 Y_g0.out))
   have X_g0n:=jj (X_g0.out.mono KP.out (fun x _ cs G hk h=>(fun w w' x cs G hk h=>PR.mono (w:=w) (w':=w') x cs G hk h) _ _ x cs G hk h))
   have Y_g0n:=jj (Y_g0.out.mono hb40.size)
   have Z_g0n:=jj (Z_g0.out.kept KP.out)
   clear X_g0 Y_g0 KP Z_g0
   have X_g0:=X_g0n
   have Y_g0:=Y_g0n
   have Z_g0:=Z_g0n
   clear X_g0n Y_g0n Z_g0n
   have bx1c0:W40.cell? ⟨w.heap.size,0,none⟩=some (.int .i64 x1.d):=(bx1.out.cell 0).trans (by simp)
   have bx1c1:W40.cell? ⟨w.heap.size,1,none⟩=some (.int .i64 x1.i):=(bx1.out.cell 1).trans (by simp)
   have bx1lt:w.heap.size<W40.heap.size:=bx1.out.lt
   have bx2c0:W40.cell? ⟨w.heap.size+1,0,none⟩=some (.int .i64 x2.op):=(bx2.out.cell 0).trans (by simp)
   have bx2c1:W40.cell? ⟨w.heap.size+1,1,none⟩=some (.int .i64 x2.ct):=(bx2.out.cell 1).trans (by simp)
   have bx2c2:W40.cell? ⟨w.heap.size+1,2,none⟩=some (.int .i64 x2.n):=(bx2.out.cell 2).trans (by simp)
   have bx2c3:W40.cell? ⟨w.heap.size+1,3,none⟩=some (.int .i64 x2.m):=(bx2.out.cell 3).trans (by simp)
   have bx2c4:W40.cell? ⟨w.heap.size+1,4,none⟩=some (.int .i64 x2.va):=(bx2.out.cell 4).trans (by simp)
   have bx2c5:W40.cell? ⟨w.heap.size+1,5,none⟩=some (.slice A2 x2.ks.length cap2):=(bx2.out.cell 5).trans (by simp)
   have bx2lt:w.heap.size+1<W40.heap.size:=bx2.out.lt
   have xb2c0:W40.cell? ⟨W18.heap.size,0,none⟩=some (.int .i64 x2.op):=(xb2.out.cell 0).trans (by simp)
   have xb2c1:W40.cell? ⟨W18.heap.size,1,none⟩=some (.int .i64 x2.ct):=(xb2.out.cell 1).trans (by simp)
   have xb2c2:W40.cell? ⟨W18.heap.size,2,none⟩=some (.int .i64 x2.n):=(xb2.out.cell 2).trans (by simp)
   have xb2c3:W40.cell? ⟨W18.heap.size,3,none⟩=some (.int .i64 x2.m):=(xb2.out.cell 3).trans (by simp)
   have xb2c4:W40.cell? ⟨W18.heap.size,4,none⟩=some (.int .i64 x2.va):=(xb2.out.cell 4).trans (by simp)
   have xb2c5:W40.cell? ⟨W18.heap.size,5,none⟩=some (.slice B2 x2.ks.length bap2):=(xb2.out.cell 5).trans (by simp)
   have xb2lt:W18.heap.size<W40.heap.size:=xb2.out.lt
   go_wp2_with fail
   clear bx1c0 bx1c1 bx2c0 bx2c1 bx2c2 bx2c3 bx2c4 bx2c5 xb2c0 xb2c1 xb2c2 xb2c3 xb2c4 xb2c5 bx1lt bx2lt xb2lt
   have hcg:sumBy cntP r0≤16777216:=by rw [←HRes.out];exact split_bound x0 x1 x2
   refine (markPatternS_any r0 W40 _ F_g0 1 (by omega) (by omega) X_g0.out Z_g0.out Y_g0.out).mono ?_
   rintro e W42 ⟨rfl,hg42,hm42,hfr42⟩
   have hB43:=hB41.trans (hg42.below LB_g0.out hB41.size)
   have bx1n:Hid (Blk W42 (w.heap.size) 24 #[.int .i64 x1.d,.int .i64 x1.i]):=bx1.out.same (hg42.block _ bx1.out.lt nb_bx1_g0.out)
   clear bx1
   have bx1:=bx1n
   clear bx1n
   have bx2n:Hid (Blk W42 (w.heap.size+1) 27 #[.int .i64 x2.op,.int .i64 x2.ct,.int .i64 x2.n,.int .i64 x2.m,.int .i64 x2.va,.slice A2 x2.ks.length cap2]):=bx2.out.same (hg42.block _ bx2.out.lt nb_bx2_g0.out)
   clear bx2
   have bx2:=bx2n
   clear bx2n
   have xb2n:Hid (Blk W42 (W18.heap.size) 38 #[.int .i64 x2.op,.int .i64 x2.ct,.int .i64 x2.n,.int .i64 x2.m,.int .i64 x2.va,.slice B2 x2.ks.length bap2]):=xb2.out.same (hg42.block _ xb2.out.lt nb_xb2_g0.out)
   clear xb2
   have xb2:=xb2n
   clear xb2n
   have KP:=jj (show Kept F_w0 W40 W42 from (hg42.kept Y_w0.out dj_w0_g0.out))
   have X_w0n:=jj (X_w0.out.mono KP.out (fun x _ cs G hk h=>(fun w w' x cs G hk h=>PR.mono (w:=w) (w':=w') x cs G hk h) _ _ x cs G hk h))
   have Y_w0n:=jj (Y_w0.out.mono hg42.size)
   have Z_w0n:=jj (Z_w0.out.kept KP.out)
   clear X_w0 Y_w0 KP Z_w0
   have X_w0:=X_w0n
   have Y_w0:=Y_w0n
   have Z_w0:=Z_w0n
   clear X_w0n Y_w0n Z_w0n
   clear X_g0
   have X_g0:=jj hm42
   have Y_g0n:=jj (Y_g0.out.mono hg42.size)
   clear Y_g0
   have Y_g0:=Y_g0n
   clear Z_g0
   have Z_g0:=jj hfr42
   clear Y_g0n hm42 hfr42
   have bx1c0:W42.cell? ⟨w.heap.size,0,none⟩=some (.int .i64 x1.d):=(bx1.out.cell 0).trans (by simp)
   have bx1c1:W42.cell? ⟨w.heap.size,1,none⟩=some (.int .i64 x1.i):=(bx1.out.cell 1).trans (by simp)
   have bx1lt:w.heap.size<W42.heap.size:=bx1.out.lt
   have bx2c0:W42.cell? ⟨w.heap.size+1,0,none⟩=some (.int .i64 x2.op):=(bx2.out.cell 0).trans (by simp)
   have bx2c1:W42.cell? ⟨w.heap.size+1,1,none⟩=some (.int .i64 x2.ct):=(bx2.out.cell 1).trans (by simp)
   have bx2c2:W42.cell? ⟨w.heap.size+1,2,none⟩=some (.int .i64 x2.n):=(bx2.out.cell 2).trans (by simp)
   have bx2c3:W42.cell? ⟨w.heap.size+1,3,none⟩=some (.int .i64 x2.m):=(bx2.out.cell 3).trans (by simp)
   have bx2c4:W42.cell? ⟨w.heap.size+1,4,none⟩=some (.int .i64 x2.va):=(bx2.out.cell 4).trans (by simp)
   have bx2c5:W42.cell? ⟨w.heap.size+1,5,none⟩=some (.slice A2 x2.ks.length cap2):=(bx2.out.cell 5).trans (by simp)
   have bx2lt:w.heap.size+1<W42.heap.size:=bx2.out.lt
   have xb2c0:W42.cell? ⟨W18.heap.size,0,none⟩=some (.int .i64 x2.op):=(xb2.out.cell 0).trans (by simp)
   have xb2c1:W42.cell? ⟨W18.heap.size,1,none⟩=some (.int .i64 x2.ct):=(xb2.out.cell 1).trans (by simp)
   have xb2c2:W42.cell? ⟨W18.heap.size,2,none⟩=some (.int .i64 x2.n):=(xb2.out.cell 2).trans (by simp)
   have xb2c3:W42.cell? ⟨W18.heap.size,3,none⟩=some (.int .i64 x2.m):=(xb2.out.cell 3).trans (by simp)
   have xb2c4:W42.cell? ⟨W18.heap.size,4,none⟩=some (.int .i64 x2.va):=(xb2.out.cell 4).trans (by simp)
   have xb2c5:W42.cell? ⟨W18.heap.size,5,none⟩=some (.slice B2 x2.ks.length bap2):=(xb2.out.cell 5).trans (by simp)
   have xb2lt:W18.heap.size<W42.heap.size:=xb2.out.lt
   go_wp2_with fail
   clear bx1c0 bx1c1 bx2c0 bx2c1 bx2c2 bx2c3 bx2c4 bx2c5 xb2c0 xb2c1 xb2c2 xb2c3 xb2c4 xb2c5 bx1lt bx2lt xb2lt
   refine (heldPatternS_any r0 W42 _ F_g0 1 (by omega) (by omega) X_g0.out Y_g0.out).mono ?_
   rintro e W44 ⟨rfl,hb44⟩
   have hB45:=hB43.trans (hb44.mono hB43.size)
   have bx1n:Hid (Blk W44 (w.heap.size) 24 #[.int .i64 x1.d,.int .i64 x1.i]):=bx1.out.same (hb44.block _ bx1.out.lt)
   clear bx1
   have bx1:=bx1n
   clear bx1n
   have bx2n:Hid (Blk W44 (w.heap.size+1) 27 #[.int .i64 x2.op,.int .i64 x2.ct,.int .i64 x2.n,.int .i64 x2.m,.int .i64 x2.va,.slice A2 x2.ks.length cap2]):=bx2.out.same (hb44.block _ bx2.out.lt)
   clear bx2
   have bx2:=bx2n
   clear bx2n
   have xb2n:Hid (Blk W44 (W18.heap.size) 38 #[.int .i64 x2.op,.int .i64 x2.ct,.int .i64 x2.n,.int .i64 x2.m,.int .i64 x2.va,.slice B2 x2.ks.length bap2]):=xb2.out.same (hb44.block _ xb2.out.lt)
   clear xb2
   have xb2:=xb2n
   clear xb2n
   have KP:=jj (show Kept F_w0 W42 W44 from (Kept.of_below (w:=W42) hb44 Y_w0.out))
   have X_w0n:=jj (X_w0.out.mono KP.out (fun x _ cs G hk h=>(fun w w' x cs G hk h=>PR.mono (w:=w) (w':=w') x cs G hk h) _ _ x cs G hk h))
   have Y_w0n:=jj (Y_w0.out.mono hb44.size)
   have Z_w0n:=jj (Z_w0.out.kept KP.out)
   clear X_w0 Y_w0 KP Z_w0
   have X_w0:=X_w0n
   have Y_w0:=Y_w0n
   have Z_w0:=Z_w0n
   clear X_w0n Y_w0n Z_w0n
   have KP:=jj (show Kept F_g0 W42 W44 from (Kept.of_below (w:=W42) hb44 Y_g0.out))
   have X_g0n:=jj (X_g0.out.mono KP.out (fun x _ cs G hk h=>(fun w w' x cs G hk h=>PR.mono (w:=w) (w':=w') x cs G hk h) _ _ x cs G hk h))
   have Y_g0n:=jj (Y_g0.out.mono hb44.size)
   have Z_g0n:=jj (Z_g0.out.kept KP.out)
   clear X_g0 Y_g0 KP Z_g0
   have X_g0:=X_g0n
   have Y_g0:=Y_g0n
   have Z_g0:=Z_g0n
   clear X_g0n Y_g0n Z_g0n
   have bx1c0:W44.cell? ⟨w.heap.size,0,none⟩=some (.int .i64 x1.d):=(bx1.out.cell 0).trans (by simp)
   have bx1c1:W44.cell? ⟨w.heap.size,1,none⟩=some (.int .i64 x1.i):=(bx1.out.cell 1).trans (by simp)
   have bx1lt:w.heap.size<W44.heap.size:=bx1.out.lt
   have bx2c0:W44.cell? ⟨w.heap.size+1,0,none⟩=some (.int .i64 x2.op):=(bx2.out.cell 0).trans (by simp)
   have bx2c1:W44.cell? ⟨w.heap.size+1,1,none⟩=some (.int .i64 x2.ct):=(bx2.out.cell 1).trans (by simp)
   have bx2c2:W44.cell? ⟨w.heap.size+1,2,none⟩=some (.int .i64 x2.n):=(bx2.out.cell 2).trans (by simp)
   have bx2c3:W44.cell? ⟨w.heap.size+1,3,none⟩=some (.int .i64 x2.m):=(bx2.out.cell 3).trans (by simp)
   have bx2c4:W44.cell? ⟨w.heap.size+1,4,none⟩=some (.int .i64 x2.va):=(bx2.out.cell 4).trans (by simp)
   have bx2c5:W44.cell? ⟨w.heap.size+1,5,none⟩=some (.slice A2 x2.ks.length cap2):=(bx2.out.cell 5).trans (by simp)
   have bx2lt:w.heap.size+1<W44.heap.size:=bx2.out.lt
   have xb2c0:W44.cell? ⟨W18.heap.size,0,none⟩=some (.int .i64 x2.op):=(xb2.out.cell 0).trans (by simp)
   have xb2c1:W44.cell? ⟨W18.heap.size,1,none⟩=some (.int .i64 x2.ct):=(xb2.out.cell 1).trans (by simp)
   have xb2c2:W44.cell? ⟨W18.heap.size,2,none⟩=some (.int .i64 x2.n):=(xb2.out.cell 2).trans (by simp)
   have xb2c3:W44.cell? ⟨W18.heap.size,3,none⟩=some (.int .i64 x2.m):=(xb2.out.cell 3).trans (by simp)
   have xb2c4:W44.cell? ⟨W18.heap.size,4,none⟩=some (.int .i64 x2.va):=(xb2.out.cell 4).trans (by simp)
   have xb2c5:W44.cell? ⟨W18.heap.size,5,none⟩=some (.slice B2 x2.ks.length bap2):=(xb2.out.cell 5).trans (by simp)
   have xb2lt:W18.heap.size<W44.heap.size:=xb2.out.lt
   go_wp2_with fail
   have SU46_w0:=Y_w0
   have SU46_g0:=Y_g0
   have SB46_bx1:=jj bx1.out.lt
   have SB46_bx2:=jj bx2.out.lt
   have SB46_xb2:=jj xb2.out.lt
   have hkeep:∀ U U':World,(U.cell? ⟨w.heap.size,0,none⟩=some (.int .i64 x1.d)∧U.cell? ⟨w.heap.size,1,none⟩=some (.int .i64 x1.i)∧U.cell? ⟨w.heap.size+1,0,none⟩=some (.int .i64 x2.op)∧U.cell? ⟨w.heap.size+1,1,none⟩=some (.int .i64 x2.ct)∧U.cell? ⟨w.heap.size+1,2,none⟩=some (.int .i64 x2.n)∧U.cell? ⟨w.heap.size+1,3,none⟩=some (.int .i64 x2.m)∧U.cell? ⟨w.heap.size+1,4,none⟩=some (.int .i64 x2.va)∧U.cell? ⟨w.heap.size+1,5,none⟩=some (.slice A2 x2.ks.length cap2))→Below U.heap.size U U'→W44.heap.size≤U.heap.size→(U'.cell? ⟨w.heap.size,0,none⟩=some (.int .i64 x1.d)∧U'.cell? ⟨w.heap.size,1,none⟩=some (.int .i64 x1.i)∧U'.cell? ⟨w.heap.size+1,0,none⟩=some (.int .i64 x2.op)∧U'.cell? ⟨w.heap.size+1,1,none⟩=some (.int .i64 x2.ct)∧U'.cell? ⟨w.heap.size+1,2,none⟩=some (.int .i64 x2.n)∧U'.cell? ⟨w.heap.size+1,3,none⟩=some (.int .i64 x2.m)∧U'.cell? ⟨w.heap.size+1,4,none⟩=some (.int .i64 x2.va)∧U'.cell? ⟨w.heap.size+1,5,none⟩=some (.slice A2 x2.ks.length cap2)):=fun U U' h hb hU=>⟨(hb.cell (zz9 (bx1lt) hU)).trans h.1,(hb.cell (zz9 (bx1lt) hU)).trans h.2.1,(hb.cell (zz9 (bx2lt) hU)).trans h.2.2.1,(hb.cell (zz9 (bx2lt) hU)).trans h.2.2.2.1,(hb.cell (zz9 (bx2lt) hU)).trans h.2.2.2.2.1,(hb.cell (zz9 (bx2lt) hU)).trans h.2.2.2.2.2.1,(hb.cell (zz9 (bx2lt) hU)).trans h.2.2.2.2.2.2.1,(hb.cell (zz9 (bx2lt) hU)).trans h.2.2.2.2.2.2.2⟩
   have HKeep:=jj hkeep
   clear hkeep
   go_region_held3 (fun w'=>w'.cell? ⟨w.heap.size,0,none⟩=some (.int .i64 x1.d)∧w'.cell? ⟨w.heap.size,1,none⟩=some (.int .i64 x1.i)∧w'.cell? ⟨w.heap.size+1,0,none⟩=some (.int .i64 x2.op)∧w'.cell? ⟨w.heap.size+1,1,none⟩=some (.int .i64 x2.ct)∧w'.cell? ⟨w.heap.size+1,2,none⟩=some (.int .i64 x2.n)∧w'.cell? ⟨w.heap.size+1,3,none⟩=some (.int .i64 x2.m)∧w'.cell? ⟨w.heap.size+1,4,none⟩=some (.int .i64 x2.va)∧w'.cell? ⟨w.heap.size+1,5,none⟩=some (.slice A2 x2.ks.length cap2)) (first | assumption | (exact ⟨bx1c0,bx1c1,bx2c0,bx2c1,bx2c2,bx2c3,bx2c4,bx2c5⟩) | (exact HKeep.out W44.drew W47 ⟨bx1c0,bx1c1,bx2c0,bx2c1,bx2c2,bx2c3,bx2c4,bx2c5⟩ hb47 (zz8 _)) | (exact HKeep.out W47 W48 (by assumption) hb48 hleW47) | (exact HKeep.out W48 W49 (by assumption) hb49 hleW48) | (exact HKeep.out W49 W50 (by assumption) hb50 hleW49)) (first | (go_at_call 7;((with_reducible refine (toDataS_any x0 _ F0 _ (ArrDt.below HR0.out hB45.drew HU0.out) (HU0.out.mono hB45.drew.size) hs0).mono ?_);rintro e W47 ⟨y47,G47,rfl,hb47,hv47,hfr47,hfs47⟩);have hB47:=hB45.drew.trans (hb47.mono hB45.drew.size);have hleW47:W44.heap.size≤W47.heap.size:=hb47.size) | (go_at_call 8;((with_reducible refine (toType_any x1 _ _ [] (TyR.mk0 _ x1) (Under.nil _) (Ty.size_le x1)).mono ?_);rintro e W48 ⟨ds48,G48,rfl,hb48,⟨rfl,rfl⟩,hfr48,hfs48⟩);have hB48:=hB47.trans (hb48.mono hB47.size);have hleW48:W44.heap.size≤W48.heap.size:=Nat.le_trans hleW47 hb48.size) | (go_at_call 9;((with_reducible refine (toPattern_any x2 _ _ F2 (HR2.out.below hB48 HU2.out) (HU2.out.mono hB48.size) hs2).mono ?_);rintro e W49 ⟨ds49,G49,rfl,hb49,hv49,hfr49,hfs49⟩);have hB49:=hB48.trans (hb49.mono hB48.size);have hleW49:W44.heap.size≤W49.heap.size:=Nat.le_trans hleW48 hb49.size) | (go_at_call 10;((with_reducible refine (split_rw HResb.out (impl_SplitOr x0 x1 x2 hs2 _ _ G47 _ G49 (ArrDt.below (ArrDt.below hv47 hb48 hfs47.under) hb49 (hfs47.under.mono hb48.size)) ((hfs47.under.mono hb48.size).mono hb49.size) hv49 hfs49.under)).mono ?_);rintro e W50 ⟨vr_h0,F_h0,rfl,hb50,ha_h0,hfr_h0,hfs_h0⟩)))
   have hbt51_0:=hb47
   have hbt51_1:=hbt51_0.trans (hb48.mono hbt51_0.size)
   have hbt51_2:=hbt51_1.trans (hb49.mono hbt51_1.size)
   have hbt51_3:=hbt51_2.trans (hb50.mono hbt51_2.size)
   clear bx1c0 bx1c1 bx2c0 bx2c1 bx2c2 bx2c3 bx2c4 bx2c5 xb2c0 xb2c1 xb2c2 xb2c3 xb2c4 xb2c5 bx1lt bx2lt xb2lt
   have hfz_h0:Fresh W44 W50 F_h0:=fun b hb=>⟨Nat.le_trans hbt51_2.size (hfs_h0 b hb).1,(hfs_h0 b hb).2⟩
   have dj_w0_h0:=jj (fun b (hb:b∈F_w0) (hj:b∈F_h0)=>Nat.lt_irrefl _ (zz9 (SU46_w0.out b hb) (hfz_h0 b hj).1))
   have dj_h0_w0:=jj (fun b (hj:b∈F_h0) (hb:b∈F_w0)=>Nat.lt_irrefl _ (zz9 (SU46_w0.out b hb) (hfz_h0 b hj).1))
   have dj_g0_h0:=jj (fun b (hb:b∈F_g0) (hj:b∈F_h0)=>Nat.lt_irrefl _ (zz9 (SU46_g0.out b hb) (hfz_h0 b hj).1))
   have dj_h0_g0:=jj (fun b (hj:b∈F_h0) (hb:b∈F_g0)=>Nat.lt_irrefl _ (zz9 (SU46_g0.out b hb) (hfz_h0 b hj).1))
   have nb_bx1_h0:=jj (fun (hj:_∈F_h0)=>Nat.lt_irrefl _ (zz9 SB46_bx1.out (hfz_h0 _ hj).1))
   have nb_bx2_h0:=jj (fun (hj:_∈F_h0)=>Nat.lt_irrefl _ (zz9 SB46_bx2.out (hfz_h0 _ hj).1))
   have nb_xb2_h0:=jj (fun (hj:_∈F_h0)=>Nat.lt_irrefl _ (zz9 SB46_xb2.out (hfz_h0 _ hj).1))
   have LB_h0:=jj (fun b (hj:b∈F_h0)=>Nat.le_trans hB45.size (hfz_h0 b hj).1)
   have X_h0:=jj ha_h0
   have Y_h0:=jj hfs_h0.under
   have Z_h0:=jj hfr_h0
   have X_h0:=(show Hid (Arr W50 (PR W50) r0 vr_h0 F_h0) from by rw [←HRes.out];exact X_h0.out)
   obtain ⟨A_h0,cap_h0,rfl,-,-⟩:=X_h0.out.form
   clear ha_h0 hfr_h0 hfs_h0 hfz_h0
   have hB52:=hB45.drew.trans (hbt51_3.mono hB45.size)
   have bx1n:Hid (Blk W50 (w.heap.size) 24 #[.int .i64 x1.d,.int .i64 x1.i]):=bx1.out.same (hbt51_3.block _ bx1.out.lt)
   clear bx1
   have bx1:=bx1n
   clear bx1n
   have bx2n:Hid (Blk W50 (w.heap.size+1) 27 #[.int .i64 x2.op,.int .i64 x2.ct,.int .i64 x2.n,.int .i64 x2.m,.int .i64 x2.va,.slice A2 x2.ks.length cap2]):=bx2.out.same (hbt51_3.block _ bx2.out.lt)
   clear bx2
   have bx2:=bx2n
   clear bx2n
   have xb2n:Hid (Blk W50 (W18.heap.size) 38 #[.int .i64 x2.op,.int .i64 x2.ct,.int .i64 x2.n,.int .i64 x2.m,.int .i64 x2.va,.slice B2 x2.ks.length bap2]):=xb2.out.same (hbt51_3.block _ xb2.out.lt)
   clear xb2
   have xb2:=xb2n
   clear xb2n
   have KP:=jj (show Kept F_w0 W44 W50 from (Kept.of_below (w:=W44) (zAA hbt51_3) Y_w0.out))
   have X_w0n:=jj (X_w0.out.mono KP.out (fun x _ cs G hk h=>(fun w w' x cs G hk h=>PR.mono (w:=w) (w':=w') x cs G hk h) _ _ x cs G hk h))
   have Y_w0n:=jj (Y_w0.out.mono hbt51_3.size)
   have Z_w0n:=jj (Z_w0.out.kept KP.out)
   clear X_w0 Y_w0 KP Z_w0
   have X_w0:=X_w0n
   have Y_w0:=Y_w0n
   have Z_w0:=Z_w0n
   clear X_w0n Y_w0n Z_w0n
   have KP:=jj (show Kept F_g0 W44 W50 from (Kept.of_below (w:=W44) (zAA hbt51_3) Y_g0.out))
   have X_g0n:=jj (X_g0.out.mono KP.out (fun x _ cs G hk h=>(fun w w' x cs G hk h=>PR.mono (w:=w) (w':=w') x cs G hk h) _ _ x cs G hk h))
   have Y_g0n:=jj (Y_g0.out.mono hbt51_3.size)
   have Z_g0n:=jj (Z_g0.out.kept KP.out)
   clear X_g0 Y_g0 KP Z_g0
   have X_g0:=X_g0n
   have Y_g0:=Y_g0n
   have Z_g0:=Z_g0n
   clear X_g0n Y_g0n Z_g0n
   have bx1c0:W50.cell? ⟨w.heap.size,0,none⟩=some (.int .i64 x1.d):=(bx1.out.cell 0).trans (by simp)
   have bx1c1:W50.cell? ⟨w.heap.size,1,none⟩=some (.int .i64 x1.i):=(bx1.out.cell 1).trans (by simp)
   have bx1lt:w.heap.size<W50.heap.size:=bx1.out.lt
   have bx2c0:W50.cell? ⟨w.heap.size+1,0,none⟩=some (.int .i64 x2.op):=(bx2.out.cell 0).trans (by simp)
   have bx2c1:W50.cell? ⟨w.heap.size+1,1,none⟩=some (.int .i64 x2.ct):=(bx2.out.cell 1).trans (by simp)
   have bx2c2:W50.cell? ⟨w.heap.size+1,2,none⟩=some (.int .i64 x2.n):=(bx2.out.cell 2).trans (by simp)
   have bx2c3:W50.cell? ⟨w.heap.size+1,3,none⟩=some (.int .i64 x2.m):=(bx2.out.cell 3).trans (by simp)
   have bx2c4:W50.cell? ⟨w.heap.size+1,4,none⟩=some (.int .i64 x2.va):=(bx2.out.cell 4).trans (by simp)
   have bx2c5:W50.cell? ⟨w.heap.size+1,5,none⟩=some (.slice A2 x2.ks.length cap2):=(bx2.out.cell 5).trans (by simp)
   have bx2lt:w.heap.size+1<W50.heap.size:=bx2.out.lt
   have xb2c0:W50.cell? ⟨W18.heap.size,0,none⟩=some (.int .i64 x2.op):=(xb2.out.cell 0).trans (by simp)
   have xb2c1:W50.cell? ⟨W18.heap.size,1,none⟩=some (.int .i64 x2.ct):=(xb2.out.cell 1).trans (by simp)
   have xb2c2:W50.cell? ⟨W18.heap.size,2,none⟩=some (.int .i64 x2.n):=(xb2.out.cell 2).trans (by simp)
   have xb2c3:W50.cell? ⟨W18.heap.size,3,none⟩=some (.int .i64 x2.m):=(xb2.out.cell 3).trans (by simp)
   have xb2c4:W50.cell? ⟨W18.heap.size,4,none⟩=some (.int .i64 x2.va):=(xb2.out.cell 4).trans (by simp)
   have xb2c5:W50.cell? ⟨W18.heap.size,5,none⟩=some (.slice B2 x2.ks.length bap2):=(xb2.out.cell 5).trans (by simp)
   have xb2lt:W18.heap.size<W50.heap.size:=xb2.out.lt
   go_wp2_with fail
   clear bx1c0 bx1c1 bx2c0 bx2c1 bx2c2 bx2c3 bx2c4 bx2c5 xb2c0 xb2c1 xb2c2 xb2c3 xb2c4 xb2c5 bx1lt bx2lt xb2lt
   refine (eqPatternS_any r0 W50 F_h0 F_w0 _ _ X_h0.out X_w0.out Y_h0.out Y_w0.out).mono ?_
   rintro e W53 ⟨rfl,hb53⟩
   have hB54:=hB52.trans (hb53.mono hB52.size)
   have bx1n:Hid (Blk W53 (w.heap.size) 24 #[.int .i64 x1.d,.int .i64 x1.i]):=bx1.out.same (hb53.block _ bx1.out.lt)
   clear bx1
   have bx1:=bx1n
   clear bx1n
   have bx2n:Hid (Blk W53 (w.heap.size+1) 27 #[.int .i64 x2.op,.int .i64 x2.ct,.int .i64 x2.n,.int .i64 x2.m,.int .i64 x2.va,.slice A2 x2.ks.length cap2]):=bx2.out.same (hb53.block _ bx2.out.lt)
   clear bx2
   have bx2:=bx2n
   clear bx2n
   have xb2n:Hid (Blk W53 (W18.heap.size) 38 #[.int .i64 x2.op,.int .i64 x2.ct,.int .i64 x2.n,.int .i64 x2.m,.int .i64 x2.va,.slice B2 x2.ks.length bap2]):=xb2.out.same (hb53.block _ xb2.out.lt)
   clear xb2
   have xb2:=xb2n
   clear xb2n
   have KP:=jj (show Kept F_w0 W50 W53 from (Kept.of_below (w:=W50) hb53 Y_w0.out))
   have X_w0n:=jj (X_w0.out.mono KP.out (fun x _ cs G hk h=>(fun w w' x cs G hk h=>PR.mono (w:=w) (w':=w') x cs G hk h) _ _ x cs G hk h))
   have Y_w0n:=jj (Y_w0.out.mono hb53.size)
   have Z_w0n:=jj (Z_w0.out.kept KP.out)
   clear X_w0 Y_w0 KP Z_w0
   have X_w0:=X_w0n
   have Y_w0:=Y_w0n
   have Z_w0:=Z_w0n
   clear X_w0n Y_w0n Z_w0n
   have KP:=jj (show Kept F_g0 W50 W53 from (Kept.of_below (w:=W50) hb53 Y_g0.out))
   have X_g0n:=jj (X_g0.out.mono KP.out (fun x _ cs G hk h=>(fun w w' x cs G hk h=>PR.mono (w:=w) (w':=w') x cs G hk h) _ _ x cs G hk h))
   have Y_g0n:=jj (Y_g0.out.mono hb53.size)
   have Z_g0n:=jj (Z_g0.out.kept KP.out)
   clear X_g0 Y_g0 KP Z_g0
   have X_g0:=X_g0n
   have Y_g0:=Y_g0n
   have Z_g0:=Z_g0n
   clear X_g0n Y_g0n Z_g0n
   have KP:=jj (show Kept F_h0 W50 W53 from (Kept.of_below (w:=W50) hb53 Y_h0.out))
   have X_h0n:=jj (X_h0.out.mono KP.out (fun x _ cs G hk h=>(fun w w' x cs G hk h=>PR.mono (w:=w) (w':=w') x cs G hk h) _ _ x cs G hk h))
   have Y_h0n:=jj (Y_h0.out.mono hb53.size)
   have Z_h0n:=jj (Z_h0.out.kept KP.out)
   clear X_h0 Y_h0 KP Z_h0
   have X_h0:=X_h0n
   have Y_h0:=Y_h0n
   have Z_h0:=Z_h0n
   clear X_h0n Y_h0n Z_h0n
   have bx1c0:W53.cell? ⟨w.heap.size,0,none⟩=some (.int .i64 x1.d):=(bx1.out.cell 0).trans (by simp)
   have bx1c1:W53.cell? ⟨w.heap.size,1,none⟩=some (.int .i64 x1.i):=(bx1.out.cell 1).trans (by simp)
   have bx1lt:w.heap.size<W53.heap.size:=bx1.out.lt
   have bx2c0:W53.cell? ⟨w.heap.size+1,0,none⟩=some (.int .i64 x2.op):=(bx2.out.cell 0).trans (by simp)
   have bx2c1:W53.cell? ⟨w.heap.size+1,1,none⟩=some (.int .i64 x2.ct):=(bx2.out.cell 1).trans (by simp)
   have bx2c2:W53.cell? ⟨w.heap.size+1,2,none⟩=some (.int .i64 x2.n):=(bx2.out.cell 2).trans (by simp)
   have bx2c3:W53.cell? ⟨w.heap.size+1,3,none⟩=some (.int .i64 x2.m):=(bx2.out.cell 3).trans (by simp)
   have bx2c4:W53.cell? ⟨w.heap.size+1,4,none⟩=some (.int .i64 x2.va):=(bx2.out.cell 4).trans (by simp)
   have bx2c5:W53.cell? ⟨w.heap.size+1,5,none⟩=some (.slice A2 x2.ks.length cap2):=(bx2.out.cell 5).trans (by simp)
   have bx2lt:w.heap.size+1<W53.heap.size:=bx2.out.lt
   have xb2c0:W53.cell? ⟨W18.heap.size,0,none⟩=some (.int .i64 x2.op):=(xb2.out.cell 0).trans (by simp)
   have xb2c1:W53.cell? ⟨W18.heap.size,1,none⟩=some (.int .i64 x2.ct):=(xb2.out.cell 1).trans (by simp)
   have xb2c2:W53.cell? ⟨W18.heap.size,2,none⟩=some (.int .i64 x2.n):=(xb2.out.cell 2).trans (by simp)
   have xb2c3:W53.cell? ⟨W18.heap.size,3,none⟩=some (.int .i64 x2.m):=(xb2.out.cell 3).trans (by simp)
   have xb2c4:W53.cell? ⟨W18.heap.size,4,none⟩=some (.int .i64 x2.va):=(xb2.out.cell 4).trans (by simp)
   have xb2c5:W53.cell? ⟨W18.heap.size,5,none⟩=some (.slice B2 x2.ks.length bap2):=(xb2.out.cell 5).trans (by simp)
   have xb2lt:W18.heap.size<W53.heap.size:=xb2.out.lt
   go_wp2_with fail
   clear bx1c0 bx1c1 bx2c0 bx2c1 bx2c2 bx2c3 bx2c4 bx2c5 xb2c0 xb2c1 xb2c2 xb2c3 xb2c4 xb2c5 bx1lt bx2lt xb2lt
   refine (heldPatternS_any r0 W53 _ F_g0 1 (by omega) (by omega) X_g0.out Y_g0.out).mono ?_
   rintro e W55 ⟨rfl,hb55⟩
   have hB56:=hB54.trans (hb55.mono hB54.size)
   have bx1n:Hid (Blk W55 (w.heap.size) 24 #[.int .i64 x1.d,.int .i64 x1.i]):=bx1.out.same (hb55.block _ bx1.out.lt)
   clear bx1
   have bx1:=bx1n
   clear bx1n
   have bx2n:Hid (Blk W55 (w.heap.size+1) 27 #[.int .i64 x2.op,.int .i64 x2.ct,.int .i64 x2.n,.int .i64 x2.m,.int .i64 x2.va,.slice A2 x2.ks.length cap2]):=bx2.out.same (hb55.block _ bx2.out.lt)
   clear bx2
   have bx2:=bx2n
   clear bx2n
   have xb2n:Hid (Blk W55 (W18.heap.size) 38 #[.int .i64 x2.op,.int .i64 x2.ct,.int .i64 x2.n,.int .i64 x2.m,.int .i64 x2.va,.slice B2 x2.ks.length bap2]):=xb2.out.same (hb55.block _ xb2.out.lt)
   clear xb2
   have xb2:=xb2n
   clear xb2n
   have KP:=jj (show Kept F_w0 W53 W55 from (Kept.of_below (w:=W53) hb55 Y_w0.out))
   have X_w0n:=jj (X_w0.out.mono KP.out (fun x _ cs G hk h=>(fun w w' x cs G hk h=>PR.mono (w:=w) (w':=w') x cs G hk h) _ _ x cs G hk h))
   have Y_w0n:=jj (Y_w0.out.mono hb55.size)
   have Z_w0n:=jj (Z_w0.out.kept KP.out)
   clear X_w0 Y_w0 KP Z_w0
   have X_w0:=X_w0n
   have Y_w0:=Y_w0n
   have Z_w0:=Z_w0n
   clear X_w0n Y_w0n Z_w0n
   have KP:=jj (show Kept F_g0 W53 W55 from (Kept.of_below (w:=W53) hb55 Y_g0.out))
   have X_g0n:=jj (X_g0.out.mono KP.out (fun x _ cs G hk h=>(fun w w' x cs G hk h=>PR.mono (w:=w) (w':=w') x cs G hk h) _ _ x cs G hk h))
   have Y_g0n:=jj (Y_g0.out.mono hb55.size)
   have Z_g0n:=jj (Z_g0.out.kept KP.out)
   clear X_g0 Y_g0 KP Z_g0
   have X_g0:=X_g0n
   have Y_g0:=Y_g0n
   have Z_g0:=Z_g0n
   clear X_g0n Y_g0n Z_g0n
   go_wp2
   go_ret
   exact ⟨rfl,hB56⟩
  ·rw [show szLeft x2.size (1048576-((Dt.sizes x0):Int)) = -1 from if_neg hz2]
   go_wp2
   go_ret
   exact ⟨rfl,hB6⟩
 ·rw [show szLeft (Dt.sizes x0) (1048576) = -1 from if_neg hz0]
  go_wp2
  go_ret
  exact ⟨rfl,hB4⟩
end Go.Proofs.Ytghekinfoadcoaa.fnExactSplitOr
namespace Go.Proofs.Ytghekinfoadcoaa.fnExactSplitOr
open Go.ChangeShapes Go.WideShapes Go.ChangeAt Go.RowKit
open Go.ChangeMaps (open_string shut_string)
set_option linter.unusedVariables false

theorem own : ownKnob Try.prog.godebug = none := by kernel_rfl
theorem laidOut : laidOutB Try.prog = true := by kernel_rfl

set_option maxRecDepth 100000 in
theorem lifted (os : Os) (started : os.Started) (H : Type) (enc : TypeId × Value → H) :
    ReturnsInHanded {} Try.checked os 3 .any (Rows.fnExactSplitOrSpec.pre6 enc Try.prog Try.f3 Rows.fnExactSplitOrRow.domain false) (Rows.fnExactSplitOrSpec.post enc Try.prog Try.f3 false true false false) := by
  refine returnsInHanded_of_change (C := Try.checked) own started (by kernel_rfl) Try.func3
    (ChangeSpec.witness6 (enc := enc) (C := Try.checked) false ⟨#[], #[.slice none 0 0, .agg #[.int .i64 0, .int .i64 0], .agg #[.int .i64 0, .int .i64 0, .int .i64 0, .int .i64 0, .int .i64 0, .slice none 0 0]], []⟩ 8 (by kernel_rfl) (by kernel_rfl) (by kernel_rfl) (by kernel_rfl)) ?_
  intro W base args ds gs before hval0 hW hcnd _
  have hval : ∀ (j : Nat) t v, Try.f3.params[j]? = some t → args[j]? = some v → Value.okWide Try.prog W .any base t v := hval0
  have hW' := hW
  obtain ⟨p, q, hA0, hV, rfl, hfz, hnd⟩ := hW
  have hA : DataW.TrodAll enc Try.prog W 0 (fun _ => true) true Try.f3.params.toList args.toList ds p := hA0
  rw [Try.params3] at hA hval
  obtain ⟨v0, vs0, d0, ds0, p0, q0, hargs, rfl, rfl, h0, r0⟩ := trodAll_cons hA
  obtain ⟨v1, vs1, d1, ds1, p1, q1, rfl, rfl, rfl, h1, r1⟩ := trodAll_cons r0
  obtain ⟨v2, vs2, d2, ds2, p2, q2, rfl, rfl, rfl, h2, r2⟩ := trodAll_cons r1
  obtain ⟨rfl, rfl, rfl⟩ := trodAll_nil r2
  obtain rfl : args = #[v0, v1, v2] := by cases args; simp_all
  obtain ⟨rfl, rfl⟩ := trodVars_none hV
  have k0 := h0
  have lt0 : ∀ x ∈ p0, x.block < W.heap.size := by obtain ⟨m, hm⟩ := k0; exact DataW.trod_lt m _ _ _ hm
  have k1 := h1
  have lt1 : ∀ x ∈ p1, x.block < W.heap.size := by obtain ⟨m, hm⟩ := k1; exact DataW.trod_lt m _ _ _ hm
  have k2 := h2
  have lt2 : ∀ x ∈ p2, x.block < W.heap.size := by obtain ⟨m, hm⟩ := k2; exact DataW.trod_lt m _ _ _ hm
  obtain ⟨x0, F0, hR0, hU0⟩ := open_Dts (hval 0 22 v0 rfl rfl) h0
  obtain ⟨x1, cs1, F1, rfl, hR1, hU1⟩ := open_Ty (hval 1 24 v1 rfl rfl) h1
  obtain ⟨x2, cs2, F2, rfl, hR2, hU2⟩ := open_P (hval 2 27 v2 rfl rfl) h2
  clear hA0 hval0
  refine (walk x0 v0 F0 hR0 hU0 x1 cs1 F1 hR1 hU1 x2 cs2 F2 hR2 hU2 W rfl).mono fun e W' ⟨he, bel⟩ => ?_
  subst he
  exact ⟨_, rfl, _, _, _, [], _, [], hW', trodAll_mk1 (shut_bool Try.underlying4 _), (trodAll_cons_mk (Below.trod laidOut (by kernel_rfl) (of_decide_eq_true (by kernel_rfl)) k0 bel lt0) (trodAll_cons_mk (Below.trod laidOut (by kernel_rfl) (of_decide_eq_true (by kernel_rfl)) k1 bel lt1) (trodAll_cons_mk (Below.trod laidOut (by kernel_rfl) (of_decide_eq_true (by kernel_rfl)) k2 bel lt2) trodAll_mk0))), rfl, bel.frame _, fun h => by cases h⟩

set_option maxHeartbeats 4000000 in
theorem closed : joinedFacts Try.pinned.checked.prog 3 Try.f3 Rows.fnExactSplitOrSpec Rows.fnExactSplitOrRow = true := by
  unfold joinedFacts
  have key : ∀ a b : Bool, a = true → b = true → (a && b) = true := fun a b h1 h2 => by rw [h1, h2]; rfl
  repeat' (with_reducible refine key _ _ ?_ ?_)
  all_goals as_aux_lemma => kernel_rfl

theorem over : Rows.fnExactSplitOrRow.holds Try.pinned (OpenSpec.ofChange Rows.fnExactSplitOrSpec) :=
  OpenClaim.holds_of_wide 3 Try.f3 rfl rfl rfl rfl rfl rfl rfl ⟨rfl, rfl, rfl, rfl, rfl⟩ rfl rfl rfl rfl rfl (by kernel_rfl) Try.func3 closed
    (of_decide_eq_true (by kernel_rfl)) (by unfold Func.isWrapper; first | (rw [if_pos (by decide +kernel)]; kernel_rfl) | (rw [if_neg (by decide +kernel)]; exact ⟨rfl, rfl⟩))
    (fun os started H enc _ => lifted os started H enc)

theorem proved : Rows.FnExactSplitOrSaid := over
end Go.Proofs.Ytghekinfoadcoaa.fnExactSplitOr
