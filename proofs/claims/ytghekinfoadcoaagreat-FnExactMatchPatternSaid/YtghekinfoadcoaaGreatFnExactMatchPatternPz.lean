/-
  FnExactMatchPattern: for every argument the law returns true. Conditions: none.
-/
import Derived.Test.YtghekinfoadcoaaGreatKAA
import Derived.Test.YtghekinfoadcoaaGreatKAB
import Derived.Test.YtghekinfoadcoaaGreatKAI
import Derived.Test.YtghekinfoadcoaaGreatKAJ
import Derived.Test.YtghekinfoadcoaaGreatKAC
import Derived.Deep.Cut
import Derived.Deep.RegionWith
import Derived.Deep.RegionHeld3
import Derived.BigQuiet
import Derived.Test.YtghekinfoadcoaaGreatRows
import Derived.ProofKit
import Derived.OpenShut
import Derived.ShutString
import Derived.ChangeOld
import Derived.Below

set_option linter.unusedVariables false
set_option linter.unusedSimpArgs false
set_option maxRecDepth 100000
set_option maxHeartbeats 1600000

namespace Go.Proofs.YtghekinfoadcoaaGreat.fnExactMatchPattern
open Go.RowKit
set_option maxHeartbeats 3200000 in
theorem walk {W:World} (x0:List Dt) (v0:Value) (F0:List Nat) (hR0:Arr W (DtR W) x0 v0 F0) (hU0:Under W.heap.size F0) (x1:Ty) (cs1:List Value) (F1:List Nat) (hR1:TyR W x1 cs1 F1) (hU1:Under W.heap.size F1) (x2:P) (cs2:List Value) (F2:List Nat) (hR2:PR W x2 cs2 F2) (hU2:Under W.heap.size F2) (x3:V) (cs3:List Value) (F3:List Nat) (hR3:VR W x3 cs3 F3) (hU3:Under W.heap.size F3) (w:World) (hw:w=W) :
  Calls Tryz.prog 3 #[v0,.agg cs1.toArray,.agg cs2.toArray,.agg cs3.toArray] w fun e w'=>e=.returned (.bool true)∧Below w.heap.size w w':=by
 subst hw
 obtain ⟨A0,cap0,rfl,-,-⟩:=hR0.form
 obtain ⟨rfl,rfl⟩:=hR1
 obtain ⟨kv2,rfl,ha2⟩:=(zAF _ _ _).1 hR2
 obtain ⟨A2,cap2,rfl,-,-⟩:=ha2.form
 clear ha2
 obtain ⟨kv3,rfl,ha3⟩:=(zAD _ _ _).1 hR3
 obtain ⟨A3,cap3,rfl,-,-⟩:=ha3.form
 clear ha3
 have HR0:=jj hR0
 have HU0:=jj hU0
 clear hR0 hU0
 have HR2:=jj hR2
 have HU2:=jj hU2
 clear hR2 hU2
 have HR3:=jj hR3
 have HU3:=jj hU3
 clear hR3 hU3
 go_enter Tryz.func3,Tryz.ntmps3
 go_wp2_with fail
 have hB0:Below w.heap.size w w:=zy2 _ _
 obtain ⟨W1,hW⟩:∃ X,X=(((w.alloc (.cells #[.int .i64 x1.d,.int .i64 x1.i] 24)).alloc (.cells #[.int .i64 x2.op,.int .i64 x2.ct,.int .i64 x2.n,.int .i64 x2.m,.int .i64 x2.va,.slice A2 x2.ks.length cap2] 27)).alloc (.cells #[.int .i64 x3.c,.int .i64 x3.n,.slice A3 x3.ks.length cap3] 30)):=⟨_,rfl⟩
 have hb1:Below w.heap.size w W1:=by rw [hW];exact ((((zy2 w.heap.size w).alloc (by simp <;> omega) _).alloc (by simp <;> omega) _).alloc (by simp <;> omega) _)
 have bx1:Hid (Blk W1 (w.heap.size) 24 #[.int .i64 x1.d,.int .i64 x1.i]):=by
  rw [hW]
  have h0:=Blk.new w 24 #[.int .i64 x1.d,.int .i64 x1.i]
  exact ((h0).same (Below.heap_alloc _ _ _ (by simp <;> omega))).same (Below.heap_alloc _ _ _ (by simp <;> omega))
 have bx2:Hid (Blk W1 (w.heap.size+1) 27 #[.int .i64 x2.op,.int .i64 x2.ct,.int .i64 x2.n,.int .i64 x2.m,.int .i64 x2.va,.slice A2 x2.ks.length cap2]):=by
  rw [hW]
  have h0:=Blk.new (w.alloc (.cells #[.int .i64 x1.d,.int .i64 x1.i] 24)) 27 #[.int .i64 x2.op,.int .i64 x2.ct,.int .i64 x2.n,.int .i64 x2.m,.int .i64 x2.va,.slice A2 x2.ks.length cap2]
  rw [show ((w.alloc (.cells #[.int .i64 x1.d,.int .i64 x1.i] 24))).heap.size=w.heap.size+1 from by simp] at h0
  exact (h0).same (Below.heap_alloc _ _ _ (by simp <;> omega))
 have bx3:Hid (Blk W1 (w.heap.size+2) 30 #[.int .i64 x3.c,.int .i64 x3.n,.slice A3 x3.ks.length cap3]):=by
  rw [hW]
  have h0:=Blk.new ((w.alloc (.cells #[.int .i64 x1.d,.int .i64 x1.i] 24)).alloc (.cells #[.int .i64 x2.op,.int .i64 x2.ct,.int .i64 x2.n,.int .i64 x2.m,.int .i64 x2.va,.slice A2 x2.ks.length cap2] 27)) 30 #[.int .i64 x3.c,.int .i64 x3.n,.slice A3 x3.ks.length cap3]
  rw [show (((w.alloc (.cells #[.int .i64 x1.d,.int .i64 x1.i] 24)).alloc (.cells #[.int .i64 x2.op,.int .i64 x2.ct,.int .i64 x2.n,.int .i64 x2.m,.int .i64 x2.va,.slice A2 x2.ks.length cap2] 27))).heap.size=w.heap.size+2 from by simp] at h0
  exact h0
 rw [←hW]
 clear hW
 have hB2:=hB0.trans (hb1.mono hB0.size)
 refine (szDataS_any x0 W1 F0 _ (1048576) (ArrDt.below HR0.out hB2 HU0.out) (HU0.out.mono hB2.size) (by omega) (by omega)).mono ?_
 rintro e W3 ⟨rfl,hb3⟩
 have hB4:=hB2.trans (hb3.mono hB2.size)
 have bx1n:Hid (Blk W3 (w.heap.size) 24 #[.int .i64 x1.d,.int .i64 x1.i]):=bx1.out.same (hb3.block _ bx1.out.lt)
 clear bx1
 have bx1:=bx1n
 clear bx1n
 have bx2n:Hid (Blk W3 (w.heap.size+1) 27 #[.int .i64 x2.op,.int .i64 x2.ct,.int .i64 x2.n,.int .i64 x2.m,.int .i64 x2.va,.slice A2 x2.ks.length cap2]):=bx2.out.same (hb3.block _ bx2.out.lt)
 clear bx2
 have bx2:=bx2n
 clear bx2n
 have bx3n:Hid (Blk W3 (w.heap.size+2) 30 #[.int .i64 x3.c,.int .i64 x3.n,.slice A3 x3.ks.length cap3]):=bx3.out.same (hb3.block _ bx3.out.lt)
 clear bx3
 have bx3:=bx3n
 clear bx3n
 by_cases hz0:((Dt.sizes x0):Int)≤1048576
 ·rw [show szLeft (Dt.sizes x0) (1048576)=1048576-((Dt.sizes x0):Int) from if_pos hz0]
  have hnn0:0≤1048576-((Dt.sizes x0):Int):=by omega
  have bx1c0:W3.cell? ⟨w.heap.size,0,none⟩=some (.int .i64 x1.d):=(bx1.out.cell 0).trans (by simp)
  have bx1c1:W3.cell? ⟨w.heap.size,1,none⟩=some (.int .i64 x1.i):=(bx1.out.cell 1).trans (by simp)
  have bx1lt:w.heap.size<W3.heap.size:=bx1.out.lt
  have bx2c0:W3.cell? ⟨w.heap.size+1,0,none⟩=some (.int .i64 x2.op):=(bx2.out.cell 0).trans (by simp)
  have bx2c1:W3.cell? ⟨w.heap.size+1,1,none⟩=some (.int .i64 x2.ct):=(bx2.out.cell 1).trans (by simp)
  have bx2c2:W3.cell? ⟨w.heap.size+1,2,none⟩=some (.int .i64 x2.n):=(bx2.out.cell 2).trans (by simp)
  have bx2c3:W3.cell? ⟨w.heap.size+1,3,none⟩=some (.int .i64 x2.m):=(bx2.out.cell 3).trans (by simp)
  have bx2c4:W3.cell? ⟨w.heap.size+1,4,none⟩=some (.int .i64 x2.va):=(bx2.out.cell 4).trans (by simp)
  have bx2c5:W3.cell? ⟨w.heap.size+1,5,none⟩=some (.slice A2 x2.ks.length cap2):=(bx2.out.cell 5).trans (by simp)
  have bx2lt:w.heap.size+1<W3.heap.size:=bx2.out.lt
  have bx3c0:W3.cell? ⟨w.heap.size+2,0,none⟩=some (.int .i64 x3.c):=(bx3.out.cell 0).trans (by simp)
  have bx3c1:W3.cell? ⟨w.heap.size+2,1,none⟩=some (.int .i64 x3.n):=(bx3.out.cell 1).trans (by simp)
  have bx3c2:W3.cell? ⟨w.heap.size+2,2,none⟩=some (.slice A3 x3.ks.length cap3):=(bx3.out.cell 2).trans (by simp)
  have bx3lt:w.heap.size+2<W3.heap.size:=bx3.out.lt
  go_wp2_with fail
  clear bx1c0 bx1c1 bx2c0 bx2c1 bx2c2 bx2c3 bx2c4 bx2c5 bx3c0 bx3c1 bx3c2 bx1lt bx2lt bx3lt
  refine (szPattern_any x2 W3 _ F2 (1048576-((Dt.sizes x0):Int)) (HR2.out.below hB4 HU2.out) (HU2.out.mono hB4.size) (by omega) (by omega)).mono ?_
  rintro e W5 ⟨rfl,hb5⟩
  have hB6:=hB4.trans (hb5.mono hB4.size)
  have bx1n:Hid (Blk W5 (w.heap.size) 24 #[.int .i64 x1.d,.int .i64 x1.i]):=bx1.out.same (hb5.block _ bx1.out.lt)
  clear bx1
  have bx1:=bx1n
  clear bx1n
  have bx2n:Hid (Blk W5 (w.heap.size+1) 27 #[.int .i64 x2.op,.int .i64 x2.ct,.int .i64 x2.n,.int .i64 x2.m,.int .i64 x2.va,.slice A2 x2.ks.length cap2]):=bx2.out.same (hb5.block _ bx2.out.lt)
  clear bx2
  have bx2:=bx2n
  clear bx2n
  have bx3n:Hid (Blk W5 (w.heap.size+2) 30 #[.int .i64 x3.c,.int .i64 x3.n,.slice A3 x3.ks.length cap3]):=bx3.out.same (hb5.block _ bx3.out.lt)
  clear bx3
  have bx3:=bx3n
  clear bx3n
  by_cases hz2:(x2.size:Int)≤1048576-((Dt.sizes x0):Int)
  ·rw [show szLeft x2.size (1048576-((Dt.sizes x0):Int))=1048576-((Dt.sizes x0):Int)-(x2.size:Int) from if_pos hz2]
   have hnn2:0≤1048576-((Dt.sizes x0):Int)-(x2.size:Int):=by omega
   have bx1c0:W5.cell? ⟨w.heap.size,0,none⟩=some (.int .i64 x1.d):=(bx1.out.cell 0).trans (by simp)
   have bx1c1:W5.cell? ⟨w.heap.size,1,none⟩=some (.int .i64 x1.i):=(bx1.out.cell 1).trans (by simp)
   have bx1lt:w.heap.size<W5.heap.size:=bx1.out.lt
   have bx2c0:W5.cell? ⟨w.heap.size+1,0,none⟩=some (.int .i64 x2.op):=(bx2.out.cell 0).trans (by simp)
   have bx2c1:W5.cell? ⟨w.heap.size+1,1,none⟩=some (.int .i64 x2.ct):=(bx2.out.cell 1).trans (by simp)
   have bx2c2:W5.cell? ⟨w.heap.size+1,2,none⟩=some (.int .i64 x2.n):=(bx2.out.cell 2).trans (by simp)
   have bx2c3:W5.cell? ⟨w.heap.size+1,3,none⟩=some (.int .i64 x2.m):=(bx2.out.cell 3).trans (by simp)
   have bx2c4:W5.cell? ⟨w.heap.size+1,4,none⟩=some (.int .i64 x2.va):=(bx2.out.cell 4).trans (by simp)
   have bx2c5:W5.cell? ⟨w.heap.size+1,5,none⟩=some (.slice A2 x2.ks.length cap2):=(bx2.out.cell 5).trans (by simp)
   have bx2lt:w.heap.size+1<W5.heap.size:=bx2.out.lt
   have bx3c0:W5.cell? ⟨w.heap.size+2,0,none⟩=some (.int .i64 x3.c):=(bx3.out.cell 0).trans (by simp)
   have bx3c1:W5.cell? ⟨w.heap.size+2,1,none⟩=some (.int .i64 x3.n):=(bx3.out.cell 1).trans (by simp)
   have bx3c2:W5.cell? ⟨w.heap.size+2,2,none⟩=some (.slice A3 x3.ks.length cap3):=(bx3.out.cell 2).trans (by simp)
   have bx3lt:w.heap.size+2<W5.heap.size:=bx3.out.lt
   go_wp2_with fail
   clear bx1c0 bx1c1 bx2c0 bx2c1 bx2c2 bx2c3 bx2c4 bx2c5 bx3c0 bx3c1 bx3c2 bx1lt bx2lt bx3lt
   refine (szValue_any x3 W5 _ F3 (1048576-((Dt.sizes x0):Int)-(x2.size:Int)) (HR3.out.below hB6 HU3.out) (HU3.out.mono hB6.size) (by omega) (by omega)).mono ?_
   rintro e W7 ⟨rfl,hb7⟩
   have hB8:=hB6.trans (hb7.mono hB6.size)
   have bx1n:Hid (Blk W7 (w.heap.size) 24 #[.int .i64 x1.d,.int .i64 x1.i]):=bx1.out.same (hb7.block _ bx1.out.lt)
   clear bx1
   have bx1:=bx1n
   clear bx1n
   have bx2n:Hid (Blk W7 (w.heap.size+1) 27 #[.int .i64 x2.op,.int .i64 x2.ct,.int .i64 x2.n,.int .i64 x2.m,.int .i64 x2.va,.slice A2 x2.ks.length cap2]):=bx2.out.same (hb7.block _ bx2.out.lt)
   clear bx2
   have bx2:=bx2n
   clear bx2n
   have bx3n:Hid (Blk W7 (w.heap.size+2) 30 #[.int .i64 x3.c,.int .i64 x3.n,.slice A3 x3.ks.length cap3]):=bx3.out.same (hb7.block _ bx3.out.lt)
   clear bx3
   have bx3:=bx3n
   clear bx3n
   by_cases hz3:(x3.size:Int)≤1048576-((Dt.sizes x0):Int)-(x2.size:Int)
   ·rw [show szLeft x3.size (1048576-((Dt.sizes x0):Int)-(x2.size:Int))=1048576-((Dt.sizes x0):Int)-(x2.size:Int)-(x3.size:Int) from if_pos hz3]
    have hnn3:0≤1048576-((Dt.sizes x0):Int)-(x2.size:Int)-(x3.size:Int):=by omega
    have hs0:(Dt.sizes x0)≤1048576:=by omega
    have hs2:x2.size≤1048576:=by omega
    have hs3:x3.size≤1048576:=by omega
    have bx1c0:W7.cell? ⟨w.heap.size,0,none⟩=some (.int .i64 x1.d):=(bx1.out.cell 0).trans (by simp)
    have bx1c1:W7.cell? ⟨w.heap.size,1,none⟩=some (.int .i64 x1.i):=(bx1.out.cell 1).trans (by simp)
    have bx1lt:w.heap.size<W7.heap.size:=bx1.out.lt
    have bx2c0:W7.cell? ⟨w.heap.size+1,0,none⟩=some (.int .i64 x2.op):=(bx2.out.cell 0).trans (by simp)
    have bx2c1:W7.cell? ⟨w.heap.size+1,1,none⟩=some (.int .i64 x2.ct):=(bx2.out.cell 1).trans (by simp)
    have bx2c2:W7.cell? ⟨w.heap.size+1,2,none⟩=some (.int .i64 x2.n):=(bx2.out.cell 2).trans (by simp)
    have bx2c3:W7.cell? ⟨w.heap.size+1,3,none⟩=some (.int .i64 x2.m):=(bx2.out.cell 3).trans (by simp)
    have bx2c4:W7.cell? ⟨w.heap.size+1,4,none⟩=some (.int .i64 x2.va):=(bx2.out.cell 4).trans (by simp)
    have bx2c5:W7.cell? ⟨w.heap.size+1,5,none⟩=some (.slice A2 x2.ks.length cap2):=(bx2.out.cell 5).trans (by simp)
    have bx2lt:w.heap.size+1<W7.heap.size:=bx2.out.lt
    have bx3c0:W7.cell? ⟨w.heap.size+2,0,none⟩=some (.int .i64 x3.c):=(bx3.out.cell 0).trans (by simp)
    have bx3c1:W7.cell? ⟨w.heap.size+2,1,none⟩=some (.int .i64 x3.n):=(bx3.out.cell 1).trans (by simp)
    have bx3c2:W7.cell? ⟨w.heap.size+2,2,none⟩=some (.slice A3 x3.ks.length cap3):=(bx3.out.cell 2).trans (by simp)
    have bx3lt:w.heap.size+2<W7.heap.size:=bx3.out.lt
    go_wp2_with fail
    have SB9_bx1:=jj bx1.out.lt
    have SB9_bx2:=jj bx2.out.lt
    have SB9_bx3:=jj bx3.out.lt
    have hkeep:∀ U U':World,(U.cell? ⟨w.heap.size,0,none⟩=some (.int .i64 x1.d)∧U.cell? ⟨w.heap.size,1,none⟩=some (.int .i64 x1.i)∧U.cell? ⟨w.heap.size+1,0,none⟩=some (.int .i64 x2.op)∧U.cell? ⟨w.heap.size+1,1,none⟩=some (.int .i64 x2.ct)∧U.cell? ⟨w.heap.size+1,2,none⟩=some (.int .i64 x2.n)∧U.cell? ⟨w.heap.size+1,3,none⟩=some (.int .i64 x2.m)∧U.cell? ⟨w.heap.size+1,4,none⟩=some (.int .i64 x2.va)∧U.cell? ⟨w.heap.size+1,5,none⟩=some (.slice A2 x2.ks.length cap2)∧U.cell? ⟨w.heap.size+2,0,none⟩=some (.int .i64 x3.c)∧U.cell? ⟨w.heap.size+2,1,none⟩=some (.int .i64 x3.n)∧U.cell? ⟨w.heap.size+2,2,none⟩=some (.slice A3 x3.ks.length cap3))→Below U.heap.size U U'→W7.heap.size≤U.heap.size→(U'.cell? ⟨w.heap.size,0,none⟩=some (.int .i64 x1.d)∧U'.cell? ⟨w.heap.size,1,none⟩=some (.int .i64 x1.i)∧U'.cell? ⟨w.heap.size+1,0,none⟩=some (.int .i64 x2.op)∧U'.cell? ⟨w.heap.size+1,1,none⟩=some (.int .i64 x2.ct)∧U'.cell? ⟨w.heap.size+1,2,none⟩=some (.int .i64 x2.n)∧U'.cell? ⟨w.heap.size+1,3,none⟩=some (.int .i64 x2.m)∧U'.cell? ⟨w.heap.size+1,4,none⟩=some (.int .i64 x2.va)∧U'.cell? ⟨w.heap.size+1,5,none⟩=some (.slice A2 x2.ks.length cap2)∧U'.cell? ⟨w.heap.size+2,0,none⟩=some (.int .i64 x3.c)∧U'.cell? ⟨w.heap.size+2,1,none⟩=some (.int .i64 x3.n)∧U'.cell? ⟨w.heap.size+2,2,none⟩=some (.slice A3 x3.ks.length cap3)):=fun U U' h hb hU=>⟨(hb.cell (zz9 (bx1lt) hU)).trans h.1,(hb.cell (zz9 (bx1lt) hU)).trans h.2.1,(hb.cell (zz9 (bx2lt) hU)).trans h.2.2.1,(hb.cell (zz9 (bx2lt) hU)).trans h.2.2.2.1,(hb.cell (zz9 (bx2lt) hU)).trans h.2.2.2.2.1,(hb.cell (zz9 (bx2lt) hU)).trans h.2.2.2.2.2.1,(hb.cell (zz9 (bx2lt) hU)).trans h.2.2.2.2.2.2.1,(hb.cell (zz9 (bx2lt) hU)).trans h.2.2.2.2.2.2.2.1,(hb.cell (zz9 (bx3lt) hU)).trans h.2.2.2.2.2.2.2.2.1,(hb.cell (zz9 (bx3lt) hU)).trans h.2.2.2.2.2.2.2.2.2.1,(hb.cell (zz9 (bx3lt) hU)).trans h.2.2.2.2.2.2.2.2.2.2⟩
    have HKeep:=jj hkeep
    clear hkeep
    go_region_held3 (fun w'=>w'.cell? ⟨w.heap.size,0,none⟩=some (.int .i64 x1.d)∧w'.cell? ⟨w.heap.size,1,none⟩=some (.int .i64 x1.i)∧w'.cell? ⟨w.heap.size+1,0,none⟩=some (.int .i64 x2.op)∧w'.cell? ⟨w.heap.size+1,1,none⟩=some (.int .i64 x2.ct)∧w'.cell? ⟨w.heap.size+1,2,none⟩=some (.int .i64 x2.n)∧w'.cell? ⟨w.heap.size+1,3,none⟩=some (.int .i64 x2.m)∧w'.cell? ⟨w.heap.size+1,4,none⟩=some (.int .i64 x2.va)∧w'.cell? ⟨w.heap.size+1,5,none⟩=some (.slice A2 x2.ks.length cap2)∧w'.cell? ⟨w.heap.size+2,0,none⟩=some (.int .i64 x3.c)∧w'.cell? ⟨w.heap.size+2,1,none⟩=some (.int .i64 x3.n)∧w'.cell? ⟨w.heap.size+2,2,none⟩=some (.slice A3 x3.ks.length cap3)) (first | assumption | (exact ⟨bx1c0,bx1c1,bx2c0,bx2c1,bx2c2,bx2c3,bx2c4,bx2c5,bx3c0,bx3c1,bx3c2⟩) | (exact HKeep.out W7.drew W10 ⟨bx1c0,bx1c1,bx2c0,bx2c1,bx2c2,bx2c3,bx2c4,bx2c5,bx3c0,bx3c1,bx3c2⟩ hb10 (zz8 _)) | (exact HKeep.out W10 W11 (by assumption) hb11 hleW10) | (exact HKeep.out W11 W12 (by assumption) hb12 hleW11) | (exact HKeep.out W12 W13 (by assumption) hb13 hleW12) | (exact HKeep.out W13 W14 (by assumption) hb14 hleW13)) (first | (go_at_call 12;((with_reducible refine (toDataS_any x0 _ F0 _ (ArrDt.below HR0.out hB8.drew HU0.out) (HU0.out.mono hB8.drew.size) hs0).mono ?_);rintro e W10 ⟨y10,G10,rfl,hb10,hv10,hfr10,hfs10⟩);have hB10:=hB8.drew.trans (hb10.mono hB8.drew.size);have hleW10:W7.heap.size≤W10.heap.size:=hb10.size) | (go_at_call 13;((with_reducible refine (toType_any x1 _ _ [] (TyR.mk0 _ x1) (Under.nil _) (Ty.size_le x1)).mono ?_);rintro e W11 ⟨ds11,G11,rfl,hb11,⟨rfl,rfl⟩,hfr11,hfs11⟩);have hB11:=hB10.trans (hb11.mono hB10.size);have hleW11:W7.heap.size≤W11.heap.size:=Nat.le_trans hleW10 hb11.size) | (go_at_call 14;((with_reducible refine (toPattern_any x2 _ _ F2 (HR2.out.below hB11 HU2.out) (HU2.out.mono hB11.size) hs2).mono ?_);rintro e W12 ⟨ds12,G12,rfl,hb12,hv12,hfr12,hfs12⟩);have hB12:=hB11.trans (hb12.mono hB11.size);have hleW12:W7.heap.size≤W12.heap.size:=Nat.le_trans hleW11 hb12.size) | (go_at_call 15;((with_reducible refine (toValue_any x3 _ _ F3 (HR3.out.below hB12 HU3.out) (HU3.out.mono hB12.size) hs3).mono ?_);rintro e W13 ⟨ds13,G13,rfl,hb13,hv13,hfr13,hfs13⟩);have hB13:=hB12.trans (hb13.mono hB12.size);have hleW13:W7.heap.size≤W13.heap.size:=Nat.le_trans hleW12 hb13.size) | (go_at_call 11;((with_reducible refine (spec_MatchPattern x0 x1 x2 x3 hs2 hs3 _ _ G10 _ G12 _ G13 (ArrDt.below (ArrDt.below (ArrDt.below hv10 hb11 hfs10.under) hb12 (hfs10.under.mono hb11.size)) hb13 ((hfs10.under.mono hb11.size).mono hb12.size)) (((hfs10.under.mono hb11.size).mono hb12.size).mono hb13.size) (hv12.below hb13 hfs12.under) (hfs12.under.mono hb13.size) hv13 hfs13.under).mono ?_);rintro e W14 ⟨vr_w0,F_w0,rfl,hb14,ha_w0,hfr_w0,hfs_w0⟩)))
    have hbt15_0:=hb10
    have hbt15_1:=hbt15_0.trans (hb11.mono hbt15_0.size)
    have hbt15_2:=hbt15_1.trans (hb12.mono hbt15_1.size)
    have hbt15_3:=hbt15_2.trans (hb13.mono hbt15_2.size)
    have hbt15_4:=hbt15_3.trans (hb14.mono hbt15_3.size)
    clear bx1c0 bx1c1 bx2c0 bx2c1 bx2c2 bx2c3 bx2c4 bx2c5 bx3c0 bx3c1 bx3c2 bx1lt bx2lt bx3lt
    have hfz_w0:Fresh W7 W14 F_w0:=fun b hb=>⟨Nat.le_trans hbt15_3.size (hfs_w0 b hb).1,(hfs_w0 b hb).2⟩
    have nb_bx1_w0:=jj (fun (hj:_∈F_w0)=>Nat.lt_irrefl _ (zz9 SB9_bx1.out (hfz_w0 _ hj).1))
    have nb_bx2_w0:=jj (fun (hj:_∈F_w0)=>Nat.lt_irrefl _ (zz9 SB9_bx2.out (hfz_w0 _ hj).1))
    have nb_bx3_w0:=jj (fun (hj:_∈F_w0)=>Nat.lt_irrefl _ (zz9 SB9_bx3.out (hfz_w0 _ hj).1))
    have LB_w0:=jj (fun b (hj:b∈F_w0)=>Nat.le_trans hB8.size (hfz_w0 b hj).1)
    have X_w0:=jj ha_w0
    have Y_w0:=jj hfs_w0.under
    have Z_w0:=jj hfr_w0
    obtain ⟨A_w0,cap_w0,rfl,-,-⟩:=X_w0.out.form
    clear ha_w0 hfr_w0 hfs_w0 hfz_w0
    have hB16:=hB8.drew.trans (hbt15_4.mono hB8.size)
    have bx1n:Hid (Blk W14 (w.heap.size) 24 #[.int .i64 x1.d,.int .i64 x1.i]):=bx1.out.same (hbt15_4.block _ bx1.out.lt)
    clear bx1
    have bx1:=bx1n
    clear bx1n
    have bx2n:Hid (Blk W14 (w.heap.size+1) 27 #[.int .i64 x2.op,.int .i64 x2.ct,.int .i64 x2.n,.int .i64 x2.m,.int .i64 x2.va,.slice A2 x2.ks.length cap2]):=bx2.out.same (hbt15_4.block _ bx2.out.lt)
    clear bx2
    have bx2:=bx2n
    clear bx2n
    have bx3n:Hid (Blk W14 (w.heap.size+2) 30 #[.int .i64 x3.c,.int .i64 x3.n,.slice A3 x3.ks.length cap3]):=bx3.out.same (hbt15_4.block _ bx3.out.lt)
    clear bx3
    have bx3:=bx3n
    clear bx3n
    generalize hres:matchV x0 x1 x2 x3=r0 at *
    have HRes:=jj hres
    clear hres
    generalize hresb:matchB x0 x1 x2 x3=rb at *
    have HResb:=jj hresb
    clear hresb
    have bx1c0:W14.cell? ⟨w.heap.size,0,none⟩=some (.int .i64 x1.d):=(bx1.out.cell 0).trans (by simp)
    have bx1c1:W14.cell? ⟨w.heap.size,1,none⟩=some (.int .i64 x1.i):=(bx1.out.cell 1).trans (by simp)
    have bx1lt:w.heap.size<W14.heap.size:=bx1.out.lt
    have bx2c0:W14.cell? ⟨w.heap.size+1,0,none⟩=some (.int .i64 x2.op):=(bx2.out.cell 0).trans (by simp)
    have bx2c1:W14.cell? ⟨w.heap.size+1,1,none⟩=some (.int .i64 x2.ct):=(bx2.out.cell 1).trans (by simp)
    have bx2c2:W14.cell? ⟨w.heap.size+1,2,none⟩=some (.int .i64 x2.n):=(bx2.out.cell 2).trans (by simp)
    have bx2c3:W14.cell? ⟨w.heap.size+1,3,none⟩=some (.int .i64 x2.m):=(bx2.out.cell 3).trans (by simp)
    have bx2c4:W14.cell? ⟨w.heap.size+1,4,none⟩=some (.int .i64 x2.va):=(bx2.out.cell 4).trans (by simp)
    have bx2c5:W14.cell? ⟨w.heap.size+1,5,none⟩=some (.slice A2 x2.ks.length cap2):=(bx2.out.cell 5).trans (by simp)
    have bx2lt:w.heap.size+1<W14.heap.size:=bx2.out.lt
    have bx3c0:W14.cell? ⟨w.heap.size+2,0,none⟩=some (.int .i64 x3.c):=(bx3.out.cell 0).trans (by simp)
    have bx3c1:W14.cell? ⟨w.heap.size+2,1,none⟩=some (.int .i64 x3.n):=(bx3.out.cell 1).trans (by simp)
    have bx3c2:W14.cell? ⟨w.heap.size+2,2,none⟩=some (.slice A3 x3.ks.length cap3):=(bx3.out.cell 2).trans (by simp)
    have bx3lt:w.heap.size+2<W14.heap.size:=bx3.out.lt
    go_wp2_with fail
    clear bx1c0 bx1c1 bx2c0 bx2c1 bx2c2 bx2c3 bx2c4 bx2c5 bx3c0 bx3c1 bx3c2 bx1lt bx2lt bx3lt
    have SU17_w0:=Y_w0
    have SB17_bx1:=jj bx1.out.lt
    have SB17_bx2:=jj bx2.out.lt
    have SB17_bx3:=jj bx3.out.lt
    refine (toDataS_any x0 W14 F0 _ (ArrDt.below HR0.out hB16 HU0.out) (HU0.out.mono hB16.size) hs0).mono ?_
    rintro e W18 ⟨y18,G18,rfl,hb18,hv18,hfr18,hfs18⟩
    have hB19:=hB16.trans (hb18.mono hB16.size)
    have bx1n:Hid (Blk W18 (w.heap.size) 24 #[.int .i64 x1.d,.int .i64 x1.i]):=bx1.out.same (hb18.block _ bx1.out.lt)
    clear bx1
    have bx1:=bx1n
    clear bx1n
    have bx2n:Hid (Blk W18 (w.heap.size+1) 27 #[.int .i64 x2.op,.int .i64 x2.ct,.int .i64 x2.n,.int .i64 x2.m,.int .i64 x2.va,.slice A2 x2.ks.length cap2]):=bx2.out.same (hb18.block _ bx2.out.lt)
    clear bx2
    have bx2:=bx2n
    clear bx2n
    have bx3n:Hid (Blk W18 (w.heap.size+2) 30 #[.int .i64 x3.c,.int .i64 x3.n,.slice A3 x3.ks.length cap3]):=bx3.out.same (hb18.block _ bx3.out.lt)
    clear bx3
    have bx3:=bx3n
    clear bx3n
    have KP:=jj (show Kept F_w0 W14 W18 from (Kept.of_below (w:=W14) hb18 Y_w0.out))
    have X_w0n:=jj (X_w0.out.mono KP.out (fun x _ cs G hk h=>(fun w w' x cs G hk h=>BdR.mono (w:=w) (w':=w') x cs G hk h) _ _ x cs G hk h))
    have Y_w0n:=jj (Y_w0.out.mono hb18.size)
    have Z_w0n:=jj (Z_w0.out.kept KP.out)
    clear X_w0 Y_w0 KP Z_w0
    have X_w0:=X_w0n
    have Y_w0:=Y_w0n
    have Z_w0:=Z_w0n
    clear X_w0n Y_w0n Z_w0n
    obtain ⟨B0,bap0,rfl,-,-⟩:=hv18.form
    have X0:=jj hv18
    have Y0:=jj hfs18.under
    have Z_x0:=jj hfr18
    have dj_w0_x0:=jj (fun b (hb:b∈F_w0) (hj:b∈G18)=>Nat.lt_irrefl _ (zz9 (SU17_w0.out b hb) (hfs18 b hj).1))
    have dj_x0_w0:=jj (fun b (hj:b∈G18) (hb:b∈F_w0)=>Nat.lt_irrefl _ (zz9 (SU17_w0.out b hb) (hfs18 b hj).1))
    have nb_bx1_x0:=jj (fun (hj:_∈G18)=>Nat.lt_irrefl _ (zz9 SB17_bx1.out (hfs18 _ hj).1))
    have nb_bx2_x0:=jj (fun (hj:_∈G18)=>Nat.lt_irrefl _ (zz9 SB17_bx2.out (hfs18 _ hj).1))
    have nb_bx3_x0:=jj (fun (hj:_∈G18)=>Nat.lt_irrefl _ (zz9 SB17_bx3.out (hfs18 _ hj).1))
    have LB_x0:=jj (fun b (hj:b∈G18)=>Nat.le_trans hB16.size (hfs18 b hj).1)
    clear hv18 hfr18 hfs18
    have bx1c0:W18.cell? ⟨w.heap.size,0,none⟩=some (.int .i64 x1.d):=(bx1.out.cell 0).trans (by simp)
    have bx1c1:W18.cell? ⟨w.heap.size,1,none⟩=some (.int .i64 x1.i):=(bx1.out.cell 1).trans (by simp)
    have bx1lt:w.heap.size<W18.heap.size:=bx1.out.lt
    have bx2c0:W18.cell? ⟨w.heap.size+1,0,none⟩=some (.int .i64 x2.op):=(bx2.out.cell 0).trans (by simp)
    have bx2c1:W18.cell? ⟨w.heap.size+1,1,none⟩=some (.int .i64 x2.ct):=(bx2.out.cell 1).trans (by simp)
    have bx2c2:W18.cell? ⟨w.heap.size+1,2,none⟩=some (.int .i64 x2.n):=(bx2.out.cell 2).trans (by simp)
    have bx2c3:W18.cell? ⟨w.heap.size+1,3,none⟩=some (.int .i64 x2.m):=(bx2.out.cell 3).trans (by simp)
    have bx2c4:W18.cell? ⟨w.heap.size+1,4,none⟩=some (.int .i64 x2.va):=(bx2.out.cell 4).trans (by simp)
    have bx2c5:W18.cell? ⟨w.heap.size+1,5,none⟩=some (.slice A2 x2.ks.length cap2):=(bx2.out.cell 5).trans (by simp)
    have bx2lt:w.heap.size+1<W18.heap.size:=bx2.out.lt
    have bx3c0:W18.cell? ⟨w.heap.size+2,0,none⟩=some (.int .i64 x3.c):=(bx3.out.cell 0).trans (by simp)
    have bx3c1:W18.cell? ⟨w.heap.size+2,1,none⟩=some (.int .i64 x3.n):=(bx3.out.cell 1).trans (by simp)
    have bx3c2:W18.cell? ⟨w.heap.size+2,2,none⟩=some (.slice A3 x3.ks.length cap3):=(bx3.out.cell 2).trans (by simp)
    have bx3lt:w.heap.size+2<W18.heap.size:=bx3.out.lt
    go_wp2_with fail
    clear bx1c0 bx1c1 bx2c0 bx2c1 bx2c2 bx2c3 bx2c4 bx2c5 bx3c0 bx3c1 bx3c2 bx1lt bx2lt bx3lt
    have SU20_w0:=Y_w0
    have SU20_x0:=Y0
    have SB20_bx1:=jj bx1.out.lt
    have SB20_bx2:=jj bx2.out.lt
    have SB20_bx3:=jj bx3.out.lt
    refine (toPattern_any x2 W18 _ F2 (HR2.out.below hB19 HU2.out) (HU2.out.mono hB19.size) hs2).mono ?_
    rintro e W21 ⟨ds21,G21,rfl,hb21,hv21,hfr21,hfs21⟩
    have hB22:=hB19.trans (hb21.mono hB19.size)
    have bx1n:Hid (Blk W21 (w.heap.size) 24 #[.int .i64 x1.d,.int .i64 x1.i]):=bx1.out.same (hb21.block _ bx1.out.lt)
    clear bx1
    have bx1:=bx1n
    clear bx1n
    have bx2n:Hid (Blk W21 (w.heap.size+1) 27 #[.int .i64 x2.op,.int .i64 x2.ct,.int .i64 x2.n,.int .i64 x2.m,.int .i64 x2.va,.slice A2 x2.ks.length cap2]):=bx2.out.same (hb21.block _ bx2.out.lt)
    clear bx2
    have bx2:=bx2n
    clear bx2n
    have bx3n:Hid (Blk W21 (w.heap.size+2) 30 #[.int .i64 x3.c,.int .i64 x3.n,.slice A3 x3.ks.length cap3]):=bx3.out.same (hb21.block _ bx3.out.lt)
    clear bx3
    have bx3:=bx3n
    clear bx3n
    have KP:=jj (show Kept F_w0 W18 W21 from (Kept.of_below (w:=W18) hb21 Y_w0.out))
    have X_w0n:=jj (X_w0.out.mono KP.out (fun x _ cs G hk h=>(fun w w' x cs G hk h=>BdR.mono (w:=w) (w':=w') x cs G hk h) _ _ x cs G hk h))
    have Y_w0n:=jj (Y_w0.out.mono hb21.size)
    have Z_w0n:=jj (Z_w0.out.kept KP.out)
    clear X_w0 Y_w0 KP Z_w0
    have X_w0:=X_w0n
    have Y_w0:=Y_w0n
    have Z_w0:=Z_w0n
    clear X_w0n Y_w0n Z_w0n
    have KP:=jj (show Kept G18 W18 W21 from (Kept.of_below (w:=W18) hb21 Y0.out))
    have X0n:=jj (ArrDt.mono X0.out KP.out)
    have Y0n:=jj (Y0.out.mono hb21.size)
    have Z_x0n:=jj (Z_x0.out.kept KP.out)
    clear X0 Y0 KP Z_x0
    have X0:=X0n
    have Y0:=Y0n
    have Z_x0:=Z_x0n
    clear X0n Y0n Z_x0n
    obtain ⟨kw21,rfl,hw21⟩:=(zAF _ _ _).1 hv21
    obtain ⟨B2,bap2,rfl,-,-⟩:=hw21.form
    clear hw21
    have X2:=jj hv21
    have Y2:=jj hfs21.under
    have Z_x2:=jj hfr21
    have dj_w0_x2:=jj (fun b (hb:b∈F_w0) (hj:b∈G21)=>Nat.lt_irrefl _ (zz9 (SU20_w0.out b hb) (hfs21 b hj).1))
    have dj_x2_w0:=jj (fun b (hj:b∈G21) (hb:b∈F_w0)=>Nat.lt_irrefl _ (zz9 (SU20_w0.out b hb) (hfs21 b hj).1))
    have dj_x0_x2:=jj (fun b (hb:b∈G18) (hj:b∈G21)=>Nat.lt_irrefl _ (zz9 (SU20_x0.out b hb) (hfs21 b hj).1))
    have dj_x2_x0:=jj (fun b (hj:b∈G21) (hb:b∈G18)=>Nat.lt_irrefl _ (zz9 (SU20_x0.out b hb) (hfs21 b hj).1))
    have nb_bx1_x2:=jj (fun (hj:_∈G21)=>Nat.lt_irrefl _ (zz9 SB20_bx1.out (hfs21 _ hj).1))
    have nb_bx2_x2:=jj (fun (hj:_∈G21)=>Nat.lt_irrefl _ (zz9 SB20_bx2.out (hfs21 _ hj).1))
    have nb_bx3_x2:=jj (fun (hj:_∈G21)=>Nat.lt_irrefl _ (zz9 SB20_bx3.out (hfs21 _ hj).1))
    have LB_x2:=jj (fun b (hj:b∈G21)=>Nat.le_trans hB19.size (hfs21 b hj).1)
    clear hv21 hfr21 hfs21
    have bx1c0:W21.cell? ⟨w.heap.size,0,none⟩=some (.int .i64 x1.d):=(bx1.out.cell 0).trans (by simp)
    have bx1c1:W21.cell? ⟨w.heap.size,1,none⟩=some (.int .i64 x1.i):=(bx1.out.cell 1).trans (by simp)
    have bx1lt:w.heap.size<W21.heap.size:=bx1.out.lt
    have bx2c0:W21.cell? ⟨w.heap.size+1,0,none⟩=some (.int .i64 x2.op):=(bx2.out.cell 0).trans (by simp)
    have bx2c1:W21.cell? ⟨w.heap.size+1,1,none⟩=some (.int .i64 x2.ct):=(bx2.out.cell 1).trans (by simp)
    have bx2c2:W21.cell? ⟨w.heap.size+1,2,none⟩=some (.int .i64 x2.n):=(bx2.out.cell 2).trans (by simp)
    have bx2c3:W21.cell? ⟨w.heap.size+1,3,none⟩=some (.int .i64 x2.m):=(bx2.out.cell 3).trans (by simp)
    have bx2c4:W21.cell? ⟨w.heap.size+1,4,none⟩=some (.int .i64 x2.va):=(bx2.out.cell 4).trans (by simp)
    have bx2c5:W21.cell? ⟨w.heap.size+1,5,none⟩=some (.slice A2 x2.ks.length cap2):=(bx2.out.cell 5).trans (by simp)
    have bx2lt:w.heap.size+1<W21.heap.size:=bx2.out.lt
    have bx3c0:W21.cell? ⟨w.heap.size+2,0,none⟩=some (.int .i64 x3.c):=(bx3.out.cell 0).trans (by simp)
    have bx3c1:W21.cell? ⟨w.heap.size+2,1,none⟩=some (.int .i64 x3.n):=(bx3.out.cell 1).trans (by simp)
    have bx3c2:W21.cell? ⟨w.heap.size+2,2,none⟩=some (.slice A3 x3.ks.length cap3):=(bx3.out.cell 2).trans (by simp)
    have bx3lt:w.heap.size+2<W21.heap.size:=bx3.out.lt
    go_wp2_with fail
    clear bx1c0 bx1c1 bx2c0 bx2c1 bx2c2 bx2c3 bx2c4 bx2c5 bx3c0 bx3c1 bx3c2 bx1lt bx2lt bx3lt
    have nb_xb2_w0:=jj (fun (hj:_∈F_w0)=>Nat.lt_irrefl _ (Y_w0.out _ hj))
    have nb_xb2_x0:=jj (fun (hj:_∈G18)=>Nat.lt_irrefl _ (Y0.out _ hj))
    have nb_xb2_x2:=jj (fun (hj:_∈G21)=>Nat.lt_irrefl _ (Y2.out _ hj))
    obtain ⟨W23,hW⟩:∃ X,X=W21.alloc (.cells #[.int .i64 x2.op,.int .i64 x2.ct,.int .i64 x2.n,.int .i64 x2.m,.int .i64 x2.va,.slice B2 x2.ks.length bap2] 43):=⟨_,rfl⟩
    have hb23:Below W21.heap.size W21 W23:=by rw [hW];exact (zy2 _ _).alloc (zz8 _) _
    have xb2:Hid (Blk W23 W21.heap.size 43 #[.int .i64 x2.op,.int .i64 x2.ct,.int .i64 x2.n,.int .i64 x2.m,.int .i64 x2.va,.slice B2 x2.ks.length bap2]):=by rw [hW];exact Blk.new _ _ _
    rw [←hW]
    clear hW
    have hB24:=hB22.trans (hb23.mono hB22.size)
    have bx1n:Hid (Blk W23 (w.heap.size) 24 #[.int .i64 x1.d,.int .i64 x1.i]):=bx1.out.same (hb23.block _ bx1.out.lt)
    clear bx1
    have bx1:=bx1n
    clear bx1n
    have bx2n:Hid (Blk W23 (w.heap.size+1) 27 #[.int .i64 x2.op,.int .i64 x2.ct,.int .i64 x2.n,.int .i64 x2.m,.int .i64 x2.va,.slice A2 x2.ks.length cap2]):=bx2.out.same (hb23.block _ bx2.out.lt)
    clear bx2
    have bx2:=bx2n
    clear bx2n
    have bx3n:Hid (Blk W23 (w.heap.size+2) 30 #[.int .i64 x3.c,.int .i64 x3.n,.slice A3 x3.ks.length cap3]):=bx3.out.same (hb23.block _ bx3.out.lt)
    clear bx3
    have bx3:=bx3n
    clear bx3n
    have KP:=jj (show Kept F_w0 W21 W23 from (Kept.of_below (w:=W21) hb23 Y_w0.out))
    have X_w0n:=jj (X_w0.out.mono KP.out (fun x _ cs G hk h=>(fun w w' x cs G hk h=>BdR.mono (w:=w) (w':=w') x cs G hk h) _ _ x cs G hk h))
    have Y_w0n:=jj (Y_w0.out.mono hb23.size)
    have Z_w0n:=jj (Z_w0.out.kept KP.out)
    clear X_w0 Y_w0 KP Z_w0
    have X_w0:=X_w0n
    have Y_w0:=Y_w0n
    have Z_w0:=Z_w0n
    clear X_w0n Y_w0n Z_w0n
    have KP:=jj (show Kept G18 W21 W23 from (Kept.of_below (w:=W21) hb23 Y0.out))
    have X0n:=jj (ArrDt.mono X0.out KP.out)
    have Y0n:=jj (Y0.out.mono hb23.size)
    have Z_x0n:=jj (Z_x0.out.kept KP.out)
    clear X0 Y0 KP Z_x0
    have X0:=X0n
    have Y0:=Y0n
    have Z_x0:=Z_x0n
    clear X0n Y0n Z_x0n
    have KP:=jj (show Kept G21 W21 W23 from (Kept.of_below (w:=W21) hb23 Y2.out))
    have X2n:=jj (PR.mono _ _ _ KP.out X2.out)
    have Y2n:=jj (Y2.out.mono hb23.size)
    have Z_x2n:=jj (Z_x2.out.kept KP.out)
    clear X2 Y2 KP Z_x2
    have X2:=X2n
    have Y2:=Y2n
    have Z_x2:=Z_x2n
    clear X2n Y2n Z_x2n
    have bx1c0:W23.cell? ⟨w.heap.size,0,none⟩=some (.int .i64 x1.d):=(bx1.out.cell 0).trans (by simp)
    have bx1c1:W23.cell? ⟨w.heap.size,1,none⟩=some (.int .i64 x1.i):=(bx1.out.cell 1).trans (by simp)
    have bx1lt:w.heap.size<W23.heap.size:=bx1.out.lt
    have bx2c0:W23.cell? ⟨w.heap.size+1,0,none⟩=some (.int .i64 x2.op):=(bx2.out.cell 0).trans (by simp)
    have bx2c1:W23.cell? ⟨w.heap.size+1,1,none⟩=some (.int .i64 x2.ct):=(bx2.out.cell 1).trans (by simp)
    have bx2c2:W23.cell? ⟨w.heap.size+1,2,none⟩=some (.int .i64 x2.n):=(bx2.out.cell 2).trans (by simp)
    have bx2c3:W23.cell? ⟨w.heap.size+1,3,none⟩=some (.int .i64 x2.m):=(bx2.out.cell 3).trans (by simp)
    have bx2c4:W23.cell? ⟨w.heap.size+1,4,none⟩=some (.int .i64 x2.va):=(bx2.out.cell 4).trans (by simp)
    have bx2c5:W23.cell? ⟨w.heap.size+1,5,none⟩=some (.slice A2 x2.ks.length cap2):=(bx2.out.cell 5).trans (by simp)
    have bx2lt:w.heap.size+1<W23.heap.size:=bx2.out.lt
    have bx3c0:W23.cell? ⟨w.heap.size+2,0,none⟩=some (.int .i64 x3.c):=(bx3.out.cell 0).trans (by simp)
    have bx3c1:W23.cell? ⟨w.heap.size+2,1,none⟩=some (.int .i64 x3.n):=(bx3.out.cell 1).trans (by simp)
    have bx3c2:W23.cell? ⟨w.heap.size+2,2,none⟩=some (.slice A3 x3.ks.length cap3):=(bx3.out.cell 2).trans (by simp)
    have bx3lt:w.heap.size+2<W23.heap.size:=bx3.out.lt
    have xb2c0:W23.cell? ⟨W21.heap.size,0,none⟩=some (.int .i64 x2.op):=(xb2.out.cell 0).trans (by simp)
    have xb2c1:W23.cell? ⟨W21.heap.size,1,none⟩=some (.int .i64 x2.ct):=(xb2.out.cell 1).trans (by simp)
    have xb2c2:W23.cell? ⟨W21.heap.size,2,none⟩=some (.int .i64 x2.n):=(xb2.out.cell 2).trans (by simp)
    have xb2c3:W23.cell? ⟨W21.heap.size,3,none⟩=some (.int .i64 x2.m):=(xb2.out.cell 3).trans (by simp)
    have xb2c4:W23.cell? ⟨W21.heap.size,4,none⟩=some (.int .i64 x2.va):=(xb2.out.cell 4).trans (by simp)
    have xb2c5:W23.cell? ⟨W21.heap.size,5,none⟩=some (.slice B2 x2.ks.length bap2):=(xb2.out.cell 5).trans (by simp)
    have xb2lt:W21.heap.size<W23.heap.size:=xb2.out.lt
    go_wp2_with fail
    clear bx1c0 bx1c1 bx2c0 bx2c1 bx2c2 bx2c3 bx2c4 bx2c5 bx3c0 bx3c1 bx3c2 xb2c0 xb2c1 xb2c2 xb2c3 xb2c4 xb2c5 bx1lt bx2lt bx3lt xb2lt
    have SU25_w0:=Y_w0
    have SU25_x0:=Y0
    have SU25_x2:=Y2
    have SB25_bx1:=jj bx1.out.lt
    have SB25_bx2:=jj bx2.out.lt
    have SB25_bx3:=jj bx3.out.lt
    have SB25_xb2:=jj xb2.out.lt
    refine (toValue_any x3 W23 _ F3 (HR3.out.below hB24 HU3.out) (HU3.out.mono hB24.size) hs3).mono ?_
    rintro e W26 ⟨ds26,G26,rfl,hb26,hv26,hfr26,hfs26⟩
    have hB27:=hB24.trans (hb26.mono hB24.size)
    have bx1n:Hid (Blk W26 (w.heap.size) 24 #[.int .i64 x1.d,.int .i64 x1.i]):=bx1.out.same (hb26.block _ bx1.out.lt)
    clear bx1
    have bx1:=bx1n
    clear bx1n
    have bx2n:Hid (Blk W26 (w.heap.size+1) 27 #[.int .i64 x2.op,.int .i64 x2.ct,.int .i64 x2.n,.int .i64 x2.m,.int .i64 x2.va,.slice A2 x2.ks.length cap2]):=bx2.out.same (hb26.block _ bx2.out.lt)
    clear bx2
    have bx2:=bx2n
    clear bx2n
    have bx3n:Hid (Blk W26 (w.heap.size+2) 30 #[.int .i64 x3.c,.int .i64 x3.n,.slice A3 x3.ks.length cap3]):=bx3.out.same (hb26.block _ bx3.out.lt)
    clear bx3
    have bx3:=bx3n
    clear bx3n
    have xb2n:Hid (Blk W26 (W21.heap.size) 43 #[.int .i64 x2.op,.int .i64 x2.ct,.int .i64 x2.n,.int .i64 x2.m,.int .i64 x2.va,.slice B2 x2.ks.length bap2]):=xb2.out.same (hb26.block _ xb2.out.lt)
    clear xb2
    have xb2:=xb2n
    clear xb2n
    have KP:=jj (show Kept F_w0 W23 W26 from (Kept.of_below (w:=W23) hb26 Y_w0.out))
    have X_w0n:=jj (X_w0.out.mono KP.out (fun x _ cs G hk h=>(fun w w' x cs G hk h=>BdR.mono (w:=w) (w':=w') x cs G hk h) _ _ x cs G hk h))
    have Y_w0n:=jj (Y_w0.out.mono hb26.size)
    have Z_w0n:=jj (Z_w0.out.kept KP.out)
    clear X_w0 Y_w0 KP Z_w0
    have X_w0:=X_w0n
    have Y_w0:=Y_w0n
    have Z_w0:=Z_w0n
    clear X_w0n Y_w0n Z_w0n
    have KP:=jj (show Kept G18 W23 W26 from (Kept.of_below (w:=W23) hb26 Y0.out))
    have X0n:=jj (ArrDt.mono X0.out KP.out)
    have Y0n:=jj (Y0.out.mono hb26.size)
    have Z_x0n:=jj (Z_x0.out.kept KP.out)
    clear X0 Y0 KP Z_x0
    have X0:=X0n
    have Y0:=Y0n
    have Z_x0:=Z_x0n
    clear X0n Y0n Z_x0n
    have KP:=jj (show Kept G21 W23 W26 from (Kept.of_below (w:=W23) hb26 Y2.out))
    have X2n:=jj (PR.mono _ _ _ KP.out X2.out)
    have Y2n:=jj (Y2.out.mono hb26.size)
    have Z_x2n:=jj (Z_x2.out.kept KP.out)
    clear X2 Y2 KP Z_x2
    have X2:=X2n
    have Y2:=Y2n
    have Z_x2:=Z_x2n
    clear X2n Y2n Z_x2n
    obtain ⟨kw26,rfl,hw26⟩:=(zAD _ _ _).1 hv26
    obtain ⟨B3,bap3,rfl,-,-⟩:=hw26.form
    clear hw26
    have X3:=jj hv26
    have Y3:=jj hfs26.under
    have Z_x3:=jj hfr26
    have dj_w0_x3:=jj (fun b (hb:b∈F_w0) (hj:b∈G26)=>Nat.lt_irrefl _ (zz9 (SU25_w0.out b hb) (hfs26 b hj).1))
    have dj_x3_w0:=jj (fun b (hj:b∈G26) (hb:b∈F_w0)=>Nat.lt_irrefl _ (zz9 (SU25_w0.out b hb) (hfs26 b hj).1))
    have dj_x0_x3:=jj (fun b (hb:b∈G18) (hj:b∈G26)=>Nat.lt_irrefl _ (zz9 (SU25_x0.out b hb) (hfs26 b hj).1))
    have dj_x3_x0:=jj (fun b (hj:b∈G26) (hb:b∈G18)=>Nat.lt_irrefl _ (zz9 (SU25_x0.out b hb) (hfs26 b hj).1))
    have dj_x2_x3:=jj (fun b (hb:b∈G21) (hj:b∈G26)=>Nat.lt_irrefl _ (zz9 (SU25_x2.out b hb) (hfs26 b hj).1))
    have dj_x3_x2:=jj (fun b (hj:b∈G26) (hb:b∈G21)=>Nat.lt_irrefl _ (zz9 (SU25_x2.out b hb) (hfs26 b hj).1))
    have nb_bx1_x3:=jj (fun (hj:_∈G26)=>Nat.lt_irrefl _ (zz9 SB25_bx1.out (hfs26 _ hj).1))
    have nb_bx2_x3:=jj (fun (hj:_∈G26)=>Nat.lt_irrefl _ (zz9 SB25_bx2.out (hfs26 _ hj).1))
    have nb_bx3_x3:=jj (fun (hj:_∈G26)=>Nat.lt_irrefl _ (zz9 SB25_bx3.out (hfs26 _ hj).1))
    have nb_xb2_x3:=jj (fun (hj:_∈G26)=>Nat.lt_irrefl _ (zz9 SB25_xb2.out (hfs26 _ hj).1))
    have LB_x3:=jj (fun b (hj:b∈G26)=>Nat.le_trans hB24.size (hfs26 b hj).1)
    clear hv26 hfr26 hfs26
    have bx1c0:W26.cell? ⟨w.heap.size,0,none⟩=some (.int .i64 x1.d):=(bx1.out.cell 0).trans (by simp)
    have bx1c1:W26.cell? ⟨w.heap.size,1,none⟩=some (.int .i64 x1.i):=(bx1.out.cell 1).trans (by simp)
    have bx1lt:w.heap.size<W26.heap.size:=bx1.out.lt
    have bx2c0:W26.cell? ⟨w.heap.size+1,0,none⟩=some (.int .i64 x2.op):=(bx2.out.cell 0).trans (by simp)
    have bx2c1:W26.cell? ⟨w.heap.size+1,1,none⟩=some (.int .i64 x2.ct):=(bx2.out.cell 1).trans (by simp)
    have bx2c2:W26.cell? ⟨w.heap.size+1,2,none⟩=some (.int .i64 x2.n):=(bx2.out.cell 2).trans (by simp)
    have bx2c3:W26.cell? ⟨w.heap.size+1,3,none⟩=some (.int .i64 x2.m):=(bx2.out.cell 3).trans (by simp)
    have bx2c4:W26.cell? ⟨w.heap.size+1,4,none⟩=some (.int .i64 x2.va):=(bx2.out.cell 4).trans (by simp)
    have bx2c5:W26.cell? ⟨w.heap.size+1,5,none⟩=some (.slice A2 x2.ks.length cap2):=(bx2.out.cell 5).trans (by simp)
    have bx2lt:w.heap.size+1<W26.heap.size:=bx2.out.lt
    have bx3c0:W26.cell? ⟨w.heap.size+2,0,none⟩=some (.int .i64 x3.c):=(bx3.out.cell 0).trans (by simp)
    have bx3c1:W26.cell? ⟨w.heap.size+2,1,none⟩=some (.int .i64 x3.n):=(bx3.out.cell 1).trans (by simp)
    have bx3c2:W26.cell? ⟨w.heap.size+2,2,none⟩=some (.slice A3 x3.ks.length cap3):=(bx3.out.cell 2).trans (by simp)
    have bx3lt:w.heap.size+2<W26.heap.size:=bx3.out.lt
    have xb2c0:W26.cell? ⟨W21.heap.size,0,none⟩=some (.int .i64 x2.op):=(xb2.out.cell 0).trans (by simp)
    have xb2c1:W26.cell? ⟨W21.heap.size,1,none⟩=some (.int .i64 x2.ct):=(xb2.out.cell 1).trans (by simp)
    have xb2c2:W26.cell? ⟨W21.heap.size,2,none⟩=some (.int .i64 x2.n):=(xb2.out.cell 2).trans (by simp)
    have xb2c3:W26.cell? ⟨W21.heap.size,3,none⟩=some (.int .i64 x2.m):=(xb2.out.cell 3).trans (by simp)
    have xb2c4:W26.cell? ⟨W21.heap.size,4,none⟩=some (.int .i64 x2.va):=(xb2.out.cell 4).trans (by simp)
    have xb2c5:W26.cell? ⟨W21.heap.size,5,none⟩=some (.slice B2 x2.ks.length bap2):=(xb2.out.cell 5).trans (by simp)
    have xb2lt:W21.heap.size<W26.heap.size:=xb2.out.lt
    go_wp2_with fail
    clear bx1c0 bx1c1 bx2c0 bx2c1 bx2c2 bx2c3 bx2c4 bx2c5 bx3c0 bx3c1 bx3c2 xb2c0 xb2c1 xb2c2 xb2c3 xb2c4 xb2c5 bx1lt bx2lt bx3lt xb2lt
    have nb_xb3_w0:=jj (fun (hj:_∈F_w0)=>Nat.lt_irrefl _ (Y_w0.out _ hj))
    have nb_xb3_x0:=jj (fun (hj:_∈G18)=>Nat.lt_irrefl _ (Y0.out _ hj))
    have nb_xb3_x2:=jj (fun (hj:_∈G21)=>Nat.lt_irrefl _ (Y2.out _ hj))
    have nb_xb3_x3:=jj (fun (hj:_∈G26)=>Nat.lt_irrefl _ (Y3.out _ hj))
    obtain ⟨W28,hW⟩:∃ X,X=W26.alloc (.cells #[.int .i64 x3.c,.int .i64 x3.n,.slice B3 x3.ks.length bap3] 47):=⟨_,rfl⟩
    have hb28:Below W26.heap.size W26 W28:=by rw [hW];exact (zy2 _ _).alloc (zz8 _) _
    have xb3:Hid (Blk W28 W26.heap.size 47 #[.int .i64 x3.c,.int .i64 x3.n,.slice B3 x3.ks.length bap3]):=by rw [hW];exact Blk.new _ _ _
    rw [←hW]
    clear hW
    have hB29:=hB27.trans (hb28.mono hB27.size)
    have bx1n:Hid (Blk W28 (w.heap.size) 24 #[.int .i64 x1.d,.int .i64 x1.i]):=bx1.out.same (hb28.block _ bx1.out.lt)
    clear bx1
    have bx1:=bx1n
    clear bx1n
    have bx2n:Hid (Blk W28 (w.heap.size+1) 27 #[.int .i64 x2.op,.int .i64 x2.ct,.int .i64 x2.n,.int .i64 x2.m,.int .i64 x2.va,.slice A2 x2.ks.length cap2]):=bx2.out.same (hb28.block _ bx2.out.lt)
    clear bx2
    have bx2:=bx2n
    clear bx2n
    have bx3n:Hid (Blk W28 (w.heap.size+2) 30 #[.int .i64 x3.c,.int .i64 x3.n,.slice A3 x3.ks.length cap3]):=bx3.out.same (hb28.block _ bx3.out.lt)
    clear bx3
    have bx3:=bx3n
    clear bx3n
    have xb2n:Hid (Blk W28 (W21.heap.size) 43 #[.int .i64 x2.op,.int .i64 x2.ct,.int .i64 x2.n,.int .i64 x2.m,.int .i64 x2.va,.slice B2 x2.ks.length bap2]):=xb2.out.same (hb28.block _ xb2.out.lt)
    clear xb2
    have xb2:=xb2n
    clear xb2n
    have KP:=jj (show Kept F_w0 W26 W28 from (Kept.of_below (w:=W26) hb28 Y_w0.out))
    have X_w0n:=jj (X_w0.out.mono KP.out (fun x _ cs G hk h=>(fun w w' x cs G hk h=>BdR.mono (w:=w) (w':=w') x cs G hk h) _ _ x cs G hk h))
    have Y_w0n:=jj (Y_w0.out.mono hb28.size)
    have Z_w0n:=jj (Z_w0.out.kept KP.out)
    clear X_w0 Y_w0 KP Z_w0
    have X_w0:=X_w0n
    have Y_w0:=Y_w0n
    have Z_w0:=Z_w0n
    clear X_w0n Y_w0n Z_w0n
    have KP:=jj (show Kept G18 W26 W28 from (Kept.of_below (w:=W26) hb28 Y0.out))
    have X0n:=jj (ArrDt.mono X0.out KP.out)
    have Y0n:=jj (Y0.out.mono hb28.size)
    have Z_x0n:=jj (Z_x0.out.kept KP.out)
    clear X0 Y0 KP Z_x0
    have X0:=X0n
    have Y0:=Y0n
    have Z_x0:=Z_x0n
    clear X0n Y0n Z_x0n
    have KP:=jj (show Kept G21 W26 W28 from (Kept.of_below (w:=W26) hb28 Y2.out))
    have X2n:=jj (PR.mono _ _ _ KP.out X2.out)
    have Y2n:=jj (Y2.out.mono hb28.size)
    have Z_x2n:=jj (Z_x2.out.kept KP.out)
    clear X2 Y2 KP Z_x2
    have X2:=X2n
    have Y2:=Y2n
    have Z_x2:=Z_x2n
    clear X2n Y2n Z_x2n
    have KP:=jj (show Kept G26 W26 W28 from (Kept.of_below (w:=W26) hb28 Y3.out))
    have X3n:=jj (VR.mono _ _ _ KP.out X3.out)
    have Y3n:=jj (Y3.out.mono hb28.size)
    have Z_x3n:=jj (Z_x3.out.kept KP.out)
    clear X3 Y3 KP Z_x3
    have X3:=X3n
    have Y3:=Y3n
    have Z_x3:=Z_x3n
    clear X3n Y3n Z_x3n
    have bx1c0:W28.cell? ⟨w.heap.size,0,none⟩=some (.int .i64 x1.d):=(bx1.out.cell 0).trans (by simp)
    have bx1c1:W28.cell? ⟨w.heap.size,1,none⟩=some (.int .i64 x1.i):=(bx1.out.cell 1).trans (by simp)
    have bx1lt:w.heap.size<W28.heap.size:=bx1.out.lt
    have bx2c0:W28.cell? ⟨w.heap.size+1,0,none⟩=some (.int .i64 x2.op):=(bx2.out.cell 0).trans (by simp)
    have bx2c1:W28.cell? ⟨w.heap.size+1,1,none⟩=some (.int .i64 x2.ct):=(bx2.out.cell 1).trans (by simp)
    have bx2c2:W28.cell? ⟨w.heap.size+1,2,none⟩=some (.int .i64 x2.n):=(bx2.out.cell 2).trans (by simp)
    have bx2c3:W28.cell? ⟨w.heap.size+1,3,none⟩=some (.int .i64 x2.m):=(bx2.out.cell 3).trans (by simp)
    have bx2c4:W28.cell? ⟨w.heap.size+1,4,none⟩=some (.int .i64 x2.va):=(bx2.out.cell 4).trans (by simp)
    have bx2c5:W28.cell? ⟨w.heap.size+1,5,none⟩=some (.slice A2 x2.ks.length cap2):=(bx2.out.cell 5).trans (by simp)
    have bx2lt:w.heap.size+1<W28.heap.size:=bx2.out.lt
    have bx3c0:W28.cell? ⟨w.heap.size+2,0,none⟩=some (.int .i64 x3.c):=(bx3.out.cell 0).trans (by simp)
    have bx3c1:W28.cell? ⟨w.heap.size+2,1,none⟩=some (.int .i64 x3.n):=(bx3.out.cell 1).trans (by simp)
    have bx3c2:W28.cell? ⟨w.heap.size+2,2,none⟩=some (.slice A3 x3.ks.length cap3):=(bx3.out.cell 2).trans (by simp)
    have bx3lt:w.heap.size+2<W28.heap.size:=bx3.out.lt
    have xb2c0:W28.cell? ⟨W21.heap.size,0,none⟩=some (.int .i64 x2.op):=(xb2.out.cell 0).trans (by simp)
    have xb2c1:W28.cell? ⟨W21.heap.size,1,none⟩=some (.int .i64 x2.ct):=(xb2.out.cell 1).trans (by simp)
    have xb2c2:W28.cell? ⟨W21.heap.size,2,none⟩=some (.int .i64 x2.n):=(xb2.out.cell 2).trans (by simp)
    have xb2c3:W28.cell? ⟨W21.heap.size,3,none⟩=some (.int .i64 x2.m):=(xb2.out.cell 3).trans (by simp)
    have xb2c4:W28.cell? ⟨W21.heap.size,4,none⟩=some (.int .i64 x2.va):=(xb2.out.cell 4).trans (by simp)
    have xb2c5:W28.cell? ⟨W21.heap.size,5,none⟩=some (.slice B2 x2.ks.length bap2):=(xb2.out.cell 5).trans (by simp)
    have xb2lt:W21.heap.size<W28.heap.size:=xb2.out.lt
    have xb3c0:W28.cell? ⟨W26.heap.size,0,none⟩=some (.int .i64 x3.c):=(xb3.out.cell 0).trans (by simp)
    have xb3c1:W28.cell? ⟨W26.heap.size,1,none⟩=some (.int .i64 x3.n):=(xb3.out.cell 1).trans (by simp)
    have xb3c2:W28.cell? ⟨W26.heap.size,2,none⟩=some (.slice B3 x3.ks.length bap3):=(xb3.out.cell 2).trans (by simp)
    have xb3lt:W26.heap.size<W28.heap.size:=xb3.out.lt
    go_wp2_with fail
    have SU30_w0:=Y_w0
    have SU30_x0:=Y0
    have SU30_x2:=Y2
    have SU30_x3:=Y3
    have SB30_bx1:=jj bx1.out.lt
    have SB30_bx2:=jj bx2.out.lt
    have SB30_bx3:=jj bx3.out.lt
    have SB30_xb2:=jj xb2.out.lt
    have SB30_xb3:=jj xb3.out.lt
    have hkeep:∀ U U':World,(U.cell? ⟨w.heap.size,0,none⟩=some (.int .i64 x1.d)∧U.cell? ⟨w.heap.size,1,none⟩=some (.int .i64 x1.i)∧U.cell? ⟨W21.heap.size,0,none⟩=some (.int .i64 x2.op)∧U.cell? ⟨W21.heap.size,1,none⟩=some (.int .i64 x2.ct)∧U.cell? ⟨W21.heap.size,2,none⟩=some (.int .i64 x2.n)∧U.cell? ⟨W21.heap.size,3,none⟩=some (.int .i64 x2.m)∧U.cell? ⟨W21.heap.size,4,none⟩=some (.int .i64 x2.va)∧U.cell? ⟨W21.heap.size,5,none⟩=some (.slice B2 x2.ks.length bap2)∧U.cell? ⟨W26.heap.size,0,none⟩=some (.int .i64 x3.c)∧U.cell? ⟨W26.heap.size,1,none⟩=some (.int .i64 x3.n)∧U.cell? ⟨W26.heap.size,2,none⟩=some (.slice B3 x3.ks.length bap3))→Below U.heap.size U U'→W28.heap.size≤U.heap.size→(U'.cell? ⟨w.heap.size,0,none⟩=some (.int .i64 x1.d)∧U'.cell? ⟨w.heap.size,1,none⟩=some (.int .i64 x1.i)∧U'.cell? ⟨W21.heap.size,0,none⟩=some (.int .i64 x2.op)∧U'.cell? ⟨W21.heap.size,1,none⟩=some (.int .i64 x2.ct)∧U'.cell? ⟨W21.heap.size,2,none⟩=some (.int .i64 x2.n)∧U'.cell? ⟨W21.heap.size,3,none⟩=some (.int .i64 x2.m)∧U'.cell? ⟨W21.heap.size,4,none⟩=some (.int .i64 x2.va)∧U'.cell? ⟨W21.heap.size,5,none⟩=some (.slice B2 x2.ks.length bap2)∧U'.cell? ⟨W26.heap.size,0,none⟩=some (.int .i64 x3.c)∧U'.cell? ⟨W26.heap.size,1,none⟩=some (.int .i64 x3.n)∧U'.cell? ⟨W26.heap.size,2,none⟩=some (.slice B3 x3.ks.length bap3)):=fun U U' h hb hU=>⟨(hb.cell (zz9 (bx1lt) hU)).trans h.1,(hb.cell (zz9 (bx1lt) hU)).trans h.2.1,(hb.cell (zz9 (xb2lt) hU)).trans h.2.2.1,(hb.cell (zz9 (xb2lt) hU)).trans h.2.2.2.1,(hb.cell (zz9 (xb2lt) hU)).trans h.2.2.2.2.1,(hb.cell (zz9 (xb2lt) hU)).trans h.2.2.2.2.2.1,(hb.cell (zz9 (xb2lt) hU)).trans h.2.2.2.2.2.2.1,(hb.cell (zz9 (xb2lt) hU)).trans h.2.2.2.2.2.2.2.1,(hb.cell (zz9 (xb3lt) hU)).trans h.2.2.2.2.2.2.2.2.1,(hb.cell (zz9 (xb3lt) hU)).trans h.2.2.2.2.2.2.2.2.2.1,(hb.cell (zz9 (xb3lt) hU)).trans h.2.2.2.2.2.2.2.2.2.2⟩
    have HKeep:=jj hkeep
    clear hkeep
    go_region_held3 (fun w'=>w'.cell? ⟨w.heap.size,0,none⟩=some (.int .i64 x1.d)∧w'.cell? ⟨w.heap.size,1,none⟩=some (.int .i64 x1.i)∧w'.cell? ⟨W21.heap.size,0,none⟩=some (.int .i64 x2.op)∧w'.cell? ⟨W21.heap.size,1,none⟩=some (.int .i64 x2.ct)∧w'.cell? ⟨W21.heap.size,2,none⟩=some (.int .i64 x2.n)∧w'.cell? ⟨W21.heap.size,3,none⟩=some (.int .i64 x2.m)∧w'.cell? ⟨W21.heap.size,4,none⟩=some (.int .i64 x2.va)∧w'.cell? ⟨W21.heap.size,5,none⟩=some (.slice B2 x2.ks.length bap2)∧w'.cell? ⟨W26.heap.size,0,none⟩=some (.int .i64 x3.c)∧w'.cell? ⟨W26.heap.size,1,none⟩=some (.int .i64 x3.n)∧w'.cell? ⟨W26.heap.size,2,none⟩=some (.slice B3 x3.ks.length bap3)) (first | assumption | (exact ⟨bx1c0,bx1c1,xb2c0,xb2c1,xb2c2,xb2c3,xb2c4,xb2c5,xb3c0,xb3c1,xb3c2⟩) | (exact HKeep.out W28.drew W31 ⟨bx1c0,bx1c1,xb2c0,xb2c1,xb2c2,xb2c3,xb2c4,xb2c5,xb3c0,xb3c1,xb3c2⟩ hb31 (zz8 _)) | (exact HKeep.out W31 W32 (by assumption) hb32 hleW31)) (first | (go_at_call 13;((with_reducible refine (toType_any x1 _ _ [] (TyR.mk0 _ x1) (Under.nil _) (Ty.size_le x1)).mono ?_);rintro e W31 ⟨ds31,G31,rfl,hb31,⟨rfl,rfl⟩,hfr31,hfs31⟩);have hB31:=hB29.drew.trans (hb31.mono hB29.drew.size);have hleW31:W28.heap.size≤W31.heap.size:=hb31.size) | (go_at_call 16;((with_reducible refine (match_rw HResb.out (impl_MatchPattern x0 x1 x2 x3 hs2 hs3 _ _ G18 _ G21 _ G26 (ArrDt.below (ArrDt.drew X0.out) hb31 (Under.drew Y0.out)) ((Under.drew Y0.out).mono hb31.size) (X2.out.drew.below hb31 (Under.drew Y2.out)) ((Under.drew Y2.out).mono hb31.size) (X3.out.drew.below hb31 (Under.drew Y3.out)) ((Under.drew Y3.out).mono hb31.size))).mono ?_);rintro e W32 ⟨vr_g0,F_g0,rfl,hb32,ha_g0,hfr_g0,hfs_g0⟩)))
    have hbt33_0:=hb31
    have hbt33_1:=hbt33_0.trans (hb32.mono hbt33_0.size)
    clear bx1c0 bx1c1 bx2c0 bx2c1 bx2c2 bx2c3 bx2c4 bx2c5 bx3c0 bx3c1 bx3c2 xb2c0 xb2c1 xb2c2 xb2c3 xb2c4 xb2c5 xb3c0 xb3c1 xb3c2 bx1lt bx2lt bx3lt xb2lt xb3lt
    have hfz_g0:Fresh W28 W32 F_g0:=fun b hb=>⟨Nat.le_trans hbt33_0.size (hfs_g0 b hb).1,(hfs_g0 b hb).2⟩
    have dj_w0_g0:=jj (fun b (hb:b∈F_w0) (hj:b∈F_g0)=>Nat.lt_irrefl _ (zz9 (SU30_w0.out b hb) (hfz_g0 b hj).1))
    have dj_g0_w0:=jj (fun b (hj:b∈F_g0) (hb:b∈F_w0)=>Nat.lt_irrefl _ (zz9 (SU30_w0.out b hb) (hfz_g0 b hj).1))
    have dj_x0_g0:=jj (fun b (hb:b∈G18) (hj:b∈F_g0)=>Nat.lt_irrefl _ (zz9 (SU30_x0.out b hb) (hfz_g0 b hj).1))
    have dj_g0_x0:=jj (fun b (hj:b∈F_g0) (hb:b∈G18)=>Nat.lt_irrefl _ (zz9 (SU30_x0.out b hb) (hfz_g0 b hj).1))
    have dj_x2_g0:=jj (fun b (hb:b∈G21) (hj:b∈F_g0)=>Nat.lt_irrefl _ (zz9 (SU30_x2.out b hb) (hfz_g0 b hj).1))
    have dj_g0_x2:=jj (fun b (hj:b∈F_g0) (hb:b∈G21)=>Nat.lt_irrefl _ (zz9 (SU30_x2.out b hb) (hfz_g0 b hj).1))
    have dj_x3_g0:=jj (fun b (hb:b∈G26) (hj:b∈F_g0)=>Nat.lt_irrefl _ (zz9 (SU30_x3.out b hb) (hfz_g0 b hj).1))
    have dj_g0_x3:=jj (fun b (hj:b∈F_g0) (hb:b∈G26)=>Nat.lt_irrefl _ (zz9 (SU30_x3.out b hb) (hfz_g0 b hj).1))
    have nb_bx1_g0:=jj (fun (hj:_∈F_g0)=>Nat.lt_irrefl _ (zz9 SB30_bx1.out (hfz_g0 _ hj).1))
    have nb_bx2_g0:=jj (fun (hj:_∈F_g0)=>Nat.lt_irrefl _ (zz9 SB30_bx2.out (hfz_g0 _ hj).1))
    have nb_bx3_g0:=jj (fun (hj:_∈F_g0)=>Nat.lt_irrefl _ (zz9 SB30_bx3.out (hfz_g0 _ hj).1))
    have nb_xb2_g0:=jj (fun (hj:_∈F_g0)=>Nat.lt_irrefl _ (zz9 SB30_xb2.out (hfz_g0 _ hj).1))
    have nb_xb3_g0:=jj (fun (hj:_∈F_g0)=>Nat.lt_irrefl _ (zz9 SB30_xb3.out (hfz_g0 _ hj).1))
    have LB_g0:=jj (fun b (hj:b∈F_g0)=>Nat.le_trans hB29.size (hfz_g0 b hj).1)
    have X_g0:=jj ha_g0
    have Y_g0:=jj hfs_g0.under
    have Z_g0:=jj hfr_g0
    have X_g0:=(show Hid (Arr W32 (BdR W32) r0 vr_g0 F_g0) from by rw [←HRes.out];exact X_g0.out)
    obtain ⟨A_g0,cap_g0,rfl,-,-⟩:=X_g0.out.form
    clear ha_g0 hfr_g0 hfs_g0 hfz_g0
    have hB34:=hB29.drew.trans (hbt33_1.mono hB29.size)
    have bx1n:Hid (Blk W32 (w.heap.size) 24 #[.int .i64 x1.d,.int .i64 x1.i]):=bx1.out.same (hbt33_1.block _ bx1.out.lt)
    clear bx1
    have bx1:=bx1n
    clear bx1n
    have bx2n:Hid (Blk W32 (w.heap.size+1) 27 #[.int .i64 x2.op,.int .i64 x2.ct,.int .i64 x2.n,.int .i64 x2.m,.int .i64 x2.va,.slice A2 x2.ks.length cap2]):=bx2.out.same (hbt33_1.block _ bx2.out.lt)
    clear bx2
    have bx2:=bx2n
    clear bx2n
    have bx3n:Hid (Blk W32 (w.heap.size+2) 30 #[.int .i64 x3.c,.int .i64 x3.n,.slice A3 x3.ks.length cap3]):=bx3.out.same (hbt33_1.block _ bx3.out.lt)
    clear bx3
    have bx3:=bx3n
    clear bx3n
    have xb2n:Hid (Blk W32 (W21.heap.size) 43 #[.int .i64 x2.op,.int .i64 x2.ct,.int .i64 x2.n,.int .i64 x2.m,.int .i64 x2.va,.slice B2 x2.ks.length bap2]):=xb2.out.same (hbt33_1.block _ xb2.out.lt)
    clear xb2
    have xb2:=xb2n
    clear xb2n
    have xb3n:Hid (Blk W32 (W26.heap.size) 47 #[.int .i64 x3.c,.int .i64 x3.n,.slice B3 x3.ks.length bap3]):=xb3.out.same (hbt33_1.block _ xb3.out.lt)
    clear xb3
    have xb3:=xb3n
    clear xb3n
    have KP:=jj (show Kept F_w0 W28 W32 from (Kept.of_below (w:=W28) (zA8 hbt33_1) Y_w0.out))
    have X_w0n:=jj (X_w0.out.mono KP.out (fun x _ cs G hk h=>(fun w w' x cs G hk h=>BdR.mono (w:=w) (w':=w') x cs G hk h) _ _ x cs G hk h))
    have Y_w0n:=jj (Y_w0.out.mono hbt33_1.size)
    have Z_w0n:=jj (Z_w0.out.kept KP.out)
    clear X_w0 Y_w0 KP Z_w0
    have X_w0:=X_w0n
    have Y_w0:=Y_w0n
    have Z_w0:=Z_w0n
    clear X_w0n Y_w0n Z_w0n
    have KP:=jj (show Kept G18 W28 W32 from (Kept.of_below (w:=W28) (zA8 hbt33_1) Y0.out))
    have X0n:=jj (ArrDt.mono X0.out KP.out)
    have Y0n:=jj (Y0.out.mono hbt33_1.size)
    have Z_x0n:=jj (Z_x0.out.kept KP.out)
    clear X0 Y0 KP Z_x0
    have X0:=X0n
    have Y0:=Y0n
    have Z_x0:=Z_x0n
    clear X0n Y0n Z_x0n
    have KP:=jj (show Kept G21 W28 W32 from (Kept.of_below (w:=W28) (zA8 hbt33_1) Y2.out))
    have X2n:=jj (PR.mono _ _ _ KP.out X2.out)
    have Y2n:=jj (Y2.out.mono hbt33_1.size)
    have Z_x2n:=jj (Z_x2.out.kept KP.out)
    clear X2 Y2 KP Z_x2
    have X2:=X2n
    have Y2:=Y2n
    have Z_x2:=Z_x2n
    clear X2n Y2n Z_x2n
    have KP:=jj (show Kept G26 W28 W32 from (Kept.of_below (w:=W28) (zA8 hbt33_1) Y3.out))
    have X3n:=jj (VR.mono _ _ _ KP.out X3.out)
    have Y3n:=jj (Y3.out.mono hbt33_1.size)
    have Z_x3n:=jj (Z_x3.out.kept KP.out)
    clear X3 Y3 KP Z_x3
    have X3:=X3n
    have Y3:=Y3n
    have Z_x3:=Z_x3n
    clear X3n Y3n Z_x3n
    have hne:True:=trivial
    clear hne
    have hneb:(rb != rb)=false:=by simp
    have bx1c0:W32.cell? ⟨w.heap.size,0,none⟩=some (.int .i64 x1.d):=(bx1.out.cell 0).trans (by simp)
    have bx1c1:W32.cell? ⟨w.heap.size,1,none⟩=some (.int .i64 x1.i):=(bx1.out.cell 1).trans (by simp)
    have bx1lt:w.heap.size<W32.heap.size:=bx1.out.lt
    have bx2c0:W32.cell? ⟨w.heap.size+1,0,none⟩=some (.int .i64 x2.op):=(bx2.out.cell 0).trans (by simp)
    have bx2c1:W32.cell? ⟨w.heap.size+1,1,none⟩=some (.int .i64 x2.ct):=(bx2.out.cell 1).trans (by simp)
    have bx2c2:W32.cell? ⟨w.heap.size+1,2,none⟩=some (.int .i64 x2.n):=(bx2.out.cell 2).trans (by simp)
    have bx2c3:W32.cell? ⟨w.heap.size+1,3,none⟩=some (.int .i64 x2.m):=(bx2.out.cell 3).trans (by simp)
    have bx2c4:W32.cell? ⟨w.heap.size+1,4,none⟩=some (.int .i64 x2.va):=(bx2.out.cell 4).trans (by simp)
    have bx2c5:W32.cell? ⟨w.heap.size+1,5,none⟩=some (.slice A2 x2.ks.length cap2):=(bx2.out.cell 5).trans (by simp)
    have bx2lt:w.heap.size+1<W32.heap.size:=bx2.out.lt
    have bx3c0:W32.cell? ⟨w.heap.size+2,0,none⟩=some (.int .i64 x3.c):=(bx3.out.cell 0).trans (by simp)
    have bx3c1:W32.cell? ⟨w.heap.size+2,1,none⟩=some (.int .i64 x3.n):=(bx3.out.cell 1).trans (by simp)
    have bx3c2:W32.cell? ⟨w.heap.size+2,2,none⟩=some (.slice A3 x3.ks.length cap3):=(bx3.out.cell 2).trans (by simp)
    have bx3lt:w.heap.size+2<W32.heap.size:=bx3.out.lt
    have xb2c0:W32.cell? ⟨W21.heap.size,0,none⟩=some (.int .i64 x2.op):=(xb2.out.cell 0).trans (by simp)
    have xb2c1:W32.cell? ⟨W21.heap.size,1,none⟩=some (.int .i64 x2.ct):=(xb2.out.cell 1).trans (by simp)
    have xb2c2:W32.cell? ⟨W21.heap.size,2,none⟩=some (.int .i64 x2.n):=(xb2.out.cell 2).trans (by simp)
    have xb2c3:W32.cell? ⟨W21.heap.size,3,none⟩=some (.int .i64 x2.m):=(xb2.out.cell 3).trans (by simp)
    have xb2c4:W32.cell? ⟨W21.heap.size,4,none⟩=some (.int .i64 x2.va):=(xb2.out.cell 4).trans (by simp)
    have xb2c5:W32.cell? ⟨W21.heap.size,5,none⟩=some (.slice B2 x2.ks.length bap2):=(xb2.out.cell 5).trans (by simp)
    have xb2lt:W21.heap.size<W32.heap.size:=xb2.out.lt
    have xb3c0:W32.cell? ⟨W26.heap.size,0,none⟩=some (.int .i64 x3.c):=(xb3.out.cell 0).trans (by simp)
    have xb3c1:W32.cell? ⟨W26.heap.size,1,none⟩=some (.int .i64 x3.n):=(xb3.out.cell 1).trans (by simp)
    have xb3c2:W32.cell? ⟨W26.heap.size,2,none⟩=some (.slice B3 x3.ks.length bap3):=(xb3.out.cell 2).trans (by simp)
    have xb3lt:W26.heap.size<W32.heap.size:=xb3.out.lt
    go_wp2_with fail
    clear bx1c0 bx1c1 bx2c0 bx2c1 bx2c2 bx2c3 bx2c4 bx2c5 bx3c0 bx3c1 bx3c2 xb2c0 xb2c1 xb2c2 xb2c3 xb2c4 xb2c5 xb3c0 xb3c1 xb3c2 bx1lt bx2lt bx3lt xb2lt xb3lt
    refine (eqBindS_any r0 W32 F_g0 F_w0 _ _ X_g0.out X_w0.out Y_g0.out Y_w0.out).mono ?_
    rintro e W35 ⟨rfl,hb35⟩
    have hB36:=hB34.trans (hb35.mono hB34.size)
    have bx1n:Hid (Blk W35 (w.heap.size) 24 #[.int .i64 x1.d,.int .i64 x1.i]):=bx1.out.same (hb35.block _ bx1.out.lt)
    clear bx1
    have bx1:=bx1n
    clear bx1n
    have bx2n:Hid (Blk W35 (w.heap.size+1) 27 #[.int .i64 x2.op,.int .i64 x2.ct,.int .i64 x2.n,.int .i64 x2.m,.int .i64 x2.va,.slice A2 x2.ks.length cap2]):=bx2.out.same (hb35.block _ bx2.out.lt)
    clear bx2
    have bx2:=bx2n
    clear bx2n
    have bx3n:Hid (Blk W35 (w.heap.size+2) 30 #[.int .i64 x3.c,.int .i64 x3.n,.slice A3 x3.ks.length cap3]):=bx3.out.same (hb35.block _ bx3.out.lt)
    clear bx3
    have bx3:=bx3n
    clear bx3n
    have xb2n:Hid (Blk W35 (W21.heap.size) 43 #[.int .i64 x2.op,.int .i64 x2.ct,.int .i64 x2.n,.int .i64 x2.m,.int .i64 x2.va,.slice B2 x2.ks.length bap2]):=xb2.out.same (hb35.block _ xb2.out.lt)
    clear xb2
    have xb2:=xb2n
    clear xb2n
    have xb3n:Hid (Blk W35 (W26.heap.size) 47 #[.int .i64 x3.c,.int .i64 x3.n,.slice B3 x3.ks.length bap3]):=xb3.out.same (hb35.block _ xb3.out.lt)
    clear xb3
    have xb3:=xb3n
    clear xb3n
    have KP:=jj (show Kept F_w0 W32 W35 from (Kept.of_below (w:=W32) hb35 Y_w0.out))
    have X_w0n:=jj (X_w0.out.mono KP.out (fun x _ cs G hk h=>(fun w w' x cs G hk h=>BdR.mono (w:=w) (w':=w') x cs G hk h) _ _ x cs G hk h))
    have Y_w0n:=jj (Y_w0.out.mono hb35.size)
    have Z_w0n:=jj (Z_w0.out.kept KP.out)
    clear X_w0 Y_w0 KP Z_w0
    have X_w0:=X_w0n
    have Y_w0:=Y_w0n
    have Z_w0:=Z_w0n
    clear X_w0n Y_w0n Z_w0n
    have KP:=jj (show Kept G18 W32 W35 from (Kept.of_below (w:=W32) hb35 Y0.out))
    have X0n:=jj (ArrDt.mono X0.out KP.out)
    have Y0n:=jj (Y0.out.mono hb35.size)
    have Z_x0n:=jj (Z_x0.out.kept KP.out)
    clear X0 Y0 KP Z_x0
    have X0:=X0n
    have Y0:=Y0n
    have Z_x0:=Z_x0n
    clear X0n Y0n Z_x0n
    have KP:=jj (show Kept G21 W32 W35 from (Kept.of_below (w:=W32) hb35 Y2.out))
    have X2n:=jj (PR.mono _ _ _ KP.out X2.out)
    have Y2n:=jj (Y2.out.mono hb35.size)
    have Z_x2n:=jj (Z_x2.out.kept KP.out)
    clear X2 Y2 KP Z_x2
    have X2:=X2n
    have Y2:=Y2n
    have Z_x2:=Z_x2n
    clear X2n Y2n Z_x2n
    have KP:=jj (show Kept G26 W32 W35 from (Kept.of_below (w:=W32) hb35 Y3.out))
    have X3n:=jj (VR.mono _ _ _ KP.out X3.out)
    have Y3n:=jj (Y3.out.mono hb35.size)
    have Z_x3n:=jj (Z_x3.out.kept KP.out)
    clear X3 Y3 KP Z_x3
    have X3:=X3n
    have Y3:=Y3n
    have Z_x3:=Z_x3n
    clear X3n Y3n Z_x3n
    have KP:=jj (show Kept F_g0 W32 W35 from (Kept.of_below (w:=W32) hb35 Y_g0.out))
    have X_g0n:=jj (X_g0.out.mono KP.out (fun x _ cs G hk h=>(fun w w' x cs G hk h=>BdR.mono (w:=w) (w':=w') x cs G hk h) _ _ x cs G hk h))
    have Y_g0n:=jj (Y_g0.out.mono hb35.size)
    have Z_g0n:=jj (Z_g0.out.kept KP.out)
    clear X_g0 Y_g0 KP Z_g0
    have X_g0:=X_g0n
    have Y_g0:=Y_g0n
    have Z_g0:=Z_g0n
    clear X_g0n Y_g0n Z_g0n
    have bx1c0:W35.cell? ⟨w.heap.size,0,none⟩=some (.int .i64 x1.d):=(bx1.out.cell 0).trans (by simp)
    have bx1c1:W35.cell? ⟨w.heap.size,1,none⟩=some (.int .i64 x1.i):=(bx1.out.cell 1).trans (by simp)
    have bx1lt:w.heap.size<W35.heap.size:=bx1.out.lt
    have bx2c0:W35.cell? ⟨w.heap.size+1,0,none⟩=some (.int .i64 x2.op):=(bx2.out.cell 0).trans (by simp)
    have bx2c1:W35.cell? ⟨w.heap.size+1,1,none⟩=some (.int .i64 x2.ct):=(bx2.out.cell 1).trans (by simp)
    have bx2c2:W35.cell? ⟨w.heap.size+1,2,none⟩=some (.int .i64 x2.n):=(bx2.out.cell 2).trans (by simp)
    have bx2c3:W35.cell? ⟨w.heap.size+1,3,none⟩=some (.int .i64 x2.m):=(bx2.out.cell 3).trans (by simp)
    have bx2c4:W35.cell? ⟨w.heap.size+1,4,none⟩=some (.int .i64 x2.va):=(bx2.out.cell 4).trans (by simp)
    have bx2c5:W35.cell? ⟨w.heap.size+1,5,none⟩=some (.slice A2 x2.ks.length cap2):=(bx2.out.cell 5).trans (by simp)
    have bx2lt:w.heap.size+1<W35.heap.size:=bx2.out.lt
    have bx3c0:W35.cell? ⟨w.heap.size+2,0,none⟩=some (.int .i64 x3.c):=(bx3.out.cell 0).trans (by simp)
    have bx3c1:W35.cell? ⟨w.heap.size+2,1,none⟩=some (.int .i64 x3.n):=(bx3.out.cell 1).trans (by simp)
    have bx3c2:W35.cell? ⟨w.heap.size+2,2,none⟩=some (.slice A3 x3.ks.length cap3):=(bx3.out.cell 2).trans (by simp)
    have bx3lt:w.heap.size+2<W35.heap.size:=bx3.out.lt
    have xb2c0:W35.cell? ⟨W21.heap.size,0,none⟩=some (.int .i64 x2.op):=(xb2.out.cell 0).trans (by simp)
    have xb2c1:W35.cell? ⟨W21.heap.size,1,none⟩=some (.int .i64 x2.ct):=(xb2.out.cell 1).trans (by simp)
    have xb2c2:W35.cell? ⟨W21.heap.size,2,none⟩=some (.int .i64 x2.n):=(xb2.out.cell 2).trans (by simp)
    have xb2c3:W35.cell? ⟨W21.heap.size,3,none⟩=some (.int .i64 x2.m):=(xb2.out.cell 3).trans (by simp)
    have xb2c4:W35.cell? ⟨W21.heap.size,4,none⟩=some (.int .i64 x2.va):=(xb2.out.cell 4).trans (by simp)
    have xb2c5:W35.cell? ⟨W21.heap.size,5,none⟩=some (.slice B2 x2.ks.length bap2):=(xb2.out.cell 5).trans (by simp)
    have xb2lt:W21.heap.size<W35.heap.size:=xb2.out.lt
    have xb3c0:W35.cell? ⟨W26.heap.size,0,none⟩=some (.int .i64 x3.c):=(xb3.out.cell 0).trans (by simp)
    have xb3c1:W35.cell? ⟨W26.heap.size,1,none⟩=some (.int .i64 x3.n):=(xb3.out.cell 1).trans (by simp)
    have xb3c2:W35.cell? ⟨W26.heap.size,2,none⟩=some (.slice B3 x3.ks.length bap3):=(xb3.out.cell 2).trans (by simp)
    have xb3lt:W26.heap.size<W35.heap.size:=xb3.out.lt
    go_wp2_with fail
    clear bx1c0 bx1c1 bx2c0 bx2c1 bx2c2 bx2c3 bx2c4 bx2c5 bx3c0 bx3c1 bx3c2 xb2c0 xb2c1 xb2c2 xb2c3 xb2c4 xb2c5 xb3c0 xb3c1 xb3c2 bx1lt bx2lt bx3lt xb2lt xb3lt
    refine (toDataS_any x0 W35 F0 _ (ArrDt.below HR0.out hB36 HU0.out) (HU0.out.mono hB36.size) hs0).mono ?_
    rintro e W37 ⟨y37,G37,rfl,hb37,hv37,hfr37,hfs37⟩
    have hB39:=hB36.trans (hb37.mono hB36.size)
    have bx1n:Hid (Blk W37 (w.heap.size) 24 #[.int .i64 x1.d,.int .i64 x1.i]):=bx1.out.same (hb37.block _ bx1.out.lt)
    clear bx1
    have bx1:=bx1n
    clear bx1n
    have bx2n:Hid (Blk W37 (w.heap.size+1) 27 #[.int .i64 x2.op,.int .i64 x2.ct,.int .i64 x2.n,.int .i64 x2.m,.int .i64 x2.va,.slice A2 x2.ks.length cap2]):=bx2.out.same (hb37.block _ bx2.out.lt)
    clear bx2
    have bx2:=bx2n
    clear bx2n
    have bx3n:Hid (Blk W37 (w.heap.size+2) 30 #[.int .i64 x3.c,.int .i64 x3.n,.slice A3 x3.ks.length cap3]):=bx3.out.same (hb37.block _ bx3.out.lt)
    clear bx3
    have bx3:=bx3n
    clear bx3n
    have xb2n:Hid (Blk W37 (W21.heap.size) 43 #[.int .i64 x2.op,.int .i64 x2.ct,.int .i64 x2.n,.int .i64 x2.m,.int .i64 x2.va,.slice B2 x2.ks.length bap2]):=xb2.out.same (hb37.block _ xb2.out.lt)
    clear xb2
    have xb2:=xb2n
    clear xb2n
    have xb3n:Hid (Blk W37 (W26.heap.size) 47 #[.int .i64 x3.c,.int .i64 x3.n,.slice B3 x3.ks.length bap3]):=xb3.out.same (hb37.block _ xb3.out.lt)
    clear xb3
    have xb3:=xb3n
    clear xb3n
    have KP:=jj (show Kept F_w0 W35 W37 from (Kept.of_below (w:=W35) hb37 Y_w0.out))
    have X_w0n:=jj (X_w0.out.mono KP.out (fun x _ cs G hk h=>(fun w w' x cs G hk h=>BdR.mono (w:=w) (w':=w') x cs G hk h) _ _ x cs G hk h))
    have Y_w0n:=jj (Y_w0.out.mono hb37.size)
    have Z_w0n:=jj (Z_w0.out.kept KP.out)
    clear X_w0 Y_w0 KP Z_w0
    have X_w0:=X_w0n
    have Y_w0:=Y_w0n
    have Z_w0:=Z_w0n
    clear X_w0n Y_w0n Z_w0n
    have KP:=jj (show Kept G18 W35 W37 from (Kept.of_below (w:=W35) hb37 Y0.out))
    have X0n:=jj (ArrDt.mono X0.out KP.out)
    have Y0n:=jj (Y0.out.mono hb37.size)
    have Z_x0n:=jj (Z_x0.out.kept KP.out)
    clear X0 Y0 KP Z_x0
    have X0:=X0n
    have Y0:=Y0n
    have Z_x0:=Z_x0n
    clear X0n Y0n Z_x0n
    have KP:=jj (show Kept G21 W35 W37 from (Kept.of_below (w:=W35) hb37 Y2.out))
    have X2n:=jj (PR.mono _ _ _ KP.out X2.out)
    have Y2n:=jj (Y2.out.mono hb37.size)
    have Z_x2n:=jj (Z_x2.out.kept KP.out)
    clear X2 Y2 KP Z_x2
    have X2:=X2n
    have Y2:=Y2n
    have Z_x2:=Z_x2n
    clear X2n Y2n Z_x2n
    have KP:=jj (show Kept G26 W35 W37 from (Kept.of_below (w:=W35) hb37 Y3.out))
    have X3n:=jj (VR.mono _ _ _ KP.out X3.out)
    have Y3n:=jj (Y3.out.mono hb37.size)
    have Z_x3n:=jj (Z_x3.out.kept KP.out)
    clear X3 Y3 KP Z_x3
    have X3:=X3n
    have Y3:=Y3n
    have Z_x3:=Z_x3n
    clear X3n Y3n Z_x3n
    have KP:=jj (show Kept F_g0 W35 W37 from (Kept.of_below (w:=W35) hb37 Y_g0.out))
    have X_g0n:=jj (X_g0.out.mono KP.out (fun x _ cs G hk h=>(fun w w' x cs G hk h=>BdR.mono (w:=w) (w':=w') x cs G hk h) _ _ x cs G hk h))
    have Y_g0n:=jj (Y_g0.out.mono hb37.size)
    have Z_g0n:=jj (Z_g0.out.kept KP.out)
    clear X_g0 Y_g0 KP Z_g0
    have X_g0:=X_g0n
    have Y_g0:=Y_g0n
    have Z_g0:=Z_g0n
    clear X_g0n Y_g0n Z_g0n
    have bx1c0:W37.cell? ⟨w.heap.size,0,none⟩=some (.int .i64 x1.d):=(bx1.out.cell 0).trans (by simp)
    have bx1c1:W37.cell? ⟨w.heap.size,1,none⟩=some (.int .i64 x1.i):=(bx1.out.cell 1).trans (by simp)
    have bx1lt:w.heap.size<W37.heap.size:=bx1.out.lt
    have bx2c0:W37.cell? ⟨w.heap.size+1,0,none⟩=some (.int .i64 x2.op):=(bx2.out.cell 0).trans (by simp)
    have bx2c1:W37.cell? ⟨w.heap.size+1,1,none⟩=some (.int .i64 x2.ct):=(bx2.out.cell 1).trans (by simp)
    have bx2c2:W37.cell? ⟨w.heap.size+1,2,none⟩=some (.int .i64 x2.n):=(bx2.out.cell 2).trans (by simp)
    have bx2c3:W37.cell? ⟨w.heap.size+1,3,none⟩=some (.int .i64 x2.m):=(bx2.out.cell 3).trans (by simp)
    have bx2c4:W37.cell? ⟨w.heap.size+1,4,none⟩=some (.int .i64 x2.va):=(bx2.out.cell 4).trans (by simp)
    have bx2c5:W37.cell? ⟨w.heap.size+1,5,none⟩=some (.slice A2 x2.ks.length cap2):=(bx2.out.cell 5).trans (by simp)
    have bx2lt:w.heap.size+1<W37.heap.size:=bx2.out.lt
    have bx3c0:W37.cell? ⟨w.heap.size+2,0,none⟩=some (.int .i64 x3.c):=(bx3.out.cell 0).trans (by simp)
    have bx3c1:W37.cell? ⟨w.heap.size+2,1,none⟩=some (.int .i64 x3.n):=(bx3.out.cell 1).trans (by simp)
    have bx3c2:W37.cell? ⟨w.heap.size+2,2,none⟩=some (.slice A3 x3.ks.length cap3):=(bx3.out.cell 2).trans (by simp)
    have bx3lt:w.heap.size+2<W37.heap.size:=bx3.out.lt
    have xb2c0:W37.cell? ⟨W21.heap.size,0,none⟩=some (.int .i64 x2.op):=(xb2.out.cell 0).trans (by simp)
    have xb2c1:W37.cell? ⟨W21.heap.size,1,none⟩=some (.int .i64 x2.ct):=(xb2.out.cell 1).trans (by simp)
    have xb2c2:W37.cell? ⟨W21.heap.size,2,none⟩=some (.int .i64 x2.n):=(xb2.out.cell 2).trans (by simp)
    have xb2c3:W37.cell? ⟨W21.heap.size,3,none⟩=some (.int .i64 x2.m):=(xb2.out.cell 3).trans (by simp)
    have xb2c4:W37.cell? ⟨W21.heap.size,4,none⟩=some (.int .i64 x2.va):=(xb2.out.cell 4).trans (by simp)
    have xb2c5:W37.cell? ⟨W21.heap.size,5,none⟩=some (.slice B2 x2.ks.length bap2):=(xb2.out.cell 5).trans (by simp)
    have xb2lt:W21.heap.size<W37.heap.size:=xb2.out.lt
    have xb3c0:W37.cell? ⟨W26.heap.size,0,none⟩=some (.int .i64 x3.c):=(xb3.out.cell 0).trans (by simp)
    have xb3c1:W37.cell? ⟨W26.heap.size,1,none⟩=some (.int .i64 x3.n):=(xb3.out.cell 1).trans (by simp)
    have xb3c2:W37.cell? ⟨W26.heap.size,2,none⟩=some (.slice B3 x3.ks.length bap3):=(xb3.out.cell 2).trans (by simp)
    have xb3lt:W26.heap.size<W37.heap.size:=xb3.out.lt
    go_wp2_with fail
    clear bx1c0 bx1c1 bx2c0 bx2c1 bx2c2 bx2c3 bx2c4 bx2c5 bx3c0 bx3c1 bx3c2 xb2c0 xb2c1 xb2c2 xb2c3 xb2c4 xb2c5 xb3c0 xb3c1 xb3c2 bx1lt bx2lt bx3lt xb2lt xb3lt
    refine (eqDataS_any x0 W37 G18 G37 _ _ X0.out hv37 Y0.out hfs37.under).mono ?_
    rintro e W38 ⟨rfl,hb38⟩
    have hB40:=hB39.trans (hb38.mono hB39.size)
    have bx1n:Hid (Blk W38 (w.heap.size) 24 #[.int .i64 x1.d,.int .i64 x1.i]):=bx1.out.same (hb38.block _ bx1.out.lt)
    clear bx1
    have bx1:=bx1n
    clear bx1n
    have bx2n:Hid (Blk W38 (w.heap.size+1) 27 #[.int .i64 x2.op,.int .i64 x2.ct,.int .i64 x2.n,.int .i64 x2.m,.int .i64 x2.va,.slice A2 x2.ks.length cap2]):=bx2.out.same (hb38.block _ bx2.out.lt)
    clear bx2
    have bx2:=bx2n
    clear bx2n
    have bx3n:Hid (Blk W38 (w.heap.size+2) 30 #[.int .i64 x3.c,.int .i64 x3.n,.slice A3 x3.ks.length cap3]):=bx3.out.same (hb38.block _ bx3.out.lt)
    clear bx3
    have bx3:=bx3n
    clear bx3n
    have xb2n:Hid (Blk W38 (W21.heap.size) 43 #[.int .i64 x2.op,.int .i64 x2.ct,.int .i64 x2.n,.int .i64 x2.m,.int .i64 x2.va,.slice B2 x2.ks.length bap2]):=xb2.out.same (hb38.block _ xb2.out.lt)
    clear xb2
    have xb2:=xb2n
    clear xb2n
    have xb3n:Hid (Blk W38 (W26.heap.size) 47 #[.int .i64 x3.c,.int .i64 x3.n,.slice B3 x3.ks.length bap3]):=xb3.out.same (hb38.block _ xb3.out.lt)
    clear xb3
    have xb3:=xb3n
    clear xb3n
    have KP:=jj (show Kept F_w0 W37 W38 from (Kept.of_below (w:=W37) hb38 Y_w0.out))
    have X_w0n:=jj (X_w0.out.mono KP.out (fun x _ cs G hk h=>(fun w w' x cs G hk h=>BdR.mono (w:=w) (w':=w') x cs G hk h) _ _ x cs G hk h))
    have Y_w0n:=jj (Y_w0.out.mono hb38.size)
    have Z_w0n:=jj (Z_w0.out.kept KP.out)
    clear X_w0 Y_w0 KP Z_w0
    have X_w0:=X_w0n
    have Y_w0:=Y_w0n
    have Z_w0:=Z_w0n
    clear X_w0n Y_w0n Z_w0n
    have KP:=jj (show Kept G18 W37 W38 from (Kept.of_below (w:=W37) hb38 Y0.out))
    have X0n:=jj (ArrDt.mono X0.out KP.out)
    have Y0n:=jj (Y0.out.mono hb38.size)
    have Z_x0n:=jj (Z_x0.out.kept KP.out)
    clear X0 Y0 KP Z_x0
    have X0:=X0n
    have Y0:=Y0n
    have Z_x0:=Z_x0n
    clear X0n Y0n Z_x0n
    have KP:=jj (show Kept G21 W37 W38 from (Kept.of_below (w:=W37) hb38 Y2.out))
    have X2n:=jj (PR.mono _ _ _ KP.out X2.out)
    have Y2n:=jj (Y2.out.mono hb38.size)
    have Z_x2n:=jj (Z_x2.out.kept KP.out)
    clear X2 Y2 KP Z_x2
    have X2:=X2n
    have Y2:=Y2n
    have Z_x2:=Z_x2n
    clear X2n Y2n Z_x2n
    have KP:=jj (show Kept G26 W37 W38 from (Kept.of_below (w:=W37) hb38 Y3.out))
    have X3n:=jj (VR.mono _ _ _ KP.out X3.out)
    have Y3n:=jj (Y3.out.mono hb38.size)
    have Z_x3n:=jj (Z_x3.out.kept KP.out)
    clear X3 Y3 KP Z_x3
    have X3:=X3n
    have Y3:=Y3n
    have Z_x3:=Z_x3n
    clear X3n Y3n Z_x3n
    have KP:=jj (show Kept F_g0 W37 W38 from (Kept.of_below (w:=W37) hb38 Y_g0.out))
    have X_g0n:=jj (X_g0.out.mono KP.out (fun x _ cs G hk h=>(fun w w' x cs G hk h=>BdR.mono (w:=w) (w':=w') x cs G hk h) _ _ x cs G hk h))
    have Y_g0n:=jj (Y_g0.out.mono hb38.size)
    have Z_g0n:=jj (Z_g0.out.kept KP.out)
    clear X_g0 Y_g0 KP Z_g0
    have X_g0:=X_g0n
    have Y_g0:=Y_g0n
    have Z_g0:=Z_g0n
    clear X_g0n Y_g0n Z_g0n
    have bx1c0:W38.cell? ⟨w.heap.size,0,none⟩=some (.int .i64 x1.d):=(bx1.out.cell 0).trans (by simp)
    have bx1c1:W38.cell? ⟨w.heap.size,1,none⟩=some (.int .i64 x1.i):=(bx1.out.cell 1).trans (by simp)
    have bx1lt:w.heap.size<W38.heap.size:=bx1.out.lt
    have bx2c0:W38.cell? ⟨w.heap.size+1,0,none⟩=some (.int .i64 x2.op):=(bx2.out.cell 0).trans (by simp)
    have bx2c1:W38.cell? ⟨w.heap.size+1,1,none⟩=some (.int .i64 x2.ct):=(bx2.out.cell 1).trans (by simp)
    have bx2c2:W38.cell? ⟨w.heap.size+1,2,none⟩=some (.int .i64 x2.n):=(bx2.out.cell 2).trans (by simp)
    have bx2c3:W38.cell? ⟨w.heap.size+1,3,none⟩=some (.int .i64 x2.m):=(bx2.out.cell 3).trans (by simp)
    have bx2c4:W38.cell? ⟨w.heap.size+1,4,none⟩=some (.int .i64 x2.va):=(bx2.out.cell 4).trans (by simp)
    have bx2c5:W38.cell? ⟨w.heap.size+1,5,none⟩=some (.slice A2 x2.ks.length cap2):=(bx2.out.cell 5).trans (by simp)
    have bx2lt:w.heap.size+1<W38.heap.size:=bx2.out.lt
    have bx3c0:W38.cell? ⟨w.heap.size+2,0,none⟩=some (.int .i64 x3.c):=(bx3.out.cell 0).trans (by simp)
    have bx3c1:W38.cell? ⟨w.heap.size+2,1,none⟩=some (.int .i64 x3.n):=(bx3.out.cell 1).trans (by simp)
    have bx3c2:W38.cell? ⟨w.heap.size+2,2,none⟩=some (.slice A3 x3.ks.length cap3):=(bx3.out.cell 2).trans (by simp)
    have bx3lt:w.heap.size+2<W38.heap.size:=bx3.out.lt
    have xb2c0:W38.cell? ⟨W21.heap.size,0,none⟩=some (.int .i64 x2.op):=(xb2.out.cell 0).trans (by simp)
    have xb2c1:W38.cell? ⟨W21.heap.size,1,none⟩=some (.int .i64 x2.ct):=(xb2.out.cell 1).trans (by simp)
    have xb2c2:W38.cell? ⟨W21.heap.size,2,none⟩=some (.int .i64 x2.n):=(xb2.out.cell 2).trans (by simp)
    have xb2c3:W38.cell? ⟨W21.heap.size,3,none⟩=some (.int .i64 x2.m):=(xb2.out.cell 3).trans (by simp)
    have xb2c4:W38.cell? ⟨W21.heap.size,4,none⟩=some (.int .i64 x2.va):=(xb2.out.cell 4).trans (by simp)
    have xb2c5:W38.cell? ⟨W21.heap.size,5,none⟩=some (.slice B2 x2.ks.length bap2):=(xb2.out.cell 5).trans (by simp)
    have xb2lt:W21.heap.size<W38.heap.size:=xb2.out.lt
    have xb3c0:W38.cell? ⟨W26.heap.size,0,none⟩=some (.int .i64 x3.c):=(xb3.out.cell 0).trans (by simp)
    have xb3c1:W38.cell? ⟨W26.heap.size,1,none⟩=some (.int .i64 x3.n):=(xb3.out.cell 1).trans (by simp)
    have xb3c2:W38.cell? ⟨W26.heap.size,2,none⟩=some (.slice B3 x3.ks.length bap3):=(xb3.out.cell 2).trans (by simp)
    have xb3lt:W26.heap.size<W38.heap.size:=xb3.out.lt
    go_wp2_with fail
    have hkeep:∀ U U':World,(U.cell? ⟨W21.heap.size,0,none⟩=some (.int .i64 x2.op)∧U.cell? ⟨W21.heap.size,1,none⟩=some (.int .i64 x2.ct)∧U.cell? ⟨W21.heap.size,2,none⟩=some (.int .i64 x2.n)∧U.cell? ⟨W21.heap.size,3,none⟩=some (.int .i64 x2.m)∧U.cell? ⟨W21.heap.size,4,none⟩=some (.int .i64 x2.va)∧U.cell? ⟨W21.heap.size,5,none⟩=some (.slice B2 x2.ks.length bap2)∧U.cell? ⟨w.heap.size+1,0,none⟩=some (.int .i64 x2.op)∧U.cell? ⟨w.heap.size+1,1,none⟩=some (.int .i64 x2.ct)∧U.cell? ⟨w.heap.size+1,2,none⟩=some (.int .i64 x2.n)∧U.cell? ⟨w.heap.size+1,3,none⟩=some (.int .i64 x2.m)∧U.cell? ⟨w.heap.size+1,4,none⟩=some (.int .i64 x2.va)∧U.cell? ⟨w.heap.size+1,5,none⟩=some (.slice A2 x2.ks.length cap2))→Below U.heap.size U U'→W38.heap.size≤U.heap.size→(U'.cell? ⟨W21.heap.size,0,none⟩=some (.int .i64 x2.op)∧U'.cell? ⟨W21.heap.size,1,none⟩=some (.int .i64 x2.ct)∧U'.cell? ⟨W21.heap.size,2,none⟩=some (.int .i64 x2.n)∧U'.cell? ⟨W21.heap.size,3,none⟩=some (.int .i64 x2.m)∧U'.cell? ⟨W21.heap.size,4,none⟩=some (.int .i64 x2.va)∧U'.cell? ⟨W21.heap.size,5,none⟩=some (.slice B2 x2.ks.length bap2)∧U'.cell? ⟨w.heap.size+1,0,none⟩=some (.int .i64 x2.op)∧U'.cell? ⟨w.heap.size+1,1,none⟩=some (.int .i64 x2.ct)∧U'.cell? ⟨w.heap.size+1,2,none⟩=some (.int .i64 x2.n)∧U'.cell? ⟨w.heap.size+1,3,none⟩=some (.int .i64 x2.m)∧U'.cell? ⟨w.heap.size+1,4,none⟩=some (.int .i64 x2.va)∧U'.cell? ⟨w.heap.size+1,5,none⟩=some (.slice A2 x2.ks.length cap2)):=fun U U' h hb hU=>⟨(hb.cell (zz9 (xb2lt) hU)).trans h.1,(hb.cell (zz9 (xb2lt) hU)).trans h.2.1,(hb.cell (zz9 (xb2lt) hU)).trans h.2.2.1,(hb.cell (zz9 (xb2lt) hU)).trans h.2.2.2.1,(hb.cell (zz9 (xb2lt) hU)).trans h.2.2.2.2.1,(hb.cell (zz9 (xb2lt) hU)).trans h.2.2.2.2.2.1,(hb.cell (zz9 (bx2lt) hU)).trans h.2.2.2.2.2.2.1,(hb.cell (zz9 (bx2lt) hU)).trans h.2.2.2.2.2.2.2.1,(hb.cell (zz9 (bx2lt) hU)).trans h.2.2.2.2.2.2.2.2.1,(hb.cell (zz9 (bx2lt) hU)).trans h.2.2.2.2.2.2.2.2.2.1,(hb.cell (zz9 (bx2lt) hU)).trans h.2.2.2.2.2.2.2.2.2.2.1,(hb.cell (zz9 (bx2lt) hU)).trans h.2.2.2.2.2.2.2.2.2.2.2⟩
    have HKeep:=jj hkeep
    clear hkeep
    go_region_held3 (fun w'=>w'.cell? ⟨W21.heap.size,0,none⟩=some (.int .i64 x2.op)∧w'.cell? ⟨W21.heap.size,1,none⟩=some (.int .i64 x2.ct)∧w'.cell? ⟨W21.heap.size,2,none⟩=some (.int .i64 x2.n)∧w'.cell? ⟨W21.heap.size,3,none⟩=some (.int .i64 x2.m)∧w'.cell? ⟨W21.heap.size,4,none⟩=some (.int .i64 x2.va)∧w'.cell? ⟨W21.heap.size,5,none⟩=some (.slice B2 x2.ks.length bap2)∧w'.cell? ⟨w.heap.size+1,0,none⟩=some (.int .i64 x2.op)∧w'.cell? ⟨w.heap.size+1,1,none⟩=some (.int .i64 x2.ct)∧w'.cell? ⟨w.heap.size+1,2,none⟩=some (.int .i64 x2.n)∧w'.cell? ⟨w.heap.size+1,3,none⟩=some (.int .i64 x2.m)∧w'.cell? ⟨w.heap.size+1,4,none⟩=some (.int .i64 x2.va)∧w'.cell? ⟨w.heap.size+1,5,none⟩=some (.slice A2 x2.ks.length cap2)) (first | assumption | (exact ⟨xb2c0,xb2c1,xb2c2,xb2c3,xb2c4,xb2c5,bx2c0,bx2c1,bx2c2,bx2c3,bx2c4,bx2c5⟩) | (exact HKeep.out W38.drew W41 ⟨xb2c0,xb2c1,xb2c2,xb2c3,xb2c4,xb2c5,bx2c0,bx2c1,bx2c2,bx2c3,bx2c4,bx2c5⟩ hb41 (zz8 _)) | (exact HKeep.out W41 W42 (by assumption) hb42 hleW41)) (first | (go_at_call 14;((with_reducible refine (toPattern_any x2 _ _ F2 (HR2.out.below hB40.drew HU2.out) (HU2.out.mono hB40.drew.size) hs2).mono ?_);rintro e W41 ⟨ds41,G41,rfl,hb41,hv41,hfr41,hfs41⟩);have hleW41:W38.heap.size≤W41.heap.size:=hb41.size) | (go_at_call 19;((with_reducible refine (eqPattern_any x2 _ _ _ G21 G41 (X2.out.drew.below hb41 (Under.drew Y2.out)) hv41 ((Under.drew Y2.out).mono hb41.size) hfs41.under).mono ?_);rintro e W42 ⟨rfl,hb42⟩)))
    have hbt42:=hb41.trans (hb42.mono hb41.size)
    clear bx1c0 bx1c1 bx2c0 bx2c1 bx2c2 bx2c3 bx2c4 bx2c5 bx3c0 bx3c1 bx3c2 xb2c0 xb2c1 xb2c2 xb2c3 xb2c4 xb2c5 xb3c0 xb3c1 xb3c2 bx1lt bx2lt bx3lt xb2lt xb3lt
    have hB43:=hB40.drew.trans (hbt42.mono hB40.size)
    have bx1n:Hid (Blk W42 (w.heap.size) 24 #[.int .i64 x1.d,.int .i64 x1.i]):=bx1.out.same (hbt42.block _ bx1.out.lt)
    clear bx1
    have bx1:=bx1n
    clear bx1n
    have bx2n:Hid (Blk W42 (w.heap.size+1) 27 #[.int .i64 x2.op,.int .i64 x2.ct,.int .i64 x2.n,.int .i64 x2.m,.int .i64 x2.va,.slice A2 x2.ks.length cap2]):=bx2.out.same (hbt42.block _ bx2.out.lt)
    clear bx2
    have bx2:=bx2n
    clear bx2n
    have bx3n:Hid (Blk W42 (w.heap.size+2) 30 #[.int .i64 x3.c,.int .i64 x3.n,.slice A3 x3.ks.length cap3]):=bx3.out.same (hbt42.block _ bx3.out.lt)
    clear bx3
    have bx3:=bx3n
    clear bx3n
    have xb2n:Hid (Blk W42 (W21.heap.size) 43 #[.int .i64 x2.op,.int .i64 x2.ct,.int .i64 x2.n,.int .i64 x2.m,.int .i64 x2.va,.slice B2 x2.ks.length bap2]):=xb2.out.same (hbt42.block _ xb2.out.lt)
    clear xb2
    have xb2:=xb2n
    clear xb2n
    have xb3n:Hid (Blk W42 (W26.heap.size) 47 #[.int .i64 x3.c,.int .i64 x3.n,.slice B3 x3.ks.length bap3]):=xb3.out.same (hbt42.block _ xb3.out.lt)
    clear xb3
    have xb3:=xb3n
    clear xb3n
    have KP:=jj (show Kept F_w0 W38 W42 from (Kept.of_below (w:=W38) (zA8 hbt42) Y_w0.out))
    have X_w0n:=jj (X_w0.out.mono KP.out (fun x _ cs G hk h=>(fun w w' x cs G hk h=>BdR.mono (w:=w) (w':=w') x cs G hk h) _ _ x cs G hk h))
    have Y_w0n:=jj (Y_w0.out.mono hbt42.size)
    have Z_w0n:=jj (Z_w0.out.kept KP.out)
    clear X_w0 Y_w0 KP Z_w0
    have X_w0:=X_w0n
    have Y_w0:=Y_w0n
    have Z_w0:=Z_w0n
    clear X_w0n Y_w0n Z_w0n
    have KP:=jj (show Kept G18 W38 W42 from (Kept.of_below (w:=W38) (zA8 hbt42) Y0.out))
    have X0n:=jj (ArrDt.mono X0.out KP.out)
    have Y0n:=jj (Y0.out.mono hbt42.size)
    have Z_x0n:=jj (Z_x0.out.kept KP.out)
    clear X0 Y0 KP Z_x0
    have X0:=X0n
    have Y0:=Y0n
    have Z_x0:=Z_x0n
    clear X0n Y0n Z_x0n
    have KP:=jj (show Kept G21 W38 W42 from (Kept.of_below (w:=W38) (zA8 hbt42) Y2.out))
    have X2n:=jj (PR.mono _ _ _ KP.out X2.out)
    have Y2n:=jj (Y2.out.mono hbt42.size)
    have Z_x2n:=jj (Z_x2.out.kept KP.out)
    clear X2 Y2 KP Z_x2
    have X2:=X2n
    have Y2:=Y2n
    have Z_x2:=Z_x2n
    clear X2n Y2n Z_x2n
    have KP:=jj (show Kept G26 W38 W42 from (Kept.of_below (w:=W38) (zA8 hbt42) Y3.out))
    have X3n:=jj (VR.mono _ _ _ KP.out X3.out)
    have Y3n:=jj (Y3.out.mono hbt42.size)
    have Z_x3n:=jj (Z_x3.out.kept KP.out)
    clear X3 Y3 KP Z_x3
    have X3:=X3n
    have Y3:=Y3n
    have Z_x3:=Z_x3n
    clear X3n Y3n Z_x3n
    have KP:=jj (show Kept F_g0 W38 W42 from (Kept.of_below (w:=W38) (zA8 hbt42) Y_g0.out))
    have X_g0n:=jj (X_g0.out.mono KP.out (fun x _ cs G hk h=>(fun w w' x cs G hk h=>BdR.mono (w:=w) (w':=w') x cs G hk h) _ _ x cs G hk h))
    have Y_g0n:=jj (Y_g0.out.mono hbt42.size)
    have Z_g0n:=jj (Z_g0.out.kept KP.out)
    clear X_g0 Y_g0 KP Z_g0
    have X_g0:=X_g0n
    have Y_g0:=Y_g0n
    have Z_g0:=Z_g0n
    clear X_g0n Y_g0n Z_g0n
    have bx1c0:W42.cell? ⟨w.heap.size,0,none⟩=some (.int .i64 x1.d):=(bx1.out.cell 0).trans (by simp)
    have bx1c1:W42.cell? ⟨w.heap.size,1,none⟩=some (.int .i64 x1.i):=(bx1.out.cell 1).trans (by simp)
    have bx1lt:w.heap.size<W42.heap.size:=bx1.out.lt
    have bx2c0:W42.cell? ⟨w.heap.size+1,0,none⟩=some (.int .i64 x2.op):=(bx2.out.cell 0).trans (by simp)
    have bx2c1:W42.cell? ⟨w.heap.size+1,1,none⟩=some (.int .i64 x2.ct):=(bx2.out.cell 1).trans (by simp)
    have bx2c2:W42.cell? ⟨w.heap.size+1,2,none⟩=some (.int .i64 x2.n):=(bx2.out.cell 2).trans (by simp)
    have bx2c3:W42.cell? ⟨w.heap.size+1,3,none⟩=some (.int .i64 x2.m):=(bx2.out.cell 3).trans (by simp)
    have bx2c4:W42.cell? ⟨w.heap.size+1,4,none⟩=some (.int .i64 x2.va):=(bx2.out.cell 4).trans (by simp)
    have bx2c5:W42.cell? ⟨w.heap.size+1,5,none⟩=some (.slice A2 x2.ks.length cap2):=(bx2.out.cell 5).trans (by simp)
    have bx2lt:w.heap.size+1<W42.heap.size:=bx2.out.lt
    have bx3c0:W42.cell? ⟨w.heap.size+2,0,none⟩=some (.int .i64 x3.c):=(bx3.out.cell 0).trans (by simp)
    have bx3c1:W42.cell? ⟨w.heap.size+2,1,none⟩=some (.int .i64 x3.n):=(bx3.out.cell 1).trans (by simp)
    have bx3c2:W42.cell? ⟨w.heap.size+2,2,none⟩=some (.slice A3 x3.ks.length cap3):=(bx3.out.cell 2).trans (by simp)
    have bx3lt:w.heap.size+2<W42.heap.size:=bx3.out.lt
    have xb2c0:W42.cell? ⟨W21.heap.size,0,none⟩=some (.int .i64 x2.op):=(xb2.out.cell 0).trans (by simp)
    have xb2c1:W42.cell? ⟨W21.heap.size,1,none⟩=some (.int .i64 x2.ct):=(xb2.out.cell 1).trans (by simp)
    have xb2c2:W42.cell? ⟨W21.heap.size,2,none⟩=some (.int .i64 x2.n):=(xb2.out.cell 2).trans (by simp)
    have xb2c3:W42.cell? ⟨W21.heap.size,3,none⟩=some (.int .i64 x2.m):=(xb2.out.cell 3).trans (by simp)
    have xb2c4:W42.cell? ⟨W21.heap.size,4,none⟩=some (.int .i64 x2.va):=(xb2.out.cell 4).trans (by simp)
    have xb2c5:W42.cell? ⟨W21.heap.size,5,none⟩=some (.slice B2 x2.ks.length bap2):=(xb2.out.cell 5).trans (by simp)
    have xb2lt:W21.heap.size<W42.heap.size:=xb2.out.lt
    have xb3c0:W42.cell? ⟨W26.heap.size,0,none⟩=some (.int .i64 x3.c):=(xb3.out.cell 0).trans (by simp)
    have xb3c1:W42.cell? ⟨W26.heap.size,1,none⟩=some (.int .i64 x3.n):=(xb3.out.cell 1).trans (by simp)
    have xb3c2:W42.cell? ⟨W26.heap.size,2,none⟩=some (.slice B3 x3.ks.length bap3):=(xb3.out.cell 2).trans (by simp)
    have xb3lt:W26.heap.size<W42.heap.size:=xb3.out.lt
    go_wp2_with fail
    have hkeep:∀ U U':World,(U.cell? ⟨W26.heap.size,0,none⟩=some (.int .i64 x3.c)∧U.cell? ⟨W26.heap.size,1,none⟩=some (.int .i64 x3.n)∧U.cell? ⟨W26.heap.size,2,none⟩=some (.slice B3 x3.ks.length bap3)∧U.cell? ⟨w.heap.size+2,0,none⟩=some (.int .i64 x3.c)∧U.cell? ⟨w.heap.size+2,1,none⟩=some (.int .i64 x3.n)∧U.cell? ⟨w.heap.size+2,2,none⟩=some (.slice A3 x3.ks.length cap3))→Below U.heap.size U U'→W42.heap.size≤U.heap.size→(U'.cell? ⟨W26.heap.size,0,none⟩=some (.int .i64 x3.c)∧U'.cell? ⟨W26.heap.size,1,none⟩=some (.int .i64 x3.n)∧U'.cell? ⟨W26.heap.size,2,none⟩=some (.slice B3 x3.ks.length bap3)∧U'.cell? ⟨w.heap.size+2,0,none⟩=some (.int .i64 x3.c)∧U'.cell? ⟨w.heap.size+2,1,none⟩=some (.int .i64 x3.n)∧U'.cell? ⟨w.heap.size+2,2,none⟩=some (.slice A3 x3.ks.length cap3)):=fun U U' h hb hU=>⟨(hb.cell (zz9 (xb3lt) hU)).trans h.1,(hb.cell (zz9 (xb3lt) hU)).trans h.2.1,(hb.cell (zz9 (xb3lt) hU)).trans h.2.2.1,(hb.cell (zz9 (bx3lt) hU)).trans h.2.2.2.1,(hb.cell (zz9 (bx3lt) hU)).trans h.2.2.2.2.1,(hb.cell (zz9 (bx3lt) hU)).trans h.2.2.2.2.2⟩
    have HKeep:=jj hkeep
    clear hkeep
    go_region_held3 (fun w'=>w'.cell? ⟨W26.heap.size,0,none⟩=some (.int .i64 x3.c)∧w'.cell? ⟨W26.heap.size,1,none⟩=some (.int .i64 x3.n)∧w'.cell? ⟨W26.heap.size,2,none⟩=some (.slice B3 x3.ks.length bap3)∧w'.cell? ⟨w.heap.size+2,0,none⟩=some (.int .i64 x3.c)∧w'.cell? ⟨w.heap.size+2,1,none⟩=some (.int .i64 x3.n)∧w'.cell? ⟨w.heap.size+2,2,none⟩=some (.slice A3 x3.ks.length cap3)) (first | assumption | (exact ⟨xb3c0,xb3c1,xb3c2,bx3c0,bx3c1,bx3c2⟩) | (exact HKeep.out W42.drew W44 ⟨xb3c0,xb3c1,xb3c2,bx3c0,bx3c1,bx3c2⟩ hb44 (zz8 _)) | (exact HKeep.out W44 W45 (by assumption) hb45 hleW44)) (first | (go_at_call 15;((with_reducible refine (toValue_any x3 _ _ F3 (HR3.out.below hB43.drew HU3.out) (HU3.out.mono hB43.drew.size) hs3).mono ?_);rintro e W44 ⟨ds44,G44,rfl,hb44,hv44,hfr44,hfs44⟩);have hleW44:W42.heap.size≤W44.heap.size:=hb44.size) | (go_at_call 20;((with_reducible refine (eqValue_any x3 _ _ _ G26 G44 (X3.out.drew.below hb44 (Under.drew Y3.out)) hv44 ((Under.drew Y3.out).mono hb44.size) hfs44.under).mono ?_);rintro e W45 ⟨rfl,hb45⟩)))
    have hbt45:=hb44.trans (hb45.mono hb44.size)
    clear bx1c0 bx1c1 bx2c0 bx2c1 bx2c2 bx2c3 bx2c4 bx2c5 bx3c0 bx3c1 bx3c2 xb2c0 xb2c1 xb2c2 xb2c3 xb2c4 xb2c5 xb3c0 xb3c1 xb3c2 bx1lt bx2lt bx3lt xb2lt xb3lt
    have hB46:=hB43.drew.trans (hbt45.mono hB43.size)
    have bx1n:Hid (Blk W45 (w.heap.size) 24 #[.int .i64 x1.d,.int .i64 x1.i]):=bx1.out.same (hbt45.block _ bx1.out.lt)
    clear bx1
    have bx1:=bx1n
    clear bx1n
    have bx2n:Hid (Blk W45 (w.heap.size+1) 27 #[.int .i64 x2.op,.int .i64 x2.ct,.int .i64 x2.n,.int .i64 x2.m,.int .i64 x2.va,.slice A2 x2.ks.length cap2]):=bx2.out.same (hbt45.block _ bx2.out.lt)
    clear bx2
    have bx2:=bx2n
    clear bx2n
    have bx3n:Hid (Blk W45 (w.heap.size+2) 30 #[.int .i64 x3.c,.int .i64 x3.n,.slice A3 x3.ks.length cap3]):=bx3.out.same (hbt45.block _ bx3.out.lt)
    clear bx3
    have bx3:=bx3n
    clear bx3n
    have xb2n:Hid (Blk W45 (W21.heap.size) 43 #[.int .i64 x2.op,.int .i64 x2.ct,.int .i64 x2.n,.int .i64 x2.m,.int .i64 x2.va,.slice B2 x2.ks.length bap2]):=xb2.out.same (hbt45.block _ xb2.out.lt)
    clear xb2
    have xb2:=xb2n
    clear xb2n
    have xb3n:Hid (Blk W45 (W26.heap.size) 47 #[.int .i64 x3.c,.int .i64 x3.n,.slice B3 x3.ks.length bap3]):=xb3.out.same (hbt45.block _ xb3.out.lt)
    clear xb3
    have xb3:=xb3n
    clear xb3n
    have KP:=jj (show Kept F_w0 W42 W45 from (Kept.of_below (w:=W42) (zA8 hbt45) Y_w0.out))
    have X_w0n:=jj (X_w0.out.mono KP.out (fun x _ cs G hk h=>(fun w w' x cs G hk h=>BdR.mono (w:=w) (w':=w') x cs G hk h) _ _ x cs G hk h))
    have Y_w0n:=jj (Y_w0.out.mono hbt45.size)
    have Z_w0n:=jj (Z_w0.out.kept KP.out)
    clear X_w0 Y_w0 KP Z_w0
    have X_w0:=X_w0n
    have Y_w0:=Y_w0n
    have Z_w0:=Z_w0n
    clear X_w0n Y_w0n Z_w0n
    have KP:=jj (show Kept G18 W42 W45 from (Kept.of_below (w:=W42) (zA8 hbt45) Y0.out))
    have X0n:=jj (ArrDt.mono X0.out KP.out)
    have Y0n:=jj (Y0.out.mono hbt45.size)
    have Z_x0n:=jj (Z_x0.out.kept KP.out)
    clear X0 Y0 KP Z_x0
    have X0:=X0n
    have Y0:=Y0n
    have Z_x0:=Z_x0n
    clear X0n Y0n Z_x0n
    have KP:=jj (show Kept G21 W42 W45 from (Kept.of_below (w:=W42) (zA8 hbt45) Y2.out))
    have X2n:=jj (PR.mono _ _ _ KP.out X2.out)
    have Y2n:=jj (Y2.out.mono hbt45.size)
    have Z_x2n:=jj (Z_x2.out.kept KP.out)
    clear X2 Y2 KP Z_x2
    have X2:=X2n
    have Y2:=Y2n
    have Z_x2:=Z_x2n
    clear X2n Y2n Z_x2n
    have KP:=jj (show Kept G26 W42 W45 from (Kept.of_below (w:=W42) (zA8 hbt45) Y3.out))
    have X3n:=jj (VR.mono _ _ _ KP.out X3.out)
    have Y3n:=jj (Y3.out.mono hbt45.size)
    have Z_x3n:=jj (Z_x3.out.kept KP.out)
    clear X3 Y3 KP Z_x3
    have X3:=X3n
    have Y3:=Y3n
    have Z_x3:=Z_x3n
    clear X3n Y3n Z_x3n
    have KP:=jj (show Kept F_g0 W42 W45 from (Kept.of_below (w:=W42) (zA8 hbt45) Y_g0.out))
    have X_g0n:=jj (X_g0.out.mono KP.out (fun x _ cs G hk h=>(fun w w' x cs G hk h=>BdR.mono (w:=w) (w':=w') x cs G hk h) _ _ x cs G hk h))
    have Y_g0n:=jj (Y_g0.out.mono hbt45.size)
    have Z_g0n:=jj (Z_g0.out.kept KP.out)
    clear X_g0 Y_g0 KP Z_g0
    have X_g0:=X_g0n
    have Y_g0:=Y_g0n
    have Z_g0:=Z_g0n
    clear X_g0n Y_g0n Z_g0n
    have bx1c0:W45.cell? ⟨w.heap.size,0,none⟩=some (.int .i64 x1.d):=(bx1.out.cell 0).trans (by simp)
    have bx1c1:W45.cell? ⟨w.heap.size,1,none⟩=some (.int .i64 x1.i):=(bx1.out.cell 1).trans (by simp)
    have bx1lt:w.heap.size<W45.heap.size:=bx1.out.lt
    have bx2c0:W45.cell? ⟨w.heap.size+1,0,none⟩=some (.int .i64 x2.op):=(bx2.out.cell 0).trans (by simp)
    have bx2c1:W45.cell? ⟨w.heap.size+1,1,none⟩=some (.int .i64 x2.ct):=(bx2.out.cell 1).trans (by simp)
    have bx2c2:W45.cell? ⟨w.heap.size+1,2,none⟩=some (.int .i64 x2.n):=(bx2.out.cell 2).trans (by simp)
    have bx2c3:W45.cell? ⟨w.heap.size+1,3,none⟩=some (.int .i64 x2.m):=(bx2.out.cell 3).trans (by simp)
    have bx2c4:W45.cell? ⟨w.heap.size+1,4,none⟩=some (.int .i64 x2.va):=(bx2.out.cell 4).trans (by simp)
    have bx2c5:W45.cell? ⟨w.heap.size+1,5,none⟩=some (.slice A2 x2.ks.length cap2):=(bx2.out.cell 5).trans (by simp)
    have bx2lt:w.heap.size+1<W45.heap.size:=bx2.out.lt
    have bx3c0:W45.cell? ⟨w.heap.size+2,0,none⟩=some (.int .i64 x3.c):=(bx3.out.cell 0).trans (by simp)
    have bx3c1:W45.cell? ⟨w.heap.size+2,1,none⟩=some (.int .i64 x3.n):=(bx3.out.cell 1).trans (by simp)
    have bx3c2:W45.cell? ⟨w.heap.size+2,2,none⟩=some (.slice A3 x3.ks.length cap3):=(bx3.out.cell 2).trans (by simp)
    have bx3lt:w.heap.size+2<W45.heap.size:=bx3.out.lt
    have xb2c0:W45.cell? ⟨W21.heap.size,0,none⟩=some (.int .i64 x2.op):=(xb2.out.cell 0).trans (by simp)
    have xb2c1:W45.cell? ⟨W21.heap.size,1,none⟩=some (.int .i64 x2.ct):=(xb2.out.cell 1).trans (by simp)
    have xb2c2:W45.cell? ⟨W21.heap.size,2,none⟩=some (.int .i64 x2.n):=(xb2.out.cell 2).trans (by simp)
    have xb2c3:W45.cell? ⟨W21.heap.size,3,none⟩=some (.int .i64 x2.m):=(xb2.out.cell 3).trans (by simp)
    have xb2c4:W45.cell? ⟨W21.heap.size,4,none⟩=some (.int .i64 x2.va):=(xb2.out.cell 4).trans (by simp)
    have xb2c5:W45.cell? ⟨W21.heap.size,5,none⟩=some (.slice B2 x2.ks.length bap2):=(xb2.out.cell 5).trans (by simp)
    have xb2lt:W21.heap.size<W45.heap.size:=xb2.out.lt
    have xb3c0:W45.cell? ⟨W26.heap.size,0,none⟩=some (.int .i64 x3.c):=(xb3.out.cell 0).trans (by simp)
    have xb3c1:W45.cell? ⟨W26.heap.size,1,none⟩=some (.int .i64 x3.n):=(xb3.out.cell 1).trans (by simp)
    have xb3c2:W45.cell? ⟨W26.heap.size,2,none⟩=some (.slice B3 x3.ks.length bap3):=(xb3.out.cell 2).trans (by simp)
    have xb3lt:W26.heap.size<W45.heap.size:=xb3.out.lt
    go_wp2_with fail
    clear bx1c0 bx1c1 bx2c0 bx2c1 bx2c2 bx2c3 bx2c4 bx2c5 bx3c0 bx3c1 bx3c2 xb2c0 xb2c1 xb2c2 xb2c3 xb2c4 xb2c5 xb3c0 xb3c1 xb3c2 bx1lt bx2lt bx3lt xb2lt xb3lt
    have hcn0:sumBy cntDt x0≤16777216:=by have:=cntsDt_le x0;omega
    refine (markDataS_any x0 W45 _ G18 (1) (by omega) (by omega) X0.out Z_x0.out Y0.out).mono ?_
    rintro e W47 ⟨rfl,hg47,hm47,hfr47⟩
    clear hm47 hfr47
    have hB48:=hB46.trans (hg47.below LB_x0.out hB46.size)
    have bx1n:Hid (Blk W47 (w.heap.size) 24 #[.int .i64 x1.d,.int .i64 x1.i]):=bx1.out.same (hg47.block _ bx1.out.lt nb_bx1_x0.out)
    clear bx1
    have bx1:=bx1n
    clear bx1n
    have bx2n:Hid (Blk W47 (w.heap.size+1) 27 #[.int .i64 x2.op,.int .i64 x2.ct,.int .i64 x2.n,.int .i64 x2.m,.int .i64 x2.va,.slice A2 x2.ks.length cap2]):=bx2.out.same (hg47.block _ bx2.out.lt nb_bx2_x0.out)
    clear bx2
    have bx2:=bx2n
    clear bx2n
    have bx3n:Hid (Blk W47 (w.heap.size+2) 30 #[.int .i64 x3.c,.int .i64 x3.n,.slice A3 x3.ks.length cap3]):=bx3.out.same (hg47.block _ bx3.out.lt nb_bx3_x0.out)
    clear bx3
    have bx3:=bx3n
    clear bx3n
    have xb2n:Hid (Blk W47 (W21.heap.size) 43 #[.int .i64 x2.op,.int .i64 x2.ct,.int .i64 x2.n,.int .i64 x2.m,.int .i64 x2.va,.slice B2 x2.ks.length bap2]):=xb2.out.same (hg47.block _ xb2.out.lt nb_xb2_x0.out)
    clear xb2
    have xb2:=xb2n
    clear xb2n
    have xb3n:Hid (Blk W47 (W26.heap.size) 47 #[.int .i64 x3.c,.int .i64 x3.n,.slice B3 x3.ks.length bap3]):=xb3.out.same (hg47.block _ xb3.out.lt nb_xb3_x0.out)
    clear xb3
    have xb3:=xb3n
    clear xb3n
    have KP:=jj (show Kept F_w0 W45 W47 from (hg47.kept Y_w0.out dj_w0_x0.out))
    have X_w0n:=jj (X_w0.out.mono KP.out (fun x _ cs G hk h=>(fun w w' x cs G hk h=>BdR.mono (w:=w) (w':=w') x cs G hk h) _ _ x cs G hk h))
    have Y_w0n:=jj (Y_w0.out.mono hg47.size)
    have Z_w0n:=jj (Z_w0.out.kept KP.out)
    clear X_w0 Y_w0 KP Z_w0
    have X_w0:=X_w0n
    have Y_w0:=Y_w0n
    have Z_w0:=Z_w0n
    clear X_w0n Y_w0n Z_w0n
    have KP:=jj (show Kept G21 W45 W47 from (hg47.kept Y2.out dj_x2_x0.out))
    have X2n:=jj (PR.mono _ _ _ KP.out X2.out)
    have Y2n:=jj (Y2.out.mono hg47.size)
    have Z_x2n:=jj (Z_x2.out.kept KP.out)
    clear X2 Y2 KP Z_x2
    have X2:=X2n
    have Y2:=Y2n
    have Z_x2:=Z_x2n
    clear X2n Y2n Z_x2n
    have KP:=jj (show Kept G26 W45 W47 from (hg47.kept Y3.out dj_x3_x0.out))
    have X3n:=jj (VR.mono _ _ _ KP.out X3.out)
    have Y3n:=jj (Y3.out.mono hg47.size)
    have Z_x3n:=jj (Z_x3.out.kept KP.out)
    clear X3 Y3 KP Z_x3
    have X3:=X3n
    have Y3:=Y3n
    have Z_x3:=Z_x3n
    clear X3n Y3n Z_x3n
    have KP:=jj (show Kept F_g0 W45 W47 from (hg47.kept Y_g0.out dj_g0_x0.out))
    have X_g0n:=jj (X_g0.out.mono KP.out (fun x _ cs G hk h=>(fun w w' x cs G hk h=>BdR.mono (w:=w) (w':=w') x cs G hk h) _ _ x cs G hk h))
    have Y_g0n:=jj (Y_g0.out.mono hg47.size)
    have Z_g0n:=jj (Z_g0.out.kept KP.out)
    clear X_g0 Y_g0 KP Z_g0
    have X_g0:=X_g0n
    have Y_g0:=Y_g0n
    have Z_g0:=Z_g0n
    clear X_g0n Y_g0n Z_g0n
    generalize hkk0:sumBy cntDt x0=kk0 at *
    clear hkk0
    have bx1c0:W47.cell? ⟨w.heap.size,0,none⟩=some (.int .i64 x1.d):=(bx1.out.cell 0).trans (by simp)
    have bx1c1:W47.cell? ⟨w.heap.size,1,none⟩=some (.int .i64 x1.i):=(bx1.out.cell 1).trans (by simp)
    have bx1lt:w.heap.size<W47.heap.size:=bx1.out.lt
    have bx2c0:W47.cell? ⟨w.heap.size+1,0,none⟩=some (.int .i64 x2.op):=(bx2.out.cell 0).trans (by simp)
    have bx2c1:W47.cell? ⟨w.heap.size+1,1,none⟩=some (.int .i64 x2.ct):=(bx2.out.cell 1).trans (by simp)
    have bx2c2:W47.cell? ⟨w.heap.size+1,2,none⟩=some (.int .i64 x2.n):=(bx2.out.cell 2).trans (by simp)
    have bx2c3:W47.cell? ⟨w.heap.size+1,3,none⟩=some (.int .i64 x2.m):=(bx2.out.cell 3).trans (by simp)
    have bx2c4:W47.cell? ⟨w.heap.size+1,4,none⟩=some (.int .i64 x2.va):=(bx2.out.cell 4).trans (by simp)
    have bx2c5:W47.cell? ⟨w.heap.size+1,5,none⟩=some (.slice A2 x2.ks.length cap2):=(bx2.out.cell 5).trans (by simp)
    have bx2lt:w.heap.size+1<W47.heap.size:=bx2.out.lt
    have bx3c0:W47.cell? ⟨w.heap.size+2,0,none⟩=some (.int .i64 x3.c):=(bx3.out.cell 0).trans (by simp)
    have bx3c1:W47.cell? ⟨w.heap.size+2,1,none⟩=some (.int .i64 x3.n):=(bx3.out.cell 1).trans (by simp)
    have bx3c2:W47.cell? ⟨w.heap.size+2,2,none⟩=some (.slice A3 x3.ks.length cap3):=(bx3.out.cell 2).trans (by simp)
    have bx3lt:w.heap.size+2<W47.heap.size:=bx3.out.lt
    have xb2c0:W47.cell? ⟨W21.heap.size,0,none⟩=some (.int .i64 x2.op):=(xb2.out.cell 0).trans (by simp)
    have xb2c1:W47.cell? ⟨W21.heap.size,1,none⟩=some (.int .i64 x2.ct):=(xb2.out.cell 1).trans (by simp)
    have xb2c2:W47.cell? ⟨W21.heap.size,2,none⟩=some (.int .i64 x2.n):=(xb2.out.cell 2).trans (by simp)
    have xb2c3:W47.cell? ⟨W21.heap.size,3,none⟩=some (.int .i64 x2.m):=(xb2.out.cell 3).trans (by simp)
    have xb2c4:W47.cell? ⟨W21.heap.size,4,none⟩=some (.int .i64 x2.va):=(xb2.out.cell 4).trans (by simp)
    have xb2c5:W47.cell? ⟨W21.heap.size,5,none⟩=some (.slice B2 x2.ks.length bap2):=(xb2.out.cell 5).trans (by simp)
    have xb2lt:W21.heap.size<W47.heap.size:=xb2.out.lt
    have xb3c0:W47.cell? ⟨W26.heap.size,0,none⟩=some (.int .i64 x3.c):=(xb3.out.cell 0).trans (by simp)
    have xb3c1:W47.cell? ⟨W26.heap.size,1,none⟩=some (.int .i64 x3.n):=(xb3.out.cell 1).trans (by simp)
    have xb3c2:W47.cell? ⟨W26.heap.size,2,none⟩=some (.slice B3 x3.ks.length bap3):=(xb3.out.cell 2).trans (by simp)
    have xb3lt:W26.heap.size<W47.heap.size:=xb3.out.lt
    go_wp2_with fail
    clear bx1c0 bx1c1 bx2c0 bx2c1 bx2c2 bx2c3 bx2c4 bx2c5 bx3c0 bx3c1 bx3c2 xb2c0 xb2c1 xb2c2 xb2c3 xb2c4 xb2c5 xb3c0 xb3c1 xb3c2 bx1lt bx2lt bx3lt xb2lt xb3lt
    have hcn2:sumBy cntP x2.ks≤16777216:=by have h1:=cntsP_le x2.ks;have h2:=P.size_sizes x2;omega
    refine (markPattern_any x2 W47 _ G21 (1+(kk0:Int)) (by omega) (by omega) X2.out Z_x2.out Y2.out).mono ?_
    rintro e W49 ⟨rfl,hg49,hm49,hfr49⟩
    clear hm49 hfr49
    have hB50:=hB48.trans (hg49.below LB_x2.out hB48.size)
    have bx1n:Hid (Blk W49 (w.heap.size) 24 #[.int .i64 x1.d,.int .i64 x1.i]):=bx1.out.same (hg49.block _ bx1.out.lt nb_bx1_x2.out)
    clear bx1
    have bx1:=bx1n
    clear bx1n
    have bx2n:Hid (Blk W49 (w.heap.size+1) 27 #[.int .i64 x2.op,.int .i64 x2.ct,.int .i64 x2.n,.int .i64 x2.m,.int .i64 x2.va,.slice A2 x2.ks.length cap2]):=bx2.out.same (hg49.block _ bx2.out.lt nb_bx2_x2.out)
    clear bx2
    have bx2:=bx2n
    clear bx2n
    have bx3n:Hid (Blk W49 (w.heap.size+2) 30 #[.int .i64 x3.c,.int .i64 x3.n,.slice A3 x3.ks.length cap3]):=bx3.out.same (hg49.block _ bx3.out.lt nb_bx3_x2.out)
    clear bx3
    have bx3:=bx3n
    clear bx3n
    have xb2n:Hid (Blk W49 (W21.heap.size) 43 #[.int .i64 x2.op,.int .i64 x2.ct,.int .i64 x2.n,.int .i64 x2.m,.int .i64 x2.va,.slice B2 x2.ks.length bap2]):=xb2.out.same (hg49.block _ xb2.out.lt nb_xb2_x2.out)
    clear xb2
    have xb2:=xb2n
    clear xb2n
    have xb3n:Hid (Blk W49 (W26.heap.size) 47 #[.int .i64 x3.c,.int .i64 x3.n,.slice B3 x3.ks.length bap3]):=xb3.out.same (hg49.block _ xb3.out.lt nb_xb3_x2.out)
    clear xb3
    have xb3:=xb3n
    clear xb3n
    have KP:=jj (show Kept F_w0 W47 W49 from (hg49.kept Y_w0.out dj_w0_x2.out))
    have X_w0n:=jj (X_w0.out.mono KP.out (fun x _ cs G hk h=>(fun w w' x cs G hk h=>BdR.mono (w:=w) (w':=w') x cs G hk h) _ _ x cs G hk h))
    have Y_w0n:=jj (Y_w0.out.mono hg49.size)
    have Z_w0n:=jj (Z_w0.out.kept KP.out)
    clear X_w0 Y_w0 KP Z_w0
    have X_w0:=X_w0n
    have Y_w0:=Y_w0n
    have Z_w0:=Z_w0n
    clear X_w0n Y_w0n Z_w0n
    have KP:=jj (show Kept G26 W47 W49 from (hg49.kept Y3.out dj_x3_x2.out))
    have X3n:=jj (VR.mono _ _ _ KP.out X3.out)
    have Y3n:=jj (Y3.out.mono hg49.size)
    have Z_x3n:=jj (Z_x3.out.kept KP.out)
    clear X3 Y3 KP Z_x3
    have X3:=X3n
    have Y3:=Y3n
    have Z_x3:=Z_x3n
    clear X3n Y3n Z_x3n
    have KP:=jj (show Kept F_g0 W47 W49 from (hg49.kept Y_g0.out dj_g0_x2.out))
    have X_g0n:=jj (X_g0.out.mono KP.out (fun x _ cs G hk h=>(fun w w' x cs G hk h=>BdR.mono (w:=w) (w':=w') x cs G hk h) _ _ x cs G hk h))
    have Y_g0n:=jj (Y_g0.out.mono hg49.size)
    have Z_g0n:=jj (Z_g0.out.kept KP.out)
    clear X_g0 Y_g0 KP Z_g0
    have X_g0:=X_g0n
    have Y_g0:=Y_g0n
    have Z_g0:=Z_g0n
    clear X_g0n Y_g0n Z_g0n
    generalize hkk2:sumBy cntP x2.ks=kk2 at *
    clear hkk2
    have bx1c0:W49.cell? ⟨w.heap.size,0,none⟩=some (.int .i64 x1.d):=(bx1.out.cell 0).trans (by simp)
    have bx1c1:W49.cell? ⟨w.heap.size,1,none⟩=some (.int .i64 x1.i):=(bx1.out.cell 1).trans (by simp)
    have bx1lt:w.heap.size<W49.heap.size:=bx1.out.lt
    have bx2c0:W49.cell? ⟨w.heap.size+1,0,none⟩=some (.int .i64 x2.op):=(bx2.out.cell 0).trans (by simp)
    have bx2c1:W49.cell? ⟨w.heap.size+1,1,none⟩=some (.int .i64 x2.ct):=(bx2.out.cell 1).trans (by simp)
    have bx2c2:W49.cell? ⟨w.heap.size+1,2,none⟩=some (.int .i64 x2.n):=(bx2.out.cell 2).trans (by simp)
    have bx2c3:W49.cell? ⟨w.heap.size+1,3,none⟩=some (.int .i64 x2.m):=(bx2.out.cell 3).trans (by simp)
    have bx2c4:W49.cell? ⟨w.heap.size+1,4,none⟩=some (.int .i64 x2.va):=(bx2.out.cell 4).trans (by simp)
    have bx2c5:W49.cell? ⟨w.heap.size+1,5,none⟩=some (.slice A2 x2.ks.length cap2):=(bx2.out.cell 5).trans (by simp)
    have bx2lt:w.heap.size+1<W49.heap.size:=bx2.out.lt
    have bx3c0:W49.cell? ⟨w.heap.size+2,0,none⟩=some (.int .i64 x3.c):=(bx3.out.cell 0).trans (by simp)
    have bx3c1:W49.cell? ⟨w.heap.size+2,1,none⟩=some (.int .i64 x3.n):=(bx3.out.cell 1).trans (by simp)
    have bx3c2:W49.cell? ⟨w.heap.size+2,2,none⟩=some (.slice A3 x3.ks.length cap3):=(bx3.out.cell 2).trans (by simp)
    have bx3lt:w.heap.size+2<W49.heap.size:=bx3.out.lt
    have xb2c0:W49.cell? ⟨W21.heap.size,0,none⟩=some (.int .i64 x2.op):=(xb2.out.cell 0).trans (by simp)
    have xb2c1:W49.cell? ⟨W21.heap.size,1,none⟩=some (.int .i64 x2.ct):=(xb2.out.cell 1).trans (by simp)
    have xb2c2:W49.cell? ⟨W21.heap.size,2,none⟩=some (.int .i64 x2.n):=(xb2.out.cell 2).trans (by simp)
    have xb2c3:W49.cell? ⟨W21.heap.size,3,none⟩=some (.int .i64 x2.m):=(xb2.out.cell 3).trans (by simp)
    have xb2c4:W49.cell? ⟨W21.heap.size,4,none⟩=some (.int .i64 x2.va):=(xb2.out.cell 4).trans (by simp)
    have xb2c5:W49.cell? ⟨W21.heap.size,5,none⟩=some (.slice B2 x2.ks.length bap2):=(xb2.out.cell 5).trans (by simp)
    have xb2lt:W21.heap.size<W49.heap.size:=xb2.out.lt
    have xb3c0:W49.cell? ⟨W26.heap.size,0,none⟩=some (.int .i64 x3.c):=(xb3.out.cell 0).trans (by simp)
    have xb3c1:W49.cell? ⟨W26.heap.size,1,none⟩=some (.int .i64 x3.n):=(xb3.out.cell 1).trans (by simp)
    have xb3c2:W49.cell? ⟨W26.heap.size,2,none⟩=some (.slice B3 x3.ks.length bap3):=(xb3.out.cell 2).trans (by simp)
    have xb3lt:W26.heap.size<W49.heap.size:=xb3.out.lt
    go_wp2_with fail
    clear bx1c0 bx1c1 bx2c0 bx2c1 bx2c2 bx2c3 bx2c4 bx2c5 bx3c0 bx3c1 bx3c2 xb2c0 xb2c1 xb2c2 xb2c3 xb2c4 xb2c5 xb3c0 xb3c1 xb3c2 bx1lt bx2lt bx3lt xb2lt xb3lt
    have hcn3:sumBy cntV x3.ks≤16777216:=by have h1:=cntsV_le x3.ks;have h2:=V.size_sizes x3;omega
    refine (markValue_any x3 W49 _ G26 (1+(kk0:Int)+(kk2:Int)) (by omega) (by omega) X3.out Z_x3.out Y3.out).mono ?_
    rintro e W51 ⟨rfl,hg51,hm51,hfr51⟩
    clear hm51 hfr51
    have hB52:=hB50.trans (hg51.below LB_x3.out hB50.size)
    have bx1n:Hid (Blk W51 (w.heap.size) 24 #[.int .i64 x1.d,.int .i64 x1.i]):=bx1.out.same (hg51.block _ bx1.out.lt nb_bx1_x3.out)
    clear bx1
    have bx1:=bx1n
    clear bx1n
    have bx2n:Hid (Blk W51 (w.heap.size+1) 27 #[.int .i64 x2.op,.int .i64 x2.ct,.int .i64 x2.n,.int .i64 x2.m,.int .i64 x2.va,.slice A2 x2.ks.length cap2]):=bx2.out.same (hg51.block _ bx2.out.lt nb_bx2_x3.out)
    clear bx2
    have bx2:=bx2n
    clear bx2n
    have bx3n:Hid (Blk W51 (w.heap.size+2) 30 #[.int .i64 x3.c,.int .i64 x3.n,.slice A3 x3.ks.length cap3]):=bx3.out.same (hg51.block _ bx3.out.lt nb_bx3_x3.out)
    clear bx3
    have bx3:=bx3n
    clear bx3n
    have xb2n:Hid (Blk W51 (W21.heap.size) 43 #[.int .i64 x2.op,.int .i64 x2.ct,.int .i64 x2.n,.int .i64 x2.m,.int .i64 x2.va,.slice B2 x2.ks.length bap2]):=xb2.out.same (hg51.block _ xb2.out.lt nb_xb2_x3.out)
    clear xb2
    have xb2:=xb2n
    clear xb2n
    have xb3n:Hid (Blk W51 (W26.heap.size) 47 #[.int .i64 x3.c,.int .i64 x3.n,.slice B3 x3.ks.length bap3]):=xb3.out.same (hg51.block _ xb3.out.lt nb_xb3_x3.out)
    clear xb3
    have xb3:=xb3n
    clear xb3n
    have KP:=jj (show Kept F_w0 W49 W51 from (hg51.kept Y_w0.out dj_w0_x3.out))
    have X_w0n:=jj (X_w0.out.mono KP.out (fun x _ cs G hk h=>(fun w w' x cs G hk h=>BdR.mono (w:=w) (w':=w') x cs G hk h) _ _ x cs G hk h))
    have Y_w0n:=jj (Y_w0.out.mono hg51.size)
    have Z_w0n:=jj (Z_w0.out.kept KP.out)
    clear X_w0 Y_w0 KP Z_w0
    have X_w0:=X_w0n
    have Y_w0:=Y_w0n
    have Z_w0:=Z_w0n
    clear X_w0n Y_w0n Z_w0n
    have KP:=jj (show Kept F_g0 W49 W51 from (hg51.kept Y_g0.out dj_g0_x3.out))
    have X_g0n:=jj (X_g0.out.mono KP.out (fun x _ cs G hk h=>(fun w w' x cs G hk h=>BdR.mono (w:=w) (w':=w') x cs G hk h) _ _ x cs G hk h))
    have Y_g0n:=jj (Y_g0.out.mono hg51.size)
    have Z_g0n:=jj (Z_g0.out.kept KP.out)
    clear X_g0 Y_g0 KP Z_g0
    have X_g0:=X_g0n
    have Y_g0:=Y_g0n
    have Z_g0:=Z_g0n
    clear X_g0n Y_g0n Z_g0n
    generalize hkk3:sumBy cntV x3.ks=kk3 at *
    clear hkk3
    have hkp:¬(1+(kk0:Int)+(kk2:Int)+(kk3:Int)<0):=by omega
    have bx1c0:W51.cell? ⟨w.heap.size,0,none⟩=some (.int .i64 x1.d):=(bx1.out.cell 0).trans (by simp)
    have bx1c1:W51.cell? ⟨w.heap.size,1,none⟩=some (.int .i64 x1.i):=(bx1.out.cell 1).trans (by simp)
    have bx1lt:w.heap.size<W51.heap.size:=bx1.out.lt
    have bx2c0:W51.cell? ⟨w.heap.size+1,0,none⟩=some (.int .i64 x2.op):=(bx2.out.cell 0).trans (by simp)
    have bx2c1:W51.cell? ⟨w.heap.size+1,1,none⟩=some (.int .i64 x2.ct):=(bx2.out.cell 1).trans (by simp)
    have bx2c2:W51.cell? ⟨w.heap.size+1,2,none⟩=some (.int .i64 x2.n):=(bx2.out.cell 2).trans (by simp)
    have bx2c3:W51.cell? ⟨w.heap.size+1,3,none⟩=some (.int .i64 x2.m):=(bx2.out.cell 3).trans (by simp)
    have bx2c4:W51.cell? ⟨w.heap.size+1,4,none⟩=some (.int .i64 x2.va):=(bx2.out.cell 4).trans (by simp)
    have bx2c5:W51.cell? ⟨w.heap.size+1,5,none⟩=some (.slice A2 x2.ks.length cap2):=(bx2.out.cell 5).trans (by simp)
    have bx2lt:w.heap.size+1<W51.heap.size:=bx2.out.lt
    have bx3c0:W51.cell? ⟨w.heap.size+2,0,none⟩=some (.int .i64 x3.c):=(bx3.out.cell 0).trans (by simp)
    have bx3c1:W51.cell? ⟨w.heap.size+2,1,none⟩=some (.int .i64 x3.n):=(bx3.out.cell 1).trans (by simp)
    have bx3c2:W51.cell? ⟨w.heap.size+2,2,none⟩=some (.slice A3 x3.ks.length cap3):=(bx3.out.cell 2).trans (by simp)
    have bx3lt:w.heap.size+2<W51.heap.size:=bx3.out.lt
    have xb2c0:W51.cell? ⟨W21.heap.size,0,none⟩=some (.int .i64 x2.op):=(xb2.out.cell 0).trans (by simp)
    have xb2c1:W51.cell? ⟨W21.heap.size,1,none⟩=some (.int .i64 x2.ct):=(xb2.out.cell 1).trans (by simp)
    have xb2c2:W51.cell? ⟨W21.heap.size,2,none⟩=some (.int .i64 x2.n):=(xb2.out.cell 2).trans (by simp)
    have xb2c3:W51.cell? ⟨W21.heap.size,3,none⟩=some (.int .i64 x2.m):=(xb2.out.cell 3).trans (by simp)
    have xb2c4:W51.cell? ⟨W21.heap.size,4,none⟩=some (.int .i64 x2.va):=(xb2.out.cell 4).trans (by simp)
    have xb2c5:W51.cell? ⟨W21.heap.size,5,none⟩=some (.slice B2 x2.ks.length bap2):=(xb2.out.cell 5).trans (by simp)
    have xb2lt:W21.heap.size<W51.heap.size:=xb2.out.lt
    have xb3c0:W51.cell? ⟨W26.heap.size,0,none⟩=some (.int .i64 x3.c):=(xb3.out.cell 0).trans (by simp)
    have xb3c1:W51.cell? ⟨W26.heap.size,1,none⟩=some (.int .i64 x3.n):=(xb3.out.cell 1).trans (by simp)
    have xb3c2:W51.cell? ⟨W26.heap.size,2,none⟩=some (.slice B3 x3.ks.length bap3):=(xb3.out.cell 2).trans (by simp)
    have xb3lt:W26.heap.size<W51.heap.size:=xb3.out.lt
    go_wp2_with fail
    clear bx1c0 bx1c1 bx2c0 bx2c1 bx2c2 bx2c3 bx2c4 bx2c5 bx3c0 bx3c1 bx3c2 xb2c0 xb2c1 xb2c2 xb2c3 xb2c4 xb2c5 xb3c0 xb3c1 xb3c2 bx1lt bx2lt bx3lt xb2lt xb3lt
    refine (eqBindS_any r0 W51 F_g0 F_w0 _ _ X_g0.out X_w0.out Y_g0.out Y_w0.out).mono ?_
    rintro e W53 ⟨rfl,hb53⟩
    have hB54:=hB52.trans (hb53.mono hB52.size)
    have bx1n:Hid (Blk W53 (w.heap.size) 24 #[.int .i64 x1.d,.int .i64 x1.i]):=bx1.out.same (hb53.block _ bx1.out.lt)
    clear bx1
    have bx1:=bx1n
    clear bx1n
    have bx2n:Hid (Blk W53 (w.heap.size+1) 27 #[.int .i64 x2.op,.int .i64 x2.ct,.int .i64 x2.n,.int .i64 x2.m,.int .i64 x2.va,.slice A2 x2.ks.length cap2]):=bx2.out.same (hb53.block _ bx2.out.lt)
    clear bx2
    have bx2:=bx2n
    clear bx2n
    have bx3n:Hid (Blk W53 (w.heap.size+2) 30 #[.int .i64 x3.c,.int .i64 x3.n,.slice A3 x3.ks.length cap3]):=bx3.out.same (hb53.block _ bx3.out.lt)
    clear bx3
    have bx3:=bx3n
    clear bx3n
    have xb2n:Hid (Blk W53 (W21.heap.size) 43 #[.int .i64 x2.op,.int .i64 x2.ct,.int .i64 x2.n,.int .i64 x2.m,.int .i64 x2.va,.slice B2 x2.ks.length bap2]):=xb2.out.same (hb53.block _ xb2.out.lt)
    clear xb2
    have xb2:=xb2n
    clear xb2n
    have xb3n:Hid (Blk W53 (W26.heap.size) 47 #[.int .i64 x3.c,.int .i64 x3.n,.slice B3 x3.ks.length bap3]):=xb3.out.same (hb53.block _ xb3.out.lt)
    clear xb3
    have xb3:=xb3n
    clear xb3n
    have KP:=jj (show Kept F_w0 W51 W53 from (Kept.of_below (w:=W51) hb53 Y_w0.out))
    have X_w0n:=jj (X_w0.out.mono KP.out (fun x _ cs G hk h=>(fun w w' x cs G hk h=>BdR.mono (w:=w) (w':=w') x cs G hk h) _ _ x cs G hk h))
    have Y_w0n:=jj (Y_w0.out.mono hb53.size)
    have Z_w0n:=jj (Z_w0.out.kept KP.out)
    clear X_w0 Y_w0 KP Z_w0
    have X_w0:=X_w0n
    have Y_w0:=Y_w0n
    have Z_w0:=Z_w0n
    clear X_w0n Y_w0n Z_w0n
    have KP:=jj (show Kept F_g0 W51 W53 from (Kept.of_below (w:=W51) hb53 Y_g0.out))
    have X_g0n:=jj (X_g0.out.mono KP.out (fun x _ cs G hk h=>(fun w w' x cs G hk h=>BdR.mono (w:=w) (w':=w') x cs G hk h) _ _ x cs G hk h))
    have Y_g0n:=jj (Y_g0.out.mono hb53.size)
    have Z_g0n:=jj (Z_g0.out.kept KP.out)
    clear X_g0 Y_g0 KP Z_g0
    have X_g0:=X_g0n
    have Y_g0:=Y_g0n
    have Z_g0:=Z_g0n
    clear X_g0n Y_g0n Z_g0n
    have bx1c0:W53.cell? ⟨w.heap.size,0,none⟩=some (.int .i64 x1.d):=(bx1.out.cell 0).trans (by simp)
    have bx1c1:W53.cell? ⟨w.heap.size,1,none⟩=some (.int .i64 x1.i):=(bx1.out.cell 1).trans (by simp)
    have bx1lt:w.heap.size<W53.heap.size:=bx1.out.lt
    have bx2c0:W53.cell? ⟨w.heap.size+1,0,none⟩=some (.int .i64 x2.op):=(bx2.out.cell 0).trans (by simp)
    have bx2c1:W53.cell? ⟨w.heap.size+1,1,none⟩=some (.int .i64 x2.ct):=(bx2.out.cell 1).trans (by simp)
    have bx2c2:W53.cell? ⟨w.heap.size+1,2,none⟩=some (.int .i64 x2.n):=(bx2.out.cell 2).trans (by simp)
    have bx2c3:W53.cell? ⟨w.heap.size+1,3,none⟩=some (.int .i64 x2.m):=(bx2.out.cell 3).trans (by simp)
    have bx2c4:W53.cell? ⟨w.heap.size+1,4,none⟩=some (.int .i64 x2.va):=(bx2.out.cell 4).trans (by simp)
    have bx2c5:W53.cell? ⟨w.heap.size+1,5,none⟩=some (.slice A2 x2.ks.length cap2):=(bx2.out.cell 5).trans (by simp)
    have bx2lt:w.heap.size+1<W53.heap.size:=bx2.out.lt
    have bx3c0:W53.cell? ⟨w.heap.size+2,0,none⟩=some (.int .i64 x3.c):=(bx3.out.cell 0).trans (by simp)
    have bx3c1:W53.cell? ⟨w.heap.size+2,1,none⟩=some (.int .i64 x3.n):=(bx3.out.cell 1).trans (by simp)
    have bx3c2:W53.cell? ⟨w.heap.size+2,2,none⟩=some (.slice A3 x3.ks.length cap3):=(bx3.out.cell 2).trans (by simp)
    have bx3lt:w.heap.size+2<W53.heap.size:=bx3.out.lt
    have xb2c0:W53.cell? ⟨W21.heap.size,0,none⟩=some (.int .i64 x2.op):=(xb2.out.cell 0).trans (by simp)
    have xb2c1:W53.cell? ⟨W21.heap.size,1,none⟩=some (.int .i64 x2.ct):=(xb2.out.cell 1).trans (by simp)
    have xb2c2:W53.cell? ⟨W21.heap.size,2,none⟩=some (.int .i64 x2.n):=(xb2.out.cell 2).trans (by simp)
    have xb2c3:W53.cell? ⟨W21.heap.size,3,none⟩=some (.int .i64 x2.m):=(xb2.out.cell 3).trans (by simp)
    have xb2c4:W53.cell? ⟨W21.heap.size,4,none⟩=some (.int .i64 x2.va):=(xb2.out.cell 4).trans (by simp)
    have xb2c5:W53.cell? ⟨W21.heap.size,5,none⟩=some (.slice B2 x2.ks.length bap2):=(xb2.out.cell 5).trans (by simp)
    have xb2lt:W21.heap.size<W53.heap.size:=xb2.out.lt
    have xb3c0:W53.cell? ⟨W26.heap.size,0,none⟩=some (.int .i64 x3.c):=(xb3.out.cell 0).trans (by simp)
    have xb3c1:W53.cell? ⟨W26.heap.size,1,none⟩=some (.int .i64 x3.n):=(xb3.out.cell 1).trans (by simp)
    have xb3c2:W53.cell? ⟨W26.heap.size,2,none⟩=some (.slice B3 x3.ks.length bap3):=(xb3.out.cell 2).trans (by simp)
    have xb3lt:W26.heap.size<W53.heap.size:=xb3.out.lt
    go_wp2_with fail
    clear bx1c0 bx1c1 bx2c0 bx2c1 bx2c2 bx2c3 bx2c4 bx2c5 bx3c0 bx3c1 bx3c2 xb2c0 xb2c1 xb2c2 xb2c3 xb2c4 xb2c5 xb3c0 xb3c1 xb3c2 bx1lt bx2lt bx3lt xb2lt xb3lt
    have hcg:sumBy cntBd r0≤200000000:=by rw [←HRes.out];exact match_bound x0 x1 x2 x3 hs3
    refine (markBindS_any r0 W53 _ F_g0 1 (by omega) (by omega) X_g0.out Z_g0.out Y_g0.out).mono ?_
    rintro e W55 ⟨rfl,hg55,hm55,hfr55⟩
    have hB56:=hB54.trans (hg55.below LB_g0.out hB54.size)
    have bx1n:Hid (Blk W55 (w.heap.size) 24 #[.int .i64 x1.d,.int .i64 x1.i]):=bx1.out.same (hg55.block _ bx1.out.lt nb_bx1_g0.out)
    clear bx1
    have bx1:=bx1n
    clear bx1n
    have bx2n:Hid (Blk W55 (w.heap.size+1) 27 #[.int .i64 x2.op,.int .i64 x2.ct,.int .i64 x2.n,.int .i64 x2.m,.int .i64 x2.va,.slice A2 x2.ks.length cap2]):=bx2.out.same (hg55.block _ bx2.out.lt nb_bx2_g0.out)
    clear bx2
    have bx2:=bx2n
    clear bx2n
    have bx3n:Hid (Blk W55 (w.heap.size+2) 30 #[.int .i64 x3.c,.int .i64 x3.n,.slice A3 x3.ks.length cap3]):=bx3.out.same (hg55.block _ bx3.out.lt nb_bx3_g0.out)
    clear bx3
    have bx3:=bx3n
    clear bx3n
    have xb2n:Hid (Blk W55 (W21.heap.size) 43 #[.int .i64 x2.op,.int .i64 x2.ct,.int .i64 x2.n,.int .i64 x2.m,.int .i64 x2.va,.slice B2 x2.ks.length bap2]):=xb2.out.same (hg55.block _ xb2.out.lt nb_xb2_g0.out)
    clear xb2
    have xb2:=xb2n
    clear xb2n
    have xb3n:Hid (Blk W55 (W26.heap.size) 47 #[.int .i64 x3.c,.int .i64 x3.n,.slice B3 x3.ks.length bap3]):=xb3.out.same (hg55.block _ xb3.out.lt nb_xb3_g0.out)
    clear xb3
    have xb3:=xb3n
    clear xb3n
    have KP:=jj (show Kept F_w0 W53 W55 from (hg55.kept Y_w0.out dj_w0_g0.out))
    have X_w0n:=jj (X_w0.out.mono KP.out (fun x _ cs G hk h=>(fun w w' x cs G hk h=>BdR.mono (w:=w) (w':=w') x cs G hk h) _ _ x cs G hk h))
    have Y_w0n:=jj (Y_w0.out.mono hg55.size)
    have Z_w0n:=jj (Z_w0.out.kept KP.out)
    clear X_w0 Y_w0 KP Z_w0
    have X_w0:=X_w0n
    have Y_w0:=Y_w0n
    have Z_w0:=Z_w0n
    clear X_w0n Y_w0n Z_w0n
    clear X_g0
    have X_g0:=jj hm55
    have Y_g0n:=jj (Y_g0.out.mono hg55.size)
    clear Y_g0
    have Y_g0:=Y_g0n
    clear Z_g0
    have Z_g0:=jj hfr55
    clear Y_g0n hm55 hfr55
    have bx1c0:W55.cell? ⟨w.heap.size,0,none⟩=some (.int .i64 x1.d):=(bx1.out.cell 0).trans (by simp)
    have bx1c1:W55.cell? ⟨w.heap.size,1,none⟩=some (.int .i64 x1.i):=(bx1.out.cell 1).trans (by simp)
    have bx1lt:w.heap.size<W55.heap.size:=bx1.out.lt
    have bx2c0:W55.cell? ⟨w.heap.size+1,0,none⟩=some (.int .i64 x2.op):=(bx2.out.cell 0).trans (by simp)
    have bx2c1:W55.cell? ⟨w.heap.size+1,1,none⟩=some (.int .i64 x2.ct):=(bx2.out.cell 1).trans (by simp)
    have bx2c2:W55.cell? ⟨w.heap.size+1,2,none⟩=some (.int .i64 x2.n):=(bx2.out.cell 2).trans (by simp)
    have bx2c3:W55.cell? ⟨w.heap.size+1,3,none⟩=some (.int .i64 x2.m):=(bx2.out.cell 3).trans (by simp)
    have bx2c4:W55.cell? ⟨w.heap.size+1,4,none⟩=some (.int .i64 x2.va):=(bx2.out.cell 4).trans (by simp)
    have bx2c5:W55.cell? ⟨w.heap.size+1,5,none⟩=some (.slice A2 x2.ks.length cap2):=(bx2.out.cell 5).trans (by simp)
    have bx2lt:w.heap.size+1<W55.heap.size:=bx2.out.lt
    have bx3c0:W55.cell? ⟨w.heap.size+2,0,none⟩=some (.int .i64 x3.c):=(bx3.out.cell 0).trans (by simp)
    have bx3c1:W55.cell? ⟨w.heap.size+2,1,none⟩=some (.int .i64 x3.n):=(bx3.out.cell 1).trans (by simp)
    have bx3c2:W55.cell? ⟨w.heap.size+2,2,none⟩=some (.slice A3 x3.ks.length cap3):=(bx3.out.cell 2).trans (by simp)
    have bx3lt:w.heap.size+2<W55.heap.size:=bx3.out.lt
    have xb2c0:W55.cell? ⟨W21.heap.size,0,none⟩=some (.int .i64 x2.op):=(xb2.out.cell 0).trans (by simp)
    have xb2c1:W55.cell? ⟨W21.heap.size,1,none⟩=some (.int .i64 x2.ct):=(xb2.out.cell 1).trans (by simp)
    have xb2c2:W55.cell? ⟨W21.heap.size,2,none⟩=some (.int .i64 x2.n):=(xb2.out.cell 2).trans (by simp)
    have xb2c3:W55.cell? ⟨W21.heap.size,3,none⟩=some (.int .i64 x2.m):=(xb2.out.cell 3).trans (by simp)
    have xb2c4:W55.cell? ⟨W21.heap.size,4,none⟩=some (.int .i64 x2.va):=(xb2.out.cell 4).trans (by simp)
    have xb2c5:W55.cell? ⟨W21.heap.size,5,none⟩=some (.slice B2 x2.ks.length bap2):=(xb2.out.cell 5).trans (by simp)
    have xb2lt:W21.heap.size<W55.heap.size:=xb2.out.lt
    have xb3c0:W55.cell? ⟨W26.heap.size,0,none⟩=some (.int .i64 x3.c):=(xb3.out.cell 0).trans (by simp)
    have xb3c1:W55.cell? ⟨W26.heap.size,1,none⟩=some (.int .i64 x3.n):=(xb3.out.cell 1).trans (by simp)
    have xb3c2:W55.cell? ⟨W26.heap.size,2,none⟩=some (.slice B3 x3.ks.length bap3):=(xb3.out.cell 2).trans (by simp)
    have xb3lt:W26.heap.size<W55.heap.size:=xb3.out.lt
    go_wp2_with fail
    clear bx1c0 bx1c1 bx2c0 bx2c1 bx2c2 bx2c3 bx2c4 bx2c5 bx3c0 bx3c1 bx3c2 xb2c0 xb2c1 xb2c2 xb2c3 xb2c4 xb2c5 xb3c0 xb3c1 xb3c2 bx1lt bx2lt bx3lt xb2lt xb3lt
    refine (heldBindS_any r0 W55 _ F_g0 1 (by omega) (by omega) X_g0.out Y_g0.out).mono ?_
    rintro e W57 ⟨rfl,hb57⟩
    have hB58:=hB56.trans (hb57.mono hB56.size)
    have bx1n:Hid (Blk W57 (w.heap.size) 24 #[.int .i64 x1.d,.int .i64 x1.i]):=bx1.out.same (hb57.block _ bx1.out.lt)
    clear bx1
    have bx1:=bx1n
    clear bx1n
    have bx2n:Hid (Blk W57 (w.heap.size+1) 27 #[.int .i64 x2.op,.int .i64 x2.ct,.int .i64 x2.n,.int .i64 x2.m,.int .i64 x2.va,.slice A2 x2.ks.length cap2]):=bx2.out.same (hb57.block _ bx2.out.lt)
    clear bx2
    have bx2:=bx2n
    clear bx2n
    have bx3n:Hid (Blk W57 (w.heap.size+2) 30 #[.int .i64 x3.c,.int .i64 x3.n,.slice A3 x3.ks.length cap3]):=bx3.out.same (hb57.block _ bx3.out.lt)
    clear bx3
    have bx3:=bx3n
    clear bx3n
    have xb2n:Hid (Blk W57 (W21.heap.size) 43 #[.int .i64 x2.op,.int .i64 x2.ct,.int .i64 x2.n,.int .i64 x2.m,.int .i64 x2.va,.slice B2 x2.ks.length bap2]):=xb2.out.same (hb57.block _ xb2.out.lt)
    clear xb2
    have xb2:=xb2n
    clear xb2n
    have xb3n:Hid (Blk W57 (W26.heap.size) 47 #[.int .i64 x3.c,.int .i64 x3.n,.slice B3 x3.ks.length bap3]):=xb3.out.same (hb57.block _ xb3.out.lt)
    clear xb3
    have xb3:=xb3n
    clear xb3n
    have KP:=jj (show Kept F_w0 W55 W57 from (Kept.of_below (w:=W55) hb57 Y_w0.out))
    have X_w0n:=jj (X_w0.out.mono KP.out (fun x _ cs G hk h=>(fun w w' x cs G hk h=>BdR.mono (w:=w) (w':=w') x cs G hk h) _ _ x cs G hk h))
    have Y_w0n:=jj (Y_w0.out.mono hb57.size)
    have Z_w0n:=jj (Z_w0.out.kept KP.out)
    clear X_w0 Y_w0 KP Z_w0
    have X_w0:=X_w0n
    have Y_w0:=Y_w0n
    have Z_w0:=Z_w0n
    clear X_w0n Y_w0n Z_w0n
    have KP:=jj (show Kept F_g0 W55 W57 from (Kept.of_below (w:=W55) hb57 Y_g0.out))
    have X_g0n:=jj (X_g0.out.mono KP.out (fun x _ cs G hk h=>(fun w w' x cs G hk h=>BdR.mono (w:=w) (w':=w') x cs G hk h) _ _ x cs G hk h))
    have Y_g0n:=jj (Y_g0.out.mono hb57.size)
    have Z_g0n:=jj (Z_g0.out.kept KP.out)
    clear X_g0 Y_g0 KP Z_g0
    have X_g0:=X_g0n
    have Y_g0:=Y_g0n
    have Z_g0:=Z_g0n
    clear X_g0n Y_g0n Z_g0n
    have bx1c0:W57.cell? ⟨w.heap.size,0,none⟩=some (.int .i64 x1.d):=(bx1.out.cell 0).trans (by simp)
    have bx1c1:W57.cell? ⟨w.heap.size,1,none⟩=some (.int .i64 x1.i):=(bx1.out.cell 1).trans (by simp)
    have bx1lt:w.heap.size<W57.heap.size:=bx1.out.lt
    have bx2c0:W57.cell? ⟨w.heap.size+1,0,none⟩=some (.int .i64 x2.op):=(bx2.out.cell 0).trans (by simp)
    have bx2c1:W57.cell? ⟨w.heap.size+1,1,none⟩=some (.int .i64 x2.ct):=(bx2.out.cell 1).trans (by simp)
    have bx2c2:W57.cell? ⟨w.heap.size+1,2,none⟩=some (.int .i64 x2.n):=(bx2.out.cell 2).trans (by simp)
    have bx2c3:W57.cell? ⟨w.heap.size+1,3,none⟩=some (.int .i64 x2.m):=(bx2.out.cell 3).trans (by simp)
    have bx2c4:W57.cell? ⟨w.heap.size+1,4,none⟩=some (.int .i64 x2.va):=(bx2.out.cell 4).trans (by simp)
    have bx2c5:W57.cell? ⟨w.heap.size+1,5,none⟩=some (.slice A2 x2.ks.length cap2):=(bx2.out.cell 5).trans (by simp)
    have bx2lt:w.heap.size+1<W57.heap.size:=bx2.out.lt
    have bx3c0:W57.cell? ⟨w.heap.size+2,0,none⟩=some (.int .i64 x3.c):=(bx3.out.cell 0).trans (by simp)
    have bx3c1:W57.cell? ⟨w.heap.size+2,1,none⟩=some (.int .i64 x3.n):=(bx3.out.cell 1).trans (by simp)
    have bx3c2:W57.cell? ⟨w.heap.size+2,2,none⟩=some (.slice A3 x3.ks.length cap3):=(bx3.out.cell 2).trans (by simp)
    have bx3lt:w.heap.size+2<W57.heap.size:=bx3.out.lt
    have xb2c0:W57.cell? ⟨W21.heap.size,0,none⟩=some (.int .i64 x2.op):=(xb2.out.cell 0).trans (by simp)
    have xb2c1:W57.cell? ⟨W21.heap.size,1,none⟩=some (.int .i64 x2.ct):=(xb2.out.cell 1).trans (by simp)
    have xb2c2:W57.cell? ⟨W21.heap.size,2,none⟩=some (.int .i64 x2.n):=(xb2.out.cell 2).trans (by simp)
    have xb2c3:W57.cell? ⟨W21.heap.size,3,none⟩=some (.int .i64 x2.m):=(xb2.out.cell 3).trans (by simp)
    have xb2c4:W57.cell? ⟨W21.heap.size,4,none⟩=some (.int .i64 x2.va):=(xb2.out.cell 4).trans (by simp)
    have xb2c5:W57.cell? ⟨W21.heap.size,5,none⟩=some (.slice B2 x2.ks.length bap2):=(xb2.out.cell 5).trans (by simp)
    have xb2lt:W21.heap.size<W57.heap.size:=xb2.out.lt
    have xb3c0:W57.cell? ⟨W26.heap.size,0,none⟩=some (.int .i64 x3.c):=(xb3.out.cell 0).trans (by simp)
    have xb3c1:W57.cell? ⟨W26.heap.size,1,none⟩=some (.int .i64 x3.n):=(xb3.out.cell 1).trans (by simp)
    have xb3c2:W57.cell? ⟨W26.heap.size,2,none⟩=some (.slice B3 x3.ks.length bap3):=(xb3.out.cell 2).trans (by simp)
    have xb3lt:W26.heap.size<W57.heap.size:=xb3.out.lt
    go_wp2_with fail
    have SU59_w0:=Y_w0
    have SU59_g0:=Y_g0
    have SB59_bx1:=jj bx1.out.lt
    have SB59_bx2:=jj bx2.out.lt
    have SB59_bx3:=jj bx3.out.lt
    have SB59_xb2:=jj xb2.out.lt
    have SB59_xb3:=jj xb3.out.lt
    have hkeep:∀ U U':World,(U.cell? ⟨w.heap.size,0,none⟩=some (.int .i64 x1.d)∧U.cell? ⟨w.heap.size,1,none⟩=some (.int .i64 x1.i)∧U.cell? ⟨w.heap.size+1,0,none⟩=some (.int .i64 x2.op)∧U.cell? ⟨w.heap.size+1,1,none⟩=some (.int .i64 x2.ct)∧U.cell? ⟨w.heap.size+1,2,none⟩=some (.int .i64 x2.n)∧U.cell? ⟨w.heap.size+1,3,none⟩=some (.int .i64 x2.m)∧U.cell? ⟨w.heap.size+1,4,none⟩=some (.int .i64 x2.va)∧U.cell? ⟨w.heap.size+1,5,none⟩=some (.slice A2 x2.ks.length cap2)∧U.cell? ⟨w.heap.size+2,0,none⟩=some (.int .i64 x3.c)∧U.cell? ⟨w.heap.size+2,1,none⟩=some (.int .i64 x3.n)∧U.cell? ⟨w.heap.size+2,2,none⟩=some (.slice A3 x3.ks.length cap3))→Below U.heap.size U U'→W57.heap.size≤U.heap.size→(U'.cell? ⟨w.heap.size,0,none⟩=some (.int .i64 x1.d)∧U'.cell? ⟨w.heap.size,1,none⟩=some (.int .i64 x1.i)∧U'.cell? ⟨w.heap.size+1,0,none⟩=some (.int .i64 x2.op)∧U'.cell? ⟨w.heap.size+1,1,none⟩=some (.int .i64 x2.ct)∧U'.cell? ⟨w.heap.size+1,2,none⟩=some (.int .i64 x2.n)∧U'.cell? ⟨w.heap.size+1,3,none⟩=some (.int .i64 x2.m)∧U'.cell? ⟨w.heap.size+1,4,none⟩=some (.int .i64 x2.va)∧U'.cell? ⟨w.heap.size+1,5,none⟩=some (.slice A2 x2.ks.length cap2)∧U'.cell? ⟨w.heap.size+2,0,none⟩=some (.int .i64 x3.c)∧U'.cell? ⟨w.heap.size+2,1,none⟩=some (.int .i64 x3.n)∧U'.cell? ⟨w.heap.size+2,2,none⟩=some (.slice A3 x3.ks.length cap3)):=fun U U' h hb hU=>⟨(hb.cell (zz9 (bx1lt) hU)).trans h.1,(hb.cell (zz9 (bx1lt) hU)).trans h.2.1,(hb.cell (zz9 (bx2lt) hU)).trans h.2.2.1,(hb.cell (zz9 (bx2lt) hU)).trans h.2.2.2.1,(hb.cell (zz9 (bx2lt) hU)).trans h.2.2.2.2.1,(hb.cell (zz9 (bx2lt) hU)).trans h.2.2.2.2.2.1,(hb.cell (zz9 (bx2lt) hU)).trans h.2.2.2.2.2.2.1,(hb.cell (zz9 (bx2lt) hU)).trans h.2.2.2.2.2.2.2.1,(hb.cell (zz9 (bx3lt) hU)).trans h.2.2.2.2.2.2.2.2.1,(hb.cell (zz9 (bx3lt) hU)).trans h.2.2.2.2.2.2.2.2.2.1,(hb.cell (zz9 (bx3lt) hU)).trans h.2.2.2.2.2.2.2.2.2.2⟩
    have HKeep:=jj hkeep
    clear hkeep
    go_region_held3 (fun w'=>w'.cell? ⟨w.heap.size,0,none⟩=some (.int .i64 x1.d)∧w'.cell? ⟨w.heap.size,1,none⟩=some (.int .i64 x1.i)∧w'.cell? ⟨w.heap.size+1,0,none⟩=some (.int .i64 x2.op)∧w'.cell? ⟨w.heap.size+1,1,none⟩=some (.int .i64 x2.ct)∧w'.cell? ⟨w.heap.size+1,2,none⟩=some (.int .i64 x2.n)∧w'.cell? ⟨w.heap.size+1,3,none⟩=some (.int .i64 x2.m)∧w'.cell? ⟨w.heap.size+1,4,none⟩=some (.int .i64 x2.va)∧w'.cell? ⟨w.heap.size+1,5,none⟩=some (.slice A2 x2.ks.length cap2)∧w'.cell? ⟨w.heap.size+2,0,none⟩=some (.int .i64 x3.c)∧w'.cell? ⟨w.heap.size+2,1,none⟩=some (.int .i64 x3.n)∧w'.cell? ⟨w.heap.size+2,2,none⟩=some (.slice A3 x3.ks.length cap3)) (first | assumption | (exact ⟨bx1c0,bx1c1,bx2c0,bx2c1,bx2c2,bx2c3,bx2c4,bx2c5,bx3c0,bx3c1,bx3c2⟩) | (exact HKeep.out W57.drew W60 ⟨bx1c0,bx1c1,bx2c0,bx2c1,bx2c2,bx2c3,bx2c4,bx2c5,bx3c0,bx3c1,bx3c2⟩ hb60 (zz8 _)) | (exact HKeep.out W60 W61 (by assumption) hb61 hleW60) | (exact HKeep.out W61 W62 (by assumption) hb62 hleW61) | (exact HKeep.out W62 W63 (by assumption) hb63 hleW62) | (exact HKeep.out W63 W64 (by assumption) hb64 hleW63)) (first | (go_at_call 12;((with_reducible refine (toDataS_any x0 _ F0 _ (ArrDt.below HR0.out hB58.drew HU0.out) (HU0.out.mono hB58.drew.size) hs0).mono ?_);rintro e W60 ⟨y60,G60,rfl,hb60,hv60,hfr60,hfs60⟩);have hB60:=hB58.drew.trans (hb60.mono hB58.drew.size);have hleW60:W57.heap.size≤W60.heap.size:=hb60.size) | (go_at_call 13;((with_reducible refine (toType_any x1 _ _ [] (TyR.mk0 _ x1) (Under.nil _) (Ty.size_le x1)).mono ?_);rintro e W61 ⟨ds61,G61,rfl,hb61,⟨rfl,rfl⟩,hfr61,hfs61⟩);have hB61:=hB60.trans (hb61.mono hB60.size);have hleW61:W57.heap.size≤W61.heap.size:=Nat.le_trans hleW60 hb61.size) | (go_at_call 14;((with_reducible refine (toPattern_any x2 _ _ F2 (HR2.out.below hB61 HU2.out) (HU2.out.mono hB61.size) hs2).mono ?_);rintro e W62 ⟨ds62,G62,rfl,hb62,hv62,hfr62,hfs62⟩);have hB62:=hB61.trans (hb62.mono hB61.size);have hleW62:W57.heap.size≤W62.heap.size:=Nat.le_trans hleW61 hb62.size) | (go_at_call 15;((with_reducible refine (toValue_any x3 _ _ F3 (HR3.out.below hB62 HU3.out) (HU3.out.mono hB62.size) hs3).mono ?_);rintro e W63 ⟨ds63,G63,rfl,hb63,hv63,hfr63,hfs63⟩);have hB63:=hB62.trans (hb63.mono hB62.size);have hleW63:W57.heap.size≤W63.heap.size:=Nat.le_trans hleW62 hb63.size) | (go_at_call 16;((with_reducible refine (match_rw HResb.out (impl_MatchPattern x0 x1 x2 x3 hs2 hs3 _ _ G60 _ G62 _ G63 (ArrDt.below (ArrDt.below (ArrDt.below hv60 hb61 hfs60.under) hb62 (hfs60.under.mono hb61.size)) hb63 ((hfs60.under.mono hb61.size).mono hb62.size)) (((hfs60.under.mono hb61.size).mono hb62.size).mono hb63.size) (hv62.below hb63 hfs62.under) (hfs62.under.mono hb63.size) hv63 hfs63.under)).mono ?_);rintro e W64 ⟨vr_h0,F_h0,rfl,hb64,ha_h0,hfr_h0,hfs_h0⟩)))
    have hbt65_0:=hb60
    have hbt65_1:=hbt65_0.trans (hb61.mono hbt65_0.size)
    have hbt65_2:=hbt65_1.trans (hb62.mono hbt65_1.size)
    have hbt65_3:=hbt65_2.trans (hb63.mono hbt65_2.size)
    have hbt65_4:=hbt65_3.trans (hb64.mono hbt65_3.size)
    clear bx1c0 bx1c1 bx2c0 bx2c1 bx2c2 bx2c3 bx2c4 bx2c5 bx3c0 bx3c1 bx3c2 xb2c0 xb2c1 xb2c2 xb2c3 xb2c4 xb2c5 xb3c0 xb3c1 xb3c2 bx1lt bx2lt bx3lt xb2lt xb3lt
    have hfz_h0:Fresh W57 W64 F_h0:=fun b hb=>⟨Nat.le_trans hbt65_3.size (hfs_h0 b hb).1,(hfs_h0 b hb).2⟩
    have dj_w0_h0:=jj (fun b (hb:b∈F_w0) (hj:b∈F_h0)=>Nat.lt_irrefl _ (zz9 (SU59_w0.out b hb) (hfz_h0 b hj).1))
    have dj_h0_w0:=jj (fun b (hj:b∈F_h0) (hb:b∈F_w0)=>Nat.lt_irrefl _ (zz9 (SU59_w0.out b hb) (hfz_h0 b hj).1))
    have dj_g0_h0:=jj (fun b (hb:b∈F_g0) (hj:b∈F_h0)=>Nat.lt_irrefl _ (zz9 (SU59_g0.out b hb) (hfz_h0 b hj).1))
    have dj_h0_g0:=jj (fun b (hj:b∈F_h0) (hb:b∈F_g0)=>Nat.lt_irrefl _ (zz9 (SU59_g0.out b hb) (hfz_h0 b hj).1))
    have nb_bx1_h0:=jj (fun (hj:_∈F_h0)=>Nat.lt_irrefl _ (zz9 SB59_bx1.out (hfz_h0 _ hj).1))
    have nb_bx2_h0:=jj (fun (hj:_∈F_h0)=>Nat.lt_irrefl _ (zz9 SB59_bx2.out (hfz_h0 _ hj).1))
    have nb_bx3_h0:=jj (fun (hj:_∈F_h0)=>Nat.lt_irrefl _ (zz9 SB59_bx3.out (hfz_h0 _ hj).1))
    have nb_xb2_h0:=jj (fun (hj:_∈F_h0)=>Nat.lt_irrefl _ (zz9 SB59_xb2.out (hfz_h0 _ hj).1))
    have nb_xb3_h0:=jj (fun (hj:_∈F_h0)=>Nat.lt_irrefl _ (zz9 SB59_xb3.out (hfz_h0 _ hj).1))
    have LB_h0:=jj (fun b (hj:b∈F_h0)=>Nat.le_trans hB58.size (hfz_h0 b hj).1)
    have X_h0:=jj ha_h0
    have Y_h0:=jj hfs_h0.under
    have Z_h0:=jj hfr_h0
    have X_h0:=(show Hid (Arr W64 (BdR W64) r0 vr_h0 F_h0) from by rw [←HRes.out];exact X_h0.out)
    obtain ⟨A_h0,cap_h0,rfl,-,-⟩:=X_h0.out.form
    clear ha_h0 hfr_h0 hfs_h0 hfz_h0
    have hB66:=hB58.drew.trans (hbt65_4.mono hB58.size)
    have bx1n:Hid (Blk W64 (w.heap.size) 24 #[.int .i64 x1.d,.int .i64 x1.i]):=bx1.out.same (hbt65_4.block _ bx1.out.lt)
    clear bx1
    have bx1:=bx1n
    clear bx1n
    have bx2n:Hid (Blk W64 (w.heap.size+1) 27 #[.int .i64 x2.op,.int .i64 x2.ct,.int .i64 x2.n,.int .i64 x2.m,.int .i64 x2.va,.slice A2 x2.ks.length cap2]):=bx2.out.same (hbt65_4.block _ bx2.out.lt)
    clear bx2
    have bx2:=bx2n
    clear bx2n
    have bx3n:Hid (Blk W64 (w.heap.size+2) 30 #[.int .i64 x3.c,.int .i64 x3.n,.slice A3 x3.ks.length cap3]):=bx3.out.same (hbt65_4.block _ bx3.out.lt)
    clear bx3
    have bx3:=bx3n
    clear bx3n
    have xb2n:Hid (Blk W64 (W21.heap.size) 43 #[.int .i64 x2.op,.int .i64 x2.ct,.int .i64 x2.n,.int .i64 x2.m,.int .i64 x2.va,.slice B2 x2.ks.length bap2]):=xb2.out.same (hbt65_4.block _ xb2.out.lt)
    clear xb2
    have xb2:=xb2n
    clear xb2n
    have xb3n:Hid (Blk W64 (W26.heap.size) 47 #[.int .i64 x3.c,.int .i64 x3.n,.slice B3 x3.ks.length bap3]):=xb3.out.same (hbt65_4.block _ xb3.out.lt)
    clear xb3
    have xb3:=xb3n
    clear xb3n
    have KP:=jj (show Kept F_w0 W57 W64 from (Kept.of_below (w:=W57) (zA8 hbt65_4) Y_w0.out))
    have X_w0n:=jj (X_w0.out.mono KP.out (fun x _ cs G hk h=>(fun w w' x cs G hk h=>BdR.mono (w:=w) (w':=w') x cs G hk h) _ _ x cs G hk h))
    have Y_w0n:=jj (Y_w0.out.mono hbt65_4.size)
    have Z_w0n:=jj (Z_w0.out.kept KP.out)
    clear X_w0 Y_w0 KP Z_w0
    have X_w0:=X_w0n
    have Y_w0:=Y_w0n
    have Z_w0:=Z_w0n
    clear X_w0n Y_w0n Z_w0n
    have KP:=jj (show Kept F_g0 W57 W64 from (Kept.of_below (w:=W57) (zA8 hbt65_4) Y_g0.out))
    have X_g0n:=jj (X_g0.out.mono KP.out (fun x _ cs G hk h=>(fun w w' x cs G hk h=>BdR.mono (w:=w) (w':=w') x cs G hk h) _ _ x cs G hk h))
    have Y_g0n:=jj (Y_g0.out.mono hbt65_4.size)
    have Z_g0n:=jj (Z_g0.out.kept KP.out)
    clear X_g0 Y_g0 KP Z_g0
    have X_g0:=X_g0n
    have Y_g0:=Y_g0n
    have Z_g0:=Z_g0n
    clear X_g0n Y_g0n Z_g0n
    have bx1c0:W64.cell? ⟨w.heap.size,0,none⟩=some (.int .i64 x1.d):=(bx1.out.cell 0).trans (by simp)
    have bx1c1:W64.cell? ⟨w.heap.size,1,none⟩=some (.int .i64 x1.i):=(bx1.out.cell 1).trans (by simp)
    have bx1lt:w.heap.size<W64.heap.size:=bx1.out.lt
    have bx2c0:W64.cell? ⟨w.heap.size+1,0,none⟩=some (.int .i64 x2.op):=(bx2.out.cell 0).trans (by simp)
    have bx2c1:W64.cell? ⟨w.heap.size+1,1,none⟩=some (.int .i64 x2.ct):=(bx2.out.cell 1).trans (by simp)
    have bx2c2:W64.cell? ⟨w.heap.size+1,2,none⟩=some (.int .i64 x2.n):=(bx2.out.cell 2).trans (by simp)
    have bx2c3:W64.cell? ⟨w.heap.size+1,3,none⟩=some (.int .i64 x2.m):=(bx2.out.cell 3).trans (by simp)
    have bx2c4:W64.cell? ⟨w.heap.size+1,4,none⟩=some (.int .i64 x2.va):=(bx2.out.cell 4).trans (by simp)
    have bx2c5:W64.cell? ⟨w.heap.size+1,5,none⟩=some (.slice A2 x2.ks.length cap2):=(bx2.out.cell 5).trans (by simp)
    have bx2lt:w.heap.size+1<W64.heap.size:=bx2.out.lt
    have bx3c0:W64.cell? ⟨w.heap.size+2,0,none⟩=some (.int .i64 x3.c):=(bx3.out.cell 0).trans (by simp)
    have bx3c1:W64.cell? ⟨w.heap.size+2,1,none⟩=some (.int .i64 x3.n):=(bx3.out.cell 1).trans (by simp)
    have bx3c2:W64.cell? ⟨w.heap.size+2,2,none⟩=some (.slice A3 x3.ks.length cap3):=(bx3.out.cell 2).trans (by simp)
    have bx3lt:w.heap.size+2<W64.heap.size:=bx3.out.lt
    have xb2c0:W64.cell? ⟨W21.heap.size,0,none⟩=some (.int .i64 x2.op):=(xb2.out.cell 0).trans (by simp)
    have xb2c1:W64.cell? ⟨W21.heap.size,1,none⟩=some (.int .i64 x2.ct):=(xb2.out.cell 1).trans (by simp)
    have xb2c2:W64.cell? ⟨W21.heap.size,2,none⟩=some (.int .i64 x2.n):=(xb2.out.cell 2).trans (by simp)
    have xb2c3:W64.cell? ⟨W21.heap.size,3,none⟩=some (.int .i64 x2.m):=(xb2.out.cell 3).trans (by simp)
    have xb2c4:W64.cell? ⟨W21.heap.size,4,none⟩=some (.int .i64 x2.va):=(xb2.out.cell 4).trans (by simp)
    have xb2c5:W64.cell? ⟨W21.heap.size,5,none⟩=some (.slice B2 x2.ks.length bap2):=(xb2.out.cell 5).trans (by simp)
    have xb2lt:W21.heap.size<W64.heap.size:=xb2.out.lt
    have xb3c0:W64.cell? ⟨W26.heap.size,0,none⟩=some (.int .i64 x3.c):=(xb3.out.cell 0).trans (by simp)
    have xb3c1:W64.cell? ⟨W26.heap.size,1,none⟩=some (.int .i64 x3.n):=(xb3.out.cell 1).trans (by simp)
    have xb3c2:W64.cell? ⟨W26.heap.size,2,none⟩=some (.slice B3 x3.ks.length bap3):=(xb3.out.cell 2).trans (by simp)
    have xb3lt:W26.heap.size<W64.heap.size:=xb3.out.lt
    go_wp2_with fail
    clear bx1c0 bx1c1 bx2c0 bx2c1 bx2c2 bx2c3 bx2c4 bx2c5 bx3c0 bx3c1 bx3c2 xb2c0 xb2c1 xb2c2 xb2c3 xb2c4 xb2c5 xb3c0 xb3c1 xb3c2 bx1lt bx2lt bx3lt xb2lt xb3lt
    refine (eqBindS_any r0 W64 F_h0 F_w0 _ _ X_h0.out X_w0.out Y_h0.out Y_w0.out).mono ?_
    rintro e W67 ⟨rfl,hb67⟩
    have hB68:=hB66.trans (hb67.mono hB66.size)
    have bx1n:Hid (Blk W67 (w.heap.size) 24 #[.int .i64 x1.d,.int .i64 x1.i]):=bx1.out.same (hb67.block _ bx1.out.lt)
    clear bx1
    have bx1:=bx1n
    clear bx1n
    have bx2n:Hid (Blk W67 (w.heap.size+1) 27 #[.int .i64 x2.op,.int .i64 x2.ct,.int .i64 x2.n,.int .i64 x2.m,.int .i64 x2.va,.slice A2 x2.ks.length cap2]):=bx2.out.same (hb67.block _ bx2.out.lt)
    clear bx2
    have bx2:=bx2n
    clear bx2n
    have bx3n:Hid (Blk W67 (w.heap.size+2) 30 #[.int .i64 x3.c,.int .i64 x3.n,.slice A3 x3.ks.length cap3]):=bx3.out.same (hb67.block _ bx3.out.lt)
    clear bx3
    have bx3:=bx3n
    clear bx3n
    have xb2n:Hid (Blk W67 (W21.heap.size) 43 #[.int .i64 x2.op,.int .i64 x2.ct,.int .i64 x2.n,.int .i64 x2.m,.int .i64 x2.va,.slice B2 x2.ks.length bap2]):=xb2.out.same (hb67.block _ xb2.out.lt)
    clear xb2
    have xb2:=xb2n
    clear xb2n
    have xb3n:Hid (Blk W67 (W26.heap.size) 47 #[.int .i64 x3.c,.int .i64 x3.n,.slice B3 x3.ks.length bap3]):=xb3.out.same (hb67.block _ xb3.out.lt)
    clear xb3
    have xb3:=xb3n
    clear xb3n
    have KP:=jj (show Kept F_w0 W64 W67 from (Kept.of_below (w:=W64) hb67 Y_w0.out))
    have X_w0n:=jj (X_w0.out.mono KP.out (fun x _ cs G hk h=>(fun w w' x cs G hk h=>BdR.mono (w:=w) (w':=w') x cs G hk h) _ _ x cs G hk h))
    have Y_w0n:=jj (Y_w0.out.mono hb67.size)
    have Z_w0n:=jj (Z_w0.out.kept KP.out)
    clear X_w0 Y_w0 KP Z_w0
    have X_w0:=X_w0n
    have Y_w0:=Y_w0n
    have Z_w0:=Z_w0n
    clear X_w0n Y_w0n Z_w0n
    have KP:=jj (show Kept F_g0 W64 W67 from (Kept.of_below (w:=W64) hb67 Y_g0.out))
    have X_g0n:=jj (X_g0.out.mono KP.out (fun x _ cs G hk h=>(fun w w' x cs G hk h=>BdR.mono (w:=w) (w':=w') x cs G hk h) _ _ x cs G hk h))
    have Y_g0n:=jj (Y_g0.out.mono hb67.size)
    have Z_g0n:=jj (Z_g0.out.kept KP.out)
    clear X_g0 Y_g0 KP Z_g0
    have X_g0:=X_g0n
    have Y_g0:=Y_g0n
    have Z_g0:=Z_g0n
    clear X_g0n Y_g0n Z_g0n
    have KP:=jj (show Kept F_h0 W64 W67 from (Kept.of_below (w:=W64) hb67 Y_h0.out))
    have X_h0n:=jj (X_h0.out.mono KP.out (fun x _ cs G hk h=>(fun w w' x cs G hk h=>BdR.mono (w:=w) (w':=w') x cs G hk h) _ _ x cs G hk h))
    have Y_h0n:=jj (Y_h0.out.mono hb67.size)
    have Z_h0n:=jj (Z_h0.out.kept KP.out)
    clear X_h0 Y_h0 KP Z_h0
    have X_h0:=X_h0n
    have Y_h0:=Y_h0n
    have Z_h0:=Z_h0n
    clear X_h0n Y_h0n Z_h0n
    have bx1c0:W67.cell? ⟨w.heap.size,0,none⟩=some (.int .i64 x1.d):=(bx1.out.cell 0).trans (by simp)
    have bx1c1:W67.cell? ⟨w.heap.size,1,none⟩=some (.int .i64 x1.i):=(bx1.out.cell 1).trans (by simp)
    have bx1lt:w.heap.size<W67.heap.size:=bx1.out.lt
    have bx2c0:W67.cell? ⟨w.heap.size+1,0,none⟩=some (.int .i64 x2.op):=(bx2.out.cell 0).trans (by simp)
    have bx2c1:W67.cell? ⟨w.heap.size+1,1,none⟩=some (.int .i64 x2.ct):=(bx2.out.cell 1).trans (by simp)
    have bx2c2:W67.cell? ⟨w.heap.size+1,2,none⟩=some (.int .i64 x2.n):=(bx2.out.cell 2).trans (by simp)
    have bx2c3:W67.cell? ⟨w.heap.size+1,3,none⟩=some (.int .i64 x2.m):=(bx2.out.cell 3).trans (by simp)
    have bx2c4:W67.cell? ⟨w.heap.size+1,4,none⟩=some (.int .i64 x2.va):=(bx2.out.cell 4).trans (by simp)
    have bx2c5:W67.cell? ⟨w.heap.size+1,5,none⟩=some (.slice A2 x2.ks.length cap2):=(bx2.out.cell 5).trans (by simp)
    have bx2lt:w.heap.size+1<W67.heap.size:=bx2.out.lt
    have bx3c0:W67.cell? ⟨w.heap.size+2,0,none⟩=some (.int .i64 x3.c):=(bx3.out.cell 0).trans (by simp)
    have bx3c1:W67.cell? ⟨w.heap.size+2,1,none⟩=some (.int .i64 x3.n):=(bx3.out.cell 1).trans (by simp)
    have bx3c2:W67.cell? ⟨w.heap.size+2,2,none⟩=some (.slice A3 x3.ks.length cap3):=(bx3.out.cell 2).trans (by simp)
    have bx3lt:w.heap.size+2<W67.heap.size:=bx3.out.lt
    have xb2c0:W67.cell? ⟨W21.heap.size,0,none⟩=some (.int .i64 x2.op):=(xb2.out.cell 0).trans (by simp)
    have xb2c1:W67.cell? ⟨W21.heap.size,1,none⟩=some (.int .i64 x2.ct):=(xb2.out.cell 1).trans (by simp)
    have xb2c2:W67.cell? ⟨W21.heap.size,2,none⟩=some (.int .i64 x2.n):=(xb2.out.cell 2).trans (by simp)
    have xb2c3:W67.cell? ⟨W21.heap.size,3,none⟩=some (.int .i64 x2.m):=(xb2.out.cell 3).trans (by simp)
    have xb2c4:W67.cell? ⟨W21.heap.size,4,none⟩=some (.int .i64 x2.va):=(xb2.out.cell 4).trans (by simp)
    have xb2c5:W67.cell? ⟨W21.heap.size,5,none⟩=some (.slice B2 x2.ks.length bap2):=(xb2.out.cell 5).trans (by simp)
    have xb2lt:W21.heap.size<W67.heap.size:=xb2.out.lt
    have xb3c0:W67.cell? ⟨W26.heap.size,0,none⟩=some (.int .i64 x3.c):=(xb3.out.cell 0).trans (by simp)
    have xb3c1:W67.cell? ⟨W26.heap.size,1,none⟩=some (.int .i64 x3.n):=(xb3.out.cell 1).trans (by simp)
    have xb3c2:W67.cell? ⟨W26.heap.size,2,none⟩=some (.slice B3 x3.ks.length bap3):=(xb3.out.cell 2).trans (by simp)
    have xb3lt:W26.heap.size<W67.heap.size:=xb3.out.lt
    go_wp2_with fail
    clear bx1c0 bx1c1 bx2c0 bx2c1 bx2c2 bx2c3 bx2c4 bx2c5 bx3c0 bx3c1 bx3c2 xb2c0 xb2c1 xb2c2 xb2c3 xb2c4 xb2c5 xb3c0 xb3c1 xb3c2 bx1lt bx2lt bx3lt xb2lt xb3lt
    refine (heldBindS_any r0 W67 _ F_g0 1 (by omega) (by omega) X_g0.out Y_g0.out).mono ?_
    rintro e W69 ⟨rfl,hb69⟩
    have hB70:=hB68.trans (hb69.mono hB68.size)
    have bx1n:Hid (Blk W69 (w.heap.size) 24 #[.int .i64 x1.d,.int .i64 x1.i]):=bx1.out.same (hb69.block _ bx1.out.lt)
    clear bx1
    have bx1:=bx1n
    clear bx1n
    have bx2n:Hid (Blk W69 (w.heap.size+1) 27 #[.int .i64 x2.op,.int .i64 x2.ct,.int .i64 x2.n,.int .i64 x2.m,.int .i64 x2.va,.slice A2 x2.ks.length cap2]):=bx2.out.same (hb69.block _ bx2.out.lt)
    clear bx2
    have bx2:=bx2n
    clear bx2n
    have bx3n:Hid (Blk W69 (w.heap.size+2) 30 #[.int .i64 x3.c,.int .i64 x3.n,.slice A3 x3.ks.length cap3]):=bx3.out.same (hb69.block _ bx3.out.lt)
    clear bx3
    have bx3:=bx3n
    clear bx3n
    have xb2n:Hid (Blk W69 (W21.heap.size) 43 #[.int .i64 x2.op,.int .i64 x2.ct,.int .i64 x2.n,.int .i64 x2.m,.int .i64 x2.va,.slice B2 x2.ks.length bap2]):=xb2.out.same (hb69.block _ xb2.out.lt)
    clear xb2
    have xb2:=xb2n
    clear xb2n
    have xb3n:Hid (Blk W69 (W26.heap.size) 47 #[.int .i64 x3.c,.int .i64 x3.n,.slice B3 x3.ks.length bap3]):=xb3.out.same (hb69.block _ xb3.out.lt)
    clear xb3
    have xb3:=xb3n
    clear xb3n
    have KP:=jj (show Kept F_w0 W67 W69 from (Kept.of_below (w:=W67) hb69 Y_w0.out))
    have X_w0n:=jj (X_w0.out.mono KP.out (fun x _ cs G hk h=>(fun w w' x cs G hk h=>BdR.mono (w:=w) (w':=w') x cs G hk h) _ _ x cs G hk h))
    have Y_w0n:=jj (Y_w0.out.mono hb69.size)
    have Z_w0n:=jj (Z_w0.out.kept KP.out)
    clear X_w0 Y_w0 KP Z_w0
    have X_w0:=X_w0n
    have Y_w0:=Y_w0n
    have Z_w0:=Z_w0n
    clear X_w0n Y_w0n Z_w0n
    have KP:=jj (show Kept F_g0 W67 W69 from (Kept.of_below (w:=W67) hb69 Y_g0.out))
    have X_g0n:=jj (X_g0.out.mono KP.out (fun x _ cs G hk h=>(fun w w' x cs G hk h=>BdR.mono (w:=w) (w':=w') x cs G hk h) _ _ x cs G hk h))
    have Y_g0n:=jj (Y_g0.out.mono hb69.size)
    have Z_g0n:=jj (Z_g0.out.kept KP.out)
    clear X_g0 Y_g0 KP Z_g0
    have X_g0:=X_g0n
    have Y_g0:=Y_g0n
    have Z_g0:=Z_g0n
    clear X_g0n Y_g0n Z_g0n
    go_wp2
    go_ret
    exact ⟨rfl,hB70⟩
   ·rw [show szLeft x3.size (1048576-((Dt.sizes x0):Int)-(x2.size:Int)) = -1 from if_neg hz3]
    go_wp2
    go_ret
    exact ⟨rfl,hB8⟩
  ·rw [show szLeft x2.size (1048576-((Dt.sizes x0):Int)) = -1 from if_neg hz2]
   go_wp2
   go_ret
   exact ⟨rfl,hB6⟩
 ·rw [show szLeft (Dt.sizes x0) (1048576) = -1 from if_neg hz0]
  go_wp2
  go_ret
  exact ⟨rfl,hB4⟩
end Go.Proofs.YtghekinfoadcoaaGreat.fnExactMatchPattern
namespace Go.Proofs.YtghekinfoadcoaaGreat.fnExactMatchPattern
open Go.ChangeShapes Go.WideShapes Go.ChangeAt Go.RowKit
open Go.ChangeMaps (open_string shut_string)
set_option linter.unusedVariables false

theorem own : ownKnob Tryz.prog.godebug = none := by kernel_rfl
theorem laidOut : laidOutB Tryz.prog = true := by kernel_rfl

set_option maxRecDepth 100000 in
theorem lifted (os : Os) (started : os.Started) (H : Type) (enc : TypeId × Value → H) :
    ReturnsInHanded {} Tryz.checked os 3 .any (Rows.fnExactMatchPatternSpec.pre6 enc Tryz.prog Tryz.f3 Rows.fnExactMatchPatternRow.domain false) (Rows.fnExactMatchPatternSpec.post enc Tryz.prog Tryz.f3 false true false false) := by
  refine returnsInHanded_of_change (C := Tryz.checked) own started (by kernel_rfl) Tryz.func3
    (ChangeSpec.witness6 (enc := enc) (C := Tryz.checked) false ⟨#[], #[.slice none 0 0, .agg #[.int .i64 0, .int .i64 0], .agg #[.int .i64 0, .int .i64 0, .int .i64 0, .int .i64 0, .int .i64 0, .slice none 0 0], .agg #[.int .i64 0, .int .i64 0, .slice none 0 0]], []⟩ 8 (by kernel_rfl) (by kernel_rfl) (by kernel_rfl) (by kernel_rfl)) ?_
  intro W base args ds gs before hval0 hW hcnd _
  have hval : ∀ (j : Nat) t v, Tryz.f3.params[j]? = some t → args[j]? = some v → Value.okWide Tryz.prog W .any base t v := hval0
  have hW' := hW
  obtain ⟨p, q, hA0, hV, rfl, hfz, hnd⟩ := hW
  have hA : DataW.TrodAll enc Tryz.prog W 0 (fun _ => true) true Tryz.f3.params.toList args.toList ds p := hA0
  rw [Tryz.params3] at hA hval
  obtain ⟨v0, vs0, d0, ds0, p0, q0, hargs, rfl, rfl, h0, r0⟩ := trodAll_cons hA
  obtain ⟨v1, vs1, d1, ds1, p1, q1, rfl, rfl, rfl, h1, r1⟩ := trodAll_cons r0
  obtain ⟨v2, vs2, d2, ds2, p2, q2, rfl, rfl, rfl, h2, r2⟩ := trodAll_cons r1
  obtain ⟨v3, vs3, d3, ds3, p3, q3, rfl, rfl, rfl, h3, r3⟩ := trodAll_cons r2
  obtain ⟨rfl, rfl, rfl⟩ := trodAll_nil r3
  obtain rfl : args = #[v0, v1, v2, v3] := by cases args; simp_all
  obtain ⟨rfl, rfl⟩ := trodVars_none hV
  have k0 := h0
  have lt0 : ∀ x ∈ p0, x.block < W.heap.size := by obtain ⟨m, hm⟩ := k0; exact DataW.trod_lt m _ _ _ hm
  have k1 := h1
  have lt1 : ∀ x ∈ p1, x.block < W.heap.size := by obtain ⟨m, hm⟩ := k1; exact DataW.trod_lt m _ _ _ hm
  have k2 := h2
  have lt2 : ∀ x ∈ p2, x.block < W.heap.size := by obtain ⟨m, hm⟩ := k2; exact DataW.trod_lt m _ _ _ hm
  have k3 := h3
  have lt3 : ∀ x ∈ p3, x.block < W.heap.size := by obtain ⟨m, hm⟩ := k3; exact DataW.trod_lt m _ _ _ hm
  obtain ⟨x0, F0, hR0, hU0⟩ := open_Dts (hval 0 22 v0 rfl rfl) h0
  obtain ⟨x1, cs1, F1, rfl, hR1, hU1⟩ := open_Ty (hval 1 24 v1 rfl rfl) h1
  obtain ⟨x2, cs2, F2, rfl, hR2, hU2⟩ := open_P (hval 2 27 v2 rfl rfl) h2
  obtain ⟨x3, cs3, F3, rfl, hR3, hU3⟩ := open_V (hval 3 30 v3 rfl rfl) h3
  clear hA0 hval0
  refine (walk x0 v0 F0 hR0 hU0 x1 cs1 F1 hR1 hU1 x2 cs2 F2 hR2 hU2 x3 cs3 F3 hR3 hU3 W rfl).mono fun e W' ⟨he, bel⟩ => ?_
  subst he
  exact ⟨_, rfl, _, _, _, [], _, [], hW', trodAll_mk1 (shut_bool Tryz.underlying4 _), (trodAll_cons_mk (Below.trod laidOut (by kernel_rfl) (of_decide_eq_true (by kernel_rfl)) k0 bel lt0) (trodAll_cons_mk (Below.trod laidOut (by kernel_rfl) (of_decide_eq_true (by kernel_rfl)) k1 bel lt1) (trodAll_cons_mk (Below.trod laidOut (by kernel_rfl) (of_decide_eq_true (by kernel_rfl)) k2 bel lt2) (trodAll_cons_mk (Below.trod laidOut (by kernel_rfl) (of_decide_eq_true (by kernel_rfl)) k3 bel lt3) trodAll_mk0)))), rfl, bel.frame _, fun h => by cases h⟩

set_option maxHeartbeats 4000000 in
theorem closed : joinedFacts Tryz.pinned.checked.prog 3 Tryz.f3 Rows.fnExactMatchPatternSpec Rows.fnExactMatchPatternRow = true := by
  unfold joinedFacts
  have key : ∀ a b : Bool, a = true → b = true → (a && b) = true := fun a b h1 h2 => by rw [h1, h2]; rfl
  repeat' (with_reducible refine key _ _ ?_ ?_)
  all_goals as_aux_lemma => kernel_rfl

theorem over : Rows.fnExactMatchPatternRow.holds Tryz.pinned (OpenSpec.ofChange Rows.fnExactMatchPatternSpec) :=
  OpenClaim.holds_of_wide 3 Tryz.f3 rfl rfl rfl rfl rfl rfl rfl ⟨rfl, rfl, rfl, rfl, rfl⟩ rfl rfl rfl rfl rfl (by kernel_rfl) Tryz.func3 closed
    (of_decide_eq_true (by kernel_rfl)) (by unfold Func.isWrapper; first | (rw [if_pos (by decide +kernel)]; kernel_rfl) | (rw [if_neg (by decide +kernel)]; exact ⟨rfl, rfl⟩))
    (fun os started H enc _ => lifted os started H enc)

theorem proved : Rows.FnExactMatchPatternSaid := over
end Go.Proofs.YtghekinfoadcoaaGreat.fnExactMatchPattern
