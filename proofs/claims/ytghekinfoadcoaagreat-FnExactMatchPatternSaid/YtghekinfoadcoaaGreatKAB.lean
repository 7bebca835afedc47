/-
  Lemmas and contracts of functions: Contract of eqBindS at equal lists. Conditions: both stand for the same list. Small contracts on types: within, l1Arg, argOk, l1Big, l1Data. Conditions: none. Contracts of the two functions NameValid (the program's and the reference's). Conditions: none. l1Ctor of the reference: a constructor within the limits. Conditions: none. l1Big, l1Data: names of data types. Conditions: none. What a valid world is, in plain Lean: one walk over the data types with the names met so far. Conditions: none. What a valid type is. Conditions: none. What a valid world gives: bounds on its parts. Conditions: none. Matching a value, in plain Lean. Conditions: none. Slices that a call made itself and appends to: what they stand for, and the law of append in these words. Conditions: none. Writing every part of a datum anew (mark) and reading it back (held): what changes in memory. Conditions: none. A node of a tree under construction: its cells lie in a block, its kids are appended one by one. Conditions: none. The law of append on slices of the call's own, at a step of a region that draws its order. Conditions: none. A node of a tree under construction, as in Kid: its kids' row may begin anywhere behind the node. Conditions: none. The cells of elements of slices that came in, in a later world. Conditions: none. Slices of types that a call makes. Conditions: none. argTypes of the program. Conditions: the constructor is one of the world. l1Args of the reference. Conditions: the constructor is one of the world. ctorsOf of the program: the constructors that can make values of a type. Conditions: the type lies in the world, the world is not too large. l1Twice of the reference: a name stands before. Conditions: the place lies in the world. What a valid world is, step by step, in plain Lean. Conditions: none. WorldValid of the reference. Conditions: none.
-/
import Derived.Test.YtghekinfoadcoaaGreatKAA
import Derived.Test.YtghekinfoadcoaaGreatChecked
import Derived.Deep.RegionHeld3
import Derived.Deep.RegionWith
import Derived.Deep.AppendLies
import Derived.Maps.AppendAt
import Derived.Deep.QuietTactic
import Derived.BigQuiet

set_option linter.unusedVariables false
set_option linter.unusedSimpArgs false
set_option maxRecDepth 100000
set_option maxHeartbeats 1600000

namespace Go.Proofs.YtghekinfoadcoaaGreat
open Go.RowKit
set_option maxHeartbeats 800000 in
theorem eqBindS_any (ks:List Bd) (w:World) (F F2:List Nat) (x y:Value) (hx:Arr w (BdR w) ks x F) (hy:Arr w (BdR w) ks y F2) (hF:Under w.heap.size F) (hF2:Under w.heap.size F2) :
  Calls Tryz.prog 17 #[x,y] w fun e w'=>e=.returned (.bool true)∧Below w.heap.size w w':=by
 have HX:=jj hx
 have HY:=jj hy
 obtain ⟨A,cap,rfl,hl,hm⟩:=hx.form
 obtain ⟨A',cap',rfl,hl',hm'⟩:=hy.form
 clear hx hy
 have HF:=jj hF
 have HF2:=jj hF2
 clear hF hF2
 go_enter Tryz.func17,Tryz.ntmps17
 go_wp2
 go_loopw [5] (fun i wr=>∃ k:Nat,k≤ks.length∧i=.int .i64 k∧Below w.heap.size w wr) (fun i _=>ks.length-(intOf i).toNat)
 case atStart=>exact ⟨0,Nat.zero_le _,rfl,zy2 _ _⟩
 case round =>
  obtain ⟨k,hk,rfl,hB⟩:=hrel
  have hBs:=hB.size
  by_cases hlt:k<ks.length
  ·obtain ⟨b,off,cs,G,rfl,hb,hcs,hvc,hG⟩:=HX.out.get BdR_len hlt
   have hbl:=HF.out b hb
   have hGFc:=HF.out.sub hG
   have hwc:=hvc.below hB hGFc
   have hcsc:=hcs.same (hB.block b hbl)
   obtain ⟨A1,cap1,rfl⟩:=BdR_form hvc
   have c0:=hcsc 0 _ rfl
   have c1:=hcsc 1 _ rfl
   have c2:=hcsc 2 _ rfl
   have c3:=hcsc 3 _ rfl
   simp only [Nat.add_zero] at c0
   clear hcs hcsc hvc hG
   have HV:=jj hwc
   clear hwc
   have HG:=jj hGFc
   clear hGFc
   obtain ⟨b2,off2,ds,G2,rfl,hb2,hds,hvd,hG2⟩:=HY.out.get BdR_len hlt
   have hbl2:=HF2.out b2 hb2
   have hGFd:=HF2.out.sub hG2
   have hwd:=hvd.below hB hGFd
   have hcsd:=hds.same (hB.block b2 hbl2)
   obtain ⟨A2,cap2,rfl⟩:=BdR_form hvd
   have d0:=hcsd 0 _ rfl
   have d1:=hcsd 1 _ rfl
   have d2:=hcsd 2 _ rfl
   have d3:=hcsd 3 _ rfl
   simp only [Nat.add_zero] at d0
   clear hds hcsd hvd hG2
   have HV2:=jj hwd
   clear hwd
   have HG2:=jj hGFd
   clear hGFd
   go_wp2_with fail
   have hkeep:∀ U U':World,(U.cell? ⟨b,off+k*4,none⟩=some (.int .i64 ks[k].var)∧U.cell? ⟨b,off+k*4+1,none⟩=some (.int .i64 ks[k].val.c)∧U.cell? ⟨b,off+k*4+2,none⟩=some (.int .i64 ks[k].val.n)∧U.cell? ⟨b,off+k*4+3,none⟩=some (.slice A1 ks[k].val.ks.length cap1)∧U.cell? ⟨b2,off2+k*4,none⟩=some (.int .i64 ks[k].var)∧U.cell? ⟨b2,off2+k*4+1,none⟩=some (.int .i64 ks[k].val.c)∧U.cell? ⟨b2,off2+k*4+2,none⟩=some (.int .i64 ks[k].val.n)∧U.cell? ⟨b2,off2+k*4+3,none⟩=some (.slice A2 ks[k].val.ks.length cap2))→Below U.heap.size U U'→wr.heap.size≤U.heap.size→(U'.cell? ⟨b,off+k*4,none⟩=some (.int .i64 ks[k].var)∧U'.cell? ⟨b,off+k*4+1,none⟩=some (.int .i64 ks[k].val.c)∧U'.cell? ⟨b,off+k*4+2,none⟩=some (.int .i64 ks[k].val.n)∧U'.cell? ⟨b,off+k*4+3,none⟩=some (.slice A1 ks[k].val.ks.length cap1)∧U'.cell? ⟨b2,off2+k*4,none⟩=some (.int .i64 ks[k].var)∧U'.cell? ⟨b2,off2+k*4+1,none⟩=some (.int .i64 ks[k].val.c)∧U'.cell? ⟨b2,off2+k*4+2,none⟩=some (.int .i64 ks[k].val.n)∧U'.cell? ⟨b2,off2+k*4+3,none⟩=some (.slice A2 ks[k].val.ks.length cap2)):=fun U U' h hb hU=>⟨(hb.cell (zz9 (show b<wr.heap.size from by omega) hU)).trans h.1,(hb.cell (zz9 (show b<wr.heap.size from by omega) hU)).trans h.2.1,(hb.cell (zz9 (show b<wr.heap.size from by omega) hU)).trans h.2.2.1,(hb.cell (zz9 (show b<wr.heap.size from by omega) hU)).trans h.2.2.2.1,(hb.cell (zz9 (show b2<wr.heap.size from by omega) hU)).trans h.2.2.2.2.1,(hb.cell (zz9 (show b2<wr.heap.size from by omega) hU)).trans h.2.2.2.2.2.1,(hb.cell (zz9 (show b2<wr.heap.size from by omega) hU)).trans h.2.2.2.2.2.2.1,(hb.cell (zz9 (show b2<wr.heap.size from by omega) hU)).trans h.2.2.2.2.2.2.2⟩
   have HKeep:=jj hkeep
   clear hkeep
   go_region_held3 (fun w'=>w'.cell? ⟨b,off+k*4,none⟩=some (.int .i64 ks[k].var)∧w'.cell? ⟨b,off+k*4+1,none⟩=some (.int .i64 ks[k].val.c)∧w'.cell? ⟨b,off+k*4+2,none⟩=some (.int .i64 ks[k].val.n)∧w'.cell? ⟨b,off+k*4+3,none⟩=some (.slice A1 ks[k].val.ks.length cap1)∧w'.cell? ⟨b2,off2+k*4,none⟩=some (.int .i64 ks[k].var)∧w'.cell? ⟨b2,off2+k*4+1,none⟩=some (.int .i64 ks[k].val.c)∧w'.cell? ⟨b2,off2+k*4+2,none⟩=some (.int .i64 ks[k].val.n)∧w'.cell? ⟨b2,off2+k*4+3,none⟩=some (.slice A2 ks[k].val.ks.length cap2)) (first | assumption | (exact ⟨c0,c1,c2,c3,d0,d1,d2,d3⟩) | (exact HKeep.out wr.drew w' ⟨c0,c1,c2,c3,d0,d1,d2,d3⟩ hB' (zz8 _))) (first | (go_at_call 45;((with_reducible refine (eqBind_any ks[k] _ _ _ G G2 HV.out.drew HV2.out.drew (Under.drew (HG.out.mono hB.size)) (Under.drew (HG2.out.mono hB.size))).mono ?_);rintro e w' ⟨rfl,hB'⟩)))
   have hB3:=hB.drew.trans (hB'.mono hB.size)
   go_wp2
   go_roundw
   case rel=>exact ⟨k+1,by omega,by go_num,hB3⟩
   case measure=>simp [intOf];omega
  ·go_wp2
   go_ret
   exact ⟨rfl,hB⟩
def withinB (n lo hi:Int):Bool:=decide (lo≤n) && decide (n≤hi)
theorem withinB_lo {n lo hi:Int} (h:decide (lo≤n)=false):withinB n lo hi=false:=by unfold withinB;rw [h];rfl
theorem withinB_hi {n lo hi:Int} (h:decide (lo≤n)=true):withinB n lo hi=decide (n≤hi):=by unfold withinB;rw [h];rfl
theorem zAJ (n lo hi:Int):withinB n lo hi=true↔lo≤n∧n≤hi:=by unfold withinB;simp
set_option maxHeartbeats 400000 in
theorem zAE (n lo hi:Int) (w:World):Calls Tryz.prog 105 #[.int .i64 n,.int .i64 lo,.int .i64 hi] w fun e w'=>e=.returned (.bool (withinB n lo hi))∧w=w':=by
 cases h:decide (lo≤n) with
 |false =>
  have hf:=jj (withinB_lo (hi:=hi) h)
  go_enter Tryz.func105,Tryz.ntmps105
  go_wp2
  go_ret
  exact ⟨zA0 hf.out.symm,rfl⟩
 |true =>
  have hf:=jj (withinB_hi (hi:=hi) h)
  go_enter Tryz.func105,Tryz.ntmps105
  go_wp2
  go_ret
  exact ⟨zA0 hf.out.symm,rfl⟩
def argOkB (n:Int) (t:Ty):Bool:=if t.d = -1 then t.i==0 else withinB t.d 0 (n-1) && withinB t.i (-1) 3
set_option maxHeartbeats 800000 in
theorem spec_l1Arg (n:Int) (t:Ty) (w:World):Calls Tryz.prog 123 #[.int .i64 n,.agg #[.int .i64 t.d,.int .i64 t.i]] w fun e w'=>e=.returned (.bool (argOkB n t))∧Below w.heap.size w w':=by
 by_cases h:t.d = -1
 ·have h0:(t.d == -1)=true:=by simpa using h
  have hf:Hid (argOkB n t=(t.i==0)):=by unfold Hid argOkB;rw [if_pos h]
  clear h
  go_enter Tryz.func123,Tryz.ntmps123
  go_wp2
  go_ret
  exact ⟨zA0 hf.out.symm,(zy2 _ _).alloc (zz8 _) _⟩
 ·have h0:(t.d == -1)=false:=by simpa using h
  have hf0:argOkB n t=(withinB t.d 0 (n-1) && withinB t.i (-1) 3):=by unfold argOkB;rw [if_neg h]
  clear h
  have d1:decide (0≤t.d)=decide (t.d≥0):=rfl
  cases h1:decide (0≤t.d) with
  |false =>
   have hf:Hid (argOkB n t=false):=by rw [hf0,withinB_lo h1];rfl
   clear hf0 d1
   go_enter Tryz.func123,Tryz.ntmps123
   go_wp2
   go_ret
   exact ⟨zA0 hf.out.symm,(zy2 _ _).alloc (zz8 _) _⟩
  |true =>
   cases h2:decide (t.d<n) with
   |false =>
    have hf:Hid (argOkB n t=false):=by
     rw [hf0,withinB_hi h1]
     have:decide (t.d≤n-1)=false:=by simp at h2 ⊢;omega
     rw [this];rfl
    clear hf0 d1
    go_enter Tryz.func123,Tryz.ntmps123
    go_wp2
    go_ret
    exact ⟨zA0 hf.out.symm,(zy2 _ _).alloc (zz8 _) _⟩
   |true =>
    have hf1:argOkB n t=withinB t.i (-1) 3:=by
     rw [hf0,withinB_hi h1]
     have:decide (t.d≤n-1)=true:=by simp at h2 ⊢;omega
     rw [this];rfl
    clear hf0 d1
    cases h3:decide (-1≤t.i) with
    |false =>
     have hf:Hid (argOkB n t=false):=by rw [hf1,withinB_lo h3];rfl
     clear hf1
     go_enter Tryz.func123,Tryz.ntmps123
     go_wp2
     go_ret
     exact ⟨zA0 hf.out.symm,(zy2 _ _).alloc (zz8 _) _⟩
    |true =>
     have hf:Hid (argOkB n t=decide (t.i≤3)):=by rw [hf1,withinB_hi h3];rfl
     clear hf1
     go_enter Tryz.func123,Tryz.ntmps123
     go_wp2
     go_ret
     exact ⟨zA0 hf.out.symm,(zy2 _ _).alloc (zz8 _) _⟩
set_option maxHeartbeats 800000 in
theorem impl_argOk (A:Option Addr) (n cap:Nat) (t:Ty) (w:World) (hn:n≤9223372036854775807):Calls Tryz.prog 150 #[.slice A n cap,.agg #[.int .i64 t.d,.int .i64 t.i]] w fun e w'=>e=.returned (.bool (argOkB n t))∧Below w.heap.size w w':=by
 cases h0:(t.d == -1) with
 |true =>
  cases h1:(t.i==0) with
  |true =>
   have hf:Hid (argOkB n t=true):=by unfold Hid argOkB;rw [if_pos (by simpa using h0),h1]
   go_enter Tryz.func150,Tryz.ntmps150
   go_wp2
   go_ret
   exact ⟨zA0 hf.out.symm,(zy2 _ _).alloc (zz8 _) _⟩
  |false =>
   have hf:Hid (argOkB n t=false):=by unfold Hid argOkB;rw [if_pos (by simpa using h0),h1]
   have hw:Hid (withinB t.d 0 ((n:Int)-1)=false):=by
    have:t.d = -1:=by simpa using h0
    exact withinB_lo (by rw [this];rfl)
   go_enter Tryz.func150,Tryz.ntmps150
   go_wp2_with fail
   refine (zAE t.d 0 ((n:Int)-1) _).mono ?_
   rintro e w' ⟨rfl,rfl⟩
   rw [hw.out]
   go_wp2
   go_ret
   exact ⟨zA0 hf.out.symm,(zy2 _ _).alloc (zz8 _) _⟩
 |false =>
  have hf0:argOkB n t=(withinB t.d 0 ((n:Int)-1) && withinB t.i (-1) 3):=by unfold argOkB;rw [if_neg (by simpa using h0)]
  cases hw:withinB t.d 0 ((n:Int)-1) with
  |false =>
   have hf:Hid (argOkB n t=false):=by rw [hf0,hw];rfl
   have HW:=jj hw
   clear hf0 hw
   go_enter Tryz.func150,Tryz.ntmps150
   go_wp2_with fail
   refine (zAE t.d 0 ((n:Int)-1) _).mono ?_
   rintro e w' ⟨rfl,rfl⟩
   rw [HW.out]
   go_wp2
   go_ret
   exact ⟨zA0 hf.out.symm,(zy2 _ _).alloc (zz8 _) _⟩
  |true =>
   have hf:Hid (argOkB n t=withinB t.i (-1) 3):=by rw [hf0,hw];rfl
   have HW:=jj hw
   clear hf0 hw
   go_enter Tryz.func150,Tryz.ntmps150
   go_wp2_with fail
   refine (zAE t.d 0 ((n:Int)-1) _).mono ?_
   rintro e w' ⟨rfl,rfl⟩
   rw [HW.out]
   go_wp2_with fail
   refine (zAE t.i (-1) 3 _).mono ?_
   rintro e w' ⟨rfl,rfl⟩
   generalize hbb:withinB t.i (-1) 3=bb
   have HBB:=jj hbb
   clear hbb
   go_wp2
   go_ret
   exact ⟨zA0 (hf.out.trans HBB.out).symm,(zy2 _ _).alloc (zz8 _) _⟩
theorem bytes_cons (s:ByteArray) (h:0<s.size):s.data.toList=s[0] :: s.data.toList.drop 1:=by
 rw [show s[0]=s.data.toList[0]'(by simpa using h) from rfl,List.getElem_cons_drop];rfl
theorem zAV (s:ByteArray) (h:s.size=0∨5<s.size):nameOk s.data.toList=false:=by
 rcases h with h | h
 ·rw [show s.data.toList=[] from List.eq_nil_of_length_eq_zero (by simpa using h)];rfl
 ·rw [bytes_cons s (by omega),nameOk_cons]
  have:decide ((s.data.toList.drop 1).length≤4)=false:=decide_eq_false (by simp;omega)
  rw [this];rfl
theorem zAS (s:ByteArray) (h0:0<s.size) (h:(s[0].toNat:Int)<65∨(90:Int)<(s[0].toNat:Int)):nameOk s.data.toList=false:=by
 rw [bytes_cons s h0,nameOk_cons]
 have h2:(decide (65≤s[0].toNat) && decide (s[0].toNat≤90))=false:=by simp;omega
 rw [h2];simp
theorem lower_false_at (l:List UInt8) (k:Nat) (hk:k<l.length) (h:(l[k].toNat:Int)<97∨(122:Int)<(l[k].toNat:Int)):lowerAll l=false:=by
 have:l[k]∈l:=List.getElem_mem hk
 unfold lowerAll
 rw [List.all_eq_false]
 refine ⟨_,this,?_⟩
 simp [UInt8.le_iff_toNat_le]
 omega
theorem nameOk_false_at (s:ByteArray) (k:Nat) (h1:1≤k) (hk:k<s.size) (h:(s[k].toNat:Int)<97∨(122:Int)<(s[k].toNat:Int)):nameOk s.data.toList=false:=by
 rw [bytes_cons s (by omega),nameOk_cons]
 have:lowerAll (s.data.toList.drop 1)=false:=lower_false_at _ (k-1) (by simp;omega) (by
  have e:(s.data.toList.drop 1)[k-1]'(by simp;omega)=s[k]:=by
   rw [List.getElem_drop]
   show s.data.toList[1+(k-1)]'_=s.data.toList[k]'_
   congr 1;omega
  rw [e];exact h)
 rw [this];simp
theorem nameOk_true (s:ByteArray) (h0:0<s.size) (h5:s.size≤5) (ha:65≤(s[0].toNat:Int)) (hz:(s[0].toNat:Int)≤90) (h:∀ k (hk:k<s.size),1≤k→97≤(s[k].toNat:Int)∧(s[k].toNat:Int)≤122):nameOk s.data.toList=true:=by
 rw [bytes_cons s h0,nameOk_cons]
 have hl:lowerAll (s.data.toList.drop 1)=true:=by
  unfold lowerAll
  rw [List.all_eq_true]
  intro c hc
  obtain ⟨k,hk,rfl⟩:=List.getElem_of_mem hc
  have hk':1+k<s.size:=by simp at hk;omega
  have:=h (1+k) hk' (by omega)
  have e:(s.data.toList.drop 1)[k]=s[1+k]:=by rw [List.getElem_drop];rfl
  rw [e]
  simp [UInt8.le_iff_toNat_le]
  omega
 rw [hl,decide_eq_true (show (s.data.toList.drop 1).length≤4 by simp;omega),decide_eq_true (show 65≤s[0].toNat by omega),decide_eq_true (show s[0].toNat≤90 by omega)];rfl
set_option maxHeartbeats 1000000 in
theorem spec_NameValid (s:ByteArray) (w:World) (hs:s.size≤maxLen) :
  Calls Tryz.prog 157 #[.string s] w fun e w'=>e=.returned (.bool (nameOk s.data.toList))∧w=w':=by
 unfold maxLen at hs
 by_cases h0:s.size=0
 ·have hf:=jj (zAV s (.inl h0))
  have e0:((s.size:Int)==0)=true:=beq_iff_eq.2 (by omega)
  have e1:(s.size:Int)<1:=by omega
  clear h0
  go_enter Tryz.func157,Tryz.ntmps157
  go_wp2
  go_ret
  exact ⟨zA0 hf.out.symm,rfl⟩
 ·have e0:((s.size:Int)==0)=false:=beq_eq_false_iff_ne.2 (by omega)
  have e1:1≤(s.size:Int):=by omega
  by_cases h5:5<s.size
  ·have hf:=jj (zAV s (.inr h5))
   have e5:(5:Int)<(s.size:Int):=by omega
   go_enter Tryz.func157,Tryz.ntmps157
   go_wp2
   go_ret
   exact ⟨zA0 hf.out.symm,rfl⟩
  ·have p0:0<s.size:=by omega
   have p0':(0:Int)<(s.size:Int):=by omega
   have e5:(s.size:Int)≤5:=by omega
   by_cases ha:(s[0].toNat:Int)<65
   ·have hf:=jj (zAS s p0 (.inl ha))
    go_enter Tryz.func157,Tryz.ntmps157
    go_wp2
    go_ret
    exact ⟨zA0 hf.out.symm,rfl⟩
   ·have ha1:65≤(s[0].toNat:Int):=by omega
    clear ha
    by_cases ha:(90:Int)<(s[0].toNat:Int)
    ·have hf:=jj (zAS s p0 (.inr ha))
     have hd:decide ((s[0].toNat:Int)≤90)=false:=decide_eq_false (by omega)
     go_enter Tryz.func157,Tryz.ntmps157
     go_wp2
     go_ret
     exact ⟨zA0 hf.out.symm,rfl⟩
    ·have ha2:(s[0].toNat:Int)≤90:=by omega
     clear ha
     go_enter Tryz.func157,Tryz.ntmps157
     go_wp2
     go_loop [3] (fun i=>∃ k:Nat,1≤k∧k≤s.size∧i=.int .i64 k∧Hid (∀ j (hj:j<s.size),1≤j→j<k→97≤(s[j].toNat:Int)∧(s[j].toNat:Int)≤122)) (fun i=>s.size-(intOf i).toNat)
     case atStart=>exact ⟨1,zz8 _,by omega,rfl,fun j _ _ _=>by omega⟩
     case round =>
      obtain ⟨k,hk1,hk,rfl,HA⟩:=hrel
      by_cases hlt:k<s.size
      ·by_cases hc:(s[k].toNat:Int)<97
       ·have hf:=jj (nameOk_false_at s k hk1 hlt (.inl hc))
        go_wp2
        go_ret
        exact ⟨zA0 hf.out.symm,rfl⟩
       ·have hc1:97≤(s[k].toNat:Int):=by omega
        clear hc
        by_cases hc:(122:Int)<(s[k].toNat:Int)
        ·have hf:=jj (nameOk_false_at s k hk1 hlt (.inr hc))
         go_wp2
         go_ret
         exact ⟨zA0 hf.out.symm,rfl⟩
        ·have hc2:(s[k].toNat:Int)≤122:=by omega
         clear hc
         go_wp2
         go_round
         case rel=>exact ⟨k+1,by omega,by omega,by go_num,fun j hj h1 h2=>by
          rcases Nat.lt_or_ge j k with h | h
          ·exact HA.out j hj h1 h
          ·obtain rfl:j=k:=by omega
           exact ⟨hc1,hc2⟩⟩
         case measure=>simp [intOf];omega
      ·have hf:=jj (nameOk_true s p0 (by omega) ha1 ha2 (fun j hj h1=>HA.out j hj h1 (by omega)))
       go_wp2
       go_ret
       exact ⟨zA0 hf.out.symm,rfl⟩
set_option maxHeartbeats 1000000 in
theorem impl_NameValid (s:ByteArray) (w:World) (hs:s.size≤maxLen) :
  Calls Tryz.prog 147 #[.string s] w fun e w'=>e=.returned (.bool (nameOk s.data.toList))∧w=w':=by
 unfold maxLen at hs
 by_cases h0:s.size=0
 ·have hf:=jj (zAV s (.inl h0))
  have e0:((s.size:Int)==0)=true:=beq_iff_eq.2 (by omega)
  have e1:(s.size:Int)<1:=by omega
  clear h0
  go_enter Tryz.func147,Tryz.ntmps147
  go_wp2
  go_ret
  exact ⟨zA0 hf.out.symm,rfl⟩
 ·have e0:((s.size:Int)==0)=false:=beq_eq_false_iff_ne.2 (by omega)
  have e1:1≤(s.size:Int):=by omega
  by_cases h5:5<s.size
  ·have hf:=jj (zAV s (.inr h5))
   have e5:(5:Int)<(s.size:Int):=by omega
   go_enter Tryz.func147,Tryz.ntmps147
   go_wp2
   go_ret
   exact ⟨zA0 hf.out.symm,rfl⟩
  ·have p0:0<s.size:=by omega
   have p0':(0:Int)<(s.size:Int):=by omega
   have e5:(s.size:Int)≤5:=by omega
   by_cases ha:(s[0].toNat:Int)<65
   ·have hf:=jj (zAS s p0 (.inl ha))
    go_enter Tryz.func147,Tryz.ntmps147
    go_wp2
    go_ret
    exact ⟨zA0 hf.out.symm,rfl⟩
   ·have ha1:65≤(s[0].toNat:Int):=by omega
    clear ha
    by_cases ha:(90:Int)<(s[0].toNat:Int)
    ·have hf:=jj (zAS s p0 (.inr ha))
     have hd:decide ((s[0].toNat:Int)≤90)=false:=decide_eq_false (by omega)
     go_enter Tryz.func147,Tryz.ntmps147
     go_wp2
     go_ret
     exact ⟨zA0 hf.out.symm,rfl⟩
    ·have ha2:(s[0].toNat:Int)≤90:=by omega
     clear ha
     go_enter Tryz.func147,Tryz.ntmps147
     go_wp2
     go_loop [3] (fun i=>∃ k:Nat,1≤k∧k≤s.size∧i=.int .i64 k∧Hid (∀ j (hj:j<s.size),1≤j→j<k→97≤(s[j].toNat:Int)∧(s[j].toNat:Int)≤122)) (fun i=>s.size-(intOf i).toNat)
     case atStart=>exact ⟨1,zz8 _,by omega,rfl,fun j _ _ _=>by omega⟩
     case round =>
      obtain ⟨k,hk1,hk,rfl,HA⟩:=hrel
      by_cases hlt:k<s.size
      ·by_cases hc:(s[k].toNat:Int)<97
       ·have hf:=jj (nameOk_false_at s k hk1 hlt (.inl hc))
        go_wp2
        go_ret
        exact ⟨zA0 hf.out.symm,rfl⟩
       ·have hc1:97≤(s[k].toNat:Int):=by omega
        clear hc
        by_cases hc:(122:Int)<(s[k].toNat:Int)
        ·have hf:=jj (nameOk_false_at s k hk1 hlt (.inr hc))
         go_wp2
         go_ret
         exact ⟨zA0 hf.out.symm,rfl⟩
        ·have hc2:(s[k].toNat:Int)≤122:=by omega
         clear hc
         go_wp2
         go_round
         case rel=>exact ⟨k+1,by omega,by omega,by go_num,fun j hj h1 h2=>by
          rcases Nat.lt_or_ge j k with h | h
          ·exact HA.out j hj h1 h
          ·obtain rfl:j=k:=by omega
           exact ⟨hc1,hc2⟩⟩
         case measure=>simp [intOf];omega
      ·have hf:=jj (nameOk_true s p0 (by omega) ha1 ha2 (fun j hj h1=>HA.out j hj h1 (by omega)))
       go_wp2
       go_ret
       exact ⟨zA0 hf.out.symm,rfl⟩
def ctorOkB (n:Int) (c:Kt):Bool:=nameOk c.name.data.toList && (decide ((c.args.length:Int)≤3) && (withinB c.idx 0 3 && c.args.all (argOkB n)))
theorem all_drop {α:Type} (p:α→Bool) (l:List α) (k:Nat) (h:k<l.length):(l.drop k).all p=(p l[k] && (l.drop (k+1)).all p):=by
 rw [List.drop_eq_getElem_cons h];rfl
theorem spec_l1Ctor (n:Int) (c:Kt) (w:World) (cs:List Value) (F:List Nat) (hv:KtR w c cs F) (hF:Under w.heap.size F) :
  Calls Tryz.prog 121 #[.int .i64 n,.agg cs.toArray] w fun e w'=>e=.returned (.bool (ctorOkB n c))∧Below w.heap.size w w':=by
 obtain ⟨kv,rfl,ha,hs⟩:=hv
 have HX:=jj ha
 obtain ⟨A,cap,rfl,hc1,hc2⟩:=ha.form
 clear ha
 have HF:=jj hF
 have HS:=jj hs
 clear hF hs
 go_enter Tryz.func121,Tryz.ntmps121
 go_wp2_with fail
 obtain ⟨W2,hW2⟩:∃ W2,W2=w.alloc (.cells #[.string c.name,.slice A c.args.length cap,.int .i64 c.idx] 122):=⟨_,rfl⟩
 have hB2:Below w.heap.size w W2:=by rw [hW2];exact (zy2 _ _).alloc (zz8 _) _
 have k1:Blk W2 w.heap.size 122 #[.string c.name,.slice A c.args.length cap,.int .i64 c.idx]:=by rw [hW2];exact Blk.new _ _ _
 rw [←hW2]
 clear hW2
 have x1:W2.cell? ⟨w.heap.size,1,none⟩=some (.slice A c.args.length cap):=(k1.cell 1).trans (by simp)
 have x2:W2.cell? ⟨w.heap.size,2,none⟩=some (.int .i64 c.idx):=(k1.cell 2).trans (by simp)
 have hlt0:=k1.lt
 have K1:=jj k1
 clear k1
 refine (spec_NameValid c.name W2 (by have:=HS.out;unfold maxLen;omega)).mono ?_
 rintro e w' ⟨rfl,rfl⟩
 cases hn:nameOk c.name.data.toList with
 |false =>
  have hf:Hid (ctorOkB n c=false):=by unfold Hid ctorOkB;rw [hn];rfl
  clear hn
  go_wp2
  go_ret
  exact ⟨zA0 hf.out.symm,hB2⟩
 |true =>
  have h0:ctorOkB n c=(decide ((c.args.length:Int)≤3) && (withinB c.idx 0 3 && c.args.all (argOkB n))):=by unfold ctorOkB;rw [hn,Bool.true_and]
  clear hn
  by_cases hl:(c.args.length:Int)≤3
  ·have t1:decide ((c.args.length:Int)>3)=false:=by simp;omega
   have h1:ctorOkB n c=(withinB c.idx 0 3 && c.args.all (argOkB n)):=by rw [h0,decide_eq_true hl,Bool.true_and]
   clear h0 hl
   by_cases hi:c.idx<0
   ·have t2:decide (c.idx<0)=true:=by simpa using hi
    have hf:Hid (ctorOkB n c=false):=by rw [h1,withinB_lo (by simp;omega)];rfl
    clear h1 hi
    go_wp2
    go_ret
    exact ⟨zA0 hf.out.symm,hB2⟩
   ·have t2:decide (c.idx<0)=false:=by simpa using hi
    by_cases hj:c.idx>3
    ·have t3:decide (c.idx>3)=true:=by simpa using hj
     have hf:Hid (ctorOkB n c=false):=by rw [h1,withinB_hi (by simp;omega),show decide (c.idx≤3)=false from by simp;omega];rfl
     clear h1 hi hj
     go_wp2
     go_ret
     exact ⟨zA0 hf.out.symm,hB2⟩
    ·have t3:decide (c.idx>3)=false:=by simpa using hj
     have h2:ctorOkB n c=c.args.all (argOkB n):=by rw [h1,(zAJ _ _ _).2 ⟨by omega,by omega⟩,Bool.true_and]
     have HOk:=jj h2
     clear h1 hi hj h2
     go_wp2
     go_loopw [5] (fun i wr=>∃ k:Nat,k≤c.args.length∧i=.int .i64 k∧Hid (c.args.all (argOkB n)=(c.args.drop k).all (argOkB n))∧Below w.heap.size w wr∧Hid (Blk wr w.heap.size 122 #[.string c.name,.slice A c.args.length cap,.int .i64 c.idx])) (fun i _=>c.args.length-(intOf i).toNat)
     case atStart=>exact ⟨0,Nat.zero_le _,rfl,rfl,hB2,K1⟩
     case round =>
      obtain ⟨k,hk,rfl,HT,hB,KB⟩:=hrel
      clear x1 x2 hlt0
      have x1:wr.cell? ⟨w.heap.size,1,none⟩=some (.slice A c.args.length cap):=(KB.out.cell 1).trans (by simp)
      have hlt0:=KB.out.lt
      by_cases hlt:k<c.args.length
      ·have hi0:(0:Int)≤(k:Int):=by omega
       have hi1:(k:Int)<(c.args.length:Int):=by omega
       obtain ⟨b,off,cs,G,rfl,hb,hcs,hv,-⟩:=HX.out.get zAT hlt
       have hbl:=HF.out b hb
       have hcs:=hcs.same (hB.block b hbl)
       obtain rfl:=TyR_form hv
       have c0:=hcs 0 _ rfl
       have c1:=hcs 1 _ rfl
       simp only [Nat.add_zero] at c0
       clear hcs hv hb
       have hbw:=zz9 hbl hB.size
       have hd:=all_drop (argOkB n) c.args k hlt
       go_wp2_with fail
       refine (spec_l1Arg n c.args[k] wr).mono ?_
       rintro e w' ⟨rfl,hB'⟩
       have hB3:=hB.trans (hB'.mono hB.size)
       have KB3:Hid (Blk w' w.heap.size 122 #[.string c.name,.slice (some ⟨b,off,none⟩) c.args.length cap,.int .i64 c.idx]):=KB.out.same (hB'.block _ KB.out.lt)
       cases hq:argOkB n c.args[k] with
       |false =>
        have hf:Hid (ctorOkB n c=false):=by rw [hq,Bool.false_and] at hd;exact HOk.out.trans (HT.out.trans hd)
        clear hq hd
        go_wp2
        go_ret
        exact ⟨zA0 hf.out.symm,hB3⟩
       |true =>
        have hT2:Hid (c.args.all (argOkB n)=(c.args.drop (k+1)).all (argOkB n)):=by rw [hq,Bool.true_and] at hd;exact HT.out.trans hd
        clear hq hd
        go_wp2
        go_roundw
        case rel=>exact ⟨k+1,by omega,by go_num,hT2,hB3,KB3⟩
        case measure=>simp [intOf];omega
      ·have hT:=HT.out
       rw [List.drop_of_length_le (by omega)] at hT
       have hf:Hid (ctorOkB n c=true):=HOk.out.trans hT
       clear hT
       go_wp2
       go_ret
       exact ⟨zA0 hf.out.symm,hB⟩
  ·have t1:decide ((c.args.length:Int)>3)=true:=by simp;omega
   have hf:Hid (ctorOkB n c=false):=by rw [h0,decide_eq_false hl];rfl
   clear h0 hl
   go_wp2
   go_ret
   exact ⟨zA0 hf.out.symm,hB2⟩
def bigB (c:UInt8):Bool:=decide (65≤(c.toNat:Int)) && decide ((c.toNat:Int)≤90)
def dnameOk:List UInt8→Bool
 |[c]=>bigB c && !(c==73)
 |_=>false
set_option maxHeartbeats 400000 in
theorem spec_l1Big (c:UInt8) (w:World):Calls Tryz.prog 156 #[.int .u8 (c.toNat:Int)] w fun e w'=>e=.returned (.bool (bigB c))∧w=w':=by
 cases h:decide (65≤(c.toNat:Int)) with
 |false =>
  have hf:Hid (bigB c=false):=by unfold Hid bigB;rw [h];rfl
  go_enter Tryz.func156,Tryz.ntmps156
  go_wp2
  go_ret
  exact ⟨zA0 hf.out.symm,rfl⟩
 |true =>
  have hf:Hid (bigB c=decide ((c.toNat:Int)≤90)):=by unfold Hid bigB;rw [h];rfl
  go_enter Tryz.func156,Tryz.ntmps156
  go_wp2
  go_ret
  exact ⟨zA0 hf.out.symm,rfl⟩
theorem one_byte (s:ByteArray) (h:s.size=1):s.data.toList=[s[0]]:=by
 rw [bytes_cons s (by omega)]
 congr 1
 exact List.eq_nil_of_length_eq_zero (by simp;omega)
set_option maxHeartbeats 400000 in
theorem spec_l1Data (s:ByteArray) (w:World) (hs:s.size≤maxLen):Calls Tryz.prog 120 #[.string s] w fun e w'=>e=.returned (.bool (dnameOk s.data.toList))∧w=w':=by
 unfold maxLen at hs
 by_cases h:s.size=1
 ·have h1:=one_byte s h
  have h0:((s.size:Int)==1)=true:=beq_iff_eq.2 (by omega)
  have p0:0<s.size:=by omega
  have p0':(0:Int)<(s.size:Int):=by omega
  cases hb:bigB s[0] with
  |false =>
   have hf:Hid (dnameOk s.data.toList=false):=by
    rw [h1];show (bigB s[0] && !(s[0]==73))=false;rw [hb];rfl
   clear h1 h
   have HB:=jj hb
   clear hb
   go_enter Tryz.func120,Tryz.ntmps120
   go_wp2_with fail
   refine (spec_l1Big s[0] _).mono ?_
   rintro e w' ⟨rfl,rfl⟩
   rw [HB.out]
   go_wp2
   go_ret
   exact ⟨zA0 hf.out.symm,rfl⟩
  |true =>
   have hI:(s.toList==[73])=(s[0]==73):=by rw [ByteArray.toList_eq,h1];simp
   have hf:Hid (dnameOk s.data.toList=!(s.toList==[73])):=by
    rw [hI,h1];show (bigB s[0] && !(s[0]==73))=_;rw [hb];rfl
   clear h1 h hI
   have HB:=jj hb
   clear hb
   go_enter Tryz.func120,Tryz.ntmps120
   go_wp2_with fail
   refine (spec_l1Big s[0] _).mono ?_
   rintro e w' ⟨rfl,rfl⟩
   rw [HB.out]
   go_wp2
   go_ret
   exact ⟨zA0 hf.out.symm,rfl⟩
 ·have h0:((s.size:Int)==1)=false:=beq_eq_false_iff_ne.2 (by omega)
  have hf:Hid (dnameOk s.data.toList=false):=by
   have hl:s.data.toList.length≠1:=by simpa using h
   unfold Hid
   generalize s.data.toList=l at *
   match l,hl with
   |[],_=>rfl
   |[c],hl=>simp at hl
   |_ :: _ :: _,_=>rfl
  clear h
  go_enter Tryz.func120,Tryz.ntmps120
  go_wp2
  go_ret
  exact ⟨zA0 hf.out.symm,rfl⟩
def nameIn (l:List ByteArray) (s:ByteArray):Bool:=l.any fun x=>x.toList==s.toList
def ctorsGo (n:Int):List ByteArray→List Kt→Bool
 |_,[]=>true
 |met,c :: cs=>ctorOkB n c && (!nameIn met c.name && ctorsGo n (met ++ [c.name]) cs)
def ctorsSpec (n:Int) (b:Bool):List ByteArray→List Kt→Bool
 |_,[]=>true
 |met,c :: cs=>ctorOkB n c && (!(b || nameIn met c.name) && ctorsSpec n b (met ++ [c.name]) cs)
def worldGo (n:Int):List ByteArray→List ByteArray→List Dt→Bool
 |_,_,[]=>true
 |datas,met,d :: ds=>dnameOk d.name.data.toList && (!nameIn datas d.name && (withinB (d.ctors.length:Int) 1 4 && (ctorsGo n met d.ctors && worldGo n (datas ++ [d.name]) (met ++ d.ctors.map Kt.name) ds)))
def worldOk (xs:List Dt):Bool:=decide ((xs.length:Int)≤4) && worldGo xs.length [] [] xs
theorem ctorsSpec_false (n:Int):∀ (cs:List Kt) (met:List ByteArray),ctorsSpec n false met cs=ctorsGo n met cs
 |[],_=>rfl
 |c :: cs,met=>by rw [ctorsSpec,ctorsGo,ctorsSpec_false n cs,Bool.false_or]
theorem ctorsSpec_true (n:Int) (c:Kt) (cs:List Kt) (met:List ByteArray):ctorsSpec n true met (c :: cs)=false:=by
 rw [ctorsSpec,Bool.true_or,Bool.not_true,Bool.false_and,Bool.and_false]
theorem ctorsSpec_eq (n:Int) (b:Bool) (cs:List Kt) (met:List ByteArray) (h:cs≠[]):ctorsSpec n b met cs=(!b && ctorsGo n met cs):=by
 cases b with
 |false=>rw [ctorsSpec_false];rfl
 |true =>
  cases cs with
  |nil=>exact absurd rfl h
  |cons c cs=>rw [ctorsSpec_true];rfl
def typeOkB (n:Int) (t:Ty):Bool:=if t.d = -1 then t.i==0 else withinB t.d 0 (n-1) && withinB t.i 0 3
theorem typeOkB_arg (n:Int) (t:Ty):(argOkB n t && decide (0≤t.i))=typeOkB n t:=by
 unfold argOkB typeOkB
 by_cases h:t.d = -1
 ·rw [if_pos h,if_pos h,Bool.eq_iff_iff];simp;omega
 ·rw [if_neg h,if_neg h,Bool.eq_iff_iff];simp [withinB];omega
def typeValidB (xs:List Dt) (t:Ty):Bool:=worldOk xs && typeOkB xs.length t
theorem ctorsGo_all {n:Int}:∀ {cs:List Kt} {met:List ByteArray},ctorsGo n met cs=true→∀ c∈cs,ctorOkB n c=true
 |[],_,_,c,h=>by cases h
 |c :: cs,met,h,x,hx=>by
  simp only [ctorsGo,Bool.and_eq_true] at h
  rcases List.mem_cons.1 hx with rfl | hx
  ·exact h.1
  ·exact ctorsGo_all h.2.2 x hx
theorem worldGo_all {n:Int}:∀ {ds:List Dt} {datas met:List ByteArray},worldGo n datas met ds=true→∀ x∈ds,dnameOk x.name.data.toList=true∧(1≤x.ctors.length∧x.ctors.length≤4)∧∀ c∈x.ctors,ctorOkB n c=true
 |[],_,_,_,x,h=>by cases h
 |d :: ds,datas,met,h,x,hx=>by
  simp only [worldGo,Bool.and_eq_true] at h
  rcases List.mem_cons.1 hx with rfl | hx
  ·have:=(zAJ _ _ _).1 h.2.2.1
   exact ⟨h.1,⟨by omega,by omega⟩,ctorsGo_all h.2.2.2.1⟩
  ·exact worldGo_all h.2.2.2.2 x hx
structure KtOk (n:Nat) (c:Kt):Prop where
 name:nameOk c.name.data.toList=true
 args:c.args.length≤3
 lo:0≤c.idx
 hi:c.idx≤3
 all:∀ t∈c.args,argOkB n t=true
structure DtOk (n:Nat) (x:Dt):Prop where
 name:dnameOk x.name.data.toList=true
 lo:1≤x.ctors.length
 hi:x.ctors.length≤4
 all:∀ c∈x.ctors,KtOk n c
structure WorldOK (xs:List Dt):Prop where
 len:xs.length≤4
 all:∀ x∈xs,DtOk xs.length x
theorem ktOk {n:Nat} {c:Kt} (h:ctorOkB n c=true):KtOk n c:=by
 unfold ctorOkB at h
 simp only [Bool.and_eq_true,zAJ,decide_eq_true_eq,List.all_eq_true] at h
 exact ⟨h.1,by omega,h.2.2.1.1,h.2.2.1.2,h.2.2.2⟩
theorem worldOK {xs:List Dt} (h:worldOk xs=true):WorldOK xs:=by
 unfold worldOk at h
 simp only [Bool.and_eq_true,decide_eq_true_eq] at h
 exact ⟨by omega,fun x hx=>by
  obtain ⟨h1,h2,h3⟩:=worldGo_all h.2 x hx
  exact ⟨h1,h2.1,h2.2,fun c hc=>ktOk (h3 c hc)⟩⟩
theorem WorldOK.at {xs:List Dt} (h:WorldOK xs) {d:Nat} (hd:d<xs.length):DtOk xs.length xs[d]:=h.all _ (List.getElem_mem hd)
theorem WorldOK.ctor {xs:List Dt} (h:WorldOK xs) {d k:Nat} (hd:d<xs.length) (hk:k<xs[d].ctors.length):KtOk xs.length xs[d].ctors[k]:=(h.at hd).all _ (List.getElem_mem hk)
def InWorld (n:Nat) (t:Ty):Prop:=t.d = -1∨∃ d:Nat,t.d=(d:Int)∧d<n
theorem typeValid_split {xs:List Dt} {t:Ty} (h:typeValidB xs t=true):WorldOK xs∧typeOkB xs.length t=true:=by
 unfold typeValidB at h
 rw [Bool.and_eq_true] at h
 exact ⟨worldOK h.1,h.2⟩
mutual
def P.mat:P→V→Option (List Bd)
 |⟨op,ct,n,m,va,ks⟩,v =>
  if op=1 then some []
  else if op=2 then some [⟨va,v⟩]
  else if op=3 then (if withinB v.n n m=true then some [] else none)
  else if op=5 then P.mator ks v
  else if op=6 then (P.mator ks v).map (fun l=>⟨va,v⟩ :: l)
  else if v.c=ct then P.mats ks v.ks else none
def P.mats:List P→List V→Option (List Bd)
 |[],_=>some []
 |k :: ks,[]=>none
 |k :: ks,v :: vs=>match P.mat k v with
  |none=>none
  |some a=>match P.mats ks vs with
   |none=>none
   |some b=>some (a ++ b)
def P.mator:List P→V→Option (List Bd)
 |[],_=>none
 |k :: ks,v=>match P.mat k v with
  |none=>P.mator ks v
  |some a=>some a
end
theorem P.mat_eq (p:P) (v:V):P.mat p v=if p.op=1 then some [] else if p.op=2 then some [⟨p.va,v⟩] else if p.op=3 then (if withinB v.n p.n p.m=true then some [] else none) else if p.op=5 then P.mator p.ks v else if p.op=6 then (P.mator p.ks v).map (fun l=>⟨p.va,v⟩ :: l) else if v.c=p.ct then P.mats p.ks v.ks else none:=by
 obtain ⟨op,ct,n,m,va,ks⟩:=p
 rw [P.mat]
theorem mat_1 {p:P} {v:V} (h:p.op=1):P.mat p v=some []:=by rw [P.mat_eq,if_pos h]
theorem mat_2 {p:P} {v:V} (h:p.op=2):P.mat p v=some [⟨p.va,v⟩]:=by rw [P.mat_eq,if_neg (by omega),if_pos h]
theorem mat_3 {p:P} {v:V} (h:p.op=3):P.mat p v=if withinB v.n p.n p.m=true then some [] else none:=by rw [P.mat_eq,if_neg (by omega),if_neg (by omega),if_pos h]
theorem mat_5 {p:P} {v:V} {k0 k1:P} (h:p.op=5) (hk:p.ks=[k0,k1]):P.mat p v=(match P.mat k0 v with | some a=>some a | none=>P.mat k1 v):=by
 rw [P.mat_eq,if_neg (by omega),if_neg (by omega),if_neg (by omega),if_pos h,hk,P.mator,P.mator,P.mator]
 cases P.mat k0 v with
 |some a=>rfl
 |none=>cases P.mat k1 v <;> rfl
theorem mat_6 {p:P} {v:V} {k0:P} (h:p.op=6) (hk:p.ks=[k0]):P.mat p v=(P.mat k0 v).map (fun l=>⟨p.va,v⟩ :: l):=by
 rw [P.mat_eq,if_neg (by omega),if_neg (by omega),if_neg (by omega),if_neg (by omega),if_pos h,hk,P.mator,P.mator]
 cases P.mat k0 v <;> rfl
theorem mat_4 {p:P} {v:V} (h:p.op=4):P.mat p v=if v.c=p.ct then P.mats p.ks v.ks else none:=by rw [P.mat_eq,if_neg (by omega),if_neg (by omega),if_neg (by omega),if_neg (by omega),if_neg (by omega)]
theorem mats_nil (vs:List V):P.mats [] vs=some []:=by cases vs <;> rfl
theorem mats_snoc:∀ (ks:List P) (vs:List V) (k:P) (v:V),ks.length=vs.length→P.mats (ks ++ [k]) (vs ++ [v])=(match P.mats ks vs with | none=>none | some a=>match P.mat k v with | none=>none | some b=>some (a ++ b))
 |[],[],k,v,_=>by
  simp only [List.nil_append,P.mats]
  cases P.mat k v with
  |none=>rfl
  |some b=>simp
 |x :: ks,y :: vs,k,v,h=>by
  rw [List.cons_append,List.cons_append,P.mats,P.mats,mats_snoc ks vs k v (by simpa using h)]
  cases P.mat x y with
  |none=>rfl
  |some a =>
   cases P.mats ks vs with
   |none=>rfl
   |some b =>
    cases P.mat k v with
    |none=>rfl
    |some c=>simp
 |[],_ :: _,_,_,h=>by simp at h
 |_ :: _,[],_,_,h=>by simp at h
theorem mats_bad:∀ (ks:List P) (vs:List V) (i:Nat),P.mats (ks.take i) (vs.take i)=none→P.mats ks vs=none
 |[],vs,i,h=>by rw [List.take_nil,mats_nil] at h;cases h
 |k :: ks,vs,0,h=>by rw [List.take_zero,mats_nil] at h;cases h
 |k :: ks,[],i+1,h=>rfl
 |k :: ks,v :: vs,i+1,h=>by
  rw [List.take_succ_cons,List.take_succ_cons,P.mats] at h
  rw [P.mats]
  cases hk:P.mat k v with
  |none=>rfl
  |some a =>
   rw [hk] at h
   cases hm:P.mats (ks.take i) (vs.take i) with
   |none=>rw [mats_bad ks vs i hm]
   |some b=>rw [hm] at h;cases h
theorem mats_take {ks:List P} {vs:List V} {i:Nat} (h1:i<ks.length) (h2:i<vs.length):P.mats (ks.take (i+1)) (vs.take (i+1))=(match P.mats (ks.take i) (vs.take i) with | none=>none | some a=>match P.mat ks[i] vs[i] with | none=>none | some b=>some (a ++ b)):=by
 rw [List.take_succ_eq_append_getElem h1,List.take_succ_eq_append_getElem h2]
 exact mats_snoc _ _ _ _ (by rw [List.length_take,List.length_take];omega)
def rowOf (v:Value):List Nat:=v.ownBlock.toList
theorem zA1 {v:Value} {g:Nat}:g∈rowOf v↔v.ownBlock=some g:=by unfold rowOf;simp [Option.mem_toList]
theorem zAO:rowOf (.slice none 0 0)=[]:=rfl
theorem zA4 (g o n c:Nat):rowOf (.slice (some ⟨g,o,none⟩) n c)=[g]:=rfl
def Own {α:Type} (w:World) (B:Nat) (E:TypeId) (k:Nat) (R:World→α→List Value→List Nat→Prop) (xs:List α) (v:Value) (F:List Nat):Prop :=
 ∃ cs,w.ownsRow B E k v xs.length cs∧Flat (R w) xs cs F∧Under w.heap.size F∧∀ g∈rowOf v,g∉F
section
variable {α : Type} {w w' : World} {B k : Nat} {E : TypeId} {R : World → α → List Value → List Nat → Prop} {xs : List α} {v : Value} {F : List Nat}
theorem Own.nil (w:World) (B:Nat) (E:TypeId) (k:Nat) (R:World→α→List Value→List Nat→Prop):Own w B E k R ([]:List α) (.slice none 0 0) [] :=
 ⟨[],World.ownsRow_nil w B E k,⟨rfl,rfl⟩,Under.nil _,fun g h=>by simp [zAO] at h⟩
theorem Own.made (w:World) (B:Nat) (E:TypeId) (k:Nat) (R:World→α→List Value→List Nat→Prop) (cur:Array Value) (cap:Nat) (hB:B≤w.heap.size) (hm:cap≤maxLen) (hs:cur.size=cap*k):Own (w.alloc (.cells cur E)) B E k R ([]:List α) (.slice (some ⟨w.heap.size,0,none⟩) 0 cap) [] :=
 ⟨[],World.ownsRow_made w cur cap hB hm hs,⟨rfl,rfl⟩,Under.nil _,fun g _ h=>by cases h⟩
theorem Own.under (h:Own w B E k R xs v F):Under w.heap.size F:=h.choose_spec.2.2.1
theorem Own.row (h:Own w B E k R xs v F):∀ g∈rowOf v,B≤g∧g<w.heap.size:=fun g hg=>h.choose_spec.1.lt g (zA1.1 hg)
theorem Own.apart (h:Own w B E k R xs v F):∀ g∈rowOf v,g∉F:=h.choose_spec.2.2.2
theorem Own.mono (hR:∀ x cs G,Kept G w w'→R w x cs G→R w' x cs G) (h:Own w B E k R xs v F) (hk:Kept (rowOf v ++ F) w w') (hs:w.heap.size≤w'.heap.size):Own w' B E k R xs v F:=by
 obtain ⟨cs,h1,h2,h3,h4⟩:=h
 refine ⟨cs,⟨h1.1,?_⟩,h2.mono fun x _ cs G hG hr=>hR x cs G (fun b hb=>hk b (List.mem_append.2 (.inr (hG b hb)))) hr,h3.mono hs,h4⟩
 rcases h1.2 with hn | ⟨g,cap,cur,rfl,hb,hg,rest⟩
 ·exact .inl hn
 ·exact .inr ⟨g,cap,cur,rfl,hb,(hk g (by simp [zA4])).trans hg,rest⟩
theorem Own.below (hR:∀ x cs G,Kept G w w'→R w x cs G→R w' x cs G) (h:Own w B E k R xs v F) (hb:Below w.heap.size w w'):Own w' B E k R xs v F :=
 h.mono hR (.of_below hb fun b hb'=>by
  rcases List.mem_append.1 hb' with h1 | h1
  ·exact (h.row b h1).2
  ·exact h.under b h1) hb.size
theorem Own.set (hR:∀ w w' x cs G,Kept G w w'→R w x cs G→R w' x cs G) (h:Own w B E k R xs v F) {b j:Nat} (u:Value) (hb:b∉rowOf v) (hF:b∉F):Own (w.setCell ⟨b,j,none⟩ u) B E k R xs v F :=
 h.mono (fun x cs G hk h=>hR _ _ x cs G hk h) (fun c hc=>zz7 _ _ _ _ (fun e=>by
  have e:c=b:=e
  subst e
  rcases List.mem_append.1 hc with h1 | h1
  ·exact hb h1
  ·exact hF h1)) (by simp [World.setCell])
theorem Own.base {B':Nat} (h:Own w B E k R xs v F) (hB:∀ g∈rowOf v,B'≤g):Own w B' E k R xs v F:=by
 obtain ⟨cs,h1,h2,h3,h4⟩:=h
 refine ⟨cs,⟨h1.1,?_⟩,h2,h3,h4⟩
 rcases h1.2 with hn | ⟨g,cap,cur,rfl,hb,hg,rest⟩
 ·exact .inl hn
 ·exact .inr ⟨g,cap,cur,rfl,hB g (by simp [zA4]),hg,rest⟩
theorem Own.form (h:Own w B E k R xs v F):∃ A cap,v=.slice A xs.length cap∧xs.length≤cap∧cap≤9223372036854775807:=by
 obtain ⟨cs,h1,-⟩:=h
 rcases h1.2 with ⟨rfl,hn⟩ | ⟨g,cap,cur,rfl,hb,hg,hc,hm,-⟩
 ·exact ⟨none,0,by rw [hn],by omega,by omega⟩
 ·exact ⟨_,cap,rfl,hc,by unfold maxLen at hm;omega⟩
theorem cellsAt_ownsRow {w:World} {B k n g cap:Nat} {E:TypeId} {cs:List Value} (h:w.ownsRow B E k (.slice (some ⟨g,0,none⟩) n cap) n cs):CellsAt w g 0 cs:=fun j u hj=>by
 have:=h.cells (g:=g) rfl j u hj
 rw [Addr.add_lit] at this
 exact this
theorem Own.arr (h:Own w B E k R xs v F):Arr w (R w) xs v (if xs=[] then [] else rowOf v ++ F):=by
 obtain ⟨A,cap,rfl,hc,hm⟩:=h.form
 refine ⟨A,cap,rfl,hc,by unfold maxLen;omega,?_⟩
 by_cases hx:xs=[]
 ·exact .inl ⟨hx,if_pos hx⟩
 ·rw [if_neg hx]
  obtain ⟨cs,h1,h2,h3,h4⟩:=h
  rcases h1.2 with ⟨hv,hn⟩ | ⟨g,cap',cur,hv,hb,hg,hc',hm',-⟩
  ·exact absurd (List.length_eq_zero_iff.1 hn) hx
  ·cases hv
   exact .inr ⟨g,0,cs,F,rfl,cellsAt_ownsRow h1,h2,rfl⟩
theorem Own.free (h:Own w B E k R xs v F) (hF:Free w F):Free w (if xs=[] then [] else rowOf v ++ F):=by
 by_cases hx:xs=[]
 ·rw [if_pos hx];exact Free.nil _
 ·rw [if_neg hx]
  obtain ⟨cs,h1,h2,h3,h4⟩:=h
  rcases h1.2 with ⟨hv,hn⟩ | ⟨g,cap',cur,rfl,hb,hg,hc',hm',-⟩
  ·exact absurd (List.length_eq_zero_iff.1 hn) hx
  ·rw [zA4]
   exact ⟨List.nodup_cons.2 ⟨h4 g (by simp [zA4]),hF.1⟩,fun b hb' i=>by
    rcases List.mem_cons.1 hb' with rfl | hb'
    ·simp [World.frozen?,hg]
    ·exact hF.2 b hb' i⟩
theorem Own.fresh {w0:World} (h:Own w B E k R xs v F) (hB:w0.heap.size≤B) (hF:∀ b∈F,w0.heap.size≤b):Fresh w0 w (if xs=[] then [] else rowOf v ++ F):=fun b hb=>by
 by_cases hx:xs=[]
 ·rw [if_pos hx] at hb;cases hb
 ·rw [if_neg hx] at hb
  rcases List.mem_append.1 hb with h1 | h1
  ·exact ⟨Nat.le_trans hB (h.row b h1).1,(h.row b h1).2⟩
  ·exact ⟨hF b h1,h.under b h1⟩
theorem grown_kept {w w':World} {v:Value} {G:List Nat} (hg:w.grownBy w' v.ownBlock) (hG:Under w.heap.size G) (hn:∀ g∈rowOf v,g∉G):Kept G w w':=fun b hb =>
 hg.block b (hG b hb) fun e=>hn b (zA1.2 e.symm) hb
variable {P : Program}
theorem wpList_push {ops:Array Oper} {rest:List Oper} {o:Oper} {a:Act} {Q:Exit→Act→World→Prop} (hgd:o.guard=none) (s x:Operand) (t:TypeId)
  (ho:o.op=.call { callee:=.builtin .append,args:=#[s,x],argTypes:=#[t,t] })
  (i:TypeInfo) (z:Value) (bytes:Nat) (ht:P.underlying t=some (.slice E)) (hi:P.info? E=some i) (hz:i.zero=some z)
  (hsize:i.size=k) (hby:i.bytes=bytes) (hzs:z.cells.size=k) (hk:0<k)
  (hRl:∀ x cs G,R w x cs G→cs.length=k) (hRm:∀ w' x cs G,Kept G w w'→R w x cs G→R w' x cs G)
  (hs:a.eval s=v) (hown:Own w B E k R xs v F) (ys:List α) (ad:Addr) (c:Nat) (news:List Value) (G:List Nat)
  (hx:a.eval x=.slice (some ad) ys.length c) (hnews:∀ j u,news[j]?=some u→w.cell? (ad.add j)=some u) (h1:∀ u∈news,u.oneCell'=true)
  (hys:Flat (R w) ys news G) (hG:Under w.heap.size G) (hvG:∀ g∈rowOf v,g∉G)
  (hm:0<ys.length) (h63:xs.length+ys.length≤maxLen) (hbytes:(xs.length+ys.length)*bytes≤140737488355328) (hbase:B≤w.heap.size)
  (h:∀ g cap w',Own w' B E k R (xs ++ ys) (.slice (some ⟨g,0,none⟩) (xs.length+ys.length) cap) (F ++ G)→w.grownBy w' v.ownBlock→(v.ownBlock=some g∨g=w.heap.size) →
   wpList P ops Q rest (a.put o.dst (.slice (some ⟨g,0,none⟩) (xs.length+ys.length) cap)) w'):wpList P ops Q (o :: rest) a w:=by
 obtain ⟨cs,h2,h3,h4,h5⟩:=id hown
 refine wpList_append_lies w hgd s x t ho B E i z k bytes ht hi hz hsize hby hzs hk v xs.length cs hs h2 ad ys.length c news hx (hys.length hRl) hnews h1 hm h63 hbytes hbase w.heap.size rfl
  fun g cap w1 hr hgr hat hlt=>h g cap w1 ⟨cs ++ news,by rw [List.length_append];exact hr,?_,?_,?_⟩ hgr hat
 ·exact (h3.mono fun x _ ds H hH hr=>hRm w1 x ds H (grown_kept hgr (h4.sub hH) fun g hg hn=>h5 g hg (hH g hn)) hr).append (hys.mono fun x _ ds H hH hr=>hRm w1 x ds H (grown_kept hgr (hG.sub hH) fun g hg hn=>hvG g hg (hH g hn)) hr)
 ·intro b hb
  rcases List.mem_append.1 hb with hb | hb
  ·exact zz9 (h4 b hb) hgr.size
  ·exact zz9 (hG b hb) hgr.size
 ·intro b hb hbF
  rw [zA4,zy1] at hb
  subst hb
  rcases hat with hat | rfl
  ·rcases List.mem_append.1 hbF with hb | hb
   ·exact h5 b (zA1.2 hat) hb
   ·exact hvG b (zA1.2 hat) hb
  ·rcases List.mem_append.1 hbF with hb | hb
   ·exact Nat.lt_irrefl _ (h4 _ hb)
   ·exact Nat.lt_irrefl _ (hG _ hb)
theorem zAA {ops:Array Oper} {rest:List Oper} {o:Oper} {a:Act} {Q:Exit→Act→World→Prop} (hgd:o.guard=none) (s x:Operand) (t:TypeId)
  (ho:o.op=.call { callee:=.builtin .append,args:=#[s,x],argTypes:=#[t,t] })
  (i:TypeInfo) (z:Value) (bytes:Nat) (ht:P.underlying t=some (.slice E)) (hi:P.info? E=some i) (hz:i.zero=some z)
  (hsize:i.size=k) (hby:i.bytes=bytes) (hzs:z.cells.size=k) (hk:0<k)
  (hRl:∀ w x cs G,R w x cs G→cs.length=k) (hRm:∀ w w' x cs G,Kept G w w'→R w x cs G→R w' x cs G)
  (hs:a.eval s=v) (hown:Own w B E k R xs v F) (y:α) (T:TypeId) (news:List Value) (G:List Nat)
  (H:Nat) (hx:a.eval x=.slice (some ⟨H,0,none⟩) 1 1) (hH:w.heap.size=H) (h1:∀ u∈news,u.oneCell'=true)
  (hy:R w y news G) (hG:Under w.heap.size G) (hvG:∀ g∈rowOf v,g∉G)
  (h63:xs.length+1≤maxLen) (hbytes:(xs.length+1)*bytes≤140737488355328) (hbase:B≤w.heap.size)
  (h:∀ g cap w',Own w' B E k R (xs ++ [y]) (.slice (some ⟨g,0,none⟩) (xs.length+1) cap) (F ++ G)→(w.alloc (.cells news.toArray T)).grownBy w' v.ownBlock→(v.ownBlock=some g∨g=w.heap.size+1) →
   wpList P ops Q rest (a.put o.dst (.slice (some ⟨g,0,none⟩) (xs.length+1) cap)) w'):wpList P ops Q (o :: rest) a (w.alloc (.cells news.toArray T)):=by
 subst hH
 have hb:=(zy2 w.heap.size w).alloc (zz8 _) (.cells news.toArray T)
 have hk1:Kept G w (w.alloc (.cells news.toArray T)):=.of_below hb hG
 refine wpList_push hgd s x t ho i z bytes ht hi hz hsize hby hzs hk (hRl _) (fun w'=>hRm _ w') hs (hown.below (fun x cs G hk h=>hRm _ _ x cs G hk h) hb) [y] ⟨w.heap.size,0,none⟩ 1 news G hx ?_ h1 (Flat.one (hRm _ _ _ _ _ hk1 hy)) (hG.mono hb.size) hvG Nat.zero_lt_one h63 hbytes (Nat.le_trans hbase hb.size)
  (fun g cap w' h2 h3 h4=>h g cap w' h2 h3 (by simpa using h4))
 intro j u hj
 exact World.news_of_block (heap_alloc_new w (.cells news.toArray T)) j u (by simpa using hj)
end
theorem zA8 {w w':World} (h:Below w.drew.heap.size w.drew w'):Below w.heap.size w w':=⟨h.os,h.tape,h.output,h.size,h.block⟩
def Halt (p:Prop):Prop:=p
theorem Halt.mk {p:Prop} (h:Halt p):p:=h
theorem Halt.of {p:Prop} (h:p):Halt p:=h
/-! ### Slices of numbers and of strings -/
def NatR (_:World) (x:Int) (cs:List Value) (F:List Nat):Prop:=cs=[.int .i64 x]∧F=[]
theorem NatR_len (w:World) (x:Int) (cs:List Value) (F:List Nat) (h:NatR w x cs F):cs.length=1:=by rw [h.1];rfl
theorem NatR_mono (w w':World) (x:Int) (cs:List Value) (F:List Nat) (_:Kept F w w') (h:NatR w x cs F):NatR w' x cs F:=h
def StrR (_:World) (x:ByteArray) (cs:List Value) (F:List Nat):Prop:=cs=[.string x]∧F=[]
def MadeArr {α:Type} (R:World→α→List Value→List Nat→Prop) (w:World) (xs:List α) (e:Ending) (w':World):Prop :=
 ∃ v F,e=.returned v∧Below w.heap.size w w'∧Arr w' (R w') xs v F∧Free w' F∧Fresh w w' F
theorem Flat.nilF {α:Type} {R:α→List Value→List Nat→Prop} (hR:∀ x cs F,R x cs F→F=[]):∀ {xs:List α} {c:List Value} {F:List Nat},Flat R xs c F→F=[]
 |[],_,_,h=>h.2
 |x :: xs,c,F,h=>by
  obtain ⟨c1,c2,F1,F2,rfl,rfl,h1,h2⟩:=h
  rw [hR _ _ _ h1,Flat.nilF hR h2];rfl
theorem Own.gives {α:Type} {w0 w:World} {B k:Nat} {E:TypeId} {R:World→α→List Value→List Nat→Prop} {xs:List α} {v:Value} {F:List Nat} (h:Own w B E k R xs v F) (hb:Below w0.heap.size w0 w) (hB:w0.heap.size≤B) (hF:∀ b∈F,w0.heap.size≤b) (hfr:Free w F):MadeArr R w0 xs (.returned v) w :=
 ⟨v,_,rfl,hb,h.arr,h.free hfr,h.fresh hB hF⟩
theorem CellsAt.nil (w:World) (b off:Nat):CellsAt w b off []:=fun j u h=>by simp at h
theorem CellsAt.cons {w:World} {b off:Nat} {a:Value} {cs:List Value} (h:w.cell? ⟨b,off,none⟩=some a) (hc:CellsAt w b (off+1) cs):CellsAt w b off (a :: cs):=fun j u hj=>by
 cases j with
 |zero=>simp at hj;subst hj;exact h
 |succ j =>
  have:=hc j u (by simpa using hj)
  rwa [show off+1+j=off+(j+1) by omega] at this
theorem Kept.refl (F:List Nat) (w:World):Kept F w w:=fun _ _=>rfl
theorem Kept.set {F:List Nat} {w w':World} {b j:Nat} {u:Value} (h:Kept F w w') (hb:b∉F):Kept F w (w'.setCell ⟨b,j,none⟩ u):=fun c hc =>
 (zz7 _ _ _ _ (fun e=>hb (by rw [←show c=b from e];exact hc))).trans (h c hc)
theorem Kept.step {F:List Nat} {w w' w'':World} (h:Kept F w w') (hb:Below w'.heap.size w' w'') (hF:Under w'.heap.size F):Kept F w w'':=fun c hc=>(hb.block c (hF c hc)).trans (h c hc)
structure Chg (F:List Nat) (w w':World):Prop where
 os:w'.os=w.os
 tape:w'.tape=w.tape
 output:w'.output=w.output
 size:w.heap.size≤w'.heap.size
 block:∀ b,b<w.heap.size→b∉F→w'.heap[b]?=w.heap[b]?
theorem Chg.refl (F:List Nat) (w:World):Chg F w w:=⟨rfl,rfl,rfl,zz8 _,fun _ _ _=>rfl⟩
theorem Chg.trans {F:List Nat} {a b c:World} (h:Chg F a b) (k:Chg F b c):Chg F a c :=
 ⟨k.os.trans h.os,k.tape.trans h.tape,k.output.trans h.output,Nat.le_trans h.size k.size,fun i hi hF=>(k.block i (zz9 hi h.size) hF).trans (h.block i hi hF)⟩
theorem Chg.mono {F G:List Nat} {w w':World} (h:Chg F w w') (hs:∀ b∈F,b∈G):Chg G w w':=⟨h.os,h.tape,h.output,h.size,fun b hb hG=>h.block b hb fun hf=>hG (hs b hf)⟩
theorem Chg.of_below {F:List Nat} {w w':World} (h:Below w.heap.size w w'):Chg F w w':=⟨h.os,h.tape,h.output,h.size,fun b hb _=>h.block b hb⟩
theorem Chg.kept {F G:List Nat} {w w':World} (h:Chg F w w') (hG:Under w.heap.size G) (hd:∀ b∈G,b∉F):Kept G w w':=fun b hb=>h.block b (hG b hb) (hd b hb)
theorem Chg.below {F:List Nat} {w w':World} {B:Nat} (h:Chg F w w') (hF:∀ b∈F,B≤b) (hB:B≤w.heap.size):Below B w w' :=
 ⟨h.os,h.tape,h.output,h.size,fun b hb=>h.block b (zz9 hb hB) fun hf=>Nat.lt_irrefl _ (zz9 hb (hF b hf))⟩
theorem Chg.set {F:List Nat} {w w':World} {b j:Nat} {u:Value} (h:Chg F w w') (hb:b∈F):Chg F w (w'.setCell ⟨b,j,none⟩ u) :=
 ⟨h.os,h.tape,h.output,Nat.le_trans h.size (by simp [World.setCell]),fun c hc hF=>(zz7 _ _ _ _ (fun e=>hF (by rw [show c=b from e];exact hb))).trans (h.block c hc hF)⟩
theorem Chg.step {F:List Nat} {w w' w'':World} (h:Chg F w w') (hb:Below w'.heap.size w' w''):Chg F w w'':=h.trans (.of_below hb)
theorem Chg.drewN {F:List Nat} {w w':World} (h:Chg F w w') (n:Nat):Chg F w (w'.drewN n):=⟨h.os,h.tape,h.output,h.size,h.block⟩
theorem Chg.cell {F:List Nat} {w w':World} (h:Chg F w w') {p:Addr} (hp:p.block<w.heap.size) (hn:p.block∉F):w'.cell? p=w.cell? p:=World.cell?_of_block (w:=w) (h.block p.block hp hn)
theorem Chg.undrew {F:List Nat} {w w':World} (h:Chg F w.drew w'):Chg F w w':=⟨h.os,h.tape,h.output,h.size,h.block⟩
structure Upd (b lo n:Nat) (F:List Nat) (w w':World):Prop extends Chg (b :: F) w w' where
 cells:∀ j,j<lo∨lo+n≤j→w'.cell? ⟨b,j,none⟩=w.cell? ⟨b,j,none⟩
 froz:∀ j,w'.frozen? ⟨b,j,none⟩=w.frozen? ⟨b,j,none⟩
theorem Upd.refl (b lo n:Nat) (F:List Nat) (w:World):Upd b lo n F w w:=⟨Chg.refl _ _,fun _ _=>rfl,fun _=>rfl⟩
theorem Upd.trans {b lo n:Nat} {F:List Nat} {x y z:World} (h:Upd b lo n F x y) (k:Upd b lo n F y z):Upd b lo n F x z :=
 ⟨h.toChg.trans k.toChg,fun j hj=>(k.cells j hj).trans (h.cells j hj),fun j=>(k.froz j).trans (h.froz j)⟩
theorem Upd.set {b lo n:Nat} {F:List Nat} {x y:World} (h:Upd b lo n F x y) {j:Nat} (h1:lo≤j) (h2:j<lo+n) (u:Value):Upd b lo n F x (y.setCell ⟨b,j,none⟩ u) :=
 h.trans ⟨⟨rfl,rfl,rfl,by simp [World.setCell],fun c _ hc=>zz7 _ _ _ _ (fun e=>hc (by rw [e];exact List.mem_cons_self))⟩,
  fun i hi=>World.cell?_setCell_other _ _ _ _ (by intro e;injection e;omega),fun i=>World.frozen?_setCell _ _ _ _⟩
theorem Upd.sub {b lo n:Nat} {F:List Nat} {x y z:World} (h:Upd b lo n F x y) (hc:Chg F y z) (hb:b∉F) (hlt:b<y.heap.size):Upd b lo n F x z :=
 h.trans ⟨hc.mono fun c hc=>List.mem_cons_of_mem _ hc,fun j _=>World.cell?_of_block (w:=y) (a:=⟨b,j,none⟩) (hc.block b hlt hb),fun j=>World.frozen?_of_block (w:=y) (a:=⟨b,j,none⟩) (hc.block b hlt hb)⟩
theorem Upd.below {b lo n:Nat} {F:List Nat} {x y z:World} (h:Upd b lo n F x y) (hc:Below y.heap.size y z) (hlt:b<y.heap.size):Upd b lo n F x z :=
 h.trans ⟨.of_below hc,fun j _=>hc.cell (p:=⟨b,j,none⟩) hlt,fun j=>hc.frozen (p:=⟨b,j,none⟩) hlt⟩
section
variable {α : Type} {R : World → α → List Value → List Nat → Prop} {k : Nat}
theorem Arr.focus (hRl:∀ w x cs G,R w x cs G→cs.length=k) (hRm:∀ w w' x cs G,Kept G w w'→R w x cs G→R w' x cs G) {w:World} {xs:List α} {v:Value} {F:List Nat}
  (h:Arr w (R w) xs v F) (hfr:Free w F) (hF:Under w.heap.size F) {i:Nat} (hi:i<xs.length) :
  ∃ b off c F1 F2 F3 cap,v=.slice (some ⟨b,off,none⟩) xs.length cap∧F=b :: (F1 ++ (F2 ++ F3))∧CellsAt w b (off+i*k) c∧R w xs[i] c F2∧Free w F2∧b∉F2∧b<w.heap.size∧(∀ j,w.frozen? ⟨b,j,none⟩=false)∧Under w.heap.size F2 ∧
   ∀ w' y c',Upd b (off+i*k) k F2 w w'→CellsAt w' b (off+i*k) c'→R w' y c' F2→Free w' F2→Arr w' (R w') (xs.set i y) v F∧Free w' F∧Chg F w w':=by
 obtain ⟨A,cap,rfl,h1,h2,h3⟩:=h
 rcases h3 with ⟨rfl,-⟩ | ⟨b,off,cs,G,rfl,hc,hf,rfl⟩
 ·simp at hi
 have hxs:xs=xs.take i ++ (xs[i] :: xs.drop (i+1)):=by rw [←List.drop_eq_getElem_cons hi,List.take_append_drop]
 have hf':=hf
 rw [hxs] at hf'
 obtain ⟨c1,c23,F1,F23,rfl,rfl,g1,g23⟩:=Flat.split (xs.take i) hf'
 obtain ⟨c2,c3,F2,F3,rfl,rfl,g2,g3⟩:=g23
 have l1:c1.length=i*k:=by rw [g1.length (hRl w),List.length_take];congr 1;omega
 have hc2:=hc.right
 rw [l1] at hc2
 have l2:=hRl _ _ _ _ g2
 have nd:=List.nodup_cons.1 hfr.1
 have nd1:=List.nodup_append.1 nd.2
 have nd2:=List.nodup_append.1 nd1.2.1
 have hbF2:b∉F2:=fun hb=>nd.1 (List.mem_append.2 (.inr (List.mem_append.2 (.inl hb))))
 refine ⟨b,off,c2,F1,F2,F3,cap,rfl,rfl,hc2.left,g2,⟨nd2.1,fun x hx j=>hfr.2 x (by simp [hx]) j⟩,hbF2,hF b (by simp),fun j=>hfr.2 b (by simp) j,fun x hx=>hF x (by simp [hx]),?_⟩
 intro w' y c' hu hc' hy hfr2
 have k1:Kept F1 w w':=hu.toChg.kept (fun x hx=>hF x (by simp [hx])) fun x hx hm=>by
  rcases List.mem_cons.1 hm with rfl | hm
  ·exact nd.1 (by simp [hx])
  ·exact nd1.2.2 x hx x (by simp [hm]) rfl
 have k3:Kept F3 w w':=hu.toChg.kept (fun x hx=>hF x (by simp [hx])) fun x hx hm=>by
  rcases List.mem_cons.1 hm with rfl | hm
  ·exact nd.1 (by simp [hx])
  ·exact nd2.2.2 x hm x hx rfl
 have lc':=hRl _ _ _ _ hy
 have hxs':xs.set i y=xs.take i ++ (y :: xs.drop (i+1)):=by rw [List.set_eq_take_append_cons_drop,if_pos hi]
 refine ⟨?_,?_,?_⟩
 ·rw [hxs']
  refine ⟨_,cap,by rw [←hxs',List.length_set],by rw [←hxs',List.length_set];exact h1,h2,.inr ⟨b,off,c1 ++ (c' ++ c3),F1 ++ (F2 ++ F3),rfl,?_,?_,rfl⟩⟩
  ·refine CellsAt.append (fun j u hj=>?_) (CellsAt.append ?_ (fun j u hj=>?_))
   ·have hjl:=(List.getElem?_eq_some_iff.1 hj).1
    rw [hu.cells _ (.inl (by omega))]
    exact hc.left j u hj
   ·rw [l1];exact hc'
   ·rw [l1,hu.cells _ (.inr (by omega))]
    have:=hc2.right j u hj
    rw [l2] at this
    rwa [lc']
  ·exact (g1.mono fun x _ cs H hH hr=>hRm _ _ x cs H (fun z hz=>k1 z (hH z hz)) hr).append ⟨c',c3,F2,F3,rfl,rfl,hy,g3.mono fun x _ cs H hH hr=>hRm _ _ x cs H (fun z hz=>k3 z (hH z hz)) hr⟩
 ·refine ⟨hfr.1,fun x hx j=>?_⟩
  rcases List.mem_cons.1 hx with rfl | hx
  ·rw [hu.froz j];exact hfr.2 x (by simp) j
  ·rcases List.mem_append.1 hx with hx | hx
   ·rw [World.frozen?_of_block (w:=w) (a:=⟨x,j,none⟩) (k1 x hx)];exact hfr.2 x (by simp [hx]) j
   ·rcases List.mem_append.1 hx with hx | hx
    ·exact hfr2.2 x hx j
    ·rw [World.frozen?_of_block (w:=w) (a:=⟨x,j,none⟩) (k3 x hx)];exact hfr.2 x (by simp [hx]) j
 ·exact hu.toChg.mono fun x hx=>by
   rcases List.mem_cons.1 hx with rfl | hx <;> simp [*]
end
/-! ### What marking makes of a list -/
def mkS {α:Type} (mk:Int→α→α) (cnt:α→Nat):Int→List α→List α
 |_,[]=>[]
 |k,x :: xs=>mk k x :: mkS mk cnt (k+cnt x) xs
section
variable {α : Type} {mk : Int → α → α} {cnt : α → Nat}
theorem zAC:∀ (xs:List α) (k:Int),(mkS mk cnt k xs).length=xs.length
 |[],_=>rfl
 |x :: xs,k=>by rw [mkS,List.length_cons,zAC xs,List.length_cons]
theorem mkS_snoc:∀ (xs:List α) (k:Int) (x:α),mkS mk cnt k (xs ++ [x])=mkS mk cnt k xs ++ [mk (k+sumBy cnt xs) x]
 |[],k,x=>by simp [mkS,sumBy]
 |y :: xs,k,x=>by
  simp only [List.cons_append,mkS,mkS_snoc xs,sumBy]
  congr 4;omega
theorem mkS_get {xs:List α} {k:Int} {i:Nat} (hi:i<xs.length):(mkS mk cnt k xs)[i]?=some (mk (k+sumBy cnt (xs.take i)) xs[i]):=by
 have h:∀ (xs:List α) (k:Int) (i:Nat) (hi:i<xs.length),(mkS mk cnt k xs)[i]?=some (mk (k+sumBy cnt (xs.take i)) xs[i]):=by
  intro xs
  induction xs with
  |nil=>intro k i hi;simp at hi
  |cons x xs ih =>
   intro k i hi
   cases i with
   |zero=>simp [mkS,sumBy]
   |succ i =>
    simp only [mkS,List.getElem?_cons_succ,List.take_succ_cons,sumBy,zz3]
    rw [ih (k+cnt x) i (by simpa using hi)]
    congr 2;omega
 exact h xs k i hi
def mkTo (mk:Int→α→α) (cnt:α→Nat) (k:Int) (xs:List α) (i:Nat):List α:=mkS mk cnt k (xs.take i) ++ xs.drop i
theorem zAW (k:Int) (xs:List α) (i:Nat):(mkTo mk cnt k xs i).length=xs.length:=by unfold mkTo;rw [List.length_append,zAC,←List.length_append,List.take_append_drop]
theorem mkTo_all (k:Int) (xs:List α) {i:Nat} (h:xs.length≤i):mkTo mk cnt k xs i=mkS mk cnt k xs:=by unfold mkTo;rw [List.take_of_length_le h,List.drop_of_length_le h,List.append_nil]
theorem mkTo_get {k:Int} {xs:List α} {i:Nat} (hi:i<xs.length):(mkTo mk cnt k xs i)[i]'(by rw [zAW];exact hi)=xs[i]:=by
 unfold mkTo
 rw [List.getElem_append_right (by rw [zAC,List.length_take];omega)]
 simp only [zAC,List.length_take,Nat.min_eq_left (Nat.le_of_lt hi),Nat.sub_self,List.getElem_drop,Nat.add_zero]
theorem mkTo_step {k:Int} {xs:List α} {i:Nat} (hi:i<xs.length):(mkTo mk cnt k xs i).set i (mk (k+sumBy cnt (xs.take i)) xs[i])=mkTo mk cnt k xs (i+1):=by
 unfold mkTo
 rw [take_snoc' xs i hi,mkS_snoc,List.set_append_right _ _ (by rw [zAC,List.length_take];omega),zAC,List.length_take,Nat.min_eq_left (Nat.le_of_lt hi),Nat.sub_self,List.drop_eq_getElem_cons hi,zz5,List.append_assoc]
 rfl
end
theorem chg_under {F:List Nat} {a b c:World} (h:Chg F a b) (k:Below a.heap.size b c):Chg F a c :=
 ⟨k.os.trans h.os,k.tape.trans h.tape,k.output.trans h.output,Nat.le_trans h.size k.size,fun i hi hF=>(k.block i hi).trans (h.block i hi hF)⟩
theorem free_app {w:World} {F G:List Nat} (hF:Free w F) (hG:Free w G) (hd:∀ b∈F,b∉G):Free w (F ++ G) :=
 ⟨List.nodup_append.2 ⟨hF.1,hG.1,fun a ha b hb e=>hd a ha (by rw [e];exact hb)⟩,fun b hb i=>by
  rcases List.mem_append.1 hb with h | h
  ·exact hF.2 b h i
  ·exact hG.2 b h i⟩
section
variable {α : Type} {w w9 wr wA w7 : World} {D H k : Nat} {T E : TypeId} {cells : Array Value} {R : World → α → List Value → List Nat → Prop} {xs ys : List α} {v v' : Value} {F G : List Nat} {o : Obj}
theorem kid_old (HO:Own wr (D+1) E k R xs v F) (hBu:Below wr.heap.size wr wA) (hgr:(wA.alloc o).grownBy w7 v.ownBlock) {b:Nat} (hb:b<D+1) (hbr:b<wr.heap.size):w7.heap[b]?=wr.heap[b]?:=by
 have hl:b<wA.heap.size:=zz9 hbr hBu.size
 refine ((hgr.block b (by rw [World.size_alloc];omega) (fun e=>?_)).trans (Below.heap_alloc _ _ _ hl)).trans (hBu.block b hbr)
 have:=(HO.row b (zA1.2 e.symm)).1
 omega
theorem kid_round (j:Nat) (hRm:∀ w w' x cs G,Kept G w w'→R w x cs G→R w' x cs G) (hw9:w9.heap.size=D+1) (KD:Blk wr D T cells) (HO:Own wr (D+1) E k R xs v F) (HF:Free wr F) (HFh:∀ b∈F,D+1≤b) (HC:Chg [D] w9 wr) (hB:Below H w wr) (hHD:H≤D) (hw:H≤w.heap.size)
  (hBu:Below wr.heap.size wr wA) (hfrA:Free wA G) (hfsA:∀ b∈G,wr.heap.size≤b∧b<wA.heap.size) (hown:Own w7 (D+1) E k R ys v' (F ++ G)) (hgr:(wA.alloc o).grownBy w7 v.ownBlock) :
  Blk (w7.setCell ⟨D,j,none⟩ v') D T (cells.setIfInBounds j v')∧Own (w7.setCell ⟨D,j,none⟩ v') (D+1) E k R ys v' (F ++ G)∧Free (w7.setCell ⟨D,j,none⟩ v') (F ++ G)∧(∀ b∈F ++ G,D+1≤b)∧Chg [D] w9 (w7.setCell ⟨D,j,none⟩ v')∧Below H w (w7.setCell ⟨D,j,none⟩ v')∧w9.heap.size≤(w7.setCell ⟨D,j,none⟩ v').heap.size:=by
 have hlt:=KD.lt
 have hA:=hBu.size
 have hFG:∀ b∈F ++ G,D+1≤b:=fun b hb=>by
  rcases List.mem_append.1 hb with h | h
  ·exact HFh b h
  ·have:=(hfsA b h).1;omega
 have hBA7:Below (D+1) wA w7:=((zy2 (D+1) wA).alloc (by omega) o).grown hgr (by rw [World.size_alloc];omega) (fun g hg=>(HO.row g (zA1.2 hg)).1)
 have hC7:Chg [D] w9 w7:=chg_under (HC.step hBu) (by rw [hw9];exact hBA7)
 have hC8:Chg [D] w9 (w7.setCell ⟨D,j,none⟩ v'):=hC7.set (by simp)
 have hne:∀ b∈F ++ G,b≠D:=fun b hb e=>by have:=hFG b hb;omega
 refine ⟨?_,Own.set (j:=j) hRm hown v' (fun h=>by have:=(hown.row _ h).1;omega) (fun h=>hne _ h rfl),?_,hFG,hC8,?_,hC8.size⟩
 ·exact (KD.same (kid_old HO hBu hgr (Nat.lt_succ_self D) hlt)).set_ j v'
 ·have hfr:Free wA (F ++ G):=free_app (HF.kept (.of_below hBu HO.under)) hfrA (fun b hb hG=>by have h1:=HO.under b hb;have h2:=(hfsA b hG).1;omega)
  have hfr7:Free w7 (F ++ G):=hfr.kept fun b hb=>by
   have hbA:b<wA.heap.size:=by
    rcases List.mem_append.1 hb with h | h
    ·exact zz9 (HO.under b h) hA
    ·exact (hfsA b h).2
   refine (hgr.block b (by rw [World.size_alloc];omega) (fun e=>?_)).trans (Below.heap_alloc _ _ _ hbA)
   have hrw:=zA1.2 e.symm
   rcases List.mem_append.1 hb with h | h
   ·exact HO.apart b hrw h
   ·have h1:=(HO.row b hrw).2
    have h2:=(hfsA b h).1
    omega
  exact hfr7.kept fun b hb=>zz7 w7 ⟨D,j,none⟩ v' b (hne b hb)
 ·have h8:Below H w w7:=(hB.trans (hBu.mono (Nat.le_trans hw hB.size))).trans (hBA7.mono (by omega))
  exact h8.setCell hHD _
theorem kid_done (HO:Own wr D E k R xs v F) (HF:Free wr F) (HFh:∀ b∈F,D≤b) (hHD:H≤D):∃ FF,Arr wr (R wr) xs v FF∧Free wr FF∧∀ b∈FF,H≤b∧b<wr.heap.size :=
 ⟨_,HO.arr,HO.free HF,fun b hb=>by
  split at hb
  ·cases hb
  ·rcases List.mem_append.1 hb with h | h
   ·have:=HO.row b h;omega
   ·have:=HFh b h;have:=HO.under b h;omega⟩
end
section
variable {α : Type} {w w' : World} {B k : Nat} {E : TypeId} {R : World → α → List Value → List Nat → Prop} {xs : List α} {v : Value} {F : List Nat}
variable {P : Program}
theorem step_push {ops:Array Oper} {o:Oper} {a:Act} {K:Act→World→Prop} {Q:Exit→Act→World→Prop} {EE:Prop} (hgd:o.guard=none) (s x:Operand) (t:TypeId)
  (ho:o.op=.call { callee:=.builtin .append,args:=#[s,x],argTypes:=#[t,t] })
  (i:TypeInfo) (z:Value) (bytes:Nat) (ht:P.underlying t=some (.slice E)) (hi:P.info? E=some i) (hz:i.zero=some z)
  (hsize:i.size=k) (hby:i.bytes=bytes) (hzs:z.cells.size=k) (hk:0<k)
  (hRl:∀ x cs G,R w x cs G→cs.length=k) (hRm:∀ w' x cs G,Kept G w w'→R w x cs G→R w' x cs G)
  (hs:a.eval s=v) (hown:Own w B E k R xs v F) (ys:List α) (ad:Addr) (c:Nat) (news:List Value) (G:List Nat)
  (hx:a.eval x=.slice (some ad) ys.length c) (hnews:∀ j u,news[j]?=some u→w.cell? (ad.add j)=some u) (h1:∀ u∈news,u.oneCell'=true)
  (hys:Flat (R w) ys news G) (hG:Under w.heap.size G) (hvG:∀ g∈rowOf v,g∉G)
  (hm:0<ys.length) (h63:xs.length+ys.length≤maxLen) (hbytes:(xs.length+ys.length)*bytes≤140737488355328) (hbase:B≤w.heap.size)
  (h:∀ g cap w',Own w' B E k R (xs ++ ys) (.slice (some ⟨g,0,none⟩) (xs.length+ys.length) cap) (F ++ G)→w.grownBy w' v.ownBlock→(v.ownBlock=some g∨g=w.heap.size) →
   K (a.put o.dst (.slice (some ⟨g,0,none⟩) (xs.length+ys.length) cap)) w'):if Region.wanted o (yielded ops a.tmps)=true then Oper.wp P o a w K Q else EE:=by
 obtain ⟨cs,h2,h3,h4,h5⟩:=id hown
 refine step_append_lies w hgd s x t ho B E i z k bytes ht hi hz hsize hby hzs hk v xs.length cs hs h2 ad ys.length c news hx (hys.length hRl) hnews h1 hm h63 hbytes hbase w.heap.size rfl
  fun g cap w1 hr hgr hat hlt=>h g cap w1 ⟨cs ++ news,by rw [List.length_append];exact hr,?_,?_,?_⟩ hgr hat
 ·exact (h3.mono fun x _ ds H hH hr=>hRm w1 x ds H (grown_kept hgr (h4.sub hH) fun g hg hn=>h5 g hg (hH g hn)) hr).append (hys.mono fun x _ ds H hH hr=>hRm w1 x ds H (grown_kept hgr (hG.sub hH) fun g hg hn=>hvG g hg (hH g hn)) hr)
 ·intro b hb
  rcases List.mem_append.1 hb with hb | hb
  ·exact zz9 (h4 b hb) hgr.size
  ·exact zz9 (hG b hb) hgr.size
 ·intro b hb hbF
  rw [zA4,zy1] at hb
  subst hb
  rcases hat with hat | rfl
  ·rcases List.mem_append.1 hbF with hb | hb
   ·exact h5 b (zA1.2 hat) hb
   ·exact hvG b (zA1.2 hat) hb
  ·rcases List.mem_append.1 hbF with hb | hb
   ·exact Nat.lt_irrefl _ (h4 _ hb)
   ·exact Nat.lt_irrefl _ (hG _ hb)
theorem step_push1 {ops:Array Oper} {o:Oper} {a:Act} {K:Act→World→Prop} {Q:Exit→Act→World→Prop} {EE:Prop} (hgd:o.guard=none) (s x:Operand) (t:TypeId)
  (ho:o.op=.call { callee:=.builtin .append,args:=#[s,x],argTypes:=#[t,t] })
  (i:TypeInfo) (z:Value) (bytes:Nat) (ht:P.underlying t=some (.slice E)) (hi:P.info? E=some i) (hz:i.zero=some z)
  (hsize:i.size=k) (hby:i.bytes=bytes) (hzs:z.cells.size=k) (hk:0<k)
  (hRl:∀ w x cs G,R w x cs G→cs.length=k) (hRm:∀ w w' x cs G,Kept G w w'→R w x cs G→R w' x cs G)
  (hs:a.eval s=v) (hown:Own w B E k R xs v F) (y:α) (T:TypeId) (news:List Value) (G:List Nat)
  (H:Nat) (hx:a.eval x=.slice (some ⟨H,0,none⟩) 1 1) (hH:w.heap.size=H) (h1:∀ u∈news,u.oneCell'=true)
  (hy:R w y news G) (hG:Under w.heap.size G) (hvG:∀ g∈rowOf v,g∉G)
  (h63:xs.length+1≤maxLen) (hbytes:(xs.length+1)*bytes≤140737488355328) (hbase:B≤w.heap.size)
  (h:∀ g cap w',Own w' B E k R (xs ++ [y]) (.slice (some ⟨g,0,none⟩) (xs.length+1) cap) (F ++ G)→(w.alloc (.cells news.toArray T)).grownBy w' v.ownBlock→(v.ownBlock=some g∨g=w.heap.size+1) →
   K (a.put o.dst (.slice (some ⟨g,0,none⟩) (xs.length+1) cap)) w'):if Region.wanted o (yielded ops a.tmps)=true then Oper.wp P o a (w.alloc (.cells news.toArray T)) K Q else EE:=by
 subst hH
 have hb:=(zy2 w.heap.size w).alloc (zz8 _) (.cells news.toArray T)
 have hk1:Kept G w (w.alloc (.cells news.toArray T)):=.of_below hb hG
 refine step_push hgd s x t ho i z bytes ht hi hz hsize hby hzs hk (hRl _) (fun w'=>hRm _ w') hs (hown.below (fun x cs G hk h=>hRm _ _ x cs G hk h) hb) [y] ⟨w.heap.size,0,none⟩ 1 news G hx ?_ h1 (Flat.one (hRm _ _ _ _ _ hk1 hy)) (hG.mono hb.size) hvG Nat.zero_lt_one h63 hbytes (Nat.le_trans hbase hb.size)
  (fun g cap w' h2 h3 h4=>h g cap w' h2 h3 (by simpa using h4))
 intro j u hj
 exact World.news_of_block (heap_alloc_new w (.cells news.toArray T)) j u (by simpa using hj)
end
section
variable {α : Type} {w w9 wr wA w7 : World} {D Bz H k : Nat} {T E : TypeId} {cells : Array Value} {R : World → α → List Value → List Nat → Prop} {xs ys : List α} {v v' : Value} {F G : List Nat} {o : Obj}
end
section
variable {w w0 : World} {H B : Nat} {T : TypeId} {F : List Nat}
theorem Blk.three {b0 b1 b2:Value} (h:Blk w H T #[b0,b1,b2]) (a0 a1 a2:Value):Blk (((w.setCell ⟨H,0,none⟩ a0).setCell ⟨H,1,none⟩ a1).setCell ⟨H,2,none⟩ a2) H T #[a0,a1,a2]:=((h.set_ 0 a0).set_ 1 a1).set_ 2 a2
theorem below_three (h:Below B w0 w) (hH:B≤H) (a0 a1 a2:Value):Below B w0 (((w.setCell ⟨H,0,none⟩ a0).setCell ⟨H,1,none⟩ a1).setCell ⟨H,2,none⟩ a2):=((h.setCell hH _).setCell hH _).setCell hH _
theorem kept_three (hF:∀ b∈F,b≠H) (a0 a1 a2:Value):Kept F w (((w.setCell ⟨H,0,none⟩ a0).setCell ⟨H,1,none⟩ a1).setCell ⟨H,2,none⟩ a2):=fun b hb=>by
 have:=hF b hb
 rw [zz7 _ _ _ _ this,zz7 _ _ _ _ this,zz7 _ _ _ _ this]
theorem size_three (a0 a1 a2:Value):(((w.setCell ⟨H,0,none⟩ a0).setCell ⟨H,1,none⟩ a1).setCell ⟨H,2,none⟩ a2).heap.size=w.heap.size:=by simp [World.setCell]
end
theorem Arr.ptr {α:Type} {w:World} {R:α→List Value→List Nat→Prop} {xs:List α} {A:Option Addr} {n cap:Nat} {F:List Nat} (h:Arr w R xs (.slice A n cap) F) (h0:0<xs.length):∃ b off,A=some ⟨b,off,none⟩:=by
 obtain ⟨A',cap',hv,h1,h2,h3⟩:=h
 cases hv
 rcases h3 with ⟨rfl,-⟩ | ⟨b,off,cs,G,rfl,-⟩
 ·simp at h0
 ·exact ⟨b,off,rfl⟩
section
variable {w0 w : World} {b off n cap : Nat} {F : List Nat}
theorem ArrTy.at {xs:List Ty} (h:Arr w0 (TyR w0) xs (.slice (some ⟨b,off,none⟩) n cap) F) (hF:Under w0.heap.size F) (hB:Below w0.heap.size w0 w) (i:Nat) (hi:i<xs.length) :
  b<w.heap.size∧w.cell? ⟨b,off+i*2,none⟩=some (.int .i64 xs[i].d)∧w.cell? ⟨b,off+i*2+1,none⟩=some (.int .i64 xs[i].i):=by
 obtain ⟨b',off',cs,G,e,hb,hcs,hv,hG⟩:=h.get zAT hi
 cases e
 have hbl:=hF _ hb
 have hc:=hcs.same (hB.block _ hbl)
 obtain rfl:=TyR_form hv
 exact ⟨zz9 hbl hB.size,hc 0 _ rfl,hc 1 _ rfl⟩
theorem ArrKt.at {xs:List Kt} (h:Arr w0 (KtR w0) xs (.slice (some ⟨b,off,none⟩) n cap) F) (hF:Under w0.heap.size F) (hB:Below w0.heap.size w0 w) (i:Nat) (hi:i<xs.length) :
  ∃ A1 cap1 G,b<w.heap.size∧w.cell? ⟨b,off+i*3,none⟩=some (.string xs[i].name)∧w.cell? ⟨b,off+i*3+1,none⟩=some (.slice A1 xs[i].args.length cap1)∧w.cell? ⟨b,off+i*3+2,none⟩=some (.int .i64 xs[i].idx) ∧
   Hid (Arr w0 (TyR w0) xs[i].args (.slice A1 xs[i].args.length cap1) G)∧Hid (Under w0.heap.size G)∧xs[i].name.size≤9223372036854775807∧xs[i].args.length≤cap1∧cap1≤9223372036854775807:=by
 obtain ⟨b',off',cs,G,e,hb,hcs,hv,hG⟩:=h.get KtR_len hi
 cases e
 have hbl:=hF _ hb
 have hc:=hcs.same (hB.block _ hbl)
 obtain ⟨kv,rfl,ha,hs⟩:=hv
 obtain ⟨A1,cap1,rfl,h1,h2⟩:=ha.form
 exact ⟨A1,cap1,G,zz9 hbl hB.size,hc 0 _ rfl,hc 1 _ rfl,hc 2 _ rfl,ha,hF.sub hG,hs,h1,h2⟩
theorem ArrKt.rep {xs:List Kt} (h:Arr w0 (KtR w0) xs (.slice (some ⟨b,off,none⟩) n cap) F) (hF:Under w0.heap.size F) (hB:Below w0.heap.size w0 w) (i:Nat) (hi:i<xs.length) :
  ∃ A1 cap1 G,b<w.heap.size∧w.cell? ⟨b,off+i*3,none⟩=some (.string xs[i].name)∧w.cell? ⟨b,off+i*3+1,none⟩=some (.slice A1 xs[i].args.length cap1)∧w.cell? ⟨b,off+i*3+2,none⟩=some (.int .i64 xs[i].idx) ∧
   Hid (KtR w0 xs[i] [.string xs[i].name,.slice A1 xs[i].args.length cap1,.int .i64 xs[i].idx] G)∧Hid (Under w0.heap.size G)∧xs[i].name.size≤9223372036854775807∧xs[i].args.length≤cap1∧cap1≤9223372036854775807:=by
 obtain ⟨b',off',cs,G,e,hb,hcs,hv,hG⟩:=h.get KtR_len hi
 cases e
 have hbl:=hF _ hb
 have hc:=hcs.same (hB.block _ hbl)
 obtain ⟨kv,rfl,ha,hs⟩:=id hv
 obtain ⟨A1,cap1,rfl,h1,h2⟩:=ha.form
 exact ⟨A1,cap1,G,zz9 hbl hB.size,hc 0 _ rfl,hc 1 _ rfl,hc 2 _ rfl,hv,hF.sub hG,hs,h1,h2⟩
theorem ArrDt.at {xs:List Dt} (h:Arr w0 (DtR w0) xs (.slice (some ⟨b,off,none⟩) n cap) F) (hF:Under w0.heap.size F) (hB:Below w0.heap.size w0 w) (i:Nat) (hi:i<xs.length) :
  ∃ A1 cap1 G,b<w.heap.size∧w.cell? ⟨b,off+i*2,none⟩=some (.string xs[i].name)∧w.cell? ⟨b,off+i*2+1,none⟩=some (.slice A1 xs[i].ctors.length cap1) ∧
   Hid (Arr w0 (KtR w0) xs[i].ctors (.slice A1 xs[i].ctors.length cap1) G)∧Hid (Under w0.heap.size G)∧xs[i].name.size≤9223372036854775807∧xs[i].ctors.length≤cap1∧cap1≤9223372036854775807:=by
 obtain ⟨b',off',cs,G,e,hb,hcs,hv,hG⟩:=h.get DtR_len hi
 cases e
 have hbl:=hF _ hb
 have hc:=hcs.same (hB.block _ hbl)
 obtain ⟨kv,rfl,ha,hs⟩:=hv
 obtain ⟨A1,cap1,rfl,h1,h2⟩:=ha.form
 exact ⟨A1,cap1,G,zz9 hbl hB.size,hc 0 _ rfl,hc 1 _ rfl,ha,hF.sub hG,hs,h1,h2⟩
end
theorem info_tyE:(Tryz.prog.info? 39).map (fun i=>(i.zero,i.size,i.bytes))=some (some (.agg #[.int .i64 0,.int .i64 0]),2,16):=by kernel_rfl
def GivesTys (w:World) (ts:List Ty) (e:Ending) (w':World):Prop:=MadeArr TyR w ts e w'
theorem TyR_mono' (w w':World) (x:Ty) (cs:List Value) (F:List Nat) (_:Kept F w w') (h:TyR w x cs F):TyR w' x cs F:=h
theorem TyR_len' (w:World) (x:Ty) (cs:List Value) (F:List Nat) (h:TyR w x cs F):cs.length=2:=zAT x cs F h
theorem Own.tys {w0 w:World} {B:Nat} {E:TypeId} {xs:List Ty} {v:Value} (h:Own w B E 2 TyR xs v []) (hb:Below w0.heap.size w0 w) (hB:w0.heap.size≤B):GivesTys w0 xs (.returned v) w :=
 h.gives hb hB (fun b hb=>by cases hb) (Free.nil _)
def resIdx (c:Kt) (i:Int):Int:=if (c.idx==0)=true then i else c.idx
def argTy (r:Int) (a:Ty):Ty:=if (a.i == -1)=true then ⟨a.d,r⟩ else a
def argsL (c:Kt) (i:Int):List Ty:=c.args.map (argTy (resIdx c i))
theorem argTy_yes {r:Int} {a:Ty} (h:(a.i == -1)=true):argTy r a=⟨a.d,r⟩:=if_pos h
theorem argTy_no {r:Int} {a:Ty} (h:(a.i == -1)=false):argTy r a=a:=if_neg (by simp [h])
def argsTo (r:Int) (l:List Ty) (j:Nat):List Ty:=(l.take j).map (argTy r)
theorem zAM (r:Int) (l:List Ty) (j:Nat):(argsTo r l j).length≤j:=by unfold argsTo;rw [List.length_map,List.length_take];omega
theorem argsTo_all (r:Int) (l:List Ty) {j:Nat} (h:l.length≤j):argsTo r l j=l.map (argTy r):=by unfold argsTo;rw [List.take_of_length_le h]
theorem argsTo_succ (r:Int) (l:List Ty) (j:Nat) (h:j<l.length):argsTo r l (j+1)=argsTo r l j ++ [argTy r l[j]]:=by unfold argsTo;rw [take_snoc' l j h,List.map_append];rfl
theorem argsL_len (c:Kt) (i:Int):(argsL c i).length=c.args.length:=List.length_map _
theorem impl_argTypes (xs:List Dt) (d k:Nat) (i:Int) (hd:d<xs.length) (hk:k<xs[d].ctors.length) (w:World) (v:Value) (F:List Nat) (hx:Arr w (DtR w) xs v F) (hf:Under w.heap.size F) (hal:xs[d].ctors[k].args.length≤3) :
  Calls Tryz.prog 62 #[v,.agg #[.int .i64 (d:Int),.int .i64 i],.int .i64 (k:Int)] w (GivesTys w (argsL xs[d].ctors[k] i)):=by
 obtain ⟨A,cap,rfl,hc1,hc2⟩:=hx.form
 obtain ⟨b,off,rfl⟩:=hx.ptr (by omega)
 have HX:=jj hx
 have HF:=jj hf
 clear hx hf
 obtain ⟨i0,hi,hz0,hz1,hz2⟩:=info_parts info_tyE
 have HI:=jj hi
 have HZ0:=jj hz0
 have HZ1:=jj hz1
 have HZ2:=jj hz2
 clear hi hz0 hz1 hz2
 have hB1:Below w.heap.size w (w.alloc (.cells #[.int .i64 (d:Int),.int .i64 i] 39)):=(zy2 _ _).alloc (zz8 _) _
 obtain ⟨A1,cap1,G1,hb,c0,c1,HK,HG,-,hn1,hn2⟩:=ArrDt.at HX.out HF.out hB1 d hd
 clear c0
 obtain ⟨b2,off2,rfl⟩:=HK.out.ptr (by omega)
 obtain ⟨A3,cap3,G3,hb3,k0,k1,k2,HC,HG3,-,hn3,hn4⟩:=ArrKt.at HK.out HG.out hB1 k hk
 have g1:(0:Int)≤(d:Int):=by omega
 have g2:(d:Int)<(xs.length:Int):=by omega
 have g3:(0:Int)≤(k:Int):=by omega
 have g4:(k:Int)<(xs[d].ctors.length:Int):=by omega
 have hB2:Below w.heap.size w ((w.alloc (.cells #[.int .i64 (d:Int),.int .i64 i] 39)).alloc (.cells #[.string xs[d].ctors[k].name,.slice A3 xs[d].ctors[k].args.length cap3,.int .i64 xs[d].ctors[k].idx] 122)):=hB1.alloc (by simp) _
 clear hB1
 cases q:(xs[d].ctors[k].idx==0) with
 |true =>
  have HRI:Hid (resIdx xs[d].ctors[k] i=i):=if_pos q
  go_enter Tryz.func62,Tryz.ntmps62
  go_wp2
  clear q c1 k0 k1 k2 hb hb3
  go_loopw [9,30] (fun ov jv wr=>∃ j:Nat,j≤xs[d].ctors[k].args.length∧jv=.int .i64 j∧Hid (Own wr (w.heap.size+2) 39 2 TyR (argsTo (i) xs[d].ctors[k].args j) ov [])∧Below w.heap.size w wr∧w.heap.size+2≤wr.heap.size) (fun _ jv _=>xs[d].ctors[k].args.length-(intOf jv).toNat)
  case atStart=>exact ⟨0,Nat.zero_le _,rfl,(show Own _ _ _ _ _ [] _ _ from Own.nil _ _ _ _ _),hB2,by simp⟩
  case round =>
   clear hB2
   obtain ⟨j,hj,rfl,HO,hB,hsz⟩:=hrel
   by_cases hjl:j<xs[d].ctors[k].args.length
   ·obtain ⟨b3,off3,rfl⟩:=HC.out.ptr (by omega)
    obtain ⟨hb4,a0,a1⟩:=ArrTy.at HC.out HG3.out hB j hjl
    have g5:(0:Int)≤(j:Int):=by omega
    have g6:(j:Int)<(xs[d].ctors[k].args.length:Int):=by omega
    cases q2:(xs[d].ctors[k].args[j].i == -1)
    focus
     have HF2:=jj ((argsTo_succ (i) xs[d].ctors[k].args j hjl).trans (by rw [argTy_no q2]))
     have hb1:Below wr.heap.size wr (wr.alloc (.cells #[.int .i64 xs[d].ctors[k].args[j].d,.int .i64 xs[d].ctors[k].args[j].i] 39)):=(zy2 _ _).alloc (zz8 _) _
     have hB1:=hB.trans (hb1.mono hB.size)
     have HO1:=jj (HO.out.below (fun x cs G hk h=>TyR_mono' _ _ x cs G hk h) hb1)
     have hbs:w.heap.size+2≤(wr.alloc (.cells #[.int .i64 xs[d].ctors[k].args[j].d,.int .i64 xs[d].ctors[k].args[j].i] 39)).heap.size:=Nat.le_trans hsz hb1.size
     go_wp2_with (at_builtin;refine Halt.mk ?_)
     refine Halt.of (zAA (P:=Tryz.prog) rfl _ _ 63 rfl i0 _ 16 Tryz.underlying63 HI.out HZ0.out HZ1.out HZ2.out rfl (by decide) TyR_len' TyR_mono' (by rfl) HO1.out ⟨xs[d].ctors[k].args[j].d,xs[d].ctors[k].args[j].i⟩ 39 [.int .i64 (xs[d].ctors[k].args[j].d),.int .i64 (xs[d].ctors[k].args[j].i)] [] _ (by rfl) (by simp) (by simp [Value.oneCell']) ⟨rfl,rfl⟩ (Under.nil _) (fun _ _ h=>by cases h) (by have:=zAM (i) xs[d].ctors[k].args j;unfold maxLen;omega) (by have:=zAM (i) xs[d].ctors[k].args j;omega) hbs ?_)
    rotate_left
    focus
     have HF2:=jj ((argsTo_succ (i) xs[d].ctors[k].args j hjl).trans (by rw [argTy_yes q2]))
     have hb1:Below wr.heap.size wr (wr.alloc (.cells #[.int .i64 xs[d].ctors[k].args[j].d,.int .i64 (i)] 39)):=(zy2 _ _).alloc (zz8 _) _
     have hB1:=hB.trans (hb1.mono hB.size)
     have HO1:=jj (HO.out.below (fun x cs G hk h=>TyR_mono' _ _ x cs G hk h) hb1)
     have hbs:w.heap.size+2≤(wr.alloc (.cells #[.int .i64 xs[d].ctors[k].args[j].d,.int .i64 (i)] 39)).heap.size:=Nat.le_trans hsz hb1.size
     go_wp2_with (at_builtin;refine Halt.mk ?_)
     refine Halt.of (zAA (P:=Tryz.prog) rfl _ _ 63 rfl i0 _ 16 Tryz.underlying63 HI.out HZ0.out HZ1.out HZ2.out rfl (by decide) TyR_len' TyR_mono' (by rfl) HO1.out ⟨xs[d].ctors[k].args[j].d,i⟩ 39 [.int .i64 (xs[d].ctors[k].args[j].d),.int .i64 (i)] [] _ (by rfl) (by simp) (by simp [Value.oneCell']) ⟨rfl,rfl⟩ (Under.nil _) (fun _ _ h=>by cases h) (by have:=zAM (i) xs[d].ctors[k].args j;unfold maxLen;omega) (by have:=zAM (i) xs[d].ctors[k].args j;omega) hbs ?_)
    rotate_left
    all_goals (
     intro g cp w3 hown3 hgr3 hat3
     have hrow:=HO1.out.row
     have hB3:Below w.heap.size w w3:=(hB1.alloc hB1.size _).grown hgr3 (by have:=hB1.size;simp;omega) (fun g hg=>by have:=hrow g (zA1.2 hg);omega)
     have HO3:=jj hown3
     have hsz3:w.heap.size+2≤w3.heap.size:=by have:=hgr3.size;simp at this;omega
     clear hown3 hgr3 hat3 hrow
     go_wp2
     go_roundw
     case rel=>exact ⟨j+1,by omega,by go_num,(by rw [HF2.out];exact HO3.out),hB3,hsz3⟩
     case measure=>(simp [intOf] <;> omega))
   ·have hfin:GivesTys w (argsL xs[d].ctors[k] i) (.returned u9) wr:=by
     unfold argsL
     rw [HRI.out]
     have h:=HO.out
     rw [argsTo_all _ _ (by omega)] at h
     exact h.tys hB (by omega)
    have HFin:=jj hfin
    clear hfin
    go_wp2
    go_ret
    exact HFin.out
 |false =>
  have HRI:Hid (resIdx xs[d].ctors[k] i=xs[d].ctors[k].idx):=if_neg (by simp [q])
  go_enter Tryz.func62,Tryz.ntmps62
  go_wp2
  clear q c1 k0 k1 k2 hb hb3
  go_loopw [9,30] (fun ov jv wr=>∃ j:Nat,j≤xs[d].ctors[k].args.length∧jv=.int .i64 j∧Hid (Own wr (w.heap.size+2) 39 2 TyR (argsTo (xs[d].ctors[k].idx) xs[d].ctors[k].args j) ov [])∧Below w.heap.size w wr∧w.heap.size+2≤wr.heap.size) (fun _ jv _=>xs[d].ctors[k].args.length-(intOf jv).toNat)
  case atStart=>exact ⟨0,Nat.zero_le _,rfl,(show Own _ _ _ _ _ [] _ _ from Own.nil _ _ _ _ _),hB2,by simp⟩
  case round =>
   clear hB2
   obtain ⟨j,hj,rfl,HO,hB,hsz⟩:=hrel
   by_cases hjl:j<xs[d].ctors[k].args.length
   ·obtain ⟨b3,off3,rfl⟩:=HC.out.ptr (by omega)
    obtain ⟨hb4,a0,a1⟩:=ArrTy.at HC.out HG3.out hB j hjl
    have g5:(0:Int)≤(j:Int):=by omega
    have g6:(j:Int)<(xs[d].ctors[k].args.length:Int):=by omega
    cases q2:(xs[d].ctors[k].args[j].i == -1)
    focus
     have HF2:=jj ((argsTo_succ (xs[d].ctors[k].idx) xs[d].ctors[k].args j hjl).trans (by rw [argTy_no q2]))
     have hb1:Below wr.heap.size wr (wr.alloc (.cells #[.int .i64 xs[d].ctors[k].args[j].d,.int .i64 xs[d].ctors[k].args[j].i] 39)):=(zy2 _ _).alloc (zz8 _) _
     have hB1:=hB.trans (hb1.mono hB.size)
     have HO1:=jj (HO.out.below (fun x cs G hk h=>TyR_mono' _ _ x cs G hk h) hb1)
     have hbs:w.heap.size+2≤(wr.alloc (.cells #[.int .i64 xs[d].ctors[k].args[j].d,.int .i64 xs[d].ctors[k].args[j].i] 39)).heap.size:=Nat.le_trans hsz hb1.size
     go_wp2_with (at_builtin;refine Halt.mk ?_)
     refine Halt.of (zAA (P:=Tryz.prog) rfl _ _ 63 rfl i0 _ 16 Tryz.underlying63 HI.out HZ0.out HZ1.out HZ2.out rfl (by decide) TyR_len' TyR_mono' (by rfl) HO1.out ⟨xs[d].ctors[k].args[j].d,xs[d].ctors[k].args[j].i⟩ 39 [.int .i64 (xs[d].ctors[k].args[j].d),.int .i64 (xs[d].ctors[k].args[j].i)] [] _ (by rfl) (by simp) (by simp [Value.oneCell']) ⟨rfl,rfl⟩ (Under.nil _) (fun _ _ h=>by cases h) (by have:=zAM (xs[d].ctors[k].idx) xs[d].ctors[k].args j;unfold maxLen;omega) (by have:=zAM (xs[d].ctors[k].idx) xs[d].ctors[k].args j;omega) hbs ?_)
    rotate_left
    focus
     have HF2:=jj ((argsTo_succ (xs[d].ctors[k].idx) xs[d].ctors[k].args j hjl).trans (by rw [argTy_yes q2]))
     have hb1:Below wr.heap.size wr (wr.alloc (.cells #[.int .i64 xs[d].ctors[k].args[j].d,.int .i64 (xs[d].ctors[k].idx)] 39)):=(zy2 _ _).alloc (zz8 _) _
     have hB1:=hB.trans (hb1.mono hB.size)
     have HO1:=jj (HO.out.below (fun x cs G hk h=>TyR_mono' _ _ x cs G hk h) hb1)
     have hbs:w.heap.size+2≤(wr.alloc (.cells #[.int .i64 xs[d].ctors[k].args[j].d,.int .i64 (xs[d].ctors[k].idx)] 39)).heap.size:=Nat.le_trans hsz hb1.size
     go_wp2_with (at_builtin;refine Halt.mk ?_)
     refine Halt.of (zAA (P:=Tryz.prog) rfl _ _ 63 rfl i0 _ 16 Tryz.underlying63 HI.out HZ0.out HZ1.out HZ2.out rfl (by decide) TyR_len' TyR_mono' (by rfl) HO1.out ⟨xs[d].ctors[k].args[j].d,xs[d].ctors[k].idx⟩ 39 [.int .i64 (xs[d].ctors[k].args[j].d),.int .i64 (xs[d].ctors[k].idx)] [] _ (by rfl) (by simp) (by simp [Value.oneCell']) ⟨rfl,rfl⟩ (Under.nil _) (fun _ _ h=>by cases h) (by have:=zAM (xs[d].ctors[k].idx) xs[d].ctors[k].args j;unfold maxLen;omega) (by have:=zAM (xs[d].ctors[k].idx) xs[d].ctors[k].args j;omega) hbs ?_)
    rotate_left
    all_goals (
     intro g cp w3 hown3 hgr3 hat3
     have hrow:=HO1.out.row
     have hB3:Below w.heap.size w w3:=(hB1.alloc hB1.size _).grown hgr3 (by have:=hB1.size;simp;omega) (fun g hg=>by have:=hrow g (zA1.2 hg);omega)
     have HO3:=jj hown3
     have hsz3:w.heap.size+2≤w3.heap.size:=by have:=hgr3.size;simp at this;omega
     clear hown3 hgr3 hat3 hrow
     go_wp2
     go_roundw
     case rel=>exact ⟨j+1,by omega,by go_num,(by rw [HF2.out];exact HO3.out),hB3,hsz3⟩
     case measure=>(simp [intOf] <;> omega))
   ·have hfin:GivesTys w (argsL xs[d].ctors[k] i) (.returned u9) wr:=by
     unfold argsL
     rw [HRI.out]
     have h:=HO.out
     rw [argsTo_all _ _ (by omega)] at h
     exact h.tys hB (by omega)
    have HFin:=jj hfin
    clear hfin
    go_wp2
    go_ret
    exact HFin.out
theorem spec_l1Result (c:Kt) (i:Int) (A:Option Addr) (n cap:Nat) (w:World):Calls Tryz.prog 130 #[.agg #[.string c.name,.slice A n cap,.int .i64 c.idx],.int .i64 i] w fun e w'=>e=.returned (.int .i64 (resIdx c i))∧Below w.heap.size w w':=by
 cases q:(c.idx==0) with
 |true =>
  have hf:Hid (resIdx c i=i):=if_pos q
  go_enter Tryz.func130,Tryz.ntmps130
  go_wp2
  go_ret
  exact ⟨zA5 hf.out.symm,(zy2 _ _).alloc (zz8 _) _⟩
 |false =>
  have hf:Hid (resIdx c i=c.idx):=if_neg (by simp [q])
  go_enter Tryz.func130,Tryz.ntmps130
  go_wp2
  go_ret
  exact ⟨zA5 hf.out.symm,(zy2 _ _).alloc (zz8 _) _⟩
theorem spec_l1Args (xs:List Dt) (d k:Nat) (i:Int) (hd:d<xs.length) (hk:k<xs[d].ctors.length) (w:World) (v:Value) (F:List Nat) (hx:Arr w (DtR w) xs v F) (hf:Under w.heap.size F) (hal:xs[d].ctors[k].args.length≤3) :
  Calls Tryz.prog 103 #[v,.agg #[.int .i64 (d:Int),.int .i64 i],.int .i64 (k:Int)] w (GivesTys w (argsL xs[d].ctors[k] i)):=by
 obtain ⟨A,cap,rfl,hc1,hc2⟩:=hx.form
 obtain ⟨b,off,rfl⟩:=hx.ptr (by omega)
 have HX:=jj hx
 have HF:=jj hf
 clear hx hf
 obtain ⟨i0,hi,hz0,hz1,hz2⟩:=info_parts info_tyE
 have HI:=jj hi
 have HZ0:=jj hz0
 have HZ1:=jj hz1
 have HZ2:=jj hz2
 clear hi hz0 hz1 hz2
 have hB0:Below w.heap.size w ((w.alloc (.cells #[.int .i64 (d:Int),.int .i64 i] 39)).alloc (.cells #[] 39)):=((zy2 _ _).alloc (zz8 _) _).alloc (by simp) _
 obtain ⟨A1,cap1,G1,hb,c0,c1,HK,HG,-,hn1,hn2⟩:=ArrDt.at HX.out HF.out hB0 d hd
 clear c0
 obtain ⟨b2,off2,rfl⟩:=HK.out.ptr (by omega)
 obtain ⟨A3,cap3,G3,hb3,k0,k1,k2,HC,HG3,-,hn3,hn4⟩:=ArrKt.at HK.out HG.out hB0 k hk
 have g1:(0:Int)≤(d:Int):=by omega
 have g2:(d:Int)<(xs.length:Int):=by omega
 have g3:(0:Int)≤(k:Int):=by omega
 have g4:(k:Int)<(xs[d].ctors.length:Int):=by omega
 have HL:=jj hal
 go_enter Tryz.func103,Tryz.ntmps103
 go_wp2
 clear c1 k0 k1 k2 hb hb3
 have hB2:Below w.heap.size w (((w.alloc (.cells #[.int .i64 (d:Int),.int .i64 i] 39)).alloc (.cells #[] 39)).alloc (.cells #[.string xs[d].ctors[k].name,.slice A3 xs[d].ctors[k].args.length cap3,.int .i64 xs[d].ctors[k].idx] 122)):=hB0.alloc (by simp;omega) _
 have KT0:Hid (Blk (((w.alloc (.cells #[.int .i64 (d:Int),.int .i64 i] 39)).alloc (.cells #[] 39)).alloc (.cells #[.string xs[d].ctors[k].name,.slice A3 xs[d].ctors[k].args.length cap3,.int .i64 xs[d].ctors[k].idx] 122)) w.heap.size 39 #[.int .i64 (d:Int),.int .i64 i]):=((Blk.new _ _ _).same (Below.heap_alloc _ _ _ (by simp))).same (Below.heap_alloc _ _ _ (by simp;omega))
 have KC0:Hid (Blk (((w.alloc (.cells #[.int .i64 (d:Int),.int .i64 i] 39)).alloc (.cells #[] 39)).alloc (.cells #[.string xs[d].ctors[k].name,.slice A3 xs[d].ctors[k].args.length cap3,.int .i64 xs[d].ctors[k].idx] 122)) (w.heap.size+2) 122 #[.string xs[d].ctors[k].name,.slice A3 xs[d].ctors[k].args.length cap3,.int .i64 xs[d].ctors[k].idx]):=by
  have h:=Blk.new ((w.alloc (.cells #[.int .i64 (d:Int),.int .i64 i] 39)).alloc (.cells #[] 39)) 122 #[.string xs[d].ctors[k].name,.slice A3 xs[d].ctors[k].args.length cap3,.int .i64 xs[d].ctors[k].idx]
  rw [show ((w.alloc (.cells #[.int .i64 (d:Int),.int .i64 i] 39)).alloc (.cells #[] 39)).heap.size=w.heap.size+2 from by simp] at h
  exact h
 have HO0:Hid (Own (((w.alloc (.cells #[.int .i64 (d:Int),.int .i64 i] 39)).alloc (.cells #[] 39)).alloc (.cells #[.string xs[d].ctors[k].name,.slice A3 xs[d].ctors[k].args.length cap3,.int .i64 xs[d].ctors[k].idx] 122)) (w.heap.size+1) 39 2 TyR ([]:List Ty) (.slice (some ⟨w.heap.size+1,0,none⟩) 0 0) []):=by
  have h:=Own.made (w.alloc (.cells #[.int .i64 (d:Int),.int .i64 i] 39)) (w.heap.size+1) 39 2 TyR #[] 0 (by simp) (by simp [maxLen]) rfl
  rw [World.size_alloc] at h
  exact h.below (fun x cs G hk h=>TyR_mono' _ _ x cs G hk h) ((zy2 _ _).alloc (zz8 _) _)
 go_loopw [7,9] (fun ov jv wr=>∃ j:Nat,j≤xs[d].ctors[k].args.length∧jv=.int .i64 j∧Hid (Own wr (w.heap.size+1) 39 2 TyR (argsTo (resIdx xs[d].ctors[k] i) xs[d].ctors[k].args j) ov [])∧Below w.heap.size w wr∧Hid (Blk wr w.heap.size 39 #[.int .i64 (d:Int),.int .i64 i])∧Hid (Blk wr (w.heap.size+2) 122 #[.string xs[d].ctors[k].name,.slice A3 xs[d].ctors[k].args.length cap3,.int .i64 xs[d].ctors[k].idx])∧Hid (∀ g'∈rowOf ov,g'=w.heap.size+1∨w.heap.size+3≤g')) (fun _ jv _=>xs[d].ctors[k].args.length-(intOf jv).toNat)
 case atStart=>exact ⟨0,Nat.zero_le _,rfl,HO0,hB2,KT0,KC0,fun g' hg'=>by rw [zA4,zy1] at hg';exact .inl hg'⟩
 case round =>
  clear hB2 hB0 KT0 KC0 HO0
  obtain ⟨j,hj,rfl,HO,hB,KT,KC,HN⟩:=hrel
  have y1:wr.cell? ⟨w.heap.size,1,none⟩=some (.int .i64 i):=(KT.out.cell 1).trans (by simp)
  have q0:wr.cell? ⟨w.heap.size+2,0,none⟩=some (.string xs[d].ctors[k].name):=(KC.out.cell 0).trans (by simp)
  have q1:wr.cell? ⟨w.heap.size+2,1,none⟩=some (.slice A3 xs[d].ctors[k].args.length cap3):=(KC.out.cell 1).trans (by simp)
  have q2:wr.cell? ⟨w.heap.size+2,2,none⟩=some (.int .i64 xs[d].ctors[k].idx):=(KC.out.cell 2).trans (by simp)
  have hsz:=KC.out.lt
  have hsz0:=KT.out.lt
  by_cases hjl:j<xs[d].ctors[k].args.length
  ·obtain ⟨b3,off3,rfl⟩:=HC.out.ptr (by omega)
   obtain ⟨hb4,a0,a1⟩:=ArrTy.at HC.out HG3.out hB j hjl
   have g5:(0:Int)≤(j:Int):=by omega
   have g6:(j:Int)<(xs[d].ctors[k].args.length:Int):=by omega
   have hbx:Below wr.heap.size wr (wr.alloc (.cells #[.int .i64 xs[d].ctors[k].args[j].d,.int .i64 xs[d].ctors[k].args[j].i] 39)):=(zy2 _ _).alloc (zz8 _) _
   have hBx:=hB.trans (hbx.mono hB.size)
   have HOx:=jj (HO.out.below (fun x cs G hk h=>TyR_mono' _ _ x cs G hk h) hbx)
   have KTx:=jj (KT.out.same (hbx.block _ KT.out.lt))
   have KCx:=jj (KC.out.same (hbx.block _ KC.out.lt))
   cases q3:(xs[d].ctors[k].args[j].i == -1) with
   |true =>
    have HF2:=jj ((argsTo_succ (resIdx xs[d].ctors[k] i) xs[d].ctors[k].args j hjl).trans (by rw [argTy_yes q3]))
    have KX:=jj (Blk.new wr 39 #[.int .i64 xs[d].ctors[k].args[j].d,.int .i64 xs[d].ctors[k].args[j].i])
    go_wp2_with fail
    obtain ⟨W4,hW4⟩:∃ W4,W4=wr.alloc (.cells #[.int .i64 xs[d].ctors[k].args[j].d,.int .i64 xs[d].ctors[k].args[j].i] 39):=⟨_,rfl⟩
    rw [←hW4] at hbx hBx HOx KTx KCx KX ⊢
    clear hW4
    refine (spec_l1Result xs[d].ctors[k] i _ _ _ W4).mono ?_
    rintro e w4 ⟨rfl,hb4'⟩
    have hB4:=hBx.trans (hb4'.mono hBx.size)
    have HO4:=jj (HOx.out.below (fun x cs G hk h=>TyR_mono' _ _ x cs G hk h) hb4')
    have KT4:=jj (KTx.out.same (hb4'.block _ KTx.out.lt))
    have KC4:=jj (KCx.out.same (hb4'.block _ KCx.out.lt))
    have k4:=KX.out.same (hb4'.block _ KX.out.lt)
    have z0:w4.cell? ⟨wr.heap.size,0,none⟩=some (.int .i64 xs[d].ctors[k].args[j].d):=(k4.cell 0).trans (by simp)
    have z1:w4.cell? ⟨wr.heap.size,1,none⟩=some (.int .i64 xs[d].ctors[k].args[j].i):=(k4.cell 1).trans (by simp)
    have zf:=k4.frozen 1
    have hz4:=k4.lt
    have hrw:=HO4.out.row
    have hrow0:=HO.out.row
    have hB1:Below w.heap.size w (w4.setCell ⟨wr.heap.size,1,none⟩ (.int .i64 (resIdx xs[d].ctors[k] i))):=hB4.setCell (by show w.heap.size≤wr.heap.size;omega) _
    have HO1:=jj (Own.set (j:=1) (b:=wr.heap.size) TyR_mono' HO4.out (.int .i64 (resIdx xs[d].ctors[k] i)) (fun h=>by have:=(hrow0 _ h).2;omega) (fun h=>by cases h))
    have KT1:Hid (Blk (w4.setCell ⟨wr.heap.size,1,none⟩ (.int .i64 (resIdx xs[d].ctors[k] i))) w.heap.size 39 #[.int .i64 (d:Int),.int .i64 i]):=KT4.out.same (zz7 _ _ _ _ (by show w.heap.size≠wr.heap.size;omega))
    have KC1:Hid (Blk (w4.setCell ⟨wr.heap.size,1,none⟩ (.int .i64 (resIdx xs[d].ctors[k] i))) (w.heap.size+2) 122 #[.string xs[d].ctors[k].name,.slice (some ⟨b3,off3,none⟩) xs[d].ctors[k].args.length cap3,.int .i64 xs[d].ctors[k].idx]):=KC4.out.same (zz7 _ _ _ _ (by show w.heap.size+2≠wr.heap.size;omega))
    have hbs:w.heap.size+1≤(w4.setCell ⟨wr.heap.size,1,none⟩ (.int .i64 (resIdx xs[d].ctors[k] i))).heap.size:=Nat.le_of_lt (Nat.lt_of_le_of_lt (Nat.le_add_right _ 1) KC1.out.lt)
    have hbs3:w.heap.size+3≤(w4.setCell ⟨wr.heap.size,1,none⟩ (.int .i64 (resIdx xs[d].ctors[k] i))).heap.size:=KC1.out.lt
    have hrow2:=HN.out
    clear hbx hBx HOx KTx KCx KX k4 hrw hrow0 y1 q0 q1 q2 a0 a1
    generalize hrr:resIdx xs[d].ctors[k] i=rr at *
    have HRR:=jj hrr
    clear hrr
    go_wp2_with (at_builtin;refine Halt.mk ?_)
    refine Halt.of (zAA (P:=Tryz.prog) rfl _ _ 63 rfl i0 _ 16 Tryz.underlying63 HI.out HZ0.out HZ1.out HZ2.out rfl (by decide) TyR_len' TyR_mono' (by rfl) HO1.out ⟨xs[d].ctors[k].args[j].d,rr⟩ 39 [.int .i64 (xs[d].ctors[k].args[j].d),.int .i64 (rr)] [] _ (by rfl) (by simp) (by simp [Value.oneCell']) ⟨rfl,rfl⟩ (Under.nil _) (fun _ _ h=>by cases h) (by have:=zAM (rr) xs[d].ctors[k].args j;unfold maxLen;omega) (by have:=zAM (rr) xs[d].ctors[k].args j;omega) hbs ?_)
    intro g cp w3 hown3 hgr3 hat3
    have hrow:=HO1.out.row
    have hB3:Below w.heap.size w w3:=(hB1.alloc hB1.size _).grown hgr3 (by have:=hB1.size;simp;omega) (fun g hg=>by have:=hrow g (zA1.2 hg);omega)
    have HO3:=jj hown3
    have KT3:Hid (Blk w3 w.heap.size 39 #[.int .i64 (d:Int),.int .i64 i]):=(KT1.out.same (Below.heap_alloc _ _ _ KT1.out.lt)).same (hgr3.block _ (by have:=KT1.out.lt;simp;omega) (fun e=>by have:=hrow _ (zA1.2 e.symm);omega))
    have KC3:Hid (Blk w3 (w.heap.size+2) 122 #[.string xs[d].ctors[k].name,.slice (some ⟨b3,off3,none⟩) xs[d].ctors[k].args.length cap3,.int .i64 xs[d].ctors[k].idx]):=(KC1.out.same (Below.heap_alloc _ _ _ KC1.out.lt)).same (hgr3.block _ (by have:=KC1.out.lt;simp;omega) (fun e=>by have:=hrow2 _ (zA1.2 e.symm);omega))
    have hne3:∀ g'∈rowOf (.slice (some ⟨g,0,none⟩) ((argsTo (rr) xs[d].ctors[k].args j).length+1) cp),g'=w.heap.size+1∨w.heap.size+3≤g':=fun g' hg'=>by
     rw [zA4,zy1] at hg'
     subst hg'
     rcases hat3 with h | h
     ·exact hrow2 _ (zA1.2 h)
     ·right;have:=hbs3;omega
    have HN3:=jj hne3
    clear hown3 hgr3 hat3 hrow hrow2 hne3
    go_wp2
    go_roundw
    case rel=>exact ⟨j+1,by omega,by go_num,(by rw [HRR.out,HF2.out];exact HO3.out),hB3,KT3,KC3,HN3⟩
    case measure=>(simp [intOf] <;> omega)
   |false =>
    have HF2:=jj ((argsTo_succ (resIdx xs[d].ctors[k] i) xs[d].ctors[k].args j hjl).trans (by rw [argTy_no q3]))
    have hB1:=hBx
    have HO1:=HOx
    have KT1:Hid (Blk (wr.alloc (.cells #[.int .i64 xs[d].ctors[k].args[j].d,.int .i64 xs[d].ctors[k].args[j].i] 39)) w.heap.size 39 #[.int .i64 (d:Int),.int .i64 i]):=KTx
    have KC1:Hid (Blk (wr.alloc (.cells #[.int .i64 xs[d].ctors[k].args[j].d,.int .i64 xs[d].ctors[k].args[j].i] 39)) (w.heap.size+2) 122 #[.string xs[d].ctors[k].name,.slice (some ⟨b3,off3,none⟩) xs[d].ctors[k].args.length cap3,.int .i64 xs[d].ctors[k].idx]):=KCx
    have hbs:w.heap.size+1≤(wr.alloc (.cells #[.int .i64 xs[d].ctors[k].args[j].d,.int .i64 xs[d].ctors[k].args[j].i] 39)).heap.size:=Nat.le_of_lt (Nat.lt_of_le_of_lt (Nat.le_add_right _ 1) KC1.out.lt)
    have hbs3:w.heap.size+3≤(wr.alloc (.cells #[.int .i64 xs[d].ctors[k].args[j].d,.int .i64 xs[d].ctors[k].args[j].i] 39)).heap.size:=KC1.out.lt
    have hrow2:=HN.out
    clear hBx HOx KTx KCx
    go_wp2_with (at_builtin;refine Halt.mk ?_)
    refine Halt.of (zAA (P:=Tryz.prog) rfl _ _ 63 rfl i0 _ 16 Tryz.underlying63 HI.out HZ0.out HZ1.out HZ2.out rfl (by decide) TyR_len' TyR_mono' (by rfl) HO1.out ⟨xs[d].ctors[k].args[j].d,xs[d].ctors[k].args[j].i⟩ 39 [.int .i64 (xs[d].ctors[k].args[j].d),.int .i64 (xs[d].ctors[k].args[j].i)] [] _ (by rfl) (by simp) (by simp [Value.oneCell']) ⟨rfl,rfl⟩ (Under.nil _) (fun _ _ h=>by cases h) (by have:=zAM (resIdx xs[d].ctors[k] i) xs[d].ctors[k].args j;unfold maxLen;omega) (by have:=zAM (resIdx xs[d].ctors[k] i) xs[d].ctors[k].args j;omega) hbs ?_)
    intro g cp w3 hown3 hgr3 hat3
    have hrow:=HO1.out.row
    have hB3:Below w.heap.size w w3:=(hB1.alloc hB1.size _).grown hgr3 (by have:=hB1.size;simp;omega) (fun g hg=>by have:=hrow g (zA1.2 hg);omega)
    have HO3:=jj hown3
    have KT3:Hid (Blk w3 w.heap.size 39 #[.int .i64 (d:Int),.int .i64 i]):=(KT1.out.same (Below.heap_alloc _ _ _ KT1.out.lt)).same (hgr3.block _ (by have:=KT1.out.lt;simp;omega) (fun e=>by have:=hrow _ (zA1.2 e.symm);omega))
    have KC3:Hid (Blk w3 (w.heap.size+2) 122 #[.string xs[d].ctors[k].name,.slice (some ⟨b3,off3,none⟩) xs[d].ctors[k].args.length cap3,.int .i64 xs[d].ctors[k].idx]):=(KC1.out.same (Below.heap_alloc _ _ _ KC1.out.lt)).same (hgr3.block _ (by have:=KC1.out.lt;simp;omega) (fun e=>by have:=hrow2 _ (zA1.2 e.symm);omega))
    have hne3:∀ g'∈rowOf (.slice (some ⟨g,0,none⟩) ((argsTo (resIdx xs[d].ctors[k] i) xs[d].ctors[k].args j).length+1) cp),g'=w.heap.size+1∨w.heap.size+3≤g':=fun g' hg'=>by
     rw [zA4,zy1] at hg'
     subst hg'
     rcases hat3 with h | h
     ·exact hrow2 _ (zA1.2 h)
     ·right;have:=hbs3;omega
    have HN3:=jj hne3
    clear hown3 hgr3 hat3 hrow hrow2 hne3
    go_wp2
    go_roundw
    case rel=>exact ⟨j+1,by omega,by go_num,(by rw [HF2.out];exact HO3.out),hB3,KT3,KC3,HN3⟩
    case measure=>(simp [intOf] <;> omega)
  ·have hfin:GivesTys w (argsL xs[d].ctors[k] i) (.returned u7) wr:=by
    unfold argsL
    have h:=HO.out
    rw [argsTo_all _ _ (by omega)] at h
    exact h.tys hB (by omega)
   have HFin:=jj hfin
   clear hfin
   go_wp2
   go_ret
   exact HFin.out
theorem info_int:(Tryz.prog.info? 3).map (fun i=>(i.zero,i.size,i.bytes))=some (some (.int .i64 0),1,8):=by kernel_rfl
def fitsB (c:Kt) (i:Int):Bool:=c.idx==0 || (i==0 || c.idx==i)
def fitAt (cs:List Kt) (i:Int) (k:Nat):Bool:=match cs[k]? with | some c=>fitsB c i | none=>false
def fitTo (cs:List Kt) (i:Int) (n:Nat):List Int:=((List.range n).filter (fitAt cs i)).map Int.ofNat
def ctorsAt (xs:List Dt) (d:Int):List Kt:=match xs[d.toNat]? with | some x=>x.ctors | none=>[]
def ctorsL (xs:List Dt) (t:Ty):List Int:=if t.d = -1 then [] else fitTo (ctorsAt xs t.d) t.i (ctorsAt xs t.d).length
theorem fitTo_succ (cs:List Kt) (i:Int) (n:Nat) (h:n<cs.length):fitTo cs i (n+1)=if fitsB cs[n] i then fitTo cs i n ++ [(n:Int)] else fitTo cs i n:=by
 unfold fitTo
 rw [List.range_succ,List.filter_append]
 have hf:fitAt cs i n=fitsB cs[n] i:=by unfold fitAt;rw [List.getElem?_eq_getElem h]
 cases hb:fitsB cs[n] i <;> simp [hf,hb]
theorem fitTo_yes {cs:List Kt} {i:Int} {n:Nat} (h:n<cs.length) (e:fitsB cs[n] i=true):fitTo cs i (n+1)=fitTo cs i n ++ [(n:Int)]:=by rw [fitTo_succ cs i n h,if_pos e]
theorem fitTo_no {cs:List Kt} {i:Int} {n:Nat} (h:n<cs.length) (e:fitsB cs[n] i=false):fitTo cs i (n+1)=fitTo cs i n:=by rw [fitTo_succ cs i n h,if_neg (by simp [e])]
theorem fitTo_len (cs:List Kt) (i:Int) (n:Nat):(fitTo cs i n).length≤n:=by
 unfold fitTo
 rw [List.length_map]
 exact Nat.le_trans (List.length_filter_le _ _) (by simp)
theorem ctorsL_int {xs:List Dt} {t:Ty} (h:t.d = -1):ctorsL xs t=[]:=if_pos h
theorem ctorsAt_get {xs:List Dt} {d:Nat} (h:d<xs.length):ctorsAt xs (d:Int)=xs[d].ctors:=by unfold ctorsAt;rw [Int.toNat_natCast,List.getElem?_eq_getElem h]
theorem ctorsL_data {xs:List Dt} {d:Nat} {i:Int} (h:d<xs.length):ctorsL xs ⟨(d:Int),i⟩=fitTo xs[d].ctors i xs[d].ctors.length:=by
 unfold ctorsL
 rw [if_neg (by show ¬((d:Int) = -1);omega)]
 show fitTo (ctorsAt xs (d:Int)) i (ctorsAt xs (d:Int)).length=_
 rw [ctorsAt_get h]
def MadeNats (w:World) (xs:List Int) (e:Ending) (w':World):Prop:=MadeArr NatR w xs e w'
theorem Own.nats {w0 w:World} {B:Nat} {E:TypeId} {xs:List Int} {v:Value} (h:Own w B E 1 NatR xs v []) (hb:Below w0.heap.size w0 w) (hB:w0.heap.size≤B):MadeNats w0 xs (.returned v) w :=
 h.gives hb hB (fun b hb=>by cases hb) (Free.nil _)
theorem impl_ctorsOf (xs:List Dt) (t:Ty) (w:World) (v:Value) (F:List Nat) (hx:Arr w (DtR w) xs v F) (hf:Under w.heap.size F) (hw:WorldOK xs) (ht:InWorld xs.length t) :
  Calls Tryz.prog 90 #[v,.agg #[.int .i64 t.d,.int .i64 t.i]] w (MadeNats w (ctorsL xs t)):=by
 obtain ⟨A,cap,rfl,hc1,hc2⟩:=hx.form
 have HX:=jj hx
 have HF:=jj hf
 clear hx hf
 rcases ht with hd | ⟨d,hd,hdl⟩
 ·have hf:=jj (ctorsL_int (xs:=xs) hd)
  have t0:(t.d != -1)=false:=by simp [hd]
  clear hd
  go_enter Tryz.func90,Tryz.ntmps90
  go_wp2
  go_ret
  rw [hf.out]
  exact ⟨_,[],rfl,(zy2 _ _).alloc (zz8 _) _,Arr.nil,Free.nil _,Fresh.nil _ _⟩
 ·obtain ⟨t1,t2⟩:=t
  simp only at hd
  subst hd
  have hf:=jj (ctorsL_data (i:=t2) hdl)
  have t0:((d:Int) != -1)=true:=by rw [bne_iff_ne];omega
  obtain ⟨i0,hi,hz0,hz1,hz2⟩:=info_parts info_int
  have HI:=jj hi
  have HZ0:=jj hz0
  have HZ1:=jj hz1
  have HZ2:=jj hz2
  clear hi hz0 hz1 hz2
  obtain ⟨b,off,rfl⟩:=HX.out.ptr (by omega)
  have hB0:Below w.heap.size w (w.alloc (.cells #[.int .i64 (d:Int),.int .i64 t2] 39)):=(zy2 _ _).alloc (zz8 _) _
  obtain ⟨A1,cap1,G1,hb,c0,c1,HK,HG,hs,hn1,hn2⟩:=ArrDt.at HX.out HF.out hB0 d hdl
  have g1:(0:Int)≤(d:Int):=by omega
  have g2:(d:Int)<(xs.length:Int):=by omega
  have HL:=jj (hw.at hdl).hi
  clear c0 hs
  go_enter Tryz.func90,Tryz.ntmps90
  go_wp2
  clear c1 hb
  go_loopw [5,18] (fun ov iv wr=>∃ k:Nat,k≤xs[d].ctors.length∧iv=.int .i64 k∧Hid (Own wr (w.heap.size+1) 3 1 NatR (fitTo xs[d].ctors t2 k) ov [])∧Below w.heap.size w wr∧Hid (Blk wr w.heap.size 39 #[.int .i64 (d:Int),.int .i64 t2])) (fun _ iv _=>xs[d].ctors.length-(intOf iv).toNat)
  case atStart=>exact ⟨0,Nat.zero_le _,rfl,(show Own _ _ _ _ _ [] _ _ from Own.nil _ _ _ _ _),hB0,Blk.new _ _ _⟩
  case round =>
   clear hB0
   obtain ⟨k,hk,rfl,HO,hB,KT⟩:=hrel
   by_cases hkl:k<xs[d].ctors.length
   ·obtain ⟨b2,off2,rfl⟩:=HK.out.ptr (by omega)
    obtain ⟨A3,cap3,G3,hb3,k0,k1,k2,HC,HG3,-,-,-⟩:=ArrKt.rep HK.out HG.out hB k hkl
    have g3:(0:Int)≤(k:Int):=by omega
    have g4:(k:Int)<(xs[d].ctors.length:Int):=by omega
    have y1:wr.cell? ⟨w.heap.size,1,none⟩=some (.int .i64 t2):=(KT.out.cell 1).trans (by simp)
    have hy1:=KT.out.lt
    have hb1:Below wr.heap.size wr (wr.alloc (.cells #[.string xs[d].ctors[k].name,.slice A3 xs[d].ctors[k].args.length cap3,.int .i64 xs[d].ctors[k].idx] 122)):=(zy2 _ _).alloc (zz8 _) _
    have hB1:=hB.trans (hb1.mono hB.size)
    have HO1:=jj (HO.out.below (fun x cs G hk h=>NatR_mono _ _ x cs G hk h) hb1)
    have KT1:Hid (Blk (wr.alloc (.cells #[.string xs[d].ctors[k].name,.slice A3 xs[d].ctors[k].args.length cap3,.int .i64 xs[d].ctors[k].idx] 122)) w.heap.size 39 #[.int .i64 (d:Int),.int .i64 t2]):=KT.out.same (hb1.block _ KT.out.lt)
    have hsz1:wr.heap.size≤(wr.alloc (.cells #[.string xs[d].ctors[k].name,.slice A3 xs[d].ctors[k].args.length cap3,.int .i64 xs[d].ctors[k].idx] 122)).heap.size:=hb1.size
    have hz1':w.heap.size+1≤wr.heap.size:=KT.out.lt
    cases q0:(t2==0) with
    |true =>
     have e1:fitsB xs[d].ctors[k] t2=true:=by unfold fitsB;rw [q0,Bool.true_or,Bool.or_true]
     have HF2:=jj (fitTo_yes hkl e1)
     clear e1
     have hlen:=fitTo_len xs[d].ctors t2 k
     go_wp2_with (at_builtin;refine Halt.mk ?_)
     refine Halt.of (zAA (P:=Tryz.prog) rfl _ _ 104 rfl i0 _ 8 Tryz.underlying104 HI.out HZ0.out HZ1.out HZ2.out rfl Nat.zero_lt_one NatR_len NatR_mono (by rfl) HO1.out (k:Int) 3 [.int .i64 (k:Int)] [] _ (by rfl) (by simp) (by simp [Value.oneCell']) ⟨rfl,rfl⟩ (Under.nil _) (fun _ _ h=>by cases h) (by have:=HL.out;unfold maxLen;omega) (by have:=HL.out;omega) (Nat.le_trans hz1' hsz1) ?_)
     intro g cp w3 hown3 hgr3 hat3
     have hrow:=HO1.out.row
     have hB3:Below w.heap.size w w3:=(hB1.alloc hB1.size _).grown hgr3 (by have:=hB1.size;simp;omega) (fun g hg=>by have:=hrow g (zA1.2 hg);omega)
     have HO3:=jj hown3
     have KT3:Hid (Blk w3 w.heap.size 39 #[.int .i64 (d:Int),.int .i64 t2]):=(KT1.out.same (Below.heap_alloc _ _ _ KT1.out.lt)).same (hgr3.block _ (by have:=KT1.out.lt;simp;omega) (fun e=>by have:=hrow _ (zA1.2 e.symm);omega))
     have hsz3:=hgr3.size
     clear hown3 hgr3 hat3 hrow hlen
     go_wp2
     go_roundw
     case rel=>exact ⟨k+1,by omega,by go_num,(by rw [HF2.out];exact HO3.out),hB3,KT3⟩
     case measure=>(simp [intOf] <;> omega)
    |false =>
     cases q1:(xs[d].ctors[k].idx==0) with
     |true =>
      have e1:fitsB xs[d].ctors[k] t2=true:=by unfold fitsB;rw [q1,Bool.true_or]
      have HF2:=jj (fitTo_yes hkl e1)
      clear e1
      have hlen:=fitTo_len xs[d].ctors t2 k
      go_wp2_with (at_builtin;refine Halt.mk ?_)
      refine Halt.of (zAA (P:=Tryz.prog) rfl _ _ 104 rfl i0 _ 8 Tryz.underlying104 HI.out HZ0.out HZ1.out HZ2.out rfl Nat.zero_lt_one NatR_len NatR_mono (by rfl) HO1.out (k:Int) 3 [.int .i64 (k:Int)] [] _ (by rfl) (by simp) (by simp [Value.oneCell']) ⟨rfl,rfl⟩ (Under.nil _) (fun _ _ h=>by cases h) (by have:=HL.out;unfold maxLen;omega) (by have:=HL.out;omega) (Nat.le_trans hz1' hsz1) ?_)
      intro g cp w3 hown3 hgr3 hat3
      have hrow:=HO1.out.row
      have hB3:Below w.heap.size w w3:=(hB1.alloc hB1.size _).grown hgr3 (by have:=hB1.size;simp;omega) (fun g hg=>by have:=hrow g (zA1.2 hg);omega)
      have HO3:=jj hown3
      have KT3:Hid (Blk w3 w.heap.size 39 #[.int .i64 (d:Int),.int .i64 t2]):=(KT1.out.same (Below.heap_alloc _ _ _ KT1.out.lt)).same (hgr3.block _ (by have:=KT1.out.lt;simp;omega) (fun e=>by have:=hrow _ (zA1.2 e.symm);omega))
      have hsz3:=hgr3.size
      clear hown3 hgr3 hat3 hrow hlen
      go_wp2
      go_roundw
      case rel=>exact ⟨k+1,by omega,by go_num,(by rw [HF2.out];exact HO3.out),hB3,KT3⟩
      case measure=>(simp [intOf] <;> omega)
     |false =>
      cases q2:(xs[d].ctors[k].idx==t2) with
      |true =>
       have e1:fitsB xs[d].ctors[k] t2=true:=by unfold fitsB;rw [q0,q1,q2];rfl
       have HF2:=jj (fitTo_yes hkl e1)
       clear e1
       have hlen:=fitTo_len xs[d].ctors t2 k
       go_wp2_with (at_builtin;refine Halt.mk ?_)
       refine Halt.of (zAA (P:=Tryz.prog) rfl _ _ 104 rfl i0 _ 8 Tryz.underlying104 HI.out HZ0.out HZ1.out HZ2.out rfl Nat.zero_lt_one NatR_len NatR_mono (by rfl) HO1.out (k:Int) 3 [.int .i64 (k:Int)] [] _ (by rfl) (by simp) (by simp [Value.oneCell']) ⟨rfl,rfl⟩ (Under.nil _) (fun _ _ h=>by cases h) (by have:=HL.out;unfold maxLen;omega) (by have:=HL.out;omega) (Nat.le_trans hz1' hsz1) ?_)
       intro g cp w3 hown3 hgr3 hat3
       have hrow:=HO1.out.row
       have hB3:Below w.heap.size w w3:=(hB1.alloc hB1.size _).grown hgr3 (by have:=hB1.size;simp;omega) (fun g hg=>by have:=hrow g (zA1.2 hg);omega)
       have HO3:=jj hown3
       have KT3:Hid (Blk w3 w.heap.size 39 #[.int .i64 (d:Int),.int .i64 t2]):=(KT1.out.same (Below.heap_alloc _ _ _ KT1.out.lt)).same (hgr3.block _ (by have:=KT1.out.lt;simp;omega) (fun e=>by have:=hrow _ (zA1.2 e.symm);omega))
       have hsz3:=hgr3.size
       clear hown3 hgr3 hat3 hrow hlen
       go_wp2
       go_roundw
       case rel=>exact ⟨k+1,by omega,by go_num,(by rw [HF2.out];exact HO3.out),hB3,KT3⟩
       case measure=>(simp [intOf] <;> omega)
      |false =>
       have e1:fitsB xs[d].ctors[k] t2=false:=by unfold fitsB;rw [q0,q1,q2];rfl
       have HF2:=jj (fitTo_no hkl e1)
       clear e1
       go_wp2
       go_roundw
       case rel=>exact ⟨k+1,by omega,by go_num,(by rw [HF2.out];exact HO1.out),hB1,KT1⟩
       case measure=>(simp [intOf] <;> omega)
   ·have hfin:MadeNats w (ctorsL xs ⟨(d:Int),t2⟩) (.returned u5) wr:=by
     rw [hf.out]
     have h:=HO.out
     rw [show k=xs[d].ctors.length by omega] at h
     exact h.nats hB (by omega)
    have HFin:=jj hfin
    clear hfin
    go_wp2
    go_ret
    exact HFin.out
def ctorNames (pre:List Dt):List ByteArray:=pre.flatMap fun x=>x.ctors.map Kt.name
def twiceB (pre:List Dt) (cs:List Kt) (s c:ByteArray):Bool:=nameIn (pre.map Dt.name) s || nameIn (ctorNames pre ++ cs.map Kt.name) c
theorem nameIn_snoc (l:List ByteArray) (x s:ByteArray):nameIn (l ++ [x]) s=(nameIn l s || (x.toList==s.toList)):=by simp [nameIn]
theorem nameIn_append (l m:List ByteArray) (s:ByteArray):nameIn (l ++ m) s=(nameIn l s || nameIn m s):=by simp [nameIn]
theorem nameIn_mem {l:List ByteArray} {x s:ByteArray} (h:x∈l) (e:(x.toList==s.toList)=true):nameIn l s=true:=by
 unfold nameIn;rw [List.any_eq_true];exact ⟨x,h,e⟩
theorem ctorNames_snoc (l:List Dt) (x:Dt):ctorNames (l ++ [x])=ctorNames l ++ x.ctors.map Kt.name:=by simp [ctorNames]
def MissD (xs:List Dt) (s c:ByteArray) (i:Nat):Prop:=nameIn ((xs.take i).map Dt.name) s=false∧nameIn (ctorNames (xs.take i)) c=false
theorem MissD.snoc {xs:List Dt} {s c:ByteArray} {i:Nat} (h:MissD xs s c i) (hi:i<xs.length) (h1:(xs[i].name.toList==s.toList)=false) (h2:nameIn (xs[i].ctors.map Kt.name) c=false):MissD xs s c (i+1):=by
 unfold MissD
 rw [take_snoc' xs i hi,List.map_append,List.map_cons,List.map_nil,nameIn_snoc,ctorNames_snoc,nameIn_append,h.1,h.2,h1,h2]
 exact ⟨rfl,rfl⟩
theorem twice_hitD {xs:List Dt} {cs:List Kt} {s c:ByteArray} {i d:Nat} (hi:i<xs.length) (hd:i<d) (h1:(xs[i].name.toList==s.toList)=true):twiceB (xs.take d) cs s c=true:=by
 unfold twiceB
 rw [nameIn_mem (List.mem_map_of_mem (List.mem_take_iff_getElem.2 ⟨i,by omega,rfl⟩)) h1];rfl
theorem twice_hitC {xs:List Dt} {cs:List Kt} {s c:ByteArray} {i j d:Nat} (hi:i<xs.length) (hd:i<d) (hj:j<xs[i].ctors.length) (h1:(xs[i].ctors[j].name.toList==c.toList)=true):twiceB (xs.take d) cs s c=true:=by
 unfold twiceB
 rw [nameIn_append,nameIn_mem (l:=ctorNames (xs.take d)) (x:=xs[i].ctors[j].name) (List.mem_flatMap.2 ⟨xs[i],List.mem_take_iff_getElem.2 ⟨i,by omega,rfl⟩,List.mem_map_of_mem (List.getElem_mem hj)⟩) h1,Bool.true_or,Bool.or_true]
theorem twice_hitK {pre:List Dt} {ks:List Kt} {s c:ByteArray} {j k:Nat} (hj:j<ks.length) (hk:j<k) (h1:(ks[j].name.toList==c.toList)=true):twiceB pre (ks.take k) s c=true:=by
 unfold twiceB
 rw [nameIn_append,nameIn_mem (l:=(ks.take k).map Kt.name) (List.mem_map_of_mem (List.mem_take_iff_getElem.2 ⟨j,by omega,rfl⟩)) h1,Bool.or_true,Bool.or_true]
theorem twice_miss {xs:List Dt} {cs:List Kt} {s c:ByteArray} {d:Nat} (h:MissD xs s c d) (h1:nameIn (cs.map Kt.name) c=false):twiceB (xs.take d) cs s c=false:=by
 unfold twiceB
 rw [nameIn_append,h.1,h.2,h1];rfl
def MissK (ks:List Kt) (c:ByteArray) (j:Nat):Prop:=nameIn ((ks.take j).map Kt.name) c=false
theorem MissK.snoc {ks:List Kt} {c:ByteArray} {j:Nat} (h:MissK ks c j) (hj:j<ks.length) (h1:(ks[j].name.toList==c.toList)=false):MissK ks c (j+1):=by
 unfold MissK
 rw [take_snoc' ks j hj,List.map_append,List.map_cons,List.map_nil,nameIn_snoc,h1,Bool.or_false]
 exact h
theorem MissK.all {ks:List Kt} {c:ByteArray} {j:Nat} (h:MissK ks c j) (hj:ks.length≤j):nameIn (ks.map Kt.name) c=false:=by
 unfold MissK at h
 rwa [List.take_of_length_le hj] at h
theorem spec_l1Twice (xs:List Dt) (d k:Nat) (hd:d<xs.length) (hk:k<xs[d].ctors.length) (w:World) (v:Value) (F:List Nat) (hx:Arr w (DtR w) xs v F) (hf:Under w.heap.size F) :
  Calls Tryz.prog 122 #[v,.int .i64 d,.int .i64 k] w fun e w'=>e=.returned (.bool (twiceB (xs.take d) (xs[d].ctors.take k) xs[d].name xs[d].ctors[k].name))∧Below w.heap.size w w':=by
 obtain ⟨A,cap,rfl,hc1,hc2⟩:=hx.form
 obtain ⟨b,off,rfl⟩:=hx.ptr (by omega)
 have HX:=jj hx
 have HF:=jj hf
 clear hx hf
 go_enter Tryz.func122,Tryz.ntmps122
 go_wp2
 go_loopw [7] (fun iv wr=>∃ i:Nat,i≤d+1∧iv=.int .i64 i∧Hid ((i≤d→MissD xs xs[d].name xs[d].ctors[k].name i)∧(i=d+1→twiceB (xs.take d) (xs[d].ctors.take k) xs[d].name xs[d].ctors[k].name=false))∧Below w.heap.size w wr) (fun iv _=>d+1-(intOf iv).toNat)
 case atStart=>exact ⟨0,Nat.zero_le _,rfl,⟨fun _=>⟨rfl,rfl⟩,fun h=>by omega⟩,zy2 _ _⟩
 case round =>
  obtain ⟨i,hi,rfl,HR,hB⟩:=hrel
  have HBQ:=jj (fun n=>zAQ hB n)
  by_cases hid:i<d
  ·have hil:i<xs.length:=by omega
   have HM:=jj (HR.out.1 (by omega))
   obtain ⟨Ai,capi,Gi,hbi,i0,i1,HI,HGi,-,-,-⟩:=ArrDt.at HX.out HF.out hB i hil
   obtain ⟨Ad,capd,Gd,hbd,d0,d1,HD,HGd,-,-,-⟩:=ArrDt.at HX.out HF.out hB d hd
   have g5:(0:Int)≤(i:Int):=by omega
   have g6:(i:Int)<(xs.length:Int):=by omega
   have g7:(0:Int)≤(d:Int):=by omega
   have g8:(d:Int)<(xs.length:Int):=by omega
   have hdec:decide (i<d)=true:=by simpa using hid
   cases e0:(xs[i].name.toList==xs[d].name.toList) with
   |true =>
    have hf:=jj (twice_hitD (cs:=xs[d].ctors.take k) (c:=xs[d].ctors[k].name) hil hid e0)
    go_wp2_with fail
    go_quiet (fail)
    go_wp2
    go_ret
    exact ⟨zA0 hf.out.symm,HBQ.out _⟩
   |false =>
    go_wp2_with fail
    go_quiet (fail)
    have HE0:=jj e0
    clear e0 i0 i1 d0 d1 HI HGi HD HGd hbi hbd hB
    go_wp2
    obtain ⟨wo,hwo⟩:∃ wo:World,wo=wr:=⟨_,rfl⟩
    go_loopw [8] (fun jv ws=>∃ j:Nat,j≤xs[i].ctors.length∧jv=.int .i64 j∧Hid (MissK xs[i].ctors xs[d].ctors[k].name j)∧Below w.heap.size w ws) (fun jv _=>xs[i].ctors.length-(intOf jv).toNat)
    case atStart=>exact ⟨0,Nat.zero_le _,rfl,(show MissK xs[i].ctors xs[d].ctors[k].name 0 from rfl),HBQ.out _⟩
    case round =>
     clear hwo
     obtain ⟨j,hj,rfl,HK,hB2⟩:=hrel
     have HBq2:=jj (fun n=>zAQ hB2 n)
     obtain ⟨Ai,capi,Gi,hbi,i0,i1,HI,HGi,-,hci1,hci2⟩:=ArrDt.at HX.out HF.out hB2 i hil
     clear i0
     by_cases hlt:j<xs[i].ctors.length
     ·have hjl:j<xs[i].ctors.length:=by omega
      obtain ⟨bi,offi,rfl⟩:=HI.out.ptr (by omega)
      obtain ⟨-,-,-,hbj,j0,-,-,-,-,-,-,-⟩:=ArrKt.at HI.out HGi.out hB2 j hjl
      obtain ⟨Ad,capd,Gd,hbd,d0,d1,HD,HGd,-,hcd1,hcd2⟩:=ArrDt.at HX.out HF.out hB2 d hd
      clear d0
      obtain ⟨bd,offd,rfl⟩:=HD.out.ptr (by omega)
      obtain ⟨-,-,-,hbk,k0,-,-,-,-,-,-,-⟩:=ArrKt.at HD.out HGd.out hB2 k hk
      have g1:(0:Int)≤(j:Int):=by omega
      have g2:(j:Int)<(xs[i].ctors.length:Int):=by omega
      have g3:(0:Int)≤(k:Int):=by omega
      have g4:(k:Int)<(xs[d].ctors.length:Int):=by omega
      have g5:(0:Int)≤(i:Int):=by omega
      have g6:(i:Int)<(xs.length:Int):=by omega
      have g7:(0:Int)≤(d:Int):=by omega
      have g8:(d:Int)<(xs.length:Int):=by omega
      have g9:decide (k<xs[d].ctors.length)=true:=by simpa using hk
      cases e1:(xs[i].ctors[j].name.toList==xs[d].ctors[k].name.toList) with
      |true =>
       have hf:=jj (twice_hitC hil hid hjl e1:twiceB (xs.take d) (xs[d].ctors.take k) xs[d].name xs[d].ctors[k].name=true)
       go_wp2_with fail
       go_quiet (fail)
       go_wp2
       go_ret
       exact ⟨zA0 hf.out.symm,HBq2.out _⟩
      |false =>
       have HK2:=jj (HK.out.snoc hjl e1)
       go_wp2_with fail
       go_quiet (fail)
       go_wp2
       go_roundw
       case rel=>exact ⟨j+1,by omega,by go_num,HK2,HBq2.out _⟩
       case measure=>(simp [intOf] <;> omega)
     ·go_wp2_with fail
      have hm2:MissD xs xs[d].name xs[d].ctors[k].name (i+1):=HM.out.snoc hil HE0.out (HK.out.all (by omega))
      go_roundw
      case rel=>exact ⟨i+1,by omega,by go_num,⟨fun _=>hm2,fun h=>by omega⟩,hB2⟩
      case measure=>(simp [intOf] <;> omega)
  ·by_cases he:i=d
   ·subst he
    have hil:i<xs.length:=by omega
    have HM:=jj (HR.out.1 (by omega))
    have hdec:decide (i<i)=false:=by simp
    go_wp2_with fail
    go_quiet (fail)
    clear hB
    go_wp2
    obtain ⟨wo,hwo⟩:∃ wo:World,wo=wr:=⟨_,rfl⟩
    go_loopw [8] (fun jv ws=>∃ j:Nat,j≤k∧jv=.int .i64 j∧Hid (MissK xs[i].ctors xs[i].ctors[k].name j)∧Below w.heap.size w ws) (fun jv _=>k-(intOf jv).toNat)
    case atStart=>exact ⟨0,Nat.zero_le _,rfl,(show MissK xs[i].ctors xs[i].ctors[k].name 0 from rfl),HBQ.out _⟩
    case round =>
     clear hwo
     obtain ⟨j,hj,rfl,HK,hB2⟩:=hrel
     have HBq2:=jj (fun n=>zAQ hB2 n)
     obtain ⟨Ai,capi,Gi,hbi,i0,i1,HI,HGi,-,hci1,hci2⟩:=ArrDt.at HX.out HF.out hB2 i hil
     clear i0
     by_cases hlt:j<k
     ·have hjl:j<xs[i].ctors.length:=by omega
      obtain ⟨bi,offi,rfl⟩:=HI.out.ptr (by omega)
      obtain ⟨-,-,-,hbj,j0,-,-,-,-,-,-,-⟩:=ArrKt.at HI.out HGi.out hB2 j hjl
      obtain ⟨-,-,-,hbk,k0,-,-,-,-,-,-,-⟩:=ArrKt.at HI.out HGi.out hB2 k hk
      have g1:(0:Int)≤(j:Int):=by omega
      have g2:(j:Int)<(xs[i].ctors.length:Int):=by omega
      have g3:(0:Int)≤(k:Int):=by omega
      have g4:(k:Int)<(xs[i].ctors.length:Int):=by omega
      have g5:(0:Int)≤(i:Int):=by omega
      have g6:(i:Int)<(xs.length:Int):=by omega
      have g7:(0:Int)≤(i:Int):=by omega
      have g8:(i:Int)<(xs.length:Int):=by omega
      have g9:decide (k<xs[i].ctors.length)=true:=by simpa using hk
      cases e1:(xs[i].ctors[j].name.toList==xs[i].ctors[k].name.toList) with
      |true =>
       have hf:=jj (twice_hitK hjl hlt e1:twiceB (xs.take i) (xs[i].ctors.take k) xs[i].name xs[i].ctors[k].name=true)
       go_wp2_with fail
       go_quiet (fail)
       go_wp2
       go_ret
       exact ⟨zA0 hf.out.symm,HBq2.out _⟩
      |false =>
       have HK2:=jj (HK.out.snoc hjl e1)
       go_wp2_with fail
       go_quiet (fail)
       go_wp2
       go_roundw
       case rel=>exact ⟨j+1,by omega,by go_num,HK2,HBq2.out _⟩
       case measure=>(simp [intOf] <;> omega)
     ·go_wp2_with fail
      have hm2:twiceB (xs.take i) (xs[i].ctors.take k) xs[i].name xs[i].ctors[k].name=false:=twice_miss HM.out (by have h:=HK.out;have e:j=k:=(by omega);unfold MissK at h;rw [e] at h;exact h)
      go_roundw
      case rel=>exact ⟨i+1,by omega,by go_num,⟨fun h=>by omega,fun _=>hm2⟩,hB2⟩
      case measure=>(simp [intOf] <;> omega)
   ·have hf:=jj (HR.out.2 (by omega))
    go_wp2
    go_ret
    exact ⟨zA0 hf.out.symm,hB⟩
def WInv (xs:List Dt) (d:Nat):Prop:=worldOk xs=worldGo xs.length ((xs.take d).map Dt.name) (ctorNames (xs.take d)) (xs.drop d)
def KInv (xs:List Dt) (d:Nat) (hd:d<xs.length) (k:Nat):Prop :=
 worldOk xs=(ctorsSpec xs.length (nameIn ((xs.take d).map Dt.name) xs[d].name) (ctorNames (xs.take d) ++ (xs[d].ctors.take k).map Kt.name) (xs[d].ctors.drop k) && worldGo xs.length ((xs.take (d+1)).map Dt.name) (ctorNames (xs.take (d+1))) (xs.drop (d+1)))
def KInvI (xs:List Dt) (d:Nat) (hd:d<xs.length) (k:Nat):Prop :=
 worldOk xs=(ctorsGo xs.length (ctorNames (xs.take d) ++ (xs[d].ctors.take k).map Kt.name) (xs[d].ctors.drop k) && worldGo xs.length ((xs.take (d+1)).map Dt.name) (ctorNames (xs.take (d+1))) (xs.drop (d+1)))
theorem WInv.zero {xs:List Dt} (h:xs.length≤4):WInv xs 0:=by
 unfold WInv worldOk
 rw [decide_eq_true (by omega),Bool.true_and];rfl
theorem worldOk_long {xs:List Dt} (h:¬xs.length≤4):worldOk xs=false:=by
 unfold worldOk
 rw [decide_eq_false (by omega),Bool.false_and]
theorem WInv.done {xs:List Dt} {d:Nat} (h:WInv xs d) (hd:xs.length≤d):worldOk xs=true:=by
 unfold WInv at h
 rw [h,List.drop_of_length_le hd];rfl
theorem WInv.step {xs:List Dt} {d:Nat} (h:WInv xs d) (hd:d<xs.length):worldOk xs=(dnameOk xs[d].name.data.toList && (!nameIn ((xs.take d).map Dt.name) xs[d].name && (withinB (xs[d].ctors.length:Int) 1 4 && (ctorsGo xs.length (ctorNames (xs.take d)) xs[d].ctors && worldGo xs.length ((xs.take (d+1)).map Dt.name) (ctorNames (xs.take (d+1))) (xs.drop (d+1)))))):=by
 unfold WInv at h
 rw [h,List.drop_eq_getElem_cons hd,worldGo,take_snoc' xs d hd,List.map_append,ctorNames_snoc];rfl
theorem WInv.bad1 {xs:List Dt} {d:Nat} (h:WInv xs d) (hd:d<xs.length) (e:dnameOk xs[d].name.data.toList=false):worldOk xs=false:=by
 rw [h.step hd,e];rfl
theorem WInv.bad2 {xs:List Dt} {d:Nat} (h:WInv xs d) (hd:d<xs.length) (e:withinB (xs[d].ctors.length:Int) 1 4=false):worldOk xs=false:=by
 rw [h.step hd,e,Bool.false_and,Bool.and_false,Bool.and_false]
theorem WInv.bad3 {xs:List Dt} {d:Nat} (h:WInv xs d) (hd:d<xs.length) (e:nameIn ((xs.take d).map Dt.name) xs[d].name=true):worldOk xs=false:=by
 rw [h.step hd,e,Bool.not_true,Bool.false_and,Bool.and_false]
theorem WInv.go {xs:List Dt} {d:Nat} (h:WInv xs d) (hd:d<xs.length) (e1:dnameOk xs[d].name.data.toList=true) (e2:withinB (xs[d].ctors.length:Int) 1 4=true):KInv xs d hd 0:=by
 unfold KInv
 have hne:xs[d].ctors≠[]:=fun e=>by
  rw [e] at e2
  simp [withinB] at e2
 rw [List.take_zero,List.map_nil,List.append_nil,List.drop_zero,ctorsSpec_eq _ _ _ _ hne,h.step hd,e1,e2,Bool.true_and,Bool.true_and,Bool.and_assoc]
theorem WInv.goI {xs:List Dt} {d:Nat} (h:WInv xs d) (hd:d<xs.length) (e1:dnameOk xs[d].name.data.toList=true) (e2:withinB (xs[d].ctors.length:Int) 1 4=true) (e3:nameIn ((xs.take d).map Dt.name) xs[d].name=false):KInvI xs d hd 0:=by
 unfold KInvI
 rw [List.take_zero,List.map_nil,List.append_nil,List.drop_zero,h.step hd,e1,e2,e3,Bool.not_false,Bool.true_and,Bool.true_and,Bool.true_and]
theorem KInv.step {xs:List Dt} {d k:Nat} {hd:d<xs.length} (h:KInv xs d hd k) (hk:k<xs[d].ctors.length) :
  worldOk xs=((ctorOkB xs.length xs[d].ctors[k] && (!twiceB (xs.take d) (xs[d].ctors.take k) xs[d].name xs[d].ctors[k].name && ctorsSpec xs.length (nameIn ((xs.take d).map Dt.name) xs[d].name) (ctorNames (xs.take d) ++ (xs[d].ctors.take (k+1)).map Kt.name) (xs[d].ctors.drop (k+1)))) && worldGo xs.length ((xs.take (d+1)).map Dt.name) (ctorNames (xs.take (d+1))) (xs.drop (d+1))):=by
 unfold KInv at h
 rw [h,List.drop_eq_getElem_cons hk,ctorsSpec,take_snoc' _ k hk,List.map_append,←List.append_assoc];rfl
theorem KInv.bad1 {xs:List Dt} {d k:Nat} {hd:d<xs.length} (h:KInv xs d hd k) (hk:k<xs[d].ctors.length) (e:ctorOkB xs.length xs[d].ctors[k]=false):worldOk xs=false:=by
 rw [h.step hk,e];rfl
theorem KInv.bad2 {xs:List Dt} {d k:Nat} {hd:d<xs.length} (h:KInv xs d hd k) (hk:k<xs[d].ctors.length) (e:twiceB (xs.take d) (xs[d].ctors.take k) xs[d].name xs[d].ctors[k].name=true):worldOk xs=false:=by
 rw [h.step hk,e,Bool.not_true,Bool.false_and,Bool.and_false,Bool.false_and]
theorem KInv.next {xs:List Dt} {d k:Nat} {hd:d<xs.length} (h:KInv xs d hd k) (hk:k<xs[d].ctors.length) (e1:ctorOkB xs.length xs[d].ctors[k]=true) (e2:twiceB (xs.take d) (xs[d].ctors.take k) xs[d].name xs[d].ctors[k].name=false):KInv xs d hd (k+1):=by
 have h':=h.step hk
 rw [e1,e2,Bool.not_false,Bool.true_and,Bool.true_and] at h'
 exact h'
theorem KInv.done {xs:List Dt} {d k:Nat} {hd:d<xs.length} (h:KInv xs d hd k) (hk:xs[d].ctors.length≤k):WInv xs (d+1):=by
 unfold KInv at h
 rw [List.drop_of_length_le hk,ctorsSpec,Bool.true_and] at h
 exact h
theorem KInvI.step {xs:List Dt} {d k:Nat} {hd:d<xs.length} (h:KInvI xs d hd k) (hk:k<xs[d].ctors.length) :
  worldOk xs=((ctorOkB xs.length xs[d].ctors[k] && (!nameIn (ctorNames (xs.take d) ++ (xs[d].ctors.take k).map Kt.name) xs[d].ctors[k].name && ctorsGo xs.length (ctorNames (xs.take d) ++ (xs[d].ctors.take (k+1)).map Kt.name) (xs[d].ctors.drop (k+1)))) && worldGo xs.length ((xs.take (d+1)).map Dt.name) (ctorNames (xs.take (d+1))) (xs.drop (d+1))):=by
 unfold KInvI at h
 rw [h,List.drop_eq_getElem_cons hk,ctorsGo,take_snoc' _ k hk,List.map_append,←List.append_assoc];rfl
theorem KInvI.bad1 {xs:List Dt} {d k:Nat} {hd:d<xs.length} (h:KInvI xs d hd k) (hk:k<xs[d].ctors.length) (e:ctorOkB xs.length xs[d].ctors[k]=false):worldOk xs=false:=by
 rw [h.step hk,e];rfl
theorem KInvI.bad2 {xs:List Dt} {d k:Nat} {hd:d<xs.length} (h:KInvI xs d hd k) (hk:k<xs[d].ctors.length) (e:nameIn (ctorNames (xs.take d) ++ (xs[d].ctors.take k).map Kt.name) xs[d].ctors[k].name=true):worldOk xs=false:=by
 rw [h.step hk,e,Bool.not_true,Bool.false_and,Bool.and_false,Bool.false_and]
theorem KInvI.next {xs:List Dt} {d k:Nat} {hd:d<xs.length} (h:KInvI xs d hd k) (hk:k<xs[d].ctors.length) (e1:ctorOkB xs.length xs[d].ctors[k]=true) (e2:nameIn (ctorNames (xs.take d) ++ (xs[d].ctors.take k).map Kt.name) xs[d].ctors[k].name=false):KInvI xs d hd (k+1):=by
 have h':=h.step hk
 rw [e1,e2,Bool.not_false,Bool.true_and,Bool.true_and] at h'
 exact h'
theorem KInvI.done {xs:List Dt} {d k:Nat} {hd:d<xs.length} (h:KInvI xs d hd k) (hk:xs[d].ctors.length≤k):WInv xs (d+1):=by
 unfold KInvI at h
 rw [List.drop_of_length_le hk,ctorsGo,Bool.true_and] at h
 exact h
theorem spec_WorldValid (xs:List Dt) (w:World) (v:Value) (F:List Nat) (hx:Arr w (DtR w) xs v F) (hf:Under w.heap.size F) :
  Calls Tryz.prog 96 #[v] w fun e w'=>e=.returned (.bool (worldOk xs))∧Below w.heap.size w w':=by
 obtain ⟨A,cap,rfl,hc1,hc2⟩:=hx.form
 have HX:=jj hx
 have HF:=jj hf
 clear hx hf
 by_cases h4:xs.length≤4
 ·have H0:=jj (WInv.zero h4)
  go_enter Tryz.func96,Tryz.ntmps96
  go_wp2
  go_loopw [3] (fun iv wr=>∃ d:Nat,d≤xs.length∧iv=.int .i64 d∧Hid (WInv xs d)∧Below w.heap.size w wr) (fun iv _=>xs.length-(intOf iv).toNat)
  case atStart=>exact ⟨0,Nat.zero_le _,rfl,H0,zy2 _ _⟩
  case round =>
   obtain ⟨d,hd,rfl,HW,hB⟩:=hrel
   by_cases hlt:d<xs.length
   ·obtain ⟨b,off,rfl⟩:=HX.out.ptr (by omega)
    obtain ⟨A1,cap1,G1,hb,c0,c1,HK,HG,hs,hn1,hn2⟩:=ArrDt.at HX.out HF.out hB d hlt
    have g1:(0:Int)≤(d:Int):=by omega
    have g2:(d:Int)<(xs.length:Int):=by omega
    have HS:=jj hs
    clear hs
    go_wp2_with fail
    refine (spec_l1Data xs[d].name wr (by unfold maxLen;exact HS.out)).mono ?_
    rintro e w1 ⟨rfl,rfl⟩
    cases e1:dnameOk xs[d].name.data.toList with
    |false =>
     have hf:=jj (HW.out.bad1 hlt e1)
     clear e1
     go_wp2
     go_ret
     exact ⟨zA0 hf.out.symm,hB⟩
    |true =>
     have HE1:=jj e1
     clear e1
     by_cases hl0:xs[d].ctors.length=0
     ·have t0:((xs[d].ctors.length:Int)==0)=true:=by simp [hl0]
      have hf:=jj (HW.out.bad2 hlt (withinB_lo (by simp;omega)))
      clear hl0
      go_wp2
      go_ret
      exact ⟨zA0 hf.out.symm,hB⟩
     ·have t0:((xs[d].ctors.length:Int)==0)=false:=by simp;simpa using hl0
      by_cases hl5:4<xs[d].ctors.length
      ·have t1:decide ((xs[d].ctors.length:Int)>4)=true:=by simp;omega
       have hf:=jj (HW.out.bad2 hlt (by rw [withinB_hi (by simp;omega)];simp;omega))
       clear hl0
       go_wp2
       go_ret
       exact ⟨zA0 hf.out.symm,hB⟩
      ·have t1:decide ((xs[d].ctors.length:Int)>4)=false:=by simp;omega
       have HK0:=jj (HW.out.go hlt HE1.out ((zAJ _ _ _).2 ⟨by omega,by omega⟩))
       have hl1:0<xs[d].ctors.length:=by omega
       clear hl0
       go_wp2
       clear t0 t1 c0 c1
       obtain ⟨wo,hwo⟩:∃ wo:World,wo=wr:=⟨_,rfl⟩
       go_loopw [4] (fun jv ws=>∃ k:Nat,k≤xs[d].ctors.length∧jv=.int .i64 k∧Hid (KInv xs d hlt k)∧Below w.heap.size w ws) (fun jv _=>xs[d].ctors.length-(intOf jv).toNat)
       case atStart=>exact ⟨0,Nat.zero_le _,rfl,HK0,hB⟩
       case round =>
        clear hwo
        obtain ⟨k,hk,rfl,HKI,hB2⟩:=hrel
        obtain ⟨A2,cap2,G2,hb2,c0,c1,HK2,HG2,-,hn3,hn4⟩:=ArrDt.at HX.out HF.out hB2 d hlt
        clear c0
        by_cases hkl:k<xs[d].ctors.length
        ·obtain ⟨b2,off2,rfl⟩:=HK2.out.ptr (by omega)
         obtain ⟨A3,cap3,G3,hb3,k0,k1,k2,HC,HG3,-,-,-⟩:=ArrKt.rep HK2.out HG2.out hB2 k hkl
         have g3:(0:Int)≤(k:Int):=by omega
         have g4:(k:Int)<(xs[d].ctors.length:Int):=by omega
         go_wp2_with fail
         refine (spec_l1Ctor xs.length xs[d].ctors[k] _ _ _ (HC.out.below hB2 HG3.out) (HG3.out.mono hB2.size)).mono ?_
         rintro e w2 ⟨rfl,hb2'⟩
         have hB3:=hB2.trans (hb2'.mono hB2.size)
         cases e2:ctorOkB xs.length xs[d].ctors[k] with
         |false =>
          have hf:=jj (HKI.out.bad1 hkl e2)
          clear e2
          go_wp2
          go_ret
          exact ⟨zA0 hf.out.symm,hB3⟩
         |true =>
          have HE2:=jj e2
          clear e2 k0 k1 k2 c1
          go_wp2_with fail
          refine (spec_l1Twice xs d k hlt hkl _ _ F (ArrDt.below HX.out hB3 HF.out) (HF.out.mono hB3.size)).mono ?_
          rintro e w3 ⟨rfl,hb3'⟩
          have hB4:=hB3.trans (hb3'.mono hB3.size)
          cases e3:twiceB (xs.take d) (xs[d].ctors.take k) xs[d].name xs[d].ctors[k].name with
          |true =>
           have hf:=jj (HKI.out.bad2 hkl e3)
           clear e3
           go_wp2
           go_ret
           exact ⟨zA0 hf.out.symm,hB4⟩
          |false =>
           have HK3:=jj (HKI.out.next hkl HE2.out e3)
           clear e3
           go_wp2
           go_roundw
           case rel=>exact ⟨k+1,by omega,by go_num,HK3,hB4⟩
           case measure=>(simp [intOf] <;> omega)
        ·have HW2:=jj (HKI.out.done (by omega))
         go_wp2
         go_roundw
         case rel=>exact ⟨d+1,by omega,by go_num,HW2,hB2⟩
         case measure=>(simp [intOf] <;> omega)
   ·have hf:=jj (HW.out.done (by omega))
    go_wp2
    go_ret
    exact ⟨zA0 hf.out.symm,hB⟩
 ·have hf:=jj (worldOk_long h4)
  go_enter Tryz.func96,Tryz.ntmps96
  go_wp2
  go_ret
  exact ⟨zA0 hf.out.symm,zy2 _ _⟩
end Go.Proofs.YtghekinfoadcoaaGreat
