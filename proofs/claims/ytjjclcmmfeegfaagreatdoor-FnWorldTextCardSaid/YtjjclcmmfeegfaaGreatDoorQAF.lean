/-
  Lemmas, and contracts of functions. Conditions: none.
-/
import Derived.Test.YtjjclcmmfeegfaaGreatDoorQAA
import Derived.Test.YtjjclcmmfeegfaaGreatDoorQAE
import Derived.Laws.EntriesVeiled
import Derived.Test.YtjjclcmmfeegfaaGreatDoorQAD
import Derived.Test.YtjjclcmmfeegfaaGreatDoorQAB
import Derived.ProofKit
import Derived.ChangeArms
import Derived.Deep.Fields
import Derived.Test.YtjjclcmmfeegfaaGreatDoorChecked
import Derived.Test.YtjjclcmmfeegfaaGreatDoorQAC
import Derived.Handed
import Derived.LaidLaws
import Derived.FnData
import Derived.Shelf.Vars
import Derived.LaidMore

set_option linter.unusedVariables false
set_option linter.unusedSimpArgs false
set_option maxRecDepth 100000
set_option maxHeartbeats 1600000

namespace Go.Proofs.YtjjclcmmfeegfaaGreatDoor
open Go.RowKit
theorem EqualFunc_Kt (xs ys:List Kt) (w:World) (x y:Value) (F G:List Nat) (hx:Arr w (KtR w) xs x F) (hy:Arr w (KtR w) ys y G) (hF:Under w F) (hG:Under w G) :
  Calls Tryz.prog 57 #[x,y,.func (.func 53) #[] #[]] w fun e w'=>e=.returned (.bool (sameBy Kt.same xs ys))∧Below w w w':=by
 have HX:=jj hx
 have HY:=jj hy
 obtain ⟨A,cap,rfl,hc1,hc2⟩:=hx.form
 obtain ⟨A',cap',rfl,hc3,hc4⟩:=hy.form
 clear hx hy
 have HF:=jj hF
 have HG:=jj hG
 clear hF hG
 by_cases hl:xs.length=ys.length
 ·have tl:((xs.length:Int) != (ys.length:Int))=false:=by rw [hl];simp
  have hle1:xs.length≤ys.length:=by omega
  have hle2:ys.length≤xs.length:=by omega
  clear hl
  go_enter Tryz.func57,Tryz.ntmps57
  go_wp2
  go_loopw [17] (fun i wr=>∃ k:Nat,k≤xs.length∧i=.int .i64 k∧Hid (sameBy Kt.same xs ys=sameBy Kt.same (xs.drop k) (ys.drop k))∧Below w w wr) (fun i _=>xs.length-(intOf i).toNat)
  case atStart=>exact ⟨0,Nat.zero_le _,rfl,rfl,zy2 _ _⟩
  case round =>
   obtain ⟨k,hk,rfl,HT,hB⟩:=hrel
   by_cases hlt:k<xs.length
   ·have hlt':k<ys.length:=by omega
    have hd:=sameBy_drop (f:=Kt.same) xs ys k hlt hlt'
    have HD:=jj hd
    clear hd
    obtain ⟨b,off,cs,G_,rfl,hb,hcs,hvc,hG_⟩:=HX.out.get KtR_len hlt
    have hbl:=HF.out b hb
    have hGFc:=HF.out.sub hG_
    have hwc:=hvc.below hB hGFc
    have hcsc:=hcs.same (hB.block b hbl)
    obtain ⟨A1,cap1,rfl⟩:=KtR_form hvc
    have c0:=hcsc 0 _ rfl
    have c1:=hcsc 1 _ rfl
    have c2:=hcsc 2 _ rfl
    simp only [Nat.add_zero] at c0
    clear hcs hcsc hvc hG_
    have HV:=jj hwc
    clear hwc
    have HG_:=jj hGFc
    clear hGFc
    obtain ⟨b2,off2,ds,G2,rfl,hb2,hds,hvd,hG2⟩:=HY.out.get KtR_len hlt'
    have hbl2:=HG.out b2 hb2
    have hGFd:=HG.out.sub hG2
    have hwd:=hvd.below hB hGFd
    have hcsd:=hds.same (hB.block b2 hbl2)
    obtain ⟨A2,cap2,rfl⟩:=KtR_form hvd
    have d0:=hcsd 0 _ rfl
    have d1:=hcsd 1 _ rfl
    have d2:=hcsd 2 _ rfl
    simp only [Nat.add_zero] at d0
    clear hds hcsd hvd hG2
    have HV2:=jj hwd
    clear hwd
    have HG2:=jj hGFd
    clear hGFd
    have hblw:=zz9 hbl hB.size
    have hblw2:=zz9 hbl2 hB.size
    go_wp2_with fail
    obtain ⟨W2,hW2⟩:∃ W2,W2=(wr.alloc (.cells #[.string xs[k].name,.slice A1 xs[k].args.length cap1,xs[k].idx] 67)).alloc (.cells #[.string ys[k].name,.slice A2 ys[k].args.length cap2,ys[k].idx] 67):=⟨_,rfl⟩
    have hb2:Below wr wr W2:=by rw [hW2];exact ((zy2 _ _).alloc (zz8 _) _).alloc (by simp) _
    rw [←hW2]
    clear hW2
    have hB2:=hB.trans (hb2.mono hB.size)
    refine (sameCtor_closure xs[k] ys[k] W2 _ _ G_ G2 (HV.out.below hb2 (HG_.out.mono hB.size)) (HV2.out.below hb2 (HG2.out.mono hB.size)) (HG_.out.mono hB2.size) (HG2.out.mono hB2.size)).mono ?_
    rintro e w' ⟨rfl,hB'⟩
    have hB3:=hB2.trans (hB'.mono hB2.size)
    cases hs:Kt.same xs[k] ys[k] with
    |true =>
     have hT2:Hid (sameBy Kt.same xs ys=sameBy Kt.same (xs.drop (k+1)) (ys.drop (k+1))):=by have hd:=HD.out;rw [hs,Bool.true_and] at hd;exact HT.out.trans hd
     clear hs
     go_wp2
     go_roundw
     case rel=>exact ⟨k+1,by omega,by go_num,hT2,hB3⟩
     case measure=>simp [intOf];omega
    |false =>
     have hf:Hid (sameBy Kt.same xs ys=false):=by have hd:=HD.out;rw [hs,Bool.false_and] at hd;exact HT.out.trans hd
     clear hs
     go_wp2
     go_ret
     exact ⟨zA0 hf.out.symm,hB3⟩
   ·have hT:=HT.out
    rw [List.drop_of_length_le (by omega),List.drop_of_length_le (by omega)] at hT
    have hf:Hid (sameBy Kt.same xs ys=true):=hT
    clear hT
    go_wp2
    go_ret
    exact ⟨zA0 hf.out.symm,hB⟩
 ·have tl:((xs.length:Int) != (ys.length:Int))=true:=by rw [bne_iff_ne];omega
  have hf:=jj (sameBy_len_false (f:=Kt.same) hl)
  clear hl
  go_enter Tryz.func57,Tryz.ntmps57
  go_wp2
  go_ret
  exact ⟨zA0 hf.out.symm,zy2 _ _⟩
def Dt.same (a b:Dt):Bool:=(a.name.toList==b.name.toList) && sameBy Kt.same a.ctors b.ctors
theorem Dt.same_iff (a b:Dt):Dt.same a b=true↔a=b:=by
 unfold Dt.same
 rw [Bool.and_eq_true,bytes_beq_iff,sameBy_iff Kt.same_iff]
 constructor
 ·rintro ⟨h1,h2⟩;exact Dt.ext h1 h2
 ·rintro rfl;exact ⟨rfl,rfl⟩
theorem sameData_closure (a b:Dt) (w:World) (cs ds:List Value) (F G:List Nat) (g:Nat) (hg:w.cell? ⟨g,0,none⟩=some (.func (.func 53) #[] #[])) (hgl:g<w.heap.size) (hv:DtR w a cs F) (hv':DtR w b ds G) (hF:Under w F) (hG:Under w G) :
  Calls Tryz.prog 56 #[.agg cs.toArray,.agg ds.toArray,.pointer (some ⟨g,0,none⟩)] w fun e w'=>e=.returned (.bool (Dt.same a b))∧Below w w w':=by
 obtain ⟨kv,rfl,ha,hs⟩:=hv
 obtain ⟨kv',rfl,ha',hs'⟩:=hv'
 have HX:=jj ha
 have HY:=jj ha'
 obtain ⟨A,cap,rfl,hc1,hc2⟩:=ha.form
 obtain ⟨A',cap',rfl,hc3,hc4⟩:=ha'.form
 clear ha ha'
 have HF:=jj hF
 have HG:=jj hG
 clear hF hG
 cases e0:(a.name.toList==b.name.toList) with
 |false =>
  have hf:Hid (Dt.same a b=false):=by unfold Dt.same;rw [e0];rfl
  go_enter Tryz.func56,Tryz.ntmps56
  go_wp2
  go_ret
  exact ⟨zA0 hf.out.symm,((zy2 _ _).alloc (zz8 _) _).alloc (by simp) _⟩
 |true =>
  have hsame:Dt.same a b=sameBy Kt.same a.ctors b.ctors:=by unfold Dt.same;rw [e0,Bool.true_and]
  have HSame:=jj hsame
  clear hsame
  go_enter Tryz.func56,Tryz.ntmps56
  go_wp2_with fail
  obtain ⟨W2,hW2⟩:∃ W2,W2=(w.alloc (.cells #[.string a.name,.slice A a.ctors.length cap] 64)).alloc (.cells #[.string b.name,.slice A' b.ctors.length cap'] 64):=⟨_,rfl⟩
  have hB2:Below w w W2:=by rw [hW2];exact ((zy2 _ _).alloc (zz8 _) _).alloc (by simp) _
  rw [←hW2]
  clear hW2
  refine (EqualFunc_Kt a.ctors b.ctors W2 _ _ F G (ArrKt.below HX.out hB2 HF.out) (ArrKt.below HY.out hB2 HG.out) (HF.out.mono hB2.size) (HG.out.mono hB2.size)).mono ?_
  rintro e w' ⟨rfl,hB'⟩
  have hB3:=hB2.trans (hB'.mono hB2.size)
  generalize sameBy Kt.same a.ctors b.ctors=bb at *
  go_wp2
  go_ret
  exact ⟨zA0 HSame.out.symm,hB3⟩
theorem EqualFunc_Dt (xs ys:List Dt) (w:World) (x y:Value) (F G:List Nat) (g:Nat) (hg:w.cell? ⟨g,0,none⟩=some (.func (.func 53) #[] #[])) (hgl:g<w.heap.size) (hx:Arr w (DtR w) xs x F) (hy:Arr w (DtR w) ys y G) (hF:Under w F) (hG:Under w G) :
  Calls Tryz.prog 55 #[x,y,.func (.func 56) #[] #[.pointer (some ⟨g,0,none⟩)]] w fun e w'=>e=.returned (.bool (sameBy Dt.same xs ys))∧Below w w w':=by
 have HX:=jj hx
 have HY:=jj hy
 obtain ⟨A,cap,rfl,hc1,hc2⟩:=hx.form
 obtain ⟨A',cap',rfl,hc3,hc4⟩:=hy.form
 clear hx hy
 have HF:=jj hF
 have HG:=jj hG
 clear hF hG
 have HG0:=jj hg
 clear hg
 by_cases hl:xs.length=ys.length
 ·have tl:((xs.length:Int) != (ys.length:Int))=false:=by rw [hl];simp
  have hle1:xs.length≤ys.length:=by omega
  have hle2:ys.length≤xs.length:=by omega
  clear hl
  go_enter Tryz.func55,Tryz.ntmps55
  go_wp2
  go_loopw [17] (fun i wr=>∃ k:Nat,k≤xs.length∧i=.int .i64 k∧Hid (sameBy Dt.same xs ys=sameBy Dt.same (xs.drop k) (ys.drop k))∧Below w w wr) (fun i _=>xs.length-(intOf i).toNat)
  case atStart=>exact ⟨0,Nat.zero_le _,rfl,rfl,zy2 _ _⟩
  case round =>
   obtain ⟨k,hk,rfl,HT,hB⟩:=hrel
   by_cases hlt:k<xs.length
   ·have hlt':k<ys.length:=by omega
    have hd:=sameBy_drop (f:=Dt.same) xs ys k hlt hlt'
    have HD:=jj hd
    clear hd
    obtain ⟨b,off,cs,G_,rfl,hb,hcs,hvc,hG_⟩:=HX.out.get DtR_len hlt
    have hbl:=HF.out b hb
    have hGFc:=HF.out.sub hG_
    have hwc:=hvc.below hB hGFc
    have hcsc:=hcs.same (hB.block b hbl)
    obtain ⟨A1,cap1,rfl⟩:=DtR_form hvc
    have c0:=hcsc 0 _ rfl
    have c1:=hcsc 1 _ rfl
    simp only [Nat.add_zero] at c0
    clear hcs hcsc hvc hG_
    have HV:=jj hwc
    clear hwc
    have HG_:=jj hGFc
    clear hGFc
    obtain ⟨b2,off2,ds,G2,rfl,hb2,hds,hvd,hG2⟩:=HY.out.get DtR_len hlt'
    have hbl2:=HG.out b2 hb2
    have hGFd:=HG.out.sub hG2
    have hwd:=hvd.below hB hGFd
    have hcsd:=hds.same (hB.block b2 hbl2)
    obtain ⟨A2,cap2,rfl⟩:=DtR_form hvd
    have d0:=hcsd 0 _ rfl
    have d1:=hcsd 1 _ rfl
    simp only [Nat.add_zero] at d0
    clear hds hcsd hvd hG2
    have HV2:=jj hwd
    clear hwd
    have HG2:=jj hGFd
    clear hGFd
    have hblw:=zz9 hbl hB.size
    have hblw2:=zz9 hbl2 hB.size
    go_wp2_with fail
    obtain ⟨W2,hW2⟩:∃ W2,W2=(wr.alloc (.cells #[.string xs[k].name,.slice A1 xs[k].ctors.length cap1] 64)).alloc (.cells #[.string ys[k].name,.slice A2 ys[k].ctors.length cap2] 64):=⟨_,rfl⟩
    have hb2:Below wr wr W2:=by rw [hW2];exact ((zy2 _ _).alloc (zz8 _) _).alloc (by simp) _
    rw [←hW2]
    clear hW2
    have hB2:=hB.trans (hb2.mono hB.size)
    refine (sameData_closure xs[k] ys[k] W2 _ _ G_ G2 g ((hB2.cell (p:=⟨g,0,none⟩) hgl).trans HG0.out) (zz9 hgl hB2.size) (HV.out.below hb2 (HG_.out.mono hB.size)) (HV2.out.below hb2 (HG2.out.mono hB.size)) (HG_.out.mono hB2.size) (HG2.out.mono hB2.size)).mono ?_
    rintro e w' ⟨rfl,hB'⟩
    have hB3:=hB2.trans (hB'.mono hB2.size)
    cases hs:Dt.same xs[k] ys[k] with
    |true =>
     have hT2:Hid (sameBy Dt.same xs ys=sameBy Dt.same (xs.drop (k+1)) (ys.drop (k+1))):=by have hd:=HD.out;rw [hs,Bool.true_and] at hd;exact HT.out.trans hd
     clear hs
     go_wp2
     go_roundw
     case rel=>exact ⟨k+1,by omega,by go_num,hT2,hB3⟩
     case measure=>simp [intOf];omega
    |false =>
     have hf:Hid (sameBy Dt.same xs ys=false):=by have hd:=HD.out;rw [hs,Bool.false_and] at hd;exact HT.out.trans hd
     clear hs
     go_wp2
     go_ret
     exact ⟨zA0 hf.out.symm,hB3⟩
   ·have hT:=HT.out
    rw [List.drop_of_length_le (by omega),List.drop_of_length_le (by omega)] at hT
    have hf:Hid (sameBy Dt.same xs ys=true):=hT
    clear hT
    go_wp2
    go_ret
    exact ⟨zA0 hf.out.symm,hB⟩
 ·have tl:((xs.length:Int) != (ys.length:Int))=true:=by rw [bne_iff_ne];omega
  have hf:=jj (sameBy_len_false (f:=Dt.same) hl)
  clear hl
  go_enter Tryz.func55,Tryz.ntmps55
  go_wp2
  go_ret
  exact ⟨zA0 hf.out.symm,zy2 _ _⟩
set_option maxHeartbeats 400000 in
theorem zAQ (xs ys:List Dt) (w:World) (x y:Value) (F G:List Nat) (hx:Arr w (DtR w) xs x F) (hy:Arr w (DtR w) ys y G) (hF:Under w F) (hG:Under w G) :
  Calls Tryz.prog 21 #[x,y] w fun e w'=>e=.returned (.bool (sameBy Dt.same xs ys))∧Below w w w':=by
 have HX:=jj hx
 have HY:=jj hy
 obtain ⟨A,cap,rfl,hc1,hc2⟩:=hx.form
 obtain ⟨A',cap',rfl,hc3,hc4⟩:=hy.form
 clear hx hy
 have HF:=jj hF
 have HG:=jj hG
 clear hF hG
 go_enter Tryz.func21,Tryz.ntmps21
 go_wp2_with fail
 obtain ⟨W2,hW2⟩:∃ W2,W2=w.alloc (.cells #[.func (.func 53) #[] #[]] 82):=⟨_,rfl⟩
 have hB2:Below w w W2:=by rw [hW2];exact (zy2 _ _).alloc (zz8 _) _
 have k1:Blk W2 w 82 #[.func (.func 53) #[] #[]]:=by rw [hW2];exact Blk.new _ _ _
 rw [←hW2]
 clear hW2
 refine (EqualFunc_Dt xs ys W2 _ _ F G w.heap.size ((k1.cell 0).trans (by simp)) k1.lt (ArrDt.below HX.out hB2 HF.out) (ArrDt.below HY.out hB2 HG.out) (HF.out.mono hB2.size) (HG.out.mono hB2.size)).mono ?_
 rintro e w' ⟨rfl,hB'⟩
 have hB3:=hB2.trans (hB'.mono hB2.size)
 generalize hbb:sameBy Dt.same xs ys=bb
 have HBB:=jj hbb
 clear hbb
 go_wp2
 go_ret
 exact ⟨zA0 HBB.out.symm,hB3⟩
theorem spec_FormatWorld (xs:List Dt) (w:World) (v:Value) (F:List Nat) (hx:Arr w (DtR w) xs v F) (hf:Under w F) :
  Calls Tryz.prog 18 #[v] w fun e w'=>e=.returned (.string (fmtW xs))∧Below w w w':=by
 obtain ⟨A,cap,rfl,hc1,hc2⟩:=hx.form
 have HX:=jj hx
 have HF:=jj hf
 clear hx hf
 go_enter Tryz.func18,Tryz.ntmps18
 go_wp2_with fail
 refine (zAL xs w _ F HX.out HF.out).mono ?_
 rintro e w1 ⟨rfl,hb1⟩
 cases q0:worldOk xs with
 |false =>
  have hf:Hid (fmtW xs=⟨#[]⟩):=if_neg (by simp [q0])
  clear q0
  go_wp2
  go_ret
  exact ⟨zAE hf.out.symm,hb1⟩
 |true =>
  have hf:Hid (fmtW xs=bs (textT xs)):=if_pos q0
  have HW:=jj (worldOK q0)
  clear q0
  go_wp2_with fail
  refine (spec_l1Text xs HW.out w1 _ F (ArrDt.below HX.out hb1 HF.out) (HF.out.mono hb1.size)).mono ?_
  rintro e w2 ⟨rfl,hb2⟩
  have hB2:=hb1.trans (hb2.mono hb1.size)
  go_wp2
  go_ret
  exact ⟨zAE hf.out.symm,hB2⟩
end Go.Proofs.YtjjclcmmfeegfaaGreatDoor
namespace Go.Proofs.YtjjclcmmfeegfaaGreatDoor
open Go.ChangeShapes Go.WideShapes Go.ChangeAt Go.RowKit
section
variable {H : Type} {enc : TypeId × Value → H} {P : Program} {w : World} {base : Nat} {spare : Nat → Bool} {held : Bool}
theorem cell_lt {w:World} {a:Addr} {v:Value} (h:w.cell? a=some v):a.block<w.heap.size:=by
 rcases Nat.lt_or_ge a.block w.heap.size with hl | hl
 ·exact hl
 ·unfold World.cell? at h
  rw [Array.getElem?_eq_none hl] at h
  cases h
theorem open_Arr {α:Type} (R:α→List Value→List Nat→Prop) {t e:TypeId} {k n fuel:Nat} {cs:List Value} {x:DataW H×List MemPlace} (ht:P.underlying t=some (.slice e)) (hk:P.cellsOf e=k) (hk0:0<k) (hf:fuel=n+1)
  (hR:∀ ds y,DataW.trod enc P w base spare held n e ds=some y→ds.length=k→∃ a F,R a ds F∧Under w F)
  (h:DataW.trod enc P w base spare held fuel t cs=some x):∃ xs v F,cs=[v]∧Arr w R xs v F∧Under w F:=by
 subst hf
 rcases DataW.trod_slice ht h with ⟨rfl,-⟩ | ⟨a,len,cap,elems,rest,m,hm,rfl,-,-,hl,hmax,hlen,hel,-,-⟩
 ·exact ⟨[],_,[],rfl,Arr.nil,Under.nil _⟩
 ·obtain rfl:n=m:=by omega
  by_cases h0:len=0
  ·subst h0
   exact ⟨[],_,[],rfl,⟨_,_,rfl,hl,hmax,.inl ⟨rfl,rfl⟩⟩,Under.nil _⟩
  ·have get:∀ i,i<len→∃ ds y,(∀ j,j<k→w.cell? (a.add (i*k+j))=ds[j]?)∧ds.length=k∧DataW.trod enc P w base spare held n e ds=some y:=fun i hi=>by
    have h1:=hel i hi
    rw [List.getElem?_eq_getElem (by omega),Option.bind_eq_some_iff] at h1
    obtain ⟨ds,h2,h3⟩:=h1
    obtain ⟨-,h4,h5⟩:=World.cells?_some h2
    rw [hk] at h4 h5
    refine ⟨ds,_,fun j hj=>?_,h4,h3⟩
    rw [←h5 j hj]
    congr 1
    unfold Addr.add
    by_cases e1:i*k=0 <;> by_cases e2:j=0 <;> simp [e1,e2,Nat.add_assoc]
   obtain ⟨b,off,spot⟩:=a
   obtain ⟨ds0,y0,g1,g2,-⟩:=get 0 (by omega)
   have hc0:w.cell? ⟨b,off,spot⟩=some (ds0[0]'(by omega)):=by
    have:=g1 0 hk0
    simpa [Addr.add,List.getElem?_eq_getElem (show 0<ds0.length by omega)] using this
   have hspot:spot=none:=by simpa using World.cell?_spot hc0
   subst hspot
   have hb:b<w.heap.size:=cell_lt hc0
   have key:∀ m,m≤len→∃ (xs:List α) (cs:List Value) (F:List Nat),xs.length=m∧cs.length=m*k∧CellsAt w b off cs∧Flat R xs cs F∧Under w F:=by
    intro m
    induction m with
    |zero=>intro _;exact ⟨[],[],[],rfl,by simp,fun j u hj=>by simp at hj,⟨rfl,rfl⟩,Under.nil _⟩
    |succ m ih =>
     intro hm
     obtain ⟨xs,cs,F,h1,h2,h3,h4,h5⟩:=ih (by omega)
     obtain ⟨ds,y,g1,g2,g3⟩:=get m (by omega)
     obtain ⟨z,G,r1,r2⟩:=hR ds y g3 g2
     refine ⟨xs ++ [z],cs ++ ds,F ++ G,by simp [h1],by simp [h2,g2,Nat.add_mul],h3.append (fun j u hj=>?_),h4.append (Flat.one r1),fun c hc=>?_⟩
     ·have hjk:j<k:=by rw [←g2];exact (List.getElem?_eq_some_iff.1 hj).1
      have:=g1 j hjk
      rw [hj,Addr.add_lit] at this
      rw [h2,←this]
      congr 2
      omega
     ·rcases List.mem_append.1 hc with hc | hc
      ·exact h5 c hc
      ·exact r2 c hc
   obtain ⟨xs,cs,F,h1,h2,h3,h4,h5⟩:=key len (zz8 _)
   refine ⟨xs,_,b :: F,rfl,⟨_,_,by rw [h1],by omega,hmax,.inr ⟨b,off,cs,F,rfl,h3,h4,rfl⟩⟩,fun c hc=>?_⟩
   rcases List.mem_cons.1 hc with rfl | hc
   ·exact hb
   ·exact h5 c hc
theorem open_slice_arg {α:Type} (R:α→List Value→List Nat→Prop) {t e:TypeId} {k:Nat} {r:Reach} {b0:Nat} {v:Value} {d:DataW H} {ps:List MemPlace} (ht:P.underlying t=some (.slice e)) (hk:P.cellsOf e=k) (hk0:0<k)
  (hR:∀ n ds y,DataW.trod enc P w base spare held n e ds=some y→∃ a F,R a ds F∧Under w F)
  (hval:Value.okWide P w r b0 t v) (h:DataW.Trod enc P w base spare held t v d ps):∃ xs F,Arr w R xs v F∧Under w F:=by
 obtain ⟨a,len,cap,rfl⟩:=okWide_slice ht hval
 obtain ⟨fuel,hf⟩:=h
 cases fuel with
 |zero=>simp [DataW.trod] at hf
 |succ n =>
  obtain ⟨xs,v,F,hv,ha,hF⟩:=open_Arr R ht hk hk0 rfl (fun ds y hd _=>hR n ds y hd) hf
  have:v=.slice a len cap:=by simpa [Value.cells] using hv.symm
  subst this
  exact ⟨xs,F,ha,hF⟩
end
end Go.Proofs.YtjjclcmmfeegfaaGreatDoor
namespace Go.Proofs.YtjjclcmmfeegfaaGreatDoor
open Go.ChangeShapes Go.WideShapes Go.ChangeAt Go.RowKit
set_option maxRecDepth 100000
theorem cellsOf_u8:Tryz.prog.cellsOf 5=1:=by kernel_rfl
theorem open_By_cells {H:Type} {enc:TypeId×Value→H} {w:World} {base:Nat} {spare:Nat→Bool} {held:Bool} (fuel:Nat) (cs:List Value) (x:DataW H×List MemPlace)
  (h:DataW.trod enc Tryz.prog w base spare held fuel 5 cs=some x):∃ v F,ByR w v cs F∧Under w F:=by
 cases fuel with
 |zero=>simp [DataW.trod] at h
 |succ n =>
 obtain ⟨i0,e0,-,e2⟩:=DataW.trod_int Tryz.underlying5 h
 have hw:IntKind.u8.min≤i0∧i0≤IntKind.u8.max:=by simpa [Lit.wf] using e2
 have h0:IntKind.u8.min=0:=rfl
 have h1:IntKind.u8.max=255:=rfl
 exact ⟨i0,[],⟨e0,rfl,by omega,by omega⟩,Under.nil _⟩
theorem open_Bytes {H:Type} {enc:TypeId×Value→H} {w:World} {base:Nat} {spare:Nat→Bool} {held:Bool} {r:Reach} {b0:Nat} {v:Value} {d:DataW H} {ps:List MemPlace} (hval:Value.okWide Tryz.prog w r b0 22 v)
  (h:DataW.Trod enc Tryz.prog w base spare held 22 v d ps):∃ (x:List Int) (F:List Nat),Arr w (ByR w) x v F∧Under w F :=
 open_slice_arg (ByR w) Tryz.underlying22 cellsOf_u8 (by decide) (fun n ds y hd=>open_By_cells n ds y hd) hval h
end Go.Proofs.YtjjclcmmfeegfaaGreatDoor
namespace Go.Proofs.YtjjclcmmfeegfaaGreatDoor
open Go.RowKit
section
variable {H : Type} {enc : TypeId × Value → H}
theorem lift_shaped {a:Assume} {C:Checked} {os:Os} {f:FuncId} {fn:Func} {s:ChangeSpec} {conds:List PathCond} {apart fresh handsOn again:Bool} {X:World→Array Value→Prop}
  (hX:∀ (w w':World) (args:Array Value),w.heap=w'.heap→X w args→X w' args)
  (own:ownKnob C.prog.godebug=none) (started:os.Started) (noInit:C.prog.inits.idxOf? f=none) (hfn:C.prog.funcs[f]?=some fn)
  (witness:∃ (w:World) (tape:Tape) (i:Input),w.os=os∧(w.forCall tape i).Shaped C.prog∧i.vars=[]∧Input.okWide C.prog (w.forCall tape i) .any w.heap.size f i ∧
   ((s.pre enc C.prog fn conds apart (w.forCall tape i).memory i.args∧X (w.forCall tape i).memory i.args)∧sizedMet enc C.prog fn (OpenSpec.ofChange s) apart (w.forCall tape i).memory i.args)∧a.holds C.prog (lone (Frame.enter C.prog f i.args .normal) [] (w.forCall tape i)))
  (contract:∀ (W:World) (base:Nat) (args:Array Value) (ds gs:List (DataW H)) (before:List MemPlace),
   (∀ (j:Nat) t v,fn.params[j]?=some t→args[j]?=some v→Value.okWide C.prog W .any base t v) →
   DataW.Whole enc C.prog fn.params.toList s.vars apart W args.toList ds gs before→X W args→W.ShapedOpen C.prog →
   Calls C.prog f args W fun e W'=>∃ v,e=.returned v∧s.post enc C.prog fn apart fresh handsOn again W args v W') :
  ReturnsInHanded a C os f .any (fun w args=>(s.pre enc C.prog fn conds apart w args∧X w args)∧sizedMet enc C.prog fn (OpenSpec.ofChange s) apart w args) (s.post enc C.prog fn apart fresh handsOn again):=by
 refine returnsInHanded_of_calls own started noInit witness ?_
 intro w tape i _ hsh _ hok hpre _
 obtain ⟨_,_,_,fn',hfn',_,_,_,_,hval⟩:=hok
 obtain rfl:fn'=fn:=Option.some.inj (hfn'.symm.trans hfn)
 obtain ⟨⟨⟨ds,gs,before,hw,_⟩,hx⟩,_⟩:=hpre
 refine (contract (w.forCall tape i) w.heap.size i.args ds gs before hval (DataW.Whole.of_heap (w':=w.forCall tape i) (by rfl) hw) (hX _ _ _ (by rfl) hx) hsh).mono fun e W' ⟨v,he,hp⟩=>?_
 subst he
 exact ChangeSpec.post_blind hp
end
theorem laid_at {P:Program} {w:World}:∀ {l:List (String×DataW Unit)} {ps:List MemPlace} {n:String} {d:DataW Unit},DataW.LaidVars P w l ps→(n,d)∈l →
  ∃ g t cs fuel p,P.globalNamed n=some g∧(P.globals[g]?).map (·.type)=some t∧w.var? P n=some cs∧DataW.trod (fun _=>()) P w 0 (fun _=>true) false fuel t cs.toList=some (d,p)
 |[],_,_,_,_,h=>by cases h
 |(n',d') :: l,ps,n,d,⟨g,t,cs,fuel,p,q,h1,h2,h3,h4,hs,e⟩,h=>by
  rcases List.mem_cons.1 h with h | h
  ·cases h;exact ⟨g,t,cs,fuel,p,h1,h2,h3,h4⟩
  ·exact laid_at hs h
theorem laid_iface {P:Program} {w:World} {l:List (String×DataW Unit)} {k g:Nat} {n nm:String} {d:DataW Unit} {t:TypeId} {ms:Array (String×TypeId)} (h:laidMetH P l w) (h0:(l.filter fun x=>x.2.handleName?.isSome)=[])
  (hm:l[k]?=some (n,.iface nm d)) (hg:P.globalNamed n=some g) (ht:(P.globals[g]?).map (·.type)=some t) (hu:P.underlying t=some (.interface ms)):∃ ev,w.cell? ⟨g,0,none⟩=some ev∧(ev=.nilIface∨∃ te pe,ev=.iface te pe):=by
 unfold laidMetH at h
 rw [h0] at h
 obtain ⟨ps,hl,-,-⟩:=h
 obtain ⟨g',t',cs,fuel,p,h1,h2,h3,h4⟩:=laid_at hl (List.mem_of_getElem? hm)
 rw [hg] at h1
 cases h1
 rw [ht] at h2
 cases h2
 obtain ⟨_,u,v,hcs,-,-⟩:=iface_of_trod hu h4
 refine ⟨.iface u v,?_,.inr ⟨u,v,rfl⟩⟩
 rw [World.var?_cell hg h3 0,←Array.getElem?_toList,hcs]
 rfl
theorem shaped_lt {w:World} {g:Nat} {zero:Array Value} {t:TypeId} (h:w.ShapedOpen Tryz.prog) (hg:g<Tryz.prog.globals.size) (h0:((begin Tryz.prog (fun _ _=>0) default).world.heap[g]?).bind Obj.row?=some (zero,t)):g<w.heap.size:=by
 obtain ⟨cs,hh,-,-⟩:=h.1 g zero t hg h0
 exact (Array.getElem?_eq_some_iff.1 hh).1
theorem vars_shaped {w:World} {l:List (String×DataW Unit)} {j k:Nat} {n1 n2:String} {d1 d2:DataW Unit} (hs:w.ShapedOpen Tryz.prog) (h:laidMetH Tryz.prog l w) (h0:(l.filter fun x=>x.2.handleName?.isSome)=[])
  (hj : l[j]? = some ("strconv.ErrSyntax", .iface n1 d1)) (hk : l[k]? = some ("strconv.ErrRange", .iface n2 d2)) : VarsOK w :=
 ⟨cell_of_shapedOpen_int (zero:=#[.int .i64 0]) (t:=3) hs (of_decide_eq_true (by kernel_rfl)) (by kernel_rfl) rfl (by kernel_rfl) (by kernel_rfl) Tryz.underlying3,
 laid_iface (t:=112) h h0 hj (by kernel_rfl) (by kernel_rfl) Tryz.underlying112,
 laid_iface (t:=112) h h0 hk (by kernel_rfl) (by kernel_rfl) Tryz.underlying112,
 shaped_lt (zero:=#[.int .i64 0]) (t:=3) hs (of_decide_eq_true (by kernel_rfl)) (by kernel_rfl),shaped_lt (zero:=#[.nilIface]) (t:=112) hs (of_decide_eq_true (by kernel_rfl)) (by kernel_rfl),shaped_lt (zero:=#[.nilIface]) (t:=112) hs (of_decide_eq_true (by kernel_rfl)) (by kernel_rfl)⟩
end Go.Proofs.YtjjclcmmfeegfaaGreatDoor
