/-
  Lemmas, and contracts of functions. Conditions: none.
-/
import Derived.Test.YtghekinfoadcoaaGreatKAB
import Derived.Test.YtghekinfoadcoaaGreatChecked
import Derived.Deep.RegionHeld3
import Derived.BigQuiet
import Derived.Test.YtghekinfoadcoaaGreatKAM
import Derived.Test.YtghekinfoadcoaaGreatKAC

set_option linter.unusedVariables false
set_option linter.unusedSimpArgs false
set_option maxRecDepth 100000
set_option maxHeartbeats 1600000

namespace Go.Proofs.YtghekinfoadcoaaGreat
open Go.RowKit
mutual
def V.same:V→V→Bool
 |⟨c,n,ks⟩,⟨c',n',ks'⟩=>(c==c') && (n==n') && V.sames ks ks'
def V.sames:List V→List V→Bool
 |[],[]=>true
 |x :: xs,y :: ys=>V.same x y && V.sames xs ys
 |[],_ :: _=>false
 |_ :: _,[]=>false
end
theorem V.sames_iff_of (ks:List V) (h:∀ k∈ks,∀ b,V.same k b=true↔k=b):∀ ks',V.sames ks ks'=true↔ks=ks':=by
 induction ks with
 |nil=>intro ks';cases ks' <;> simp [V.sames]
 |cons x xs ih =>
  intro ks'
  cases ks' with
  |nil=>simp [V.sames]
  |cons y ys =>
   simp only [V.sames,Bool.and_eq_true,List.cons.injEq]
   rw [h x (by simp) y,ih (fun k hk=>h k (by simp [hk])) ys]
theorem V.same_iff:∀ a b:V,V.same a b=true↔a=b:=V.ind fun c n ks ih b=>by
 obtain ⟨c',n',ks'⟩:=b
 simp only [V.same,Bool.and_eq_true,V.sames_iff_of ks ih,beq_iff_eq,V.mk.injEq,and_assoc]
theorem V.same_false {a b:V} (h:a≠b):V.same a b=false:=by
 rw [Bool.eq_false_iff]
 exact fun e=>h ((V.same_iff a b).1 e)
theorem V.sames_iff (ks ks':List V):V.sames ks ks'=true↔ks=ks':=V.sames_iff_of ks (fun k _=>V.same_iff k) ks'
theorem V.sames_false {ks ks':List V} (h:ks≠ks'):V.sames ks ks'=false:=by
 rw [Bool.eq_false_iff]
 exact fun e=>h ((V.sames_iff ks ks').1 e)
def SameImplV (a:V):Prop:=∀ (b:V) (w:World) (cs ds:List Value) (F G:List Nat),VR w a cs F→VR w b ds G→Under w.heap.size F→Under w.heap.size G →
 Calls Tryz.prog 63 #[.agg cs.toArray,.agg ds.toArray] w fun e w'=>e=.returned (.bool (V.same a b))∧Below w.heap.size w w'
theorem EqualFunc_ofV (ks:List V) (ih:∀ k∈ks,SameImplV k) (ks':List V) (w:World) (x y:Value) (F G:List Nat) (hx:Arr w (VR w) ks x F) (hy:Arr w (VR w) ks' y G) (hF:Under w.heap.size F) (hG:Under w.heap.size G) :
  Calls Tryz.prog 91 #[x,y,.func (.func 63) #[] #[]] w fun e w'=>e=.returned (.bool (V.sames ks ks'))∧Below w.heap.size w w':=by
 have HX:=jj hx
 have HY:=jj hy
 obtain ⟨A,cap,rfl,hc1,hc2⟩:=hx.form
 obtain ⟨A',cap',rfl,hc3,hc4⟩:=hy.form
 clear hx hy
 have IH:=jj ih
 clear ih
 have HF:=jj hF
 have HG:=jj hG
 clear hF hG
 by_cases hl:ks.length=ks'.length
 ·have tl:((ks.length:Int) != (ks'.length:Int))=false:=by rw [hl];simp
  have HL:=jj hl
  have hle1:ks.length≤ks'.length:=by omega
  have hle2:ks'.length≤ks.length:=by omega
  clear hl
  go_enter Tryz.func91,Tryz.ntmps91
  go_wp2
  go_loopw [17] (fun i wr=>∃ k:Nat,k≤ks.length∧i=.int .i64 k∧Hid (ks.take k=ks'.take k)∧Below w.heap.size w wr) (fun i _=>ks.length-(intOf i).toNat)
  case atStart=>exact ⟨0,Nat.zero_le _,rfl,rfl,zy2 _ _⟩
  case round =>
   obtain ⟨k,hk,rfl,HT,hB⟩:=hrel
   by_cases hlt:k<ks.length
   ·have hlt':k<ks'.length:=by omega
    obtain ⟨b,off,cs,F1,rfl,hb,hcs,hv,hF1⟩:=HX.out.get VR_len hlt
    obtain ⟨b',off',ds,G1,rfl,hb',hds,hv',hG1⟩:=HY.out.get VR_len hlt'
    have hv1:=hv.below hB (HF.out.sub hF1)
    have hv2:=hv'.below hB (HG.out.sub hG1)
    have hbl:=zz9 (HF.out b hb) hB.size
    have hbl':=zz9 (HG.out b' hb') hB.size
    have hcs1:=hcs.same (hB.block b (HF.out b hb))
    have hds1:=hds.same (hB.block b' (HG.out b' hb'))
    obtain ⟨kv,rfl,hka⟩:=(zAE _ _ _).1 hv
    obtain ⟨kv',rfl,hka'⟩:=(zAE _ _ _).1 hv'
    obtain ⟨A1,cap1,rfl,-,-⟩:=hka.form
    obtain ⟨A2,cap2,rfl,-,-⟩:=hka'.form
    have c0:=hcs1 0 _ rfl
    have c1:=hcs1 1 _ rfl
    have c2:=hcs1 2 _ rfl
    have d0:=hds1 0 _ rfl
    have d1:=hds1 1 _ rfl
    have d2:=hds1 2 _ rfl
    simp only [Nat.add_zero] at c0 d0
    clear hcs hcs1 hv hds hds1 hv' hka hka'
    have HV:=jj hv1
    have HV2:=jj hv2
    have HF1:=jj (HF.out.sub hF1)
    have HG1:=jj (HG.out.sub hG1)
    clear hv1 hv2 hF1 hG1
    go_wp2_with fail
    obtain ⟨W2,hW2⟩:∃ W2,W2=(wr.alloc (.cells #[.int .i64 ks[k].c,.int .i64 ks[k].n,.slice A1 ks[k].ks.length cap1] 47)).alloc (.cells #[.int .i64 ks'[k].c,.int .i64 ks'[k].n,.slice A2 ks'[k].ks.length cap2] 47):=⟨_,rfl⟩
    have hb2:Below wr.heap.size wr W2:=by rw [hW2];exact ((zy2 _ _).alloc (zz8 _) _).alloc (by simp) _
    rw [←hW2]
    clear hW2
    have hB2:=hB.trans (hb2.mono hB.size)
    refine (IH.out _ (List.getElem_mem hlt) ks'[k] W2 _ _ F1 G1 (HV.out.below hb2 (HF1.out.mono hB.size)) (HV2.out.below hb2 (HG1.out.mono hB.size)) (HF1.out.mono hB2.size) (HG1.out.mono hB2.size)).mono ?_
    rintro e w' ⟨rfl,hB'⟩
    have hB3:=hB2.trans (hB'.mono hB2.size)
    by_cases he:ks[k]=ks'[k]
    ·rw [(V.same_iff _ _).2 he]
     have hT2:Hid (ks.take (k+1)=ks'.take (k+1)):=by rw [take_snoc' ks k hlt,take_snoc' ks' k hlt',HT.out,he];rfl
     clear he
     go_wp2
     go_roundw
     case rel=>exact ⟨k+1,by omega,by go_num,hT2,hB3⟩
     case measure=>simp [intOf];omega
    ·rw [V.same_false he]
     have hf:=jj (V.sames_false (ks:=ks) (ks':=ks') (fun h=>he (by simp only [h])))
     clear he
     go_wp2
     go_ret
     exact ⟨zA0 hf.out.symm,hB3⟩
   ·have hT:=HT.out
    rw [List.take_of_length_le (by omega),List.take_of_length_le (by omega)] at hT
    have hf:=jj ((V.sames_iff ks ks').2 hT)
    clear hT
    go_wp2
    go_ret
    exact ⟨zA0 hf.out.symm,hB⟩
 ·have tl:((ks.length:Int) != (ks'.length:Int))=true:=by rw [bne_iff_ne];omega
  have hf:=jj (V.sames_false (ks:=ks) (ks':=ks') (fun h=>hl (by rw [h])))
  clear hl
  go_enter Tryz.func91,Tryz.ntmps91
  go_wp2
  go_ret
  exact ⟨zA0 hf.out.symm,zy2 _ _⟩
theorem impl_ValueSame_all:∀ a,SameImplV a:=V.ind fun c n ks ih b w cs ds F G hv hv' hF hG=>by
 obtain ⟨c',n',ks'⟩:=b
 obtain ⟨kv,rfl,hk⟩:=(zAE _ _ _).1 hv
 obtain ⟨kv',rfl,hk'⟩:=(zAE _ _ _).1 hv'
 have IH:=jj ih
 clear ih hv hv'
 have HK:=jj hk
 have HK':=jj hk'
 obtain ⟨A,cap,rfl,hc1,hc2⟩:=hk.form
 obtain ⟨A',cap',rfl,hc3,hc4⟩:=hk'.form
 clear hk hk'
 have HF:=jj hF
 have HG:=jj hG
 clear hF hG
 by_cases e0:c=c'
 ·subst e0
  have t0:(c != c)=false:=by simp
  have s0:(c==c)=true:=by simp
  by_cases e1:n=n'
  ·subst e1
   have t1:(n != n)=false:=by simp
   have s1:(n==n)=true:=by simp
   go_enter Tryz.func63,Tryz.ntmps63
   go_wp2_with fail
   obtain ⟨W2,hW2⟩:∃ W2,W2=(w.alloc (.cells #[.int .i64 c,.int .i64 n,.slice A ks.length cap] 47)).alloc (.cells #[.int .i64 c,.int .i64 n,.slice A' ks'.length cap'] 47):=⟨_,rfl⟩
   have hB2:Below w.heap.size w W2:=by rw [hW2];exact ((zy2 _ _).alloc (zz8 _) _).alloc (by simp) _
   rw [←hW2]
   clear hW2
   refine (EqualFunc_ofV ks IH.out ks' W2 _ _ F G (ArrV.below HK.out hB2 HF.out) (ArrV.below HK'.out hB2 HG.out) (HF.out.mono hB2.size) (HG.out.mono hB2.size)).mono ?_
   rintro e w' ⟨rfl,hB'⟩
   have hB3:=hB2.trans (hB'.mono hB2.size)
   have hf:Hid (V.sames ks ks'=V.same ⟨c,n,ks⟩ ⟨c,n,ks'⟩):=by simp [Hid,V.same]
   generalize V.sames ks ks'=bb at *
   go_wp2
   go_ret
   exact ⟨zA0 hf.out,hB3⟩
  ·have t1:(n != n')=true:=by simpa using e1
   have s1:(n==n')=false:=by simpa using e1
   have hf:=jj (V.same_false (a:=⟨c,n,ks⟩) (b:=⟨c,n',ks'⟩) (fun h=>e1 (by injection h)))
   clear e1
   go_enter Tryz.func63,Tryz.ntmps63
   go_wp2
   go_ret
   exact ⟨zA0 hf.out.symm,((zy2 _ _).alloc (zz8 _) _).alloc (by simp) _⟩
 ·have t0:(c != c')=true:=by simpa using e0
  have s0:(c==c')=false:=by simpa using e0
  have hf:=jj (V.same_false (a:=⟨c,n,ks⟩) (b:=⟨c',n',ks'⟩) (fun h=>e0 (by injection h)))
  clear e0
  go_enter Tryz.func63,Tryz.ntmps63
  go_wp2
  go_ret
  exact ⟨zA0 hf.out.symm,((zy2 _ _).alloc (zz8 _) _).alloc (by simp) _⟩
theorem impl_ValueSame (a b:V) (w:World) (cs ds:List Value) (F G:List Nat) (hx:VR w a cs F) (hy:VR w b ds G) (hF:Under w.heap.size F) (hG:Under w.heap.size G) :
  Calls Tryz.prog 63 #[.agg cs.toArray,.agg ds.toArray] w fun e w'=>e=.returned (.bool (V.same a b))∧Below w.heap.size w w':=impl_ValueSame_all a b w cs ds F G hx hy hF hG
theorem same_reflP (v:V):V.same v v=true:=(V.same_iff v v).2 rfl
set_option maxHeartbeats 6400000 in
theorem ptBinds_same (l:List Bd) (w:World) (x y:Value) (FA FB:List Nat) (hx:Arr w (BdR w) l x FA) (hy:Arr w (BdR w) l y FB) (ha:Under w.heap.size FA) (hb:Under w.heap.size FB) :
  Calls Tryz.prog 30 #[x,y] w fun e w'=>e=.returned (.bool true)∧Below w.heap.size w w':=by
 obtain ⟨xA,xcap,rfl,hl1,hl2⟩:=hx.form
 obtain ⟨yA,ycap,rfl,-,-⟩:=hy.form
 have hlb:l.length≤9223372036854775807:=by omega
 clear hl1 hl2
 have hn:((l.length:Int) != (l.length:Int))=false:=bne_self_eq_false _
 have HX:=jj hx
 have HY:=jj hy
 have HA:=jj ha
 have HB:=jj hb
 clear hx hy ha hb
 go_enter Tryz.func30,Tryz.ntmps30
 go_wp2
 go_loopw [5] (fun iv wr=>∃ i:Nat,i≤l.length∧iv=.int .i64 i∧Below w.heap.size w wr) (fun iv _=>l.length-(intOf iv).toNat)
 case atStart=>exact ⟨0,Nat.zero_le _,rfl,zy2 _ _⟩
 case round =>
  obtain ⟨i,hi,rfl,hbr⟩:=hrel
  by_cases hlt:i<l.length
  ·obtain ⟨ba,offa,rfl⟩:=HX.out.ptr (by omega)
   obtain ⟨bb,offb,rfl⟩:=HY.out.ptr (by omega)
   obtain ⟨aA,acap,GA,hab,a0,a1,a2,a3,HAi,UAi⟩:=ArrBd.at HX.out HA.out hbr i hlt
   obtain ⟨bA,bcap,GB,hbb,b0,b1,b2,b3,HBi,UBi⟩:=ArrBd.at HY.out HB.out hbr i hlt
   have g1:(0:Int)≤(i:Int):=by omega
   have g2:(i:Int)<(l.length:Int):=by omega
   obtain ⟨q,hq⟩:∃ u,u=l[i]:=⟨_,rfl⟩
   rw [←hq] at a0 a1 a2 a3 b0 b1 b2 b3 HAi HBi
   clear hq
   have hne:(q.var != q.var)=false:=bne_self_eq_false _
   go_wp2_with fail
   have HS:Hid (∀ C:World,Below wr.heap.size wr C→(C.cell? ⟨ba,offa+i*4,none⟩=some (.int .i64 q.var)∧C.cell? ⟨ba,offa+i*4+1,none⟩=some (.int .i64 q.val.c)∧C.cell? ⟨ba,offa+i*4+2,none⟩=some (.int .i64 q.val.n)∧C.cell? ⟨ba,offa+i*4+3,none⟩=some (.slice aA q.val.ks.length acap)∧C.cell? ⟨bb,offb+i*4,none⟩=some (.int .i64 q.var)∧C.cell? ⟨bb,offb+i*4+1,none⟩=some (.int .i64 q.val.c)∧C.cell? ⟨bb,offb+i*4+2,none⟩=some (.int .i64 q.val.n)∧C.cell? ⟨bb,offb+i*4+3,none⟩=some (.slice bA q.val.ks.length bcap))):=fun C hb=>⟨(hb.cell (hab)).trans a0,(hb.cell (hab)).trans a1,(hb.cell (hab)).trans a2,(hb.cell (hab)).trans a3,(hb.cell (hbb)).trans b0,(hb.cell (hbb)).trans b1,(hb.cell (hbb)).trans b2,(hb.cell (hbb)).trans b3⟩
   have hC0:Below wr.heap.size wr wr.drew:=(zy2 _ _).drew
   refine zA5 (S:=fun w'=>w'.cell? ⟨ba,offa+i*4,none⟩=some (.int .i64 q.var)∧w'.cell? ⟨ba,offa+i*4+1,none⟩=some (.int .i64 q.val.c)∧w'.cell? ⟨ba,offa+i*4+2,none⟩=some (.int .i64 q.val.n)∧w'.cell? ⟨ba,offa+i*4+3,none⟩=some (.slice aA q.val.ks.length acap)∧w'.cell? ⟨bb,offb+i*4,none⟩=some (.int .i64 q.var)∧w'.cell? ⟨bb,offb+i*4+1,none⟩=some (.int .i64 q.val.c)∧w'.cell? ⟨bb,offb+i*4+2,none⟩=some (.int .i64 q.val.n)∧w'.cell? ⟨bb,offb+i*4+3,none⟩=some (.slice bA q.val.ks.length bcap)) (T:=fun _=>True) (d:=99) (by kernel_rfl) ?_
   obtain ⟨wd,hwd⟩:∃ X,X=wr.drew:=⟨_,rfl⟩
   rw [←hwd] at hC0  ⊢
   clear hwd
   have hS0:=HS.out _ hC0
   have hT0:True:=trivial
   refine wV 0 rfl hS0 hT0 ?_
   (try simp only [zz])
   refine wV 1 rfl hS0 hT0 ?_
   (try simp only [zz])
   refine wV 2 rfl hS0 hT0 ?_
   (try simp only [zz])
   refine wV 3 rfl hS0 hT0 ?_
   (try simp only [zz])
   refine wV 4 rfl hS0 hT0 ?_
   (try simp only [zz])
   refine wV 5 rfl hS0 hT0 ?_
   (try simp only [zz])
   refine wV 6 rfl hS0 hT0 ?_
   (try simp only [zz])
   refine wV 7 rfl hS0 hT0 ?_
   (try simp only [zz])
   refine wV 8 rfl hS0 hT0 ?_
   (try simp only [zz])
   refine wV 9 rfl hS0 hT0 ?_
   (try simp only [zz])
   refine wV 10 rfl hS0 hT0 ?_
   (try simp only [zz])
   refine wV 11 rfl hS0 hT0 ?_
   (try simp only [zz])
   refine wV 12 rfl hS0 hT0 ?_
   (try simp only [zz])
   refine wV 13 rfl hS0 hT0 ?_
   (try simp only [zz])
   refine wV 14 rfl hS0 hT0 ?_
   (try simp only [zz])
   refine wV 15 rfl hS0 hT0 ?_
   (try simp only [zz])
   refine wV 16 rfl hS0 hT0 ?_
   (try simp only [zz])
   refine wV 17 rfl hS0 hT0 ?_
   (try simp only [zz])
   refine wV 18 rfl hS0 hT0 ?_
   (try simp only [zz])
   refine wV 19 rfl hS0 hT0 ?_
   (try simp only [zz])
   refine wV 20 rfl hS0 hT0 ?_
   (try simp only [zz])
   refine wV 21 rfl hS0 hT0 ?_
   (try simp only [zz])
   have hbd:=hbr.trans (hC0.mono hbr.size)
   refine w1 22 rfl fun K hK=>?_
   go_simp
   go_at_call 63
   refine (impl_ValueSame q.val q.val wd _ _ GA GB (HAi.out.below hbd UAi.out) (HBi.out.below hbd UBi.out) (UAi.out.mono hbd.size) (UBi.out.mono hbd.size)).mono ?_
   rintro e C9 ⟨rfl,hb9⟩
   have hC1:Below wr.heap.size wr C9:=hC0.trans (hb9.mono hC0.size)
   have hS1:=HS.out _ hC1
   rw [same_reflP]
   (try dsimp only)
   refine hK.out _ _ hS1 (fun _=>trivial) ?_
   clear hK K
   (try simp only [zz])
   refine wV 23 rfl hS1 hT0 ?_
   (try simp only [zz])
   refine wV 24 rfl hS1 hT0 ?_
   (try simp only [zz])
   refine wE (by kernel_rfl) ?_
   clear hS0 hS1 hT0
   have hbr9:=hbr.trans (hC1.mono hbr.size)
   clear a0 a1 a2 a3 b0 b1 b2 b3 hab hbb hC0 hC1 hbr hb9 hbd
   go_wp2
   go_roundw
   case rel=>exact ⟨i+1,by omega,by go_num,hbr9⟩
   case measure=>(simp [intOf] <;> omega)
  ·go_wp2
   go_ret
   exact ⟨rfl,hbr⟩
end Go.Proofs.YtghekinfoadcoaaGreat
