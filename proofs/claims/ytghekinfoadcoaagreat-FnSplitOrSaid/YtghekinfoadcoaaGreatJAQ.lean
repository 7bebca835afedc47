/-
  Lemmas, and contracts of functions. Conditions: none.
-/
import Derived.Test.YtghekinfoadcoaaGreatJAP
import Derived.Test.YtghekinfoadcoaaGreatJAK
import Derived.Test.YtghekinfoadcoaaGreatJAL
import Derived.Test.YtghekinfoadcoaaGreatJAB
import Derived.Test.YtghekinfoadcoaaGreatChecked
import Derived.Deep.RegionHeld3
import Derived.BigQuiet
import Derived.Test.YtghekinfoadcoaaGreatJAC
import Derived.Test.YtghekinfoadcoaaGreatJAA
import Derived.ProofKit
import Derived.ChangeArms
import Derived.Deep.Fields

set_option linter.unusedVariables false
set_option linter.unusedSimpArgs false
set_option maxRecDepth 100000
set_option maxHeartbeats 1600000

namespace Go.Proofs.YtghekinfoadcoaaGreat
open Go.RowKit
theorem first_flat {α β γ:Type} (f:β→Option γ) (g:α→List β):∀ l:List α,(l.flatMap g).findSome? f=l.findSome? fun a=>(g a).findSome? f
 |[]=>rfl
 |a :: l=>by
  rw [List.flatMap_cons,List.findSome?_append,first_flat f g l,List.findSome?_cons]
  cases (g a).findSome? f <;> rfl
theorem zBJ {α γ:Type}:∀ l:List α,(l.findSome? fun _=>(none:Option γ))=none
 |[]=>rfl
 |a :: l=>by rw [List.findSome?_cons,zBJ l]
theorem first_map {α γ δ:Type} (f:α→Option γ) (g:γ→δ):∀ l:List α,(l.findSome? fun a=>(f a).map g)=(l.findSome? f).map g
 |[]=>rfl
 |a :: l=>by
  rw [List.findSome?_cons,List.findSome?_cons,first_map f g l]
  cases f a <;> rfl
theorem zAT {α γ:Type} {f g:α→Option γ}:∀ {l:List α},(∀ a∈l,f a=g a)→l.findSome? f=l.findSome? g
 |[],_=>rfl
 |a :: l,h=>by rw [List.findSome?_cons,List.findSome?_cons,h a (by simp),zAT (l:=l) fun b hb=>h b (by simp [hb])]
theorem first_const {α γ:Type} {c:Option γ}:∀ {l:List α},0<l.length→(l.findSome? fun _=>c)=c
 |a :: l,_=>by
  rw [List.findSome?_cons]
  cases c with
  |none=>exact zBJ l
  |some x=>rfl
theorem mats_cons (k:P) (ks:List P) (v:V) (vs:List V):P.mats (k :: ks) (v :: vs)=(P.mat k v).bind fun a=>(P.mats ks vs).map fun b=>a ++ b:=by
 rw [P.mats]
 cases P.mat k v with
 |none=>rfl
 |some a=>cases P.mats ks vs <;> rfl
theorem mats_first:∀ (ks:List P) (vs:List V),(∀ k∈ks,∀ v,P.mat k v=(P.spl k).findSome? fun q=>P.mat q v)→P.mats ks vs=(pairAllP (ks.map P.spl)).findSome? fun o=>P.mats o vs
 |[],vs,_=>by rw [mats_nil];unfold pairAllP;simp [mats_nil]
 |k :: ks,[],_=>by
  rw [List.map_cons,pairAllP_cons,first_flat,P.mats]
  rw [show (fun a:P=>((pairAllP (ks.map P.spl)).map (a :: ·)).findSome? fun o=>P.mats o [])=fun _=>none from funext fun a=>by
   rw [List.findSome?_map,zAT (g:=fun _=>none) (fun o _=>by rw [Function.comp_apply,P.mats]),zBJ]]
  rw [zBJ]
 |k :: ks,v :: vs,h=>by
  rw [List.map_cons,pairAllP_cons,first_flat,mats_cons,h k (by simp) v,mats_first ks vs fun k' hk'=>h k' (by simp [hk'])]
  rw [show (fun a:P=>((pairAllP (ks.map P.spl)).map (a :: ·)).findSome? fun o=>P.mats o (v :: vs))=fun a=>(P.mat a v).bind fun x=>((pairAllP (ks.map P.spl)).findSome? fun o=>P.mats o vs).map fun b=>x ++ b from funext fun a=>by
   rw [List.findSome?_map]
   rw [zAT (g:=fun o=>(P.mat a v).bind fun x=>(P.mats o vs).map fun b=>x ++ b) (fun o _=>by rw [Function.comp_apply,mats_cons])]
   cases P.mat a v with
   |none=>exact zBJ _
   |some x=>exact first_map _ _ _]
  cases (pairAllP (ks.map P.spl)).findSome? fun o=>P.mats o vs with
  |none =>
   rw [show (fun a:P=>(P.mat a v).bind fun x=>(none:Option (List Bd)).map fun b=>x ++ b)=fun _=>none from funext fun a=>by cases P.mat a v <;> rfl,zBJ]
   cases (P.spl k).findSome? fun q=>P.mat q v <;> rfl
  |some b =>
   rw [show (fun a:P=>(P.mat a v).bind fun x=>(some b).map fun b=>x ++ b)=fun a=>(P.mat a v).map fun x=>x ++ b from funext fun a=>by cases P.mat a v <;> rfl,first_map]
   cases (P.spl k).findSome? fun q=>P.mat q v <;> rfl
theorem mat_first (xs:List Dt):∀ (d:Nat) (t:Ty) (p:P),shapeB xs d t p=true→∀ v,P.mat p v=(P.spl p).findSome? fun q=>P.mat q v
 |0,_,_,h,_=>by cases h
 |d+1,t,p,h,v=>by
  by_cases h5:p.op=5
  ·obtain ⟨a,b,hk,ha,hb⟩:=shape_or h h5
   rw [mat_5 h5 hk,spl_or h5,hk,List.flatMap_cons,List.flatMap_cons,List.flatMap_nil,List.append_nil,List.findSome?_append,←mat_first xs d t a ha v,←mat_first xs d t b hb v]
   cases P.mat a v <;> rfl
  ·have hpos:0<(pairAllP (p.ks.map P.spl)).length:=by
    have:=spl_pos xs (d+1) t p h
    rwa [spl_no h5,List.length_map] at this
   rw [spl_no h5,List.findSome?_map,show ((fun q=>P.mat q v) ∘ p.re)=fun o=>P.mat (p.re o) v from rfl]
   have hops:=ops_of2 (by rw [shapeB,Bool.and_eq_true] at h;exact h.1:ownB xs t p=true)
   rcases hops with e | e | e | e | e | e
   ·rw [mat_1 e,zAT (f:=fun o=>P.mat (p.re o) v) (g:=fun _=>some []) (fun o _=>mat_1 (p:=p.re o) e),first_const hpos]
   ·rw [mat_2 e,zAT (g:=fun _=>some [⟨p.va,v⟩]) (fun o _=>mat_2 (p:=p.re o) e),first_const hpos]
   ·rw [mat_3 e,zAT (g:=fun _=>if withinB v.n p.n p.m=true then some [] else none) (fun o _=>mat_3 (p:=p.re o) e),first_const hpos]
   ·have hks:∀ k∈p.ks,∀ v,P.mat k v=(P.spl k).findSome? fun q=>P.mat q v:=fun k hk v=>by
     obtain ⟨u,hu⟩:=shape_kid h hk
     exact mat_first xs d u k hu v
    rw [mat_4 e,zAT (g:=fun o=>if v.c=p.ct then P.mats o v.ks else none) (fun o _=>mat_4 (p:=p.re o) e)]
    by_cases hc:v.c=p.ct
    ·rw [if_pos hc,mats_first p.ks v.ks hks]
     exact zAT fun o _=>(if_pos hc).symm
    ·rw [if_neg hc,zAT (g:=fun _=>none) (fun o _=>if_neg hc),zBJ]
   ·exact absurd e h5
   ·obtain ⟨h1,h2⟩:=shape_kids h
    rw [typesP_as e] at h1
    obtain ⟨k,hk⟩:∃ k,p.ks=[k]:=by
     match hl:p.ks,h1 with
     |[k],_=>exact ⟨k,rfl⟩
    obtain ⟨u,hu⟩:=shape_kid h (k:=k) (by rw [hk];simp)
    rw [mat_6 e hk,hk,List.map_cons,List.map_nil,pairAllP_cons,first_flat,mat_first xs d u k hu v,←first_map]
    refine zAT fun q _=>?_
    unfold pairAllP
    rw [List.foldl_nil,List.map_cons,List.map_nil,List.findSome?_cons,List.findSome?_nil,mat_6 (p:=p.re [q]) e rfl]
    cases P.mat q v <;> rfl
theorem first_at {α γ:Type} {f:α→Option γ}:∀ {l:List α} {i:Nat} (h:i<l.length),(∀ j (hj:j<l.length),j<i→f l[j]=none)→∀ {c},f l[i]=some c→l.findSome? f=some c
 |a :: l,0,_,_,c,hc=>by rw [List.findSome?_cons];rw [zz2] at hc;rw [hc]
 |a :: l,i+1,h,hb,c,hc=>by
  rw [List.findSome?_cons,show f a=none from hb 0 (by simp) (by omega)]
  exact first_at (l:=l) (i:=i) (by simpa using h) (fun j hj hji=>hb (j+1) (by simpa using hj) (by omega)) hc
theorem first_no {α γ:Type} {f:α→Option γ} {l:List α} (h:∀ j (hj:j<l.length),f l[j]=none):l.findSome? f=none:=by
 rw [zAT (g:=fun _=>none) (fun a ha=>by obtain ⟨j,hj,rfl⟩:=List.getElem_of_mem ha;exact h j hj),zBJ]
theorem part_mat {xs:List Dt} {t:Ty} {p q:P} {v:V} (h:splitB xs t p=true) (hq:q∈P.spl p):matchB xs t q v=(valueOkB xs t v && (P.mat q v).isSome):=by
 unfold matchB
 rw [(split_part (splitB_valid h) hq).1,Bool.true_and]
theorem split_mat {xs:List Dt} {t:Ty} {p:P} {v:V} (h:splitB xs t p=true):matchB xs t p v=(valueOkB xs t v && ((P.spl p).findSome? fun q=>P.mat q v).isSome):=by
 have h1:=splitB_valid h
 unfold matchB
 rw [h1,Bool.true_and]
 unfold patternValidB patOkB at h1
 simp only [Bool.and_eq_true,decide_eq_true_iff] at h1
 rw [mat_first xs 10 t p h1.2.1 v]
theorem split_first {xs:List Dt} {t:Ty} {p:P} {v:V} (h:splitB xs t p=true) {i:Nat} (hi:i<(splitV xs t p).length) (hb:∀ j (hj:j<(splitV xs t p).length),j<i→matchB xs t (splitV xs t p)[j] v=false) (hm:matchB xs t (splitV xs t p)[i] v=true) :
  matchB xs t p v=true∧matchV xs t (splitV xs t p)[i] v=matchV xs t p v:=by
 have e:=splitV_yes h
 generalize splitV xs t p=l at *
 subst e
 have hmi:=hm
 rw [part_mat h (List.getElem_mem hi),Bool.and_eq_true] at hmi
 have hbj:∀ j (hj:j<(P.spl p).length),j<i→P.mat (P.spl p)[j] v=none:=fun j hj hji=>by
  have h1:=hb j hj hji
  rw [part_mat h (List.getElem_mem hj),hmi.1,Bool.true_and] at h1
  cases hc:P.mat (P.spl p)[j] v with
  |none=>rfl
  |some c=>rw [hc] at h1;cases h1
 cases hc:P.mat (P.spl p)[i] v with
 |none=>rw [hc] at hmi;cases hmi.2
 |some c =>
  have hf:=first_at (f:=fun q=>P.mat q v) hi hbj hc
  have hv:=splitB_valid h
  have hmp:P.mat p v=some c:=by
   unfold patternValidB patOkB at hv
   simp only [Bool.and_eq_true,decide_eq_true_iff] at hv
   rw [mat_first xs 10 t p hv.2.1 v,hf]
  have hy:matchB xs t p v=true:=by rw [split_mat h,hf,hmi.1];rfl
  exact ⟨hy,by unfold matchV;rw [if_pos hy,if_pos hm,hmp,hc]⟩
theorem split_none {xs:List Dt} {t:Ty} {p:P} {v:V} (h:splitB xs t p=true) (hb:∀ j (hj:j<(splitV xs t p).length),matchB xs t (splitV xs t p)[j] v=false):matchB xs t p v=false:=by
 have e:=splitV_yes h
 generalize splitV xs t p=l at *
 subst e
 rw [split_mat h]
 cases hvo:valueOkB xs t v with
 |false=>rfl
 |true =>
  rw [Bool.true_and,first_no (f:=fun q=>P.mat q v) fun j hj=>?_]
  ·rfl
  ·have h1:=hb j hj
   rw [part_mat h (List.getElem_mem hj),hvo,Bool.true_and] at h1
   cases hc:P.mat (P.spl p)[j] v with
   |none=>rfl
   |some c=>rw [hc] at h1;cases h1
mutual
def V.same:V→V→Bool
 |⟨c,n,ks⟩,⟨c',n',ks'⟩=>(c==c') && (n==n') && V.sames ks ks'
def V.sames:List V→List V→Bool
 |[],[]=>true
 |x :: xs,y :: ys=>V.same x y && V.sames xs ys
 |[],_ :: _=>false
 |_ :: _,[]=>false
end
theorem V.sames_iff_of (ks:List V) (h:∀ k∈ks,∀ b,V.same k b=true↔k=b):∀ ks',V.sames ks ks'=true↔ks=ks':=by
 induction ks with
 |nil=>intro ks';cases ks' <;> simp [V.sames]
 |cons x xs ih =>
  intro ks'
  cases ks' with
  |nil=>simp [V.sames]
  |cons y ys =>
   simp only [V.sames,Bool.and_eq_true,List.cons.injEq]
   rw [h x (by simp) y,ih (fun k hk=>h k (by simp [hk])) ys]
theorem V.same_iff:∀ a b:V,V.same a b=true↔a=b:=V.ind fun c n ks ih b=>by
 obtain ⟨c',n',ks'⟩:=b
 simp only [V.same,Bool.and_eq_true,V.sames_iff_of ks ih,beq_iff_eq,V.mk.injEq,and_assoc]
theorem V.same_false {a b:V} (h:a≠b):V.same a b=false:=by
 rw [Bool.eq_false_iff]
 exact fun e=>h ((V.same_iff a b).1 e)
theorem V.sames_iff (ks ks':List V):V.sames ks ks'=true↔ks=ks':=V.sames_iff_of ks (fun k _=>V.same_iff k) ks'
theorem V.sames_false {ks ks':List V} (h:ks≠ks'):V.sames ks ks'=false:=by
 rw [Bool.eq_false_iff]
 exact fun e=>h ((V.sames_iff ks ks').1 e)
def SameImplV (a:V):Prop:=∀ (b:V) (w:World) (cs ds:List Value) (F G:List Nat),VR w a cs F→VR w b ds G→Under w F→Under w G →
 Calls Tryz.prog 63 #[.agg cs.toArray,.agg ds.toArray] w fun e w'=>e=.returned (.bool (V.same a b))∧Below w w w'
theorem EqualFunc_ofV (ks:List V) (ih:∀ k∈ks,SameImplV k) (ks':List V) (w:World) (x y:Value) (F G:List Nat) (hx:Arr w (VR w) ks x F) (hy:Arr w (VR w) ks' y G) (hF:Under w F) (hG:Under w G) :
  Calls Tryz.prog 91 #[x,y,.func (.func 63) #[] #[]] w fun e w'=>e=.returned (.bool (V.sames ks ks'))∧Below w w w':=by
 have HX:=jj hx
 have HY:=jj hy
 obtain ⟨A,cap,rfl,hc1,hc2⟩:=hx.form
 obtain ⟨A',cap',rfl,hc3,hc4⟩:=hy.form
 clear hx hy
 have IH:=jj ih
 clear ih
 have HF:=jj hF
 have HG:=jj hG
 clear hF hG
 by_cases hl:ks.length=ks'.length
 ·have tl:((ks.length:Int) != (ks'.length:Int))=false:=by rw [hl];simp
  have HL:=jj hl
  have hle1:ks.length≤ks'.length:=by omega
  have hle2:ks'.length≤ks.length:=by omega
  clear hl
  go_enter Tryz.func91,Tryz.ntmps91
  go_wp2
  go_loopw [17] (fun i wr=>∃ k:Nat,k≤ks.length∧i=.int .i64 k∧Hid (ks.take k=ks'.take k)∧Below w w wr) (fun i _=>ks.length-(intOf i).toNat)
  case atStart=>exact ⟨0,Nat.zero_le _,rfl,rfl,zy2 _ _⟩
  case round =>
   obtain ⟨k,hk,rfl,HT,hB⟩:=hrel
   by_cases hlt:k<ks.length
   ·have hlt':k<ks'.length:=by omega
    obtain ⟨b,off,cs,F1,rfl,hb,hcs,hv,hF1⟩:=HX.out.get VR_len hlt
    obtain ⟨b',off',ds,G1,rfl,hb',hds,hv',hG1⟩:=HY.out.get VR_len hlt'
    have hv1:=hv.below hB (HF.out.sub hF1)
    have hv2:=hv'.below hB (HG.out.sub hG1)
    have hbl:=zz9 (HF.out b hb) hB.size
    have hbl':=zz9 (HG.out b' hb') hB.size
    have hcs1:=hcs.same (hB.block b (HF.out b hb))
    have hds1:=hds.same (hB.block b' (HG.out b' hb'))
    obtain ⟨kv,rfl,hka⟩:=(zAF _ _ _).1 hv
    obtain ⟨kv',rfl,hka'⟩:=(zAF _ _ _).1 hv'
    obtain ⟨A1,cap1,rfl,-,-⟩:=hka.form
    obtain ⟨A2,cap2,rfl,-,-⟩:=hka'.form
    have c0:=hcs1 0 _ rfl
    have c1:=hcs1 1 _ rfl
    have c2:=hcs1 2 _ rfl
    have d0:=hds1 0 _ rfl
    have d1:=hds1 1 _ rfl
    have d2:=hds1 2 _ rfl
    simp only [Nat.add_zero] at c0 d0
    clear hcs hcs1 hv hds hds1 hv' hka hka'
    have HV:=jj hv1
    have HV2:=jj hv2
    have HF1:=jj (HF.out.sub hF1)
    have HG1:=jj (HG.out.sub hG1)
    clear hv1 hv2 hF1 hG1
    go_wp2_with fail
    obtain ⟨W2,hW2⟩:∃ W2,W2=(wr.alloc (.cells #[ks[k].c,ks[k].n,.slice A1 ks[k].ks.length cap1] 47)).alloc (.cells #[ks'[k].c,ks'[k].n,.slice A2 ks'[k].ks.length cap2] 47):=⟨_,rfl⟩
    have hb2:Below wr wr W2:=by rw [hW2];exact ((zy2 _ _).alloc (zz8 _) _).alloc (by simp) _
    rw [←hW2]
    clear hW2
    have hB2:=hB.trans (hb2.mono hB.size)
    refine (IH.out _ (List.getElem_mem hlt) ks'[k] W2 _ _ F1 G1 (HV.out.below hb2 (HF1.out.mono hB.size)) (HV2.out.below hb2 (HG1.out.mono hB.size)) (HF1.out.mono hB2.size) (HG1.out.mono hB2.size)).mono ?_
    rintro e w' ⟨rfl,hB'⟩
    have hB3:=hB2.trans (hB'.mono hB2.size)
    by_cases he:ks[k]=ks'[k]
    ·rw [(V.same_iff _ _).2 he]
     have hT2:Hid (ks.take (k+1)=ks'.take (k+1)):=by rw [take_snoc' ks k hlt,take_snoc' ks' k hlt',HT.out,he];rfl
     clear he
     go_wp2
     go_roundw
     case rel=>exact ⟨k+1,by omega,by go_num,hT2,hB3⟩
     case measure=>simp [intOf];omega
    ·rw [V.same_false he]
     have hf:=jj (V.sames_false (ks:=ks) (ks':=ks') (fun h=>he (by simp only [h])))
     clear he
     go_wp2
     go_ret
     exact ⟨zA0 hf.out.symm,hB3⟩
   ·have hT:=HT.out
    rw [List.take_of_length_le (by omega),List.take_of_length_le (by omega)] at hT
    have hf:=jj ((V.sames_iff ks ks').2 hT)
    clear hT
    go_wp2
    go_ret
    exact ⟨zA0 hf.out.symm,hB⟩
 ·have tl:((ks.length:Int) != (ks'.length:Int))=true:=by rw [bne_iff_ne];omega
  have hf:=jj (V.sames_false (ks:=ks) (ks':=ks') (fun h=>hl (by rw [h])))
  clear hl
  go_enter Tryz.func91,Tryz.ntmps91
  go_wp2
  go_ret
  exact ⟨zA0 hf.out.symm,zy2 _ _⟩
theorem impl_ValueSame_all:∀ a,SameImplV a:=V.ind fun c n ks ih b w cs ds F G hv hv' hF hG=>by
 obtain ⟨c',n',ks'⟩:=b
 obtain ⟨kv,rfl,hk⟩:=(zAF _ _ _).1 hv
 obtain ⟨kv',rfl,hk'⟩:=(zAF _ _ _).1 hv'
 have IH:=jj ih
 clear ih hv hv'
 have HK:=jj hk
 have HK':=jj hk'
 obtain ⟨A,cap,rfl,hc1,hc2⟩:=hk.form
 obtain ⟨A',cap',rfl,hc3,hc4⟩:=hk'.form
 clear hk hk'
 have HF:=jj hF
 have HG:=jj hG
 clear hF hG
 by_cases e0:c=c'
 ·subst e0
  have t0:(c != c)=false:=by simp
  have s0:(c==c)=true:=by simp
  by_cases e1:n=n'
  ·subst e1
   have t1:(n != n)=false:=by simp
   have s1:(n==n)=true:=by simp
   go_enter Tryz.func63,Tryz.ntmps63
   go_wp2_with fail
   obtain ⟨W2,hW2⟩:∃ W2,W2=(w.alloc (.cells #[.int .i64 c,.int .i64 n,.slice A ks.length cap] 47)).alloc (.cells #[.int .i64 c,.int .i64 n,.slice A' ks'.length cap'] 47):=⟨_,rfl⟩
   have hB2:Below w w W2:=by rw [hW2];exact ((zy2 _ _).alloc (zz8 _) _).alloc (by simp) _
   rw [←hW2]
   clear hW2
   refine (EqualFunc_ofV ks IH.out ks' W2 _ _ F G (ArrV.below HK.out hB2 HF.out) (ArrV.below HK'.out hB2 HG.out) (HF.out.mono hB2.size) (HG.out.mono hB2.size)).mono ?_
   rintro e w' ⟨rfl,hB'⟩
   have hB3:=hB2.trans (hB'.mono hB2.size)
   have hf:Hid (V.sames ks ks'=V.same ⟨c,n,ks⟩ ⟨c,n,ks'⟩):=by simp [Hid,V.same]
   generalize V.sames ks ks'=bb at *
   go_wp2
   go_ret
   exact ⟨zA0 hf.out,hB3⟩
  ·have t1:(n != n')=true:=by simpa using e1
   have s1:(n==n')=false:=by simpa using e1
   have hf:=jj (V.same_false (a:=⟨c,n,ks⟩) (b:=⟨c,n',ks'⟩) (fun h=>e1 (by injection h)))
   clear e1
   go_enter Tryz.func63,Tryz.ntmps63
   go_wp2
   go_ret
   exact ⟨zA0 hf.out.symm,((zy2 _ _).alloc (zz8 _) _).alloc (by simp) _⟩
 ·have t0:(c != c')=true:=by simpa using e0
  have s0:(c==c')=false:=by simpa using e0
  have hf:=jj (V.same_false (a:=⟨c,n,ks⟩) (b:=⟨c',n',ks'⟩) (fun h=>e0 (by injection h)))
  clear e0
  go_enter Tryz.func63,Tryz.ntmps63
  go_wp2
  go_ret
  exact ⟨zA0 hf.out.symm,((zy2 _ _).alloc (zz8 _) _).alloc (by simp) _⟩
theorem impl_ValueSame (a b:V) (w:World) (cs ds:List Value) (F G:List Nat) (hx:VR w a cs F) (hy:VR w b ds G) (hF:Under w F) (hG:Under w G) :
  Calls Tryz.prog 63 #[.agg cs.toArray,.agg ds.toArray] w fun e w'=>e=.returned (.bool (V.same a b))∧Below w w w':=impl_ValueSame_all a b w cs ds F G hx hy hF hG
theorem same_reflP (v:V):V.same v v=true:=(V.same_iff v v).2 rfl
set_option maxHeartbeats 6400000 in
theorem ptBinds_same (l:List Bd) (w:World) (x y:Value) (FA FB:List Nat) (hx:Arr w (BdR w) l x FA) (hy:Arr w (BdR w) l y FB) (ha:Under w FA) (hb:Under w FB) :
  Calls Tryz.prog 30 #[x,y] w fun e w'=>e=.returned (.bool true)∧Below w w w':=by
 obtain ⟨xA,xcap,rfl,hl1,hl2⟩:=hx.form
 obtain ⟨yA,ycap,rfl,-,-⟩:=hy.form
 have hlb:l.length≤9223372036854775807:=by omega
 clear hl1 hl2
 have hn:((l.length:Int) != (l.length:Int))=false:=bne_self_eq_false _
 have HX:=jj hx
 have HY:=jj hy
 have HA:=jj ha
 have HB:=jj hb
 clear hx hy ha hb
 go_enter Tryz.func30,Tryz.ntmps30
 go_wp2
 go_loopw [5] (fun iv wr=>∃ i:Nat,i≤l.length∧iv=.int .i64 i∧Below w w wr) (fun iv _=>l.length-(intOf iv).toNat)
 case atStart=>exact ⟨0,Nat.zero_le _,rfl,zy2 _ _⟩
 case round =>
  obtain ⟨i,hi,rfl,hbr⟩:=hrel
  by_cases hlt:i<l.length
  ·obtain ⟨ba,offa,rfl⟩:=HX.out.ptr (by omega)
   obtain ⟨bb,offb,rfl⟩:=HY.out.ptr (by omega)
   obtain ⟨aA,acap,GA,hab,a0,a1,a2,a3,HAi,UAi⟩:=ArrBd.at HX.out HA.out hbr i hlt
   obtain ⟨bA,bcap,GB,hbb,b0,b1,b2,b3,HBi,UBi⟩:=ArrBd.at HY.out HB.out hbr i hlt
   have g1:(0:Int)≤(i:Int):=by omega
   have g2:(i:Int)<(l.length:Int):=by omega
   obtain ⟨q,hq⟩:∃ u,u=l[i]:=⟨_,rfl⟩
   rw [←hq] at a0 a1 a2 a3 b0 b1 b2 b3 HAi HBi
   clear hq
   have hne:(q.var != q.var)=false:=bne_self_eq_false _
   go_wp2_with fail
   have HS:Hid (∀ C:World,Below wr wr C→(C.cell? ⟨ba,offa+i*4,none⟩=q.var∧C.cell? ⟨ba,offa+i*4+1,none⟩=q.val.c∧C.cell? ⟨ba,offa+i*4+2,none⟩=q.val.n∧C.cell? ⟨ba,offa+i*4+3,none⟩=some (.slice aA q.val.ks.length acap)∧C.cell? ⟨bb,offb+i*4,none⟩=q.var∧C.cell? ⟨bb,offb+i*4+1,none⟩=q.val.c∧C.cell? ⟨bb,offb+i*4+2,none⟩=q.val.n∧C.cell? ⟨bb,offb+i*4+3,none⟩=some (.slice bA q.val.ks.length bcap))):=fun C hb=>⟨(hb.cell (hab)).trans a0,(hb.cell (hab)).trans a1,(hb.cell (hab)).trans a2,(hb.cell (hab)).trans a3,(hb.cell (hbb)).trans b0,(hb.cell (hbb)).trans b1,(hb.cell (hbb)).trans b2,(hb.cell (hbb)).trans b3⟩
   have hC0:Below wr wr wr.drew:=(zy2 _ _).drew
   refine wpBS HS.out (T:=fun _=>True) (d:=99) (by kernel_rfl) ?_
   obtain ⟨wd,hwd⟩:∃ X,X=wr.drew:=⟨_,rfl⟩
   rw [←hwd] at hC0  ⊢
   clear hwd
   have hS0:=HS.out _ hC0
   have hT0:True:=trivial
   refine wV 0 rfl hS0 hT0 ?_
   (try simp only [zz])
   refine wV 1 rfl hS0 hT0 ?_
   (try simp only [zz])
   refine wV 2 rfl hS0 hT0 ?_
   (try simp only [zz])
   refine wV 3 rfl hS0 hT0 ?_
   (try simp only [zz])
   refine wV 4 rfl hS0 hT0 ?_
   (try simp only [zz])
   refine wV 5 rfl hS0 hT0 ?_
   (try simp only [zz])
   refine wV 6 rfl hS0 hT0 ?_
   (try simp only [zz])
   refine wV 7 rfl hS0 hT0 ?_
   (try simp only [zz])
   refine wV 8 rfl hS0 hT0 ?_
   (try simp only [zz])
   refine wV 9 rfl hS0 hT0 ?_
   (try simp only [zz])
   refine wV 10 rfl hS0 hT0 ?_
   (try simp only [zz])
   refine wV 11 rfl hS0 hT0 ?_
   (try simp only [zz])
   refine wV 12 rfl hS0 hT0 ?_
   (try simp only [zz])
   refine wV 13 rfl hS0 hT0 ?_
   (try simp only [zz])
   refine wV 14 rfl hS0 hT0 ?_
   (try simp only [zz])
   refine wV 15 rfl hS0 hT0 ?_
   (try simp only [zz])
   refine wV 16 rfl hS0 hT0 ?_
   (try simp only [zz])
   refine wV 17 rfl hS0 hT0 ?_
   (try simp only [zz])
   refine wV 18 rfl hS0 hT0 ?_
   (try simp only [zz])
   refine wV 19 rfl hS0 hT0 ?_
   (try simp only [zz])
   refine wV 20 rfl hS0 hT0 ?_
   (try simp only [zz])
   refine wV 21 rfl hS0 hT0 ?_
   (try simp only [zz])
   have hbd:=hbr.trans (hC0.mono hbr.size)
   refine w1 22 rfl fun K hK=>?_
   go_simp
   go_at_call 63
   refine (impl_ValueSame q.val q.val wd _ _ GA GB (HAi.out.below hbd UAi.out) (HBi.out.below hbd UBi.out) (UAi.out.mono hbd.size) (UBi.out.mono hbd.size)).mono ?_
   rintro e C9 ⟨rfl,hb9⟩
   have hC1:Below wr wr C9:=hC0.trans (hb9.mono hC0.size)
   have hS1:=HS.out _ hC1
   rw [same_reflP]
   (try dsimp only)
   refine hK.out _ _ hS1 (fun _=>trivial) ?_
   clear hK K
   (try simp only [zz])
   refine wV 23 rfl hS1 hT0 ?_
   (try simp only [zz])
   refine wV 24 rfl hS1 hT0 ?_
   (try simp only [zz])
   refine wE (by kernel_rfl) ?_
   clear hS0 hS1 hT0
   have hbr9:=hbr.trans (hC1.mono hbr.size)
   clear a0 a1 a2 a3 b0 b1 b2 b3 hab hbb hC0 hC1 hbr hb9 hbd
   go_wp2
   go_roundw
   case rel=>exact ⟨i+1,by omega,by go_num,hbr9⟩
   case measure=>(simp [intOf] <;> omega)
  ·go_wp2
   go_ret
   exact ⟨rfl,hbr⟩
end Go.Proofs.YtghekinfoadcoaaGreat
namespace Go.Proofs.YtghekinfoadcoaaGreat
open Go.ChangeShapes Go.WideShapes Go.ChangeAt Go.RowKit
section
variable {H : Type} {enc : TypeId × Value → H} {P : Program} {w : World} {base : Nat} {spare : Nat → Bool} {held : Bool}
theorem cell_lt {w:World} {a:Addr} {v:Value} (h:w.cell? a=some v):a.block<w.heap.size:=by
 rcases Nat.lt_or_ge a.block w.heap.size with hl | hl
 ·exact hl
 ·unfold World.cell? at h
  rw [Array.getElem?_eq_none hl] at h
  cases h
theorem open_Arr {α:Type} (R:α→List Value→List Nat→Prop) {t e:TypeId} {k n fuel:Nat} {cs:List Value} {x:DataW H×List MemPlace} (ht:P.underlying t=some (.slice e)) (hk:P.cellsOf e=k) (hk0:0<k) (hf:fuel=n+1)
  (hR:∀ ds y,DataW.trod enc P w base spare held n e ds=some y→ds.length=k→∃ a F,R a ds F∧Under w F)
  (h:DataW.trod enc P w base spare held fuel t cs=some x):∃ xs v F,cs=[v]∧Arr w R xs v F∧Under w F:=by
 subst hf
 rcases DataW.trod_slice ht h with ⟨rfl,-⟩ | ⟨a,len,cap,elems,rest,m,hm,rfl,-,-,hl,hmax,hlen,hel,-,-⟩
 ·exact ⟨[],_,[],rfl,Arr.nil,Under.nil _⟩
 ·obtain rfl:n=m:=by omega
  by_cases h0:len=0
  ·subst h0
   exact ⟨[],_,[],rfl,⟨_,_,rfl,hl,hmax,.inl ⟨rfl,rfl⟩⟩,Under.nil _⟩
  ·have get:∀ i,i<len→∃ ds y,(∀ j,j<k→w.cell? (a.add (i*k+j))=ds[j]?)∧ds.length=k∧DataW.trod enc P w base spare held n e ds=some y:=fun i hi=>by
    have h1:=hel i hi
    rw [List.getElem?_eq_getElem (by omega),Option.bind_eq_some_iff] at h1
    obtain ⟨ds,h2,h3⟩:=h1
    obtain ⟨-,h4,h5⟩:=World.cells?_some h2
    rw [hk] at h4 h5
    refine ⟨ds,_,fun j hj=>?_,h4,h3⟩
    rw [←h5 j hj]
    congr 1
    unfold Addr.add
    by_cases e1:i*k=0 <;> by_cases e2:j=0 <;> simp [e1,e2,Nat.add_assoc]
   obtain ⟨b,off,spot⟩:=a
   obtain ⟨ds0,y0,g1,g2,-⟩:=get 0 (by omega)
   have hc0:w.cell? ⟨b,off,spot⟩=some (ds0[0]'(by omega)):=by
    have:=g1 0 hk0
    simpa [Addr.add,List.getElem?_eq_getElem (show 0<ds0.length by omega)] using this
   have hspot:spot=none:=by simpa using World.cell?_spot hc0
   subst hspot
   have hb:b<w.heap.size:=cell_lt hc0
   have key:∀ m,m≤len→∃ (xs:List α) (cs:List Value) (F:List Nat),xs.length=m∧cs.length=m*k∧CellsAt w b off cs∧Flat R xs cs F∧Under w F:=by
    intro m
    induction m with
    |zero=>intro _;exact ⟨[],[],[],rfl,by simp,fun j u hj=>by simp at hj,⟨rfl,rfl⟩,Under.nil _⟩
    |succ m ih =>
     intro hm
     obtain ⟨xs,cs,F,h1,h2,h3,h4,h5⟩:=ih (by omega)
     obtain ⟨ds,y,g1,g2,g3⟩:=get m (by omega)
     obtain ⟨z,G,r1,r2⟩:=hR ds y g3 g2
     refine ⟨xs ++ [z],cs ++ ds,F ++ G,by simp [h1],by simp [h2,g2,Nat.add_mul],h3.append (fun j u hj=>?_),h4.append (Flat.one r1),fun c hc=>?_⟩
     ·have hjk:j<k:=by rw [←g2];exact (List.getElem?_eq_some_iff.1 hj).1
      have:=g1 j hjk
      rw [hj,Addr.add_lit] at this
      rw [h2,←this]
      congr 2
      omega
     ·rcases List.mem_append.1 hc with hc | hc
      ·exact h5 c hc
      ·exact r2 c hc
   obtain ⟨xs,cs,F,h1,h2,h3,h4,h5⟩:=key len (zz8 _)
   refine ⟨xs,_,b :: F,rfl,⟨_,_,by rw [h1],by omega,hmax,.inr ⟨b,off,cs,F,rfl,h3,h4,rfl⟩⟩,fun c hc=>?_⟩
   rcases List.mem_cons.1 hc with rfl | hc
   ·exact hb
   ·exact h5 c hc
theorem open_slice_arg {α:Type} (R:α→List Value→List Nat→Prop) {t e:TypeId} {k:Nat} {r:Reach} {b0:Nat} {v:Value} {d:DataW H} {ps:List MemPlace} (ht:P.underlying t=some (.slice e)) (hk:P.cellsOf e=k) (hk0:0<k)
  (hR:∀ n ds y,DataW.trod enc P w base spare held n e ds=some y→∃ a F,R a ds F∧Under w F)
  (hval:Value.okWide P w r b0 t v) (h:DataW.Trod enc P w base spare held t v d ps):∃ xs F,Arr w R xs v F∧Under w F:=by
 obtain ⟨a,len,cap,rfl⟩:=okWide_slice ht hval
 obtain ⟨fuel,hf⟩:=h
 cases fuel with
 |zero=>simp [DataW.trod] at hf
 |succ n =>
  obtain ⟨xs,v,F,hv,ha,hF⟩:=open_Arr R ht hk hk0 rfl (fun ds y hd _=>hR n ds y hd) hf
  have:v=.slice a len cap:=by simpa [Value.cells] using hv.symm
  subst this
  exact ⟨xs,F,ha,hF⟩
end
end Go.Proofs.YtghekinfoadcoaaGreat
namespace Go.Proofs.YtghekinfoadcoaaGreat
open Go.ChangeShapes Go.WideShapes Go.ChangeAt Go.RowKit
set_option maxRecDepth 100000
theorem cellsOf_u8:Tryz.prog.cellsOf 5=1:=by kernel_rfl
theorem open_By_cells {H:Type} {enc:TypeId×Value→H} {w:World} {base:Nat} {spare:Nat→Bool} {held:Bool} (fuel:Nat) (cs:List Value) (x:DataW H×List MemPlace)
  (h:DataW.trod enc Tryz.prog w base spare held fuel 5 cs=some x):∃ v F,ByR w v cs F∧Under w F:=by
 cases fuel with
 |zero=>simp [DataW.trod] at h
 |succ n =>
 obtain ⟨i0,e0,-,e2⟩:=DataW.trod_int Tryz.underlying5 h
 have hw:IntKind.u8.min≤i0∧i0≤IntKind.u8.max:=by simpa [Lit.wf] using e2
 have h0:IntKind.u8.min=0:=rfl
 have h1:IntKind.u8.max=255:=rfl
 exact ⟨i0,[],⟨e0,rfl,by omega,by omega⟩,Under.nil _⟩
theorem open_Bytes {H:Type} {enc:TypeId×Value→H} {w:World} {base:Nat} {spare:Nat→Bool} {held:Bool} {r:Reach} {b0:Nat} {v:Value} {d:DataW H} {ps:List MemPlace} (hval:Value.okWide Tryz.prog w r b0 58 v)
  (h:DataW.Trod enc Tryz.prog w base spare held 58 v d ps):∃ (x:List Int) (F:List Nat),Arr w (ByR w) x v F∧Under w F :=
 open_slice_arg (ByR w) Tryz.underlying58 cellsOf_u8 (by decide) (fun n ds y hd=>open_By_cells n ds y hd) hval h
end Go.Proofs.YtghekinfoadcoaaGreat
