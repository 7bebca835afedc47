/-
  Lemmas, and contracts of functions. Conditions: none.
-/
import Derived.Test.YtghekinfoadcoaaGreatKAQ
import Derived.Test.YtghekinfoadcoaaGreatKAN
import Derived.Test.YtghekinfoadcoaaGreatKAP
import Derived.Test.YtghekinfoadcoaaGreatKAH
import Derived.Test.YtghekinfoadcoaaGreatKAB
import Derived.Deep.RegionHeld3
import Derived.Deep.RegionWith
import Derived.Deep.QuietTactic
import Derived.BigQuiet
import Derived.IntWalk

set_option linter.unusedVariables false
set_option linter.unusedSimpArgs false
set_option maxRecDepth 100000
set_option maxHeartbeats 1600000

namespace Go.Proofs.YtghekinfoadcoaaGreat
open Go.RowKit
theorem sortB_perm2 {l:List Bd} (hn:(l.map Bd.var).Nodup) (h0:∀ b∈l,0≤b.var∧b.var≤5):(sortB l).Perm l:=by
 have hp:=List.mergeSort_perm l (fun a b=>decide (a.var≤b.var))
 have hs:(l.mergeSort (fun a b=>decide (a.var≤b.var))).Pairwise (fun a b=>a.var≤b.var) :=
  (List.pairwise_mergeSort (le:=fun a b=>decide (a.var≤b.var)) (fun a b c h1 h2=>by simp at *;omega) (fun a b=>by simp;omega) l).imp fun h=>by simpa using h
 rw [←sorted_is hp hs hn h0]
 exact hp
def HasVt (xs:List Dt) (vs:List Vt) (e:Nat) (b:Bd):Prop:=∃ u∈vs,u.var=b.var∧∃ e',e'≤e∧fitsV xs e' u.ty b.val=true
theorem mats_typed (xs:List Dt) (f:Ty→P→List Vt) (e:Nat):∀ (ks:List P) (ts:List Ty) (vs:List V) (l:List Bd),ks.length=ts.length→(∀ (i:Nat) (h1:i<ts.length) (h2:i<ks.length) (h3:i<vs.length) (l:List Bd),P.mat ks[i] vs[i]=some l→∀ b∈l,HasVt xs (f ts[i] ks[i]) e b)→P.mats ks vs=some l→∀ b∈l,HasVt xs ((ts.zip ks).flatMap fun x=>f x.1 x.2) e b
 |[],ts,vs,l,_,_,h,b,hb=>by rw [mats_nil] at h;cases h;cases hb
 |k :: ks,[],vs,l,hl,_,_,_,_=>by simp at hl
 |k :: ks,t :: ts,[],l,_,_,h,_,_=>by cases h
 |k :: ks,t :: ts,v :: vs,l,hl,hk,h,b,hb=>by
  rw [P.mats] at h
  cases hm:P.mat k v with
  |none=>rw [hm] at h;cases h
  |some a =>
   rw [hm] at h
   cases hn:P.mats ks vs with
   |none=>rw [hn] at h;cases h
   |some c =>
    rw [hn] at h
    cases h
    rw [List.zip_cons_cons,List.flatMap_cons]
    rcases List.mem_append.1 hb with hb | hb
    ·obtain ⟨u,hu,r⟩:=hk 0 (by simp) (by simp) (by simp) a hm b hb
     exact ⟨u,List.mem_append.2 (.inl hu),r⟩
    ·obtain ⟨u,hu,r⟩:=mats_typed xs f e ks ts vs c (by simpa using hl) (fun i h1 h2 h3 l hh=>hk (i+1) (by simp;omega) (by simp;omega) (by simp;omega) l hh) hn b hb
     exact ⟨u,List.mem_append.2 (.inr hu),r⟩
theorem alike_typed {a b:List Vt} (h:alikeB a b=true) (ha:(a.map Vt.var).Nodup) (hb:(b.map Vt.var).Nodup):∀ u∈b,u∈a:=fun u hu=>by
 obtain ⟨q1,q2⟩:=alike_sub h
 have h1:=nodup_sub _ _ ha q2 (by rw [List.length_map,List.length_map];omega) u.var (List.mem_map_of_mem hu)
 obtain ⟨u0,hu0,e⟩:=List.mem_map.1 h1
 unfold alikeB at h
 rw [Bool.and_eq_true,List.all_eq_true] at h
 have h2:=h.1 u0 hu0
 rw [e,find_of_nodup hb hu] at h2
 simp only [Bool.and_eq_true,beq_iff_eq] at h2
 obtain ⟨v0,⟨d0,i0⟩⟩:=u0
 obtain ⟨v1,⟨d1,i1⟩⟩:=u
 simp only at h2 e
 obtain ⟨rfl,rfl⟩:=h2
 subst e
 exact hu0
theorem mat_typed (xs:List Dt):∀ (d:Nat) (t:Ty) (p:P) (v:V) (l:List Bd) (e:Nat),shapeB xs d t p=true→linB xs d t p=true→fitsV xs e t v=true→P.mat p v=some l→∀ b∈l,HasVt xs (varsN xs d t p) e b
 |0,t,p,v,l,e,hs,hl,hf,h=>by cases hs
 |d+1,t,p,v,l,e,hs,hl,hf,h=>by
  intro b hb
  obtain ⟨ho,hlen,hks⟩:=shape_parts2 hs
  have hlk:∀ (i:Nat) (h1:i<(typesP xs t p).length) (h2:i<p.ks.length),linB xs d (typesP xs t p)[i] p.ks[i]=true:=fun i h1 h2=>by
   rw [linB_def,Bool.and_eq_true,List.all_eq_true] at hl
   exact hl.1 ((typesP xs t p)[i],p.ks[i]) (List.mem_iff_getElem.2 ⟨i,by simp;omega,by simp⟩)
  rw [varsN_def]
  rcases ops_of2 ho with h1 | h2 | h3 | h4 | h5 | h6
  ·rw [mat_1 h1] at h;cases h;cases hb
  ·rw [mat_2 h2] at h
   cases h
   rw [zy1] at hb
   subst hb
   rw [show namedB p=true by unfold namedB;simp [h2]]
   exact ⟨⟨p.va,t⟩,by simp,rfl,e,zz8 _,hf⟩
  ·rw [mat_3 h3] at h
   split at h
   ·cases h;cases hb
   ·cases h
  ·rw [mat_4 h4] at h
   split at h
   ·rename_i hc
    have hk:hasB (ctorsL xs t) p.ct=true:=by
     unfold ownB kindB at ho
     rw [if_neg (show ¬p.op=3 by omega),if_pos h4] at ho
     simp only [Bool.and_eq_true] at ho
     exact ho.2.2.2
    have hd:¬t.d = -1:=fun hd=>by
     unfold ctorsL at hk
     rw [if_pos hd] at hk
     cases hk
    cases e with
    |zero=>cases hf
    |succ e =>
     rw [fitsV_data hd] at hf
     simp only [Bool.and_eq_true,decide_eq_true_iff] at hf
     obtain ⟨-,-,h5,h6⟩:=hf
     rw [hc] at h5 h6
     have hty:typesP xs t p=argsOf xs t p.ct:=by unfold typesP;rw [if_pos h4]
     have e3:kidsV xs t p=(typesP xs t p).zip p.ks:=by
      unfold kidsV
      rw [if_neg (show ¬p.op=5 by omega)]
      exact List.take_of_length_le (by rw [List.length_zip];omega)
     rw [e3]
     obtain ⟨u,hu,hv,e',he,r⟩:=mats_typed xs (varsN xs d) e p.ks (typesP xs t p) v.ks l hlen (fun i q1 q2 q3 l hm=>mat_typed xs d _ _ _ l e (hks i q1 q2) (hlk i q1 q2) (by
      have:=zipAll_nth2 h6 i (by rw [←hty];exact q1) q3
      simp only [hty]
      exact this) hm) h b hb
     exact ⟨u,List.mem_append.2 (.inr hu),hv,e',by omega,r⟩
   ·cases h
  ·have hty:=zAY (xs:=xs) (t:=t) h5
   have hl2:p.ks.length=2:=by rw [hlen,hty];rfl
   obtain ⟨k0,k1,hk⟩:=kids_two hl2
   have hs0:=hks 0 (by rw [hty];simp) (by omega)
   have hs1:=hks 1 (by rw [hty];simp) (by omega)
   have hl0:=hlk 0 (by rw [hty];simp) (by omega)
   have hl1:=hlk 1 (by rw [hty];simp) (by omega)
   simp only [hty,hk,zz2,zz3] at hs0 hs1 hl0 hl1
   rw [mat_5 h5 hk] at h
   have e1:kidsV xs t p=[(t,k0)]:=by unfold kidsV;rw [if_pos h5,hty,hk];rfl
   rw [e1]
   have e2:∀ X:List Vt,X ++ [(t,k0)].flatMap (fun x=>varsN xs d x.1 x.2)=X ++ varsN xs d t k0:=fun X=>by simp
   rw [e2]
   cases hm:P.mat k0 v with
   |some a =>
    rw [hm] at h;cases h
    obtain ⟨u,hu,r⟩:=mat_typed xs d t k0 v _ e hs0 hl0 hf hm b hb
    exact ⟨u,List.mem_append.2 (.inr hu),r⟩
   |none =>
    rw [hm] at h
    obtain ⟨u,hu,r⟩:=mat_typed xs d t k1 v l e hs1 hl1 hf h b hb
    have hal:alikeB (varsN xs d t k0) (varsN xs d t k1)=true:=by
     rw [linB_def,Bool.and_eq_true,if_pos h5,hk] at hl
     exact hl.2
    have d0:=lin_dup xs d t k0 hs0 hl0
    have d1:=lin_dup xs d t k1 hs1 hl1
    unfold dupFree at d0 d1
    rw [decide_eq_true_iff] at d0 d1
    exact ⟨u,List.mem_append.2 (.inr (alike_typed hal d0 d1 u hu)),r⟩
  ·have hty:=typesP_as (xs:=xs) (t:=t) h6
   have hl1:p.ks.length=1:=by rw [hlen,hty];rfl
   obtain ⟨k0,hk⟩:∃ k0,p.ks=[k0]:=List.length_eq_one_iff.1 hl1
   have hs0:=hks 0 (by rw [hty];simp) (by omega)
   have hl0:=hlk 0 (by rw [hty];simp) (by omega)
   simp only [hty,hk,zz2] at hs0 hl0
   rw [mat_6 h6 hk] at h
   have e1:kidsV xs t p=[(t,k0)]:=by unfold kidsV;rw [if_neg (by omega),hty,hk];rfl
   rw [show namedB p=true by unfold namedB;simp [h6],e1]
   cases hm:P.mat k0 v with
   |none=>rw [hm] at h;cases h
   |some a =>
    rw [hm] at h
    cases h
    rcases List.mem_cons.1 hb with hb | hb
    ·subst hb
     exact ⟨⟨p.va,t⟩,by simp,rfl,e,zz8 _,hf⟩
    ·obtain ⟨u,hu,r⟩:=mat_typed xs d t k0 v a e hs0 hl0 hf hm b hb
     exact ⟨u,by simp [hu],r⟩
theorem fits_up (xs:List Dt) {a b:Nat} (h:a≤b) (t:Ty) (v:V) (hf:fitsV xs a t v=true):fitsV xs b t v=true:=by
 induction b with
 |zero =>
  obtain rfl:a=0:=by omega
  exact hf
 |succ b ih =>
  rcases Nat.lt_or_ge b a with g | g
  ·obtain rfl:a=b+1:=by omega
   exact hf
  ·exact fitsV_more _ _ _ _ (ih g)
structure MatchVars (xs:List Dt) (v:V) (vs:List Vt) (l:List Bd):Prop where
 small:∀ b∈l,b.val.size≤v.size
 len:l.length=vs.length
 found:∀ u∈vs,(l.any fun b=>b.var==u.var && valueValidB xs u.ty b.val)=true
theorem match_vars {xs:List Dt} {t:Ty} {p:P} {v:V} (h:matchB xs t p v=true):MatchVars xs v (patternVarsL xs t p) (matchV xs t p v):=by
 have h0:=h
 unfold matchB at h
 rw [Bool.and_eq_true,Bool.and_eq_true] at h
 obtain ⟨hp,hv,hs⟩:=h
 have hpv:patternVarsL xs t p=varsN xs 10 t p:=by unfold patternVarsL;rw [if_pos hp]
 have htv:typeValidB xs t=true:=by unfold patternValidB at hp;rw [Bool.and_eq_true] at hp;exact hp.1
 have hp2:=hp
 unfold patternValidB patOkB at hp2
 simp only [Bool.and_eq_true] at hp2
 obtain ⟨-,hsh,-,hli⟩:=hp2
 obtain ⟨l,hm⟩:=Option.isSome_iff_exists.1 hs
 have hmv:matchV xs t p v=sortB l:=by unfold matchV;rw [if_pos h0,hm];rfl
 obtain ⟨q1,q2,q3⟩:=mat_six (vars_range xs 10 t p hsh) hsh hli hm
 have hperm:=sortB_perm2 q1 q2
 have hvo:=mat_vars xs 10 t p v l hsh hli hm
 have hdup:=lin_dup xs 10 t p hsh hli
 unfold dupFree at hdup
 rw [decide_eq_true_iff] at hdup
 unfold valueOkB at hv
 rw [Bool.and_eq_true,decide_eq_true_iff] at hv
 rw [hpv,hmv]
 have hlen:l.length=(varsN xs 10 t p).length:=by
  have h1:(l.map Bd.var).Perm ((varsN xs 10 t p).map Vt.var):=(List.perm_ext_iff_of_nodup hvo.1 hdup).2 hvo.2
  have:=h1.length_eq
  rwa [List.length_map,List.length_map] at this
 refine ⟨fun b hb=>mat_small p v l hm b (hperm.mem_iff.1 hb),by rw [hperm.length_eq,hlen],fun u hu=>?_⟩
 rw [List.any_eq_true]
 have h1:=(hvo.2 u.var).2 (List.mem_map_of_mem hu)
 obtain ⟨b,hb,hbv⟩:=List.mem_map.1 h1
 obtain ⟨u',hu',e1,e',he,hf⟩:=mat_typed xs 10 t p v l 10 hsh hli hv.1 hm b hb
 have e2:u'=u:=by
  have f1:=find_of_nodup hdup hu
  have f2:=find_of_nodup hdup hu'
  rw [show u'.var=u.var by rw [e1,hbv],f1] at f2
  exact (Option.some.inj f2).symm
 subst e2
 refine ⟨b,hperm.mem_iff.2 hb,?_⟩
 have hn:nodes b.val≤60:=by
  have:=mat_small p v l hm b hb
  have:=hv.2
  unfold nodes at *
  omega
 unfold valueValidB valueOkB
 rw [vars_valid2 10 t p htv hsh u' hu,fits_up xs he _ _ hf]
 simp [hbv,hn]
def foundTo (xs:List Dt) (u:Vt) (bs:List Bd) (k:Nat):Bool:=(bs.take k).any fun b=>b.var==u.var && valueValidB xs u.ty b.val
theorem foundTo_zero (xs:List Dt) (u:Vt) (bs:List Bd):foundTo xs u bs 0=false:=rfl
theorem foundTo_succ (xs:List Dt) (u:Vt) (bs:List Bd) (k:Nat) (h:k<bs.length):foundTo xs u bs (k+1)=(foundTo xs u bs k || (bs[k].var==u.var && valueValidB xs u.ty bs[k].val)):=by
 unfold foundTo
 rw [take_snoc' bs k h,List.any_append]
 simp
theorem foundTo_all (xs:List Dt) (u:Vt) (bs:List Bd) {k:Nat} (h:bs.length≤k):foundTo xs u bs k=bs.any fun b=>b.var==u.var && valueValidB xs u.ty b.val:=by unfold foundTo;rw [List.take_of_length_le h]
theorem impl_PatternVars (xs:List Dt) (t:Ty) (p:P) (w:World) (x:Value) (F:List Nat) (cs:List Value) (G:List Nat):Arr w (DtR w) xs x F→Under w.heap.size F→PR w p cs G→Under w.heap.size G →
  Calls Tryz.prog 31 #[x,.agg #[.int .i64 t.d,.int .i64 t.i],.agg cs.toArray] w (MadeArr VtR w (patternVarsL xs t p)):=by
 intro hx hf hv hg
 obtain ⟨kv,rfl,ha⟩:=(zA9 _ _ _).1 hv
 obtain ⟨A,cap,rfl,hc1,hc2⟩:=hx.form
 obtain ⟨A4,cap4,rfl,hc3,hc4⟩:=ha.form
 have HV:=jj hv
 have HX:=jj hx
 have HF:=jj hf
 have HA:=jj ha
 have HG:=jj hg
 clear hx hf ha hg
 clear hv
 go_enter Tryz.func31,Tryz.ntmps31
 go_wp2_with fail
 obtain ⟨W2,hW2⟩:∃ W2,W2=((w.alloc (.cells #[.int .i64 t.d,.int .i64 t.i] 39)).alloc (.cells #[.int .i64 p.op,.int .i64 p.ct,.int .i64 p.n,.int .i64 p.m,.int .i64 p.va,.slice A4 p.ks.length cap4] 43)):=⟨_,rfl⟩
 have hB0:Below w.heap.size w W2:=by rw [hW2];exact ((zy2 _ _).alloc (zz8 _) _).alloc (by simp) _
 have KT:Hid (Blk W2 w.heap.size 39 #[.int .i64 t.d,.int .i64 t.i]):=by rw [hW2];exact (Blk.new w _ _).same (Below.heap_alloc _ _ _ (by simp))
 have KP:Hid (Blk W2 (w.heap.size+1) 43 #[.int .i64 p.op,.int .i64 p.ct,.int .i64 p.n,.int .i64 p.m,.int .i64 p.va,.slice A4 p.ks.length cap4]):=by rw [hW2];have h:=Blk.new (w.alloc (.cells #[.int .i64 t.d,.int .i64 t.i] 39)) 43 #[.int .i64 p.op,.int .i64 p.ct,.int .i64 p.n,.int .i64 p.m,.int .i64 p.va,.slice A4 p.ks.length cap4];rw [World.size_alloc] at h;exact h
 have hws:w.heap.size+2≤W2.heap.size:=by rw [hW2];simp
 have hws2:W2.heap.size=w.heap.size+1+1:=by rw [hW2];simp
 rw [←hW2]
 clear hW2
 obtain ⟨y0,y1,klt⟩:=KT.out.c2
 obtain ⟨z0,z1,z2,z3,z4,z5,klt2⟩:=KP.out.c6
 refine (impl_TypeValid xs t W2 _ F (ArrDt.below HX.out hB0 HF.out) (HF.out.mono hB0.size)).mono ?_
 rintro e w3 ⟨rfl,hb3⟩
 have hB3:=hB0.trans (hb3.mono hB0.size)
 have KT3:=jj (KT.out.same (hb3.block _ KT.out.lt))
 have KP3:=jj (KP.out.same (hb3.block _ KP.out.lt))
 clear y0 y1 z0 z1 z2 z3 z4 z5 klt klt2
 obtain ⟨y0,y1,klt⟩:=KT3.out.c2
 obtain ⟨z0,z1,z2,z3,z4,z5,klt2⟩:=KP3.out.c6
 clear hb3 KT KP
 cases e1:typeValidB xs t with
 |false =>
  have hf:Hid (patternVarsL xs t p=[]):=by unfold Hid patternVarsL patternValidB;rw [e1];rfl
  have HFin:Hid (MadeArr VtR w (patternVarsL xs t p) (.returned (.slice none 0 0)) w3):=by rw [hf.out];exact ⟨_,[],rfl,hB3,Arr.nil,Free.nil _,Fresh.nil _ _⟩
  clear e1
  go_wp2
  go_ret
  exact HFin.out
 |true =>
  obtain ⟨hw,hto⟩:=zAL e1
  have HW:=jj hw
  have HT:=jj (zAX hto)
  have HE1:=jj e1
  clear e1 hw hto
  go_wp2_with fail
  refine (impl_patternVars xs HW.out t HT.out p w3 _ F _ G (ArrDt.below HX.out hB3 HF.out) (HF.out.mono hB3.size) (HV.out.below hB3 HG.out) (HG.out.mono hB3.size)).mono ?_
  rintro e w4 ⟨v4,F4,rfl,hb4,hy,hn⟩
  have hB4:=hB3.trans (hb4.mono hB3.size)
  have HFin:Hid (MadeArr VtR w (patternVarsL xs t p) (.returned v4) w4):=by
   unfold Hid patternVarsL patternValidB
   rw [HE1.out,Bool.true_and]
   cases h:patOkB xs t p with
   |false=>rw [hn h];exact ⟨_,[],rfl,hB4,Arr.nil,Free.nil _,Fresh.nil _ _⟩
   |true=>exact ⟨v4,F4,rfl,hB4,(hy h).1,(hy h).2.1,fun b hb=>⟨Nat.le_trans hB3.size ((hy h).2.2 b hb).1,((hy h).2.2 b hb).2⟩⟩
  generalize patOkB xs t p=bb at *
  clear hb4 hy hn
  go_wp2
  go_ret
  exact HFin.out
end Go.Proofs.YtghekinfoadcoaaGreat
