/-
  Lemmas, and contracts of functions. Conditions: none.
-/
import Derived.Test.YtghekinfoadcoaaGreatKAB
import Derived.Test.YtghekinfoadcoaaGreatKAH
import Derived.Test.YtghekinfoadcoaaGreatKAG
import Derived.Test.YtghekinfoadcoaaGreatKAF
import Derived.Test.YtghekinfoadcoaaGreatKAM
import Derived.Test.YtghekinfoadcoaaGreatKAA
import Derived.ProofKit
import Derived.ChangeArms
import Derived.Deep.Fields
import Derived.Test.YtghekinfoadcoaaGreatKAC
import Derived.Test.YtghekinfoadcoaaGreatChecked

set_option linter.unusedVariables false
set_option linter.unusedSimpArgs false
set_option maxRecDepth 100000
set_option maxHeartbeats 1600000

namespace Go.Proofs.YtghekinfoadcoaaGreat
open Go.RowKit
theorem argTy_ok {n:Int} {a:Ty} {r:Int} (h:argOkB n a=true) (h0:0≤r) (h3:r≤3):typeOkB n (argTy r a)=true:=by
 unfold argOkB at h
 cases hi:(a.i == -1) with
 |true =>
  rw [argTy_yes hi]
  rw [beq_iff_eq] at hi
  split at h
  ·rw [beq_iff_eq] at h;omega
  ·rename_i hd
   rw [Bool.and_eq_true] at h
   unfold typeOkB
   rw [if_neg hd,h.1,Bool.true_and,zAF]
   exact ⟨h0,h3⟩
 |false =>
  rw [argTy_no hi]
  rw [beq_eq_false_iff_ne] at hi
  unfold typeOkB
  split at h
  ·rename_i hd
   rw [if_pos hd];exact h
  ·rename_i hd
   rw [Bool.and_eq_true,zAF a.i] at h
   rw [if_neg hd,h.1,Bool.true_and,zAF]
   omega
theorem resIdx_range {n:Nat} {c:Kt} (hc:KtOk n c) {i:Int} (h0:0≤i) (h3:i≤3):0≤resIdx c i∧resIdx c i≤3:=by
 unfold resIdx
 split
 ·exact ⟨h0,h3⟩
 ·exact ⟨hc.lo,hc.hi⟩
theorem typeOkB_data {n:Int} {t:Ty} (h:typeOkB n t=true) (hd:¬t.d = -1):0≤t.i∧t.i≤3:=by
 unfold typeOkB at h
 rw [if_neg hd,Bool.and_eq_true] at h
 exact (zAF _ _ _).1 h.2
theorem ctorsOfL_at {xs:List Dt} {t:Ty} {k:Int} (h:hasB (ctorsOfL xs t) k=true):typeValidB xs t=true∧WorldOK xs∧∃ (d m:Nat) (hd:d<xs.length) (hm:m<xs[d].ctors.length),t.d=(d:Int)∧k=(m:Int)∧argTypesL xs t k=argsL xs[d].ctors[m] t.i∧0≤t.i∧t.i≤3:=by
 obtain ⟨e,hw,d,m,hd,h1,h2,hm⟩:=argTypesL_yes h
 have hv:typeValidB xs t=true:=by
  rw [hasB_iff] at h
  unfold ctorsOfL at h
  split at h
  ·assumption
  ·cases h
 obtain ⟨-,hto⟩:=zAL hv
 have hi:=typeOkB_data hto (by omega)
 refine ⟨hv,hw,d,m,hd,hm,h1,h2,?_,hi⟩
 obtain ⟨t1,t2⟩:=t
 simp only at h1
 subst h1 h2
 rw [e,zAU hd hm]
theorem argTypesL_valid {xs:List Dt} {t:Ty} {k:Int} {a:Ty} (ha:a∈argTypesL xs t k):typeValidB xs a=true:=by
 cases h:hasB (ctorsOfL xs t) k with
 |false=>rw [argTypesL_no h] at ha;cases ha
 |true =>
  obtain ⟨hv,hw,d,m,hd,hm,h1,h2,e,h0,h3⟩:=ctorsOfL_at h
  rw [e] at ha
  obtain ⟨b,hb,rfl⟩:=List.mem_map.1 ha
  have hr:=resIdx_range (hw.ctor hd hm) h0 h3
  unfold typeValidB at hv ⊢
  rw [Bool.and_eq_true] at hv ⊢
  exact ⟨hv.1,argTy_ok ((hw.ctor hd hm).all b hb) hr.1 hr.2⟩
theorem typesP_valid2 {xs:List Dt} {t:Ty} (h:typeValidB xs t=true) {p:P} (ho:ownB xs t p=true):∀ a∈typesP xs t p,typeValidB xs a=true:=fun a ha=>by
 by_cases h4:p.op=4
 ·unfold typesP at ha
  rw [if_pos h4] at ha
  have hc:=ownB_ctor h4 ho
  have e1:ctorsOfL xs t=ctorsL xs t:=by unfold ctorsOfL;rw [if_pos h]
  have e2:hasB (ctorsOfL xs t) p.ct=true:=by rw [e1];exact (hasB_iff _ _).2 hc
  have e3:argTypesL xs t p.ct=argsOf xs t p.ct:=by unfold argTypesL;rw [if_pos e2]
  exact argTypesL_valid (t:=t) (k:=p.ct) (by rw [e3];exact ha)
 ·rw [zBK h4] at ha
  have:=List.eq_of_mem_replicate ha
  rw [this];exact h
theorem vars_valid2 {xs:List Dt}:∀ (d:Nat) (t:Ty) (p:P),typeValidB xs t=true→shapeB xs d t p=true→∀ u∈varsN xs d t p,typeValidB xs u.ty=true
 |0,_,_,_,h,_,_=>by simp [shapeB] at h
 |d+1,t,p,ht,hs,u,hu=>by
  have e:varsN xs (d+1) t p=(if namedB p=true then [⟨p.va,t⟩] else []) ++ (kidsV xs t p).flatMap fun x=>varsN xs d x.1 x.2:=rfl
  rw [e,List.mem_append] at hu
  simp only [shapeB,Bool.and_eq_true] at hs
  rcases hu with hu | hu
  ·split at hu
   ·rw [zy1] at hu
    rw [hu];exact ht
   ·cases hu
  ·rw [List.mem_flatMap] at hu
   obtain ⟨x,hx,hu⟩:=hu
   have hx2:x∈(typesP xs t p).zip p.ks:=List.mem_of_mem_take hx
   have h1:=List.all_eq_true.1 hs.2.2 x hx2
   exact vars_valid2 d x.1 x.2 (typesP_valid2 ht hs.1 _ (List.of_mem_zip hx2).1) h1 u hu
theorem flatMap_eq2 {α β:Type} {f g:α→List β}:∀ {l:List α},(∀ a∈l,f a=g a)→l.flatMap f=l.flatMap g
 |[],_=>rfl
 |a :: l,h=>by rw [List.flatMap_cons,List.flatMap_cons,h a (by simp),flatMap_eq2 fun b hb=>h b (by simp [hb])]
theorem shapeB_def (xs:List Dt) (d:Nat) (t:Ty) (p:P):shapeB xs (d+1) t p=(ownB xs t p && (p.ks.length==(typesP xs t p).length && ((typesP xs t p).zip p.ks).all fun x=>shapeB xs d x.1 x.2)):=rfl
theorem linB_def (xs:List Dt) (d:Nat) (t:Ty) (p:P):linB xs (d+1) t p=((((typesP xs t p).zip p.ks).all fun x=>linB xs d x.1 x.2) && (if p.op=5 then (match p.ks with | [k0,k1]=>alikeB (varsN xs d t k0) (varsN xs d t k1) | _=>true) else dupFree (varsN xs (d+1) t p))):=rfl
theorem varsN_def (xs:List Dt) (d:Nat) (t:Ty) (p:P):varsN xs (d+1) t p=(if namedB p=true then [⟨p.va,t⟩] else []) ++ (kidsV xs t p).flatMap fun x=>varsN xs d x.1 x.2:=rfl
theorem shape_more (xs:List Dt):∀ (d:Nat) (t:Ty) (p:P),shapeB xs d t p=true→shapeB xs (d+1) t p=true
 |0,_,_,h=>by cases h
 |d+1,t,p,h=>by
  rw [shapeB_def,Bool.and_eq_true,Bool.and_eq_true,List.all_eq_true] at h ⊢
  exact ⟨h.1,h.2.1,fun x hx=>shape_more xs d _ _ (h.2.2 x hx)⟩
theorem vars_more (xs:List Dt):∀ (d:Nat) (t:Ty) (p:P),shapeB xs d t p=true→varsN xs (d+1) t p=varsN xs d t p
 |0,_,_,h=>by cases h
 |d+1,t,p,h=>by
  rw [shapeB_def,Bool.and_eq_true,Bool.and_eq_true,List.all_eq_true] at h
  rw [varsN_def,varsN_def xs d]
  congr 1
  exact flatMap_eq2 fun x hx=>vars_more xs d _ _ (h.2.2 x (List.mem_of_mem_take hx))
theorem shape_two {xs:List Dt} {d:Nat} {t:Ty} {p:P} {a b:P} (h:shapeB xs (d+1) t p=true) (h5:p.op=5) (hk:p.ks=[a,b]):shapeB xs d t a=true∧shapeB xs d t b=true:=by
 rw [shapeB_def,Bool.and_eq_true,Bool.and_eq_true,zAY h5,hk] at h
 simpa using h.2.2
theorem lin_more (xs:List Dt):∀ (d:Nat) (t:Ty) (p:P),shapeB xs d t p=true→linB xs d t p=true→linB xs (d+1) t p=true
 |0,_,_,h,_=>by cases h
 |d+1,t,p,h,hl=>by
  have hs:=h
  rw [shapeB_def,Bool.and_eq_true,Bool.and_eq_true,List.all_eq_true] at h
  rw [linB_def,Bool.and_eq_true,List.all_eq_true] at hl ⊢
  refine ⟨fun x hx=>lin_more xs d _ _ (h.2.2 x hx) (hl.1 x hx),?_⟩
  have h2:=hl.2
  by_cases h5:p.op=5
  ·rw [if_pos h5] at h2 ⊢
   have hl2:p.ks.length=2:=by rw [beq_iff_eq.1 h.2.1,zAY h5];rfl
   obtain ⟨k0,k1,hk⟩:=kids_two hl2
   obtain ⟨s0,s1⟩:=shape_two hs h5 hk
   rw [hk] at h2 ⊢
   simp only at h2 ⊢
   rw [vars_more xs d t k0 s0,vars_more xs d t k1 s1]
   exact h2
  ·rw [if_neg h5] at h2 ⊢
   rw [vars_more xs (d+1) t p hs]
   exact h2
theorem pat_kid {xs:List Dt} {t:Ty} {p:P} (h:patOkB xs t p=true):(typesP xs t p).length=p.ks.length∧∀ (i:Nat) (h1:i<(typesP xs t p).length) (h2:i<p.ks.length),patOkB xs (typesP xs t p)[i] p.ks[i]=true:=by
 unfold patOkB at h
 simp only [Bool.and_eq_true,decide_eq_true_iff] at h
 obtain ⟨hs,hn,hl⟩:=h
 rw [shapeB_def,Bool.and_eq_true,Bool.and_eq_true,List.all_eq_true,beq_iff_eq] at hs
 rw [linB_def,Bool.and_eq_true,List.all_eq_true] at hl
 refine ⟨hs.2.1.symm,fun i h1 h2=>?_⟩
 have hm:((typesP xs t p)[i],p.ks[i])∈(typesP xs t p).zip p.ks:=List.mem_iff_getElem.2 ⟨i,by simp;omega,by simp⟩
 have s1:=hs.2.2 _ hm
 have l1:=hl.1 _ hm
 have n1:=zBM h2
 have n2:=zA6 p
 unfold patOkB
 simp only [Bool.and_eq_true,decide_eq_true_iff]
 exact ⟨shape_more _ _ _ _ s1,by omega,lin_more _ _ _ _ s1 l1⟩
theorem own_of {xs:List Dt} {t:Ty} {p:P} (h:patOkB xs t p=true):ownB xs t p=true:=by
 unfold patOkB at h
 simp only [Bool.and_eq_true] at h
 have hs:=h.1
 rw [shapeB_def,Bool.and_eq_true] at hs
 exact hs.1
theorem valid_kid {xs:List Dt} {t:Ty} {p:P} (h:patternValidB xs t p=true):(typesP xs t p).length=p.ks.length∧∀ (i:Nat) (h1:i<(typesP xs t p).length) (h2:i<p.ks.length),patternValidB xs (typesP xs t p)[i] p.ks[i]=true:=by
 unfold patternValidB at h
 rw [Bool.and_eq_true] at h
 obtain ⟨ht,hp⟩:=h
 obtain ⟨h1,h2⟩:=pat_kid hp
 refine ⟨h1,fun i q1 q2=>?_⟩
 unfold patternValidB
 rw [h2 i q1 q2,typesP_valid2 ht (own_of hp) _ (List.getElem_mem q1)]
 rfl
theorem zipAll_imp {f g:Ty→V→Bool} (h:∀ a k,f a k=true→g a k=true):∀ {ls:List Ty} {ks:List V},zipAll f ls ks=true→zipAll g ls ks=true
 |[],_,_=>by simp [zipAll]
 |_ :: _,[],_=>by simp [zipAll]
 |a :: ls,k :: ks,hz=>by
  rw [zipAll,Bool.and_eq_true] at hz ⊢
  exact ⟨h a k hz.1,zipAll_imp h hz.2⟩
theorem zipAll_nth {f:Ty→V→Bool}:∀ {ls:List Ty} {ks:List V},zipAll f ls ks=true→∀ (i:Nat) (h1:i<ls.length) (h2:i<ks.length),f ls[i] ks[i]=true
 |_ :: _,_ :: _,h,0,_,_=>by rw [zipAll,Bool.and_eq_true] at h;exact h.1
 |_ :: ls,_ :: ks,h,i+1,h1,h2=>by
  rw [zipAll,Bool.and_eq_true] at h
  exact zipAll_nth h.2 i (by simpa using h1) (by simpa using h2)
theorem fitsV_more (xs:List Dt):∀ (d:Nat) (t:Ty) (v:V),fitsV xs d t v=true→fitsV xs (d+1) t v=true
 |0,_,_,h=>by cases h
 |d+1,t,v,h=>by
  by_cases ht:t.d = -1
  ·rw [fitsV_int ht] at h ⊢;exact h
  ·rw [fitsV_data ht] at h ⊢
   simp only [Bool.and_eq_true] at h ⊢
   exact ⟨h.1,h.2.1,h.2.2.1,zipAll_imp (fitsV_more xs d) h.2.2.2⟩
theorem nodes_kid (ks:List V) (i:Nat) (h:i<ks.length):nodes ks[i]≤V.sizes ks:=by
 have:=V.size_lt ks i h
 unfold nodes
 omega
theorem value_parts {xs:List Dt} {t:Ty} {v:V} (h:valueValidB xs t v=true) (hd:¬t.d = -1) :
  (argTypesL xs t v.c).length=v.ks.length∧∀ (i:Nat) (h1:i<(argTypesL xs t v.c).length) (h2:i<v.ks.length),valueValidB xs (argTypesL xs t v.c)[i] v.ks[i]=true:=by
 unfold valueValidB at h
 rw [Bool.and_eq_true] at h
 obtain ⟨hv,ho⟩:=h
 unfold valueOkB at ho
 rw [Bool.and_eq_true,decide_eq_true_iff] at ho
 obtain ⟨hf,hn⟩:=ho
 rw [fitsV_data hd] at hf
 simp only [Bool.and_eq_true,decide_eq_true_iff] at hf
 obtain ⟨-,hk,hl,hz⟩:=hf
 have hk2:hasB (ctorsOfL xs t) v.c=true:=by
  unfold ctorsOfL
  rw [if_pos hv]
  exact hk
 have e:argTypesL xs t v.c=argsOf xs t v.c:=if_pos hk2
 refine ⟨by rw [e,hl],fun i h1 h2=>?_⟩
 have ha:=argTypesL_valid (List.getElem_mem h1)
 unfold valueValidB valueOkB
 rw [ha,Bool.true_and,Bool.and_eq_true,decide_eq_true_iff]
 refine ⟨fitsV_more _ _ _ _ ?_,?_⟩
 ·have:=zipAll_nth hz i (by rw [←e];exact h1) h2
  simp only [e]
  exact this
 ·have h3:=nodes_kid v.ks i h2
  have h4:=zAM v
  omega
theorem match_yes {xs:List Dt} {t:Ty} {p:P} {v:V} (hp:patternValidB xs t p=true) (hv:valueOkB xs t v=true):matchB xs t p v=(P.mat p v).isSome:=by unfold matchB;rw [hp,hv];rfl
theorem valueOk_of {xs:List Dt} {t:Ty} {v:V} (h:valueValidB xs t v=true):valueOkB xs t v=true:=by unfold valueValidB at h;rw [Bool.and_eq_true] at h;exact h.2
structure MatchParts (xs:List Dt) (t:Ty) (p:P) (v:V):Prop where
 len:(argTypesL xs t p.ct).length=p.ks.length
 vlen:v.ks.length=p.ks.length
 each:∀ (i:Nat) (h1:i<(argTypesL xs t p.ct).length) (h2:i<p.ks.length) (h3:i<v.ks.length),matchB xs (argTypesL xs t p.ct)[i] p.ks[i] v.ks[i]=(P.mat p.ks[i] v.ks[i]).isSome
 all:matchB xs t p v=(P.mats p.ks v.ks).isSome
theorem match_parts {xs:List Dt} {t:Ty} {p:P} {v:V} (hp:patternValidB xs t p=true) (hv:valueValidB xs t v=true) (h4:p.op=4) (hc:v.c=p.ct):MatchParts xs t p v:=by
 have hpo:patOkB xs t p=true:=by unfold patternValidB at hp;rw [Bool.and_eq_true] at hp;exact hp.2
 have ho:=own_of hpo
 have hk:hasB (ctorsL xs t) p.ct=true:=by
  unfold ownB kindB at ho
  rw [if_neg (show ¬p.op=3 by omega),if_pos h4] at ho
  simp only [Bool.and_eq_true] at ho
  exact ho.2.2.2
 have hd:¬t.d = -1:=fun hd=>by
  unfold ctorsL at hk
  rw [if_pos hd] at hk
  cases hk
 have hty:typesP xs t p=argsOf xs t p.ct:=by unfold typesP;rw [if_pos h4]
 have htv:typeValidB xs t=true:=by unfold patternValidB at hp;rw [Bool.and_eq_true] at hp;exact hp.1
 have e:argTypesL xs t p.ct=argsOf xs t p.ct:=by
  have hk2:hasB (ctorsOfL xs t) p.ct=true:=by
   unfold ctorsOfL
   rw [if_pos htv]
   exact hk
  exact if_pos hk2
 obtain ⟨v1,v2⟩:=value_parts hv hd
 rw [hc] at v1
 obtain ⟨p1,p2⟩:=valid_kid hp
 rw [hty] at p1
 refine ⟨by rw [e,p1],by rw [←v1,e,p1],fun i h1 h2 h3=>?_,?_⟩
 ·refine match_yes ?_ (valueOk_of ?_)
  ·have:=p2 i (by rw [hty];rw [←e];exact h1) h2
   simp only [hty] at this
   simp only [e]
   exact this
  ·have:=v2 i (by rw [hc];exact h1) h3
   simp only [hc] at this
   exact this
 ·rw [match_yes hp (valueOk_of hv),mat_4 h4,if_pos hc]
def partsTo (ks:List P) (vs:List V) (i:Nat):Bool:=(P.mats (ks.take i) (vs.take i)).isSome
theorem partsTo_zero (ks:List P) (vs:List V):partsTo ks vs 0=true:=by unfold partsTo;rw [List.take_zero,mats_nil];rfl
theorem partsTo_succ {ks:List P} {vs:List V} {i:Nat} (h1:i<ks.length) (h2:i<vs.length):partsTo ks vs (i+1)=(partsTo ks vs i && (P.mat ks[i] vs[i]).isSome):=by
 unfold partsTo
 rw [mats_take h1 h2]
 cases P.mats (ks.take i) (vs.take i) with
 |none=>rfl
 |some a=>cases P.mat ks[i] vs[i] <;> rfl
theorem partsTo_all {ks:List P} {vs:List V} {i:Nat} (h1:ks.length≤i) (h2:vs.length≤i):partsTo ks vs i=(P.mats ks vs).isSome:=by unfold partsTo;rw [List.take_of_length_le h1,List.take_of_length_le h2]
def bothP (p:P):P:=⟨5,0,0,0,0,[p,p]⟩
theorem match_both {xs:List Dt} {t:Ty} {p:P} {v:V} (h:patternValidB xs t (bothP p)=true):matchB xs t (bothP p) v=matchB xs t p v∧matchV xs t (bothP p) v=matchV xs t p v:=by
 have hp:patternValidB xs t p=true:=by
  obtain ⟨h1,h2⟩:=valid_kid h
  have hty:=zAY (xs:=xs) (t:=t) (p:=bothP p) rfl
  have:=h2 0 (by rw [hty];simp) (by show 0<[p,p].length;simp)
  simp only [hty] at this
  exact this
 have hm:P.mat (bothP p) v=P.mat p v:=by
  rw [mat_5 (p:=bothP p) rfl rfl]
  cases P.mat p v <;> rfl
 have e:matchB xs t (bothP p) v=matchB xs t p v:=by unfold matchB;rw [h,hp,hm]
 exact ⟨e,by unfold matchV;rw [e,hm]⟩
end Go.Proofs.YtghekinfoadcoaaGreat
namespace Go.Proofs.YtghekinfoadcoaaGreat
open Go.ChangeShapes Go.WideShapes Go.ChangeAt Go.RowKit
section
variable {H : Type} {enc : TypeId × Value → H} {P : Program} {w : World} {base : Nat} {spare : Nat → Bool} {held : Bool}
theorem cell_lt {w:World} {a:Addr} {v:Value} (h:w.cell? a=some v):a.block<w.heap.size:=by
 rcases Nat.lt_or_ge a.block w.heap.size with hl | hl
 ·exact hl
 ·unfold World.cell? at h
  rw [Array.getElem?_eq_none hl] at h
  cases h
theorem open_Arr {α:Type} (R:α→List Value→List Nat→Prop) {t e:TypeId} {k n fuel:Nat} {cs:List Value} {x:DataW H×List MemPlace} (ht:P.underlying t=some (.slice e)) (hk:P.cellsOf e=k) (hk0:0<k) (hf:fuel=n+1)
  (hR:∀ ds y,DataW.trod enc P w base spare held n e ds=some y→ds.length=k→∃ a F,R a ds F∧Under w.heap.size F)
  (h:DataW.trod enc P w base spare held fuel t cs=some x):∃ xs v F,cs=[v]∧Arr w R xs v F∧Under w.heap.size F:=by
 subst hf
 rcases DataW.trod_slice ht h with ⟨rfl,-⟩ | ⟨a,len,cap,elems,rest,m,hm,rfl,-,-,hl,hmax,hlen,hel,-,-⟩
 ·exact ⟨[],_,[],rfl,Arr.nil,Under.nil _⟩
 ·obtain rfl:n=m:=by omega
  by_cases h0:len=0
  ·subst h0
   exact ⟨[],_,[],rfl,⟨_,_,rfl,hl,hmax,.inl ⟨rfl,rfl⟩⟩,Under.nil _⟩
  ·have get:∀ i,i<len→∃ ds y,(∀ j,j<k→w.cell? (a.add (i*k+j))=ds[j]?)∧ds.length=k∧DataW.trod enc P w base spare held n e ds=some y:=fun i hi=>by
    have h1:=hel i hi
    rw [List.getElem?_eq_getElem (by omega),Option.bind_eq_some_iff] at h1
    obtain ⟨ds,h2,h3⟩:=h1
    obtain ⟨-,h4,h5⟩:=World.cells?_some h2
    rw [hk] at h4 h5
    refine ⟨ds,_,fun j hj=>?_,h4,h3⟩
    rw [←h5 j hj]
    congr 1
    unfold Addr.add
    by_cases e1:i*k=0 <;> by_cases e2:j=0 <;> simp [e1,e2,Nat.add_assoc]
   obtain ⟨b,off,spot⟩:=a
   obtain ⟨ds0,y0,g1,g2,-⟩:=get 0 (by omega)
   have hc0:w.cell? ⟨b,off,spot⟩=some (ds0[0]'(by omega)):=by
    have:=g1 0 hk0
    simpa [Addr.add,List.getElem?_eq_getElem (show 0<ds0.length by omega)] using this
   have hspot:spot=none:=by simpa using World.cell?_spot hc0
   subst hspot
   have hb:b<w.heap.size:=cell_lt hc0
   have key:∀ m,m≤len→∃ (xs:List α) (cs:List Value) (F:List Nat),xs.length=m∧cs.length=m*k∧CellsAt w b off cs∧Flat R xs cs F∧Under w.heap.size F:=by
    intro m
    induction m with
    |zero=>intro _;exact ⟨[],[],[],rfl,by simp,fun j u hj=>by simp at hj,⟨rfl,rfl⟩,Under.nil _⟩
    |succ m ih =>
     intro hm
     obtain ⟨xs,cs,F,h1,h2,h3,h4,h5⟩:=ih (by omega)
     obtain ⟨ds,y,g1,g2,g3⟩:=get m (by omega)
     obtain ⟨z,G,r1,r2⟩:=hR ds y g3 g2
     refine ⟨xs ++ [z],cs ++ ds,F ++ G,by simp [h1],by simp [h2,g2,Nat.add_mul],h3.append (fun j u hj=>?_),h4.append (Flat.one r1),fun c hc=>?_⟩
     ·have hjk:j<k:=by rw [←g2];exact (List.getElem?_eq_some_iff.1 hj).1
      have:=g1 j hjk
      rw [hj,Addr.add_lit] at this
      rw [h2,←this]
      congr 2
      omega
     ·rcases List.mem_append.1 hc with hc | hc
      ·exact h5 c hc
      ·exact r2 c hc
   obtain ⟨xs,cs,F,h1,h2,h3,h4,h5⟩:=key len (zz8 _)
   refine ⟨xs,_,b :: F,rfl,⟨_,_,by rw [h1],by omega,hmax,.inr ⟨b,off,cs,F,rfl,h3,h4,rfl⟩⟩,fun c hc=>?_⟩
   rcases List.mem_cons.1 hc with rfl | hc
   ·exact hb
   ·exact h5 c hc
theorem open_slice_arg {α:Type} (R:α→List Value→List Nat→Prop) {t e:TypeId} {k:Nat} {r:Reach} {b0:Nat} {v:Value} {d:DataW H} {ps:List MemPlace} (ht:P.underlying t=some (.slice e)) (hk:P.cellsOf e=k) (hk0:0<k)
  (hR:∀ n ds y,DataW.trod enc P w base spare held n e ds=some y→∃ a F,R a ds F∧Under w.heap.size F)
  (hval:Value.okWide P w r b0 t v) (h:DataW.Trod enc P w base spare held t v d ps):∃ xs F,Arr w R xs v F∧Under w.heap.size F:=by
 obtain ⟨a,len,cap,rfl⟩:=okWide_slice ht hval
 obtain ⟨fuel,hf⟩:=h
 cases fuel with
 |zero=>simp [DataW.trod] at hf
 |succ n =>
  obtain ⟨xs,v,F,hv,ha,hF⟩:=open_Arr R ht hk hk0 rfl (fun ds y hd _=>hR n ds y hd) hf
  have:v=.slice a len cap:=by simpa [Value.cells] using hv.symm
  subst this
  exact ⟨xs,F,ha,hF⟩
end
end Go.Proofs.YtghekinfoadcoaaGreat
namespace Go.Proofs.YtghekinfoadcoaaGreat
open Go.ChangeShapes Go.WideShapes Go.ChangeAt Go.RowKit
set_option maxRecDepth 100000
theorem cellsOf_u8:Tryz.prog.cellsOf 5=1:=by kernel_rfl
theorem open_By_cells {H:Type} {enc:TypeId×Value→H} {w:World} {base:Nat} {spare:Nat→Bool} {held:Bool} (fuel:Nat) (cs:List Value) (x:DataW H×List MemPlace)
  (h:DataW.trod enc Tryz.prog w base spare held fuel 5 cs=some x):∃ v F,ByR w v cs F∧Under w.heap.size F:=by
 cases fuel with
 |zero=>simp [DataW.trod] at h
 |succ n =>
 obtain ⟨i0,e0,-,e2⟩:=DataW.trod_int Tryz.underlying5 h
 have hw:IntKind.u8.min≤i0∧i0≤IntKind.u8.max:=by simpa [Lit.wf] using e2
 have h0:IntKind.u8.min=0:=rfl
 have h1:IntKind.u8.max=255:=rfl
 exact ⟨i0,[],⟨e0,rfl,by omega,by omega⟩,Under.nil _⟩
theorem open_Bytes {H:Type} {enc:TypeId×Value→H} {w:World} {base:Nat} {spare:Nat→Bool} {held:Bool} {r:Reach} {b0:Nat} {v:Value} {d:DataW H} {ps:List MemPlace} (hval:Value.okWide Tryz.prog w r b0 58 v)
  (h:DataW.Trod enc Tryz.prog w base spare held 58 v d ps):∃ (x:List Int) (F:List Nat),Arr w (ByR w) x v F∧Under w.heap.size F :=
 open_slice_arg (ByR w) Tryz.underlying58 cellsOf_u8 (by decide) (fun n ds y hd=>open_By_cells n ds y hd) hval h
end Go.Proofs.YtghekinfoadcoaaGreat
