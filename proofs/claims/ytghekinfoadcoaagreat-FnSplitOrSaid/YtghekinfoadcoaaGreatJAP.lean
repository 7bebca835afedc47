/-
  Lemmas, and contracts of functions. Conditions: none.
-/
import Derived.Test.YtghekinfoadcoaaGreatJAE
import Derived.Test.YtghekinfoadcoaaGreatJAH
import Derived.Test.YtghekinfoadcoaaGreatJAC
import Derived.Test.YtghekinfoadcoaaGreatJAB
import Derived.Test.YtghekinfoadcoaaGreatJAF
import Derived.Deep.RegionWith
import Derived.Test.YtghekinfoadcoaaGreatJAI
import Derived.Lib.SliceRun
import Derived.IntWalk
import Derived.Test.YtghekinfoadcoaaGreatJAO
import Derived.Test.YtghekinfoadcoaaGreatJAG

set_option linter.unusedVariables false
set_option linter.unusedSimpArgs false
set_option maxRecDepth 100000
set_option maxHeartbeats 1600000

namespace Go.Proofs.YtghekinfoadcoaaGreat
open Go.RowKit
def cutVP {α:Type} (l:List α):List α:=l.take 401
def pairKP {α:Type} (o:List α) (l:List α):List (List α):=l.map fun k=>o ++ [k]
def pairLP {α:Type} (A:List (List α)) (l:List α):List (List α):=A.flatMap fun o=>pairKP o l
def pairAllP {α:Type} (ls:List (List α)):List (List α):=ls.foldl pairLP [[]]
def pairToP {α:Type} (ls:List (List α)) (i:Nat):List (List α):=cutVP (pairAllP (ls.take i))
def preLP {α:Type} (A:List (List α)) (l:List α) (k:Nat):List (List α):=(A.take k).flatMap fun o=>pairKP o l
def nextLP {α:Type} (A:List (List α)) (l:List α) (k:Nat):List (List α):=cutVP (preLP A l k)
def nextRP {α:Type} (pre:List (List α)) (o:List α) (l:List α) (j:Nat):List (List α):=cutVP (pre ++ pairKP o (l.take j))
theorem pairAllP_each {α:Type} (ls:List (List α)):∀ o∈pairAllP ls,o.length=ls.length:=by
 have h:∀ (ls:List (List α)) (A:List (List α)) (n:Nat),(∀ o∈A,o.length=n)→∀ o∈ls.foldl pairLP A,o.length=n+ls.length:=by
  intro ls
  induction ls with
  |nil=>intro A n h o ho;exact h o ho
  |cons l ls ih =>
   intro A n h o ho
   rw [List.foldl_cons] at ho
   have:=ih (pairLP A l) (n+1) (fun o ho=>by
    obtain ⟨o',h1,h2⟩:=List.mem_flatMap.1 ho
    obtain ⟨k,-,rfl⟩:=List.mem_map.1 h2
    rw [List.length_append,h o' h1];rfl) o ho
   rw [this,List.length_cons];omega
 intro o ho
 have:=h ls [[]] 0 (by simp) o ho
 omega
theorem pairLP_len {α:Type} (A:List (List α)) (l:List α):(pairLP A l).length=A.length*l.length:=by
 unfold pairLP
 induction A with
 |nil=>simp
 |cons a A ih=>rw [List.flatMap_cons,List.length_append,ih,List.length_cons,Nat.succ_mul];unfold pairKP;rw [List.length_map];omega
theorem pairAllP_snoc {α:Type} (ls:List (List α)) (l:List α):pairAllP (ls ++ [l])=pairLP (pairAllP ls) l:=by unfold pairAllP;rw [List.foldl_append];rfl
theorem pairAllP_step {α:Type} (ls:List (List α)) (j:Nat) (h:j<ls.length):pairAllP (ls.take (j+1))=pairLP (pairAllP (ls.take j)) ls[j]:=by rw [take_snoc' ls j h,pairAllP_snoc]
theorem pairAllP_mono {α:Type} {ls:List (List α)} (h:∀ l∈ls,0<l.length):∀ (k j:Nat),(pairAllP (ls.take j)).length≤(pairAllP (ls.take (j+k))).length:=by
 intro k
 induction k with
 |zero=>intro j;exact zz8 _
 |succ k ih =>
  intro j
  refine Nat.le_trans (ih j) ?_
  rcases Nat.lt_or_ge (j+k) ls.length with hj | hj
  ·rw [show j+(k+1)=j+k+1 from rfl,pairAllP_step ls _ hj,pairLP_len]
   exact Nat.le_mul_of_pos_right _ (h _ (List.getElem_mem hj))
  ·rw [List.take_of_length_le hj,List.take_of_length_le (show ls.length≤j+(k+1) by omega)]
   exact zz8 _
theorem pairAllP_le {α:Type} {ls:List (List α)} (h:∀ l∈ls,0<l.length) (j:Nat):(pairAllP (ls.take j)).length≤(pairAllP ls).length:=by
 have h1:=pairAllP_mono h ls.length j
 rw [List.take_of_length_le (show ls.length≤j+ls.length by omega)] at h1
 exact h1
theorem pairAllP_pos {α:Type} {ls:List (List α)} (h:∀ l∈ls,0<l.length):0<(pairAllP ls).length:=by
 have h1:=pairAllP_le h 0
 exact h1
theorem pairAllP_kid {α:Type} {ls:List (List α)} (h:∀ l∈ls,0<l.length) (j:Nat) (hj:j<ls.length):ls[j].length≤(pairAllP ls).length:=by
 have h1:=pairAllP_le h (j+1)
 rw [pairAllP_step ls j hj,pairLP_len] at h1
 have h2:=pairAllP_pos (ls:=ls.take j) (fun l hl=>h l (List.mem_of_mem_take hl))
 exact Nat.le_trans (Nat.le_mul_of_pos_left _ h2) h1
def EachIn {α:Type}:List α→List (List α)→Prop
 |[],[]=>True
 |k :: ks,l :: ls=>k∈l∧EachIn ks ls
 |_,_=>False
theorem eachIn_snoc {α:Type}:∀ (o:List α) (ls:List (List α)) (k:α) (l:List α),EachIn o ls→k∈l→EachIn (o ++ [k]) (ls ++ [l])
 |[],[],k,l,_,hk=>⟨hk,trivial⟩
 |a :: o,m :: ls,k,l,h,hk=>⟨h.1,eachIn_snoc o ls k l h.2 hk⟩
 |[],_ :: _,_,_,h,_=>h.elim
 |_ :: _,[],_,_,h,_=>h.elim
theorem mem_pairAllP {α:Type} (ls:List (List α)):∀ (j:Nat),∀ o∈pairAllP (ls.take j),EachIn o (ls.take j):=by
 intro j
 induction j with
 |zero=>intro o ho;rw [List.take_zero] at ho ⊢;unfold pairAllP at ho;rw [List.foldl_nil,zy1] at ho;subst ho;trivial
 |succ j ih =>
  intro o ho
  rcases Nat.lt_or_ge j ls.length with hj | hj
  ·rw [pairAllP_step ls j hj] at ho
   obtain ⟨o',h1,h2⟩:=List.mem_flatMap.1 ho
   obtain ⟨k,h3,rfl⟩:=List.mem_map.1 h2
   rw [take_snoc' ls j hj]
   exact eachIn_snoc _ _ _ _ (ih o' h1) h3
  ·rw [List.take_of_length_le (show ls.length≤j+1 by omega)] at ho ⊢
   rw [List.take_of_length_le hj] at ih
   exact ih o ho
def P.re (p:P) (ks:List P):P:=⟨p.op,p.ct,p.n,p.m,p.va,ks⟩
mutual
def P.spl:P→List P
 |⟨op,ct,n,m,va,ks⟩=>if op=5 then P.splo ks else (pairAllP (P.spla ks)).map (P.re ⟨op,ct,n,m,va,[]⟩)
def P.spla:List P→List (List P)
 |[]=>[]
 |k :: ks=>P.spl k :: P.spla ks
def P.splo:List P→List P
 |[]=>[]
 |k :: ks=>P.spl k ++ P.splo ks
end
theorem spla_map:∀ ks,P.spla ks=ks.map P.spl
 |[]=>rfl
 |k :: ks=>by rw [P.spla,spla_map ks,List.map_cons]
theorem splo_flat:∀ ks,P.splo ks=ks.flatMap P.spl
 |[]=>rfl
 |k :: ks=>by rw [P.splo,splo_flat ks,List.flatMap_cons]
theorem spl_or {p:P} (h:p.op=5):P.spl p=p.ks.flatMap P.spl:=by
 obtain ⟨op,ct,n,m,va,ks⟩:=p
 rw [P.spl,if_pos h,splo_flat]
theorem spl_no {p:P} (h:¬p.op=5):P.spl p=(pairAllP (p.ks.map P.spl)).map p.re:=by
 obtain ⟨op,ct,n,m,va,ks⟩:=p
 rw [P.spl,if_neg h,spla_map]
 rfl
def lenTo (p:P) (i:Nat):Nat:=if p.op=5 then ((p.ks.take i).flatMap P.spl).length else (pairAllP ((p.ks.map P.spl).take i)).length
theorem lenTo_or {p:P} (h:p.op=5):lenTo p 0=0:=by unfold lenTo;rw [if_pos h];rfl
theorem lenTo_no {p:P} (h:¬p.op=5):lenTo p 0=1:=by unfold lenTo;rw [if_neg h];rfl
theorem lenTo_add {p:P} (h:p.op=5) (i:Nat) (hi:i<p.ks.length):lenTo p (i+1)=lenTo p i+(P.spl p.ks[i]).length:=by
 unfold lenTo
 rw [if_pos h,if_pos h,take_snoc' p.ks i hi,List.flatMap_append,List.length_append]
 simp
theorem lenTo_mul {p:P} (h:¬p.op=5) (i:Nat) (hi:i<p.ks.length):lenTo p (i+1)=lenTo p i*(P.spl p.ks[i]).length:=by
 unfold lenTo
 rw [if_neg h,if_neg h,pairAllP_step _ _ (by simpa using hi),pairLP_len]
 simp
theorem lenTo_all {p:P} {i:Nat} (hi:p.ks.length≤i):lenTo p i=(P.spl p).length:=by
 unfold lenTo
 by_cases h:p.op=5
 ·rw [if_pos h,spl_or h,List.take_of_length_le hi]
 ·rw [if_neg h,spl_no h,List.length_map,List.take_of_length_le (by simpa using hi)]
def cut4 (n:Nat):Nat:=min n 401
theorem cut4_le (n:Nat):cut4 n≤401:=by unfold cut4;omega
theorem cut4_add (a b:Nat):min (cut4 a+cut4 b) 401=cut4 (a+b):=by unfold cut4;omega
theorem cut4_mul (a b:Nat):min (cut4 a*cut4 b) 401=cut4 (a*b):=by
 unfold cut4
 rcases Nat.lt_or_ge 401 a with ha | ha
 ·rcases Nat.eq_zero_or_pos b with rfl | hb
  ·simp
  ·have h1:401*1≤min a 401*min b 401:=Nat.mul_le_mul (by omega) (by omega)
   have h2:a*1≤a*b:=Nat.mul_le_mul (zz8 _) hb
   omega
 ·rcases Nat.lt_or_ge 401 b with hb | hb
  ·rcases Nat.eq_zero_or_pos a with rfl | ha
   ·simp
   ·have h1:1*401≤min a 401*min b 401:=Nat.mul_le_mul (by omega) (by omega)
    have h2:1*b≤a*b:=Nat.mul_le_mul ha (zz8 _)
    omega
  ·rw [Nat.min_eq_left ha,Nat.min_eq_left hb]
theorem cut4_big (n:Nat):(400:Int)<(cut4 n:Nat)↔¬n≤400:=by unfold cut4;omega
theorem min4_mul (a b:Nat):(if (401:Int)<(a:Int)*(b:Int) then (401:Int) else (a:Int)*(b:Int))=((min (a*b) 401:Nat):Int):=by
 rw [←Int.natCast_mul]
 split <;> omega
theorem min4_add (a b:Nat):(if (401:Int)<(a:Int)+(b:Int) then (401:Int) else (a:Int)+(b:Int))=((min (a+b) 401:Nat):Int):=by split <;> omega
theorem shape_kids {xs:List Dt} {d:Nat} {t:Ty} {p:P} (h:shapeB xs (d+1) t p=true):(typesP xs t p).length=p.ks.length∧∀ (i:Nat) (h1:i<(typesP xs t p).length) (h2:i<p.ks.length),shapeB xs d (typesP xs t p)[i] p.ks[i]=true:=by
 rw [shapeB,Bool.and_eq_true,Bool.and_eq_true,beq_iff_eq] at h
 obtain ⟨-,h1,h2⟩:=h
 refine ⟨h1.symm,fun i h3 h4=>?_⟩
 rw [List.all_eq_true] at h2
 exact h2 ((typesP xs t p)[i],p.ks[i]) (List.mem_iff_getElem.2 ⟨i,by simp;omega,by simp⟩)
theorem shape_kid {xs:List Dt} {d:Nat} {t:Ty} {p:P} (h:shapeB xs (d+1) t p=true) {k:P} (hk:k∈p.ks):∃ u,shapeB xs d u k=true:=by
 obtain ⟨i,hi,rfl⟩:=List.getElem_of_mem hk
 obtain ⟨h1,h2⟩:=shape_kids h
 exact ⟨_,h2 i (by omega) hi⟩
theorem shape_or {xs:List Dt} {d:Nat} {t:Ty} {p:P} (h:shapeB xs (d+1) t p=true) (h5:p.op=5):∃ a b,p.ks=[a,b]∧shapeB xs d t a=true∧shapeB xs d t b=true:=by
 obtain ⟨h1,h2⟩:=shape_kids h
 have h3:=zAU (xs:=xs) (t:=t) h5
 rw [h3] at h1
 obtain ⟨a,b,hk⟩:=kids_two h1.symm
 refine ⟨a,b,hk,?_,?_⟩
 ·have:=h2 0 (by rw [h3];simp) (by rw [hk];simp)
  simpa [h3,hk] using this
 ·have:=h2 1 (by rw [h3];simp) (by rw [hk];simp)
  simpa [h3,hk] using this
theorem spl_pos (xs:List Dt):∀ (d:Nat) (t:Ty) (p:P),shapeB xs d t p=true→0<(P.spl p).length
 |0,_,_,h=>by simp [shapeB] at h
 |d+1,t,p,h=>by
  by_cases h5:p.op=5
  ·obtain ⟨a,b,hk,ha,-⟩:=shape_or h h5
   rw [spl_or h5,hk,List.flatMap_cons,List.length_append]
   have:=spl_pos xs d t a ha
   omega
  ·rw [spl_no h5,List.length_map]
   refine pairAllP_pos fun l hl=>?_
   obtain ⟨k,hk,rfl⟩:=List.mem_map.1 hl
   obtain ⟨u,hu⟩:=shape_kid h hk
   exact spl_pos xs d u k hu
structure SplOk (p:P):Prop where
 two:p.op=5→∃ a b,p.ks=[a,b]
 pos:∀ k∈p.ks,0<(P.spl k).length
theorem splOk_of {xs:List Dt} {d:Nat} {t:Ty} {p:P} (h:shapeB xs (d+1) t p=true):SplOk p:=⟨fun h5=>by obtain ⟨a,b,hk,-,-⟩:=shape_or h h5;exact ⟨a,b,hk⟩,fun k hk=>by obtain ⟨u,hu⟩:=shape_kid h hk;exact spl_pos xs d u k hu⟩
theorem sizes_each:∀ (o:List P) (ks:List P),EachIn o (ks.map P.spl)→(∀ k∈ks,∀ q∈P.spl k,q.size≤k.size)→P.sizes o≤P.sizes ks
 |[],[],_,_=>zz8 _
 |q :: o,k :: ks,h,hs=>by
  have h1:=hs k (by simp) q h.1
  have h2:=sizes_each o ks h.2 (fun k' hk'=>hs k' (by simp [hk']))
  simp only [P.sizes]
  omega
 |[],_ :: _,h,_=>h.elim
 |_ :: _,[],h,_=>h.elim
theorem size_kid {p k:P} (h:k∈p.ks):k.size<p.size:=by
 obtain ⟨op,ct,n,m,va,ks⟩:=p
 obtain ⟨i,hi,rfl⟩:=List.getElem_of_mem h
 have:=P.size_lt ks i hi
 simp only at hi
 show ks[i].size<P.sizes ks
 omega
theorem spl_size:∀ (p:P),∀ q∈P.spl p,q.size≤p.size:=P.ind fun op ct n m va ks ih q hq=>by
 by_cases h5:op=5
 ·rw [spl_or h5] at hq
  obtain ⟨k,hk,hq⟩:=List.mem_flatMap.1 hq
  exact Nat.le_trans (ih k hk q hq) (Nat.le_of_lt (size_kid (p:=⟨op,ct,n,m,va,ks⟩) hk))
 ·rw [spl_no h5] at hq
  obtain ⟨o,ho,rfl⟩:=List.mem_map.1 hq
  have h1:=mem_pairAllP (ks.map P.spl) (ks.map P.spl).length
  rw [List.take_length] at h1
  show P.sizes o≤P.sizes ks
  exact sizes_each o ks (h1 o ho) ih
def splTo (p:P) (j:Nat):List P:=(pairAllP ((p.ks.map P.spl).take j)).map p.re
theorem splTo_zero (p:P):splTo p 0=[p.re []]:=rfl
theorem splTo_all {p:P} (h:¬p.op=5) {j:Nat} (hj:p.ks.length≤j):splTo p j=P.spl p:=by
 unfold splTo
 rw [List.take_of_length_le (by simpa using hj),spl_no h]
theorem splTo_each (p:P) (j:Nat):∀ q∈splTo p j,q.ks.length≤j:=fun q hq=>by
 obtain ⟨o,ho,rfl⟩:=List.mem_map.1 hq
 have h1:=pairAllP_each _ o ho
 rw [List.length_take] at h1
 show o.length≤j
 omega
def growKR (q:P) (kids:List P):List P:=kids.map fun k=>q.re (q.ks ++ [k])
def growR (list kids:List P):List P:=list.flatMap fun q=>growKR q kids
def growRTo (list kids:List P) (a:Nat):List P:=growR (list.take a) kids
theorem growKR_len (q:P) (kids:List P):(growKR q kids).length=kids.length:=List.length_map _
theorem growR_len (list kids:List P):(growR list kids).length=list.length*kids.length:=by
 unfold growR
 induction list with
 |nil=>simp
 |cons v l ih=>rw [List.flatMap_cons,List.length_append,ih,growKR_len,List.length_cons,Nat.succ_mul];omega
theorem growRTo_all (list kids:List P) {a:Nat} (h:list.length≤a):growRTo list kids a=growR list kids:=by unfold growRTo;rw [List.take_of_length_le h]
theorem growRTo_succ (list kids:List P) (a:Nat) (h:a<list.length):growRTo list kids (a+1)=growRTo list kids a ++ growKR list[a] kids:=by
 unfold growRTo growR
 rw [take_snoc' list a h,List.flatMap_append]
 simp
theorem growRTo_len (list kids:List P) (a:Nat) (h:a≤list.length):(growRTo list kids a).length=a*kids.length:=by
 unfold growRTo
 rw [growR_len,List.length_take,Nat.min_eq_left h]
def moreR (pre:List P) (q:P) (kids:List P) (s:Nat):List P:=pre ++ growKR q (kids.take s)
theorem moreR_zero (pre:List P) (q:P) (kids:List P):moreR pre q kids 0=pre:=by unfold moreR growKR;simp
theorem moreR_succ (pre:List P) (q:P) (kids:List P) (s:Nat) (h:s<kids.length):moreR pre q kids (s+1)=moreR pre q kids s ++ [q.re (q.ks ++ [kids[s]])]:=by
 unfold moreR growKR
 rw [take_snoc' kids s h,List.map_append,List.append_assoc]
 rfl
theorem moreR_len (pre:List P) (q:P) (kids:List P) (s:Nat):(moreR pre q kids s).length≤pre.length+s:=by unfold moreR;rw [List.length_append,growKR_len,List.length_take];omega
theorem moreR_all (pre:List P) (q:P) (kids:List P) {s:Nat} (h:kids.length≤s):moreR pre q kids s=pre ++ growKR q kids:=by unfold moreR;rw [List.take_of_length_le h]
theorem splTo_succ (p:P) (j:Nat) (h:j<p.ks.length):splTo p (j+1)=growR (splTo p j) (P.spl p.ks[j]):=by
 unfold splTo growR
 rw [pairAllP_step _ _ (by simpa using h),List.flatMap_map]
 unfold pairLP
 rw [List.map_flatMap]
 congr 1
 funext o
 unfold pairKP growKR
 rw [List.map_map,List.getElem_map]
 rfl
theorem splTo_len_succ (p:P) (j:Nat) (h:j<p.ks.length):(splTo p (j+1)).length=(splTo p j).length*(P.spl p.ks[j]).length:=by rw [splTo_succ p j h,growR_len]
theorem splTo_le {p:P} (h:¬p.op=5) (hp:∀ k∈p.ks,0<(P.spl k).length) (j:Nat):(splTo p j).length≤(P.spl p).length:=by
 rw [spl_no h,List.length_map]
 unfold splTo
 rw [List.length_map]
 exact pairAllP_le (fun l hl=>by obtain ⟨k,hk,rfl⟩:=List.mem_map.1 hl;exact hp k hk) j
theorem spl_kid_le {p:P} (h:¬p.op=5) (hp:∀ k∈p.ks,0<(P.spl k).length) (j:Nat) (hj:j<p.ks.length):(P.spl p.ks[j]).length≤(P.spl p).length:=by
 rw [spl_no h,List.length_map]
 have:=pairAllP_kid (ls:=p.ks.map P.spl) (fun l hl=>by obtain ⟨k,hk,rfl⟩:=List.mem_map.1 hl;exact hp k hk) j (by simpa using hj)
 simpa using this
def Shp (p:P):Prop:=∃ xs d t,shapeB xs d t p=true
theorem Shp.kid {p k:P} (h:Shp p) (hk:k∈p.ks):Shp k:=by
 obtain ⟨xs,d,t,h⟩:=h
 cases d with
 |zero=>simp [shapeB] at h
 |succ d=>obtain ⟨u,hu⟩:=shape_kid h hk;exact ⟨xs,d,u,hu⟩
theorem Shp.ok {p:P} (h:Shp p):SplOk p:=by
 obtain ⟨xs,d,t,h⟩:=h
 cases d with
 |zero=>simp [shapeB] at h
 |succ d=>exact splOk_of h
theorem Shp.or {p:P} (h:Shp p) (h5:p.op=5):∃ hl:p.ks.length=2,P.spl p=P.spl (p.ks[0]'(by omega)) ++ P.spl (p.ks[1]'(by omega)):=by
 obtain ⟨a,b,hk⟩:=h.ok.two h5
 refine ⟨by rw [hk];rfl,?_⟩
 rw [spl_or h5]
 simp [hk]
def splitB (xs:List Dt) (t:Ty) (p:P):Bool:=patternValidB xs t p && decide ((P.spl p).length≤400)
def splitV (xs:List Dt) (t:Ty) (p:P):List P:=if splitB xs t p=true then P.spl p else []
theorem splitV_no {xs:List Dt} {t:Ty} {p:P} (h:splitB xs t p=false):splitV xs t p=[]:=by unfold splitV;rw [h];rfl
theorem splitV_yes {xs:List Dt} {t:Ty} {p:P} (h:splitB xs t p=true):splitV xs t p=P.spl p:=by unfold splitV;rw [h];rfl
def MadeSps (vs:List P) (b:Bool) (w:World) (e:Ending) (w':World):Prop:=∃ v F,e=.returned (.tuple #[v,.bool b])∧Below w w w'∧Arr w' (PR w') vs v F∧Free w' F∧Fresh w w' F
theorem valid_shp {xs:List Dt} {t:Ty} {p:P} (h:patternValidB xs t p=true):Shp p∧p.size≤59:=by
 unfold patternValidB patOkB at h
 simp only [Bool.and_eq_true,decide_eq_true_iff] at h
 exact ⟨⟨xs,10,t,h.2.1⟩,by have:=h.2.2.1;unfold nodesP at this;omega⟩
def kipTo (ks:List P) (i:Nat):List P:=ks.take i
theorem kipTo_len (ks:List P) (i:Nat):(kipTo ks i).length≤i:=by unfold kipTo;rw [List.length_take];omega
theorem kipTo_succ (ks:List P) (i:Nat) (h:i<ks.length):kipTo ks (i+1)=kipTo ks i ++ [ks[i]]:=take_snoc' ks i h
theorem kipTo_all (ks:List P) {i:Nat} (h:ks.length≤i):kipTo ks i=ks:=List.take_of_length_le h
theorem P.sizes_mem2 (l:List P) (k:Nat) (h:k<l.length):l[k].size≤P.sizes l:=by
 have:=P.size_lt l k h
 omega
def CopyP (fn:FuncId) (p:P):Prop:=∀ (w:World) (cs:List Value) (G:List Nat),PR w p cs G→Under w G→p.size≤1048576 →
 Calls Tryz.prog fn #[.agg cs.toArray] w (MadePt p w)
set_option maxHeartbeats 6400000 in
theorem impl_ownPattern_of (p:P) (ih:∀ k∈p.ks,CopyP 93 k):CopyP 93 p:=by
 intro w cs G hv hg hz
 obtain ⟨kv,rfl,ha⟩:=(zA8 _ _ _).1 hv
 obtain ⟨A4,cap4,rfl,hc3,hc4⟩:=ha.form
 obtain ⟨i0,hi,hz0,hz1,hz2⟩:=info_parts info_PE
 have IH:=jj ih
 have HI:=jj hi
 have HZ0:=jj hz0
 have HZ1:=jj hz1
 have HZ2:=jj hz2
 have HA:=jj ha
 have HG:=jj hg
 clear hi hz0 hz1 hz2 ha hg
 have hzk:P.sizes p.ks≤1048576:=by obtain ⟨op,ct,n,m,va,ks⟩:=p;exact hz
 have hkl:p.ks.length≤1048576:=by rw [P.sizes_eq] at hzk;omega
 have HZ:=jj hzk
 clear ih hv hz hzk
 have hB0:Below w w ((w.alloc (.cells #[p.op,p.ct,p.n,p.m,p.va,.slice none 0 0] 43)).alloc (.cells #[(0:Int),(0:Int),(0:Int),(0:Int),(0:Int),.slice none 0 0] 43)):=((zy2 _ _).alloc (zz8 _) _).alloc (by simp) _
 have K0:Hid (Blk ((w.alloc (.cells #[p.op,p.ct,p.n,p.m,p.va,.slice none 0 0] 43)).alloc (.cells #[(0:Int),(0:Int),(0:Int),(0:Int),(0:Int),.slice none 0 0] 43)) (w.heap.size) 43 #[p.op,p.ct,p.n,p.m,p.va,.slice none 0 0]):=(Blk.new w 43 #[p.op,p.ct,p.n,p.m,p.va,.slice none 0 0]).same (Below.heap_alloc _ _ _ (by simp))
 have R0:Hid (Blk ((w.alloc (.cells #[p.op,p.ct,p.n,p.m,p.va,.slice none 0 0] 43)).alloc (.cells #[(0:Int),(0:Int),(0:Int),(0:Int),(0:Int),.slice none 0 0] 43)) (w.heap.size+1) 43 #[(0:Int),(0:Int),(0:Int),(0:Int),(0:Int),.slice none 0 0]):=zA9 w _ 43 #[(0:Int),(0:Int),(0:Int),(0:Int),(0:Int),.slice none 0 0]
 have hs0:((w.alloc (.cells #[p.op,p.ct,p.n,p.m,p.va,.slice none 0 0] 43)).alloc (.cells #[(0:Int),(0:Int),(0:Int),(0:Int),(0:Int),.slice none 0 0] 43)).heap.size=w.heap.size+2:=by simp
 go_enter Tryz.func93,Tryz.ntmps93
 go_wp2_with fail
 obtain ⟨w9,hw9⟩:∃ w9,w9=((w.alloc (.cells #[p.op,p.ct,p.n,p.m,p.va,.slice none 0 0] 43)).alloc (.cells #[(0:Int),(0:Int),(0:Int),(0:Int),(0:Int),.slice none 0 0] 43)):=⟨_,rfl⟩
 rw [←hw9] at hB0 K0 R0 hs0 ⊢
 clear hw9
 go_loopw [11] (fun iv wr=>∃ i:Nat,∃ kv:Value,∃ Fk:List Nat,i≤p.ks.length∧iv=.int .i64 i∧Hid (Blk wr (w.heap.size) 43 #[p.op,p.ct,p.n,p.m,p.va,kv])∧Hid (Own wr (w.heap.size+2) 43 6 PR (kipTo p.ks i) kv Fk)∧Hid (Free wr Fk)∧Hid (∀ b∈Fk,w.heap.size+2≤b)∧Hid (Chg [w.heap.size] w9 wr)∧Below w w wr∧w9.heap.size≤wr.heap.size) (fun iv _=>p.ks.length-(intOf iv).toNat)
 case atStart=>exact ⟨0,_,[],Nat.zero_le _,rfl,K0,(show Own _ _ _ _ _ (kipTo p.ks 0) _ _ from Own.nil _ _ _ _ _),Free.nil _,(fun b hb=>by cases hb),Chg.refl _ _,hB0,zz8 _⟩
 case round =>
  clear hB0 K0
  obtain ⟨i,kv,Fk,hi,rfl,KD,HO,HFk,HFh,HC,hB,hws⟩:=hrel
  obtain ⟨kA,kcap,hkv,hkc1,hkc2⟩:=HO.out.form
  subst hkv
  have klt:=KD.out.lt
  by_cases hil:i<p.ks.length
  ·obtain ⟨b4,off4,rfl⟩:=HA.out.ptr (by omega)
   have hb4w:b4<w.heap.size:=by obtain ⟨_,_,_,_,e,hb,-⟩:=HA.out.get PR_len hil;cases e;exact HG.out _ hb
   obtain ⟨A7,cap7,G7,hb7,k0,k1,k2,k3,k4,k5,HV7,HG7,-,-,-⟩:=ArrP.at HA.out HG.out hB i hil
   have g1:(0:Int)≤(i:Int):=by omega
   have g2:(i:Int)<(p.ks.length:Int):=by omega
   have hkk:=kipTo_len p.ks i
   have HKS:Hid (p.ks[i].size≤1048576):=by have h1:=P.sizes_mem2 p.ks i hil;have h2:=HZ.out;unfold Hid;omega
   have hmx:(kipTo p.ks i).length+1≤maxLen:=by unfold maxLen;omega
   have hby:((kipTo p.ks i).length+1)*64≤140737488355328:=by omega
   go_wp2_with fail
   obtain ⟨wk,hwk⟩:∃ wk,wk=wr.alloc (.cells #[p.ks[i].op,p.ks[i].ct,p.ks[i].n,p.ks[i].m,p.ks[i].va,.slice A7 p.ks[i].ks.length cap7] 43):=⟨_,rfl⟩
   have hBk:Below wr wr wk:=by rw [hwk];exact (zy2 _ _).alloc (zz8 _) _
   have KK:Blk wk wr 43 #[p.ks[i].op,p.ks[i].ct,p.ks[i].n,p.ks[i].m,p.ks[i].va,.slice A7 p.ks[i].ks.length cap7]:=by rw [hwk];exact Blk.new _ _ _
   have hwks:wk.heap.size=wr.heap.size+1:=by rw [hwk];simp
   rw [←hwk]
   clear hwk
   obtain ⟨z0,z1,z2,z3,z4,z5,-⟩:=KK.c6
   have KDk:=KD.out.same (hBk.block _ KD.out.lt)
   have zT:wk.drew.cell? ⟨w,5,none⟩=some (.slice kA (kipTo p.ks i).length kcap):=(KDk.cell 5).trans (by simp)
   have zfT:wk.drew.frozen? ⟨w,5,none⟩=false:=KDk.frozen 5
   have kklt:wr.heap.size<wk.drew.heap.size:=KK.lt
   have hkT:w.heap.size<wk.drew.heap.size:=KDk.lt
   clear KK KDk k0 k1 k2 k3 k4 k5
   have HBk:=jj hBk.drew
   clear hBk
   have HCALL:=jj (IH.out p.ks[i] (List.getElem_mem hil) wk.drew _ G7 ((HV7.out.below hB HG7.out).below HBk.out (HG7.out.mono hB.size)) (HG7.out.mono (Nat.le_trans hB.size HBk.out.size)) HKS.out)
   refine zA5 (S:=fun w'=>w'.cell? ⟨wr,0,none⟩=p.ks[i].op∧w'.cell? ⟨wr,1,none⟩=p.ks[i].ct∧w'.cell? ⟨wr,2,none⟩=p.ks[i].n∧w'.cell? ⟨wr,3,none⟩=p.ks[i].m∧w'.cell? ⟨wr,4,none⟩=p.ks[i].va∧w'.cell? ⟨wr,5,none⟩=some (.slice A7 p.ks[i].ks.length cap7)) (T:=fun w'=>w'.cell? ⟨w,5,none⟩=some (.slice kA (kipTo p.ks i).length kcap)) (d:=5) (by kernel_rfl) ?_
   have hS1:wk.drew.cell? ⟨wr,0,none⟩=p.ks[i].op∧wk.drew.cell? ⟨wr,1,none⟩=p.ks[i].ct∧wk.drew.cell? ⟨wr,2,none⟩=p.ks[i].n∧wk.drew.cell? ⟨wr,3,none⟩=p.ks[i].m∧wk.drew.cell? ⟨wr,4,none⟩=p.ks[i].va∧wk.drew.cell? ⟨wr,5,none⟩=some (.slice A7 p.ks[i].ks.length cap7):=⟨z0,z1,z2,z3,z4,z5⟩
   have hT1:wk.drew.cell? ⟨w,5,none⟩=some (.slice kA (kipTo p.ks i).length kcap):=zT
   refine wV 0 rfl hS1 hT1 ?_
   (try simp only [Act.put,zz4,zz5,zz6])
   refine zAP (i:=1) (v:=?_) rfl (by decide) rfl (by kernel_rfl) (by kernel_rfl) (by kernel_rfl) (by kernel_rfl) (fun _ _ _ h=>h) (Or.inl ⟨by rfl,?hy1⟩) (by rfl) hS1 hT1 ?_
   case hy1=>(intro W hSw;(try dsimp only at hSw);(obtain ⟨⟨s0,s1,s2,s3,s4,s5⟩,tT⟩:=hSw);go_simp;try with_reducible rfl)
   (try simp only [Act.put,zz4,zz5,zz6])
   refine wV 2 rfl hS1 hT1 ?_
   (try simp only [Act.put,zz4,zz5,zz6])
   refine w1 3 rfl fun K hK=>?_
   go_simp
   go_at_call 93
   with_reducible refine HCALL.out.mono ?_
   rintro e wA ⟨csA,FA,rfl,hbA,hpA,hfrA,hfsA⟩
   obtain ⟨kvA,rfl,haA⟩:=(zA8 _ _ _).1 hpA
   obtain ⟨A8,cap8,rfl,-,-⟩:=haA.form
   clear haA
   have HBu:=jj (HBk.out.trans (hbA.mono HBk.out.size))
   have HPA:=jj hpA
   have HFrA:=jj hfrA
   have HFsA:Hid (∀ b∈FA,wr.heap.size≤b∧b<wA.heap.size):=fun b hb=>⟨Nat.le_trans HBk.out.size (hfsA b hb).1,(hfsA b hb).2⟩
   have HOA:Hid (Own wA (w.heap.size+2) 43 6 PR (kipTo p.ks i) (.slice kA (kipTo p.ks i).length kcap) Fk):=HO.out.below (fun x cs G hk h=>PR_mono' _ _ x cs G hk h) HBu.out
   have hbs:w.heap.size+2≤wA.heap.size:=by have:=HBu.out.size;omega
   have hSA:wA.cell? ⟨wr,0,none⟩=p.ks[i].op∧wA.cell? ⟨wr,1,none⟩=p.ks[i].ct∧wA.cell? ⟨wr,2,none⟩=p.ks[i].n∧wA.cell? ⟨wr,3,none⟩=p.ks[i].m∧wA.cell? ⟨wr,4,none⟩=p.ks[i].va∧wA.cell? ⟨wr,5,none⟩=some (.slice A7 p.ks[i].ks.length cap7):=⟨(hbA.cell (p:=⟨wr,0,none⟩) kklt).trans z0,(hbA.cell (p:=⟨wr,1,none⟩) kklt).trans z1,(hbA.cell (p:=⟨wr,2,none⟩) kklt).trans z2,(hbA.cell (p:=⟨wr,3,none⟩) kklt).trans z3,(hbA.cell (p:=⟨wr,4,none⟩) kklt).trans z4,(hbA.cell (p:=⟨wr,5,none⟩) kklt).trans z5⟩
   have zA:wA.cell? ⟨w,5,none⟩=some (.slice kA (kipTo p.ks i).length kcap):=(hbA.cell (p:=⟨w,5,none⟩) hkT).trans zT
   have zfA:wA.frozen? ⟨w,5,none⟩=false:=(hbA.frozen hkT).trans zfT
   have hkA:w.heap.size<wA.heap.size:=zz9 hkT hbA.size
   have kl0:wr.heap.size<wA.heap.size:=zz9 kklt hbA.size
   have kl1:wr.heap.size<wA.heap.size:=zz9 kklt hbA.size
   have kl2:wr.heap.size<wA.heap.size:=zz9 kklt hbA.size
   have kl3:wr.heap.size<wA.heap.size:=zz9 kklt hbA.size
   have kl4:wr.heap.size<wA.heap.size:=zz9 kklt hbA.size
   have kl5:wr.heap.size<wA.heap.size:=zz9 kklt hbA.size
   have hSB:(wA.alloc (.cells [.int .i64 p.ks[i].op,.int .i64 p.ks[i].ct,.int .i64 p.ks[i].n,.int .i64 p.ks[i].m,.int .i64 p.ks[i].va,.slice A8 p.ks[i].ks.length cap8].toArray 43)).cell? ⟨wr,0,none⟩=p.ks[i].op∧(wA.alloc (.cells [.int .i64 p.ks[i].op,.int .i64 p.ks[i].ct,.int .i64 p.ks[i].n,.int .i64 p.ks[i].m,.int .i64 p.ks[i].va,.slice A8 p.ks[i].ks.length cap8].toArray 43)).cell? ⟨wr,1,none⟩=p.ks[i].ct∧(wA.alloc (.cells [.int .i64 p.ks[i].op,.int .i64 p.ks[i].ct,.int .i64 p.ks[i].n,.int .i64 p.ks[i].m,.int .i64 p.ks[i].va,.slice A8 p.ks[i].ks.length cap8].toArray 43)).cell? ⟨wr,2,none⟩=p.ks[i].n∧(wA.alloc (.cells [.int .i64 p.ks[i].op,.int .i64 p.ks[i].ct,.int .i64 p.ks[i].n,.int .i64 p.ks[i].m,.int .i64 p.ks[i].va,.slice A8 p.ks[i].ks.length cap8].toArray 43)).cell? ⟨wr,3,none⟩=p.ks[i].m∧(wA.alloc (.cells [.int .i64 p.ks[i].op,.int .i64 p.ks[i].ct,.int .i64 p.ks[i].n,.int .i64 p.ks[i].m,.int .i64 p.ks[i].va,.slice A8 p.ks[i].ks.length cap8].toArray 43)).cell? ⟨wr,4,none⟩=p.ks[i].va∧(wA.alloc (.cells [.int .i64 p.ks[i].op,.int .i64 p.ks[i].ct,.int .i64 p.ks[i].n,.int .i64 p.ks[i].m,.int .i64 p.ks[i].va,.slice A8 p.ks[i].ks.length cap8].toArray 43)).cell? ⟨wr,5,none⟩=some (.slice A7 p.ks[i].ks.length cap7):=⟨(World.cell?_alloc_lt _ _ _ kl0).trans hSA.1,(World.cell?_alloc_lt _ _ _ kl1).trans hSA.2.1,(World.cell?_alloc_lt _ _ _ kl2).trans hSA.2.2.1,(World.cell?_alloc_lt _ _ _ kl3).trans hSA.2.2.2.1,(World.cell?_alloc_lt _ _ _ kl4).trans hSA.2.2.2.2.1,(World.cell?_alloc_lt _ _ _ kl5).trans hSA.2.2.2.2.2⟩
   dsimp only
   refine hK.out _ _ hSA (fun _=>zA) ?_
   clear hK K
   (try simp only [Act.put,zz4,zz5,zz6])
   refine w1 4 rfl fun K hK=>?_
   go_simp
   refine hK.out _ _ hSB (fun _=>(World.cell?_alloc_lt _ _ _ hkA).trans zA) ?_
   clear hK K
   (try simp only [Act.put,zz4,zz5,zz6])
   refine w1 5 rfl fun K hK=>?_
   refine zB7 (P:=Tryz.prog) rfl _ _ 41 rfl i0 _ 64 Tryz.underlying41 HI.out HZ0.out HZ1.out HZ2.out rfl (by decide) PR_len' PR_mono' (by rfl) HOA.out p.ks[i] 43 [p.ks[i].op,p.ks[i].ct,p.ks[i].n,p.ks[i].m,p.ks[i].va,.slice A8 p.ks[i].ks.length cap8] FA wA.heap.size (by rfl) rfl (by simp [Value.oneCell']) HPA.out (fun b hb=>(HFsA.out b hb).2) (fun g hg hG=>Nat.lt_irrefl _ (zz9 (HO.out.row g hg).2 (HFsA.out g hG).1)) hmx hby hbs ?_
   intro g cp w7 hown7 hgr7 hat7
   have hrow7:=HOA.out.row
   have n7:∀ x,(x<w.heap.size+2∨wr.heap.size≤x)→some x≠(Value.ownBlock (.slice kA (kipTo p.ks i).length kcap)):=fun x hx e=>by
    have h1:=(hrow7 x (zA1.2 e.symm)).1
    have h2:=(HO.out.row x (zA1.2 e.symm)).2
    omega
   have l7:wA.heap.size≤(wA.alloc (.cells [.int .i64 p.ks[i].op,.int .i64 p.ks[i].ct,.int .i64 p.ks[i].n,.int .i64 p.ks[i].m,.int .i64 p.ks[i].va,.slice A8 p.ks[i].ks.length cap8].toArray 43)).heap.size:=by rw [World.size_alloc];exact Nat.le_succ _
   have s7:w7.cell? ⟨wr,0,none⟩=p.ks[i].op∧w7.cell? ⟨wr,1,none⟩=p.ks[i].ct∧w7.cell? ⟨wr,2,none⟩=p.ks[i].n∧w7.cell? ⟨wr,3,none⟩=p.ks[i].m∧w7.cell? ⟨wr,4,none⟩=p.ks[i].va∧w7.cell? ⟨wr,5,none⟩=some (.slice A7 p.ks[i].ks.length cap7):=⟨(World.grownBy.cell_far hgr7 ⟨wr,0,none⟩ (zz9 kl0 l7) (n7 (wr.heap.size) (by omega))).trans hSB.1,(World.grownBy.cell_far hgr7 ⟨wr,1,none⟩ (zz9 kl1 l7) (n7 (wr.heap.size) (by omega))).trans hSB.2.1,(World.grownBy.cell_far hgr7 ⟨wr,2,none⟩ (zz9 kl2 l7) (n7 (wr.heap.size) (by omega))).trans hSB.2.2.1,(World.grownBy.cell_far hgr7 ⟨wr,3,none⟩ (zz9 kl3 l7) (n7 (wr.heap.size) (by omega))).trans hSB.2.2.2.1,(World.grownBy.cell_far hgr7 ⟨wr,4,none⟩ (zz9 kl4 l7) (n7 (wr.heap.size) (by omega))).trans hSB.2.2.2.2.1,(World.grownBy.cell_far hgr7 ⟨wr,5,none⟩ (zz9 kl5 l7) (n7 (wr.heap.size) (by omega))).trans hSB.2.2.2.2.2⟩
   have z71:w7.cell? ⟨w,5,none⟩=some (.slice kA (kipTo p.ks i).length kcap):=(World.grownBy.cell_far hgr7 ⟨w,5,none⟩ (zz9 hkA l7) (n7 (w.heap.size) (by omega))).trans ((World.cell?_alloc_lt _ _ _ hkA).trans zA)
   have zf71:w7.frozen? ⟨w,5,none⟩=false:=(World.grownBy.frozen_far hgr7 ⟨w,5,none⟩ (zz9 hkA l7) (n7 (w.heap.size) (by omega))).trans (Eq.trans (World.frozen?_of_block (Below.heap_alloc _ _ _ hkA)) zfA)
   refine hK.out _ _ s7 (fun h=>by cases h) ?_
   clear hK K
   (try simp only [Act.put,zz4,zz5,zz6])
   refine wU (i:=6) (v:=?_) rfl (Or.inl ⟨by rfl,?hy6⟩) s7 (fun h=>by cases h) ?_
   case hy6=>(intro W hSw;(try dsimp only at hSw);(obtain ⟨s0,s1,s2,s3,s4,s5⟩:=hSw);go_simp;try with_reducible rfl)
   (try simp only [Act.put,zz4,zz5,zz6])
   refine w1 7 rfl fun K hK=>?_
   go_simp
   refine hK.out _ _ ⟨(World.cell?_setCell_far _ _ _ _ (by show w.heap.size≠wr.heap.size;omega)).trans s7.1,(World.cell?_setCell_far _ _ _ _ (by show w.heap.size≠wr.heap.size;omega)).trans s7.2.1,(World.cell?_setCell_far _ _ _ _ (by show w.heap.size≠wr.heap.size;omega)).trans s7.2.2.1,(World.cell?_setCell_far _ _ _ _ (by show w.heap.size≠wr.heap.size;omega)).trans s7.2.2.2.1,(World.cell?_setCell_far _ _ _ _ (by show w.heap.size≠wr.heap.size;omega)).trans s7.2.2.2.2.1,(World.cell?_setCell_far _ _ _ _ (by show w.heap.size≠wr.heap.size;omega)).trans s7.2.2.2.2.2⟩ (fun h=>by cases h) ?_
   clear hK K
   (try simp only [Act.put,zz4,zz5,zz6])
   refine wE (by kernel_rfl) ?_
   have HF2:=jj (kipTo_succ p.ks i hil)
   obtain ⟨r1,r2,r3,r4,r5,r6,r7⟩:=kid_round2 5 PR_mono' hs0 (by omega) KD.out HO.out HFk.out HFh.out HC.out hB (by omega) (zz8 _) HBu.out HFrA.out HFsA.out hown7 hgr7
   have R1:=jj r1
   have R2:=jj r2
   have R3:=jj r3
   have R4:=jj r4
   have R5:=jj r5
   have R6:=jj r6
   clear r1 r2 r3 r4 r5 r6 hown7 hgr7 hat7 hrow7 n7 l7 s7 z71 zf71 hSA zA zfA hkA hSB hS1 hT1 zT zfT hkT HCALL
   go_wp2
   go_roundw
   case rel=>exact ⟨i+1,_,_,hil,by go_num,R1,by rw [HF2.out];exact R2.out,R3,R4,R5,R6.out,r7⟩
   case measure=>(simp [intOf] <;> omega)
  ·have HO2:=HO.out
   rw [kipTo_all p.ks (by omega)] at HO2
   have hln:=congrArg List.length (kipTo_all p.ks (i:=i) (by omega))
   obtain ⟨FF,hf1,hf2,hf3⟩:=kid_done (H:=w.heap.size+2) HO2 HFk.out HFh.out (zz8 _)
   have HF1:=jj hf1
   have HF2:=jj hf2
   have HF3:=jj hf3
   have e0:=(KD.out.cell 0).trans (show _=some (.int .i64 p.op) from by simp)
   have e1:=(KD.out.cell 1).trans (show _=some (.int .i64 p.ct) from by simp)
   have e2:=(KD.out.cell 2).trans (show _=some (.int .i64 p.n) from by simp)
   have e3:=(KD.out.cell 3).trans (show _=some (.int .i64 p.m) from by simp)
   have e4:=(KD.out.cell 4).trans (show _=some (.int .i64 p.va) from by simp)
   have e5:=(KD.out.cell 5).trans (show _=some (.slice kA (kipTo p.ks i).length kcap) from by simp)
   have HLN:=jj hln
   have RR:=jj (R0.out.same (HC.out.block _ R0.out.lt (by simp)))
   have rlt:=RR.out.lt
   have rc0:=(RR.out.cell 0).trans (show _=some (.int .i64 0) from by simp)
   have rf0:=RR.out.frozen 0
   have rc1:=(RR.out.cell 1).trans (show _=some (.int .i64 0) from by simp)
   have rf1:=RR.out.frozen 1
   have rc2:=(RR.out.cell 2).trans (show _=some (.int .i64 0) from by simp)
   have rf2:=RR.out.frozen 2
   have rc3:=(RR.out.cell 3).trans (show _=some (.int .i64 0) from by simp)
   have rf3:=RR.out.frozen 3
   have rc4:=(RR.out.cell 4).trans (show _=some (.int .i64 0) from by simp)
   have rf4:=RR.out.frozen 4
   have rc5:=(RR.out.cell 5).trans (show _=some (.slice none 0 0) from by simp)
   have rf5:=RR.out.frozen 5
   clear hf1 hf2 hf3 HO2 hln
   go_wp2
   clear e0 e1 e2 e3 e4 e5 rc0 rf0 rc1 rf1 rc2 rf2 rc3 rf3 rc4 rf4 rc5 rf5
   refine bodyPost_ret (zA2 rfl _ _ (w.heap.size+1) 43 #[p.op,p.ct,p.n,p.m,p.va,.slice kA (kipTo p.ks i).length kcap] (0,0) _ rfl (RR.out.six _ _ _ _ _ _) Tryz.underlying43 rfl rfl) rfl ?_
   have hkp:Kept FF wr _:=zAM (w:=wr) (H:=w.heap.size+1) (fun b hb=>by have:=(HF3.out b hb).1;omega) (.int .i64 p.op) (.int .i64 p.ct) (.int .i64 p.n) (.int .i64 p.m) (.int .i64 p.va) (.slice kA (kipTo p.ks i).length kcap)
   refine ⟨[p.op,p.ct,p.n,p.m,p.va,.slice kA (kipTo p.ks i).length kcap],FF,rfl,below_six hB (by omega) _ _ _ _ _ _,?_,HF2.out.kept hkp,fun b hb=>⟨by have:=(HF3.out b hb).1;omega,?_⟩⟩
   ·exact (zA8 _ _ _).2 ⟨_,rfl,ArrP.mono (by rw [HLN.out];exact HF1.out) hkp⟩
   ·rw [zAO];exact (HF3.out b hb).2
theorem impl_ownPattern:∀ p,CopyP 93 p:=P.indv impl_ownPattern_of
def OwnPs (fn:FuncId) (ps:List P):Prop:=∀ (w:World) (x:Value) (F:List Nat),Arr w (PR w) ps x F→Under w F→(∀ q∈ps,q.size≤1048576)→ps.length≤1000 →
 Calls Tryz.prog fn #[x] w fun e w'=>∃ v G,e=.returned v∧Below w w w'∧Arr w' (PR w') ps v G∧Free w' G∧Fresh w w' G
set_option maxHeartbeats 6400000 in
theorem impl_ownPatterns (ps:List P):OwnPs 66 ps:=by
 intro w x F hx hf hz hl
 obtain ⟨A4,cap4,rfl,hc3,hc4⟩:=hx.form
 obtain ⟨i0,hi,hz0,hz1,hz2⟩:=info_parts info_PE
 have HZ:=jj hz
 clear hz
 have HI:=jj hi
 have HZ0:=jj hz0
 have HZ1:=jj hz1
 have HZ2:=jj hz2
 have HX:=jj hx
 have HF:=jj hf
 clear hi hz0 hz1 hz2 hx hf
 go_enter Tryz.func66,Tryz.ntmps66
 go_wp2
 go_loopw [3,8] (fun ov iv wr=>∃ i:Nat,∃ Fo:List Nat,i≤ps.length∧iv=.int .i64 i∧Hid (Own wr w.heap.size 43 6 PR (kipTo ps i) ov Fo)∧Hid (Free wr Fo)∧Hid (∀ b∈Fo,w.heap.size≤b)∧Below w w wr) (fun _ iv _=>ps.length-(intOf iv).toNat)
 case atStart=>exact ⟨0,[],Nat.zero_le _,rfl,(show Own _ _ _ _ _ (kipTo ps 0) _ _ from Own.nil _ _ _ _ _),Free.nil _,(fun b hb=>by cases hb),zy2 _ _⟩
 case round =>
  obtain ⟨i,Fo,hi,rfl,HO,HFr,HFo,hB⟩:=hrel
  obtain ⟨oA,ocap,hov,-,-⟩:=HO.out.form
  subst hov
  have hkk:=kipTo_len ps i
  by_cases hil:i<ps.length
  ·obtain ⟨b4,off4,rfl⟩:=HX.out.ptr (by omega)
   obtain ⟨A7,cap7,G7,hb7,k0,k1,k2,k3,k4,k5,HV7,HG7,-,-,-⟩:=ArrP.at HX.out HF.out hB i hil
   have g1:(0:Int)≤(i:Int):=by omega
   have g2:(i:Int)<(ps.length:Int):=by omega
   have HKS:=jj (HZ.out ps[i] (List.getElem_mem hil))
   have HF2:=jj (kipTo_succ ps i hil)
   have hmx:(kipTo ps i).length+1≤maxLen:=by unfold maxLen;omega
   have hby:((kipTo ps i).length+1)*64≤140737488355328:=by omega
   obtain ⟨q,hq⟩:∃ u,u=ps[i]:=⟨_,rfl⟩
   rw [←hq] at k0 k1 k2 k3 k4 k5 HV7 HKS HF2
   clear hq
   go_wp2_with fail
   obtain ⟨wk,hwk⟩:∃ wk,wk=wr.alloc (.cells #[q.op,q.ct,q.n,q.m,q.va,.slice A7 q.ks.length cap7] 43):=⟨_,rfl⟩
   have hBk:Below wr wr wk:=by rw [hwk];exact (zy2 _ _).alloc (zz8 _) _
   rw [←hwk]
   clear hwk
   have hBw:=hB.trans (hBk.mono hB.size)
   refine (impl_ownPattern q wk _ G7 (HV7.out.below hBw HG7.out) (HG7.out.mono hBw.size) HKS.out).mono ?_
   rintro e wA ⟨csA,FA,rfl,hbA,hpA,hfrA,hfsA⟩
   obtain ⟨kvA,rfl,haA⟩:=(zA8 _ _ _).1 hpA
   obtain ⟨A8,cap8,rfl,-,-⟩:=haA.form
   clear haA k0 k1 k2 k3 k4 k5 hb7
   have hBu:=hBk.trans (hbA.mono hBk.size)
   have HBA:=jj (hB.trans (hBu.mono hB.size))
   have HOA:=jj (HO.out.below (fun x cs G hk h=>PR_mono' _ _ x cs G hk h) hBu)
   have HPA:=jj hpA
   have HFrA:Hid (Free wA (Fo ++ FA)):=free_app (HFr.out.kept (.of_below hBu HO.out.under)) hfrA (fun b hb hG=>by have h1:=HO.out.under b hb;have h2:=(hfsA b hG).1;have h3:=hBk.size;omega)
   have HFsA:Hid (∀ b∈FA,wr.heap.size≤b∧b<wA.heap.size):=fun b hb=>⟨Nat.le_trans hBk.size (hfsA b hb).1,(hfsA b hb).2⟩
   have HFO2:Hid (∀ b∈Fo ++ FA,w.heap.size≤b):=fun b hb=>by
    rcases List.mem_append.1 hb with h | h
    ·exact HFo.out b h
    ·exact Nat.le_trans hB.size (HFsA.out b h).1
   have HRW:Hid (∀ g∈rowOf (.slice oA (kipTo ps i).length ocap),g∉Fo ++ FA∧w.heap.size≤g):=fun g hg=>⟨fun h=>by
    rcases List.mem_append.1 h with h | h
    ·exact HO.out.apart g hg h
    ·exact Nat.lt_irrefl _ (zz9 (HO.out.row g hg).2 (HFsA.out g h).1),(HO.out.row g hg).1⟩
   have HUA:Hid (Under wA (Fo ++ FA)):=fun b hb=>by
    rcases List.mem_append.1 hb with h | h
    ·exact zz9 (HO.out.under b h) hBu.size
    ·exact (HFsA.out b h).2
   have hbs:=HBA.out.size
   clear hBu hBk hBw hbA hpA hfrA hfsA hB
   go_wp2_with (at_builtin;refine Halt.mk ?_)
   refine Halt.of (zA6 (P:=Tryz.prog) rfl _ _ 41 rfl i0 _ 64 Tryz.underlying41 HI.out HZ0.out HZ1.out HZ2.out rfl (by decide) PR_len' PR_mono' (by rfl) HOA.out q 43 [q.op,q.ct,q.n,q.m,q.va,.slice A8 q.ks.length cap8] FA _ (by rfl) (by simp) (by simp [Value.oneCell']) HPA.out (fun b hb=>(HFsA.out b hb).2) (fun g hg h=>(HRW.out g hg).1 (List.mem_append.2 (.inr h))) hmx hby hbs ?_)
   intro g cp w7 hown7 hgr7 hat7
   have hB7:Below w w w7:=(HBA.out.alloc HBA.out.size _).grown hgr7 (by simp;omega) (fun g hg=>(HRW.out g (zA1.2 hg)).2)
   have HFr7:Hid (Free w7 (Fo ++ FA)):=HFrA.out.kept fun b hb=>(hgr7.block b (by have:=HUA.out b hb;rw [World.size_alloc];omega) (fun e=>(HRW.out b (zA1.2 e.symm)).1 hb)).trans (Below.heap_alloc _ _ _ (HUA.out b hb))
   have HO7:=jj hown7
   clear hown7 hgr7 hat7
   go_wp2
   go_roundw
   case rel=>exact ⟨i+1,_,hil,by go_num,(by rw [HF2.out];exact HO7.out),HFr7.out,HFO2.out,hB7⟩
   case measure=>(simp [intOf] <;> omega)
  ·have HO2:=HO.out
   rw [kipTo_all ps (by omega)] at HO2
   have HLN:=jj (congrArg List.length (kipTo_all ps (i:=i) (by omega)))
   have HFin:Hid (∃ v G,Ending.returned (.slice oA (kipTo ps i).length ocap)=.returned v∧Below w w wr∧Arr wr (PR wr) ps v G∧Free wr G∧Fresh w wr G):=by
    obtain ⟨FF,hf1,hf2,hf3⟩:=kid_done (H:=w.heap.size) HO2 HFr.out HFo.out (zz8 _)
    exact ⟨_,FF,rfl,hB,(by rw [HLN.out];exact hf1),hf2,hf3⟩
   clear HO2
   go_wp2
   go_ret
   exact HFin.out
theorem step_pushP {α:Type} {w:World} {B k:Nat} {E:TypeId} {R:World→α→List Value→List Nat→Prop} {xs:List α} {v:Value} {F:List Nat} {P:Program} {ops:Array Oper} {o:Oper} {a:Act} {K:Act→World→Prop} {Q:Exit→Act→World→Prop} {EE:Prop} (hgd:o.guard=none) (s x:Operand) (t:TypeId)
  (ho:o.op=.call { callee:=.builtin .append,args:=#[s,x],argTypes:=#[t,t] })
  (i:TypeInfo) (z:Value) (bytes:Nat) (ht:P.underlying t=some (.slice E)) (hi:P.info? E=some i) (hz:i.zero=some z)
  (hsize:i.size=k) (hby:i.bytes=bytes) (hzs:z.cells.size=k) (hk:0<k)
  (hRl:∀ w x cs G,R w x cs G→cs.length=k) (hRm:∀ w w' x cs G,Kept G w w'→R w x cs G→R w' x cs G)
  (hs:a.eval s=v) (hown:Own w B E k R xs v F) (y:α) (T:TypeId) (news:List Value) (G:List Nat)
  (H:Nat) (hx:a.eval x=.slice (some ⟨H,0,none⟩) 1 1) (hH:Blk w H T news.toArray) (h1:∀ u∈news,u.oneCell'=true)
  (hy:R w y news G) (hG:Under w G) (hvG:∀ g∈rowOf v,g∉G)
  (h63:xs.length+1≤maxLen) (hbytes:(xs.length+1)*bytes≤140737488355328) (hbase:B≤w.heap.size)
  (h:∀ g cap w',Own w' B E k R (xs ++ [y]) (.slice (some ⟨g,0,none⟩) (xs.length+1) cap) (F ++ G)→w.grownBy w' v.ownBlock→(v.ownBlock=some g∨g=w.heap.size) →
   K (a.put o.dst (.slice (some ⟨g,0,none⟩) (xs.length+1) cap)) w'):if Region.wanted o (yielded ops a.tmps)=true then Oper.wp P o a w K Q else EE :=
 step_push hgd s x t ho i z bytes ht hi hz hsize hby hzs hk (hRl _) (fun w'=>hRm _ w') hs hown [y] ⟨H,0,none⟩ 1 news G hx (fun j u hj=>by
   rw [Addr.add_lit,Nat.zero_add,hH.cell]
   simpa using hj) h1 (Flat.one hy) hG hvG Nat.zero_lt_one h63 hbytes hbase
  (fun g cap w' h2 h3 h4=>h g cap w' h2 h3 h4)
theorem wpList_append_runP {P:Program} {w:World} {ops:Array Oper} {rest:List Oper} {o:Oper} {a:Act} {Q:Exit→Act→World→Prop} (hgd:o.guard=none) (s x:Operand) (t:TypeId)
  (ho:o.op=.call { callee:=.builtin .append,args:=#[s,x],argTypes:=#[t,t] }) {sv xv v':Value} {w':World} (hs:a.eval s=sv) (hx:a.eval x=xv)
  (hr:(Builtin.append_ #[t,t] o.type #[sv,xv]).run P w=.ok v' w') (h:wpList P ops Q rest (a.put o.dst v') w'):wpList P ops Q (o :: rest) a w:=by
 refine wpList_plain hgd fun K hK=>?_
 unfold Oper.wp execOp
 simp only [ho,resolve,invoke,builtin,Sem.run_bind,Sem.run_pure,Result.andThen_ok,List.map_toArray,List.map_cons,List.map_nil,hs,hx,hr]
 exact hK _ _ h
def ClonedP (ks:List P) (w:World) (F:List Nat) (e:Ending) (w':World):Prop:=∃ v G,e=.returned v∧Below w w w'∧Own w' w.heap.size 43 6 PR ks v G∧∀ b∈G,b∈F
theorem Clone_P (ks:List P) (hk:ks.length≤1000) (w:World) (x:Value) (F:List Nat) (hx:Arr w (PR w) ks x F) (hf:Under w F):Calls Tryz.prog 94 #[x] w (ClonedP ks w F):=by
 obtain ⟨A,cap,rfl,hc1,hc2⟩:=hx.form
 obtain ⟨i0,hi,hz0,hz1,hz2⟩:=info_parts info_PE
 have HI:=jj hi
 have HZ0:=jj hz0
 have HZ1:=jj hz1
 have HZ2:=jj hz2
 have HX:=jj hx
 have HF:=jj hf
 clear hi hz0 hz1 hz2 hx hf
 have qT:∀ (w:World) (a:Option Addr) (n c n' c':Nat),(binOp .eql 41 (.slice a n c) (.slice none n' c')).run Tryz.prog w=.ok (.bool a.isNone) w:=fun w a n c n' c'=>Lib.run_eql_slice_nil w _ _ a n c n' c' Tryz.underlying41
 cases A with
 |none =>
  have hz:ks=[]:=by
   obtain ⟨A',cap',hv,h1,h2,h3⟩:=HX.out
   cases hv
   rcases h3 with ⟨h,-⟩ | ⟨b,off,cs,G,h,-⟩
   ·exact h
   ·cases h
  subst hz
  go_enter Tryz.func94,Tryz.ntmps94
  go_wp2
  go_ret
  exact ⟨_,[],rfl,zy2 _ _,Own.nil _ _ _ _ _,fun b hb=>by cases hb⟩
 |some ad =>
  have hB0:Below w w (w.alloc (.cells #[] 43)):=(zy2 _ _).alloc (zz8 _) _
  have hO0:Own (w.alloc (.cells #[] 43)) w.heap.size 43 6 PR ([]:List P) (.slice (some ⟨w,0,none⟩) 0 0) []:=Own.made w _ _ _ _ _ 0 (zz8 _) (by simp [maxLen]) rfl
  have hX0:Arr (w.alloc (.cells #[] 43)) (PR (w.alloc (.cells #[] 43))) ks (.slice (some ad) ks.length cap) F:=ArrP.below HX.out hB0 HF.out
  obtain ⟨v',w',G,hr,ho,hG,hgr,hat⟩:=zAA (P:=Tryz.prog) 41 41 i0 _ 64 Tryz.underlying41 HI.out HZ0.out HZ1.out HZ2.out rfl (by decide) PR_len' PR_mono' PR_one hO0 hX0 (HF.out.mono hB0.size) (fun g hg hgF=>by rw [zA3,zy1] at hg;subst hg;exact Nat.lt_irrefl _ (HF.out _ hgF)) (by simp;omega) (by simp;omega) hB0.size
  rw [List.nil_append,List.nil_append] at ho
  have hB':Below w w w':=hB0.grown hgr hB0.size (fun g hg=>by
   have hg:some w.heap.size=some g:=hg
   cases hg;exact zz8 _)
  have HFin:Hid (ClonedP ks w F (.returned v') w'):=⟨v',G,rfl,hB',ho,hG⟩
  have HRUN:=jj hr
  clear hr ho hB' hgr hat hG hX0 hO0 hB0
  go_enter Tryz.func94,Tryz.ntmps94
  go_wp2_with (at_builtin;refine Halt.mk ?_)
  refine Halt.of (wpList_append_runP rfl _ _ 41 rfl (by rfl) (by rfl) HRUN.out ?_)
  go_wp2
  go_ret
  exact HFin.out
def MadeSp (vs:List P) (w:World) (e:Ending) (w':World):Prop:=∃ v F,e=.returned v∧Below w w w'∧Own w' w.heap.size 43 6 PR vs v F∧∀ b∈F,w.heap.size≤b
def SpP (p:P):Prop:=∀ (w:World) (cs:List Value) (G:List Nat),PR w p cs G→Under w G→Shp p→p.size≤900→(P.spl p).length≤400→Calls Tryz.prog 67 #[.agg cs.toArray] w (MadeSp (P.spl p) w)
theorem ks_len (p:P):p.ks.length≤p.size:=by
 obtain ⟨op,ct,n,m,va,ks⟩:=p
 show ks.length≤P.sizes ks
 rw [P.sizes_eq];omega
theorem Own.under_ifP {w:World} {B:Nat} {E:TypeId} {vs:List P} {v:Value} {F:List Nat} (h:Own w B E 6 PR vs v F):Under w (if vs=[] then [] else rowOf v ++ F):=by
 by_cases hx:vs=[]
 ·rw [if_pos hx];exact Under.nil _
 ·rw [if_neg hx]
  intro b hb
  rcases List.mem_append.1 hb with hb | hb
  ·exact (h.row b hb).2
  ·exact h.under b hb
theorem Own.ge_ifP {w:World} {B L:Nat} {E:TypeId} {vs:List P} {v:Value} {F:List Nat} (h:Own w B E 6 PR vs v F) (hB:L≤B) (hF:∀ b∈F,L≤b):∀ b∈(if vs=[] then [] else rowOf v ++ F),L≤b:=fun b hb=>by
 split at hb
 ·cases hb
 ·rcases List.mem_append.1 hb with hb | hb
  ·exact Nat.le_trans hB (h.row b hb).1
  ·exact hF b hb
theorem own_oneP (w:World) (B:Nat) (hB:B≤w.heap.size) (y:P) (cs:List Value) (hl:cs.length=6) (hR:PR (w.alloc (.cells cs.toArray 43)) y cs []):Own (w.alloc (.cells cs.toArray 43)) B 43 6 PR [y] (.slice (some ⟨w,0,none⟩) 1 1) []:=by
 refine ⟨cs,⟨by rw [hl];rfl,.inr ⟨w.heap.size,1,cs.toArray,rfl,hB,Blk.new w 43 cs.toArray,zz8 _,by simp [maxLen],by simpa using hl,?_⟩⟩,Flat.one hR,Under.nil _,fun g hg hn=>by cases hn⟩
 simp only [List.length_cons,List.length_nil,Nat.zero_add,Nat.one_mul]
 rw [←hl,List.take_length]
set_option maxHeartbeats 8000000 in
theorem split_of (p:P) (ih:∀ k∈p.ks,SpP k):SpP p:=by
 intro w cs G hp hg hs hz hn
 obtain ⟨kv,rfl,ha⟩:=(zA8 _ _ _).1 hp
 obtain ⟨A4,cap4,rfl,hc3,hc4⟩:=ha.form
 obtain ⟨i0,hi,hz0,hz1,hz2⟩:=info_parts info_PE
 have IH:=jj ih
 have HI:=jj hi
 have HZ0:=jj hz0
 have HZ1:=jj hz1
 have HZ2:=jj hz2
 have HA:=jj ha
 have HG:=jj hg
 clear hi hz0 hz1 hz2 ha hg
 clear ih hp
 by_cases h5:p.op=5
 ·have t5:(p.op==5)=true:=by simp [h5]
  obtain ⟨hl2,heq⟩:=Shp.or hs h5
  have hlen:(P.spl p).length=(P.spl (p.ks[0]'(by omega))).length+(P.spl (p.ks[1]'(by omega))).length:=by rw [heq,List.length_append]
  have hm0:p.ks[0]'(by omega)∈p.ks:=List.getElem_mem _
  have hm1:p.ks[1]'(by omega)∈p.ks:=List.getElem_mem _
  have HSH0:=jj (hs.kid hm0)
  have HSH1:=jj (hs.kid hm1)
  have hz0:=Nat.le_trans (Nat.le_of_lt (size_kid hm0)) hz
  have hz1:=Nat.le_trans (Nat.le_of_lt (size_kid hm1)) hz
  have g0:(0:Int)<(p.ks.length:Int):=by omega
  have g1:(1:Int)<(p.ks.length:Int):=by omega
  have gn0:0<p.ks.length:=by omega
  have gn1:1<p.ks.length:=by omega
  obtain ⟨W2,hW2⟩:∃ W2,W2=(w.alloc (.cells #[p.op,p.ct,p.n,p.m,p.va,.slice A4 p.ks.length cap4] 43)):=⟨_,rfl⟩
  have hB0:Below w w W2:=by rw [hW2];exact (zy2 _ _).alloc (zz8 _) _
  have KP:Hid (Blk W2 w 43 #[p.op,p.ct,p.n,p.m,p.va,.slice A4 p.ks.length cap4]):=by rw [hW2];exact Blk.new _ _ _
  obtain ⟨kb,koff,rfl⟩:=HA.out.ptr (by omega)
  obtain ⟨k0A,k0cap,G0,hkb,k0z0,k0z1,k0z2,k0z3,k0z4,k0z5,HK0,HG0,-,-,-⟩:=ArrP.at HA.out HG.out hB0 0 (by omega)
  obtain ⟨k1A,k1cap,G1,-,k1z0,k1z1,k1z2,k1z3,k1z4,k1z5,HK1,HG1,-,-,-⟩:=ArrP.at HA.out HG.out hB0 1 (by omega)
  simp only [Nat.zero_mul,Nat.add_zero,Nat.one_mul] at k0z0 k0z1 k0z2 k0z3 k0z4 k0z5 k1z0 k1z1 k1z2 k1z3 k1z4 k1z5
  obtain ⟨k0,hk0⟩:∃ u,u=p.ks[0]'(by omega):=⟨_,rfl⟩
  obtain ⟨k1,hk1⟩:∃ u,u=p.ks[1]'(by omega):=⟨_,rfl⟩
  rw [←hk0,←hk1] at heq hlen
  rw [←hk0] at hm0 hz0 HSH0 HK0 k0z0 k0z1 k0z2 k0z3 k0z4 k0z5
  rw [←hk1] at hm1 hz1 HSH1 HK1 k1z0 k1z1 k1z2 k1z3 k1z4 k1z5
  clear hk0 hk1
  have HEQ:=jj heq
  clear h5 heq hl2 hs
  have z0:(w.alloc (.cells #[p.op,p.ct,p.n,p.m,p.va,.slice (some ⟨kb,koff,none⟩) p.ks.length cap4] 43)).cell? ⟨w,0,none⟩=p.op:=((Blk.new w 43 _).cell 0).trans (by simp)
  go_enter Tryz.func67,Tryz.ntmps67
  go_wp2_with fail
  rw [←hW2]
  clear hW2
  go_wp2_with fail
  have HS:Hid (∀ C:World,Below W2 W2 C→(C.cell? ⟨w,5,none⟩=some (.slice (some ⟨kb,koff,none⟩) p.ks.length cap4)∧C.cell? ⟨kb,koff,none⟩=k0.op∧C.cell? ⟨kb,koff+1,none⟩=k0.ct∧C.cell? ⟨kb,koff+2,none⟩=k0.n∧C.cell? ⟨kb,koff+3,none⟩=k0.m∧C.cell? ⟨kb,koff+4,none⟩=k0.va∧C.cell? ⟨kb,koff+5,none⟩=some (.slice k0A k0.ks.length k0cap)∧C.cell? ⟨kb,koff+6,none⟩=k1.op∧C.cell? ⟨kb,koff+6+1,none⟩=k1.ct∧C.cell? ⟨kb,koff+6+2,none⟩=k1.n∧C.cell? ⟨kb,koff+6+3,none⟩=k1.m∧C.cell? ⟨kb,koff+6+4,none⟩=k1.va∧C.cell? ⟨kb,koff+6+5,none⟩=some (.slice k1A k1.ks.length k1cap))):=fun C hb=>⟨(hb.cell (KP.out.lt)).trans ((KP.out.cell 5).trans (by simp)),(hb.cell (hkb)).trans k0z0,(hb.cell (hkb)).trans k0z1,(hb.cell (hkb)).trans k0z2,(hb.cell (hkb)).trans k0z3,(hb.cell (hkb)).trans k0z4,(hb.cell (hkb)).trans k0z5,(hb.cell (hkb)).trans k1z0,(hb.cell (hkb)).trans k1z1,(hb.cell (hkb)).trans k1z2,(hb.cell (hkb)).trans k1z3,(hb.cell (hkb)).trans k1z4,(hb.cell (hkb)).trans k1z5⟩
  have hC0:Below W2 W2 W2.drew:=(zy2 _ _).drew
  refine wpBS HS.out (T:=fun _=>True) (d:=99) (by kernel_rfl) ?_
  obtain ⟨wd,hwd⟩:∃ X,X=W2.drew:=⟨_,rfl⟩
  rw [←hwd] at hC0  ⊢
  clear hwd
  have hS0:=HS.out _ hC0
  have hT0:True:=trivial
  refine wV 0 rfl hS0 hT0 ?_
  (try simp only [zz])
  refine wV 1 rfl hS0 hT0 ?_
  (try simp only [zz])
  refine wV 2 rfl hS0 hT0 ?_
  (try simp only [zz])
  refine wV 3 rfl hS0 hT0 ?_
  (try simp only [zz])
  refine wV 5 rfl hS0 hT0 ?_
  (try simp only [zz])
  refine wV 6 rfl hS0 hT0 ?_
  (try simp only [zz])
  refine wV 7 rfl hS0 hT0 ?_
  (try simp only [zz])
  refine wV 8 rfl hS0 hT0 ?_
  (try simp only [zz])
  refine w1 4 rfl fun K hK=>?_
  go_simp
  go_at_call 67
  refine (IH.out k0 hm0 wd _ G0 (HK0.out.below (hB0.trans (hC0.mono hB0.size)) HG0.out) (HG0.out.mono (Nat.le_trans hB0.size hC0.size)) HSH0.out hz0 (by omega)).mono ?_
  rintro e C8 ⟨v8,F8,rfl,hb8,ho8,hF8⟩
  have hC1:Below W2 W2 C8:=hC0.trans (hb8.mono hC0.size)
  have hS1:=HS.out _ hC1
  have HO8:=jj (ho8.base (B':=W2.heap.size) (fun g hg=>Nat.le_trans hC0.size (ho8.row g hg).1))
  have HF8:Hid (∀ b∈F8,w.heap.size≤b):=fun b hb=>Nat.le_trans (Nat.le_trans hB0.size hC0.size) (hF8 b hb)
  clear ho8 hF8
  (try dsimp only)
  refine hK.out _ _ hS1 (fun _=>trivial) ?_
  clear hK K
  (try simp only [zz])
  refine w1 9 rfl fun K hK=>?_
  go_simp
  go_at_call 67
  refine (IH.out k1 hm1 C8 _ G1 (HK1.out.below (hB0.trans (hC1.mono hB0.size)) HG1.out) (HG1.out.mono (Nat.le_trans hB0.size hC1.size)) HSH1.out hz1 (by omega)).mono ?_
  rintro e C9 ⟨v9,F9,rfl,hb9,ho9,hF9⟩
  have hC2:Below W2 W2 C9:=hC1.trans (hb9.mono hC1.size)
  have hS2:=HS.out _ hC2
  obtain ⟨A8,cap8,rfl,-,-⟩:=HO8.out.form
  obtain ⟨A9,cap9,rfl,-,-⟩:=ho9.form
  have HR8:Hid (∀ g∈rowOf (.slice A8 (P.spl k0).length cap8),g<C8.heap.size):=fun g hg=>(HO8.out.row g hg).2
  have HOa:=jj (HO8.out.below (fun x cs G hk h=>PR_mono' _ _ x cs G hk h) hb9)
  have HF9:Hid (∀ b∈(if P.spl k1=[] then [] else rowOf (.slice A9 (P.spl k1).length cap9) ++ F9),C8.heap.size≤b):=ho9.ge_ifP (zz8 _) hF9
  have hcs8:=hC1.size
  obtain ⟨v7,C7,F7,hr7,ho7,hG7,hgr7,hat7⟩:=zAA (P:=Tryz.prog) 41 41 i0 _ 64 Tryz.underlying41 HI.out HZ0.out HZ1.out HZ2.out rfl (by decide) PR_len' PR_mono' PR_one HOa.out ho9.arr ho9.under_ifP (fun g hg hgF=>Nat.lt_irrefl _ (zz9 (HR8.out g hg) (HF9.out g hgF))) (by omega) (by omega) hC2.size
  have hC7:Below W2 W2 C7:=hC2.grown hgr7 hC2.size (fun g hg=>(HO8.out.row g (zA1.2 hg)).1)
  have HR7:=jj hr7
  rw [←HEQ.out] at ho7
  have HO7:=jj (ho7.base (B':=w.heap.size) (fun g hg=>Nat.le_trans hB0.size (ho7.row g hg).1))
  have HF7:Hid (∀ b∈F8 ++ F7,w.heap.size≤b):=fun b hb=>by
   rcases List.mem_append.1 hb with hb | hb
   ·exact HF8.out b hb
   ·exact Nat.le_trans (Nat.le_trans hB0.size hcs8) (HF9.out b (hG7 b hb))
  clear ho9 hF9 hr7 ho7 hG7 hgr7 hat7
  (try dsimp only)
  refine hK.out _ _ hS2 (fun _=>trivial) ?_
  clear hK K
  (try simp only [zz])
  refine w1 10 rfl fun K hK=>?_
  refine zAB (P:=Tryz.prog) rfl _ _ 41 rfl (by rfl) (by rfl) HR7.out ?_
  (try dsimp only)
  refine hK.out _ _ (HS.out _ hC7) (fun _=>trivial) ?_
  clear hK K
  (try simp only [zz])
  refine wV 11 rfl (HS.out _ hC7) hT0 ?_
  (try simp only [zz])
  refine wE (by kernel_rfl) ?_
  clear hS0 hS1 hS2 hT0
  go_wp2
  go_ret
  exact ⟨_,_,rfl,hB0.trans (hC7.mono hB0.size),HO7.out,HF7.out⟩
 ·have t5:(p.op==5)=false:=by simp [h5]
  have H5:=jj h5
  have HSO:=jj hs.ok
  have HSH:=jj hs
  have HN:=jj hn
  have hkz:=Nat.le_trans (ks_len p) hz
  clear h5 hs hn
  go_enter Tryz.func67,Tryz.ntmps67
  go_wp2_with fail
  obtain ⟨w3,hw3⟩:∃ X,X=w.alloc (.cells #[p.op,p.ct,p.n,p.m,p.va,.slice none 0 0] 43):=⟨_,rfl⟩
  have hB3:Below w w w3:=by rw [hw3];exact (zy2 _ _).alloc (zz8 _) _
  have h23:w.heap.size≤w3.heap.size:=hB3.size
  have e3:w3.heap.size=w.heap.size+1:=by rw [hw3];simp
  rw [←hw3]
  clear hw3
  obtain ⟨w4,hw4⟩:∃ X,X=w3.alloc (.cells [.int .i64 p.op,.int .i64 p.ct,.int .i64 p.n,.int .i64 p.m,.int .i64 p.va,.slice none 0 0].toArray 43):=⟨_,rfl⟩
  have hB4:Below w w w4:=by rw [hw4];exact hB3.alloc hB3.size _
  have HL0:Hid (Own w4 w.heap.size 43 6 PR (splTo p 0) (.slice (some ⟨w3,0,none⟩) 1 1) []):=by
   rw [splTo_zero,hw4]
   exact own_oneP w3 w.heap.size h23 (p.re []) [p.op,p.ct,p.n,p.m,p.va,.slice none 0 0] rfl ((zA8 _ _ _).2 ⟨_,rfl,Arr.nil⟩)
  rw [e3] at HL0
  clear e3
  have hw4':=hw4
  simp only [List.toArray] at hw4'
  first | rw [←hw4] | rw [←hw4']
  clear hw4 hw4'
  go_wp2
  go_loopw [4,35] (fun lv jv wr=>∃ j:Nat,∃ Fl:List Nat,j≤p.ks.length∧jv=.int .i64 j∧Hid (Own wr w.heap.size 43 6 PR (splTo p j) lv Fl)∧Hid (∀ b∈Fl,w.heap.size≤b)∧Hid (Below w4 w4 wr)) (fun _ jv _=>p.ks.length-(intOf jv).toNat)
  case atStart=>exact ⟨0,[],Nat.zero_le _,rfl,HL0.out,(fun b hb=>by cases hb),zy2 _ _⟩
  case round =>
   clear HL0
   obtain ⟨j,Fl,hj,rfl,HL,HFl,HB⟩:=hrel
   obtain ⟨lA,lcap,hlv,-,-⟩:=HL.out.form
   subst hlv
   obtain ⟨wp,hwp⟩:∃ wp,wp=wr:=⟨_,rfl⟩
   rw [←hwp] at HL HB ⊢
   clear hwp
   have hB:=hB4.trans (HB.out.mono hB4.size)
   by_cases hjl:j<p.ks.length
   ·have g1:(0:Int)≤(j:Int):=by omega
    have g2:(j:Int)<(p.ks.length:Int):=by omega
    obtain ⟨b4,off4,rfl⟩:=HA.out.ptr (by omega)
    obtain ⟨A7,cap7,G7,hb7,k0,k1,k2,k3,k4,k5,HV7,HG7,hgs7,-,-⟩:=ArrP.at HA.out HG.out hB j hjl
    have hkm:p.ks[j]∈p.ks:=List.getElem_mem hjl
    have HSK:=jj (HSH.out.kid hkm)
    have hkz2:=Nat.le_trans (Nat.le_of_lt (size_kid hkm)) hz
    have hls:=splTo_le H5.out HSO.out.pos (j+1)
    have hl0:=splTo_le H5.out HSO.out.pos j
    have hsl:=splTo_len_succ p j hjl
    have hkl:=spl_kid_le H5.out HSO.out.pos j hjl
    have hn4:=HN.out
    have HKJ:Hid ((P.spl p.ks[j]).length≤400):=by unfold Hid;omega
    have HPR:Hid ((splTo p j).length*(P.spl p.ks[j]).length≤400):=by unfold Hid;omega
    have hll:(splTo p j).length≤400:=by omega
    have HSU:=jj (splTo_succ p j hjl)
    have HHD:=jj (splTo_each p j)
    clear hls hl0 hsl hkl hn4
    obtain ⟨kj,hkj⟩:∃ u,u=p.ks[j]:=⟨_,rfl⟩
    rw [←hkj] at k0 k1 k2 k3 k4 k5 HV7 hkm HSK hkz2 HKJ HPR HSU
    clear hkj
    go_wp2_with fail
    obtain ⟨w9,hw9⟩:∃ w9,w9=wp.alloc (.cells #[kj.op,kj.ct,kj.n,kj.m,kj.va,.slice A7 kj.ks.length cap7] 43):=⟨_,rfl⟩
    have hb9:Below wp wp w9:=by rw [hw9];exact (zy2 _ _).alloc (zz8 _) _
    have K9:Blk w9 wp 43 #[kj.op,kj.ct,kj.n,kj.m,kj.va,.slice A7 kj.ks.length cap7]:=by rw [hw9];exact Blk.new _ _ _
    rw [←hw9]
    clear hw9
    obtain ⟨z0,z1,z2,z3,z4,z5,klt⟩:=K9.c6
    have HB9:Hid (Below w4 w4 w9):=HB.out.trans (hb9.mono HB.out.size)
    have hB9:=hB.trans (hb9.mono hB.size)
    have HL9:=jj (HL.out.below (fun x cs G hk h=>PR_mono' _ _ x cs G hk h) hb9)
    clear hb9 HL HB hB k0 k1 k2 k3 k4 k5 hb7 K9
    go_wp2_with fail
    refine (IH.out kj hkm w9 _ G7 (HV7.out.below hB9 HG7.out) (HG7.out.mono hB9.size) HSK.out hkz2 HKJ.out).mono ?_
    rintro e w10 ⟨kv0,Fk,rfl,hb10,hok,hfk⟩
    clear z0 z1 z2 z3 z4 z5 klt
    have hB10:=hB9.trans (hb10.mono hB9.size)
    have HB10:Hid (Below w4 w4 w10):=HB9.out.trans (hb10.mono HB9.out.size)
    have HLa:=jj (HL9.out.below (fun x cs G hk h=>PR_mono' _ _ x cs G hk h) hb10)
    have h210:w.heap.size≤w10.heap.size:=hB10.size
    have HKA:=jj hok.arr
    have HKU:=jj hok.under_ifP
    have HKL:Hid (∀ b∈(if P.spl kj=[] then [] else rowOf kv0 ++ Fk),w.heap.size≤b):=hok.ge_ifP hB9.size (fun b hb=>Nat.le_trans hB9.size (hfk b hb))
    obtain ⟨kA,kcap,rfl,-,-⟩:=hok.form
    generalize hFK:(if P.spl kj=[] then [] else rowOf (.slice kA (P.spl kj).length kcap) ++ Fk)=FK at *
    clear hok hfk hb10 HL9 HB9 hB9 hFK
    have HLR:=jj HLa.out.arr
    have HLU:=jj HLa.out.under_ifP
    have HLL:Hid (∀ b∈(if splTo p j=[] then [] else rowOf (.slice lA (splTo p j).length lcap) ++ Fl),w.heap.size≤b):=HLa.out.ge_ifP (zz8 _) HFl.out
    generalize hFL:(if splTo p j=[] then [] else rowOf (.slice lA (splTo p j).length lcap) ++ Fl)=FL at *
    clear hFL HLa
    generalize hki:P.spl kj=ki at *
    clear hki
    generalize hli:splTo p j=li at *
    clear hli
    go_wp2
    go_loopw [8,43] (fun mv pv wr=>∃ a:Nat,∃ Fm:List Nat,a≤li.length∧pv=.int .i64 a∧Hid (Own wr w10.heap.size 43 6 PR (growRTo li ki a) mv Fm)∧Hid (∀ b∈Fm,w.heap.size≤b)∧Hid (Below w10 w10 wr)) (fun _ pv _=>li.length-(intOf pv).toNat)
    case atStart=>exact ⟨0,[],Nat.zero_le _,rfl,(show Own _ _ _ _ _ (growRTo li ki 0) _ _ from Own.nil _ _ _ _ _),(fun b hb=>by cases hb),zy2 _ _⟩
    case round =>
     obtain ⟨a,Fm,ha,rfl,HM,HFM,HBM⟩:=hrel
     obtain ⟨mA,mcap,hmv,-,-⟩:=HM.out.form
     subst hmv
     have hpl:=growRTo_len li ki a ha
     have HPL:=jj hpl
     obtain ⟨wq,hwq⟩:∃ wq,wq=wr:=⟨_,rfl⟩
     rw [←hwq] at HM HBM ⊢
     clear hwq hpl
     by_cases hal:a<li.length
     ·have g5:(0:Int)≤(a:Int):=by omega
      have g6:(a:Int)<(li.length:Int):=by omega
      obtain ⟨b8,off8,rfl⟩:=HLR.out.ptr (by omega)
      obtain ⟨vA,vcap,Gv,hb8l,v0,v1,v2,v3,v4,v5,HVv,HVu,HVs,-,-⟩:=ArrP.at HLR.out HLU.out HBM.out a hal
      have HGS:=jj (growRTo_succ li ki a hal)
      have hhd:=HHD.out li[a] (List.getElem_mem hal)
      have hmul:(a+1)*ki.length≤li.length*ki.length:=Nat.mul_le_mul_right _ hal
      have hpr:=HPR.out
      have hpl2:=HPL.out
      have hms:(a+1)*ki.length=a*ki.length+ki.length:=by rw [Nat.succ_mul]
      have HPQ:Hid ((growRTo li ki a).length+ki.length≤400):=by unfold Hid;omega
      have HVS:=jj HVs
      clear hmul hpr hpl2 hms HVs HPL
      obtain ⟨lp,hlp⟩:∃ u,u=li[a]:=⟨_,rfl⟩
      rw [←hlp] at v0 v1 v2 v3 v4 v5 HVv HGS hhd
      clear hlp
      have hlk:lp.ks.length≤900:=by omega
      clear hhd
      go_wp2_with fail
      obtain ⟨w11,hw11⟩:∃ X,X=(wq.alloc (.cells #[lp.op,lp.ct,lp.n,lp.m,lp.va,.slice vA lp.ks.length vcap] 43)):=⟨_,rfl⟩
      have hb11:Below wq wq w11:=by rw [hw11];exact (zy2 _ _).alloc (zz8 _) _
      have hK11:Blk w11 wq 43 #[lp.op,lp.ct,lp.n,lp.m,lp.va,.slice vA lp.ks.length vcap]:=by rw [hw11];exact Blk.new _ _ _
      rw [←hw11]
      clear hw11
      have HB11:Hid (Below w10 w10 w11):=HBM.out.trans (hb11.mono HBM.out.size)
      have HM11:=jj (HM.out.below (fun x cs G hk h=>PR_mono' _ _ x cs G hk h) hb11)
      have HN11:Hid (wq.heap.size∉rowOf (.slice mA (growRTo li ki a).length mcap)):=fun h=>Nat.lt_irrefl _ (HM.out.row _ h).2
      have h10q:w10.heap.size≤wq.heap.size:=HBM.out.size
      have HK11:=jj hK11
      obtain ⟨bb,hbb⟩:∃ X,X=wq.heap.size:=⟨_,rfl⟩
      rw [←hbb] at HK11 HN11 h10q ⊢
      clear hb11 hK11 HM HBM v0 v1 v2 v3 v4 v5 hb8l hbb
      generalize hgp:growRTo li ki a=gp at *
      clear hgp
      go_wp2
      go_loopw [8,49] (fun mv sv wr=>∃ s:Nat,∃ Fn:List Nat,s≤ki.length∧sv=.int .i64 s∧Hid (Own wr w10.heap.size 43 6 PR (moreR gp lp ki s) mv Fn)∧Hid (∀ b∈Fn,w.heap.size≤b)∧Hid (Below w10 w10 wr)∧Hid (Blk wr bb 43 #[lp.op,lp.ct,lp.n,lp.m,lp.va,.slice vA lp.ks.length vcap])∧Hid (bb∉rowOf mv)) (fun _ sv _=>ki.length-(intOf sv).toNat)
      case atStart=>exact ⟨0,Fm,Nat.zero_le _,rfl,(by rw [moreR_zero];exact HM11.out),HFM.out,HB11.out,HK11.out,HN11.out⟩
      case round =>
       clear HM11 HFM HB11 HK11 HN11
       obtain ⟨s,Fn,hs,rfl,HM,HFM,HBM,HK,HNB⟩:=hrel
       obtain ⟨mA,mcap,hmv,-,-⟩:=HM.out.form
       subst hmv
       by_cases hsl:s<ki.length
       ·have hk400:=HKJ.out
        have g7:(0:Int)≤(s:Int):=by omega
        have g8:(s:Int)<(ki.length:Int):=by omega
        obtain ⟨b9,off9,rfl⟩:=HKA.out.ptr (by omega)
        obtain ⟨nA,ncap,Gk,hb9l,n0,n1,n2,n3,n4,n5,HVk,HKu,hks,-,-⟩:=ArrP.at HKA.out HKU.out HBM.out s hsl
        have HKs:=jj hks
        have hml:=moreR_len gp lp ki s
        have hpq:=HPQ.out
        have hmx:(moreR gp lp ki s).length+1≤maxLen:=by unfold maxLen;omega
        have hby:((moreR gp lp ki s).length+1)*64≤140737488355328:=by omega
        have HMS:=jj (moreR_succ gp lp ki s hsl)
        obtain ⟨kq,hkq⟩:∃ u,u=ki[s]:=⟨_,rfl⟩
        rw [←hkq] at n0 n1 n2 n3 n4 n5 HVk HMS
        clear hkq hks hml hpq
        obtain ⟨v0,v1,v2,v3,v4,v5,vlt⟩:=HK.out.c6
        go_wp2_with fail
        obtain ⟨w13,hw13⟩:∃ X,X=(wr.alloc (.cells #[kq.op,kq.ct,kq.n,kq.m,kq.va,.slice nA kq.ks.length ncap] 43)):=⟨_,rfl⟩
        obtain ⟨b20,hb20⟩:∃ X,X=wr.heap.size:=⟨_,rfl⟩
        have hb13:Below wr wr w13:=by rw [hw13];exact (zy2 _ _).alloc (zz8 _) _
        have hK13:Blk w13 b20 43 #[kq.op,kq.ct,kq.n,kq.m,kq.va,.slice nA kq.ks.length ncap]:=by rw [hw13,hb20];exact Blk.new _ _ _
        have hs13:w13.heap.size=b20+1:=by rw [hw13,hb20];simp
        rw [←hw13,←hb20]
        clear hw13
        obtain ⟨w14,hw14⟩:∃ X,X=(w13.alloc (.cells #[lp.op,lp.ct,lp.n,lp.m,lp.va,.slice vA lp.ks.length vcap] 43)):=⟨_,rfl⟩
        have hb14:Below w13 w13 w14:=by rw [hw14];exact (zy2 _ _).alloc (zz8 _) _
        have hK21:Blk w14 w13 43 #[lp.op,lp.ct,lp.n,lp.m,lp.va,.slice vA lp.ks.length vcap]:=by rw [hw14];exact Blk.new _ _ _
        rw [hs13] at hK21
        obtain ⟨b21,hb21⟩:∃ X,X=b20+1:=⟨_,rfl⟩
        rw [←hw14,←hb21]
        rw [←hb21] at hK21
        clear hw14
        have hb34':Below wr wr w14:=hb13.trans (hb14.mono hb13.size)
        have HK14:Hid (Blk w14 bb 43 #[lp.op,lp.ct,lp.n,lp.m,lp.va,.slice vA lp.ks.length vcap]):=HK.out.same (hb34'.block _ HK.out.lt)
        have HM14:=jj (HM.out.below (fun x cs G hk h=>PR_mono' _ _ x cs G hk h) hb34')
        have HB14:Hid (Below w10 w10 w14):=HBM.out.trans (hb34'.mono HBM.out.size)
        have hs14:w10.heap.size≤w14.heap.size:=HB14.out.size
        have hbbl:bb<b20:=by rw [hb20];exact HK.out.lt
        have hl2021:b20<b21:=by omega
        have hl21r:wr.heap.size<b21:=by omega
        have hs10r:w10.heap.size≤wr.heap.size:=HBM.out.size
        have hb21l:b21=b20+1:=hb21
        have hb20e:b20=wr.heap.size:=hb20
        have HB2R:=jj (And.intro hb21l hb20e)
        clear hb21l hb20e hb21 hb20
        obtain ⟨-,-,-,-,-,x0,-⟩:=HK14.out.c6
        have hK20:=hK13.same (hb14.block _ hK13.lt)
        obtain ⟨q0,q1,q2,q3,q4,q5,-⟩:=hK20.c6
        have x1:=q0
        have x2:=q1
        have x3:=q2
        have x4:=q3
        have x5:=q4
        have x6:=q5
        have klt20:b20<w14.heap.size:=hK20.lt
        have kltb:bb<w14.heap.size:=HK14.out.lt
        have HK21:=jj hK21
        have HVk2:Hid (∀ C,Below w14 w14 C→PR C kq [kq.op,kq.ct,kq.n,kq.m,kq.va,.slice nA kq.ks.length ncap] Gk):=fun C hC=>HVk.out.below (HB14.out.trans (hC.mono HB14.out.size)) HKu.out
        have HVA:Hid (∀ C,Below w14 w14 C→Arr C (PR C) lp.ks (.slice vA lp.ks.length vcap) Gv):=fun C hC=>by
         obtain ⟨kv,e,h⟩:=(zA8 _ _ _).1 HVv.out
         simp only [List.cons.injEq,true_and,and_true] at e
         subst e
         exact ArrP.below h (HB14.out.trans (hC.mono HB14.out.size)) HVu.out
        clear n0 n1 n2 n3 n4 n5 hb9l hK13 HVk v0 v1 v2 v3 v4 v5 vlt q0 q1 q2 q3 q4 q5 hK20 hK21 hb13 hb14 hb34' hs13
        go_wp2_with fail
        have HS:Hid (∀ C:World,Below w14 w14 C→(C.cell? ⟨bb,5,none⟩=some (.slice vA lp.ks.length vcap)∧C.cell? ⟨b20,0,none⟩=kq.op∧C.cell? ⟨b20,1,none⟩=kq.ct∧C.cell? ⟨b20,2,none⟩=kq.n∧C.cell? ⟨b20,3,none⟩=kq.m∧C.cell? ⟨b20,4,none⟩=kq.va∧C.cell? ⟨b20,5,none⟩=some (.slice nA kq.ks.length ncap))):=fun C hb=>⟨(hb.cell (kltb)).trans x0,(hb.cell (klt20)).trans x1,(hb.cell (klt20)).trans x2,(hb.cell (klt20)).trans x3,(hb.cell (klt20)).trans x4,(hb.cell (klt20)).trans x5,(hb.cell (klt20)).trans x6⟩
        have hC0:Below w14 w14 w14.drew:=(zy2 _ _).drew
        refine wpBS HS.out (T:=fun _=>True) (d:=99) (by kernel_rfl) ?_
        obtain ⟨wd,hwd⟩:∃ X,X=w14.drew:=⟨_,rfl⟩
        rw [←hwd] at hC0  ⊢
        clear hwd
        have hS0:=HS.out _ hC0
        have hT0:True:=trivial
        refine wV 0 rfl hS0 hT0 ?_
        (try simp only [zz])
        refine wV 1 rfl hS0 hT0 ?_
        (try simp only [zz])
        refine wV 3 rfl hS0 hT0 ?_
        (try simp only [zz])
        refine wR (rs:=[2,4]) (by kernel_rfl) (by simp) ?_
        refine AllReadyB.c rfl (fun K hK=>?_) (AllReadyB.c rfl (fun K hK=>?_) AllReadyB.n)
        focus
         go_simp
         go_at_call 94
         refine (Clone_P lp.ks (by omega) wd _ Gv (HVA.out wd hC0) (HVu.out.mono (Nat.le_trans hs14 hC0.size))).mono ?_
         rintro e C1 ⟨cv,Gc,rfl,hb1,ho1,hG1⟩
         have hC1:Below w14 w14 C1:=hC0.trans (hb1.mono hC0.size)
         obtain ⟨cA,ccap,rfl,-,-⟩:=ho1.form
         have HGc:=jj hG1
         have HOc1:=jj (ho1.base (B':=w14.heap.size) (fun g hg=>Nat.le_trans hC0.size (ho1.row g hg).1))
         clear ho1 hG1
         (try dsimp only)
         refine hK.out _ _ (HS.out _ hC1) (fun _=>trivial) ?_
         clear hK K
         (try simp only [zz])
         refine w1 4 rfl fun K hK=>?_
         go_simp
         obtain ⟨C2,hX⟩:∃ X,X=C1.alloc (.cells [.int .i64 kq.op,.int .i64 kq.ct,.int .i64 kq.n,.int .i64 kq.m,.int .i64 kq.va,.slice nA kq.ks.length ncap].toArray 43):=⟨_,rfl⟩
         have hb2:Below C1 C1 C2:=by rw [hX];exact (zy2 _ _).alloc (zz8 _) _
         have hkb2:Blk C2 C1 43 [.int .i64 kq.op,.int .i64 kq.ct,.int .i64 kq.n,.int .i64 kq.m,.int .i64 kq.va,.slice nA kq.ks.length ncap].toArray:=by rw [hX];exact Blk.new _ _ _
         have hX2:=hX
         simp only [List.toArray] at hX2
         first | rw [←hX] | rw [←hX2]
         clear hX hX2
         have hC2:Below w14 w14 C2:=hC1.trans (hb2.mono hC1.size)
         have HKb2:=jj hkb2
         obtain ⟨kb,hkb⟩:∃ X,X=C1.heap.size:=⟨_,rfl⟩
         rw [←hkb] at HKb2 ⊢
         clear hkb hkb2
         have HOc:=jj (HOc1.out.below (fun x cs G hk h=>PR_mono' _ _ x cs G hk h) hb2)
         have HKb:=HKb2
        rotate_left
        focus
         go_simp
         obtain ⟨C1,hX⟩:∃ X,X=wd.alloc (.cells [.int .i64 kq.op,.int .i64 kq.ct,.int .i64 kq.n,.int .i64 kq.m,.int .i64 kq.va,.slice nA kq.ks.length ncap].toArray 43):=⟨_,rfl⟩
         have hb1:Below wd wd C1:=by rw [hX];exact (zy2 _ _).alloc (zz8 _) _
         have hkb1:Blk C1 wd 43 [.int .i64 kq.op,.int .i64 kq.ct,.int .i64 kq.n,.int .i64 kq.m,.int .i64 kq.va,.slice nA kq.ks.length ncap].toArray:=by rw [hX];exact Blk.new _ _ _
         have hX2:=hX
         simp only [List.toArray] at hX2
         first | rw [←hX] | rw [←hX2]
         clear hX hX2
         have hC1:Below w14 w14 C1:=hC0.trans (hb1.mono hC0.size)
         have HKb1:=jj hkb1
         obtain ⟨kb,hkb⟩:∃ X,X=wd.heap.size:=⟨_,rfl⟩
         rw [←hkb] at HKb1 ⊢
         clear hkb hkb1
         (try dsimp only)
         refine hK.out _ _ (HS.out _ hC1) (fun _=>trivial) ?_
         clear hK K
         (try simp only [zz])
         refine w1 2 rfl fun K hK=>?_
         go_simp
         go_at_call 94
         refine (Clone_P lp.ks (by omega) C1 _ Gv (HVA.out C1 hC1) (HVu.out.mono (Nat.le_trans hs14 hC1.size))).mono ?_
         rintro e C2 ⟨cv,Gc,rfl,hb2,ho2,hG2⟩
         have hC2:Below w14 w14 C2:=hC1.trans (hb2.mono hC1.size)
         obtain ⟨cA,ccap,rfl,-,-⟩:=ho2.form
         have HGc:=jj hG2
         have HOc2:=jj (ho2.base (B':=w14.heap.size) (fun g hg=>Nat.le_trans hC1.size (ho2.row g hg).1))
         clear ho2 hG2
         have HOc:=HOc2
         have HKb:=jj (HKb1.out.same (hb2.block _ HKb1.out.lt))
        rotate_left
        all_goals (
         (try dsimp only)
         refine hK.out _ _ (HS.out _ hC2) (fun _=>trivial) ?_
         clear hK K
         (try simp only [zz])
         refine w1 5 rfl fun K hK=>?_
         refine step_pushP (P:=Tryz.prog) rfl _ _ 41 rfl i0 _ 64 Tryz.underlying41 HI.out HZ0.out HZ1.out HZ2.out rfl (by decide) PR_len' PR_mono' (by rfl) HOc.out kq 43 [kq.op,kq.ct,kq.n,kq.m,kq.va,.slice nA kq.ks.length ncap] Gk kb (by rfl) HKb.out (by simp [Value.oneCell']) (HVk2.out C2 hC2) (HKu.out.mono (Nat.le_trans hs14 hC2.size)) (fun g hg hgG=>Nat.lt_irrefl _ (zz9 (HKu.out g hgG) (Nat.le_trans hs14 (HOc.out.row g hg).1))) (by unfold maxLen;omega) (by omega) hC2.size ?_
         intro g7 cp7 C3 hown3 hgr3 hat3
         have hC3:Below w14 w14 C3:=hC2.grown hgr3 hC2.size (fun g hg=>(HOc.out.row g (zA1.2 hg)).1)
         have HO3:=jj hown3
         have H3R:Hid (∀ g∈rowOf (.slice (some ⟨g7,0,none⟩) (lp.ks.length+1) cp7),w14.heap.size≤g∧g<C3.heap.size):=fun g hg=>HO3.out.row g hg
         clear hown3 hgr3 hat3
         (try dsimp only)
         refine hK.out _ _ (HS.out _ hC3) (fun _=>trivial) ?_
         clear hK K
         (try simp only [zz])
         have hS3:=HS.out _ hC3
         refine wV 6 rfl hS3 hT0 ?_
         (try simp only [zz])
         refine w1 7 rfl fun K hK=>?_
         have K3:=HK21.out.same (hC3.block _ HK21.out.lt)
         have xf5:=K3.frozen 5
         obtain ⟨-,-,-,-,-,xc5,xlt⟩:=K3.c6
         have hS7:(C3.setCell ⟨b21,5,none⟩ (.slice (some ⟨g7,0,none⟩) (lp.ks.length+1) cp7)).cell? ⟨bb,5,none⟩=some (.slice vA lp.ks.length vcap)∧(C3.setCell ⟨b21,5,none⟩ (.slice (some ⟨g7,0,none⟩) (lp.ks.length+1) cp7)).cell? ⟨b20,0,none⟩=kq.op∧(C3.setCell ⟨b21,5,none⟩ (.slice (some ⟨g7,0,none⟩) (lp.ks.length+1) cp7)).cell? ⟨b20,1,none⟩=kq.ct∧(C3.setCell ⟨b21,5,none⟩ (.slice (some ⟨g7,0,none⟩) (lp.ks.length+1) cp7)).cell? ⟨b20,2,none⟩=kq.n∧(C3.setCell ⟨b21,5,none⟩ (.slice (some ⟨g7,0,none⟩) (lp.ks.length+1) cp7)).cell? ⟨b20,3,none⟩=kq.m∧(C3.setCell ⟨b21,5,none⟩ (.slice (some ⟨g7,0,none⟩) (lp.ks.length+1) cp7)).cell? ⟨b20,4,none⟩=kq.va∧(C3.setCell ⟨b21,5,none⟩ (.slice (some ⟨g7,0,none⟩) (lp.ks.length+1) cp7)).cell? ⟨b20,5,none⟩=some (.slice nA kq.ks.length ncap):=⟨(World.cell?_setCell_far _ _ _ _ (show b21≠bb by omega)).trans hS3.1,(World.cell?_setCell_far _ _ _ _ (show b21≠b20 by omega)).trans hS3.2.1,(World.cell?_setCell_far _ _ _ _ (show b21≠b20 by omega)).trans hS3.2.2.1,(World.cell?_setCell_far _ _ _ _ (show b21≠b20 by omega)).trans hS3.2.2.2.1,(World.cell?_setCell_far _ _ _ _ (show b21≠b20 by omega)).trans hS3.2.2.2.2.1,(World.cell?_setCell_far _ _ _ _ (show b21≠b20 by omega)).trans hS3.2.2.2.2.2.1,(World.cell?_setCell_far _ _ _ _ (show b21≠b20 by omega)).trans hS3.2.2.2.2.2.2⟩
         go_simp
         refine hK.out _ _ hS7 (fun _=>trivial) ?_
         clear hK K
         (try simp only [zz])
         refine wE (by kernel_rfl) ?_
         clear hS0 hS3 hS7 hT0 x0 x1 x2 x3 x4 x5 x6 xf5 xc5 xlt
         obtain ⟨C4,hC4e⟩:∃ X,X=C3.setCell ⟨b21,5,none⟩ (.slice (some ⟨g7,0,none⟩) (lp.ks.length+1) cp7):=⟨_,rfl⟩
         have hb34:Below b21 C3 C4:=by rw [hC4e];exact (zy2 b21 C3).setCell (show b21≤(⟨b21,5,none⟩:Addr).block from zz8 _) _
         have K4:Blk C4 b21 43 #[lp.op,lp.ct,lp.n,lp.m,lp.va,.slice (some ⟨g7,0,none⟩) (lp.ks.length+1) cp7]:=by rw [hC4e];simpa using K3.set_ 5 (.slice (some ⟨g7,0,none⟩) (lp.ks.length+1) cp7)
         have hsz4:C4.heap.size=C3.heap.size:=by rw [hC4e];simp [World.setCell]
         have hfar:∀ b,b≠b21→C4.heap[b]?=C3.heap[b]?:=fun b hb=>by rw [hC4e];exact zz7 _ _ _ _ hb
         rw [←hC4e]
         clear hC4e K3
         have hY3:PR C3 (lp.re (lp.ks ++ [kq])) [lp.op,lp.ct,lp.n,lp.m,lp.va,.slice (some ⟨g7,0,none⟩) (lp.ks.length+1) cp7] (rowOf (.slice (some ⟨g7,0,none⟩) (lp.ks.length+1) cp7) ++ (Gc ++ Gk)):=by
          have h:=HO3.out.arr
          rw [if_neg (by simp)] at h
          rw [show lp.ks.length+1=(lp.ks ++ [kq]).length by simp] at h ⊢
          exact (zA8 _ _ _).2 ⟨_,rfl,h⟩
         have hYU3:∀ b∈(rowOf (.slice (some ⟨g7,0,none⟩) (lp.ks.length+1) cp7) ++ (Gc ++ Gk)),b<C3.heap.size∧b≠b21∧w.heap.size≤b∧b∉rowOf (.slice mA (moreR gp lp ki s).length mcap):=fun b hb=>by
          have h2:=hC3.size
          have h3:=HK21.out.lt
          rcases List.mem_append.1 hb with hb | hb
          ·have h1:=H3R.out b hb
           exact ⟨h1.2,by omega,by omega,fun h=>by have:=(HM.out.row b h).2;omega⟩
          ·have h1:b<w10.heap.size∧w.heap.size≤b:=by
            rcases List.mem_append.1 hb with hb | hb
            ·exact ⟨HVu.out b (HGc.out b hb),HLL.out b (HVS.out b (HGc.out b hb))⟩
            ·exact ⟨HKu.out b hb,HKL.out b (HKs.out b hb)⟩
           exact ⟨by omega,by omega,h1.2,fun h=>by have:=(HM.out.row b h).1;omega⟩
         have hYR:PR C4 (lp.re (lp.ks ++ [kq])) [lp.op,lp.ct,lp.n,lp.m,lp.va,.slice (some ⟨g7,0,none⟩) (lp.ks.length+1) cp7] (rowOf (.slice (some ⟨g7,0,none⟩) (lp.ks.length+1) cp7) ++ (Gc ++ Gk)):=PR_mono' _ _ _ _ _ (fun b hb=>hfar b (hYU3 b hb).2.1) hY3
         have hYU:Under C4 (rowOf (.slice (some ⟨g7,0,none⟩) (lp.ks.length+1) cp7) ++ (Gc ++ Gk)):=fun b hb=>by rw [hsz4];exact (hYU3 b hb).1
         have hB14:Below w10 w10 C4:=(HB14.out.trans (hC3.mono HB14.out.size)).trans (hb34.mono (by omega))
         have hM4:Own C4 w10.heap.size 43 6 PR (moreR gp lp ki s) (.slice mA (moreR gp lp ki s).length mcap) Fn:=by
          refine (HM14.out.below (fun x cs G hk h=>PR_mono' _ _ x cs G hk h) hC3).mono (fun x cs G hk h=>PR_mono' _ _ x cs G hk h) (fun b hb=>hfar b ?_) (by omega)
          rcases List.mem_append.1 hb with hb | hb
          ·have:=(HM.out.row b hb).2;omega
          ·have:=HM.out.under b hb;omega
         have hK4b:Blk C4 bb 43 #[lp.op,lp.ct,lp.n,lp.m,lp.va,.slice vA lp.ks.length vcap]:=(HK14.out.same (hC3.block _ HK14.out.lt)).same (hfar bb (by omega))
         have HY:=jj hYR
         have HYU:=jj hYU
         have HYN:Hid (∀ g∈rowOf (.slice mA (moreR gp lp ki s).length mcap),g∉(rowOf (.slice (some ⟨g7,0,none⟩) (lp.ks.length+1) cp7) ++ (Gc ++ Gk))):=fun g hg hgG=>(hYU3 g hgG).2.2.2 hg
         have HYL:Hid (∀ b∈(rowOf (.slice (some ⟨g7,0,none⟩) (lp.ks.length+1) cp7) ++ (Gc ++ Gk)),w.heap.size≤b):=fun b hb=>(hYU3 b hb).2.2.1
         have HM4:=jj hM4
         have HK4b:=jj hK4b
         have hbs4:=hB14.size
         have HB4:=jj hB14
         obtain ⟨x0,x1,x2,x3,x4,x5,xlt⟩:=K4.c6
         have HMS2:=jj HMS.out
         clear hsz4 hYR hYU hYU3 hY3 hM4 hK4b hB14 hfar hb34 K4 HO3 H3R hC3 hC2 hC1 hC0 hb1 hb2
         go_wp2_with (at_builtin;refine Halt.mk ?_)
         refine Halt.of (zA6 (P:=Tryz.prog) rfl _ _ 41 rfl i0 _ 64 Tryz.underlying41 HI.out HZ0.out HZ1.out HZ2.out rfl (by decide) PR_len' PR_mono' (by rfl) HM4.out (lp.re (lp.ks ++ [kq])) 43 [lp.op,lp.ct,lp.n,lp.m,lp.va,.slice (some ⟨g7,0,none⟩) (lp.ks.length+1) cp7] (rowOf (.slice (some ⟨g7,0,none⟩) (lp.ks.length+1) cp7) ++ (Gc ++ Gk)) C4.heap.size (by rfl) rfl (by simp [Value.oneCell']) HY.out HYU.out HYN.out hmx hby hbs4 ?_)
         intro g10 cp10 C5 hown5 hgr5 hat5
         clear x0 x1 x2 x3 x4 x5 xlt
         have hrow:=HM4.out.row
         have hB5:Below w10 w10 C5:=(HB4.out.alloc HB4.out.size _).grown hgr5 (by simp;omega) (fun g hg=>(hrow g (zA1.2 hg)).1)
         have nbb:some bb≠(Value.ownBlock (.slice mA (moreR gp lp ki s).length mcap)):=fun e=>HNB.out (zA1.2 e.symm)
         have HK5:Hid (Blk C5 bb 43 #[lp.op,lp.ct,lp.n,lp.m,lp.va,.slice vA lp.ks.length vcap]):=(HK4b.out.same (Below.heap_alloc _ _ _ HK4b.out.lt)).same (hgr5.block _ (by rw [World.size_alloc];have:=HK4b.out.lt;omega) nbb)
         have HN5:Hid (bb∉rowOf (.slice (some ⟨g10,0,none⟩) ((moreR gp lp ki s).length+1) cp10)):=fun h=>by
          rw [zA3,zy1] at h
          have h3:=HK4b.out.lt
          rcases hat5 with h1 | h1
          ·exact nbb (by rw [h1,h])
          ·omega
         have HF5:Hid (∀ b∈Fn ++ (rowOf (.slice (some ⟨g7,0,none⟩) (lp.ks.length+1) cp7) ++ (Gc ++ Gk)),w.heap.size≤b):=fun b hb=>by
          rcases List.mem_append.1 hb with hb | hb
          ·exact HFM.out b hb
          ·exact HYL.out b hb
         have HO5:=jj hown5
         clear hown5 hgr5 hat5 hrow nbb
         go_wp2
         go_roundw
         case rel=>exact ⟨s+1,_,hsl,by go_num,(by rw [HMS.out];exact HO5.out),HF5.out,hB5,HK5.out,HN5.out⟩
         case measure=>(simp [intOf] <;> omega))
       ·have hs2:s=ki.length:=by omega
        subst hs2
        have HOM:Hid (Own wr w10.heap.size 43 6 PR (growRTo li ki (a+1)) (.slice mA (moreR gp lp ki ki.length).length mcap) Fn):=by rw [HGS.out,←moreR_all gp lp ki (zz8 _)];exact HM.out
        go_wp2
        go_roundw
        case rel=>exact ⟨a+1,Fn,hal,by go_num,HOM.out,HFM.out,HBM.out⟩
        case measure=>(simp [intOf] <;> omega)
     ·have ha2:a=li.length:=by omega
      subst ha2
      have hga:=growRTo_all li ki (zz8 _)
      have HOM:Hid (Own wq w.heap.size 43 6 PR (splTo p (j+1)) (.slice mA (growRTo li ki li.length).length mcap) Fm):=by rw [HSU.out,←hga];exact HM.out.base (fun g hg=>Nat.le_trans h210 (HM.out.row g hg).1)
      have HB4:Hid (Below w4 w4 wq):=HB10.out.trans (HBM.out.mono HB10.out.size)
      clear hga
      go_wp2
      go_roundw
      case rel=>exact ⟨j+1,_,hjl,by go_num,HOM.out,HFM.out,HB4⟩
      case measure=>(simp [intOf] <;> omega)
   ·have HALL:=jj (splTo_all H5.out (Nat.le_of_not_lt hjl))
    have HFin:Hid (MadeSp (P.spl p) w (.returned (.slice lA (splTo p j).length lcap)) wp):=by
     rw [←HALL.out]
     exact ⟨_,Fl,rfl,hB,HL.out,HFl.out⟩
    go_wp2
    go_ret
    exact HFin.out
theorem impl_split:∀ p,SpP p:=P.indv split_of
def CntP (p:P):Prop:=∀ (w:World) (cs:List Value) (G:List Nat),PR w p cs G→Under w G →
 Calls Tryz.prog 65 #[.agg cs.toArray] w fun e w'=>e=.returned (.int .i64 (cut4 (P.spl p).length:Nat))∧Below w w w'
set_option maxHeartbeats 6400000 in
theorem countSplit_of (p:P) (ih:∀ k∈p.ks,CntP k):CntP p:=by
 intro w cs G hp hg
 obtain ⟨kv,rfl,ha⟩:=(zA8 _ _ _).1 hp
 obtain ⟨A4,cap4,rfl,hc3,hc4⟩:=ha.form
 have IH:=jj ih
 have HA:=jj ha
 have HG:=jj hg
 clear ha hg
 clear ih hp
 by_cases h5:p.op=5
 ·have t5:(p.op==5)=true:=by simp [h5]
  have H5:=jj h5
  clear h5
  go_enter Tryz.func65,Tryz.ntmps65
  go_wp2_with fail
  obtain ⟨W2,hW2⟩:∃ W2,W2=w.alloc (.cells #[p.op,p.ct,p.n,p.m,p.va,.slice A4 p.ks.length cap4] 43):=⟨_,rfl⟩
  have hB0:Below w w W2:=by rw [hW2];exact (zy2 _ _).alloc (zz8 _) _
  have KP:Hid (Blk W2 w 43 #[p.op,p.ct,p.n,p.m,p.va,.slice A4 p.ks.length cap4]):=by rw [hW2];exact Blk.new _ _ _
  rw [←hW2]
  clear hW2
  obtain ⟨z0,-,-,-,-,z5,klt⟩:=KP.out.c6
  go_wp2
  clear z0 z5 klt
  go_loopw [3,12] (fun nv iv wr=>∃ i:Nat,i≤p.ks.length∧iv=.int .i64 i∧nv=.int .i64 (cut4 (lenTo p i):Nat)∧Hid (Below W2 W2 wr)) (fun _ iv _=>p.ks.length-(intOf iv).toNat)
  case atStart=>exact ⟨0,Nat.zero_le _,rfl,by rw [lenTo_or H5.out];rfl,zy2 _ _⟩
  case round =>
   obtain ⟨i,hi,rfl,rfl,HB⟩:=hrel
   have hB:=hB0.trans (HB.out.mono hB0.size)
   by_cases hil:i<p.ks.length
   ·obtain ⟨b4,off4,rfl⟩:=HA.out.ptr (by omega)
    obtain ⟨A7,cap7,G7,hb7,k0,k1,k2,k3,k4,k5,HV7,HG7,hgs7,-,-⟩:=ArrP.at HA.out HG.out hB i hil
    have g1:(0:Int)≤(i:Int):=by omega
    have g2:(i:Int)<(p.ks.length:Int):=by omega
    have KPr:=KP.out.same (HB.out.block _ KP.out.lt)
    obtain ⟨y0,-,-,-,-,-,klt⟩:=KPr.c6
    go_wp2_with fail
    obtain ⟨wk,hwk⟩:∃ wk,wk=wr.alloc (.cells #[p.ks[i].op,p.ks[i].ct,p.ks[i].n,p.ks[i].m,p.ks[i].va,.slice A7 p.ks[i].ks.length cap7] 43):=⟨_,rfl⟩
    have hBk:Below wr wr wk:=by rw [hwk];exact (zy2 _ _).alloc (zz8 _) _
    have KK:Blk wk wr 43 #[p.ks[i].op,p.ks[i].ct,p.ks[i].n,p.ks[i].m,p.ks[i].va,.slice A7 p.ks[i].ks.length cap7]:=by rw [hwk];exact Blk.new _ _ _
    rw [←hwk]
    clear hwk
    have HBw:Hid (Below W2 W2 wk):=HB.out.trans (hBk.mono HB.out.size)
    have hBw:=hB.trans (hBk.mono hB.size)
    clear KK KPr k0 k1 k2 k3 k4 k5 hb7 hBk y0 klt
    refine (IH.out p.ks[i] (List.getElem_mem hil) wk _ G7 (HV7.out.below hBw HG7.out) (HG7.out.mono hBw.size)).mono ?_
    rintro e w8 ⟨rfl,hb8⟩
    have hcs:cut4 (lenTo p (i+1))=min (cut4 (lenTo p i)+cut4 (P.spl p.ks[i]).length) 401:=by rw [lenTo_add H5.out i hil,cut4_add]
    have h1:=cut4_le (lenTo p i)
    have h2:=cut4_le (P.spl p.ks[i]).length
    have HCS:=jj hcs
    have HB8:Hid (Below W2 W2 w8):=HBw.out.trans (hb8.mono HBw.out.size)
    generalize cut4 (P.spl p.ks[i]).length=cv at *
    generalize cut4 (lenTo p i)=nv at *
    clear hcs hb8 hBw HBw
    go_wp2
    go_roundw
    case rel=>exact ⟨i+1,hil,by go_num,by rw [HCS.out];first | (rw [←min4_add];done) | (congr 1;omega),HB8.out⟩
    case measure=>(simp [intOf] <;> omega)
   ·have HALL:=jj (lenTo_all (p:=p) (i:=i) (Nat.le_of_not_lt hil))
    go_wp2
    go_ret
    exact ⟨zAW (congrArg (fun n:Nat=>((cut4 n:Nat):Int)) HALL.out),hB⟩
 ·have t5:(p.op==5)=false:=by simp [h5]
  have H5:=jj h5
  clear h5
  go_enter Tryz.func65,Tryz.ntmps65
  go_wp2_with fail
  obtain ⟨W2,hW2⟩:∃ W2,W2=w.alloc (.cells #[p.op,p.ct,p.n,p.m,p.va,.slice A4 p.ks.length cap4] 43):=⟨_,rfl⟩
  have hB0:Below w w W2:=by rw [hW2];exact (zy2 _ _).alloc (zz8 _) _
  have KP:Hid (Blk W2 w 43 #[p.op,p.ct,p.n,p.m,p.va,.slice A4 p.ks.length cap4]):=by rw [hW2];exact Blk.new _ _ _
  rw [←hW2]
  clear hW2
  obtain ⟨z0,-,-,-,-,z5,klt⟩:=KP.out.c6
  go_wp2
  clear z0 z5 klt
  go_loopw [3,12] (fun nv iv wr=>∃ i:Nat,i≤p.ks.length∧iv=.int .i64 i∧nv=.int .i64 (cut4 (lenTo p i):Nat)∧Hid (Below W2 W2 wr)) (fun _ iv _=>p.ks.length-(intOf iv).toNat)
  case atStart=>exact ⟨0,Nat.zero_le _,rfl,by rw [lenTo_no H5.out];rfl,zy2 _ _⟩
  case round =>
   obtain ⟨i,hi,rfl,rfl,HB⟩:=hrel
   have hB:=hB0.trans (HB.out.mono hB0.size)
   by_cases hil:i<p.ks.length
   ·obtain ⟨b4,off4,rfl⟩:=HA.out.ptr (by omega)
    obtain ⟨A7,cap7,G7,hb7,k0,k1,k2,k3,k4,k5,HV7,HG7,hgs7,-,-⟩:=ArrP.at HA.out HG.out hB i hil
    have g1:(0:Int)≤(i:Int):=by omega
    have g2:(i:Int)<(p.ks.length:Int):=by omega
    have KPr:=KP.out.same (HB.out.block _ KP.out.lt)
    obtain ⟨y0,-,-,-,-,-,klt⟩:=KPr.c6
    go_wp2_with fail
    obtain ⟨wk,hwk⟩:∃ wk,wk=wr.alloc (.cells #[p.ks[i].op,p.ks[i].ct,p.ks[i].n,p.ks[i].m,p.ks[i].va,.slice A7 p.ks[i].ks.length cap7] 43):=⟨_,rfl⟩
    have hBk:Below wr wr wk:=by rw [hwk];exact (zy2 _ _).alloc (zz8 _) _
    have KK:Blk wk wr 43 #[p.ks[i].op,p.ks[i].ct,p.ks[i].n,p.ks[i].m,p.ks[i].va,.slice A7 p.ks[i].ks.length cap7]:=by rw [hwk];exact Blk.new _ _ _
    rw [←hwk]
    clear hwk
    have HBw:Hid (Below W2 W2 wk):=HB.out.trans (hBk.mono HB.out.size)
    have hBw:=hB.trans (hBk.mono hB.size)
    clear KK KPr k0 k1 k2 k3 k4 k5 hb7 hBk y0 klt
    refine (IH.out p.ks[i] (List.getElem_mem hil) wk _ G7 (HV7.out.below hBw HG7.out) (HG7.out.mono hBw.size)).mono ?_
    rintro e w8 ⟨rfl,hb8⟩
    have hcs:cut4 (lenTo p (i+1))=min (cut4 (lenTo p i)*cut4 (P.spl p.ks[i]).length) 401:=by rw [lenTo_mul H5.out i hil,cut4_mul]
    have h1:=cut4_le (lenTo p i)
    have h2:=cut4_le (P.spl p.ks[i]).length
    have HCS:=jj hcs
    have HB8:Hid (Below W2 W2 w8):=HBw.out.trans (hb8.mono HBw.out.size)
    generalize cut4 (P.spl p.ks[i]).length=cv at *
    generalize cut4 (lenTo p i)=nv at *
    have hmul:nv*cv≤401*401:=Nat.mul_le_mul h1 h2
    have hw2:IntKind.i64.wrap ((nv:Int)*(cv:Int))=((nv*cv:Nat):Int):=by rw [←Int.natCast_mul];exact IntWalk.i64_in _ (by omega)
    clear hcs hb8 hBw HBw
    go_wp2
    go_roundw
    case rel=>exact ⟨i+1,hil,by go_num,by rw [HCS.out];first | (rw [←min4_mul];done) | (congr 1;rw [←Int.natCast_mul];omega),HB8.out⟩
    case measure=>(simp [intOf] <;> omega)
   ·have HALL:=jj (lenTo_all (p:=p) (i:=i) (Nat.le_of_not_lt hil))
    go_wp2
    go_ret
    exact ⟨zAW (congrArg (fun n:Nat=>((cut4 n:Nat):Int)) HALL.out),hB⟩
theorem impl_countSplit:∀ p,CntP p:=P.indv countSplit_of
set_option maxHeartbeats 6400000 in
theorem impl_SplitOr (xs:List Dt) (t:Ty) (p:P) (hpz:p.size≤1048576) (w:World) (x:Value) (F:List Nat) (cs:List Value) (G:List Nat) (hx:Arr w (DtR w) xs x F) (hf:Under w F) (hp:PR w p cs G) (hg:Under w G) :
  Calls Tryz.prog 32 #[x,.agg #[t.d,t.i],.agg cs.toArray] w (MadeSps (splitV xs t p) (splitB xs t p) w):=by
 obtain ⟨xA,xcap,rfl,-,-⟩:=hx.form
 obtain ⟨kp,rfl,hka⟩:=(zA8 _ _ _).1 hp
 obtain ⟨pA,pcap,rfl,-,-⟩:=hka.form
 clear hka
 have HX:=jj hx
 have HF:=jj hf
 have HP:=jj hp
 have HG:=jj hg
 clear hx hf hp hg
 go_enter Tryz.func32,Tryz.ntmps32
 go_wp2_with fail
 obtain ⟨w2,hw2⟩:∃ X,X=((w.alloc (.cells #[t.d,t.i] 39)).alloc (.cells #[p.op,p.ct,p.n,p.m,p.va,.slice pA p.ks.length pcap] 43)):=⟨_,rfl⟩
 have hB2:Below w w w2:=by rw [hw2];exact ((zy2 _ _).alloc (zz8 _) _).alloc (by simp) _
 have KT2:Hid (Blk w2 w 39 #[t.d,t.i]):=by rw [hw2];exact (Blk.new w _ _).same (Below.heap_alloc _ _ _ (by simp))
 have KP2:Hid (Blk w2 (w.heap.size+1) 43 #[p.op,p.ct,p.n,p.m,p.va,.slice pA p.ks.length pcap]):=by rw [hw2];exact zA9 w _ 43 _
 rw [←hw2]
 clear hw2
 obtain ⟨a0,a1,al⟩:=KT2.out.c2
 obtain ⟨c0,c1,c2,c3,c4,c5,cl⟩:=KP2.out.c6
 go_wp2_with fail
 clear a0 a1 al c0 c1 c2 c3 c4 c5 cl
 refine (impl_PatternValid xs t p hpz w2 _ F _ G (ArrDt.below HX.out hB2 HF.out) (HF.out.mono hB2.size) (HP.out.below hB2 HG.out) (HG.out.mono hB2.size)).mono ?_
 rintro e w3 ⟨rfl,hb3⟩
 have KT3:=jj (KT2.out.same (hb3.block _ KT2.out.lt))
 have KP3:=jj (KP2.out.same (hb3.block _ KP2.out.lt))
 have hB3:=hB2.trans (hb3.mono hB2.size)
 clear hB2 hb3 KT2 KP2
 cases hpv:patternValidB xs t p with
 |false =>
  have hno:splitB xs t p=false:=by unfold splitB;rw [hpv];rfl
  have HFin:Hid (MadeSps (splitV xs t p) (splitB xs t p) w (.returned (.tuple #[.slice none 0 0,.bool false])) w3):=by
   rw [splitV_no hno,hno]
   exact ⟨_,[],rfl,hB3,Arr.nil,Free.nil _,Fresh.nil _ _⟩
  clear hno hpv
  go_wp2
  go_ret2
  exact HFin.out
 |true =>
  obtain ⟨hsh,hsz⟩:=valid_shp hpv
  have HSH:=jj hsh
  have HEQ:Hid (splitB xs t p=decide ((P.spl p).length≤400)):=by unfold Hid splitB;rw [hpv];rfl
  clear hsh hpv
  obtain ⟨a0,a1,al⟩:=KT3.out.c2
  obtain ⟨c0,c1,c2,c3,c4,c5,cl⟩:=KP3.out.c6
  go_wp2_with fail
  clear a0 a1 al c0 c1 c2 c3 c4 c5 cl
  refine (impl_countSplit p w3 _ G (HP.out.below hB3 HG.out) (HG.out.mono hB3.size)).mono ?_
  rintro e w4 ⟨rfl,hb4⟩
  have KT4:=jj (KT3.out.same (hb4.block _ KT3.out.lt))
  have KP4:=jj (KP3.out.same (hb4.block _ KP3.out.lt))
  have hB4:=hB3.trans (hb4.mono hB3.size)
  have hbig:=cut4_big (P.spl p).length
  clear hb4 KT3 KP3
  by_cases hc:(P.spl p).length≤400
  ·have e3:decide ((cut4 (P.spl p).length:Int)>400)=false:=by simp;omega
   have hyes:splitB xs t p=true:=by rw [HEQ.out];exact decide_eq_true hc
   have HE:Hid (splitB xs t p=true):=hyes
   have HV:=jj (splitV_yes hyes)
   have HSM:Hid (∀ q∈P.spl p,q.size≤1048576):=fun q hq=>by have:=spl_size p q hq;omega
   clear hbig hyes
   generalize cut4 (P.spl p).length=cv at *
   obtain ⟨a0,a1,al⟩:=KT4.out.c2
   obtain ⟨c0,c1,c2,c3,c4,c5,cl⟩:=KP4.out.c6
   go_wp2_with fail
   clear a0 a1 al c0 c1 c2 c3 c4 c5 cl
   refine (impl_split p w4 _ G (HP.out.below hB4 HG.out) (HG.out.mono hB4.size) HSH.out (by omega) hc).mono ?_
   rintro e w5 ⟨v5,F5,rfl,hb5,ho5,hF5⟩
   have hB5:=hB4.trans (hb5.mono hB4.size)
   have HA5:=jj ho5.arr
   have HU5:=jj ho5.under_ifP
   clear ho5 hF5 hb5
   go_wp2_with fail
   refine (impl_ownPatterns (P.spl p) w5 _ _ HA5.out HU5.out HSM.out (by omega)).mono ?_
   rintro e w6 ⟨v6,F6,rfl,hb6,ha6,hfr6,hfs6⟩
   have HFin:Hid (MadeSps (splitV xs t p) (splitB xs t p) w (.returned (.tuple #[v6,.bool true])) w6):=by
    rw [HV.out,HE.out]
    exact ⟨v6,F6,rfl,hB5.trans (hb6.mono hB5.size),ha6,hfr6,fun b hb=>⟨Nat.le_trans hB5.size (hfs6 b hb).1,(hfs6 b hb).2⟩⟩
   clear hb6 ha6 hfr6 hfs6
   go_wp2
   go_ret2
   exact HFin.out
  ·have e3:decide ((cut4 (P.spl p).length:Int)>400)=true:=by simp;omega
   have hno:splitB xs t p=false:=by rw [HEQ.out];exact decide_eq_false hc
   have HFin:Hid (MadeSps (splitV xs t p) (splitB xs t p) w (.returned (.tuple #[.slice none 0 0,.bool false])) w4):=by
    rw [splitV_no hno,hno]
    exact ⟨_,[],rfl,hB4,Arr.nil,Free.nil _,Fresh.nil _ _⟩
   clear hbig hc hno
   generalize cut4 (P.spl p).length=cv at *
   go_wp2
   go_ret2
   exact HFin.out
theorem flatMap_eq2 {α β:Type} {f g:α→List β}:∀ {l:List α},(∀ a∈l,f a=g a)→l.flatMap f=l.flatMap g
 |[],_=>rfl
 |a :: l,h=>by rw [List.flatMap_cons,List.flatMap_cons,h a (by simp),flatMap_eq2 fun b hb=>h b (by simp [hb])]
theorem shapeB_def (xs:List Dt) (d:Nat) (t:Ty) (p:P):shapeB xs (d+1) t p=(ownB xs t p && (p.ks.length==(typesP xs t p).length && ((typesP xs t p).zip p.ks).all fun x=>shapeB xs d x.1 x.2)):=rfl
theorem linB_def (xs:List Dt) (d:Nat) (t:Ty) (p:P):linB xs (d+1) t p=((((typesP xs t p).zip p.ks).all fun x=>linB xs d x.1 x.2) && (if p.op=5 then (match p.ks with | [k0,k1]=>alikeB (varsN xs d t k0) (varsN xs d t k1) | _=>true) else dupFree (varsN xs (d+1) t p))):=rfl
theorem varsN_def (xs:List Dt) (d:Nat) (t:Ty) (p:P):varsN xs (d+1) t p=(if namedB p=true then [⟨p.va,t⟩] else []) ++ (kidsV xs t p).flatMap fun x=>varsN xs d x.1 x.2:=rfl
theorem shape_more (xs:List Dt):∀ (d:Nat) (t:Ty) (p:P),shapeB xs d t p=true→shapeB xs (d+1) t p=true
 |0,_,_,h=>by cases h
 |d+1,t,p,h=>by
  rw [shapeB_def,Bool.and_eq_true,Bool.and_eq_true,List.all_eq_true] at h ⊢
  exact ⟨h.1,h.2.1,fun x hx=>shape_more xs d _ _ (h.2.2 x hx)⟩
theorem vars_more (xs:List Dt):∀ (d:Nat) (t:Ty) (p:P),shapeB xs d t p=true→varsN xs (d+1) t p=varsN xs d t p
 |0,_,_,h=>by cases h
 |d+1,t,p,h=>by
  rw [shapeB_def,Bool.and_eq_true,Bool.and_eq_true,List.all_eq_true] at h
  rw [varsN_def,varsN_def xs d]
  congr 1
  exact flatMap_eq2 fun x hx=>vars_more xs d _ _ (h.2.2 x (List.mem_of_mem_take hx))
theorem shape_two {xs:List Dt} {d:Nat} {t:Ty} {p:P} {a b:P} (h:shapeB xs (d+1) t p=true) (h5:p.op=5) (hk:p.ks=[a,b]):shapeB xs d t a=true∧shapeB xs d t b=true:=by
 rw [shapeB_def,Bool.and_eq_true,Bool.and_eq_true,zAU h5,hk] at h
 simpa using h.2.2
theorem lin_more (xs:List Dt):∀ (d:Nat) (t:Ty) (p:P),shapeB xs d t p=true→linB xs d t p=true→linB xs (d+1) t p=true
 |0,_,_,h,_=>by cases h
 |d+1,t,p,h,hl=>by
  have hs:=h
  rw [shapeB_def,Bool.and_eq_true,Bool.and_eq_true,List.all_eq_true] at h
  rw [linB_def,Bool.and_eq_true,List.all_eq_true] at hl ⊢
  refine ⟨fun x hx=>lin_more xs d _ _ (h.2.2 x hx) (hl.1 x hx),?_⟩
  have h2:=hl.2
  by_cases h5:p.op=5
  ·rw [if_pos h5] at h2 ⊢
   have hl2:p.ks.length=2:=by rw [beq_iff_eq.1 h.2.1,zAU h5];rfl
   obtain ⟨k0,k1,hk⟩:=kids_two hl2
   obtain ⟨s0,s1⟩:=shape_two hs h5 hk
   rw [hk] at h2 ⊢
   simp only at h2 ⊢
   rw [vars_more xs d t k0 s0,vars_more xs d t k1 s1]
   exact h2
  ·rw [if_neg h5] at h2 ⊢
   rw [vars_more xs (d+1) t p hs]
   exact h2
theorem foldP_pair {α:Type}:∀ (ls:List (List α)) (A:List (List α)),ls.foldl pairLP A=A.flatMap fun o=>(ls.foldl pairLP [[]]).map (o ++ ·)
 |[],A=>by
  simp only [List.foldl_nil,List.map_cons,List.append_nil,List.map_nil]
  induction A with
  |nil=>rfl
  |cons a A ih=>rw [List.flatMap_cons,←ih];rfl
 |l :: ls,A=>by
  rw [List.foldl_cons,List.foldl_cons,foldP_pair ls (pairLP A l),foldP_pair ls (pairLP [[]] l)]
  unfold pairLP pairKP
  simp [List.flatMap_assoc,List.map_flatMap,List.flatMap_map,List.map_map,Function.comp_def]
theorem pairAllP_cons {α:Type} (l:List α) (ls:List (List α)):pairAllP (l :: ls)=l.flatMap fun x=>(pairAllP ls).map (x :: ·):=by
 unfold pairAllP
 rw [List.foldl_cons,foldP_pair ls (pairLP [[]] l)]
 unfold pairLP pairKP
 simp [List.flatMap_map]
theorem mem_pairAll {α:Type} {ls:List (List α)} {o:List α} (h:o∈pairAllP ls):EachIn o ls:=by
 have:=mem_pairAllP ls ls.length o (by rw [List.take_length];exact h)
 rwa [List.take_length] at this
theorem eachIn_len {α:Type}:∀ {o:List α} {ls:List (List α)},EachIn o ls→o.length=ls.length
 |[],[],_=>rfl
 |a :: o,l :: ls,h=>by rw [List.length_cons,List.length_cons,eachIn_len h.2]
 |[],_ :: _,h=>h.elim
 |_ :: _,[],h=>h.elim
theorem perm_alike:∀ (a b:List Vt),(a.map Vt.var).Nodup→(∀ x∈a,x∈b)→a.length=b.length→a.Perm b
 |[],b,_,_,h=>by
  have:b=[]:=List.eq_nil_of_length_eq_zero h.symm
  subst this
  exact .nil
 |x :: a,b,hn,hs,hl=>by
  obtain ⟨s,t,rfl⟩:=List.append_of_mem (hs x (by simp))
  rw [List.map_cons,List.nodup_cons] at hn
  refine .trans (.cons x (perm_alike a (s ++ t) hn.2 (fun y hy=>?_) ?_)) List.perm_middle.symm
  ·have h1:=hs y (by simp [hy])
   have h2:y≠x:=fun e=>hn.1 (by rw [←e];exact List.mem_map_of_mem hy)
   simp only [List.mem_append,List.mem_cons] at h1 ⊢
   rcases h1 with h | h | h
   ·exact .inl h
   ·exact absurd h h2
   ·exact .inr h
  ·simp only [List.length_cons,List.length_append] at hl ⊢
   omega
theorem alike_perm {a b:List Vt} (hn:dupFree a=true) (h:alikeB a b=true):a.Perm b:=by
 unfold alikeB at h
 rw [Bool.and_eq_true,List.all_eq_true,beq_iff_eq] at h
 refine perm_alike a b (by unfold dupFree at hn;exact of_decide_eq_true hn) (fun v hv=>?_) h.2
 have h1:=h.1 v hv
 cases hf:b.find? (fun u=>u.var==v.var) with
 |none=>rw [hf] at h1;cases h1
 |some u =>
  rw [hf] at h1
  simp only [Bool.and_eq_true,beq_iff_eq] at h1
  have h2:=List.find?_some hf
  have h3:=List.mem_of_find?_eq_some hf
  rw [beq_iff_eq] at h2
  have:u=v:=by
   obtain ⟨uv,⟨ud,ui⟩⟩:=u
   obtain ⟨vv,⟨vd,vi⟩⟩:=v
   simp only at h1 h2
   rw [h1.1,h1.2,h2]
  rw [←this]
  exact h3
theorem dup_perm {a b:List Vt} (h:a.Perm b) (hd:dupFree b=true):dupFree a=true:=by
 unfold dupFree at *
 have:=(h.map Vt.var).nodup_iff
 rw [decide_eq_true_iff] at *
 exact this.2 hd
structure Part (xs:List Dt) (d:Nat) (t:Ty) (q p:P):Prop where
 shape:shapeB xs d t q=true
 lin:linB xs d t q=true
 vars:(varsN xs d t q).Perm (varsN xs d t p)
 one:P.spl q=[q]
theorem parts_zip {xs:List Dt} {d:Nat} (ih:∀ (t:Ty) (p:P),shapeB xs d t p=true→linB xs d t p=true→∀ q∈P.spl p,Part xs d t q p) :
  ∀ (ts:List Ty) (ks o:List P),EachIn o (ks.map P.spl)→ts.length=ks.length→((ts.zip ks).all fun x=>shapeB xs d x.1 x.2)=true→((ts.zip ks).all fun x=>linB xs d x.1 x.2)=true →
   ((ts.zip o).all fun x=>shapeB xs d x.1 x.2)=true∧((ts.zip o).all fun x=>linB xs d x.1 x.2)=true∧((ts.zip o).flatMap fun x=>varsN xs d x.1 x.2).Perm ((ts.zip ks).flatMap fun x=>varsN xs d x.1 x.2)∧pairAllP (o.map P.spl)=[o]
 |[],[],[],_,_,_,_=>⟨rfl,rfl,.nil,rfl⟩
 |t :: ts,k :: ks,q :: o,he,hl,hs,hn=>by
  simp only [List.zip_cons_cons,List.all_cons,Bool.and_eq_true] at hs hn
  have h1:=ih t k hs.1 hn.1 q he.1
  obtain ⟨h2,h3,h4,h5⟩:=parts_zip ih ts ks o he.2 (by simpa using hl) hs.2 hn.2
  refine ⟨?_,?_,?_,?_⟩
  ·simp only [List.zip_cons_cons,List.all_cons,Bool.and_eq_true]
   exact ⟨h1.shape,h2⟩
  ·simp only [List.zip_cons_cons,List.all_cons,Bool.and_eq_true]
   exact ⟨h1.lin,h3⟩
  ·simp only [List.zip_cons_cons,List.flatMap_cons]
   exact h1.vars.append h4
  ·rw [List.map_cons,pairAllP_cons,h1.one,h5]
   rfl
 |[],_ :: _,_,_,hl,_,_=>by cases hl
 |_ :: _,[],_,_,hl,_,_=>by cases hl
 |_,[],_ :: _,he,_,_,_=>he.elim
 |_,_ :: _,[],he,_,_,_=>he.elim
theorem spl_part (xs:List Dt):∀ (d:Nat) (t:Ty) (p:P),shapeB xs d t p=true→linB xs d t p=true→∀ q∈P.spl p,Part xs d t q p
 |0,_,_,h,_,_,_=>by cases h
 |d+1,t,p,h,hl,q,hq=>by
  have hs:=h
  have hln:=hl
  rw [linB_def,Bool.and_eq_true] at hl
  by_cases h5:p.op=5
  ·obtain ⟨a,b,hk,ha,hb⟩:=shape_or h h5
   have hz:=hl.1
   rw [zAU h5,hk] at hz
   simp only [List.zip_cons_cons,List.zip_nil_right,List.all_cons,List.all_nil,Bool.and_eq_true,Bool.and_true] at hz
   have h2:=hl.2
   rw [if_pos h5,hk] at h2
   simp only at h2
   have hv:varsN xs (d+1) t p=varsN xs d t a:=by
    rw [varsN_def,show namedB p=false from by unfold namedB;rw [h5];rfl]
    unfold kidsV
    rw [if_pos h5,zAU h5,hk]
    simp
   rw [spl_or h5,hk] at hq
   simp only [List.flatMap_cons,List.flatMap_nil,List.append_nil,List.mem_append] at hq
   rcases hq with hq | hq
   ·have ih:=spl_part xs d t a ha hz.1 q hq
    exact ⟨shape_more xs d t q ih.shape,lin_more xs d t q ih.shape ih.lin,by rw [hv,vars_more xs d t q ih.shape];exact ih.vars,ih.one⟩
   ·have ih:=spl_part xs d t b hb hz.2 q hq
    exact ⟨shape_more xs d t q ih.shape,lin_more xs d t q ih.shape ih.lin,by rw [hv,vars_more xs d t q ih.shape];exact ih.vars.trans (alike_perm (lin_dup xs d t a ha hz.1) h2).symm,ih.one⟩
  ·rw [shapeB_def,Bool.and_eq_true,Bool.and_eq_true,beq_iff_eq] at h
   have h2:=hl.2
   rw [if_neg h5] at h2
   rw [spl_no h5] at hq
   obtain ⟨o,ho,rfl⟩:=List.mem_map.1 hq
   have he:=mem_pairAll ho
   have hlen:o.length=p.ks.length:=by rw [eachIn_len he,List.length_map]
   obtain ⟨z1,z2,z3,z4⟩:=parts_zip (spl_part xs d) (typesP xs t p) p.ks o he h.2.1.symm h.2.2 hl.1
   have ety:typesP xs t (p.re o)=typesP xs t p:=rfl
   have e5:¬(p.re o).op=5:=h5
   have eks:(p.re o).ks=o:=rfl
   have kv:∀ r:P,¬r.op=5→r.ks.length=(typesP xs t r).length→kidsV xs t r=(typesP xs t r).zip r.ks:=fun r hr hrl=>by
    unfold kidsV
    rw [if_neg hr]
    exact List.take_of_length_le (by simp;omega)
   have hv:(varsN xs (d+1) t (p.re o)).Perm (varsN xs (d+1) t p):=by
    rw [varsN_def,varsN_def xs d t p,kv p h5 h.2.1,kv (p.re o) e5 (by rw [eks,ety,hlen];exact h.2.1),ety,eks]
    exact .append_left _ z3
   refine ⟨?_,?_,hv,?_⟩
   ·rw [shapeB_def,Bool.and_eq_true,Bool.and_eq_true,beq_iff_eq]
    exact ⟨h.1,by rw [eks,ety,hlen];exact h.2.1,z1⟩
   ·rw [linB_def,Bool.and_eq_true]
    refine ⟨z2,?_⟩
    rw [if_neg e5]
    exact dup_perm hv h2
   ·rw [spl_no e5,eks,z4]
    rfl
theorem split_part {xs:List Dt} {t:Ty} {p q:P} (h:patternValidB xs t p=true) (hq:q∈P.spl p):patternValidB xs t q=true∧(varsN xs 10 t q).Perm (varsN xs 10 t p)∧P.spl q=[q]:=by
 unfold patternValidB patOkB at *
 simp only [Bool.and_eq_true,decide_eq_true_iff] at h ⊢
 have h1:=spl_part xs 10 t p h.2.1 h.2.2.2 q hq
 have h2:=spl_size p q hq
 have h3:=h.2.2.1
 exact ⟨⟨h.1,h1.shape,by unfold nodesP at *;omega,h1.lin⟩,h1.vars,h1.one⟩
theorem splitB_valid {xs:List Dt} {t:Ty} {p:P} (h:splitB xs t p=true):patternValidB xs t p=true:=by
 unfold splitB at h
 rw [Bool.and_eq_true] at h
 exact h.1
theorem split_big {xs:List Dt} {t:Ty} {p q:P} (h:q∈splitV xs t p):q.size≤p.size:=by
 unfold splitV at h
 split at h
 ·exact spl_size p q h
 ·cases h
end Go.Proofs.YtghekinfoadcoaaGreat
