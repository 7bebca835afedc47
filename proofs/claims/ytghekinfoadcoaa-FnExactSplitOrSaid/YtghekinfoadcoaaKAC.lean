/-
  Lemmas and contracts of functions: Alternatives chosen, in plain Lean; lists cut off and combined. Conditions: none. Least depths of values, in plain Lean: sweeps over a table reach a fixed point after ls many sweeps ls there are entries and one more. Conditions: the world is valid. Sweeps over a table of least depths reach a fixed point: as many as there are entries and one more are enough. Conditions: the world is valid. The constructors that can make values of a type, in plain Lean. Conditions: none. Least depths in plain Lean: the least depth of a type is that of a constructor; any index is no deeper than a given one. Conditions: the world is valid. Patterns in memory: an element in view; nodes. Conditions: none. Values as Lean data, and how they lie in memory. Conditions: none. Values of a type, in plain Lean; a value in a list. Conditions: none. Small functions of the reference on patterns: l3Kids, l3Own, l3Types. Conditions: the world is valid. Least values, in plain Lean. Conditions: the world is valid. l3Shape of the reference: the shape of a pattern, down to a depth. Conditions: the world is valid. l3Find of the reference. Conditions: none. Writing every part of a datum anew (mark) and reading it back (held): what changes in memory. Conditions: none.
-/
import Derived.Test.YtghekinfoadcoaaKAB
import Derived.Test.YtghekinfoadcoaaKAA
import Derived.Deep.RegionHeld3
import Derived.Deep.RegionWith
import Derived.Deep.QuietTactic
import Derived.BigQuiet
import Derived.IntWalk

set_option linter.unusedVariables false
set_option linter.unusedSimpArgs false
set_option maxRecDepth 100000
set_option maxHeartbeats 1600000

namespace Go.Proofs.Ytghekinfoadcoaa
open Go.RowKit
def cutVP {α:Type} (l:List α):List α:=l.take 401
theorem cutVP_len {α:Type} (l:List α):(cutVP l).length≤401:=by unfold cutVP;rw [List.length_take];omega
theorem cutVP_short {α:Type} {l:List α} (h:l.length≤401):cutVP l=l:=List.take_of_length_le h
theorem cutVP_not {α:Type} {l:List α} (h:(cutVP l).length≤400):cutVP l=l:=by
 unfold cutVP at h ⊢
 rw [List.length_take] at h
 exact List.take_of_length_le (by omega)
theorem cutVP_snoc {α:Type} {l:List α} (h:(cutVP l).length≤400) (x:α):cutVP l ++ [x]=cutVP (l ++ [x]):=by
 have h1:=cutVP_not h
 rw [h1] at h ⊢
 rw [cutVP_short (by rw [List.length_append,List.length_singleton];omega)]
theorem cutVP_full {α:Type} {l:List α} (h:¬(cutVP l).length≤400) (m:List α):cutVP l=cutVP (l ++ m):=by
 unfold cutVP at h ⊢
 rw [List.length_take] at h
 rw [List.take_append_of_le_length (by omega)]
theorem takeP_app_left {α:Type} (n:Nat) (X Y:List α):(X.take n ++ Y).take n=(X ++ Y).take n:=by
 rw [List.take_append,List.take_append,List.take_take,Nat.min_self,List.length_take]
 rcases Nat.lt_or_ge n X.length with h | h
 ·rw [Nat.min_eq_left (by omega),show n-n=0 by omega,show n-X.length=0 by omega]
 ·rw [Nat.min_eq_right h]
theorem takeP_app_right {α:Type} (n:Nat) (X Y:List α):(X ++ Y.take n).take n=(X ++ Y).take n:=by
 rw [List.take_append,List.take_append,List.take_take,Nat.min_eq_left (by omega)]
theorem takeP_flatMap_each {α β:Type} (n:Nat) (g:α→List β):∀ A:List α,(A.flatMap fun o=>(g o).take n).take n=(A.flatMap g).take n
 |[]=>rfl
 |a :: A=>by
  rw [List.flatMap_cons,List.flatMap_cons,takeP_app_left,←takeP_app_right,takeP_flatMap_each n g A,takeP_app_right]
theorem takeP_flatMap_few {α β:Type} (g:α→List β) (hg:∀ o,g o≠[]):∀ (A:List α) (n m:Nat),n≤m→((A.take m).flatMap g).take n=(A.flatMap g).take n
 |[],n,m,_=>by simp
 |a :: A,n,m,h=>by
  cases m with
  |zero =>
   obtain rfl:n=0:=by omega
   simp
  |succ m =>
   have h1:0<(g a).length:=List.length_pos_iff.2 (hg a)
   rw [List.take_succ_cons,List.flatMap_cons,List.flatMap_cons,List.take_append,List.take_append]
   congr 1
   exact takeP_flatMap_few g hg A _ _ (by omega)
def pairKP {α:Type} (o:List α) (l:List α):List (List α):=l.map fun k=>o ++ [k]
def pairLP {α:Type} (A:List (List α)) (l:List α):List (List α):=A.flatMap fun o=>pairKP o l
def pairAllP {α:Type} (ls:List (List α)):List (List α):=ls.foldl pairLP [[]]
theorem pairP_cut {α:Type} (A:List (List α)) (l:List α):cutVP (pairLP (cutVP A) (cutVP l))=cutVP (pairLP A l):=by
 have h1:cutVP (pairLP (cutVP A) (cutVP l))=cutVP (pairLP (cutVP A) l):=by
  have:=takeP_flatMap_each 401 (fun o=>pairKP o l) (cutVP A)
  unfold cutVP pairLP
  unfold cutVP at this
  rw [←this]
  congr 2
  funext o
  unfold pairKP
  rw [List.map_take]
 rw [h1]
 by_cases hl:l=[]
 ·subst hl
  have h0:∀ A:List (List α),pairLP A []=[]:=fun A=>by unfold pairLP pairKP;simp
  rw [h0,h0]
 ·exact takeP_flatMap_few (fun o=>pairKP o l) (fun o e=>hl (by unfold pairKP at e;simpa using e)) A 401 401 (zz8 _)
theorem pairFoldP_cut {α:Type}:∀ (ls:List (List α)) (A:List (List α)),cutVP ((ls.map cutVP).foldl pairLP A)=cutVP (ls.foldl pairLP A)∧∀ B,cutVP A=cutVP B→cutVP (ls.foldl pairLP A)=cutVP (ls.foldl pairLP B)
 |[],A=>⟨rfl,fun B h=>h⟩
 |l :: ls,A=>by
  have hcong:∀ A B,cutVP A=cutVP B→cutVP (pairLP A l)=cutVP (pairLP B l):=fun A B h=>by rw [←pairP_cut A,h,pairP_cut B]
  have hc2:cutVP (pairLP A (cutVP l))=cutVP (pairLP A l):=by
   rw [←pairP_cut A (cutVP l),←pairP_cut A l]
   congr 2
   unfold cutVP
   rw [List.take_take]
   rfl
  refine ⟨?_,fun B h=>?_⟩
  ·rw [List.map_cons,List.foldl_cons,List.foldl_cons,(pairFoldP_cut ls _).1]
   exact (pairFoldP_cut ls _).2 _ hc2
  ·rw [List.foldl_cons,List.foldl_cons]
   exact (pairFoldP_cut ls _).2 _ (hcong A B h)
theorem pairAllP_cut {α:Type} (ls:List (List α)):cutVP (pairAllP (ls.map cutVP))=cutVP (pairAllP ls):=(pairFoldP_cut ls [[]]).1
def pairToP {α:Type} (ls:List (List α)) (i:Nat):List (List α):=cutVP (pairAllP (ls.take i))
theorem pairToP_zero {α:Type} (ls:List (List α)):pairToP ls 0=[[]]:=rfl
theorem pairToP_len {α:Type} (ls:List (List α)) (i:Nat):(pairToP ls i).length≤401:=cutVP_len _
theorem pairToP_all {α:Type} (ls:List (List α)) {i:Nat} (h:ls.length≤i):pairToP ls i=cutVP (pairAllP ls):=by unfold pairToP;rw [List.take_of_length_le h]
theorem pairP_cut_left {α:Type} (A:List (List α)) (l:List α):cutVP (pairLP (cutVP A) l)=cutVP (pairLP A l):=by
 rw [←pairP_cut (cutVP A) l,←pairP_cut A l]
 congr 2
 unfold cutVP
 rw [List.take_take]
 rfl
theorem pairToP_succ {α:Type} (ls:List (List α)) (i:Nat) (h:i<ls.length):pairToP ls (i+1)=cutVP (pairLP (pairToP ls i) ls[i]):=by
 unfold pairToP
 rw [pairP_cut_left,take_snoc' ls i h]
 unfold pairAllP
 rw [List.foldl_append]
 rfl
def preLP {α:Type} (A:List (List α)) (l:List α) (k:Nat):List (List α):=(A.take k).flatMap fun o=>pairKP o l
def nextLP {α:Type} (A:List (List α)) (l:List α) (k:Nat):List (List α):=cutVP (preLP A l k)
def nextRP {α:Type} (pre:List (List α)) (o:List α) (l:List α) (j:Nat):List (List α):=cutVP (pre ++ pairKP o (l.take j))
theorem preLP_succ {α:Type} (A:List (List α)) (l:List α) (k:Nat) (h:k<A.length):preLP A l (k+1)=preLP A l k ++ pairKP A[k] l:=by
 unfold preLP
 rw [take_snoc' A k h,List.flatMap_append]
 simp
theorem nextRP_zero {α:Type} (pre:List (List α)) (o l:List α):nextRP pre o l 0=cutVP pre:=by unfold nextRP pairKP;simp
theorem nextRP_len {α:Type} (pre:List (List α)) (o l:List α) (j:Nat):(nextRP pre o l j).length≤401:=cutVP_len _
theorem nextLP_len {α:Type} (A:List (List α)) (l:List α) (k:Nat):(nextLP A l k).length≤401:=cutVP_len _
theorem pairKP_succ {α:Type} (o l:List α) (j:Nat) (h:j<l.length):pairKP o (l.take (j+1))=pairKP o (l.take j) ++ [o ++ [l[j]]]:=by
 unfold pairKP
 rw [take_snoc' l j h,List.map_append]
 rfl
theorem nextRP_succ {α:Type} {pre:List (List α)} {o l:List α} {j:Nat} (h:j<l.length) (h4:(nextRP pre o l j).length≤400):nextRP pre o l (j+1)=nextRP pre o l j ++ [o ++ [l[j]]]:=by
 unfold nextRP at h4 ⊢
 rw [cutVP_snoc h4,pairKP_succ _ _ _ h,List.append_assoc]
theorem nextRP_end {α:Type} {A:List (List α)} {l:List α} {k j:Nat} (hk:k<A.length) (h:¬(j<l.length∧(nextRP (preLP A l k) A[k] l j).length≤400)):nextRP (preLP A l k) A[k] l j=nextLP A l (k+1):=by
 unfold nextLP
 rw [preLP_succ A l k hk]
 by_cases hj:j<l.length
 ·have h4:¬(nextRP (preLP A l k) A[k] l j).length≤400:=fun h4=>h ⟨hj,h4⟩
  have h5:pairKP A[k] l=pairKP A[k] (l.take j) ++ pairKP A[k] (l.drop j):=by unfold pairKP;rw [←List.map_append,List.take_append_drop]
  unfold nextRP at h4 ⊢
  rw [h5,←List.append_assoc]
  exact cutVP_full h4 _
 ·unfold nextRP
  rw [List.take_of_length_le (by omega)]
theorem nextLP_end {α:Type} {A:List (List α)} {l:List α} {k:Nat} (h:¬(k<A.length∧(nextLP A l k).length≤400)):nextLP A l k=cutVP (pairLP A l):=by
 by_cases hk:k<A.length
 ·have h4:¬(nextLP A l k).length≤400:=fun h4=>h ⟨hk,h4⟩
  have h5:pairLP A l=preLP A l k ++ (A.drop k).flatMap fun o=>pairKP o l:=by unfold pairLP preLP;rw [←List.flatMap_append,List.take_append_drop]
  unfold nextLP at h4 ⊢
  rw [h5]
  exact cutVP_full h4 _
 ·unfold nextLP preLP pairLP
  rw [List.take_of_length_le (by omega)]
theorem pairAllP_each {α:Type} (ls:List (List α)):∀ o∈pairAllP ls,o.length=ls.length:=by
 have h:∀ (ls:List (List α)) (A:List (List α)) (n:Nat),(∀ o∈A,o.length=n)→∀ o∈ls.foldl pairLP A,o.length=n+ls.length:=by
  intro ls
  induction ls with
  |nil=>intro A n h o ho;exact h o ho
  |cons l ls ih =>
   intro A n h o ho
   rw [List.foldl_cons] at ho
   have:=ih (pairLP A l) (n+1) (fun o ho=>by
    obtain ⟨o',h1,h2⟩:=List.mem_flatMap.1 ho
    obtain ⟨k,-,rfl⟩:=List.mem_map.1 h2
    rw [List.length_append,h o' h1];rfl) o ho
   rw [this,List.length_cons];omega
 intro o ho
 have:=h ls [[]] 0 (by simp) o ho
 omega
theorem pairToP_each {α:Type} (ls:List (List α)) (i:Nat) (o:List α) (h:o∈pairToP ls i):o.length≤i:=by
 have h1:=pairAllP_each (ls.take i) o (List.mem_of_mem_take h)
 rw [List.length_take] at h1
 omega
theorem pairLP_len {α:Type} (A:List (List α)) (l:List α):(pairLP A l).length=A.length*l.length:=by
 unfold pairLP
 induction A with
 |nil=>simp
 |cons a A ih=>rw [List.flatMap_cons,List.length_append,ih,List.length_cons,Nat.succ_mul];unfold pairKP;rw [List.length_map];omega
theorem pairAllP_snoc {α:Type} (ls:List (List α)) (l:List α):pairAllP (ls ++ [l])=pairLP (pairAllP ls) l:=by unfold pairAllP;rw [List.foldl_append];rfl
theorem pairAllP_step {α:Type} (ls:List (List α)) (j:Nat) (h:j<ls.length):pairAllP (ls.take (j+1))=pairLP (pairAllP (ls.take j)) ls[j]:=by rw [take_snoc' ls j h,pairAllP_snoc]
theorem pairAllP_mono {α:Type} {ls:List (List α)} (h:∀ l∈ls,0<l.length):∀ (k j:Nat),(pairAllP (ls.take j)).length≤(pairAllP (ls.take (j+k))).length:=by
 intro k
 induction k with
 |zero=>intro j;exact zz8 _
 |succ k ih =>
  intro j
  refine Nat.le_trans (ih j) ?_
  rcases Nat.lt_or_ge (j+k) ls.length with hj | hj
  ·rw [show j+(k+1)=j+k+1 from rfl,pairAllP_step ls _ hj,pairLP_len]
   exact Nat.le_mul_of_pos_right _ (h _ (List.getElem_mem hj))
  ·rw [List.take_of_length_le hj,List.take_of_length_le (show ls.length≤j+(k+1) by omega)]
   exact zz8 _
theorem pairAllP_le {α:Type} {ls:List (List α)} (h:∀ l∈ls,0<l.length) (j:Nat):(pairAllP (ls.take j)).length≤(pairAllP ls).length:=by
 have h1:=pairAllP_mono h ls.length j
 rw [List.take_of_length_le (show ls.length≤j+ls.length by omega)] at h1
 exact h1
theorem pairAllP_pos {α:Type} {ls:List (List α)} (h:∀ l∈ls,0<l.length):0<(pairAllP ls).length:=by
 have h1:=pairAllP_le h 0
 exact h1
theorem pairAllP_kid {α:Type} {ls:List (List α)} (h:∀ l∈ls,0<l.length) (j:Nat) (hj:j<ls.length):ls[j].length≤(pairAllP ls).length:=by
 have h1:=pairAllP_le h (j+1)
 rw [pairAllP_step ls j hj,pairLP_len] at h1
 have h2:=pairAllP_pos (ls:=ls.take j) (fun l hl=>h l (List.mem_of_mem_take hl))
 exact Nat.le_trans (Nat.le_mul_of_pos_left _ h2) h1
def EachIn {α:Type}:List α→List (List α)→Prop
 |[],[]=>True
 |k :: ks,l :: ls=>k∈l∧EachIn ks ls
 |_,_=>False
theorem eachIn_snoc {α:Type}:∀ (o:List α) (ls:List (List α)) (k:α) (l:List α),EachIn o ls→k∈l→EachIn (o ++ [k]) (ls ++ [l])
 |[],[],k,l,_,hk=>⟨hk,trivial⟩
 |a :: o,m :: ls,k,l,h,hk=>⟨h.1,eachIn_snoc o ls k l h.2 hk⟩
 |[],_ :: _,_,_,h,_=>h.elim
 |_ :: _,[],_,_,h,_=>h.elim
theorem mem_pairAllP {α:Type} (ls:List (List α)):∀ (j:Nat),∀ o∈pairAllP (ls.take j),EachIn o (ls.take j):=by
 intro j
 induction j with
 |zero=>intro o ho;rw [List.take_zero] at ho ⊢;unfold pairAllP at ho;rw [List.foldl_nil,zy1] at ho;subst ho;trivial
 |succ j ih =>
  intro o ho
  rcases Nat.lt_or_ge j ls.length with hj | hj
  ·rw [pairAllP_step ls j hj] at ho
   obtain ⟨o',h1,h2⟩:=List.mem_flatMap.1 ho
   obtain ⟨k,h3,rfl⟩:=List.mem_map.1 h2
   rw [take_snoc' ls j hj]
   exact eachIn_snoc _ _ _ _ (ih o' h1) h3
  ·rw [List.take_of_length_le (show ls.length≤j+1 by omega)] at ho ⊢
   rw [List.take_of_length_le hj] at ih
   exact ih o ho
def P.re (p:P) (ks:List P):P:=⟨p.op,p.ct,p.n,p.m,p.va,ks⟩
mutual
def P.spl:P→List P
 |⟨op,ct,n,m,va,ks⟩=>if op=5 then P.splo ks else (pairAllP (P.spla ks)).map (P.re ⟨op,ct,n,m,va,[]⟩)
def P.spla:List P→List (List P)
 |[]=>[]
 |k :: ks=>P.spl k :: P.spla ks
def P.splo:List P→List P
 |[]=>[]
 |k :: ks=>P.spl k ++ P.splo ks
end
theorem spla_map:∀ ks,P.spla ks=ks.map P.spl
 |[]=>rfl
 |k :: ks=>by rw [P.spla,spla_map ks,List.map_cons]
theorem splo_flat:∀ ks,P.splo ks=ks.flatMap P.spl
 |[]=>rfl
 |k :: ks=>by rw [P.splo,splo_flat ks,List.flatMap_cons]
theorem spl_or {p:P} (h:p.op=5):P.spl p=p.ks.flatMap P.spl:=by
 obtain ⟨op,ct,n,m,va,ks⟩:=p
 rw [P.spl,if_pos h,splo_flat]
theorem spl_no {p:P} (h:¬p.op=5):P.spl p=(pairAllP (p.ks.map P.spl)).map p.re:=by
 obtain ⟨op,ct,n,m,va,ks⟩:=p
 rw [P.spl,if_neg h,spla_map]
 rfl
def lenTo (p:P) (i:Nat):Nat:=if p.op=5 then ((p.ks.take i).flatMap P.spl).length else (pairAllP ((p.ks.map P.spl).take i)).length
theorem lenTo_or {p:P} (h:p.op=5):lenTo p 0=0:=by unfold lenTo;rw [if_pos h];rfl
theorem lenTo_no {p:P} (h:¬p.op=5):lenTo p 0=1:=by unfold lenTo;rw [if_neg h];rfl
theorem lenTo_add {p:P} (h:p.op=5) (i:Nat) (hi:i<p.ks.length):lenTo p (i+1)=lenTo p i+(P.spl p.ks[i]).length:=by
 unfold lenTo
 rw [if_pos h,if_pos h,take_snoc' p.ks i hi,List.flatMap_append,List.length_append]
 simp
theorem lenTo_mul {p:P} (h:¬p.op=5) (i:Nat) (hi:i<p.ks.length):lenTo p (i+1)=lenTo p i*(P.spl p.ks[i]).length:=by
 unfold lenTo
 rw [if_neg h,if_neg h,pairAllP_step _ _ (by simpa using hi),pairLP_len]
 simp
theorem lenTo_all {p:P} {i:Nat} (hi:p.ks.length≤i):lenTo p i=(P.spl p).length:=by
 unfold lenTo
 by_cases h:p.op=5
 ·rw [if_pos h,spl_or h,List.take_of_length_le hi]
 ·rw [if_neg h,spl_no h,List.length_map,List.take_of_length_le (by simpa using hi)]
def cut4 (n:Nat):Nat:=min n 401
theorem cut4_le (n:Nat):cut4 n≤401:=by unfold cut4;omega
theorem cut4_add (a b:Nat):min (cut4 a+cut4 b) 401=cut4 (a+b):=by unfold cut4;omega
theorem cut4_mul (a b:Nat):min (cut4 a*cut4 b) 401=cut4 (a*b):=by
 unfold cut4
 rcases Nat.lt_or_ge 401 a with ha | ha
 ·rcases Nat.eq_zero_or_pos b with rfl | hb
  ·simp
  ·have h1:401*1≤min a 401*min b 401:=Nat.mul_le_mul (by omega) (by omega)
   have h2:a*1≤a*b:=Nat.mul_le_mul (zz8 _) hb
   omega
 ·rcases Nat.lt_or_ge 401 b with hb | hb
  ·rcases Nat.eq_zero_or_pos a with rfl | ha
   ·simp
   ·have h1:1*401≤min a 401*min b 401:=Nat.mul_le_mul (by omega) (by omega)
    have h2:1*b≤a*b:=Nat.mul_le_mul ha (zz8 _)
    omega
  ·rw [Nat.min_eq_left ha,Nat.min_eq_left hb]
theorem cut4_big (n:Nat):(400:Int)<(cut4 n:Nat)↔¬n≤400:=by unfold cut4;omega
theorem min4_mul (a b:Nat):(if (401:Int)<(a:Int)*(b:Int) then (401:Int) else (a:Int)*(b:Int))=((min (a*b) 401:Nat):Int):=by
 rw [←Int.natCast_mul]
 split <;> omega
theorem min4_add (a b:Nat):(if (401:Int)<(a:Int)+(b:Int) then (401:Int) else (a:Int)+(b:Int))=((min (a+b) 401:Nat):Int):=by split <;> omega
theorem shape_kids {xs:List Dt} {d:Nat} {t:Ty} {p:P} (h:shapeB xs (d+1) t p=true):(typesP xs t p).length=p.ks.length∧∀ (i:Nat) (h1:i<(typesP xs t p).length) (h2:i<p.ks.length),shapeB xs d (typesP xs t p)[i] p.ks[i]=true:=by
 rw [shapeB,Bool.and_eq_true,Bool.and_eq_true,beq_iff_eq] at h
 obtain ⟨-,h1,h2⟩:=h
 refine ⟨h1.symm,fun i h3 h4=>?_⟩
 rw [List.all_eq_true] at h2
 exact h2 ((typesP xs t p)[i],p.ks[i]) (List.mem_iff_getElem.2 ⟨i,by simp;omega,by simp⟩)
theorem shape_kid {xs:List Dt} {d:Nat} {t:Ty} {p:P} (h:shapeB xs (d+1) t p=true) {k:P} (hk:k∈p.ks):∃ u,shapeB xs d u k=true:=by
 obtain ⟨i,hi,rfl⟩:=List.getElem_of_mem hk
 obtain ⟨h1,h2⟩:=shape_kids h
 exact ⟨_,h2 i (by omega) hi⟩
theorem shape_or {xs:List Dt} {d:Nat} {t:Ty} {p:P} (h:shapeB xs (d+1) t p=true) (h5:p.op=5):∃ a b,p.ks=[a,b]∧shapeB xs d t a=true∧shapeB xs d t b=true:=by
 obtain ⟨h1,h2⟩:=shape_kids h
 have h3:=typesP_or (xs:=xs) (t:=t) h5
 rw [h3] at h1
 obtain ⟨a,b,hk⟩:=kids_two h1.symm
 refine ⟨a,b,hk,?_,?_⟩
 ·have:=h2 0 (by rw [h3];simp) (by rw [hk];simp)
  simpa [h3,hk] using this
 ·have:=h2 1 (by rw [h3];simp) (by rw [hk];simp)
  simpa [h3,hk] using this
theorem spl_pos (xs:List Dt):∀ (d:Nat) (t:Ty) (p:P),shapeB xs d t p=true→0<(P.spl p).length
 |0,_,_,h=>by simp [shapeB] at h
 |d+1,t,p,h=>by
  by_cases h5:p.op=5
  ·obtain ⟨a,b,hk,ha,-⟩:=shape_or h h5
   rw [spl_or h5,hk,List.flatMap_cons,List.length_append]
   have:=spl_pos xs d t a ha
   omega
  ·rw [spl_no h5,List.length_map]
   refine pairAllP_pos fun l hl=>?_
   obtain ⟨k,hk,rfl⟩:=List.mem_map.1 hl
   obtain ⟨u,hu⟩:=shape_kid h hk
   exact spl_pos xs d u k hu
structure SplOk (p:P):Prop where
 two:p.op=5→∃ a b,p.ks=[a,b]
 pos:∀ k∈p.ks,0<(P.spl k).length
theorem splOk_of {xs:List Dt} {d:Nat} {t:Ty} {p:P} (h:shapeB xs (d+1) t p=true):SplOk p:=⟨fun h5=>by obtain ⟨a,b,hk,-,-⟩:=shape_or h h5;exact ⟨a,b,hk⟩,fun k hk=>by obtain ⟨u,hu⟩:=shape_kid h hk;exact spl_pos xs d u k hu⟩
theorem cutVP_app {α:Type} (a b:List α):cutVP (cutVP a ++ cutVP b)=cutVP (a ++ b):=by unfold cutVP;rw [takeP_app_right,takeP_app_left]
theorem cutVP_map {α β:Type} (f:α→β) (a:List α):(cutVP a).map f=cutVP (a.map f):=by unfold cutVP;rw [List.map_take]
theorem cutVP_or {p:P} (h:p.op=5) {a b:P} (hk:p.ks=[a,b]):cutVP (cutVP (P.spl a) ++ cutVP (P.spl b))=cutVP (P.spl p):=by rw [cutVP_app,spl_or h,hk];simp
theorem cutVP_no {p:P} (h:¬p.op=5):(cutVP (pairAllP (p.ks.map fun k=>cutVP (P.spl k)))).map p.re=cutVP (P.spl p):=by
 rw [cutVP_map,spl_no h,←cutVP_map,←cutVP_map]
 congr 1
 rw [←pairAllP_cut (p.ks.map P.spl),List.map_map]
 rfl
theorem cutVP_big {α:Type} (l:List α):400<(cutVP l).length↔¬l.length≤400:=by unfold cutVP;rw [List.length_take];omega
theorem sizes_each:∀ (o:List P) (ks:List P),EachIn o (ks.map P.spl)→(∀ k∈ks,∀ q∈P.spl k,q.size≤k.size)→P.sizes o≤P.sizes ks
 |[],[],_,_=>zz8 _
 |q :: o,k :: ks,h,hs=>by
  have h1:=hs k (by simp) q h.1
  have h2:=sizes_each o ks h.2 (fun k' hk'=>hs k' (by simp [hk']))
  simp only [P.sizes]
  omega
 |[],_ :: _,h,_=>h.elim
 |_ :: _,[],h,_=>h.elim
theorem size_kid {p k:P} (h:k∈p.ks):k.size<p.size:=by
 obtain ⟨op,ct,n,m,va,ks⟩:=p
 obtain ⟨i,hi,rfl⟩:=List.getElem_of_mem h
 have:=P.size_lt ks i hi
 simp only at hi
 show ks[i].size<P.sizes ks
 omega
theorem spl_size:∀ (p:P),∀ q∈P.spl p,q.size≤p.size:=P.ind fun op ct n m va ks ih q hq=>by
 by_cases h5:op=5
 ·rw [spl_or h5] at hq
  obtain ⟨k,hk,hq⟩:=List.mem_flatMap.1 hq
  exact Nat.le_trans (ih k hk q hq) (Nat.le_of_lt (size_kid (p:=⟨op,ct,n,m,va,ks⟩) hk))
 ·rw [spl_no h5] at hq
  obtain ⟨o,ho,rfl⟩:=List.mem_map.1 hq
  have h1:=mem_pairAllP (ks.map P.spl) (ks.map P.spl).length
  rw [List.take_length] at h1
  show P.sizes o≤P.sizes ks
  exact sizes_each o ks (h1 o ho) ih
def splTo (p:P) (j:Nat):List P:=(pairAllP ((p.ks.map P.spl).take j)).map p.re
theorem splTo_zero (p:P):splTo p 0=[p.re []]:=rfl
theorem splTo_all {p:P} (h:¬p.op=5) {j:Nat} (hj:p.ks.length≤j):splTo p j=P.spl p:=by
 unfold splTo
 rw [List.take_of_length_le (by simpa using hj),spl_no h]
theorem splTo_each (p:P) (j:Nat):∀ q∈splTo p j,q.ks.length≤j:=fun q hq=>by
 obtain ⟨o,ho,rfl⟩:=List.mem_map.1 hq
 have h1:=pairAllP_each _ o ho
 rw [List.length_take] at h1
 show o.length≤j
 omega
def growKR (q:P) (kids:List P):List P:=kids.map fun k=>q.re (q.ks ++ [k])
def growR (list kids:List P):List P:=list.flatMap fun q=>growKR q kids
def growRTo (list kids:List P) (a:Nat):List P:=growR (list.take a) kids
theorem growKR_len (q:P) (kids:List P):(growKR q kids).length=kids.length:=List.length_map _
theorem growR_len (list kids:List P):(growR list kids).length=list.length*kids.length:=by
 unfold growR
 induction list with
 |nil=>simp
 |cons v l ih=>rw [List.flatMap_cons,List.length_append,ih,growKR_len,List.length_cons,Nat.succ_mul];omega
theorem growRTo_all (list kids:List P) {a:Nat} (h:list.length≤a):growRTo list kids a=growR list kids:=by unfold growRTo;rw [List.take_of_length_le h]
theorem growRTo_succ (list kids:List P) (a:Nat) (h:a<list.length):growRTo list kids (a+1)=growRTo list kids a ++ growKR list[a] kids:=by
 unfold growRTo growR
 rw [take_snoc' list a h,List.flatMap_append]
 simp
theorem growRTo_len (list kids:List P) (a:Nat) (h:a≤list.length):(growRTo list kids a).length=a*kids.length:=by
 unfold growRTo
 rw [growR_len,List.length_take,Nat.min_eq_left h]
def moreR (pre:List P) (q:P) (kids:List P) (s:Nat):List P:=pre ++ growKR q (kids.take s)
theorem moreR_zero (pre:List P) (q:P) (kids:List P):moreR pre q kids 0=pre:=by unfold moreR growKR;simp
theorem moreR_succ (pre:List P) (q:P) (kids:List P) (s:Nat) (h:s<kids.length):moreR pre q kids (s+1)=moreR pre q kids s ++ [q.re (q.ks ++ [kids[s]])]:=by
 unfold moreR growKR
 rw [take_snoc' kids s h,List.map_append,List.append_assoc]
 rfl
theorem moreR_len (pre:List P) (q:P) (kids:List P) (s:Nat):(moreR pre q kids s).length≤pre.length+s:=by unfold moreR;rw [List.length_append,growKR_len,List.length_take];omega
theorem moreR_all (pre:List P) (q:P) (kids:List P) {s:Nat} (h:kids.length≤s):moreR pre q kids s=pre ++ growKR q kids:=by unfold moreR;rw [List.take_of_length_le h]
theorem splTo_succ (p:P) (j:Nat) (h:j<p.ks.length):splTo p (j+1)=growR (splTo p j) (P.spl p.ks[j]):=by
 unfold splTo growR
 rw [pairAllP_step _ _ (by simpa using h),List.flatMap_map]
 unfold pairLP
 rw [List.map_flatMap]
 congr 1
 funext o
 unfold pairKP growKR
 rw [List.map_map,List.getElem_map]
 rfl
theorem splTo_len_succ (p:P) (j:Nat) (h:j<p.ks.length):(splTo p (j+1)).length=(splTo p j).length*(P.spl p.ks[j]).length:=by rw [splTo_succ p j h,growR_len]
theorem splTo_le {p:P} (h:¬p.op=5) (hp:∀ k∈p.ks,0<(P.spl k).length) (j:Nat):(splTo p j).length≤(P.spl p).length:=by
 rw [spl_no h,List.length_map]
 unfold splTo
 rw [List.length_map]
 exact pairAllP_le (fun l hl=>by obtain ⟨k,hk,rfl⟩:=List.mem_map.1 hl;exact hp k hk) j
theorem spl_kid_le {p:P} (h:¬p.op=5) (hp:∀ k∈p.ks,0<(P.spl k).length) (j:Nat) (hj:j<p.ks.length):(P.spl p.ks[j]).length≤(P.spl p).length:=by
 rw [spl_no h,List.length_map]
 have:=pairAllP_kid (ls:=p.ks.map P.spl) (fun l hl=>by obtain ⟨k,hk,rfl⟩:=List.mem_map.1 hl;exact hp k hk) j (by simpa using hj)
 simpa using this
def Shp (p:P):Prop:=∃ xs d t,shapeB xs d t p=true
theorem Shp.kid {p k:P} (h:Shp p) (hk:k∈p.ks):Shp k:=by
 obtain ⟨xs,d,t,h⟩:=h
 cases d with
 |zero=>simp [shapeB] at h
 |succ d=>obtain ⟨u,hu⟩:=shape_kid h hk;exact ⟨xs,d,u,hu⟩
theorem Shp.ok {p:P} (h:Shp p):SplOk p:=by
 obtain ⟨xs,d,t,h⟩:=h
 cases d with
 |zero=>simp [shapeB] at h
 |succ d=>exact splOk_of h
theorem Shp.or {p:P} (h:Shp p) (h5:p.op=5):∃ hl:p.ks.length=2,P.spl p=P.spl (p.ks[0]'(by omega)) ++ P.spl (p.ks[1]'(by omega)):=by
 obtain ⟨a,b,hk⟩:=h.ok.two h5
 refine ⟨by rw [hk];rfl,?_⟩
 rw [spl_or h5]
 simp [hk]
theorem Shp.or2 {p:P} (h:Shp p) (h5:p.op=5):∃ hl:p.ks.length=2,cutVP (cutVP (P.spl (p.ks[0]'(by omega))) ++ cutVP (P.spl (p.ks[1]'(by omega))))=cutVP (P.spl p):=by
 obtain ⟨a,b,hk⟩:=h.ok.two h5
 refine ⟨by rw [hk];rfl,?_⟩
 rw [←cutVP_or h5 hk]
 simp [hk]
def slotOf (t:Ty):Nat:=t.d.toNat*4+t.i.toNat
def tyAt (s:Nat):Ty:=⟨((s / 4:Nat):Int),((s % 4:Nat):Int)⟩
def depthIn (tab:List Int) (t:Ty):Int:=if t.d = -1 then 1 else tab.getD (slotOf t) 0
def mostGo (tab:List Int):Int→List Ty→Int
 |m,[]=>m+1
 |m,a :: ls=>if depthIn tab a=0 then 0 else mostGo tab (max m (depthIn tab a)) ls
def mostIn (xs:List Dt) (tab:List Int) (t:Ty) (k:Int):Int:=mostGo tab 0 (argsOf xs t k)
def better (tab:List Int) (s:Nat) (n:Int):Bool:=decide (0<n) && (decide (tab.getD s 0=0) || decide (n<tab.getD s 0))
def putIf (tab:List Int) (s:Nat) (n:Int):List Int:=if better tab s n=true then tab.set s n else tab
def slotGo (xs:List Dt) (s:Nat) (tab:List Int) (ks:List Int):List Int:=ks.foldl (fun tab k=>putIf tab s (mostIn xs tab (tyAt s) k)) tab
def sweepTo (xs:List Dt) (tab:List Int) (s:Nat):List Int:=(List.range s).foldl (fun tab s=>slotGo xs s tab (ctorsL xs (tyAt s))) tab
def sweep (xs:List Dt) (tab:List Int):List Int:=sweepTo xs tab (xs.length*4)
def sweeps (xs:List Dt):Nat→List Int
 |0=>List.replicate (xs.length*4) 0
 |n+1=>sweep xs (sweeps xs n)
def tableL (xs:List Dt):List Int:=sweeps xs (xs.length*4+1)
/-! ### Types with a value of a depth -/
def hasD (xs:List Dt):Nat→Ty→Prop
 |0,_=>False
 |n+1,t=>t.d = -1∨∃ k∈ctorsL xs t,∀ a∈argsOf xs t k,hasD xs n a
def TyIn (n:Nat) (t:Ty):Prop:=t.d = -1∨∃ d i:Nat,t=⟨(d:Int),(i:Int)⟩∧d<n∧i<4
theorem TyIn.inWorld {n:Nat} {t:Ty} (h:TyIn n t):InWorld n t:=by
 rcases h with h | ⟨d,i,rfl,h1,h2⟩
 ·exact .inl h
 ·exact .inr ⟨d,rfl,h1⟩
theorem typeOkB_tyIn {n:Nat} {t:Ty} (h:typeOkB n t=true):TyIn n t:=by
 unfold typeOkB at h
 by_cases e:t.d = -1
 ·exact .inl e
 ·rw [if_neg e] at h
  simp [withinB] at h
  refine .inr ⟨t.d.toNat,t.i.toNat,?_,by omega,by omega⟩
  obtain ⟨t1,t2⟩:=t
  simp only at h ⊢
  congr 1 <;> omega
theorem argTy_in {n:Nat} {c:Kt} (hc:KtOk n c) {i:Int} (h0:0≤i) (h3:i≤3) {a:Ty} (ha:a∈argsL c i):TyIn n a:=by
 unfold argsL at ha
 obtain ⟨b,hb,rfl⟩:=List.mem_map.1 ha
 have hok:=hc.all b hb
 have hr:0≤resIdx c i∧resIdx c i≤3:=by
  unfold resIdx
  split
  ·exact ⟨h0,h3⟩
  ·exact ⟨hc.lo,hc.hi⟩
 unfold argOkB at hok
 cases q:(b.i == -1) with
 |true =>
  rw [argTy_yes q]
  by_cases e:b.d = -1
  ·exact .inl e
  ·rw [if_neg e] at hok
   simp [withinB] at hok
   refine .inr ⟨b.d.toNat,(resIdx c i).toNat,?_,by omega,by omega⟩
   congr 1 <;> omega
 |false =>
  rw [argTy_no q]
  have q':¬b.i = -1:=by simpa using q
  by_cases e:b.d = -1
  ·exact .inl e
  ·rw [if_neg e] at hok
   simp [withinB] at hok
   refine .inr ⟨b.d.toNat,b.i.toNat,?_,by omega,by omega⟩
   obtain ⟨b1,b2⟩:=b
   simp only at hok q' ⊢
   congr 1 <;> omega
theorem argsOf_in {xs:List Dt} (hw:WorldOK xs) {t:Ty} (ht:TyIn xs.length t) {k:Int} (hk:k∈ctorsL xs t) {a:Ty} (ha:a∈argsOf xs t k):TyIn xs.length a:=by
 rcases ht with h | ⟨d,i,rfl,h1,h2⟩
 ·rw [ctorsL_int h] at hk;cases hk
 ·obtain ⟨d',m,e1,rfl,hd,hm⟩:=mem_ctorsL (.inr ⟨d,rfl,h1⟩) hk
  obtain rfl:d=d':=Int.ofNat.inj e1
  rw [argsOf_get hd hm] at ha
  exact argTy_in (hw.ctor hd hm) (by omega) (by omega) ha
/-! ### What an entry says -/
structure Sound (xs:List Dt) (tab:List Int):Prop where
 pos:∀ s,0≤tab.getD s 0
 has:∀ s,s<xs.length*4→tab.getD s 0≠0→hasD xs (tab.getD s 0).toNat (tyAt s)
 len:tab.length=xs.length*4
/-! ### Entries become no worse -/
def Le (t t':List Int):Prop:=∀ s,t.getD s 0≠0→t'.getD s 0≠0∧t'.getD s 0≤t.getD s 0
def Done (xs:List Dt) (tab:List Int) (n:Nat):Prop:=∀ s,s<xs.length*4→hasD xs n (tyAt s)→tab.getD s 0≠0∧tab.getD s 0≤n
open Classical
def Stable (xs:List Dt) (n:Nat):Prop:=∀ s,s<xs.length*4→hasD xs (n+1) (tyAt s)→hasD xs n (tyAt s)
noncomputable def lvl (xs:List Dt) (n:Nat):Nat:=((List.range (xs.length*4)).filter fun s=>decide (hasD xs n (tyAt s))).length
def movedB (t cur:List Int):Bool:=!(cur==t)
def depthL (xs:List Dt) (t:Ty):Int:=if typeValidB xs t=true then depthIn (tableL xs) t else 0
/-! ### The least of some numbers, where 0 stands for none -/
def bestOf (b m:Int):Int:=if m≠0∧(b=0∨m<b) then m else b
def bestTo (ms:List Int):Int:=ms.foldl bestOf 0
/-! ### Any index is no deeper -/
theorem ArrP.at {w0 w:World} {b off n cap:Nat} {F:List Nat} {xs:List P} (h:Arr w0 (PR w0) xs (.slice (some ⟨b,off,none⟩) n cap) F) (hF:Under w0.heap.size F) (hB:Below w0.heap.size w0 w) (i:Nat) (hi:i<xs.length) :
  ∃ A1 cap1 G,b<w.heap.size∧w.cell? ⟨b,off+i*6,none⟩=some (.int .i64 xs[i].op)∧w.cell? ⟨b,off+i*6+1,none⟩=some (.int .i64 xs[i].ct)∧w.cell? ⟨b,off+i*6+2,none⟩=some (.int .i64 xs[i].n)∧w.cell? ⟨b,off+i*6+3,none⟩=some (.int .i64 xs[i].m)∧w.cell? ⟨b,off+i*6+4,none⟩=some (.int .i64 xs[i].va)∧w.cell? ⟨b,off+i*6+5,none⟩=some (.slice A1 xs[i].ks.length cap1) ∧
   Hid (PR w0 xs[i] [.int .i64 xs[i].op,.int .i64 xs[i].ct,.int .i64 xs[i].n,.int .i64 xs[i].m,.int .i64 xs[i].va,.slice A1 xs[i].ks.length cap1] G)∧Hid (Under w0.heap.size G)∧(∀ b∈G,b∈F)∧xs[i].ks.length≤cap1∧cap1≤9223372036854775807:=by
 obtain ⟨b',off',cs,G,e,hb,hcs,hv,hG⟩:=h.get PR_len hi
 cases e
 have hbl:=hF _ hb
 have hc:=hcs.same (hB.block _ hbl)
 obtain ⟨kv,rfl,ha⟩:=(zA4 _ _ _).1 hv
 obtain ⟨A1,cap1,rfl,h1,h2⟩:=ha.form
 exact ⟨A1,cap1,G,zz9 hbl hB.size,hc 0 _ rfl,hc 1 _ rfl,hc 2 _ rfl,hc 3 _ rfl,hc 4 _ rfl,hc 5 _ rfl,hv,hF.sub hG,hG,h1,h2⟩
theorem zAO (p:P):nodesP p=1+P.sizes p.ks:=by obtain ⟨op,ct,n,m,va,ks⟩:=p;unfold nodesP;rw [P.size];simp only;omega
theorem sizesP_step {l:List P} {i:Nat} (h:i<l.length):P.sizes (l.take (i+1))=P.sizes (l.take i)+nodesP l[i]:=by
 rw [P.sizes_eq,P.sizes_eq,P.subs_take_succ l i h,List.length_take,List.length_take]
 unfold nodesP
 omega
theorem zA8 (l:List P) (i:Nat):P.sizes (l.take i)≤P.sizes l:=by
 rw [P.sizes_eq,P.sizes_eq,List.length_take]
 have:=P.subs_take_le l i
 omega
theorem nodesP_mem {l:List P} {i:Nat} (h:i<l.length):nodesP l[i]≤P.sizes l:=by
 have h1:=sizesP_step h
 have h2:=zA8 l (i+1)
 omega
theorem P.indv {q:P→Prop} (h:∀ v:P,(∀ k∈v.ks,q k)→q v):∀ v,q v:=P.ind fun op ct n m va ks ih=>h ⟨op,ct,n,m,va,ks⟩ ih
structure V where
 c:Int
 n:Int
 ks:List V
mutual
def V.size:V→Nat
 |⟨_,_,ks⟩=>V.sizes ks
def V.sizes:List V→Nat
 |[]=>0
 |k :: ks=>1+V.size k+V.sizes ks
end
def V.subs:List V→Nat
 |[]=>0
 |k :: ks=>k.size+V.subs ks
mutual
def VR (w:World):V→List Value→List Nat→Prop
 |⟨c,n,ks⟩,cs,F=>∃ A cap,cs=[.int .i64 c,.int .i64 n,.slice A ks.length cap]∧ks.length≤cap∧cap≤maxLen∧((ks=[]∧F=[])∨∃ b off ds G,A=some ⟨b,off,none⟩∧CellsAt w b off ds∧VRs w ks ds G∧F=b :: G)
def VRs (w:World):List V→List Value→List Nat→Prop
 |[],cs,F=>cs=[]∧F=[]
 |x :: xs,cs,F=>∃ c1 c2 F1 F2,cs=c1 ++ c2∧F=F1 ++ F2∧VR w x c1 F1∧VRs w xs c2 F2
end
def nodes (v:V):Nat:=1+v.size
def zipAll (f:Ty→V→Bool):List Ty→List V→Bool
 |a :: ls,k :: ks=>f a k && zipAll f ls ks
 |_,_=>true
def isNum (v:V):Bool:=(v.c == -1) && (withinB v.n 0 9 && decide (v.ks.length=0))
def fitsV (xs:List Dt):Nat→Ty→V→Bool
 |0,_,_=>false
 |d+1,t,v=>if t.d = -1 then isNum v else (v.n==0) && (hasB (ctorsL xs t) v.c && (decide (v.ks.length=(argsOf xs t v.c).length) && zipAll (fitsV xs d) (argsOf xs t v.c) v.ks))
def valueOkB (xs:List Dt) (t:Ty) (v:V):Bool:=fitsV xs 10 t v && decide (nodes v≤60)
def valueValidB (xs:List Dt) (t:Ty) (v:V):Bool:=typeValidB xs t && valueOkB xs t v
theorem spec_l3Kids (op:Int) (h4:¬op=4) (w:World):Calls Try.prog 75 #[.int .i64 op] w fun e w'=>e=.returned (.int .i64 ((kidsN op:Nat):Int))∧w'=w:=by
 have t4:(op==4)=false:=by simpa using h4
 by_cases h5:op=5
 ·subst h5
  go_enter Try.func75,Try.ntmps75
  go_wp2
  go_ret
  exact ⟨rfl,rfl⟩
 ·have t5:(op==5)=false:=by simpa using h5
  by_cases h6:op=6
  ·subst h6
   go_enter Try.func75,Try.ntmps75
   go_wp2
   go_ret
   exact ⟨rfl,rfl⟩
  ·have t6:(op==6)=false:=by simpa using h6
   have hk:Hid (kidsN op=0):=by unfold Hid kidsN;rw [if_neg h5,if_neg h6]
   go_enter Try.func75,Try.ntmps75
   go_wp2
   go_ret
   exact ⟨by rw [hk.out];rfl,rfl⟩
theorem spec_l3Own (xs:List Dt) (hw:WorldOK xs) (t:Ty) (ht:TyIn xs.length t) (p:P) (w:World) (x:Value) (F:List Nat) (cs:List Value) (G:List Nat):Arr w (DtR w) xs x F→Under w.heap.size F→PR w p cs G→Under w.heap.size G →
  Calls Try.prog 60 #[x,.agg #[.int .i64 t.d,.int .i64 t.i],.agg cs.toArray] w fun e w'=>e=.returned (.bool (ownB xs t p))∧Below w.heap.size w w':=by
 intro hx hf hv hg
 obtain ⟨kv,rfl,ha⟩:=(zA4 _ _ _).1 hv
 obtain ⟨A,cap,rfl,hc1,hc2⟩:=hx.form
 obtain ⟨A4,cap4,rfl,hc3,hc4⟩:=ha.form
 have HV:=jj hv
 have HX:=jj hx
 have HF:=jj hf
 have HA:=jj ha
 have HG:=jj hg
 clear hx hf ha hg
 clear hv
 have HW:=jj hw
 have HT:=jj ht.inWorld
 clear hw ht HA HG HV
 obtain ⟨op,ct,n,m,va,ks⟩:=p
 simp only at hc3 hc4 ⊢
 have HB:Hid (Below w.heap.size w ((w.alloc (.cells #[.int .i64 t.d,.int .i64 t.i] 35)).alloc (.cells #[.int .i64 op,.int .i64 ct,.int .i64 n,.int .i64 m,.int .i64 va,.slice A4 ks.length cap4] 38))):=((zy2 _ _).alloc (zz8 _) _).alloc (by simp) _
 by_cases o1:op=1
 ·subst o1
  by_cases v1:va=0
  ·have tv1:(va != 0)=false:=by simp [v1]
   by_cases n1:n=0
   ·have tn1:(n != 0)=false:=by simp [n1]
    by_cases m1:m=0
    ·have tm1:(m != 0)=false:=by simp [m1]
     by_cases c1:ct=0
     ·have tc1:(ct != 0)=false:=by simp [c1]
      have hf:Hid (ownB xs t ⟨1,ct,n,m,va,ks⟩=true):=by unfold Hid ownB namedB kindB;simp [v1,n1,m1,c1]
      go_enter Try.func60,Try.ntmps60
      go_wp2
      go_ret
      exact ⟨by subst_vars;exact zA0 hf.out.symm,((zy2 _ _).alloc (zz8 _) _).alloc (by simp) _⟩
     ·have tc1:(ct != 0)=true:=by simpa using c1
      have hf:Hid (ownB xs t ⟨1,ct,n,m,va,ks⟩=false):=by unfold Hid ownB namedB kindB;simp [v1,n1,m1,c1]
      go_enter Try.func60,Try.ntmps60
      go_wp2
      go_ret
      exact ⟨by subst_vars;exact zA0 hf.out.symm,((zy2 _ _).alloc (zz8 _) _).alloc (by simp) _⟩
    ·have tm1:(m != 0)=true:=by simpa using m1
     have hf:Hid (ownB xs t ⟨1,ct,n,m,va,ks⟩=false):=by unfold Hid ownB namedB kindB;simp [v1,m1]
     go_enter Try.func60,Try.ntmps60
     go_wp2
     go_ret
     exact ⟨by subst_vars;exact zA0 hf.out.symm,((zy2 _ _).alloc (zz8 _) _).alloc (by simp) _⟩
   ·have tn1:(n != 0)=true:=by simpa using n1
    have hf:Hid (ownB xs t ⟨1,ct,n,m,va,ks⟩=false):=by unfold Hid ownB namedB kindB;simp [v1,n1]
    go_enter Try.func60,Try.ntmps60
    go_wp2
    go_ret
    exact ⟨by subst_vars;exact zA0 hf.out.symm,((zy2 _ _).alloc (zz8 _) _).alloc (by simp) _⟩
  ·have tv1:(va != 0)=true:=by simpa using v1
   have hf:Hid (ownB xs t ⟨1,ct,n,m,va,ks⟩=false):=by unfold Hid ownB namedB kindB;simp [v1]
   go_enter Try.func60,Try.ntmps60
   go_wp2
   go_ret
   exact ⟨by subst_vars;exact zA0 hf.out.symm,((zy2 _ _).alloc (zz8 _) _).alloc (by simp) _⟩
 have u1:(op==1)=false:=by simpa using o1
 by_cases o2:op=2
 ·subst o2
  by_cases v1:va<0
  ·have tv1:(decide (va<0))=true:=by simpa using v1
   have v1x:¬0≤va:=by omega
   have hf:Hid (ownB xs t ⟨2,ct,n,m,va,ks⟩=false):=by unfold Hid ownB namedB kindB;simp [v1x]
   go_enter Try.func60,Try.ntmps60
   go_wp2
   go_ret
   exact ⟨by subst_vars;exact zA0 hf.out.symm,((zy2 _ _).alloc (zz8 _) _).alloc (by simp) _⟩
  ·have tv1:(decide (va<0))=false:=by simpa using v1
   by_cases v2:5<va
   ·have tv2:(decide (va>5))=true:=by simpa using v2
    have v2x:¬va≤5:=by omega
    have hf:Hid (ownB xs t ⟨2,ct,n,m,va,ks⟩=false):=by unfold Hid ownB namedB kindB;simp [v2x]
    go_enter Try.func60,Try.ntmps60
    go_wp2
    go_ret
    exact ⟨by subst_vars;exact zA0 hf.out.symm,((zy2 _ _).alloc (zz8 _) _).alloc (by simp) _⟩
   ·have tv2:(decide (va>5))=false:=by simpa using v2
    have v1x:0≤va:=by omega
    have v2x:va≤5:=by omega
    by_cases n1:n=0
    ·have tn1:(n != 0)=false:=by simp [n1]
     by_cases m1:m=0
     ·have tm1:(m != 0)=false:=by simp [m1]
      by_cases c1:ct=0
      ·have tc1:(ct != 0)=false:=by simp [c1]
       have hf:Hid (ownB xs t ⟨2,ct,n,m,va,ks⟩=true):=by unfold Hid ownB namedB kindB;simp [v1x,v2x,n1,m1,c1]
       go_enter Try.func60,Try.ntmps60
       go_wp2
       go_ret
       exact ⟨by subst_vars;exact zA0 hf.out.symm,((zy2 _ _).alloc (zz8 _) _).alloc (by simp) _⟩
      ·have tc1:(ct != 0)=true:=by simpa using c1
       have hf:Hid (ownB xs t ⟨2,ct,n,m,va,ks⟩=false):=by unfold Hid ownB namedB kindB;simp [v1x,v2x,n1,m1,c1]
       go_enter Try.func60,Try.ntmps60
       go_wp2
       go_ret
       exact ⟨by subst_vars;exact zA0 hf.out.symm,((zy2 _ _).alloc (zz8 _) _).alloc (by simp) _⟩
     ·have tm1:(m != 0)=true:=by simpa using m1
      have hf:Hid (ownB xs t ⟨2,ct,n,m,va,ks⟩=false):=by unfold Hid ownB namedB kindB;simp [v1x,v2x,m1]
      go_enter Try.func60,Try.ntmps60
      go_wp2
      go_ret
      exact ⟨by subst_vars;exact zA0 hf.out.symm,((zy2 _ _).alloc (zz8 _) _).alloc (by simp) _⟩
    ·have tn1:(n != 0)=true:=by simpa using n1
     have hf:Hid (ownB xs t ⟨2,ct,n,m,va,ks⟩=false):=by unfold Hid ownB namedB kindB;simp [v1x,v2x,n1]
     go_enter Try.func60,Try.ntmps60
     go_wp2
     go_ret
     exact ⟨by subst_vars;exact zA0 hf.out.symm,((zy2 _ _).alloc (zz8 _) _).alloc (by simp) _⟩
 have u2:(op==2)=false:=by simpa using o2
 by_cases o3:op=3
 ·subst o3
  by_cases v1:va=0
  ·have tv1:(va != 0)=false:=by simp [v1]
   by_cases c1:ct=0
   ·have tc1:(ct != 0)=false:=by simp [c1]
    by_cases a0:t.d = -1
    ·have b0:(t.d == -1)=true:=by simp [a0]
     by_cases a1:0≤n
     ·have b1:decide (n≥0)=true:=by simpa using a1
      by_cases a2:n≤m
      ·have b2:decide (n≤m)=true:=by simpa using a2
       by_cases a3:m≤9
       ·have b3:decide (m≤9)=true:=by simpa using a3
        have hf:Hid (ownB xs t ⟨3,ct,n,m,va,ks⟩=true):=by unfold Hid ownB namedB kindB;simp [v1,c1,a0,a1,a2,a3]
        go_enter Try.func60,Try.ntmps60
        go_wp2
        go_ret
        exact ⟨by subst_vars;exact zA0 hf.out.symm,((zy2 _ _).alloc (zz8 _) _).alloc (by simp) _⟩
       ·have b3:decide (m≤9)=false:=by simpa using a3
        have hf:Hid (ownB xs t ⟨3,ct,n,m,va,ks⟩=false):=by unfold Hid ownB namedB kindB;simp [v1,c1,a0,a1,a2,a3]
        go_enter Try.func60,Try.ntmps60
        go_wp2
        go_ret
        exact ⟨by subst_vars;exact zA0 hf.out.symm,((zy2 _ _).alloc (zz8 _) _).alloc (by simp) _⟩
      ·have b2:decide (n≤m)=false:=by simpa using a2
       have hf:Hid (ownB xs t ⟨3,ct,n,m,va,ks⟩=false):=by unfold Hid ownB namedB kindB;simp [v1,c1,a2]
       go_enter Try.func60,Try.ntmps60
       go_wp2
       go_ret
       exact ⟨by subst_vars;exact zA0 hf.out.symm,((zy2 _ _).alloc (zz8 _) _).alloc (by simp) _⟩
     ·have b1:decide (n≥0)=false:=by simpa using a1
      have hf:Hid (ownB xs t ⟨3,ct,n,m,va,ks⟩=false):=by unfold Hid ownB namedB kindB;simp [v1,c1,a1]
      go_enter Try.func60,Try.ntmps60
      go_wp2
      go_ret
      exact ⟨by subst_vars;exact zA0 hf.out.symm,((zy2 _ _).alloc (zz8 _) _).alloc (by simp) _⟩
    ·have b0:(t.d == -1)=false:=by simpa using a0
     have hf:Hid (ownB xs t ⟨3,ct,n,m,va,ks⟩=false):=by unfold Hid ownB namedB kindB;simp [v1,c1,a0]
     go_enter Try.func60,Try.ntmps60
     go_wp2
     go_ret
     exact ⟨by subst_vars;exact zA0 hf.out.symm,((zy2 _ _).alloc (zz8 _) _).alloc (by simp) _⟩
   ·have tc1:(ct != 0)=true:=by simpa using c1
    have hf:Hid (ownB xs t ⟨3,ct,n,m,va,ks⟩=false):=by unfold Hid ownB namedB kindB;simp [v1,c1]
    go_enter Try.func60,Try.ntmps60
    go_wp2
    go_ret
    exact ⟨by subst_vars;exact zA0 hf.out.symm,((zy2 _ _).alloc (zz8 _) _).alloc (by simp) _⟩
  ·have tv1:(va != 0)=true:=by simpa using v1
   have hf:Hid (ownB xs t ⟨3,ct,n,m,va,ks⟩=false):=by unfold Hid ownB namedB kindB;simp [v1]
   go_enter Try.func60,Try.ntmps60
   go_wp2
   go_ret
   exact ⟨by subst_vars;exact zA0 hf.out.symm,((zy2 _ _).alloc (zz8 _) _).alloc (by simp) _⟩
 have u3:(op==3)=false:=by simpa using o3
 by_cases o4:op=4
 ·subst o4
  by_cases v1:va=0
  ·have tv1:(va != 0)=false:=by simp [v1]
   by_cases n1:n=0
   ·have tn1:(n != 0)=false:=by simp [n1]
    by_cases m1:m=0
    ·have tm1:(m != 0)=false:=by simp [m1]
     have hf:Hid (ownB xs t ⟨4,ct,n,m,va,ks⟩=hasB (ctorsL xs t) ct):=by unfold Hid ownB namedB kindB;simp [v1,n1,m1]
     subst_vars
     go_enter Try.func60,Try.ntmps60
     go_wp2_with fail
     obtain ⟨W2,hW2⟩:∃ W2,W2=((w.alloc (.cells #[.int .i64 t.d,.int .i64 t.i] 35)).alloc (.cells #[.int .i64 4,.int .i64 ct,.int .i64 0,.int .i64 0,.int .i64 0,.slice A4 ks.length cap4] 38)):=⟨_,rfl⟩
     rw [←hW2] at HB
     have KT:Hid (Blk W2 w.heap.size 35 #[.int .i64 t.d,.int .i64 t.i]):=by rw [hW2];exact (Blk.new w _ _).same (Below.heap_alloc _ _ _ (by simp))
     have KP:Hid (Blk W2 (w.heap.size+1) 38 #[.int .i64 4,.int .i64 ct,.int .i64 0,.int .i64 0,.int .i64 0,.slice A4 ks.length cap4]):=by rw [hW2];have h:=Blk.new (w.alloc (.cells #[.int .i64 t.d,.int .i64 t.i] 35)) 38 #[.int .i64 4,.int .i64 ct,.int .i64 0,.int .i64 0,.int .i64 0,.slice A4 ks.length cap4];rw [World.size_alloc] at h;exact h
     rw [←hW2]
     clear hW2
     have y0:W2.cell? ⟨w.heap.size,0,none⟩=some (.int .i64 t.d):=(KT.out.cell 0).trans (by simp)
     have y1:W2.cell? ⟨w.heap.size,1,none⟩=some (.int .i64 t.i):=(KT.out.cell 1).trans (by simp)
     have klt:=KT.out.lt
     have z1:W2.cell? ⟨w.heap.size+1,1,none⟩=some (.int .i64 ct):=(KP.out.cell 1).trans (by simp)
     have klt2:=KP.out.lt
     have hB0:=HB.out
     have hkeep:∀ U U':World,(U.cell? ⟨w.heap.size,0,none⟩=some (.int .i64 t.d)∧U.cell? ⟨w.heap.size,1,none⟩=some (.int .i64 t.i)∧U.cell? ⟨w.heap.size+1,1,none⟩=some (.int .i64 ct))→Below U.heap.size U U'→W2.heap.size≤U.heap.size→(U'.cell? ⟨w.heap.size,0,none⟩=some (.int .i64 t.d)∧U'.cell? ⟨w.heap.size,1,none⟩=some (.int .i64 t.i)∧U'.cell? ⟨w.heap.size+1,1,none⟩=some (.int .i64 ct)):=fun U U' h hUU hU=>⟨(hUU.cell (zz9 (klt) hU)).trans h.1,(hUU.cell (zz9 (klt) hU)).trans h.2.1,(hUU.cell (zz9 (klt2) hU)).trans h.2.2⟩
     have HKeep:=jj hkeep
     clear hkeep
     go_region_held3 (fun w'=>w'.cell? ⟨w.heap.size,0,none⟩=some (.int .i64 t.d)∧w'.cell? ⟨w.heap.size,1,none⟩=some (.int .i64 t.i)∧w'.cell? ⟨w.heap.size+1,1,none⟩=some (.int .i64 ct)) (first | assumption | (exact ⟨y0,y1,z1⟩) | (exact HKeep.out W2.drew w4 ⟨y0,y1,z1⟩ hb4 (zz8 _)) | (exact HKeep.out w4 w5 (by assumption) hb5 hlew4)) (first | (go_at_call 73;((with_reducible refine (spec_l1Ctors xs t _ _ F (ArrDt.below HX.out hB0.drew HF.out) (HF.out.mono hB0.drew.size) HW.out HT.out).mono ?_);rintro e w4 ⟨v4,F4,rfl,hb4,ha4,-,hfs4⟩);have hlew4:W2.heap.size≤w4.heap.size:=hb4.size) | (go_at_call 72;((with_reducible refine (spec_l1Has (ctorsL xs t) ct _ _ F4 ha4 hfs4.under).mono ?_);rintro e w5 ⟨rfl,hb5⟩)))
     have hBa:=hB0.drew.trans (hb4.mono hB0.drew.size)
     have hB5:=hBa.trans (hb5.mono hBa.size)
     generalize hasB (ctorsL xs t) ct=r at *
     clear HKeep ha4 hfs4 hb4 hb5 hBa hB0 HB KT KP y0 y1 z1 klt klt2
     go_wp2
     go_ret
     exact ⟨zA0 hf.out.symm,hB5⟩
    ·have tm1:(m != 0)=true:=by simpa using m1
     have hf:Hid (ownB xs t ⟨4,ct,n,m,va,ks⟩=false):=by unfold Hid ownB namedB kindB;simp [v1,m1]
     go_enter Try.func60,Try.ntmps60
     go_wp2
     go_ret
     exact ⟨by subst_vars;exact zA0 hf.out.symm,((zy2 _ _).alloc (zz8 _) _).alloc (by simp) _⟩
   ·have tn1:(n != 0)=true:=by simpa using n1
    have hf:Hid (ownB xs t ⟨4,ct,n,m,va,ks⟩=false):=by unfold Hid ownB namedB kindB;simp [v1,n1]
    go_enter Try.func60,Try.ntmps60
    go_wp2
    go_ret
    exact ⟨by subst_vars;exact zA0 hf.out.symm,((zy2 _ _).alloc (zz8 _) _).alloc (by simp) _⟩
  ·have tv1:(va != 0)=true:=by simpa using v1
   have hf:Hid (ownB xs t ⟨4,ct,n,m,va,ks⟩=false):=by unfold Hid ownB namedB kindB;simp [v1]
   go_enter Try.func60,Try.ntmps60
   go_wp2
   go_ret
   exact ⟨by subst_vars;exact zA0 hf.out.symm,((zy2 _ _).alloc (zz8 _) _).alloc (by simp) _⟩
 have u4:(op==4)=false:=by simpa using o4
 by_cases o5:op=5
 ·subst o5
  by_cases v1:va=0
  ·have tv1:(va != 0)=false:=by simp [v1]
   by_cases n1:n=0
   ·have tn1:(n != 0)=false:=by simp [n1]
    by_cases m1:m=0
    ·have tm1:(m != 0)=false:=by simp [m1]
     by_cases c1:ct=0
     ·have tc1:(ct != 0)=false:=by simp [c1]
      have hf:Hid (ownB xs t ⟨5,ct,n,m,va,ks⟩=true):=by unfold Hid ownB namedB kindB;simp [v1,n1,m1,c1]
      go_enter Try.func60,Try.ntmps60
      go_wp2
      go_ret
      exact ⟨by subst_vars;exact zA0 hf.out.symm,((zy2 _ _).alloc (zz8 _) _).alloc (by simp) _⟩
     ·have tc1:(ct != 0)=true:=by simpa using c1
      have hf:Hid (ownB xs t ⟨5,ct,n,m,va,ks⟩=false):=by unfold Hid ownB namedB kindB;simp [v1,n1,m1,c1]
      go_enter Try.func60,Try.ntmps60
      go_wp2
      go_ret
      exact ⟨by subst_vars;exact zA0 hf.out.symm,((zy2 _ _).alloc (zz8 _) _).alloc (by simp) _⟩
    ·have tm1:(m != 0)=true:=by simpa using m1
     have hf:Hid (ownB xs t ⟨5,ct,n,m,va,ks⟩=false):=by unfold Hid ownB namedB kindB;simp [v1,m1]
     go_enter Try.func60,Try.ntmps60
     go_wp2
     go_ret
     exact ⟨by subst_vars;exact zA0 hf.out.symm,((zy2 _ _).alloc (zz8 _) _).alloc (by simp) _⟩
   ·have tn1:(n != 0)=true:=by simpa using n1
    have hf:Hid (ownB xs t ⟨5,ct,n,m,va,ks⟩=false):=by unfold Hid ownB namedB kindB;simp [v1,n1]
    go_enter Try.func60,Try.ntmps60
    go_wp2
    go_ret
    exact ⟨by subst_vars;exact zA0 hf.out.symm,((zy2 _ _).alloc (zz8 _) _).alloc (by simp) _⟩
  ·have tv1:(va != 0)=true:=by simpa using v1
   have hf:Hid (ownB xs t ⟨5,ct,n,m,va,ks⟩=false):=by unfold Hid ownB namedB kindB;simp [v1]
   go_enter Try.func60,Try.ntmps60
   go_wp2
   go_ret
   exact ⟨by subst_vars;exact zA0 hf.out.symm,((zy2 _ _).alloc (zz8 _) _).alloc (by simp) _⟩
 have u5:(op==5)=false:=by simpa using o5
 by_cases o6:op=6
 ·subst o6
  by_cases v1:va<0
  ·have tv1:(decide (va<0))=true:=by simpa using v1
   have v1x:¬0≤va:=by omega
   have hf:Hid (ownB xs t ⟨6,ct,n,m,va,ks⟩=false):=by unfold Hid ownB namedB kindB;simp [v1x]
   go_enter Try.func60,Try.ntmps60
   go_wp2
   go_ret
   exact ⟨by subst_vars;exact zA0 hf.out.symm,((zy2 _ _).alloc (zz8 _) _).alloc (by simp) _⟩
  ·have tv1:(decide (va<0))=false:=by simpa using v1
   by_cases v2:5<va
   ·have tv2:(decide (va>5))=true:=by simpa using v2
    have v2x:¬va≤5:=by omega
    have hf:Hid (ownB xs t ⟨6,ct,n,m,va,ks⟩=false):=by unfold Hid ownB namedB kindB;simp [v2x]
    go_enter Try.func60,Try.ntmps60
    go_wp2
    go_ret
    exact ⟨by subst_vars;exact zA0 hf.out.symm,((zy2 _ _).alloc (zz8 _) _).alloc (by simp) _⟩
   ·have tv2:(decide (va>5))=false:=by simpa using v2
    have v1x:0≤va:=by omega
    have v2x:va≤5:=by omega
    by_cases n1:n=0
    ·have tn1:(n != 0)=false:=by simp [n1]
     by_cases m1:m=0
     ·have tm1:(m != 0)=false:=by simp [m1]
      by_cases c1:ct=0
      ·have tc1:(ct != 0)=false:=by simp [c1]
       have hf:Hid (ownB xs t ⟨6,ct,n,m,va,ks⟩=true):=by unfold Hid ownB namedB kindB;simp [v1x,v2x,n1,m1,c1]
       go_enter Try.func60,Try.ntmps60
       go_wp2
       go_ret
       exact ⟨by subst_vars;exact zA0 hf.out.symm,((zy2 _ _).alloc (zz8 _) _).alloc (by simp) _⟩
      ·have tc1:(ct != 0)=true:=by simpa using c1
       have hf:Hid (ownB xs t ⟨6,ct,n,m,va,ks⟩=false):=by unfold Hid ownB namedB kindB;simp [v1x,v2x,n1,m1,c1]
       go_enter Try.func60,Try.ntmps60
       go_wp2
       go_ret
       exact ⟨by subst_vars;exact zA0 hf.out.symm,((zy2 _ _).alloc (zz8 _) _).alloc (by simp) _⟩
     ·have tm1:(m != 0)=true:=by simpa using m1
      have hf:Hid (ownB xs t ⟨6,ct,n,m,va,ks⟩=false):=by unfold Hid ownB namedB kindB;simp [v1x,v2x,m1]
      go_enter Try.func60,Try.ntmps60
      go_wp2
      go_ret
      exact ⟨by subst_vars;exact zA0 hf.out.symm,((zy2 _ _).alloc (zz8 _) _).alloc (by simp) _⟩
    ·have tn1:(n != 0)=true:=by simpa using n1
     have hf:Hid (ownB xs t ⟨6,ct,n,m,va,ks⟩=false):=by unfold Hid ownB namedB kindB;simp [v1x,v2x,n1]
     go_enter Try.func60,Try.ntmps60
     go_wp2
     go_ret
     exact ⟨by subst_vars;exact zA0 hf.out.symm,((zy2 _ _).alloc (zz8 _) _).alloc (by simp) _⟩
 have u6:(op==6)=false:=by simpa using o6
 have un3:(op != 3)=true:=by simpa using o3
 have un4:(op != 4)=true:=by simpa using o4
 by_cases v1:va=0
 ·have tv1:(va != 0)=false:=by simp [v1]
  by_cases n1:n=0
  ·have tn1:(n != 0)=false:=by simp [n1]
   by_cases m1:m=0
   ·have tm1:(m != 0)=false:=by simp [m1]
    by_cases c1:ct=0
    ·have tc1:(ct != 0)=false:=by simp [c1]
     have hf:Hid (ownB xs t ⟨op,ct,n,m,va,ks⟩=false):=by unfold Hid ownB namedB kindB;simp [o1,o2,o3,o4,o5,o6,v1,n1,m1,c1]
     go_enter Try.func60,Try.ntmps60
     go_wp2
     go_ret
     exact ⟨by subst_vars;exact zA0 hf.out.symm,((zy2 _ _).alloc (zz8 _) _).alloc (by simp) _⟩
    ·have tc1:(ct != 0)=true:=by simpa using c1
     have hf:Hid (ownB xs t ⟨op,ct,n,m,va,ks⟩=false):=by unfold Hid ownB namedB kindB;simp [o1,o2,o3,o4,o5,o6,v1,n1,m1,c1]
     go_enter Try.func60,Try.ntmps60
     go_wp2
     go_ret
     exact ⟨by subst_vars;exact zA0 hf.out.symm,((zy2 _ _).alloc (zz8 _) _).alloc (by simp) _⟩
   ·have tm1:(m != 0)=true:=by simpa using m1
    have hf:Hid (ownB xs t ⟨op,ct,n,m,va,ks⟩=false):=by unfold Hid ownB namedB kindB;simp [o1,o2,o3,o4,o5,o6,v1,m1]
    go_enter Try.func60,Try.ntmps60
    go_wp2
    go_ret
    exact ⟨by subst_vars;exact zA0 hf.out.symm,((zy2 _ _).alloc (zz8 _) _).alloc (by simp) _⟩
  ·have tn1:(n != 0)=true:=by simpa using n1
   have hf:Hid (ownB xs t ⟨op,ct,n,m,va,ks⟩=false):=by unfold Hid ownB namedB kindB;simp [o1,o2,o3,o4,o5,o6,v1,n1]
   go_enter Try.func60,Try.ntmps60
   go_wp2
   go_ret
   exact ⟨by subst_vars;exact zA0 hf.out.symm,((zy2 _ _).alloc (zz8 _) _).alloc (by simp) _⟩
 ·have tv1:(va != 0)=true:=by simpa using v1
  have hf:Hid (ownB xs t ⟨op,ct,n,m,va,ks⟩=false):=by unfold Hid ownB namedB kindB;simp [o1,o2,o3,o4,o5,o6,v1]
  go_enter Try.func60,Try.ntmps60
  go_wp2
  go_ret
  exact ⟨by subst_vars;exact zA0 hf.out.symm,((zy2 _ _).alloc (zz8 _) _).alloc (by simp) _⟩
def repTo (t:Ty) (i:Nat):List Ty:=List.replicate i t
theorem repTo_len (t:Ty) (i:Nat):(repTo t i).length=i:=List.length_replicate
theorem repTo_succ (t:Ty) (i:Nat):repTo t (i+1)=repTo t i ++ [t]:=List.replicate_succ'
theorem kidsN_le (op:Int):kidsN op≤2:=by unfold kidsN;split;omega;split <;> omega
theorem typesP_no {xs:List Dt} {t:Ty} {p:P} (h:¬p.op=4):typesP xs t p=repTo t (kidsN p.op):=by unfold typesP;rw [if_neg h];rfl
theorem ownB_ctor {xs:List Dt} {t:Ty} {p:P} (h:p.op=4) (ho:ownB xs t p=true):p.ct∈ctorsL xs t:=by
 unfold ownB kindB at ho
 simp only [Bool.and_eq_true] at ho
 have h2:=ho.2.2.2
 rw [if_neg (by omega),if_pos h] at h2
 exact (hasB_iff _ _).1 h2
theorem spec_l3Types (xs:List Dt) (hw:WorldOK xs) (t:Ty) (ht:TyIn xs.length t) (p:P) (ho:ownB xs t p=true) (w:World) (x:Value) (F:List Nat) (cs:List Value) (G:List Nat):Arr w (DtR w) xs x F→Under w.heap.size F→PR w p cs G→Under w.heap.size G →
  Calls Try.prog 61 #[x,.agg #[.int .i64 t.d,.int .i64 t.i],.agg cs.toArray] w (MadeArr TyR w (typesP xs t p)):=by
 intro hx hf hv hg
 obtain ⟨kv,rfl,ha⟩:=(zA4 _ _ _).1 hv
 obtain ⟨A,cap,rfl,hc1,hc2⟩:=hx.form
 obtain ⟨A4,cap4,rfl,hc3,hc4⟩:=ha.form
 have HV:=jj hv
 have HX:=jj hx
 have HF:=jj hf
 have HA:=jj ha
 have HG:=jj hg
 clear hx hf ha hg
 clear hv
 by_cases h4:p.op=4
 ·have t4:(p.op==4)=true:=by simp [h4]
  obtain ⟨q,k,e2,hvc,hq',hkl⟩:=mem_ctorsL (xs:=xs) (t:=t) ht.inWorld (ownB_ctor h4 ho)
  have hty:typesP xs t p=argsL xs[q].ctors[k] t.i:=by
   unfold typesP
   rw [if_pos h4,hvc]
   obtain ⟨td,ti⟩:=t
   simp only at e2
   subst e2
   exact argsOf_get hq' hkl
  have HTY:=jj hty
  have HVC:=jj hvc
  have HE2:=jj e2
  have HLA:=jj (hw.ctor hq' hkl).args
  clear hty hvc e2 h4 ho hw ht
  go_enter Try.func61,Try.ntmps61
  go_wp2_with fail
  obtain ⟨W2,hW2⟩:∃ W2,W2=((w.alloc (.cells #[.int .i64 t.d,.int .i64 t.i] 35)).alloc (.cells #[.int .i64 p.op,.int .i64 p.ct,.int .i64 p.n,.int .i64 p.m,.int .i64 p.va,.slice A4 p.ks.length cap4] 38)):=⟨_,rfl⟩
  have hB0:Below w.heap.size w W2:=by rw [hW2];exact ((zy2 _ _).alloc (zz8 _) _).alloc (by simp) _
  have KT:Hid (Blk W2 w.heap.size 35 #[.int .i64 t.d,.int .i64 t.i]):=by rw [hW2];exact (Blk.new w _ _).same (Below.heap_alloc _ _ _ (by simp))
  have KP:Hid (Blk W2 (w.heap.size+1) 38 #[.int .i64 p.op,.int .i64 p.ct,.int .i64 p.n,.int .i64 p.m,.int .i64 p.va,.slice A4 p.ks.length cap4]):=by rw [hW2];have h:=Blk.new (w.alloc (.cells #[.int .i64 t.d,.int .i64 t.i] 35)) 38 #[.int .i64 p.op,.int .i64 p.ct,.int .i64 p.n,.int .i64 p.m,.int .i64 p.va,.slice A4 p.ks.length cap4];rw [World.size_alloc] at h;exact h
  have hws:w.heap.size+2≤W2.heap.size:=by rw [hW2];simp
  have hws2:W2.heap.size=w.heap.size+1+1:=by rw [hW2];simp
  rw [←hW2]
  clear hW2
  have y0:W2.cell? ⟨w.heap.size,0,none⟩=some (.int .i64 t.d):=(KT.out.cell 0).trans (by simp)
  have y1:W2.cell? ⟨w.heap.size,1,none⟩=some (.int .i64 t.i):=(KT.out.cell 1).trans (by simp)
  have klt:=KT.out.lt
  have z0:W2.cell? ⟨w.heap.size+1,0,none⟩=some (.int .i64 p.op):=(KP.out.cell 0).trans (by simp)
  have z1:W2.cell? ⟨w.heap.size+1,1,none⟩=some (.int .i64 p.ct):=(KP.out.cell 1).trans (by simp)
  have klt2:=KP.out.lt
  go_wp2_with fail
  rw [HVC.out,HE2.out]
  refine (spec_l1Args xs q k t.i hq' hkl W2 _ F (ArrDt.below HX.out hB0 HF.out) (HF.out.mono hB0.size) HLA.out).mono ?_
  rintro e w6 ⟨v6,F6,rfl,hb6,ha6,hfr6,hfs6⟩
  have hfin:MadeArr TyR w (typesP xs t p) (.returned v6) w6:=⟨v6,F6,rfl,hB0.trans (hb6.mono hB0.size),by rw [HTY.out];exact ha6,hfr6,fun b hb=>⟨Nat.le_trans hB0.size (hfs6 b hb).1,(hfs6 b hb).2⟩⟩
  have HFin:=jj hfin
  clear hfin ha6 hfr6 hfs6 hb6 y0 y1 z0 z1 klt klt2 t4
  go_wp2
  go_ret
  exact HFin.out
 ·have t4:(p.op==4)=false:=by simpa using h4
  obtain ⟨i0,hi,hz0,hz1,hz2⟩:=info_parts info_tyE
  have HI:=jj hi
  have HZ0:=jj hz0
  have HZ1:=jj hz1
  have HZ2:=jj hz2
  clear hi hz0 hz1 hz2
  have HTY:=jj (typesP_no (xs:=xs) (t:=t) h4)
  have H4:=jj h4
  have hk2:=kidsN_le p.op
  generalize hkn:kidsN p.op=kn at *
  have HKN:=jj hkn
  clear h4 ho hw ht hkn
  have hws9:(((w.alloc (.cells #[.int .i64 t.d,.int .i64 t.i] 35)).alloc (.cells #[.int .i64 p.op,.int .i64 p.ct,.int .i64 p.n,.int .i64 p.m,.int .i64 p.va,.slice A4 p.ks.length cap4] 38)).alloc (.cells #[] 35)).heap.size=w.heap.size+3:=by simp
  go_enter Try.func61,Try.ntmps61
  go_wp2
  obtain ⟨w9,hw9⟩:∃ w9,w9=((w.alloc (.cells #[.int .i64 t.d,.int .i64 t.i] 35)).alloc (.cells #[.int .i64 p.op,.int .i64 p.ct,.int .i64 p.n,.int .i64 p.m,.int .i64 p.va,.slice A4 p.ks.length cap4] 38)).alloc (.cells #[] 35):=⟨_,rfl⟩
  have hB0:Below w.heap.size w w9:=by rw [hw9];exact (((zy2 _ _).alloc (zz8 _) _).alloc (by simp) _).alloc (by simp;omega) _
  have KT:Hid (Blk w9 w.heap.size 35 #[.int .i64 t.d,.int .i64 t.i]):=by rw [hw9];exact ((Blk.new w _ _).same (Below.heap_alloc _ _ _ (by simp))).same (Below.heap_alloc _ _ _ (by simp;omega))
  have KP:Hid (Blk w9 (w.heap.size+1) 38 #[.int .i64 p.op,.int .i64 p.ct,.int .i64 p.n,.int .i64 p.m,.int .i64 p.va,.slice A4 p.ks.length cap4]):=by rw [hw9];have h:=Blk.new (w.alloc (.cells #[.int .i64 t.d,.int .i64 t.i] 35)) 38 #[.int .i64 p.op,.int .i64 p.ct,.int .i64 p.n,.int .i64 p.m,.int .i64 p.va,.slice A4 p.ks.length cap4];rw [World.size_alloc] at h;exact h.same (Below.heap_alloc _ _ _ (by simp))
  have HO:Hid (Own w9 (w.heap.size+2) 35 2 TyR (repTo t 0) (.slice (some ⟨w.heap.size+2,0,none⟩) 0 0) []):=by
   rw [hw9]
   have h:=Own.made ((w.alloc (.cells #[.int .i64 t.d,.int .i64 t.i] 35)).alloc (.cells #[.int .i64 p.op,.int .i64 p.ct,.int .i64 p.n,.int .i64 p.m,.int .i64 p.va,.slice A4 p.ks.length cap4] 38)) (w.heap.size+2) 35 2 TyR #[] 0 (by simp) (by simp [maxLen]) rfl
   rw [show ((w.alloc (.cells #[.int .i64 t.d,.int .i64 t.i] 35)).alloc (.cells #[.int .i64 p.op,.int .i64 p.ct,.int .i64 p.n,.int .i64 p.m,.int .i64 p.va,.slice A4 p.ks.length cap4] 38)).heap.size=w.heap.size+2 from by simp] at h
   exact h
  rw [←hw9] at hws9 ⊢
  clear hw9
  go_loopw [7,8] (fun ov iv wr=>∃ i:Nat,i≤kn∧iv=.int .i64 i∧Hid (Own wr (w.heap.size+2) 35 2 TyR (repTo t i) ov [])∧Hid (Blk wr w.heap.size 35 #[.int .i64 t.d,.int .i64 t.i])∧Hid (Blk wr (w.heap.size+1) 38 #[.int .i64 p.op,.int .i64 p.ct,.int .i64 p.n,.int .i64 p.m,.int .i64 p.va,.slice A4 p.ks.length cap4])∧Below w.heap.size w wr∧w.heap.size+2≤wr.heap.size) (fun _ iv _=>kn-(intOf iv).toNat)
  case atStart=>exact ⟨0,Nat.zero_le _,rfl,HO,KT,KP,hB0,by omega⟩
  case round =>
   clear hB0 KT KP HO hws9
   obtain ⟨i,hi,rfl,HO,KT,KP,hB,hsz⟩:=hrel
   obtain ⟨kA,kcap,hkv,hkc1,hkc2⟩:=HO.out.form
   subst hkv
   have y0:wr.cell? ⟨w.heap.size,0,none⟩=some (.int .i64 t.d):=(KT.out.cell 0).trans (by simp)
   have y1:wr.cell? ⟨w.heap.size,1,none⟩=some (.int .i64 t.i):=(KT.out.cell 1).trans (by simp)
   have klt:=KT.out.lt
   have z0:wr.cell? ⟨w.heap.size+1,0,none⟩=some (.int .i64 p.op):=(KP.out.cell 0).trans (by simp)
   have klt2:=KP.out.lt
   have HRL:=jj (repTo_len t i)
   go_wp2_with fail
   refine (spec_l3Kids p.op H4.out wr).mono ?_
   rintro e w' ⟨rfl,hw'⟩
   rw [hw',HKN.out]
   clear hw' w'
   by_cases hil:i<kn
   ·have t1:decide ((i:Int)<(kn:Int))=true:=by simp;omega
    have hB1:Below wr.heap.size wr wr:=zy2 _ _
    have HF2:=jj (repTo_succ t i)
    go_wp2_with (at_builtin;refine Halt.mk ?_)
    refine Halt.of (zA2 (P:=Try.prog) rfl _ _ 72 rfl i0 _ 16 Try.underlying72 HI.out HZ0.out HZ1.out HZ2.out rfl (by decide) TyR_len' TyR_mono' (by rfl) HO.out t 35 [.int .i64 t.d,.int .i64 t.i] [] wr.heap.size (by rfl) rfl (by simp [Value.oneCell']) ⟨rfl,rfl⟩ (Under.nil _) (fun _ _ h=>by cases h) (by have:=HRL.out;unfold maxLen;omega) (by have:=HRL.out;omega) hsz ?_)
    intro g cp w3 hown3 hgr3 hat3
    have hrow:=HO.out.row
    have hba:Below wr.heap.size wr (wr.alloc (.cells #[.int .i64 t.d,.int .i64 t.i] 35)):=(zy2 _ _).alloc (zz8 _) _
    have hB3:Below (w.heap.size+2) wr w3:=(hba.mono hsz).grown hgr3 (by simp;omega) (fun g hg=>(hrow g (zA1.2 hg)).1)
    have HO3:=jj hown3
    have KT3:=jj (KT.out.same (hB3.block _ (by omega)))
    have KP3:=jj (KP.out.same (hB3.block _ (by omega)))
    have hB4:=hB.trans (hB3.mono (by omega))
    have hsz4:=Nat.le_trans hsz hB3.size
    clear hrow hba hB3 hown3 hgr3 hat3 y0 y1 z0 klt klt2
    go_wp2
    go_roundw
    case rel=>exact ⟨i+1,by omega,by go_num,by rw [HF2.out];exact HO3.out,KT3,KP3,hB4,hsz4⟩
    case measure=>(simp [intOf] <;> omega)
   ·have t1:decide ((i:Int)<(kn:Int))=false:=by simp;omega
    obtain rfl:i=kn:=by omega
    have HFin:Hid (MadeArr TyR w (typesP xs t p) (.returned (.slice kA (repTo t i).length kcap)) wr):=by rw [HTY.out];exact Own.gives HO.out hB (by omega) (fun b hb=>by cases hb) (Free.nil _)
    go_wp2
    go_ret
    exact HFin.out
def isLeast (xs:List Dt) (t:Ty) (k:Int):Bool:=mostIn xs (tableL xs) t k==depthIn (tableL xs) t
def leastV (xs:List Dt):Nat→Ty→V
 |0,_=>⟨0,0,[]⟩
 |n+1,t=>if t.d = -1 then ⟨-1,0,[]⟩ else match (ctorsL xs t).find? (isLeast xs t) with
  |none=>⟨0,0,[]⟩
  |some k=>⟨k,0,(argsOf xs t k).map (leastV xs n)⟩
theorem argsOf_len3 {xs:List Dt} (hw:WorldOK xs) {t:Ty} (ht:TyIn xs.length t) {k:Int} (hk:k∈ctorsL xs t):(argsOf xs t k).length≤3:=by
 rcases ht with h | ⟨d,i,rfl,h1,h2⟩
 ·rw [ctorsL_int h] at hk;cases hk
 ·obtain ⟨d',m,e1,rfl,hd,hm⟩:=mem_ctorsL (.inr ⟨d,rfl,h1⟩) hk
  obtain rfl:d=d':=Int.ofNat.inj e1
  rw [argsOf_get hd hm,argsL_len]
  exact (hw.ctor hd hm).args
def leastTo (xs:List Dt) (n:Nat) (as':List Ty) (i:Nat):List V:=(as'.take i).map (leastV xs n)
def leastFine (xs:List Dt) (t:Ty):Bool:=typeValidB xs t && (withinB (depthIn (tableL xs) t) 1 10 && valueOkB xs t (leastV xs 10 t))
def leastR (xs:List Dt) (t:Ty):V:=if leastFine xs t=true then leastV xs 10 t else ⟨0,0,[]⟩
def allP (f:Ty→P→Bool) (ls:List Ty) (ks:List P):Bool:=(ls.zip ks).all fun x=>f x.1 x.2
theorem allP_step {f:Ty→P→Bool} {ls:List Ty} {ks:List P} {i:Nat} (h1:i<ls.length) (h2:i<ks.length):allP f (ls.drop i) (ks.drop i)=(f ls[i] ks[i] && allP f (ls.drop (i+1)) (ks.drop (i+1))):=by
 rw [List.drop_eq_getElem_cons h1,List.drop_eq_getElem_cons h2];rfl
theorem allP_end {f:Ty→P→Bool} {ls:List Ty} {ks:List P} {i:Nat} (h1:ls.length≤i):allP f (ls.drop i) (ks.drop i)=true:=by
 rw [List.drop_of_length_le h1];rfl
theorem shapeB_succ (xs:List Dt) (d:Nat) (t:Ty) (p:P):shapeB xs (d+1) t p=(ownB xs t p && (p.ks.length==(typesP xs t p).length && allP (shapeB xs d) (typesP xs t p) p.ks)):=rfl
theorem typesP_in {xs:List Dt} (hw:WorldOK xs) {t:Ty} (ht:TyIn xs.length t) {p:P} (ho:ownB xs t p=true):∀ a∈typesP xs t p,TyIn xs.length a:=fun a ha=>by
 by_cases h4:p.op=4
 ·unfold typesP at ha
  rw [if_pos h4] at ha
  exact argsOf_in hw ht (ownB_ctor h4 ho) ha
 ·rw [typesP_no h4] at ha
  have:=List.eq_of_mem_replicate ha
  rw [this];exact ht
theorem typesP_len {xs:List Dt} (hw:WorldOK xs) {t:Ty} (ht:TyIn xs.length t) {p:P} (ho:ownB xs t p=true):(typesP xs t p).length≤3:=by
 by_cases h4:p.op=4
 ·unfold typesP
  rw [if_pos h4]
  exact argsOf_len3 hw ht (ownB_ctor h4 ho)
 ·rw [typesP_no h4,repTo_len]
  have:=kidsN_le p.op
  omega
def ShapeS (p:P):Prop:=∀ (xs:List Dt) (_:WorldOK xs) (d:Nat) (_:d≤10) (t:Ty) (_:TyIn xs.length t) (w:World) (x:Value) (F:List Nat) (cs:List Value) (G:List Nat),Arr w (DtR w) xs x F→Under w.heap.size F→PR w p cs G→Under w.heap.size G →
 Calls Try.prog 47 #[x,.agg #[.int .i64 t.d,.int .i64 t.i],.agg cs.toArray,.int .i64 (d:Int)] w fun e w'=>e=.returned (.bool (shapeB xs d t p))∧Below w.heap.size w w'
theorem l3Shape_of (p:P) (ih:∀ k∈p.ks,ShapeS k):ShapeS p:=by
 intro xs hw d hd t ht w x F cs G hx hf hv hg
 have IH:=jj ih
 clear ih
 obtain ⟨kv,rfl,ha⟩:=(zA4 _ _ _).1 hv
 obtain ⟨A,cap,rfl,hc1,hc2⟩:=hx.form
 obtain ⟨A4,cap4,rfl,hc3,hc4⟩:=ha.form
 have HV:=jj hv
 have HX:=jj hx
 have HF:=jj hf
 have HA:=jj ha
 have HG:=jj hg
 clear hx hf ha hg
 clear hv
 have HW:=jj hw
 have HT:=jj ht
 clear hw ht
 cases d with
 |zero =>
  go_enter Try.func47,Try.ntmps47
  go_wp2
  go_ret
  exact ⟨zA0 rfl,((zy2 _ _).alloc (zz8 _) _).alloc (by simp) _⟩
 |succ d =>
 have hd1:decide (((d+1:Nat):Int)<1)=false:=by simp;omega
 have hde:((d+1:Nat):Int)=(d:Int)+1:=by omega
 rw [hde] at hd1 ⊢
 clear hde
 have HFD:=jj (shapeB_succ xs d t p)
 go_enter Try.func47,Try.ntmps47
 go_wp2_with fail
 obtain ⟨W2,hW2⟩:∃ W2,W2=((w.alloc (.cells #[.int .i64 t.d,.int .i64 t.i] 35)).alloc (.cells #[.int .i64 p.op,.int .i64 p.ct,.int .i64 p.n,.int .i64 p.m,.int .i64 p.va,.slice A4 p.ks.length cap4] 38)):=⟨_,rfl⟩
 have hB0:Below w.heap.size w W2:=by rw [hW2];exact ((zy2 _ _).alloc (zz8 _) _).alloc (by simp) _
 have KT:Hid (Blk W2 w.heap.size 35 #[.int .i64 t.d,.int .i64 t.i]):=by rw [hW2];exact (Blk.new w _ _).same (Below.heap_alloc _ _ _ (by simp))
 have KP:Hid (Blk W2 (w.heap.size+1) 38 #[.int .i64 p.op,.int .i64 p.ct,.int .i64 p.n,.int .i64 p.m,.int .i64 p.va,.slice A4 p.ks.length cap4]):=by rw [hW2];have h:=Blk.new (w.alloc (.cells #[.int .i64 t.d,.int .i64 t.i] 35)) 38 #[.int .i64 p.op,.int .i64 p.ct,.int .i64 p.n,.int .i64 p.m,.int .i64 p.va,.slice A4 p.ks.length cap4];rw [World.size_alloc] at h;exact h
 have hws:w.heap.size+2≤W2.heap.size:=by rw [hW2];simp
 rw [←hW2]
 clear hW2
 have y0:W2.cell? ⟨w.heap.size,0,none⟩=some (.int .i64 t.d):=(KT.out.cell 0).trans (by simp)
 have y1:W2.cell? ⟨w.heap.size,1,none⟩=some (.int .i64 t.i):=(KT.out.cell 1).trans (by simp)
 have klt:=KT.out.lt
 have z0:W2.cell? ⟨w.heap.size+1,0,none⟩=some (.int .i64 p.op):=(KP.out.cell 0).trans (by simp)
 have z1:W2.cell? ⟨w.heap.size+1,1,none⟩=some (.int .i64 p.ct):=(KP.out.cell 1).trans (by simp)
 have z2:W2.cell? ⟨w.heap.size+1,2,none⟩=some (.int .i64 p.n):=(KP.out.cell 2).trans (by simp)
 have z3:W2.cell? ⟨w.heap.size+1,3,none⟩=some (.int .i64 p.m):=(KP.out.cell 3).trans (by simp)
 have z4:W2.cell? ⟨w.heap.size+1,4,none⟩=some (.int .i64 p.va):=(KP.out.cell 4).trans (by simp)
 have z5:W2.cell? ⟨w.heap.size+1,5,none⟩=some (.slice A4 p.ks.length cap4):=(KP.out.cell 5).trans (by simp)
 have klt2:=KP.out.lt
 go_wp2_with fail
 refine (spec_l3Own xs HW.out t HT.out p W2 _ F _ G (ArrDt.below HX.out hB0 HF.out) (HF.out.mono hB0.size) (HV.out.below hB0 HG.out) (HG.out.mono hB0.size)).mono ?_
 rintro e w3 ⟨rfl,hb3⟩
 have hB3:=hB0.trans (hb3.mono hB0.size)
 have KT3:=jj (KT.out.same (hb3.block _ KT.out.lt))
 have KP3:=jj (KP.out.same (hb3.block _ KP.out.lt))
 clear y0 y1 z0 z1 z2 z3 z4 z5 klt klt2
 have y0:w3.cell? ⟨w.heap.size,0,none⟩=some (.int .i64 t.d):=(KT3.out.cell 0).trans (by simp)
 have y1:w3.cell? ⟨w.heap.size,1,none⟩=some (.int .i64 t.i):=(KT3.out.cell 1).trans (by simp)
 have klt:=KT3.out.lt
 have z0:w3.cell? ⟨w.heap.size+1,0,none⟩=some (.int .i64 p.op):=(KP3.out.cell 0).trans (by simp)
 have z1:w3.cell? ⟨w.heap.size+1,1,none⟩=some (.int .i64 p.ct):=(KP3.out.cell 1).trans (by simp)
 have z2:w3.cell? ⟨w.heap.size+1,2,none⟩=some (.int .i64 p.n):=(KP3.out.cell 2).trans (by simp)
 have z3:w3.cell? ⟨w.heap.size+1,3,none⟩=some (.int .i64 p.m):=(KP3.out.cell 3).trans (by simp)
 have z4:w3.cell? ⟨w.heap.size+1,4,none⟩=some (.int .i64 p.va):=(KP3.out.cell 4).trans (by simp)
 have z5:w3.cell? ⟨w.heap.size+1,5,none⟩=some (.slice A4 p.ks.length cap4):=(KP3.out.cell 5).trans (by simp)
 have klt2:=KP3.out.lt
 clear hb3 KT KP hB0
 cases e1:ownB xs t p with
 |false =>
  have hf:Hid (shapeB xs (d+1) t p=false):=by rw [HFD.out,e1];rfl
  clear e1
  go_wp2
  go_ret
  exact ⟨zA0 hf.out.symm,hB3⟩
 |true =>
  have h1:shapeB xs (d+1) t p=(p.ks.length==(typesP xs t p).length && allP (shapeB xs d) (typesP xs t p) p.ks):=by rw [HFD.out,e1,Bool.true_and]
  have H1:=jj h1
  have HO:=jj e1
  have HAI:=jj (typesP_in HW.out HT.out e1)
  have hl3:=typesP_len HW.out HT.out e1
  clear h1 e1
  go_wp2_with fail
  refine (spec_l3Types xs HW.out t HT.out p HO.out w3 _ F _ G (ArrDt.below HX.out hB3 HF.out) (HF.out.mono hB3.size) (HV.out.below hB3 HG.out) (HG.out.mono hB3.size)).mono ?_
  rintro e w6 ⟨v6,F6,rfl,hb6,ha6,-,hfs6⟩
  have hB6:=hB3.trans (hb6.mono hB3.size)
  have KT6:=jj (KT3.out.same (hb6.block _ KT3.out.lt))
  have KP6:=jj (KP3.out.same (hb6.block _ KP3.out.lt))
  generalize hass:typesP xs t p=ls at *
  clear hass
  obtain ⟨A6,cap6,rfl,hd3,hd4⟩:=ha6.form
  have HA6:=jj ha6
  have HU6:=jj hfs6.under
  clear y0 y1 z0 z1 z2 z3 z4 z5 klt klt2
  clear ha6 hfs6 hb6 KT3 KP3 hB3 KT6
  have z5:w6.cell? ⟨w.heap.size+1,5,none⟩=some (.slice A4 p.ks.length cap4):=(KP6.out.cell 5).trans (by simp)
  have klt2:=KP6.out.lt
  by_cases hln:p.ks.length=ls.length
  ·have t2:((p.ks.length:Int) != (ls.length:Int))=false:=by simp [hln]
   have h3:shapeB xs (d+1) t p=allP (shapeB xs d) ls p.ks:=by rw [H1.out,hln];simp
   have H3:=jj h3
   have HLN:=jj hln
   clear h3 hln
   go_wp2
   clear z5 klt2 t2
   go_loopw [10] (fun iv wr=>∃ i:Nat,i≤ls.length∧iv=.int .i64 i∧Hid (shapeB xs (d+1) t p=allP (shapeB xs d) (ls.drop i) (p.ks.drop i))∧Hid (Blk wr (w.heap.size+1) 38 #[.int .i64 p.op,.int .i64 p.ct,.int .i64 p.n,.int .i64 p.m,.int .i64 p.va,.slice A4 p.ks.length cap4])∧Below w.heap.size w wr∧Hid (Below w6.heap.size w6 wr)) (fun iv _=>ls.length-(intOf iv).toNat)
   case atStart=>exact ⟨0,Nat.zero_le _,rfl,H3,KP6,hB6,zy2 _ _⟩
   case round =>
    clear hB6
    obtain ⟨i,hi,rfl,HR,KP,hB,HB6⟩:=hrel
    by_cases hil:i<ls.length
    ·have hik:i<p.ks.length:=by rw [HLN.out];exact hil
     obtain ⟨b6,off6,rfl⟩:=HA6.out.ptr (by omega)
     obtain ⟨hb6,a0,a1⟩:=ArrTy.at HA6.out HU6.out HB6.out i hil
     obtain ⟨b4,off4,rfl⟩:=HA.out.ptr (by omega)
     obtain ⟨A7,cap7,G7,hb7,k0,k1,k2,k3,k4,k5,HV7,HG7,-,-,-⟩:=ArrP.at HA.out HG.out hB i hik
     have z5:wr.cell? ⟨w.heap.size+1,5,none⟩=some (.slice (some ⟨b4,off4,none⟩) p.ks.length cap4):=(KP.out.cell 5).trans (by simp)
     have klt2:=KP.out.lt
     have g1:(0:Int)≤(i:Int):=by omega
     have g2:(i:Int)<(ls.length:Int):=by omega
     have g3:(i:Int)<(p.ks.length:Int):=by omega
     have hstep:=HR.out
     rw [allP_step hil hik] at hstep
     have HST:=jj hstep
     clear hstep
     have hwr:IntKind.i64.wrap (d:Int)=(d:Int):=IntWalk.i64_in _ (by omega)
     have HCALL:=jj (IH.out p.ks[i] (List.getElem_mem hik) xs HW.out d (by omega) ls[i] (HAI.out _ (List.getElem_mem hil)) wr.drew _ F _ G7 (ArrDt.below HX.out hB.drew HF.out) (HF.out.mono hB.drew.size) (HV7.out.below hB.drew HG7.out) (HG7.out.mono hB.drew.size))
     go_wp2_with fail
     have hkeep:∀ U U':World,(U.cell? ⟨b6,off6+i*2,none⟩=some (.int .i64 ls[i].d)∧U.cell? ⟨b6,off6+i*2+1,none⟩=some (.int .i64 ls[i].i)∧U.cell? ⟨w.heap.size+1,5,none⟩=some (.slice (some ⟨b4,off4,none⟩) p.ks.length cap4)∧U.cell? ⟨b4,off4+i*6,none⟩=some (.int .i64 p.ks[i].op)∧U.cell? ⟨b4,off4+i*6+1,none⟩=some (.int .i64 p.ks[i].ct)∧U.cell? ⟨b4,off4+i*6+2,none⟩=some (.int .i64 p.ks[i].n)∧U.cell? ⟨b4,off4+i*6+3,none⟩=some (.int .i64 p.ks[i].m)∧U.cell? ⟨b4,off4+i*6+4,none⟩=some (.int .i64 p.ks[i].va)∧U.cell? ⟨b4,off4+i*6+5,none⟩=some (.slice A7 p.ks[i].ks.length cap7))→Below U.heap.size U U'→wr.heap.size≤U.heap.size→(U'.cell? ⟨b6,off6+i*2,none⟩=some (.int .i64 ls[i].d)∧U'.cell? ⟨b6,off6+i*2+1,none⟩=some (.int .i64 ls[i].i)∧U'.cell? ⟨w.heap.size+1,5,none⟩=some (.slice (some ⟨b4,off4,none⟩) p.ks.length cap4)∧U'.cell? ⟨b4,off4+i*6,none⟩=some (.int .i64 p.ks[i].op)∧U'.cell? ⟨b4,off4+i*6+1,none⟩=some (.int .i64 p.ks[i].ct)∧U'.cell? ⟨b4,off4+i*6+2,none⟩=some (.int .i64 p.ks[i].n)∧U'.cell? ⟨b4,off4+i*6+3,none⟩=some (.int .i64 p.ks[i].m)∧U'.cell? ⟨b4,off4+i*6+4,none⟩=some (.int .i64 p.ks[i].va)∧U'.cell? ⟨b4,off4+i*6+5,none⟩=some (.slice A7 p.ks[i].ks.length cap7)):=fun U U' h hUU hU=>⟨(hUU.cell (zz9 (hb6) hU)).trans h.1,(hUU.cell (zz9 (hb6) hU)).trans h.2.1,(hUU.cell (zz9 (klt2) hU)).trans h.2.2.1,(hUU.cell (zz9 (hb7) hU)).trans h.2.2.2.1,(hUU.cell (zz9 (hb7) hU)).trans h.2.2.2.2.1,(hUU.cell (zz9 (hb7) hU)).trans h.2.2.2.2.2.1,(hUU.cell (zz9 (hb7) hU)).trans h.2.2.2.2.2.2.1,(hUU.cell (zz9 (hb7) hU)).trans h.2.2.2.2.2.2.2.1,(hUU.cell (zz9 (hb7) hU)).trans h.2.2.2.2.2.2.2.2⟩
     have HKeep:=jj hkeep
     clear hkeep
     go_region_held3 (fun w'=>w'.cell? ⟨b6,off6+i*2,none⟩=some (.int .i64 ls[i].d)∧w'.cell? ⟨b6,off6+i*2+1,none⟩=some (.int .i64 ls[i].i)∧w'.cell? ⟨w.heap.size+1,5,none⟩=some (.slice (some ⟨b4,off4,none⟩) p.ks.length cap4)∧w'.cell? ⟨b4,off4+i*6,none⟩=some (.int .i64 p.ks[i].op)∧w'.cell? ⟨b4,off4+i*6+1,none⟩=some (.int .i64 p.ks[i].ct)∧w'.cell? ⟨b4,off4+i*6+2,none⟩=some (.int .i64 p.ks[i].n)∧w'.cell? ⟨b4,off4+i*6+3,none⟩=some (.int .i64 p.ks[i].m)∧w'.cell? ⟨b4,off4+i*6+4,none⟩=some (.int .i64 p.ks[i].va)∧w'.cell? ⟨b4,off4+i*6+5,none⟩=some (.slice A7 p.ks[i].ks.length cap7)) (first | assumption | (exact ⟨a0,a1,z5,k0,k1,k2,k3,k4,k5⟩) | (exact HKeep.out wr.drew w' ⟨a0,a1,z5,k0,k1,k2,k3,k4,k5⟩ hB' (zz8 _))) (first | (go_at_call 47;((with_reducible refine HCALL.out.mono ?_);rintro e w' ⟨rfl,hB'⟩)))
     have hB3:=hB.drew.trans (hB'.mono hB.size)
     have HB3:=jj (HB6.out.drew.trans (hB'.mono HB6.out.size))
     have KP3:=jj (KP.out.same (hB'.block _ KP.out.lt))
     clear HKeep hwr
     cases e3:shapeB xs d ls[i] p.ks[i] with
     |false =>
      have hf:Hid (shapeB xs (d+1) t p=false):=by rw [HST.out,e3];rfl
      clear e3
      go_wp2
      go_ret
      exact ⟨zA0 hf.out.symm,hB3⟩
     |true =>
      have hR2:Hid (shapeB xs (d+1) t p=allP (shapeB xs d) (ls.drop (i+1)) (p.ks.drop (i+1))):=by rw [HST.out,e3,Bool.true_and];rfl
      clear e3
      go_wp2
      go_roundw
      case rel=>exact ⟨i+1,by omega,by go_num,hR2,KP3,hB3,HB3⟩
      case measure=>(simp [intOf] <;> omega)
    ·have hf:Hid (shapeB xs (d+1) t p=true):=by rw [HR.out];exact allP_end (by omega)
     go_wp2
     go_ret
     exact ⟨zA0 hf.out.symm,hB⟩
  ·have t2:((p.ks.length:Int) != (ls.length:Int))=true:=by rw [bne_iff_ne];omega
   have hf:Hid (shapeB xs (d+1) t p=false):=by unfold Hid;rw [H1.out];simp [hln]
   clear hln
   go_wp2
   go_ret
   exact ⟨zA0 hf.out.symm,hB6⟩
theorem spec_l3Shape:∀ p,ShapeS p:=P.indv l3Shape_of
theorem ArrVt.at {w0 w:World} {b off n cap:Nat} {F:List Nat} {xs:List Vt} (h:Arr w0 (VtR w0) xs (.slice (some ⟨b,off,none⟩) n cap) F) (hF:Under w0.heap.size F) (hB:Below w0.heap.size w0 w) (i:Nat) (hi:i<xs.length) :
  b<w.heap.size∧w.cell? ⟨b,off+i*3,none⟩=some (.int .i64 xs[i].var)∧w.cell? ⟨b,off+i*3+1,none⟩=some (.int .i64 xs[i].ty.d)∧w.cell? ⟨b,off+i*3+2,none⟩=some (.int .i64 xs[i].ty.i):=by
 obtain ⟨b',off',cs,G,e,hb,hcs,hv,hG⟩:=h.get (VtR_len w0) hi
 cases e
 have hbl:=hF _ hb
 have hc:=hcs.same (hB.block _ hbl)
 obtain ⟨rfl,rfl⟩:=hv
 exact ⟨zz9 hbl hB.size,hc 0 _ rfl,hc 1 _ rfl,hc 2 _ rfl⟩
theorem spec_l3Find (xs:List Vt) (n r:Int) (hr:FirstAt (fun x:Vt=>x.var==n) xs r) (w:World) (x:Value) (F:List Nat) (hx:Arr w (VtR w) xs x F) (hf:Under w.heap.size F) :
  Calls Try.prog 64 #[x,.int .i64 n] w fun e w'=>e=.returned (.int .i64 r)∧Below w.heap.size w w':=by
 obtain ⟨A,cap,rfl,hc1,hc2⟩:=hx.form
 have HX:=jj hx
 have HF:=jj hf
 have HR:=jj hr
 clear hx hf hr
 go_enter Try.func64,Try.ntmps64
 go_wp2
 go_loopw [5] (fun i wr=>∃ k:Nat,k≤xs.length∧i=.int .i64 k∧Hid (∀ j (hj:j<xs.length),j<k→(xs[j].var==n)=false)∧Below w.heap.size w wr) (fun i _=>xs.length-(intOf i).toNat)
 case atStart=>exact ⟨0,Nat.zero_le _,rfl,fun j hj h=>by omega,zy2 _ _⟩
 case round =>
  obtain ⟨k,hk,rfl,HT,hB⟩:=hrel
  by_cases hlt:k<xs.length
  ·have g1:(0:Int)≤(k:Int):=by omega
   have g2:(k:Int)<(xs.length:Int):=by omega
   obtain ⟨b,off,rfl⟩:=HX.out.ptr (by omega)
   obtain ⟨hb,c0,c1,c2⟩:=ArrVt.at HX.out HF.out hB k hlt
   cases hq:(xs[k].var==n) with
   |true =>
    have hf:=jj (HR.out.hit hlt hq (fun j hj h=>HT.out j hj h))
    go_wp2
    go_ret
    exact ⟨zA6 hf.out.symm,hB⟩
   |false =>
    have hT2:Hid (∀ j (hj:j<xs.length),j<k+1→(xs[j].var==n)=false):=fun j hj h=>by
     rcases Nat.lt_or_ge j k with h2 | h2
     ·exact HT.out j hj h2
     ·obtain rfl:j=k:=by omega
      exact hq
    go_wp2
    go_roundw
    case rel=>exact ⟨k+1,by omega,by go_num,hT2,hB⟩
    case measure=>(simp [intOf] <;> omega)
  ·have hf:Hid (r = -1):=HR.out.miss (fun j hj=>HT.out j hj (by omega))
   go_wp2
   go_ret
   exact ⟨zA6 hf.out.symm,hB⟩
theorem CellsAt.nil (w:World) (b off:Nat):CellsAt w b off []:=fun j u h=>by simp at h
theorem CellsAt.cons {w:World} {b off:Nat} {a:Value} {cs:List Value} (h:w.cell? ⟨b,off,none⟩=some a) (hc:CellsAt w b (off+1) cs):CellsAt w b off (a :: cs):=fun j u hj=>by
 cases j with
 |zero=>simp at hj;subst hj;exact h
 |succ j =>
  have:=hc j u (by simpa using hj)
  rwa [show off+1+j=off+(j+1) by omega] at this
theorem Kept.refl (F:List Nat) (w:World):Kept F w w:=fun _ _=>rfl
theorem Kept.set {F:List Nat} {w w':World} {b j:Nat} {u:Value} (h:Kept F w w') (hb:b∉F):Kept F w (w'.setCell ⟨b,j,none⟩ u):=fun c hc =>
 (zz7 _ _ _ _ (fun e=>hb (by rw [←show c=b from e];exact hc))).trans (h c hc)
theorem Kept.step {F:List Nat} {w w' w'':World} (h:Kept F w w') (hb:Below w'.heap.size w' w'') (hF:Under w'.heap.size F):Kept F w w'':=fun c hc=>(hb.block c (hF c hc)).trans (h c hc)
structure Chg (F:List Nat) (w w':World):Prop where
 os:w'.os=w.os
 tape:w'.tape=w.tape
 output:w'.output=w.output
 size:w.heap.size≤w'.heap.size
 block:∀ b,b<w.heap.size→b∉F→w'.heap[b]?=w.heap[b]?
theorem Chg.refl (F:List Nat) (w:World):Chg F w w:=⟨rfl,rfl,rfl,zz8 _,fun _ _ _=>rfl⟩
theorem Chg.trans {F:List Nat} {a b c:World} (h:Chg F a b) (k:Chg F b c):Chg F a c :=
 ⟨k.os.trans h.os,k.tape.trans h.tape,k.output.trans h.output,Nat.le_trans h.size k.size,fun i hi hF=>(k.block i (zz9 hi h.size) hF).trans (h.block i hi hF)⟩
theorem Chg.mono {F G:List Nat} {w w':World} (h:Chg F w w') (hs:∀ b∈F,b∈G):Chg G w w':=⟨h.os,h.tape,h.output,h.size,fun b hb hG=>h.block b hb fun hf=>hG (hs b hf)⟩
theorem Chg.of_below {F:List Nat} {w w':World} (h:Below w.heap.size w w'):Chg F w w':=⟨h.os,h.tape,h.output,h.size,fun b hb _=>h.block b hb⟩
theorem Chg.kept {F G:List Nat} {w w':World} (h:Chg F w w') (hG:Under w.heap.size G) (hd:∀ b∈G,b∉F):Kept G w w':=fun b hb=>h.block b (hG b hb) (hd b hb)
theorem Chg.below {F:List Nat} {w w':World} {B:Nat} (h:Chg F w w') (hF:∀ b∈F,B≤b) (hB:B≤w.heap.size):Below B w w' :=
 ⟨h.os,h.tape,h.output,h.size,fun b hb=>h.block b (zz9 hb hB) fun hf=>Nat.lt_irrefl _ (zz9 hb (hF b hf))⟩
theorem Chg.set {F:List Nat} {w w':World} {b j:Nat} {u:Value} (h:Chg F w w') (hb:b∈F):Chg F w (w'.setCell ⟨b,j,none⟩ u) :=
 ⟨h.os,h.tape,h.output,Nat.le_trans h.size (by simp [World.setCell]),fun c hc hF=>(zz7 _ _ _ _ (fun e=>hF (by rw [show c=b from e];exact hb))).trans (h.block c hc hF)⟩
theorem Chg.step {F:List Nat} {w w' w'':World} (h:Chg F w w') (hb:Below w'.heap.size w' w''):Chg F w w'':=h.trans (.of_below hb)
theorem Chg.cell {F:List Nat} {w w':World} (h:Chg F w w') {p:Addr} (hp:p.block<w.heap.size) (hn:p.block∉F):w'.cell? p=w.cell? p:=World.cell?_of_block (w:=w) (h.block p.block hp hn)
theorem Chg.undrew {F:List Nat} {w w':World} (h:Chg F w.drew w'):Chg F w w':=⟨h.os,h.tape,h.output,h.size,h.block⟩
structure Upd (b lo n:Nat) (F:List Nat) (w w':World):Prop extends Chg (b :: F) w w' where
 cells:∀ j,j<lo∨lo+n≤j→w'.cell? ⟨b,j,none⟩=w.cell? ⟨b,j,none⟩
 froz:∀ j,w'.frozen? ⟨b,j,none⟩=w.frozen? ⟨b,j,none⟩
theorem Upd.refl (b lo n:Nat) (F:List Nat) (w:World):Upd b lo n F w w:=⟨Chg.refl _ _,fun _ _=>rfl,fun _=>rfl⟩
theorem Upd.trans {b lo n:Nat} {F:List Nat} {x y z:World} (h:Upd b lo n F x y) (k:Upd b lo n F y z):Upd b lo n F x z :=
 ⟨h.toChg.trans k.toChg,fun j hj=>(k.cells j hj).trans (h.cells j hj),fun j=>(k.froz j).trans (h.froz j)⟩
theorem Upd.set {b lo n:Nat} {F:List Nat} {x y:World} (h:Upd b lo n F x y) {j:Nat} (h1:lo≤j) (h2:j<lo+n) (u:Value):Upd b lo n F x (y.setCell ⟨b,j,none⟩ u) :=
 h.trans ⟨⟨rfl,rfl,rfl,by simp [World.setCell],fun c _ hc=>zz7 _ _ _ _ (fun e=>hc (by rw [e];exact List.mem_cons_self))⟩,
  fun i hi=>World.cell?_setCell_other _ _ _ _ (by intro e;injection e;omega),fun i=>World.frozen?_setCell _ _ _ _⟩
theorem Upd.sub {b lo n:Nat} {F:List Nat} {x y z:World} (h:Upd b lo n F x y) (hc:Chg F y z) (hb:b∉F) (hlt:b<y.heap.size):Upd b lo n F x z :=
 h.trans ⟨hc.mono fun c hc=>List.mem_cons_of_mem _ hc,fun j _=>World.cell?_of_block (w:=y) (a:=⟨b,j,none⟩) (hc.block b hlt hb),fun j=>World.frozen?_of_block (w:=y) (a:=⟨b,j,none⟩) (hc.block b hlt hb)⟩
theorem Upd.below {b lo n:Nat} {F:List Nat} {x y z:World} (h:Upd b lo n F x y) (hc:Below y.heap.size y z) (hlt:b<y.heap.size):Upd b lo n F x z :=
 h.trans ⟨.of_below hc,fun j _=>hc.cell (p:=⟨b,j,none⟩) hlt,fun j=>hc.frozen (p:=⟨b,j,none⟩) hlt⟩
section
variable {α : Type} {R : World → α → List Value → List Nat → Prop} {k : Nat}
theorem Arr.focus (hRl:∀ w x cs G,R w x cs G→cs.length=k) (hRm:∀ w w' x cs G,Kept G w w'→R w x cs G→R w' x cs G) {w:World} {xs:List α} {v:Value} {F:List Nat}
  (h:Arr w (R w) xs v F) (hfr:Free w F) (hF:Under w.heap.size F) {i:Nat} (hi:i<xs.length) :
  ∃ b off c F1 F2 F3 cap,v=.slice (some ⟨b,off,none⟩) xs.length cap∧F=b :: (F1 ++ (F2 ++ F3))∧CellsAt w b (off+i*k) c∧R w xs[i] c F2∧Free w F2∧b∉F2∧b<w.heap.size∧(∀ j,w.frozen? ⟨b,j,none⟩=false)∧Under w.heap.size F2 ∧
   ∀ w' y c',Upd b (off+i*k) k F2 w w'→CellsAt w' b (off+i*k) c'→R w' y c' F2→Free w' F2→Arr w' (R w') (xs.set i y) v F∧Free w' F∧Chg F w w':=by
 obtain ⟨A,cap,rfl,h1,h2,h3⟩:=h
 rcases h3 with ⟨rfl,-⟩ | ⟨b,off,cs,G,rfl,hc,hf,rfl⟩
 ·simp at hi
 have hxs:xs=xs.take i ++ (xs[i] :: xs.drop (i+1)):=by rw [←List.drop_eq_getElem_cons hi,List.take_append_drop]
 have hf':=hf
 rw [hxs] at hf'
 obtain ⟨c1,c23,F1,F23,rfl,rfl,g1,g23⟩:=Flat.split (xs.take i) hf'
 obtain ⟨c2,c3,F2,F3,rfl,rfl,g2,g3⟩:=g23
 have l1:c1.length=i*k:=by rw [g1.length (hRl w),List.length_take];congr 1;omega
 have hc2:=hc.right
 rw [l1] at hc2
 have l2:=hRl _ _ _ _ g2
 have nd:=List.nodup_cons.1 hfr.1
 have nd1:=List.nodup_append.1 nd.2
 have nd2:=List.nodup_append.1 nd1.2.1
 have hbF2:b∉F2:=fun hb=>nd.1 (List.mem_append.2 (.inr (List.mem_append.2 (.inl hb))))
 refine ⟨b,off,c2,F1,F2,F3,cap,rfl,rfl,hc2.left,g2,⟨nd2.1,fun x hx j=>hfr.2 x (by simp [hx]) j⟩,hbF2,hF b (by simp),fun j=>hfr.2 b (by simp) j,fun x hx=>hF x (by simp [hx]),?_⟩
 intro w' y c' hu hc' hy hfr2
 have k1:Kept F1 w w':=hu.toChg.kept (fun x hx=>hF x (by simp [hx])) fun x hx hm=>by
  rcases List.mem_cons.1 hm with rfl | hm
  ·exact nd.1 (by simp [hx])
  ·exact nd1.2.2 x hx x (by simp [hm]) rfl
 have k3:Kept F3 w w':=hu.toChg.kept (fun x hx=>hF x (by simp [hx])) fun x hx hm=>by
  rcases List.mem_cons.1 hm with rfl | hm
  ·exact nd.1 (by simp [hx])
  ·exact nd2.2.2 x hm x hx rfl
 have lc':=hRl _ _ _ _ hy
 have hxs':xs.set i y=xs.take i ++ (y :: xs.drop (i+1)):=by rw [List.set_eq_take_append_cons_drop,if_pos hi]
 refine ⟨?_,?_,?_⟩
 ·rw [hxs']
  refine ⟨_,cap,by rw [←hxs',List.length_set],by rw [←hxs',List.length_set];exact h1,h2,.inr ⟨b,off,c1 ++ (c' ++ c3),F1 ++ (F2 ++ F3),rfl,?_,?_,rfl⟩⟩
  ·refine CellsAt.append (fun j u hj=>?_) (CellsAt.append ?_ (fun j u hj=>?_))
   ·have hjl:=(List.getElem?_eq_some_iff.1 hj).1
    rw [hu.cells _ (.inl (by omega))]
    exact hc.left j u hj
   ·rw [l1];exact hc'
   ·rw [l1,hu.cells _ (.inr (by omega))]
    have:=hc2.right j u hj
    rw [l2] at this
    rwa [lc']
  ·exact (g1.mono fun x _ cs H hH hr=>hRm _ _ x cs H (fun z hz=>k1 z (hH z hz)) hr).append ⟨c',c3,F2,F3,rfl,rfl,hy,g3.mono fun x _ cs H hH hr=>hRm _ _ x cs H (fun z hz=>k3 z (hH z hz)) hr⟩
 ·refine ⟨hfr.1,fun x hx j=>?_⟩
  rcases List.mem_cons.1 hx with rfl | hx
  ·rw [hu.froz j];exact hfr.2 x (by simp) j
  ·rcases List.mem_append.1 hx with hx | hx
   ·rw [World.frozen?_of_block (w:=w) (a:=⟨x,j,none⟩) (k1 x hx)];exact hfr.2 x (by simp [hx]) j
   ·rcases List.mem_append.1 hx with hx | hx
    ·exact hfr2.2 x hx j
    ·rw [World.frozen?_of_block (w:=w) (a:=⟨x,j,none⟩) (k3 x hx)];exact hfr.2 x (by simp [hx]) j
 ·exact hu.toChg.mono fun x hx=>by
   rcases List.mem_cons.1 hx with rfl | hx <;> simp [*]
end
/-! ### What marking makes of a list -/
def mkS {α:Type} (mk:Int→α→α) (cnt:α→Nat):Int→List α→List α
 |_,[]=>[]
 |k,x :: xs=>mk k x :: mkS mk cnt (k+cnt x) xs
section
variable {α : Type} {mk : Int → α → α} {cnt : α → Nat}
theorem zAB:∀ (xs:List α) (k:Int),(mkS mk cnt k xs).length=xs.length
 |[],_=>rfl
 |x :: xs,k=>by rw [mkS,List.length_cons,zAB xs,List.length_cons]
theorem mkS_snoc:∀ (xs:List α) (k:Int) (x:α),mkS mk cnt k (xs ++ [x])=mkS mk cnt k xs ++ [mk (k+sumBy cnt xs) x]
 |[],k,x=>by simp [mkS,sumBy]
 |y :: xs,k,x=>by
  simp only [List.cons_append,mkS,mkS_snoc xs,sumBy]
  congr 4;omega
theorem mkS_get {xs:List α} {k:Int} {i:Nat} (hi:i<xs.length):(mkS mk cnt k xs)[i]?=some (mk (k+sumBy cnt (xs.take i)) xs[i]):=by
 have h:∀ (xs:List α) (k:Int) (i:Nat) (hi:i<xs.length),(mkS mk cnt k xs)[i]?=some (mk (k+sumBy cnt (xs.take i)) xs[i]):=by
  intro xs
  induction xs with
  |nil=>intro k i hi;simp at hi
  |cons x xs ih =>
   intro k i hi
   cases i with
   |zero=>simp [mkS,sumBy]
   |succ i =>
    simp only [mkS,List.getElem?_cons_succ,List.take_succ_cons,sumBy,zz3]
    rw [ih (k+cnt x) i (by simpa using hi)]
    congr 2;omega
 exact h xs k i hi
def mkTo (mk:Int→α→α) (cnt:α→Nat) (k:Int) (xs:List α) (i:Nat):List α:=mkS mk cnt k (xs.take i) ++ xs.drop i
theorem mkTo_length (k:Int) (xs:List α) (i:Nat):(mkTo mk cnt k xs i).length=xs.length:=by unfold mkTo;rw [List.length_append,zAB,←List.length_append,List.take_append_drop]
theorem mkTo_all (k:Int) (xs:List α) {i:Nat} (h:xs.length≤i):mkTo mk cnt k xs i=mkS mk cnt k xs:=by unfold mkTo;rw [List.take_of_length_le h,List.drop_of_length_le h,List.append_nil]
theorem mkTo_get {k:Int} {xs:List α} {i:Nat} (hi:i<xs.length):(mkTo mk cnt k xs i)[i]'(by rw [mkTo_length];exact hi)=xs[i]:=by
 unfold mkTo
 rw [List.getElem_append_right (by rw [zAB,List.length_take];omega)]
 simp only [zAB,List.length_take,Nat.min_eq_left (Nat.le_of_lt hi),Nat.sub_self,List.getElem_drop,Nat.add_zero]
theorem mkTo_step {k:Int} {xs:List α} {i:Nat} (hi:i<xs.length):(mkTo mk cnt k xs i).set i (mk (k+sumBy cnt (xs.take i)) xs[i])=mkTo mk cnt k xs (i+1):=by
 unfold mkTo
 rw [take_snoc' xs i hi,mkS_snoc,List.set_append_right _ _ (by rw [zAB,List.length_take];omega),zAB,List.length_take,Nat.min_eq_left (Nat.le_of_lt hi),Nat.sub_self,List.drop_eq_getElem_cons hi,zz5,List.append_assoc]
 rfl
end
end Go.Proofs.Ytghekinfoadcoaa
