/-
  Lemmas, and contracts of functions. Conditions: none.
-/
import Derived.Test.YtjjclcmmfeegfaaGreatDoorJAB
import Derived.Test.YtjjclcmmfeegfaaGreatDoorChecked
import Derived.Deep.RegionHeld3
import Derived.Deep.RegionWith
import Derived.BigQuiet
import Derived.Test.YtjjclcmmfeegfaaGreatDoorJAI
import Derived.Test.YtjjclcmmfeegfaaGreatDoorJAA
import Derived.Test.YtjjclcmmfeegfaaGreatDoorJAF
import Derived.Test.YtjjclcmmfeegfaaGreatDoorJAG
import Derived.Lib.SliceRun
import Derived.Test.YtjjclcmmfeegfaaGreatDoorJAC
import Derived.Test.YtjjclcmmfeegfaaGreatDoorJAJ
import Derived.Test.YtjjclcmmfeegfaaGreatDoorJAD
import Derived.IntWalk
import Derived.Deep.QuietTactic
import Derived.Shelf.Strings.Builder1
import Derived.Shelf.Strings.Builder2
import Derived.Shelf.Strings.OnBuilder

set_option linter.unusedVariables false
set_option linter.unusedSimpArgs false
set_option maxRecDepth 100000
set_option maxHeartbeats 1600000

namespace Go.Proofs.YtjjclcmmfeegfaaGreatDoor
open Go.RowKit
def numV (n:Nat):V:=⟨-1,(n:Int),[]⟩
def numsL (k:Nat):List V:=(List.range k).map numV
theorem numsL_succ (k:Nat):numsL (k+1)=numsL k ++ [numV k]:=by unfold numsL;rw [List.range_succ,List.map_append];rfl
theorem numsL_len (k:Nat):(numsL k).length=k:=by unfold numsL;rw [List.length_map,List.length_range]
def growK (c:Int) (v:V) (kids:List V):List V:=kids.map fun k=>⟨c,0,v.ks ++ [k]⟩
theorem growK_len (c:Int) (v:V) (kids:List V):(growK c v kids).length=kids.length:=List.length_map _
def growTo (c:Int) (list kids:List V) (p:Nat):List V:=(list.take p).flatMap fun v=>growK c v kids
def growV (c:Int) (list kids:List V):List V:=list.flatMap fun v=>growK c v kids
theorem growTo_all (c:Int) (list kids:List V) {p:Nat} (h:list.length≤p):growTo c list kids p=growV c list kids:=by unfold growTo growV;rw [List.take_of_length_le h]
theorem growTo_succ (c:Int) (list kids:List V) (p:Nat) (h:p<list.length):growTo c list kids (p+1)=growTo c list kids p ++ growK c list[p] kids:=by
 unfold growTo
 rw [take_snoc' list p h,List.flatMap_append]
 simp
theorem growK_succ (c:Int) (v:V) (kids:List V) (q:Nat) (h:q<kids.length):growK c v (kids.take (q+1))=growK c v (kids.take q) ++ [⟨c,0,v.ks ++ [kids[q]]⟩]:=by
 unfold growK
 rw [take_snoc' kids q h,List.map_append]
 rfl
theorem growV_len (c:Int) (list kids:List V):(growV c list kids).length=list.length*kids.length:=by
 unfold growV
 induction list with
 |nil=>simp
 |cons v l ih=>rw [List.flatMap_cons,List.length_append,ih,growK_len,List.length_cons,Nat.succ_mul];omega
theorem growTo_len (c:Int) (list kids:List V) (p:Nat) (h:p≤list.length):(growTo c list kids p).length=p*kids.length:=by
 have:=growV_len c (list.take p) kids
 rw [List.length_take,Nat.min_eq_left h] at this
 exact this
def growAll (c:Int) (ls:List (List V)):List V:=ls.foldl (growV c) [⟨c,0,[]⟩]
theorem growAll_snoc (c:Int) (ls:List (List V)) (l:List V):growAll c (ls ++ [l])=growV c (growAll c ls) l:=by unfold growAll;rw [List.foldl_append];rfl
def valsL (xs:List Dt):Nat→Ty→List V
 |0,_=>[]
 |d+1,t=>if t.d = -1 then numsL 10 else (ctorsL xs t).flatMap fun c=>growAll c ((argsOf xs t c).map (valsL xs d))
theorem valsL_int {xs:List Dt} {d:Nat} {t:Ty} (h:t.d = -1):valsL xs (d+1) t=numsL 10:=by rw [valsL,if_pos h]
def argTo (xs:List Dt) (d:Nat) (c:Int) (as':List Ty) (j:Nat):List V:=growAll c ((as'.take j).map (valsL xs d))
theorem argTo_zero (xs:List Dt) (d:Nat) (c:Int) (as':List Ty):argTo xs d c as' 0=[⟨c,0,[]⟩]:=rfl
theorem argTo_succ (xs:List Dt) (d:Nat) (c:Int) (as':List Ty) (j:Nat) (h:j<as'.length):argTo xs d c as' (j+1)=growV c (argTo xs d c as' j) (valsL xs d as'[j]):=by
 unfold argTo
 rw [take_snoc' as' j h,List.map_append,List.map_cons,List.map_nil,growAll_snoc]
def blockL (xs:List Dt) (d:Nat) (t:Ty) (c:Int):List V:=growAll c ((argsOf xs t c).map (valsL xs d))
theorem argTo_all (xs:List Dt) (d:Nat) (t:Ty) (c:Int) {j:Nat} (h:(argsOf xs t c).length≤j):argTo xs d c (argsOf xs t c) j=blockL xs d t c:=by unfold argTo blockL;rw [List.take_of_length_le h]
def valsTo (xs:List Dt) (d:Nat) (t:Ty) (i:Nat):List V:=((ctorsL xs t).take i).flatMap (blockL xs d t)
theorem valsTo_succ (xs:List Dt) (d:Nat) (t:Ty) (i:Nat) (h:i<(ctorsL xs t).length):valsTo xs d t (i+1)=valsTo xs d t i ++ blockL xs d t (ctorsL xs t)[i]:=by
 unfold valsTo
 rw [take_snoc' _ i h,List.flatMap_append]
 simp
theorem valsTo_all {xs:List Dt} {d:Nat} {t:Ty} (h:¬t.d = -1) {i:Nat} (hi:(ctorsL xs t).length≤i):valsTo xs d t i=valsL xs (d+1) t:=by
 unfold valsTo
 rw [List.take_of_length_le hi,valsL,if_neg h]
 rfl
theorem flatMap_take_len {α β:Type} (f:α→List β) (l:List α) (i:Nat):((l.take i).flatMap f).length≤(l.flatMap f).length:=by
 conv=>rhs;rw [←List.take_append_drop i l,List.flatMap_append,List.length_append]
 omega
theorem valsTo_len {xs:List Dt} {d:Nat} {t:Ty} (h:¬t.d = -1) (i:Nat):(valsTo xs d t i).length≤(valsL xs (d+1) t).length:=by
 rw [←valsTo_all h (zz8 _)]
 unfold valsTo
 rw [List.take_length]
 exact flatMap_take_len _ _ _
theorem blockL_len {xs:List Dt} {d:Nat} {t:Ty} (h:¬t.d = -1) {i:Nat} (hi:i<(ctorsL xs t).length):(valsTo xs d t i).length+(blockL xs d t (ctorsL xs t)[i]).length≤(valsL xs (d+1) t).length:=by
 have:=valsTo_len (xs:=xs) (d:=d) h (i+1)
 rw [valsTo_succ _ _ _ _ hi,List.length_append] at this
 exact this
theorem zAU (xs:List Dt) (d:Nat) (c:Int) (as':List Ty) (j:Nat) (h:j<as'.length):(argTo xs d c as' (j+1)).length=(argTo xs d c as' j).length*(valsL xs d as'[j]).length:=by rw [argTo_succ _ _ _ _ _ h,growV_len]
def noneB (xs:List Dt) (d:Nat) (as':List Ty):Bool:=as'.any fun a=>(valsL xs d a).length==0
theorem argTo_none {xs:List Dt} {d:Nat} {c:Int} {as':List Ty}:∀ {k j:Nat} (hk:k<as'.length),(valsL xs d as'[k]).length=0→k<j→j≤as'.length→argTo xs d c as' j=[]:=by
 intro k j hk h0 hkj hj
 induction j with
 |zero=>omega
 |succ j ih =>
  have hl:=zAU xs d c as' j (by omega)
  rcases Nat.lt_or_ge k j with h | h
  ·rw [ih h (by omega)] at hl
   simp at hl
   exact hl
  ·obtain rfl:k=j:=by omega
   rw [h0,Nat.mul_zero] at hl
   exact List.length_eq_zero_iff.1 hl
theorem blockL_none {xs:List Dt} {d:Nat} {t:Ty} {c:Int} (h:noneB xs d (argsOf xs t c)=true):blockL xs d t c=[]:=by
 unfold noneB at h
 rw [List.any_eq_true] at h
 obtain ⟨a,ha,h⟩:=h
 obtain ⟨k,hk,rfl⟩:=List.getElem_of_mem ha
 rw [beq_iff_eq] at h
 rw [←argTo_all xs d t c (zz8 _)]
 exact argTo_none hk h hk (zz8 _)
theorem noneB_pos {xs:List Dt} {d:Nat} {as':List Ty} (h:noneB xs d as'=false) {j:Nat} (hj:j<as'.length):0<(valsL xs d as'[j]).length:=by
 unfold noneB at h
 rw [List.any_eq_false] at h
 have:=h as'[j] (List.getElem_mem hj)
 simp only [beq_iff_eq] at this
 omega
theorem argTo_mono {xs:List Dt} {d:Nat} {c:Int} {as':List Ty} (h:noneB xs d as'=false):∀ (k j:Nat),j+k≤as'.length→(argTo xs d c as' j).length≤(argTo xs d c as' (j+k)).length:=by
 intro k
 induction k with
 |zero=>intro j _;exact zz8 _
 |succ k ih =>
  intro j hj
  have h1:=ih j (by omega)
  have h2:=zAU xs d c as' (j+k) (by omega)
  have h3:=noneB_pos h (j:=j+k) (by omega)
  rw [show j+(k+1)=j+k+1 by omega,h2]
  exact Nat.le_trans h1 (Nat.le_mul_of_pos_right _ h3)
theorem argTo_pos {xs:List Dt} {d:Nat} {c:Int} {as':List Ty} (h:noneB xs d as'=false) (j:Nat) (hj:j≤as'.length):0<(argTo xs d c as' j).length:=by
 have:=argTo_mono (c:=c) h j 0 (by omega)
 rw [argTo_zero,Nat.zero_add] at this
 exact this
theorem argTo_le {xs:List Dt} {d:Nat} {t:Ty} {c:Int} (h:noneB xs d (argsOf xs t c)=false) (j:Nat):(argTo xs d c (argsOf xs t c) j).length≤(blockL xs d t c).length:=by
 rcases Nat.lt_or_ge j (argsOf xs t c).length with hj | hj
 ·have:=argTo_mono (c:=c) h ((argsOf xs t c).length-j) j (by omega)
  rw [argTo_all xs d t c (show (argsOf xs t c).length≤j+((argsOf xs t c).length-j) by omega)] at this
  exact this
 ·rw [argTo_all xs d t c hj];exact zz8 _
theorem kid_le {xs:List Dt} {d:Nat} {t:Ty} {c:Int} (h:noneB xs d (argsOf xs t c)=false) {j:Nat} (hj:j<(argsOf xs t c).length):(valsL xs d (argsOf xs t c)[j]).length≤(blockL xs d t c).length:=by
 have h1:=argTo_le (c:=c) h (j+1)
 rw [zAU _ _ _ _ _ hj] at h1
 exact Nat.le_trans (Nat.le_mul_of_pos_left _ (argTo_pos h j (by omega))) h1
def Headed (c:Int) (j:Nat) (l:List V):Prop:=∀ v∈l,v.c=c∧v.n=0∧v.ks.length=j
theorem growV_headed {c:Int} {j:Nat} {list kids:List V} (h:Headed c j list):Headed c (j+1) (growV c list kids):=fun v hv=>by
 obtain ⟨u,hu,hv⟩:=List.mem_flatMap.1 hv
 obtain ⟨k,hk,rfl⟩:=List.mem_map.1 hv
 exact ⟨rfl,rfl,by have:=(h u hu).2.2;simp [this]⟩
theorem argTo_headed (xs:List Dt) (d:Nat) (c:Int) (as':List Ty):∀ j,j≤as'.length→Headed c j (argTo xs d c as' j):=by
 intro j
 induction j with
 |zero=>intro _ v hv;rw [argTo_zero,zy1] at hv;subst hv;exact ⟨rfl,rfl,rfl⟩
 |succ j ih=>intro h;rw [argTo_succ _ _ _ _ _ (by omega)];exact growV_headed (ih (by omega))
def capN (n:Nat):Nat:=min n 401
theorem capN_le (n:Nat):capN n≤401:=Nat.min_le_right _ _
theorem capN_mul (a b:Nat):min (capN a*capN b) 401=capN (a*b):=by
 unfold capN
 rcases Nat.lt_or_ge a 401 with ha | ha
 ·rcases Nat.lt_or_ge b 401 with hb | hb
  ·rw [Nat.min_eq_left (Nat.le_of_lt ha),Nat.min_eq_left (Nat.le_of_lt hb)]
  ·rw [Nat.min_eq_left (Nat.le_of_lt ha),Nat.min_eq_right hb]
   rcases Nat.eq_zero_or_pos a with rfl | h0
   ·simp
   ·have h1:401≤a*401:=Nat.le_mul_of_pos_left _ h0
    have h2:401≤a*b:=Nat.le_trans hb (Nat.le_mul_of_pos_left _ h0)
    omega
 ·rw [Nat.min_eq_right ha]
  rcases Nat.eq_zero_or_pos b with rfl | h0
  ·simp
  ·have h1:401≤401*min b 401:=Nat.le_mul_of_pos_right _ (by omega)
   have h2:401≤a*b:=Nat.le_trans ha (Nat.le_mul_of_pos_right _ h0)
   omega
theorem capN_add (a b:Nat):min (capN a+capN b) 401=capN (a+b):=by unfold capN;omega
theorem capN_zero (a:Nat):capN a=0↔a=0:=by unfold capN;omega
theorem capN_big (a:Nat):400<capN a↔400<a:=by unfold capN;omega
def cntU (xs:List Dt) (d:Nat) (t:Ty):Nat:=capN (valsL xs d t).length
def cntArg (xs:List Dt) (d:Nat) (as':List Ty) (j:Nat):Nat:=capN (argTo xs d 0 as' j).length
theorem argTo_len_any (xs:List Dt) (d:Nat) (c c':Int) (as':List Ty):∀ j,j≤as'.length→(argTo xs d c as' j).length=(argTo xs d c' as' j).length:=by
 intro j
 induction j with
 |zero=>intro _;rfl
 |succ j ih=>intro h;rw [zAU _ _ _ _ _ (by omega),zAU _ _ _ _ _ (by omega),ih (by omega)]
theorem cntArg_zero (xs:List Dt) (d:Nat) (as':List Ty):cntArg xs d as' 0=1:=rfl
theorem cntArg_succ (xs:List Dt) (d:Nat) (as':List Ty) (j:Nat) (h:j<as'.length):cntArg xs d as' (j+1)=min (cntArg xs d as' j*cntU xs d as'[j]) 401:=by
 unfold cntArg cntU
 rw [capN_mul,zAU _ _ _ _ _ h]
theorem cntArg_le (xs:List Dt) (d:Nat) (as':List Ty) (j:Nat):cntArg xs d as' j≤401:=capN_le _
def cntTo (xs:List Dt) (d:Nat) (t:Ty) (i:Nat):Nat:=capN (valsTo xs d t i).length
theorem cntTo_zero (xs:List Dt) (d:Nat) (t:Ty):cntTo xs d t 0=0:=rfl
theorem cntTo_succ (xs:List Dt) (d:Nat) (t:Ty) (i:Nat) (h:i<(ctorsL xs t).length) {j:Nat} (hj:(argsOf xs t (ctorsL xs t)[i]).length=j):cntTo xs d t (i+1)=min (cntTo xs d t i+cntArg xs d (argsOf xs t (ctorsL xs t)[i]) j) 401:=by
 unfold cntTo cntArg
 rw [capN_add,valsTo_succ _ _ _ _ h,List.length_append,argTo_len_any xs d 0 (ctorsL xs t)[i] _ j (by omega),argTo_all xs d t _ (by omega)]
theorem cntTo_all {xs:List Dt} {d:Nat} {t:Ty} (h:¬t.d = -1) {i:Nat} (hi:(ctorsL xs t).length≤i):cntTo xs d t i=cntU xs (d+1) t:=by unfold cntTo cntU;rw [valsTo_all h hi]
theorem cntTo_le (xs:List Dt) (d:Nat) (t:Ty) (i:Nat):cntTo xs d t i≤401:=capN_le _
theorem cntU_int {xs:List Dt} {d:Nat} {t:Ty} (h:t.d = -1):cntU xs (d+1) t=10:=by unfold cntU;rw [valsL_int h,numsL_len];rfl
theorem cntU_le (xs:List Dt) (d:Nat) (t:Ty):cntU xs d t≤401:=capN_le _
theorem cntU_none (xs:List Dt) (d:Nat) (t:Ty):((cntU xs d t:Int)==0)=((valsL xs d t).length==0):=by
 rw [Bool.eq_iff_iff,beq_iff_eq,beq_iff_eq]
 have:=capN_zero (valsL xs d t).length
 unfold cntU
 omega
theorem cntU_big (xs:List Dt) (d:Nat) (t:Ty):400<cntU xs d t↔400<(valsL xs d t).length:=capN_big _
def cutV {α:Type} (l:List α):List α:=l.take 401
def pairK (o:List V) (l:List V):List (List V):=l.map fun k=>o ++ [k]
def pairL (A:List (List V)) (l:List V):List (List V):=A.flatMap fun o=>pairK o l
def pairAll (ls:List (List V)):List (List V):=ls.foldl pairL [[]]
def headV (c:Int) (ks:List V):V:=⟨c,0,ks⟩
theorem growV_pair (c:Int) (A:List (List V)) (l:List V):growV c (A.map (headV c)) l=(pairL A l).map (headV c):=by
 unfold growV pairL
 rw [List.map_flatMap,List.flatMap_map]
 congr 1
 funext o
 unfold growK pairK headV
 rw [List.map_map]
 rfl
theorem growAll_pairs (c:Int) (ls:List (List V)):growAll c ls=(pairAll ls).map (headV c):=by
 have h:∀ (ls:List (List V)) (A:List (List V)),ls.foldl (growV c) (A.map (headV c))=(ls.foldl pairL A).map (headV c):=by
  intro ls
  induction ls with
  |nil=>intro A;rfl
  |cons l ls ih=>intro A;rw [List.foldl_cons,List.foldl_cons,growV_pair,ih]
 exact h ls [[]]
mutual
def V.depth:V→Nat
 |⟨_,_,ks⟩=>V.depths ks+1
def V.depths:List V→Nat
 |[]=>0
 |k :: ks=>max (V.depth k) (V.depths ks)
end
def lessI (a b:Int):Int:=if a<b then -1 else if b<a then 1 else 0
mutual
def V.cmp:V→V→Int
 |⟨c,n,ks⟩,⟨c',n',ks'⟩=>if c=c' then (if n=n' then V.cmps ks ks' else lessI n n') else lessI c c'
def V.cmps:List V→List V→Int
 |[],[]=>0
 |[],_ :: _ => -1
 |_ :: _,[]=>1
 |x :: xs,y :: ys=>if V.cmp x y=0 then V.cmps xs ys else V.cmp x y
end
def InAll:List V→List (List V)→Prop
 |[],[]=>True
 |k :: ks,l :: ls=>k∈l∧InAll ks ls
 |_,_=>False
theorem mem_pairFold:∀ (ls:List (List V)) (A:List (List V)) (ks:List V),ks∈ls.foldl pairL A↔∃ o∈A,∃ m,ks=o ++ m∧InAll m ls
 |[],A,ks=>by
  rw [List.foldl_nil]
  constructor
  ·intro h;exact ⟨ks,h,[],by simp,trivial⟩
  ·rintro ⟨o,ho,m,rfl,hm⟩
   cases m with
   |nil=>simpa using ho
   |cons k m=>exact hm.elim
 |l :: ls,A,ks=>by
  rw [List.foldl_cons,mem_pairFold ls]
  constructor
  ·rintro ⟨o',ho',m,rfl,hm⟩
   obtain ⟨o,ho,h⟩:=List.mem_flatMap.1 ho'
   obtain ⟨k,hk,rfl⟩:=List.mem_map.1 h
   exact ⟨o,ho,k :: m,by simp,hk,hm⟩
  ·rintro ⟨o,ho,m,rfl,hm⟩
   cases m with
   |nil=>exact hm.elim
   |cons k m=>exact ⟨o ++ [k],List.mem_flatMap.2 ⟨o,ho,List.mem_map.2 ⟨k,hm.1,rfl⟩⟩,m,by simp,hm.2⟩
theorem mem_pairAll (ls:List (List V)) (ks:List V):ks∈pairAll ls↔InAll ks ls:=by
 unfold pairAll
 rw [mem_pairFold]
 constructor
 ·rintro ⟨o,ho,m,rfl,hm⟩
  rw [zy1] at ho
  subst ho
  exact hm
 ·intro h;exact ⟨[],by simp,ks,rfl,h⟩
theorem inAll_fits {xs:List Dt} {d:Nat} (ih:∀ t v,v∈valsL xs d t↔fitsV xs d t v=true):∀ (as':List Ty) (ks:List V),InAll ks (as'.map (valsL xs d))↔(ks.length=as'.length∧zipAll (fitsV xs d) as' ks=true)
 |[],[]=>by simp [InAll,zipAll]
 |[],k :: ks=>by simp [InAll]
 |a :: as',[]=>by simp [InAll]
 |a :: as',k :: ks=>by
  simp only [List.map_cons,InAll,List.length_cons,zipAll,Bool.and_eq_true,inAll_fits ih as' ks,ih a k]
  constructor
  ·rintro ⟨h1,h2,h3⟩;exact ⟨by omega,h1,h3⟩
  ·rintro ⟨h1,h2,h3⟩;exact ⟨h2,by omega,h3⟩
theorem mem_nums (v:V):v∈numsL 10↔isNum v=true:=by
 unfold numsL isNum
 rw [List.mem_map,Bool.and_eq_true,Bool.and_eq_true,zA8,beq_iff_eq,decide_eq_true_iff]
 obtain ⟨c,n,ks⟩:=v
 simp only [numV]
 constructor
 ·rintro ⟨k,hk,e⟩
  injection e with e1 e2 e3
  have hk:k<10:=by simpa using hk
  subst e1 e2 e3
  exact ⟨rfl,by omega,rfl⟩
 ·rintro ⟨rfl,h,h3⟩
  obtain rfl:=List.length_eq_zero_iff.1 h3
  exact ⟨n.toNat,by simp;omega,by congr;omega⟩
theorem mem_vals (xs:List Dt):∀ (d:Nat) (t:Ty) (v:V),v∈valsL xs d t↔fitsV xs d t v=true
 |0,t,v=>by rw [valsL,fitsV];simp
 |d+1,t,v=>by
  by_cases h:t.d = -1
  ·rw [valsL_int h,zB9 h];exact mem_nums v
  ·rw [valsL,if_neg h,zB1 h,List.mem_flatMap,Bool.and_eq_true,Bool.and_eq_true,Bool.and_eq_true,hasB_iff,beq_iff_eq,decide_eq_true_iff,←inAll_fits (mem_vals xs d)]
   constructor
   ·rintro ⟨c,hc,hv⟩
    rw [growAll_pairs,List.mem_map] at hv
    obtain ⟨ks,hk,rfl⟩:=hv
    rw [mem_pairAll] at hk
    exact ⟨rfl,hc,hk⟩
   ·rintro ⟨h1,h2,h3⟩
    refine ⟨v.c,h2,?_⟩
    rw [growAll_pairs,List.mem_map]
    refine ⟨v.ks,(mem_pairAll _ _).2 h3,?_⟩
    obtain ⟨c,n,ks⟩:=v
    simp only at h1
    subst h1
    rfl
theorem zipAll_of {f g:Ty→V→Bool}:∀ {ls:List Ty} {ks:List V},(∀ a∈ls,∀ k∈ks,f a k=true→g a k=true)→zipAll f ls ks=true→zipAll g ls ks=true
 |[],ks,_,_=>by cases ks <;> rfl
 |a :: ls,[],_,_=>rfl
 |a :: ls,k :: ks,h,hz=>by
  rw [zipAll,Bool.and_eq_true] at hz ⊢
  exact ⟨h a (by simp) k (by simp) hz.1,zipAll_of (fun a ha k hk=>h a (by simp [ha]) k (by simp [hk])) hz.2⟩
theorem depths_mem {l:List V} {k:V} (h:k∈l):k.depth≤V.depths l:=by
 induction l with
 |nil=>cases h
 |cons a l ih =>
  simp only [V.depths]
  rcases List.mem_cons.1 h with rfl | h
  ·omega
  ·have:=ih h;omega
theorem depth_ks (v:V):v.depth=V.depths v.ks+1:=by obtain ⟨c,n,ks⟩:=v;rfl
theorem fitsV_at (xs:List Dt):∀ (d:Nat) (t:Ty) (v:V),fitsV xs d t v=true→∀ e,v.depth≤e→fitsV xs e t v=true
 |0,t,v,h,e,_=>by rw [fitsV] at h;cases h
 |d+1,t,v,h,e,he=>by
  rw [depth_ks] at he
  obtain ⟨e,rfl⟩:∃ k,e=k+1:=⟨e-1,by omega⟩
  by_cases ht:t.d = -1
  ·rw [zB9 ht] at h ⊢;exact h
  ·rw [zB1 ht] at h ⊢
   simp only [Bool.and_eq_true] at h ⊢
   obtain ⟨h1,h2,h3,h4⟩:=h
   refine ⟨h1,h2,h3,zipAll_of (fun a ha k hk hf=>fitsV_at xs d a k hf e ?_) h4⟩
   have:=depths_mem hk
   omega
theorem depths_le {l:List V} {d:Nat} (h:∀ k∈l,k.depth≤d):V.depths l≤d:=by
 induction l with
 |nil=>simp [V.depths]
 |cons a l ih =>
  simp only [V.depths]
  have h1:=h a (by simp)
  have h2:=ih fun k hk=>h k (by simp [hk])
  omega
theorem zipAll_each {f:Ty→V→Bool} {p:V→Prop}:∀ {ls:List Ty} {ks:List V},ks.length=ls.length→(∀ a∈ls,∀ k,f a k=true→p k)→zipAll f ls ks=true→∀ k∈ks,p k
 |_,[],_,_,_=>fun k hk=>by cases hk
 |[],k :: ks,h,_,_=>by simp at h
 |a :: ls,k :: ks,hl,h,hz=>fun k' hk'=>by
  rw [zipAll,Bool.and_eq_true] at hz
  rcases List.mem_cons.1 hk' with rfl | hk'
  ·exact h a (by simp) _ hz.1
  ·exact zipAll_each (by simpa using hl) (fun a ha=>h a (by simp [ha])) hz.2 k' hk'
theorem fits_depth (xs:List Dt):∀ (d:Nat) (t:Ty) (v:V),fitsV xs d t v=true→v.depth≤d
 |0,t,v,h=>by rw [fitsV] at h;cases h
 |d+1,t,v,h=>by
  rw [depth_ks]
  by_cases ht:t.d = -1
  ·rw [zB9 ht] at h
   unfold isNum at h
   simp only [Bool.and_eq_true,decide_eq_true_iff] at h
   rw [List.length_eq_zero_iff.1 h.2.2]
   simp [V.depths]
  ·rw [zB1 ht] at h
   simp only [Bool.and_eq_true,decide_eq_true_iff] at h
   obtain ⟨h1,h2,h3,h4⟩:=h
   have:=depths_le (zipAll_each (p:=fun k=>k.depth≤d) h3 (fun a _ k hk=>fits_depth xs d a k hk) h4)
   omega
def nodesTo:Nat→Nat
 |0=>0
 |d+1=>1+3*nodesTo d
theorem sizes_le {b:Nat}:∀ {l:List V},(∀ k∈l,nodes k≤b)→V.sizes l≤l.length*b
 |[],_=>by simp [V.sizes]
 |k :: l,h=>by
  have h1:=h k (by simp)
  have h2:=sizes_le fun x hx=>h x (List.mem_cons_of_mem _ hx)
  simp only [V.sizes,List.length_cons,Nat.succ_mul]
  unfold nodes at h1
  omega
theorem fits_nodes {xs:List Dt} (hw:WorldOK xs):∀ (d:Nat) (t:Ty) (_:TyIn xs.length t) (v:V),fitsV xs d t v=true→nodes v≤nodesTo d
 |0,t,_,v,h=>by rw [fitsV] at h;cases h
 |d+1,t,ht',v,h=>by
  rw [zAI,nodesTo]
  by_cases ht:t.d = -1
  ·rw [zB9 ht] at h
   unfold isNum at h
   simp only [Bool.and_eq_true,decide_eq_true_iff] at h
   rw [List.length_eq_zero_iff.1 h.2.2]
   simp [V.sizes]
  ·rw [zB1 ht] at h
   simp only [Bool.and_eq_true,decide_eq_true_iff] at h
   obtain ⟨h1,h2,h3,h4⟩:=h
   rw [hasB_iff] at h2
   have h5:=sizes_le (zipAll_each (p:=fun k=>nodes k≤nodesTo d) h3 (fun a ha k hk=>fits_nodes hw d a (zB8 hw ht' h2 ha) k hk) h4)
   have h6:=argsOf_len3 hw ht' h2
   have h7:v.ks.length*nodesTo d≤3*nodesTo d:=Nat.mul_le_mul_right _ (by omega)
   omega
theorem vals_ok {xs:List Dt} (hw:WorldOK xs) {d:Nat} (hd:d≤4) {t:Ty} (ht:TyIn xs.length t) {v:V} (h:v∈valsL xs d t):valueOkB xs t v=true:=by
 have h1:=(mem_vals xs d t v).1 h
 have h2:=fits_depth xs d t v h1
 have h3:=fitsV_at xs d t v h1 4 (by omega)
 have h4:=fits_nodes hw 4 t ht v h3
 unfold valueOkB
 rw [fitsV_at xs d t v h1 10 (by omega),Bool.true_and,decide_eq_true_iff]
 have:nodesTo 4=40:=rfl
 omega
theorem vals_small {xs:List Dt} (hw:WorldOK xs) {d:Nat} (hd:d≤4) {t:Ty} (ht:TyIn xs.length t) {v:V} (h:v∈valsL xs d t):nodes v≤60∧v.depth≤d:=by
 have h1:=(mem_vals xs d t v).1 h
 have h2:=fits_depth xs d t v h1
 have h3:=fitsV_at xs d t v h1 4 (by omega)
 have h4:=fits_nodes hw 4 t ht v h3
 have:nodesTo 4=40:=rfl
 exact ⟨by omega,h2⟩
def Asc (l:List V):Prop:=l.Pairwise fun a b=>V.cmp a b = -1
def uptoB (xs:List Dt) (t:Ty) (dp:Int):Bool:=typeValidB xs t && (withinB dp 0 4 && decide ((valsL xs dp.toNat t).length≤400))
def uptoV (xs:List Dt) (t:Ty) (dp:Int):List V:=if uptoB xs t dp=true then valsL xs dp.toNat t else []
theorem uptoV_no {xs:List Dt} {t:Ty} {dp:Int} (h:uptoB xs t dp=false):uptoV xs t dp=[]:=if_neg (by simp [h])
theorem uptoV_yes {xs:List Dt} {t:Ty} {dp:Int} (h:uptoB xs t dp=true):uptoV xs t dp=valsL xs dp.toNat t:=if_pos h
theorem upto_split {xs:List Dt} {t:Ty} {dp:Int} (h:uptoB xs t dp=true):WorldOK xs∧TyIn xs.length t∧(∃ n:Nat,dp=(n:Int)∧n≤4)∧(valsL xs dp.toNat t).length≤400:=by
 unfold uptoB at h
 simp only [Bool.and_eq_true,decide_eq_true_iff,zA8] at h
 obtain ⟨h1,h2,h3⟩:=h
 obtain ⟨hw,ht⟩:=zAL h1
 exact ⟨hw,zAO ht,⟨dp.toNat,by omega,by omega⟩,h3⟩
def MadeVals2 (vs:List V) (b:Bool) (w:World) (e:Ending) (w':World):Prop:=∃ v F,e=.returned (.tuple #[v,.bool b])∧Below w w w'∧Arr w' (VR w') vs v F∧Free w' F∧Fresh w w' F
theorem min_mul (a b:Nat):(if (401:Int)<(a:Int)*(b:Int) then (401:Int) else (a:Int)*(b:Int))=((min (a*b) 401:Nat):Int):=by
 rw [←Int.natCast_mul]
 split <;> omega
theorem min_add (a b:Nat):(if (401:Int)<(a:Int)+(b:Int) then (401:Int) else (a:Int)+(b:Int))=((min (a+b) 401:Nat):Int):=by split <;> omega
set_option maxHeartbeats 6400000 in
theorem impl_countValues:∀ (d:Nat),∀ (xs:List Dt) (_:WorldOK xs) (t:Ty) (_:TyIn xs.length t) (_:d≤10) (w:World) (x:Value) (F:List Nat),Arr w (DtR w) xs x F→Under w F →
  Calls Tryz.prog 68 #[x,.agg #[t.d,t.i],.int .i64 ((d:Nat):Int)] w fun e w'=>e=.returned (.int .i64 (cntU xs d t:Nat))∧Below w w w':=by
 intro d
 induction d with
 |zero =>
  intro xs hw t ht hd w x F hx hf
  clear hw ht hd hx hf
  go_enter Tryz.func68,Tryz.ntmps68
  go_wp2
  go_ret
  exact ⟨rfl,(zy2 _ _).alloc (zz8 _) _⟩
 |succ d ih =>
  intro xs hw t ht hd w x F hx hf
  have IH:=jj ih
  obtain ⟨A,cap,rfl,hc1,hc2⟩:=hx.form
  have hde:((d+1:Nat):Int)=(d:Int)+1:=by omega
  have e0:(((d:Int)+1)==0)=false:=by rw [beq_eq_false_iff_ne];omega
  rw [hde]
  clear ih hde
  rcases id ht with hti | ⟨q,r,rfl,hql,hrl⟩
  ·have t0:(t.d == -1)=true:=by simp [hti]
   have HP:=jj (cntU_int (xs:=xs) (d:=d) hti)
   clear hw ht hti hx hf hd
   go_enter Tryz.func68,Tryz.ntmps68
   go_wp2
   go_ret
   exact ⟨by rw [HP.out];rfl,(zy2 _ _).alloc (zz8 _) _⟩
  ·have t0:((q:Int) == -1)=false:=by rw [beq_eq_false_iff_ne];omega
   have hdn:¬(⟨(q:Int),(r:Int)⟩:Ty).d = -1:=by simp only;omega
   have hw1:IntKind.i64.wrap ((d:Int)+1-1)=(d:Int):=by rw [show (d:Int)+1-1=d by omega];exact IntWalk.i64_in _ (by omega)
   have HDN:=jj hdn
   have HW:=jj hw
   have HT:=jj ht
   have HX:=jj hx
   have HF:=jj hf
   clear hx hf
   clear hw ht hdn
   go_enter Tryz.func68,Tryz.ntmps68
   go_wp2_with fail
   obtain ⟨W2,hW2⟩:∃ W2,W2=(w.alloc (.cells #[(q:Int),(r:Int)] 25)):=⟨_,rfl⟩
   have hB0:Below w w W2:=by rw [hW2];exact (zy2 _ _).alloc (zz8 _) _
   have KT:Hid (Blk W2 w 25 #[(q:Int),(r:Int)]):=by rw [hW2];exact Blk.new w _ _
   rw [←hW2]
   clear hW2
   obtain ⟨y0,y1,ylt⟩:=KT.out.c2
   go_wp2_with fail
   refine (impl_ctorsOf xs (⟨(q:Int),(r:Int)⟩:Ty) W2 _ F (ArrDt.below HX.out hB0 HF.out) (HF.out.mono hB0.size) HW.out HT.out.inWorld).mono ?_
   rintro e w3 ⟨v3,F3,rfl,hb3,ha3,-,hfs3⟩
   have hB3:=hB0.trans (hb3.mono hB0.size)
   have KT3:=jj (KT.out.same (hb3.block _ KT.out.lt))
   have HA3:=jj ha3
   have HU3:=jj hfs3.under
   obtain ⟨C3,cap3,rfl,hl1,hl2⟩:=ha3.form
   clear ha3 hfs3 hb3 KT y0 y1 ylt hB0
   go_wp2
   go_loopw [7,22] (fun sv iv wr=>∃ i:Nat,i≤(ctorsL xs (⟨(q:Int),(r:Int)⟩:Ty)).length∧iv=.int .i64 i∧sv=.int .i64 (cntTo xs d (⟨(q:Int),(r:Int)⟩:Ty) i:Nat)∧Hid (Below w3 w3 wr)) (fun _ iv _=>(ctorsL xs (⟨(q:Int),(r:Int)⟩:Ty)).length-(intOf iv).toNat)
   case atStart=>exact ⟨0,Nat.zero_le _,rfl,by rw [cntTo_zero];rfl,zy2 _ _⟩
   case round =>
    obtain ⟨i,hi,rfl,rfl,HBI⟩:=hrel
    obtain ⟨wo,hwo⟩:∃ wo,wo=wr:=⟨_,rfl⟩
    rw [←hwo] at HBI ⊢
    clear hwo
    have hB:=hB3.trans (HBI.out.mono hB3.size)
    have KTo:=jj (KT3.out.same (HBI.out.block _ KT3.out.lt))
    obtain ⟨y0,y1,ylt⟩:=KTo.out.c2
    have hs401:=cntTo_le xs d (⟨(q:Int),(r:Int)⟩:Ty) i
    by_cases hil:i<(ctorsL xs (⟨(q:Int),(r:Int)⟩:Ty)).length
    ·have g1:(0:Int)≤(i:Int):=by omega
     have g2:(i:Int)<((ctorsL xs (⟨(q:Int),(r:Int)⟩:Ty)).length:Int):=by omega
     obtain ⟨b3,off3,rfl⟩:=HA3.out.ptr (by omega)
     obtain ⟨hb3l,c3⟩:=ArrNat.at HA3.out HU3.out HBI.out i hil
     obtain ⟨q',m,e1,hkm,hq',hm⟩:=zAT HT.out.inWorld (List.getElem_mem hil)
     obtain rfl:q=q':=Int.ofNat.inj e1
     have hme:(ctorsL xs (⟨(q:Int),(r:Int)⟩:Ty))[i]∈(ctorsL xs (⟨(q:Int),(r:Int)⟩:Ty)):=List.getElem_mem hil
     rw [hkm] at c3 hme
     have hals:=zAF (i:=(r:Int)) hql hm
     have hca:=(HW.out.ctor hql hm).args
     have HST:Hid (∀ j,(argsL xs[q].ctors[m] (r:Int)).length=j→cntTo xs d (⟨(q:Int),(r:Int)⟩:Ty) (i+1)=min (cntTo xs d (⟨(q:Int),(r:Int)⟩:Ty) i+cntArg xs d (argsL xs[q].ctors[m] (r:Int)) j) 401):=fun j hj=>by
      have h:=cntTo_succ xs d (⟨(q:Int),(r:Int)⟩:Ty) i hil (j:=j) (by rw [hkm,hals];exact hj)
      rw [hkm,hals] at h
      exact h
     have HTI:Hid (∀ a∈argsL xs[q].ctors[m] (r:Int),TyIn xs.length a):=fun a ha=>zB8 HW.out HT.out hme (by rw [hals];exact ha)
     clear hkm e1 hme hals
     go_wp2_with fail
     refine (impl_argTypes xs q m (r:Int) hql hm wo _ F (ArrDt.below HX.out hB HF.out) (HF.out.mono hB.size) hca).mono ?_
     rintro e w6 ⟨v6,F6,rfl,hb6,ha6,-,hfs6⟩
     have HB36:Hid (Below w3 w3 w6):=HBI.out.trans (hb6.mono HBI.out.size)
     have hB6:=hB.trans (hb6.mono hB.size)
     generalize hass:argsL xs[q].ctors[m] (r:Int)=ls at *
     clear hass hca
     obtain ⟨A6,cap6,rfl,hd3,hd4⟩:=ha6.form
     have HA6:=jj ha6
     have HU6:=jj hfs6.under
     clear ha6 hfs6 hb6 KTo y0 y1 ylt c3 hb3l HBI hB
     go_wp2
     go_loopw [10,31] (fun nv jv wr=>∃ j:Nat,j≤ls.length∧jv=.int .i64 j∧nv=.int .i64 (cntArg xs d ls j:Nat)∧Below w6 w6 wr) (fun _ jv _=>ls.length-(intOf jv).toNat)
     case atStart=>exact ⟨0,Nat.zero_le _,rfl,by rw [cntArg_zero];rfl,zy2 _ _⟩
     case round =>
      obtain ⟨j,hj,rfl,rfl,hBr⟩:=hrel
      have hn401:=cntArg_le xs d ls j
      have hBw:=hB6.trans (hBr.mono hB6.size)
      by_cases hjl:j<ls.length
      ·have g3:(0:Int)≤(j:Int):=by omega
       have g4:(j:Int)<(ls.length:Int):=by omega
       obtain ⟨b6,off6,rfl⟩:=HA6.out.ptr (by omega)
       obtain ⟨hb6l,a0,a1⟩:=ArrTy.at HA6.out HU6.out hBr j hjl
       have hcs:=cntArg_succ xs d ls j hjl
       have hc401:=cntU_le xs d ls[j]
       have HTJ:=jj (HTI.out ls[j] (List.getElem_mem hjl))
       have hBx:Below w6 w6 (wr.alloc (.cells #[ls[j].d,ls[j].i] 25)):=hBr.alloc hBr.size _
       have hBz:Below w w (wr.alloc (.cells #[ls[j].d,ls[j].i] 25)):=hB6.trans (hBx.mono hB6.size)
       go_wp2_with fail
       refine (IH.out xs HW.out ls[j] HTJ.out (by omega) _ _ F (ArrDt.below HX.out hBz HF.out) (HF.out.mono hBz.size)).mono ?_
       rintro e w8 ⟨rfl,hb8⟩
       have hB8:Below w6 w6 w8:=hBx.trans (hb8.mono hBx.size)
       have HCS:=jj hcs
       generalize cntU xs d ls[j]=cv at *
       generalize cntArg xs d ls j=nv at *
       have hmul:nv*cv≤401*401:=Nat.mul_le_mul hn401 hc401
       have hw2:IntKind.i64.wrap ((nv:Int)*(cv:Int))=((nv*cv:Nat):Int):=by rw [←Int.natCast_mul];exact IntWalk.i64_in _ (by omega)
       clear hcs hb8 hBx hBz a0 a1 hb6l
       go_wp2
       go_roundw
       case rel=>exact ⟨j+1,hjl,by go_num,by rw [HCS.out];first | (rw [←min_mul];done) | (congr 1;rw [←Int.natCast_mul];omega),hB8⟩
       case measure=>(simp [intOf] <;> omega)
      ·have hjd:ls.length=j:=by omega
       have hst:=HST.out j hjd
       have HST2:=jj hst
       have hBI2:Hid (Below w3 w3 wr):=HB36.out.trans (hBr.mono HB36.out.size)
       clear hst
       generalize cntTo xs d (⟨(q:Int),(r:Int)⟩:Ty) i=sv at *
       generalize cntArg xs d ls j=nv at *
       go_wp2
       go_roundw
       case rel=>exact ⟨i+1,hil,by go_num,by rw [HST2.out];first | (rw [←min_add];done) | (congr 1;omega),hBI2⟩
       case measure=>(simp [intOf] <;> omega)
    ·have HALL:=jj (cntTo_all (xs:=xs) (d:=d) HDN.out (i:=i) (Nat.le_of_not_lt hil))
     go_wp2
     go_ret
     exact ⟨zAV (congrArg Int.ofNat HALL.out),hB⟩
theorem values_closure (xs:List Dt) (hw:WorldOK xs) (d:Nat) (hd:d+1≤10) (a:Ty) (ha:TyIn xs.length a) (A:Option Addr) (cap:Nat) (g1 g2:Nat) (w:World) (F:List Nat) (hx:Arr w (DtR w) xs (.slice A xs.length cap) F) (hf:Under w F) (hg1:w.cell? ⟨g1,0,none⟩=some (.slice A xs.length cap)) (hl1:g1<w.heap.size) (hg2:w.cell? ⟨g2,0,none⟩=some (.int .i64 ((d:Int)+1))) (hl2:g2<w.heap.size) :
  Calls Tryz.prog 118 #[.agg #[a.d,a.i],.pointer (some ⟨g1,0,none⟩),.pointer (some ⟨g2,0,none⟩)] w fun e w'=>e=.returned (.bool ((valsL xs d a).length==0))∧Below w w w':=by
 have HN:=jj (cntU_none xs d a)
 have HX:=jj hx
 have HF:=jj hf
 clear hx hf
 go_enter Tryz.func118,Tryz.ntmps118
 go_wp2_with fail
 obtain ⟨W2,hW2⟩:∃ W2,W2=(w.alloc (.cells #[a.d,a.i] 25)):=⟨_,rfl⟩
 have hB:Below w w W2:=by rw [hW2];exact (zy2 _ _).alloc (zz8 _) _
 have KP:Blk W2 w 25 #[a.d,a.i]:=by rw [hW2];exact Blk.new _ _ _
 obtain ⟨z0,z1,klt⟩:=KP.c2
 have y0:W2.cell? ⟨g1,0,none⟩=some (.slice A xs.length cap):=(hB.cell (p:=⟨g1,0,none⟩) hl1).trans hg1
 have y1:W2.cell? ⟨g2,0,none⟩=some (.int .i64 ((d:Int)+1)):=(hB.cell (p:=⟨g2,0,none⟩) hl2).trans hg2
 have l1:=zz9 hl1 hB.size
 have l2:=zz9 hl2 hB.size
 rw [←hW2]
 clear hW2 KP hg1 hg2 hl1 hl2
 go_wp2_with fail
 refine (impl_countValues d xs hw a ha (by omega) W2 _ F (ArrDt.below HX.out hB HF.out) (HF.out.mono hB.size)).mono ?_
 rintro e w' ⟨rfl,hB'⟩
 have hB3:=hB.trans (hB'.mono hB.size)
 generalize hbb:((cntU xs d a:Nat):Int)=bb
 rw [hbb] at HN
 clear hbb hB' y0 y1 z0 z1 l1 l2 klt
 go_wp2
 go_ret
 exact ⟨zA0 HN.out,hB3⟩
theorem IndexFunc_Ty2 (xs:List Dt) (hw:WorldOK xs) (d:Nat) (hd:d+1≤10) (A:Option Addr) (cap:Nat) (g1 g2:Nat) (l:List Ty) (hl:∀ a∈l,TyIn xs.length a) (r:Int) (hr:FirstAt (fun a=>(valsL xs d a).length==0) l r) (w:World) (y:Value) (F G:List Nat) (hx:Arr w (DtR w) xs (.slice A xs.length cap) F) (hf:Under w F) (hy:Arr w (TyR w) l y G) (hh:Under w G) (hg1:w.cell? ⟨g1,0,none⟩=some (.slice A xs.length cap)) (hl1:g1<w.heap.size) (hg2:w.cell? ⟨g2,0,none⟩=some (.int .i64 ((d:Int)+1))) (hl2:g2<w.heap.size) :
  Calls Tryz.prog 150 #[y,.func (.func 118) #[] #[.pointer (some ⟨g1,0,none⟩),.pointer (some ⟨g2,0,none⟩)]] w fun e w'=>e=.returned (.int .i64 r)∧Below w w w':=by
 obtain ⟨B,bap,rfl,hc1,hc2⟩:=hy.form
 have HLL:=jj hl
 have HX:=jj hx
 have HF:=jj hf
 have HR:=jj hr
 have HY:=jj hy
 have HH:=jj hh
 have HG1:=jj hg1
 have HG2:=jj hg2
 clear hx hf hr hy hh hg1 hg2
 clear hl
 go_enter Tryz.func150,Tryz.ntmps150
 go_wp2
 go_loopw [8] (fun iv wr=>∃ i:Nat,i≤l.length∧iv=.int .i64 i∧Hid (∀ j (hj:j<l.length),j<i→((valsL xs d l[j]).length==0)=false)∧Below w w wr) (fun iv _=>l.length-(intOf iv).toNat)
 case atStart=>exact ⟨0,Nat.zero_le _,rfl,fun j hj h=>by omega,zy2 _ _⟩
 case round =>
  obtain ⟨i,hk,rfl,HT,hB⟩:=hrel
  by_cases hlt:i<l.length
  ·have hi0:(0:Int)≤(i:Int):=by omega
   have hi1:(i:Int)<(l.length:Int):=by omega
   obtain ⟨b,off,rfl⟩:=HY.out.ptr (by omega)
   obtain ⟨hb,c0,c1⟩:=ArrTy.at HY.out HH.out hB i hlt
   go_wp2_with fail
   refine (values_closure xs hw d hd l[i] (HLL.out _ (List.getElem_mem hlt)) A cap g1 g2 wr F (ArrDt.below HX.out hB HF.out) (HF.out.mono hB.size) ((hB.cell (p:=⟨g1,0,none⟩) hl1).trans HG1.out) (zz9 hl1 hB.size) ((hB.cell (p:=⟨g2,0,none⟩) hl2).trans HG2.out) (zz9 hl2 hB.size)).mono ?_
   rintro e w' ⟨rfl,hB'⟩
   have hB3:=hB.trans (hB'.mono hB.size)
   cases hq:((valsL xs d l[i]).length==0) with
   |true =>
    have hf:Hid (r=(i:Int)):=HR.out.hit hlt hq (fun j hj h=>HT.out j hj h)
    clear hq c0 c1
    go_wp2
    go_ret
    exact ⟨zAV hf.out.symm,hB3⟩
   |false =>
    have hT2:Hid (∀ j (hj:j<l.length),j<i+1→((valsL xs d l[j]).length==0)=false):=fun j hj h=>by
     rcases Nat.lt_or_ge j i with h2 | h2
     ·exact HT.out j hj h2
     ·obtain rfl:j=i:=by omega
      exact hq
    clear hq c0 c1
    go_wp2
    go_roundw
    case rel=>exact ⟨i+1,by omega,by go_num,hT2,hB3⟩
    case measure=>simp [intOf];omega
  ·have hf:Hid (r = -1):=HR.out.miss (fun j hj=>HT.out j hj (by omega))
   go_wp2
   go_ret
   exact ⟨zAV hf.out.symm,hB⟩
theorem ContainsFunc_Ty2 (xs:List Dt) (hw:WorldOK xs) (d:Nat) (hd:d+1≤10) (A:Option Addr) (cap:Nat) (g1 g2:Nat) (l:List Ty) (hl:∀ a∈l,TyIn xs.length a) (w:World) (y:Value) (F G:List Nat) (hx:Arr w (DtR w) xs (.slice A xs.length cap) F) (hf:Under w F) (hy:Arr w (TyR w) l y G) (hh:Under w G) (hg1:w.cell? ⟨g1,0,none⟩=some (.slice A xs.length cap)) (hl1:g1<w.heap.size) (hg2:w.cell? ⟨g2,0,none⟩=some (.int .i64 ((d:Int)+1))) (hl2:g2<w.heap.size) :
  Calls Tryz.prog 104 #[y,.func (.func 118) #[] #[.pointer (some ⟨g1,0,none⟩),.pointer (some ⟨g2,0,none⟩)]] w fun e w'=>e=.returned (.bool (noneB xs d l))∧Below w w w':=by
 obtain ⟨r,hr⟩:=FirstAt.ex (fun a=>(valsL xs d a).length==0) l
 have hres:Hid (noneB xs d l=decide (0≤r)):=hr.any
 have hcall:=IndexFunc_Ty2 xs hw d hd A cap g1 g2 l hl r hr w y F G hx hf hy hh hg1 hl1 hg2 hl2
 obtain ⟨B,bap,rfl,hc1,hc2⟩:=hy.form
 have HC:=jj hcall
 clear hcall hr hx hf hy hh hg1 hg2
 go_enter Tryz.func104,Tryz.ntmps104
 go_wp2_with fail
 refine HC.out.mono ?_
 rintro e w' ⟨rfl,hB'⟩
 go_wp2
 go_ret
 exact ⟨zA0 hres.out.symm,hB'⟩
theorem VR_one (w:World) (x:V) (cs:List Value) (G:List Nat) (h:VR w x cs G):∀ u∈cs,u.oneCell'=true:=by
 obtain ⟨kv,rfl,ha⟩:=(zA6 _ _ _).1 h
 obtain ⟨A,cap,rfl,-,-⟩:=ha.form
 simp [Value.oneCell']
def ClonedV (ks:List V) (w:World) (F:List Nat) (e:Ending) (w':World):Prop:=∃ v G,e=.returned v∧Below w w w'∧Own w' w.heap.size 45 3 VR ks v G∧∀ b∈G,b∈F
theorem Clone_V (ks:List V) (hk:ks.length≤1000) (w:World) (x:Value) (F:List Nat) (hx:Arr w (VR w) ks x F) (hf:Under w F):Calls Tryz.prog 119 #[x] w (ClonedV ks w F):=by
 obtain ⟨A,cap,rfl,hc1,hc2⟩:=hx.form
 obtain ⟨i0,hi,hz0,hz1,hz2⟩:=info_parts info_VE
 have HI:=jj hi
 have HZ0:=jj hz0
 have HZ1:=jj hz1
 have HZ2:=jj hz2
 have HX:=jj hx
 have HF:=jj hf
 clear hi hz0 hz1 hz2 hx hf
 have qT:∀ (w:World) (a:Option Addr) (n c n' c':Nat),(binOp .eql 43 (.slice a n c) (.slice none n' c')).run Tryz.prog w=.ok (.bool a.isNone) w:=fun w a n c n' c'=>Lib.run_eql_slice_nil w _ _ a n c n' c' Tryz.underlying43
 cases A with
 |none =>
  have hz:ks=[]:=by
   obtain ⟨A',cap',hv,h1,h2,h3⟩:=HX.out
   cases hv
   rcases h3 with ⟨h,-⟩ | ⟨b,off,cs,G,h,-⟩
   ·exact h
   ·cases h
  subst hz
  go_enter Tryz.func119,Tryz.ntmps119
  go_wp2
  go_ret
  exact ⟨_,[],rfl,zy2 _ _,Own.nil _ _ _ _ _,fun b hb=>by cases hb⟩
 |some ad =>
  have hB0:Below w w (w.alloc (.cells #[] 45)):=(zy2 _ _).alloc (zz8 _) _
  have hO0:Own (w.alloc (.cells #[] 45)) w.heap.size 45 3 VR ([]:List V) (.slice (some ⟨w,0,none⟩) 0 0) []:=Own.made w _ _ _ _ _ 0 (zz8 _) (by simp [maxLen]) rfl
  have hX0:Arr (w.alloc (.cells #[] 45)) (VR (w.alloc (.cells #[] 45))) ks (.slice (some ad) ks.length cap) F:=ArrV.below HX.out hB0 HF.out
  obtain ⟨v',w',G,hr,ho,hG,hgr,hat⟩:=zAW (P:=Tryz.prog) 43 43 i0 _ 40 Tryz.underlying43 HI.out HZ0.out HZ1.out HZ2.out rfl (by decide) VR_len' VR_mono' VR_one hO0 hX0 (HF.out.mono hB0.size) (fun g hg hgF=>by rw [zA3,zy1] at hg;subst hg;exact Nat.lt_irrefl _ (HF.out _ hgF)) (by simp;omega) (by simp;omega) hB0.size
  rw [List.nil_append,List.nil_append] at ho
  have hB':Below w w w':=hB0.grown hgr hB0.size (fun g hg=>by
   have hg:some w.heap.size=some g:=hg
   cases hg;exact zz8 _)
  have HFin:Hid (ClonedV ks w F (.returned v') w'):=⟨v',G,rfl,hB',ho,hG⟩
  have HRUN:=jj hr
  clear hr ho hB' hgr hat hG hX0 hO0 hB0
  go_enter Tryz.func119,Tryz.ntmps119
  go_wp2_with (at_builtin;refine Halt.mk ?_)
  refine Halt.of (wpList_append_run rfl _ _ 43 rfl (by rfl) (by rfl) HRUN.out ?_)
  go_wp2
  go_ret
  exact HFin.out
theorem impl_number (n:Int) (w:World):Calls Tryz.prog 117 #[.int .i64 n] w fun e w'=>e=.returned (.agg #[.int .i64 (-1),.int .i64 n,.slice none 0 0])∧Below w w w':=by
 have KR:Hid (Blk (w.alloc (.cells #[(0:Int),(0:Int),.slice none 0 0] 45)) w.heap.size 45 #[(0:Int),(0:Int),.slice none 0 0]):=Blk.new _ _ _
 have HB:Hid (Below w w (w.alloc (.cells #[(0:Int),(0:Int),.slice none 0 0] 45))):=(zy2 _ _).alloc (zz8 _) _
 go_enter Tryz.func117,Tryz.ntmps117
 go_wp2
 first
 |refine bodyPost_ret (zA2 rfl _ _ w.heap.size 45 #[.int .i64 (-1),.int .i64 n,.slice none 0 0] (0,0) _ rfl (Blk.new _ _ _) Tryz.underlying45 rfl rfl) rfl ?_
  exact ⟨rfl,(zy2 _ _).alloc (zz8 _) _⟩
 |refine bodyPost_ret (zA2 rfl _ _ w.heap.size 45 #[.int .i64 (-1),.int .i64 n,.slice none 0 0] (0,0) _ rfl (KR.out.three _ _ _) Tryz.underlying45 rfl rfl) rfl ?_
  exact ⟨rfl,below_three HB.out (zz8 _) _ _ _⟩
def ValsP (vs:List V) (w:World) (e:Ending) (w':World):Prop:=∃ v F,e=.returned v∧Below w w w'∧Arr w' (VR w') vs v F∧Fresh w w' F
theorem Own.under_arr {w:World} {B:Nat} {E:TypeId} {vs:List V} {v:Value} {F:List Nat} (h:Own w B E 3 VR vs v F):Under w (if vs=[] then [] else rowOf v ++ F):=by
 by_cases hx:vs=[]
 ·rw [if_pos hx];exact Under.nil _
 ·rw [if_neg hx]
  intro b hb
  rcases List.mem_append.1 hb with hb | hb
  ·exact (h.row b hb).2
  ·exact h.under b hb
theorem Own.vals {w w':World} {B:Nat} {E:TypeId} {vs:List V} {v:Value} {F:List Nat} (h:Own w' B E 3 VR vs v F) (hb:Below w w w') (hB:w.heap.size≤B) (hF:∀ b∈F,w.heap.size≤b):ValsP vs w (.returned v) w':=⟨v,_,rfl,hb,h.arr,h.fresh hB hF⟩
def moreTo (pre:List V) (c:Int) (v:V) (kids:List V) (q:Nat):List V:=pre ++ growK c v (kids.take q)
theorem moreTo_zero (pre:List V) (c:Int) (v:V) (kids:List V):moreTo pre c v kids 0=pre:=by unfold moreTo growK;simp
theorem moreTo_succ (pre:List V) (c:Int) (v:V) (kids:List V) (q:Nat) (h:q<kids.length):moreTo pre c v kids (q+1)=moreTo pre c v kids q ++ [⟨c,0,v.ks ++ [kids[q]]⟩]:=by unfold moreTo;rw [growK_succ c v kids q h,List.append_assoc]
theorem moreTo_len (pre:List V) (c:Int) (v:V) (kids:List V) (q:Nat):(moreTo pre c v kids q).length≤pre.length+q:=by unfold moreTo;rw [List.length_append,growK_len,List.length_take];omega
theorem moreTo_all (pre:List V) (c:Int) (v:V) (kids:List V) {q:Nat} (h:kids.length≤q):moreTo pre c v kids q=pre ++ growK c v kids:=by unfold moreTo;rw [List.take_of_length_le h]
theorem numV_R (w:World) (k:Nat):VR w (numV k) [.int .i64 (-1),(k:Int),.slice none 0 0] []:=(zA6 _ _ _).2 ⟨_,rfl,Arr.nil⟩
theorem step_pushB {α:Type} {w:World} {B k:Nat} {E:TypeId} {R:World→α→List Value→List Nat→Prop} {xs:List α} {v:Value} {F:List Nat} {P:Program} {ops:Array Oper} {o:Oper} {a:Act} {K:Act→World→Prop} {Q:Exit→Act→World→Prop} {EE:Prop} (hgd:o.guard=none) (s x:Operand) (t:TypeId)
  (ho:o.op=.call { callee:=.builtin .append,args:=#[s,x],argTypes:=#[t,t] })
  (i:TypeInfo) (z:Value) (bytes:Nat) (ht:P.underlying t=some (.slice E)) (hi:P.info? E=some i) (hz:i.zero=some z)
  (hsize:i.size=k) (hby:i.bytes=bytes) (hzs:z.cells.size=k) (hk:0<k)
  (hRl:∀ w x cs G,R w x cs G→cs.length=k) (hRm:∀ w w' x cs G,Kept G w w'→R w x cs G→R w' x cs G)
  (hs:a.eval s=v) (hown:Own w B E k R xs v F) (y:α) (T:TypeId) (news:List Value) (G:List Nat)
  (H:Nat) (hx:a.eval x=.slice (some ⟨H,0,none⟩) 1 1) (hH:Blk w H T news.toArray) (h1:∀ u∈news,u.oneCell'=true)
  (hy:R w y news G) (hG:Under w G) (hvG:∀ g∈rowOf v,g∉G)
  (h63:xs.length+1≤maxLen) (hbytes:(xs.length+1)*bytes≤140737488355328) (hbase:B≤w.heap.size)
  (h:∀ g cap w',Own w' B E k R (xs ++ [y]) (.slice (some ⟨g,0,none⟩) (xs.length+1) cap) (F ++ G)→w.grownBy w' v.ownBlock→(v.ownBlock=some g∨g=w.heap.size) →
   K (a.put o.dst (.slice (some ⟨g,0,none⟩) (xs.length+1) cap)) w'):if Region.wanted o (yielded ops a.tmps)=true then Oper.wp P o a w K Q else EE :=
 step_push hgd s x t ho i z bytes ht hi hz hsize hby hzs hk (hRl _) (fun w'=>hRm _ w') hs hown [y] ⟨H,0,none⟩ 1 news G hx (fun j u hj=>by
   rw [Addr.add_lit,Nat.zero_add,hH.cell]
   simpa using hj) h1 (Flat.one hy) hG hvG Nat.zero_lt_one h63 hbytes hbase
  (fun g cap w' h2 h3 h4=>h g cap w' h2 h3 h4)
structure BlkF (xs:List Dt) (d:Nat) (c:Int) (ls:List Ty) (bl:List V):Prop where
 none:noneB xs d ls=true→bl=[]
 arg:noneB xs d ls=false→∀ j,(argTo xs d c ls j).length≤bl.length
 kid:noneB xs d ls=false→∀ j (h:j<ls.length),(valsL xs d ls[j]).length≤bl.length
 all:argTo xs d c ls ls.length=bl
theorem BlkF.of (xs:List Dt) (d:Nat) (t:Ty) (c:Int):BlkF xs d c (argsOf xs t c) (blockL xs d t c):=⟨blockL_none,fun h j=>argTo_le h j,fun h j hj=>kid_le h hj,argTo_all xs d t c (zz8 _)⟩
set_option maxHeartbeats 6400000 in
theorem impl_values:∀ (d:Nat),∀ (xs:List Dt) (_:WorldOK xs) (t:Ty) (_:TyIn xs.length t) (_:d≤10) (_:(valsL xs d t).length≤400) (w:World) (x:Value) (F:List Nat),Arr w (DtR w) xs x F→Under w F →
  Calls Tryz.prog 69 #[x,.agg #[t.d,t.i],.int .i64 ((d:Nat):Int)] w (ValsP (valsL xs d t) w):=by
 intro d
 induction d with
 |zero =>
  intro xs hw t ht hd hn w x F hx hf
  have hB0:Below w w (((w.alloc (.cells #[x] 23)).alloc (.cells #[t.d,t.i] 25)).alloc (.cells #[(0:Int)] 3)):=(((zy2 _ _).alloc (zz8 _) _).alloc (by simp) _).alloc (by simp;omega) _
  obtain ⟨A,cap,rfl,hc1,hc2⟩:=hx.form
  clear hw ht hd hx hf hn
  go_enter Tryz.func69,Tryz.ntmps69
  go_wp2
  go_ret
  exact ⟨_,[],rfl,hB0,Arr.nil,Fresh.nil _ _⟩
 |succ d ih =>
  intro xs hw t ht hd hn w x F hx hf
  have IH:=jj ih
  obtain ⟨A,cap,rfl,hc1,hc2⟩:=hx.form
  have hde:((d+1:Nat):Int)=(d:Int)+1:=by omega
  have e0:(((d:Int)+1)==0)=false:=by rw [beq_eq_false_iff_ne];omega
  obtain ⟨i0,hi,hz0,hz1,hz2⟩:=info_parts info_VE
  have HI:=jj hi
  have HZ0:=jj hz0
  have HZ1:=jj hz1
  have HZ2:=jj hz2
  clear hi hz0 hz1 hz2
  rw [hde]
  clear ih hde
  rcases id ht with hti | ⟨q,r,rfl,hql,hrl⟩
  ·have t0:(t.d == -1)=true:=by simp [hti]
   have HP:=jj (valsL_int (xs:=xs) (d:=d) hti)
   have hB0x:Below w w (((w.alloc (.cells #[.slice A xs.length cap] 23)).alloc (.cells #[t.d,t.i] 25)).alloc (.cells #[.int .i64 ((d:Int)+1)] 3)):=(((zy2 _ _).alloc (zz8 _) _).alloc (by simp) _).alloc (by simp;omega) _
   clear hw ht hti hx hf hd hn
   go_enter Tryz.func69,Tryz.ntmps69
   go_wp2_with fail
   obtain ⟨W2,hW2⟩:∃ W2,W2=(((w.alloc (.cells #[.slice A xs.length cap] 23)).alloc (.cells #[t.d,t.i] 25)).alloc (.cells #[.int .i64 ((d:Int)+1)] 3)):=⟨_,rfl⟩
   rw [←hW2] at hB0x ⊢
   clear hW2
   go_loopw [7,26] (fun ov iv wr=>∃ k:Nat,∃ Fo:List Nat,k≤10∧iv=.int .i64 k∧Hid (Own wr W2.heap.size 45 3 VR (numsL k) ov Fo)∧Hid (∀ b∈Fo,w.heap.size≤b)∧Below W2 W2 wr) (fun _ iv _=>10-(intOf iv).toNat)
   case atStart=>exact ⟨0,[],by omega,rfl,(show Own _ _ _ _ _ (numsL 0) _ _ from Own.nil _ _ _ _ _),(fun b hb=>by cases hb),zy2 _ _⟩
   case round =>
    obtain ⟨k,Fo,hk,rfl,HO,HFo,hB⟩:=hrel
    obtain ⟨oA,ocap,hov,-,-⟩:=HO.out.form
    subst hov
    have hkl:=numsL_len k
    have hBw:=hB0x.trans (hB.mono hB0x.size)
    have hol:(numsL k).length≤10:=by omega
    have HKL:=jj hkl
    clear hkl
    by_cases hk9:k<10
    ·have g1:(k:Int)<10:=by omega
     go_wp2_with fail
     refine (impl_number (k:Int) wr).mono ?_
     rintro e w5 ⟨rfl,hb5⟩
     have HO5:=jj (HO.out.below (fun x cs G hk h=>VR_mono' _ _ x cs G hk h) hb5)
     have hB5:=hB.trans (hb5.mono hB.size)
     have HS:=jj (numsL_succ k)
     have hbs:=hB5.size
     clear hb5
     go_wp2_with (at_builtin;refine Halt.mk ?_)
     refine Halt.of (zA5 (P:=Tryz.prog) rfl _ _ 43 rfl i0 _ 40 Tryz.underlying43 HI.out HZ0.out HZ1.out HZ2.out rfl (by decide) VR_len' VR_mono' (by rfl) HO5.out (numV k) 45 [.int .i64 (-1),(k:Int),.slice none 0 0] [] _ (by rfl) (by simp) (by simp [Value.oneCell']) (numV_R _ k) (Under.nil _) (fun _ _ h=>by cases h) (by unfold maxLen;omega) (by omega) hbs ?_)
     intro g cp w7 hown7 hgr7 hat7
     have hrow:=HO5.out.row
     have hB7:Below W2 W2 w7:=(hB5.alloc hB5.size _).grown hgr7 (by have:=hB5.size;simp;omega) (fun g hg=>(hrow g (zA1.2 hg)).1)
     have HO7:=jj hown7
     clear hown7 hgr7 hat7 hrow
     go_wp2
     go_roundw
     case rel=>exact ⟨k+1,_,by omega,by go_num,(by rw [HS.out];exact HO7.out),(fun b hb=>by rw [List.append_nil] at hb;exact HFo.out b hb),hB7⟩
     case measure=>(simp [intOf] <;> omega)
    ·have hk10:k=10:=by omega
     subst hk10
     have HFin:Hid (ValsP (valsL xs (d+1) t) w (.returned (.slice oA (numsL 10).length ocap)) wr):=by rw [HP.out];exact HO.out.vals hBw hB0x.size HFo.out
     clear HKL hol
     go_wp2
     go_ret
     exact HFin.out
  ·have t0:((q:Int) == -1)=false:=by rw [beq_eq_false_iff_ne];omega
   have hdn:¬(⟨(q:Int),(r:Int)⟩:Ty).d = -1:=by simp only;omega
   have HDN:=jj hdn
   have HW:=jj hw
   have HT:=jj ht
   have HN:=jj hn
   have HX:=jj hx
   have HF:=jj hf
   clear hx hf
   clear hw ht hdn hn
   go_enter Tryz.func69,Tryz.ntmps69
   go_wp2_with fail
   obtain ⟨W2,hW2⟩:∃ W2,W2=(((w.alloc (.cells #[.slice A xs.length cap] 23)).alloc (.cells #[(q:Int),(r:Int)] 25)).alloc (.cells #[.int .i64 ((d:Int)+1)] 3)):=⟨_,rfl⟩
   have hB0:Below w w W2:=by rw [hW2];exact (((zy2 _ _).alloc (zz8 _) _).alloc (by simp) _).alloc (by simp;omega) _
   have KX:Hid (Blk W2 w 23 #[.slice A xs.length cap]):=by rw [hW2];exact ((Blk.new w _ _).same (Below.heap_alloc _ _ _ (by simp))).same (Below.heap_alloc _ _ _ (by simp;omega))
   have KT:Hid (Blk W2 (w.heap.size+1) 25 #[(q:Int),(r:Int)]):=by rw [hW2];exact (zAG w _ 25 _).same (Below.heap_alloc _ _ _ (by simp))
   have KD:Hid (Blk W2 (w.heap.size+1+1) 3 #[.int .i64 ((d:Int)+1)]):=by
    rw [hW2]
    have h:=zAG (w.alloc (.cells #[.slice A xs.length cap] 23)) (.cells #[(q:Int),(r:Int)] 25) 3 #[.int .i64 ((d:Int)+1)]
    rw [World.size_alloc] at h
    exact h
   rw [←hW2]
   clear hW2
   have y0:W2.cell? ⟨w,0,none⟩=some (.slice A xs.length cap):=(KX.out.cell 0).trans (by simp)
   obtain ⟨y1,y2,-⟩:=KT.out.c2
   have y3:W2.cell? ⟨w.heap.size+1+1,0,none⟩=some (.int .i64 ((d:Int)+1)):=(KD.out.cell 0).trans (by simp)
   have yl0:=KX.out.lt
   have yl1:=KT.out.lt
   have yl2:=KD.out.lt
   go_wp2_with fail
   refine (impl_ctorsOf xs (⟨(q:Int),(r:Int)⟩:Ty) W2 _ F (ArrDt.below HX.out hB0 HF.out) (HF.out.mono hB0.size) HW.out HT.out.inWorld).mono ?_
   rintro e w3 ⟨v3,F3,rfl,hb3,ha3,-,hfs3⟩
   have hB3:=hB0.trans (hb3.mono hB0.size)
   have KX3:=jj (KX.out.same (hb3.block _ KX.out.lt))
   have KT3:=jj (KT.out.same (hb3.block _ KT.out.lt))
   have KD3:=jj (KD.out.same (hb3.block _ KD.out.lt))
   have HA3:=jj ha3
   have HU3:=jj hfs3.under
   obtain ⟨C3,cap3,rfl,hl1,hl2⟩:=ha3.form
   clear ha3 hfs3 hb3 KX KT KD hB0
   clear y0 y1 y2 y3 yl0 yl1 yl2
   go_wp2
   go_loopw [7,40] (fun ov iv wr=>∃ i:Nat,∃ Fo:List Nat,i≤(ctorsL xs (⟨(q:Int),(r:Int)⟩:Ty)).length∧iv=.int .i64 i∧Hid (Own wr w3.heap.size 45 3 VR (valsTo xs d (⟨(q:Int),(r:Int)⟩:Ty) i) ov Fo)∧Hid (∀ b∈Fo,w.heap.size≤b)∧Hid (Below w3 w3 wr)) (fun _ iv _=>(ctorsL xs (⟨(q:Int),(r:Int)⟩:Ty)).length-(intOf iv).toNat)
   case atStart=>exact ⟨0,[],Nat.zero_le _,rfl,(show Own _ _ _ _ _ (valsTo xs d (⟨(q:Int),(r:Int)⟩:Ty) 0) _ _ from Own.nil _ _ _ _ _),(fun b hb=>by cases hb),zy2 _ _⟩
   case round =>
    obtain ⟨i,Fo,hi,rfl,HO,HFo,HBI⟩:=hrel
    obtain ⟨oA,ocap,hov,-,-⟩:=HO.out.form
    subst hov
    have hvl:=valsTo_len (xs:=xs) (d:=d) (t:=(⟨(q:Int),(r:Int)⟩:Ty)) HDN.out i
    have hn4:=HN.out
    have hol:(valsTo xs d (⟨(q:Int),(r:Int)⟩:Ty) i).length≤400:=by omega
    clear hvl hn4
    obtain ⟨wo,hwo⟩:∃ wo,wo=wr:=⟨_,rfl⟩
    rw [←hwo] at HBI HO ⊢
    clear hwo
    have hB:=hB3.trans (HBI.out.mono hB3.size)
    have KXo:=jj (KX3.out.same (HBI.out.block _ KX3.out.lt))
    have KTo:=jj (KT3.out.same (HBI.out.block _ KT3.out.lt))
    have KDo:=jj (KD3.out.same (HBI.out.block _ KD3.out.lt))
    by_cases hil:i<(ctorsL xs (⟨(q:Int),(r:Int)⟩:Ty)).length
    ·have g1:(0:Int)≤(i:Int):=by omega
     have g2:(i:Int)<((ctorsL xs (⟨(q:Int),(r:Int)⟩:Ty)).length:Int):=by omega
     obtain ⟨b3,off3,rfl⟩:=HA3.out.ptr (by omega)
     obtain ⟨hb3l,c3⟩:=ArrNat.at HA3.out HU3.out HBI.out i hil
     obtain ⟨q',m,e1,hkm,hq',hm⟩:=zAT HT.out.inWorld (List.getElem_mem hil)
     obtain rfl:q=q':=Int.ofNat.inj e1
     have hme:(ctorsL xs (⟨(q:Int),(r:Int)⟩:Ty))[i]∈(ctorsL xs (⟨(q:Int),(r:Int)⟩:Ty)):=List.getElem_mem hil
     rw [hkm] at c3 hme
     have hals:=zAF (i:=(r:Int)) hql hm
     have hca:=(HW.out.ctor hql hm).args
     have hbf:=BlkF.of xs d (⟨(q:Int),(r:Int)⟩:Ty) (m:Int)
     rw [hals] at hbf
     have hst:=valsTo_succ xs d (⟨(q:Int),(r:Int)⟩:Ty) i hil
     rw [hkm] at hst
     have hbl:=blockL_len (xs:=xs) (d:=d) (t:=(⟨(q:Int),(r:Int)⟩:Ty)) HDN.out hil
     rw [hkm] at hbl
     have HTI:Hid (∀ a∈argsL xs[q].ctors[m] (r:Int),TyIn xs.length a):=fun a ha=>zB8 HW.out HT.out hme (by rw [hals];exact ha)
     have hl3:(argsL xs[q].ctors[m] (r:Int)).length≤3:=by rw [argsL_len];exact hca
     have hn4:=HN.out
     generalize blockL xs d (⟨(q:Int),(r:Int)⟩:Ty) (m:Int)=bl at *
     have hb4:(valsTo xs d (⟨(q:Int),(r:Int)⟩:Ty) i).length+bl.length≤400:=by omega
     have HBF:=jj hbf
     have HST:=jj hst
     clear hkm e1 hme hals hbf hst hbl hn4
     have y0:wo.cell? ⟨w,0,none⟩=some (.slice A xs.length cap):=(KXo.out.cell 0).trans (by simp)
     obtain ⟨y1,y2,-⟩:=KTo.out.c2
     have y3:wo.cell? ⟨w.heap.size+1+1,0,none⟩=some (.int .i64 ((d:Int)+1)):=(KDo.out.cell 0).trans (by simp)
     have yl0:=KXo.out.lt
     have yl1:=KTo.out.lt
     have yl2:=KDo.out.lt
     go_wp2_with fail
     refine (impl_argTypes xs q m (r:Int) hql hm wo _ F (ArrDt.below HX.out hB HF.out) (HF.out.mono hB.size) hca).mono ?_
     rintro e w6 ⟨v6,F6,rfl,hb6,ha6,-,hfs6⟩
     have HB36:Hid (Below w3 w3 w6):=HBI.out.trans (hb6.mono HBI.out.size)
     have hB6:=hB.trans (hb6.mono hB.size)
     have HO6:=jj (HO.out.below (fun x cs G hk h=>VR_mono' _ _ x cs G hk h) hb6)
     have KX6:=jj (KXo.out.same (hb6.block _ KXo.out.lt))
     have KT6:=jj (KTo.out.same (hb6.block _ KTo.out.lt))
     have KD6:=jj (KDo.out.same (hb6.block _ KDo.out.lt))
     generalize hass:argsL xs[q].ctors[m] (r:Int)=ls at *
     clear hass hca
     obtain ⟨A6,cap6,rfl,hd3,hd4⟩:=ha6.form
     have HA6:=jj ha6
     have HU6:=jj hfs6.under
     clear ha6 hfs6 hb6 KXo KTo KDo y0 y1 y2 y3 yl0 yl1 yl2 c3 hb3l HBI hB HO
     have y0:w6.cell? ⟨w,0,none⟩=some (.slice A xs.length cap):=(KX6.out.cell 0).trans (by simp)
     obtain ⟨y1,y2,-⟩:=KT6.out.c2
     have y3:w6.cell? ⟨w.heap.size+1+1,0,none⟩=some (.int .i64 ((d:Int)+1)):=(KD6.out.cell 0).trans (by simp)
     have yl0:=KX6.out.lt
     have yl1:=KT6.out.lt
     have yl2:=KD6.out.lt
     go_wp2_with fail
     refine (ContainsFunc_Ty2 xs HW.out d hd A cap w.heap.size (w.heap.size+1+1) ls HTI.out w6 _ F F6 (ArrDt.below HX.out hB6 HF.out) (HF.out.mono hB6.size) HA6.out HU6.out y0 yl0 y3 yl2).mono ?_
     rintro e w7 ⟨rfl,hb7⟩
     have HB37:Hid (Below w3 w3 w7):=HB36.out.trans (hb7.mono HB36.out.size)
     have hB7:=hB6.trans (hb7.mono hB6.size)
     have HO7:=jj (HO6.out.below (fun x cs G hk h=>VR_mono' _ _ x cs G hk h) hb7)
     have KX7:=jj (KX6.out.same (hb7.block _ KX6.out.lt))
     have KT7:=jj (KT6.out.same (hb7.block _ KT6.out.lt))
     have KD7:=jj (KD6.out.same (hb7.block _ KD6.out.lt))
     have HA7:Hid (Arr w7 (TyR w7) ls (.slice A6 ls.length cap6) F6):=HA6.out.mono (.of_below hb7 HU6.out) (fun y _ cs G _ h=>h)
     have HU7:=jj (HU6.out.mono hb7.size)
     clear hb7 KX6 KT6 KD6 y0 y1 y2 y3 yl0 yl1 yl2 HA6 HU6 HO6 HB36 hB6
     cases hnb:noneB xs d ls with
     |true =>
      have hE:Hid (valsTo xs d (⟨(q:Int),(r:Int)⟩:Ty) (i+1)=valsTo xs d (⟨(q:Int),(r:Int)⟩:Ty) i):=by unfold Hid;rw [HST.out,HBF.out.none hnb,List.append_nil]
      clear hnb
      go_wp2
      go_roundw
      case rel=>exact ⟨i+1,_,hil,by go_num,(by rw [hE.out];exact HO7.out),HFo.out,HB37⟩
      case measure=>(simp [intOf] <;> omega)
     |false =>
      have HAR:=jj (HBF.out.arg hnb)
      have HKI:=jj (HBF.out.kid hnb)
      clear hnb
      go_wp2_with fail
      obtain ⟨w8,hw8⟩:∃ w8,w8=w7.alloc (.cells [.int .i64 (m:Int),.int .i64 0,.slice none 0 0].toArray 45):=⟨_,rfl⟩
      have hb8:Below w7 w7 w8:=by rw [hw8];exact (zy2 _ _).alloc (zz8 _) _
      have hK8:Blk w8 w7 45 [.int .i64 (m:Int),.int .i64 0,.slice none 0 0].toArray:=by rw [hw8];exact Blk.new _ _ _
      have hLA:Arr w8 (VR w8) (argTo xs d (m:Int) ls 0) (.slice (some ⟨w7,0,none⟩) 1 1) [w7.heap.size]:=by
       rw [argTo_zero]
       exact ⟨_,_,rfl,zz8 _,by simp [maxLen],.inr ⟨_,0,[(m:Int),(0:Int),.slice none 0 0],[],rfl,(fun j u hj=>by rw [Nat.zero_add,hK8.cell];simpa using hj),Flat.one ((zA6 _ _ _).2 ⟨_,rfl,Arr.nil⟩),rfl⟩⟩
      have hLU:Under w8 [w7.heap.size]:=fun b hb=>by rw [zy1] at hb;subst hb;exact hK8.lt
      have HLB0:Hid (∀ b∈[w7.heap.size],w7.heap.size≤b):=fun b hb=>by rw [zy1] at hb;subst hb;exact zz8 _
      have HL0:=jj hLA
      have HLU0:=jj hLU
      have hw8':=hw8
      simp only [List.toArray] at hw8'
      first | rw [←hw8] | rw [←hw8']
      clear hw8 hw8' hK8 hLA hLU
      have h78:=hb8.size
      have HB38:Hid (Below w3 w3 w8):=HB37.out.trans (hb8.mono HB37.out.size)
      have hB8:=hB7.trans (hb8.mono hB7.size)
      have h7w:w.heap.size≤w7.heap.size:=hB7.size
      have H7R:Hid (∀ g∈rowOf (.slice oA (valsTo xs d (⟨(q:Int),(r:Int)⟩:Ty) i).length ocap),g<w7.heap.size):=fun g hg=>(HO7.out.row g hg).2
      have HO8:=jj (HO7.out.below (fun x cs G hk h=>VR_mono' _ _ x cs G hk h) hb8)
      have KX8:=jj (KX7.out.same (hb8.block _ KX7.out.lt))
      have KT8:=jj (KT7.out.same (hb8.block _ KT7.out.lt))
      have KD8:=jj (KD7.out.same (hb8.block _ KD7.out.lt))
      have HA8:Hid (Arr w8 (TyR w8) ls (.slice A6 ls.length cap6) F6):=HA7.out.mono (.of_below hb8 HU7.out) (fun y _ cs G _ h=>h)
      have HU8:=jj (HU7.out.mono hb8.size)
      clear hb8 KX7 KT7 KD7 HA7 HU7 HO7 HB37 hB7
      go_wp2
      go_loopw [12,56] (fun lv jv wr=>∃ j:Nat,∃ Fl:List Nat,j≤ls.length∧jv=.int .i64 j∧Hid (Arr wr (VR wr) (argTo xs d (m:Int) ls j) lv Fl)∧Hid (Under wr Fl)∧Hid (∀ b∈Fl,w7.heap.size≤b)∧Hid (Below w8 w8 wr)) (fun _ jv _=>ls.length-(intOf jv).toNat)
      case atStart=>exact ⟨0,_,Nat.zero_le _,rfl,HL0.out,HLU0.out,HLB0.out,zy2 _ _⟩
      case round =>
       clear HL0 HLU0 HLB0
       obtain ⟨j,Fl,hj,rfl,HL,HLU,HLL,HB8⟩:=hrel
       obtain ⟨lA,lcap,hlv,-,-⟩:=HL.out.form
       subst hlv
       obtain ⟨wp,hwp⟩:∃ wp,wp=wr:=⟨_,rfl⟩
       rw [←hwp] at HL HLU HB8 ⊢
       clear hwp
       have hB9:=hB8.trans (HB8.out.mono hB8.size)
       have KXp:=jj (KX8.out.same (HB8.out.block _ KX8.out.lt))
       have KTp:=jj (KT8.out.same (HB8.out.block _ KT8.out.lt))
       have KDp:=jj (KD8.out.same (HB8.out.block _ KD8.out.lt))
       by_cases hjl:j<ls.length
       ·have g3:(0:Int)≤(j:Int):=by omega
        have g4:(j:Int)<(ls.length:Int):=by omega
        obtain ⟨b6,off6,rfl⟩:=HA8.out.ptr (by omega)
        obtain ⟨hb6l,a0,a1⟩:=ArrTy.at HA8.out HU8.out HB8.out j hjl
        have HTJ:=jj (HTI.out ls[j] (List.getElem_mem hjl))
        have hk4:=HKI.out j hjl
        have HKJ:Hid ((valsL xs d ls[j]).length≤400):=by unfold Hid;omega
        have hs4:=HAR.out (j+1)
        have hsl:=zAU xs d (m:Int) ls j hjl
        have HSU:=jj (argTo_succ xs d (m:Int) ls j hjl)
        have HPR:Hid ((argTo xs d (m:Int) ls j).length*(valsL xs d ls[j]).length≤400):=by unfold Hid;omega
        have hlj:=HAR.out j
        have hll:(argTo xs d (m:Int) ls j).length≤400:=by omega
        have HHD:=jj (argTo_headed xs d (m:Int) ls j hj)
        clear hk4 hs4 hsl hlj
        have y0:wp.cell? ⟨w,0,none⟩=some (.slice A xs.length cap):=(KXp.out.cell 0).trans (by simp)
        obtain ⟨y1,y2,-⟩:=KTp.out.c2
        have y3:wp.cell? ⟨w.heap.size+1+1,0,none⟩=some (.int .i64 ((d:Int)+1)):=(KDp.out.cell 0).trans (by simp)
        have yl0:=KXp.out.lt
        have yl1:=KTp.out.lt
        have yl2:=KDp.out.lt
        go_wp2_with fail
        obtain ⟨w9,hw9⟩:∃ w9,w9=(wp.alloc (.cells #[ls[j].d,ls[j].i] 25)):=⟨_,rfl⟩
        have hb9:Below wp wp w9:=by rw [hw9];exact (zy2 _ _).alloc (zz8 _) _
        have hK9:Blk w9 wp 25 #[ls[j].d,ls[j].i]:=by rw [hw9];exact Blk.new _ _ _
        rw [←hw9]
        clear hw9 hK9
        have HB89:Hid (Below w8 w8 w9):=HB8.out.trans (hb9.mono HB8.out.size)
        have hBw9:=hB9.trans (hb9.mono hB9.size)
        have HL9:=jj (ArrV.below HL.out hb9 HLU.out)
        have HLU9:=jj (HLU.out.mono hb9.size)
        have KX9:=jj (KXp.out.same (hb9.block _ KXp.out.lt))
        have KT9:=jj (KTp.out.same (hb9.block _ KTp.out.lt))
        have KD9:=jj (KDp.out.same (hb9.block _ KDp.out.lt))
        clear hb9 KXp KTp KDp HL HLU HB8 hB9 a0 a1 hb6l y0 y1 y2 y3 yl0 yl1 yl2
        refine (IH.out xs HW.out ls[j] HTJ.out (by omega) HKJ.out w9 _ F (ArrDt.below HX.out hBw9 HF.out) (HF.out.mono hBw9.size)).mono ?_
        rintro e w10 ⟨kv0,Fk,rfl,hb10,hak,hfk⟩
        have huk:=hfk.under
        have HKL:Hid (∀ b∈Fk,w7.heap.size≤b):=fun b hb=>Nat.le_trans (Nat.le_trans h78 HB89.out.size) (hfk b hb).1
        have HB8a:Hid (Below w8 w8 w10):=HB89.out.trans (hb10.mono HB89.out.size)
        have h710:w7.heap.size≤w10.heap.size:=Nat.le_trans h78 HB8a.out.size
        have HLa:=jj (ArrV.below HL9.out hb10 HLU9.out)
        have HLUa:=jj (HLU9.out.mono hb10.size)
        have HKA:=jj hak
        have HKU:=jj huk
        obtain ⟨kA,kcap,rfl,-,-⟩:=hak.form
        clear hak huk hfk hb10 HL9 HLU9 HB89 hBw9 KX9 KT9 KD9
        generalize hki:valsL xs d ls[j]=ki at *
        clear hki
        generalize hli:argTo xs d (m:Int) ls j=li at *
        clear hli
        go_wp2
        go_loopw [16,67] (fun mv pv wr=>∃ p:Nat,∃ Fm:List Nat,p≤li.length∧pv=.int .i64 p∧Hid (Own wr w10.heap.size 45 3 VR (growTo (m:Int) li ki p) mv Fm)∧Hid (∀ b∈Fm,w7.heap.size≤b)∧Hid (Below w10 w10 wr)) (fun _ pv _=>li.length-(intOf pv).toNat)
        case atStart=>exact ⟨0,[],Nat.zero_le _,rfl,(show Own _ _ _ _ _ (growTo (m:Int) li ki 0) _ _ from Own.nil _ _ _ _ _),(fun b hb=>by cases hb),zy2 _ _⟩
        case round =>
         obtain ⟨p,Fm,hp,rfl,HM,HFM,HBM⟩:=hrel
         obtain ⟨mA,mcap,hmv,-,-⟩:=HM.out.form
         subst hmv
         have hpl:=growTo_len (m:Int) li ki p hp
         have HPL:=jj hpl
         obtain ⟨wq,hwq⟩:∃ wq,wq=wr:=⟨_,rfl⟩
         rw [←hwq] at HM HBM ⊢
         clear hwq hpl
         by_cases hpl:p<li.length
         ·have g5:(0:Int)≤(p:Int):=by omega
          have g6:(p:Int)<(li.length:Int):=by omega
          obtain ⟨b8,off8,rfl⟩:=HLa.out.ptr (by omega)
          obtain ⟨vA,vcap,Gv,hb8l,v0,v1,v2,HVv,HVu,HVs,-,-⟩:=ArrV.at HLa.out HLUa.out HBM.out p hpl
          have HGS:=jj (growTo_succ (m:Int) li ki p hpl)
          have HH:=jj (HHD.out li[p] (List.getElem_mem hpl))
          have hmul:(p+1)*ki.length≤li.length*ki.length:=Nat.mul_le_mul_right _ hpl
          have hpr:=HPR.out
          have hpl2:=HPL.out
          have hms:(p+1)*ki.length=p*ki.length+ki.length:=by rw [Nat.succ_mul]
          have HPQ:Hid ((growTo (m:Int) li ki p).length+ki.length≤400):=by unfold Hid;omega
          have HVS:=jj HVs
          clear hmul hpr hpl2 hms HVs HPL
          obtain ⟨lp,hlp⟩:∃ u,u=li[p]:=⟨_,rfl⟩
          rw [←hlp] at v0 v1 v2 HVv HGS HH
          clear hlp
          have hlk:lp.ks.length≤3:=by have:=HH.out.2.2;omega
          go_wp2_with fail
          obtain ⟨w11,hw11⟩:∃ X,X=(wq.alloc (.cells #[lp.c,lp.n,.slice vA lp.ks.length vcap] 45)):=⟨_,rfl⟩
          have hb11:Below wq wq w11:=by rw [hw11];exact (zy2 _ _).alloc (zz8 _) _
          have hK11:Blk w11 wq 45 #[lp.c,lp.n,.slice vA lp.ks.length vcap]:=by rw [hw11];exact Blk.new _ _ _
          rw [←hw11]
          clear hw11
          have HB11:Hid (Below w10 w10 w11):=HBM.out.trans (hb11.mono HBM.out.size)
          have HM11:=jj (HM.out.below (fun x cs G hk h=>VR_mono' _ _ x cs G hk h) hb11)
          have HN11:Hid (wq.heap.size∉rowOf (.slice mA (growTo (m:Int) li ki p).length mcap)):=fun h=>Nat.lt_irrefl _ (HM.out.row _ h).2
          have h10q:w10.heap.size≤wq.heap.size:=HBM.out.size
          have HK11:=jj hK11
          obtain ⟨bb,hbb⟩:∃ X,X=wq.heap.size:=⟨_,rfl⟩
          rw [←hbb] at HK11 HN11 h10q ⊢
          clear hb11 hK11 HM HBM v0 v1 v2 hb8l hbb
          generalize hgp:growTo (m:Int) li ki p=gp at *
          clear hgp
          go_wp2
          go_loopw [16,73] (fun mv sv wr=>∃ s:Nat,∃ Fn:List Nat,s≤ki.length∧sv=.int .i64 s∧Hid (Own wr w10.heap.size 45 3 VR (moreTo gp (m:Int) lp ki s) mv Fn)∧Hid (∀ b∈Fn,w7.heap.size≤b)∧Hid (Below w10 w10 wr)∧Hid (Blk wr bb 45 #[lp.c,lp.n,.slice vA lp.ks.length vcap])∧Hid (bb∉rowOf mv)) (fun _ sv _=>ki.length-(intOf sv).toNat)
          case atStart=>exact ⟨0,Fm,Nat.zero_le _,rfl,(by rw [moreTo_zero];exact HM11.out),HFM.out,HB11.out,HK11.out,HN11.out⟩
          case round =>
           clear HM11 HFM HB11 HK11 HN11
           obtain ⟨s,Fn,hs,rfl,HM,HFM,HBM,HK,HNB⟩:=hrel
           obtain ⟨mA,mcap,hmv,-,-⟩:=HM.out.form
           subst hmv
           by_cases hsl:s<ki.length
           ·have hk400:=HKJ.out
            have g7:(0:Int)≤(s:Int):=by omega
            have g8:(s:Int)<(ki.length:Int):=by omega
            obtain ⟨b9,off9,rfl⟩:=HKA.out.ptr (by omega)
            obtain ⟨nA,ncap,Gk,hb9l,n0,n1,n2,HVk,HKu,hks,-,-⟩:=ArrV.at HKA.out HKU.out HBM.out s hsl
            have HKs:=jj hks
            have hml:=moreTo_len gp (m:Int) lp ki s
            have hpq:=HPQ.out
            have hmx:(moreTo gp (m:Int) lp ki s).length+1≤maxLen:=by unfold maxLen;omega
            have hby:((moreTo gp (m:Int) lp ki s).length+1)*40≤140737488355328:=by omega
            have HMS:=jj (moreTo_succ gp (m:Int) lp ki s hsl)
            obtain ⟨kq,hkq⟩:∃ u,u=ki[s]:=⟨_,rfl⟩
            rw [←hkq] at n0 n1 n2 HVk HMS
            clear hkq hks hml hpq
            go_wp2_with fail
            obtain ⟨w13,hw13⟩:∃ X,X=(wr.alloc (.cells #[kq.c,kq.n,.slice nA kq.ks.length ncap] 45)):=⟨_,rfl⟩
            have hb13:Below wr wr w13:=by rw [hw13];exact (zy2 _ _).alloc (zz8 _) _
            have hK13:Blk w13 wr 45 #[kq.c,kq.n,.slice nA kq.ks.length ncap]:=by rw [hw13];exact Blk.new _ _ _
            rw [←hw13]
            clear hw13
            obtain ⟨b20,hb20⟩:∃ X,X=wr.heap.size:=⟨_,rfl⟩
            rw [←hb20] at hK13 ⊢
            have x0:w13.cell? ⟨bb,2,none⟩=some (.slice vA lp.ks.length vcap):=((HK.out.same (hb13.block _ HK.out.lt)).cell 2).trans (by simp)
            obtain ⟨x1,x2,x3,klt20⟩:=hK13.c3
            have kltb:bb<w13.heap.size:=zz9 HK.out.lt hb13.size
            have HVk2:Hid (∀ C,Below w13 w13 C→VR C kq [kq.c,kq.n,.slice nA kq.ks.length ncap] Gk):=fun C hC=>HVk.out.below (HBM.out.trans ((hb13.trans (hC.mono hb13.size)).mono HBM.out.size)) HKu.out
            have HVA:Hid (∀ C,Below w13 w13 C→Arr C (VR C) lp.ks (.slice vA lp.ks.length vcap) Gv):=fun C hC=>by
             obtain ⟨kv,e,h⟩:=(zA6 _ _ _).1 HVv.out
             simp only [List.cons.injEq,true_and,and_true] at e
             subst e
             exact ArrV.below h (HBM.out.trans ((hb13.trans (hC.mono hb13.size)).mono HBM.out.size)) HVu.out
            have HB20:=jj hb20
            clear n0 n1 n2 hb9l hK13 HVk hb20
            have HS:Hid (∀ C:World,Below w13 w13 C→(C.cell? ⟨bb,2,none⟩=some (.slice vA lp.ks.length vcap)∧C.cell? ⟨b20,0,none⟩=kq.c∧C.cell? ⟨b20,1,none⟩=kq.n∧C.cell? ⟨b20,2,none⟩=some (.slice nA kq.ks.length ncap))):=fun C hb=>⟨(hb.cell (kltb)).trans x0,(hb.cell (klt20)).trans x1,(hb.cell (klt20)).trans x2,(hb.cell (klt20)).trans x3⟩
            have hC0:Below w13 w13 w13.drew:=(zy2 _ _).drew
            refine wpBS HS.out (T:=fun _=>True) (d:=99) (by kernel_rfl) ?_
            obtain ⟨wd,hwd⟩:∃ X,X=w13.drew:=⟨_,rfl⟩
            rw [←hwd] at hC0  ⊢
            clear hwd
            have hS0:=HS.out _ hC0
            have hT0:True:=trivial
            refine wV 0 rfl hS0 hT0 ?_
            (try simp only [zz])
            refine wV 1 rfl hS0 hT0 ?_
            (try simp only [zz])
            refine wV 2 rfl hS0 hT0 ?_
            (try simp only [zz])
            refine wV 3 rfl hS0 hT0 ?_
            (try simp only [zz])
            refine wV 5 rfl hS0 hT0 ?_
            (try simp only [zz])
            refine wR (rs:=[4,6]) (by kernel_rfl) (by simp) ?_
            refine AllReadyB.c rfl (fun K hK=>?_) (AllReadyB.c rfl (fun K hK=>?_) AllReadyB.n)
            focus
             go_simp
             go_at_call 119
             refine (Clone_V lp.ks (by omega) wd _ Gv (HVA.out wd hC0) (HVu.out.mono (Nat.le_trans HBM.out.size (Nat.le_trans hb13.size hC0.size)))).mono ?_
             rintro e C1 ⟨cv,Gc,rfl,hb1,ho1,hG1⟩
             have hC1:Below w13 w13 C1:=hC0.trans (hb1.mono hC0.size)
             obtain ⟨cA,ccap,rfl,-,-⟩:=ho1.form
             have HGc:=jj hG1
             have HOc1:=jj (ho1.base (B':=w13.heap.size) (fun g hg=>Nat.le_trans hC0.size (ho1.row g hg).1))
             clear ho1 hG1
             (try dsimp only)
             refine hK.out _ _ (HS.out _ hC1) (fun _=>trivial) ?_
             clear hK K
             (try simp only [zz])
             refine w1 6 rfl fun K hK=>?_
             go_simp
             obtain ⟨C2,hX⟩:∃ X,X=C1.alloc (.cells [.int .i64 kq.c,.int .i64 kq.n,.slice nA kq.ks.length ncap].toArray 45):=⟨_,rfl⟩
             have hb2:Below C1 C1 C2:=by rw [hX];exact (zy2 _ _).alloc (zz8 _) _
             have hkb2:Blk C2 C1 45 [.int .i64 kq.c,.int .i64 kq.n,.slice nA kq.ks.length ncap].toArray:=by rw [hX];exact Blk.new _ _ _
             have hX2:=hX
             simp only [List.toArray] at hX2
             first | rw [←hX] | rw [←hX2]
             clear hX hX2
             have hC2:Below w13 w13 C2:=hC1.trans (hb2.mono hC1.size)
             have HKb2:=jj hkb2
             obtain ⟨kb,hkb⟩:∃ X,X=C1.heap.size:=⟨_,rfl⟩
             rw [←hkb] at HKb2 ⊢
             clear hkb hkb2
             have HOc:=jj (HOc1.out.below (fun x cs G hk h=>VR_mono' _ _ x cs G hk h) hb2)
             have HKb:=HKb2
            rotate_left
            focus
             go_simp
             obtain ⟨C1,hX⟩:∃ X,X=wd.alloc (.cells [.int .i64 kq.c,.int .i64 kq.n,.slice nA kq.ks.length ncap].toArray 45):=⟨_,rfl⟩
             have hb1:Below wd wd C1:=by rw [hX];exact (zy2 _ _).alloc (zz8 _) _
             have hkb1:Blk C1 wd 45 [.int .i64 kq.c,.int .i64 kq.n,.slice nA kq.ks.length ncap].toArray:=by rw [hX];exact Blk.new _ _ _
             have hX2:=hX
             simp only [List.toArray] at hX2
             first | rw [←hX] | rw [←hX2]
             clear hX hX2
             have hC1:Below w13 w13 C1:=hC0.trans (hb1.mono hC0.size)
             have HKb1:=jj hkb1
             obtain ⟨kb,hkb⟩:∃ X,X=wd.heap.size:=⟨_,rfl⟩
             rw [←hkb] at HKb1 ⊢
             clear hkb hkb1
             (try dsimp only)
             refine hK.out _ _ (HS.out _ hC1) (fun _=>trivial) ?_
             clear hK K
             (try simp only [zz])
             refine w1 4 rfl fun K hK=>?_
             go_simp
             go_at_call 119
             refine (Clone_V lp.ks (by omega) C1 _ Gv (HVA.out C1 hC1) (HVu.out.mono (Nat.le_trans HBM.out.size (Nat.le_trans hb13.size hC1.size)))).mono ?_
             rintro e C2 ⟨cv,Gc,rfl,hb2,ho2,hG2⟩
             have hC2:Below w13 w13 C2:=hC1.trans (hb2.mono hC1.size)
             obtain ⟨cA,ccap,rfl,-,-⟩:=ho2.form
             have HGc:=jj hG2
             have HOc2:=jj (ho2.base (B':=w13.heap.size) (fun g hg=>Nat.le_trans hC1.size (ho2.row g hg).1))
             clear ho2 hG2
             have HOc:=HOc2
             have HKb:=jj (HKb1.out.same (hb2.block _ HKb1.out.lt))
            rotate_left
            all_goals (
             (try dsimp only)
             refine hK.out _ _ (HS.out _ hC2) (fun _=>trivial) ?_
             clear hK K
             (try simp only [zz])
             refine w1 7 rfl fun K hK=>?_
             refine step_pushB (P:=Tryz.prog) rfl _ _ 43 rfl i0 _ 40 Tryz.underlying43 HI.out HZ0.out HZ1.out HZ2.out rfl (by decide) VR_len' VR_mono' (by rfl) HOc.out kq 45 [kq.c,kq.n,.slice nA kq.ks.length ncap] Gk kb (by rfl) HKb.out (by simp [Value.oneCell']) (HVk2.out C2 hC2) (HKu.out.mono (Nat.le_trans HBM.out.size (Nat.le_trans hb13.size hC2.size))) (fun g hg hgG=>Nat.lt_irrefl _ (zz9 (HKu.out g hgG) (Nat.le_trans (Nat.le_trans HBM.out.size hb13.size) (HOc.out.row g hg).1))) (by unfold maxLen;omega) (by omega) hC2.size ?_
             intro g7 cp7 C3 hown3 hgr3 hat3
             have hC3:Below w13 w13 C3:=hC2.grown hgr3 hC2.size (fun g hg=>(HOc.out.row g (zA1.2 hg)).1)
             have HO3:=jj hown3
             have H3R:Hid (∀ g∈rowOf (.slice (some ⟨g7,0,none⟩) (lp.ks.length+1) cp7),w13.heap.size≤g∧g<C3.heap.size):=fun g hg=>HO3.out.row g hg
             have HYR:Hid (VR C3 ⟨(m:Int),0,lp.ks ++ [kq]⟩ [(m:Int),(0:Int),.slice (some ⟨g7,0,none⟩) (lp.ks.length+1) cp7] (rowOf (.slice (some ⟨g7,0,none⟩) (lp.ks.length+1) cp7) ++ (Gc ++ Gk))):=by
              have h:=HO3.out.arr
              rw [if_neg (by simp)] at h
              rw [show lp.ks.length+1=(lp.ks ++ [kq]).length by simp] at h ⊢
              exact (zA6 _ _ _).2 ⟨_,rfl,h⟩
             have hb103:Below w10 w10 C3:=(HBM.out.trans (hb13.mono HBM.out.size)).trans (hC3.mono (Nat.le_trans HBM.out.size hb13.size))
             have hbr3:Below wr wr C3:=hb13.trans (hC3.mono hb13.size)
             have HM3:=jj (HM.out.below (fun x cs G hk h=>VR_mono' _ _ x cs G hk h) hbr3)
             have hYU:Under C3 (rowOf (.slice (some ⟨g7,0,none⟩) (lp.ks.length+1) cp7) ++ (Gc ++ Gk)):=fun b hb=>by
              rcases List.mem_append.1 hb with hb | hb
              ·exact (H3R.out b hb).2
              ·rcases List.mem_append.1 hb with hb | hb
               ·exact zz9 (HVu.out b (HGc.out b hb)) hb103.size
               ·exact zz9 (HKu.out b hb) hb103.size
             have hYN:∀ g∈rowOf (.slice mA (moreTo gp (m:Int) lp ki s).length mcap),g∉(rowOf (.slice (some ⟨g7,0,none⟩) (lp.ks.length+1) cp7) ++ (Gc ++ Gk)):=fun g hg hgG=>by
              have h1:=HM.out.row g hg
              have h2:=hb13.size
              rcases List.mem_append.1 hgG with hb | hb
              ·have:=(H3R.out g hb).1;omega
              ·rcases List.mem_append.1 hb with hb | hb
               ·have:=HVu.out g (HGc.out g hb);omega
               ·have:=HKu.out g hb;omega
             have HY7:Hid (∀ b∈(rowOf (.slice (some ⟨g7,0,none⟩) (lp.ks.length+1) cp7) ++ (Gc ++ Gk)),w7.heap.size≤b):=fun b hb=>by
              have h2:=hb13.size
              have h3:=HBM.out.size
              rcases List.mem_append.1 hb with hb | hb
              ·have:=(H3R.out b hb).1;omega
              ·rcases List.mem_append.1 hb with hb | hb
               ·exact HLL.out b (HVS.out b (HGc.out b hb))
               ·exact HKL.out b (HKs.out b hb)
             have HYN:=jj hYN
             have HYU:=jj hYU
             clear hown3 hgr3 hat3 hYN hYU
             (try dsimp only)
             refine hK.out _ _ (HS.out _ hC3) (fun _=>trivial) ?_
             clear hK K
             (try simp only [zz])
             have hS3:=HS.out _ hC3
             refine wV 8 rfl hS3 hT0 ?_
             (try simp only [zz])
             refine w1 9 rfl fun K hK=>?_
             go_simp
             (try dsimp only)
             refine hK.out _ _ (HS.out _ (hC3.alloc hC3.size _)) (fun _=>trivial) ?_
             clear hK K
             (try simp only [zz])
             refine w1 10 rfl fun K hK=>?_
             refine zAB (P:=Tryz.prog) rfl _ _ 43 rfl i0 _ 40 Tryz.underlying43 HI.out HZ0.out HZ1.out HZ2.out rfl (by decide) VR_len' VR_mono' (by rfl) HM3.out ⟨(m:Int),0,lp.ks ++ [kq]⟩ 45 [(m:Int),(0:Int),.slice (some ⟨g7,0,none⟩) (lp.ks.length+1) cp7] (rowOf (.slice (some ⟨g7,0,none⟩) (lp.ks.length+1) cp7) ++ (Gc ++ Gk)) C3.heap.size (by rfl) rfl (by simp [Value.oneCell']) HYR.out HYU.out HYN.out hmx hby hb103.size ?_
             intro g10 cp10 C5 hown5 hgr5 hat5
             have hrow:=HM3.out.row
             have hB5:Below w10 w10 C5:=(hb103.alloc hb103.size _).grown hgr5 (by simp;have:=hb103.size;omega) (fun g hg=>(hrow g (zA1.2 hg)).1)
             have l7:C3.heap.size≤(C3.alloc (.cells [.int .i64 (m:Int),.int .i64 0,.slice (some ⟨g7,0,none⟩) (lp.ks.length+1) cp7].toArray 45)).heap.size:=by rw [World.size_alloc];exact Nat.le_succ _
             have hfar:∀ p:Addr,p.block<C3.heap.size→some p.block≠(Value.ownBlock (.slice mA (moreTo gp (m:Int) lp ki s).length mcap))→C5.cell? p=C3.cell? p:=fun p h1 h2=>(World.grownBy.cell_far hgr5 p (zz9 h1 l7) h2).trans (World.cell?_alloc_lt _ _ _ h1)
             have nbb:some bb≠(Value.ownBlock (.slice mA (moreTo gp (m:Int) lp ki s).length mcap)):=fun e=>HNB.out (zA1.2 e.symm)
             have nb20:some b20≠(Value.ownBlock (.slice mA (moreTo gp (m:Int) lp ki s).length mcap)):=fun e=>by have:=(HM.out.row b20 (zA1.2 e.symm)).2;have:=HB20.out;omega
             have lbb:bb<C3.heap.size:=zz9 kltb hC3.size
             have lb20:b20<C3.heap.size:=zz9 klt20 hC3.size
             have hS5:C5.cell? ⟨bb,2,none⟩=some (.slice vA lp.ks.length vcap)∧C5.cell? ⟨b20,0,none⟩=kq.c∧C5.cell? ⟨b20,1,none⟩=kq.n∧C5.cell? ⟨b20,2,none⟩=some (.slice nA kq.ks.length ncap):=⟨(hfar ⟨bb,2,none⟩ lbb nbb).trans hS3.1,(hfar ⟨b20,0,none⟩ lb20 nb20).trans hS3.2.1,(hfar ⟨b20,1,none⟩ lb20 nb20).trans hS3.2.2.1,(hfar ⟨b20,2,none⟩ lb20 nb20).trans hS3.2.2.2⟩
             have HK5:Hid (Blk C5 bb 45 #[lp.c,lp.n,.slice vA lp.ks.length vcap]):=(((HK.out.same (hbr3.block _ HK.out.lt)).same (Below.heap_alloc _ _ _ lbb))).same (hgr5.block _ (zz9 lbb l7) nbb)
             have HN5:Hid (bb∉rowOf (.slice (some ⟨g10,0,none⟩) ((moreTo gp (m:Int) lp ki s).length+1) cp10)):=fun h=>by
              rw [zA3,zy1] at h
              rcases hat5 with h1 | h1
              ·exact nbb (by rw [h1,h])
              ·omega
             have HF5:Hid (∀ b∈Fn ++ (rowOf (.slice (some ⟨g7,0,none⟩) (lp.ks.length+1) cp7) ++ (Gc ++ Gk)),w7.heap.size≤b):=fun b hb=>by
              rcases List.mem_append.1 hb with hb | hb
              ·exact HFM.out b hb
              ·exact HY7.out b hb
             have HO5:=jj hown5
             clear hown5 hgr5 hat5 hrow hfar nbb nb20
             (try dsimp only)
             refine hK.out _ _ (hS5) (fun _=>trivial) ?_
             clear hK K
             (try simp only [zz])
             refine wV 11 rfl hS5 hT0 ?_
             (try simp only [zz])
             refine wE (by kernel_rfl) ?_
             clear hS3 hS5 hS0 hT0 x0 x1 x2 x3
             go_wp2
             go_roundw
             case rel=>exact ⟨s+1,_,hsl,by go_num,(by rw [HMS.out];exact HO5.out),HF5.out,hB5,HK5.out,HN5.out⟩
             case measure=>(simp [intOf] <;> omega))
           ·have hs2:s=ki.length:=by omega
            subst hs2
            have HOM:Hid (Own wr w10.heap.size 45 3 VR (growTo (m:Int) li ki (p+1)) (.slice mA (moreTo gp (m:Int) lp ki ki.length).length mcap) Fn):=by rw [HGS.out,←moreTo_all gp (m:Int) lp ki (zz8 _)];exact HM.out
            go_wp2
            go_roundw
            case rel=>exact ⟨p+1,Fn,hpl,by go_num,HOM.out,HFM.out,HBM.out⟩
            case measure=>(simp [intOf] <;> omega)
         ·have hp2:p=li.length:=by omega
          subst hp2
          have hga:=growTo_all (m:Int) li ki (zz8 _)
          have HOM:Hid (Arr wq (VR wq) (argTo xs d (m:Int) ls (j+1)) (.slice mA (growTo (m:Int) li ki li.length).length mcap) (if growTo (m:Int) li ki li.length=[] then [] else rowOf (.slice mA (growTo (m:Int) li ki li.length).length mcap) ++ Fm)):=by rw [HSU.out,←hga];exact HM.out.arr
          have HUM:Hid (Under wq (if growTo (m:Int) li ki li.length=[] then [] else rowOf (.slice mA (growTo (m:Int) li ki li.length).length mcap) ++ Fm)):=HM.out.under_arr
          have HLM:Hid (∀ b∈(if growTo (m:Int) li ki li.length=[] then [] else rowOf (.slice mA (growTo (m:Int) li ki li.length).length mcap) ++ Fm),w7.heap.size≤b):=(fun b hb=>((HM.out.fresh (w0:=w7) h710 HFM.out) b hb).1)
          have HB8b:Hid (Below w8 w8 wq):=HB8a.out.trans (HBM.out.mono HB8a.out.size)
          clear hga
          go_wp2
          go_roundw
          case rel=>exact ⟨j+1,_,hjl,by go_num,HOM.out,HUM.out,HLM.out,HB8b⟩
          case measure=>(simp [intOf] <;> omega)
       ·have hj2:j=ls.length:=by omega
        subst hj2
        have hbl0:=HBF.out.all
        have HLB:Hid (Arr wp (VR wp) bl (.slice lA bl.length lcap) Fl):=by
         have h:=HL.out
         rw [hbl0] at h
         exact h
        have HOp:=jj (HO8.out.below (fun x cs G hk h=>VR_mono' _ _ x cs G hk h) HB8.out)
        have HB3p:Hid (Below w3 w3 wp):=HB38.out.trans (HB8.out.mono HB38.out.size)
        rw [hbl0]
        clear hbl0
        have hrn:∀ g∈rowOf (.slice oA (valsTo xs d (⟨(q:Int),(r:Int)⟩:Ty) i).length ocap),g∉Fl:=fun g hg hgF=>Nat.lt_irrefl _ (zz9 (H7R.out g hg) (HLL.out g hgF))
        obtain ⟨v',w',G,hr,ho,hG,hgr,hat⟩:=zAW (P:=Tryz.prog) 43 43 i0 _ 40 Tryz.underlying43 HI.out HZ0.out HZ1.out HZ2.out rfl (by decide) VR_len' VR_mono' VR_one HOp.out HLB.out HLU.out hrn (by omega) (by omega) HB3p.out.size
        have HB3n:Hid (Below w3 w3 w'):=HB3p.out.grown hgr HB3p.out.size (fun g hg=>(HOp.out.row g (zA1.2 hg)).1)
        rw [←HST.out] at ho
        have HON:=jj ho
        have HFn:Hid (∀ b∈Fo ++ G,w.heap.size≤b):=fun b hb=>by
         rcases List.mem_append.1 hb with hb | hb
         ·exact HFo.out b hb
         ·exact Nat.le_trans h7w (HLL.out b (hG b hb))
        have HRUN:=jj hr
        clear hr ho hG hgr hat hrn
        go_wp2_with (at_builtin;refine Halt.mk ?_)
        refine Halt.of (wpList_append_run rfl _ _ 43 rfl (by rfl) (by rfl) HRUN.out ?_)
        go_wp2
        go_roundw
        case rel=>exact ⟨i+1,_,hil,by go_num,HON.out,HFn.out,HB3n⟩
        case measure=>(simp [intOf] <;> omega)
    ·have HALL:=jj (valsTo_all (xs:=xs) (d:=d) (t:=(⟨(q:Int),(r:Int)⟩:Ty)) HDN.out (i:=i) (Nat.le_of_not_lt hil))
     have HFin:Hid (ValsP (valsL xs (d+1) (⟨(q:Int),(r:Int)⟩:Ty)) w (.returned (.slice oA (valsTo xs d (⟨(q:Int),(r:Int)⟩:Ty) i).length ocap)) wo):=by rw [←HALL.out];exact HO.out.vals hB hB3.size HFo.out
     go_wp2
     go_ret
     exact HFin.out
set_option maxHeartbeats 6400000 in
theorem impl_ValuesUpTo (xs:List Dt) (t:Ty) (dp:Int) (w:World) (x:Value) (F:List Nat) (hx:Arr w (DtR w) xs x F) (hf:Under w F) :
  Calls Tryz.prog 26 #[x,.agg #[t.d,t.i],.int .i64 dp] w (MadeVals2 (uptoV xs t dp) (uptoB xs t dp) w):=by
 obtain ⟨A,cap,rfl,hc1,hc2⟩:=hx.form
 obtain ⟨i0,hi,hz0,hz1,hz2⟩:=info_parts info_VE
 have HI:=jj hi
 have HZ0:=jj hz0
 have HZ1:=jj hz1
 have HZ2:=jj hz2
 have HX:=jj hx
 have HF:=jj hf
 clear hi hz0 hz1 hz2 hx hf
 go_enter Tryz.func26,Tryz.ntmps26
 go_wp2_with fail
 obtain ⟨W2,hW2⟩:∃ W2,W2=(w.alloc (.cells #[t.d,t.i] 25)):=⟨_,rfl⟩
 have hB0:Below w w W2:=by rw [hW2];exact (zy2 _ _).alloc (zz8 _) _
 have KT:Hid (Blk W2 w 25 #[t.d,t.i]):=by rw [hW2];exact Blk.new w _ _
 rw [←hW2]
 clear hW2
 obtain ⟨y0,y1,ylt⟩:=KT.out.c2
 go_wp2_with fail
 refine (impl_TypeValid xs t W2 _ F (ArrDt.below HX.out hB0 HF.out) (HF.out.mono hB0.size)).mono ?_
 rintro e w3 ⟨rfl,hb3⟩
 have hB3:=hB0.trans (hb3.mono hB0.size)
 have KT3:=jj (KT.out.same (hb3.block _ KT.out.lt))
 clear hb3 KT y0 y1 ylt hB0
 cases e1:typeValidB xs t with
 |false =>
  have HE:Hid (uptoB xs t dp=false):=by unfold Hid uptoB;rw [e1];rfl
  clear e1
  have HFin:Hid (MadeVals2 (uptoV xs t dp) (uptoB xs t dp) w (.returned (.tuple #[.slice none 0 0,.bool false])) w3):=⟨_,[],by rw [HE.out],hB3,by rw [uptoV_no HE.out];exact Arr.nil,Free.nil _,Fresh.nil _ _⟩
  go_wp2
  go_ret2
  exact HFin.out
 |true =>
  obtain ⟨hw,hto⟩:=zAL e1
  have HW:=jj hw
  have HT:=jj (zAO hto)
  have HE1:=jj e1
  clear e1 hw hto
  go_wp2_with fail
  refine (zAC dp 0 4 w3).mono ?_
  rintro e w4 ⟨rfl,hb4⟩
  subst hb4
  have hB4:=hB3
  have KT4:=KT3
  clear KT3
  cases e2:withinB dp 0 4 with
  |false =>
   have HE:Hid (uptoB xs t dp=false):=by unfold Hid uptoB;rw [HE1.out,e2];rfl
   clear e2
   have HFin:Hid (MadeVals2 (uptoV xs t dp) (uptoB xs t dp) w (.returned (.tuple #[.slice none 0 0,.bool false])) w3):=⟨_,[],by rw [HE.out],hB4,by rw [uptoV_no HE.out];exact Arr.nil,Free.nil _,Fresh.nil _ _⟩
   go_wp2
   go_ret2
   exact HFin.out
  |true =>
   have hr:=(zA8 _ _ _).1 e2
   obtain ⟨n,rfl⟩:∃ n:Nat,dp=(n:Int):=⟨dp.toNat,by omega⟩
   have hn4:n≤4:=by omega
   have HEQ:Hid (uptoB xs t (n:Int)=decide ((valsL xs n t).length≤400)):=by unfold Hid uptoB;rw [HE1.out,e2];rfl
   have HEV:Hid (uptoB xs t (n:Int)=true→uptoV xs t (n:Int)=valsL xs n t):=fun h=>uptoV_yes h
   clear e2 hr
   obtain ⟨y0,y1,ylt⟩:=KT4.out.c2
   go_wp2_with fail
   refine (impl_countValues n xs HW.out t HT.out (by omega) w3 _ F (ArrDt.below HX.out hB4 HF.out) (HF.out.mono hB4.size)).mono ?_
   rintro e w5 ⟨rfl,hb5⟩
   have hB5:=hB4.trans (hb5.mono hB4.size)
   have KT5:=jj (KT4.out.same (hb5.block _ KT4.out.lt))
   have hbig:=cntU_big xs n t
   clear hb5 KT4 y0 y1 ylt
   by_cases hc:400<cntU xs n t
   ·have e3:decide ((cntU xs n t:Int)>400)=true:=by simp;omega
    have HE:Hid (uptoB xs t (n:Int)=false):=by rw [HEQ.out];exact decide_eq_false (by omega)
    clear hbig hc
    generalize cntU xs n t=cv at *
    have HFin:Hid (MadeVals2 (uptoV xs t (n:Int)) (uptoB xs t (n:Int)) w (.returned (.tuple #[.slice none 0 0,.bool false])) w5):=⟨_,[],by rw [HE.out],hB5,by rw [uptoV_no HE.out];exact Arr.nil,Free.nil _,Fresh.nil _ _⟩
    go_wp2
    go_ret2
    exact HFin.out
   ·have e3:decide ((cntU xs n t:Int)>400)=false:=by simp;omega
    have hlen:(valsL xs n t).length≤400:=by omega
    have HE:Hid (uptoB xs t (n:Int)=true):=by rw [HEQ.out];exact decide_eq_true hlen
    have HVE:=jj (HEV.out HE.out)
    have HSM:Hid (∀ v∈valsL xs n t,v.size≤60):=fun v hv=>by
     have:=(vals_small HW.out hn4 HT.out hv).1
     unfold nodes at this
     omega
    clear hbig hc
    generalize cntU xs n t=cv at *
    obtain ⟨y0,y1,ylt⟩:=KT5.out.c2
    go_wp2_with fail
    refine (impl_values n xs HW.out t HT.out (by omega) hlen w5 _ F (ArrDt.below HX.out hB5 HF.out) (HF.out.mono hB5.size)).mono ?_
    rintro e w6 ⟨v6,F6,rfl,hb6,ha6,hf6⟩
    have hB6:=hB5.trans (hb6.mono hB5.size)
    have HA6:=jj ha6
    have HU6:=jj hf6.under
    obtain ⟨A6,cap6,rfl,-,-⟩:=ha6.form
    generalize valsL xs n t=vs at *
    clear ha6 hf6 hb6 KT5 y0 y1 ylt e3
    go_wp2
    go_loopw [8,32] (fun ov kv wr=>∃ k:Nat,∃ Fo:List Nat,k≤vs.length∧kv=.int .i64 k∧Hid (Own wr w6.heap.size 45 3 VR (kidTo vs k) ov Fo)∧Hid (Free wr Fo)∧Hid (∀ b∈Fo,w6.heap.size≤b)∧Below w6 w6 wr) (fun _ kv _=>vs.length-(intOf kv).toNat)
    case atStart=>exact ⟨0,[],Nat.zero_le _,rfl,(show Own _ _ _ _ _ (kidTo vs 0) _ _ from Own.nil _ _ _ _ _),Free.nil _,(fun b hb=>by cases hb),zy2 _ _⟩
    case round =>
     obtain ⟨k,Fo,hk,rfl,HO,HFo,HLo,hB⟩:=hrel
     obtain ⟨oA,ocap,hov,-,-⟩:=HO.out.form
     subst hov
     have hkl:=kidTo_len vs k
     by_cases hlt:k<vs.length
     ·have g1:(0:Int)≤(k:Int):=by omega
      have g2:(k:Int)<(vs.length:Int):=by omega
      obtain ⟨b9,off9,rfl⟩:=HA6.out.ptr (by omega)
      obtain ⟨A7,cap7,G7,hb9,n0,n1,n2,HV7,HG7,-,-,-⟩:=ArrV.at HA6.out HU6.out hB k hlt
      have HS:=jj (kidTo_succ vs k hlt)
      have HZK:=jj (Nat.le_trans (HSM.out vs[k] (List.getElem_mem hlt)) (show 60≤1048576 by omega))
      obtain ⟨kq,hkq⟩:∃ u,u=vs[k]:=⟨_,rfl⟩
      rw [←hkq] at n0 n1 n2 HV7 HS HZK
      clear hkq
      have hmx:(kidTo vs k).length+1≤maxLen:=by unfold maxLen;omega
      have hby:((kidTo vs k).length+1)*40≤140737488355328:=by omega
      go_wp2_with fail
      obtain ⟨wk,hwk⟩:∃ X,X=(wr.alloc (.cells #[kq.c,kq.n,.slice A7 kq.ks.length cap7] 45)):=⟨_,rfl⟩
      have hbk:Below wr wr wk:=by rw [hwk];exact (zy2 _ _).alloc (zz8 _) _
      rw [←hwk]
      clear hwk n0 n1 n2 hb9
      refine (impl_ownValue kq wk _ G7 ((HV7.out.below hB HG7.out).below hbk (HG7.out.mono hB.size)) (HG7.out.mono (Nat.le_trans hB.size hbk.size)) HZK.out).mono ?_
      rintro e w8 ⟨cs8,F8,rfl,hb8,hp8,hfr8,hfs8⟩
      obtain ⟨kv8,rfl,ha8⟩:=(zA6 _ _ _).1 hp8
      obtain ⟨A8,cap8,rfl,-,-⟩:=ha8.form
      have hbr8:Below wr wr w8:=hbk.trans (hb8.mono hbk.size)
      have HO8:=jj (HO.out.below (fun x cs G hk h=>VR_mono' _ _ x cs G hk h) hbr8)
      have HP8:=jj hp8
      have HFR8:=jj hfr8
      have HFS8:Hid (∀ b∈F8,wr.heap.size≤b∧b<w8.heap.size):=fun b hb=>⟨Nat.le_trans hbk.size (hfs8 b hb).1,(hfs8 b hb).2⟩
      have hB8:Below w6 w6 w8:=hB.trans (hbr8.mono hB.size)
      have HBR:=jj hbr8
      clear ha8 hp8 hfr8 hfs8 hb8 hbk hbr8
      go_wp2_with (at_builtin;refine Halt.mk ?_)
      refine Halt.of (zA5 (P:=Tryz.prog) rfl _ _ 43 rfl i0 _ 40 Tryz.underlying43 HI.out HZ0.out HZ1.out HZ2.out rfl (by decide) VR_len' VR_mono' (by rfl) HO8.out kq 45 [kq.c,kq.n,.slice A8 kq.ks.length cap8] F8 _ (by rfl) (by simp) (by simp [Value.oneCell']) HP8.out (fun b hb=>(HFS8.out b hb).2) (fun g hg hgF=>Nat.lt_irrefl _ (zz9 (HO.out.row g hg).2 (HFS8.out g hgF).1)) hmx hby hB8.size ?_)
      intro g cp w9 hown9 hgr9 hat9
      have hB9:Below w6 w6 w9:=(hB8.alloc hB8.size _).grown hgr9 (by have:=hB8.size;simp;omega) (fun g hg=>(HO.out.row g (zA1.2 hg)).1)
      have HF9:Hid (Free w9 (Fo ++ F8)):=push_free HFo.out HO.out.under HBR.out HFR8.out HFS8.out hgr9 HO.out.apart (fun g hg=>(HO.out.row g hg).2)
      have HL9:Hid (∀ b∈Fo ++ F8,w6.heap.size≤b):=fun b hb=>by
       rcases List.mem_append.1 hb with hb | hb
       ·exact HLo.out b hb
       ·exact Nat.le_trans hB.size (HFS8.out b hb).1
      have HO9:=jj hown9
      clear hown9 hgr9 hat9
      go_wp2
      go_roundw
      case rel=>exact ⟨k+1,_,hlt,by go_num,(by rw [HS.out];exact HO9.out),HF9.out,HL9.out,hB9⟩
      case measure=>(simp [intOf] <;> omega)
     ·have HAL:=jj (kidTo_all vs (Nat.le_of_not_lt hlt))
      have HFin:Hid (MadeVals2 (uptoV xs t (n:Int)) (uptoB xs t (n:Int)) w (.returned (.tuple #[.slice oA (kidTo vs k).length ocap,.bool true])) wr):=by
       refine ⟨_,_,by rw [HE.out],hB6.trans (hB.mono hB6.size),?_,HO.out.free HFo.out,HO.out.fresh hB6.size (fun b hb=>Nat.le_trans hB6.size (HLo.out b hb))⟩
       have h:=HO.out.arr
       rw [HAL.out] at h
       rw [HVE.out,HAL.out]
       exact h
      go_wp2
      go_ret2
      exact HFin.out
theorem tenDigits (k:Nat) (h:k<10):ByteArray.extract ⟨#[48,49,50,51,52,53,54,55,56,57,97,98,99,100,101,102,103,104,105,106,107,108,109,110,111,112,113,114,115,116,117,118,119,120,121,122]⟩ k (k+1)=bs (digT (k:Int)):=by
 have key:∀ j:Fin 10,ByteArray.extract ⟨#[48,49,50,51,52,53,54,55,56,57,97,98,99,100,101,102,103,104,105,106,107,108,109,110,111,112,113,114,115,116,117,118,119,120,121,122]⟩ j.1 (j.1+1)=bs (digT (j.1:Int)):=by decide
 exact key ⟨k,h⟩
theorem strconv_Itoa (k:Nat) (h:k<10) (w:World):Calls Tryz.prog 97 #[(k:Int)] w fun e w'=>e=.returned (.string (bs (digT (k:Int))))∧Below w w w':=by
 have t1:decide (0≤(k:Int))=true:=decide_eq_true (by omega)
 have t2:decide ((k:Int)<100)=true:=decide_eq_true (by omega)
 have t3:decide ((k:Int)<10)=true:=decide_eq_true (by omega)
 have t2':decide (k<100)=true:=decide_eq_true (by omega)
 have t3':decide (k<10)=true:=decide_eq_true (by omega)
 have a1:IntKind.i64.wrap ((k:Int)+1)=(k:Int)+1:=IntWalk.i64_in _ (by omega)
 have g1:(0:Int)≤(k:Int):=by omega
 have g2:(k:Int)+1≤36:=by omega
 have g3:(k:Int)≤(k:Int)+1:=by omega
 have g4:k+1≤36:=by omega
 have hf:=jj (tenDigits k h)
 clear h
 go_enter Tryz.func97,Tryz.ntmps97
 go_wp2
 go_ret
 exact ⟨by rw [←hf.out];rfl,zy2 _ _⟩
theorem strOf_let (n:Int) (h0:0≤n) (h5:n≤5):strOfNums [97+n]=bs (letT n):=by
 apply tl_inj
 rw [tl_bs]
 show (strOfNums [97+n]).data.toList=_
 rw [strOfNums_data]
 unfold letT
 simp only [List.map_cons,List.map_nil,List.cons.injEq,and_true]
 congr 1
 omega
theorem impl_letter (n:Int) (h0:0≤n) (h5:n≤5) (w:World):Calls Tryz.prog 81 #[.int .i64 n] w fun e w'=>e=.returned (.string (bs (letT n)))∧Below w w w':=by
 have hf:=jj (strOf_let n h0 h5)
 have a1:IntKind.i64.wrap (97+n)=97+n:=IntWalk.i64_in _ (by omega)
 have a2:IntKind.u8.wrap n=n:=IntWalk.u8_in _ (by omega)
 have a3:IntKind.u8.wrap (97+n)=97+n:=IntWalk.u8_in _ (by omega)
 have hcv:=conv1 w (97+n)
 clear h0 h5
 go_enter Tryz.func81,Tryz.ntmps81
 go_wp2
 go_ret
 exact ⟨by rw [←hf.out];rfl,(zy2 _ _).alloc (zz8 _) _⟩
theorem impl_rangeText (a b:Nat) (ha:a<10) (hb:b<10) (w:World):Calls Tryz.prog 82 #[(a:Int),(b:Int)] w fun e w'=>e=.returned (.string (bs (if (a:Int)=(b:Int) then digT (a:Int) else digT (a:Int) ++ (45 :: digT (b:Int)))))∧Below w w w':=by
 obtain ⟨Z,hZ⟩:∃ z,bs (if (a:Int)=(b:Int) then digT (a:Int) else digT (a:Int) ++ (45 :: digT (b:Int)))=z:=⟨_,rfl⟩
 rw [hZ]
 by_cases hab:(a:Int)=(b:Int)
 ·have t0:((a:Int)==(b:Int))=true:=by rw [hab];simp
  have hf:Hid (Z=bs (digT (a:Int))):=by unfold Hid;rw [←hZ,if_pos hab]
  clear hab hZ
  go_enter Tryz.func82,Tryz.ntmps82
  go_wp2_with fail
  refine (strconv_Itoa a ha _).mono ?_
  rintro e w1 ⟨rfl,hb1⟩
  go_wp2
  go_ret
  exact ⟨zAK hf.out.symm,hb1⟩
 ·have t0:((a:Int)==(b:Int))=false:=by rw [beq_eq_false_iff_ne];exact hab
  obtain ⟨X,hX⟩:∃ x,bs (digT (a:Int))=x:=⟨_,rfl⟩
  obtain ⟨Y,hY⟩:∃ x,bs (digT (b:Int))=x:=⟨_,rfl⟩
  have hx1:X.size=1:=by rw [←hX];rfl
  have hy1:Y.size=1:=by rw [←hY];rfl
  have hf:Hid (Z=(X ++ ⟨#[45]⟩) ++ Y):=by
   unfold Hid;rw [←hZ,if_neg hab,←hX,←hY]
   apply tl_inj;simp only [zA9,tl_bs];simp [tl]
  have HX:=jj hX
  have HY:=jj hY
  have c1:X.size+1≤9223372036854775807:=by omega
  have c2:¬9223372036854775807<X.size+1:=by omega
  have c3:X.size+1+Y.size≤9223372036854775807:=by omega
  have c4:¬9223372036854775807<X.size+1+Y.size:=by omega
  clear hab hX hY hx1 hy1 hZ
  go_enter Tryz.func82,Tryz.ntmps82
  go_wp2_with fail
  refine (strconv_Itoa a ha _).mono ?_
  rintro e w1 ⟨rfl,hb1⟩
  rw [HX.out]
  go_wp2_with fail
  refine (strconv_Itoa b hb _).mono ?_
  rintro e w2 ⟨rfl,hb2⟩
  rw [HY.out]
  have hB:=hb1.trans (hb2.mono hb1.size)
  go_wp2
  go_ret
  exact ⟨zAK hf.out.symm,hB⟩
def TxtPS (p:P):Prop:=∀ (xs:List Dt) (_:WorldOK xs) (d:Nat) (_:d≤10) (t:Ty) (_:TyIn xs.length t) (_:shapeB xs d t p=true) (_:nodesP p≤60) (w:World) (x:Value) (F:List Nat) (cs:List Value) (G:List Nat),Arr w (DtR w) xs x F→Under w F→PR w p cs G→Under w G →
 Calls Tryz.prog 34 #[x,.agg #[t.d,t.i],.agg cs.toArray] w fun e w'=>e=.returned (.string (bs (pT xs d t p)))∧Below w w w'
theorem nodesP_kid {p k:P} (h:k∈p.ks):nodesP k≤nodesP p:=by
 obtain ⟨i,hi,rfl⟩:=List.getElem_of_mem h
 have h1:=nodesP_mem hi
 rw [nodesP_ks p];omega
end Go.Proofs.YtjjclcmmfeegfaaGreatDoor
namespace Go.Proofs.YtjjclcmmfeegfaaGreatDoor
open Go.Shelf Go.RowKit
open Go.Shelf
def Shelflays156_ren:Go.Shelf.Ren:=⟨fun | 156=>98 | 165=>146 | 166=>147 | 169=>148 | 240=>185 | 241=>186 | 276=>215 | 277=>216 | n=>n,fun | 31=>60 | 9=>9 | 3=>3 | 4=>4 | 0=>0 | 20=>20 | 72=>158 | 76=>113 | 70=>156 | 37=>22 | 75=>112 | 127=>193 | 164=>222 | 5=>5 | 80=>160 | n=>n,fun | n=>n⟩
theorem Shelflays156:Go.Proofs.Lays.n156 Tryz.prog Shelflays156_ren:={
 mixed:=by kernel_rfl
 f156:=Tryz.func98.trans (congrArg some (by kernel_rfl))
 f165:=Tryz.func146.trans (congrArg some (by kernel_rfl))
 f166:=Tryz.func147.trans (congrArg some (by kernel_rfl))
 f169:=Tryz.func148.trans (congrArg some (by kernel_rfl))
 f240:=Tryz.func185.trans (congrArg some (by kernel_rfl))
 f241:=Tryz.func186.trans (congrArg some (by kernel_rfl))
 f276:=Tryz.func215.trans (congrArg some (by kernel_rfl))
 f277:=Tryz.func216.trans (congrArg some (by kernel_rfl))
 t0:=Tryz.underlying0
 a0:=Tryz.isAgg0
 z0:=Tryz.sizeOf0
 v0:=Tryz.zeroValue0
 t3:=Tryz.underlying3
 a3:=Tryz.isAgg3
 z3:=Tryz.sizeOf3
 v3:=Tryz.zeroValue3
 t4:=Tryz.underlying4
 a4:=Tryz.isAgg4
 z4:=Tryz.sizeOf4
 v4:=Tryz.zeroValue4
 t9:=Tryz.underlying9
 a9:=Tryz.isAgg9
 z9:=Tryz.sizeOf9
 v9:=Tryz.zeroValue9
 t20:=Tryz.underlying20
 a20:=Tryz.isAgg20
 z20:=Tryz.sizeOf20
 v20:=Tryz.zeroValue20
 t31:=Tryz.underlying60
 a31:=Tryz.isAgg60
 z31:=Tryz.sizeOf60
 v31:=Tryz.zeroValue60
 t37:=Tryz.underlying22
 a37:=Tryz.isAgg22
 z37:=Tryz.sizeOf22
 v37:=Tryz.zeroValue22
 t70:=Tryz.underlying156
 a70:=Tryz.isAgg156
 z70:=Tryz.sizeOf156
 v70:=Tryz.zeroValue156
 t72:=Tryz.underlying158
 a72:=Tryz.isAgg158
 z72:=Tryz.sizeOf158
 v72:=Tryz.zeroValue158
 t75:=Tryz.underlying112
 a75:=Tryz.isAgg112
 z75:=Tryz.sizeOf112
 v75:=Tryz.zeroValue112
 t76:=Tryz.underlying113
 a76:=Tryz.isAgg113
 z76:=Tryz.sizeOf113
 v76:=Tryz.zeroValue113
 t127:=Tryz.underlying193
 a127:=Tryz.isAgg193
 z127:=Tryz.sizeOf193
 v127:=Tryz.zeroValue193
 t164:=Tryz.underlying222
 a164:=Tryz.isAgg222
 z164:=Tryz.sizeOf222
 v164:=Tryz.zeroValue222 }
theorem ShelfBuilder_Extra_156:Builder.Extra Tryz.prog Shelflays156_ren:={
 sizeBuilder:=by kernel_rfl
 liesBuilder:=by kernel_rfl
 t5:=Tryz.underlying5
 a5:=Tryz.isAgg5
 z5:=Tryz.sizeOf5
 v5:=Tryz.zeroValue5
 infoByte:=by kernel_rfl
 cellsByte:=by kernel_rfl
 sizeByte:=by kernel_rfl
 neB5:=by decide }
open Go.RowKit in
theorem Shelfstrings_Join_none (a:Option Addr) (c:Nat) (sep:ByteArray) (w:World) :
  Calls Tryz.prog 98 #[.slice a 0 c,.string sep] w fun e w'=>e=.returned (.string ⟨#[]⟩)∧w'=w:=Any.strings_Join_none Shelflays156 ShelfBuilder_Extra_156 a c sep w
open Go.RowKit in
theorem Shelfstrings_Join (bk o c:Nat) (xs:List ByteArray) (sep:ByteArray) (w:World) (hcells:∀ (j:Nat) x,xs[j]?=some x→w.cell? ⟨bk,o+j,none⟩=some (.string x)) (hbk:bk<w.heap.size) (hN:xs.length≤140737488355328) (hcap:xs.length≤c) (hlen:(Lib.join (xs.map (·.data.toList)) sep.data.toList).length≤140737488355328) :
  Calls Tryz.prog 98 #[.slice (some ⟨bk,o,none⟩) xs.length c,.string sep] w fun e w'=>e=.returned (.string ⟨(Lib.join (xs.map (·.data.toList)) sep.data.toList).toArray⟩)∧Below w w w':=Any.strings_Join Shelflays156 ShelfBuilder_Extra_156 bk o c xs sep w hcells hbk hN hcap hlen
theorem join_call (ss:List ByteArray) (sep:ByteArray) (hl:ss.length≤1000) (hj:(Lib.join (ss.map tl) (tl sep)).length≤1000000) (w:World) (v:Value) (F:List Nat) (hx:Arr w (StrR w) ss v F) (hf:Under w F) :
  Calls Tryz.prog 98 #[v,.string sep] w fun e w'=>e=.returned (.string (bs (Lib.join (ss.map tl) (tl sep))))∧Below w w w':=by
 obtain ⟨A,cap,rfl,hc1,hc2⟩:=hx.form
 rcases Nat.eq_zero_or_pos ss.length with h0 | h0
 ·have h1:ss=[]:=List.length_eq_zero_iff.1 h0
  subst h1
  refine (Shelfstrings_Join_none A cap sep w).mono ?_
  rintro e w' ⟨rfl,rfl⟩
  exact ⟨rfl,zy2 _ _⟩
 ·obtain ⟨b,off,rfl⟩:=hx.ptr h0
  have hat:=ArrStr.at hx hf (zy2 _ _) 0 h0
  refine (Shelfstrings_Join b off cap ss sep w (fun j x hj=>?_) hat.1 (by omega) hc1 (by show (Lib.join (ss.map tl) (tl sep)).length≤_;omega)).mono ?_
  ·obtain ⟨hjl,hje⟩:=List.getElem?_eq_some_iff.1 hj
   rw [←hje]
   exact (ArrStr.at hx hf (zy2 _ _) j hjl).2
  ·rintro e w' ⟨rfl,hb⟩
   exact ⟨rfl,hb⟩
end Go.Proofs.YtjjclcmmfeegfaaGreatDoor
namespace Go.Proofs.YtjjclcmmfeegfaaGreatDoor
open Go.RowKit
theorem impl_listed (ss:List ByteArray) (hl:ss.length≤1000) (hj:(Lib.join (ss.map tl) [44]).length≤1000000) (w:World) (v:Value) (F:List Nat) (hx:Arr w (StrR w) ss v F) (hf:Under w F) :
  Calls Tryz.prog 83 #[v] w fun e w'=>e=.returned (.string (bs (listedT ss)))∧Below w w w':=by
 obtain ⟨A,cap,rfl,hc1,hc2⟩:=hx.form
 have HX:=jj hx
 have HF:=jj hf
 clear hx hf
 by_cases h0:ss=[]
 ·have t0:((ss.length:Int)==0)=true:=by rw [h0];rfl
  have hf:Hid (bs (listedT ss)=⟨#[]⟩):=by unfold Hid listedT;rw [if_pos h0];rfl
  clear h0
  go_enter Tryz.func83,Tryz.ntmps83
  go_wp2
  go_ret
  exact ⟨zAK hf.out.symm,zy2 _ _⟩
 ·have t0:((ss.length:Int)==0)=false:=by
   rw [beq_eq_false_iff_ne];intro h;exact h0 (List.length_eq_zero_iff.1 (by omega))
  have hf0:bs (listedT ss)=(bs [40] ++ bs (Lib.join (ss.map tl) [44])) ++ bs [41]:=by
   unfold listedT;rw [if_neg h0,bs_append,bs_append];rfl
  have hsz:(bs (Lib.join (ss.map tl) [44])).size≤1000000:=by rw [bs_size];exact hj
  have HJ:=jj hj
  clear h0 hj
  obtain ⟨J,hJ⟩:∃ j,bs (Lib.join (ss.map tl) [44])=j:=⟨_,rfl⟩
  rw [hJ] at hf0 hsz
  have HJJ:=jj hJ
  have hf:=jj hf0
  clear hJ hf0
  have hj1:1+J.size≤9223372036854775807:=by omega
  have hj3:¬9223372036854775807<1+J.size:=by omega
  have hj4:1+J.size+1≤9223372036854775807:=by omega
  have hj5:¬9223372036854775807<1+J.size+1:=by omega
  go_enter Tryz.func83,Tryz.ntmps83
  go_wp2_with fail
  refine (join_call ss ⟨#[44]⟩ hl HJ.out w _ F HX.out HF.out).mono ?_
  rintro e w' ⟨rfl,hb'⟩
  rw [show bs (Lib.join (ss.map tl) (tl ⟨#[44]⟩))=J from HJJ.out]
  go_wp2
  go_ret
  exact ⟨zAK hf.out.symm,hb'⟩
end Go.Proofs.YtjjclcmmfeegfaaGreatDoor
