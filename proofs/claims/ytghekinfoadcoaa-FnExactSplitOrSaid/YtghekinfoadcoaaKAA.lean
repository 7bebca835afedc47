/-
  Lemmas and contracts of functions: Plain definitions: the data of the program (types, constructors, worlds, values, patterns) as Lean data, and how they lie in memory. Conditions: none. Types as Lean data, and how they lie in memory. Conditions: none. Ctors as Lean data, and how they lie in memory. Conditions: none. Datas as Lean data, and how they lie in memory. Conditions: none. Contract of szTypeS. Conditions: the bound is between 0 and 1048576. Contract of szCtor. Conditions: the bound is between 0 and 1048576. Contract of szCtorS. Conditions: the bound is between 0 and 1048576. Contract of szData. Conditions: the bound is between 0 and 1048576. Contract of szDataS. Conditions: the bound is between 0 and 1048576. Contract of toType (a deep copy). Conditions: no more than 1048576 parts. Contract of toTypeS (deep copies). Conditions: no more than 1048576 parts. Contract of toCtor (a deep copy). Conditions: no more than 1048576 parts. Contract of toCtorS (deep copies). Conditions: no more than 1048576 parts. Contract of toData (a deep copy). Conditions: no more than 1048576 parts. Contract of toDataS (deep copies). Conditions: no more than 1048576 parts. Contract of eqType at equal arguments. Conditions: both stand for the same. Contract of eqTypeS at equal lists. Conditions: both stand for the same list. Contract of eqCtor at equal arguments. Conditions: both stand for the same. Contract of eqCtorS at equal lists. Conditions: both stand for the same list. Contract of eqData at equal arguments. Conditions: both stand for the same. Contract of eqDataS at equal lists. Conditions: both stand for the same list. Patterns as Lean data, and how they lie in memory. Conditions: none. Contracts of the functions szPattern, szPatternS: they count the nodes down from a bound. Conditions: the bound is between 0 and 1048576. Contracts of the functions toPattern, toPatternS (deep copies). Conditions: no more than 1048576 parts. Contracts of eqPattern, eqPatternS at equal trees. Conditions: both stand for the same tree of at most 1048576 parts. Variables with their types as Lean data, and how they lie in memory. Conditions: none. Small contracts on types: within, l1Arg, argOk, l1Big, l1Data. Conditions: none. Contracts of the two functions NameValid (the program's and the reference's). Conditions: none. l1Ctor of the reference: a constructor within the limits. Conditions: none. l1Big, l1Data: names of data types. Conditions: none. What a valid world is, in plain Lean: one walk over the data types with the names met so far. Conditions: none. What a valid type is. Conditions: none. What a valid world gives: bounds on its parts. Conditions: none.
-/
import Derived.WalkKit
import Derived.WalkSpells
import Derived.WalkLawsBesides
import Derived.Lib.Hide
import Derived.Deep.Draws
import Derived.Laws.OwnMore
import Derived.Test.YtghekinfoadcoaaChecked
import Derived.Deep.RegionHeld3
import Derived.Deep.RegionWith
import Derived.BigQuiet

set_option linter.unusedVariables false
set_option linter.unusedSimpArgs false
set_option maxRecDepth 100000
set_option maxHeartbeats 1600000

namespace Go.Proofs.Ytghekinfoadcoaa
open Go.RowKit
theorem jj {p : Prop} (h : p) : Hid p := h
theorem zz7 (w : World) (a : Addr) (u : Value) (k : Nat) (h : k ≠ a.block) : (w.setCell a u).heap[k]? = w.heap[k]? := Below.heap_setCell w a u k h
theorem zz8 (n : Nat) : n ≤ n := Nat.le_refl n
theorem zz9 {n m k : Nat} (h : n < m) (g : m ≤ k) : n < k := Nat.lt_of_lt_of_le h g
theorem zy1 {α : Type _} {a b : α} : a ∈ [b] ↔ a = b := List.mem_singleton
theorem zy2 (B : Nat) (w : World) : Below B w w := Below.refl B w
theorem zz1 {α : Type _} {xs : List α} {i : Nat} (h : i < xs.toArray.size) : xs.toArray[i] = xs[i]'(by simpa using h) := rfl
theorem zz2 {α : Type _} (a : α) (bs : List α) (h : 0 < (a :: bs).length) : (a :: bs)[0] = a := rfl
theorem zz3 {α : Type _} (a : α) (bs : List α) (i : Nat) (h : i + 1 < (a :: bs).length) : (a :: bs)[i + 1] = bs[i]'(Nat.lt_of_succ_lt_succ h) := rfl
theorem zz4 {α : Type _} (l : List α) (i : Nat) (a : α) : l.toArray.setIfInBounds i a = (l.set i a).toArray := List.setIfInBounds_toArray l i a
theorem zz5 {α : Type _} {x : α} {xs : List α} {a : α} : (x :: xs).set 0 a = a :: xs := rfl
theorem zz6 {α : Type _} {x : α} {xs : List α} {i : Nat} {a : α} : (x :: xs).set (i + 1) a = x :: xs.set i a := rfl
/-! ### Names -/
def lowerAll (l:List UInt8):Bool:=l.all fun c=>97≤c && c≤122
def nameOk:List UInt8→Bool
 |[]=>false
 |c :: l=>decide (l.length≤4) && (65≤c && c≤90) && lowerAll l
theorem lowerAll_one (c:UInt8):lowerAll [c]=(decide (97≤c.toNat) && decide (c.toNat≤122)):=by
 simp only [lowerAll,List.all_cons,List.all_nil,Bool.and_true]
 rw [Bool.eq_iff_iff];simp [UInt8.le_iff_toNat_le]
theorem nameOk_cons (c:UInt8) (l:List UInt8):nameOk (c :: l)=(decide (l.length≤4) && (decide (65≤c.toNat) && decide (c.toNat≤90)) && lowerAll l):=by
 simp only [nameOk]
 rw [Bool.eq_iff_iff];simp [UInt8.le_iff_toNat_le]
/-! ### Footprints: the blocks that a datum lies in -/
def Kept (F:List Nat) (w w':World):Prop:=∀ b∈F,w'.heap[b]?=w.heap[b]?
def Under (n:Nat) (F:List Nat):Prop:=∀ b∈F,b<n
def Fresh (w w':World) (F:List Nat):Prop:=∀ b∈F,w.heap.size≤b∧b<w'.heap.size
def Free (w:World) (F:List Nat):Prop:=F.Nodup∧∀ b∈F,∀ i,w.frozen? ⟨b,i,none⟩=false
theorem Kept.of_below {F:List Nat} {w w':World} {B:Nat} (h:Below B w w') (hF:Under B F):Kept F w w':=fun b hb=>h.block b (hF b hb)
theorem Under.mono {n m:Nat} {F:List Nat} (h:Under n F) (hm:n≤m):Under m F:=fun b hb=>zz9 (h b hb) hm
theorem Under.drew {w:World} {F:List Nat} (h:Under w.heap.size F):Under w.drew.heap.size F:=h
theorem Under.nil (n:Nat):Under n []:=fun b hb=>by cases hb
theorem Under.sub {n:Nat} {F G:List Nat} (h:Under n F) (hs:∀ b∈G,b∈F):Under n G:=fun b hb=>h b (hs b hb)
theorem Fresh.under {w w':World} {F:List Nat} (h:Fresh w w' F):Under w'.heap.size F:=fun b hb=>(h b hb).2
theorem Fresh.nil (w w':World):Fresh w w' []:=fun b hb=>by cases hb
theorem Free.nil (w:World):Free w []:=⟨List.nodup_nil,fun b hb=>by cases hb⟩
theorem Free.kept {w w':World} {F:List Nat} (h:Free w F) (hk:Kept F w w'):Free w' F :=
 ⟨h.1,fun b hb i=>(World.frozen?_of_block (w:=w) (a:=⟨b,i,none⟩) (hk b hb)).trans (h.2 b hb i)⟩
/-! ### Rows of elements of several cells -/
def CellsAt (w:World) (b off:Nat) (cs:List Value):Prop:=∀ j u,cs[j]?=some u→w.cell? ⟨b,off+j,none⟩=some u
theorem CellsAt.same {w w':World} {b off:Nat} {cs:List Value} (h:CellsAt w b off cs) (e:w'.heap[b]?=w.heap[b]?):CellsAt w' b off cs :=
 fun j u hj=>(World.cell?_of_block (a:=⟨b,off+j,none⟩) e).trans (h j u hj)
theorem CellsAt.left {w:World} {b off:Nat} {c d:List Value} (h:CellsAt w b off (c ++ d)):CellsAt w b off c :=
 fun j u hj=>h j u (by rw [List.getElem?_append_left (List.getElem?_eq_some_iff.1 hj).1];exact hj)
theorem CellsAt.right {w:World} {b off:Nat} {c d:List Value} (h:CellsAt w b off (c ++ d)):CellsAt w b (off+c.length) d :=
 fun j u hj=>by
  have:=h (c.length+j) u (by rw [List.getElem?_append_right (by omega)];simpa using hj)
  rwa [←Nat.add_assoc] at this
theorem CellsAt.append {w:World} {b off:Nat} {c d:List Value} (h:CellsAt w b off c) (h':CellsAt w b (off+c.length) d):CellsAt w b off (c ++ d) :=
 fun j u hj=>by
  rcases Nat.lt_or_ge j c.length with hl | hl
  ·exact h j u (by rwa [List.getElem?_append_left hl] at hj)
  ·have:=h' (j-c.length) u (by rwa [List.getElem?_append_right hl] at hj)
   rwa [show off+c.length+(j-c.length)=off+j by omega] at this
def Flat {α:Type} (R:α→List Value→List Nat→Prop):List α→List Value→List Nat→Prop
 |[],cs,F=>cs=[]∧F=[]
 |x :: xs,cs,F=>∃ c1 c2 F1 F2,cs=c1 ++ c2∧F=F1 ++ F2∧R x c1 F1∧Flat R xs c2 F2
theorem Flat.append {α:Type} {R:α→List Value→List Nat→Prop}:∀ {xs ys:List α} {c d:List Value} {F G:List Nat},Flat R xs c F→Flat R ys d G→Flat R (xs ++ ys) (c ++ d) (F ++ G)
 |[],ys,c,d,F,G,h,h'=>by obtain ⟨rfl,rfl⟩:=h;exact h'
 |x :: xs,ys,c,d,F,G,h,h'=>by
  obtain ⟨c1,c2,F1,F2,rfl,rfl,h1,h2⟩:=h
  exact ⟨c1,c2 ++ d,F1,F2 ++ G,by simp,by simp,h1,h2.append h'⟩
theorem Flat.one {α:Type} {R:α→List Value→List Nat→Prop} {x:α} {c:List Value} {F:List Nat} (h:R x c F):Flat R [x] c F:=⟨c,[],F,[],by simp,by simp,h,rfl,rfl⟩
theorem Flat.split {α:Type} {R:α→List Value→List Nat→Prop}:∀ (xs:List α) {ys:List α} {c:List Value} {F:List Nat},Flat R (xs ++ ys) c F→∃ c1 c2 F1 F2,c=c1 ++ c2∧F=F1 ++ F2∧Flat R xs c1 F1∧Flat R ys c2 F2
 |[],ys,c,F,h=>⟨[],c,[],F,rfl,rfl,⟨rfl,rfl⟩,h⟩
 |x :: xs,ys,c,F,h=>by
  obtain ⟨c1,c2,F1,F2,rfl,rfl,h1,h2⟩:=h
  obtain ⟨d1,d2,G1,G2,rfl,rfl,h3,h4⟩:=Flat.split xs h2
  exact ⟨c1 ++ d1,d2,F1 ++ G1,G2,by simp,by simp,⟨c1,d1,F1,G1,rfl,rfl,h1,h3⟩,h4⟩
theorem Flat.mono {α:Type} {R R':α→List Value→List Nat→Prop}:∀ {xs:List α} {c:List Value} {F:List Nat},Flat R xs c F→(∀ x∈xs,∀ cs G,(∀ b∈G,b∈F)→R x cs G→R' x cs G)→Flat R' xs c F
 |[],c,F,h,_=>h
 |x :: xs,c,F,h,hR=>by
  obtain ⟨c1,c2,F1,F2,rfl,rfl,h1,h2⟩:=h
  exact ⟨c1,c2,F1,F2,rfl,rfl,hR x (by simp) _ _ (fun b hb=>List.mem_append.2 (.inl hb)) h1,h2.mono fun y hy cs G hG h=>hR y (by simp [hy]) cs G (fun b hb=>List.mem_append.2 (.inr (hG b hb))) h⟩
theorem Flat.length {α:Type} {R:α→List Value→List Nat→Prop} {k:Nat} (hk:∀ x cs F,R x cs F→cs.length=k):∀ {xs:List α} {c:List Value} {F:List Nat},Flat R xs c F→c.length=xs.length*k
 |[],c,F,h=>by obtain ⟨rfl,-⟩:=h;simp
 |x :: xs,c,F,h=>by
  obtain ⟨c1,c2,F1,F2,rfl,rfl,h1,h2⟩:=h
  have:=h2.length hk
  have:=hk _ _ _ h1
  simp only [List.length_append,List.length_cons,Nat.add_mul]
  omega
theorem Flat.get {α:Type} {R:α→List Value→List Nat→Prop} {k:Nat} (hk:∀ x cs F,R x cs F→cs.length=k) {w:World} {b off:Nat}:∀ {xs:List α} {c:List Value} {F:List Nat} {off:Nat},Flat R xs c F→CellsAt w b off c →
  ∀ {i:Nat} {x:α},xs[i]?=some x→∃ cs G,CellsAt w b (off+i*k) cs∧R x cs G∧∀ b∈G,b∈F
 |[],c,F,off,_,_,i,x,hi=>by simp at hi
 |y :: xs,c,F,off,h,hc,i,x,hi=>by
  obtain ⟨c1,c2,F1,F2,rfl,rfl,h1,h2⟩:=h
  cases i with
  |zero =>
   simp at hi
   subst hi
   exact ⟨c1,F1,by simpa using hc.left,h1,fun b hb=>List.mem_append.2 (.inl hb)⟩
  |succ i =>
   have hc2:=hc.right
   rw [hk _ _ _ h1] at hc2
   obtain ⟨cs,G,a,b,d⟩:=Flat.get (off:=off) hk h2 hc2 (by simpa using hi)
   exact ⟨cs,G,by rwa [show off+(i+1)*k=off+k+i*k by rw [Nat.add_mul];omega],b,fun b hb=>List.mem_append.2 (.inr (d b hb))⟩
def Arr {α:Type} (w:World) (R:α→List Value→List Nat→Prop) (xs:List α) (v:Value) (F:List Nat):Prop :=
 ∃ A cap,v=.slice A xs.length cap∧xs.length≤cap∧cap≤maxLen ∧
  ((xs=[]∧F=[])∨∃ b off cs G,A=some ⟨b,off,none⟩∧CellsAt w b off cs∧Flat R xs cs G∧F=b :: G)
theorem Arr.nil {α:Type} {w:World} {R:α→List Value→List Nat→Prop}:Arr w R [] (.slice none 0 0) []:=⟨none,0,rfl,by simp,by simp [maxLen],.inl ⟨rfl,rfl⟩⟩
theorem Arr.mono {α:Type} {w w':World} {R R':α→List Value→List Nat→Prop} {xs:List α} {v:Value} {F:List Nat} (h:Arr w R xs v F)
  (hF:Kept F w w') (hR:∀ x∈xs,∀ cs G,Kept G w w'→R x cs G→R' x cs G):Arr w' R' xs v F:=by
 obtain ⟨A,cap,rfl,h1,h2,h3⟩:=h
 refine ⟨A,cap,rfl,h1,h2,?_⟩
 rcases h3 with h3 | ⟨b,off,cs,G,rfl,hc,hf,rfl⟩
 ·exact .inl h3
 ·exact .inr ⟨b,off,cs,G,rfl,hc.same (hF b (by simp)),hf.mono fun x hx cs H hH hr=>hR x hx cs H (fun b hb=>hF b (by simp [hH b hb])) hr,rfl⟩
theorem Arr.get {α:Type} {w:World} {R:α→List Value→List Nat→Prop} {k:Nat} (hk:∀ x cs F,R x cs F→cs.length=k) {xs:List α} {A:Option Addr} {n cap:Nat} {F:List Nat} (h:Arr w R xs (.slice A n cap) F) {i:Nat} (hi:i<xs.length) :
  ∃ b off cs G,A=some ⟨b,off,none⟩∧b∈F∧CellsAt w b (off+i*k) cs∧R xs[i] cs G∧∀ b∈G,b∈F:=by
 obtain ⟨A',cap',hv,h1,h2,h3⟩:=h
 cases hv
 rcases h3 with ⟨rfl,-⟩ | ⟨b,off,cs,G,rfl,hc,hf,rfl⟩
 ·simp at hi
 ·obtain ⟨ds,H,a,r,d⟩:=hf.get (off:=off) hk hc (List.getElem?_eq_getElem hi)
  exact ⟨b,off,ds,H,rfl,by simp,a,r,fun b hb=>by simp [d b hb]⟩
theorem Arr.form {α:Type} {w:World} {R:α→List Value→List Nat→Prop} {xs:List α} {v:Value} {F:List Nat} (h:Arr w R xs v F):∃ A cap,v=.slice A xs.length cap∧xs.length≤cap∧cap≤9223372036854775807:=by
 obtain ⟨A,cap,rfl,h1,h2,-⟩:=h
 exact ⟨A,cap,rfl,h1,by unfold maxLen at h2;omega⟩
/-! ### A block that is known whole -/
def Blk (w:World) (g:Nat) (t:TypeId) (C:Array Value):Prop:=w.heap[g]?=some (.cells C t (0,0))
theorem Blk.lt {w:World} {g:Nat} {t:TypeId} {C:Array Value} (h:Blk w g t C):g<w.heap.size:=by
 rcases Nat.lt_or_ge g w.heap.size with hlt | hge
 ·exact hlt
 ·unfold Blk at h;rw [Array.getElem?_eq_none hge] at h;cases h
theorem Blk.cell {w:World} {g:Nat} {t:TypeId} {C:Array Value} (h:Blk w g t C) (i:Nat):w.cell? ⟨g,i,none⟩=C[i]?:=cell_of_row w g i C t (0,0) h
theorem Blk.frozen {w:World} {g:Nat} {t:TypeId} {C:Array Value} (h:Blk w g t C) (i:Nat):w.frozen? ⟨g,i,none⟩=false:=by
 unfold Blk at h
 simp [World.frozen?,h]
theorem Blk.new (w:World) (t:TypeId) (C:Array Value):Blk (w.alloc (.cells C t)) w.heap.size t C:=heap_alloc_new w _
theorem Blk.same {w w':World} {g:Nat} {t:TypeId} {C:Array Value} (h:Blk w g t C) (e:w'.heap[g]?=w.heap[g]?):Blk w' g t C:=e.trans h
theorem Blk.set_ {w:World} {g:Nat} {t:TypeId} {C:Array Value} (h:Blk w g t C) (i:Nat) (u:Value):Blk (w.setCell ⟨g,i,none⟩ u) g t (C.setIfInBounds i u):=by
 unfold Blk at h ⊢
 simp [World.setCell,Array.getElem?_modify,h]
def putCells (w:World) (g:Nat):Nat→List Value→World
 |_,[]=>w
 |i,c :: cs=>putCells (w.setCell ⟨g,i,none⟩ c) g (i+1) cs
theorem zAE (g:Nat):∀ (cs:List Value) (w:World) (i:Nat),w.grownBy (putCells w g i cs) (some g)∧(putCells w g i cs).heap.size=w.heap.size
 |[],w,_=>⟨⟨rfl,rfl,rfl,zz8 _,fun _ _ _=>rfl⟩,rfl⟩
 |c :: cs,w,i=>by
  obtain ⟨h,hs⟩:=zAE g cs (w.setCell ⟨g,i,none⟩ c) (i+1)
  have es:(w.setCell ⟨g,i,none⟩ c).heap.size=w.heap.size:=by simp [World.setCell]
  simp only [putCells]
  exact ⟨⟨h.os,h.tape,h.output,by rw [hs,es];exact zz8 _,fun k hk hne=>(h.block k (by rw [es];exact hk) hne).trans (zz7 _ _ _ _ (fun e=>hne (by rw [e])))⟩,by rw [hs,es]⟩
theorem Blk.put {g:Nat} {t:TypeId}:∀ (cs:List Value) {w:World} {C:Array Value} (i:Nat),Blk w g t C→i+cs.length≤C.size →
  ∃ C',Blk (putCells w g i cs) g t C'∧C'.size=C.size∧(∀ j,j<cs.length→C'[i+j]?=cs[j]?)∧∀ j,j<i∨i+cs.length≤j→C'[j]?=C[j]?
 |[],w,C,i,h,_=>⟨C,h,rfl,fun j hj=>by simp at hj,fun _ _=>rfl⟩
 |c :: cs,w,C,i,h,hi=>by
  simp only [List.length_cons] at hi
  obtain ⟨C',h1,h2,h3,h4⟩:=Blk.put cs (i+1) (h.set_ i c) (by simp;omega)
  refine ⟨C',h1,by simpa using h2,fun j hj=>?_,fun j hj=>?_⟩
  ·cases j with
   |zero =>
    rw [Nat.add_zero,h4 i (.inl (by omega))]
    simp [show i<C.size by omega]
   |succ j =>
    have:=h3 j (by simpa using hj)
    rwa [show i+1+j=i+(j+1) by omega] at this
  ·simp only [List.length_cons] at hj
   rw [h4 j (by omega)]
   rw [Array.getElem?_setIfInBounds,if_neg (by omega)]
def Row {α:Type} (w:World) (g:Nat) (t:TypeId) (k n:Nat) (R:α→List Value→List Nat→Prop) (xs:List α) (F:List Nat):Prop :=
 (∃ C:Array Value,Blk w g t C∧C.size=n*k)∧xs.length≤n∧∃ cs,CellsAt w g 0 cs∧Flat R xs cs F
theorem Row.mono {α:Type} {w w':World} {g k n:Nat} {t:TypeId} {R R':α→List Value→List Nat→Prop} {xs:List α} {F:List Nat} (h:Row w g t k n R xs F) (e:w'.heap[g]?=w.heap[g]?) (hF:Kept F w w') (hR:∀ x∈xs,∀ cs G,Kept G w w'→R x cs G→R' x cs G):Row w' g t k n R' xs F:=by
 obtain ⟨⟨C,h1,h2⟩,h3,cs,h4,h5⟩:=h
 exact ⟨⟨C,h1.same e,h2⟩,h3,cs,h4.same e,h5.mono fun x hx cs G hG hr=>hR x hx cs G (fun b hb=>hF b (hG b hb)) hr⟩
theorem Row.old {α:Type} {w:World} {g k n:Nat} {t:TypeId} {R:α→List Value→List Nat→Prop} {xs:List α} {F:List Nat} (h:Row w g t k n R xs F) (j:Nat) (hj:j<n*k):(∃ u,w.cell? ⟨g,j,none⟩=some u)∧w.frozen? ⟨g,j,none⟩=false:=by
 obtain ⟨⟨C,h1,h2⟩,-⟩:=h
 exact ⟨⟨C[j],by rw [h1.cell,Array.getElem?_eq_getElem (by omega)]⟩,h1.frozen j⟩
theorem Row.lt {α:Type} {w:World} {g k n:Nat} {t:TypeId} {R:α→List Value→List Nat→Prop} {xs:List α} {F:List Nat} (h:Row w g t k n R xs F):g<w.heap.size:=h.1.choose_spec.1.lt
theorem Row.store {α:Type} {w:World} {g k n:Nat} {t:TypeId} {R R':α→List Value→List Nat→Prop} {xs:List α} {x:α} {cs:List Value} {F G:List Nat} (hR:∀ x cs F,R x cs F→cs.length=k) (h:Row w g t k n R xs F) (hk:cs.length=k) (hlt:xs.length<n) (hg:g∉F)
  (hm:∀ x∈xs,∀ ds H,Kept H w (putCells w g (xs.length*k) cs)→R x ds H→R' x ds H) (hx:R' x cs G) :
  Row (putCells w g (xs.length*k) cs) g t k n R' (xs ++ [x]) (F ++ G):=by
 obtain ⟨⟨C,h1,h2⟩,h3,ds,h4,h5⟩:=h
 have hroom:xs.length*k+cs.length≤C.size:=by
  rw [h2,hk]
  have:=Nat.mul_le_mul_right k (show xs.length+1≤n by omega)
  rw [Nat.add_mul] at this
  omega
 have hgr:=(zAE g cs w (xs.length*k)).1
 have hdl:=h5.length hR
 have hF:Kept F w (putCells w g (xs.length*k) cs):=fun b hb=>by
  rcases Nat.lt_or_ge b w.heap.size with hl | hl
  ·exact hgr.block b hl (fun e=>by cases e;exact hg hb)
  ·rw [Array.getElem?_eq_none hl,Array.getElem?_eq_none (by rw [(zAE g cs w _).2];exact hl)]
 obtain ⟨C',g1,g2,g3,g4⟩:=Blk.put cs (xs.length*k) h1 hroom
 refine ⟨⟨C',g1,g2.trans h2⟩,by simp;omega,ds ++ cs,CellsAt.append (fun j u hj=>?_) (fun j u hj=>?_),(h5.mono fun y hy es H hH hr=>hm y hy es H (fun b hb=>hF b (hH b hb)) hr).append (Flat.one hx)⟩
 ·have hjl:=(List.getElem?_eq_some_iff.1 hj).1
  have:=h4 j u hj
  rw [g1.cell,g4 _ (.inl (by omega)),←h1.cell]
  exact this
 ·have hjl:=(List.getElem?_eq_some_iff.1 hj).1
  rw [g1.cell,hdl,Nat.zero_add,g3 j hjl]
  exact hj
theorem Row.arr {α:Type} {w:World} {g k n:Nat} {t:TypeId} {R:α→List Value→List Nat→Prop} {xs:List α} {F:List Nat} (h:Row w g t k n R xs F) (hl:xs.length=n) (hm:n≤maxLen):∃ G,Arr w R xs (.slice (some ⟨g,0,none⟩) n n) G∧(G=g :: F∨G=[]):=by
 subst hl
 obtain ⟨⟨C,h1,h2⟩,h3,cs,h4,h5⟩:=h
 exact ⟨g :: F,⟨_,_,rfl,zz8 _,hm,.inr ⟨g,0,cs,F,rfl,h4,h5,rfl⟩⟩,.inl rfl⟩
theorem Row.made {α:Type} (w:World) (t:TypeId) (k n:Nat) (z:Array Value) (R:α→List Value→List Nat→Prop):Row (w.alloc (.cells (madeCells z (n*k)) t)) w.heap.size t k n R ([]:List α) [] :=
 ⟨⟨_,Blk.new w t _,by simp [madeCells]⟩,by simp,[],fun j u h=>by simp at h,rfl,rfl⟩
theorem Row.free {α:Type} {w:World} {g k n:Nat} {t:TypeId} {R:α→List Value→List Nat→Prop} {xs:List α} {F:List Nat} (h:Row w g t k n R xs F) (hF:Free w F) (hg:g∉F):Free w (g :: F):=by
 obtain ⟨⟨C,h1,-⟩,-⟩:=h
 exact ⟨List.nodup_cons.2 ⟨hg,hF.1⟩,fun b hb i=>by
  rcases List.mem_cons.1 hb with rfl | hb
  ·exact h1.frozen i
  ·exact hF.2 b hb i⟩
/-! ### make -/
theorem run_make_rowN {P:Program} (t e:TypeId) (i:TypeInfo) (z:Value) (ht:P.underlying t=some (.slice e)) (hi:P.info? e=some i) (hz:i.zero=some z)
  (kl kc:IntKind) (n c:Nat) (hnc:n≤c) (hbytes:i.bytes*c≤281474976710656) (h63:c≤9223372036854775807) (w:World) :
  (Instr.makeSlice t (.int kl (n:Int)) (.int kc (c:Int))).run P w=.ok (.slice (some ⟨w.heap.size,0,none⟩) n c) (w.alloc (.cells (madeCells z.cells (c*i.size)) e)):=by
 have hb:(i.bytes:Int)*(c:Int)≤281474976710656:=by
  have h:((i.bytes*c:Nat):Int)≤281474976710656:=by omega
  rwa [Int.natCast_mul] at h
 have hr:=run_make (P:=P) w t e i z ht hi hz kl kc n c (by omega) (by omega) hb (by omega)
 simp only [Int.toNat_natCast] at hr
 exact hr
theorem take_snoc' {α:Type} (l:List α) (k:Nat) (h:k<l.length):l.take (k+1)=l.take k ++ [l[k]]:=by
 rw [List.take_succ_eq_append_getElem h]
theorem zA6 {k:IntKind} {a b:Int} (h:a=b):Ending.returned (.int k a)=.returned (.int k b):=by rw [h]
theorem zA0 {a b:Bool} (h:a=b):Ending.returned (.bool a)=.returned (.bool b):=by rw [h]
def sumBy {α:Type} (f:α→Nat):List α→Nat
 |[]=>0
 |x :: xs=>f x+sumBy f xs
theorem sumBy_snoc {α:Type} (f:α→Nat) (l:List α) (x:α):sumBy f (l ++ [x])=sumBy f l+f x:=by
 induction l with
 |nil=>simp [sumBy]
 |cons k l ih=>simp only [List.cons_append,sumBy,ih];omega
theorem zAD {α:Type} (f:α→Nat) (l:List α) (k:Nat):sumBy f (l.take k)≤sumBy f l:=by
 induction l generalizing k with
 |nil=>simp [sumBy]
 |cons x l ih =>
  cases k with
  |zero=>simp [sumBy]
  |succ k=>simp only [List.take_succ_cons,sumBy];have:=ih k;omega
theorem zA3 {α:Type} (f:α→Nat) (l:List α) (k:Nat) (h:k<l.length):sumBy f (l.take (k+1))=sumBy f (l.take k)+f l[k]:=by
 rw [take_snoc' l k h,sumBy_snoc]
theorem sumBy_mem_le {α:Type} (f:α→Nat) (l:List α) (k:Nat) (h:k<l.length):f l[k]≤sumBy f l:=by
 have h2:=zAD f l (k+1)
 rw [zA3 f l k h] at h2
 omega
def szLeft (n:Nat) (left:Int):Int:=if (n:Int)≤left then left-n else -1
theorem zAR {B:Nat} {a w:World} (h:Below B a w) (n:Nat):Below B a (w.drewN n):=⟨h.os,h.tape,h.output,h.size,h.block⟩
/-! ### The first place at which a test holds -/
def FirstAt {α:Type} (p:α→Bool) (l:List α) (r:Int):Prop :=
 (∃ i:Nat,∃ h:i<l.length,r=i∧p l[i]=true∧∀ j (hj:j<l.length),j<i→p l[j]=false)∨(r = -1∧∀ j (hj:j<l.length),p l[j]=false)
theorem FirstAt.ex {α:Type} (p:α→Bool) (l:List α):∃ r,FirstAt p l r:=by
 induction l with
 |nil=>exact ⟨-1,.inr ⟨rfl,fun j hj=>by simp at hj⟩⟩
 |cons x xs ih =>
  cases hx:p x with
  |true=>exact ⟨0,.inl ⟨0,by simp,rfl,by simpa using hx,fun j hj h=>by omega⟩⟩
  |false =>
   obtain ⟨r,⟨i,h,rfl,hp,hm⟩ | ⟨rfl,hn⟩⟩:=ih
   ·refine ⟨((i+1:Nat):Int),.inl ⟨i+1,by simpa using h,rfl,by simpa using hp,fun j hj hlt=>?_⟩⟩
    cases j with
    |zero=>simpa using hx
    |succ j=>simpa using hm j (by simpa using hj) (by omega)
   ·refine ⟨-1,.inr ⟨rfl,fun j hj=>?_⟩⟩
    cases j with
    |zero=>simpa using hx
    |succ j=>simpa using hn j (by simpa using hj)
theorem FirstAt.hit {α:Type} {p:α→Bool} {l:List α} {r:Int} (h:FirstAt p l r) {k:Nat} (hk:k<l.length) (hp:p l[k]=true) (hm:∀ j (hj:j<l.length),j<k→p l[j]=false):r=k:=by
 rcases h with ⟨i,hi,rfl,hpi,hmi⟩ | ⟨rfl,hn⟩
 ·rcases Nat.lt_trichotomy i k with h | h | h
  ·have:=hm i hi h;rw [hpi] at this;cases this
  ·rw [h]
  ·have:=hmi k hk h;rw [hp] at this;cases this
 ·have:=hn k hk;rw [hp] at this;cases this
theorem FirstAt.miss {α:Type} {p:α→Bool} {l:List α} {r:Int} (h:FirstAt p l r) (hn:∀ j (hj:j<l.length),p l[j]=false):r = -1:=by
 rcases h with ⟨i,hi,rfl,hpi,-⟩ | ⟨rfl,-⟩
 ·have:=hn i hi;rw [hpi] at this;cases this
 ·rfl
theorem FirstAt.any {α:Type} {p:α→Bool} {l:List α} {r:Int} (h:FirstAt p l r):l.any p=decide (0≤r):=by
 rcases h with ⟨i,hi,rfl,hp,-⟩ | ⟨rfl,hn⟩
 ·rw [decide_eq_true (by omega),List.any_eq_true]
  exact ⟨_,List.getElem_mem hi,hp⟩
 ·rw [decide_eq_false (by omega),List.any_eq_false]
  intro x hx
  obtain ⟨j,hj,rfl⟩:=List.getElem_of_mem hx
  simp [hn j hj]
/-! ### Equality of lists and of byte strings as Bool -/
def sameBy {α:Type} (f:α→α→Bool):List α→List α→Bool
 |[],[]=>true
 |x :: xs,y :: ys=>f x y && sameBy f xs ys
 |[],_ :: _=>false
 |_ :: _,[]=>false
@[ext] structure Ty where
 d:Int
 i:Int
def Ty.size (x:Ty):Nat:=0
def Ty.sizes (l:List Ty):Nat:=l.length+sumBy Ty.size l
def TyR (w:World) (x:Ty) (cs:List Value) (F:List Nat):Prop:=cs=[.int .i64 x.d] ++ [.int .i64 x.i]∧F=[]
theorem TyR_form {w:World} {x:Ty} {cs:List Value} {F:List Nat} (h:TyR w x cs F):cs=[.int .i64 x.d,.int .i64 x.i]:=h.1
theorem zAQ {w:World} (x:Ty) (cs:List Value) (F:List Nat) (h:TyR w x cs F):cs.length=2:=by
 obtain ⟨rfl,-⟩:=h
 rfl
theorem TyR.mono {w w':World} (x:Ty) (cs:List Value) (F:List Nat) (_hF:Kept F w w') (h:TyR w x cs F):TyR w' x cs F:=h
theorem TyR.mk0 (w:World) (x:Ty):TyR w x [.int .i64 x.d,.int .i64 x.i] []:=⟨rfl,rfl⟩
theorem Ty.size_le (x:Ty):x.size≤1048576:=Nat.zero_le _
theorem TyR.below {w w':World} {B:Nat} {v:Ty} {cs:List Value} {F:List Nat} (h:TyR w v cs F) (hb:Below B w w') (hF:Under B F):TyR w' v cs F:=TyR.mono v cs F (.of_below hb hF) h
theorem TyR.drew {w:World} {v:Ty} {cs:List Value} {F:List Nat} (h:TyR w v cs F):TyR w.drew v cs F:=TyR.mono (w:=w) v cs F (fun _ _=>rfl) h
theorem ArrTy.mono {w w':World} {vs:List Ty} {x:Value} {F:List Nat} (h:Arr w (TyR w) vs x F) (hF:Kept F w w'):Arr w' (TyR w') vs x F:=h.mono hF fun v _=>TyR.mono v
theorem ArrTy.below {w w':World} {B:Nat} {vs:List Ty} {x:Value} {F:List Nat} (h:Arr w (TyR w) vs x F) (hb:Below B w w') (hF:Under B F):Arr w' (TyR w') vs x F:=ArrTy.mono h (.of_below hb hF)
@[ext] structure Kt where
 name:ByteArray
 args:List Ty
 idx:Int
def Kt.size (x:Kt):Nat:=x.name.size+Ty.sizes x.args
def Kt.sizes (l:List Kt):Nat:=l.length+sumBy Kt.size l
def KtR (w:World) (x:Kt) (cs:List Value) (F:List Nat):Prop:=∃ kv:Value,cs=[.string x.name] ++ [kv] ++ [.int .i64 x.idx]∧Arr w (TyR w) x.args kv F∧x.name.size≤9223372036854775807
theorem KtR_form {w:World} {x:Kt} {cs:List Value} {F:List Nat} (h:KtR w x cs F):∃ A cap,cs=[.string x.name,.slice A x.args.length cap,.int .i64 x.idx]:=by
 obtain ⟨kv,rfl,ha,-⟩:=h
 obtain ⟨A,cap,rfl,-,-⟩:=ha.form
 exact ⟨A,cap,rfl⟩
theorem KtR_len {w:World} (x:Kt) (cs:List Value) (F:List Nat) (h:KtR w x cs F):cs.length=3:=by
 obtain ⟨A,cap,rfl⟩:=KtR_form h
 rfl
theorem KtR.mono {w w':World} (x:Kt) (cs:List Value) (F:List Nat) (hF:Kept F w w') (h:KtR w x cs F):KtR w' x cs F:=by
 obtain ⟨kv,e,ha,hs0⟩:=h
 exact ⟨_,e,ha.mono hF fun y _=>TyR.mono y,hs0⟩
theorem KtR.below {w w':World} {B:Nat} {v:Kt} {cs:List Value} {F:List Nat} (h:KtR w v cs F) (hb:Below B w w') (hF:Under B F):KtR w' v cs F:=KtR.mono v cs F (.of_below hb hF) h
theorem KtR.drew {w:World} {v:Kt} {cs:List Value} {F:List Nat} (h:KtR w v cs F):KtR w.drew v cs F:=KtR.mono (w:=w) v cs F (fun _ _=>rfl) h
theorem ArrKt.mono {w w':World} {vs:List Kt} {x:Value} {F:List Nat} (h:Arr w (KtR w) vs x F) (hF:Kept F w w'):Arr w' (KtR w') vs x F:=h.mono hF fun v _=>KtR.mono v
theorem ArrKt.below {w w':World} {B:Nat} {vs:List Kt} {x:Value} {F:List Nat} (h:Arr w (KtR w) vs x F) (hb:Below B w w') (hF:Under B F):Arr w' (KtR w') vs x F:=ArrKt.mono h (.of_below hb hF)
@[ext] structure Dt where
 name:ByteArray
 ctors:List Kt
def Dt.size (x:Dt):Nat:=x.name.size+Kt.sizes x.ctors
def Dt.sizes (l:List Dt):Nat:=l.length+sumBy Dt.size l
def DtR (w:World) (x:Dt) (cs:List Value) (F:List Nat):Prop:=∃ kv:Value,cs=[.string x.name] ++ [kv]∧Arr w (KtR w) x.ctors kv F∧x.name.size≤9223372036854775807
theorem DtR_form {w:World} {x:Dt} {cs:List Value} {F:List Nat} (h:DtR w x cs F):∃ A cap,cs=[.string x.name,.slice A x.ctors.length cap]:=by
 obtain ⟨kv,rfl,ha,-⟩:=h
 obtain ⟨A,cap,rfl,-,-⟩:=ha.form
 exact ⟨A,cap,rfl⟩
theorem DtR_len {w:World} (x:Dt) (cs:List Value) (F:List Nat) (h:DtR w x cs F):cs.length=2:=by
 obtain ⟨A,cap,rfl⟩:=DtR_form h
 rfl
theorem DtR.mono {w w':World} (x:Dt) (cs:List Value) (F:List Nat) (hF:Kept F w w') (h:DtR w x cs F):DtR w' x cs F:=by
 obtain ⟨kv,e,ha,hs0⟩:=h
 exact ⟨_,e,ha.mono hF fun y _=>KtR.mono y,hs0⟩
theorem DtR.below {w w':World} {B:Nat} {v:Dt} {cs:List Value} {F:List Nat} (h:DtR w v cs F) (hb:Below B w w') (hF:Under B F):DtR w' v cs F:=DtR.mono v cs F (.of_below hb hF) h
theorem DtR.drew {w:World} {v:Dt} {cs:List Value} {F:List Nat} (h:DtR w v cs F):DtR w.drew v cs F:=DtR.mono (w:=w) v cs F (fun _ _=>rfl) h
theorem ArrDt.mono {w w':World} {vs:List Dt} {x:Value} {F:List Nat} (h:Arr w (DtR w) vs x F) (hF:Kept F w w'):Arr w' (DtR w') vs x F:=h.mono hF fun v _=>DtR.mono v
theorem ArrDt.below {w w':World} {B:Nat} {vs:List Dt} {x:Value} {F:List Nat} (h:Arr w (DtR w) vs x F) (hb:Below B w w') (hF:Under B F):Arr w' (DtR w') vs x F:=ArrDt.mono h (.of_below hb hF)
theorem ArrDt.drew {w:World} {vs:List Dt} {x:Value} {F:List Nat} (h:Arr w (DtR w) vs x F):Arr w.drew (DtR w.drew) vs x F:=ArrDt.mono (w:=w) h (fun _ _=>rfl)
set_option maxHeartbeats 400000 in
theorem szTypeS_any (ks:List Ty) (w:World) (F:List Nat) (x:Value) (left:Int) (hx:Arr w (TyR w) ks x F) (h0:0≤left) (h1:left≤1048576) :
  Calls Try.prog 55 #[x,.int .i64 left] w fun e w'=>e=.returned (.int .i64 (szLeft (Ty.sizes ks) left))∧Below w.heap.size w w':=by
 obtain ⟨A,cap,rfl,hl,hm⟩:=hx.form
 clear hx
 have hz:Ty.sizes ks=ks.length:=by
  unfold Ty.sizes
  have:sumBy Ty.size ks=0:=by
   induction ks with
   |nil=>rfl
   |cons x xs ih=>simp only [sumBy,Ty.size,Nat.zero_add];exact ih (by simp at hl;omega)
  omega
 by_cases hneg:left-(ks.length:Int)<0
 ·have hf:Hid (szLeft (Ty.sizes ks) left = -1):=by
   unfold szLeft;rw [hz];exact if_neg (by omega)
  clear hz
  go_enter Try.func55,Try.ntmps55
  go_wp2
  go_ret
  exact ⟨zA6 hf.out.symm,zy2 _ _⟩
 ·have hpos:0≤left-(ks.length:Int):=by omega
  have hf:Hid (szLeft (Ty.sizes ks) left=left-ks.length):=by
   unfold szLeft;rw [hz];exact if_pos (by omega)
  clear hneg hz
  go_enter Try.func55,Try.ntmps55
  go_wp2
  go_ret
  exact ⟨zA6 hf.out.symm,zy2 _ _⟩
set_option maxHeartbeats 400000 in
theorem szCtor_any (x:Kt) (w:World) (cs:List Value) (F:List Nat) (left:Int) (hv:KtR w x cs F) (hF:Under w.heap.size F) (h0:0≤left) (h1:left≤1048576) :
  Calls Try.prog 44 #[.agg cs.toArray,.int .i64 left] w fun e w'=>e=.returned (.int .i64 (szLeft x.size left))∧Below w.heap.size w w':=by
 obtain ⟨kv,rfl,ha,hs0⟩:=hv
 have HA:=jj ha
 obtain ⟨A,cap,rfl,-,-⟩:=ha.form
 clear ha
 have HF:=jj hF
 clear hF
 by_cases hneg:left-(x.name.size:Int)<0
 ·have hf:Hid (szLeft x.size left = -1):=by
   unfold szLeft Kt.size;exact if_neg (by omega)
  go_enter Try.func44,Try.ntmps44
  go_wp2
  go_ret
  exact ⟨zA6 hf.out.symm,(zy2 _ _).alloc (zz8 _) _⟩
 ·have hpos:0≤left-(x.name.size:Int):=by omega
  clear hneg
  go_enter Try.func44,Try.ntmps44
  go_wp2_with fail
  have hB1:=(zy2 w.heap.size w).alloc (zz8 _) (.cells #[.string x.name,.slice A x.args.length cap,.int .i64 x.idx] 79)
  refine (szTypeS_any x.args _ F _ (left-(x.name.size:Int)) (ArrTy.below HA.out hB1 HF.out) (by omega) (by omega)).mono ?_
  rintro e w' ⟨rfl,hB⟩
  have hB2:=hB1.trans (hB.mono hB1.size)
  have hf:Hid (szLeft x.size left=szLeft (Ty.sizes x.args) (left-(x.name.size:Int))):=by unfold Hid szLeft Kt.size;split <;> split <;> omega
  have hneg:szLeft (Ty.sizes x.args) (left-(x.name.size:Int))<0→szLeft (Ty.sizes x.args) (left-(x.name.size:Int)) = -1:=by unfold szLeft;split <;> omega
  clear hB
  generalize szLeft (Ty.sizes x.args) (left-(x.name.size:Int))=m at *
  by_cases hm:m<0
  ·obtain rfl:=hneg hm
   go_wp2
   go_ret
   exact ⟨zA6 hf.out.symm,hB2⟩
  ·go_wp2
   go_ret
   exact ⟨zA6 hf.out.symm,hB2⟩
set_option maxHeartbeats 400000 in
theorem szCtorS_any (ks:List Kt) (w:World) (F:List Nat) (x:Value) (left:Int) (hx:Arr w (KtR w) ks x F) (hF:Under w.heap.size F) (h0:0≤left) (h1:left≤1048576) :
  Calls Try.prog 32 #[x,.int .i64 left] w fun e w'=>e=.returned (.int .i64 (szLeft (Kt.sizes ks) left))∧Below w.heap.size w w':=by
 have HX:=jj hx
 obtain ⟨A,cap,rfl,hl,hm⟩:=hx.form
 clear hx
 have HF:=jj hF
 clear hF
 by_cases hneg:left-(ks.length:Int)<0
 ·have hf:Hid (szLeft (Kt.sizes ks) left = -1):=by
   unfold szLeft Kt.sizes;exact if_neg (by omega)
  go_enter Try.func32,Try.ntmps32
  go_wp2
  go_ret
  exact ⟨zA6 hf.out.symm,zy2 _ _⟩
 ·have hpos:0≤left-(ks.length:Int):=by omega
  clear hneg
  go_enter Try.func32,Try.ntmps32
  go_wp2
  go_loopw [1,5] (fun l i wr=>∃ k:Nat,∃ m:Int,k≤ks.length∧i=.int .i64 k∧l=.int .i64 m∧0≤m∧m≤1048576∧Hid (m=left-ks.length-sumBy Kt.size (ks.take k))∧Below w.heap.size w wr) (fun _ i _=>ks.length-(intOf i).toNat)
  case atStart=>exact ⟨0,_,Nat.zero_le _,rfl,rfl,hpos,by omega,by simp [Hid,sumBy],zy2 _ _⟩
  case round =>
   obtain ⟨k,m,hk,rfl,rfl,hm0,hm1,HM,hB⟩:=hrel
   by_cases hlt:k<ks.length
   ·obtain ⟨b,off,cs,G,rfl,hb,hcs,hvc,hG⟩:=HX.out.get KtR_len hlt
    have hbl:=HF.out b hb
    have hGFc:=HF.out.sub hG
    have hwc:=hvc.below hB hGFc
    have hcsc:=hcs.same (hB.block b hbl)
    obtain ⟨A1,cap1,rfl⟩:=KtR_form hvc
    have c0:=hcsc 0 _ rfl
    have c1:=hcsc 1 _ rfl
    have c2:=hcsc 2 _ rfl
    simp only [Nat.add_zero] at c0
    clear hcs hcsc hvc hG
    have HV:=jj hwc
    clear hwc
    have HG:=jj hGFc
    clear hGFc
    go_wp2_with fail
    refine (szCtor_any ks[k] _ _ G m HV.out (HG.out.mono hB.size) hm0 hm1).mono ?_
    rintro e w' ⟨rfl,hB'⟩
    have hB2:=hB.trans (hB'.mono hB.size)
    by_cases hle:(ks[k].size:Int)≤m
    ·have e1:szLeft ks[k].size m=m-ks[k].size:=if_pos hle
     rw [e1]
     have hs:Hid (m-ks[k].size=left-ks.length-sumBy Kt.size (ks.take (k+1))):=by
      have:=HM.out;rw [zA3 _ ks k hlt];unfold Hid;omega
     have hnn:0≤m-(ks[k].size:Int):=by omega
     have hn1:m-(ks[k].size:Int)≤1048576:=by omega
     clear e1
     generalize m-(ks[k].size:Int)=m' at *
     go_wp2
     go_roundw
     case rel=>exact ⟨k+1,m',by omega,by go_num,rfl,hnn,hn1,hs,hB2⟩
     case measure=>simp [intOf];omega
    ·have e1:szLeft ks[k].size m = -1:=if_neg hle
     rw [e1]
     have hf:Hid (szLeft (Kt.sizes ks) left = -1):=by
      unfold szLeft Kt.sizes
      have:=HM.out
      have h2:=zAD Kt.size ks (k+1)
      rw [zA3 _ ks k hlt] at h2
      exact if_neg (by omega)
     go_wp2
     go_ret
     exact ⟨zA6 hf.out.symm,hB2⟩
   ·have hf:Hid (szLeft (Kt.sizes ks) left=m):=by
     have:=HM.out
     rw [List.take_of_length_le (by omega)] at this
     unfold szLeft Kt.sizes Hid
     rw [if_pos (by omega)];omega
    go_wp2
    go_ret
    exact ⟨zA6 hf.out.symm,hB⟩
set_option maxHeartbeats 400000 in
theorem szData_any (x:Dt) (w:World) (cs:List Value) (F:List Nat) (left:Int) (hv:DtR w x cs F) (hF:Under w.heap.size F) (h0:0≤left) (h1:left≤1048576) :
  Calls Try.prog 18 #[.agg cs.toArray,.int .i64 left] w fun e w'=>e=.returned (.int .i64 (szLeft x.size left))∧Below w.heap.size w w':=by
 obtain ⟨kv,rfl,ha,hs0⟩:=hv
 have HA:=jj ha
 obtain ⟨A,cap,rfl,-,-⟩:=ha.form
 clear ha
 have HF:=jj hF
 clear hF
 by_cases hneg:left-(x.name.size:Int)<0
 ·have hf:Hid (szLeft x.size left = -1):=by
   unfold szLeft Dt.size;exact if_neg (by omega)
  go_enter Try.func18,Try.ntmps18
  go_wp2
  go_ret
  exact ⟨zA6 hf.out.symm,(zy2 _ _).alloc (zz8 _) _⟩
 ·have hpos:0≤left-(x.name.size:Int):=by omega
  clear hneg
  go_enter Try.func18,Try.ntmps18
  go_wp2_with fail
  have hB1:=(zy2 w.heap.size w).alloc (zz8 _) (.cells #[.string x.name,.slice A x.ctors.length cap] 50)
  refine (szCtorS_any x.ctors _ F _ (left-(x.name.size:Int)) (ArrKt.below HA.out hB1 HF.out) (HF.out.mono hB1.size) (by omega) (by omega)).mono ?_
  rintro e w' ⟨rfl,hB⟩
  have hB2:=hB1.trans (hB.mono hB1.size)
  have hf:Hid (szLeft x.size left=szLeft (Kt.sizes x.ctors) (left-(x.name.size:Int))):=by unfold Hid szLeft Dt.size;split <;> split <;> omega
  have hneg:szLeft (Kt.sizes x.ctors) (left-(x.name.size:Int))<0→szLeft (Kt.sizes x.ctors) (left-(x.name.size:Int)) = -1:=by unfold szLeft;split <;> omega
  clear hB
  generalize szLeft (Kt.sizes x.ctors) (left-(x.name.size:Int))=m at *
  by_cases hm:m<0
  ·obtain rfl:=hneg hm
   go_wp2
   go_ret
   exact ⟨zA6 hf.out.symm,hB2⟩
  ·go_wp2
   go_ret
   exact ⟨zA6 hf.out.symm,hB2⟩
set_option maxHeartbeats 400000 in
theorem szDataS_any (ks:List Dt) (w:World) (F:List Nat) (x:Value) (left:Int) (hx:Arr w (DtR w) ks x F) (hF:Under w.heap.size F) (h0:0≤left) (h1:left≤1048576) :
  Calls Try.prog 4 #[x,.int .i64 left] w fun e w'=>e=.returned (.int .i64 (szLeft (Dt.sizes ks) left))∧Below w.heap.size w w':=by
 have HX:=jj hx
 obtain ⟨A,cap,rfl,hl,hm⟩:=hx.form
 clear hx
 have HF:=jj hF
 clear hF
 by_cases hneg:left-(ks.length:Int)<0
 ·have hf:Hid (szLeft (Dt.sizes ks) left = -1):=by
   unfold szLeft Dt.sizes;exact if_neg (by omega)
  go_enter Try.func4,Try.ntmps4
  go_wp2
  go_ret
  exact ⟨zA6 hf.out.symm,zy2 _ _⟩
 ·have hpos:0≤left-(ks.length:Int):=by omega
  clear hneg
  go_enter Try.func4,Try.ntmps4
  go_wp2
  go_loopw [1,5] (fun l i wr=>∃ k:Nat,∃ m:Int,k≤ks.length∧i=.int .i64 k∧l=.int .i64 m∧0≤m∧m≤1048576∧Hid (m=left-ks.length-sumBy Dt.size (ks.take k))∧Below w.heap.size w wr) (fun _ i _=>ks.length-(intOf i).toNat)
  case atStart=>exact ⟨0,_,Nat.zero_le _,rfl,rfl,hpos,by omega,by simp [Hid,sumBy],zy2 _ _⟩
  case round =>
   obtain ⟨k,m,hk,rfl,rfl,hm0,hm1,HM,hB⟩:=hrel
   by_cases hlt:k<ks.length
   ·obtain ⟨b,off,cs,G,rfl,hb,hcs,hvc,hG⟩:=HX.out.get DtR_len hlt
    have hbl:=HF.out b hb
    have hGFc:=HF.out.sub hG
    have hwc:=hvc.below hB hGFc
    have hcsc:=hcs.same (hB.block b hbl)
    obtain ⟨A1,cap1,rfl⟩:=DtR_form hvc
    have c0:=hcsc 0 _ rfl
    have c1:=hcsc 1 _ rfl
    simp only [Nat.add_zero] at c0
    clear hcs hcsc hvc hG
    have HV:=jj hwc
    clear hwc
    have HG:=jj hGFc
    clear hGFc
    go_wp2_with fail
    refine (szData_any ks[k] _ _ G m HV.out (HG.out.mono hB.size) hm0 hm1).mono ?_
    rintro e w' ⟨rfl,hB'⟩
    have hB2:=hB.trans (hB'.mono hB.size)
    by_cases hle:(ks[k].size:Int)≤m
    ·have e1:szLeft ks[k].size m=m-ks[k].size:=if_pos hle
     rw [e1]
     have hs:Hid (m-ks[k].size=left-ks.length-sumBy Dt.size (ks.take (k+1))):=by
      have:=HM.out;rw [zA3 _ ks k hlt];unfold Hid;omega
     have hnn:0≤m-(ks[k].size:Int):=by omega
     have hn1:m-(ks[k].size:Int)≤1048576:=by omega
     clear e1
     generalize m-(ks[k].size:Int)=m' at *
     go_wp2
     go_roundw
     case rel=>exact ⟨k+1,m',by omega,by go_num,rfl,hnn,hn1,hs,hB2⟩
     case measure=>simp [intOf];omega
    ·have e1:szLeft ks[k].size m = -1:=if_neg hle
     rw [e1]
     have hf:Hid (szLeft (Dt.sizes ks) left = -1):=by
      unfold szLeft Dt.sizes
      have:=HM.out
      have h2:=zAD Dt.size ks (k+1)
      rw [zA3 _ ks k hlt] at h2
      exact if_neg (by omega)
     go_wp2
     go_ret
     exact ⟨zA6 hf.out.symm,hB2⟩
   ·have hf:Hid (szLeft (Dt.sizes ks) left=m):=by
     have:=HM.out
     rw [List.take_of_length_le (by omega)] at this
     unfold szLeft Dt.sizes Hid
     rw [if_pos (by omega)];omega
    go_wp2
    go_ret
    exact ⟨zA6 hf.out.symm,hB⟩
def MadeTy (w:World) (v:Ty) (e:Ending) (w':World):Prop:=∃ (cs:List Value) (F:List Nat),e=.returned (.agg cs.toArray)∧Below w.heap.size w w'∧TyR w' v cs F∧Free w' F∧Fresh w w' F
set_option maxHeartbeats 400000 in
theorem toType_any (x:Ty) (w:World) (cs:List Value) (F:List Nat) (hv:TyR w x cs F) (hF:Under w.heap.size F) (hz:x.size≤1048576):Calls Try.prog 8 #[.agg cs.toArray] w (MadeTy w x):=by
 obtain rfl:=TyR_form hv
 clear hF hz hv
 go_enter Try.func8,Try.ntmps8
 go_wp2
 refine bodyPost_ret (v:=.agg #[.int .i64 x.d,.int .i64 x.i]) (by simp [results,Try.results8,go_sem]) rfl ?_
 exact ⟨[.int .i64 x.d,.int .i64 x.i],[],rfl,by repeat (first | exact zy2 _ _ | refine Below.alloc ?_ (by simp <;> omega) _ | refine Below.setCell ?_ (by simp <;> omega) _),⟨rfl,rfl⟩,Free.nil _,Fresh.nil _ _⟩
theorem info_Ty:(Try.prog.info? 35).map (fun i=>(i.zero,i.size,i.bytes))=some (some (.agg #[.int .i64 0,.int .i64 0]),2,16):=by kernel_rfl
def MadeTys (w:World) (vs:List Ty) (e:Ending) (w':World):Prop:=∃ (x:Value) (F:List Nat),e=.returned x∧Below w.heap.size w w'∧Arr w' (TyR w') vs x F∧Free w' F∧Fresh w w' F
set_option maxHeartbeats 800000 in
theorem toTypeS_any (ks:List Ty) (w:World) (F:List Nat) (x:Value) (hx:Arr w (TyR w) ks x F) (hF:Under w.heap.size F) (hz:Ty.sizes ks≤1048576) :
  Calls Try.prog 65 #[x] w (MadeTys w ks):=by
 have HX:=jj hx
 obtain ⟨A,cap,rfl,hl,hm⟩:=hx.form
 clear hx
 have hn:ks.length≤1048576:=by unfold Ty.sizes at hz;omega
 have HF:=jj hF
 clear hF
 have HZ:=jj hz
 clear hz
 obtain ⟨i0,hi,hz0,hz1,hz2⟩:=info_parts info_Ty
 have hmk:=fun W=>run_make_rowN (P:=Try.prog) 72 35 i0 _ Try.underlying72 hi hz0 .i64 .i64 ks.length ks.length (zz8 _) (by rw [hz2];omega) (by omega) W
 simp only [Value.cells,hz1] at hmk
 clear hi hz0 hz1 hz2
 generalize hC:madeCells #[.int .i64 0,.int .i64 0] (ks.length*2)=C at hmk
 have HC:=jj hC
 clear hC
 go_enter Try.func65,Try.ntmps65
 go_wp2
 have HR0:=jj (show Row (w.alloc (.cells C 35)) w.heap.size 35 2 ks.length (TyR (w.alloc (.cells C 35))) ([]:List Ty) [] from by
  rw [←HC.out];exact Row.made w _ 2 ks.length _ _)
 have hB0:Below w.heap.size w (w.alloc (.cells C 35)):=(zy2 _ _).alloc (zz8 _) _
 go_loopw [4] (fun i wr=>∃ k:Nat,∃ G:List Nat,k≤ks.length∧i=.int .i64 k∧Below w.heap.size w wr∧Hid (Row wr w.heap.size 35 2 ks.length (TyR wr) (ks.take k) G∧Free wr G∧∀ b∈G,w.heap.size<b∧b<wr.heap.size)) (fun i _=>ks.length-(intOf i).toNat)
 case atStart=>exact ⟨0,[],Nat.zero_le _,rfl,hB0,⟨HR0.out,Free.nil _,fun b hb=>by cases hb⟩⟩
 case round =>
  obtain ⟨k,G0,hk,rfl,hB,HR⟩:=hrel
  have hgs:=HR.out.1.lt
  by_cases hlt:k<ks.length
  ·obtain ⟨b,off,cs,G,rfl,hb,hcs,hvc,hG⟩:=HX.out.get zAQ hlt
   have hbl:=HF.out b hb
   have hGFc:=HF.out.sub hG
   have hwc:=hvc.below hB hGFc
   have hcsc:=hcs.same (hB.block b hbl)
   obtain rfl:=TyR_form hvc
   have c0:=hcsc 0 _ rfl
   have c1:=hcsc 1 _ rfl
   simp only [Nat.add_zero] at c0
   clear hcs hcsc hvc hG
   have HV:=jj hwc
   clear hwc
   have HG:=jj hGFc
   clear hGFc
   go_wp2_with fail
   refine (toType_any ks[k] _ _ G HV.out (HG.out.mono hB.size) (by
    have h1:=HZ.out
    have h2:=sumBy_mem_le Ty.size ks k hlt
    unfold Ty.sizes at h1
    omega)).mono ?_
   rintro e w' ⟨cs',H',rfl,hB',hv',hfr,hfs⟩
   obtain rfl:=TyR_form hv'
   have hGk:Kept G0 wr w':=.of_below hB' fun b hb=>(HR.out.2.2 b hb).2
   have hR1:=HR.out.1.mono (w':=w') (R':=TyR w') (hB'.block _ hgs) hGk (fun x _=>TyR.mono x)
   have hn3:k*2+2≤ks.length*2:=by omega
   obtain ⟨⟨u0,d0⟩,f0⟩:=hR1.old (k*2) (by omega)
   obtain ⟨⟨u1,d1⟩,f1⟩:=hR1.old (k*2+1) (by omega)
   have HR1:=jj hR1
   clear hR1
   have hB3:=hB.trans (hB'.mono hB.size)
   have hg3:=zAE w.heap.size [.int .i64 ks[k].d,.int .i64 ks[k].i] w' (k*2)
   have hB4:=jj (hB3.grown hg3.1 hB3.size (fun _ h=>by cases h;exact zz8 _))
   have hkH:Kept H' w' (putCells w' w.heap.size (k*2) [.int .i64 ks[k].d,.int .i64 ks[k].i]):=fun b hb=>hg3.1.block b (hfs b hb).2 (fun e=>by cases e;have:=(hfs _ hb).1;omega)
   have hkG:Kept G0 w' (putCells w' w.heap.size (k*2) [.int .i64 ks[k].d,.int .i64 ks[k].i]):=fun b hb=>hg3.1.block b (zz9 (HR.out.2.2 b hb).2 hB'.size) (fun e=>by cases e;have:=(HR.out.2.2 _ hb).1;omega)
   have hR4:=jj (by
    have h:=Row.store (R':=TyR (putCells w' w.heap.size (k*2) [.int .i64 ks[k].d,.int .i64 ks[k].i])) (x:=ks[k]) (cs:=[.int .i64 ks[k].d,.int .i64 ks[k].i]) zAQ HR1.out rfl (by simp;omega) (fun hg=>by have:=(HR.out.2.2 _ hg).1;omega)
     (fun x _ ds H hk h=>TyR.mono x ds H (by rw [show (ks.take k).length=k by simp;omega] at hk;exact hk) h)
     (TyR.mono _ _ _ hkH hv')
    rw [show (ks.take k).length=k by simp;omega] at h
    rw [←take_snoc' ks k hlt] at h
    exact (And.intro h (And.intro (show Free (putCells w' w.heap.size (k*2) [.int .i64 ks[k].d,.int .i64 ks[k].i]) (G0 ++ H') from
     ⟨List.nodup_append.2 ⟨HR.out.2.1.1,hfr.1,fun a ha c hc hac=>by
       subst hac
       have:=(HR.out.2.2 _ ha).2
       have:=(hfs _ hc).1
       omega⟩,
     fun b hb i=>by
      rcases List.mem_append.1 hb with hb | hb
      ·exact ((HR.out.2.1.kept hGk).kept hkG).2 b hb i
      ·exact (hfr.kept hkH).2 b hb i⟩)
     (show ∀ b∈G0 ++ H',w.heap.size<b∧b<(putCells w' w.heap.size (k*2) [.int .i64 ks[k].d,.int .i64 ks[k].i]).heap.size from fun b hb=>by
      rw [hg3.2]
      rcases List.mem_append.1 hb with hb | hb
      ·exact ⟨(HR.out.2.2 b hb).1,zz9 (HR.out.2.2 b hb).2 hB'.size⟩
      ·exact ⟨zz9 hgs (hfs b hb).1,(hfs b hb).2⟩))))
   clear hg3 HR1 hv' hfr hfs hkH hkG hGk hB3 hB' HR HV
   go_wp2
   go_roundw
   case rel=>exact ⟨k+1,_,by omega,by go_num,hB4.out,hR4.out⟩
   case measure=>simp [intOf];omega
  ·have hfin:MadeTys w ks (.returned (.slice (some ⟨w.heap.size,0,none⟩) ks.length ks.length)) wr:=by
    obtain ⟨h,hf,hb⟩:=HR.out
    rw [List.take_of_length_le (by omega)] at h
    have hng:w.heap.size∉G0:=fun hg=>by have:=(hb _ hg).1;omega
    obtain ⟨G',h1,h2⟩:=h.arr rfl (by unfold maxLen;omega)
    refine ⟨_,G',rfl,hB,h1,?_,?_⟩
    ·rcases h2 with rfl | rfl
     ·exact h.free hf hng
     ·exact Free.nil _
    ·rcases h2 with rfl | rfl
     ·intro b hb'
      rcases List.mem_cons.1 hb' with rfl | hb'
      ·exact ⟨zz8 _,hgs⟩
      ·exact ⟨Nat.le_of_lt (hb b hb').1,(hb b hb').2⟩
     ·exact Fresh.nil _ _
   have HFin:=jj hfin
   clear hfin
   go_wp2
   go_ret
   exact HFin.out
def MadeKt (w:World) (v:Kt) (e:Ending) (w':World):Prop:=∃ (cs:List Value) (F:List Nat),e=.returned (.agg cs.toArray)∧Below w.heap.size w w'∧KtR w' v cs F∧Free w' F∧Fresh w w' F
set_option maxHeartbeats 400000 in
theorem toCtor_any (x:Kt) (w:World) (cs:List Value) (F:List Nat) (hv:KtR w x cs F) (hF:Under w.heap.size F) (hz:x.size≤1048576):Calls Try.prog 50 #[.agg cs.toArray] w (MadeKt w x):=by
 obtain ⟨kv,rfl,ha,hs0⟩:=hv
 have HA:=jj ha
 obtain ⟨A,cap,rfl,-,-⟩:=ha.form
 clear ha
 have HF:=jj hF
 clear hF
 have HZ:=jj hz
 clear hz
 go_enter Try.func50,Try.ntmps50
 go_wp2_with fail
 obtain ⟨W3,hW3⟩:∃ W3,W3=(((w.alloc (.cells #[.string x.name,.slice A x.args.length cap,.int .i64 x.idx] 79)).alloc (.cells #[.string ⟨#[]⟩,.slice none 0 0,.int .i64 0] 74)).alloc (.cells #[.string x.name,.slice none 0 0,.int .i64 0] 74)):=⟨_,rfl⟩
 have hB3:Below w.heap.size w W3:=by rw [hW3];exact (((zy2 _ _).alloc (zz8 _) _).alloc (by simp) _).alloc (by simp;omega) _
 have hsz:w.heap.size+3≤W3.heap.size:=by rw [hW3];simp
 have b0:Blk W3 w.heap.size 79 #[.string x.name,.slice A x.args.length cap,.int .i64 x.idx]:=by
  rw [hW3]
  exact ((Blk.new w 79 #[.string x.name,.slice A x.args.length cap,.int .i64 x.idx]).same (Below.heap_alloc _ _ _ (by simp))).same (Below.heap_alloc _ _ _ (by simp;omega))
 have b1:Blk W3 (w.heap.size+1) 74 #[.string ⟨#[]⟩,.slice none 0 0,.int .i64 0]:=by
  rw [hW3]
  have:=Blk.new (w.alloc (.cells #[.string x.name,.slice A x.args.length cap,.int .i64 x.idx] 79)) 74 #[.string ⟨#[]⟩,.slice none 0 0,.int .i64 0]
  rw [World.size_alloc] at this
  exact this.same (Below.heap_alloc _ _ _ (by simp))
 have b2:Blk W3 (w.heap.size+2) 74 #[.string x.name,.slice none 0 0,.int .i64 0]:=by
  rw [hW3]
  have:=Blk.new ((w.alloc (.cells #[.string x.name,.slice A x.args.length cap,.int .i64 x.idx] 79)).alloc (.cells #[.string ⟨#[]⟩,.slice none 0 0,.int .i64 0] 74)) 74 #[.string x.name,.slice none 0 0,.int .i64 0]
  simpa using this
 rw [←hW3]
 clear hW3
 have hF1:=HF.out.mono hB3.size
 refine (toTypeS_any x.args W3 F _ (ArrTy.below HA.out hB3 HF.out) hF1 (by have:=HZ.out;unfold Kt.size at this;omega)).mono ?_
 rintro e V1 ⟨y1,G1,rfl,hb1,hv1,hfr1,hfs1⟩
 obtain ⟨A1,cap1,rfl,-,-⟩:=hv1.form
 have hbz1:=hb1.size
 have m0:=b0.same (hb1.block _ b0.lt)
 have m1:=b1.same (hb1.block _ b1.lt)
 have m2:=b2.same (hb1.block _ b2.lt)
 clear b0 b1 b2
 have b0:=m0
 have b1:=m1
 have b2:=m2
 clear m0 m1 m2
 have hB4:=hB3.trans (hb1.mono hB3.size)
 have a0:V1.cell? ⟨w.heap.size,0,none⟩=some (.string x.name):=(b0.cell 0).trans (by simp)
 have d0:V1.cell? ⟨w.heap.size+1,0,none⟩=some (.string ⟨#[]⟩):=(b1.cell 0).trans (by simp)
 have f0:=b1.frozen 0
 have e0:V1.cell? ⟨w.heap.size+2,0,none⟩=some (.string x.name):=(b2.cell 0).trans (by simp)
 have g0:=b2.frozen 0
 have a1:V1.cell? ⟨w.heap.size,1,none⟩=some (.slice A x.args.length cap):=(b0.cell 1).trans (by simp)
 have d1:V1.cell? ⟨w.heap.size+1,1,none⟩=some (.slice none 0 0):=(b1.cell 1).trans (by simp)
 have f1:=b1.frozen 1
 have e1:V1.cell? ⟨w.heap.size+2,1,none⟩=some (.slice none 0 0):=(b2.cell 1).trans (by simp)
 have g1:=b2.frozen 1
 have a2:V1.cell? ⟨w.heap.size,2,none⟩=some (.int .i64 x.idx):=(b0.cell 2).trans (by simp)
 have d2:V1.cell? ⟨w.heap.size+1,2,none⟩=some (.int .i64 0):=(b1.cell 2).trans (by simp)
 have f2:=b1.frozen 2
 have e2:V1.cell? ⟨w.heap.size+2,2,none⟩=some (.int .i64 0):=(b2.cell 2).trans (by simp)
 have g2:=b2.frozen 2
 have HV1:=jj hv1
 have HFr1:=jj hfr1
 have HFs1:=jj hfs1
 clear hv1 hfr1 hfs1
 clear b0 b1 b2
 go_wp2
 refine bodyPost_ret (v:=.agg #[.string x.name,.slice A1 x.args.length cap1,.int .i64 x.idx]) (by simp [results,Try.results50,go_sem,d0,d1,d2]) rfl ?_
 have hkeep:Kept G1 V1 (((((V1.setCell ⟨w.heap.size+1+1,1,none⟩ (.slice A1 x.args.length cap1)).setCell ⟨w.heap.size+1+1,2,none⟩ (.int .i64 x.idx)).setCell ⟨w.heap.size+1,0,none⟩ (.string x.name)).setCell ⟨w.heap.size+1,1,none⟩ (.slice A1 x.args.length cap1)).setCell ⟨w.heap.size+1,2,none⟩ (.int .i64 x.idx)):=fun b hb=>by
  have h1:=(HFs1.out b hb).1
  rw [zz7 _ _ _ _ (by simp;omega),zz7 _ _ _ _ (by simp;omega),zz7 _ _ _ _ (by simp;omega),zz7 _ _ _ _ (by simp;omega),zz7 _ _ _ _ (by simp;omega)]
 exact ⟨[.string x.name,.slice A1 x.args.length cap1,.int .i64 x.idx],G1,rfl,(((((hB4.setCell (by simp;omega) _).setCell (by simp;omega) _).setCell (by simp) _).setCell (by simp) _).setCell (by simp) _),⟨_,rfl,ArrTy.mono HV1.out hkeep,hs0⟩,HFr1.out.kept hkeep,fun b hb=>⟨by have:=(HFs1.out b hb).1;omega,by simpa [World.setCell] using (HFs1.out b hb).2⟩⟩
theorem info_Kt:(Try.prog.info? 74).map (fun i=>(i.zero,i.size,i.bytes))=some (some (.agg #[.string ⟨#[]⟩,.slice none 0 0,.int .i64 0]),3,48):=by kernel_rfl
def MadeKts (w:World) (vs:List Kt) (e:Ending) (w':World):Prop:=∃ (x:Value) (F:List Nat),e=.returned x∧Below w.heap.size w w'∧Arr w' (KtR w') vs x F∧Free w' F∧Fresh w w' F
set_option maxHeartbeats 800000 in
theorem toCtorS_any (ks:List Kt) (w:World) (F:List Nat) (x:Value) (hx:Arr w (KtR w) ks x F) (hF:Under w.heap.size F) (hz:Kt.sizes ks≤1048576) :
  Calls Try.prog 37 #[x] w (MadeKts w ks):=by
 have HX:=jj hx
 obtain ⟨A,cap,rfl,hl,hm⟩:=hx.form
 clear hx
 have hn:ks.length≤1048576:=by unfold Kt.sizes at hz;omega
 have HF:=jj hF
 clear hF
 have HZ:=jj hz
 clear hz
 obtain ⟨i0,hi,hz0,hz1,hz2⟩:=info_parts info_Kt
 have hmk:=fun W=>run_make_rowN (P:=Try.prog) 55 74 i0 _ Try.underlying55 hi hz0 .i64 .i64 ks.length ks.length (zz8 _) (by rw [hz2];omega) (by omega) W
 simp only [Value.cells,hz1] at hmk
 clear hi hz0 hz1 hz2
 generalize hC:madeCells #[.string ⟨#[]⟩,.slice none 0 0,.int .i64 0] (ks.length*3)=C at hmk
 have HC:=jj hC
 clear hC
 go_enter Try.func37,Try.ntmps37
 go_wp2
 have HR0:=jj (show Row (w.alloc (.cells C 74)) w.heap.size 74 3 ks.length (KtR (w.alloc (.cells C 74))) ([]:List Kt) [] from by
  rw [←HC.out];exact Row.made w _ 3 ks.length _ _)
 have hB0:Below w.heap.size w (w.alloc (.cells C 74)):=(zy2 _ _).alloc (zz8 _) _
 go_loopw [4] (fun i wr=>∃ k:Nat,∃ G:List Nat,k≤ks.length∧i=.int .i64 k∧Below w.heap.size w wr∧Hid (Row wr w.heap.size 74 3 ks.length (KtR wr) (ks.take k) G∧Free wr G∧∀ b∈G,w.heap.size<b∧b<wr.heap.size)) (fun i _=>ks.length-(intOf i).toNat)
 case atStart=>exact ⟨0,[],Nat.zero_le _,rfl,hB0,⟨HR0.out,Free.nil _,fun b hb=>by cases hb⟩⟩
 case round =>
  obtain ⟨k,G0,hk,rfl,hB,HR⟩:=hrel
  have hgs:=HR.out.1.lt
  by_cases hlt:k<ks.length
  ·obtain ⟨b,off,cs,G,rfl,hb,hcs,hvc,hG⟩:=HX.out.get KtR_len hlt
   have hbl:=HF.out b hb
   have hGFc:=HF.out.sub hG
   have hwc:=hvc.below hB hGFc
   have hcsc:=hcs.same (hB.block b hbl)
   obtain ⟨A1,cap1,rfl⟩:=KtR_form hvc
   have c0:=hcsc 0 _ rfl
   have c1:=hcsc 1 _ rfl
   have c2:=hcsc 2 _ rfl
   simp only [Nat.add_zero] at c0
   clear hcs hcsc hvc hG
   have HV:=jj hwc
   clear hwc
   have HG:=jj hGFc
   clear hGFc
   go_wp2_with fail
   refine (toCtor_any ks[k] _ _ G HV.out (HG.out.mono hB.size) (by
    have h1:=HZ.out
    have h2:=sumBy_mem_le Kt.size ks k hlt
    unfold Kt.sizes at h1
    omega)).mono ?_
   rintro e w' ⟨cs',H',rfl,hB',hv',hfr,hfs⟩
   obtain ⟨A',cap',rfl⟩:=KtR_form hv'
   have hGk:Kept G0 wr w':=.of_below hB' fun b hb=>(HR.out.2.2 b hb).2
   have hR1:=HR.out.1.mono (w':=w') (R':=KtR w') (hB'.block _ hgs) hGk (fun x _=>KtR.mono x)
   have hn3:k*3+3≤ks.length*3:=by omega
   obtain ⟨⟨u0,d0⟩,f0⟩:=hR1.old (k*3) (by omega)
   obtain ⟨⟨u1,d1⟩,f1⟩:=hR1.old (k*3+1) (by omega)
   obtain ⟨⟨u2,d2⟩,f2⟩:=hR1.old (k*3+2) (by omega)
   have HR1:=jj hR1
   clear hR1
   have hB3:=hB.trans (hB'.mono hB.size)
   have hg3:=zAE w.heap.size [.string ks[k].name,.slice A' ks[k].args.length cap',.int .i64 ks[k].idx] w' (k*3)
   have hB4:=jj (hB3.grown hg3.1 hB3.size (fun _ h=>by cases h;exact zz8 _))
   have hkH:Kept H' w' (putCells w' w.heap.size (k*3) [.string ks[k].name,.slice A' ks[k].args.length cap',.int .i64 ks[k].idx]):=fun b hb=>hg3.1.block b (hfs b hb).2 (fun e=>by cases e;have:=(hfs _ hb).1;omega)
   have hkG:Kept G0 w' (putCells w' w.heap.size (k*3) [.string ks[k].name,.slice A' ks[k].args.length cap',.int .i64 ks[k].idx]):=fun b hb=>hg3.1.block b (zz9 (HR.out.2.2 b hb).2 hB'.size) (fun e=>by cases e;have:=(HR.out.2.2 _ hb).1;omega)
   have hR4:=jj (by
    have h:=Row.store (R':=KtR (putCells w' w.heap.size (k*3) [.string ks[k].name,.slice A' ks[k].args.length cap',.int .i64 ks[k].idx])) (x:=ks[k]) (cs:=[.string ks[k].name,.slice A' ks[k].args.length cap',.int .i64 ks[k].idx]) KtR_len HR1.out rfl (by simp;omega) (fun hg=>by have:=(HR.out.2.2 _ hg).1;omega)
     (fun x _ ds H hk h=>KtR.mono x ds H (by rw [show (ks.take k).length=k by simp;omega] at hk;exact hk) h)
     (KtR.mono _ _ _ hkH hv')
    rw [show (ks.take k).length=k by simp;omega] at h
    rw [←take_snoc' ks k hlt] at h
    exact (And.intro h (And.intro (show Free (putCells w' w.heap.size (k*3) [.string ks[k].name,.slice A' ks[k].args.length cap',.int .i64 ks[k].idx]) (G0 ++ H') from
     ⟨List.nodup_append.2 ⟨HR.out.2.1.1,hfr.1,fun a ha c hc hac=>by
       subst hac
       have:=(HR.out.2.2 _ ha).2
       have:=(hfs _ hc).1
       omega⟩,
     fun b hb i=>by
      rcases List.mem_append.1 hb with hb | hb
      ·exact ((HR.out.2.1.kept hGk).kept hkG).2 b hb i
      ·exact (hfr.kept hkH).2 b hb i⟩)
     (show ∀ b∈G0 ++ H',w.heap.size<b∧b<(putCells w' w.heap.size (k*3) [.string ks[k].name,.slice A' ks[k].args.length cap',.int .i64 ks[k].idx]).heap.size from fun b hb=>by
      rw [hg3.2]
      rcases List.mem_append.1 hb with hb | hb
      ·exact ⟨(HR.out.2.2 b hb).1,zz9 (HR.out.2.2 b hb).2 hB'.size⟩
      ·exact ⟨zz9 hgs (hfs b hb).1,(hfs b hb).2⟩))))
   clear hg3 HR1 hv' hfr hfs hkH hkG hGk hB3 hB' HR HV
   go_wp2
   go_roundw
   case rel=>exact ⟨k+1,_,by omega,by go_num,hB4.out,hR4.out⟩
   case measure=>simp [intOf];omega
  ·have hfin:MadeKts w ks (.returned (.slice (some ⟨w.heap.size,0,none⟩) ks.length ks.length)) wr:=by
    obtain ⟨h,hf,hb⟩:=HR.out
    rw [List.take_of_length_le (by omega)] at h
    have hng:w.heap.size∉G0:=fun hg=>by have:=(hb _ hg).1;omega
    obtain ⟨G',h1,h2⟩:=h.arr rfl (by unfold maxLen;omega)
    refine ⟨_,G',rfl,hB,h1,?_,?_⟩
    ·rcases h2 with rfl | rfl
     ·exact h.free hf hng
     ·exact Free.nil _
    ·rcases h2 with rfl | rfl
     ·intro b hb'
      rcases List.mem_cons.1 hb' with rfl | hb'
      ·exact ⟨zz8 _,hgs⟩
      ·exact ⟨Nat.le_of_lt (hb b hb').1,(hb b hb').2⟩
     ·exact Fresh.nil _ _
   have HFin:=jj hfin
   clear hfin
   go_wp2
   go_ret
   exact HFin.out
def MadeDt (w:World) (v:Dt) (e:Ending) (w':World):Prop:=∃ (cs:List Value) (F:List Nat),e=.returned (.agg cs.toArray)∧Below w.heap.size w w'∧DtR w' v cs F∧Free w' F∧Fresh w w' F
set_option maxHeartbeats 400000 in
theorem toData_any (x:Dt) (w:World) (cs:List Value) (F:List Nat) (hv:DtR w x cs F) (hF:Under w.heap.size F) (hz:x.size≤1048576):Calls Try.prog 23 #[.agg cs.toArray] w (MadeDt w x):=by
 obtain ⟨kv,rfl,ha,hs0⟩:=hv
 have HA:=jj ha
 obtain ⟨A,cap,rfl,-,-⟩:=ha.form
 clear ha
 have HF:=jj hF
 clear hF
 have HZ:=jj hz
 clear hz
 go_enter Try.func23,Try.ntmps23
 go_wp2_with fail
 obtain ⟨W3,hW3⟩:∃ W3,W3=(((w.alloc (.cells #[.string x.name,.slice A x.ctors.length cap] 50)).alloc (.cells #[.string ⟨#[]⟩,.slice none 0 0] 57)).alloc (.cells #[.string x.name,.slice none 0 0] 57)):=⟨_,rfl⟩
 have hB3:Below w.heap.size w W3:=by rw [hW3];exact (((zy2 _ _).alloc (zz8 _) _).alloc (by simp) _).alloc (by simp;omega) _
 have hsz:w.heap.size+3≤W3.heap.size:=by rw [hW3];simp
 have b0:Blk W3 w.heap.size 50 #[.string x.name,.slice A x.ctors.length cap]:=by
  rw [hW3]
  exact ((Blk.new w 50 #[.string x.name,.slice A x.ctors.length cap]).same (Below.heap_alloc _ _ _ (by simp))).same (Below.heap_alloc _ _ _ (by simp;omega))
 have b1:Blk W3 (w.heap.size+1) 57 #[.string ⟨#[]⟩,.slice none 0 0]:=by
  rw [hW3]
  have:=Blk.new (w.alloc (.cells #[.string x.name,.slice A x.ctors.length cap] 50)) 57 #[.string ⟨#[]⟩,.slice none 0 0]
  rw [World.size_alloc] at this
  exact this.same (Below.heap_alloc _ _ _ (by simp))
 have b2:Blk W3 (w.heap.size+2) 57 #[.string x.name,.slice none 0 0]:=by
  rw [hW3]
  have:=Blk.new ((w.alloc (.cells #[.string x.name,.slice A x.ctors.length cap] 50)).alloc (.cells #[.string ⟨#[]⟩,.slice none 0 0] 57)) 57 #[.string x.name,.slice none 0 0]
  simpa using this
 rw [←hW3]
 clear hW3
 have hF1:=HF.out.mono hB3.size
 refine (toCtorS_any x.ctors W3 F _ (ArrKt.below HA.out hB3 HF.out) hF1 (by have:=HZ.out;unfold Dt.size at this;omega)).mono ?_
 rintro e V1 ⟨y1,G1,rfl,hb1,hv1,hfr1,hfs1⟩
 obtain ⟨A1,cap1,rfl,-,-⟩:=hv1.form
 have hbz1:=hb1.size
 have m0:=b0.same (hb1.block _ b0.lt)
 have m1:=b1.same (hb1.block _ b1.lt)
 have m2:=b2.same (hb1.block _ b2.lt)
 clear b0 b1 b2
 have b0:=m0
 have b1:=m1
 have b2:=m2
 clear m0 m1 m2
 have hB4:=hB3.trans (hb1.mono hB3.size)
 have a0:V1.cell? ⟨w.heap.size,0,none⟩=some (.string x.name):=(b0.cell 0).trans (by simp)
 have d0:V1.cell? ⟨w.heap.size+1,0,none⟩=some (.string ⟨#[]⟩):=(b1.cell 0).trans (by simp)
 have f0:=b1.frozen 0
 have e0:V1.cell? ⟨w.heap.size+2,0,none⟩=some (.string x.name):=(b2.cell 0).trans (by simp)
 have g0:=b2.frozen 0
 have a1:V1.cell? ⟨w.heap.size,1,none⟩=some (.slice A x.ctors.length cap):=(b0.cell 1).trans (by simp)
 have d1:V1.cell? ⟨w.heap.size+1,1,none⟩=some (.slice none 0 0):=(b1.cell 1).trans (by simp)
 have f1:=b1.frozen 1
 have e1:V1.cell? ⟨w.heap.size+2,1,none⟩=some (.slice none 0 0):=(b2.cell 1).trans (by simp)
 have g1:=b2.frozen 1
 have HV1:=jj hv1
 have HFr1:=jj hfr1
 have HFs1:=jj hfs1
 clear hv1 hfr1 hfs1
 clear b0 b1 b2
 go_wp2
 refine bodyPost_ret (v:=.agg #[.string x.name,.slice A1 x.ctors.length cap1]) (by simp [results,Try.results23,go_sem,d0,d1]) rfl ?_
 have hkeep:Kept G1 V1 (((V1.setCell ⟨w.heap.size+1+1,1,none⟩ (.slice A1 x.ctors.length cap1)).setCell ⟨w.heap.size+1,0,none⟩ (.string x.name)).setCell ⟨w.heap.size+1,1,none⟩ (.slice A1 x.ctors.length cap1)):=fun b hb=>by
  have h1:=(HFs1.out b hb).1
  rw [zz7 _ _ _ _ (by simp;omega),zz7 _ _ _ _ (by simp;omega),zz7 _ _ _ _ (by simp;omega)]
 exact ⟨[.string x.name,.slice A1 x.ctors.length cap1],G1,rfl,(((hB4.setCell (by simp;omega) _).setCell (by simp) _).setCell (by simp) _),⟨_,rfl,ArrKt.mono HV1.out hkeep,hs0⟩,HFr1.out.kept hkeep,fun b hb=>⟨by have:=(HFs1.out b hb).1;omega,by simpa [World.setCell] using (HFs1.out b hb).2⟩⟩
theorem info_Dt:(Try.prog.info? 57).map (fun i=>(i.zero,i.size,i.bytes))=some (some (.agg #[.string ⟨#[]⟩,.slice none 0 0]),2,40):=by kernel_rfl
def MadeDts (w:World) (vs:List Dt) (e:Ending) (w':World):Prop:=∃ (x:Value) (F:List Nat),e=.returned x∧Below w.heap.size w w'∧Arr w' (DtR w') vs x F∧Free w' F∧Fresh w w' F
set_option maxHeartbeats 800000 in
theorem toDataS_any (ks:List Dt) (w:World) (F:List Nat) (x:Value) (hx:Arr w (DtR w) ks x F) (hF:Under w.heap.size F) (hz:Dt.sizes ks≤1048576) :
  Calls Try.prog 7 #[x] w (MadeDts w ks):=by
 have HX:=jj hx
 obtain ⟨A,cap,rfl,hl,hm⟩:=hx.form
 clear hx
 have hn:ks.length≤1048576:=by unfold Dt.sizes at hz;omega
 have HF:=jj hF
 clear hF
 have HZ:=jj hz
 clear hz
 obtain ⟨i0,hi,hz0,hz1,hz2⟩:=info_parts info_Dt
 have hmk:=fun W=>run_make_rowN (P:=Try.prog) 33 57 i0 _ Try.underlying33 hi hz0 .i64 .i64 ks.length ks.length (zz8 _) (by rw [hz2];omega) (by omega) W
 simp only [Value.cells,hz1] at hmk
 clear hi hz0 hz1 hz2
 generalize hC:madeCells #[.string ⟨#[]⟩,.slice none 0 0] (ks.length*2)=C at hmk
 have HC:=jj hC
 clear hC
 go_enter Try.func7,Try.ntmps7
 go_wp2
 have HR0:=jj (show Row (w.alloc (.cells C 57)) w.heap.size 57 2 ks.length (DtR (w.alloc (.cells C 57))) ([]:List Dt) [] from by
  rw [←HC.out];exact Row.made w _ 2 ks.length _ _)
 have hB0:Below w.heap.size w (w.alloc (.cells C 57)):=(zy2 _ _).alloc (zz8 _) _
 go_loopw [4] (fun i wr=>∃ k:Nat,∃ G:List Nat,k≤ks.length∧i=.int .i64 k∧Below w.heap.size w wr∧Hid (Row wr w.heap.size 57 2 ks.length (DtR wr) (ks.take k) G∧Free wr G∧∀ b∈G,w.heap.size<b∧b<wr.heap.size)) (fun i _=>ks.length-(intOf i).toNat)
 case atStart=>exact ⟨0,[],Nat.zero_le _,rfl,hB0,⟨HR0.out,Free.nil _,fun b hb=>by cases hb⟩⟩
 case round =>
  obtain ⟨k,G0,hk,rfl,hB,HR⟩:=hrel
  have hgs:=HR.out.1.lt
  by_cases hlt:k<ks.length
  ·obtain ⟨b,off,cs,G,rfl,hb,hcs,hvc,hG⟩:=HX.out.get DtR_len hlt
   have hbl:=HF.out b hb
   have hGFc:=HF.out.sub hG
   have hwc:=hvc.below hB hGFc
   have hcsc:=hcs.same (hB.block b hbl)
   obtain ⟨A1,cap1,rfl⟩:=DtR_form hvc
   have c0:=hcsc 0 _ rfl
   have c1:=hcsc 1 _ rfl
   simp only [Nat.add_zero] at c0
   clear hcs hcsc hvc hG
   have HV:=jj hwc
   clear hwc
   have HG:=jj hGFc
   clear hGFc
   go_wp2_with fail
   refine (toData_any ks[k] _ _ G HV.out (HG.out.mono hB.size) (by
    have h1:=HZ.out
    have h2:=sumBy_mem_le Dt.size ks k hlt
    unfold Dt.sizes at h1
    omega)).mono ?_
   rintro e w' ⟨cs',H',rfl,hB',hv',hfr,hfs⟩
   obtain ⟨A',cap',rfl⟩:=DtR_form hv'
   have hGk:Kept G0 wr w':=.of_below hB' fun b hb=>(HR.out.2.2 b hb).2
   have hR1:=HR.out.1.mono (w':=w') (R':=DtR w') (hB'.block _ hgs) hGk (fun x _=>DtR.mono x)
   have hn3:k*2+2≤ks.length*2:=by omega
   obtain ⟨⟨u0,d0⟩,f0⟩:=hR1.old (k*2) (by omega)
   obtain ⟨⟨u1,d1⟩,f1⟩:=hR1.old (k*2+1) (by omega)
   have HR1:=jj hR1
   clear hR1
   have hB3:=hB.trans (hB'.mono hB.size)
   have hg3:=zAE w.heap.size [.string ks[k].name,.slice A' ks[k].ctors.length cap'] w' (k*2)
   have hB4:=jj (hB3.grown hg3.1 hB3.size (fun _ h=>by cases h;exact zz8 _))
   have hkH:Kept H' w' (putCells w' w.heap.size (k*2) [.string ks[k].name,.slice A' ks[k].ctors.length cap']):=fun b hb=>hg3.1.block b (hfs b hb).2 (fun e=>by cases e;have:=(hfs _ hb).1;omega)
   have hkG:Kept G0 w' (putCells w' w.heap.size (k*2) [.string ks[k].name,.slice A' ks[k].ctors.length cap']):=fun b hb=>hg3.1.block b (zz9 (HR.out.2.2 b hb).2 hB'.size) (fun e=>by cases e;have:=(HR.out.2.2 _ hb).1;omega)
   have hR4:=jj (by
    have h:=Row.store (R':=DtR (putCells w' w.heap.size (k*2) [.string ks[k].name,.slice A' ks[k].ctors.length cap'])) (x:=ks[k]) (cs:=[.string ks[k].name,.slice A' ks[k].ctors.length cap']) DtR_len HR1.out rfl (by simp;omega) (fun hg=>by have:=(HR.out.2.2 _ hg).1;omega)
     (fun x _ ds H hk h=>DtR.mono x ds H (by rw [show (ks.take k).length=k by simp;omega] at hk;exact hk) h)
     (DtR.mono _ _ _ hkH hv')
    rw [show (ks.take k).length=k by simp;omega] at h
    rw [←take_snoc' ks k hlt] at h
    exact (And.intro h (And.intro (show Free (putCells w' w.heap.size (k*2) [.string ks[k].name,.slice A' ks[k].ctors.length cap']) (G0 ++ H') from
     ⟨List.nodup_append.2 ⟨HR.out.2.1.1,hfr.1,fun a ha c hc hac=>by
       subst hac
       have:=(HR.out.2.2 _ ha).2
       have:=(hfs _ hc).1
       omega⟩,
     fun b hb i=>by
      rcases List.mem_append.1 hb with hb | hb
      ·exact ((HR.out.2.1.kept hGk).kept hkG).2 b hb i
      ·exact (hfr.kept hkH).2 b hb i⟩)
     (show ∀ b∈G0 ++ H',w.heap.size<b∧b<(putCells w' w.heap.size (k*2) [.string ks[k].name,.slice A' ks[k].ctors.length cap']).heap.size from fun b hb=>by
      rw [hg3.2]
      rcases List.mem_append.1 hb with hb | hb
      ·exact ⟨(HR.out.2.2 b hb).1,zz9 (HR.out.2.2 b hb).2 hB'.size⟩
      ·exact ⟨zz9 hgs (hfs b hb).1,(hfs b hb).2⟩))))
   clear hg3 HR1 hv' hfr hfs hkH hkG hGk hB3 hB' HR HV
   go_wp2
   go_roundw
   case rel=>exact ⟨k+1,_,by omega,by go_num,hB4.out,hR4.out⟩
   case measure=>simp [intOf];omega
  ·have hfin:MadeDts w ks (.returned (.slice (some ⟨w.heap.size,0,none⟩) ks.length ks.length)) wr:=by
    obtain ⟨h,hf,hb⟩:=HR.out
    rw [List.take_of_length_le (by omega)] at h
    have hng:w.heap.size∉G0:=fun hg=>by have:=(hb _ hg).1;omega
    obtain ⟨G',h1,h2⟩:=h.arr rfl (by unfold maxLen;omega)
    refine ⟨_,G',rfl,hB,h1,?_,?_⟩
    ·rcases h2 with rfl | rfl
     ·exact h.free hf hng
     ·exact Free.nil _
    ·rcases h2 with rfl | rfl
     ·intro b hb'
      rcases List.mem_cons.1 hb' with rfl | hb'
      ·exact ⟨zz8 _,hgs⟩
      ·exact ⟨Nat.le_of_lt (hb b hb').1,(hb b hb').2⟩
     ·exact Fresh.nil _ _
   have HFin:=jj hfin
   clear hfin
   go_wp2
   go_ret
   exact HFin.out
set_option maxHeartbeats 400000 in
theorem eqType_any (x:Ty) (w:World) (cs ds:List Value) (F F2:List Nat) (hv:TyR w x cs F) (hv2:TyR w x ds F2) (hF:Under w.heap.size F) (hF2:Under w.heap.size F2) :
  Calls Try.prog 82 #[.agg cs.toArray,.agg ds.toArray] w fun e w'=>e=.returned (.bool true)∧Below w.heap.size w w':=by
 have ne_d:(x.d != x.d)=false:=by simp
 have ne_i:(x.i != x.i)=false:=by simp
 obtain rfl:=TyR_form hv
 obtain rfl:=TyR_form hv2
 clear hv hv2 hF hF2
 go_enter Try.func82,Try.ntmps82
 go_wp2
 go_ret
 exact ⟨rfl,((zy2 _ _).alloc (zz8 _) _).alloc (by simp) _⟩
set_option maxHeartbeats 800000 in
theorem eqTypeS_any (ks:List Ty) (w:World) (F F2:List Nat) (x y:Value) (hx:Arr w (TyR w) ks x F) (hy:Arr w (TyR w) ks y F2) (hF:Under w.heap.size F) (hF2:Under w.heap.size F2) :
  Calls Try.prog 69 #[x,y] w fun e w'=>e=.returned (.bool true)∧Below w.heap.size w w':=by
 have HX:=jj hx
 have HY:=jj hy
 obtain ⟨A,cap,rfl,hl,hm⟩:=hx.form
 obtain ⟨A',cap',rfl,hl',hm'⟩:=hy.form
 clear hx hy
 have HF:=jj hF
 have HF2:=jj hF2
 clear hF hF2
 go_enter Try.func69,Try.ntmps69
 go_wp2
 go_loopw [5] (fun i wr=>∃ k:Nat,k≤ks.length∧i=.int .i64 k∧Below w.heap.size w wr) (fun i _=>ks.length-(intOf i).toNat)
 case atStart=>exact ⟨0,Nat.zero_le _,rfl,zy2 _ _⟩
 case round =>
  obtain ⟨k,hk,rfl,hB⟩:=hrel
  have hBs:=hB.size
  by_cases hlt:k<ks.length
  ·obtain ⟨b,off,cs,G,rfl,hb,hcs,hvc,hG⟩:=HX.out.get zAQ hlt
   have hbl:=HF.out b hb
   have hGFc:=HF.out.sub hG
   have hwc:=hvc.below hB hGFc
   have hcsc:=hcs.same (hB.block b hbl)
   obtain rfl:=TyR_form hvc
   have c0:=hcsc 0 _ rfl
   have c1:=hcsc 1 _ rfl
   simp only [Nat.add_zero] at c0
   clear hcs hcsc hvc hG
   have HV:=jj hwc
   clear hwc
   have HG:=jj hGFc
   clear hGFc
   obtain ⟨b2,off2,ds,G2,rfl,hb2,hds,hvd,hG2⟩:=HY.out.get zAQ hlt
   have hbl2:=HF2.out b2 hb2
   have hGFd:=HF2.out.sub hG2
   have hwd:=hvd.below hB hGFd
   have hcsd:=hds.same (hB.block b2 hbl2)
   obtain rfl:=TyR_form hvd
   have d0:=hcsd 0 _ rfl
   have d1:=hcsd 1 _ rfl
   simp only [Nat.add_zero] at d0
   clear hds hcsd hvd hG2
   have HV2:=jj hwd
   clear hwd
   have HG2:=jj hGFd
   clear hGFd
   go_wp2_with fail
   have hkeep:∀ U U':World,(U.cell? ⟨b,off+k*2,none⟩=some (.int .i64 ks[k].d)∧U.cell? ⟨b,off+k*2+1,none⟩=some (.int .i64 ks[k].i)∧U.cell? ⟨b2,off2+k*2,none⟩=some (.int .i64 ks[k].d)∧U.cell? ⟨b2,off2+k*2+1,none⟩=some (.int .i64 ks[k].i))→Below U.heap.size U U'→wr.heap.size≤U.heap.size→(U'.cell? ⟨b,off+k*2,none⟩=some (.int .i64 ks[k].d)∧U'.cell? ⟨b,off+k*2+1,none⟩=some (.int .i64 ks[k].i)∧U'.cell? ⟨b2,off2+k*2,none⟩=some (.int .i64 ks[k].d)∧U'.cell? ⟨b2,off2+k*2+1,none⟩=some (.int .i64 ks[k].i)):=fun U U' h hb hU=>⟨(hb.cell (zz9 (show b<wr.heap.size from by omega) hU)).trans h.1,(hb.cell (zz9 (show b<wr.heap.size from by omega) hU)).trans h.2.1,(hb.cell (zz9 (show b2<wr.heap.size from by omega) hU)).trans h.2.2.1,(hb.cell (zz9 (show b2<wr.heap.size from by omega) hU)).trans h.2.2.2⟩
   have HKeep:=jj hkeep
   clear hkeep
   go_region_held3 (fun w'=>w'.cell? ⟨b,off+k*2,none⟩=some (.int .i64 ks[k].d)∧w'.cell? ⟨b,off+k*2+1,none⟩=some (.int .i64 ks[k].i)∧w'.cell? ⟨b2,off2+k*2,none⟩=some (.int .i64 ks[k].d)∧w'.cell? ⟨b2,off2+k*2+1,none⟩=some (.int .i64 ks[k].i)) (first | assumption | (exact ⟨c0,c1,d0,d1⟩) | (exact HKeep.out wr.drew w' ⟨c0,c1,d0,d1⟩ hB' (zz8 _))) (first | (go_at_call 82;((with_reducible refine (eqType_any ks[k] _ _ _ G G2 HV.out.drew HV2.out.drew (Under.drew (HG.out.mono hB.size)) (Under.drew (HG2.out.mono hB.size))).mono ?_);rintro e w' ⟨rfl,hB'⟩)))
   have hB3:=hB.drew.trans (hB'.mono hB.size)
   go_wp2
   go_roundw
   case rel=>exact ⟨k+1,by omega,by go_num,hB3⟩
   case measure=>simp [intOf];omega
  ·go_wp2
   go_ret
   exact ⟨rfl,hB⟩
set_option maxHeartbeats 400000 in
theorem eqCtor_any (x:Kt) (w:World) (cs ds:List Value) (F F2:List Nat) (hv:KtR w x cs F) (hv2:KtR w x ds F2) (hF:Under w.heap.size F) (hF2:Under w.heap.size F2) :
  Calls Try.prog 54 #[.agg cs.toArray,.agg ds.toArray] w fun e w'=>e=.returned (.bool true)∧Below w.heap.size w w':=by
 obtain ⟨kv,rfl,ha,hs0⟩:=hv
 have HA:=jj ha
 obtain ⟨A,cap,rfl,-,-⟩:=ha.form
 clear ha
 obtain ⟨kv',rfl,hb,hs20⟩:=hv2
 have HA2:=jj hb
 obtain ⟨A',cap',rfl,-,-⟩:=hb.form
 clear hb
 have ne_idx:(x.idx != x.idx)=false:=by simp
 have HF:=jj hF
 have HF2:=jj hF2
 clear hF hF2
 go_enter Try.func54,Try.ntmps54
 go_wp2_with fail
 obtain ⟨W2,hW2⟩:∃ W2,W2=(w.alloc (.cells #[.string x.name,.slice A x.args.length cap,.int .i64 x.idx] 74)).alloc (.cells #[.string x.name,.slice A' x.args.length cap',.int .i64 x.idx] 74):=⟨_,rfl⟩
 have hB2:Below w.heap.size w W2:=by rw [hW2];exact ((zy2 _ _).alloc (zz8 _) _).alloc (by simp) _
 have hz2:w.heap.size+2≤W2.heap.size:=by rw [hW2];simp
 have b0:Blk W2 w.heap.size 74 #[.string x.name,.slice A x.args.length cap,.int .i64 x.idx]:=by rw [hW2];exact (Blk.new w _ _).same (Below.heap_alloc _ _ _ (by simp))
 have b1:Blk W2 (w.heap.size+1) 74 #[.string x.name,.slice A' x.args.length cap',.int .i64 x.idx]:=by rw [hW2];have:=Blk.new (w.alloc (.cells #[.string x.name,.slice A x.args.length cap,.int .i64 x.idx] 74)) 74 #[.string x.name,.slice A' x.args.length cap',.int .i64 x.idx];simpa using this
 rw [←hW2]
 clear hW2
 refine (eqTypeS_any x.args W2 F F2 _ _ (ArrTy.below HA.out hB2 HF.out) (ArrTy.below HA2.out hB2 HF2.out) (HF.out.mono hB2.size) (HF2.out.mono hB2.size)).mono ?_
 rintro e V0 ⟨rfl,hb0⟩
 have hB3:=hB2.trans (hb0.mono hB2.size)
 have m0:=b0.same (hb0.block _ b0.lt)
 have m1:=b1.same (hb0.block _ b1.lt)
 clear b0 b1
 have b0:=m0
 have b1:=m1
 clear m0 m1 hb0
 have a0:V0.cell? ⟨w.heap.size,0,none⟩=some (.string x.name):=(b0.cell 0).trans (by simp)
 have c0:V0.cell? ⟨w.heap.size+1,0,none⟩=some (.string x.name):=(b1.cell 0).trans (by simp)
 have a1:V0.cell? ⟨w.heap.size,1,none⟩=some (.slice A x.args.length cap):=(b0.cell 1).trans (by simp)
 have c1:V0.cell? ⟨w.heap.size+1,1,none⟩=some (.slice A' x.args.length cap'):=(b1.cell 1).trans (by simp)
 have a2:V0.cell? ⟨w.heap.size,2,none⟩=some (.int .i64 x.idx):=(b0.cell 2).trans (by simp)
 have c2:V0.cell? ⟨w.heap.size+1,2,none⟩=some (.int .i64 x.idx):=(b1.cell 2).trans (by simp)
 clear b0 b1
 go_wp2
 go_ret
 exact ⟨rfl,hB3⟩
set_option maxHeartbeats 800000 in
theorem eqCtorS_any (ks:List Kt) (w:World) (F F2:List Nat) (x y:Value) (hx:Arr w (KtR w) ks x F) (hy:Arr w (KtR w) ks y F2) (hF:Under w.heap.size F) (hF2:Under w.heap.size F2) :
  Calls Try.prog 42 #[x,y] w fun e w'=>e=.returned (.bool true)∧Below w.heap.size w w':=by
 have HX:=jj hx
 have HY:=jj hy
 obtain ⟨A,cap,rfl,hl,hm⟩:=hx.form
 obtain ⟨A',cap',rfl,hl',hm'⟩:=hy.form
 clear hx hy
 have HF:=jj hF
 have HF2:=jj hF2
 clear hF hF2
 go_enter Try.func42,Try.ntmps42
 go_wp2
 go_loopw [5] (fun i wr=>∃ k:Nat,k≤ks.length∧i=.int .i64 k∧Below w.heap.size w wr) (fun i _=>ks.length-(intOf i).toNat)
 case atStart=>exact ⟨0,Nat.zero_le _,rfl,zy2 _ _⟩
 case round =>
  obtain ⟨k,hk,rfl,hB⟩:=hrel
  have hBs:=hB.size
  by_cases hlt:k<ks.length
  ·obtain ⟨b,off,cs,G,rfl,hb,hcs,hvc,hG⟩:=HX.out.get KtR_len hlt
   have hbl:=HF.out b hb
   have hGFc:=HF.out.sub hG
   have hwc:=hvc.below hB hGFc
   have hcsc:=hcs.same (hB.block b hbl)
   obtain ⟨A1,cap1,rfl⟩:=KtR_form hvc
   have c0:=hcsc 0 _ rfl
   have c1:=hcsc 1 _ rfl
   have c2:=hcsc 2 _ rfl
   simp only [Nat.add_zero] at c0
   clear hcs hcsc hvc hG
   have HV:=jj hwc
   clear hwc
   have HG:=jj hGFc
   clear hGFc
   obtain ⟨b2,off2,ds,G2,rfl,hb2,hds,hvd,hG2⟩:=HY.out.get KtR_len hlt
   have hbl2:=HF2.out b2 hb2
   have hGFd:=HF2.out.sub hG2
   have hwd:=hvd.below hB hGFd
   have hcsd:=hds.same (hB.block b2 hbl2)
   obtain ⟨A2,cap2,rfl⟩:=KtR_form hvd
   have d0:=hcsd 0 _ rfl
   have d1:=hcsd 1 _ rfl
   have d2:=hcsd 2 _ rfl
   simp only [Nat.add_zero] at d0
   clear hds hcsd hvd hG2
   have HV2:=jj hwd
   clear hwd
   have HG2:=jj hGFd
   clear hGFd
   go_wp2_with fail
   have hkeep:∀ U U':World,(U.cell? ⟨b,off+k*3,none⟩=some (.string ks[k].name)∧U.cell? ⟨b,off+k*3+1,none⟩=some (.slice A1 ks[k].args.length cap1)∧U.cell? ⟨b,off+k*3+2,none⟩=some (.int .i64 ks[k].idx)∧U.cell? ⟨b2,off2+k*3,none⟩=some (.string ks[k].name)∧U.cell? ⟨b2,off2+k*3+1,none⟩=some (.slice A2 ks[k].args.length cap2)∧U.cell? ⟨b2,off2+k*3+2,none⟩=some (.int .i64 ks[k].idx))→Below U.heap.size U U'→wr.heap.size≤U.heap.size→(U'.cell? ⟨b,off+k*3,none⟩=some (.string ks[k].name)∧U'.cell? ⟨b,off+k*3+1,none⟩=some (.slice A1 ks[k].args.length cap1)∧U'.cell? ⟨b,off+k*3+2,none⟩=some (.int .i64 ks[k].idx)∧U'.cell? ⟨b2,off2+k*3,none⟩=some (.string ks[k].name)∧U'.cell? ⟨b2,off2+k*3+1,none⟩=some (.slice A2 ks[k].args.length cap2)∧U'.cell? ⟨b2,off2+k*3+2,none⟩=some (.int .i64 ks[k].idx)):=fun U U' h hb hU=>⟨(hb.cell (zz9 (show b<wr.heap.size from by omega) hU)).trans h.1,(hb.cell (zz9 (show b<wr.heap.size from by omega) hU)).trans h.2.1,(hb.cell (zz9 (show b<wr.heap.size from by omega) hU)).trans h.2.2.1,(hb.cell (zz9 (show b2<wr.heap.size from by omega) hU)).trans h.2.2.2.1,(hb.cell (zz9 (show b2<wr.heap.size from by omega) hU)).trans h.2.2.2.2.1,(hb.cell (zz9 (show b2<wr.heap.size from by omega) hU)).trans h.2.2.2.2.2⟩
   have HKeep:=jj hkeep
   clear hkeep
   go_region_held3 (fun w'=>w'.cell? ⟨b,off+k*3,none⟩=some (.string ks[k].name)∧w'.cell? ⟨b,off+k*3+1,none⟩=some (.slice A1 ks[k].args.length cap1)∧w'.cell? ⟨b,off+k*3+2,none⟩=some (.int .i64 ks[k].idx)∧w'.cell? ⟨b2,off2+k*3,none⟩=some (.string ks[k].name)∧w'.cell? ⟨b2,off2+k*3+1,none⟩=some (.slice A2 ks[k].args.length cap2)∧w'.cell? ⟨b2,off2+k*3+2,none⟩=some (.int .i64 ks[k].idx)) (first | assumption | (exact ⟨c0,c1,c2,d0,d1,d2⟩) | (exact HKeep.out wr.drew w' ⟨c0,c1,c2,d0,d1,d2⟩ hB' (zz8 _))) (first | (go_at_call 54;((with_reducible refine (eqCtor_any ks[k] _ _ _ G G2 HV.out.drew HV2.out.drew (Under.drew (HG.out.mono hB.size)) (Under.drew (HG2.out.mono hB.size))).mono ?_);rintro e w' ⟨rfl,hB'⟩)))
   have hB3:=hB.drew.trans (hB'.mono hB.size)
   go_wp2
   go_roundw
   case rel=>exact ⟨k+1,by omega,by go_num,hB3⟩
   case measure=>simp [intOf];omega
  ·go_wp2
   go_ret
   exact ⟨rfl,hB⟩
set_option maxHeartbeats 400000 in
theorem eqData_any (x:Dt) (w:World) (cs ds:List Value) (F F2:List Nat) (hv:DtR w x cs F) (hv2:DtR w x ds F2) (hF:Under w.heap.size F) (hF2:Under w.heap.size F2) :
  Calls Try.prog 29 #[.agg cs.toArray,.agg ds.toArray] w fun e w'=>e=.returned (.bool true)∧Below w.heap.size w w':=by
 obtain ⟨kv,rfl,ha,hs0⟩:=hv
 have HA:=jj ha
 obtain ⟨A,cap,rfl,-,-⟩:=ha.form
 clear ha
 obtain ⟨kv',rfl,hb,hs20⟩:=hv2
 have HA2:=jj hb
 obtain ⟨A',cap',rfl,-,-⟩:=hb.form
 clear hb
 have HF:=jj hF
 have HF2:=jj hF2
 clear hF hF2
 go_enter Try.func29,Try.ntmps29
 go_wp2_with fail
 obtain ⟨W2,hW2⟩:∃ W2,W2=(w.alloc (.cells #[.string x.name,.slice A x.ctors.length cap] 57)).alloc (.cells #[.string x.name,.slice A' x.ctors.length cap'] 57):=⟨_,rfl⟩
 have hB2:Below w.heap.size w W2:=by rw [hW2];exact ((zy2 _ _).alloc (zz8 _) _).alloc (by simp) _
 have hz2:w.heap.size+2≤W2.heap.size:=by rw [hW2];simp
 have b0:Blk W2 w.heap.size 57 #[.string x.name,.slice A x.ctors.length cap]:=by rw [hW2];exact (Blk.new w _ _).same (Below.heap_alloc _ _ _ (by simp))
 have b1:Blk W2 (w.heap.size+1) 57 #[.string x.name,.slice A' x.ctors.length cap']:=by rw [hW2];have:=Blk.new (w.alloc (.cells #[.string x.name,.slice A x.ctors.length cap] 57)) 57 #[.string x.name,.slice A' x.ctors.length cap'];simpa using this
 rw [←hW2]
 clear hW2
 refine (eqCtorS_any x.ctors W2 F F2 _ _ (ArrKt.below HA.out hB2 HF.out) (ArrKt.below HA2.out hB2 HF2.out) (HF.out.mono hB2.size) (HF2.out.mono hB2.size)).mono ?_
 rintro e V0 ⟨rfl,hb0⟩
 have hB3:=hB2.trans (hb0.mono hB2.size)
 have m0:=b0.same (hb0.block _ b0.lt)
 have m1:=b1.same (hb0.block _ b1.lt)
 clear b0 b1
 have b0:=m0
 have b1:=m1
 clear m0 m1 hb0
 have a0:V0.cell? ⟨w.heap.size,0,none⟩=some (.string x.name):=(b0.cell 0).trans (by simp)
 have c0:V0.cell? ⟨w.heap.size+1,0,none⟩=some (.string x.name):=(b1.cell 0).trans (by simp)
 have a1:V0.cell? ⟨w.heap.size,1,none⟩=some (.slice A x.ctors.length cap):=(b0.cell 1).trans (by simp)
 have c1:V0.cell? ⟨w.heap.size+1,1,none⟩=some (.slice A' x.ctors.length cap'):=(b1.cell 1).trans (by simp)
 clear b0 b1
 go_wp2
 go_ret
 exact ⟨rfl,hB3⟩
set_option maxHeartbeats 800000 in
theorem eqDataS_any (ks:List Dt) (w:World) (F F2:List Nat) (x y:Value) (hx:Arr w (DtR w) ks x F) (hy:Arr w (DtR w) ks y F2) (hF:Under w.heap.size F) (hF2:Under w.heap.size F2) :
  Calls Try.prog 12 #[x,y] w fun e w'=>e=.returned (.bool true)∧Below w.heap.size w w':=by
 have HX:=jj hx
 have HY:=jj hy
 obtain ⟨A,cap,rfl,hl,hm⟩:=hx.form
 obtain ⟨A',cap',rfl,hl',hm'⟩:=hy.form
 clear hx hy
 have HF:=jj hF
 have HF2:=jj hF2
 clear hF hF2
 go_enter Try.func12,Try.ntmps12
 go_wp2
 go_loopw [5] (fun i wr=>∃ k:Nat,k≤ks.length∧i=.int .i64 k∧Below w.heap.size w wr) (fun i _=>ks.length-(intOf i).toNat)
 case atStart=>exact ⟨0,Nat.zero_le _,rfl,zy2 _ _⟩
 case round =>
  obtain ⟨k,hk,rfl,hB⟩:=hrel
  have hBs:=hB.size
  by_cases hlt:k<ks.length
  ·obtain ⟨b,off,cs,G,rfl,hb,hcs,hvc,hG⟩:=HX.out.get DtR_len hlt
   have hbl:=HF.out b hb
   have hGFc:=HF.out.sub hG
   have hwc:=hvc.below hB hGFc
   have hcsc:=hcs.same (hB.block b hbl)
   obtain ⟨A1,cap1,rfl⟩:=DtR_form hvc
   have c0:=hcsc 0 _ rfl
   have c1:=hcsc 1 _ rfl
   simp only [Nat.add_zero] at c0
   clear hcs hcsc hvc hG
   have HV:=jj hwc
   clear hwc
   have HG:=jj hGFc
   clear hGFc
   obtain ⟨b2,off2,ds,G2,rfl,hb2,hds,hvd,hG2⟩:=HY.out.get DtR_len hlt
   have hbl2:=HF2.out b2 hb2
   have hGFd:=HF2.out.sub hG2
   have hwd:=hvd.below hB hGFd
   have hcsd:=hds.same (hB.block b2 hbl2)
   obtain ⟨A2,cap2,rfl⟩:=DtR_form hvd
   have d0:=hcsd 0 _ rfl
   have d1:=hcsd 1 _ rfl
   simp only [Nat.add_zero] at d0
   clear hds hcsd hvd hG2
   have HV2:=jj hwd
   clear hwd
   have HG2:=jj hGFd
   clear hGFd
   go_wp2_with fail
   have hkeep:∀ U U':World,(U.cell? ⟨b,off+k*2,none⟩=some (.string ks[k].name)∧U.cell? ⟨b,off+k*2+1,none⟩=some (.slice A1 ks[k].ctors.length cap1)∧U.cell? ⟨b2,off2+k*2,none⟩=some (.string ks[k].name)∧U.cell? ⟨b2,off2+k*2+1,none⟩=some (.slice A2 ks[k].ctors.length cap2))→Below U.heap.size U U'→wr.heap.size≤U.heap.size→(U'.cell? ⟨b,off+k*2,none⟩=some (.string ks[k].name)∧U'.cell? ⟨b,off+k*2+1,none⟩=some (.slice A1 ks[k].ctors.length cap1)∧U'.cell? ⟨b2,off2+k*2,none⟩=some (.string ks[k].name)∧U'.cell? ⟨b2,off2+k*2+1,none⟩=some (.slice A2 ks[k].ctors.length cap2)):=fun U U' h hb hU=>⟨(hb.cell (zz9 (show b<wr.heap.size from by omega) hU)).trans h.1,(hb.cell (zz9 (show b<wr.heap.size from by omega) hU)).trans h.2.1,(hb.cell (zz9 (show b2<wr.heap.size from by omega) hU)).trans h.2.2.1,(hb.cell (zz9 (show b2<wr.heap.size from by omega) hU)).trans h.2.2.2⟩
   have HKeep:=jj hkeep
   clear hkeep
   go_region_held3 (fun w'=>w'.cell? ⟨b,off+k*2,none⟩=some (.string ks[k].name)∧w'.cell? ⟨b,off+k*2+1,none⟩=some (.slice A1 ks[k].ctors.length cap1)∧w'.cell? ⟨b2,off2+k*2,none⟩=some (.string ks[k].name)∧w'.cell? ⟨b2,off2+k*2+1,none⟩=some (.slice A2 ks[k].ctors.length cap2)) (first | assumption | (exact ⟨c0,c1,d0,d1⟩) | (exact HKeep.out wr.drew w' ⟨c0,c1,d0,d1⟩ hB' (zz8 _))) (first | (go_at_call 29;((with_reducible refine (eqData_any ks[k] _ _ _ G G2 HV.out.drew HV2.out.drew (Under.drew (HG.out.mono hB.size)) (Under.drew (HG2.out.mono hB.size))).mono ?_);rintro e w' ⟨rfl,hB'⟩)))
   have hB3:=hB.drew.trans (hB'.mono hB.size)
   go_wp2
   go_roundw
   case rel=>exact ⟨k+1,by omega,by go_num,hB3⟩
   case measure=>simp [intOf];omega
  ·go_wp2
   go_ret
   exact ⟨rfl,hB⟩
structure P where
 op:Int
 ct:Int
 n:Int
 m:Int
 va:Int
 ks:List P
theorem P.ind {p:P→Prop} (h:∀ op ct n m va ks,(∀ k∈ks,p k)→p ⟨op,ct,n,m,va,ks⟩):∀ v,p v
 |⟨op,ct,n,m,va,ks⟩=>h op ct n m va ks fun k hk=>P.ind h k
termination_by v=>SizeOf.sizeOf v
decreasing_by
 have:=List.sizeOf_lt_of_mem hk
 simp
 omega
mutual
def P.size:P→Nat
 |⟨_,_,_,_,_,ks⟩=>P.sizes ks
def P.sizes:List P→Nat
 |[]=>0
 |k :: ks=>1+P.size k+P.sizes ks
end
def P.subs:List P→Nat
 |[]=>0
 |k :: ks=>k.size+P.subs ks
theorem P.subs_snoc (l:List P) (x:P):P.subs (l ++ [x])=P.subs l+x.size:=by
 induction l with
 |nil=>simp [P.subs]
 |cons k l ih=>simp only [List.cons_append,P.subs,ih];omega
theorem P.sizes_eq (l:List P):P.sizes l=l.length+P.subs l:=by
 induction l with
 |nil=>rfl
 |cons k l ih=>simp only [P.sizes,P.subs,List.length_cons,ih];omega
theorem P.subs_take_le (l:List P) (k:Nat):P.subs (l.take k)≤P.subs l:=by
 induction l generalizing k with
 |nil=>simp [P.subs]
 |cons x l ih =>
  cases k with
  |zero=>simp [P.subs]
  |succ k=>simp only [List.take_succ_cons,P.subs];have:=ih k;omega
theorem P.subs_take_succ (l:List P) (k:Nat) (h:k<l.length):P.subs (l.take (k+1))=P.subs (l.take k)+l[k].size:=by
 rw [take_snoc' l k h,P.subs_snoc]
theorem P.size_lt (l:List P) (k:Nat) (h:k<l.length):l[k].size+l.length≤P.sizes l:=by
 have h2:=P.subs_take_le l (k+1)
 rw [P.subs_take_succ l k h] at h2
 rw [P.sizes_eq]
 omega
mutual
def PR (w:World):P→List Value→List Nat→Prop
 |⟨op,ct,n,m,va,ks⟩,cs,F=>∃ A cap,cs=[.int .i64 op,.int .i64 ct,.int .i64 n,.int .i64 m,.int .i64 va,.slice A ks.length cap]∧ks.length≤cap∧cap≤maxLen∧((ks=[]∧F=[])∨∃ b off ds G,A=some ⟨b,off,none⟩∧CellsAt w b off ds∧PRs w ks ds G∧F=b :: G)
def PRs (w:World):List P→List Value→List Nat→Prop
 |[],cs,F=>cs=[]∧F=[]
 |x :: xs,cs,F=>∃ c1 c2 F1 F2,cs=c1 ++ c2∧F=F1 ++ F2∧PR w x c1 F1∧PRs w xs c2 F2
end
theorem PRs_eq (w:World) (ks:List P):∀ cs F,PRs w ks cs F↔Flat (PR w) ks cs F:=by
 induction ks with
 |nil=>intro cs F;simp [PRs,Flat]
 |cons k ks ih =>
  intro cs F
  simp only [PRs,Flat,ih]
theorem zA4 {w:World} (v:P) (cs:List Value) (F:List Nat):PR w v cs F↔∃ kv,cs=[.int .i64 v.op,.int .i64 v.ct,.int .i64 v.n,.int .i64 v.m,.int .i64 v.va,kv]∧Arr w (PR w) v.ks kv F:=by
 obtain ⟨op,ct,n,m,va,ks⟩:=v
 simp only [PR,Arr,PRs_eq]
 constructor
 ·rintro ⟨A,cap,rfl,h1,h2,h3⟩
  exact ⟨_,rfl,A,cap,rfl,h1,h2,h3⟩
 ·rintro ⟨kv,rfl,A,cap,rfl,h1,h2,h3⟩
  exact ⟨A,cap,rfl,h1,h2,h3⟩
theorem PR_len {w:World} (v:P) (cs:List Value) (F:List Nat) (h:PR w v cs F):cs.length=6:=by
 obtain ⟨kv,rfl,-⟩:=(zA4 _ _ _).1 h
 rfl
theorem PR.mono {w w':World}:∀ v cs F,Kept F w w'→PR w v cs F→PR w' v cs F:=by
 refine P.ind fun op ct n m va ks ih cs F hF h=>?_
 rw [zA4] at h ⊢
 obtain ⟨kv,rfl,h⟩:=h
 exact ⟨kv,rfl,h.mono hF ih⟩
theorem PR.below {w w':World} {B:Nat} {v:P} {cs:List Value} {F:List Nat} (h:PR w v cs F) (hb:Below B w w') (hF:Under B F):PR w' v cs F:=PR.mono v cs F (.of_below hb hF) h
theorem PR.drew {w:World} {v:P} {cs:List Value} {F:List Nat} (h:PR w v cs F):PR w.drew v cs F:=PR.mono (w:=w) v cs F (fun _ _=>rfl) h
theorem ArrP.mono {w w':World} {vs:List P} {x:Value} {F:List Nat} (h:Arr w (PR w) vs x F) (hF:Kept F w w'):Arr w' (PR w') vs x F:=h.mono hF fun v _=>PR.mono v
theorem ArrP.below {w w':World} {B:Nat} {vs:List P} {x:Value} {F:List Nat} (h:Arr w (PR w) vs x F) (hb:Below B w w') (hF:Under B F):Arr w' (PR w') vs x F:=ArrP.mono h (.of_below hb hF)
def SzP (v:P):Prop:=∀ (w:World) (cs:List Value) (F:List Nat) (left:Int),PR w v cs F→Under w.heap.size F→0≤left→left≤1048576 →
 Calls Try.prog 5 #[.agg cs.toArray,.int .i64 left] w fun e w'=>e=.returned (.int .i64 (szLeft v.size left))∧Below w.heap.size w w'
set_option maxHeartbeats 400000 in
theorem szPatternS_of (ks:List P) (ih:∀ k∈ks,SzP k) (w:World) (F:List Nat) (x:Value) (left:Int) (hx:Arr w (PR w) ks x F) (hF:Under w.heap.size F) (h0:0≤left) (h1:left≤1048576) :
  Calls Try.prog 19 #[x,.int .i64 left] w fun e w'=>e=.returned (.int .i64 (szLeft (P.sizes ks) left))∧Below w.heap.size w w':=by
 have HX:=jj hx
 obtain ⟨A,cap,rfl,hl,hm⟩:=hx.form
 clear hx
 have IH:=jj ih
 clear ih
 have HF:=jj hF
 clear hF
 by_cases hneg:left-(ks.length:Int)<0
 ·have hf:Hid (szLeft (P.sizes ks) left = -1):=by
   unfold szLeft;rw [P.sizes_eq];exact if_neg (by omega)
  go_enter Try.func19,Try.ntmps19
  go_wp2
  go_ret
  exact ⟨zA6 hf.out.symm,zy2 _ _⟩
 ·have hpos:0≤left-(ks.length:Int):=by omega
  clear hneg
  go_enter Try.func19,Try.ntmps19
  go_wp2
  go_loopw [1,5] (fun l i wr=>∃ k:Nat,∃ m:Int,k≤ks.length∧i=.int .i64 k∧l=.int .i64 m∧0≤m∧m≤1048576∧Hid (m=left-ks.length-P.subs (ks.take k))∧Below w.heap.size w wr) (fun _ i _=>ks.length-(intOf i).toNat)
  case atStart=>exact ⟨0,_,Nat.zero_le _,rfl,rfl,hpos,by omega,by simp [Hid,P.subs],zy2 _ _⟩
  case round =>
   obtain ⟨k,m,hk,rfl,rfl,hm0,hm1,HM,hB⟩:=hrel
   by_cases hlt:k<ks.length
   ·obtain ⟨b,off,cs,G,rfl,hb,hcs,hv,hG⟩:=HX.out.get PR_len hlt
    have hbl:=HF.out b hb
    have hGF:=HF.out.sub hG
    have hv1:=hv.below hB hGF
    have hcs1:=hcs.same (hB.block b hbl)
    obtain ⟨kv,rfl,_⟩:=(zA4 _ _ _).1 hv
    have c0:=hcs1 0 _ rfl
    have c1:=hcs1 1 _ rfl
    have c2:=hcs1 2 _ rfl
    have c3:=hcs1 3 _ rfl
    have c4:=hcs1 4 _ rfl
    have c5:=hcs1 5 _ rfl
    simp only [Nat.add_zero] at c0
    clear hcs hcs1 hv hG
    have HV:=jj hv1
    clear hv1
    have HG:=jj hGF
    clear hGF
    go_wp2_with fail
    refine (IH.out _ (List.getElem_mem hlt) _ _ G m HV.out (HG.out.mono hB.size) hm0 hm1).mono ?_
    rintro e w' ⟨rfl,hB'⟩
    have hB2:=hB.trans (hB'.mono hB.size)
    by_cases hle:(ks[k].size:Int)≤m
    ·have e1:szLeft ks[k].size m=m-ks[k].size:=if_pos hle
     rw [e1]
     have hs:Hid (m-ks[k].size=left-ks.length-P.subs (ks.take (k+1))):=by
      have:=HM.out;rw [P.subs_take_succ ks k hlt];unfold Hid;omega
     have hnn:0≤m-(ks[k].size:Int):=by omega
     have hn1:m-(ks[k].size:Int)≤1048576:=by omega
     clear e1
     generalize m-(ks[k].size:Int)=m' at *
     go_wp2
     go_roundw
     case rel=>exact ⟨k+1,m',by omega,by go_num,rfl,hnn,hn1,hs,hB2⟩
     case measure=>simp [intOf];omega
    ·have e1:szLeft ks[k].size m = -1:=if_neg hle
     rw [e1]
     have hf:Hid (szLeft (P.sizes ks) left = -1):=by
      unfold szLeft;rw [P.sizes_eq]
      have:=HM.out
      have h2:=P.subs_take_le ks (k+1)
      rw [P.subs_take_succ ks k hlt] at h2
      exact if_neg (by omega)
     go_wp2
     go_ret
     exact ⟨zA6 hf.out.symm,hB2⟩
   ·have hf:Hid (szLeft (P.sizes ks) left=m):=by
     have:=HM.out
     rw [List.take_of_length_le (by omega)] at this
     unfold szLeft;rw [P.sizes_eq]
     unfold Hid
     rw [if_pos (by omega)];omega
    go_wp2
    go_ret
    exact ⟨zA6 hf.out.symm,hB⟩
set_option maxHeartbeats 400000 in
theorem szPattern_all:∀ v,SzP v:=P.ind fun op ct n m va ks ih w cs F left hv hF h0 h1=>by
 obtain ⟨kv,rfl,hk⟩:=(zA4 _ _ _).1 hv
 have hf:Hid (szLeft (P.size ⟨op,ct,n,m,va,ks⟩) left=szLeft (P.sizes ks) left):=rfl
 have IH:=jj ih
 clear ih hv
 have HK:=jj hk
 obtain ⟨A,cap,rfl,-,-⟩:=hk.form
 clear hk
 have HF:=jj hF
 clear hF
 go_enter Try.func5,Try.ntmps5
 go_wp2_with fail
 refine (szPatternS_of ks IH.out _ F _ left (ArrP.below HK.out ((zy2 w.heap.size w).alloc (zz8 _) _) HF.out) (HF.out.mono (by simp)) h0 h1).mono ?_
 rintro e w' ⟨rfl,hB⟩
 have hB2:Below w.heap.size w w':=((zy2 w.heap.size w).alloc (zz8 _) _).trans (hB.mono (by simp))
 have hneg:szLeft (P.sizes ks) left<0→szLeft (P.sizes ks) left = -1:=by unfold szLeft;split <;> omega
 generalize szLeft (P.sizes ks) left=m at *
 by_cases hm:m<0
 ·obtain rfl:=hneg hm
  go_wp2
  go_ret
  exact ⟨zA6 hf.out.symm,hB2⟩
 ·go_wp2
  go_ret
  exact ⟨zA6 hf.out.symm,hB2⟩
theorem szPattern_any (v:P) (w:World) (cs:List Value) (F:List Nat) (left:Int) (hv:PR w v cs F) (hF:Under w.heap.size F) (h0:0≤left) (h1:left≤1048576) :
  Calls Try.prog 5 #[.agg cs.toArray,.int .i64 left] w fun e w'=>e=.returned (.int .i64 (szLeft v.size left))∧Below w.heap.size w w':=szPattern_all v w cs F left hv hF h0 h1
theorem info_P:(Try.prog.info? 38).map (fun i=>(i.zero,i.size,i.bytes))=some (some (.agg #[.int .i64 0,.int .i64 0,.int .i64 0,.int .i64 0,.int .i64 0,.slice none 0 0]),6,64):=by kernel_rfl
def MadeP (w:World) (v:P) (e:Ending) (w':World):Prop:=∃ (cs:List Value) (F:List Nat),e=.returned (.agg cs.toArray)∧Below w.heap.size w w'∧PR w' v cs F∧Free w' F∧Fresh w w' F
def MadePs (w:World) (vs:List P) (e:Ending) (w':World):Prop:=∃ (x:Value) (F:List Nat),e=.returned x∧Below w.heap.size w w'∧Arr w' (PR w') vs x F∧Free w' F∧Fresh w w' F
def ToP (v:P):Prop:=∀ (w:World) (cs:List Value) (F:List Nat),PR w v cs F→Under w.heap.size F→v.size≤1048576 →
 Calls Try.prog 9 #[.agg cs.toArray] w (MadeP w v)
set_option maxHeartbeats 400000 in
theorem toPatternS_of (ks:List P) (ih:∀ k∈ks,ToP k) (w:World) (F:List Nat) (x:Value) (hx:Arr w (PR w) ks x F) (hF:Under w.heap.size F) (hz:P.sizes ks≤1048576) :
  Calls Try.prog 24 #[x] w (MadePs w ks):=by
 have HX:=jj hx
 obtain ⟨A,cap,rfl,hl,hm⟩:=hx.form
 clear hx
 have hn:ks.length≤1048576:=by rw [P.sizes_eq] at hz;omega
 have IH:=jj ih
 clear ih
 have HS:=jj hF
 clear hF
 have HZ:=jj hz
 clear hz
 obtain ⟨i0,hi,hz0,hz1,hz2⟩:=info_parts info_P
 have hmk:=fun W=>run_make_rowN (P:=Try.prog) 30 38 i0 _ Try.underlying30 hi hz0 .i64 .i64 ks.length ks.length (zz8 _) (by rw [hz2];omega) (by omega) W
 simp only [Value.cells,hz1] at hmk
 clear hi hz0 hz1 hz2
 generalize hC:madeCells #[.int .i64 0,.int .i64 0,.int .i64 0,.int .i64 0,.int .i64 0,.slice none 0 0] (ks.length*6)=C at hmk
 have HC:=jj hC
 clear hC
 go_enter Try.func24,Try.ntmps24
 go_wp2
 have HR0:=jj (show Row (w.alloc (.cells C 38)) w.heap.size 38 6 ks.length (PR (w.alloc (.cells C 38))) ([]:List P) [] from by
  rw [←HC.out];exact Row.made w _ 6 ks.length _ _)
 have hB0:Below w.heap.size w (w.alloc (.cells C 38)):=(zy2 _ _).alloc (zz8 _) _
 go_loopw [4] (fun i wr=>∃ k:Nat,∃ G:List Nat,k≤ks.length∧i=.int .i64 k∧Below w.heap.size w wr∧Hid (Row wr w.heap.size 38 6 ks.length (PR wr) (ks.take k) G∧Free wr G∧∀ b∈G,w.heap.size<b∧b<wr.heap.size)) (fun i _=>ks.length-(intOf i).toNat)
 case atStart=>exact ⟨0,[],Nat.zero_le _,rfl,hB0,⟨HR0.out,Free.nil _,fun b hb=>by cases hb⟩⟩
 case round =>
  obtain ⟨k,G,hk,rfl,hB,HR⟩:=hrel
  have hgs:=HR.out.1.lt
  by_cases hlt:k<ks.length
  ·obtain ⟨b,off,cs,H,rfl,hb,hcs,hv,hH⟩:=HX.out.get PR_len hlt
   have hbl:=HS.out b hb
   have hHF:=HS.out.sub hH
   have hv1:=hv.below hB hHF
   have hcs1:=hcs.same (hB.block b hbl)
   obtain ⟨kv,rfl,_⟩:=(zA4 _ _ _).1 hv
   have c0:=hcs1 0 _ rfl
   have c1:=hcs1 1 _ rfl
   have c2:=hcs1 2 _ rfl
   have c3:=hcs1 3 _ rfl
   have c4:=hcs1 4 _ rfl
   have c5:=hcs1 5 _ rfl
   simp only [Nat.add_zero] at c0
   clear hcs hcs1 hv hH
   have HV:=jj hv1
   clear hv1
   have HG:=jj hHF
   clear hHF
   go_wp2_with fail
   refine (IH.out _ (List.getElem_mem hlt) _ _ H HV.out (HG.out.mono hB.size) (by
    have h1:=HZ.out
    have h2:=P.size_lt ks k hlt
    omega)).mono ?_
   rintro e w' ⟨cs',H',rfl,hB',hv',hfr,hfs⟩
   obtain ⟨kv',rfl,ha'⟩:=(zA4 _ _ _).1 hv'
   obtain ⟨A',cap',rfl,-,-⟩:=ha'.form
   have hGk:Kept G wr w':=.of_below hB' fun b hb=>(HR.out.2.2 b hb).2
   have hR1:=HR.out.1.mono (w':=w') (R':=PR w') (hB'.block _ hgs) hGk (fun x _=>PR.mono x)
   have hn3:k*6+6≤ks.length*6:=by omega
   obtain ⟨⟨u0,d0⟩,f0⟩:=hR1.old (k*6) (by omega)
   obtain ⟨⟨u1,d1⟩,f1⟩:=hR1.old (k*6+1) (by omega)
   obtain ⟨⟨u2,d2⟩,f2⟩:=hR1.old (k*6+2) (by omega)
   obtain ⟨⟨u3,d3⟩,f3⟩:=hR1.old (k*6+3) (by omega)
   obtain ⟨⟨u4,d4⟩,f4⟩:=hR1.old (k*6+4) (by omega)
   obtain ⟨⟨u5,d5⟩,f5⟩:=hR1.old (k*6+5) (by omega)
   have HR1:=jj hR1
   clear hR1 ha'
   have hB3:=hB.trans (hB'.mono hB.size)
   have hg3:=zAE w.heap.size [.int .i64 ks[k].op,.int .i64 ks[k].ct,.int .i64 ks[k].n,.int .i64 ks[k].m,.int .i64 ks[k].va,.slice A' ks[k].ks.length cap'] w' (k*6)
   have hB4:=jj (hB3.grown hg3.1 hB3.size (fun _ h=>by cases h;exact zz8 _))
   have hkH:Kept H' w' (putCells w' w.heap.size (k*6) [.int .i64 ks[k].op,.int .i64 ks[k].ct,.int .i64 ks[k].n,.int .i64 ks[k].m,.int .i64 ks[k].va,.slice A' ks[k].ks.length cap']):=fun b hb=>hg3.1.block b (hfs b hb).2 (fun e=>by cases e;have:=(hfs _ hb).1;omega)
   have hkG:Kept G w' (putCells w' w.heap.size (k*6) [.int .i64 ks[k].op,.int .i64 ks[k].ct,.int .i64 ks[k].n,.int .i64 ks[k].m,.int .i64 ks[k].va,.slice A' ks[k].ks.length cap']):=fun b hb=>hg3.1.block b (zz9 (HR.out.2.2 b hb).2 hB'.size) (fun e=>by cases e;have:=(HR.out.2.2 _ hb).1;omega)
   have hR4:=jj (by
    have h:=Row.store (R':=PR (putCells w' w.heap.size (k*6) [.int .i64 ks[k].op,.int .i64 ks[k].ct,.int .i64 ks[k].n,.int .i64 ks[k].m,.int .i64 ks[k].va,.slice A' ks[k].ks.length cap'])) (x:=ks[k]) (cs:=[.int .i64 ks[k].op,.int .i64 ks[k].ct,.int .i64 ks[k].n,.int .i64 ks[k].m,.int .i64 ks[k].va,.slice A' ks[k].ks.length cap']) PR_len HR1.out rfl (by simp;omega) (fun hg=>by have:=(HR.out.2.2 _ hg).1;omega)
     (fun x _ ds H hk h=>PR.mono x ds H (by rw [show (ks.take k).length=k by simp;omega] at hk;exact hk) h)
     (PR.mono _ _ _ hkH hv')
    rw [show (ks.take k).length=k by simp;omega] at h
    rw [←take_snoc' ks k hlt] at h
    exact (And.intro h (And.intro (show Free (putCells w' w.heap.size (k*6) [.int .i64 ks[k].op,.int .i64 ks[k].ct,.int .i64 ks[k].n,.int .i64 ks[k].m,.int .i64 ks[k].va,.slice A' ks[k].ks.length cap']) (G ++ H') from
     ⟨List.nodup_append.2 ⟨HR.out.2.1.1,hfr.1,fun a ha c hc hac=>by
       subst hac
       have:=(HR.out.2.2 _ ha).2
       have:=(hfs _ hc).1
       omega⟩,
     fun b hb i=>by
      rcases List.mem_append.1 hb with hb | hb
      ·exact ((HR.out.2.1.kept hGk).kept hkG).2 b hb i
      ·exact (hfr.kept hkH).2 b hb i⟩)
     (show ∀ b∈G ++ H',w.heap.size<b∧b<(putCells w' w.heap.size (k*6) [.int .i64 ks[k].op,.int .i64 ks[k].ct,.int .i64 ks[k].n,.int .i64 ks[k].m,.int .i64 ks[k].va,.slice A' ks[k].ks.length cap']).heap.size from fun b hb=>by
      rw [hg3.2]
      rcases List.mem_append.1 hb with hb | hb
      ·exact ⟨(HR.out.2.2 b hb).1,zz9 (HR.out.2.2 b hb).2 hB'.size⟩
      ·exact ⟨zz9 hgs (hfs b hb).1,(hfs b hb).2⟩))))
   clear hg3 HR1 hv' hfr hfs hkH hkG hGk hB3 hB' HR HV
   go_wp2
   go_roundw
   case rel=>exact ⟨k+1,_,by omega,by go_num,hB4.out,hR4.out⟩
   case measure=>simp [intOf];omega
  ·have hfin:MadePs w ks (.returned (.slice (some ⟨w.heap.size,0,none⟩) ks.length ks.length)) wr:=by
    obtain ⟨h,hf,hb⟩:=HR.out
    rw [List.take_of_length_le (by omega)] at h
    have hng:w.heap.size∉G:=fun hg=>by have:=(hb _ hg).1;omega
    obtain ⟨G',h1,h2⟩:=h.arr rfl (by unfold maxLen;omega)
    refine ⟨_,G',rfl,hB,h1,?_,?_⟩
    ·rcases h2 with rfl | rfl
     ·exact h.free hf hng
     ·exact Free.nil _
    ·rcases h2 with rfl | rfl
     ·intro b hb'
      rcases List.mem_cons.1 hb' with rfl | hb'
      ·exact ⟨zz8 _,hgs⟩
      ·exact ⟨Nat.le_of_lt (hb b hb').1,(hb b hb').2⟩
     ·exact Fresh.nil _ _
   have HFin:=jj hfin
   clear hfin
   go_wp2
   go_ret
   exact HFin.out
set_option maxHeartbeats 400000 in
theorem toPattern_all:∀ v,ToP v:=P.ind fun op ct n m va ks ih w cs F hv hF hz=>by
 obtain ⟨kv,rfl,hk⟩:=(zA4 _ _ _).1 hv
 have hz':P.sizes ks≤1048576:=hz
 have IH:=jj ih
 clear ih hv
 have HK:=jj hk
 obtain ⟨A,cap,rfl,-,-⟩:=hk.form
 clear hk
 have HS:=jj hF
 clear hF
 go_enter Try.func9,Try.ntmps9
 go_wp2_with fail
 obtain ⟨W3,hW3⟩:∃ W3,W3=(((w.alloc (Obj.cells #[Value.int IntKind.i64 op,Value.int IntKind.i64 ct,Value.int IntKind.i64 n,Value.int IntKind.i64 m,Value.int IntKind.i64 va,Value.slice A ks.length cap] 27)).alloc
     (Obj.cells #[Value.int IntKind.i64 0,Value.int IntKind.i64 0,Value.int IntKind.i64 0,Value.int IntKind.i64 0,Value.int IntKind.i64 0,Value.slice none 0 0] 38)).alloc
   (Obj.cells #[Value.int IntKind.i64 op,Value.int IntKind.i64 ct,Value.int IntKind.i64 n,Value.int IntKind.i64 m,Value.int IntKind.i64 va,Value.slice none 0 0] 38)):=⟨_,rfl⟩
 have hB3:Below w.heap.size w W3:=by rw [hW3];exact (((zy2 _ _).alloc (zz8 _) _).alloc (by simp) _).alloc (by simp;omega) _
 have hsz:W3.heap.size=w.heap.size+3:=by rw [hW3];simp
 have b1:Blk W3 (w.heap.size+1) 38 #[Value.int IntKind.i64 0,Value.int IntKind.i64 0,Value.int IntKind.i64 0,Value.int IntKind.i64 0,Value.int IntKind.i64 0,Value.slice none 0 0]:=by
  rw [hW3]
  have:=Blk.new (w.alloc (Obj.cells #[Value.int IntKind.i64 op,Value.int IntKind.i64 ct,Value.int IntKind.i64 n,Value.int IntKind.i64 m,Value.int IntKind.i64 va,Value.slice A ks.length cap] 27)) 38 #[Value.int IntKind.i64 0,Value.int IntKind.i64 0,Value.int IntKind.i64 0,Value.int IntKind.i64 0,Value.int IntKind.i64 0,Value.slice none 0 0]
  rw [World.size_alloc] at this
  exact this.same (Below.heap_alloc _ _ _ (by simp))
 have b2:Blk W3 (w.heap.size+2) 38 #[Value.int IntKind.i64 op,Value.int IntKind.i64 ct,Value.int IntKind.i64 n,Value.int IntKind.i64 m,Value.int IntKind.i64 va,Value.slice none 0 0]:=by
  rw [hW3]
  have:=Blk.new ((w.alloc (Obj.cells #[Value.int IntKind.i64 op,Value.int IntKind.i64 ct,Value.int IntKind.i64 n,Value.int IntKind.i64 m,Value.int IntKind.i64 va,Value.slice A ks.length cap] 27)).alloc (Obj.cells #[Value.int IntKind.i64 0,Value.int IntKind.i64 0,Value.int IntKind.i64 0,Value.int IntKind.i64 0,Value.int IntKind.i64 0,Value.slice none 0 0] 38)) 38 #[Value.int IntKind.i64 op,Value.int IntKind.i64 ct,Value.int IntKind.i64 n,Value.int IntKind.i64 m,Value.int IntKind.i64 va,Value.slice none 0 0]
  simpa using this
 rw [←hW3]
 clear hW3
 refine (toPatternS_of ks IH.out W3 F _ (ArrP.below HK.out hB3 HS.out) (HS.out.mono (by omega)) hz').mono ?_
 rintro e w' ⟨x,G,rfl,hB,hx,hfr,hfs⟩
 obtain ⟨A',cap',rfl,-,-⟩:=hx.form
 have hgs:=hB.size
 have k1:=b1.same (hB.block (w.heap.size+1) (by omega))
 have k2:=b2.same (hB.block (w.heap.size+2) (by omega))
 have d0:=k1.cell 0
 have d1:=k1.cell 1
 have d2:=k1.cell 2
 have d3:=k1.cell 3
 have d4:=k1.cell 4
 have d5:=k1.cell 5
 have f0:=k1.frozen 0
 have f1:=k1.frozen 1
 have f2:=k1.frozen 2
 have f3:=k1.frozen 3
 have f4:=k1.frozen 4
 have f5:=k1.frozen 5
 have e0:=k2.cell 0
 have e1:=k2.cell 1
 have e2:=k2.cell 2
 have e3:=k2.cell 3
 have e4:=k2.cell 4
 have e5:=k2.cell 5
 have g0:=k2.frozen 0
 have g1:=k2.frozen 1
 have g2:=k2.frozen 2
 have g3:=k2.frozen 3
 have g4:=k2.frozen 4
 have g5:=k2.frozen 5
 simp only [List.getElem?_toArray,List.getElem?_cons_zero,List.getElem?_cons_succ] at d0 d1 d2 d3 d4 d5 e0 e1 e2 e3 e4 e5
 have hX:=jj hx
 have hFr:=jj hfr
 have hFs:=jj hfs
 clear hx k1 k2 b1 b2 hfr hfs
 go_wp2
 refine bodyPost_ret (v:=.agg #[.int .i64 op,.int .i64 ct,.int .i64 n,.int .i64 m,.int .i64 va,.slice A' ks.length cap']) (by simp [results,Try.results9,go_sem,d0,d1,d2,d3,d4,d5]) rfl ?_
 have hkeep:Kept G w' (((((((w'.setCell ⟨w.heap.size+1+1,5,none⟩ (.slice A' ks.length cap')).setCell ⟨w.heap.size+1,0,none⟩ (.int .i64 op)).setCell ⟨w.heap.size+1,1,none⟩ (.int .i64 ct)).setCell ⟨w.heap.size+1,2,none⟩ (.int .i64 n)).setCell ⟨w.heap.size+1,3,none⟩ (.int .i64 m)).setCell ⟨w.heap.size+1,4,none⟩ (.int .i64 va)).setCell ⟨w.heap.size+1,5,none⟩ (.slice A' ks.length cap')):=fun b hb=>by
  have h1:=(hFs.out b hb).1
  rw [zz7 _ _ _ _ (by simp;omega),zz7 _ _ _ _ (by simp;omega),zz7 _ _ _ _ (by simp;omega),zz7 _ _ _ _ (by simp;omega),zz7 _ _ _ _ (by simp;omega),zz7 _ _ _ _ (by simp;omega),zz7 _ _ _ _ (by simp;omega)]
 refine ⟨[.int .i64 op,.int .i64 ct,.int .i64 n,.int .i64 m,.int .i64 va,.slice A' ks.length cap'],G,rfl,((((((((hB3.trans (hB.mono (by omega))).setCell (by simp;omega) _).setCell (by simp) _).setCell (by simp) _).setCell (by simp) _).setCell (by simp) _).setCell (by simp) _).setCell (by simp) _),?_,hFr.out.kept hkeep,fun b hb=>⟨by have:=(hFs.out b hb).1;omega,by simpa [World.setCell] using (hFs.out b hb).2⟩⟩
 rw [zA4]
 exact ⟨_,rfl,ArrP.mono hX.out hkeep⟩
theorem toPattern_any (v:P) (w:World) (cs:List Value) (F:List Nat) (hv:PR w v cs F) (hF:Under w.heap.size F) (hz:v.size≤1048576) :
  Calls Try.prog 9 #[.agg cs.toArray] w (MadeP w v):=toPattern_all v w cs F hv hF hz
def EqP (v:P):Prop:=∀ (w:World) (cs ds:List Value) (F G:List Nat),PR w v cs F→PR w v ds G→Under w.heap.size F→Under w.heap.size G →
 Calls Try.prog 13 #[.agg cs.toArray,.agg ds.toArray] w fun e w'=>e=.returned (.bool true)∧Below w.heap.size w w'
set_option maxHeartbeats 400000 in
theorem eqPatternS_of (ks:List P) (ih:∀ k∈ks,EqP k) (w:World) (F G:List Nat) (x y:Value) (hx:Arr w (PR w) ks x F) (hy:Arr w (PR w) ks y G) (hF:Under w.heap.size F) (hG:Under w.heap.size G) :
  Calls Try.prog 11 #[x,y] w fun e w'=>e=.returned (.bool true)∧Below w.heap.size w w':=by
 have HX:=jj hx
 have HY:=jj hy
 obtain ⟨A,cap,rfl,hl,hm⟩:=hx.form
 obtain ⟨A',cap',rfl,hl',hm'⟩:=hy.form
 clear hx hy
 have IH:=jj ih
 clear ih
 have HF:=jj hF
 have HG:=jj hG
 clear hF hG
 go_enter Try.func11,Try.ntmps11
 go_wp2
 go_loopw [5] (fun i wr=>∃ k:Nat,k≤ks.length∧i=.int .i64 k∧Below w.heap.size w wr) (fun i _=>ks.length-(intOf i).toNat)
 case atStart=>exact ⟨0,Nat.zero_le _,rfl,zy2 _ _⟩
 case round =>
  obtain ⟨k,hk,rfl,hB⟩:=hrel
  by_cases hlt:k<ks.length
  ·obtain ⟨b,off,cs,F1,rfl,hb,hcs,hv,hF1⟩:=HX.out.get PR_len hlt
   obtain ⟨b',off',ds,G1,rfl,hb',hds,hv',hG1⟩:=HY.out.get PR_len hlt
   have hv1:=hv.below hB (HF.out.sub hF1)
   have hv2:=hv'.below hB (HG.out.sub hG1)
   have hcs1:=hcs.same (hB.block b (HF.out b hb))
   have hds1:=hds.same (hB.block b' (HG.out b' hb'))
   obtain ⟨kv,rfl,_⟩:=(zA4 _ _ _).1 hv
   obtain ⟨kv',rfl,_⟩:=(zA4 _ _ _).1 hv'
   have c0:=hcs1 0 _ rfl
   have c1:=hcs1 1 _ rfl
   have c2:=hcs1 2 _ rfl
   have c3:=hcs1 3 _ rfl
   have c4:=hcs1 4 _ rfl
   have c5:=hcs1 5 _ rfl
   have d0:=hds1 0 _ rfl
   have d1:=hds1 1 _ rfl
   have d2:=hds1 2 _ rfl
   have d3:=hds1 3 _ rfl
   have d4:=hds1 4 _ rfl
   have d5:=hds1 5 _ rfl
   simp only [Nat.add_zero] at c0 d0
   clear hcs hcs1 hv hds hds1 hv'
   have HV:=jj hv1
   have HV2:=jj hv2
   have HF1:=jj (HF.out.sub hF1)
   have HG1:=jj (HG.out.sub hG1)
   clear hv1 hv2 hF1 hG1
   go_wp2_with fail
   go_region_with (go_at_call 13;refine (IH.out _ (List.getElem_mem hlt) _ _ _ F1 G1 HV.out.drew HV2.out.drew (HF1.out.mono hB.size) (HG1.out.mono hB.size)).mono ?_;rintro e w' ⟨rfl,hB'⟩)
   all_goals
    have hB2:=hB.drew.trans (hB'.mono hB.size)
    go_wp2
    go_roundw
    case rel=>exact ⟨k+1,by omega,by go_num,hB2⟩
    case measure=>simp [intOf];omega
  ·go_wp2
   go_ret
   exact ⟨rfl,hB⟩
set_option maxHeartbeats 400000 in
theorem eqPattern_all:∀ v,EqP v:=P.ind fun op ct n m va ks ih w cs ds F G hv hv' hF hG=>by
 obtain ⟨kv,rfl,hk⟩:=(zA4 _ _ _).1 hv
 obtain ⟨kv',rfl,hk'⟩:=(zA4 _ _ _).1 hv'
 have IH:=jj ih
 clear ih hv hv'
 have HK:=jj hk
 have HK':=jj hk'
 obtain ⟨A,cap,rfl,-,-⟩:=hk.form
 obtain ⟨A',cap',rfl,-,-⟩:=hk'.form
 clear hk hk'
 have HF:=jj hF
 have HG:=jj hG
 clear hF hG
 have hop0:(op != op)=false:=by simp
 have hct0:(ct != ct)=false:=by simp
 have hn0:(n != n)=false:=by simp
 have hm0:(m != m)=false:=by simp
 have hva0:(va != va)=false:=by simp
 go_enter Try.func13,Try.ntmps13
 go_wp2_with fail
 obtain ⟨W2,hW2⟩:∃ W2,W2=((w.alloc (Obj.cells #[Value.int IntKind.i64 op,Value.int IntKind.i64 ct,Value.int IntKind.i64 n,Value.int IntKind.i64 m,Value.int IntKind.i64 va,Value.slice A ks.length cap] 38)).alloc
     (Obj.cells #[Value.int IntKind.i64 op,Value.int IntKind.i64 ct,Value.int IntKind.i64 n,Value.int IntKind.i64 m,Value.int IntKind.i64 va,Value.slice A' ks.length cap'] 38)):=⟨_,rfl⟩
 have hB2:Below w.heap.size w W2:=by rw [hW2];exact ((zy2 _ _).alloc (zz8 _) _).alloc (by simp) _
 rw [←hW2]
 clear hW2
 refine (eqPatternS_of ks IH.out _ F G _ _ (ArrP.below HK.out hB2 HF.out) (ArrP.below HK'.out hB2 HG.out) (HF.out.mono hB2.size) (HG.out.mono hB2.size)).mono ?_
 rintro e w' ⟨rfl,hB'⟩
 have hB3:=hB2.trans (hB'.mono hB2.size)
 go_wp2
 go_ret
 exact ⟨rfl,hB3⟩
theorem eqPatternS_any (ks:List P) (w:World) (F G:List Nat) (x y:Value) (hx:Arr w (PR w) ks x F) (hy:Arr w (PR w) ks y G) (hF:Under w.heap.size F) (hG:Under w.heap.size G) :
  Calls Try.prog 11 #[x,y] w fun e w'=>e=.returned (.bool true)∧Below w.heap.size w w':=eqPatternS_of ks (fun k _=>eqPattern_all k) w F G x y hx hy hF hG
theorem eqPattern_any (v:P) (w:World) (cs ds:List Value) (F G:List Nat) (hx:PR w v cs F) (hy:PR w v ds G) (hF:Under w.heap.size F) (hG:Under w.heap.size G) :
  Calls Try.prog 13 #[.agg cs.toArray,.agg ds.toArray] w fun e w'=>e=.returned (.bool true)∧Below w.heap.size w w':=eqPattern_all v w cs ds F G hx hy hF hG
structure Vt where
 var:Int
 ty:Ty
def VtR (_:World) (x:Vt) (cs:List Value) (F:List Nat):Prop:=cs=[.int .i64 x.var,.int .i64 x.ty.d,.int .i64 x.ty.i]∧F=[]
theorem VtR_len (w:World) (x:Vt) (cs:List Value) (F:List Nat) (h:VtR w x cs F):cs.length=3:=by rw [h.1];rfl
theorem zA5 (w w':World) (x:Vt) (cs:List Value) (F:List Nat) (_:Kept F w w') (h:VtR w x cs F):VtR w' x cs F:=h
def Vt.same (a b:Vt):Bool:=a.var==b.var && (a.ty.d==b.ty.d && a.ty.i==b.ty.i)
theorem Vt.same_iff (a b:Vt):Vt.same a b=true↔a=b:=by
 obtain ⟨v,d,i⟩:=a
 obtain ⟨v',d',i'⟩:=b
 simp [Vt.same]
def withinB (n lo hi:Int):Bool:=decide (lo≤n) && decide (n≤hi)
theorem withinB_lo {n lo hi:Int} (h:decide (lo≤n)=false):withinB n lo hi=false:=by unfold withinB;rw [h];rfl
theorem withinB_hi {n lo hi:Int} (h:decide (lo≤n)=true):withinB n lo hi=decide (n≤hi):=by unfold withinB;rw [h];rfl
theorem zAF (n lo hi:Int):withinB n lo hi=true↔lo≤n∧n≤hi:=by unfold withinB;simp
set_option maxHeartbeats 400000 in
theorem zA9 (n lo hi:Int) (w:World):Calls Try.prog 66 #[.int .i64 n,.int .i64 lo,.int .i64 hi] w fun e w'=>e=.returned (.bool (withinB n lo hi))∧w=w':=by
 cases h:decide (lo≤n) with
 |false =>
  have hf:=jj (withinB_lo (hi:=hi) h)
  go_enter Try.func66,Try.ntmps66
  go_wp2
  go_ret
  exact ⟨zA0 hf.out.symm,rfl⟩
 |true =>
  have hf:=jj (withinB_hi (hi:=hi) h)
  go_enter Try.func66,Try.ntmps66
  go_wp2
  go_ret
  exact ⟨zA0 hf.out.symm,rfl⟩
def argOkB (n:Int) (t:Ty):Bool:=if t.d = -1 then t.i==0 else withinB t.d 0 (n-1) && withinB t.i (-1) 3
set_option maxHeartbeats 800000 in
theorem spec_l1Arg (n:Int) (t:Ty) (w:World):Calls Try.prog 59 #[.int .i64 n,.agg #[.int .i64 t.d,.int .i64 t.i]] w fun e w'=>e=.returned (.bool (argOkB n t))∧Below w.heap.size w w':=by
 by_cases h:t.d = -1
 ·have h0:(t.d == -1)=true:=by simpa using h
  have hf:Hid (argOkB n t=(t.i==0)):=by unfold Hid argOkB;rw [if_pos h]
  clear h
  go_enter Try.func59,Try.ntmps59
  go_wp2
  go_ret
  exact ⟨zA0 hf.out.symm,(zy2 _ _).alloc (zz8 _) _⟩
 ·have h0:(t.d == -1)=false:=by simpa using h
  have hf0:argOkB n t=(withinB t.d 0 (n-1) && withinB t.i (-1) 3):=by unfold argOkB;rw [if_neg h]
  clear h
  have d1:decide (0≤t.d)=decide (t.d≥0):=rfl
  cases h1:decide (0≤t.d) with
  |false =>
   have hf:Hid (argOkB n t=false):=by rw [hf0,withinB_lo h1];rfl
   clear hf0 d1
   go_enter Try.func59,Try.ntmps59
   go_wp2
   go_ret
   exact ⟨zA0 hf.out.symm,(zy2 _ _).alloc (zz8 _) _⟩
  |true =>
   cases h2:decide (t.d<n) with
   |false =>
    have hf:Hid (argOkB n t=false):=by
     rw [hf0,withinB_hi h1]
     have:decide (t.d≤n-1)=false:=by simp at h2 ⊢;omega
     rw [this];rfl
    clear hf0 d1
    go_enter Try.func59,Try.ntmps59
    go_wp2
    go_ret
    exact ⟨zA0 hf.out.symm,(zy2 _ _).alloc (zz8 _) _⟩
   |true =>
    have hf1:argOkB n t=withinB t.i (-1) 3:=by
     rw [hf0,withinB_hi h1]
     have:decide (t.d≤n-1)=true:=by simp at h2 ⊢;omega
     rw [this];rfl
    clear hf0 d1
    cases h3:decide (-1≤t.i) with
    |false =>
     have hf:Hid (argOkB n t=false):=by rw [hf1,withinB_lo h3];rfl
     clear hf1
     go_enter Try.func59,Try.ntmps59
     go_wp2
     go_ret
     exact ⟨zA0 hf.out.symm,(zy2 _ _).alloc (zz8 _) _⟩
    |true =>
     have hf:Hid (argOkB n t=decide (t.i≤3)):=by rw [hf1,withinB_hi h3];rfl
     clear hf1
     go_enter Try.func59,Try.ntmps59
     go_wp2
     go_ret
     exact ⟨zA0 hf.out.symm,(zy2 _ _).alloc (zz8 _) _⟩
set_option maxHeartbeats 800000 in
theorem impl_argOk (A:Option Addr) (n cap:Nat) (t:Ty) (w:World) (hn:n≤9223372036854775807):Calls Try.prog 79 #[.slice A n cap,.agg #[.int .i64 t.d,.int .i64 t.i]] w fun e w'=>e=.returned (.bool (argOkB n t))∧Below w.heap.size w w':=by
 cases h0:(t.d == -1) with
 |true =>
  cases h1:(t.i==0) with
  |true =>
   have hf:Hid (argOkB n t=true):=by unfold Hid argOkB;rw [if_pos (by simpa using h0),h1]
   go_enter Try.func79,Try.ntmps79
   go_wp2
   go_ret
   exact ⟨zA0 hf.out.symm,(zy2 _ _).alloc (zz8 _) _⟩
  |false =>
   have hf:Hid (argOkB n t=false):=by unfold Hid argOkB;rw [if_pos (by simpa using h0),h1]
   have hw:Hid (withinB t.d 0 ((n:Int)-1)=false):=by
    have:t.d = -1:=by simpa using h0
    exact withinB_lo (by rw [this];rfl)
   go_enter Try.func79,Try.ntmps79
   go_wp2_with fail
   refine (zA9 t.d 0 ((n:Int)-1) _).mono ?_
   rintro e w' ⟨rfl,rfl⟩
   rw [hw.out]
   go_wp2
   go_ret
   exact ⟨zA0 hf.out.symm,(zy2 _ _).alloc (zz8 _) _⟩
 |false =>
  have hf0:argOkB n t=(withinB t.d 0 ((n:Int)-1) && withinB t.i (-1) 3):=by unfold argOkB;rw [if_neg (by simpa using h0)]
  cases hw:withinB t.d 0 ((n:Int)-1) with
  |false =>
   have hf:Hid (argOkB n t=false):=by rw [hf0,hw];rfl
   have HW:=jj hw
   clear hf0 hw
   go_enter Try.func79,Try.ntmps79
   go_wp2_with fail
   refine (zA9 t.d 0 ((n:Int)-1) _).mono ?_
   rintro e w' ⟨rfl,rfl⟩
   rw [HW.out]
   go_wp2
   go_ret
   exact ⟨zA0 hf.out.symm,(zy2 _ _).alloc (zz8 _) _⟩
  |true =>
   have hf:Hid (argOkB n t=withinB t.i (-1) 3):=by rw [hf0,hw];rfl
   have HW:=jj hw
   clear hf0 hw
   go_enter Try.func79,Try.ntmps79
   go_wp2_with fail
   refine (zA9 t.d 0 ((n:Int)-1) _).mono ?_
   rintro e w' ⟨rfl,rfl⟩
   rw [HW.out]
   go_wp2_with fail
   refine (zA9 t.i (-1) 3 _).mono ?_
   rintro e w' ⟨rfl,rfl⟩
   generalize hbb:withinB t.i (-1) 3=bb
   have HBB:=jj hbb
   clear hbb
   go_wp2
   go_ret
   exact ⟨zA0 (hf.out.trans HBB.out).symm,(zy2 _ _).alloc (zz8 _) _⟩
theorem bytes_cons (s:ByteArray) (h:0<s.size):s.data.toList=s[0] :: s.data.toList.drop 1:=by
 rw [show s[0]=s.data.toList[0]'(by simpa using h) from rfl,List.getElem_cons_drop];rfl
theorem zAP (s:ByteArray) (h:s.size=0∨5<s.size):nameOk s.data.toList=false:=by
 rcases h with h | h
 ·rw [show s.data.toList=[] from List.eq_nil_of_length_eq_zero (by simpa using h)];rfl
 ·rw [bytes_cons s (by omega),nameOk_cons]
  have:decide ((s.data.toList.drop 1).length≤4)=false:=decide_eq_false (by simp;omega)
  rw [this];rfl
theorem zAN (s:ByteArray) (h0:0<s.size) (h:(s[0].toNat:Int)<65∨(90:Int)<(s[0].toNat:Int)):nameOk s.data.toList=false:=by
 rw [bytes_cons s h0,nameOk_cons]
 have h2:(decide (65≤s[0].toNat) && decide (s[0].toNat≤90))=false:=by simp;omega
 rw [h2];simp
theorem lower_false_at (l:List UInt8) (k:Nat) (hk:k<l.length) (h:(l[k].toNat:Int)<97∨(122:Int)<(l[k].toNat:Int)):lowerAll l=false:=by
 have:l[k]∈l:=List.getElem_mem hk
 unfold lowerAll
 rw [List.all_eq_false]
 refine ⟨_,this,?_⟩
 simp [UInt8.le_iff_toNat_le]
 omega
theorem nameOk_false_at (s:ByteArray) (k:Nat) (h1:1≤k) (hk:k<s.size) (h:(s[k].toNat:Int)<97∨(122:Int)<(s[k].toNat:Int)):nameOk s.data.toList=false:=by
 rw [bytes_cons s (by omega),nameOk_cons]
 have:lowerAll (s.data.toList.drop 1)=false:=lower_false_at _ (k-1) (by simp;omega) (by
  have e:(s.data.toList.drop 1)[k-1]'(by simp;omega)=s[k]:=by
   rw [List.getElem_drop]
   show s.data.toList[1+(k-1)]'_=s.data.toList[k]'_
   congr 1;omega
  rw [e];exact h)
 rw [this];simp
theorem nameOk_true (s:ByteArray) (h0:0<s.size) (h5:s.size≤5) (ha:65≤(s[0].toNat:Int)) (hz:(s[0].toNat:Int)≤90) (h:∀ k (hk:k<s.size),1≤k→97≤(s[k].toNat:Int)∧(s[k].toNat:Int)≤122):nameOk s.data.toList=true:=by
 rw [bytes_cons s h0,nameOk_cons]
 have hl:lowerAll (s.data.toList.drop 1)=true:=by
  unfold lowerAll
  rw [List.all_eq_true]
  intro c hc
  obtain ⟨k,hk,rfl⟩:=List.getElem_of_mem hc
  have hk':1+k<s.size:=by simp at hk;omega
  have:=h (1+k) hk' (by omega)
  have e:(s.data.toList.drop 1)[k]=s[1+k]:=by rw [List.getElem_drop];rfl
  rw [e]
  simp [UInt8.le_iff_toNat_le]
  omega
 rw [hl,decide_eq_true (show (s.data.toList.drop 1).length≤4 by simp;omega),decide_eq_true (show 65≤s[0].toNat by omega),decide_eq_true (show s[0].toNat≤90 by omega)];rfl
set_option maxHeartbeats 1000000 in
theorem spec_NameValid (s:ByteArray) (w:World) (hs:s.size≤maxLen) :
  Calls Try.prog 71 #[.string s] w fun e w'=>e=.returned (.bool (nameOk s.data.toList))∧w=w':=by
 unfold maxLen at hs
 by_cases h0:s.size=0
 ·have hf:=jj (zAP s (.inl h0))
  have e0:((s.size:Int)==0)=true:=beq_iff_eq.2 (by omega)
  have e1:(s.size:Int)<1:=by omega
  clear h0
  go_enter Try.func71,Try.ntmps71
  go_wp2
  go_ret
  exact ⟨zA0 hf.out.symm,rfl⟩
 ·have e0:((s.size:Int)==0)=false:=beq_eq_false_iff_ne.2 (by omega)
  have e1:1≤(s.size:Int):=by omega
  by_cases h5:5<s.size
  ·have hf:=jj (zAP s (.inr h5))
   have e5:(5:Int)<(s.size:Int):=by omega
   go_enter Try.func71,Try.ntmps71
   go_wp2
   go_ret
   exact ⟨zA0 hf.out.symm,rfl⟩
  ·have p0:0<s.size:=by omega
   have p0':(0:Int)<(s.size:Int):=by omega
   have e5:(s.size:Int)≤5:=by omega
   by_cases ha:(s[0].toNat:Int)<65
   ·have hf:=jj (zAN s p0 (.inl ha))
    go_enter Try.func71,Try.ntmps71
    go_wp2
    go_ret
    exact ⟨zA0 hf.out.symm,rfl⟩
   ·have ha1:65≤(s[0].toNat:Int):=by omega
    clear ha
    by_cases ha:(90:Int)<(s[0].toNat:Int)
    ·have hf:=jj (zAN s p0 (.inr ha))
     have hd:decide ((s[0].toNat:Int)≤90)=false:=decide_eq_false (by omega)
     go_enter Try.func71,Try.ntmps71
     go_wp2
     go_ret
     exact ⟨zA0 hf.out.symm,rfl⟩
    ·have ha2:(s[0].toNat:Int)≤90:=by omega
     clear ha
     go_enter Try.func71,Try.ntmps71
     go_wp2
     go_loop [3] (fun i=>∃ k:Nat,1≤k∧k≤s.size∧i=.int .i64 k∧Hid (∀ j (hj:j<s.size),1≤j→j<k→97≤(s[j].toNat:Int)∧(s[j].toNat:Int)≤122)) (fun i=>s.size-(intOf i).toNat)
     case atStart=>exact ⟨1,zz8 _,by omega,rfl,fun j _ _ _=>by omega⟩
     case round =>
      obtain ⟨k,hk1,hk,rfl,HA⟩:=hrel
      by_cases hlt:k<s.size
      ·by_cases hc:(s[k].toNat:Int)<97
       ·have hf:=jj (nameOk_false_at s k hk1 hlt (.inl hc))
        go_wp2
        go_ret
        exact ⟨zA0 hf.out.symm,rfl⟩
       ·have hc1:97≤(s[k].toNat:Int):=by omega
        clear hc
        by_cases hc:(122:Int)<(s[k].toNat:Int)
        ·have hf:=jj (nameOk_false_at s k hk1 hlt (.inr hc))
         go_wp2
         go_ret
         exact ⟨zA0 hf.out.symm,rfl⟩
        ·have hc2:(s[k].toNat:Int)≤122:=by omega
         clear hc
         go_wp2
         go_round
         case rel=>exact ⟨k+1,by omega,by omega,by go_num,fun j hj h1 h2=>by
          rcases Nat.lt_or_ge j k with h | h
          ·exact HA.out j hj h1 h
          ·obtain rfl:j=k:=by omega
           exact ⟨hc1,hc2⟩⟩
         case measure=>simp [intOf];omega
      ·have hf:=jj (nameOk_true s p0 (by omega) ha1 ha2 (fun j hj h1=>HA.out j hj h1 (by omega)))
       go_wp2
       go_ret
       exact ⟨zA0 hf.out.symm,rfl⟩
set_option maxHeartbeats 1000000 in
theorem impl_NameValid (s:ByteArray) (w:World) (hs:s.size≤maxLen) :
  Calls Try.prog 76 #[.string s] w fun e w'=>e=.returned (.bool (nameOk s.data.toList))∧w=w':=by
 unfold maxLen at hs
 by_cases h0:s.size=0
 ·have hf:=jj (zAP s (.inl h0))
  have e0:((s.size:Int)==0)=true:=beq_iff_eq.2 (by omega)
  have e1:(s.size:Int)<1:=by omega
  clear h0
  go_enter Try.func76,Try.ntmps76
  go_wp2
  go_ret
  exact ⟨zA0 hf.out.symm,rfl⟩
 ·have e0:((s.size:Int)==0)=false:=beq_eq_false_iff_ne.2 (by omega)
  have e1:1≤(s.size:Int):=by omega
  by_cases h5:5<s.size
  ·have hf:=jj (zAP s (.inr h5))
   have e5:(5:Int)<(s.size:Int):=by omega
   go_enter Try.func76,Try.ntmps76
   go_wp2
   go_ret
   exact ⟨zA0 hf.out.symm,rfl⟩
  ·have p0:0<s.size:=by omega
   have p0':(0:Int)<(s.size:Int):=by omega
   have e5:(s.size:Int)≤5:=by omega
   by_cases ha:(s[0].toNat:Int)<65
   ·have hf:=jj (zAN s p0 (.inl ha))
    go_enter Try.func76,Try.ntmps76
    go_wp2
    go_ret
    exact ⟨zA0 hf.out.symm,rfl⟩
   ·have ha1:65≤(s[0].toNat:Int):=by omega
    clear ha
    by_cases ha:(90:Int)<(s[0].toNat:Int)
    ·have hf:=jj (zAN s p0 (.inr ha))
     have hd:decide ((s[0].toNat:Int)≤90)=false:=decide_eq_false (by omega)
     go_enter Try.func76,Try.ntmps76
     go_wp2
     go_ret
     exact ⟨zA0 hf.out.symm,rfl⟩
    ·have ha2:(s[0].toNat:Int)≤90:=by omega
     clear ha
     go_enter Try.func76,Try.ntmps76
     go_wp2
     go_loop [3] (fun i=>∃ k:Nat,1≤k∧k≤s.size∧i=.int .i64 k∧Hid (∀ j (hj:j<s.size),1≤j→j<k→97≤(s[j].toNat:Int)∧(s[j].toNat:Int)≤122)) (fun i=>s.size-(intOf i).toNat)
     case atStart=>exact ⟨1,zz8 _,by omega,rfl,fun j _ _ _=>by omega⟩
     case round =>
      obtain ⟨k,hk1,hk,rfl,HA⟩:=hrel
      by_cases hlt:k<s.size
      ·by_cases hc:(s[k].toNat:Int)<97
       ·have hf:=jj (nameOk_false_at s k hk1 hlt (.inl hc))
        go_wp2
        go_ret
        exact ⟨zA0 hf.out.symm,rfl⟩
       ·have hc1:97≤(s[k].toNat:Int):=by omega
        clear hc
        by_cases hc:(122:Int)<(s[k].toNat:Int)
        ·have hf:=jj (nameOk_false_at s k hk1 hlt (.inr hc))
         go_wp2
         go_ret
         exact ⟨zA0 hf.out.symm,rfl⟩
        ·have hc2:(s[k].toNat:Int)≤122:=by omega
         clear hc
         go_wp2
         go_round
         case rel=>exact ⟨k+1,by omega,by omega,by go_num,fun j hj h1 h2=>by
          rcases Nat.lt_or_ge j k with h | h
          ·exact HA.out j hj h1 h
          ·obtain rfl:j=k:=by omega
           exact ⟨hc1,hc2⟩⟩
         case measure=>simp [intOf];omega
      ·have hf:=jj (nameOk_true s p0 (by omega) ha1 ha2 (fun j hj h1=>HA.out j hj h1 (by omega)))
       go_wp2
       go_ret
       exact ⟨zA0 hf.out.symm,rfl⟩
def ctorOkB (n:Int) (c:Kt):Bool:=nameOk c.name.data.toList && (decide ((c.args.length:Int)≤3) && (withinB c.idx 0 3 && c.args.all (argOkB n)))
theorem all_drop {α:Type} (p:α→Bool) (l:List α) (k:Nat) (h:k<l.length):(l.drop k).all p=(p l[k] && (l.drop (k+1)).all p):=by
 rw [List.drop_eq_getElem_cons h];rfl
theorem spec_l1Ctor (n:Int) (c:Kt) (w:World) (cs:List Value) (F:List Nat) (hv:KtR w c cs F) (hF:Under w.heap.size F) :
  Calls Try.prog 57 #[.int .i64 n,.agg cs.toArray] w fun e w'=>e=.returned (.bool (ctorOkB n c))∧Below w.heap.size w w':=by
 obtain ⟨kv,rfl,ha,hs⟩:=hv
 have HX:=jj ha
 obtain ⟨A,cap,rfl,hc1,hc2⟩:=ha.form
 clear ha
 have HF:=jj hF
 have HS:=jj hs
 clear hF hs
 go_enter Try.func57,Try.ntmps57
 go_wp2_with fail
 obtain ⟨W2,hW2⟩:∃ W2,W2=w.alloc (.cells #[.string c.name,.slice A c.args.length cap,.int .i64 c.idx] 74):=⟨_,rfl⟩
 have hB2:Below w.heap.size w W2:=by rw [hW2];exact (zy2 _ _).alloc (zz8 _) _
 have k1:Blk W2 w.heap.size 74 #[.string c.name,.slice A c.args.length cap,.int .i64 c.idx]:=by rw [hW2];exact Blk.new _ _ _
 rw [←hW2]
 clear hW2
 have x1:W2.cell? ⟨w.heap.size,1,none⟩=some (.slice A c.args.length cap):=(k1.cell 1).trans (by simp)
 have x2:W2.cell? ⟨w.heap.size,2,none⟩=some (.int .i64 c.idx):=(k1.cell 2).trans (by simp)
 have hlt0:=k1.lt
 have K1:=jj k1
 clear k1
 refine (spec_NameValid c.name W2 (by have:=HS.out;unfold maxLen;omega)).mono ?_
 rintro e w' ⟨rfl,rfl⟩
 cases hn:nameOk c.name.data.toList with
 |false =>
  have hf:Hid (ctorOkB n c=false):=by unfold Hid ctorOkB;rw [hn];rfl
  clear hn
  go_wp2
  go_ret
  exact ⟨zA0 hf.out.symm,hB2⟩
 |true =>
  have h0:ctorOkB n c=(decide ((c.args.length:Int)≤3) && (withinB c.idx 0 3 && c.args.all (argOkB n))):=by unfold ctorOkB;rw [hn,Bool.true_and]
  clear hn
  by_cases hl:(c.args.length:Int)≤3
  ·have t1:decide ((c.args.length:Int)>3)=false:=by simp;omega
   have h1:ctorOkB n c=(withinB c.idx 0 3 && c.args.all (argOkB n)):=by rw [h0,decide_eq_true hl,Bool.true_and]
   clear h0 hl
   by_cases hi:c.idx<0
   ·have t2:decide (c.idx<0)=true:=by simpa using hi
    have hf:Hid (ctorOkB n c=false):=by rw [h1,withinB_lo (by simp;omega)];rfl
    clear h1 hi
    go_wp2
    go_ret
    exact ⟨zA0 hf.out.symm,hB2⟩
   ·have t2:decide (c.idx<0)=false:=by simpa using hi
    by_cases hj:c.idx>3
    ·have t3:decide (c.idx>3)=true:=by simpa using hj
     have hf:Hid (ctorOkB n c=false):=by rw [h1,withinB_hi (by simp;omega),show decide (c.idx≤3)=false from by simp;omega];rfl
     clear h1 hi hj
     go_wp2
     go_ret
     exact ⟨zA0 hf.out.symm,hB2⟩
    ·have t3:decide (c.idx>3)=false:=by simpa using hj
     have h2:ctorOkB n c=c.args.all (argOkB n):=by rw [h1,(zAF _ _ _).2 ⟨by omega,by omega⟩,Bool.true_and]
     have HOk:=jj h2
     clear h1 hi hj h2
     go_wp2
     go_loopw [5] (fun i wr=>∃ k:Nat,k≤c.args.length∧i=.int .i64 k∧Hid (c.args.all (argOkB n)=(c.args.drop k).all (argOkB n))∧Below w.heap.size w wr∧Hid (Blk wr w.heap.size 74 #[.string c.name,.slice A c.args.length cap,.int .i64 c.idx])) (fun i _=>c.args.length-(intOf i).toNat)
     case atStart=>exact ⟨0,Nat.zero_le _,rfl,rfl,hB2,K1⟩
     case round =>
      obtain ⟨k,hk,rfl,HT,hB,KB⟩:=hrel
      clear x1 x2 hlt0
      have x1:wr.cell? ⟨w.heap.size,1,none⟩=some (.slice A c.args.length cap):=(KB.out.cell 1).trans (by simp)
      have hlt0:=KB.out.lt
      by_cases hlt:k<c.args.length
      ·have hi0:(0:Int)≤(k:Int):=by omega
       have hi1:(k:Int)<(c.args.length:Int):=by omega
       obtain ⟨b,off,cs,G,rfl,hb,hcs,hv,-⟩:=HX.out.get zAQ hlt
       have hbl:=HF.out b hb
       have hcs:=hcs.same (hB.block b hbl)
       obtain rfl:=TyR_form hv
       have c0:=hcs 0 _ rfl
       have c1:=hcs 1 _ rfl
       simp only [Nat.add_zero] at c0
       clear hcs hv hb
       have hbw:=zz9 hbl hB.size
       have hd:=all_drop (argOkB n) c.args k hlt
       go_wp2_with fail
       refine (spec_l1Arg n c.args[k] wr).mono ?_
       rintro e w' ⟨rfl,hB'⟩
       have hB3:=hB.trans (hB'.mono hB.size)
       have KB3:Hid (Blk w' w.heap.size 74 #[.string c.name,.slice (some ⟨b,off,none⟩) c.args.length cap,.int .i64 c.idx]):=KB.out.same (hB'.block _ KB.out.lt)
       cases hq:argOkB n c.args[k] with
       |false =>
        have hf:Hid (ctorOkB n c=false):=by rw [hq,Bool.false_and] at hd;exact HOk.out.trans (HT.out.trans hd)
        clear hq hd
        go_wp2
        go_ret
        exact ⟨zA0 hf.out.symm,hB3⟩
       |true =>
        have hT2:Hid (c.args.all (argOkB n)=(c.args.drop (k+1)).all (argOkB n)):=by rw [hq,Bool.true_and] at hd;exact HT.out.trans hd
        clear hq hd
        go_wp2
        go_roundw
        case rel=>exact ⟨k+1,by omega,by go_num,hT2,hB3,KB3⟩
        case measure=>simp [intOf];omega
      ·have hT:=HT.out
       rw [List.drop_of_length_le (by omega)] at hT
       have hf:Hid (ctorOkB n c=true):=HOk.out.trans hT
       clear hT
       go_wp2
       go_ret
       exact ⟨zA0 hf.out.symm,hB⟩
  ·have t1:decide ((c.args.length:Int)>3)=true:=by simp;omega
   have hf:Hid (ctorOkB n c=false):=by rw [h0,decide_eq_false hl];rfl
   clear h0 hl
   go_wp2
   go_ret
   exact ⟨zA0 hf.out.symm,hB2⟩
def bigB (c:UInt8):Bool:=decide (65≤(c.toNat:Int)) && decide ((c.toNat:Int)≤90)
def dnameOk:List UInt8→Bool
 |[c]=>bigB c && !(c==73)
 |_=>false
set_option maxHeartbeats 400000 in
theorem spec_l1Big (c:UInt8) (w:World):Calls Try.prog 70 #[.int .u8 (c.toNat:Int)] w fun e w'=>e=.returned (.bool (bigB c))∧w=w':=by
 cases h:decide (65≤(c.toNat:Int)) with
 |false =>
  have hf:Hid (bigB c=false):=by unfold Hid bigB;rw [h];rfl
  go_enter Try.func70,Try.ntmps70
  go_wp2
  go_ret
  exact ⟨zA0 hf.out.symm,rfl⟩
 |true =>
  have hf:Hid (bigB c=decide ((c.toNat:Int)≤90)):=by unfold Hid bigB;rw [h];rfl
  go_enter Try.func70,Try.ntmps70
  go_wp2
  go_ret
  exact ⟨zA0 hf.out.symm,rfl⟩
theorem one_byte (s:ByteArray) (h:s.size=1):s.data.toList=[s[0]]:=by
 rw [bytes_cons s (by omega)]
 congr 1
 exact List.eq_nil_of_length_eq_zero (by simp;omega)
set_option maxHeartbeats 400000 in
theorem spec_l1Data (s:ByteArray) (w:World) (hs:s.size≤maxLen):Calls Try.prog 56 #[.string s] w fun e w'=>e=.returned (.bool (dnameOk s.data.toList))∧w=w':=by
 unfold maxLen at hs
 by_cases h:s.size=1
 ·have h1:=one_byte s h
  have h0:((s.size:Int)==1)=true:=beq_iff_eq.2 (by omega)
  have p0:0<s.size:=by omega
  have p0':(0:Int)<(s.size:Int):=by omega
  cases hb:bigB s[0] with
  |false =>
   have hf:Hid (dnameOk s.data.toList=false):=by
    rw [h1];show (bigB s[0] && !(s[0]==73))=false;rw [hb];rfl
   clear h1 h
   have HB:=jj hb
   clear hb
   go_enter Try.func56,Try.ntmps56
   go_wp2_with fail
   refine (spec_l1Big s[0] _).mono ?_
   rintro e w' ⟨rfl,rfl⟩
   rw [HB.out]
   go_wp2
   go_ret
   exact ⟨zA0 hf.out.symm,rfl⟩
  |true =>
   have hI:(s.toList==[73])=(s[0]==73):=by rw [ByteArray.toList_eq,h1];simp
   have hf:Hid (dnameOk s.data.toList=!(s.toList==[73])):=by
    rw [hI,h1];show (bigB s[0] && !(s[0]==73))=_;rw [hb];rfl
   clear h1 h hI
   have HB:=jj hb
   clear hb
   go_enter Try.func56,Try.ntmps56
   go_wp2_with fail
   refine (spec_l1Big s[0] _).mono ?_
   rintro e w' ⟨rfl,rfl⟩
   rw [HB.out]
   go_wp2
   go_ret
   exact ⟨zA0 hf.out.symm,rfl⟩
 ·have h0:((s.size:Int)==1)=false:=beq_eq_false_iff_ne.2 (by omega)
  have hf:Hid (dnameOk s.data.toList=false):=by
   have hl:s.data.toList.length≠1:=by simpa using h
   unfold Hid
   generalize s.data.toList=l at *
   match l,hl with
   |[],_=>rfl
   |[c],hl=>simp at hl
   |_ :: _ :: _,_=>rfl
  clear h
  go_enter Try.func56,Try.ntmps56
  go_wp2
  go_ret
  exact ⟨zA0 hf.out.symm,rfl⟩
def nameIn (l:List ByteArray) (s:ByteArray):Bool:=l.any fun x=>x.toList==s.toList
def ctorsGo (n:Int):List ByteArray→List Kt→Bool
 |_,[]=>true
 |met,c :: cs=>ctorOkB n c && (!nameIn met c.name && ctorsGo n (met ++ [c.name]) cs)
def ctorsSpec (n:Int) (b:Bool):List ByteArray→List Kt→Bool
 |_,[]=>true
 |met,c :: cs=>ctorOkB n c && (!(b || nameIn met c.name) && ctorsSpec n b (met ++ [c.name]) cs)
def worldGo (n:Int):List ByteArray→List ByteArray→List Dt→Bool
 |_,_,[]=>true
 |datas,met,d :: ds=>dnameOk d.name.data.toList && (!nameIn datas d.name && (withinB (d.ctors.length:Int) 1 4 && (ctorsGo n met d.ctors && worldGo n (datas ++ [d.name]) (met ++ d.ctors.map Kt.name) ds)))
def worldOk (xs:List Dt):Bool:=decide ((xs.length:Int)≤4) && worldGo xs.length [] [] xs
theorem ctorsSpec_false (n:Int):∀ (cs:List Kt) (met:List ByteArray),ctorsSpec n false met cs=ctorsGo n met cs
 |[],_=>rfl
 |c :: cs,met=>by rw [ctorsSpec,ctorsGo,ctorsSpec_false n cs,Bool.false_or]
theorem ctorsSpec_true (n:Int) (c:Kt) (cs:List Kt) (met:List ByteArray):ctorsSpec n true met (c :: cs)=false:=by
 rw [ctorsSpec,Bool.true_or,Bool.not_true,Bool.false_and,Bool.and_false]
theorem ctorsSpec_eq (n:Int) (b:Bool) (cs:List Kt) (met:List ByteArray) (h:cs≠[]):ctorsSpec n b met cs=(!b && ctorsGo n met cs):=by
 cases b with
 |false=>rw [ctorsSpec_false];rfl
 |true =>
  cases cs with
  |nil=>exact absurd rfl h
  |cons c cs=>rw [ctorsSpec_true];rfl
def typeOkB (n:Int) (t:Ty):Bool:=if t.d = -1 then t.i==0 else withinB t.d 0 (n-1) && withinB t.i 0 3
theorem typeOkB_arg (n:Int) (t:Ty):(argOkB n t && decide (0≤t.i))=typeOkB n t:=by
 unfold argOkB typeOkB
 by_cases h:t.d = -1
 ·rw [if_pos h,if_pos h,Bool.eq_iff_iff];simp;omega
 ·rw [if_neg h,if_neg h,Bool.eq_iff_iff];simp [withinB];omega
def typeValidB (xs:List Dt) (t:Ty):Bool:=worldOk xs && typeOkB xs.length t
theorem ctorsGo_all {n:Int}:∀ {cs:List Kt} {met:List ByteArray},ctorsGo n met cs=true→∀ c∈cs,ctorOkB n c=true
 |[],_,_,c,h=>by cases h
 |c :: cs,met,h,x,hx=>by
  simp only [ctorsGo,Bool.and_eq_true] at h
  rcases List.mem_cons.1 hx with rfl | hx
  ·exact h.1
  ·exact ctorsGo_all h.2.2 x hx
theorem worldGo_all {n:Int}:∀ {ds:List Dt} {datas met:List ByteArray},worldGo n datas met ds=true→∀ x∈ds,dnameOk x.name.data.toList=true∧(1≤x.ctors.length∧x.ctors.length≤4)∧∀ c∈x.ctors,ctorOkB n c=true
 |[],_,_,_,x,h=>by cases h
 |d :: ds,datas,met,h,x,hx=>by
  simp only [worldGo,Bool.and_eq_true] at h
  rcases List.mem_cons.1 hx with rfl | hx
  ·have:=(zAF _ _ _).1 h.2.2.1
   exact ⟨h.1,⟨by omega,by omega⟩,ctorsGo_all h.2.2.2.1⟩
  ·exact worldGo_all h.2.2.2.2 x hx
structure KtOk (n:Nat) (c:Kt):Prop where
 name:nameOk c.name.data.toList=true
 args:c.args.length≤3
 lo:0≤c.idx
 hi:c.idx≤3
 all:∀ t∈c.args,argOkB n t=true
structure DtOk (n:Nat) (x:Dt):Prop where
 name:dnameOk x.name.data.toList=true
 lo:1≤x.ctors.length
 hi:x.ctors.length≤4
 all:∀ c∈x.ctors,KtOk n c
structure WorldOK (xs:List Dt):Prop where
 len:xs.length≤4
 all:∀ x∈xs,DtOk xs.length x
theorem ktOk {n:Nat} {c:Kt} (h:ctorOkB n c=true):KtOk n c:=by
 unfold ctorOkB at h
 simp only [Bool.and_eq_true,zAF,decide_eq_true_eq,List.all_eq_true] at h
 exact ⟨h.1,by omega,h.2.2.1.1,h.2.2.1.2,h.2.2.2⟩
theorem worldOK {xs:List Dt} (h:worldOk xs=true):WorldOK xs:=by
 unfold worldOk at h
 simp only [Bool.and_eq_true,decide_eq_true_eq] at h
 exact ⟨by omega,fun x hx=>by
  obtain ⟨h1,h2,h3⟩:=worldGo_all h.2 x hx
  exact ⟨h1,h2.1,h2.2,fun c hc=>ktOk (h3 c hc)⟩⟩
theorem WorldOK.at {xs:List Dt} (h:WorldOK xs) {d:Nat} (hd:d<xs.length):DtOk xs.length xs[d]:=h.all _ (List.getElem_mem hd)
theorem WorldOK.ctor {xs:List Dt} (h:WorldOK xs) {d k:Nat} (hd:d<xs.length) (hk:k<xs[d].ctors.length):KtOk xs.length xs[d].ctors[k]:=(h.at hd).all _ (List.getElem_mem hk)
def InWorld (n:Nat) (t:Ty):Prop:=t.d = -1∨∃ d:Nat,t.d=(d:Int)∧d<n
theorem typeValid_split {xs:List Dt} {t:Ty} (h:typeValidB xs t=true):WorldOK xs∧typeOkB xs.length t=true:=by
 unfold typeValidB at h
 rw [Bool.and_eq_true] at h
 exact ⟨worldOK h.1,h.2⟩
end Go.Proofs.Ytghekinfoadcoaa
