/-
  Lemmas, and contracts of functions. Conditions: none.
-/
import Derived.WalkKit
import Derived.WalkSpells
import Derived.WalkLawsBesides
import Derived.Lib.Hide
import Derived.Deep.Draws
import Derived.Laws.OwnMore
import Derived.Deep.AppendLies
import Derived.Maps.AppendAt
import Derived.Test.YtjjclcmmfeegfaaGreatDoorChecked
import Derived.Deep.RegionWith
import Derived.Deep.RegionHeld3
import Derived.BigQuiet

set_option linter.unusedVariables false
set_option linter.unusedSimpArgs false
set_option maxRecDepth 100000
set_option maxHeartbeats 1600000

namespace Go.Proofs.YtjjclcmmfeegfaaGreatDoor
open Go.RowKit
theorem jj {p : Prop} (h : p) : Hid p := h
theorem zz7 (w : World) (a : Addr) (u : Value) (k : Nat) (h : k ≠ a.block) : (w.setCell a u).heap[k]? = w.heap[k]? := Below.heap_setCell w a u k h
theorem zz8 (n : Nat) : n ≤ n := Nat.le_refl n
theorem zz9 {n m k : Nat} (h : n < m) (g : m ≤ k) : n < k := Nat.lt_of_lt_of_le h g
theorem zy1 {α : Type _} {a b : α} : a ∈ [b] ↔ a = b := List.mem_singleton
theorem zy2 (B : Nat) (w : World) : Below B w w := Below.refl B w
theorem zz1 {α : Type _} {xs : List α} {i : Nat} (h : i < xs.toArray.size) : xs.toArray[i] = xs[i]'(by simpa using h) := rfl
theorem zz2 {α : Type _} (a : α) (bs : List α) (h : 0 < (a :: bs).length) : (a :: bs)[0] = a := rfl
theorem zz3 {α : Type _} (a : α) (bs : List α) (i : Nat) (h : i + 1 < (a :: bs).length) : (a :: bs)[i + 1] = bs[i]'(Nat.lt_of_succ_lt_succ h) := rfl
theorem zz4 {α : Type _} (l : List α) (i : Nat) (a : α) : l.toArray.setIfInBounds i a = (l.set i a).toArray := List.setIfInBounds_toArray l i a
theorem zz5 {α : Type _} {x : α} {xs : List α} {a : α} : (x :: xs).set 0 a = a :: xs := rfl
theorem zz6 {α : Type _} {x : α} {xs : List α} {i : Nat} {a : α} : (x :: xs).set (i + 1) a = x :: xs.set i a := rfl
theorem zz : (∀ (a : Act) (d : Tmp) (v : Value), a.put (some d) v = { a with tmps := a.tmps.setIfInBounds d v }) ∧ (∀ (a : Act) (v : Value), a.put none v = a) ∧ (∀ {α : Type} {xs : List α} {i : Nat} (h : i < xs.toArray.size), xs.toArray[i] = xs[i]'(by simpa using h)) ∧ (∀ {α : Type} (a : α) (bs : List α) (h : 0 < (a :: bs).length), (a :: bs)[0] = a) ∧ (∀ {α : Type} (a : α) (bs : List α) (i : Nat) (h : i + 1 < (a :: bs).length), (a :: bs)[i + 1] = bs[i]'(Nat.lt_of_succ_lt_succ h)) ∧ (∀ {α : Type} (l : List α) (i : Nat) (a : α), l.toArray.setIfInBounds i a = (l.set i a).toArray) ∧ (∀ {α : Type} {x : α} {xs : List α} {a : α}, (x :: xs).set 0 a = a :: xs) ∧ (∀ {α : Type} {x : α} {xs : List α} {i : Nat} {a : α}, (x :: xs).set (i + 1) a = x :: xs.set i a) := ⟨fun _ _ _ => rfl, fun _ _ => rfl, fun _ => rfl, fun _ _ _ => rfl, fun _ _ _ _ => rfl, fun l i a => List.setIfInBounds_toArray l i a, rfl, rfl⟩
instance : Coe Int Value := ⟨fun x => .int .i64 x⟩
instance : Coe World Nat := ⟨fun w => w.heap.size⟩
def Kp (n : Nat) (S : World → Prop) : Prop := ∀ U U' : World, S U → Below U.heap.size U U' → n ≤ U.heap.size → S U'
/-! ### Names -/
def lowerAll (l:List UInt8):Bool:=l.all fun c=>97≤c && c≤122
def nameOk:List UInt8→Bool
 |[]=>false
 |c :: l=>decide (l.length≤4) && (65≤c && c≤90) && lowerAll l
theorem lowerAll_one (c:UInt8):lowerAll [c]=(decide (97≤c.toNat) && decide (c.toNat≤122)):=by
 simp only [lowerAll,List.all_cons,List.all_nil,Bool.and_true]
 rw [Bool.eq_iff_iff];simp [UInt8.le_iff_toNat_le]
theorem nameOk_cons (c:UInt8) (l:List UInt8):nameOk (c :: l)=(decide (l.length≤4) && (decide (65≤c.toNat) && decide (c.toNat≤90)) && lowerAll l):=by
 simp only [nameOk]
 rw [Bool.eq_iff_iff];simp [UInt8.le_iff_toNat_le]
/-! ### Footprints: the blocks that a datum lies in -/
def Kept (F:List Nat) (w w':World):Prop:=∀ b∈F,w'.heap[b]?=w.heap[b]?
def Under (n:Nat) (F:List Nat):Prop:=∀ b∈F,b<n
def Fresh (w w':World) (F:List Nat):Prop:=∀ b∈F,w.heap.size≤b∧b<w'.heap.size
def Free (w:World) (F:List Nat):Prop:=F.Nodup∧∀ b∈F,∀ i,w.frozen? ⟨b,i,none⟩=false
theorem Kept.of_below {F:List Nat} {w w':World} {B:Nat} (h:Below B w w') (hF:Under B F):Kept F w w':=fun b hb=>h.block b (hF b hb)
theorem Under.mono {n m:Nat} {F:List Nat} (h:Under n F) (hm:n≤m):Under m F:=fun b hb=>zz9 (h b hb) hm
theorem Under.nil (n:Nat):Under n []:=fun b hb=>by cases hb
theorem Under.sub {n:Nat} {F G:List Nat} (h:Under n F) (hs:∀ b∈G,b∈F):Under n G:=fun b hb=>h b (hs b hb)
theorem Fresh.under {w w':World} {F:List Nat} (h:Fresh w w' F):Under w'.heap.size F:=fun b hb=>(h b hb).2
theorem Fresh.nil (w w':World):Fresh w w' []:=fun b hb=>by cases hb
theorem Free.nil (w:World):Free w []:=⟨List.nodup_nil,fun b hb=>by cases hb⟩
theorem Free.kept {w w':World} {F:List Nat} (h:Free w F) (hk:Kept F w w'):Free w' F :=
 ⟨h.1,fun b hb i=>(World.frozen?_of_block (w:=w) (a:=⟨b,i,none⟩) (hk b hb)).trans (h.2 b hb i)⟩
/-! ### Rows of elements of several cells -/
def CellsAt (w:World) (b off:Nat) (cs:List Value):Prop:=∀ j u,cs[j]?=some u→w.cell? ⟨b,off+j,none⟩=some u
theorem CellsAt.same {w w':World} {b off:Nat} {cs:List Value} (h:CellsAt w b off cs) (e:w'.heap[b]?=w.heap[b]?):CellsAt w' b off cs :=
 fun j u hj=>(World.cell?_of_block (a:=⟨b,off+j,none⟩) e).trans (h j u hj)
theorem CellsAt.left {w:World} {b off:Nat} {c d:List Value} (h:CellsAt w b off (c ++ d)):CellsAt w b off c :=
 fun j u hj=>h j u (by rw [List.getElem?_append_left (List.getElem?_eq_some_iff.1 hj).1];exact hj)
theorem CellsAt.right {w:World} {b off:Nat} {c d:List Value} (h:CellsAt w b off (c ++ d)):CellsAt w b (off+c.length) d :=
 fun j u hj=>by
  have:=h (c.length+j) u (by rw [List.getElem?_append_right (by omega)];simpa using hj)
  rwa [←Nat.add_assoc] at this
theorem CellsAt.append {w:World} {b off:Nat} {c d:List Value} (h:CellsAt w b off c) (h':CellsAt w b (off+c.length) d):CellsAt w b off (c ++ d) :=
 fun j u hj=>by
  rcases Nat.lt_or_ge j c.length with hl | hl
  ·exact h j u (by rwa [List.getElem?_append_left hl] at hj)
  ·have:=h' (j-c.length) u (by rwa [List.getElem?_append_right hl] at hj)
   rwa [show off+c.length+(j-c.length)=off+j by omega] at this
def Flat {α:Type} (R:α→List Value→List Nat→Prop):List α→List Value→List Nat→Prop
 |[],cs,F=>cs=[]∧F=[]
 |x :: xs,cs,F=>∃ c1 c2 F1 F2,cs=c1 ++ c2∧F=F1 ++ F2∧R x c1 F1∧Flat R xs c2 F2
theorem Flat.append {α:Type} {R:α→List Value→List Nat→Prop}:∀ {xs ys:List α} {c d:List Value} {F G:List Nat},Flat R xs c F→Flat R ys d G→Flat R (xs ++ ys) (c ++ d) (F ++ G)
 |[],ys,c,d,F,G,h,h'=>by obtain ⟨rfl,rfl⟩:=h;exact h'
 |x :: xs,ys,c,d,F,G,h,h'=>by
  obtain ⟨c1,c2,F1,F2,rfl,rfl,h1,h2⟩:=h
  exact ⟨c1,c2 ++ d,F1,F2 ++ G,by simp,by simp,h1,h2.append h'⟩
theorem Flat.one {α:Type} {R:α→List Value→List Nat→Prop} {x:α} {c:List Value} {F:List Nat} (h:R x c F):Flat R [x] c F:=⟨c,[],F,[],by simp,by simp,h,rfl,rfl⟩
theorem Flat.split {α:Type} {R:α→List Value→List Nat→Prop}:∀ (xs:List α) {ys:List α} {c:List Value} {F:List Nat},Flat R (xs ++ ys) c F→∃ c1 c2 F1 F2,c=c1 ++ c2∧F=F1 ++ F2∧Flat R xs c1 F1∧Flat R ys c2 F2
 |[],ys,c,F,h=>⟨[],c,[],F,rfl,rfl,⟨rfl,rfl⟩,h⟩
 |x :: xs,ys,c,F,h=>by
  obtain ⟨c1,c2,F1,F2,rfl,rfl,h1,h2⟩:=h
  obtain ⟨d1,d2,G1,G2,rfl,rfl,h3,h4⟩:=Flat.split xs h2
  exact ⟨c1 ++ d1,d2,F1 ++ G1,G2,by simp,by simp,⟨c1,d1,F1,G1,rfl,rfl,h1,h3⟩,h4⟩
theorem Flat.mono {α:Type} {R R':α→List Value→List Nat→Prop}:∀ {xs:List α} {c:List Value} {F:List Nat},Flat R xs c F→(∀ x∈xs,∀ cs G,(∀ b∈G,b∈F)→R x cs G→R' x cs G)→Flat R' xs c F
 |[],c,F,h,_=>h
 |x :: xs,c,F,h,hR=>by
  obtain ⟨c1,c2,F1,F2,rfl,rfl,h1,h2⟩:=h
  exact ⟨c1,c2,F1,F2,rfl,rfl,hR x (by simp) _ _ (fun b hb=>List.mem_append.2 (.inl hb)) h1,h2.mono fun y hy cs G hG h=>hR y (by simp [hy]) cs G (fun b hb=>List.mem_append.2 (.inr (hG b hb))) h⟩
theorem Flat.length {α:Type} {R:α→List Value→List Nat→Prop} {k:Nat} (hk:∀ x cs F,R x cs F→cs.length=k):∀ {xs:List α} {c:List Value} {F:List Nat},Flat R xs c F→c.length=xs.length*k
 |[],c,F,h=>by obtain ⟨rfl,-⟩:=h;simp
 |x :: xs,c,F,h=>by
  obtain ⟨c1,c2,F1,F2,rfl,rfl,h1,h2⟩:=h
  have:=h2.length hk
  have:=hk _ _ _ h1
  simp only [List.length_append,List.length_cons,Nat.add_mul]
  omega
theorem Flat.get {α:Type} {R:α→List Value→List Nat→Prop} {k:Nat} (hk:∀ x cs F,R x cs F→cs.length=k) {w:World} {b off:Nat}:∀ {xs:List α} {c:List Value} {F:List Nat} {off:Nat},Flat R xs c F→CellsAt w b off c →
  ∀ {i:Nat} {x:α},xs[i]?=some x→∃ cs G,CellsAt w b (off+i*k) cs∧R x cs G∧∀ b∈G,b∈F
 |[],c,F,off,_,_,i,x,hi=>by simp at hi
 |y :: xs,c,F,off,h,hc,i,x,hi=>by
  obtain ⟨c1,c2,F1,F2,rfl,rfl,h1,h2⟩:=h
  cases i with
  |zero =>
   simp at hi
   subst hi
   exact ⟨c1,F1,by simpa using hc.left,h1,fun b hb=>List.mem_append.2 (.inl hb)⟩
  |succ i =>
   have hc2:=hc.right
   rw [hk _ _ _ h1] at hc2
   obtain ⟨cs,G,a,b,d⟩:=Flat.get (off:=off) hk h2 hc2 (by simpa using hi)
   exact ⟨cs,G,by rwa [show off+(i+1)*k=off+k+i*k by rw [Nat.add_mul];omega],b,fun b hb=>List.mem_append.2 (.inr (d b hb))⟩
def Arr {α:Type} (w:World) (R:α→List Value→List Nat→Prop) (xs:List α) (v:Value) (F:List Nat):Prop :=
 ∃ A cap,v=.slice A xs.length cap∧xs.length≤cap∧cap≤maxLen ∧
  ((xs=[]∧F=[])∨∃ b off cs G,A=some ⟨b,off,none⟩∧CellsAt w b off cs∧Flat R xs cs G∧F=b :: G)
theorem Arr.nil {α:Type} {w:World} {R:α→List Value→List Nat→Prop}:Arr w R [] (.slice none 0 0) []:=⟨none,0,rfl,by simp,by simp [maxLen],.inl ⟨rfl,rfl⟩⟩
theorem Arr.mono {α:Type} {w w':World} {R R':α→List Value→List Nat→Prop} {xs:List α} {v:Value} {F:List Nat} (h:Arr w R xs v F)
  (hF:Kept F w w') (hR:∀ x∈xs,∀ cs G,Kept G w w'→R x cs G→R' x cs G):Arr w' R' xs v F:=by
 obtain ⟨A,cap,rfl,h1,h2,h3⟩:=h
 refine ⟨A,cap,rfl,h1,h2,?_⟩
 rcases h3 with h3 | ⟨b,off,cs,G,rfl,hc,hf,rfl⟩
 ·exact .inl h3
 ·exact .inr ⟨b,off,cs,G,rfl,hc.same (hF b (by simp)),hf.mono fun x hx cs H hH hr=>hR x hx cs H (fun b hb=>hF b (by simp [hH b hb])) hr,rfl⟩
theorem Arr.get {α:Type} {w:World} {R:α→List Value→List Nat→Prop} {k:Nat} (hk:∀ x cs F,R x cs F→cs.length=k) {xs:List α} {A:Option Addr} {n cap:Nat} {F:List Nat} (h:Arr w R xs (.slice A n cap) F) {i:Nat} (hi:i<xs.length) :
  ∃ b off cs G,A=some ⟨b,off,none⟩∧b∈F∧CellsAt w b (off+i*k) cs∧R xs[i] cs G∧∀ b∈G,b∈F:=by
 obtain ⟨A',cap',hv,h1,h2,h3⟩:=h
 cases hv
 rcases h3 with ⟨rfl,-⟩ | ⟨b,off,cs,G,rfl,hc,hf,rfl⟩
 ·simp at hi
 ·obtain ⟨ds,H,a,r,d⟩:=hf.get (off:=off) hk hc (List.getElem?_eq_getElem hi)
  exact ⟨b,off,ds,H,rfl,by simp,a,r,fun b hb=>by simp [d b hb]⟩
theorem Arr.form {α:Type} {w:World} {R:α→List Value→List Nat→Prop} {xs:List α} {v:Value} {F:List Nat} (h:Arr w R xs v F):∃ A cap,v=.slice A xs.length cap∧xs.length≤cap∧cap≤9223372036854775807:=by
 obtain ⟨A,cap,rfl,h1,h2,-⟩:=h
 exact ⟨A,cap,rfl,h1,by unfold maxLen at h2;omega⟩
/-! ### A block that is known whole -/
def Blk (w:World) (g:Nat) (t:TypeId) (C:Array Value):Prop:=w.heap[g]?=some (.cells C t (0,0))
theorem Blk.lt {w:World} {g:Nat} {t:TypeId} {C:Array Value} (h:Blk w g t C):g<w.heap.size:=by
 rcases Nat.lt_or_ge g w.heap.size with hlt | hge
 ·exact hlt
 ·unfold Blk at h;rw [Array.getElem?_eq_none hge] at h;cases h
theorem Blk.cell {w:World} {g:Nat} {t:TypeId} {C:Array Value} (h:Blk w g t C) (i:Nat):w.cell? ⟨g,i,none⟩=C[i]?:=cell_of_row w g i C t (0,0) h
theorem Blk.c1 {w : World} {b : Nat} {T : TypeId} {x0 : Value} (h : Blk w b T #[x0]) : w.cell? ⟨b, 0, none⟩ = some x0 ∧ b < w.heap.size := ⟨(h.cell 0).trans (by simp), h.lt⟩
theorem Blk.c2 {w : World} {b : Nat} {T : TypeId} {x0 x1 : Value} (h : Blk w b T #[x0, x1]) : w.cell? ⟨b, 0, none⟩ = some x0 ∧ w.cell? ⟨b, 1, none⟩ = some x1 ∧ b < w.heap.size := ⟨(h.cell 0).trans (by simp), (h.cell 1).trans (by simp), h.lt⟩
theorem Blk.c3 {w : World} {b : Nat} {T : TypeId} {x0 x1 x2 : Value} (h : Blk w b T #[x0, x1, x2]) : w.cell? ⟨b, 0, none⟩ = some x0 ∧ w.cell? ⟨b, 1, none⟩ = some x1 ∧ w.cell? ⟨b, 2, none⟩ = some x2 ∧ b < w.heap.size := ⟨(h.cell 0).trans (by simp), (h.cell 1).trans (by simp), (h.cell 2).trans (by simp), h.lt⟩
theorem Blk.c4 {w : World} {b : Nat} {T : TypeId} {x0 x1 x2 x3 : Value} (h : Blk w b T #[x0, x1, x2, x3]) : w.cell? ⟨b, 0, none⟩ = some x0 ∧ w.cell? ⟨b, 1, none⟩ = some x1 ∧ w.cell? ⟨b, 2, none⟩ = some x2 ∧ w.cell? ⟨b, 3, none⟩ = some x3 ∧ b < w.heap.size := ⟨(h.cell 0).trans (by simp), (h.cell 1).trans (by simp), (h.cell 2).trans (by simp), (h.cell 3).trans (by simp), h.lt⟩
theorem Blk.c6 {w : World} {b : Nat} {T : TypeId} {x0 x1 x2 x3 x4 x5 : Value} (h : Blk w b T #[x0, x1, x2, x3, x4, x5]) : w.cell? ⟨b, 0, none⟩ = some x0 ∧ w.cell? ⟨b, 1, none⟩ = some x1 ∧ w.cell? ⟨b, 2, none⟩ = some x2 ∧ w.cell? ⟨b, 3, none⟩ = some x3 ∧ w.cell? ⟨b, 4, none⟩ = some x4 ∧ w.cell? ⟨b, 5, none⟩ = some x5 ∧ b < w.heap.size := ⟨(h.cell 0).trans (by simp), (h.cell 1).trans (by simp), (h.cell 2).trans (by simp), (h.cell 3).trans (by simp), (h.cell 4).trans (by simp), (h.cell 5).trans (by simp), h.lt⟩
theorem Blk.frozen {w:World} {g:Nat} {t:TypeId} {C:Array Value} (h:Blk w g t C) (i:Nat):w.frozen? ⟨g,i,none⟩=false:=by
 unfold Blk at h
 simp [World.frozen?,h]
theorem Blk.q2 {w : World} {b : Nat} {T : TypeId} {x0 x1 : Value} (h : Blk w b T #[x0, x1]) : w.cell? ⟨b, 0, none⟩ = some x0 ∧ w.cell? ⟨b, 1, none⟩ = some x1 ∧ b < w.heap.size ∧ w.frozen? ⟨b, 0, none⟩ = false ∧ w.frozen? ⟨b, 1, none⟩ = false := ⟨(h.cell 0).trans (by simp), (h.cell 1).trans (by simp), h.lt, h.frozen 0, h.frozen 1⟩
theorem Blk.q3 {w : World} {b : Nat} {T : TypeId} {x0 x1 x2 : Value} (h : Blk w b T #[x0, x1, x2]) : w.cell? ⟨b, 0, none⟩ = some x0 ∧ w.cell? ⟨b, 1, none⟩ = some x1 ∧ w.cell? ⟨b, 2, none⟩ = some x2 ∧ b < w.heap.size ∧ w.frozen? ⟨b, 0, none⟩ = false ∧ w.frozen? ⟨b, 1, none⟩ = false ∧ w.frozen? ⟨b, 2, none⟩ = false := ⟨(h.cell 0).trans (by simp), (h.cell 1).trans (by simp), (h.cell 2).trans (by simp), h.lt, h.frozen 0, h.frozen 1, h.frozen 2⟩
theorem Blk.q6 {w : World} {b : Nat} {T : TypeId} {x0 x1 x2 x3 x4 x5 : Value} (h : Blk w b T #[x0, x1, x2, x3, x4, x5]) : w.cell? ⟨b, 0, none⟩ = some x0 ∧ w.cell? ⟨b, 1, none⟩ = some x1 ∧ w.cell? ⟨b, 2, none⟩ = some x2 ∧ w.cell? ⟨b, 3, none⟩ = some x3 ∧ w.cell? ⟨b, 4, none⟩ = some x4 ∧ w.cell? ⟨b, 5, none⟩ = some x5 ∧ b < w.heap.size ∧ w.frozen? ⟨b, 0, none⟩ = false ∧ w.frozen? ⟨b, 1, none⟩ = false ∧ w.frozen? ⟨b, 2, none⟩ = false ∧ w.frozen? ⟨b, 3, none⟩ = false ∧ w.frozen? ⟨b, 4, none⟩ = false ∧ w.frozen? ⟨b, 5, none⟩ = false := ⟨(h.cell 0).trans (by simp), (h.cell 1).trans (by simp), (h.cell 2).trans (by simp), (h.cell 3).trans (by simp), (h.cell 4).trans (by simp), (h.cell 5).trans (by simp), h.lt, h.frozen 0, h.frozen 1, h.frozen 2, h.frozen 3, h.frozen 4, h.frozen 5⟩
theorem Blk.new (w:World) (t:TypeId) (C:Array Value):Blk (w.alloc (.cells C t)) w.heap.size t C:=heap_alloc_new w _
theorem Blk.same {w w':World} {g:Nat} {t:TypeId} {C:Array Value} (h:Blk w g t C) (e:w'.heap[g]?=w.heap[g]?):Blk w' g t C:=e.trans h
theorem Blk.set_ {w:World} {g:Nat} {t:TypeId} {C:Array Value} (h:Blk w g t C) (i:Nat) (u:Value):Blk (w.setCell ⟨g,i,none⟩ u) g t (C.setIfInBounds i u):=by
 unfold Blk at h ⊢
 simp [World.setCell,Array.getElem?_modify,h]
def putCells (w:World) (g:Nat):Nat→List Value→World
 |_,[]=>w
 |i,c :: cs=>putCells (w.setCell ⟨g,i,none⟩ c) g (i+1) cs
def Row {α:Type} (w:World) (g:Nat) (t:TypeId) (k n:Nat) (R:α→List Value→List Nat→Prop) (xs:List α) (F:List Nat):Prop :=
 (∃ C:Array Value,Blk w g t C∧C.size=n*k)∧xs.length≤n∧∃ cs,CellsAt w g 0 cs∧Flat R xs cs F
/-! ### make -/
theorem take_snoc' {α:Type} (l:List α) (k:Nat) (h:k<l.length):l.take (k+1)=l.take k ++ [l[k]]:=by
 rw [List.take_succ_eq_append_getElem h]
theorem ret_int {k:IntKind} {a b:Int} (h:a=b):Ending.returned (.int k a)=.returned (.int k b):=by rw [h]
theorem zA0 {a b:Bool} (h:a=b):Ending.returned (.bool a)=.returned (.bool b):=by rw [h]
def sumBy {α:Type} (f:α→Nat):List α→Nat
 |[]=>0
 |x :: xs=>f x+sumBy f xs
def szLeft (n:Nat) (left:Int):Int:=if (n:Int)≤left then left-n else -1
theorem below_drewN {B:Nat} {a w:World} (h:Below B a w) (n:Nat):Below B a (w.drewN n):=⟨h.os,h.tape,h.output,h.size,h.block⟩
/-! ### The first place at which a test holds -/
def FirstAt {α:Type} (p:α→Bool) (l:List α) (r:Int):Prop :=
 (∃ i:Nat,∃ h:i<l.length,r=i∧p l[i]=true∧∀ j (hj:j<l.length),j<i→p l[j]=false)∨(r = -1∧∀ j (hj:j<l.length),p l[j]=false)
theorem FirstAt.ex {α:Type} (p:α→Bool) (l:List α):∃ r,FirstAt p l r:=by
 induction l with
 |nil=>exact ⟨-1,.inr ⟨rfl,fun j hj=>by simp at hj⟩⟩
 |cons x xs ih =>
  cases hx:p x with
  |true=>exact ⟨0,.inl ⟨0,by simp,rfl,by simpa using hx,fun j hj h=>by omega⟩⟩
  |false =>
   obtain ⟨r,⟨i,h,rfl,hp,hm⟩ | ⟨rfl,hn⟩⟩:=ih
   ·refine ⟨((i+1:Nat):Int),.inl ⟨i+1,by simpa using h,rfl,by simpa using hp,fun j hj hlt=>?_⟩⟩
    cases j with
    |zero=>simpa using hx
    |succ j=>simpa using hm j (by simpa using hj) (by omega)
   ·refine ⟨-1,.inr ⟨rfl,fun j hj=>?_⟩⟩
    cases j with
    |zero=>simpa using hx
    |succ j=>simpa using hn j (by simpa using hj)
theorem FirstAt.hit {α:Type} {p:α→Bool} {l:List α} {r:Int} (h:FirstAt p l r) {k:Nat} (hk:k<l.length) (hp:p l[k]=true) (hm:∀ j (hj:j<l.length),j<k→p l[j]=false):r=k:=by
 rcases h with ⟨i,hi,rfl,hpi,hmi⟩ | ⟨rfl,hn⟩
 ·rcases Nat.lt_trichotomy i k with h | h | h
  ·have:=hm i hi h;rw [hpi] at this;cases this
  ·rw [h]
  ·have:=hmi k hk h;rw [hp] at this;cases this
 ·have:=hn k hk;rw [hp] at this;cases this
theorem FirstAt.miss {α:Type} {p:α→Bool} {l:List α} {r:Int} (h:FirstAt p l r) (hn:∀ j (hj:j<l.length),p l[j]=false):r = -1:=by
 rcases h with ⟨i,hi,rfl,hpi,-⟩ | ⟨rfl,-⟩
 ·have:=hn i hi;rw [hpi] at this;cases this
 ·rfl
theorem FirstAt.any {α:Type} {p:α→Bool} {l:List α} {r:Int} (h:FirstAt p l r):l.any p=decide (0≤r):=by
 rcases h with ⟨i,hi,rfl,hp,-⟩ | ⟨rfl,hn⟩
 ·rw [decide_eq_true (by omega),List.any_eq_true]
  exact ⟨_,List.getElem_mem hi,hp⟩
 ·rw [decide_eq_false (by omega),List.any_eq_false]
  intro x hx
  obtain ⟨j,hj,rfl⟩:=List.getElem_of_mem hx
  simp [hn j hj]
/-! ### Equality of lists and of byte strings as Bool -/
def sameBy {α:Type} (f:α→α→Bool):List α→List α→Bool
 |[],[]=>true
 |x :: xs,y :: ys=>f x y && sameBy f xs ys
 |[],_ :: _=>false
 |_ :: _,[]=>false
theorem sameBy_iff {α:Type} {f:α→α→Bool} (h:∀ a b,f a b=true↔a=b):∀ xs ys,sameBy f xs ys=true↔xs=ys
 |[],[]=>by simp [sameBy]
 |[],_ :: _=>by simp [sameBy]
 |_ :: _,[]=>by simp [sameBy]
 |x :: xs,y :: ys=>by simp only [sameBy,Bool.and_eq_true,h,sameBy_iff h xs ys,List.cons.injEq]
theorem sameBy_len {α:Type} {f:α→α→Bool}:∀ {xs ys:List α},sameBy f xs ys=true→xs.length=ys.length
 |[],[],_=>rfl
 |[],_ :: _,h=>by simp [sameBy] at h
 |_ :: _,[],h=>by simp [sameBy] at h
 |x :: xs,y :: ys,h=>by
  simp only [sameBy,Bool.and_eq_true] at h
  simp [sameBy_len h.2]
theorem sameBy_len_false {α:Type} {f:α→α→Bool} {xs ys:List α} (h:xs.length≠ys.length):sameBy f xs ys=false:=by
 rw [Bool.eq_false_iff]
 exact fun e=>h (sameBy_len e)
theorem sameBy_drop {α:Type} {f:α→α→Bool} (xs ys:List α) (k:Nat) (h:k<xs.length) (h':k<ys.length):sameBy f (xs.drop k) (ys.drop k)=(f xs[k] ys[k] && sameBy f (xs.drop (k+1)) (ys.drop (k+1))):=by
 rw [List.drop_eq_getElem_cons h,List.drop_eq_getElem_cons h',sameBy]
theorem bytes_beq_iff (a b:ByteArray):(a.toList==b.toList)=true↔a=b:=by
 rw [beq_iff_eq,ByteArray.toList_eq,ByteArray.toList_eq]
 constructor
 ·intro h
  cases a;cases b
  simp at h
  rw [h]
 ·intro h;rw [h]
def rowOf (v:Value):List Nat:=v.ownBlock.toList
theorem zA1 {v:Value} {g:Nat}:g∈rowOf v↔v.ownBlock=some g:=by unfold rowOf;simp [Option.mem_toList]
theorem rowOf_nil:rowOf (.slice none 0 0)=[]:=rfl
theorem zA4 (g o n c:Nat):rowOf (.slice (some ⟨g,o,none⟩) n c)=[g]:=rfl
def Own {α:Type} (w:World) (B:Nat) (E:TypeId) (k:Nat) (R:World→α→List Value→List Nat→Prop) (xs:List α) (v:Value) (F:List Nat):Prop :=
 ∃ cs,w.ownsRow B E k v xs.length cs∧Flat (R w) xs cs F∧Under w F∧∀ g∈rowOf v,g∉F
section
variable {α : Type} {w w' : World} {B k : Nat} {E : TypeId} {R : World → α → List Value → List Nat → Prop} {xs : List α} {v : Value} {F : List Nat}
theorem Own.nil (w:World) (B:Nat) (E:TypeId) (k:Nat) (R:World→α→List Value→List Nat→Prop):Own w B E k R ([]:List α) (.slice none 0 0) [] :=
 ⟨[],World.ownsRow_nil w B E k,⟨rfl,rfl⟩,Under.nil _,fun g h=>by simp [rowOf_nil] at h⟩
theorem Own.made (w:World) (B:Nat) (E:TypeId) (k:Nat) (R:World→α→List Value→List Nat→Prop) (cur:Array Value) (cap:Nat) (hB:B≤w.heap.size) (hm:cap≤maxLen) (hs:cur.size=cap*k):Own (w.alloc (.cells cur E)) B E k R ([]:List α) (.slice (some ⟨w,0,none⟩) 0 cap) [] :=
 ⟨[],World.ownsRow_made w cur cap hB hm hs,⟨rfl,rfl⟩,Under.nil _,fun g _ h=>by cases h⟩
theorem Own.under (h:Own w B E k R xs v F):Under w F:=h.choose_spec.2.2.1
theorem Own.row (h:Own w B E k R xs v F):∀ g∈rowOf v,B≤g∧g<w.heap.size:=fun g hg=>h.choose_spec.1.lt g (zA1.1 hg)
theorem Own.apart (h:Own w B E k R xs v F):∀ g∈rowOf v,g∉F:=h.choose_spec.2.2.2
theorem Own.mono (hR:∀ x cs G,Kept G w w'→R w x cs G→R w' x cs G) (h:Own w B E k R xs v F) (hk:Kept (rowOf v ++ F) w w') (hs:w.heap.size≤w'.heap.size):Own w' B E k R xs v F:=by
 obtain ⟨cs,h1,h2,h3,h4⟩:=h
 refine ⟨cs,⟨h1.1,?_⟩,h2.mono fun x _ cs G hG hr=>hR x cs G (fun b hb=>hk b (List.mem_append.2 (.inr (hG b hb)))) hr,h3.mono hs,h4⟩
 rcases h1.2 with hn | ⟨g,cap,cur,rfl,hb,hg,rest⟩
 ·exact .inl hn
 ·exact .inr ⟨g,cap,cur,rfl,hb,(hk g (by simp [zA4])).trans hg,rest⟩
theorem Own.below (hR:∀ x cs G,Kept G w w'→R w x cs G→R w' x cs G) (h:Own w B E k R xs v F) (hb:Below w w w'):Own w' B E k R xs v F :=
 h.mono hR (.of_below hb fun b hb'=>by
  rcases List.mem_append.1 hb' with h1 | h1
  ·exact (h.row b h1).2
  ·exact h.under b h1) hb.size
theorem Own.set (hR:∀ w w' x cs G,Kept G w w'→R w x cs G→R w' x cs G) (h:Own w B E k R xs v F) {b j:Nat} (u:Value) (hb:b∉rowOf v) (hF:b∉F):Own (w.setCell ⟨b,j,none⟩ u) B E k R xs v F :=
 h.mono (fun x cs G hk h=>hR _ _ x cs G hk h) (fun c hc=>zz7 _ _ _ _ (fun e=>by
  have e:c=b:=e
  subst e
  rcases List.mem_append.1 hc with h1 | h1
  ·exact hb h1
  ·exact hF h1)) (by simp [World.setCell])
theorem Own.form (h:Own w B E k R xs v F):∃ A cap,v=.slice A xs.length cap∧xs.length≤cap∧cap≤9223372036854775807:=by
 obtain ⟨cs,h1,-⟩:=h
 rcases h1.2 with ⟨rfl,hn⟩ | ⟨g,cap,cur,rfl,hb,hg,hc,hm,-⟩
 ·exact ⟨none,0,by rw [hn],by omega,by omega⟩
 ·exact ⟨_,cap,rfl,hc,by unfold maxLen at hm;omega⟩
theorem cellsAt_ownsRow {w:World} {B k n g cap:Nat} {E:TypeId} {cs:List Value} (h:w.ownsRow B E k (.slice (some ⟨g,0,none⟩) n cap) n cs):CellsAt w g 0 cs:=fun j u hj=>by
 have:=h.cells (g:=g) rfl j u hj
 rw [Addr.add_lit] at this
 exact this
theorem Own.arr (h:Own w B E k R xs v F):Arr w (R w) xs v (if xs=[] then [] else rowOf v ++ F):=by
 obtain ⟨A,cap,rfl,hc,hm⟩:=h.form
 refine ⟨A,cap,rfl,hc,by unfold maxLen;omega,?_⟩
 by_cases hx:xs=[]
 ·exact .inl ⟨hx,if_pos hx⟩
 ·rw [if_neg hx]
  obtain ⟨cs,h1,h2,h3,h4⟩:=h
  rcases h1.2 with ⟨hv,hn⟩ | ⟨g,cap',cur,hv,hb,hg,hc',hm',-⟩
  ·exact absurd (List.length_eq_zero_iff.1 hn) hx
  ·cases hv
   exact .inr ⟨g,0,cs,F,rfl,cellsAt_ownsRow h1,h2,rfl⟩
theorem Own.free (h:Own w B E k R xs v F) (hF:Free w F):Free w (if xs=[] then [] else rowOf v ++ F):=by
 by_cases hx:xs=[]
 ·rw [if_pos hx];exact Free.nil _
 ·rw [if_neg hx]
  obtain ⟨cs,h1,h2,h3,h4⟩:=h
  rcases h1.2 with ⟨hv,hn⟩ | ⟨g,cap',cur,rfl,hb,hg,hc',hm',-⟩
  ·exact absurd (List.length_eq_zero_iff.1 hn) hx
  ·rw [zA4]
   exact ⟨List.nodup_cons.2 ⟨h4 g (by simp [zA4]),hF.1⟩,fun b hb' i=>by
    rcases List.mem_cons.1 hb' with rfl | hb'
    ·simp [World.frozen?,hg]
    ·exact hF.2 b hb' i⟩
theorem Own.fresh {w0:World} (h:Own w B E k R xs v F) (hB:w0.heap.size≤B) (hF:∀ b∈F,w0.heap.size≤b):Fresh w0 w (if xs=[] then [] else rowOf v ++ F):=fun b hb=>by
 by_cases hx:xs=[]
 ·rw [if_pos hx] at hb;cases hb
 ·rw [if_neg hx] at hb
  rcases List.mem_append.1 hb with h1 | h1
  ·exact ⟨Nat.le_trans hB (h.row b h1).1,(h.row b h1).2⟩
  ·exact ⟨hF b h1,h.under b h1⟩
theorem grown_kept {w w':World} {v:Value} {G:List Nat} (hg:w.grownBy w' v.ownBlock) (hG:Under w G) (hn:∀ g∈rowOf v,g∉G):Kept G w w':=fun b hb =>
 hg.block b (hG b hb) fun e=>hn b (zA1.2 e.symm) hb
variable {P : Program}
theorem wpList_push {ops:Array Oper} {rest:List Oper} {o:Oper} {a:Act} {Q:Exit→Act→World→Prop} (hgd:o.guard=none) (s x:Operand) (t:TypeId)
  (ho:o.op=.call { callee:=.builtin .append,args:=#[s,x],argTypes:=#[t,t] })
  (i:TypeInfo) (z:Value) (bytes:Nat) (ht:P.underlying t=some (.slice E)) (hi:P.info? E=some i) (hz:i.zero=some z)
  (hsize:i.size=k) (hby:i.bytes=bytes) (hzs:z.cells.size=k) (hk:0<k)
  (hRl:∀ x cs G,R w x cs G→cs.length=k) (hRm:∀ w' x cs G,Kept G w w'→R w x cs G→R w' x cs G)
  (hs:a.eval s=v) (hown:Own w B E k R xs v F) (ys:List α) (ad:Addr) (c:Nat) (news:List Value) (G:List Nat)
  (hx:a.eval x=.slice (some ad) ys.length c) (hnews:∀ j u,news[j]?=some u→w.cell? (ad.add j)=some u) (h1:∀ u∈news,u.oneCell'=true)
  (hys:Flat (R w) ys news G) (hG:Under w G) (hvG:∀ g∈rowOf v,g∉G)
  (hm:0<ys.length) (h63:xs.length+ys.length≤maxLen) (hbytes:(xs.length+ys.length)*bytes≤140737488355328) (hbase:B≤w.heap.size)
  (h:∀ g cap w',Own w' B E k R (xs ++ ys) (.slice (some ⟨g,0,none⟩) (xs.length+ys.length) cap) (F ++ G)→w.grownBy w' v.ownBlock→(v.ownBlock=some g∨g=w.heap.size) →
   wpList P ops Q rest (a.put o.dst (.slice (some ⟨g,0,none⟩) (xs.length+ys.length) cap)) w'):wpList P ops Q (o :: rest) a w:=by
 obtain ⟨cs,h2,h3,h4,h5⟩:=id hown
 refine wpList_append_lies w hgd s x t ho B E i z k bytes ht hi hz hsize hby hzs hk v xs.length cs hs h2 ad ys.length c news hx (hys.length hRl) hnews h1 hm h63 hbytes hbase w.heap.size rfl
  fun g cap w1 hr hgr hat hlt=>h g cap w1 ⟨cs ++ news,by rw [List.length_append];exact hr,?_,?_,?_⟩ hgr hat
 ·exact (h3.mono fun x _ ds H hH hr=>hRm w1 x ds H (grown_kept hgr (h4.sub hH) fun g hg hn=>h5 g hg (hH g hn)) hr).append (hys.mono fun x _ ds H hH hr=>hRm w1 x ds H (grown_kept hgr (hG.sub hH) fun g hg hn=>hvG g hg (hH g hn)) hr)
 ·intro b hb
  rcases List.mem_append.1 hb with hb | hb
  ·exact zz9 (h4 b hb) hgr.size
  ·exact zz9 (hG b hb) hgr.size
 ·intro b hb hbF
  rw [zA4,zy1] at hb
  subst hb
  rcases hat with hat | rfl
  ·rcases List.mem_append.1 hbF with hb | hb
   ·exact h5 b (zA1.2 hat) hb
   ·exact hvG b (zA1.2 hat) hb
  ·rcases List.mem_append.1 hbF with hb | hb
   ·exact Nat.lt_irrefl _ (h4 _ hb)
   ·exact Nat.lt_irrefl _ (hG _ hb)
theorem zA5 {ops:Array Oper} {rest:List Oper} {o:Oper} {a:Act} {Q:Exit→Act→World→Prop} (hgd:o.guard=none) (s x:Operand) (t:TypeId)
  (ho:o.op=.call { callee:=.builtin .append,args:=#[s,x],argTypes:=#[t,t] })
  (i:TypeInfo) (z:Value) (bytes:Nat) (ht:P.underlying t=some (.slice E)) (hi:P.info? E=some i) (hz:i.zero=some z)
  (hsize:i.size=k) (hby:i.bytes=bytes) (hzs:z.cells.size=k) (hk:0<k)
  (hRl:∀ w x cs G,R w x cs G→cs.length=k) (hRm:∀ w w' x cs G,Kept G w w'→R w x cs G→R w' x cs G)
  (hs:a.eval s=v) (hown:Own w B E k R xs v F) (y:α) (T:TypeId) (news:List Value) (G:List Nat)
  (H:Nat) (hx:a.eval x=.slice (some ⟨H,0,none⟩) 1 1) (hH:w.heap.size=H) (h1:∀ u∈news,u.oneCell'=true)
  (hy:R w y news G) (hG:Under w G) (hvG:∀ g∈rowOf v,g∉G)
  (h63:xs.length+1≤maxLen) (hbytes:(xs.length+1)*bytes≤140737488355328) (hbase:B≤w.heap.size)
  (h:∀ g cap w',Own w' B E k R (xs ++ [y]) (.slice (some ⟨g,0,none⟩) (xs.length+1) cap) (F ++ G)→(w.alloc (.cells news.toArray T)).grownBy w' v.ownBlock→(v.ownBlock=some g∨g=w.heap.size+1) →
   wpList P ops Q rest (a.put o.dst (.slice (some ⟨g,0,none⟩) (xs.length+1) cap)) w'):wpList P ops Q (o :: rest) a (w.alloc (.cells news.toArray T)):=by
 subst hH
 have hb:=(zy2 w.heap.size w).alloc (zz8 _) (.cells news.toArray T)
 have hk1:Kept G w (w.alloc (.cells news.toArray T)):=.of_below hb hG
 refine wpList_push hgd s x t ho i z bytes ht hi hz hsize hby hzs hk (hRl _) (fun w'=>hRm _ w') hs (hown.below (fun x cs G hk h=>hRm _ _ x cs G hk h) hb) [y] ⟨w,0,none⟩ 1 news G hx ?_ h1 (Flat.one (hRm _ _ _ _ _ hk1 hy)) (hG.mono hb.size) hvG Nat.zero_lt_one h63 hbytes (Nat.le_trans hbase hb.size)
  (fun g cap w' h2 h3 h4=>h g cap w' h2 h3 (by simpa using h4))
 intro j u hj
 exact World.news_of_block (heap_alloc_new w (.cells news.toArray T)) j u (by simpa using hj)
end
theorem zAJ {w w':World} (h:Below w.drew.heap.size w.drew w'):Below w w w':=⟨h.os,h.tape,h.output,h.size,h.block⟩
def Halt (p:Prop):Prop:=p
theorem Halt.mk {p:Prop} (h:Halt p):p:=h
theorem Halt.of {p:Prop} (h:p):Halt p:=h
/-! ### Slices of numbers and of strings -/
def NatR (_:World) (x:Int) (cs:List Value) (F:List Nat):Prop:=cs=[.int .i64 x]∧F=[]
theorem NatR_len (w:World) (x:Int) (cs:List Value) (F:List Nat) (h:NatR w x cs F):cs.length=1:=by rw [h.1];rfl
def StrR (_:World) (x:ByteArray) (cs:List Value) (F:List Nat):Prop:=cs=[.string x]∧F=[]
theorem zAA (w:World) (x:ByteArray) (cs:List Value) (F:List Nat) (h:StrR w x cs F):cs.length=1:=by rw [h.1];rfl
theorem zA8 (w w':World) (x:ByteArray) (cs:List Value) (F:List Nat) (_:Kept F w w') (h:StrR w x cs F):StrR w' x cs F:=h
def MadeArr {α:Type} (R:World→α→List Value→List Nat→Prop) (w:World) (xs:List α) (e:Ending) (w':World):Prop :=
 ∃ v F,e=.returned v∧Below w w w'∧Arr w' (R w') xs v F∧Free w' F∧Fresh w w' F
theorem Own.gives {α:Type} {w0 w:World} {B k:Nat} {E:TypeId} {R:World→α→List Value→List Nat→Prop} {xs:List α} {v:Value} {F:List Nat} (h:Own w B E k R xs v F) (hb:Below w0 w0 w) (hB:w0.heap.size≤B) (hF:∀ b∈F,w0.heap.size≤b) (hfr:Free w F):MadeArr R w0 xs (.returned v) w :=
 ⟨v,_,rfl,hb,h.arr,h.free hfr,h.fresh hB hF⟩
@[ext] structure Ty where
 d:Int
 i:Int
def Ty.size (x:Ty):Nat:=0
def Ty.sizes (l:List Ty):Nat:=l.length+sumBy Ty.size l
def TyR (w:World) (x:Ty) (cs:List Value) (F:List Nat):Prop:=cs=[.int .i64 x.d] ++ [.int .i64 x.i]∧F=[]
theorem TyR_form {w:World} {x:Ty} {cs:List Value} {F:List Nat} (h:TyR w x cs F):cs=[.int .i64 x.d,.int .i64 x.i]:=h.1
theorem TyR_len {w:World} (x:Ty) (cs:List Value) (F:List Nat) (h:TyR w x cs F):cs.length=2:=by
 obtain ⟨rfl,-⟩:=h
 rfl
theorem TyR.mono {w w':World} (x:Ty) (cs:List Value) (F:List Nat) (_hF:Kept F w w') (h:TyR w x cs F):TyR w' x cs F:=h
theorem ArrTy.mono {w w':World} {vs:List Ty} {x:Value} {F:List Nat} (h:Arr w (TyR w) vs x F) (hF:Kept F w w'):Arr w' (TyR w') vs x F:=h.mono hF fun v _=>TyR.mono v
theorem ArrTy.below {w w':World} {B:Nat} {vs:List Ty} {x:Value} {F:List Nat} (h:Arr w (TyR w) vs x F) (hb:Below B w w') (hF:Under B F):Arr w' (TyR w') vs x F:=ArrTy.mono h (.of_below hb hF)
@[ext] structure Kt where
 name:ByteArray
 args:List Ty
 idx:Int
def Kt.size (x:Kt):Nat:=x.name.size+Ty.sizes x.args
def Kt.sizes (l:List Kt):Nat:=l.length+sumBy Kt.size l
def KtR (w:World) (x:Kt) (cs:List Value) (F:List Nat):Prop:=∃ kv:Value,cs=[.string x.name] ++ [kv] ++ [.int .i64 x.idx]∧Arr w (TyR w) x.args kv F∧x.name.size≤9223372036854775807
theorem KtR_form {w:World} {x:Kt} {cs:List Value} {F:List Nat} (h:KtR w x cs F):∃ A cap,cs=[.string x.name,.slice A x.args.length cap,.int .i64 x.idx]:=by
 obtain ⟨kv,rfl,ha,-⟩:=h
 obtain ⟨A,cap,rfl,-,-⟩:=ha.form
 exact ⟨A,cap,rfl⟩
theorem KtR_len {w:World} (x:Kt) (cs:List Value) (F:List Nat) (h:KtR w x cs F):cs.length=3:=by
 obtain ⟨A,cap,rfl⟩:=KtR_form h
 rfl
theorem KtR.mono {w w':World} (x:Kt) (cs:List Value) (F:List Nat) (hF:Kept F w w') (h:KtR w x cs F):KtR w' x cs F:=by
 obtain ⟨kv,e,ha,hs0⟩:=h
 exact ⟨_,e,ha.mono hF fun y _=>TyR.mono y,hs0⟩
theorem KtR.below {w w':World} {B:Nat} {v:Kt} {cs:List Value} {F:List Nat} (h:KtR w v cs F) (hb:Below B w w') (hF:Under B F):KtR w' v cs F:=KtR.mono v cs F (.of_below hb hF) h
theorem ArrKt.mono {w w':World} {vs:List Kt} {x:Value} {F:List Nat} (h:Arr w (KtR w) vs x F) (hF:Kept F w w'):Arr w' (KtR w') vs x F:=h.mono hF fun v _=>KtR.mono v
theorem ArrKt.below {w w':World} {B:Nat} {vs:List Kt} {x:Value} {F:List Nat} (h:Arr w (KtR w) vs x F) (hb:Below B w w') (hF:Under B F):Arr w' (KtR w') vs x F:=ArrKt.mono h (.of_below hb hF)
@[ext] structure Dt where
 name:ByteArray
 ctors:List Kt
def Dt.size (x:Dt):Nat:=x.name.size+Kt.sizes x.ctors
def Dt.sizes (l:List Dt):Nat:=l.length+sumBy Dt.size l
def DtR (w:World) (x:Dt) (cs:List Value) (F:List Nat):Prop:=∃ kv:Value,cs=[.string x.name] ++ [kv]∧Arr w (KtR w) x.ctors kv F∧x.name.size≤9223372036854775807
theorem DtR_form {w:World} {x:Dt} {cs:List Value} {F:List Nat} (h:DtR w x cs F):∃ A cap,cs=[.string x.name,.slice A x.ctors.length cap]:=by
 obtain ⟨kv,rfl,ha,-⟩:=h
 obtain ⟨A,cap,rfl,-,-⟩:=ha.form
 exact ⟨A,cap,rfl⟩
theorem DtR_len {w:World} (x:Dt) (cs:List Value) (F:List Nat) (h:DtR w x cs F):cs.length=2:=by
 obtain ⟨A,cap,rfl⟩:=DtR_form h
 rfl
theorem DtR.mono {w w':World} (x:Dt) (cs:List Value) (F:List Nat) (hF:Kept F w w') (h:DtR w x cs F):DtR w' x cs F:=by
 obtain ⟨kv,e,ha,hs0⟩:=h
 exact ⟨_,e,ha.mono hF fun y _=>KtR.mono y,hs0⟩
theorem DtR.below {w w':World} {B:Nat} {v:Dt} {cs:List Value} {F:List Nat} (h:DtR w v cs F) (hb:Below B w w') (hF:Under B F):DtR w' v cs F:=DtR.mono v cs F (.of_below hb hF) h
theorem ArrDt.mono {w w':World} {vs:List Dt} {x:Value} {F:List Nat} (h:Arr w (DtR w) vs x F) (hF:Kept F w w'):Arr w' (DtR w') vs x F:=h.mono hF fun v _=>DtR.mono v
theorem ArrDt.below {w w':World} {B:Nat} {vs:List Dt} {x:Value} {F:List Nat} (h:Arr w (DtR w) vs x F) (hb:Below B w w') (hF:Under B F):Arr w' (DtR w') vs x F:=ArrDt.mono h (.of_below hb hF)
theorem Arr.ptr {α:Type} {w:World} {R:α→List Value→List Nat→Prop} {xs:List α} {A:Option Addr} {n cap:Nat} {F:List Nat} (h:Arr w R xs (.slice A n cap) F) (h0:0<xs.length):∃ b off,A=some ⟨b,off,none⟩:=by
 obtain ⟨A',cap',hv,h1,h2,h3⟩:=h
 cases hv
 rcases h3 with ⟨rfl,-⟩ | ⟨b,off,cs,G,rfl,-⟩
 ·simp at h0
 ·exact ⟨b,off,rfl⟩
section
variable {w0 w : World} {b off n cap : Nat} {F : List Nat}
theorem ArrTy.at {xs:List Ty} (h:Arr w0 (TyR w0) xs (.slice (some ⟨b,off,none⟩) n cap) F) (hF:Under w0 F) (hB:Below w0 w0 w) (i:Nat) (hi:i<xs.length) :
  b<w.heap.size∧w.cell? ⟨b,off+i*2,none⟩=xs[i].d∧w.cell? ⟨b,off+i*2+1,none⟩=xs[i].i:=by
 obtain ⟨b',off',cs,G,e,hb,hcs,hv,hG⟩:=h.get TyR_len hi
 cases e
 have hbl:=hF _ hb
 have hc:=hcs.same (hB.block _ hbl)
 obtain rfl:=TyR_form hv
 exact ⟨zz9 hbl hB.size,hc 0 _ rfl,hc 1 _ rfl⟩
theorem ArrKt.at {xs:List Kt} (h:Arr w0 (KtR w0) xs (.slice (some ⟨b,off,none⟩) n cap) F) (hF:Under w0 F) (hB:Below w0 w0 w) (i:Nat) (hi:i<xs.length) :
  ∃ A1 cap1 G,b<w.heap.size∧w.cell? ⟨b,off+i*3,none⟩=some (.string xs[i].name)∧w.cell? ⟨b,off+i*3+1,none⟩=some (.slice A1 xs[i].args.length cap1)∧w.cell? ⟨b,off+i*3+2,none⟩=xs[i].idx ∧
   Hid (Arr w0 (TyR w0) xs[i].args (.slice A1 xs[i].args.length cap1) G)∧Hid (Under w0 G)∧xs[i].name.size≤9223372036854775807∧xs[i].args.length≤cap1∧cap1≤9223372036854775807:=by
 obtain ⟨b',off',cs,G,e,hb,hcs,hv,hG⟩:=h.get KtR_len hi
 cases e
 have hbl:=hF _ hb
 have hc:=hcs.same (hB.block _ hbl)
 obtain ⟨kv,rfl,ha,hs⟩:=hv
 obtain ⟨A1,cap1,rfl,h1,h2⟩:=ha.form
 exact ⟨A1,cap1,G,zz9 hbl hB.size,hc 0 _ rfl,hc 1 _ rfl,hc 2 _ rfl,ha,hF.sub hG,hs,h1,h2⟩
theorem ArrKt.rep {xs:List Kt} (h:Arr w0 (KtR w0) xs (.slice (some ⟨b,off,none⟩) n cap) F) (hF:Under w0 F) (hB:Below w0 w0 w) (i:Nat) (hi:i<xs.length) :
  ∃ A1 cap1 G,b<w.heap.size∧w.cell? ⟨b,off+i*3,none⟩=some (.string xs[i].name)∧w.cell? ⟨b,off+i*3+1,none⟩=some (.slice A1 xs[i].args.length cap1)∧w.cell? ⟨b,off+i*3+2,none⟩=xs[i].idx ∧
   Hid (KtR w0 xs[i] [.string xs[i].name,.slice A1 xs[i].args.length cap1,xs[i].idx] G)∧Hid (Under w0 G)∧xs[i].name.size≤9223372036854775807∧xs[i].args.length≤cap1∧cap1≤9223372036854775807:=by
 obtain ⟨b',off',cs,G,e,hb,hcs,hv,hG⟩:=h.get KtR_len hi
 cases e
 have hbl:=hF _ hb
 have hc:=hcs.same (hB.block _ hbl)
 obtain ⟨kv,rfl,ha,hs⟩:=id hv
 obtain ⟨A1,cap1,rfl,h1,h2⟩:=ha.form
 exact ⟨A1,cap1,G,zz9 hbl hB.size,hc 0 _ rfl,hc 1 _ rfl,hc 2 _ rfl,hv,hF.sub hG,hs,h1,h2⟩
theorem ArrDt.at {xs:List Dt} (h:Arr w0 (DtR w0) xs (.slice (some ⟨b,off,none⟩) n cap) F) (hF:Under w0 F) (hB:Below w0 w0 w) (i:Nat) (hi:i<xs.length) :
  ∃ A1 cap1 G,b<w.heap.size∧w.cell? ⟨b,off+i*2,none⟩=some (.string xs[i].name)∧w.cell? ⟨b,off+i*2+1,none⟩=some (.slice A1 xs[i].ctors.length cap1) ∧
   Hid (Arr w0 (KtR w0) xs[i].ctors (.slice A1 xs[i].ctors.length cap1) G)∧Hid (Under w0 G)∧xs[i].name.size≤9223372036854775807∧xs[i].ctors.length≤cap1∧cap1≤9223372036854775807:=by
 obtain ⟨b',off',cs,G,e,hb,hcs,hv,hG⟩:=h.get DtR_len hi
 cases e
 have hbl:=hF _ hb
 have hc:=hcs.same (hB.block _ hbl)
 obtain ⟨kv,rfl,ha,hs⟩:=hv
 obtain ⟨A1,cap1,rfl,h1,h2⟩:=ha.form
 exact ⟨A1,cap1,G,zz9 hbl hB.size,hc 0 _ rfl,hc 1 _ rfl,ha,hF.sub hG,hs,h1,h2⟩
end
def withinB (n lo hi:Int):Bool:=decide (lo≤n) && decide (n≤hi)
theorem withinB_lo {n lo hi:Int} (h:decide (lo≤n)=false):withinB n lo hi=false:=by unfold withinB;rw [h];rfl
theorem withinB_hi {n lo hi:Int} (h:decide (lo≤n)=true):withinB n lo hi=decide (n≤hi):=by unfold withinB;rw [h];rfl
theorem withinB_iff (n lo hi:Int):withinB n lo hi=true↔lo≤n∧n≤hi:=by unfold withinB;simp
set_option maxHeartbeats 400000 in
theorem zAS (n lo hi:Int) (w:World):Calls Tryz.prog 48 #[.int .i64 n,.int .i64 lo,.int .i64 hi] w fun e w'=>e=.returned (.bool (withinB n lo hi))∧w=w':=by
 cases h:decide (lo≤n) with
 |false =>
  have hf:=jj (withinB_lo (hi:=hi) h)
  go_enter Tryz.func48,Tryz.ntmps48
  go_wp2
  go_ret
  exact ⟨zA0 hf.out.symm,rfl⟩
 |true =>
  have hf:=jj (withinB_hi (hi:=hi) h)
  go_enter Tryz.func48,Tryz.ntmps48
  go_wp2
  go_ret
  exact ⟨zA0 hf.out.symm,rfl⟩
def argOkB (n:Int) (t:Ty):Bool:=if t.d = -1 then t.i==0 else withinB t.d 0 (n-1) && withinB t.i (-1) 3
set_option maxHeartbeats 800000 in
theorem spec_l1Arg (n:Int) (t:Ty) (w:World):Calls Tryz.prog 109 #[.int .i64 n,.agg #[t.d,t.i]] w fun e w'=>e=.returned (.bool (argOkB n t))∧Below w w w':=by
 by_cases h:t.d = -1
 ·have h0:(t.d == -1)=true:=by simpa using h
  have hf:Hid (argOkB n t=(t.i==0)):=by unfold Hid argOkB;rw [if_pos h]
  clear h
  go_enter Tryz.func109,Tryz.ntmps109
  go_wp2
  go_ret
  exact ⟨zA0 hf.out.symm,(zy2 _ _).alloc (zz8 _) _⟩
 ·have h0:(t.d == -1)=false:=by simpa using h
  have hf0:argOkB n t=(withinB t.d 0 (n-1) && withinB t.i (-1) 3):=by unfold argOkB;rw [if_neg h]
  clear h
  have d1:decide (0≤t.d)=decide (t.d≥0):=rfl
  cases h1:decide (0≤t.d) with
  |false =>
   have hf:Hid (argOkB n t=false):=by rw [hf0,withinB_lo h1];rfl
   clear hf0 d1
   go_enter Tryz.func109,Tryz.ntmps109
   go_wp2
   go_ret
   exact ⟨zA0 hf.out.symm,(zy2 _ _).alloc (zz8 _) _⟩
  |true =>
   cases h2:decide (t.d<n) with
   |false =>
    have hf:Hid (argOkB n t=false):=by
     rw [hf0,withinB_hi h1]
     have:decide (t.d≤n-1)=false:=by simp at h2 ⊢;omega
     rw [this];rfl
    clear hf0 d1
    go_enter Tryz.func109,Tryz.ntmps109
    go_wp2
    go_ret
    exact ⟨zA0 hf.out.symm,(zy2 _ _).alloc (zz8 _) _⟩
   |true =>
    have hf1:argOkB n t=withinB t.i (-1) 3:=by
     rw [hf0,withinB_hi h1]
     have:decide (t.d≤n-1)=true:=by simp at h2 ⊢;omega
     rw [this];rfl
    clear hf0 d1
    cases h3:decide (-1≤t.i) with
    |false =>
     have hf:Hid (argOkB n t=false):=by rw [hf1,withinB_lo h3];rfl
     clear hf1
     go_enter Tryz.func109,Tryz.ntmps109
     go_wp2
     go_ret
     exact ⟨zA0 hf.out.symm,(zy2 _ _).alloc (zz8 _) _⟩
    |true =>
     have hf:Hid (argOkB n t=decide (t.i≤3)):=by rw [hf1,withinB_hi h3];rfl
     clear hf1
     go_enter Tryz.func109,Tryz.ntmps109
     go_wp2
     go_ret
     exact ⟨zA0 hf.out.symm,(zy2 _ _).alloc (zz8 _) _⟩
set_option maxHeartbeats 800000 in
theorem impl_argOk (A:Option Addr) (n cap:Nat) (t:Ty) (w:World) (hn:n≤9223372036854775807):Calls Tryz.prog 106 #[.slice A n cap,.agg #[t.d,t.i]] w fun e w'=>e=.returned (.bool (argOkB n t))∧Below w w w':=by
 cases h0:(t.d == -1) with
 |true =>
  cases h1:(t.i==0) with
  |true =>
   have hf:Hid (argOkB n t=true):=by unfold Hid argOkB;rw [if_pos (by simpa using h0),h1]
   go_enter Tryz.func106,Tryz.ntmps106
   go_wp2
   go_ret
   exact ⟨zA0 hf.out.symm,(zy2 _ _).alloc (zz8 _) _⟩
  |false =>
   have hf:Hid (argOkB n t=false):=by unfold Hid argOkB;rw [if_pos (by simpa using h0),h1]
   have hw:Hid (withinB t.d 0 ((n:Int)-1)=false):=by
    have:t.d = -1:=by simpa using h0
    exact withinB_lo (by rw [this];rfl)
   go_enter Tryz.func106,Tryz.ntmps106
   go_wp2_with fail
   refine (zAS t.d 0 ((n:Int)-1) _).mono ?_
   rintro e w' ⟨rfl,rfl⟩
   rw [hw.out]
   go_wp2
   go_ret
   exact ⟨zA0 hf.out.symm,(zy2 _ _).alloc (zz8 _) _⟩
 |false =>
  have hf0:argOkB n t=(withinB t.d 0 ((n:Int)-1) && withinB t.i (-1) 3):=by unfold argOkB;rw [if_neg (by simpa using h0)]
  cases hw:withinB t.d 0 ((n:Int)-1) with
  |false =>
   have hf:Hid (argOkB n t=false):=by rw [hf0,hw];rfl
   have HW:=jj hw
   clear hf0 hw
   go_enter Tryz.func106,Tryz.ntmps106
   go_wp2_with fail
   refine (zAS t.d 0 ((n:Int)-1) _).mono ?_
   rintro e w' ⟨rfl,rfl⟩
   rw [HW.out]
   go_wp2
   go_ret
   exact ⟨zA0 hf.out.symm,(zy2 _ _).alloc (zz8 _) _⟩
  |true =>
   have hf:Hid (argOkB n t=withinB t.i (-1) 3):=by rw [hf0,hw];rfl
   have HW:=jj hw
   clear hf0 hw
   go_enter Tryz.func106,Tryz.ntmps106
   go_wp2_with fail
   refine (zAS t.d 0 ((n:Int)-1) _).mono ?_
   rintro e w' ⟨rfl,rfl⟩
   rw [HW.out]
   go_wp2_with fail
   refine (zAS t.i (-1) 3 _).mono ?_
   rintro e w' ⟨rfl,rfl⟩
   generalize hbb:withinB t.i (-1) 3=bb
   have HBB:=jj hbb
   clear hbb
   go_wp2
   go_ret
   exact ⟨zA0 (hf.out.trans HBB.out).symm,(zy2 _ _).alloc (zz8 _) _⟩
theorem bytes_cons (s:ByteArray) (h:0<s.size):s.data.toList=s[0] :: s.data.toList.drop 1:=by
 rw [show s[0]=s.data.toList[0]'(by simpa using h) from rfl,List.getElem_cons_drop];rfl
theorem zAH (s:ByteArray) (h:s.size=0∨5<s.size):nameOk s.data.toList=false:=by
 rcases h with h | h
 ·rw [show s.data.toList=[] from List.eq_nil_of_length_eq_zero (by simpa using h)];rfl
 ·rw [bytes_cons s (by omega),nameOk_cons]
  have:decide ((s.data.toList.drop 1).length≤4)=false:=decide_eq_false (by simp;omega)
  rw [this];rfl
theorem zAO (s:ByteArray) (h0:0<s.size) (h:(s[0].toNat:Int)<65∨(90:Int)<(s[0].toNat:Int)):nameOk s.data.toList=false:=by
 rw [bytes_cons s h0,nameOk_cons]
 have h2:(decide (65≤s[0].toNat) && decide (s[0].toNat≤90))=false:=by simp;omega
 rw [h2];simp
theorem lower_false_at (l:List UInt8) (k:Nat) (hk:k<l.length) (h:(l[k].toNat:Int)<97∨(122:Int)<(l[k].toNat:Int)):lowerAll l=false:=by
 have:l[k]∈l:=List.getElem_mem hk
 unfold lowerAll
 rw [List.all_eq_false]
 refine ⟨_,this,?_⟩
 simp [UInt8.le_iff_toNat_le]
 omega
theorem nameOk_false_at (s:ByteArray) (k:Nat) (h1:1≤k) (hk:k<s.size) (h:(s[k].toNat:Int)<97∨(122:Int)<(s[k].toNat:Int)):nameOk s.data.toList=false:=by
 rw [bytes_cons s (by omega),nameOk_cons]
 have:lowerAll (s.data.toList.drop 1)=false:=lower_false_at _ (k-1) (by simp;omega) (by
  have e:(s.data.toList.drop 1)[k-1]'(by simp;omega)=s[k]:=by
   rw [List.getElem_drop]
   show s.data.toList[1+(k-1)]'_=s.data.toList[k]'_
   congr 1;omega
  rw [e];exact h)
 rw [this];simp
theorem nameOk_true (s:ByteArray) (h0:0<s.size) (h5:s.size≤5) (ha:65≤(s[0].toNat:Int)) (hz:(s[0].toNat:Int)≤90) (h:∀ k (hk:k<s.size),1≤k→97≤(s[k].toNat:Int)∧(s[k].toNat:Int)≤122):nameOk s.data.toList=true:=by
 rw [bytes_cons s h0,nameOk_cons]
 have hl:lowerAll (s.data.toList.drop 1)=true:=by
  unfold lowerAll
  rw [List.all_eq_true]
  intro c hc
  obtain ⟨k,hk,rfl⟩:=List.getElem_of_mem hc
  have hk':1+k<s.size:=by simp at hk;omega
  have:=h (1+k) hk' (by omega)
  have e:(s.data.toList.drop 1)[k]=s[1+k]:=by rw [List.getElem_drop];rfl
  rw [e]
  simp [UInt8.le_iff_toNat_le]
  omega
 rw [hl,decide_eq_true (show (s.data.toList.drop 1).length≤4 by simp;omega),decide_eq_true (show 65≤s[0].toNat by omega),decide_eq_true (show s[0].toNat≤90 by omega)];rfl
set_option maxHeartbeats 1000000 in
theorem spec_NameValid (s:ByteArray) (w:World) (hs:s.size≤maxLen) :
  Calls Tryz.prog 108 #[.string s] w fun e w'=>e=.returned (.bool (nameOk s.data.toList))∧w=w':=by
 unfold maxLen at hs
 by_cases h0:s.size=0
 ·have hf:=jj (zAH s (.inl h0))
  have e0:((s.size:Int)==0)=true:=beq_iff_eq.2 (by omega)
  have e1:(s.size:Int)<1:=by omega
  clear h0
  go_enter Tryz.func108,Tryz.ntmps108
  go_wp2
  go_ret
  exact ⟨zA0 hf.out.symm,rfl⟩
 ·have e0:((s.size:Int)==0)=false:=beq_eq_false_iff_ne.2 (by omega)
  have e1:1≤(s.size:Int):=by omega
  by_cases h5:5<s.size
  ·have hf:=jj (zAH s (.inr h5))
   have e5:(5:Int)<(s.size:Int):=by omega
   go_enter Tryz.func108,Tryz.ntmps108
   go_wp2
   go_ret
   exact ⟨zA0 hf.out.symm,rfl⟩
  ·have p0:0<s.size:=by omega
   have p0':(0:Int)<(s.size:Int):=by omega
   have e5:(s.size:Int)≤5:=by omega
   by_cases ha:(s[0].toNat:Int)<65
   ·have hf:=jj (zAO s p0 (.inl ha))
    go_enter Tryz.func108,Tryz.ntmps108
    go_wp2
    go_ret
    exact ⟨zA0 hf.out.symm,rfl⟩
   ·have ha1:65≤(s[0].toNat:Int):=by omega
    clear ha
    by_cases ha:(90:Int)<(s[0].toNat:Int)
    ·have hf:=jj (zAO s p0 (.inr ha))
     have hd:decide ((s[0].toNat:Int)≤90)=false:=decide_eq_false (by omega)
     go_enter Tryz.func108,Tryz.ntmps108
     go_wp2
     go_ret
     exact ⟨zA0 hf.out.symm,rfl⟩
    ·have ha2:(s[0].toNat:Int)≤90:=by omega
     clear ha
     go_enter Tryz.func108,Tryz.ntmps108
     go_wp2
     go_loop [3] (fun i=>∃ k:Nat,1≤k∧k≤s.size∧i=.int .i64 k∧Hid (∀ j (hj:j<s.size),1≤j→j<k→97≤(s[j].toNat:Int)∧(s[j].toNat:Int)≤122)) (fun i=>s.size-(intOf i).toNat)
     case atStart=>exact ⟨1,zz8 _,by omega,rfl,fun j _ _ _=>by omega⟩
     case round =>
      obtain ⟨k,hk1,hk,rfl,HA⟩:=hrel
      by_cases hlt:k<s.size
      ·by_cases hc:(s[k].toNat:Int)<97
       ·have hf:=jj (nameOk_false_at s k hk1 hlt (.inl hc))
        go_wp2
        go_ret
        exact ⟨zA0 hf.out.symm,rfl⟩
       ·have hc1:97≤(s[k].toNat:Int):=by omega
        clear hc
        by_cases hc:(122:Int)<(s[k].toNat:Int)
        ·have hf:=jj (nameOk_false_at s k hk1 hlt (.inr hc))
         go_wp2
         go_ret
         exact ⟨zA0 hf.out.symm,rfl⟩
        ·have hc2:(s[k].toNat:Int)≤122:=by omega
         clear hc
         go_wp2
         go_round
         case rel=>exact ⟨k+1,by omega,by omega,by go_num,fun j hj h1 h2=>by
          rcases Nat.lt_or_ge j k with h | h
          ·exact HA.out j hj h1 h
          ·obtain rfl:j=k:=by omega
           exact ⟨hc1,hc2⟩⟩
         case measure=>simp [intOf];omega
      ·have hf:=jj (nameOk_true s p0 (by omega) ha1 ha2 (fun j hj h1=>HA.out j hj h1 (by omega)))
       go_wp2
       go_ret
       exact ⟨zA0 hf.out.symm,rfl⟩
set_option maxHeartbeats 1000000 in
theorem impl_NameValid (s:ByteArray) (w:World) (hs:s.size≤maxLen) :
  Calls Tryz.prog 103 #[.string s] w fun e w'=>e=.returned (.bool (nameOk s.data.toList))∧w=w':=by
 unfold maxLen at hs
 by_cases h0:s.size=0
 ·have hf:=jj (zAH s (.inl h0))
  have e0:((s.size:Int)==0)=true:=beq_iff_eq.2 (by omega)
  have e1:(s.size:Int)<1:=by omega
  clear h0
  go_enter Tryz.func103,Tryz.ntmps103
  go_wp2
  go_ret
  exact ⟨zA0 hf.out.symm,rfl⟩
 ·have e0:((s.size:Int)==0)=false:=beq_eq_false_iff_ne.2 (by omega)
  have e1:1≤(s.size:Int):=by omega
  by_cases h5:5<s.size
  ·have hf:=jj (zAH s (.inr h5))
   have e5:(5:Int)<(s.size:Int):=by omega
   go_enter Tryz.func103,Tryz.ntmps103
   go_wp2
   go_ret
   exact ⟨zA0 hf.out.symm,rfl⟩
  ·have p0:0<s.size:=by omega
   have p0':(0:Int)<(s.size:Int):=by omega
   have e5:(s.size:Int)≤5:=by omega
   by_cases ha:(s[0].toNat:Int)<65
   ·have hf:=jj (zAO s p0 (.inl ha))
    go_enter Tryz.func103,Tryz.ntmps103
    go_wp2
    go_ret
    exact ⟨zA0 hf.out.symm,rfl⟩
   ·have ha1:65≤(s[0].toNat:Int):=by omega
    clear ha
    by_cases ha:(90:Int)<(s[0].toNat:Int)
    ·have hf:=jj (zAO s p0 (.inr ha))
     have hd:decide ((s[0].toNat:Int)≤90)=false:=decide_eq_false (by omega)
     go_enter Tryz.func103,Tryz.ntmps103
     go_wp2
     go_ret
     exact ⟨zA0 hf.out.symm,rfl⟩
    ·have ha2:(s[0].toNat:Int)≤90:=by omega
     clear ha
     go_enter Tryz.func103,Tryz.ntmps103
     go_wp2
     go_loop [3] (fun i=>∃ k:Nat,1≤k∧k≤s.size∧i=.int .i64 k∧Hid (∀ j (hj:j<s.size),1≤j→j<k→97≤(s[j].toNat:Int)∧(s[j].toNat:Int)≤122)) (fun i=>s.size-(intOf i).toNat)
     case atStart=>exact ⟨1,zz8 _,by omega,rfl,fun j _ _ _=>by omega⟩
     case round =>
      obtain ⟨k,hk1,hk,rfl,HA⟩:=hrel
      by_cases hlt:k<s.size
      ·by_cases hc:(s[k].toNat:Int)<97
       ·have hf:=jj (nameOk_false_at s k hk1 hlt (.inl hc))
        go_wp2
        go_ret
        exact ⟨zA0 hf.out.symm,rfl⟩
       ·have hc1:97≤(s[k].toNat:Int):=by omega
        clear hc
        by_cases hc:(122:Int)<(s[k].toNat:Int)
        ·have hf:=jj (nameOk_false_at s k hk1 hlt (.inr hc))
         go_wp2
         go_ret
         exact ⟨zA0 hf.out.symm,rfl⟩
        ·have hc2:(s[k].toNat:Int)≤122:=by omega
         clear hc
         go_wp2
         go_round
         case rel=>exact ⟨k+1,by omega,by omega,by go_num,fun j hj h1 h2=>by
          rcases Nat.lt_or_ge j k with h | h
          ·exact HA.out j hj h1 h
          ·obtain rfl:j=k:=by omega
           exact ⟨hc1,hc2⟩⟩
         case measure=>simp [intOf];omega
      ·have hf:=jj (nameOk_true s p0 (by omega) ha1 ha2 (fun j hj h1=>HA.out j hj h1 (by omega)))
       go_wp2
       go_ret
       exact ⟨zA0 hf.out.symm,rfl⟩
def ctorOkB (n:Int) (c:Kt):Bool:=nameOk c.name.data.toList && (decide ((c.args.length:Int)≤3) && (withinB c.idx 0 3 && c.args.all (argOkB n)))
theorem all_drop {α:Type} (p:α→Bool) (l:List α) (k:Nat) (h:k<l.length):(l.drop k).all p=(p l[k] && (l.drop (k+1)).all p):=by
 rw [List.drop_eq_getElem_cons h];rfl
theorem spec_l1Ctor (n:Int) (c:Kt) (w:World) (cs:List Value) (F:List Nat) (hv:KtR w c cs F) (hF:Under w F) :
  Calls Tryz.prog 51 #[.int .i64 n,.agg cs.toArray] w fun e w'=>e=.returned (.bool (ctorOkB n c))∧Below w w w':=by
 obtain ⟨kv,rfl,ha,hs⟩:=hv
 have HX:=jj ha
 obtain ⟨A,cap,rfl,hc1,hc2⟩:=ha.form
 clear ha
 have HF:=jj hF
 have HS:=jj hs
 clear hF hs
 go_enter Tryz.func51,Tryz.ntmps51
 go_wp2_with fail
 obtain ⟨W2,hW2⟩:∃ W2,W2=w.alloc (.cells #[.string c.name,.slice A c.args.length cap,c.idx] 67):=⟨_,rfl⟩
 have hB2:Below w w W2:=by rw [hW2];exact (zy2 _ _).alloc (zz8 _) _
 have k1:Blk W2 w 67 #[.string c.name,.slice A c.args.length cap,c.idx]:=by rw [hW2];exact Blk.new _ _ _
 rw [←hW2]
 clear hW2
 have x1:W2.cell? ⟨w,1,none⟩=some (.slice A c.args.length cap):=(k1.cell 1).trans (by simp)
 have x2:W2.cell? ⟨w,2,none⟩=c.idx:=(k1.cell 2).trans (by simp)
 have hlt0:=k1.lt
 have K1:=jj k1
 clear k1
 refine (spec_NameValid c.name W2 (by have:=HS.out;unfold maxLen;omega)).mono ?_
 rintro e w' ⟨rfl,rfl⟩
 cases hn:nameOk c.name.data.toList with
 |false =>
  have hf:Hid (ctorOkB n c=false):=by unfold Hid ctorOkB;rw [hn];rfl
  clear hn
  go_wp2
  go_ret
  exact ⟨zA0 hf.out.symm,hB2⟩
 |true =>
  have h0:ctorOkB n c=(decide ((c.args.length:Int)≤3) && (withinB c.idx 0 3 && c.args.all (argOkB n))):=by unfold ctorOkB;rw [hn,Bool.true_and]
  clear hn
  by_cases hl:(c.args.length:Int)≤3
  ·have t1:decide ((c.args.length:Int)>3)=false:=by simp;omega
   have h1:ctorOkB n c=(withinB c.idx 0 3 && c.args.all (argOkB n)):=by rw [h0,decide_eq_true hl,Bool.true_and]
   clear h0 hl
   by_cases hi:c.idx<0
   ·have t2:decide (c.idx<0)=true:=by simpa using hi
    have hf:Hid (ctorOkB n c=false):=by rw [h1,withinB_lo (by simp;omega)];rfl
    clear h1 hi
    go_wp2
    go_ret
    exact ⟨zA0 hf.out.symm,hB2⟩
   ·have t2:decide (c.idx<0)=false:=by simpa using hi
    by_cases hj:c.idx>3
    ·have t3:decide (c.idx>3)=true:=by simpa using hj
     have hf:Hid (ctorOkB n c=false):=by rw [h1,withinB_hi (by simp;omega),show decide (c.idx≤3)=false from by simp;omega];rfl
     clear h1 hi hj
     go_wp2
     go_ret
     exact ⟨zA0 hf.out.symm,hB2⟩
    ·have t3:decide (c.idx>3)=false:=by simpa using hj
     have h2:ctorOkB n c=c.args.all (argOkB n):=by rw [h1,(withinB_iff _ _ _).2 ⟨by omega,by omega⟩,Bool.true_and]
     have HOk:=jj h2
     clear h1 hi hj h2
     go_wp2
     go_loopw [5] (fun i wr=>∃ k:Nat,k≤c.args.length∧i=.int .i64 k∧Hid (c.args.all (argOkB n)=(c.args.drop k).all (argOkB n))∧Below w w wr∧Hid (Blk wr w 67 #[.string c.name,.slice A c.args.length cap,c.idx])) (fun i _=>c.args.length-(intOf i).toNat)
     case atStart=>exact ⟨0,Nat.zero_le _,rfl,rfl,hB2,K1⟩
     case round =>
      obtain ⟨k,hk,rfl,HT,hB,KB⟩:=hrel
      clear x1 x2 hlt0
      have x1:wr.cell? ⟨w,1,none⟩=some (.slice A c.args.length cap):=(KB.out.cell 1).trans (by simp)
      have hlt0:=KB.out.lt
      by_cases hlt:k<c.args.length
      ·have hi0:(0:Int)≤(k:Int):=by omega
       have hi1:(k:Int)<(c.args.length:Int):=by omega
       obtain ⟨b,off,cs,G,rfl,hb,hcs,hv,-⟩:=HX.out.get TyR_len hlt
       have hbl:=HF.out b hb
       have hcs:=hcs.same (hB.block b hbl)
       obtain rfl:=TyR_form hv
       have c0:=hcs 0 _ rfl
       have c1:=hcs 1 _ rfl
       simp only [Nat.add_zero] at c0
       clear hcs hv hb
       have hbw:=zz9 hbl hB.size
       have hd:=all_drop (argOkB n) c.args k hlt
       go_wp2_with fail
       refine (spec_l1Arg n c.args[k] wr).mono ?_
       rintro e w' ⟨rfl,hB'⟩
       have hB3:=hB.trans (hB'.mono hB.size)
       have KB3:Hid (Blk w' w.heap.size 67 #[.string c.name,.slice (some ⟨b,off,none⟩) c.args.length cap,c.idx]):=KB.out.same (hB'.block _ KB.out.lt)
       cases hq:argOkB n c.args[k] with
       |false =>
        have hf:Hid (ctorOkB n c=false):=by rw [hq,Bool.false_and] at hd;exact HOk.out.trans (HT.out.trans hd)
        clear hq hd
        go_wp2
        go_ret
        exact ⟨zA0 hf.out.symm,hB3⟩
       |true =>
        have hT2:Hid (c.args.all (argOkB n)=(c.args.drop (k+1)).all (argOkB n)):=by rw [hq,Bool.true_and] at hd;exact HT.out.trans hd
        clear hq hd
        go_wp2
        go_roundw
        case rel=>exact ⟨k+1,by omega,by go_num,hT2,hB3,KB3⟩
        case measure=>simp [intOf];omega
      ·have hT:=HT.out
       rw [List.drop_of_length_le (by omega)] at hT
       have hf:Hid (ctorOkB n c=true):=HOk.out.trans hT
       clear hT
       go_wp2
       go_ret
       exact ⟨zA0 hf.out.symm,hB⟩
  ·have t1:decide ((c.args.length:Int)>3)=true:=by simp;omega
   have hf:Hid (ctorOkB n c=false):=by rw [h0,decide_eq_false hl];rfl
   clear h0 hl
   go_wp2
   go_ret
   exact ⟨zA0 hf.out.symm,hB2⟩
def bigB (c:UInt8):Bool:=decide (65≤(c.toNat:Int)) && decide ((c.toNat:Int)≤90)
def dnameOk:List UInt8→Bool
 |[c]=>bigB c && !(c==73)
 |_=>false
set_option maxHeartbeats 400000 in
theorem spec_l1Big (c:UInt8) (w:World):Calls Tryz.prog 107 #[.int .u8 (c.toNat:Int)] w fun e w'=>e=.returned (.bool (bigB c))∧w=w':=by
 cases h:decide (65≤(c.toNat:Int)) with
 |false =>
  have hf:Hid (bigB c=false):=by unfold Hid bigB;rw [h];rfl
  go_enter Tryz.func107,Tryz.ntmps107
  go_wp2
  go_ret
  exact ⟨zA0 hf.out.symm,rfl⟩
 |true =>
  have hf:Hid (bigB c=decide ((c.toNat:Int)≤90)):=by unfold Hid bigB;rw [h];rfl
  go_enter Tryz.func107,Tryz.ntmps107
  go_wp2
  go_ret
  exact ⟨zA0 hf.out.symm,rfl⟩
theorem one_byte (s:ByteArray) (h:s.size=1):s.data.toList=[s[0]]:=by
 rw [bytes_cons s (by omega)]
 congr 1
 exact List.eq_nil_of_length_eq_zero (by simp;omega)
set_option maxHeartbeats 400000 in
theorem spec_l1Data (s:ByteArray) (w:World) (hs:s.size≤maxLen):Calls Tryz.prog 50 #[.string s] w fun e w'=>e=.returned (.bool (dnameOk s.data.toList))∧w=w':=by
 unfold maxLen at hs
 by_cases h:s.size=1
 ·have h1:=one_byte s h
  have h0:((s.size:Int)==1)=true:=beq_iff_eq.2 (by omega)
  have p0:0<s.size:=by omega
  have p0':(0:Int)<(s.size:Int):=by omega
  cases hb:bigB s[0] with
  |false =>
   have hf:Hid (dnameOk s.data.toList=false):=by
    rw [h1];show (bigB s[0] && !(s[0]==73))=false;rw [hb];rfl
   clear h1 h
   have HB:=jj hb
   clear hb
   go_enter Tryz.func50,Tryz.ntmps50
   go_wp2_with fail
   refine (spec_l1Big s[0] _).mono ?_
   rintro e w' ⟨rfl,rfl⟩
   rw [HB.out]
   go_wp2
   go_ret
   exact ⟨zA0 hf.out.symm,rfl⟩
  |true =>
   have hI:(s.toList==[73])=(s[0]==73):=by rw [ByteArray.toList_eq,h1];simp
   have hf:Hid (dnameOk s.data.toList=!(s.toList==[73])):=by
    rw [hI,h1];show (bigB s[0] && !(s[0]==73))=_;rw [hb];rfl
   clear h1 h hI
   have HB:=jj hb
   clear hb
   go_enter Tryz.func50,Tryz.ntmps50
   go_wp2_with fail
   refine (spec_l1Big s[0] _).mono ?_
   rintro e w' ⟨rfl,rfl⟩
   rw [HB.out]
   go_wp2
   go_ret
   exact ⟨zA0 hf.out.symm,rfl⟩
 ·have h0:((s.size:Int)==1)=false:=beq_eq_false_iff_ne.2 (by omega)
  have hf:Hid (dnameOk s.data.toList=false):=by
   have hl:s.data.toList.length≠1:=by simpa using h
   unfold Hid
   generalize s.data.toList=l at *
   match l,hl with
   |[],_=>rfl
   |[c],hl=>simp at hl
   |_ :: _ :: _,_=>rfl
  clear h
  go_enter Tryz.func50,Tryz.ntmps50
  go_wp2
  go_ret
  exact ⟨zA0 hf.out.symm,rfl⟩
def nameIn (l:List ByteArray) (s:ByteArray):Bool:=l.any fun x=>x.toList==s.toList
def ctorsGo (n:Int):List ByteArray→List Kt→Bool
 |_,[]=>true
 |met,c :: cs=>ctorOkB n c && (!nameIn met c.name && ctorsGo n (met ++ [c.name]) cs)
def ctorsSpec (n:Int) (b:Bool):List ByteArray→List Kt→Bool
 |_,[]=>true
 |met,c :: cs=>ctorOkB n c && (!(b || nameIn met c.name) && ctorsSpec n b (met ++ [c.name]) cs)
def worldGo (n:Int):List ByteArray→List ByteArray→List Dt→Bool
 |_,_,[]=>true
 |datas,met,d :: ds=>dnameOk d.name.data.toList && (!nameIn datas d.name && (withinB (d.ctors.length:Int) 1 4 && (ctorsGo n met d.ctors && worldGo n (datas ++ [d.name]) (met ++ d.ctors.map Kt.name) ds)))
def worldOk (xs:List Dt):Bool:=decide ((xs.length:Int)≤4) && worldGo xs.length [] [] xs
theorem ctorsSpec_false (n:Int):∀ (cs:List Kt) (met:List ByteArray),ctorsSpec n false met cs=ctorsGo n met cs
 |[],_=>rfl
 |c :: cs,met=>by rw [ctorsSpec,ctorsGo,ctorsSpec_false n cs,Bool.false_or]
theorem ctorsSpec_true (n:Int) (c:Kt) (cs:List Kt) (met:List ByteArray):ctorsSpec n true met (c :: cs)=false:=by
 rw [ctorsSpec,Bool.true_or,Bool.not_true,Bool.false_and,Bool.and_false]
theorem ctorsSpec_eq (n:Int) (b:Bool) (cs:List Kt) (met:List ByteArray) (h:cs≠[]):ctorsSpec n b met cs=(!b && ctorsGo n met cs):=by
 cases b with
 |false=>rw [ctorsSpec_false];rfl
 |true =>
  cases cs with
  |nil=>exact absurd rfl h
  |cons c cs=>rw [ctorsSpec_true];rfl
def typeOkB (n:Int) (t:Ty):Bool:=if t.d = -1 then t.i==0 else withinB t.d 0 (n-1) && withinB t.i 0 3
def typeValidB (xs:List Dt) (t:Ty):Bool:=worldOk xs && typeOkB xs.length t
theorem ctorsGo_all {n:Int}:∀ {cs:List Kt} {met:List ByteArray},ctorsGo n met cs=true→∀ c∈cs,ctorOkB n c=true
 |[],_,_,c,h=>by cases h
 |c :: cs,met,h,x,hx=>by
  simp only [ctorsGo,Bool.and_eq_true] at h
  rcases List.mem_cons.1 hx with rfl | hx
  ·exact h.1
  ·exact ctorsGo_all h.2.2 x hx
theorem worldGo_all {n:Int}:∀ {ds:List Dt} {datas met:List ByteArray},worldGo n datas met ds=true→∀ x∈ds,dnameOk x.name.data.toList=true∧(1≤x.ctors.length∧x.ctors.length≤4)∧∀ c∈x.ctors,ctorOkB n c=true
 |[],_,_,_,x,h=>by cases h
 |d :: ds,datas,met,h,x,hx=>by
  simp only [worldGo,Bool.and_eq_true] at h
  rcases List.mem_cons.1 hx with rfl | hx
  ·have:=(withinB_iff _ _ _).1 h.2.2.1
   exact ⟨h.1,⟨by omega,by omega⟩,ctorsGo_all h.2.2.2.1⟩
  ·exact worldGo_all h.2.2.2.2 x hx
structure KtOk (n:Nat) (c:Kt):Prop where
 name:nameOk c.name.data.toList=true
 args:c.args.length≤3
 lo:0≤c.idx
 hi:c.idx≤3
 all:∀ t∈c.args,argOkB n t=true
structure DtOk (n:Nat) (x:Dt):Prop where
 name:dnameOk x.name.data.toList=true
 lo:1≤x.ctors.length
 hi:x.ctors.length≤4
 all:∀ c∈x.ctors,KtOk n c
structure WorldOK (xs:List Dt):Prop where
 len:xs.length≤4
 all:∀ x∈xs,DtOk xs.length x
theorem ktOk {n:Nat} {c:Kt} (h:ctorOkB n c=true):KtOk n c:=by
 unfold ctorOkB at h
 simp only [Bool.and_eq_true,withinB_iff,decide_eq_true_eq,List.all_eq_true] at h
 exact ⟨h.1,by omega,h.2.2.1.1,h.2.2.1.2,h.2.2.2⟩
theorem worldOK {xs:List Dt} (h:worldOk xs=true):WorldOK xs:=by
 unfold worldOk at h
 simp only [Bool.and_eq_true,decide_eq_true_eq] at h
 exact ⟨by omega,fun x hx=>by
  obtain ⟨h1,h2,h3⟩:=worldGo_all h.2 x hx
  exact ⟨h1,h2.1,h2.2,fun c hc=>ktOk (h3 c hc)⟩⟩
theorem WorldOK.at {xs:List Dt} (h:WorldOK xs) {d:Nat} (hd:d<xs.length):DtOk xs.length xs[d]:=h.all _ (List.getElem_mem hd)
theorem WorldOK.ctor {xs:List Dt} (h:WorldOK xs) {d k:Nat} (hd:d<xs.length) (hk:k<xs[d].ctors.length):KtOk xs.length xs[d].ctors[k]:=(h.at hd).all _ (List.getElem_mem hk)
def InWorld (n:Nat) (t:Ty):Prop:=t.d = -1∨∃ d:Nat,t.d=(d:Int)∧d<n
theorem argOkB_in {n:Nat} {t:Ty} (h:argOkB n t=true):InWorld n t:=by
 unfold argOkB at h
 by_cases e:t.d = -1
 ·exact .inl e
 ·rw [if_neg e] at h
  simp [withinB] at h
  exact .inr ⟨t.d.toNat,by omega,by omega⟩
def bs (l:List UInt8):ByteArray:=⟨l.toArray⟩
theorem zAR (l:List UInt8):(bs l).size=l.length:=rfl
def cutGo (c:UInt8):List UInt8→List UInt8→List (List UInt8)
 |cur,[]=>[cur]
 |cur,x :: xs=>if x=c then cur :: cutGo c [] xs else cutGo c (cur ++ [x]) xs
def cutL (c:UInt8) (l:List UInt8):List (List UInt8):=cutGo c [] l
def findGo (s:List UInt8):Nat→List (List UInt8)→Int
 |_,[] => -2
 |i,x :: xs=>if x=s then (i:Int) else findGo s (i+1) xs
def findL (names:List (List UInt8)) (s:List UInt8):Int:=if s=[73] then -1 else findGo s 0 names
def idxOf (rest:List UInt8):Int:=if rest=[42] then -1 else match rest with
  |[x]=>if 48≤x.toNat∧x.toNat≤57 then (x.toNat:Int)-48 else 0
  |_=>0
def parseTy (names:List (List UInt8)):List UInt8→Ty
 |[]=>⟨-2,0⟩
 |c :: rest=>⟨findL names [c],idxOf rest⟩
def headL (l:List (List UInt8)):List UInt8:=match l with | []=>[] | x :: _=>x
def parseArgs (names:List (List UInt8)) (parts:List (List UInt8)):List Ty :=
 match parts with
 |_ :: p :: _=>if p=[] then [] else ((cutL 44 (p.take (p.length-1))).take 4).map (parseTy names)
 |_=>[]
def parseBody (names:List (List UInt8)) (idx:Int) (s:List UInt8):Kt:=⟨bs (headL (cutL 40 s)),parseArgs names (cutL 40 s),idx⟩
def hasIdx (s:List UInt8):Bool:=decide (2<s.length) && decide (s.getD (s.length-2) 0=58)
def parseKt (names:List (List UInt8)) (s:List UInt8):Kt :=
 if hasIdx s=true then parseBody names (((s.getD (s.length-1) 0).toNat:Int)-48) (s.take (s.length-2)) else parseBody names 0 s
def parseDt (names:List (List UInt8)) (name:List UInt8) (rest:List UInt8):Dt:=⟨bs name,((cutL 124 rest).take 5).map (parseKt names)⟩
def splitGo:List (List UInt8)→Option (List (List UInt8×List UInt8))
 |[]=>some []
 |l :: ls=>match cutL 61 l with
  |[a,b]=>match splitGo ls with
   |some r=>some ((a,b) :: r)
   |none=>none
  |_=>none
def parseGo (text:List UInt8):Option (List Dt) :=
 if text=[] then some [] else
 match splitGo ((cutL 59 text).take 5) with
 |none=>none
 |some r=>some (r.map fun p=>parseDt (r.map Prod.fst) p.1 p.2)
def digT (i:Int):List UInt8:=[UInt8.ofNat (48+i.toNat)]
def idxT (i:Int):List UInt8:=if i=0 then [] else if i = -1 then [42] else digT i
def nameAt (xs:List Dt) (d:Int):List UInt8:=match xs[d.toNat]? with | some x=>x.name.data.toList | none=>[]
def tyT (xs:List Dt) (t:Ty):List UInt8:=if t.d = -1 then [73] else nameAt xs t.d ++ idxT t.i
def argsT (xs:List Dt):Bool→List Ty→List UInt8
 |_,[]=>[]
 |b,a :: l=>(if b=true then 40 else 44) :: (tyT xs a ++ argsT xs false l)
def endT (c:Kt):List UInt8:=if 0<c.idx then 58 :: digT c.idx else []
def closeT (c:Kt):List UInt8:=if 0<c.args.length then [41] else []
def ktT (xs:List Dt) (c:Kt):List UInt8:=c.name.data.toList ++ (argsT xs true c.args ++ (closeT c ++ endT c))
def ktsT (xs:List Dt):Bool→List Kt→List UInt8
 |_,[]=>[]
 |b,c :: l=>(if b=true then [] else [124]) ++ (ktT xs c ++ ktsT xs false l)
def dtsT (xs:List Dt):Bool→List Dt→List UInt8
 |_,[]=>[]
 |b,x :: l=>(if b=true then [] else [59]) ++ (x.name.data.toList ++ (61 :: (ktsT xs true x.ctors ++ dtsT xs false l)))
def textT (xs:List Dt):List UInt8:=dtsT xs true xs
def parseW (text:List UInt8):Option (List Dt):=match parseGo text with
 |none=>none
 |some xs=>if worldOk xs=true then if textT xs=text then some xs else none else none
def fineW (text:List UInt8):Bool:=match parseW text with
 |some (_ :: _)=>true
 |_=>false
theorem fineW_ex {text:List UInt8} (h:fineW text=true):∃ xs,parseW text=some xs∧worldOk xs=true∧0<xs.length:=by
 unfold fineW at h
 split at h
 ·rename_i x l e
  refine ⟨_,e,?_,by simp⟩
  unfold parseW at e
  split at e
  ·cases e
  ·split at e
   ·rename_i hw
    split at e
    ·cases e;exact hw
    ·cases e
   ·cases e
 ·cases h
def sevenT:List (List UInt8):=[
 [76,61,78,105,108,124,67,111,110,115,40,73,44,76,41],
 [66,61,84,114,117,124,70,108,115,59,84,61,76,101,97,102,124,78,111,100,101,40,84,44,66,44,84,41],
 [69,61,78,117,109,40,73,41,58,49,124,66,111,108,40,66,41,58,50,124,65,100,100,40,69,49,44,69,49,41,58,49,124,73,102,40,69,50,44,69,42,44,69,42,41,59,66,61,84,114,117,124,70,108,115],
 [79,61,78,111,110,124,83,111,109,40,73,41,59,80,61,80,97,105,114,40,79,44,79,41],
 [86,61,69,110,100,58,49,124,83,111,109,101,40,73,44,86,49,41,58,50,124,84,119,111,40,86,42,41],
 [78,61,78,101,118,101,114,40,78,41,59,66,61,84,114,117,124,70,108,115,124,77,97,121,40,78,41],
 [83,61,82,101,100,124,71,114,101,101,110,124,66,108,117,101,124,77,105,120,40,83,44,83,41]]
theorem sevenT_fine:sevenT.all fineW=true:=by decide +kernel
def tl (s:ByteArray):List UInt8:=s.data.toList
theorem zA6 (s:ByteArray):(tl s).length=s.size:=by unfold tl;simp
theorem zAI (s:ByteArray) (a b:Nat):tl (s.extract a b)=((tl s).take b).drop a:=by
 unfold tl
 rw [ByteArray.data_extract,Array.toList_extract,List.extract_eq_take_drop,List.drop_take]
theorem tl_at (s:ByteArray) (i:Nat) (h:i<s.size):(tl s)[i]'(by rw [zA6];exact h)=s[i]:=rfl
theorem bs_tl (s:ByteArray):bs (tl s)=s:=rfl
theorem zAC (l:List UInt8):tl (bs l)=l:=rfl
theorem tl_inj {a b:ByteArray} (h:tl a=tl b):a=b:=by rw [←bs_tl a,←bs_tl b,h]
def cutS (c:UInt8) (s:ByteArray):List ByteArray:=(cutL c (tl s)).map bs
theorem info_strE:(Tryz.prog.info? 9).map (fun i=>(i.zero,i.size,i.bytes))=some (some (.string ⟨#[]⟩),1,16):=by kernel_rfl
def cutRest (c:UInt8) (s:ByteArray) (frm i:Nat):List ByteArray:=if i≤s.size then (cutGo c (((tl s).take i).drop frm) ((tl s).drop i)).map bs else []
theorem cutRest_start (c:UInt8) (s:ByteArray):cutRest c s 0 0=cutS c s:=by
 unfold cutRest cutS cutL
 rw [if_pos (Nat.zero_le _)]
 rfl
theorem cutRest_end (c:UInt8) (s:ByteArray) (frm:Nat):cutRest c s frm s.size=s.extract frm s.size :: cutRest c s (s.size+1) (s.size+1):=by
 unfold cutRest
 have hd:(tl s).drop s.size=[]:=List.drop_of_length_le (by rw [zA6];exact zz8 _)
 rw [if_pos (zz8 _),if_neg (by omega),hd,cutGo,List.map_cons,List.map_nil,←zAI,bs_tl]
theorem cutRest_hit (c:UInt8) (s:ByteArray) (frm i:Nat) (hi:i<s.size) (h:s[i]=c):cutRest c s frm i=s.extract frm i :: cutRest c s (i+1) (i+1):=by
 unfold cutRest
 rw [if_pos (by omega),if_pos (by omega),List.drop_eq_getElem_cons (i:=i) (by rw [zA6];exact hi),cutGo,if_pos (by rw [tl_at s i hi];exact h),List.map_cons,←zAI,bs_tl]
 congr 3
 rw [List.drop_of_length_le (by simp;omega)]
theorem cutRest_miss (c:UInt8) (s:ByteArray) (frm i:Nat) (hi:i<s.size) (hf:frm≤i) (h:s[i]≠c):cutRest c s frm i=cutRest c s frm (i+1):=by
 unfold cutRest
 rw [if_pos (by omega),if_pos (by omega),List.drop_eq_getElem_cons (i:=i) (by rw [zA6];exact hi),cutGo,if_neg (by rw [tl_at s i hi];exact h)]
 congr 3
 rw [List.take_succ_eq_append_getElem (by rw [zA6];exact hi),List.drop_append_of_le_length (by rw [List.length_take,zA6];omega)]
theorem cutRest_over (c:UInt8) (s:ByteArray) (frm:Nat) {i:Nat} (h:s.size<i):cutRest c s frm i=[]:=if_neg (by omega)
theorem cutRest_len (c:UInt8) (s:ByteArray) (frm i:Nat):(cutRest c s frm i).length≤s.size+1-i:=by
 have key:∀ (l cur:List UInt8),(cutGo c cur l).length≤l.length+1:=by
  intro l
  induction l with
  |nil=>intro cur;simp [cutGo]
  |cons x xs ih =>
   intro cur
   rw [cutGo]
   split
   ·have:=ih [];simp;omega
   ·have:=ih (cur ++ [x]);simp;omega
 unfold cutRest
 split
 ·rw [List.length_map]
  have:=key ((tl s).drop i) (((tl s).take i).drop frm)
  rw [List.length_drop,zA6] at this
  omega
 ·simp
theorem cutS_len (c:UInt8) (s:ByteArray):(cutS c s).length≤s.size+1:=by rw [←cutRest_start];exact cutRest_len c s 0 0
theorem zAM (c:UInt8) (s:ByteArray):∀ x∈cutS c s,x.size≤s.size:=by
 have key:∀ (l cur:List UInt8),∀ x∈cutGo c cur l,x.length≤cur.length+l.length:=by
  intro l
  induction l with
  |nil=>intro cur x hx;rw [cutGo,zy1] at hx;subst hx;simp
  |cons y ys ih =>
   intro cur x hx
   rw [cutGo] at hx
   split at hx
   ·rcases List.mem_cons.1 hx with rfl | hx
    ·omega
    ·have:=ih [] x hx;simp at this ⊢;omega
   ·have:=ih _ x hx;simp at this ⊢;omega
 intro x hx
 unfold cutS at hx
 obtain ⟨l,hl,rfl⟩:=List.mem_map.1 hx
 have:=key _ _ l hl
 rw [zA6] at this
 rw [zAR]
 simpa using this
def MadeStrs (w:World) (xs:List ByteArray) (e:Ending) (w':World):Prop:=MadeArr StrR w xs e w'
theorem Own.strs {w0 w:World} {B:Nat} {E:TypeId} {xs:List ByteArray} {v:Value} (h:Own w B E 1 StrR xs v []) (hb:Below w0 w0 w) (hB:w0.heap.size≤B):MadeStrs w0 xs (.returned v) w :=
 h.gives hb hB (fun b hb=>by cases hb) (Free.nil _)
theorem ArrStr.at {w0 w:World} {b off n cap:Nat} {F:List Nat} {xs:List ByteArray} (h:Arr w0 (StrR w0) xs (.slice (some ⟨b,off,none⟩) n cap) F) (hF:Under w0 F) (hB:Below w0 w0 w) (i:Nat) (hi:i<xs.length) :
  b<w.heap.size∧w.cell? ⟨b,off+i,none⟩=some (.string xs[i]):=by
 obtain ⟨b',off',cs,G,e,hb,hcs,hv,hG⟩:=h.get (zAA w0) hi
 cases e
 have hbl:=hF _ hb
 have hc:=hcs.same (hB.block _ hbl)
 obtain ⟨rfl,-⟩:=hv
 have:=hc 0 _ rfl
 simp only [Nat.mul_one,Nat.add_zero] at this
 exact ⟨zz9 hbl hB.size,this⟩
theorem ArrStr.mono {w w':World} {vs:List ByteArray} {x:Value} {F:List Nat} (h:Arr w (StrR w) vs x F) (hF:Kept F w w'):Arr w' (StrR w') vs x F:=h.mono hF fun v _ cs G hk h=>zA8 _ _ v cs G hk h
theorem ArrStr.below {w w':World} {B:Nat} {vs:List ByteArray} {x:Value} {F:List Nat} (h:Arr w (StrR w) vs x F) (hb:Below B w w') (hF:Under B F):Arr w' (StrR w') vs x F:=ArrStr.mono h (.of_below hb hF)
theorem zAB (s:ByteArray) (c:UInt8) (hs:s.size≤2000000) (w:World) :
  Calls Tryz.prog 36 #[.string s,.int .u8 (c.toNat:Int)] w (MadeStrs w (cutS c s)):=by
 obtain ⟨i0,hi,hz0,hz1,hz2⟩:=info_parts info_strE
 have HI:=jj hi
 have HZ0:=jj hz0
 have HZ1:=jj hz1
 have HZ2:=jj hz2
 clear hi hz0 hz1 hz2
 have HO0:Hid (Own (w.alloc (.cells #[] 9)) w.heap.size 9 1 StrR ([]:List ByteArray) (.slice (some ⟨w,0,none⟩) 0 0) []):=Own.made w w.heap.size 9 1 StrR #[] 0 (zz8 _) (by simp [maxLen]) rfl
 have hB0:Below w w (w.alloc (.cells #[] 9)):=(zy2 _ _).alloc (zz8 _) _
 go_enter Tryz.func36,Tryz.ntmps36
 go_wp2
 go_loopw [5,6,7] (fun ov fv iv wr=>∃ frm i:Nat,∃ outs:List ByteArray,frm≤i∧i≤s.size+1∧iv=.int .i64 i∧fv=.int .i64 frm∧Hid (cutS c s=outs ++ cutRest c s frm i)∧Hid (Own wr w.heap.size 9 1 StrR outs ov [])∧Below w w wr∧outs.length≤i∧True) (fun _ _ iv _=>s.size+1-(intOf iv).toNat)
 case atStart=>exact ⟨0,0,[],zz8 _,Nat.zero_le _,rfl,rfl,(by rw [cutRest_start];rfl),HO0,hB0,zz8 _,trivial⟩
 case round =>
  clear hB0 HO0
  obtain ⟨frm,i,outs,hfi,his,rfl,rfl,HC,HO,hB,hol,-⟩:=hrel
  have g1:(0:Int)≤(i:Int):=by omega
  have g0:(0:Int)≤(frm:Int):=by omega
  by_cases hil:i≤s.size
  ·have hB1:=hB
   have HO1:=HO
   have hbs:=hB.size
   by_cases hie:i=s.size
   ·subst hie
    have q0:((s.size:Int)==(s.size:Int))=true:=by simp
    have HF:Hid (cutS c s=(outs ++ [s.extract frm s.size]) ++ cutRest c s (s.size+1) (s.size+1)):=by
     have:=HC.out
     rw [cutRest_end] at this
     rw [List.append_assoc];exact this
    go_wp2_with (at_builtin;refine Halt.mk ?_)
    refine Halt.of (zA5 (P:=Tryz.prog) rfl _ _ 60 rfl i0 _ 16 Tryz.underlying60 HI.out HZ0.out HZ1.out HZ2.out rfl Nat.zero_lt_one zAA zA8 (by rfl) HO1.out (s.extract frm s.size) 9 [.string (s.extract frm s.size)] [] _ (by rfl) (by simp) (by simp [Value.oneCell']) ⟨rfl,rfl⟩ (Under.nil _) (fun _ _ h=>by cases h) (by unfold maxLen;omega) (by omega) hbs ?_)
    intro g cp w3 hown3 hgr3 hat3
    have hrow:=HO1.out.row
    have hB3:Below w w w3:=(hB1.alloc hB1.size _).grown hgr3 (by have:=hB1.size;simp;omega) (fun g hg=>by have:=hrow g (zA1.2 hg);omega)
    have HO3:=jj hown3
    clear hown3 hgr3 hat3 hrow
    go_wp2
    go_roundw
    case rel=>exact ⟨s.size+1,s.size+1,outs ++ [s.extract frm s.size],by omega,by omega,by go_num,by go_num,HF,HO3,hB3,(by simp;omega),trivial⟩
    case measure=>(simp [intOf] <;> omega)
   ·have hlt:i<s.size:=by omega
    have q0:((i:Int)==(s.size:Int))=false:=by rw [beq_eq_false_iff_ne];omega
    have g2:(i:Int)<(s.size:Int):=by omega
    cases q1:((s[i].toNat:Int)==(c.toNat:Int)) with
    |true =>
     have hc:s[i]=c:=by rw [beq_iff_eq] at q1;exact UInt8.toNat_inj.1 (by omega)
     have HF:Hid (cutS c s=(outs ++ [s.extract frm i]) ++ cutRest c s (i+1) (i+1)):=by
      have:=HC.out
      rw [cutRest_hit c s frm i hlt hc] at this
      rw [List.append_assoc];exact this
     clear hc
     go_wp2_with (at_builtin;refine Halt.mk ?_)
     refine Halt.of (zA5 (P:=Tryz.prog) rfl _ _ 60 rfl i0 _ 16 Tryz.underlying60 HI.out HZ0.out HZ1.out HZ2.out rfl Nat.zero_lt_one zAA zA8 (by rfl) HO1.out (s.extract frm i) 9 [.string (s.extract frm i)] [] _ (by rfl) (by simp) (by simp [Value.oneCell']) ⟨rfl,rfl⟩ (Under.nil _) (fun _ _ h=>by cases h) (by unfold maxLen;omega) (by omega) hbs ?_)
     intro g cp w3 hown3 hgr3 hat3
     have hrow:=HO1.out.row
     have hB3:Below w w w3:=(hB1.alloc hB1.size _).grown hgr3 (by have:=hB1.size;simp;omega) (fun g hg=>by have:=hrow g (zA1.2 hg);omega)
     have HO3:=jj hown3
     clear hown3 hgr3 hat3 hrow
     go_wp2
     go_roundw
     case rel=>exact ⟨i+1,i+1,outs ++ [s.extract frm i],by omega,by omega,by go_num,by go_num,HF,HO3,hB3,(by simp;omega),trivial⟩
     case measure=>(simp [intOf] <;> omega)
    |false =>
     have hc:s[i]≠c:=fun e=>by rw [e] at q1;simp at q1
     have HF:Hid (cutS c s=outs ++ cutRest c s frm (i+1)):=by
      have:=HC.out
      rw [cutRest_miss c s frm i hlt hfi hc] at this
      exact this
     clear hc
     go_wp2
     go_roundw
     case rel=>exact ⟨frm,i+1,outs,by omega,by omega,by go_num,rfl,HF,HO,hB,by omega,trivial⟩
     case measure=>(simp [intOf] <;> omega)
  ·have hfin:MadeStrs w (cutS c s) (.returned u5) wr:=by
    have h:=HC.out
    rw [cutRest_over c s frm (by omega),List.append_nil] at h
    rw [h]
    exact HO.out.strs hB (zz8 _)
   have HFin:=jj hfin
   clear hfin
   go_wp2
   go_ret
   exact HFin.out
def findS (names:List ByteArray) (s:ByteArray):Int:=findL (names.map tl) (tl s)
def findR (names:List ByteArray) (s:ByteArray) (k:Nat):Int:=findGo (tl s) k ((names.drop k).map tl)
theorem findR_hit {names:List ByteArray} {s:ByteArray} {k:Nat} (hk:k<names.length) (h:tl names[k]=tl s):findR names s k=(k:Int):=by
 unfold findR
 rw [List.drop_eq_getElem_cons hk,List.map_cons,findGo,if_pos h]
theorem findR_miss {names:List ByteArray} {s:ByteArray} {k:Nat} (hk:k<names.length) (h:¬tl names[k]=tl s):findR names s k=findR names s (k+1):=by
 unfold findR
 rw [List.drop_eq_getElem_cons hk,List.map_cons,findGo,if_neg h]
theorem findR_end {names:List ByteArray} {s:ByteArray} {k:Nat} (hk:names.length≤k):findR names s k = -2:=by
 unfold findR
 rw [List.drop_of_length_le hk];rfl
theorem zA2 (s:ByteArray):s.toList=tl s:=ByteArray.toList_eq s
theorem Blk.pair {w:World} {H:Nat} {T:TypeId} {a b:Value} (h:Blk w H T #[a,b]) (x y:Value) (o:Obj):Blk (((w.setCell ⟨H,0,none⟩ x).setCell ⟨H,1,none⟩ y).alloc o) H T #[x,y]:=by
 have h2:Blk ((w.setCell ⟨H,0,none⟩ x).setCell ⟨H,1,none⟩ y) H T #[x,y]:=(h.set_ 0 x).set_ 1 y
 exact h2.same (Below.heap_alloc _ _ _ h2.lt)
theorem zAD {w w2:World} {B H:Nat} (h:Below B w w2) (hw:B≤w.heap.size) (hH:B≤H) (x y:Value) (o:Obj):Below B w (((w2.setCell ⟨H,0,none⟩ x).setCell ⟨H,1,none⟩ y).alloc o):=by
 have h2:Below B w ((w2.setCell ⟨H,0,none⟩ x).setCell ⟨H,1,none⟩ y):=(h.setCell hH _).setCell hH _
 exact h2.alloc (by have:=h.size;simp [World.setCell];omega) _
theorem ret_ty {t:Ty} {a b:Int} (h:t=⟨a,b⟩):Ending.returned (.agg #[.int .i64 a,.int .i64 b])=.returned (.agg #[t.d,t.i]):=by rw [h]
def pty (names:List ByteArray) (s:ByteArray):Ty:=parseTy (names.map tl) (tl s)
theorem pty_cons (names:List ByteArray) (s:ByteArray) (h:1≤s.size):pty names s=⟨findS names (s.extract 0 1),idxOf (tl (s.extract 1 s.size))⟩:=by
 have e1:tl (s.extract 0 1)=[s[0]]:=by
  rw [zAI,List.drop_zero]
  have:(tl s).take 1=[(tl s)[0]'(by rw [zA6];omega)]:=by
   rw [List.take_one]
   rw [List.head?_eq_getElem?,List.getElem?_eq_getElem (by rw [zA6];omega)];rfl
  exact this
 have e2:tl s=s[0] :: tl (s.extract 1 s.size):=by
  rw [zAI,List.take_of_length_le (by rw [zA6];exact zz8 _)]
  exact bytes_cons s (by omega)
 unfold pty
 rw [e2,parseTy]
 unfold findS
 rw [e1]
theorem idxOf_star {l:List UInt8} (h:l=[42]):idxOf l = -1:=if_pos h
theorem idxOf_not {s:ByteArray} (h:¬tl (s.extract 1 s.size)=[42]) (h2:s.size≠2):idxOf (tl (s.extract 1 s.size))=0:=by
 unfold idxOf
 rw [if_neg h]
 split
 ·rename_i x e
  have:=zA6 (s.extract 1 s.size)
  rw [e,ByteArray.size_extract] at this
  simp at this
  omega
 ·rfl
theorem idxOf_two {s:ByteArray} (h:¬tl (s.extract 1 s.size)=[42]) (h2:s.size=2) (p2:1<s.size):idxOf (tl (s.extract 1 s.size))=if 48≤s[1].toNat∧s[1].toNat≤57 then (s[1].toNat:Int)-48 else 0:=by
 have e:tl (s.extract 1 s.size)=[s[1]]:=by
  rw [zAI,List.take_of_length_le (by rw [zA6];exact zz8 _),List.drop_eq_getElem_cons (by rw [zA6];omega),List.drop_of_length_le (by rw [zA6];omega)]
  rfl
 rw [e] at h ⊢
 unfold idxOf
 rw [if_neg h]
theorem spec_l1Find (names:List ByteArray) (s:ByteArray) (w:World) (v:Value) (F:List Nat) (hx:Arr w (StrR w) names v F) (hf:Under w F) :
  Calls Tryz.prog 135 #[v,.string s] w fun e w'=>e=.returned (.int .i64 (findS names s))∧Below w w w':=by
 obtain ⟨A,cap,rfl,hc1,hc2⟩:=hx.form
 have HX:=jj hx
 have HF:=jj hf
 clear hx hf
 cases q0:(s.toList==[73]) with
 |true =>
  have hf:Hid (findS names s = -1):=by
   rw [beq_iff_eq,zA2] at q0
   unfold Hid findS findL;rw [if_pos q0]
  go_enter Tryz.func135,Tryz.ntmps135
  go_wp2
  go_ret
  exact ⟨ret_int hf.out.symm,zy2 _ _⟩
 |false =>
  have hf:Hid (findS names s=findR names s 0):=by
   rw [beq_eq_false_iff_ne,zA2] at q0
   unfold Hid findS findL;rw [if_neg q0];rfl
  go_enter Tryz.func135,Tryz.ntmps135
  go_wp2
  go_loopw [5] (fun iv wr=>∃ k:Nat,k≤names.length∧iv=.int .i64 k∧Hid (findS names s=findR names s k)∧Below w w wr) (fun iv _=>names.length-(intOf iv).toNat)
  case atStart=>exact ⟨0,Nat.zero_le _,rfl,hf,zy2 _ _⟩
  case round =>
   obtain ⟨k,hk,rfl,HT,hB⟩:=hrel
   by_cases hlt:k<names.length
   ·have g1:(0:Int)≤(k:Int):=by omega
    have g2:(k:Int)<(names.length:Int):=by omega
    obtain ⟨b,off,rfl⟩:=HX.out.ptr (by omega)
    obtain ⟨hb,c0⟩:=ArrStr.at HX.out HF.out hB k hlt
    cases q1:(names[k].toList==s.toList) with
    |true =>
     have hf:Hid (findS names s=(k:Int)):=by
      rw [beq_iff_eq,zA2,zA2] at q1
      exact HT.out.trans (findR_hit hlt q1)
     go_wp2
     go_ret
     exact ⟨ret_int hf.out.symm,hB⟩
    |false =>
     have hf:Hid (findS names s=findR names s (k+1)):=by
      rw [beq_eq_false_iff_ne,zA2,zA2] at q1
      exact HT.out.trans (findR_miss hlt q1)
     go_wp2
     go_roundw
     case rel=>exact ⟨k+1,by omega,by go_num,hf,hB⟩
     case measure=>(simp [intOf] <;> omega)
   ·have hf:Hid (findS names s = -2):=HT.out.trans (findR_end (by omega))
    go_wp2
    go_ret
    exact ⟨ret_int hf.out.symm,hB⟩
theorem spec_l1ParseType (names:List ByteArray) (s:ByteArray) (w:World) (v:Value) (F:List Nat) (hx:Arr w (StrR w) names v F) (hf:Under w F) (hs:s.size≤2000000) :
  Calls Tryz.prog 89 #[v,.string s] w fun e w'=>e=.returned (.agg #[.int .i64 ((pty names s).d),.int .i64 ((pty names s).i)])∧Below w w w':=by
 obtain ⟨A,cap,rfl,hc1,hc2⟩:=hx.form
 have HX:=jj hx
 have HF:=jj hf
 clear hx hf
 by_cases h0:s.size=0
 ·have q0:(s.toList==[])=true:=by
   rw [beq_iff_eq,zA2];exact List.eq_nil_of_length_eq_zero (by rw [zA6];exact h0)
  have hf:Hid (pty names s=⟨-2,0⟩):=by
   rw [beq_iff_eq,zA2] at q0
   unfold Hid pty;rw [q0];rfl
  go_enter Tryz.func89,Tryz.ntmps89
  go_wp2
  refine bodyPost_ret (results_cell_row rfl _ _ w.heap.size 25 #[.int .i64 (-2),(0:Int)] (0,0) _ rfl (Blk.new w _ _) Tryz.underlying25 rfl rfl) rfl ?_
  exact ⟨ret_ty hf.out,(zy2 _ _).alloc (zz8 _) _⟩
 ·have q0:(s.toList==[])=false:=by
   rw [beq_eq_false_iff_ne,zA2];intro e;have:=zA6 s;rw [e] at this;simp at this;omega
  have g1:(1:Int)≤(s.size:Int):=by omega
  have p1:1≤s.size:=by omega
  go_enter Tryz.func89,Tryz.ntmps89
  go_wp2_with fail
  obtain ⟨W1,hW1⟩:∃ W1,W1=w.alloc (.cells #[(0:Int),(0:Int)] 25):=⟨_,rfl⟩
  have hB1:Below w w W1:=by rw [hW1];exact (zy2 _ _).alloc (zz8 _) _
  have K1:Hid (Blk W1 w 25 #[(0:Int),(0:Int)]):=by rw [hW1];exact Blk.new w _ _
  rw [←hW1]
  clear hW1
  refine (spec_l1Find names (s.extract 0 1) W1 _ F (ArrStr.below HX.out hB1 HF.out) (HF.out.mono hB1.size)).mono ?_
  rintro e w2 ⟨rfl,hb2⟩
  have hB2:=hB1.trans (hb2.mono hB1.size)
  have K2:=jj (K1.out.same (hb2.block _ K1.out.lt))
  clear hb2 hB1 K1
  have k0:w2.cell? ⟨w,0,none⟩=some (.int .i64 0):=(K2.out.cell 0).trans (by simp)
  have k1:w2.cell? ⟨w,1,none⟩=some (.int .i64 0):=(K2.out.cell 1).trans (by simp)
  have f0:=K2.out.frozen 0
  have f1:=K2.out.frozen 1
  have klt:=K2.out.lt
  generalize hdd:findS names (s.extract 0 1)=dd
  have HDD:=jj hdd
  clear hdd
  have HP:=jj (pty_cons names s p1)
  cases q1:((s.extract 1 s.size).toList==[42]) with
  |true =>
   have hf:Hid (pty names s=⟨dd,-1⟩):=by
    rw [beq_iff_eq,zA2] at q1
    unfold Hid;rw [HP.out,HDD.out,idxOf_star q1]
   go_wp2
   refine bodyPost_ret (results_cell_row rfl _ _ w.heap.size 25 #[.int .i64 dd,.int .i64 (-1)] (0,0) _ rfl (K2.out.pair _ _ _) Tryz.underlying25 rfl rfl) rfl ?_
   exact ⟨ret_ty hf.out,zAD hB2 (zz8 _) (zz8 _) _ _ _⟩
  |false =>
   have HN:Hid (¬tl (s.extract 1 s.size)=[42]):=by
    rw [beq_eq_false_iff_ne,zA2] at q1
    exact q1
   by_cases h2:s.size=2
   ·have q2:((s.size:Int)==2)=true:=by simp;omega
    have p2:1<s.size:=by omega
    have p3:(1:Int)<(s.size:Int):=by omega
    have HI:=jj (idxOf_two HN.out h2 p2)
    clear h2
    by_cases ha:48≤s[1].toNat
    ·have q3:decide ((s[1].toNat:Int)≥48)=true:=decide_eq_true (by omega)
     by_cases hz:s[1].toNat≤57
     ·have q4:decide ((s[1].toNat:Int)≤57)=true:=decide_eq_true (by omega)
      have hf:Hid (pty names s=⟨dd,(s[1].toNat:Int)-48⟩):=by unfold Hid;rw [HP.out,HDD.out,HI.out,if_pos ⟨ha,hz⟩]
      have b1:48≤(s[1].toNat:Int):=by omega
      have b2:(s[1].toNat:Int)≤57:=by omega
      go_wp2
      refine bodyPost_ret (results_cell_row rfl _ _ w.heap.size 25 #[.int .i64 dd,.int .i64 ((s[1].toNat:Int)-48)] (0,0) _ rfl (K2.out.pair _ _ _) Tryz.underlying25 rfl rfl) rfl ?_
      exact ⟨ret_ty hf.out,zAD hB2 (zz8 _) (zz8 _) _ _ _⟩
     ·have q4:decide ((s[1].toNat:Int)≤57)=false:=decide_eq_false (by omega)
      have hf:Hid (pty names s=⟨dd,0⟩):=by unfold Hid;rw [HP.out,HDD.out,HI.out,if_neg (fun h=>hz h.2)]
      go_wp2
      refine bodyPost_ret (results_cell_row rfl _ _ w.heap.size 25 #[.int .i64 dd,.int .i64 (0)] (0,0) _ rfl (K2.out.pair _ _ _) Tryz.underlying25 rfl rfl) rfl ?_
      exact ⟨ret_ty hf.out,zAD hB2 (zz8 _) (zz8 _) _ _ _⟩
    ·have q3:decide ((s[1].toNat:Int)≥48)=false:=decide_eq_false (by omega)
     have hf:Hid (pty names s=⟨dd,0⟩):=by unfold Hid;rw [HP.out,HDD.out,HI.out,if_neg (fun h=>ha h.1)]
     go_wp2
     refine bodyPost_ret (results_cell_row rfl _ _ w.heap.size 25 #[.int .i64 dd,.int .i64 (0)] (0,0) _ rfl (K2.out.pair _ _ _) Tryz.underlying25 rfl rfl) rfl ?_
     exact ⟨ret_ty hf.out,zAD hB2 (zz8 _) (zz8 _) _ _ _⟩
   ·have q2:((s.size:Int)==2)=false:=by rw [beq_eq_false_iff_ne];omega
    have hf:Hid (pty names s=⟨dd,0⟩):=by unfold Hid;rw [HP.out,HDD.out,idxOf_not HN.out h2]
    go_wp2
    refine bodyPost_ret (results_cell_row rfl _ _ w.heap.size 25 #[.int .i64 dd,.int .i64 (0)] (0,0) _ rfl (K2.out.pair _ _ _) Tryz.underlying25 rfl rfl) rfl ?_
    exact ⟨ret_ty hf.out,zAD hB2 (zz8 _) (zz8 _) _ _ _⟩
section
variable {α : Type} {w w' : World} {B k : Nat} {E : TypeId} {R : World → α → List Value → List Nat → Prop} {xs : List α} {v : Value} {F : List Nat}
variable {P : Program}
theorem step_push {ops:Array Oper} {o:Oper} {a:Act} {K:Act→World→Prop} {Q:Exit→Act→World→Prop} {EE:Prop} (hgd:o.guard=none) (s x:Operand) (t:TypeId)
  (ho:o.op=.call { callee:=.builtin .append,args:=#[s,x],argTypes:=#[t,t] })
  (i:TypeInfo) (z:Value) (bytes:Nat) (ht:P.underlying t=some (.slice E)) (hi:P.info? E=some i) (hz:i.zero=some z)
  (hsize:i.size=k) (hby:i.bytes=bytes) (hzs:z.cells.size=k) (hk:0<k)
  (hRl:∀ x cs G,R w x cs G→cs.length=k) (hRm:∀ w' x cs G,Kept G w w'→R w x cs G→R w' x cs G)
  (hs:a.eval s=v) (hown:Own w B E k R xs v F) (ys:List α) (ad:Addr) (c:Nat) (news:List Value) (G:List Nat)
  (hx:a.eval x=.slice (some ad) ys.length c) (hnews:∀ j u,news[j]?=some u→w.cell? (ad.add j)=some u) (h1:∀ u∈news,u.oneCell'=true)
  (hys:Flat (R w) ys news G) (hG:Under w G) (hvG:∀ g∈rowOf v,g∉G)
  (hm:0<ys.length) (h63:xs.length+ys.length≤maxLen) (hbytes:(xs.length+ys.length)*bytes≤140737488355328) (hbase:B≤w.heap.size)
  (h:∀ g cap w',Own w' B E k R (xs ++ ys) (.slice (some ⟨g,0,none⟩) (xs.length+ys.length) cap) (F ++ G)→w.grownBy w' v.ownBlock→(v.ownBlock=some g∨g=w.heap.size) →
   K (a.put o.dst (.slice (some ⟨g,0,none⟩) (xs.length+ys.length) cap)) w'):if Region.wanted o (yielded ops a.tmps)=true then Oper.wp P o a w K Q else EE:=by
 obtain ⟨cs,h2,h3,h4,h5⟩:=id hown
 refine step_append_lies w hgd s x t ho B E i z k bytes ht hi hz hsize hby hzs hk v xs.length cs hs h2 ad ys.length c news hx (hys.length hRl) hnews h1 hm h63 hbytes hbase w.heap.size rfl
  fun g cap w1 hr hgr hat hlt=>h g cap w1 ⟨cs ++ news,by rw [List.length_append];exact hr,?_,?_,?_⟩ hgr hat
 ·exact (h3.mono fun x _ ds H hH hr=>hRm w1 x ds H (grown_kept hgr (h4.sub hH) fun g hg hn=>h5 g hg (hH g hn)) hr).append (hys.mono fun x _ ds H hH hr=>hRm w1 x ds H (grown_kept hgr (hG.sub hH) fun g hg hn=>hvG g hg (hH g hn)) hr)
 ·intro b hb
  rcases List.mem_append.1 hb with hb | hb
  ·exact zz9 (h4 b hb) hgr.size
  ·exact zz9 (hG b hb) hgr.size
 ·intro b hb hbF
  rw [zA4,zy1] at hb
  subst hb
  rcases hat with hat | rfl
  ·rcases List.mem_append.1 hbF with hb | hb
   ·exact h5 b (zA1.2 hat) hb
   ·exact hvG b (zA1.2 hat) hb
  ·rcases List.mem_append.1 hbF with hb | hb
   ·exact Nat.lt_irrefl _ (h4 _ hb)
   ·exact Nat.lt_irrefl _ (hG _ hb)
theorem zAF {ops:Array Oper} {o:Oper} {a:Act} {K:Act→World→Prop} {Q:Exit→Act→World→Prop} {EE:Prop} (hgd:o.guard=none) (s x:Operand) (t:TypeId)
  (ho:o.op=.call { callee:=.builtin .append,args:=#[s,x],argTypes:=#[t,t] })
  (i:TypeInfo) (z:Value) (bytes:Nat) (ht:P.underlying t=some (.slice E)) (hi:P.info? E=some i) (hz:i.zero=some z)
  (hsize:i.size=k) (hby:i.bytes=bytes) (hzs:z.cells.size=k) (hk:0<k)
  (hRl:∀ w x cs G,R w x cs G→cs.length=k) (hRm:∀ w w' x cs G,Kept G w w'→R w x cs G→R w' x cs G)
  (hs:a.eval s=v) (hown:Own w B E k R xs v F) (y:α) (T:TypeId) (news:List Value) (G:List Nat)
  (H:Nat) (hx:a.eval x=.slice (some ⟨H,0,none⟩) 1 1) (hH:w.heap.size=H) (h1:∀ u∈news,u.oneCell'=true)
  (hy:R w y news G) (hG:Under w G) (hvG:∀ g∈rowOf v,g∉G)
  (h63:xs.length+1≤maxLen) (hbytes:(xs.length+1)*bytes≤140737488355328) (hbase:B≤w.heap.size)
  (h:∀ g cap w',Own w' B E k R (xs ++ [y]) (.slice (some ⟨g,0,none⟩) (xs.length+1) cap) (F ++ G)→(w.alloc (.cells news.toArray T)).grownBy w' v.ownBlock→(v.ownBlock=some g∨g=w.heap.size+1) →
   K (a.put o.dst (.slice (some ⟨g,0,none⟩) (xs.length+1) cap)) w'):if Region.wanted o (yielded ops a.tmps)=true then Oper.wp P o a (w.alloc (.cells news.toArray T)) K Q else EE:=by
 subst hH
 have hb:=(zy2 w.heap.size w).alloc (zz8 _) (.cells news.toArray T)
 have hk1:Kept G w (w.alloc (.cells news.toArray T)):=.of_below hb hG
 refine step_push hgd s x t ho i z bytes ht hi hz hsize hby hzs hk (hRl _) (fun w'=>hRm _ w') hs (hown.below (fun x cs G hk h=>hRm _ _ x cs G hk h) hb) [y] ⟨w,0,none⟩ 1 news G hx ?_ h1 (Flat.one (hRm _ _ _ _ _ hk1 hy)) (hG.mono hb.size) hvG Nat.zero_lt_one h63 hbytes (Nat.le_trans hbase hb.size)
  (fun g cap w' h2 h3 h4=>h g cap w' h2 h3 (by simpa using h4))
 intro j u hj
 exact World.news_of_block (heap_alloc_new w (.cells news.toArray T)) j u (by simpa using hj)
end
theorem CellsAt.nil (w:World) (b off:Nat):CellsAt w b off []:=fun j u h=>by simp at h
theorem CellsAt.cons {w:World} {b off:Nat} {a:Value} {cs:List Value} (h:w.cell? ⟨b,off,none⟩=some a) (hc:CellsAt w b (off+1) cs):CellsAt w b off (a :: cs):=fun j u hj=>by
 cases j with
 |zero=>simp at hj;subst hj;exact h
 |succ j =>
  have:=hc j u (by simpa using hj)
  rwa [show off+1+j=off+(j+1) by omega] at this
structure Chg (F:List Nat) (w w':World):Prop where
 os:w'.os=w.os
 tape:w'.tape=w.tape
 output:w'.output=w.output
 size:w.heap.size≤w'.heap.size
 block:∀ b,b<w.heap.size→b∉F→w'.heap[b]?=w.heap[b]?
theorem Chg.refl (F:List Nat) (w:World):Chg F w w:=⟨rfl,rfl,rfl,zz8 _,fun _ _ _=>rfl⟩
theorem Chg.trans {F:List Nat} {a b c:World} (h:Chg F a b) (k:Chg F b c):Chg F a c :=
 ⟨k.os.trans h.os,k.tape.trans h.tape,k.output.trans h.output,Nat.le_trans h.size k.size,fun i hi hF=>(k.block i (zz9 hi h.size) hF).trans (h.block i hi hF)⟩
theorem Chg.of_below {F:List Nat} {w w':World} (h:Below w w w'):Chg F w w':=⟨h.os,h.tape,h.output,h.size,fun b hb _=>h.block b hb⟩
theorem Chg.kept {F G:List Nat} {w w':World} (h:Chg F w w') (hG:Under w G) (hd:∀ b∈G,b∉F):Kept G w w':=fun b hb=>h.block b (hG b hb) (hd b hb)
theorem Chg.below {F:List Nat} {w w':World} {B:Nat} (h:Chg F w w') (hF:∀ b∈F,B≤b) (hB:B≤w.heap.size):Below B w w' :=
 ⟨h.os,h.tape,h.output,h.size,fun b hb=>h.block b (zz9 hb hB) fun hf=>Nat.lt_irrefl _ (zz9 hb (hF b hf))⟩
theorem Chg.set {F:List Nat} {w w':World} {b j:Nat} {u:Value} (h:Chg F w w') (hb:b∈F):Chg F w (w'.setCell ⟨b,j,none⟩ u) :=
 ⟨h.os,h.tape,h.output,Nat.le_trans h.size (by simp [World.setCell]),fun c hc hF=>(zz7 _ _ _ _ (fun e=>hF (by rw [show c=b from e];exact hb))).trans (h.block c hc hF)⟩
theorem Chg.step {F:List Nat} {w w' w'':World} (h:Chg F w w') (hb:Below w'.heap.size w' w''):Chg F w w'':=h.trans (.of_below hb)
theorem Chg.drew {F:List Nat} {w w':World} (h:Chg F w w'):Chg F w w'.drew:=⟨h.os,h.tape,h.output,h.size,h.block⟩
theorem Chg.drewN {F:List Nat} {w w':World} (h:Chg F w w') (n:Nat):Chg F w (w'.drewN n):=⟨h.os,h.tape,h.output,h.size,h.block⟩
theorem Chg.cell {F:List Nat} {w w':World} (h:Chg F w w') {p:Addr} (hp:p.block<w.heap.size) (hn:p.block∉F):w'.cell? p=w.cell? p:=World.cell?_of_block (w:=w) (h.block p.block hp hn)
structure Upd (b lo n:Nat) (F:List Nat) (w w':World):Prop extends Chg (b :: F) w w' where
 cells:∀ j,j<lo∨lo+n≤j→w'.cell? ⟨b,j,none⟩=w.cell? ⟨b,j,none⟩
 froz:∀ j,w'.frozen? ⟨b,j,none⟩=w.frozen? ⟨b,j,none⟩
section
variable {α : Type} {R : World → α → List Value → List Nat → Prop} {k : Nat}
end
/-! ### What marking makes of a list -/
def mkS {α:Type} (mk:Int→α→α) (cnt:α→Nat):Int→List α→List α
 |_,[]=>[]
 |k,x :: xs=>mk k x :: mkS mk cnt (k+cnt x) xs
section
variable {α : Type} {mk : Int → α → α} {cnt : α → Nat}
def mkTo (mk:Int→α→α) (cnt:α→Nat) (k:Int) (xs:List α) (i:Nat):List α:=mkS mk cnt k (xs.take i) ++ xs.drop i
end
theorem info_tyE:(Tryz.prog.info? 25).map (fun i=>(i.zero,i.size,i.bytes))=some (some (.agg #[(0:Int),(0:Int)]),2,16):=by kernel_rfl
def GivesTys (w:World) (ts:List Ty) (e:Ending) (w':World):Prop:=MadeArr TyR w ts e w'
theorem TyR_mono' (w w':World) (x:Ty) (cs:List Value) (F:List Nat) (_:Kept F w w') (h:TyR w x cs F):TyR w' x cs F:=h
theorem TyR_len' (w:World) (x:Ty) (cs:List Value) (F:List Nat) (h:TyR w x cs F):cs.length=2:=TyR_len x cs F h
def pkt (names:List ByteArray) (s:ByteArray):Kt:=parseKt (names.map tl) (tl s)
def pbody (names:List ByteArray) (idx:Int) (s:ByteArray):Kt:=parseBody (names.map tl) idx (tl s)
theorem cutL_pos (c:UInt8) (l:List UInt8):0<(cutL c l).length:=by
 have key:∀ (l cur:List UInt8),0<(cutGo c cur l).length:=by
  intro l
  induction l with
  |nil=>intro cur;simp [cutGo]
  |cons x xs ih=>intro cur;rw [cutGo];split <;> simp [ih]
 exact key l []
theorem cutS_pos (c:UInt8) (s:ByteArray):0<(cutS c s).length:=by unfold cutS;rw [List.length_map];exact cutL_pos c _
theorem pbody_short {names:List ByteArray} {idx:Int} {s:ByteArray} (h:(cutS 40 s).length<2):pbody names idx s=⟨(cutS 40 s)[0]'(cutS_pos 40 s),[],idx⟩:=by
 have hp:=cutL_pos 40 (tl s)
 unfold pbody parseBody
 have key:∀ (L:List (List UInt8)) (hp:0<L.length),(L.map bs).length<2→(⟨bs (headL L),parseArgs (names.map tl) L,idx⟩:Kt)=⟨(L.map bs)[0]'(by simpa using hp),[],idx⟩:=by
  intro L hp hl
  match L,hp,hl with
  |[x],_,_=>rfl
  |_ :: _ :: _,_,hl=>simp at hl;omega
 exact key _ hp h
theorem pbody_empty {names:List ByteArray} {idx:Int} {s:ByteArray} (h:1<(cutS 40 s).length) (h0:(cutS 40 s)[1].size=0):pbody names idx s=⟨(cutS 40 s)[0]'(cutS_pos 40 s),[],idx⟩:=by
 have hp:=cutL_pos 40 (tl s)
 unfold pbody parseBody
 have key:∀ (L:List (List UInt8)) (hp:0<L.length) (h:1<(L.map bs).length),(L.map bs)[1].size=0→(⟨bs (headL L),parseArgs (names.map tl) L,idx⟩:Kt)=⟨(L.map bs)[0]'(by simpa using hp),[],idx⟩:=by
  intro L hp h hz
  match L,hp,h,hz with
  |x :: p :: l,_,_,hz =>
   have hpe:p=[]:=List.eq_nil_of_length_eq_zero hz
   subst hpe
   rfl
  |[_],_,h,_=>simp at h
 exact key _ hp h h0
theorem pbody_args {names:List ByteArray} {idx:Int} {s:ByteArray} (h:1<(cutS 40 s).length) (h0:(cutS 40 s)[1].size≠0):pbody names idx s=⟨(cutS 40 s)[0]'(cutS_pos 40 s),((cutS 44 ((cutS 40 s)[1].extract 0 ((cutS 40 s)[1].size-1))).take 4).map (pty names),idx⟩:=by
 have hp:=cutL_pos 40 (tl s)
 unfold pbody parseBody
 have key:∀ (L:List (List UInt8)) (hp:0<L.length) (h:1<(L.map bs).length),(L.map bs)[1].size≠0→(⟨bs (headL L),parseArgs (names.map tl) L,idx⟩:Kt)=⟨(L.map bs)[0]'(by simpa using hp),((cutS 44 ((L.map bs)[1].extract 0 ((L.map bs)[1].size-1))).take 4).map (pty names),idx⟩:=by
  intro L hp h hz
  match L,hp,h,hz with
  |x :: p :: l,_,_,hz =>
   have hpe:¬p=[]:=fun e=>hz (by subst e;rfl)
   have e1:tl ((bs p).extract 0 ((bs p).size-1))=p.take (p.length-1):=by rw [zAI,zAC,List.drop_zero];rfl
   have e2:parseArgs (names.map tl) (x :: p :: l)=((cutL 44 (p.take (p.length-1))).take 4).map (parseTy (names.map tl)):=by
    show (if p=[] then [] else _)=_
    rw [if_neg hpe]
   have e3:((cutS 44 ((bs p).extract 0 ((bs p).size-1))).take 4).map (pty names)=((cutL 44 (p.take (p.length-1))).take 4).map (parseTy (names.map tl)):=by
    unfold cutS
    rw [e1,←List.map_take,List.map_map]
    rfl
   rw [e2,←e3]
   rfl
  |[_],_,h,_=>simp at h
 exact key _ hp h h0
theorem hasIdx_no {s:ByteArray} (h:¬2<s.size):hasIdx (tl s)=false:=by unfold hasIdx;rw [zA6,decide_eq_false h];rfl
theorem hasIdx_at {s:ByteArray} (h:2<s.size):hasIdx (tl s)=(s[s.size-2]==58):=by
 unfold hasIdx
 rw [zA6,decide_eq_true h,Bool.true_and,Bool.eq_iff_iff]
 have:(tl s).getD (s.size-2) 0=s[s.size-2]:=by
  rw [List.getD_eq_getElem?_getD,List.getElem?_eq_getElem (by rw [zA6];omega)];rfl
 rw [this]
 simp
theorem pkt_no {names:List ByteArray} {s:ByteArray} (h:hasIdx (tl s)=false):pkt names s=pbody names 0 s:=by unfold pkt parseKt;rw [if_neg (by simp [h])];rfl
theorem pkt_yes {names:List ByteArray} {s:ByteArray} (h:hasIdx (tl s)=true) (h2:2<s.size):pkt names s=pbody names ((s[s.size-1].toNat:Int)-48) (s.extract 0 (s.size-2)):=by
 have h3:(tl s).getD ((tl s).length-1) 0=s[s.size-1]:=by
  rw [List.getD_eq_getElem?_getD,zA6,List.getElem?_eq_getElem (by rw [zA6];omega)];rfl
 unfold pkt parseKt pbody
 rw [if_pos h,h3,zAI,List.drop_zero,zA6]
theorem pbody_short' {names:List ByteArray} {idx:Int} {s:ByteArray} {parts:List ByteArray} (e:cutS 40 s=parts) (hp:0<parts.length) (h:parts.length<2):pbody names idx s=⟨parts[0],[],idx⟩:=by subst e;exact pbody_short h
theorem pbody_empty' {names:List ByteArray} {idx:Int} {s:ByteArray} {parts:List ByteArray} (e:cutS 40 s=parts) (h:1<parts.length) (h0:parts[1].size=0):pbody names idx s=⟨parts[0],[],idx⟩:=by subst e;exact pbody_empty h h0
theorem pbody_args' {names:List ByteArray} {idx:Int} {s:ByteArray} {parts:List ByteArray} (e:cutS 40 s=parts) (h:1<parts.length) (h0:parts[1].size≠0):pbody names idx s=⟨parts[0],((cutS 44 (parts[1].extract 0 (parts[1].size-1))).take 4).map (pty names),idx⟩:=by subst e;exact pbody_args h h0
theorem zAN {α β:Type} (f:α→β) (l:List α) (j:Nat) (h:j<l.length):(l.take (j+1)).map f=(l.take j).map f ++ [f l[j]]:=by rw [take_snoc' l j h,List.map_append];rfl
def ptysTo (names ags:List ByteArray) (i:Nat):List Ty:=(ags.take i).map (pty names)
theorem ptysTo_succ (names ags:List ByteArray) (i:Nat) (h:i<ags.length):ptysTo names ags (i+1)=ptysTo names ags i ++ [pty names ags[i]]:=zAN _ _ _ h
theorem ptysTo_len (names ags:List ByteArray) (i:Nat):(ptysTo names ags i).length≤i:=by unfold ptysTo;rw [List.length_map,List.length_take];omega
def GivesKt (w:World) (c:Kt) (e:Ending) (w':World):Prop:=∃ cs F,e=.returned (.agg cs.toArray)∧Below w w w'∧KtR w' c cs F∧Free w' F∧Fresh w w' F
theorem Blk.triple {w:World} {H:Nat} {T:TypeId} {a b c:Value} (h:Blk w H T #[a,b,c]) (x y z:Value):Blk (((w.setCell ⟨H,0,none⟩ x).setCell ⟨H,1,none⟩ y).setCell ⟨H,2,none⟩ z) H T #[x,y,z]:=((h.set_ 0 x).set_ 1 y).set_ 2 z
theorem below_triple {w w2:World} {B H:Nat} (h:Below B w w2) (hH:B≤H) (x y z:Value):Below B w (((w2.setCell ⟨H,0,none⟩ x).setCell ⟨H,1,none⟩ y).setCell ⟨H,2,none⟩ z):=((h.setCell hH _).setCell hH _).setCell hH _
theorem GivesKt.done {w W:World} {H B:Nat} {c:Kt} {E:TypeId} {nm:ByteArray} {idx:Int} {kv:Value} {xs:List Ty} (hc:c=⟨nm,xs,idx⟩) (hB:Below w w W) (hH:w.heap.size=H) (hlt:H<W.heap.size) (ho:Own W B E 2 TyR xs kv []) (hB1:H<B) (hn:nm.size≤9223372036854775807) (x y z:Value) :
  GivesKt w c (.returned (.agg #[.string nm,kv,.int .i64 idx])) (((W.setCell ⟨H,0,none⟩ x).setCell ⟨H,1,none⟩ y).setCell ⟨H,2,none⟩ z):=by
 subst hc hH
 have hr:w.heap.size∉rowOf kv:=fun h=>by have:=(ho.row _ h).1;omega
 have h0:=Own.set (j:=0) TyR_mono' ho x hr (fun h=>by cases h)
 have h1:=Own.set (j:=1) TyR_mono' h0 y hr (fun h=>by cases h)
 have h2:=Own.set (j:=2) TyR_mono' h1 z hr (fun h=>by cases h)
 exact ⟨[.string nm,kv,.int .i64 idx],_,rfl,below_triple hB (zz8 _) _ _ _,⟨kv,rfl,h2.arr,hn⟩,h2.free (Free.nil _),h2.fresh (Nat.le_of_lt hB1) (fun b hb=>by cases hb)⟩
theorem Chg.under {F:List Nat} {a b c:World} (h:Chg F a b) (k:Below a b c):Chg F a c :=
 ⟨k.os.trans h.os,k.tape.trans h.tape,k.output.trans h.output,Nat.le_trans h.size k.size,fun i hi hF=>(k.block i hi).trans (h.block i hi hF)⟩
end Go.Proofs.YtjjclcmmfeegfaaGreatDoor
namespace Go.Proofs.YtjjclcmmfeegfaaGreatDoor
open Go
section
variable {P : Program} {ops : Array Oper} {Q : Exit → Act → World → Prop} {md : Region.Mode} {S T : World → Prop} {d : Nat}
def wpAnyB (P:Program) (md:Region.Mode) (ops:Array Oper) (Q:Exit→Act→World→Prop) (S T:World→Prop) (d:Nat):Nat→Array Bool→Act→World→Prop
 |0,listed,a,w=>Region.ready md ops listed=[]∧Q .normal a w
 |fuel+1,listed,a,w =>
  (Region.ready md ops listed=[]→Q .normal a w) ∧
  ∀ i∈Region.ready md ops listed,wpOp P ops Q i (fun a' w'=>(S w'∧((listed.setIfInBounds i true).getD d false=false→T w'))∧wpAnyB P md ops Q S T d fuel (listed.setIfInBounds i true) a' w') a w
theorem wpAny_of_B:∀ (fuel:Nat) (listed:Array Bool) (a:Act) (w:World),wpAnyB P md ops Q S T d fuel listed a w→wpAny P md ops Q fuel listed a w
 |0,_,_,_,h=>h
 |fuel+1,_,_,_,h=>⟨h.1,fun i hi=>wpOp_mono (fun _ _ h'=>wpAny_of_B fuel _ _ _ h'.2) (h.2 i hi)⟩
theorem wpAnyB_first {i:Nat} {oi:Oper} {v:Value} (hi:ops[i]?=some oi) (hid:i≠d) (hsel:∀ (j:Nat) (o:Oper) cs b,ops[j]?=some o→o.op≠.select cs b)
  (hQ:∀ c a w,Q (.panic c) (a.put oi.dst v) w→Q (.panic c) a w) :
  ∀ (fuel:Nat) (listed:Array Bool) (a:Act) (w:World),
   (∀ j oj,ops[j]?=some oj→j≠i→listed.getD j true=false→(∀ e∈oj.after,Region.binds md e=true→e.on≠i)→oi.apart ops oj=true) →
   i∈Region.ready md ops listed→YieldsIf P ops S oi v a→S w→(listed.getD d false=false→T w) →
   wpAnyB P md ops Q S T d fuel (listed.setIfInBounds i true) (a.put oi.dst v) w→wpAnyB P md ops Q S T d (fuel+1) listed a w:=by
 intro fuel
 induction fuel with
 |zero =>
  intro listed a w _ hr hy hS hT H
  refine ⟨fun h=>(by rw [h] at hr;cases hr),fun j hj=>?_⟩
  by_cases hji:j=i
  ·subst hji;exact hy.wpOp hi hS ⟨⟨hS,fun h=>hT (by rwa [getD_set_ne false hid] at h)⟩,H⟩
  ·have:=ready_mono hj hji
   rw [H.1] at this
   cases this
 |succ fuel ih =>
  intro listed a w hfree hr hy hS hT H
  refine ⟨fun h=>(by rw [h] at hr;cases hr),fun j hj=>?_⟩
  by_cases hji:j=i
  ·subst hji;exact hy.wpOp hi hS ⟨⟨hS,fun h=>hT (by rwa [getD_set_ne false hid] at h)⟩,H⟩
  ·have h1:=H.2 j (ready_mono hj hji)
   obtain ⟨hjun,oj,hoj,hall⟩:=mem_ready.1 hj
   have hnot:∀ e∈oj.after,Region.binds md e=true→e.on≠i:=fun e he hb heq=>by
    have h1:=hall e he hb
    have h0:=(mem_ready.1 hr).1
    rw [heq] at h1
    rcases Nat.lt_or_ge i listed.size with h' | h'
    ·simp [h'] at h0 h1;rw [h0] at h1;cases h1
    ·simp [Array.getElem?_eq_none h'] at h1
   have h2:=wpOp_putIf hoj (hfree j oj hoj hji hjun hnot) (fun cs b=>hsel i oi cs b hi) (fun cs b=>hsel j oj cs b hoj) hQ hy h1
   have hfree':∀ k ok,ops[k]?=some ok→k≠i→(listed.setIfInBounds j true).getD k true=false →
     (∀ e∈ok.after,Region.binds md e=true→e.on≠i)→oi.apart ops ok=true:=fun k ok hk hki hun hno=>by
    refine hfree k ok hk hki ?_ hno
    by_cases hjk:j=k
    ·subst hjk;exact hjun
    ·rw [getD_set_ne true hjk] at hun;exact hun
   have hbit:((listed.setIfInBounds i true).setIfInBounds j true).getD d false=(listed.setIfInBounds j true).getD d false:=by
    rw [Array.setIfInBounds_comm _ _ (Ne.symm hji),getD_set_ne false hid]
   refine wpOp_mono (fun a' w' h3=>⟨⟨h3.2.1.1,fun h=>h3.2.1.2 (hbit.trans h)⟩,ih (listed.setIfInBounds j true) a' w' hfree' (ready_mono hr (Ne.symm hji)) h3.1 h3.2.1.1 (fun h=>h3.2.1.2 (hbit.trans h)) ?_⟩) h2
   rw [Array.setIfInBounds_comm _ _ hji]
   exact h3.2.2
theorem wpAnyB_firstT {i:Nat} {oi od:Oper} {v:Value} (hi:ops[i]?=some oi) (hid:i≠d) (hd:ops[d]?=some od) (hdi:∃ e∈od.after,Region.binds md e=true∧e.on=i) (hsel:∀ (j:Nat) (o:Oper) cs b,ops[j]?=some o→o.op≠.select cs b)
  (hQ:∀ c a w,Q (.panic c) (a.put oi.dst v) w→Q (.panic c) a w) :
  ∀ (fuel:Nat) (listed:Array Bool) (a:Act) (w:World),
   (∀ j oj,ops[j]?=some oj→j≠i→listed.getD j true=false→(∀ e∈oj.after,Region.binds md e=true→e.on≠i)→oi.apart ops oj=true) →
   i∈Region.ready md ops listed→YieldsIf P ops (fun w=>S w∧T w) oi v a→listed.getD d false=false→S w→T w →
   wpAnyB P md ops Q S T d fuel (listed.setIfInBounds i true) (a.put oi.dst v) w→wpAnyB P md ops Q S T d (fuel+1) listed a w:=by
 intro fuel
 induction fuel with
 |zero =>
  intro listed a w _ hr hy hdf hS hT H
  refine ⟨fun h=>(by rw [h] at hr;cases hr),fun j hj=>?_⟩
  by_cases hji:j=i
  ·subst hji;exact hy.wpOp hi ⟨hS,hT⟩ ⟨⟨hS,fun _=>hT⟩,H⟩
  ·have:=ready_mono hj hji
   rw [H.1] at this
   cases this
 |succ fuel ih =>
  intro listed a w hfree hr hy hdf hS hT H
  refine ⟨fun h=>(by rw [h] at hr;cases hr),fun j hj=>?_⟩
  by_cases hji:j=i
  ·subst hji;exact hy.wpOp hi ⟨hS,hT⟩ ⟨⟨hS,fun _=>hT⟩,H⟩
  ·have h1:=H.2 j (ready_mono hj hji)
   obtain ⟨hjun,oj,hoj,hall⟩:=mem_ready.1 hj
   have hnot:∀ e∈oj.after,Region.binds md e=true→e.on≠i:=fun e he hb heq=>by
    have h1:=hall e he hb
    have h0:=(mem_ready.1 hr).1
    rw [heq] at h1
    rcases Nat.lt_or_ge i listed.size with h' | h'
    ·simp [h'] at h0 h1;rw [h0] at h1;cases h1
    ·simp [Array.getElem?_eq_none h'] at h1
   have hjd:j≠d:=fun e=>by
    subst e
    rw [hoj] at hd
    cases hd
    obtain ⟨e,he,hb,ho⟩:=hdi
    exact hnot e he hb ho
   have h2:=wpOp_putIf hoj (hfree j oj hoj hji hjun hnot) (fun cs b=>hsel i oi cs b hi) (fun cs b=>hsel j oj cs b hoj) hQ hy h1
   have hfree':∀ k ok,ops[k]?=some ok→k≠i→(listed.setIfInBounds j true).getD k true=false →
     (∀ e∈ok.after,Region.binds md e=true→e.on≠i)→oi.apart ops ok=true:=fun k ok hk hki hun hno=>by
    refine hfree k ok hk hki ?_ hno
    by_cases hjk:j=k
    ·subst hjk;exact hjun
    ·rw [getD_set_ne true hjk] at hun;exact hun
   have hdf2:(listed.setIfInBounds j true).getD d false=false:=by rw [getD_set_ne false hjd];exact hdf
   have hdf3:((listed.setIfInBounds i true).setIfInBounds j true).getD d false=false:=by rw [getD_set_ne false hjd,getD_set_ne false hid];exact hdf
   refine wpOp_mono (fun a' w' h3=>⟨⟨h3.2.1.1,fun _=>h3.2.1.2 hdf3⟩,ih (listed.setIfInBounds j true) a' w' hfree' (ready_mono hr (Ne.symm hji)) h3.1 hdf2 h3.2.1.1 (h3.2.1.2 hdf3) ?_⟩) h2
   rw [Array.setIfInBounds_comm _ _ hji]
   exact h3.2.2
theorem wT {i:Nat} {oi:Oper} {v:Value} {fuel:Nat} {listed:Array Bool} {a:Act} {w:World} (hi:ops[i]?=some oi) (hid:i≠d)
  (hs:Region.noSelect ops=true) (hf:Region.free md ops listed i=true) (hr:(Region.ready md ops listed).contains i=true)
  (hQ:∀ c a w,Q (.panic c) (a.put oi.dst v) w→Q (.panic c) a w) (hy:YieldsIf P ops S oi v a) (hS:S w) (hT:listed.getD d false=false→T w)
  (h:wpAnyB P md ops Q S T d fuel (listed.setIfInBounds i true) (a.put oi.dst v) w):wpAnyB P md ops Q S T d (fuel+1) listed a w :=
 wpAnyB_first hi hid (Region.noSelect_spec hs) hQ fuel listed a w (Region.free_spec hi hf) (by simpa using hr) hy hS hT h
theorem wU {i : Nat} {oi : Oper} {v : Value} {fuel : Nat} {listed : Array Bool} {a : Act} {w : World} (hi : ops[i]? = some oi) (hy : YieldsIf P ops S oi v a) (hS : S w) (hT : listed.getD d false = false → T w)
  (h : wpAnyB P md ops Q S T d fuel (listed.setIfInBounds i true) (a.put oi.dst v) w) (hid : i ≠ d := by decide)
  (hs : Region.noSelect ops = true := by kernel_rfl) (hf : Region.free md ops listed i = true := by kernel_rfl) (hr : (Region.ready md ops listed).contains i = true := by kernel_rfl)
  (hQ : ∀ c a w, Q (.panic c) (a.put oi.dst v) w → Q (.panic c) a w := by exact fun _ _ _ h => h) : wpAnyB P md ops Q S T d (fuel + 1) listed a w :=
 wT hi hid hs hf hr hQ hy hS hT h
theorem wV (i : Nat) {oi : Oper} {v : Value} {fuel : Nat} {listed : Array Bool} {a : Act} {w : World} (hi : ops[i]? = some oi) (hS : S w) (hT : T w)
  (h : wpAnyB P md ops Q S T d fuel (listed.setIfInBounds i true) (a.put oi.dst v) w) (hg : Region.wanted oi (yielded ops a.tmps) = true := by rfl)
  (hy : ∀ w, S w → (execOp a.eval oi).run P w = .ok (.value v) w := by (intro W hSw; (try dsimp only at hSw); (repeat obtain ⟨_, hSw⟩ := hSw); go_simp; try with_reducible rfl)) (hid : i ≠ d := by decide)
  (hs : Region.noSelect ops = true := by kernel_rfl) (hf : Region.free md ops listed i = true := by kernel_rfl) (hr : (Region.ready md ops listed).contains i = true := by kernel_rfl)
  (hQ : ∀ c a w, Q (.panic c) (a.put oi.dst v) w → Q (.panic c) a w := by exact fun _ _ _ h => h) : wpAnyB P md ops Q S T d (fuel + 1) listed a w :=
 wT hi hid hs hf hr hQ (Or.inl ⟨hg, hy⟩) hS (fun _ => hT) h
theorem wN (i : Nat) {oi : Oper} {fuel : Nat} {listed : Array Bool} {a : Act} {w : World} (hi : ops[i]? = some oi) (hS : S w) (hT : T w)
  (h : wpAnyB P md ops Q S T d fuel (listed.setIfInBounds i true) (a.put oi.dst undef) w) (hg : Region.wanted oi (yielded ops a.tmps) = false := by rfl) (hid : i ≠ d := by decide)
  (hs : Region.noSelect ops = true := by kernel_rfl) (hf : Region.free md ops listed i = true := by kernel_rfl) (hr : (Region.ready md ops listed).contains i = true := by kernel_rfl)
  (hQ : ∀ c a w, Q (.panic c) (a.put oi.dst undef) w → Q (.panic c) a w := by exact fun _ _ _ h => h) : wpAnyB P md ops Q S T d (fuel + 1) listed a w :=
 wT hi hid hs hf hr hQ (Or.inr ⟨hg, rfl⟩) hS (fun _ => hT) h
theorem wpAnyB_takeT {i:Nat} {oi od:Oper} {v:Value} {fuel:Nat} {listed:Array Bool} {a:Act} {w:World} (hi:ops[i]?=some oi) (hid:i≠d) (hd:ops[d]?=some od) (hdi:∃ e∈od.after,Region.binds md e=true∧e.on=i)
  (hs:Region.noSelect ops=true) (hf:Region.free md ops listed i=true) (hr:(Region.ready md ops listed).contains i=true)
  (hQ:∀ c a w,Q (.panic c) (a.put oi.dst v) w→Q (.panic c) a w) (hy:YieldsIf P ops (fun w=>S w∧T w) oi v a) (hdf:listed.getD d false=false) (hS:S w) (hT:T w)
  (h:wpAnyB P md ops Q S T d fuel (listed.setIfInBounds i true) (a.put oi.dst v) w):wpAnyB P md ops Q S T d (fuel+1) listed a w :=
 wpAnyB_firstT hi hid hd hdi (Region.noSelect_spec hs) hQ fuel listed a w (Region.free_spec hi hf) (by simpa using hr) hy hdf hS hT h
theorem zAG {i:Nat} {oi od:Oper} {v:Value} {fuel:Nat} {listed:Array Bool} {a:Act} {w:World} (hi:ops[i]?=some oi) (hid:i≠d) (hd:ops[d]?=some od) (hdi:(od.after.any fun e=>Region.binds md e && e.on==i)=true)
  (hs:Region.noSelect ops=true) (hf:Region.free md ops listed i=true) (hr:(Region.ready md ops listed).contains i=true)
  (hQ:∀ c a w,Q (.panic c) (a.put oi.dst v) w→Q (.panic c) a w) (hy:YieldsIf P ops (fun w=>S w∧T w) oi v a) (hdf:listed.getD d false=false) (hS:S w) (hT:T w)
  (h:wpAnyB P md ops Q S T d fuel (listed.setIfInBounds i true) (a.put oi.dst v) w):wpAnyB P md ops Q S T d (fuel+1) listed a w :=
 wpAnyB_takeT hi hid hd (by
  obtain ⟨k,hk,hb⟩:=Array.any_eq_true.1 hdi
  rw [Bool.and_eq_true,beq_iff_eq] at hb
  exact ⟨_,Array.getElem_mem hk,hb.1,hb.2⟩) hs hf hr hQ hy hdf hS hT h
theorem wpAnyB_all {rs:List Nat} {fuel:Nat} {listed:Array Bool} {a:Act} {w:World} (hr:Region.ready md ops listed=rs) (hne:rs≠[])
  (h:∀ i∈rs,wpOp P ops Q i (fun a' w'=>(S w'∧((listed.setIfInBounds i true).getD d false=false→T w'))∧wpAnyB P md ops Q S T d fuel (listed.setIfInBounds i true) a' w') a w):wpAnyB P md ops Q S T d (fuel+1) listed a w :=
 ⟨fun h0=>absurd (hr▸h0) hne,hr▸h⟩
theorem wpAnyB_done {listed:Array Bool} {a:Act} {w:World} (hr:Region.ready md ops listed=[]) (h:Q .normal a w):∀ fuel,wpAnyB P md ops Q S T d fuel listed a w
 |0=>⟨hr,h⟩
 |_+1=>⟨fun _=>h,by rw [hr];simp⟩
theorem zA9 {id:Nat} {a:Act} {w:World} (hm:P.follows .mixedOrders=true)
  (h:wpAnyB P .any ops Q S T d ops.size (Array.replicate ops.size false) a w.drew):(Code.region id ops true).wp P Q a w :=
 wp_region_any hm (wpAny_of_B _ _ _ _ h)
def AllReadyB (P:Program) (md:Region.Mode) (ops:Array Oper) (Q:Exit→Act→World→Prop) (S T:World→Prop) (d fuel:Nat) (listed:Array Bool) (a:Act) (w:World) (rs:List Nat):Prop :=
 ∀ i∈rs,wpOp P ops Q i (fun a' w'=>(S w'∧((listed.setIfInBounds i true).getD d false=false→T w'))∧wpAnyB P md ops Q S T d fuel (listed.setIfInBounds i true) a' w') a w
theorem wpBS {R : World → Prop} {id : Nat} {a : Act} {w : World} (HS : ∀ C : World, R C → S C) (hm : P.follows .mixedOrders = true) (h : wpAnyB P .any ops Q S T d ops.size (Array.replicate ops.size false) a w.drew) : (Code.region id ops true).wp P Q a w := zA9 hm h
theorem AllReadyB.n {fuel:Nat} {listed:Array Bool} {a:Act} {w:World}:AllReadyB P md ops Q S T d fuel listed a w []:=fun _ h=>by cases h
theorem AllReadyB.c {fuel:Nat} {listed:Array Bool} {a:Act} {w:World} {i:Nat} {o:Oper} {rs:List Nat} (ho:ops[i]?=some o)
  (h:∀ K':Act→World→Prop,Shut (∀ a w,S w→((listed.setIfInBounds i true).getD d false=false→T w)→wpAnyB P md ops Q S T d fuel (listed.setIfInBounds i true) a w→K' a w)→if Region.wanted o (yielded ops a.tmps)=true then Oper.wp P o a w K' Q else K' (a.put o.dst undef) w)
  (hs:AllReadyB P md ops Q S T d fuel listed a w rs):AllReadyB P md ops Q S T d fuel listed a w (i :: rs):=fun j hj=>by
 rcases List.mem_cons.1 hj with rfl | hj
 ·exact wpOp_step ho (fun K' hK=>h K' (fun a w h1 h2 h3=>hK a w ⟨⟨h1,h2⟩,h3⟩))
 ·exact hs j hj
theorem wR {rs:List Nat} {fuel:Nat} {listed:Array Bool} {a:Act} {w:World} (hr:Region.ready md ops listed=rs) (hne:rs≠[])
  (h:AllReadyB P md ops Q S T d fuel listed a w rs):wpAnyB P md ops Q S T d (fuel+1) listed a w:=wpAnyB_all hr hne h
theorem w1 (i : Nat) {o : Oper} {fuel : Nat} {listed : Array Bool} {a : Act} {w : World} (ho : ops[i]? = some o)
  (h : ∀ K' : Act → World → Prop, Shut (∀ a w, S w → ((listed.setIfInBounds i true).getD d false = false → T w) → wpAnyB P md ops Q S T d fuel (listed.setIfInBounds i true) a w → K' a w) → if Region.wanted o (yielded ops a.tmps) = true then Oper.wp P o a w K' Q else K' (a.put o.dst undef) w)
  (hr : Region.ready md ops listed = [i] := by kernel_rfl) : wpAnyB P md ops Q S T d (fuel + 1) listed a w :=
 wR hr (by simp) (.c ho h .n)
theorem wE {fuel:Nat} {listed:Array Bool} {a:Act} {w:World} (hr:(Region.ready md ops listed).isEmpty=true) (h:Q .normal a w):wpAnyB P md ops Q S T d fuel listed a w :=
 wpAnyB_done (List.isEmpty_iff.1 hr) h fuel
end
end Go.Proofs.YtjjclcmmfeegfaaGreatDoor
