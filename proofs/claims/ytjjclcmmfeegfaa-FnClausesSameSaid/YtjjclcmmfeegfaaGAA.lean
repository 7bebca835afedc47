/-
  Lemmas, and contracts of functions. Conditions: none.
-/
import Derived.WalkKit
import Derived.WalkSpells
import Derived.WalkLawsBesides
import Derived.Lib.Hide
import Derived.Deep.Draws
import Derived.Laws.OwnMore
import Derived.Test.YtjjclcmmfeegfaaChecked
import Derived.Deep.RegionWith
import Derived.Deep.RegionHeld3
import Derived.Deep.AppendLies
import Derived.Maps.AppendAt
import Derived.Deep.QuietTactic
import Derived.BigQuiet
import Derived.Laws.EntriesVeiled
import Derived.Maps.OwnOps
import Derived.Maps.Views

set_option linter.unusedVariables false
set_option linter.unusedSimpArgs false
set_option maxRecDepth 100000
set_option maxHeartbeats 1600000

namespace Go.Proofs.Ytjjclcmmfeegfaa
open Go.RowKit
theorem jj {p : Prop} (h : p) : Hid p := h
theorem zz7 (w : World) (a : Addr) (u : Value) (k : Nat) (h : k ≠ a.block) : (w.setCell a u).heap[k]? = w.heap[k]? := Below.heap_setCell w a u k h
theorem zz8 (n : Nat) : n ≤ n := Nat.le_refl n
theorem zz9 {n m k : Nat} (h : n < m) (g : m ≤ k) : n < k := Nat.lt_of_lt_of_le h g
theorem zy1 {α : Type _} {a b : α} : a ∈ [b] ↔ a = b := List.mem_singleton
theorem zy2 (B : Nat) (w : World) : Below B w w := Below.refl B w
theorem zz1 {α : Type _} {xs : List α} {i : Nat} (h : i < xs.toArray.size) : xs.toArray[i] = xs[i]'(by simpa using h) := rfl
theorem zz2 {α : Type _} (a : α) (bs : List α) (h : 0 < (a :: bs).length) : (a :: bs)[0] = a := rfl
theorem zz3 {α : Type _} (a : α) (bs : List α) (i : Nat) (h : i + 1 < (a :: bs).length) : (a :: bs)[i + 1] = bs[i]'(Nat.lt_of_succ_lt_succ h) := rfl
theorem zz4 {α : Type _} (l : List α) (i : Nat) (a : α) : l.toArray.setIfInBounds i a = (l.set i a).toArray := List.setIfInBounds_toArray l i a
theorem zz5 {α : Type _} {x : α} {xs : List α} {a : α} : (x :: xs).set 0 a = a :: xs := rfl
theorem zz6 {α : Type _} {x : α} {xs : List α} {i : Nat} {a : α} : (x :: xs).set (i + 1) a = x :: xs.set i a := rfl
theorem zz : (∀ (a : Act) (d : Tmp) (v : Value), a.put (some d) v = { a with tmps := a.tmps.setIfInBounds d v }) ∧ (∀ (a : Act) (v : Value), a.put none v = a) ∧ (∀ {α : Type} {xs : List α} {i : Nat} (h : i < xs.toArray.size), xs.toArray[i] = xs[i]'(by simpa using h)) ∧ (∀ {α : Type} (a : α) (bs : List α) (h : 0 < (a :: bs).length), (a :: bs)[0] = a) ∧ (∀ {α : Type} (a : α) (bs : List α) (i : Nat) (h : i + 1 < (a :: bs).length), (a :: bs)[i + 1] = bs[i]'(Nat.lt_of_succ_lt_succ h)) ∧ (∀ {α : Type} (l : List α) (i : Nat) (a : α), l.toArray.setIfInBounds i a = (l.set i a).toArray) ∧ (∀ {α : Type} {x : α} {xs : List α} {a : α}, (x :: xs).set 0 a = a :: xs) ∧ (∀ {α : Type} {x : α} {xs : List α} {i : Nat} {a : α}, (x :: xs).set (i + 1) a = x :: xs.set i a) := ⟨fun _ _ _ => rfl, fun _ _ => rfl, fun _ => rfl, fun _ _ _ => rfl, fun _ _ _ _ => rfl, fun l i a => List.setIfInBounds_toArray l i a, rfl, rfl⟩
instance : Coe Int Value := ⟨fun x => .int .i64 x⟩
instance : Coe World Nat := ⟨fun w => w.heap.size⟩
def Kp (n : Nat) (S : World → Prop) : Prop := ∀ U U' : World, S U → Below U.heap.size U U' → n ≤ U.heap.size → S U'
/-! ### Names -/
def lowerAll (l:List UInt8):Bool:=l.all fun c=>97≤c && c≤122
def nameOk:List UInt8→Bool
 |[]=>false
 |c :: l=>decide (l.length≤4) && (65≤c && c≤90) && lowerAll l
theorem lowerAll_one (c:UInt8):lowerAll [c]=(decide (97≤c.toNat) && decide (c.toNat≤122)):=by
 simp only [lowerAll,List.all_cons,List.all_nil,Bool.and_true]
 rw [Bool.eq_iff_iff];simp [UInt8.le_iff_toNat_le]
theorem nameOk_cons (c:UInt8) (l:List UInt8):nameOk (c :: l)=(decide (l.length≤4) && (decide (65≤c.toNat) && decide (c.toNat≤90)) && lowerAll l):=by
 simp only [nameOk]
 rw [Bool.eq_iff_iff];simp [UInt8.le_iff_toNat_le]
/-! ### Footprints: the blocks that a datum lies in -/
def Kept (F:List Nat) (w w':World):Prop:=∀ b∈F,w'.heap[b]?=w.heap[b]?
def Under (n:Nat) (F:List Nat):Prop:=∀ b∈F,b<n
def Fresh (w w':World) (F:List Nat):Prop:=∀ b∈F,w.heap.size≤b∧b<w'.heap.size
def Free (w:World) (F:List Nat):Prop:=F.Nodup∧∀ b∈F,∀ i,w.frozen? ⟨b,i,none⟩=false
theorem Kept.of_below {F:List Nat} {w w':World} {B:Nat} (h:Below B w w') (hF:Under B F):Kept F w w':=fun b hb=>h.block b (hF b hb)
theorem Under.mono {n m:Nat} {F:List Nat} (h:Under n F) (hm:n≤m):Under m F:=fun b hb=>zz9 (h b hb) hm
theorem Under.drew {w:World} {F:List Nat} (h:Under w F):Under w.drew.heap.size F:=h
theorem Under.nil (n:Nat):Under n []:=fun b hb=>by cases hb
theorem Under.sub {n:Nat} {F G:List Nat} (h:Under n F) (hs:∀ b∈G,b∈F):Under n G:=fun b hb=>h b (hs b hb)
theorem Fresh.under {w w':World} {F:List Nat} (h:Fresh w w' F):Under w'.heap.size F:=fun b hb=>(h b hb).2
theorem Fresh.nil (w w':World):Fresh w w' []:=fun b hb=>by cases hb
theorem Free.nil (w:World):Free w []:=⟨List.nodup_nil,fun b hb=>by cases hb⟩
theorem Free.kept {w w':World} {F:List Nat} (h:Free w F) (hk:Kept F w w'):Free w' F :=
 ⟨h.1,fun b hb i=>(World.frozen?_of_block (w:=w) (a:=⟨b,i,none⟩) (hk b hb)).trans (h.2 b hb i)⟩
/-! ### Rows of elements of several cells -/
def CellsAt (w:World) (b off:Nat) (cs:List Value):Prop:=∀ j u,cs[j]?=some u→w.cell? ⟨b,off+j,none⟩=some u
theorem CellsAt.same {w w':World} {b off:Nat} {cs:List Value} (h:CellsAt w b off cs) (e:w'.heap[b]?=w.heap[b]?):CellsAt w' b off cs :=
 fun j u hj=>(World.cell?_of_block (a:=⟨b,off+j,none⟩) e).trans (h j u hj)
theorem CellsAt.left {w:World} {b off:Nat} {c d:List Value} (h:CellsAt w b off (c ++ d)):CellsAt w b off c :=
 fun j u hj=>h j u (by rw [List.getElem?_append_left (List.getElem?_eq_some_iff.1 hj).1];exact hj)
theorem CellsAt.right {w:World} {b off:Nat} {c d:List Value} (h:CellsAt w b off (c ++ d)):CellsAt w b (off+c.length) d :=
 fun j u hj=>by
  have:=h (c.length+j) u (by rw [List.getElem?_append_right (by omega)];simpa using hj)
  rwa [←Nat.add_assoc] at this
theorem CellsAt.append {w:World} {b off:Nat} {c d:List Value} (h:CellsAt w b off c) (h':CellsAt w b (off+c.length) d):CellsAt w b off (c ++ d) :=
 fun j u hj=>by
  rcases Nat.lt_or_ge j c.length with hl | hl
  ·exact h j u (by rwa [List.getElem?_append_left hl] at hj)
  ·have:=h' (j-c.length) u (by rwa [List.getElem?_append_right hl] at hj)
   rwa [show off+c.length+(j-c.length)=off+j by omega] at this
def Flat {α:Type} (R:α→List Value→List Nat→Prop):List α→List Value→List Nat→Prop
 |[],cs,F=>cs=[]∧F=[]
 |x :: xs,cs,F=>∃ c1 c2 F1 F2,cs=c1 ++ c2∧F=F1 ++ F2∧R x c1 F1∧Flat R xs c2 F2
theorem Flat.append {α:Type} {R:α→List Value→List Nat→Prop}:∀ {xs ys:List α} {c d:List Value} {F G:List Nat},Flat R xs c F→Flat R ys d G→Flat R (xs ++ ys) (c ++ d) (F ++ G)
 |[],ys,c,d,F,G,h,h'=>by obtain ⟨rfl,rfl⟩:=h;exact h'
 |x :: xs,ys,c,d,F,G,h,h'=>by
  obtain ⟨c1,c2,F1,F2,rfl,rfl,h1,h2⟩:=h
  exact ⟨c1,c2 ++ d,F1,F2 ++ G,by simp,by simp,h1,h2.append h'⟩
theorem Flat.one {α:Type} {R:α→List Value→List Nat→Prop} {x:α} {c:List Value} {F:List Nat} (h:R x c F):Flat R [x] c F:=⟨c,[],F,[],by simp,by simp,h,rfl,rfl⟩
theorem Flat.split {α:Type} {R:α→List Value→List Nat→Prop}:∀ (xs:List α) {ys:List α} {c:List Value} {F:List Nat},Flat R (xs ++ ys) c F→∃ c1 c2 F1 F2,c=c1 ++ c2∧F=F1 ++ F2∧Flat R xs c1 F1∧Flat R ys c2 F2
 |[],ys,c,F,h=>⟨[],c,[],F,rfl,rfl,⟨rfl,rfl⟩,h⟩
 |x :: xs,ys,c,F,h=>by
  obtain ⟨c1,c2,F1,F2,rfl,rfl,h1,h2⟩:=h
  obtain ⟨d1,d2,G1,G2,rfl,rfl,h3,h4⟩:=Flat.split xs h2
  exact ⟨c1 ++ d1,d2,F1 ++ G1,G2,by simp,by simp,⟨c1,d1,F1,G1,rfl,rfl,h1,h3⟩,h4⟩
theorem Flat.mono {α:Type} {R R':α→List Value→List Nat→Prop}:∀ {xs:List α} {c:List Value} {F:List Nat},Flat R xs c F→(∀ x∈xs,∀ cs G,(∀ b∈G,b∈F)→R x cs G→R' x cs G)→Flat R' xs c F
 |[],c,F,h,_=>h
 |x :: xs,c,F,h,hR=>by
  obtain ⟨c1,c2,F1,F2,rfl,rfl,h1,h2⟩:=h
  exact ⟨c1,c2,F1,F2,rfl,rfl,hR x (by simp) _ _ (fun b hb=>List.mem_append.2 (.inl hb)) h1,h2.mono fun y hy cs G hG h=>hR y (by simp [hy]) cs G (fun b hb=>List.mem_append.2 (.inr (hG b hb))) h⟩
theorem Flat.length {α:Type} {R:α→List Value→List Nat→Prop} {k:Nat} (hk:∀ x cs F,R x cs F→cs.length=k):∀ {xs:List α} {c:List Value} {F:List Nat},Flat R xs c F→c.length=xs.length*k
 |[],c,F,h=>by obtain ⟨rfl,-⟩:=h;simp
 |x :: xs,c,F,h=>by
  obtain ⟨c1,c2,F1,F2,rfl,rfl,h1,h2⟩:=h
  have:=h2.length hk
  have:=hk _ _ _ h1
  simp only [List.length_append,List.length_cons,Nat.add_mul]
  omega
theorem Flat.get {α:Type} {R:α→List Value→List Nat→Prop} {k:Nat} (hk:∀ x cs F,R x cs F→cs.length=k) {w:World} {b off:Nat}:∀ {xs:List α} {c:List Value} {F:List Nat} {off:Nat},Flat R xs c F→CellsAt w b off c →
  ∀ {i:Nat} {x:α},xs[i]?=some x→∃ cs G,CellsAt w b (off+i*k) cs∧R x cs G∧∀ b∈G,b∈F
 |[],c,F,off,_,_,i,x,hi=>by simp at hi
 |y :: xs,c,F,off,h,hc,i,x,hi=>by
  obtain ⟨c1,c2,F1,F2,rfl,rfl,h1,h2⟩:=h
  cases i with
  |zero =>
   simp at hi
   subst hi
   exact ⟨c1,F1,by simpa using hc.left,h1,fun b hb=>List.mem_append.2 (.inl hb)⟩
  |succ i =>
   have hc2:=hc.right
   rw [hk _ _ _ h1] at hc2
   obtain ⟨cs,G,a,b,d⟩:=Flat.get (off:=off) hk h2 hc2 (by simpa using hi)
   exact ⟨cs,G,by rwa [show off+(i+1)*k=off+k+i*k by rw [Nat.add_mul];omega],b,fun b hb=>List.mem_append.2 (.inr (d b hb))⟩
def Arr {α:Type} (w:World) (R:α→List Value→List Nat→Prop) (xs:List α) (v:Value) (F:List Nat):Prop :=
 ∃ A cap,v=.slice A xs.length cap∧xs.length≤cap∧cap≤maxLen ∧
  ((xs=[]∧F=[])∨∃ b off cs G,A=some ⟨b,off,none⟩∧CellsAt w b off cs∧Flat R xs cs G∧F=b :: G)
theorem Arr.nil {α:Type} {w:World} {R:α→List Value→List Nat→Prop}:Arr w R [] (.slice none 0 0) []:=⟨none,0,rfl,by simp,by simp [maxLen],.inl ⟨rfl,rfl⟩⟩
theorem Arr.mono {α:Type} {w w':World} {R R':α→List Value→List Nat→Prop} {xs:List α} {v:Value} {F:List Nat} (h:Arr w R xs v F)
  (hF:Kept F w w') (hR:∀ x∈xs,∀ cs G,Kept G w w'→R x cs G→R' x cs G):Arr w' R' xs v F:=by
 obtain ⟨A,cap,rfl,h1,h2,h3⟩:=h
 refine ⟨A,cap,rfl,h1,h2,?_⟩
 rcases h3 with h3 | ⟨b,off,cs,G,rfl,hc,hf,rfl⟩
 ·exact .inl h3
 ·exact .inr ⟨b,off,cs,G,rfl,hc.same (hF b (by simp)),hf.mono fun x hx cs H hH hr=>hR x hx cs H (fun b hb=>hF b (by simp [hH b hb])) hr,rfl⟩
theorem Arr.get {α:Type} {w:World} {R:α→List Value→List Nat→Prop} {k:Nat} (hk:∀ x cs F,R x cs F→cs.length=k) {xs:List α} {A:Option Addr} {n cap:Nat} {F:List Nat} (h:Arr w R xs (.slice A n cap) F) {i:Nat} (hi:i<xs.length) :
  ∃ b off cs G,A=some ⟨b,off,none⟩∧b∈F∧CellsAt w b (off+i*k) cs∧R xs[i] cs G∧∀ b∈G,b∈F:=by
 obtain ⟨A',cap',hv,h1,h2,h3⟩:=h
 cases hv
 rcases h3 with ⟨rfl,-⟩ | ⟨b,off,cs,G,rfl,hc,hf,rfl⟩
 ·simp at hi
 ·obtain ⟨ds,H,a,r,d⟩:=hf.get (off:=off) hk hc (List.getElem?_eq_getElem hi)
  exact ⟨b,off,ds,H,rfl,by simp,a,r,fun b hb=>by simp [d b hb]⟩
theorem Arr.form {α:Type} {w:World} {R:α→List Value→List Nat→Prop} {xs:List α} {v:Value} {F:List Nat} (h:Arr w R xs v F):∃ A cap,v=.slice A xs.length cap∧xs.length≤cap∧cap≤9223372036854775807:=by
 obtain ⟨A,cap,rfl,h1,h2,-⟩:=h
 exact ⟨A,cap,rfl,h1,by unfold maxLen at h2;omega⟩
/-! ### A block that is known whole -/
def Blk (w:World) (g:Nat) (t:TypeId) (C:Array Value):Prop:=w.heap[g]?=some (.cells C t (0,0))
theorem Blk.lt {w:World} {g:Nat} {t:TypeId} {C:Array Value} (h:Blk w g t C):g<w.heap.size:=by
 rcases Nat.lt_or_ge g w.heap.size with hlt | hge
 ·exact hlt
 ·unfold Blk at h;rw [Array.getElem?_eq_none hge] at h;cases h
theorem Blk.cell {w:World} {g:Nat} {t:TypeId} {C:Array Value} (h:Blk w g t C) (i:Nat):w.cell? ⟨g,i,none⟩=C[i]?:=cell_of_row w g i C t (0,0) h
theorem Blk.c1 {w : World} {b : Nat} {T : TypeId} {x0 : Value} (h : Blk w b T #[x0]) : w.cell? ⟨b, 0, none⟩ = some x0 ∧ b < w.heap.size := ⟨(h.cell 0).trans (by simp), h.lt⟩
theorem Blk.c2 {w : World} {b : Nat} {T : TypeId} {x0 x1 : Value} (h : Blk w b T #[x0, x1]) : w.cell? ⟨b, 0, none⟩ = some x0 ∧ w.cell? ⟨b, 1, none⟩ = some x1 ∧ b < w.heap.size := ⟨(h.cell 0).trans (by simp), (h.cell 1).trans (by simp), h.lt⟩
theorem Blk.c3 {w : World} {b : Nat} {T : TypeId} {x0 x1 x2 : Value} (h : Blk w b T #[x0, x1, x2]) : w.cell? ⟨b, 0, none⟩ = some x0 ∧ w.cell? ⟨b, 1, none⟩ = some x1 ∧ w.cell? ⟨b, 2, none⟩ = some x2 ∧ b < w.heap.size := ⟨(h.cell 0).trans (by simp), (h.cell 1).trans (by simp), (h.cell 2).trans (by simp), h.lt⟩
theorem Blk.c4 {w : World} {b : Nat} {T : TypeId} {x0 x1 x2 x3 : Value} (h : Blk w b T #[x0, x1, x2, x3]) : w.cell? ⟨b, 0, none⟩ = some x0 ∧ w.cell? ⟨b, 1, none⟩ = some x1 ∧ w.cell? ⟨b, 2, none⟩ = some x2 ∧ w.cell? ⟨b, 3, none⟩ = some x3 ∧ b < w.heap.size := ⟨(h.cell 0).trans (by simp), (h.cell 1).trans (by simp), (h.cell 2).trans (by simp), (h.cell 3).trans (by simp), h.lt⟩
theorem Blk.c6 {w : World} {b : Nat} {T : TypeId} {x0 x1 x2 x3 x4 x5 : Value} (h : Blk w b T #[x0, x1, x2, x3, x4, x5]) : w.cell? ⟨b, 0, none⟩ = some x0 ∧ w.cell? ⟨b, 1, none⟩ = some x1 ∧ w.cell? ⟨b, 2, none⟩ = some x2 ∧ w.cell? ⟨b, 3, none⟩ = some x3 ∧ w.cell? ⟨b, 4, none⟩ = some x4 ∧ w.cell? ⟨b, 5, none⟩ = some x5 ∧ b < w.heap.size := ⟨(h.cell 0).trans (by simp), (h.cell 1).trans (by simp), (h.cell 2).trans (by simp), (h.cell 3).trans (by simp), (h.cell 4).trans (by simp), (h.cell 5).trans (by simp), h.lt⟩
theorem Blk.frozen {w:World} {g:Nat} {t:TypeId} {C:Array Value} (h:Blk w g t C) (i:Nat):w.frozen? ⟨g,i,none⟩=false:=by
 unfold Blk at h
 simp [World.frozen?,h]
theorem Blk.q2 {w : World} {b : Nat} {T : TypeId} {x0 x1 : Value} (h : Blk w b T #[x0, x1]) : w.cell? ⟨b, 0, none⟩ = some x0 ∧ w.cell? ⟨b, 1, none⟩ = some x1 ∧ b < w.heap.size ∧ w.frozen? ⟨b, 0, none⟩ = false ∧ w.frozen? ⟨b, 1, none⟩ = false := ⟨(h.cell 0).trans (by simp), (h.cell 1).trans (by simp), h.lt, h.frozen 0, h.frozen 1⟩
theorem Blk.q3 {w : World} {b : Nat} {T : TypeId} {x0 x1 x2 : Value} (h : Blk w b T #[x0, x1, x2]) : w.cell? ⟨b, 0, none⟩ = some x0 ∧ w.cell? ⟨b, 1, none⟩ = some x1 ∧ w.cell? ⟨b, 2, none⟩ = some x2 ∧ b < w.heap.size ∧ w.frozen? ⟨b, 0, none⟩ = false ∧ w.frozen? ⟨b, 1, none⟩ = false ∧ w.frozen? ⟨b, 2, none⟩ = false := ⟨(h.cell 0).trans (by simp), (h.cell 1).trans (by simp), (h.cell 2).trans (by simp), h.lt, h.frozen 0, h.frozen 1, h.frozen 2⟩
theorem Blk.q6 {w : World} {b : Nat} {T : TypeId} {x0 x1 x2 x3 x4 x5 : Value} (h : Blk w b T #[x0, x1, x2, x3, x4, x5]) : w.cell? ⟨b, 0, none⟩ = some x0 ∧ w.cell? ⟨b, 1, none⟩ = some x1 ∧ w.cell? ⟨b, 2, none⟩ = some x2 ∧ w.cell? ⟨b, 3, none⟩ = some x3 ∧ w.cell? ⟨b, 4, none⟩ = some x4 ∧ w.cell? ⟨b, 5, none⟩ = some x5 ∧ b < w.heap.size ∧ w.frozen? ⟨b, 0, none⟩ = false ∧ w.frozen? ⟨b, 1, none⟩ = false ∧ w.frozen? ⟨b, 2, none⟩ = false ∧ w.frozen? ⟨b, 3, none⟩ = false ∧ w.frozen? ⟨b, 4, none⟩ = false ∧ w.frozen? ⟨b, 5, none⟩ = false := ⟨(h.cell 0).trans (by simp), (h.cell 1).trans (by simp), (h.cell 2).trans (by simp), (h.cell 3).trans (by simp), (h.cell 4).trans (by simp), (h.cell 5).trans (by simp), h.lt, h.frozen 0, h.frozen 1, h.frozen 2, h.frozen 3, h.frozen 4, h.frozen 5⟩
theorem Blk.new (w:World) (t:TypeId) (C:Array Value):Blk (w.alloc (.cells C t)) w.heap.size t C:=heap_alloc_new w _
theorem Blk.same {w w':World} {g:Nat} {t:TypeId} {C:Array Value} (h:Blk w g t C) (e:w'.heap[g]?=w.heap[g]?):Blk w' g t C:=e.trans h
theorem Blk.set_ {w:World} {g:Nat} {t:TypeId} {C:Array Value} (h:Blk w g t C) (i:Nat) (u:Value):Blk (w.setCell ⟨g,i,none⟩ u) g t (C.setIfInBounds i u):=by
 unfold Blk at h ⊢
 simp [World.setCell,Array.getElem?_modify,h]
def putCells (w:World) (g:Nat):Nat→List Value→World
 |_,[]=>w
 |i,c :: cs=>putCells (w.setCell ⟨g,i,none⟩ c) g (i+1) cs
theorem putCells_grown (g:Nat):∀ (cs:List Value) (w:World) (i:Nat),w.grownBy (putCells w g i cs) (some g)∧(putCells w g i cs).heap.size=w.heap.size
 |[],w,_=>⟨⟨rfl,rfl,rfl,zz8 _,fun _ _ _=>rfl⟩,rfl⟩
 |c :: cs,w,i=>by
  obtain ⟨h,hs⟩:=putCells_grown g cs (w.setCell ⟨g,i,none⟩ c) (i+1)
  have es:(w.setCell ⟨g,i,none⟩ c).heap.size=w.heap.size:=by simp [World.setCell]
  simp only [putCells]
  exact ⟨⟨h.os,h.tape,h.output,by rw [hs,es];exact zz8 _,fun k hk hne=>(h.block k (by rw [es];exact hk) hne).trans (zz7 _ _ _ _ (fun e=>hne (by rw [e])))⟩,by rw [hs,es]⟩
theorem Blk.put {g:Nat} {t:TypeId}:∀ (cs:List Value) {w:World} {C:Array Value} (i:Nat),Blk w g t C→i+cs.length≤C.size →
  ∃ C',Blk (putCells w g i cs) g t C'∧C'.size=C.size∧(∀ j,j<cs.length→C'[i+j]?=cs[j]?)∧∀ j,j<i∨i+cs.length≤j→C'[j]?=C[j]?
 |[],w,C,i,h,_=>⟨C,h,rfl,fun j hj=>by simp at hj,fun _ _=>rfl⟩
 |c :: cs,w,C,i,h,hi=>by
  simp only [List.length_cons] at hi
  obtain ⟨C',h1,h2,h3,h4⟩:=Blk.put cs (i+1) (h.set_ i c) (by simp;omega)
  refine ⟨C',h1,by simpa using h2,fun j hj=>?_,fun j hj=>?_⟩
  ·cases j with
   |zero =>
    rw [Nat.add_zero,h4 i (.inl (by omega))]
    simp [show i<C.size by omega]
   |succ j =>
    have:=h3 j (by simpa using hj)
    rwa [show i+1+j=i+(j+1) by omega] at this
  ·simp only [List.length_cons] at hj
   rw [h4 j (by omega)]
   rw [Array.getElem?_setIfInBounds,if_neg (by omega)]
def Row {α:Type} (w:World) (g:Nat) (t:TypeId) (k n:Nat) (R:α→List Value→List Nat→Prop) (xs:List α) (F:List Nat):Prop :=
 (∃ C:Array Value,Blk w g t C∧C.size=n*k)∧xs.length≤n∧∃ cs,CellsAt w g 0 cs∧Flat R xs cs F
/-! ### make -/
theorem run_make_rowN {P:Program} (t e:TypeId) (i:TypeInfo) (z:Value) (ht:P.underlying t=some (.slice e)) (hi:P.info? e=some i) (hz:i.zero=some z)
  (kl kc:IntKind) (n c:Nat) (hnc:n≤c) (hbytes:i.bytes*c≤281474976710656) (h63:c≤9223372036854775807) (w:World) :
  (Instr.makeSlice t (.int kl (n:Int)) (.int kc (c:Int))).run P w=.ok (.slice (some ⟨w,0,none⟩) n c) (w.alloc (.cells (madeCells z.cells (c*i.size)) e)):=by
 have hb:(i.bytes:Int)*(c:Int)≤281474976710656:=by
  have h:((i.bytes*c:Nat):Int)≤281474976710656:=by omega
  rwa [Int.natCast_mul] at h
 have hr:=run_make (P:=P) w t e i z ht hi hz kl kc n c (by omega) (by omega) hb (by omega)
 simp only [Int.toNat_natCast] at hr
 exact hr
theorem take_snoc' {α:Type} (l:List α) (k:Nat) (h:k<l.length):l.take (k+1)=l.take k ++ [l[k]]:=by
 rw [List.take_succ_eq_append_getElem h]
theorem zAP {k:IntKind} {a b:Int} (h:a=b):Ending.returned (.int k a)=.returned (.int k b):=by rw [h]
theorem zA0 {a b:Bool} (h:a=b):Ending.returned (.bool a)=.returned (.bool b):=by rw [h]
def sumBy {α:Type} (f:α→Nat):List α→Nat
 |[]=>0
 |x :: xs=>f x+sumBy f xs
theorem sumBy_snoc {α:Type} (f:α→Nat) (l:List α) (x:α):sumBy f (l ++ [x])=sumBy f l+f x:=by
 induction l with
 |nil=>simp [sumBy]
 |cons k l ih=>simp only [List.cons_append,sumBy,ih];omega
theorem sumBy_take_le {α:Type} (f:α→Nat) (l:List α) (k:Nat):sumBy f (l.take k)≤sumBy f l:=by
 induction l generalizing k with
 |nil=>simp [sumBy]
 |cons x l ih =>
  cases k with
  |zero=>simp [sumBy]
  |succ k=>simp only [List.take_succ_cons,sumBy];have:=ih k;omega
theorem sumBy_take_succ {α:Type} (f:α→Nat) (l:List α) (k:Nat) (h:k<l.length):sumBy f (l.take (k+1))=sumBy f (l.take k)+f l[k]:=by
 rw [take_snoc' l k h,sumBy_snoc]
theorem sumBy_mem_le {α:Type} (f:α→Nat) (l:List α) (k:Nat) (h:k<l.length):f l[k]≤sumBy f l:=by
 have h2:=sumBy_take_le f l (k+1)
 rw [sumBy_take_succ f l k h] at h2
 omega
def szLeft (n:Nat) (left:Int):Int:=if (n:Int)≤left then left-n else -1
theorem zB1 {B:Nat} {a w:World} (h:Below B a w) (n:Nat):Below B a (w.drewN n):=⟨h.os,h.tape,h.output,h.size,h.block⟩
/-! ### The first place at which a test holds -/
def FirstAt {α:Type} (p:α→Bool) (l:List α) (r:Int):Prop :=
 (∃ i:Nat,∃ h:i<l.length,r=i∧p l[i]=true∧∀ j (hj:j<l.length),j<i→p l[j]=false)∨(r = -1∧∀ j (hj:j<l.length),p l[j]=false)
theorem FirstAt.ex {α:Type} (p:α→Bool) (l:List α):∃ r,FirstAt p l r:=by
 induction l with
 |nil=>exact ⟨-1,.inr ⟨rfl,fun j hj=>by simp at hj⟩⟩
 |cons x xs ih =>
  cases hx:p x with
  |true=>exact ⟨0,.inl ⟨0,by simp,rfl,by simpa using hx,fun j hj h=>by omega⟩⟩
  |false =>
   obtain ⟨r,⟨i,h,rfl,hp,hm⟩ | ⟨rfl,hn⟩⟩:=ih
   ·refine ⟨((i+1:Nat):Int),.inl ⟨i+1,by simpa using h,rfl,by simpa using hp,fun j hj hlt=>?_⟩⟩
    cases j with
    |zero=>simpa using hx
    |succ j=>simpa using hm j (by simpa using hj) (by omega)
   ·refine ⟨-1,.inr ⟨rfl,fun j hj=>?_⟩⟩
    cases j with
    |zero=>simpa using hx
    |succ j=>simpa using hn j (by simpa using hj)
theorem FirstAt.hit {α:Type} {p:α→Bool} {l:List α} {r:Int} (h:FirstAt p l r) {k:Nat} (hk:k<l.length) (hp:p l[k]=true) (hm:∀ j (hj:j<l.length),j<k→p l[j]=false):r=k:=by
 rcases h with ⟨i,hi,rfl,hpi,hmi⟩ | ⟨rfl,hn⟩
 ·rcases Nat.lt_trichotomy i k with h | h | h
  ·have:=hm i hi h;rw [hpi] at this;cases this
  ·rw [h]
  ·have:=hmi k hk h;rw [hp] at this;cases this
 ·have:=hn k hk;rw [hp] at this;cases this
theorem FirstAt.miss {α:Type} {p:α→Bool} {l:List α} {r:Int} (h:FirstAt p l r) (hn:∀ j (hj:j<l.length),p l[j]=false):r = -1:=by
 rcases h with ⟨i,hi,rfl,hpi,-⟩ | ⟨rfl,-⟩
 ·have:=hn i hi;rw [hpi] at this;cases this
 ·rfl
theorem FirstAt.any {α:Type} {p:α→Bool} {l:List α} {r:Int} (h:FirstAt p l r):l.any p=decide (0≤r):=by
 rcases h with ⟨i,hi,rfl,hp,-⟩ | ⟨rfl,hn⟩
 ·rw [decide_eq_true (by omega),List.any_eq_true]
  exact ⟨_,List.getElem_mem hi,hp⟩
 ·rw [decide_eq_false (by omega),List.any_eq_false]
  intro x hx
  obtain ⟨j,hj,rfl⟩:=List.getElem_of_mem hx
  simp [hn j hj]
/-! ### Equality of lists and of byte strings as Bool -/
def sameBy {α:Type} (f:α→α→Bool):List α→List α→Bool
 |[],[]=>true
 |x :: xs,y :: ys=>f x y && sameBy f xs ys
 |[],_ :: _=>false
 |_ :: _,[]=>false
theorem sameBy_iff {α:Type} {f:α→α→Bool} (h:∀ a b,f a b=true↔a=b):∀ xs ys,sameBy f xs ys=true↔xs=ys
 |[],[]=>by simp [sameBy]
 |[],_ :: _=>by simp [sameBy]
 |_ :: _,[]=>by simp [sameBy]
 |x :: xs,y :: ys=>by simp only [sameBy,Bool.and_eq_true,h,sameBy_iff h xs ys,List.cons.injEq]
theorem sameBy_len {α:Type} {f:α→α→Bool}:∀ {xs ys:List α},sameBy f xs ys=true→xs.length=ys.length
 |[],[],_=>rfl
 |[],_ :: _,h=>by simp [sameBy] at h
 |_ :: _,[],h=>by simp [sameBy] at h
 |x :: xs,y :: ys,h=>by
  simp only [sameBy,Bool.and_eq_true] at h
  simp [sameBy_len h.2]
theorem sameBy_len_false {α:Type} {f:α→α→Bool} {xs ys:List α} (h:xs.length≠ys.length):sameBy f xs ys=false:=by
 rw [Bool.eq_false_iff]
 exact fun e=>h (sameBy_len e)
theorem sameBy_drop {α:Type} {f:α→α→Bool} (xs ys:List α) (k:Nat) (h:k<xs.length) (h':k<ys.length):sameBy f (xs.drop k) (ys.drop k)=(f xs[k] ys[k] && sameBy f (xs.drop (k+1)) (ys.drop (k+1))):=by
 rw [List.drop_eq_getElem_cons h,List.drop_eq_getElem_cons h',sameBy]
@[ext] structure Ty where
 d:Int
 i:Int
def Ty.size (x:Ty):Nat:=0
def Ty.sizes (l:List Ty):Nat:=l.length+sumBy Ty.size l
def TyR (w:World) (x:Ty) (cs:List Value) (F:List Nat):Prop:=cs=[.int .i64 x.d] ++ [.int .i64 x.i]∧F=[]
theorem TyR_form {w:World} {x:Ty} {cs:List Value} {F:List Nat} (h:TyR w x cs F):cs=[.int .i64 x.d,.int .i64 x.i]:=h.1
theorem TyR_len {w:World} (x:Ty) (cs:List Value) (F:List Nat) (h:TyR w x cs F):cs.length=2:=by
 obtain ⟨rfl,-⟩:=h
 rfl
theorem TyR.mono {w w':World} (x:Ty) (cs:List Value) (F:List Nat) (_hF:Kept F w w') (h:TyR w x cs F):TyR w' x cs F:=h
theorem ArrTy.mono {w w':World} {vs:List Ty} {x:Value} {F:List Nat} (h:Arr w (TyR w) vs x F) (hF:Kept F w w'):Arr w' (TyR w') vs x F:=h.mono hF fun v _=>TyR.mono v
theorem ArrTy.below {w w':World} {B:Nat} {vs:List Ty} {x:Value} {F:List Nat} (h:Arr w (TyR w) vs x F) (hb:Below B w w') (hF:Under B F):Arr w' (TyR w') vs x F:=ArrTy.mono h (.of_below hb hF)
@[ext] structure Kt where
 name:ByteArray
 args:List Ty
 idx:Int
def Kt.size (x:Kt):Nat:=x.name.size+Ty.sizes x.args
def Kt.sizes (l:List Kt):Nat:=l.length+sumBy Kt.size l
def KtR (w:World) (x:Kt) (cs:List Value) (F:List Nat):Prop:=∃ kv:Value,cs=[.string x.name] ++ [kv] ++ [.int .i64 x.idx]∧Arr w (TyR w) x.args kv F∧x.name.size≤9223372036854775807
theorem KtR_form {w:World} {x:Kt} {cs:List Value} {F:List Nat} (h:KtR w x cs F):∃ A cap,cs=[.string x.name,.slice A x.args.length cap,.int .i64 x.idx]:=by
 obtain ⟨kv,rfl,ha,-⟩:=h
 obtain ⟨A,cap,rfl,-,-⟩:=ha.form
 exact ⟨A,cap,rfl⟩
theorem KtR_len {w:World} (x:Kt) (cs:List Value) (F:List Nat) (h:KtR w x cs F):cs.length=3:=by
 obtain ⟨A,cap,rfl⟩:=KtR_form h
 rfl
theorem KtR.mono {w w':World} (x:Kt) (cs:List Value) (F:List Nat) (hF:Kept F w w') (h:KtR w x cs F):KtR w' x cs F:=by
 obtain ⟨kv,e,ha,hs0⟩:=h
 exact ⟨_,e,ha.mono hF fun y _=>TyR.mono y,hs0⟩
theorem KtR.below {w w':World} {B:Nat} {v:Kt} {cs:List Value} {F:List Nat} (h:KtR w v cs F) (hb:Below B w w') (hF:Under B F):KtR w' v cs F:=KtR.mono v cs F (.of_below hb hF) h
@[ext] structure Dt where
 name:ByteArray
 ctors:List Kt
def Dt.size (x:Dt):Nat:=x.name.size+Kt.sizes x.ctors
def Dt.sizes (l:List Dt):Nat:=l.length+sumBy Dt.size l
def DtR (w:World) (x:Dt) (cs:List Value) (F:List Nat):Prop:=∃ kv:Value,cs=[.string x.name] ++ [kv]∧Arr w (KtR w) x.ctors kv F∧x.name.size≤9223372036854775807
theorem DtR_form {w:World} {x:Dt} {cs:List Value} {F:List Nat} (h:DtR w x cs F):∃ A cap,cs=[.string x.name,.slice A x.ctors.length cap]:=by
 obtain ⟨kv,rfl,ha,-⟩:=h
 obtain ⟨A,cap,rfl,-,-⟩:=ha.form
 exact ⟨A,cap,rfl⟩
theorem DtR_len {w:World} (x:Dt) (cs:List Value) (F:List Nat) (h:DtR w x cs F):cs.length=2:=by
 obtain ⟨A,cap,rfl⟩:=DtR_form h
 rfl
theorem DtR.mono {w w':World} (x:Dt) (cs:List Value) (F:List Nat) (hF:Kept F w w') (h:DtR w x cs F):DtR w' x cs F:=by
 obtain ⟨kv,e,ha,hs0⟩:=h
 exact ⟨_,e,ha.mono hF fun y _=>KtR.mono y,hs0⟩
theorem ArrDt.mono {w w':World} {vs:List Dt} {x:Value} {F:List Nat} (h:Arr w (DtR w) vs x F) (hF:Kept F w w'):Arr w' (DtR w') vs x F:=h.mono hF fun v _=>DtR.mono v
theorem ArrDt.below {w w':World} {B:Nat} {vs:List Dt} {x:Value} {F:List Nat} (h:Arr w (DtR w) vs x F) (hb:Below B w w') (hF:Under B F):Arr w' (DtR w') vs x F:=ArrDt.mono h (.of_below hb hF)
theorem ArrDt.drew {w:World} {vs:List Dt} {x:Value} {F:List Nat} (h:Arr w (DtR w) vs x F):Arr w.drew (DtR w.drew) vs x F:=ArrDt.mono (w:=w) h (fun _ _=>rfl)
def withinB (n lo hi:Int):Bool:=decide (lo≤n) && decide (n≤hi)
theorem withinB_lo {n lo hi:Int} (h:decide (lo≤n)=false):withinB n lo hi=false:=by unfold withinB;rw [h];rfl
theorem withinB_hi {n lo hi:Int} (h:decide (lo≤n)=true):withinB n lo hi=decide (n≤hi):=by unfold withinB;rw [h];rfl
theorem zAF (n lo hi:Int):withinB n lo hi=true↔lo≤n∧n≤hi:=by unfold withinB;simp
set_option maxHeartbeats 400000 in
theorem zAE (n lo hi:Int) (w:World):Calls Try.prog 80 #[.int .i64 n,.int .i64 lo,.int .i64 hi] w fun e w'=>e=.returned (.bool (withinB n lo hi))∧w=w':=by
 cases h:decide (lo≤n) with
 |false =>
  have hf:=jj (withinB_lo (hi:=hi) h)
  go_enter Try.func80,Try.ntmps80
  go_wp2
  go_ret
  exact ⟨zA0 hf.out.symm,rfl⟩
 |true =>
  have hf:=jj (withinB_hi (hi:=hi) h)
  go_enter Try.func80,Try.ntmps80
  go_wp2
  go_ret
  exact ⟨zA0 hf.out.symm,rfl⟩
def argOkB (n:Int) (t:Ty):Bool:=if t.d = -1 then t.i==0 else withinB t.d 0 (n-1) && withinB t.i (-1) 3
set_option maxHeartbeats 800000 in
theorem spec_l1Arg (n:Int) (t:Ty) (w:World):Calls Try.prog 97 #[.int .i64 n,.agg #[t.d,t.i]] w fun e w'=>e=.returned (.bool (argOkB n t))∧Below w w w':=by
 by_cases h:t.d = -1
 ·have h0:(t.d == -1)=true:=by simpa using h
  have hf:Hid (argOkB n t=(t.i==0)):=by unfold Hid argOkB;rw [if_pos h]
  clear h
  go_enter Try.func97,Try.ntmps97
  go_wp2
  go_ret
  exact ⟨zA0 hf.out.symm,(zy2 _ _).alloc (zz8 _) _⟩
 ·have h0:(t.d == -1)=false:=by simpa using h
  have hf0:argOkB n t=(withinB t.d 0 (n-1) && withinB t.i (-1) 3):=by unfold argOkB;rw [if_neg h]
  clear h
  have d1:decide (0≤t.d)=decide (t.d≥0):=rfl
  cases h1:decide (0≤t.d) with
  |false =>
   have hf:Hid (argOkB n t=false):=by rw [hf0,withinB_lo h1];rfl
   clear hf0 d1
   go_enter Try.func97,Try.ntmps97
   go_wp2
   go_ret
   exact ⟨zA0 hf.out.symm,(zy2 _ _).alloc (zz8 _) _⟩
  |true =>
   cases h2:decide (t.d<n) with
   |false =>
    have hf:Hid (argOkB n t=false):=by
     rw [hf0,withinB_hi h1]
     have:decide (t.d≤n-1)=false:=by simp at h2 ⊢;omega
     rw [this];rfl
    clear hf0 d1
    go_enter Try.func97,Try.ntmps97
    go_wp2
    go_ret
    exact ⟨zA0 hf.out.symm,(zy2 _ _).alloc (zz8 _) _⟩
   |true =>
    have hf1:argOkB n t=withinB t.i (-1) 3:=by
     rw [hf0,withinB_hi h1]
     have:decide (t.d≤n-1)=true:=by simp at h2 ⊢;omega
     rw [this];rfl
    clear hf0 d1
    cases h3:decide (-1≤t.i) with
    |false =>
     have hf:Hid (argOkB n t=false):=by rw [hf1,withinB_lo h3];rfl
     clear hf1
     go_enter Try.func97,Try.ntmps97
     go_wp2
     go_ret
     exact ⟨zA0 hf.out.symm,(zy2 _ _).alloc (zz8 _) _⟩
    |true =>
     have hf:Hid (argOkB n t=decide (t.i≤3)):=by rw [hf1,withinB_hi h3];rfl
     clear hf1
     go_enter Try.func97,Try.ntmps97
     go_wp2
     go_ret
     exact ⟨zA0 hf.out.symm,(zy2 _ _).alloc (zz8 _) _⟩
set_option maxHeartbeats 800000 in
theorem impl_argOk (A:Option Addr) (n cap:Nat) (t:Ty) (w:World) (hn:n≤9223372036854775807):Calls Try.prog 104 #[.slice A n cap,.agg #[t.d,t.i]] w fun e w'=>e=.returned (.bool (argOkB n t))∧Below w w w':=by
 cases h0:(t.d == -1) with
 |true =>
  cases h1:(t.i==0) with
  |true =>
   have hf:Hid (argOkB n t=true):=by unfold Hid argOkB;rw [if_pos (by simpa using h0),h1]
   go_enter Try.func104,Try.ntmps104
   go_wp2
   go_ret
   exact ⟨zA0 hf.out.symm,(zy2 _ _).alloc (zz8 _) _⟩
  |false =>
   have hf:Hid (argOkB n t=false):=by unfold Hid argOkB;rw [if_pos (by simpa using h0),h1]
   have hw:Hid (withinB t.d 0 ((n:Int)-1)=false):=by
    have:t.d = -1:=by simpa using h0
    exact withinB_lo (by rw [this];rfl)
   go_enter Try.func104,Try.ntmps104
   go_wp2_with fail
   refine (zAE t.d 0 ((n:Int)-1) _).mono ?_
   rintro e w' ⟨rfl,rfl⟩
   rw [hw.out]
   go_wp2
   go_ret
   exact ⟨zA0 hf.out.symm,(zy2 _ _).alloc (zz8 _) _⟩
 |false =>
  have hf0:argOkB n t=(withinB t.d 0 ((n:Int)-1) && withinB t.i (-1) 3):=by unfold argOkB;rw [if_neg (by simpa using h0)]
  cases hw:withinB t.d 0 ((n:Int)-1) with
  |false =>
   have hf:Hid (argOkB n t=false):=by rw [hf0,hw];rfl
   have HW:=jj hw
   clear hf0 hw
   go_enter Try.func104,Try.ntmps104
   go_wp2_with fail
   refine (zAE t.d 0 ((n:Int)-1) _).mono ?_
   rintro e w' ⟨rfl,rfl⟩
   rw [HW.out]
   go_wp2
   go_ret
   exact ⟨zA0 hf.out.symm,(zy2 _ _).alloc (zz8 _) _⟩
  |true =>
   have hf:Hid (argOkB n t=withinB t.i (-1) 3):=by rw [hf0,hw];rfl
   have HW:=jj hw
   clear hf0 hw
   go_enter Try.func104,Try.ntmps104
   go_wp2_with fail
   refine (zAE t.d 0 ((n:Int)-1) _).mono ?_
   rintro e w' ⟨rfl,rfl⟩
   rw [HW.out]
   go_wp2_with fail
   refine (zAE t.i (-1) 3 _).mono ?_
   rintro e w' ⟨rfl,rfl⟩
   generalize hbb:withinB t.i (-1) 3=bb
   have HBB:=jj hbb
   clear hbb
   go_wp2
   go_ret
   exact ⟨zA0 (hf.out.trans HBB.out).symm,(zy2 _ _).alloc (zz8 _) _⟩
theorem bytes_cons (s:ByteArray) (h:0<s.size):s.data.toList=s[0] :: s.data.toList.drop 1:=by
 rw [show s[0]=s.data.toList[0]'(by simpa using h) from rfl,List.getElem_cons_drop];rfl
theorem zAY (s:ByteArray) (h:s.size=0∨5<s.size):nameOk s.data.toList=false:=by
 rcases h with h | h
 ·rw [show s.data.toList=[] from List.eq_nil_of_length_eq_zero (by simpa using h)];rfl
 ·rw [bytes_cons s (by omega),nameOk_cons]
  have:decide ((s.data.toList.drop 1).length≤4)=false:=decide_eq_false (by simp;omega)
  rw [this];rfl
theorem zB7 (s:ByteArray) (h0:0<s.size) (h:(s[0].toNat:Int)<65∨(90:Int)<(s[0].toNat:Int)):nameOk s.data.toList=false:=by
 rw [bytes_cons s h0,nameOk_cons]
 have h2:(decide (65≤s[0].toNat) && decide (s[0].toNat≤90))=false:=by simp;omega
 rw [h2];simp
theorem lower_false_at (l:List UInt8) (k:Nat) (hk:k<l.length) (h:(l[k].toNat:Int)<97∨(122:Int)<(l[k].toNat:Int)):lowerAll l=false:=by
 have:l[k]∈l:=List.getElem_mem hk
 unfold lowerAll
 rw [List.all_eq_false]
 refine ⟨_,this,?_⟩
 simp [UInt8.le_iff_toNat_le]
 omega
theorem nameOk_false_at (s:ByteArray) (k:Nat) (h1:1≤k) (hk:k<s.size) (h:(s[k].toNat:Int)<97∨(122:Int)<(s[k].toNat:Int)):nameOk s.data.toList=false:=by
 rw [bytes_cons s (by omega),nameOk_cons]
 have:lowerAll (s.data.toList.drop 1)=false:=lower_false_at _ (k-1) (by simp;omega) (by
  have e:(s.data.toList.drop 1)[k-1]'(by simp;omega)=s[k]:=by
   rw [List.getElem_drop]
   show s.data.toList[1+(k-1)]'_=s.data.toList[k]'_
   congr 1;omega
  rw [e];exact h)
 rw [this];simp
theorem nameOk_true (s:ByteArray) (h0:0<s.size) (h5:s.size≤5) (ha:65≤(s[0].toNat:Int)) (hz:(s[0].toNat:Int)≤90) (h:∀ k (hk:k<s.size),1≤k→97≤(s[k].toNat:Int)∧(s[k].toNat:Int)≤122):nameOk s.data.toList=true:=by
 rw [bytes_cons s h0,nameOk_cons]
 have hl:lowerAll (s.data.toList.drop 1)=true:=by
  unfold lowerAll
  rw [List.all_eq_true]
  intro c hc
  obtain ⟨k,hk,rfl⟩:=List.getElem_of_mem hc
  have hk':1+k<s.size:=by simp at hk;omega
  have:=h (1+k) hk' (by omega)
  have e:(s.data.toList.drop 1)[k]=s[1+k]:=by rw [List.getElem_drop];rfl
  rw [e]
  simp [UInt8.le_iff_toNat_le]
  omega
 rw [hl,decide_eq_true (show (s.data.toList.drop 1).length≤4 by simp;omega),decide_eq_true (show 65≤s[0].toNat by omega),decide_eq_true (show s[0].toNat≤90 by omega)];rfl
set_option maxHeartbeats 1000000 in
theorem spec_NameValid (s:ByteArray) (w:World) (hs:s.size≤maxLen) :
  Calls Try.prog 120 #[.string s] w fun e w'=>e=.returned (.bool (nameOk s.data.toList))∧w=w':=by
 unfold maxLen at hs
 by_cases h0:s.size=0
 ·have hf:=jj (zAY s (.inl h0))
  have e0:((s.size:Int)==0)=true:=beq_iff_eq.2 (by omega)
  have e1:(s.size:Int)<1:=by omega
  clear h0
  go_enter Try.func120,Try.ntmps120
  go_wp2
  go_ret
  exact ⟨zA0 hf.out.symm,rfl⟩
 ·have e0:((s.size:Int)==0)=false:=beq_eq_false_iff_ne.2 (by omega)
  have e1:1≤(s.size:Int):=by omega
  by_cases h5:5<s.size
  ·have hf:=jj (zAY s (.inr h5))
   have e5:(5:Int)<(s.size:Int):=by omega
   go_enter Try.func120,Try.ntmps120
   go_wp2
   go_ret
   exact ⟨zA0 hf.out.symm,rfl⟩
  ·have p0:0<s.size:=by omega
   have p0':(0:Int)<(s.size:Int):=by omega
   have e5:(s.size:Int)≤5:=by omega
   by_cases ha:(s[0].toNat:Int)<65
   ·have hf:=jj (zB7 s p0 (.inl ha))
    go_enter Try.func120,Try.ntmps120
    go_wp2
    go_ret
    exact ⟨zA0 hf.out.symm,rfl⟩
   ·have ha1:65≤(s[0].toNat:Int):=by omega
    clear ha
    by_cases ha:(90:Int)<(s[0].toNat:Int)
    ·have hf:=jj (zB7 s p0 (.inr ha))
     have hd:decide ((s[0].toNat:Int)≤90)=false:=decide_eq_false (by omega)
     go_enter Try.func120,Try.ntmps120
     go_wp2
     go_ret
     exact ⟨zA0 hf.out.symm,rfl⟩
    ·have ha2:(s[0].toNat:Int)≤90:=by omega
     clear ha
     go_enter Try.func120,Try.ntmps120
     go_wp2
     go_loop [3] (fun i=>∃ k:Nat,1≤k∧k≤s.size∧i=.int .i64 k∧Hid (∀ j (hj:j<s.size),1≤j→j<k→97≤(s[j].toNat:Int)∧(s[j].toNat:Int)≤122)) (fun i=>s.size-(intOf i).toNat)
     case atStart=>exact ⟨1,zz8 _,by omega,rfl,fun j _ _ _=>by omega⟩
     case round =>
      obtain ⟨k,hk1,hk,rfl,HA⟩:=hrel
      by_cases hlt:k<s.size
      ·by_cases hc:(s[k].toNat:Int)<97
       ·have hf:=jj (nameOk_false_at s k hk1 hlt (.inl hc))
        go_wp2
        go_ret
        exact ⟨zA0 hf.out.symm,rfl⟩
       ·have hc1:97≤(s[k].toNat:Int):=by omega
        clear hc
        by_cases hc:(122:Int)<(s[k].toNat:Int)
        ·have hf:=jj (nameOk_false_at s k hk1 hlt (.inr hc))
         go_wp2
         go_ret
         exact ⟨zA0 hf.out.symm,rfl⟩
        ·have hc2:(s[k].toNat:Int)≤122:=by omega
         clear hc
         go_wp2
         go_round
         case rel=>exact ⟨k+1,by omega,by omega,by go_num,fun j hj h1 h2=>by
          rcases Nat.lt_or_ge j k with h | h
          ·exact HA.out j hj h1 h
          ·obtain rfl:j=k:=by omega
           exact ⟨hc1,hc2⟩⟩
         case measure=>simp [intOf];omega
      ·have hf:=jj (nameOk_true s p0 (by omega) ha1 ha2 (fun j hj h1=>HA.out j hj h1 (by omega)))
       go_wp2
       go_ret
       exact ⟨zA0 hf.out.symm,rfl⟩
set_option maxHeartbeats 1000000 in
theorem impl_NameValid (s:ByteArray) (w:World) (hs:s.size≤maxLen) :
  Calls Try.prog 101 #[.string s] w fun e w'=>e=.returned (.bool (nameOk s.data.toList))∧w=w':=by
 unfold maxLen at hs
 by_cases h0:s.size=0
 ·have hf:=jj (zAY s (.inl h0))
  have e0:((s.size:Int)==0)=true:=beq_iff_eq.2 (by omega)
  have e1:(s.size:Int)<1:=by omega
  clear h0
  go_enter Try.func101,Try.ntmps101
  go_wp2
  go_ret
  exact ⟨zA0 hf.out.symm,rfl⟩
 ·have e0:((s.size:Int)==0)=false:=beq_eq_false_iff_ne.2 (by omega)
  have e1:1≤(s.size:Int):=by omega
  by_cases h5:5<s.size
  ·have hf:=jj (zAY s (.inr h5))
   have e5:(5:Int)<(s.size:Int):=by omega
   go_enter Try.func101,Try.ntmps101
   go_wp2
   go_ret
   exact ⟨zA0 hf.out.symm,rfl⟩
  ·have p0:0<s.size:=by omega
   have p0':(0:Int)<(s.size:Int):=by omega
   have e5:(s.size:Int)≤5:=by omega
   by_cases ha:(s[0].toNat:Int)<65
   ·have hf:=jj (zB7 s p0 (.inl ha))
    go_enter Try.func101,Try.ntmps101
    go_wp2
    go_ret
    exact ⟨zA0 hf.out.symm,rfl⟩
   ·have ha1:65≤(s[0].toNat:Int):=by omega
    clear ha
    by_cases ha:(90:Int)<(s[0].toNat:Int)
    ·have hf:=jj (zB7 s p0 (.inr ha))
     have hd:decide ((s[0].toNat:Int)≤90)=false:=decide_eq_false (by omega)
     go_enter Try.func101,Try.ntmps101
     go_wp2
     go_ret
     exact ⟨zA0 hf.out.symm,rfl⟩
    ·have ha2:(s[0].toNat:Int)≤90:=by omega
     clear ha
     go_enter Try.func101,Try.ntmps101
     go_wp2
     go_loop [3] (fun i=>∃ k:Nat,1≤k∧k≤s.size∧i=.int .i64 k∧Hid (∀ j (hj:j<s.size),1≤j→j<k→97≤(s[j].toNat:Int)∧(s[j].toNat:Int)≤122)) (fun i=>s.size-(intOf i).toNat)
     case atStart=>exact ⟨1,zz8 _,by omega,rfl,fun j _ _ _=>by omega⟩
     case round =>
      obtain ⟨k,hk1,hk,rfl,HA⟩:=hrel
      by_cases hlt:k<s.size
      ·by_cases hc:(s[k].toNat:Int)<97
       ·have hf:=jj (nameOk_false_at s k hk1 hlt (.inl hc))
        go_wp2
        go_ret
        exact ⟨zA0 hf.out.symm,rfl⟩
       ·have hc1:97≤(s[k].toNat:Int):=by omega
        clear hc
        by_cases hc:(122:Int)<(s[k].toNat:Int)
        ·have hf:=jj (nameOk_false_at s k hk1 hlt (.inr hc))
         go_wp2
         go_ret
         exact ⟨zA0 hf.out.symm,rfl⟩
        ·have hc2:(s[k].toNat:Int)≤122:=by omega
         clear hc
         go_wp2
         go_round
         case rel=>exact ⟨k+1,by omega,by omega,by go_num,fun j hj h1 h2=>by
          rcases Nat.lt_or_ge j k with h | h
          ·exact HA.out j hj h1 h
          ·obtain rfl:j=k:=by omega
           exact ⟨hc1,hc2⟩⟩
         case measure=>simp [intOf];omega
      ·have hf:=jj (nameOk_true s p0 (by omega) ha1 ha2 (fun j hj h1=>HA.out j hj h1 (by omega)))
       go_wp2
       go_ret
       exact ⟨zA0 hf.out.symm,rfl⟩
def ctorOkB (n:Int) (c:Kt):Bool:=nameOk c.name.data.toList && (decide ((c.args.length:Int)≤3) && (withinB c.idx 0 3 && c.args.all (argOkB n)))
theorem all_drop {α:Type} (p:α→Bool) (l:List α) (k:Nat) (h:k<l.length):(l.drop k).all p=(p l[k] && (l.drop (k+1)).all p):=by
 rw [List.drop_eq_getElem_cons h];rfl
theorem spec_l1Ctor (n:Int) (c:Kt) (w:World) (cs:List Value) (F:List Nat) (hv:KtR w c cs F) (hF:Under w F) :
  Calls Try.prog 95 #[.int .i64 n,.agg cs.toArray] w fun e w'=>e=.returned (.bool (ctorOkB n c))∧Below w w w':=by
 obtain ⟨kv,rfl,ha,hs⟩:=hv
 have HX:=jj ha
 obtain ⟨A,cap,rfl,hc1,hc2⟩:=ha.form
 clear ha
 have HF:=jj hF
 have HS:=jj hs
 clear hF hs
 go_enter Try.func95,Try.ntmps95
 go_wp2_with fail
 obtain ⟨W2,hW2⟩:∃ W2,W2=w.alloc (.cells #[.string c.name,.slice A c.args.length cap,c.idx] 118):=⟨_,rfl⟩
 have hB2:Below w w W2:=by rw [hW2];exact (zy2 _ _).alloc (zz8 _) _
 have k1:Blk W2 w 118 #[.string c.name,.slice A c.args.length cap,c.idx]:=by rw [hW2];exact Blk.new _ _ _
 rw [←hW2]
 clear hW2
 have x1:W2.cell? ⟨w,1,none⟩=some (.slice A c.args.length cap):=(k1.cell 1).trans (by simp)
 have x2:W2.cell? ⟨w,2,none⟩=c.idx:=(k1.cell 2).trans (by simp)
 have hlt0:=k1.lt
 have K1:=jj k1
 clear k1
 refine (spec_NameValid c.name W2 (by have:=HS.out;unfold maxLen;omega)).mono ?_
 rintro e w' ⟨rfl,rfl⟩
 cases hn:nameOk c.name.data.toList with
 |false =>
  have hf:Hid (ctorOkB n c=false):=by unfold Hid ctorOkB;rw [hn];rfl
  clear hn
  go_wp2
  go_ret
  exact ⟨zA0 hf.out.symm,hB2⟩
 |true =>
  have h0:ctorOkB n c=(decide ((c.args.length:Int)≤3) && (withinB c.idx 0 3 && c.args.all (argOkB n))):=by unfold ctorOkB;rw [hn,Bool.true_and]
  clear hn
  by_cases hl:(c.args.length:Int)≤3
  ·have t1:decide ((c.args.length:Int)>3)=false:=by simp;omega
   have h1:ctorOkB n c=(withinB c.idx 0 3 && c.args.all (argOkB n)):=by rw [h0,decide_eq_true hl,Bool.true_and]
   clear h0 hl
   by_cases hi:c.idx<0
   ·have t2:decide (c.idx<0)=true:=by simpa using hi
    have hf:Hid (ctorOkB n c=false):=by rw [h1,withinB_lo (by simp;omega)];rfl
    clear h1 hi
    go_wp2
    go_ret
    exact ⟨zA0 hf.out.symm,hB2⟩
   ·have t2:decide (c.idx<0)=false:=by simpa using hi
    by_cases hj:c.idx>3
    ·have t3:decide (c.idx>3)=true:=by simpa using hj
     have hf:Hid (ctorOkB n c=false):=by rw [h1,withinB_hi (by simp;omega),show decide (c.idx≤3)=false from by simp;omega];rfl
     clear h1 hi hj
     go_wp2
     go_ret
     exact ⟨zA0 hf.out.symm,hB2⟩
    ·have t3:decide (c.idx>3)=false:=by simpa using hj
     have h2:ctorOkB n c=c.args.all (argOkB n):=by rw [h1,(zAF _ _ _).2 ⟨by omega,by omega⟩,Bool.true_and]
     have HOk:=jj h2
     clear h1 hi hj h2
     go_wp2
     go_loopw [5] (fun i wr=>∃ k:Nat,k≤c.args.length∧i=.int .i64 k∧Hid (c.args.all (argOkB n)=(c.args.drop k).all (argOkB n))∧Below w w wr∧Hid (Blk wr w 118 #[.string c.name,.slice A c.args.length cap,c.idx])) (fun i _=>c.args.length-(intOf i).toNat)
     case atStart=>exact ⟨0,Nat.zero_le _,rfl,rfl,hB2,K1⟩
     case round =>
      obtain ⟨k,hk,rfl,HT,hB,KB⟩:=hrel
      clear x1 x2 hlt0
      have x1:wr.cell? ⟨w,1,none⟩=some (.slice A c.args.length cap):=(KB.out.cell 1).trans (by simp)
      have hlt0:=KB.out.lt
      by_cases hlt:k<c.args.length
      ·have hi0:(0:Int)≤(k:Int):=by omega
       have hi1:(k:Int)<(c.args.length:Int):=by omega
       obtain ⟨b,off,cs,G,rfl,hb,hcs,hv,-⟩:=HX.out.get TyR_len hlt
       have hbl:=HF.out b hb
       have hcs:=hcs.same (hB.block b hbl)
       obtain rfl:=TyR_form hv
       have c0:=hcs 0 _ rfl
       have c1:=hcs 1 _ rfl
       simp only [Nat.add_zero] at c0
       clear hcs hv hb
       have hbw:=zz9 hbl hB.size
       have hd:=all_drop (argOkB n) c.args k hlt
       go_wp2_with fail
       refine (spec_l1Arg n c.args[k] wr).mono ?_
       rintro e w' ⟨rfl,hB'⟩
       have hB3:=hB.trans (hB'.mono hB.size)
       have KB3:Hid (Blk w' w.heap.size 118 #[.string c.name,.slice (some ⟨b,off,none⟩) c.args.length cap,c.idx]):=KB.out.same (hB'.block _ KB.out.lt)
       cases hq:argOkB n c.args[k] with
       |false =>
        have hf:Hid (ctorOkB n c=false):=by rw [hq,Bool.false_and] at hd;exact HOk.out.trans (HT.out.trans hd)
        clear hq hd
        go_wp2
        go_ret
        exact ⟨zA0 hf.out.symm,hB3⟩
       |true =>
        have hT2:Hid (c.args.all (argOkB n)=(c.args.drop (k+1)).all (argOkB n)):=by rw [hq,Bool.true_and] at hd;exact HT.out.trans hd
        clear hq hd
        go_wp2
        go_roundw
        case rel=>exact ⟨k+1,by omega,by go_num,hT2,hB3,KB3⟩
        case measure=>simp [intOf];omega
      ·have hT:=HT.out
       rw [List.drop_of_length_le (by omega)] at hT
       have hf:Hid (ctorOkB n c=true):=HOk.out.trans hT
       clear hT
       go_wp2
       go_ret
       exact ⟨zA0 hf.out.symm,hB⟩
  ·have t1:decide ((c.args.length:Int)>3)=true:=by simp;omega
   have hf:Hid (ctorOkB n c=false):=by rw [h0,decide_eq_false hl];rfl
   clear h0 hl
   go_wp2
   go_ret
   exact ⟨zA0 hf.out.symm,hB2⟩
def bigB (c:UInt8):Bool:=decide (65≤(c.toNat:Int)) && decide ((c.toNat:Int)≤90)
def dnameOk:List UInt8→Bool
 |[c]=>bigB c && !(c==73)
 |_=>false
set_option maxHeartbeats 400000 in
theorem spec_l1Big (c:UInt8) (w:World):Calls Try.prog 119 #[.int .u8 (c.toNat:Int)] w fun e w'=>e=.returned (.bool (bigB c))∧w=w':=by
 cases h:decide (65≤(c.toNat:Int)) with
 |false =>
  have hf:Hid (bigB c=false):=by unfold Hid bigB;rw [h];rfl
  go_enter Try.func119,Try.ntmps119
  go_wp2
  go_ret
  exact ⟨zA0 hf.out.symm,rfl⟩
 |true =>
  have hf:Hid (bigB c=decide ((c.toNat:Int)≤90)):=by unfold Hid bigB;rw [h];rfl
  go_enter Try.func119,Try.ntmps119
  go_wp2
  go_ret
  exact ⟨zA0 hf.out.symm,rfl⟩
theorem one_byte (s:ByteArray) (h:s.size=1):s.data.toList=[s[0]]:=by
 rw [bytes_cons s (by omega)]
 congr 1
 exact List.eq_nil_of_length_eq_zero (by simp;omega)
set_option maxHeartbeats 400000 in
theorem spec_l1Data (s:ByteArray) (w:World) (hs:s.size≤maxLen):Calls Try.prog 94 #[.string s] w fun e w'=>e=.returned (.bool (dnameOk s.data.toList))∧w=w':=by
 unfold maxLen at hs
 by_cases h:s.size=1
 ·have h1:=one_byte s h
  have h0:((s.size:Int)==1)=true:=beq_iff_eq.2 (by omega)
  have p0:0<s.size:=by omega
  have p0':(0:Int)<(s.size:Int):=by omega
  cases hb:bigB s[0] with
  |false =>
   have hf:Hid (dnameOk s.data.toList=false):=by
    rw [h1];show (bigB s[0] && !(s[0]==73))=false;rw [hb];rfl
   clear h1 h
   have HB:=jj hb
   clear hb
   go_enter Try.func94,Try.ntmps94
   go_wp2_with fail
   refine (spec_l1Big s[0] _).mono ?_
   rintro e w' ⟨rfl,rfl⟩
   rw [HB.out]
   go_wp2
   go_ret
   exact ⟨zA0 hf.out.symm,rfl⟩
  |true =>
   have hI:(s.toList==[73])=(s[0]==73):=by rw [ByteArray.toList_eq,h1];simp
   have hf:Hid (dnameOk s.data.toList=!(s.toList==[73])):=by
    rw [hI,h1];show (bigB s[0] && !(s[0]==73))=_;rw [hb];rfl
   clear h1 h hI
   have HB:=jj hb
   clear hb
   go_enter Try.func94,Try.ntmps94
   go_wp2_with fail
   refine (spec_l1Big s[0] _).mono ?_
   rintro e w' ⟨rfl,rfl⟩
   rw [HB.out]
   go_wp2
   go_ret
   exact ⟨zA0 hf.out.symm,rfl⟩
 ·have h0:((s.size:Int)==1)=false:=beq_eq_false_iff_ne.2 (by omega)
  have hf:Hid (dnameOk s.data.toList=false):=by
   have hl:s.data.toList.length≠1:=by simpa using h
   unfold Hid
   generalize s.data.toList=l at *
   match l,hl with
   |[],_=>rfl
   |[c],hl=>simp at hl
   |_ :: _ :: _,_=>rfl
  clear h
  go_enter Try.func94,Try.ntmps94
  go_wp2
  go_ret
  exact ⟨zA0 hf.out.symm,rfl⟩
def nameIn (l:List ByteArray) (s:ByteArray):Bool:=l.any fun x=>x.toList==s.toList
def ctorsGo (n:Int):List ByteArray→List Kt→Bool
 |_,[]=>true
 |met,c :: cs=>ctorOkB n c && (!nameIn met c.name && ctorsGo n (met ++ [c.name]) cs)
def ctorsSpec (n:Int) (b:Bool):List ByteArray→List Kt→Bool
 |_,[]=>true
 |met,c :: cs=>ctorOkB n c && (!(b || nameIn met c.name) && ctorsSpec n b (met ++ [c.name]) cs)
def worldGo (n:Int):List ByteArray→List ByteArray→List Dt→Bool
 |_,_,[]=>true
 |datas,met,d :: ds=>dnameOk d.name.data.toList && (!nameIn datas d.name && (withinB (d.ctors.length:Int) 1 4 && (ctorsGo n met d.ctors && worldGo n (datas ++ [d.name]) (met ++ d.ctors.map Kt.name) ds)))
def worldOk (xs:List Dt):Bool:=decide ((xs.length:Int)≤4) && worldGo xs.length [] [] xs
theorem ctorsSpec_false (n:Int):∀ (cs:List Kt) (met:List ByteArray),ctorsSpec n false met cs=ctorsGo n met cs
 |[],_=>rfl
 |c :: cs,met=>by rw [ctorsSpec,ctorsGo,ctorsSpec_false n cs,Bool.false_or]
theorem ctorsSpec_true (n:Int) (c:Kt) (cs:List Kt) (met:List ByteArray):ctorsSpec n true met (c :: cs)=false:=by
 rw [ctorsSpec,Bool.true_or,Bool.not_true,Bool.false_and,Bool.and_false]
theorem ctorsSpec_eq (n:Int) (b:Bool) (cs:List Kt) (met:List ByteArray) (h:cs≠[]):ctorsSpec n b met cs=(!b && ctorsGo n met cs):=by
 cases b with
 |false=>rw [ctorsSpec_false];rfl
 |true =>
  cases cs with
  |nil=>exact absurd rfl h
  |cons c cs=>rw [ctorsSpec_true];rfl
def typeOkB (n:Int) (t:Ty):Bool:=if t.d = -1 then t.i==0 else withinB t.d 0 (n-1) && withinB t.i 0 3
theorem typeOkB_arg (n:Int) (t:Ty):(argOkB n t && decide (0≤t.i))=typeOkB n t:=by
 unfold argOkB typeOkB
 by_cases h:t.d = -1
 ·rw [if_pos h,if_pos h,Bool.eq_iff_iff];simp;omega
 ·rw [if_neg h,if_neg h,Bool.eq_iff_iff];simp [withinB];omega
def typeValidB (xs:List Dt) (t:Ty):Bool:=worldOk xs && typeOkB xs.length t
theorem ctorsGo_all {n:Int}:∀ {cs:List Kt} {met:List ByteArray},ctorsGo n met cs=true→∀ c∈cs,ctorOkB n c=true
 |[],_,_,c,h=>by cases h
 |c :: cs,met,h,x,hx=>by
  simp only [ctorsGo,Bool.and_eq_true] at h
  rcases List.mem_cons.1 hx with rfl | hx
  ·exact h.1
  ·exact ctorsGo_all h.2.2 x hx
theorem worldGo_all {n:Int}:∀ {ds:List Dt} {datas met:List ByteArray},worldGo n datas met ds=true→∀ x∈ds,dnameOk x.name.data.toList=true∧(1≤x.ctors.length∧x.ctors.length≤4)∧∀ c∈x.ctors,ctorOkB n c=true
 |[],_,_,_,x,h=>by cases h
 |d :: ds,datas,met,h,x,hx=>by
  simp only [worldGo,Bool.and_eq_true] at h
  rcases List.mem_cons.1 hx with rfl | hx
  ·have:=(zAF _ _ _).1 h.2.2.1
   exact ⟨h.1,⟨by omega,by omega⟩,ctorsGo_all h.2.2.2.1⟩
  ·exact worldGo_all h.2.2.2.2 x hx
structure KtOk (n:Nat) (c:Kt):Prop where
 name:nameOk c.name.data.toList=true
 args:c.args.length≤3
 lo:0≤c.idx
 hi:c.idx≤3
 all:∀ t∈c.args,argOkB n t=true
structure DtOk (n:Nat) (x:Dt):Prop where
 name:dnameOk x.name.data.toList=true
 lo:1≤x.ctors.length
 hi:x.ctors.length≤4
 all:∀ c∈x.ctors,KtOk n c
structure WorldOK (xs:List Dt):Prop where
 len:xs.length≤4
 all:∀ x∈xs,DtOk xs.length x
theorem ktOk {n:Nat} {c:Kt} (h:ctorOkB n c=true):KtOk n c:=by
 unfold ctorOkB at h
 simp only [Bool.and_eq_true,zAF,decide_eq_true_eq,List.all_eq_true] at h
 exact ⟨h.1,by omega,h.2.2.1.1,h.2.2.1.2,h.2.2.2⟩
theorem worldOK {xs:List Dt} (h:worldOk xs=true):WorldOK xs:=by
 unfold worldOk at h
 simp only [Bool.and_eq_true,decide_eq_true_eq] at h
 exact ⟨by omega,fun x hx=>by
  obtain ⟨h1,h2,h3⟩:=worldGo_all h.2 x hx
  exact ⟨h1,h2.1,h2.2,fun c hc=>ktOk (h3 c hc)⟩⟩
theorem WorldOK.at {xs:List Dt} (h:WorldOK xs) {d:Nat} (hd:d<xs.length):DtOk xs.length xs[d]:=h.all _ (List.getElem_mem hd)
theorem WorldOK.ctor {xs:List Dt} (h:WorldOK xs) {d k:Nat} (hd:d<xs.length) (hk:k<xs[d].ctors.length):KtOk xs.length xs[d].ctors[k]:=(h.at hd).all _ (List.getElem_mem hk)
def InWorld (n:Nat) (t:Ty):Prop:=t.d = -1∨∃ d:Nat,t.d=(d:Int)∧d<n
theorem typeOkB_in {n:Nat} {t:Ty} (h:typeOkB n t=true):InWorld n t:=by
 unfold typeOkB at h
 by_cases e:t.d = -1
 ·exact .inl e
 ·rw [if_neg e] at h
  simp [withinB] at h
  exact .inr ⟨t.d.toNat,by omega,by omega⟩
theorem argOkB_in {n:Nat} {t:Ty} (h:argOkB n t=true):InWorld n t:=by
 unfold argOkB at h
 by_cases e:t.d = -1
 ·exact .inl e
 ·rw [if_neg e] at h
  simp [withinB] at h
  exact .inr ⟨t.d.toNat,by omega,by omega⟩
theorem typeValid_split {xs:List Dt} {t:Ty} (h:typeValidB xs t=true):WorldOK xs∧typeOkB xs.length t=true:=by
 unfold typeValidB at h
 rw [Bool.and_eq_true] at h
 exact ⟨worldOK h.1,h.2⟩
def rowOf (v:Value):List Nat:=v.ownBlock.toList
theorem zA2 {v:Value} {g:Nat}:g∈rowOf v↔v.ownBlock=some g:=by unfold rowOf;simp [Option.mem_toList]
theorem zAT:rowOf (.slice none 0 0)=[]:=rfl
theorem zA7 (g o n c:Nat):rowOf (.slice (some ⟨g,o,none⟩) n c)=[g]:=rfl
def Own {α:Type} (w:World) (B:Nat) (E:TypeId) (k:Nat) (R:World→α→List Value→List Nat→Prop) (xs:List α) (v:Value) (F:List Nat):Prop :=
 ∃ cs,w.ownsRow B E k v xs.length cs∧Flat (R w) xs cs F∧Under w F∧∀ g∈rowOf v,g∉F
section
variable {α : Type} {w w' : World} {B k : Nat} {E : TypeId} {R : World → α → List Value → List Nat → Prop} {xs : List α} {v : Value} {F : List Nat}
theorem Own.nil (w:World) (B:Nat) (E:TypeId) (k:Nat) (R:World→α→List Value→List Nat→Prop):Own w B E k R ([]:List α) (.slice none 0 0) [] :=
 ⟨[],World.ownsRow_nil w B E k,⟨rfl,rfl⟩,Under.nil _,fun g h=>by simp [zAT] at h⟩
theorem Own.made (w:World) (B:Nat) (E:TypeId) (k:Nat) (R:World→α→List Value→List Nat→Prop) (cur:Array Value) (cap:Nat) (hB:B≤w.heap.size) (hm:cap≤maxLen) (hs:cur.size=cap*k):Own (w.alloc (.cells cur E)) B E k R ([]:List α) (.slice (some ⟨w,0,none⟩) 0 cap) [] :=
 ⟨[],World.ownsRow_made w cur cap hB hm hs,⟨rfl,rfl⟩,Under.nil _,fun g _ h=>by cases h⟩
theorem Own.under (h:Own w B E k R xs v F):Under w F:=h.choose_spec.2.2.1
theorem Own.row (h:Own w B E k R xs v F):∀ g∈rowOf v,B≤g∧g<w.heap.size:=fun g hg=>h.choose_spec.1.lt g (zA2.1 hg)
theorem Own.apart (h:Own w B E k R xs v F):∀ g∈rowOf v,g∉F:=h.choose_spec.2.2.2
theorem Own.mono (hR:∀ x cs G,Kept G w w'→R w x cs G→R w' x cs G) (h:Own w B E k R xs v F) (hk:Kept (rowOf v ++ F) w w') (hs:w.heap.size≤w'.heap.size):Own w' B E k R xs v F:=by
 obtain ⟨cs,h1,h2,h3,h4⟩:=h
 refine ⟨cs,⟨h1.1,?_⟩,h2.mono fun x _ cs G hG hr=>hR x cs G (fun b hb=>hk b (List.mem_append.2 (.inr (hG b hb)))) hr,h3.mono hs,h4⟩
 rcases h1.2 with hn | ⟨g,cap,cur,rfl,hb,hg,rest⟩
 ·exact .inl hn
 ·exact .inr ⟨g,cap,cur,rfl,hb,(hk g (by simp [zA7])).trans hg,rest⟩
theorem Own.below (hR:∀ x cs G,Kept G w w'→R w x cs G→R w' x cs G) (h:Own w B E k R xs v F) (hb:Below w w w'):Own w' B E k R xs v F :=
 h.mono hR (.of_below hb fun b hb'=>by
  rcases List.mem_append.1 hb' with h1 | h1
  ·exact (h.row b h1).2
  ·exact h.under b h1) hb.size
theorem Own.set (hR:∀ w w' x cs G,Kept G w w'→R w x cs G→R w' x cs G) (h:Own w B E k R xs v F) {b j:Nat} (u:Value) (hb:b∉rowOf v) (hF:b∉F):Own (w.setCell ⟨b,j,none⟩ u) B E k R xs v F :=
 h.mono (fun x cs G hk h=>hR _ _ x cs G hk h) (fun c hc=>zz7 _ _ _ _ (fun e=>by
  have e:c=b:=e
  subst e
  rcases List.mem_append.1 hc with h1 | h1
  ·exact hb h1
  ·exact hF h1)) (by simp [World.setCell])
theorem Own.form (h:Own w B E k R xs v F):∃ A cap,v=.slice A xs.length cap∧xs.length≤cap∧cap≤9223372036854775807:=by
 obtain ⟨cs,h1,-⟩:=h
 rcases h1.2 with ⟨rfl,hn⟩ | ⟨g,cap,cur,rfl,hb,hg,hc,hm,-⟩
 ·exact ⟨none,0,by rw [hn],by omega,by omega⟩
 ·exact ⟨_,cap,rfl,hc,by unfold maxLen at hm;omega⟩
theorem cellsAt_ownsRow {w:World} {B k n g cap:Nat} {E:TypeId} {cs:List Value} (h:w.ownsRow B E k (.slice (some ⟨g,0,none⟩) n cap) n cs):CellsAt w g 0 cs:=fun j u hj=>by
 have:=h.cells (g:=g) rfl j u hj
 rw [Addr.add_lit] at this
 exact this
theorem Own.arr (h:Own w B E k R xs v F):Arr w (R w) xs v (if xs=[] then [] else rowOf v ++ F):=by
 obtain ⟨A,cap,rfl,hc,hm⟩:=h.form
 refine ⟨A,cap,rfl,hc,by unfold maxLen;omega,?_⟩
 by_cases hx:xs=[]
 ·exact .inl ⟨hx,if_pos hx⟩
 ·rw [if_neg hx]
  obtain ⟨cs,h1,h2,h3,h4⟩:=h
  rcases h1.2 with ⟨hv,hn⟩ | ⟨g,cap',cur,hv,hb,hg,hc',hm',-⟩
  ·exact absurd (List.length_eq_zero_iff.1 hn) hx
  ·cases hv
   exact .inr ⟨g,0,cs,F,rfl,cellsAt_ownsRow h1,h2,rfl⟩
theorem Own.free (h:Own w B E k R xs v F) (hF:Free w F):Free w (if xs=[] then [] else rowOf v ++ F):=by
 by_cases hx:xs=[]
 ·rw [if_pos hx];exact Free.nil _
 ·rw [if_neg hx]
  obtain ⟨cs,h1,h2,h3,h4⟩:=h
  rcases h1.2 with ⟨hv,hn⟩ | ⟨g,cap',cur,rfl,hb,hg,hc',hm',-⟩
  ·exact absurd (List.length_eq_zero_iff.1 hn) hx
  ·rw [zA7]
   exact ⟨List.nodup_cons.2 ⟨h4 g (by simp [zA7]),hF.1⟩,fun b hb' i=>by
    rcases List.mem_cons.1 hb' with rfl | hb'
    ·simp [World.frozen?,hg]
    ·exact hF.2 b hb' i⟩
theorem Own.fresh {w0:World} (h:Own w B E k R xs v F) (hB:w0.heap.size≤B) (hF:∀ b∈F,w0.heap.size≤b):Fresh w0 w (if xs=[] then [] else rowOf v ++ F):=fun b hb=>by
 by_cases hx:xs=[]
 ·rw [if_pos hx] at hb;cases hb
 ·rw [if_neg hx] at hb
  rcases List.mem_append.1 hb with h1 | h1
  ·exact ⟨Nat.le_trans hB (h.row b h1).1,(h.row b h1).2⟩
  ·exact ⟨hF b h1,h.under b h1⟩
theorem grown_below {w w':World} {v:Value} {B:Nat} (hg:w.grownBy w' v.ownBlock) (hB:B≤w.heap.size) (hr:∀ g∈rowOf v,B≤g):Below B w w' :=
 (zy2 B w).grown hg hB fun k hk=>hr k (zA2.2 hk)
theorem grown_kept {w w':World} {v:Value} {G:List Nat} (hg:w.grownBy w' v.ownBlock) (hG:Under w G) (hn:∀ g∈rowOf v,g∉G):Kept G w w':=fun b hb =>
 hg.block b (hG b hb) fun e=>hn b (zA2.2 e.symm) hb
variable {P : Program}
theorem wpList_push {ops:Array Oper} {rest:List Oper} {o:Oper} {a:Act} {Q:Exit→Act→World→Prop} (hgd:o.guard=none) (s x:Operand) (t:TypeId)
  (ho:o.op=.call { callee:=.builtin .append,args:=#[s,x],argTypes:=#[t,t] })
  (i:TypeInfo) (z:Value) (bytes:Nat) (ht:P.underlying t=some (.slice E)) (hi:P.info? E=some i) (hz:i.zero=some z)
  (hsize:i.size=k) (hby:i.bytes=bytes) (hzs:z.cells.size=k) (hk:0<k)
  (hRl:∀ x cs G,R w x cs G→cs.length=k) (hRm:∀ w' x cs G,Kept G w w'→R w x cs G→R w' x cs G)
  (hs:a.eval s=v) (hown:Own w B E k R xs v F) (ys:List α) (ad:Addr) (c:Nat) (news:List Value) (G:List Nat)
  (hx:a.eval x=.slice (some ad) ys.length c) (hnews:∀ j u,news[j]?=some u→w.cell? (ad.add j)=some u) (h1:∀ u∈news,u.oneCell'=true)
  (hys:Flat (R w) ys news G) (hG:Under w G) (hvG:∀ g∈rowOf v,g∉G)
  (hm:0<ys.length) (h63:xs.length+ys.length≤maxLen) (hbytes:(xs.length+ys.length)*bytes≤140737488355328) (hbase:B≤w.heap.size)
  (h:∀ g cap w',Own w' B E k R (xs ++ ys) (.slice (some ⟨g,0,none⟩) (xs.length+ys.length) cap) (F ++ G)→w.grownBy w' v.ownBlock→(v.ownBlock=some g∨g=w.heap.size) →
   wpList P ops Q rest (a.put o.dst (.slice (some ⟨g,0,none⟩) (xs.length+ys.length) cap)) w'):wpList P ops Q (o :: rest) a w:=by
 obtain ⟨cs,h2,h3,h4,h5⟩:=id hown
 refine wpList_append_lies w hgd s x t ho B E i z k bytes ht hi hz hsize hby hzs hk v xs.length cs hs h2 ad ys.length c news hx (hys.length hRl) hnews h1 hm h63 hbytes hbase w.heap.size rfl
  fun g cap w1 hr hgr hat hlt=>h g cap w1 ⟨cs ++ news,by rw [List.length_append];exact hr,?_,?_,?_⟩ hgr hat
 ·exact (h3.mono fun x _ ds H hH hr=>hRm w1 x ds H (grown_kept hgr (h4.sub hH) fun g hg hn=>h5 g hg (hH g hn)) hr).append (hys.mono fun x _ ds H hH hr=>hRm w1 x ds H (grown_kept hgr (hG.sub hH) fun g hg hn=>hvG g hg (hH g hn)) hr)
 ·intro b hb
  rcases List.mem_append.1 hb with hb | hb
  ·exact zz9 (h4 b hb) hgr.size
  ·exact zz9 (hG b hb) hgr.size
 ·intro b hb hbF
  rw [zA7,zy1] at hb
  subst hb
  rcases hat with hat | rfl
  ·rcases List.mem_append.1 hbF with hb | hb
   ·exact h5 b (zA2.2 hat) hb
   ·exact hvG b (zA2.2 hat) hb
  ·rcases List.mem_append.1 hbF with hb | hb
   ·exact Nat.lt_irrefl _ (h4 _ hb)
   ·exact Nat.lt_irrefl _ (hG _ hb)
theorem zA3 {ops:Array Oper} {rest:List Oper} {o:Oper} {a:Act} {Q:Exit→Act→World→Prop} (hgd:o.guard=none) (s x:Operand) (t:TypeId)
  (ho:o.op=.call { callee:=.builtin .append,args:=#[s,x],argTypes:=#[t,t] })
  (i:TypeInfo) (z:Value) (bytes:Nat) (ht:P.underlying t=some (.slice E)) (hi:P.info? E=some i) (hz:i.zero=some z)
  (hsize:i.size=k) (hby:i.bytes=bytes) (hzs:z.cells.size=k) (hk:0<k)
  (hRl:∀ w x cs G,R w x cs G→cs.length=k) (hRm:∀ w w' x cs G,Kept G w w'→R w x cs G→R w' x cs G)
  (hs:a.eval s=v) (hown:Own w B E k R xs v F) (y:α) (T:TypeId) (news:List Value) (G:List Nat)
  (H:Nat) (hx:a.eval x=.slice (some ⟨H,0,none⟩) 1 1) (hH:w.heap.size=H) (h1:∀ u∈news,u.oneCell'=true)
  (hy:R w y news G) (hG:Under w G) (hvG:∀ g∈rowOf v,g∉G)
  (h63:xs.length+1≤maxLen) (hbytes:(xs.length+1)*bytes≤140737488355328) (hbase:B≤w.heap.size)
  (h:∀ g cap w',Own w' B E k R (xs ++ [y]) (.slice (some ⟨g,0,none⟩) (xs.length+1) cap) (F ++ G)→(w.alloc (.cells news.toArray T)).grownBy w' v.ownBlock→(v.ownBlock=some g∨g=w.heap.size+1) →
   wpList P ops Q rest (a.put o.dst (.slice (some ⟨g,0,none⟩) (xs.length+1) cap)) w'):wpList P ops Q (o :: rest) a (w.alloc (.cells news.toArray T)):=by
 subst hH
 have hb:=(zy2 w.heap.size w).alloc (zz8 _) (.cells news.toArray T)
 have hk1:Kept G w (w.alloc (.cells news.toArray T)):=.of_below hb hG
 refine wpList_push hgd s x t ho i z bytes ht hi hz hsize hby hzs hk (hRl _) (fun w'=>hRm _ w') hs (hown.below (fun x cs G hk h=>hRm _ _ x cs G hk h) hb) [y] ⟨w,0,none⟩ 1 news G hx ?_ h1 (Flat.one (hRm _ _ _ _ _ hk1 hy)) (hG.mono hb.size) hvG Nat.zero_lt_one h63 hbytes (Nat.le_trans hbase hb.size)
  (fun g cap w' h2 h3 h4=>h g cap w' h2 h3 (by simpa using h4))
 intro j u hj
 exact World.news_of_block (heap_alloc_new w (.cells news.toArray T)) j u (by simpa using hj)
end
theorem zAU {w w':World} (h:Below w.drew.heap.size w.drew w'):Below w w w':=⟨h.os,h.tape,h.output,h.size,h.block⟩
def Halt (p:Prop):Prop:=p
theorem Halt.mk {p:Prop} (h:Halt p):p:=h
theorem Halt.of {p:Prop} (h:p):Halt p:=h
/-! ### Slices of numbers and of strings -/
def NatR (_:World) (x:Int) (cs:List Value) (F:List Nat):Prop:=cs=[.int .i64 x]∧F=[]
theorem NatR_len (w:World) (x:Int) (cs:List Value) (F:List Nat) (h:NatR w x cs F):cs.length=1:=by rw [h.1];rfl
theorem zAX (w w':World) (x:Int) (cs:List Value) (F:List Nat) (_:Kept F w w') (h:NatR w x cs F):NatR w' x cs F:=h
def StrR (_:World) (x:ByteArray) (cs:List Value) (F:List Nat):Prop:=cs=[.string x]∧F=[]
theorem zAW (w:World) (x:ByteArray) (cs:List Value) (F:List Nat) (h:StrR w x cs F):cs.length=1:=by rw [h.1];rfl
theorem StrR_mono (w w':World) (x:ByteArray) (cs:List Value) (F:List Nat) (_:Kept F w w') (h:StrR w x cs F):StrR w' x cs F:=h
def MadeArr {α:Type} (R:World→α→List Value→List Nat→Prop) (w:World) (xs:List α) (e:Ending) (w':World):Prop :=
 ∃ v F,e=.returned v∧Below w w w'∧Arr w' (R w') xs v F∧Free w' F∧Fresh w w' F
theorem Flat.nilF {α:Type} {R:α→List Value→List Nat→Prop} (hR:∀ x cs F,R x cs F→F=[]):∀ {xs:List α} {c:List Value} {F:List Nat},Flat R xs c F→F=[]
 |[],_,_,h=>h.2
 |x :: xs,c,F,h=>by
  obtain ⟨c1,c2,F1,F2,rfl,rfl,h1,h2⟩:=h
  rw [hR _ _ _ h1,Flat.nilF hR h2];rfl
theorem Own.gives {α:Type} {w0 w:World} {B k:Nat} {E:TypeId} {R:World→α→List Value→List Nat→Prop} {xs:List α} {v:Value} {F:List Nat} (h:Own w B E k R xs v F) (hb:Below w0 w0 w) (hB:w0.heap.size≤B) (hF:∀ b∈F,w0.heap.size≤b) (hfr:Free w F):MadeArr R w0 xs (.returned v) w :=
 ⟨v,_,rfl,hb,h.arr,h.free hfr,h.fresh hB hF⟩
theorem Arr.ptr {α:Type} {w:World} {R:α→List Value→List Nat→Prop} {xs:List α} {A:Option Addr} {n cap:Nat} {F:List Nat} (h:Arr w R xs (.slice A n cap) F) (h0:0<xs.length):∃ b off,A=some ⟨b,off,none⟩:=by
 obtain ⟨A',cap',hv,h1,h2,h3⟩:=h
 cases hv
 rcases h3 with ⟨rfl,-⟩ | ⟨b,off,cs,G,rfl,-⟩
 ·simp at h0
 ·exact ⟨b,off,rfl⟩
section
variable {w0 w : World} {b off n cap : Nat} {F : List Nat}
theorem ArrTy.at {xs:List Ty} (h:Arr w0 (TyR w0) xs (.slice (some ⟨b,off,none⟩) n cap) F) (hF:Under w0 F) (hB:Below w0 w0 w) (i:Nat) (hi:i<xs.length) :
  b<w.heap.size∧w.cell? ⟨b,off+i*2,none⟩=xs[i].d∧w.cell? ⟨b,off+i*2+1,none⟩=xs[i].i:=by
 obtain ⟨b',off',cs,G,e,hb,hcs,hv,hG⟩:=h.get TyR_len hi
 cases e
 have hbl:=hF _ hb
 have hc:=hcs.same (hB.block _ hbl)
 obtain rfl:=TyR_form hv
 exact ⟨zz9 hbl hB.size,hc 0 _ rfl,hc 1 _ rfl⟩
theorem ArrKt.at {xs:List Kt} (h:Arr w0 (KtR w0) xs (.slice (some ⟨b,off,none⟩) n cap) F) (hF:Under w0 F) (hB:Below w0 w0 w) (i:Nat) (hi:i<xs.length) :
  ∃ A1 cap1 G,b<w.heap.size∧w.cell? ⟨b,off+i*3,none⟩=some (.string xs[i].name)∧w.cell? ⟨b,off+i*3+1,none⟩=some (.slice A1 xs[i].args.length cap1)∧w.cell? ⟨b,off+i*3+2,none⟩=xs[i].idx ∧
   Hid (Arr w0 (TyR w0) xs[i].args (.slice A1 xs[i].args.length cap1) G)∧Hid (Under w0 G)∧xs[i].name.size≤9223372036854775807∧xs[i].args.length≤cap1∧cap1≤9223372036854775807:=by
 obtain ⟨b',off',cs,G,e,hb,hcs,hv,hG⟩:=h.get KtR_len hi
 cases e
 have hbl:=hF _ hb
 have hc:=hcs.same (hB.block _ hbl)
 obtain ⟨kv,rfl,ha,hs⟩:=hv
 obtain ⟨A1,cap1,rfl,h1,h2⟩:=ha.form
 exact ⟨A1,cap1,G,zz9 hbl hB.size,hc 0 _ rfl,hc 1 _ rfl,hc 2 _ rfl,ha,hF.sub hG,hs,h1,h2⟩
theorem ArrKt.rep {xs:List Kt} (h:Arr w0 (KtR w0) xs (.slice (some ⟨b,off,none⟩) n cap) F) (hF:Under w0 F) (hB:Below w0 w0 w) (i:Nat) (hi:i<xs.length) :
  ∃ A1 cap1 G,b<w.heap.size∧w.cell? ⟨b,off+i*3,none⟩=some (.string xs[i].name)∧w.cell? ⟨b,off+i*3+1,none⟩=some (.slice A1 xs[i].args.length cap1)∧w.cell? ⟨b,off+i*3+2,none⟩=xs[i].idx ∧
   Hid (KtR w0 xs[i] [.string xs[i].name,.slice A1 xs[i].args.length cap1,xs[i].idx] G)∧Hid (Under w0 G)∧xs[i].name.size≤9223372036854775807∧xs[i].args.length≤cap1∧cap1≤9223372036854775807:=by
 obtain ⟨b',off',cs,G,e,hb,hcs,hv,hG⟩:=h.get KtR_len hi
 cases e
 have hbl:=hF _ hb
 have hc:=hcs.same (hB.block _ hbl)
 obtain ⟨kv,rfl,ha,hs⟩:=id hv
 obtain ⟨A1,cap1,rfl,h1,h2⟩:=ha.form
 exact ⟨A1,cap1,G,zz9 hbl hB.size,hc 0 _ rfl,hc 1 _ rfl,hc 2 _ rfl,hv,hF.sub hG,hs,h1,h2⟩
theorem ArrDt.at {xs:List Dt} (h:Arr w0 (DtR w0) xs (.slice (some ⟨b,off,none⟩) n cap) F) (hF:Under w0 F) (hB:Below w0 w0 w) (i:Nat) (hi:i<xs.length) :
  ∃ A1 cap1 G,b<w.heap.size∧w.cell? ⟨b,off+i*2,none⟩=some (.string xs[i].name)∧w.cell? ⟨b,off+i*2+1,none⟩=some (.slice A1 xs[i].ctors.length cap1) ∧
   Hid (Arr w0 (KtR w0) xs[i].ctors (.slice A1 xs[i].ctors.length cap1) G)∧Hid (Under w0 G)∧xs[i].name.size≤9223372036854775807∧xs[i].ctors.length≤cap1∧cap1≤9223372036854775807:=by
 obtain ⟨b',off',cs,G,e,hb,hcs,hv,hG⟩:=h.get DtR_len hi
 cases e
 have hbl:=hF _ hb
 have hc:=hcs.same (hB.block _ hbl)
 obtain ⟨kv,rfl,ha,hs⟩:=hv
 obtain ⟨A1,cap1,rfl,h1,h2⟩:=ha.form
 exact ⟨A1,cap1,G,zz9 hbl hB.size,hc 0 _ rfl,hc 1 _ rfl,ha,hF.sub hG,hs,h1,h2⟩
end
theorem info_tyE:(Try.prog.info? 25).map (fun i=>(i.zero,i.size,i.bytes))=some (some (.agg #[(0:Int),(0:Int)]),2,16):=by kernel_rfl
def GivesTys (w:World) (ts:List Ty) (e:Ending) (w':World):Prop:=MadeArr TyR w ts e w'
theorem TyR_mono' (w w':World) (x:Ty) (cs:List Value) (F:List Nat) (_:Kept F w w') (h:TyR w x cs F):TyR w' x cs F:=h
theorem TyR_len' (w:World) (x:Ty) (cs:List Value) (F:List Nat) (h:TyR w x cs F):cs.length=2:=TyR_len x cs F h
theorem Own.tys {w0 w:World} {B:Nat} {E:TypeId} {xs:List Ty} {v:Value} (h:Own w B E 2 TyR xs v []) (hb:Below w0 w0 w) (hB:w0.heap.size≤B):GivesTys w0 xs (.returned v) w :=
 h.gives hb hB (fun b hb=>by cases hb) (Free.nil _)
def resIdx (c:Kt) (i:Int):Int:=if (c.idx==0)=true then i else c.idx
def argTy (r:Int) (a:Ty):Ty:=if (a.i == -1)=true then ⟨a.d,r⟩ else a
def argsL (c:Kt) (i:Int):List Ty:=c.args.map (argTy (resIdx c i))
theorem argTy_yes {r:Int} {a:Ty} (h:(a.i == -1)=true):argTy r a=⟨a.d,r⟩:=if_pos h
theorem argTy_no {r:Int} {a:Ty} (h:(a.i == -1)=false):argTy r a=a:=if_neg (by simp [h])
def argsTo (r:Int) (l:List Ty) (j:Nat):List Ty:=(l.take j).map (argTy r)
theorem zAQ (r:Int) (l:List Ty) (j:Nat):(argsTo r l j).length≤j:=by unfold argsTo;rw [List.length_map,List.length_take];omega
theorem argsTo_all (r:Int) (l:List Ty) {j:Nat} (h:l.length≤j):argsTo r l j=l.map (argTy r):=by unfold argsTo;rw [List.take_of_length_le h]
theorem argsTo_succ (r:Int) (l:List Ty) (j:Nat) (h:j<l.length):argsTo r l (j+1)=argsTo r l j ++ [argTy r l[j]]:=by unfold argsTo;rw [take_snoc' l j h,List.map_append];rfl
theorem argsL_len (c:Kt) (i:Int):(argsL c i).length=c.args.length:=List.length_map _
theorem impl_argTypes (xs:List Dt) (d k:Nat) (i:Int) (hd:d<xs.length) (hk:k<xs[d].ctors.length) (w:World) (v:Value) (F:List Nat) (hx:Arr w (DtR w) xs v F) (hf:Under w F) (hal:xs[d].ctors[k].args.length≤3) :
  Calls Try.prog 109 #[v,.agg #[(d:Int),.int .i64 i],(k:Int)] w (GivesTys w (argsL xs[d].ctors[k] i)):=by
 obtain ⟨A,cap,rfl,hc1,hc2⟩:=hx.form
 obtain ⟨b,off,rfl⟩:=hx.ptr (by omega)
 have HX:=jj hx
 have HF:=jj hf
 clear hx hf
 obtain ⟨i0,hi,hz0,hz1,hz2⟩:=info_parts info_tyE
 have HI:=jj hi
 have HZ0:=jj hz0
 have HZ1:=jj hz1
 have HZ2:=jj hz2
 clear hi hz0 hz1 hz2
 have hB1:Below w w (w.alloc (.cells #[(d:Int),.int .i64 i] 25)):=(zy2 _ _).alloc (zz8 _) _
 obtain ⟨A1,cap1,G1,hb,c0,c1,HK,HG,-,hn1,hn2⟩:=ArrDt.at HX.out HF.out hB1 d hd
 clear c0
 obtain ⟨b2,off2,rfl⟩:=HK.out.ptr (by omega)
 obtain ⟨A3,cap3,G3,hb3,k0,k1,k2,HC,HG3,-,hn3,hn4⟩:=ArrKt.at HK.out HG.out hB1 k hk
 have g1:(0:Int)≤(d:Int):=by omega
 have g2:(d:Int)<(xs.length:Int):=by omega
 have g3:(0:Int)≤(k:Int):=by omega
 have g4:(k:Int)<(xs[d].ctors.length:Int):=by omega
 have hB2:Below w w ((w.alloc (.cells #[(d:Int),.int .i64 i] 25)).alloc (.cells #[.string xs[d].ctors[k].name,.slice A3 xs[d].ctors[k].args.length cap3,xs[d].ctors[k].idx] 118)):=hB1.alloc (by simp) _
 clear hB1
 cases q:(xs[d].ctors[k].idx==0) with
 |true =>
  have HRI:Hid (resIdx xs[d].ctors[k] i=i):=if_pos q
  go_enter Try.func109,Try.ntmps109
  go_wp2
  clear q c1 k0 k1 k2 hb hb3
  go_loopw [9,30] (fun ov jv wr=>∃ j:Nat,j≤xs[d].ctors[k].args.length∧jv=.int .i64 j∧Hid (Own wr (w.heap.size+2) 25 2 TyR (argsTo (i) xs[d].ctors[k].args j) ov [])∧Below w w wr∧w.heap.size+2≤wr.heap.size) (fun _ jv _=>xs[d].ctors[k].args.length-(intOf jv).toNat)
  case atStart=>exact ⟨0,Nat.zero_le _,rfl,(show Own _ _ _ _ _ [] _ _ from Own.nil _ _ _ _ _),hB2,by simp⟩
  case round =>
   clear hB2
   obtain ⟨j,hj,rfl,HO,hB,hsz⟩:=hrel
   by_cases hjl:j<xs[d].ctors[k].args.length
   ·obtain ⟨b3,off3,rfl⟩:=HC.out.ptr (by omega)
    obtain ⟨hb4,a0,a1⟩:=ArrTy.at HC.out HG3.out hB j hjl
    have g5:(0:Int)≤(j:Int):=by omega
    have g6:(j:Int)<(xs[d].ctors[k].args.length:Int):=by omega
    cases q2:(xs[d].ctors[k].args[j].i == -1)
    focus
     have HF2:=jj ((argsTo_succ (i) xs[d].ctors[k].args j hjl).trans (by rw [argTy_no q2]))
     have hb1:Below wr wr (wr.alloc (.cells #[xs[d].ctors[k].args[j].d,xs[d].ctors[k].args[j].i] 25)):=(zy2 _ _).alloc (zz8 _) _
     have hB1:=hB.trans (hb1.mono hB.size)
     have HO1:=jj (HO.out.below (fun x cs G hk h=>TyR_mono' _ _ x cs G hk h) hb1)
     have hbs:w.heap.size+2≤(wr.alloc (.cells #[xs[d].ctors[k].args[j].d,xs[d].ctors[k].args[j].i] 25)).heap.size:=Nat.le_trans hsz hb1.size
     go_wp2_with (at_builtin;refine Halt.mk ?_)
     refine Halt.of (zA3 (P:=Try.prog) rfl _ _ 116 rfl i0 _ 16 Try.underlying116 HI.out HZ0.out HZ1.out HZ2.out rfl (by decide) TyR_len' TyR_mono' (by rfl) HO1.out ⟨xs[d].ctors[k].args[j].d,xs[d].ctors[k].args[j].i⟩ 25 [.int .i64 (xs[d].ctors[k].args[j].d),.int .i64 (xs[d].ctors[k].args[j].i)] [] _ (by rfl) (by simp) (by simp [Value.oneCell']) ⟨rfl,rfl⟩ (Under.nil _) (fun _ _ h=>by cases h) (by have:=zAQ (i) xs[d].ctors[k].args j;unfold maxLen;omega) (by have:=zAQ (i) xs[d].ctors[k].args j;omega) hbs ?_)
    rotate_left
    focus
     have HF2:=jj ((argsTo_succ (i) xs[d].ctors[k].args j hjl).trans (by rw [argTy_yes q2]))
     have hb1:Below wr wr (wr.alloc (.cells #[xs[d].ctors[k].args[j].d,.int .i64 (i)] 25)):=(zy2 _ _).alloc (zz8 _) _
     have hB1:=hB.trans (hb1.mono hB.size)
     have HO1:=jj (HO.out.below (fun x cs G hk h=>TyR_mono' _ _ x cs G hk h) hb1)
     have hbs:w.heap.size+2≤(wr.alloc (.cells #[xs[d].ctors[k].args[j].d,.int .i64 (i)] 25)).heap.size:=Nat.le_trans hsz hb1.size
     go_wp2_with (at_builtin;refine Halt.mk ?_)
     refine Halt.of (zA3 (P:=Try.prog) rfl _ _ 116 rfl i0 _ 16 Try.underlying116 HI.out HZ0.out HZ1.out HZ2.out rfl (by decide) TyR_len' TyR_mono' (by rfl) HO1.out ⟨xs[d].ctors[k].args[j].d,i⟩ 25 [.int .i64 (xs[d].ctors[k].args[j].d),.int .i64 (i)] [] _ (by rfl) (by simp) (by simp [Value.oneCell']) ⟨rfl,rfl⟩ (Under.nil _) (fun _ _ h=>by cases h) (by have:=zAQ (i) xs[d].ctors[k].args j;unfold maxLen;omega) (by have:=zAQ (i) xs[d].ctors[k].args j;omega) hbs ?_)
    rotate_left
    all_goals (
     intro g cp w3 hown3 hgr3 hat3
     have hrow:=HO1.out.row
     have hB3:Below w w w3:=(hB1.alloc hB1.size _).grown hgr3 (by have:=hB1.size;simp;omega) (fun g hg=>by have:=hrow g (zA2.2 hg);omega)
     have HO3:=jj hown3
     have hsz3:w.heap.size+2≤w3.heap.size:=by have:=hgr3.size;simp at this;omega
     clear hown3 hgr3 hat3 hrow
     go_wp2
     go_roundw
     case rel=>exact ⟨j+1,by omega,by go_num,(by rw [HF2.out];exact HO3.out),hB3,hsz3⟩
     case measure=>(simp [intOf] <;> omega))
   ·have hfin:GivesTys w (argsL xs[d].ctors[k] i) (.returned u9) wr:=by
     unfold argsL
     rw [HRI.out]
     have h:=HO.out
     rw [argsTo_all _ _ (by omega)] at h
     exact h.tys hB (by omega)
    have HFin:=jj hfin
    clear hfin
    go_wp2
    go_ret
    exact HFin.out
 |false =>
  have HRI:Hid (resIdx xs[d].ctors[k] i=xs[d].ctors[k].idx):=if_neg (by simp [q])
  go_enter Try.func109,Try.ntmps109
  go_wp2
  clear q c1 k0 k1 k2 hb hb3
  go_loopw [9,30] (fun ov jv wr=>∃ j:Nat,j≤xs[d].ctors[k].args.length∧jv=.int .i64 j∧Hid (Own wr (w.heap.size+2) 25 2 TyR (argsTo (xs[d].ctors[k].idx) xs[d].ctors[k].args j) ov [])∧Below w w wr∧w.heap.size+2≤wr.heap.size) (fun _ jv _=>xs[d].ctors[k].args.length-(intOf jv).toNat)
  case atStart=>exact ⟨0,Nat.zero_le _,rfl,(show Own _ _ _ _ _ [] _ _ from Own.nil _ _ _ _ _),hB2,by simp⟩
  case round =>
   clear hB2
   obtain ⟨j,hj,rfl,HO,hB,hsz⟩:=hrel
   by_cases hjl:j<xs[d].ctors[k].args.length
   ·obtain ⟨b3,off3,rfl⟩:=HC.out.ptr (by omega)
    obtain ⟨hb4,a0,a1⟩:=ArrTy.at HC.out HG3.out hB j hjl
    have g5:(0:Int)≤(j:Int):=by omega
    have g6:(j:Int)<(xs[d].ctors[k].args.length:Int):=by omega
    cases q2:(xs[d].ctors[k].args[j].i == -1)
    focus
     have HF2:=jj ((argsTo_succ (xs[d].ctors[k].idx) xs[d].ctors[k].args j hjl).trans (by rw [argTy_no q2]))
     have hb1:Below wr wr (wr.alloc (.cells #[xs[d].ctors[k].args[j].d,xs[d].ctors[k].args[j].i] 25)):=(zy2 _ _).alloc (zz8 _) _
     have hB1:=hB.trans (hb1.mono hB.size)
     have HO1:=jj (HO.out.below (fun x cs G hk h=>TyR_mono' _ _ x cs G hk h) hb1)
     have hbs:w.heap.size+2≤(wr.alloc (.cells #[xs[d].ctors[k].args[j].d,xs[d].ctors[k].args[j].i] 25)).heap.size:=Nat.le_trans hsz hb1.size
     go_wp2_with (at_builtin;refine Halt.mk ?_)
     refine Halt.of (zA3 (P:=Try.prog) rfl _ _ 116 rfl i0 _ 16 Try.underlying116 HI.out HZ0.out HZ1.out HZ2.out rfl (by decide) TyR_len' TyR_mono' (by rfl) HO1.out ⟨xs[d].ctors[k].args[j].d,xs[d].ctors[k].args[j].i⟩ 25 [.int .i64 (xs[d].ctors[k].args[j].d),.int .i64 (xs[d].ctors[k].args[j].i)] [] _ (by rfl) (by simp) (by simp [Value.oneCell']) ⟨rfl,rfl⟩ (Under.nil _) (fun _ _ h=>by cases h) (by have:=zAQ (xs[d].ctors[k].idx) xs[d].ctors[k].args j;unfold maxLen;omega) (by have:=zAQ (xs[d].ctors[k].idx) xs[d].ctors[k].args j;omega) hbs ?_)
    rotate_left
    focus
     have HF2:=jj ((argsTo_succ (xs[d].ctors[k].idx) xs[d].ctors[k].args j hjl).trans (by rw [argTy_yes q2]))
     have hb1:Below wr wr (wr.alloc (.cells #[xs[d].ctors[k].args[j].d,.int .i64 (xs[d].ctors[k].idx)] 25)):=(zy2 _ _).alloc (zz8 _) _
     have hB1:=hB.trans (hb1.mono hB.size)
     have HO1:=jj (HO.out.below (fun x cs G hk h=>TyR_mono' _ _ x cs G hk h) hb1)
     have hbs:w.heap.size+2≤(wr.alloc (.cells #[xs[d].ctors[k].args[j].d,.int .i64 (xs[d].ctors[k].idx)] 25)).heap.size:=Nat.le_trans hsz hb1.size
     go_wp2_with (at_builtin;refine Halt.mk ?_)
     refine Halt.of (zA3 (P:=Try.prog) rfl _ _ 116 rfl i0 _ 16 Try.underlying116 HI.out HZ0.out HZ1.out HZ2.out rfl (by decide) TyR_len' TyR_mono' (by rfl) HO1.out ⟨xs[d].ctors[k].args[j].d,xs[d].ctors[k].idx⟩ 25 [.int .i64 (xs[d].ctors[k].args[j].d),.int .i64 (xs[d].ctors[k].idx)] [] _ (by rfl) (by simp) (by simp [Value.oneCell']) ⟨rfl,rfl⟩ (Under.nil _) (fun _ _ h=>by cases h) (by have:=zAQ (xs[d].ctors[k].idx) xs[d].ctors[k].args j;unfold maxLen;omega) (by have:=zAQ (xs[d].ctors[k].idx) xs[d].ctors[k].args j;omega) hbs ?_)
    rotate_left
    all_goals (
     intro g cp w3 hown3 hgr3 hat3
     have hrow:=HO1.out.row
     have hB3:Below w w w3:=(hB1.alloc hB1.size _).grown hgr3 (by have:=hB1.size;simp;omega) (fun g hg=>by have:=hrow g (zA2.2 hg);omega)
     have HO3:=jj hown3
     have hsz3:w.heap.size+2≤w3.heap.size:=by have:=hgr3.size;simp at this;omega
     clear hown3 hgr3 hat3 hrow
     go_wp2
     go_roundw
     case rel=>exact ⟨j+1,by omega,by go_num,(by rw [HF2.out];exact HO3.out),hB3,hsz3⟩
     case measure=>(simp [intOf] <;> omega))
   ·have hfin:GivesTys w (argsL xs[d].ctors[k] i) (.returned u9) wr:=by
     unfold argsL
     rw [HRI.out]
     have h:=HO.out
     rw [argsTo_all _ _ (by omega)] at h
     exact h.tys hB (by omega)
    have HFin:=jj hfin
    clear hfin
    go_wp2
    go_ret
    exact HFin.out
theorem spec_l1Result (c:Kt) (i:Int) (A:Option Addr) (n cap:Nat) (w:World):Calls Try.prog 116 #[.agg #[.string c.name,.slice A n cap,c.idx],.int .i64 i] w fun e w'=>e=.returned (.int .i64 (resIdx c i))∧Below w w w':=by
 cases q:(c.idx==0) with
 |true =>
  have hf:Hid (resIdx c i=i):=if_pos q
  go_enter Try.func116,Try.ntmps116
  go_wp2
  go_ret
  exact ⟨zAP hf.out.symm,(zy2 _ _).alloc (zz8 _) _⟩
 |false =>
  have hf:Hid (resIdx c i=c.idx):=if_neg (by simp [q])
  go_enter Try.func116,Try.ntmps116
  go_wp2
  go_ret
  exact ⟨zAP hf.out.symm,(zy2 _ _).alloc (zz8 _) _⟩
theorem spec_l1Args (xs:List Dt) (d k:Nat) (i:Int) (hd:d<xs.length) (hk:k<xs[d].ctors.length) (w:World) (v:Value) (F:List Nat) (hx:Arr w (DtR w) xs v F) (hf:Under w F) (hal:xs[d].ctors[k].args.length≤3) :
  Calls Try.prog 89 #[v,.agg #[(d:Int),.int .i64 i],(k:Int)] w (GivesTys w (argsL xs[d].ctors[k] i)):=by
 obtain ⟨A,cap,rfl,hc1,hc2⟩:=hx.form
 obtain ⟨b,off,rfl⟩:=hx.ptr (by omega)
 have HX:=jj hx
 have HF:=jj hf
 clear hx hf
 obtain ⟨i0,hi,hz0,hz1,hz2⟩:=info_parts info_tyE
 have HI:=jj hi
 have HZ0:=jj hz0
 have HZ1:=jj hz1
 have HZ2:=jj hz2
 clear hi hz0 hz1 hz2
 have hB0:Below w w ((w.alloc (.cells #[(d:Int),.int .i64 i] 25)).alloc (.cells #[] 25)):=((zy2 _ _).alloc (zz8 _) _).alloc (by simp) _
 obtain ⟨A1,cap1,G1,hb,c0,c1,HK,HG,-,hn1,hn2⟩:=ArrDt.at HX.out HF.out hB0 d hd
 clear c0
 obtain ⟨b2,off2,rfl⟩:=HK.out.ptr (by omega)
 obtain ⟨A3,cap3,G3,hb3,k0,k1,k2,HC,HG3,-,hn3,hn4⟩:=ArrKt.at HK.out HG.out hB0 k hk
 have g1:(0:Int)≤(d:Int):=by omega
 have g2:(d:Int)<(xs.length:Int):=by omega
 have g3:(0:Int)≤(k:Int):=by omega
 have g4:(k:Int)<(xs[d].ctors.length:Int):=by omega
 have HL:=jj hal
 go_enter Try.func89,Try.ntmps89
 go_wp2
 clear c1 k0 k1 k2 hb hb3
 have hB2:Below w w (((w.alloc (.cells #[(d:Int),.int .i64 i] 25)).alloc (.cells #[] 25)).alloc (.cells #[.string xs[d].ctors[k].name,.slice A3 xs[d].ctors[k].args.length cap3,xs[d].ctors[k].idx] 118)):=hB0.alloc (by simp;omega) _
 have KT0:Hid (Blk (((w.alloc (.cells #[(d:Int),.int .i64 i] 25)).alloc (.cells #[] 25)).alloc (.cells #[.string xs[d].ctors[k].name,.slice A3 xs[d].ctors[k].args.length cap3,xs[d].ctors[k].idx] 118)) w.heap.size 25 #[(d:Int),.int .i64 i]):=((Blk.new _ _ _).same (Below.heap_alloc _ _ _ (by simp))).same (Below.heap_alloc _ _ _ (by simp;omega))
 have KC0:Hid (Blk (((w.alloc (.cells #[(d:Int),.int .i64 i] 25)).alloc (.cells #[] 25)).alloc (.cells #[.string xs[d].ctors[k].name,.slice A3 xs[d].ctors[k].args.length cap3,xs[d].ctors[k].idx] 118)) (w.heap.size+2) 118 #[.string xs[d].ctors[k].name,.slice A3 xs[d].ctors[k].args.length cap3,xs[d].ctors[k].idx]):=by
  have h:=Blk.new ((w.alloc (.cells #[(d:Int),.int .i64 i] 25)).alloc (.cells #[] 25)) 118 #[.string xs[d].ctors[k].name,.slice A3 xs[d].ctors[k].args.length cap3,xs[d].ctors[k].idx]
  rw [show ((w.alloc (.cells #[(d:Int),.int .i64 i] 25)).alloc (.cells #[] 25)).heap.size=w.heap.size+2 from by simp] at h
  exact h
 have HO0:Hid (Own (((w.alloc (.cells #[(d:Int),.int .i64 i] 25)).alloc (.cells #[] 25)).alloc (.cells #[.string xs[d].ctors[k].name,.slice A3 xs[d].ctors[k].args.length cap3,xs[d].ctors[k].idx] 118)) (w.heap.size+1) 25 2 TyR ([]:List Ty) (.slice (some ⟨w.heap.size+1,0,none⟩) 0 0) []):=by
  have h:=Own.made (w.alloc (.cells #[(d:Int),.int .i64 i] 25)) (w.heap.size+1) 25 2 TyR #[] 0 (by simp) (by simp [maxLen]) rfl
  rw [World.size_alloc] at h
  exact h.below (fun x cs G hk h=>TyR_mono' _ _ x cs G hk h) ((zy2 _ _).alloc (zz8 _) _)
 go_loopw [7,9] (fun ov jv wr=>∃ j:Nat,j≤xs[d].ctors[k].args.length∧jv=.int .i64 j∧Hid (Own wr (w.heap.size+1) 25 2 TyR (argsTo (resIdx xs[d].ctors[k] i) xs[d].ctors[k].args j) ov [])∧Below w w wr∧Hid (Blk wr w 25 #[(d:Int),.int .i64 i])∧Hid (Blk wr (w.heap.size+2) 118 #[.string xs[d].ctors[k].name,.slice A3 xs[d].ctors[k].args.length cap3,xs[d].ctors[k].idx])∧Hid (∀ g'∈rowOf ov,g'=w.heap.size+1∨w.heap.size+3≤g')) (fun _ jv _=>xs[d].ctors[k].args.length-(intOf jv).toNat)
 case atStart=>exact ⟨0,Nat.zero_le _,rfl,HO0,hB2,KT0,KC0,fun g' hg'=>by rw [zA7,zy1] at hg';exact .inl hg'⟩
 case round =>
  clear hB2 hB0 KT0 KC0 HO0
  obtain ⟨j,hj,rfl,HO,hB,KT,KC,HN⟩:=hrel
  have y1:wr.cell? ⟨w,1,none⟩=some (.int .i64 i):=(KT.out.cell 1).trans (by simp)
  have q0:wr.cell? ⟨w.heap.size+2,0,none⟩=some (.string xs[d].ctors[k].name):=(KC.out.cell 0).trans (by simp)
  have q1:wr.cell? ⟨w.heap.size+2,1,none⟩=some (.slice A3 xs[d].ctors[k].args.length cap3):=(KC.out.cell 1).trans (by simp)
  have q2:wr.cell? ⟨w.heap.size+2,2,none⟩=xs[d].ctors[k].idx:=(KC.out.cell 2).trans (by simp)
  have hsz:=KC.out.lt
  have hsz0:=KT.out.lt
  by_cases hjl:j<xs[d].ctors[k].args.length
  ·obtain ⟨b3,off3,rfl⟩:=HC.out.ptr (by omega)
   obtain ⟨hb4,a0,a1⟩:=ArrTy.at HC.out HG3.out hB j hjl
   have g5:(0:Int)≤(j:Int):=by omega
   have g6:(j:Int)<(xs[d].ctors[k].args.length:Int):=by omega
   have hbx:Below wr wr (wr.alloc (.cells #[xs[d].ctors[k].args[j].d,xs[d].ctors[k].args[j].i] 25)):=(zy2 _ _).alloc (zz8 _) _
   have hBx:=hB.trans (hbx.mono hB.size)
   have HOx:=jj (HO.out.below (fun x cs G hk h=>TyR_mono' _ _ x cs G hk h) hbx)
   have KTx:=jj (KT.out.same (hbx.block _ KT.out.lt))
   have KCx:=jj (KC.out.same (hbx.block _ KC.out.lt))
   cases q3:(xs[d].ctors[k].args[j].i == -1) with
   |true =>
    have HF2:=jj ((argsTo_succ (resIdx xs[d].ctors[k] i) xs[d].ctors[k].args j hjl).trans (by rw [argTy_yes q3]))
    have KX:=jj (Blk.new wr 25 #[xs[d].ctors[k].args[j].d,xs[d].ctors[k].args[j].i])
    go_wp2_with fail
    obtain ⟨W4,hW4⟩:∃ W4,W4=wr.alloc (.cells #[xs[d].ctors[k].args[j].d,xs[d].ctors[k].args[j].i] 25):=⟨_,rfl⟩
    rw [←hW4] at hbx hBx HOx KTx KCx KX ⊢
    clear hW4
    refine (spec_l1Result xs[d].ctors[k] i _ _ _ W4).mono ?_
    rintro e w4 ⟨rfl,hb4'⟩
    have hB4:=hBx.trans (hb4'.mono hBx.size)
    have HO4:=jj (HOx.out.below (fun x cs G hk h=>TyR_mono' _ _ x cs G hk h) hb4')
    have KT4:=jj (KTx.out.same (hb4'.block _ KTx.out.lt))
    have KC4:=jj (KCx.out.same (hb4'.block _ KCx.out.lt))
    have k4:=KX.out.same (hb4'.block _ KX.out.lt)
    have z0:w4.cell? ⟨wr,0,none⟩=xs[d].ctors[k].args[j].d:=(k4.cell 0).trans (by simp)
    have z1:w4.cell? ⟨wr,1,none⟩=xs[d].ctors[k].args[j].i:=(k4.cell 1).trans (by simp)
    have zf:=k4.frozen 1
    have hz4:=k4.lt
    have hrw:=HO4.out.row
    have hrow0:=HO.out.row
    have hB1:Below w w (w4.setCell ⟨wr,1,none⟩ (.int .i64 (resIdx xs[d].ctors[k] i))):=hB4.setCell (by show w.heap.size≤wr.heap.size;omega) _
    have HO1:=jj (Own.set (j:=1) (b:=wr.heap.size) TyR_mono' HO4.out (.int .i64 (resIdx xs[d].ctors[k] i)) (fun h=>by have:=(hrow0 _ h).2;omega) (fun h=>by cases h))
    have KT1:Hid (Blk (w4.setCell ⟨wr,1,none⟩ (.int .i64 (resIdx xs[d].ctors[k] i))) w.heap.size 25 #[(d:Int),.int .i64 i]):=KT4.out.same (zz7 _ _ _ _ (by show w.heap.size≠wr.heap.size;omega))
    have KC1:Hid (Blk (w4.setCell ⟨wr,1,none⟩ (.int .i64 (resIdx xs[d].ctors[k] i))) (w.heap.size+2) 118 #[.string xs[d].ctors[k].name,.slice (some ⟨b3,off3,none⟩) xs[d].ctors[k].args.length cap3,xs[d].ctors[k].idx]):=KC4.out.same (zz7 _ _ _ _ (by show w.heap.size+2≠wr.heap.size;omega))
    have hbs:w.heap.size+1≤(w4.setCell ⟨wr,1,none⟩ (.int .i64 (resIdx xs[d].ctors[k] i))).heap.size:=Nat.le_of_lt (Nat.lt_of_le_of_lt (Nat.le_add_right _ 1) KC1.out.lt)
    have hbs3:w.heap.size+3≤(w4.setCell ⟨wr,1,none⟩ (.int .i64 (resIdx xs[d].ctors[k] i))).heap.size:=KC1.out.lt
    have hrow2:=HN.out
    clear hbx hBx HOx KTx KCx KX k4 hrw hrow0 y1 q0 q1 q2 a0 a1
    generalize hrr:resIdx xs[d].ctors[k] i=rr at *
    have HRR:=jj hrr
    clear hrr
    go_wp2_with (at_builtin;refine Halt.mk ?_)
    refine Halt.of (zA3 (P:=Try.prog) rfl _ _ 116 rfl i0 _ 16 Try.underlying116 HI.out HZ0.out HZ1.out HZ2.out rfl (by decide) TyR_len' TyR_mono' (by rfl) HO1.out ⟨xs[d].ctors[k].args[j].d,rr⟩ 25 [.int .i64 (xs[d].ctors[k].args[j].d),.int .i64 (rr)] [] _ (by rfl) (by simp) (by simp [Value.oneCell']) ⟨rfl,rfl⟩ (Under.nil _) (fun _ _ h=>by cases h) (by have:=zAQ (rr) xs[d].ctors[k].args j;unfold maxLen;omega) (by have:=zAQ (rr) xs[d].ctors[k].args j;omega) hbs ?_)
    intro g cp w3 hown3 hgr3 hat3
    have hrow:=HO1.out.row
    have hB3:Below w w w3:=(hB1.alloc hB1.size _).grown hgr3 (by have:=hB1.size;simp;omega) (fun g hg=>by have:=hrow g (zA2.2 hg);omega)
    have HO3:=jj hown3
    have KT3:Hid (Blk w3 w 25 #[(d:Int),.int .i64 i]):=(KT1.out.same (Below.heap_alloc _ _ _ KT1.out.lt)).same (hgr3.block _ (by have:=KT1.out.lt;simp;omega) (fun e=>by have:=hrow _ (zA2.2 e.symm);omega))
    have KC3:Hid (Blk w3 (w.heap.size+2) 118 #[.string xs[d].ctors[k].name,.slice (some ⟨b3,off3,none⟩) xs[d].ctors[k].args.length cap3,xs[d].ctors[k].idx]):=(KC1.out.same (Below.heap_alloc _ _ _ KC1.out.lt)).same (hgr3.block _ (by have:=KC1.out.lt;simp;omega) (fun e=>by have:=hrow2 _ (zA2.2 e.symm);omega))
    have hne3:∀ g'∈rowOf (.slice (some ⟨g,0,none⟩) ((argsTo (rr) xs[d].ctors[k].args j).length+1) cp),g'=w.heap.size+1∨w.heap.size+3≤g':=fun g' hg'=>by
     rw [zA7,zy1] at hg'
     subst hg'
     rcases hat3 with h | h
     ·exact hrow2 _ (zA2.2 h)
     ·right;have:=hbs3;omega
    have HN3:=jj hne3
    clear hown3 hgr3 hat3 hrow hrow2 hne3
    go_wp2
    go_roundw
    case rel=>exact ⟨j+1,by omega,by go_num,(by rw [HRR.out,HF2.out];exact HO3.out),hB3,KT3,KC3,HN3⟩
    case measure=>(simp [intOf] <;> omega)
   |false =>
    have HF2:=jj ((argsTo_succ (resIdx xs[d].ctors[k] i) xs[d].ctors[k].args j hjl).trans (by rw [argTy_no q3]))
    have hB1:=hBx
    have HO1:=HOx
    have KT1:Hid (Blk (wr.alloc (.cells #[xs[d].ctors[k].args[j].d,xs[d].ctors[k].args[j].i] 25)) w.heap.size 25 #[(d:Int),.int .i64 i]):=KTx
    have KC1:Hid (Blk (wr.alloc (.cells #[xs[d].ctors[k].args[j].d,xs[d].ctors[k].args[j].i] 25)) (w.heap.size+2) 118 #[.string xs[d].ctors[k].name,.slice (some ⟨b3,off3,none⟩) xs[d].ctors[k].args.length cap3,xs[d].ctors[k].idx]):=KCx
    have hbs:w.heap.size+1≤(wr.alloc (.cells #[xs[d].ctors[k].args[j].d,xs[d].ctors[k].args[j].i] 25)).heap.size:=Nat.le_of_lt (Nat.lt_of_le_of_lt (Nat.le_add_right _ 1) KC1.out.lt)
    have hbs3:w.heap.size+3≤(wr.alloc (.cells #[xs[d].ctors[k].args[j].d,xs[d].ctors[k].args[j].i] 25)).heap.size:=KC1.out.lt
    have hrow2:=HN.out
    clear hBx HOx KTx KCx
    go_wp2_with (at_builtin;refine Halt.mk ?_)
    refine Halt.of (zA3 (P:=Try.prog) rfl _ _ 116 rfl i0 _ 16 Try.underlying116 HI.out HZ0.out HZ1.out HZ2.out rfl (by decide) TyR_len' TyR_mono' (by rfl) HO1.out ⟨xs[d].ctors[k].args[j].d,xs[d].ctors[k].args[j].i⟩ 25 [.int .i64 (xs[d].ctors[k].args[j].d),.int .i64 (xs[d].ctors[k].args[j].i)] [] _ (by rfl) (by simp) (by simp [Value.oneCell']) ⟨rfl,rfl⟩ (Under.nil _) (fun _ _ h=>by cases h) (by have:=zAQ (resIdx xs[d].ctors[k] i) xs[d].ctors[k].args j;unfold maxLen;omega) (by have:=zAQ (resIdx xs[d].ctors[k] i) xs[d].ctors[k].args j;omega) hbs ?_)
    intro g cp w3 hown3 hgr3 hat3
    have hrow:=HO1.out.row
    have hB3:Below w w w3:=(hB1.alloc hB1.size _).grown hgr3 (by have:=hB1.size;simp;omega) (fun g hg=>by have:=hrow g (zA2.2 hg);omega)
    have HO3:=jj hown3
    have KT3:Hid (Blk w3 w 25 #[(d:Int),.int .i64 i]):=(KT1.out.same (Below.heap_alloc _ _ _ KT1.out.lt)).same (hgr3.block _ (by have:=KT1.out.lt;simp;omega) (fun e=>by have:=hrow _ (zA2.2 e.symm);omega))
    have KC3:Hid (Blk w3 (w.heap.size+2) 118 #[.string xs[d].ctors[k].name,.slice (some ⟨b3,off3,none⟩) xs[d].ctors[k].args.length cap3,xs[d].ctors[k].idx]):=(KC1.out.same (Below.heap_alloc _ _ _ KC1.out.lt)).same (hgr3.block _ (by have:=KC1.out.lt;simp;omega) (fun e=>by have:=hrow2 _ (zA2.2 e.symm);omega))
    have hne3:∀ g'∈rowOf (.slice (some ⟨g,0,none⟩) ((argsTo (resIdx xs[d].ctors[k] i) xs[d].ctors[k].args j).length+1) cp),g'=w.heap.size+1∨w.heap.size+3≤g':=fun g' hg'=>by
     rw [zA7,zy1] at hg'
     subst hg'
     rcases hat3 with h | h
     ·exact hrow2 _ (zA2.2 h)
     ·right;have:=hbs3;omega
    have HN3:=jj hne3
    clear hown3 hgr3 hat3 hrow hrow2 hne3
    go_wp2
    go_roundw
    case rel=>exact ⟨j+1,by omega,by go_num,(by rw [HF2.out];exact HO3.out),hB3,KT3,KC3,HN3⟩
    case measure=>(simp [intOf] <;> omega)
  ·have hfin:GivesTys w (argsL xs[d].ctors[k] i) (.returned u7) wr:=by
    unfold argsL
    have h:=HO.out
    rw [argsTo_all _ _ (by omega)] at h
    exact h.tys hB (by omega)
   have HFin:=jj hfin
   clear hfin
   go_wp2
   go_ret
   exact HFin.out
theorem info_int:(Try.prog.info? 3).map (fun i=>(i.zero,i.size,i.bytes))=some (some (.int .i64 0),1,8):=by kernel_rfl
def fitsB (c:Kt) (i:Int):Bool:=c.idx==0 || (i==0 || c.idx==i)
def fitAt (cs:List Kt) (i:Int) (k:Nat):Bool:=match cs[k]? with | some c=>fitsB c i | none=>false
def fitTo (cs:List Kt) (i:Int) (n:Nat):List Int:=((List.range n).filter (fitAt cs i)).map Int.ofNat
def ctorsAt (xs:List Dt) (d:Int):List Kt:=match xs[d.toNat]? with | some x=>x.ctors | none=>[]
def ctorsL (xs:List Dt) (t:Ty):List Int:=if t.d = -1 then [] else fitTo (ctorsAt xs t.d) t.i (ctorsAt xs t.d).length
theorem fitTo_succ (cs:List Kt) (i:Int) (n:Nat) (h:n<cs.length):fitTo cs i (n+1)=if fitsB cs[n] i then fitTo cs i n ++ [(n:Int)] else fitTo cs i n:=by
 unfold fitTo
 rw [List.range_succ,List.filter_append]
 have hf:fitAt cs i n=fitsB cs[n] i:=by unfold fitAt;rw [List.getElem?_eq_getElem h]
 cases hb:fitsB cs[n] i <;> simp [hf,hb]
theorem fitTo_yes {cs:List Kt} {i:Int} {n:Nat} (h:n<cs.length) (e:fitsB cs[n] i=true):fitTo cs i (n+1)=fitTo cs i n ++ [(n:Int)]:=by rw [fitTo_succ cs i n h,if_pos e]
theorem fitTo_no {cs:List Kt} {i:Int} {n:Nat} (h:n<cs.length) (e:fitsB cs[n] i=false):fitTo cs i (n+1)=fitTo cs i n:=by rw [fitTo_succ cs i n h,if_neg (by simp [e])]
theorem fitTo_len (cs:List Kt) (i:Int) (n:Nat):(fitTo cs i n).length≤n:=by
 unfold fitTo
 rw [List.length_map]
 exact Nat.le_trans (List.length_filter_le _ _) (by simp)
theorem ctorsL_int {xs:List Dt} {t:Ty} (h:t.d = -1):ctorsL xs t=[]:=if_pos h
theorem ctorsAt_get {xs:List Dt} {d:Nat} (h:d<xs.length):ctorsAt xs (d:Int)=xs[d].ctors:=by unfold ctorsAt;rw [Int.toNat_natCast,List.getElem?_eq_getElem h]
theorem ctorsL_data {xs:List Dt} {d:Nat} {i:Int} (h:d<xs.length):ctorsL xs ⟨(d:Int),i⟩=fitTo xs[d].ctors i xs[d].ctors.length:=by
 unfold ctorsL
 rw [if_neg (by show ¬((d:Int) = -1);omega)]
 show fitTo (ctorsAt xs (d:Int)) i (ctorsAt xs (d:Int)).length=_
 rw [ctorsAt_get h]
def MadeNats (w:World) (xs:List Int) (e:Ending) (w':World):Prop:=MadeArr NatR w xs e w'
theorem Own.nats {w0 w:World} {B:Nat} {E:TypeId} {xs:List Int} {v:Value} (h:Own w B E 1 NatR xs v []) (hb:Below w0 w0 w) (hB:w0.heap.size≤B):MadeNats w0 xs (.returned v) w :=
 h.gives hb hB (fun b hb=>by cases hb) (Free.nil _)
theorem impl_ctorsOf (xs:List Dt) (t:Ty) (w:World) (v:Value) (F:List Nat) (hx:Arr w (DtR w) xs v F) (hf:Under w F) (hw:WorldOK xs) (ht:InWorld xs.length t) :
  Calls Try.prog 108 #[v,.agg #[t.d,t.i]] w (MadeNats w (ctorsL xs t)):=by
 obtain ⟨A,cap,rfl,hc1,hc2⟩:=hx.form
 have HX:=jj hx
 have HF:=jj hf
 clear hx hf
 rcases ht with hd | ⟨d,hd,hdl⟩
 ·have hf:=jj (ctorsL_int (xs:=xs) hd)
  have t0:(t.d != -1)=false:=by simp [hd]
  clear hd
  go_enter Try.func108,Try.ntmps108
  go_wp2
  go_ret
  rw [hf.out]
  exact ⟨_,[],rfl,(zy2 _ _).alloc (zz8 _) _,Arr.nil,Free.nil _,Fresh.nil _ _⟩
 ·obtain ⟨t1,t2⟩:=t
  simp only at hd
  subst hd
  have hf:=jj (ctorsL_data (i:=t2) hdl)
  have t0:((d:Int) != -1)=true:=by rw [bne_iff_ne];omega
  obtain ⟨i0,hi,hz0,hz1,hz2⟩:=info_parts info_int
  have HI:=jj hi
  have HZ0:=jj hz0
  have HZ1:=jj hz1
  have HZ2:=jj hz2
  clear hi hz0 hz1 hz2
  obtain ⟨b,off,rfl⟩:=HX.out.ptr (by omega)
  have hB0:Below w w (w.alloc (.cells #[(d:Int),.int .i64 t2] 25)):=(zy2 _ _).alloc (zz8 _) _
  obtain ⟨A1,cap1,G1,hb,c0,c1,HK,HG,hs,hn1,hn2⟩:=ArrDt.at HX.out HF.out hB0 d hdl
  have g1:(0:Int)≤(d:Int):=by omega
  have g2:(d:Int)<(xs.length:Int):=by omega
  have HL:=jj (hw.at hdl).hi
  clear c0 hs
  go_enter Try.func108,Try.ntmps108
  go_wp2
  clear c1 hb
  go_loopw [5,18] (fun ov iv wr=>∃ k:Nat,k≤xs[d].ctors.length∧iv=.int .i64 k∧Hid (Own wr (w.heap.size+1) 3 1 NatR (fitTo xs[d].ctors t2 k) ov [])∧Below w w wr∧Hid (Blk wr w 25 #[(d:Int),.int .i64 t2])) (fun _ iv _=>xs[d].ctors.length-(intOf iv).toNat)
  case atStart=>exact ⟨0,Nat.zero_le _,rfl,(show Own _ _ _ _ _ [] _ _ from Own.nil _ _ _ _ _),hB0,Blk.new _ _ _⟩
  case round =>
   clear hB0
   obtain ⟨k,hk,rfl,HO,hB,KT⟩:=hrel
   by_cases hkl:k<xs[d].ctors.length
   ·obtain ⟨b2,off2,rfl⟩:=HK.out.ptr (by omega)
    obtain ⟨A3,cap3,G3,hb3,k0,k1,k2,HC,HG3,-,-,-⟩:=ArrKt.rep HK.out HG.out hB k hkl
    have g3:(0:Int)≤(k:Int):=by omega
    have g4:(k:Int)<(xs[d].ctors.length:Int):=by omega
    have y1:wr.cell? ⟨w,1,none⟩=some (.int .i64 t2):=(KT.out.cell 1).trans (by simp)
    have hy1:=KT.out.lt
    have hb1:Below wr wr (wr.alloc (.cells #[.string xs[d].ctors[k].name,.slice A3 xs[d].ctors[k].args.length cap3,xs[d].ctors[k].idx] 118)):=(zy2 _ _).alloc (zz8 _) _
    have hB1:=hB.trans (hb1.mono hB.size)
    have HO1:=jj (HO.out.below (fun x cs G hk h=>zAX _ _ x cs G hk h) hb1)
    have KT1:Hid (Blk (wr.alloc (.cells #[.string xs[d].ctors[k].name,.slice A3 xs[d].ctors[k].args.length cap3,xs[d].ctors[k].idx] 118)) w.heap.size 25 #[(d:Int),.int .i64 t2]):=KT.out.same (hb1.block _ KT.out.lt)
    have hsz1:wr.heap.size≤(wr.alloc (.cells #[.string xs[d].ctors[k].name,.slice A3 xs[d].ctors[k].args.length cap3,xs[d].ctors[k].idx] 118)).heap.size:=hb1.size
    have hz1':w.heap.size+1≤wr.heap.size:=KT.out.lt
    cases q0:(t2==0) with
    |true =>
     have e1:fitsB xs[d].ctors[k] t2=true:=by unfold fitsB;rw [q0,Bool.true_or,Bool.or_true]
     have HF2:=jj (fitTo_yes hkl e1)
     clear e1
     have hlen:=fitTo_len xs[d].ctors t2 k
     go_wp2_with (at_builtin;refine Halt.mk ?_)
     refine Halt.of (zA3 (P:=Try.prog) rfl _ _ 72 rfl i0 _ 8 Try.underlying72 HI.out HZ0.out HZ1.out HZ2.out rfl Nat.zero_lt_one NatR_len zAX (by rfl) HO1.out (k:Int) 3 [(k:Int)] [] _ (by rfl) (by simp) (by simp [Value.oneCell']) ⟨rfl,rfl⟩ (Under.nil _) (fun _ _ h=>by cases h) (by have:=HL.out;unfold maxLen;omega) (by have:=HL.out;omega) (Nat.le_trans hz1' hsz1) ?_)
     intro g cp w3 hown3 hgr3 hat3
     have hrow:=HO1.out.row
     have hB3:Below w w w3:=(hB1.alloc hB1.size _).grown hgr3 (by have:=hB1.size;simp;omega) (fun g hg=>by have:=hrow g (zA2.2 hg);omega)
     have HO3:=jj hown3
     have KT3:Hid (Blk w3 w 25 #[(d:Int),.int .i64 t2]):=(KT1.out.same (Below.heap_alloc _ _ _ KT1.out.lt)).same (hgr3.block _ (by have:=KT1.out.lt;simp;omega) (fun e=>by have:=hrow _ (zA2.2 e.symm);omega))
     have hsz3:=hgr3.size
     clear hown3 hgr3 hat3 hrow hlen
     go_wp2
     go_roundw
     case rel=>exact ⟨k+1,by omega,by go_num,(by rw [HF2.out];exact HO3.out),hB3,KT3⟩
     case measure=>(simp [intOf] <;> omega)
    |false =>
     cases q1:(xs[d].ctors[k].idx==0) with
     |true =>
      have e1:fitsB xs[d].ctors[k] t2=true:=by unfold fitsB;rw [q1,Bool.true_or]
      have HF2:=jj (fitTo_yes hkl e1)
      clear e1
      have hlen:=fitTo_len xs[d].ctors t2 k
      go_wp2_with (at_builtin;refine Halt.mk ?_)
      refine Halt.of (zA3 (P:=Try.prog) rfl _ _ 72 rfl i0 _ 8 Try.underlying72 HI.out HZ0.out HZ1.out HZ2.out rfl Nat.zero_lt_one NatR_len zAX (by rfl) HO1.out (k:Int) 3 [(k:Int)] [] _ (by rfl) (by simp) (by simp [Value.oneCell']) ⟨rfl,rfl⟩ (Under.nil _) (fun _ _ h=>by cases h) (by have:=HL.out;unfold maxLen;omega) (by have:=HL.out;omega) (Nat.le_trans hz1' hsz1) ?_)
      intro g cp w3 hown3 hgr3 hat3
      have hrow:=HO1.out.row
      have hB3:Below w w w3:=(hB1.alloc hB1.size _).grown hgr3 (by have:=hB1.size;simp;omega) (fun g hg=>by have:=hrow g (zA2.2 hg);omega)
      have HO3:=jj hown3
      have KT3:Hid (Blk w3 w 25 #[(d:Int),.int .i64 t2]):=(KT1.out.same (Below.heap_alloc _ _ _ KT1.out.lt)).same (hgr3.block _ (by have:=KT1.out.lt;simp;omega) (fun e=>by have:=hrow _ (zA2.2 e.symm);omega))
      have hsz3:=hgr3.size
      clear hown3 hgr3 hat3 hrow hlen
      go_wp2
      go_roundw
      case rel=>exact ⟨k+1,by omega,by go_num,(by rw [HF2.out];exact HO3.out),hB3,KT3⟩
      case measure=>(simp [intOf] <;> omega)
     |false =>
      cases q2:(xs[d].ctors[k].idx==t2) with
      |true =>
       have e1:fitsB xs[d].ctors[k] t2=true:=by unfold fitsB;rw [q0,q1,q2];rfl
       have HF2:=jj (fitTo_yes hkl e1)
       clear e1
       have hlen:=fitTo_len xs[d].ctors t2 k
       go_wp2_with (at_builtin;refine Halt.mk ?_)
       refine Halt.of (zA3 (P:=Try.prog) rfl _ _ 72 rfl i0 _ 8 Try.underlying72 HI.out HZ0.out HZ1.out HZ2.out rfl Nat.zero_lt_one NatR_len zAX (by rfl) HO1.out (k:Int) 3 [(k:Int)] [] _ (by rfl) (by simp) (by simp [Value.oneCell']) ⟨rfl,rfl⟩ (Under.nil _) (fun _ _ h=>by cases h) (by have:=HL.out;unfold maxLen;omega) (by have:=HL.out;omega) (Nat.le_trans hz1' hsz1) ?_)
       intro g cp w3 hown3 hgr3 hat3
       have hrow:=HO1.out.row
       have hB3:Below w w w3:=(hB1.alloc hB1.size _).grown hgr3 (by have:=hB1.size;simp;omega) (fun g hg=>by have:=hrow g (zA2.2 hg);omega)
       have HO3:=jj hown3
       have KT3:Hid (Blk w3 w 25 #[(d:Int),.int .i64 t2]):=(KT1.out.same (Below.heap_alloc _ _ _ KT1.out.lt)).same (hgr3.block _ (by have:=KT1.out.lt;simp;omega) (fun e=>by have:=hrow _ (zA2.2 e.symm);omega))
       have hsz3:=hgr3.size
       clear hown3 hgr3 hat3 hrow hlen
       go_wp2
       go_roundw
       case rel=>exact ⟨k+1,by omega,by go_num,(by rw [HF2.out];exact HO3.out),hB3,KT3⟩
       case measure=>(simp [intOf] <;> omega)
      |false =>
       have e1:fitsB xs[d].ctors[k] t2=false:=by unfold fitsB;rw [q0,q1,q2];rfl
       have HF2:=jj (fitTo_no hkl e1)
       clear e1
       go_wp2
       go_roundw
       case rel=>exact ⟨k+1,by omega,by go_num,(by rw [HF2.out];exact HO1.out),hB1,KT1⟩
       case measure=>(simp [intOf] <;> omega)
   ·have hfin:MadeNats w (ctorsL xs ⟨(d:Int),t2⟩) (.returned u5) wr:=by
     rw [hf.out]
     have h:=HO.out
     rw [show k=xs[d].ctors.length by omega] at h
     exact h.nats hB (by omega)
    have HFin:=jj hfin
    clear hfin
    go_wp2
    go_ret
    exact HFin.out
def ctorNames (pre:List Dt):List ByteArray:=pre.flatMap fun x=>x.ctors.map Kt.name
def twiceB (pre:List Dt) (cs:List Kt) (s c:ByteArray):Bool:=nameIn (pre.map Dt.name) s || nameIn (ctorNames pre ++ cs.map Kt.name) c
theorem nameIn_snoc (l:List ByteArray) (x s:ByteArray):nameIn (l ++ [x]) s=(nameIn l s || (x.toList==s.toList)):=by simp [nameIn]
theorem nameIn_append (l m:List ByteArray) (s:ByteArray):nameIn (l ++ m) s=(nameIn l s || nameIn m s):=by simp [nameIn]
theorem nameIn_mem {l:List ByteArray} {x s:ByteArray} (h:x∈l) (e:(x.toList==s.toList)=true):nameIn l s=true:=by
 unfold nameIn;rw [List.any_eq_true];exact ⟨x,h,e⟩
theorem ctorNames_snoc (l:List Dt) (x:Dt):ctorNames (l ++ [x])=ctorNames l ++ x.ctors.map Kt.name:=by simp [ctorNames]
def MissD (xs:List Dt) (s c:ByteArray) (i:Nat):Prop:=nameIn ((xs.take i).map Dt.name) s=false∧nameIn (ctorNames (xs.take i)) c=false
theorem MissD.snoc {xs:List Dt} {s c:ByteArray} {i:Nat} (h:MissD xs s c i) (hi:i<xs.length) (h1:(xs[i].name.toList==s.toList)=false) (h2:nameIn (xs[i].ctors.map Kt.name) c=false):MissD xs s c (i+1):=by
 unfold MissD
 rw [take_snoc' xs i hi,List.map_append,List.map_cons,List.map_nil,nameIn_snoc,ctorNames_snoc,nameIn_append,h.1,h.2,h1,h2]
 exact ⟨rfl,rfl⟩
theorem twice_hitD {xs:List Dt} {cs:List Kt} {s c:ByteArray} {i d:Nat} (hi:i<xs.length) (hd:i<d) (h1:(xs[i].name.toList==s.toList)=true):twiceB (xs.take d) cs s c=true:=by
 unfold twiceB
 rw [nameIn_mem (List.mem_map_of_mem (List.mem_take_iff_getElem.2 ⟨i,by omega,rfl⟩)) h1];rfl
theorem twice_hitC {xs:List Dt} {cs:List Kt} {s c:ByteArray} {i j d:Nat} (hi:i<xs.length) (hd:i<d) (hj:j<xs[i].ctors.length) (h1:(xs[i].ctors[j].name.toList==c.toList)=true):twiceB (xs.take d) cs s c=true:=by
 unfold twiceB
 rw [nameIn_append,nameIn_mem (l:=ctorNames (xs.take d)) (x:=xs[i].ctors[j].name) (List.mem_flatMap.2 ⟨xs[i],List.mem_take_iff_getElem.2 ⟨i,by omega,rfl⟩,List.mem_map_of_mem (List.getElem_mem hj)⟩) h1,Bool.true_or,Bool.or_true]
theorem twice_hitK {pre:List Dt} {ks:List Kt} {s c:ByteArray} {j k:Nat} (hj:j<ks.length) (hk:j<k) (h1:(ks[j].name.toList==c.toList)=true):twiceB pre (ks.take k) s c=true:=by
 unfold twiceB
 rw [nameIn_append,nameIn_mem (l:=(ks.take k).map Kt.name) (List.mem_map_of_mem (List.mem_take_iff_getElem.2 ⟨j,by omega,rfl⟩)) h1,Bool.or_true,Bool.or_true]
theorem twice_miss {xs:List Dt} {cs:List Kt} {s c:ByteArray} {d:Nat} (h:MissD xs s c d) (h1:nameIn (cs.map Kt.name) c=false):twiceB (xs.take d) cs s c=false:=by
 unfold twiceB
 rw [nameIn_append,h.1,h.2,h1];rfl
def MissK (ks:List Kt) (c:ByteArray) (j:Nat):Prop:=nameIn ((ks.take j).map Kt.name) c=false
theorem MissK.snoc {ks:List Kt} {c:ByteArray} {j:Nat} (h:MissK ks c j) (hj:j<ks.length) (h1:(ks[j].name.toList==c.toList)=false):MissK ks c (j+1):=by
 unfold MissK
 rw [take_snoc' ks j hj,List.map_append,List.map_cons,List.map_nil,nameIn_snoc,h1,Bool.or_false]
 exact h
theorem MissK.all {ks:List Kt} {c:ByteArray} {j:Nat} (h:MissK ks c j) (hj:ks.length≤j):nameIn (ks.map Kt.name) c=false:=by
 unfold MissK at h
 rwa [List.take_of_length_le hj] at h
theorem spec_l1Twice (xs:List Dt) (d k:Nat) (hd:d<xs.length) (hk:k<xs[d].ctors.length) (w:World) (v:Value) (F:List Nat) (hx:Arr w (DtR w) xs v F) (hf:Under w F) :
  Calls Try.prog 96 #[v,.int .i64 d,.int .i64 k] w fun e w'=>e=.returned (.bool (twiceB (xs.take d) (xs[d].ctors.take k) xs[d].name xs[d].ctors[k].name))∧Below w w w':=by
 obtain ⟨A,cap,rfl,hc1,hc2⟩:=hx.form
 obtain ⟨b,off,rfl⟩:=hx.ptr (by omega)
 have HX:=jj hx
 have HF:=jj hf
 clear hx hf
 go_enter Try.func96,Try.ntmps96
 go_wp2
 go_loopw [7] (fun iv wr=>∃ i:Nat,i≤d+1∧iv=.int .i64 i∧Hid ((i≤d→MissD xs xs[d].name xs[d].ctors[k].name i)∧(i=d+1→twiceB (xs.take d) (xs[d].ctors.take k) xs[d].name xs[d].ctors[k].name=false))∧Below w w wr) (fun iv _=>d+1-(intOf iv).toNat)
 case atStart=>exact ⟨0,Nat.zero_le _,rfl,⟨fun _=>⟨rfl,rfl⟩,fun h=>by omega⟩,zy2 _ _⟩
 case round =>
  obtain ⟨i,hi,rfl,HR,hB⟩:=hrel
  have HBQ:=jj (fun n=>zB1 hB n)
  by_cases hid:i<d
  ·have hil:i<xs.length:=by omega
   have HM:=jj (HR.out.1 (by omega))
   obtain ⟨Ai,capi,Gi,hbi,i0,i1,HI,HGi,-,-,-⟩:=ArrDt.at HX.out HF.out hB i hil
   obtain ⟨Ad,capd,Gd,hbd,d0,d1,HD,HGd,-,-,-⟩:=ArrDt.at HX.out HF.out hB d hd
   have g5:(0:Int)≤(i:Int):=by omega
   have g6:(i:Int)<(xs.length:Int):=by omega
   have g7:(0:Int)≤(d:Int):=by omega
   have g8:(d:Int)<(xs.length:Int):=by omega
   have hdec:decide (i<d)=true:=by simpa using hid
   cases e0:(xs[i].name.toList==xs[d].name.toList) with
   |true =>
    have hf:=jj (twice_hitD (cs:=xs[d].ctors.take k) (c:=xs[d].ctors[k].name) hil hid e0)
    go_wp2_with fail
    go_quiet (fail)
    go_wp2
    go_ret
    exact ⟨zA0 hf.out.symm,HBQ.out _⟩
   |false =>
    go_wp2_with fail
    go_quiet (fail)
    have HE0:=jj e0
    clear e0 i0 i1 d0 d1 HI HGi HD HGd hbi hbd hB
    go_wp2
    obtain ⟨wo,hwo⟩:∃ wo:World,wo=wr:=⟨_,rfl⟩
    go_loopw [8] (fun jv ws=>∃ j:Nat,j≤xs[i].ctors.length∧jv=.int .i64 j∧Hid (MissK xs[i].ctors xs[d].ctors[k].name j)∧Below w w ws) (fun jv _=>xs[i].ctors.length-(intOf jv).toNat)
    case atStart=>exact ⟨0,Nat.zero_le _,rfl,(show MissK xs[i].ctors xs[d].ctors[k].name 0 from rfl),HBQ.out _⟩
    case round =>
     clear hwo
     obtain ⟨j,hj,rfl,HK,hB2⟩:=hrel
     have HBq2:=jj (fun n=>zB1 hB2 n)
     obtain ⟨Ai,capi,Gi,hbi,i0,i1,HI,HGi,-,hci1,hci2⟩:=ArrDt.at HX.out HF.out hB2 i hil
     clear i0
     by_cases hlt:j<xs[i].ctors.length
     ·have hjl:j<xs[i].ctors.length:=by omega
      obtain ⟨bi,offi,rfl⟩:=HI.out.ptr (by omega)
      obtain ⟨-,-,-,hbj,j0,-,-,-,-,-,-,-⟩:=ArrKt.at HI.out HGi.out hB2 j hjl
      obtain ⟨Ad,capd,Gd,hbd,d0,d1,HD,HGd,-,hcd1,hcd2⟩:=ArrDt.at HX.out HF.out hB2 d hd
      clear d0
      obtain ⟨bd,offd,rfl⟩:=HD.out.ptr (by omega)
      obtain ⟨-,-,-,hbk,k0,-,-,-,-,-,-,-⟩:=ArrKt.at HD.out HGd.out hB2 k hk
      have g1:(0:Int)≤(j:Int):=by omega
      have g2:(j:Int)<(xs[i].ctors.length:Int):=by omega
      have g3:(0:Int)≤(k:Int):=by omega
      have g4:(k:Int)<(xs[d].ctors.length:Int):=by omega
      have g5:(0:Int)≤(i:Int):=by omega
      have g6:(i:Int)<(xs.length:Int):=by omega
      have g7:(0:Int)≤(d:Int):=by omega
      have g8:(d:Int)<(xs.length:Int):=by omega
      have g9:decide (k<xs[d].ctors.length)=true:=by simpa using hk
      cases e1:(xs[i].ctors[j].name.toList==xs[d].ctors[k].name.toList) with
      |true =>
       have hf:=jj (twice_hitC hil hid hjl e1:twiceB (xs.take d) (xs[d].ctors.take k) xs[d].name xs[d].ctors[k].name=true)
       go_wp2_with fail
       go_quiet (fail)
       go_wp2
       go_ret
       exact ⟨zA0 hf.out.symm,HBq2.out _⟩
      |false =>
       have HK2:=jj (HK.out.snoc hjl e1)
       go_wp2_with fail
       go_quiet (fail)
       go_wp2
       go_roundw
       case rel=>exact ⟨j+1,by omega,by go_num,HK2,HBq2.out _⟩
       case measure=>(simp [intOf] <;> omega)
     ·go_wp2_with fail
      have hm2:MissD xs xs[d].name xs[d].ctors[k].name (i+1):=HM.out.snoc hil HE0.out (HK.out.all (by omega))
      go_roundw
      case rel=>exact ⟨i+1,by omega,by go_num,⟨fun _=>hm2,fun h=>by omega⟩,hB2⟩
      case measure=>(simp [intOf] <;> omega)
  ·by_cases he:i=d
   ·subst he
    have hil:i<xs.length:=by omega
    have HM:=jj (HR.out.1 (by omega))
    have hdec:decide (i<i)=false:=by simp
    go_wp2_with fail
    go_quiet (fail)
    clear hB
    go_wp2
    obtain ⟨wo,hwo⟩:∃ wo:World,wo=wr:=⟨_,rfl⟩
    go_loopw [8] (fun jv ws=>∃ j:Nat,j≤k∧jv=.int .i64 j∧Hid (MissK xs[i].ctors xs[i].ctors[k].name j)∧Below w w ws) (fun jv _=>k-(intOf jv).toNat)
    case atStart=>exact ⟨0,Nat.zero_le _,rfl,(show MissK xs[i].ctors xs[i].ctors[k].name 0 from rfl),HBQ.out _⟩
    case round =>
     clear hwo
     obtain ⟨j,hj,rfl,HK,hB2⟩:=hrel
     have HBq2:=jj (fun n=>zB1 hB2 n)
     obtain ⟨Ai,capi,Gi,hbi,i0,i1,HI,HGi,-,hci1,hci2⟩:=ArrDt.at HX.out HF.out hB2 i hil
     clear i0
     by_cases hlt:j<k
     ·have hjl:j<xs[i].ctors.length:=by omega
      obtain ⟨bi,offi,rfl⟩:=HI.out.ptr (by omega)
      obtain ⟨-,-,-,hbj,j0,-,-,-,-,-,-,-⟩:=ArrKt.at HI.out HGi.out hB2 j hjl
      obtain ⟨-,-,-,hbk,k0,-,-,-,-,-,-,-⟩:=ArrKt.at HI.out HGi.out hB2 k hk
      have g1:(0:Int)≤(j:Int):=by omega
      have g2:(j:Int)<(xs[i].ctors.length:Int):=by omega
      have g3:(0:Int)≤(k:Int):=by omega
      have g4:(k:Int)<(xs[i].ctors.length:Int):=by omega
      have g5:(0:Int)≤(i:Int):=by omega
      have g6:(i:Int)<(xs.length:Int):=by omega
      have g7:(0:Int)≤(i:Int):=by omega
      have g8:(i:Int)<(xs.length:Int):=by omega
      have g9:decide (k<xs[i].ctors.length)=true:=by simpa using hk
      cases e1:(xs[i].ctors[j].name.toList==xs[i].ctors[k].name.toList) with
      |true =>
       have hf:=jj (twice_hitK hjl hlt e1:twiceB (xs.take i) (xs[i].ctors.take k) xs[i].name xs[i].ctors[k].name=true)
       go_wp2_with fail
       go_quiet (fail)
       go_wp2
       go_ret
       exact ⟨zA0 hf.out.symm,HBq2.out _⟩
      |false =>
       have HK2:=jj (HK.out.snoc hjl e1)
       go_wp2_with fail
       go_quiet (fail)
       go_wp2
       go_roundw
       case rel=>exact ⟨j+1,by omega,by go_num,HK2,HBq2.out _⟩
       case measure=>(simp [intOf] <;> omega)
     ·go_wp2_with fail
      have hm2:twiceB (xs.take i) (xs[i].ctors.take k) xs[i].name xs[i].ctors[k].name=false:=twice_miss HM.out (by have h:=HK.out;have e:j=k:=(by omega);unfold MissK at h;rw [e] at h;exact h)
      go_roundw
      case rel=>exact ⟨i+1,by omega,by go_num,⟨fun h=>by omega,fun _=>hm2⟩,hB2⟩
      case measure=>(simp [intOf] <;> omega)
   ·have hf:=jj (HR.out.2 (by omega))
    go_wp2
    go_ret
    exact ⟨zA0 hf.out.symm,hB⟩
def WInv (xs:List Dt) (d:Nat):Prop:=worldOk xs=worldGo xs.length ((xs.take d).map Dt.name) (ctorNames (xs.take d)) (xs.drop d)
def KInv (xs:List Dt) (d:Nat) (hd:d<xs.length) (k:Nat):Prop :=
 worldOk xs=(ctorsSpec xs.length (nameIn ((xs.take d).map Dt.name) xs[d].name) (ctorNames (xs.take d) ++ (xs[d].ctors.take k).map Kt.name) (xs[d].ctors.drop k) && worldGo xs.length ((xs.take (d+1)).map Dt.name) (ctorNames (xs.take (d+1))) (xs.drop (d+1)))
def KInvI (xs:List Dt) (d:Nat) (hd:d<xs.length) (k:Nat):Prop :=
 worldOk xs=(ctorsGo xs.length (ctorNames (xs.take d) ++ (xs[d].ctors.take k).map Kt.name) (xs[d].ctors.drop k) && worldGo xs.length ((xs.take (d+1)).map Dt.name) (ctorNames (xs.take (d+1))) (xs.drop (d+1)))
theorem WInv.zero {xs:List Dt} (h:xs.length≤4):WInv xs 0:=by
 unfold WInv worldOk
 rw [decide_eq_true (by omega),Bool.true_and];rfl
theorem worldOk_long {xs:List Dt} (h:¬xs.length≤4):worldOk xs=false:=by
 unfold worldOk
 rw [decide_eq_false (by omega),Bool.false_and]
theorem WInv.done {xs:List Dt} {d:Nat} (h:WInv xs d) (hd:xs.length≤d):worldOk xs=true:=by
 unfold WInv at h
 rw [h,List.drop_of_length_le hd];rfl
theorem WInv.step {xs:List Dt} {d:Nat} (h:WInv xs d) (hd:d<xs.length):worldOk xs=(dnameOk xs[d].name.data.toList && (!nameIn ((xs.take d).map Dt.name) xs[d].name && (withinB (xs[d].ctors.length:Int) 1 4 && (ctorsGo xs.length (ctorNames (xs.take d)) xs[d].ctors && worldGo xs.length ((xs.take (d+1)).map Dt.name) (ctorNames (xs.take (d+1))) (xs.drop (d+1)))))):=by
 unfold WInv at h
 rw [h,List.drop_eq_getElem_cons hd,worldGo,take_snoc' xs d hd,List.map_append,ctorNames_snoc];rfl
theorem WInv.bad1 {xs:List Dt} {d:Nat} (h:WInv xs d) (hd:d<xs.length) (e:dnameOk xs[d].name.data.toList=false):worldOk xs=false:=by
 rw [h.step hd,e];rfl
theorem WInv.bad2 {xs:List Dt} {d:Nat} (h:WInv xs d) (hd:d<xs.length) (e:withinB (xs[d].ctors.length:Int) 1 4=false):worldOk xs=false:=by
 rw [h.step hd,e,Bool.false_and,Bool.and_false,Bool.and_false]
theorem WInv.bad3 {xs:List Dt} {d:Nat} (h:WInv xs d) (hd:d<xs.length) (e:nameIn ((xs.take d).map Dt.name) xs[d].name=true):worldOk xs=false:=by
 rw [h.step hd,e,Bool.not_true,Bool.false_and,Bool.and_false]
theorem WInv.go {xs:List Dt} {d:Nat} (h:WInv xs d) (hd:d<xs.length) (e1:dnameOk xs[d].name.data.toList=true) (e2:withinB (xs[d].ctors.length:Int) 1 4=true):KInv xs d hd 0:=by
 unfold KInv
 have hne:xs[d].ctors≠[]:=fun e=>by
  rw [e] at e2
  simp [withinB] at e2
 rw [List.take_zero,List.map_nil,List.append_nil,List.drop_zero,ctorsSpec_eq _ _ _ _ hne,h.step hd,e1,e2,Bool.true_and,Bool.true_and,Bool.and_assoc]
theorem WInv.goI {xs:List Dt} {d:Nat} (h:WInv xs d) (hd:d<xs.length) (e1:dnameOk xs[d].name.data.toList=true) (e2:withinB (xs[d].ctors.length:Int) 1 4=true) (e3:nameIn ((xs.take d).map Dt.name) xs[d].name=false):KInvI xs d hd 0:=by
 unfold KInvI
 rw [List.take_zero,List.map_nil,List.append_nil,List.drop_zero,h.step hd,e1,e2,e3,Bool.not_false,Bool.true_and,Bool.true_and,Bool.true_and]
theorem KInv.step {xs:List Dt} {d k:Nat} {hd:d<xs.length} (h:KInv xs d hd k) (hk:k<xs[d].ctors.length) :
  worldOk xs=((ctorOkB xs.length xs[d].ctors[k] && (!twiceB (xs.take d) (xs[d].ctors.take k) xs[d].name xs[d].ctors[k].name && ctorsSpec xs.length (nameIn ((xs.take d).map Dt.name) xs[d].name) (ctorNames (xs.take d) ++ (xs[d].ctors.take (k+1)).map Kt.name) (xs[d].ctors.drop (k+1)))) && worldGo xs.length ((xs.take (d+1)).map Dt.name) (ctorNames (xs.take (d+1))) (xs.drop (d+1))):=by
 unfold KInv at h
 rw [h,List.drop_eq_getElem_cons hk,ctorsSpec,take_snoc' _ k hk,List.map_append,←List.append_assoc];rfl
theorem KInv.bad1 {xs:List Dt} {d k:Nat} {hd:d<xs.length} (h:KInv xs d hd k) (hk:k<xs[d].ctors.length) (e:ctorOkB xs.length xs[d].ctors[k]=false):worldOk xs=false:=by
 rw [h.step hk,e];rfl
theorem KInv.bad2 {xs:List Dt} {d k:Nat} {hd:d<xs.length} (h:KInv xs d hd k) (hk:k<xs[d].ctors.length) (e:twiceB (xs.take d) (xs[d].ctors.take k) xs[d].name xs[d].ctors[k].name=true):worldOk xs=false:=by
 rw [h.step hk,e,Bool.not_true,Bool.false_and,Bool.and_false,Bool.false_and]
theorem KInv.next {xs:List Dt} {d k:Nat} {hd:d<xs.length} (h:KInv xs d hd k) (hk:k<xs[d].ctors.length) (e1:ctorOkB xs.length xs[d].ctors[k]=true) (e2:twiceB (xs.take d) (xs[d].ctors.take k) xs[d].name xs[d].ctors[k].name=false):KInv xs d hd (k+1):=by
 have h':=h.step hk
 rw [e1,e2,Bool.not_false,Bool.true_and,Bool.true_and] at h'
 exact h'
theorem KInv.done {xs:List Dt} {d k:Nat} {hd:d<xs.length} (h:KInv xs d hd k) (hk:xs[d].ctors.length≤k):WInv xs (d+1):=by
 unfold KInv at h
 rw [List.drop_of_length_le hk,ctorsSpec,Bool.true_and] at h
 exact h
theorem KInvI.step {xs:List Dt} {d k:Nat} {hd:d<xs.length} (h:KInvI xs d hd k) (hk:k<xs[d].ctors.length) :
  worldOk xs=((ctorOkB xs.length xs[d].ctors[k] && (!nameIn (ctorNames (xs.take d) ++ (xs[d].ctors.take k).map Kt.name) xs[d].ctors[k].name && ctorsGo xs.length (ctorNames (xs.take d) ++ (xs[d].ctors.take (k+1)).map Kt.name) (xs[d].ctors.drop (k+1)))) && worldGo xs.length ((xs.take (d+1)).map Dt.name) (ctorNames (xs.take (d+1))) (xs.drop (d+1))):=by
 unfold KInvI at h
 rw [h,List.drop_eq_getElem_cons hk,ctorsGo,take_snoc' _ k hk,List.map_append,←List.append_assoc];rfl
theorem KInvI.bad1 {xs:List Dt} {d k:Nat} {hd:d<xs.length} (h:KInvI xs d hd k) (hk:k<xs[d].ctors.length) (e:ctorOkB xs.length xs[d].ctors[k]=false):worldOk xs=false:=by
 rw [h.step hk,e];rfl
theorem KInvI.bad2 {xs:List Dt} {d k:Nat} {hd:d<xs.length} (h:KInvI xs d hd k) (hk:k<xs[d].ctors.length) (e:nameIn (ctorNames (xs.take d) ++ (xs[d].ctors.take k).map Kt.name) xs[d].ctors[k].name=true):worldOk xs=false:=by
 rw [h.step hk,e,Bool.not_true,Bool.false_and,Bool.and_false,Bool.false_and]
theorem KInvI.next {xs:List Dt} {d k:Nat} {hd:d<xs.length} (h:KInvI xs d hd k) (hk:k<xs[d].ctors.length) (e1:ctorOkB xs.length xs[d].ctors[k]=true) (e2:nameIn (ctorNames (xs.take d) ++ (xs[d].ctors.take k).map Kt.name) xs[d].ctors[k].name=false):KInvI xs d hd (k+1):=by
 have h':=h.step hk
 rw [e1,e2,Bool.not_false,Bool.true_and,Bool.true_and] at h'
 exact h'
theorem KInvI.done {xs:List Dt} {d k:Nat} {hd:d<xs.length} (h:KInvI xs d hd k) (hk:xs[d].ctors.length≤k):WInv xs (d+1):=by
 unfold KInvI at h
 rw [List.drop_of_length_le hk,ctorsGo,Bool.true_and] at h
 exact h
theorem spec_WorldValid (xs:List Dt) (w:World) (v:Value) (F:List Nat) (hx:Arr w (DtR w) xs v F) (hf:Under w F) :
  Calls Try.prog 71 #[v] w fun e w'=>e=.returned (.bool (worldOk xs))∧Below w w w':=by
 obtain ⟨A,cap,rfl,hc1,hc2⟩:=hx.form
 have HX:=jj hx
 have HF:=jj hf
 clear hx hf
 by_cases h4:xs.length≤4
 ·have H0:=jj (WInv.zero h4)
  go_enter Try.func71,Try.ntmps71
  go_wp2
  go_loopw [3] (fun iv wr=>∃ d:Nat,d≤xs.length∧iv=.int .i64 d∧Hid (WInv xs d)∧Below w w wr) (fun iv _=>xs.length-(intOf iv).toNat)
  case atStart=>exact ⟨0,Nat.zero_le _,rfl,H0,zy2 _ _⟩
  case round =>
   obtain ⟨d,hd,rfl,HW,hB⟩:=hrel
   by_cases hlt:d<xs.length
   ·obtain ⟨b,off,rfl⟩:=HX.out.ptr (by omega)
    obtain ⟨A1,cap1,G1,hb,c0,c1,HK,HG,hs,hn1,hn2⟩:=ArrDt.at HX.out HF.out hB d hlt
    have g1:(0:Int)≤(d:Int):=by omega
    have g2:(d:Int)<(xs.length:Int):=by omega
    have HS:=jj hs
    clear hs
    go_wp2_with fail
    refine (spec_l1Data xs[d].name wr (by unfold maxLen;exact HS.out)).mono ?_
    rintro e w1 ⟨rfl,rfl⟩
    cases e1:dnameOk xs[d].name.data.toList with
    |false =>
     have hf:=jj (HW.out.bad1 hlt e1)
     clear e1
     go_wp2
     go_ret
     exact ⟨zA0 hf.out.symm,hB⟩
    |true =>
     have HE1:=jj e1
     clear e1
     by_cases hl0:xs[d].ctors.length=0
     ·have t0:((xs[d].ctors.length:Int)==0)=true:=by simp [hl0]
      have hf:=jj (HW.out.bad2 hlt (withinB_lo (by simp;omega)))
      clear hl0
      go_wp2
      go_ret
      exact ⟨zA0 hf.out.symm,hB⟩
     ·have t0:((xs[d].ctors.length:Int)==0)=false:=by simp;simpa using hl0
      by_cases hl5:4<xs[d].ctors.length
      ·have t1:decide ((xs[d].ctors.length:Int)>4)=true:=by simp;omega
       have hf:=jj (HW.out.bad2 hlt (by rw [withinB_hi (by simp;omega)];simp;omega))
       clear hl0
       go_wp2
       go_ret
       exact ⟨zA0 hf.out.symm,hB⟩
      ·have t1:decide ((xs[d].ctors.length:Int)>4)=false:=by simp;omega
       have HK0:=jj (HW.out.go hlt HE1.out ((zAF _ _ _).2 ⟨by omega,by omega⟩))
       have hl1:0<xs[d].ctors.length:=by omega
       clear hl0
       go_wp2
       clear t0 t1 c0 c1
       obtain ⟨wo,hwo⟩:∃ wo:World,wo=wr:=⟨_,rfl⟩
       go_loopw [4] (fun jv ws=>∃ k:Nat,k≤xs[d].ctors.length∧jv=.int .i64 k∧Hid (KInv xs d hlt k)∧Below w w ws) (fun jv _=>xs[d].ctors.length-(intOf jv).toNat)
       case atStart=>exact ⟨0,Nat.zero_le _,rfl,HK0,hB⟩
       case round =>
        clear hwo
        obtain ⟨k,hk,rfl,HKI,hB2⟩:=hrel
        obtain ⟨A2,cap2,G2,hb2,c0,c1,HK2,HG2,-,hn3,hn4⟩:=ArrDt.at HX.out HF.out hB2 d hlt
        clear c0
        by_cases hkl:k<xs[d].ctors.length
        ·obtain ⟨b2,off2,rfl⟩:=HK2.out.ptr (by omega)
         obtain ⟨A3,cap3,G3,hb3,k0,k1,k2,HC,HG3,-,-,-⟩:=ArrKt.rep HK2.out HG2.out hB2 k hkl
         have g3:(0:Int)≤(k:Int):=by omega
         have g4:(k:Int)<(xs[d].ctors.length:Int):=by omega
         go_wp2_with fail
         refine (spec_l1Ctor xs.length xs[d].ctors[k] _ _ _ (HC.out.below hB2 HG3.out) (HG3.out.mono hB2.size)).mono ?_
         rintro e w2 ⟨rfl,hb2'⟩
         have hB3:=hB2.trans (hb2'.mono hB2.size)
         cases e2:ctorOkB xs.length xs[d].ctors[k] with
         |false =>
          have hf:=jj (HKI.out.bad1 hkl e2)
          clear e2
          go_wp2
          go_ret
          exact ⟨zA0 hf.out.symm,hB3⟩
         |true =>
          have HE2:=jj e2
          clear e2 k0 k1 k2 c1
          go_wp2_with fail
          refine (spec_l1Twice xs d k hlt hkl _ _ F (ArrDt.below HX.out hB3 HF.out) (HF.out.mono hB3.size)).mono ?_
          rintro e w3 ⟨rfl,hb3'⟩
          have hB4:=hB3.trans (hb3'.mono hB3.size)
          cases e3:twiceB (xs.take d) (xs[d].ctors.take k) xs[d].name xs[d].ctors[k].name with
          |true =>
           have hf:=jj (HKI.out.bad2 hkl e3)
           clear e3
           go_wp2
           go_ret
           exact ⟨zA0 hf.out.symm,hB4⟩
          |false =>
           have HK3:=jj (HKI.out.next hkl HE2.out e3)
           clear e3
           go_wp2
           go_roundw
           case rel=>exact ⟨k+1,by omega,by go_num,HK3,hB4⟩
           case measure=>(simp [intOf] <;> omega)
        ·have HW2:=jj (HKI.out.done (by omega))
         go_wp2
         go_roundw
         case rel=>exact ⟨d+1,by omega,by go_num,HW2,hB2⟩
         case measure=>(simp [intOf] <;> omega)
   ·have hf:=jj (HW.out.done (by omega))
    go_wp2
    go_ret
    exact ⟨zA0 hf.out.symm,hB⟩
 ·have hf:=jj (worldOk_long h4)
  go_enter Try.func71,Try.ntmps71
  go_wp2
  go_ret
  exact ⟨zA0 hf.out.symm,zy2 _ _⟩
theorem ctorOk_closure (A:Option Addr) (n cap:Nat) (t:Ty) (w:World) (g:Nat) (hn:n≤9223372036854775807) (hg:w.cell? ⟨g,0,none⟩=some (.slice A n cap)) (hgl:g<w.heap.size) :
  Calls Try.prog 103 #[.agg #[t.d,t.i],.pointer (some ⟨g,0,none⟩)] w fun e w'=>e=.returned (.bool (!argOkB n t))∧Below w w w':=by
 have HN:=jj hn
 clear hn
 go_enter Try.func103,Try.ntmps103
 go_wp2_with fail
 obtain ⟨W2,hW2⟩:∃ W2,W2=w.alloc (.cells #[t.d,t.i] 25):=⟨_,rfl⟩
 have hB2:Below w w W2:=by rw [hW2];exact (zy2 _ _).alloc (zz8 _) _
 rw [←hW2]
 clear hW2
 refine (impl_argOk A n cap t W2 HN.out).mono ?_
 rintro e w' ⟨rfl,hB'⟩
 have hB3:=hB2.trans (hB'.mono hB2.size)
 generalize hbb:argOkB n t=bb
 have HBB:=jj hbb
 clear hbb
 go_wp2
 go_ret
 exact ⟨zA0 (by rw [HBB.out]),hB3⟩
theorem IndexFunc_Ty (A0:Option Addr) (n cap0:Nat) (xs:List Ty) (r:Int) (hr:FirstAt (fun t=>!argOkB n t) xs r) (w:World) (x:Value) (F:List Nat) (g:Nat) (hn:n≤9223372036854775807) (hg:w.cell? ⟨g,0,none⟩=some (.slice A0 n cap0)) (hgl:g<w.heap.size) (hx:Arr w (TyR w) xs x F) (hF:Under w F) :
  Calls Try.prog 122 #[x,.func (.func 103) #[] #[.pointer (some ⟨g,0,none⟩)]] w fun e w'=>e=.returned (.int .i64 r)∧Below w w w':=by
 have HX:=jj hx
 obtain ⟨A,cap,rfl,hc1,hc2⟩:=hx.form
 clear hx
 have HF:=jj hF
 clear hF
 have HG0:=jj hg
 have HN:=jj hn
 have HR:=jj hr
 clear hg hn hr
 go_enter Try.func122,Try.ntmps122
 go_wp2
 go_loopw [8] (fun i wr=>∃ k:Nat,k≤xs.length∧i=.int .i64 k∧Hid (∀ j (hj:j<xs.length),j<k→(!argOkB n xs[j])=false)∧Below w w wr) (fun i _=>xs.length-(intOf i).toNat)
 case atStart=>exact ⟨0,Nat.zero_le _,rfl,fun j hj h=>by omega,zy2 _ _⟩
 case round =>
  obtain ⟨k,hk,rfl,HT,hB⟩:=hrel
  by_cases hlt:k<xs.length
  ·have hi0:(0:Int)≤(k:Int):=by omega
   have hi1:(k:Int)<(xs.length:Int):=by omega
   obtain ⟨b,off,cs,G,rfl,hb,hcs,hv,-⟩:=HX.out.get TyR_len hlt
   have hbl:=HF.out b hb
   have hcs:=hcs.same (hB.block b hbl)
   obtain rfl:=TyR_form hv
   have c0:=hcs 0 _ rfl
   have c1:=hcs 1 _ rfl
   simp only [Nat.add_zero] at c0
   clear hcs hv hb
   have hbw:=zz9 hbl hB.size
   go_wp2_with fail
   refine (ctorOk_closure A0 n cap0 xs[k] wr g HN.out ((hB.cell (p:=⟨g,0,none⟩) hgl).trans HG0.out) (zz9 hgl hB.size)).mono ?_
   rintro e w' ⟨rfl,hB'⟩
   have hB3:=hB.trans (hB'.mono hB.size)
   cases hq:argOkB n xs[k] with
   |false =>
    have hf:Hid (r=(k:Int)):=HR.out.hit hlt (by simp [hq]) (fun j hj h=>HT.out j hj h)
    clear hq
    go_wp2
    go_ret
    exact ⟨zAP hf.out.symm,hB3⟩
   |true =>
    have hT2:Hid (∀ j (hj:j<xs.length),j<k+1→(!argOkB n xs[j])=false):=fun j hj h=>by
     rcases Nat.lt_or_ge j k with h2 | h2
     ·exact HT.out j hj h2
     ·obtain rfl:j=k:=by omega
      rw [hq];rfl
    clear hq
    go_wp2
    go_roundw
    case rel=>exact ⟨k+1,by omega,by go_num,hT2,hB3⟩
    case measure=>simp [intOf];omega
  ·have hf:Hid (r = -1):=HR.out.miss (fun j hj=>HT.out j hj (by omega))
   go_wp2
   go_ret
   exact ⟨zAP hf.out.symm,hB⟩
theorem ContainsFunc_Ty (A0:Option Addr) (n cap0:Nat) (xs:List Ty) (w:World) (x:Value) (F:List Nat) (g:Nat) (hn:n≤9223372036854775807) (hg:w.cell? ⟨g,0,none⟩=some (.slice A0 n cap0)) (hgl:g<w.heap.size) (hx:Arr w (TyR w) xs x F) (hF:Under w F) :
  Calls Try.prog 102 #[x,.func (.func 103) #[] #[.pointer (some ⟨g,0,none⟩)]] w fun e w'=>e=.returned (.bool (xs.any fun t=>!argOkB n t))∧Below w w w':=by
 obtain ⟨r,hr⟩:=FirstAt.ex (fun t=>!argOkB n t) xs
 have hf:Hid ((xs.any fun t=>!argOkB n t)=decide (0≤r)):=hr.any
 have hcall:=IndexFunc_Ty A0 n cap0 xs r hr w x F g hn hg hgl hx hF
 obtain ⟨A,cap,rfl,hc1,hc2⟩:=hx.form
 have HC:=jj hcall
 clear hcall hr hx hF hn hg
 go_enter Try.func102,Try.ntmps102
 go_wp2_with fail
 refine HC.out.mono ?_
 rintro e w' ⟨rfl,hB'⟩
 go_wp2
 go_ret
 exact ⟨zA0 hf.out.symm,hB'⟩
theorem any_not_all {α:Type} (p:α→Bool) (l:List α):(!(l.any fun t=>!p t))=l.all p:=by
 induction l with
 |nil=>rfl
 |cons x xs ih=>rw [List.any_cons,List.all_cons,Bool.not_or,ih,Bool.not_not]
theorem impl_ctorOk (A0:Option Addr) (n cap0:Nat) (c:Kt) (w:World) (cs:List Value) (F:List Nat) (hn:n≤9223372036854775807) (hv:KtR w c cs F) (hF:Under w F) :
  Calls Try.prog 81 #[.slice A0 n cap0,.agg cs.toArray] w fun e w'=>e=.returned (.bool (ctorOkB n c))∧Below w w w':=by
 obtain ⟨kv,rfl,ha,hs⟩:=hv
 have HX:=jj ha
 obtain ⟨A,cap,rfl,hc1,hc2⟩:=ha.form
 clear ha
 have HF:=jj hF
 have HS:=jj hs
 have HN:=jj hn
 clear hF hs hn
 go_enter Try.func81,Try.ntmps81
 go_wp2_with fail
 obtain ⟨W2,hW2⟩:∃ W2,W2=(w.alloc (.cells #[.slice A0 n cap0] 23)).alloc (.cells #[.string c.name,.slice A c.args.length cap,c.idx] 118):=⟨_,rfl⟩
 have hB2:Below w w W2:=by rw [hW2];exact ((zy2 _ _).alloc (zz8 _) _).alloc (by simp) _
 have k1:Blk W2 w 23 #[.slice A0 n cap0]:=by rw [hW2];exact (Blk.new w _ _).same (Below.heap_alloc _ _ _ (by simp))
 have k2:Blk W2 (w.heap.size+1) 118 #[.string c.name,.slice A c.args.length cap,c.idx]:=by rw [hW2];have:=Blk.new (w.alloc (.cells #[.slice A0 n cap0] 23)) 118 #[.string c.name,.slice A c.args.length cap,c.idx];simpa using this
 rw [←hW2]
 clear hW2
 have x0:W2.cell? ⟨w,0,none⟩=some (.slice A0 n cap0):=(k1.cell 0).trans (by simp)
 have x1:W2.cell? ⟨w.heap.size+1,1,none⟩=some (.slice A c.args.length cap):=(k2.cell 1).trans (by simp)
 have x2:W2.cell? ⟨w.heap.size+1,2,none⟩=c.idx:=(k2.cell 2).trans (by simp)
 have hlt0:=k1.lt
 clear k1 k2
 refine (impl_NameValid c.name W2 (by have:=HS.out;unfold maxLen;omega)).mono ?_
 rintro e w' ⟨rfl,rfl⟩
 have h0:ctorOkB n c=(nameOk c.name.data.toList && (decide ((c.args.length:Int)≤3) && (withinB c.idx 0 3 && c.args.all (argOkB n)))):=rfl
 cases hn:nameOk c.name.data.toList with
 |false =>
  have hf:Hid (ctorOkB n c=false):=by rw [h0,hn];rfl
  clear hn h0
  go_wp2
  go_ret
  exact ⟨zA0 hf.out.symm,hB2⟩
 |true =>
  rw [hn,Bool.true_and] at h0
  clear hn
  cases hl:decide ((c.args.length:Int)≤3) with
  |false =>
   have hf:Hid (ctorOkB n c=false):=by rw [h0,hl];rfl
   clear h0
   go_wp2
   go_ret
   exact ⟨zA0 hf.out.symm,hB2⟩
  |true =>
   rw [hl,Bool.true_and] at h0
   have H0:=jj h0
   clear h0
   go_wp2_with fail
   refine (zAE c.idx 0 3 W2).mono ?_
   rintro e w' ⟨rfl,rfl⟩
   cases hi:withinB c.idx 0 3 with
   |false =>
    have hf:Hid (ctorOkB n c=false):=by rw [H0.out,hi];rfl
    clear hi
    go_wp2
    go_ret
    exact ⟨zA0 hf.out.symm,hB2⟩
   |true =>
    have hf:Hid (ctorOkB n c=!(c.args.any fun t=>!argOkB n t)):=by rw [H0.out,hi,Bool.true_and,any_not_all];rfl
    clear hi
    go_wp2_with fail
    refine (ContainsFunc_Ty A0 n cap0 c.args W2 _ F w.heap.size HN.out x0 hlt0 (ArrTy.below HX.out hB2 HF.out) (HF.out.mono hB2.size)).mono ?_
    rintro e w' ⟨rfl,hB'⟩
    have hB3:=hB2.trans (hB'.mono hB2.size)
    generalize hbb:(c.args.any fun t=>!argOkB n t)=bb
    have HBB:=jj hbb
    clear hbb
    go_wp2
    go_ret
    exact ⟨zA0 (by rw [hf.out,HBB.out]),hB3⟩
theorem plainElem_bool_inv {H:Type} {P:Program} {e:TypeId} (he:P.underlying e=some .bool) {v:Value} {z:DataW H×List MemPlace} (h:Go.plainElem P e v=some z):∃ a,v=.bool a∧z=(.lit (.bool a),[]):=by
 unfold Go.plainElem at h
 rw [he] at h
 cases v <;> simp at h
 exact ⟨_,rfl,h.symm⟩
theorem lookup_bool {H:Type} {P:Program} {k t e:TypeId} {w:World} {b n:Nat} {D:DataW H} (h:w.ownsMap P k (Go.plainElem P e) b n D) (K:Go.Maps.Keyed P k) (ht:P.underlying t=some (.map k e)) (he:P.underlying e=some .bool) (hz:(zeroValue e).run P w=.ok (.bool false) w)
  {key:Value} {kl:Lit} (hkey:Go.keyOf P k key=some kl):∃ c,(Instr.lookup t (.map (some b)) key false).run P w=.ok (.bool c) w∧D.atKey kl (.lit (.bool false))=.lit (.bool c):=by
 obtain ⟨v,ps,hrun,hv⟩:=h.lookup K ht hz (plainElem_bool he false) hkey
 obtain ⟨c,rfl,hc⟩:=plainElem_bool_inv he hv
 simp only [Prod.mk.injEq] at hc
 exact ⟨c,hrun,hc.1⟩
end Go.Proofs.Ytjjclcmmfeegfaa
