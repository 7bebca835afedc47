/-
  Lemmas and contracts of functions: Slices that a call made itself and appends to: what they stand for, and the law of append in these words. Conditions: none. The cells of elements of slices that came in, in a later world. Conditions: none. Slices of types that a call makes. Conditions: none. argTypes of the program. Conditions: the constructor is one of the world. l1Args of the reference. Conditions: the constructor is one of the world. ctorsOf of the program: the constructors that can make values of a type. Conditions: the type lies in the world, the world is not too large. l1Twice of the reference: a name stands before. Conditions: the place lies in the world. What a valid world is, step by step, in plain Lean. Conditions: none. WorldValid of the reference. Conditions: none. ctorOk of the program: a constructor within the limits, by slices.ContainsFunc and a closure. Conditions: none. A look-up in a map whose elements are booleans, as an equation. Conditions: none. WorldValid of the program, with its two maps. Conditions: none. TypeValid of the reference and of the program. Conditions: none. l1Ctors of the reference, and CtorsOf of both. Conditions: none for CtorsOf. Slices of numbers. Conditions: none. A number in a list: slices.Contains and l1Has. Conditions: none. ArgTypes of the reference and of the program. Conditions: none. What a pattern for a type is, in plain Lean: the shape of its nodes, its variables, and that each stands once. Conditions: none.
-/
import Derived.Test.YtghekinfoadcoaaKAA
import Derived.Deep.AppendLies
import Derived.Maps.AppendAt
import Derived.Test.YtghekinfoadcoaaChecked
import Derived.Deep.RegionWith
import Derived.Deep.QuietTactic
import Derived.BigQuiet
import Derived.Laws.EntriesVeiled
import Derived.Maps.OwnOps
import Derived.Maps.Views
import Derived.Maps.Own
import Derived.StringKeys
import Derived.Deep.RegionHeld3

set_option linter.unusedVariables false
set_option linter.unusedSimpArgs false
set_option maxRecDepth 100000
set_option maxHeartbeats 1600000

namespace Go.Proofs.Ytghekinfoadcoaa
open Go.RowKit
def rowOf (v:Value):List Nat:=v.ownBlock.toList
theorem zA1 {v:Value} {g:Nat}:g∈rowOf v↔v.ownBlock=some g:=by unfold rowOf;simp [Option.mem_toList]
theorem zAH:rowOf (.slice none 0 0)=[]:=rfl
theorem zA7 (g o n c:Nat):rowOf (.slice (some ⟨g,o,none⟩) n c)=[g]:=rfl
def Own {α:Type} (w:World) (B:Nat) (E:TypeId) (k:Nat) (R:World→α→List Value→List Nat→Prop) (xs:List α) (v:Value) (F:List Nat):Prop :=
 ∃ cs,w.ownsRow B E k v xs.length cs∧Flat (R w) xs cs F∧Under w.heap.size F∧∀ g∈rowOf v,g∉F
section
variable {α : Type} {w w' : World} {B k : Nat} {E : TypeId} {R : World → α → List Value → List Nat → Prop} {xs : List α} {v : Value} {F : List Nat}
theorem Own.nil (w:World) (B:Nat) (E:TypeId) (k:Nat) (R:World→α→List Value→List Nat→Prop):Own w B E k R ([]:List α) (.slice none 0 0) [] :=
 ⟨[],World.ownsRow_nil w B E k,⟨rfl,rfl⟩,Under.nil _,fun g h=>by simp [zAH] at h⟩
theorem Own.made (w:World) (B:Nat) (E:TypeId) (k:Nat) (R:World→α→List Value→List Nat→Prop) (cur:Array Value) (cap:Nat) (hB:B≤w.heap.size) (hm:cap≤maxLen) (hs:cur.size=cap*k):Own (w.alloc (.cells cur E)) B E k R ([]:List α) (.slice (some ⟨w.heap.size,0,none⟩) 0 cap) [] :=
 ⟨[],World.ownsRow_made w cur cap hB hm hs,⟨rfl,rfl⟩,Under.nil _,fun g _ h=>by cases h⟩
theorem Own.under (h:Own w B E k R xs v F):Under w.heap.size F:=h.choose_spec.2.2.1
theorem Own.row (h:Own w B E k R xs v F):∀ g∈rowOf v,B≤g∧g<w.heap.size:=fun g hg=>h.choose_spec.1.lt g (zA1.1 hg)
theorem Own.apart (h:Own w B E k R xs v F):∀ g∈rowOf v,g∉F:=h.choose_spec.2.2.2
theorem Own.mono (hR:∀ x cs G,Kept G w w'→R w x cs G→R w' x cs G) (h:Own w B E k R xs v F) (hk:Kept (rowOf v ++ F) w w') (hs:w.heap.size≤w'.heap.size):Own w' B E k R xs v F:=by
 obtain ⟨cs,h1,h2,h3,h4⟩:=h
 refine ⟨cs,⟨h1.1,?_⟩,h2.mono fun x _ cs G hG hr=>hR x cs G (fun b hb=>hk b (List.mem_append.2 (.inr (hG b hb)))) hr,h3.mono hs,h4⟩
 rcases h1.2 with hn | ⟨g,cap,cur,rfl,hb,hg,rest⟩
 ·exact .inl hn
 ·exact .inr ⟨g,cap,cur,rfl,hb,(hk g (by simp [zA7])).trans hg,rest⟩
theorem Own.below (hR:∀ x cs G,Kept G w w'→R w x cs G→R w' x cs G) (h:Own w B E k R xs v F) (hb:Below w.heap.size w w'):Own w' B E k R xs v F :=
 h.mono hR (.of_below hb fun b hb'=>by
  rcases List.mem_append.1 hb' with h1 | h1
  ·exact (h.row b h1).2
  ·exact h.under b h1) hb.size
theorem Own.set (hR:∀ w w' x cs G,Kept G w w'→R w x cs G→R w' x cs G) (h:Own w B E k R xs v F) {b j:Nat} (u:Value) (hb:b∉rowOf v) (hF:b∉F):Own (w.setCell ⟨b,j,none⟩ u) B E k R xs v F :=
 h.mono (fun x cs G hk h=>hR _ _ x cs G hk h) (fun c hc=>zz7 _ _ _ _ (fun e=>by
  have e:c=b:=e
  subst e
  rcases List.mem_append.1 hc with h1 | h1
  ·exact hb h1
  ·exact hF h1)) (by simp [World.setCell])
theorem Own.base {B':Nat} (h:Own w B E k R xs v F) (hB:∀ g∈rowOf v,B'≤g):Own w B' E k R xs v F:=by
 obtain ⟨cs,h1,h2,h3,h4⟩:=h
 refine ⟨cs,⟨h1.1,?_⟩,h2,h3,h4⟩
 rcases h1.2 with hn | ⟨g,cap,cur,rfl,hb,hg,rest⟩
 ·exact .inl hn
 ·exact .inr ⟨g,cap,cur,rfl,hB g (by simp [zA7]),hg,rest⟩
theorem Own.form (h:Own w B E k R xs v F):∃ A cap,v=.slice A xs.length cap∧xs.length≤cap∧cap≤9223372036854775807:=by
 obtain ⟨cs,h1,-⟩:=h
 rcases h1.2 with ⟨rfl,hn⟩ | ⟨g,cap,cur,rfl,hb,hg,hc,hm,-⟩
 ·exact ⟨none,0,by rw [hn],by omega,by omega⟩
 ·exact ⟨_,cap,rfl,hc,by unfold maxLen at hm;omega⟩
theorem cellsAt_ownsRow {w:World} {B k n g cap:Nat} {E:TypeId} {cs:List Value} (h:w.ownsRow B E k (.slice (some ⟨g,0,none⟩) n cap) n cs):CellsAt w g 0 cs:=fun j u hj=>by
 have:=h.cells (g:=g) rfl j u hj
 rw [Addr.add_lit] at this
 exact this
theorem Own.arr (h:Own w B E k R xs v F):Arr w (R w) xs v (if xs=[] then [] else rowOf v ++ F):=by
 obtain ⟨A,cap,rfl,hc,hm⟩:=h.form
 refine ⟨A,cap,rfl,hc,by unfold maxLen;omega,?_⟩
 by_cases hx:xs=[]
 ·exact .inl ⟨hx,if_pos hx⟩
 ·rw [if_neg hx]
  obtain ⟨cs,h1,h2,h3,h4⟩:=h
  rcases h1.2 with ⟨hv,hn⟩ | ⟨g,cap',cur,hv,hb,hg,hc',hm',-⟩
  ·exact absurd (List.length_eq_zero_iff.1 hn) hx
  ·cases hv
   exact .inr ⟨g,0,cs,F,rfl,cellsAt_ownsRow h1,h2,rfl⟩
theorem Own.free (h:Own w B E k R xs v F) (hF:Free w F):Free w (if xs=[] then [] else rowOf v ++ F):=by
 by_cases hx:xs=[]
 ·rw [if_pos hx];exact Free.nil _
 ·rw [if_neg hx]
  obtain ⟨cs,h1,h2,h3,h4⟩:=h
  rcases h1.2 with ⟨hv,hn⟩ | ⟨g,cap',cur,rfl,hb,hg,hc',hm',-⟩
  ·exact absurd (List.length_eq_zero_iff.1 hn) hx
  ·rw [zA7]
   exact ⟨List.nodup_cons.2 ⟨h4 g (by simp [zA7]),hF.1⟩,fun b hb' i=>by
    rcases List.mem_cons.1 hb' with rfl | hb'
    ·simp [World.frozen?,hg]
    ·exact hF.2 b hb' i⟩
theorem Own.fresh {w0:World} (h:Own w B E k R xs v F) (hB:w0.heap.size≤B) (hF:∀ b∈F,w0.heap.size≤b):Fresh w0 w (if xs=[] then [] else rowOf v ++ F):=fun b hb=>by
 by_cases hx:xs=[]
 ·rw [if_pos hx] at hb;cases hb
 ·rw [if_neg hx] at hb
  rcases List.mem_append.1 hb with h1 | h1
  ·exact ⟨Nat.le_trans hB (h.row b h1).1,(h.row b h1).2⟩
  ·exact ⟨hF b h1,h.under b h1⟩
theorem grown_kept {w w':World} {v:Value} {G:List Nat} (hg:w.grownBy w' v.ownBlock) (hG:Under w.heap.size G) (hn:∀ g∈rowOf v,g∉G):Kept G w w':=fun b hb =>
 hg.block b (hG b hb) fun e=>hn b (zA1.2 e.symm) hb
variable {P : Program}
theorem wpList_push {ops:Array Oper} {rest:List Oper} {o:Oper} {a:Act} {Q:Exit→Act→World→Prop} (hgd:o.guard=none) (s x:Operand) (t:TypeId)
  (ho:o.op=.call { callee:=.builtin .append,args:=#[s,x],argTypes:=#[t,t] })
  (i:TypeInfo) (z:Value) (bytes:Nat) (ht:P.underlying t=some (.slice E)) (hi:P.info? E=some i) (hz:i.zero=some z)
  (hsize:i.size=k) (hby:i.bytes=bytes) (hzs:z.cells.size=k) (hk:0<k)
  (hRl:∀ x cs G,R w x cs G→cs.length=k) (hRm:∀ w' x cs G,Kept G w w'→R w x cs G→R w' x cs G)
  (hs:a.eval s=v) (hown:Own w B E k R xs v F) (ys:List α) (ad:Addr) (c:Nat) (news:List Value) (G:List Nat)
  (hx:a.eval x=.slice (some ad) ys.length c) (hnews:∀ j u,news[j]?=some u→w.cell? (ad.add j)=some u) (h1:∀ u∈news,u.oneCell'=true)
  (hys:Flat (R w) ys news G) (hG:Under w.heap.size G) (hvG:∀ g∈rowOf v,g∉G)
  (hm:0<ys.length) (h63:xs.length+ys.length≤maxLen) (hbytes:(xs.length+ys.length)*bytes≤140737488355328) (hbase:B≤w.heap.size)
  (h:∀ g cap w',Own w' B E k R (xs ++ ys) (.slice (some ⟨g,0,none⟩) (xs.length+ys.length) cap) (F ++ G)→w.grownBy w' v.ownBlock→(v.ownBlock=some g∨g=w.heap.size) →
   wpList P ops Q rest (a.put o.dst (.slice (some ⟨g,0,none⟩) (xs.length+ys.length) cap)) w'):wpList P ops Q (o :: rest) a w:=by
 obtain ⟨cs,h2,h3,h4,h5⟩:=id hown
 refine wpList_append_lies w hgd s x t ho B E i z k bytes ht hi hz hsize hby hzs hk v xs.length cs hs h2 ad ys.length c news hx (hys.length hRl) hnews h1 hm h63 hbytes hbase w.heap.size rfl
  fun g cap w1 hr hgr hat hlt=>h g cap w1 ⟨cs ++ news,by rw [List.length_append];exact hr,?_,?_,?_⟩ hgr hat
 ·exact (h3.mono fun x _ ds H hH hr=>hRm w1 x ds H (grown_kept hgr (h4.sub hH) fun g hg hn=>h5 g hg (hH g hn)) hr).append (hys.mono fun x _ ds H hH hr=>hRm w1 x ds H (grown_kept hgr (hG.sub hH) fun g hg hn=>hvG g hg (hH g hn)) hr)
 ·intro b hb
  rcases List.mem_append.1 hb with hb | hb
  ·exact zz9 (h4 b hb) hgr.size
  ·exact zz9 (hG b hb) hgr.size
 ·intro b hb hbF
  rw [zA7,zy1] at hb
  subst hb
  rcases hat with hat | rfl
  ·rcases List.mem_append.1 hbF with hb | hb
   ·exact h5 b (zA1.2 hat) hb
   ·exact hvG b (zA1.2 hat) hb
  ·rcases List.mem_append.1 hbF with hb | hb
   ·exact Nat.lt_irrefl _ (h4 _ hb)
   ·exact Nat.lt_irrefl _ (hG _ hb)
theorem zA2 {ops:Array Oper} {rest:List Oper} {o:Oper} {a:Act} {Q:Exit→Act→World→Prop} (hgd:o.guard=none) (s x:Operand) (t:TypeId)
  (ho:o.op=.call { callee:=.builtin .append,args:=#[s,x],argTypes:=#[t,t] })
  (i:TypeInfo) (z:Value) (bytes:Nat) (ht:P.underlying t=some (.slice E)) (hi:P.info? E=some i) (hz:i.zero=some z)
  (hsize:i.size=k) (hby:i.bytes=bytes) (hzs:z.cells.size=k) (hk:0<k)
  (hRl:∀ w x cs G,R w x cs G→cs.length=k) (hRm:∀ w w' x cs G,Kept G w w'→R w x cs G→R w' x cs G)
  (hs:a.eval s=v) (hown:Own w B E k R xs v F) (y:α) (T:TypeId) (news:List Value) (G:List Nat)
  (H:Nat) (hx:a.eval x=.slice (some ⟨H,0,none⟩) 1 1) (hH:w.heap.size=H) (h1:∀ u∈news,u.oneCell'=true)
  (hy:R w y news G) (hG:Under w.heap.size G) (hvG:∀ g∈rowOf v,g∉G)
  (h63:xs.length+1≤maxLen) (hbytes:(xs.length+1)*bytes≤140737488355328) (hbase:B≤w.heap.size)
  (h:∀ g cap w',Own w' B E k R (xs ++ [y]) (.slice (some ⟨g,0,none⟩) (xs.length+1) cap) (F ++ G)→(w.alloc (.cells news.toArray T)).grownBy w' v.ownBlock→(v.ownBlock=some g∨g=w.heap.size+1) →
   wpList P ops Q rest (a.put o.dst (.slice (some ⟨g,0,none⟩) (xs.length+1) cap)) w'):wpList P ops Q (o :: rest) a (w.alloc (.cells news.toArray T)):=by
 subst hH
 have hb:=(zy2 w.heap.size w).alloc (zz8 _) (.cells news.toArray T)
 have hk1:Kept G w (w.alloc (.cells news.toArray T)):=.of_below hb hG
 refine wpList_push hgd s x t ho i z bytes ht hi hz hsize hby hzs hk (hRl _) (fun w'=>hRm _ w') hs (hown.below (fun x cs G hk h=>hRm _ _ x cs G hk h) hb) [y] ⟨w.heap.size,0,none⟩ 1 news G hx ?_ h1 (Flat.one (hRm _ _ _ _ _ hk1 hy)) (hG.mono hb.size) hvG Nat.zero_lt_one h63 hbytes (Nat.le_trans hbase hb.size)
  (fun g cap w' h2 h3 h4=>h g cap w' h2 h3 (by simpa using h4))
 intro j u hj
 exact World.news_of_block (heap_alloc_new w (.cells news.toArray T)) j u (by simpa using hj)
end
theorem zAA {w w':World} (h:Below w.drew.heap.size w.drew w'):Below w.heap.size w w':=⟨h.os,h.tape,h.output,h.size,h.block⟩
def Halt (p:Prop):Prop:=p
theorem Halt.mk {p:Prop} (h:Halt p):p:=h
theorem Halt.of {p:Prop} (h:p):Halt p:=h
/-! ### Slices of numbers and of strings -/
def NatR (_:World) (x:Int) (cs:List Value) (F:List Nat):Prop:=cs=[.int .i64 x]∧F=[]
theorem NatR_len (w:World) (x:Int) (cs:List Value) (F:List Nat) (h:NatR w x cs F):cs.length=1:=by rw [h.1];rfl
theorem NatR_mono (w w':World) (x:Int) (cs:List Value) (F:List Nat) (_:Kept F w w') (h:NatR w x cs F):NatR w' x cs F:=h
def StrR (_:World) (x:ByteArray) (cs:List Value) (F:List Nat):Prop:=cs=[.string x]∧F=[]
def MadeArr {α:Type} (R:World→α→List Value→List Nat→Prop) (w:World) (xs:List α) (e:Ending) (w':World):Prop :=
 ∃ v F,e=.returned v∧Below w.heap.size w w'∧Arr w' (R w') xs v F∧Free w' F∧Fresh w w' F
theorem Flat.nilF {α:Type} {R:α→List Value→List Nat→Prop} (hR:∀ x cs F,R x cs F→F=[]):∀ {xs:List α} {c:List Value} {F:List Nat},Flat R xs c F→F=[]
 |[],_,_,h=>h.2
 |x :: xs,c,F,h=>by
  obtain ⟨c1,c2,F1,F2,rfl,rfl,h1,h2⟩:=h
  rw [hR _ _ _ h1,Flat.nilF hR h2];rfl
theorem Own.gives {α:Type} {w0 w:World} {B k:Nat} {E:TypeId} {R:World→α→List Value→List Nat→Prop} {xs:List α} {v:Value} {F:List Nat} (h:Own w B E k R xs v F) (hb:Below w0.heap.size w0 w) (hB:w0.heap.size≤B) (hF:∀ b∈F,w0.heap.size≤b) (hfr:Free w F):MadeArr R w0 xs (.returned v) w :=
 ⟨v,_,rfl,hb,h.arr,h.free hfr,h.fresh hB hF⟩
theorem Arr.ptr {α:Type} {w:World} {R:α→List Value→List Nat→Prop} {xs:List α} {A:Option Addr} {n cap:Nat} {F:List Nat} (h:Arr w R xs (.slice A n cap) F) (h0:0<xs.length):∃ b off,A=some ⟨b,off,none⟩:=by
 obtain ⟨A',cap',hv,h1,h2,h3⟩:=h
 cases hv
 rcases h3 with ⟨rfl,-⟩ | ⟨b,off,cs,G,rfl,-⟩
 ·simp at h0
 ·exact ⟨b,off,rfl⟩
section
variable {w0 w : World} {b off n cap : Nat} {F : List Nat}
theorem ArrTy.at {xs:List Ty} (h:Arr w0 (TyR w0) xs (.slice (some ⟨b,off,none⟩) n cap) F) (hF:Under w0.heap.size F) (hB:Below w0.heap.size w0 w) (i:Nat) (hi:i<xs.length) :
  b<w.heap.size∧w.cell? ⟨b,off+i*2,none⟩=some (.int .i64 xs[i].d)∧w.cell? ⟨b,off+i*2+1,none⟩=some (.int .i64 xs[i].i):=by
 obtain ⟨b',off',cs,G,e,hb,hcs,hv,hG⟩:=h.get zAQ hi
 cases e
 have hbl:=hF _ hb
 have hc:=hcs.same (hB.block _ hbl)
 obtain rfl:=TyR_form hv
 exact ⟨zz9 hbl hB.size,hc 0 _ rfl,hc 1 _ rfl⟩
theorem ArrKt.at {xs:List Kt} (h:Arr w0 (KtR w0) xs (.slice (some ⟨b,off,none⟩) n cap) F) (hF:Under w0.heap.size F) (hB:Below w0.heap.size w0 w) (i:Nat) (hi:i<xs.length) :
  ∃ A1 cap1 G,b<w.heap.size∧w.cell? ⟨b,off+i*3,none⟩=some (.string xs[i].name)∧w.cell? ⟨b,off+i*3+1,none⟩=some (.slice A1 xs[i].args.length cap1)∧w.cell? ⟨b,off+i*3+2,none⟩=some (.int .i64 xs[i].idx) ∧
   Hid (Arr w0 (TyR w0) xs[i].args (.slice A1 xs[i].args.length cap1) G)∧Hid (Under w0.heap.size G)∧xs[i].name.size≤9223372036854775807∧xs[i].args.length≤cap1∧cap1≤9223372036854775807:=by
 obtain ⟨b',off',cs,G,e,hb,hcs,hv,hG⟩:=h.get KtR_len hi
 cases e
 have hbl:=hF _ hb
 have hc:=hcs.same (hB.block _ hbl)
 obtain ⟨kv,rfl,ha,hs⟩:=hv
 obtain ⟨A1,cap1,rfl,h1,h2⟩:=ha.form
 exact ⟨A1,cap1,G,zz9 hbl hB.size,hc 0 _ rfl,hc 1 _ rfl,hc 2 _ rfl,ha,hF.sub hG,hs,h1,h2⟩
theorem ArrKt.rep {xs:List Kt} (h:Arr w0 (KtR w0) xs (.slice (some ⟨b,off,none⟩) n cap) F) (hF:Under w0.heap.size F) (hB:Below w0.heap.size w0 w) (i:Nat) (hi:i<xs.length) :
  ∃ A1 cap1 G,b<w.heap.size∧w.cell? ⟨b,off+i*3,none⟩=some (.string xs[i].name)∧w.cell? ⟨b,off+i*3+1,none⟩=some (.slice A1 xs[i].args.length cap1)∧w.cell? ⟨b,off+i*3+2,none⟩=some (.int .i64 xs[i].idx) ∧
   Hid (KtR w0 xs[i] [.string xs[i].name,.slice A1 xs[i].args.length cap1,.int .i64 xs[i].idx] G)∧Hid (Under w0.heap.size G)∧xs[i].name.size≤9223372036854775807∧xs[i].args.length≤cap1∧cap1≤9223372036854775807:=by
 obtain ⟨b',off',cs,G,e,hb,hcs,hv,hG⟩:=h.get KtR_len hi
 cases e
 have hbl:=hF _ hb
 have hc:=hcs.same (hB.block _ hbl)
 obtain ⟨kv,rfl,ha,hs⟩:=id hv
 obtain ⟨A1,cap1,rfl,h1,h2⟩:=ha.form
 exact ⟨A1,cap1,G,zz9 hbl hB.size,hc 0 _ rfl,hc 1 _ rfl,hc 2 _ rfl,hv,hF.sub hG,hs,h1,h2⟩
theorem ArrDt.at {xs:List Dt} (h:Arr w0 (DtR w0) xs (.slice (some ⟨b,off,none⟩) n cap) F) (hF:Under w0.heap.size F) (hB:Below w0.heap.size w0 w) (i:Nat) (hi:i<xs.length) :
  ∃ A1 cap1 G,b<w.heap.size∧w.cell? ⟨b,off+i*2,none⟩=some (.string xs[i].name)∧w.cell? ⟨b,off+i*2+1,none⟩=some (.slice A1 xs[i].ctors.length cap1) ∧
   Hid (Arr w0 (KtR w0) xs[i].ctors (.slice A1 xs[i].ctors.length cap1) G)∧Hid (Under w0.heap.size G)∧xs[i].name.size≤9223372036854775807∧xs[i].ctors.length≤cap1∧cap1≤9223372036854775807:=by
 obtain ⟨b',off',cs,G,e,hb,hcs,hv,hG⟩:=h.get DtR_len hi
 cases e
 have hbl:=hF _ hb
 have hc:=hcs.same (hB.block _ hbl)
 obtain ⟨kv,rfl,ha,hs⟩:=hv
 obtain ⟨A1,cap1,rfl,h1,h2⟩:=ha.form
 exact ⟨A1,cap1,G,zz9 hbl hB.size,hc 0 _ rfl,hc 1 _ rfl,ha,hF.sub hG,hs,h1,h2⟩
end
theorem info_tyE:(Try.prog.info? 35).map (fun i=>(i.zero,i.size,i.bytes))=some (some (.agg #[.int .i64 0,.int .i64 0]),2,16):=by kernel_rfl
def GivesTys (w:World) (ts:List Ty) (e:Ending) (w':World):Prop:=MadeArr TyR w ts e w'
theorem TyR_mono' (w w':World) (x:Ty) (cs:List Value) (F:List Nat) (_:Kept F w w') (h:TyR w x cs F):TyR w' x cs F:=h
theorem TyR_len' (w:World) (x:Ty) (cs:List Value) (F:List Nat) (h:TyR w x cs F):cs.length=2:=zAQ x cs F h
theorem Own.tys {w0 w:World} {B:Nat} {E:TypeId} {xs:List Ty} {v:Value} (h:Own w B E 2 TyR xs v []) (hb:Below w0.heap.size w0 w) (hB:w0.heap.size≤B):GivesTys w0 xs (.returned v) w :=
 h.gives hb hB (fun b hb=>by cases hb) (Free.nil _)
def resIdx (c:Kt) (i:Int):Int:=if (c.idx==0)=true then i else c.idx
def argTy (r:Int) (a:Ty):Ty:=if (a.i == -1)=true then ⟨a.d,r⟩ else a
def argsL (c:Kt) (i:Int):List Ty:=c.args.map (argTy (resIdx c i))
theorem argTy_yes {r:Int} {a:Ty} (h:(a.i == -1)=true):argTy r a=⟨a.d,r⟩:=if_pos h
theorem argTy_no {r:Int} {a:Ty} (h:(a.i == -1)=false):argTy r a=a:=if_neg (by simp [h])
def argsTo (r:Int) (l:List Ty) (j:Nat):List Ty:=(l.take j).map (argTy r)
theorem zAC (r:Int) (l:List Ty) (j:Nat):(argsTo r l j).length≤j:=by unfold argsTo;rw [List.length_map,List.length_take];omega
theorem argsTo_all (r:Int) (l:List Ty) {j:Nat} (h:l.length≤j):argsTo r l j=l.map (argTy r):=by unfold argsTo;rw [List.take_of_length_le h]
theorem argsTo_succ (r:Int) (l:List Ty) (j:Nat) (h:j<l.length):argsTo r l (j+1)=argsTo r l j ++ [argTy r l[j]]:=by unfold argsTo;rw [take_snoc' l j h,List.map_append];rfl
theorem argsL_len (c:Kt) (i:Int):(argsL c i).length=c.args.length:=List.length_map _
theorem impl_argTypes (xs:List Dt) (d k:Nat) (i:Int) (hd:d<xs.length) (hk:k<xs[d].ctors.length) (w:World) (v:Value) (F:List Nat) (hx:Arr w (DtR w) xs v F) (hf:Under w.heap.size F) (hal:xs[d].ctors[k].args.length≤3) :
  Calls Try.prog 90 #[v,.agg #[.int .i64 (d:Int),.int .i64 i],.int .i64 (k:Int)] w (GivesTys w (argsL xs[d].ctors[k] i)):=by
 obtain ⟨A,cap,rfl,hc1,hc2⟩:=hx.form
 obtain ⟨b,off,rfl⟩:=hx.ptr (by omega)
 have HX:=jj hx
 have HF:=jj hf
 clear hx hf
 obtain ⟨i0,hi,hz0,hz1,hz2⟩:=info_parts info_tyE
 have HI:=jj hi
 have HZ0:=jj hz0
 have HZ1:=jj hz1
 have HZ2:=jj hz2
 clear hi hz0 hz1 hz2
 have hB1:Below w.heap.size w (w.alloc (.cells #[.int .i64 (d:Int),.int .i64 i] 35)):=(zy2 _ _).alloc (zz8 _) _
 obtain ⟨A1,cap1,G1,hb,c0,c1,HK,HG,-,hn1,hn2⟩:=ArrDt.at HX.out HF.out hB1 d hd
 clear c0
 obtain ⟨b2,off2,rfl⟩:=HK.out.ptr (by omega)
 obtain ⟨A3,cap3,G3,hb3,k0,k1,k2,HC,HG3,-,hn3,hn4⟩:=ArrKt.at HK.out HG.out hB1 k hk
 have g1:(0:Int)≤(d:Int):=by omega
 have g2:(d:Int)<(xs.length:Int):=by omega
 have g3:(0:Int)≤(k:Int):=by omega
 have g4:(k:Int)<(xs[d].ctors.length:Int):=by omega
 have hB2:Below w.heap.size w ((w.alloc (.cells #[.int .i64 (d:Int),.int .i64 i] 35)).alloc (.cells #[.string xs[d].ctors[k].name,.slice A3 xs[d].ctors[k].args.length cap3,.int .i64 xs[d].ctors[k].idx] 74)):=hB1.alloc (by simp) _
 clear hB1
 cases q:(xs[d].ctors[k].idx==0) with
 |true =>
  have HRI:Hid (resIdx xs[d].ctors[k] i=i):=if_pos q
  go_enter Try.func90,Try.ntmps90
  go_wp2
  clear q c1 k0 k1 k2 hb hb3
  go_loopw [9,30] (fun ov jv wr=>∃ j:Nat,j≤xs[d].ctors[k].args.length∧jv=.int .i64 j∧Hid (Own wr (w.heap.size+2) 35 2 TyR (argsTo (i) xs[d].ctors[k].args j) ov [])∧Below w.heap.size w wr∧w.heap.size+2≤wr.heap.size) (fun _ jv _=>xs[d].ctors[k].args.length-(intOf jv).toNat)
  case atStart=>exact ⟨0,Nat.zero_le _,rfl,(show Own _ _ _ _ _ [] _ _ from Own.nil _ _ _ _ _),hB2,by simp⟩
  case round =>
   clear hB2
   obtain ⟨j,hj,rfl,HO,hB,hsz⟩:=hrel
   by_cases hjl:j<xs[d].ctors[k].args.length
   ·obtain ⟨b3,off3,rfl⟩:=HC.out.ptr (by omega)
    obtain ⟨hb4,a0,a1⟩:=ArrTy.at HC.out HG3.out hB j hjl
    have g5:(0:Int)≤(j:Int):=by omega
    have g6:(j:Int)<(xs[d].ctors[k].args.length:Int):=by omega
    cases q2:(xs[d].ctors[k].args[j].i == -1)
    focus
     have HF2:=jj ((argsTo_succ (i) xs[d].ctors[k].args j hjl).trans (by rw [argTy_no q2]))
     have hb1:Below wr.heap.size wr (wr.alloc (.cells #[.int .i64 xs[d].ctors[k].args[j].d,.int .i64 xs[d].ctors[k].args[j].i] 35)):=(zy2 _ _).alloc (zz8 _) _
     have hB1:=hB.trans (hb1.mono hB.size)
     have HO1:=jj (HO.out.below (fun x cs G hk h=>TyR_mono' _ _ x cs G hk h) hb1)
     have hbs:w.heap.size+2≤(wr.alloc (.cells #[.int .i64 xs[d].ctors[k].args[j].d,.int .i64 xs[d].ctors[k].args[j].i] 35)).heap.size:=Nat.le_trans hsz hb1.size
     go_wp2_with (at_builtin;refine Halt.mk ?_)
     refine Halt.of (zA2 (P:=Try.prog) rfl _ _ 72 rfl i0 _ 16 Try.underlying72 HI.out HZ0.out HZ1.out HZ2.out rfl (by decide) TyR_len' TyR_mono' (by rfl) HO1.out ⟨xs[d].ctors[k].args[j].d,xs[d].ctors[k].args[j].i⟩ 35 [.int .i64 (xs[d].ctors[k].args[j].d),.int .i64 (xs[d].ctors[k].args[j].i)] [] _ (by rfl) (by simp) (by simp [Value.oneCell']) ⟨rfl,rfl⟩ (Under.nil _) (fun _ _ h=>by cases h) (by have:=zAC (i) xs[d].ctors[k].args j;unfold maxLen;omega) (by have:=zAC (i) xs[d].ctors[k].args j;omega) hbs ?_)
    rotate_left
    focus
     have HF2:=jj ((argsTo_succ (i) xs[d].ctors[k].args j hjl).trans (by rw [argTy_yes q2]))
     have hb1:Below wr.heap.size wr (wr.alloc (.cells #[.int .i64 xs[d].ctors[k].args[j].d,.int .i64 (i)] 35)):=(zy2 _ _).alloc (zz8 _) _
     have hB1:=hB.trans (hb1.mono hB.size)
     have HO1:=jj (HO.out.below (fun x cs G hk h=>TyR_mono' _ _ x cs G hk h) hb1)
     have hbs:w.heap.size+2≤(wr.alloc (.cells #[.int .i64 xs[d].ctors[k].args[j].d,.int .i64 (i)] 35)).heap.size:=Nat.le_trans hsz hb1.size
     go_wp2_with (at_builtin;refine Halt.mk ?_)
     refine Halt.of (zA2 (P:=Try.prog) rfl _ _ 72 rfl i0 _ 16 Try.underlying72 HI.out HZ0.out HZ1.out HZ2.out rfl (by decide) TyR_len' TyR_mono' (by rfl) HO1.out ⟨xs[d].ctors[k].args[j].d,i⟩ 35 [.int .i64 (xs[d].ctors[k].args[j].d),.int .i64 (i)] [] _ (by rfl) (by simp) (by simp [Value.oneCell']) ⟨rfl,rfl⟩ (Under.nil _) (fun _ _ h=>by cases h) (by have:=zAC (i) xs[d].ctors[k].args j;unfold maxLen;omega) (by have:=zAC (i) xs[d].ctors[k].args j;omega) hbs ?_)
    rotate_left
    all_goals (
     intro g cp w3 hown3 hgr3 hat3
     have hrow:=HO1.out.row
     have hB3:Below w.heap.size w w3:=(hB1.alloc hB1.size _).grown hgr3 (by have:=hB1.size;simp;omega) (fun g hg=>by have:=hrow g (zA1.2 hg);omega)
     have HO3:=jj hown3
     have hsz3:w.heap.size+2≤w3.heap.size:=by have:=hgr3.size;simp at this;omega
     clear hown3 hgr3 hat3 hrow
     go_wp2
     go_roundw
     case rel=>exact ⟨j+1,by omega,by go_num,(by rw [HF2.out];exact HO3.out),hB3,hsz3⟩
     case measure=>(simp [intOf] <;> omega))
   ·have hfin:GivesTys w (argsL xs[d].ctors[k] i) (.returned u9) wr:=by
     unfold argsL
     rw [HRI.out]
     have h:=HO.out
     rw [argsTo_all _ _ (by omega)] at h
     exact h.tys hB (by omega)
    have HFin:=jj hfin
    clear hfin
    go_wp2
    go_ret
    exact HFin.out
 |false =>
  have HRI:Hid (resIdx xs[d].ctors[k] i=xs[d].ctors[k].idx):=if_neg (by simp [q])
  go_enter Try.func90,Try.ntmps90
  go_wp2
  clear q c1 k0 k1 k2 hb hb3
  go_loopw [9,30] (fun ov jv wr=>∃ j:Nat,j≤xs[d].ctors[k].args.length∧jv=.int .i64 j∧Hid (Own wr (w.heap.size+2) 35 2 TyR (argsTo (xs[d].ctors[k].idx) xs[d].ctors[k].args j) ov [])∧Below w.heap.size w wr∧w.heap.size+2≤wr.heap.size) (fun _ jv _=>xs[d].ctors[k].args.length-(intOf jv).toNat)
  case atStart=>exact ⟨0,Nat.zero_le _,rfl,(show Own _ _ _ _ _ [] _ _ from Own.nil _ _ _ _ _),hB2,by simp⟩
  case round =>
   clear hB2
   obtain ⟨j,hj,rfl,HO,hB,hsz⟩:=hrel
   by_cases hjl:j<xs[d].ctors[k].args.length
   ·obtain ⟨b3,off3,rfl⟩:=HC.out.ptr (by omega)
    obtain ⟨hb4,a0,a1⟩:=ArrTy.at HC.out HG3.out hB j hjl
    have g5:(0:Int)≤(j:Int):=by omega
    have g6:(j:Int)<(xs[d].ctors[k].args.length:Int):=by omega
    cases q2:(xs[d].ctors[k].args[j].i == -1)
    focus
     have HF2:=jj ((argsTo_succ (xs[d].ctors[k].idx) xs[d].ctors[k].args j hjl).trans (by rw [argTy_no q2]))
     have hb1:Below wr.heap.size wr (wr.alloc (.cells #[.int .i64 xs[d].ctors[k].args[j].d,.int .i64 xs[d].ctors[k].args[j].i] 35)):=(zy2 _ _).alloc (zz8 _) _
     have hB1:=hB.trans (hb1.mono hB.size)
     have HO1:=jj (HO.out.below (fun x cs G hk h=>TyR_mono' _ _ x cs G hk h) hb1)
     have hbs:w.heap.size+2≤(wr.alloc (.cells #[.int .i64 xs[d].ctors[k].args[j].d,.int .i64 xs[d].ctors[k].args[j].i] 35)).heap.size:=Nat.le_trans hsz hb1.size
     go_wp2_with (at_builtin;refine Halt.mk ?_)
     refine Halt.of (zA2 (P:=Try.prog) rfl _ _ 72 rfl i0 _ 16 Try.underlying72 HI.out HZ0.out HZ1.out HZ2.out rfl (by decide) TyR_len' TyR_mono' (by rfl) HO1.out ⟨xs[d].ctors[k].args[j].d,xs[d].ctors[k].args[j].i⟩ 35 [.int .i64 (xs[d].ctors[k].args[j].d),.int .i64 (xs[d].ctors[k].args[j].i)] [] _ (by rfl) (by simp) (by simp [Value.oneCell']) ⟨rfl,rfl⟩ (Under.nil _) (fun _ _ h=>by cases h) (by have:=zAC (xs[d].ctors[k].idx) xs[d].ctors[k].args j;unfold maxLen;omega) (by have:=zAC (xs[d].ctors[k].idx) xs[d].ctors[k].args j;omega) hbs ?_)
    rotate_left
    focus
     have HF2:=jj ((argsTo_succ (xs[d].ctors[k].idx) xs[d].ctors[k].args j hjl).trans (by rw [argTy_yes q2]))
     have hb1:Below wr.heap.size wr (wr.alloc (.cells #[.int .i64 xs[d].ctors[k].args[j].d,.int .i64 (xs[d].ctors[k].idx)] 35)):=(zy2 _ _).alloc (zz8 _) _
     have hB1:=hB.trans (hb1.mono hB.size)
     have HO1:=jj (HO.out.below (fun x cs G hk h=>TyR_mono' _ _ x cs G hk h) hb1)
     have hbs:w.heap.size+2≤(wr.alloc (.cells #[.int .i64 xs[d].ctors[k].args[j].d,.int .i64 (xs[d].ctors[k].idx)] 35)).heap.size:=Nat.le_trans hsz hb1.size
     go_wp2_with (at_builtin;refine Halt.mk ?_)
     refine Halt.of (zA2 (P:=Try.prog) rfl _ _ 72 rfl i0 _ 16 Try.underlying72 HI.out HZ0.out HZ1.out HZ2.out rfl (by decide) TyR_len' TyR_mono' (by rfl) HO1.out ⟨xs[d].ctors[k].args[j].d,xs[d].ctors[k].idx⟩ 35 [.int .i64 (xs[d].ctors[k].args[j].d),.int .i64 (xs[d].ctors[k].idx)] [] _ (by rfl) (by simp) (by simp [Value.oneCell']) ⟨rfl,rfl⟩ (Under.nil _) (fun _ _ h=>by cases h) (by have:=zAC (xs[d].ctors[k].idx) xs[d].ctors[k].args j;unfold maxLen;omega) (by have:=zAC (xs[d].ctors[k].idx) xs[d].ctors[k].args j;omega) hbs ?_)
    rotate_left
    all_goals (
     intro g cp w3 hown3 hgr3 hat3
     have hrow:=HO1.out.row
     have hB3:Below w.heap.size w w3:=(hB1.alloc hB1.size _).grown hgr3 (by have:=hB1.size;simp;omega) (fun g hg=>by have:=hrow g (zA1.2 hg);omega)
     have HO3:=jj hown3
     have hsz3:w.heap.size+2≤w3.heap.size:=by have:=hgr3.size;simp at this;omega
     clear hown3 hgr3 hat3 hrow
     go_wp2
     go_roundw
     case rel=>exact ⟨j+1,by omega,by go_num,(by rw [HF2.out];exact HO3.out),hB3,hsz3⟩
     case measure=>(simp [intOf] <;> omega))
   ·have hfin:GivesTys w (argsL xs[d].ctors[k] i) (.returned u9) wr:=by
     unfold argsL
     rw [HRI.out]
     have h:=HO.out
     rw [argsTo_all _ _ (by omega)] at h
     exact h.tys hB (by omega)
    have HFin:=jj hfin
    clear hfin
    go_wp2
    go_ret
    exact HFin.out
theorem spec_l1Result (c:Kt) (i:Int) (A:Option Addr) (n cap:Nat) (w:World):Calls Try.prog 84 #[.agg #[.string c.name,.slice A n cap,.int .i64 c.idx],.int .i64 i] w fun e w'=>e=.returned (.int .i64 (resIdx c i))∧Below w.heap.size w w':=by
 cases q:(c.idx==0) with
 |true =>
  have hf:Hid (resIdx c i=i):=if_pos q
  go_enter Try.func84,Try.ntmps84
  go_wp2
  go_ret
  exact ⟨zA6 hf.out.symm,(zy2 _ _).alloc (zz8 _) _⟩
 |false =>
  have hf:Hid (resIdx c i=c.idx):=if_neg (by simp [q])
  go_enter Try.func84,Try.ntmps84
  go_wp2
  go_ret
  exact ⟨zA6 hf.out.symm,(zy2 _ _).alloc (zz8 _) _⟩
theorem spec_l1Args (xs:List Dt) (d k:Nat) (i:Int) (hd:d<xs.length) (hk:k<xs[d].ctors.length) (w:World) (v:Value) (F:List Nat) (hx:Arr w (DtR w) xs v F) (hf:Under w.heap.size F) (hal:xs[d].ctors[k].args.length≤3) :
  Calls Try.prog 74 #[v,.agg #[.int .i64 (d:Int),.int .i64 i],.int .i64 (k:Int)] w (GivesTys w (argsL xs[d].ctors[k] i)):=by
 obtain ⟨A,cap,rfl,hc1,hc2⟩:=hx.form
 obtain ⟨b,off,rfl⟩:=hx.ptr (by omega)
 have HX:=jj hx
 have HF:=jj hf
 clear hx hf
 obtain ⟨i0,hi,hz0,hz1,hz2⟩:=info_parts info_tyE
 have HI:=jj hi
 have HZ0:=jj hz0
 have HZ1:=jj hz1
 have HZ2:=jj hz2
 clear hi hz0 hz1 hz2
 have hB0:Below w.heap.size w ((w.alloc (.cells #[.int .i64 (d:Int),.int .i64 i] 35)).alloc (.cells #[] 35)):=((zy2 _ _).alloc (zz8 _) _).alloc (by simp) _
 obtain ⟨A1,cap1,G1,hb,c0,c1,HK,HG,-,hn1,hn2⟩:=ArrDt.at HX.out HF.out hB0 d hd
 clear c0
 obtain ⟨b2,off2,rfl⟩:=HK.out.ptr (by omega)
 obtain ⟨A3,cap3,G3,hb3,k0,k1,k2,HC,HG3,-,hn3,hn4⟩:=ArrKt.at HK.out HG.out hB0 k hk
 have g1:(0:Int)≤(d:Int):=by omega
 have g2:(d:Int)<(xs.length:Int):=by omega
 have g3:(0:Int)≤(k:Int):=by omega
 have g4:(k:Int)<(xs[d].ctors.length:Int):=by omega
 have HL:=jj hal
 go_enter Try.func74,Try.ntmps74
 go_wp2
 clear c1 k0 k1 k2 hb hb3
 have hB2:Below w.heap.size w (((w.alloc (.cells #[.int .i64 (d:Int),.int .i64 i] 35)).alloc (.cells #[] 35)).alloc (.cells #[.string xs[d].ctors[k].name,.slice A3 xs[d].ctors[k].args.length cap3,.int .i64 xs[d].ctors[k].idx] 74)):=hB0.alloc (by simp;omega) _
 have KT0:Hid (Blk (((w.alloc (.cells #[.int .i64 (d:Int),.int .i64 i] 35)).alloc (.cells #[] 35)).alloc (.cells #[.string xs[d].ctors[k].name,.slice A3 xs[d].ctors[k].args.length cap3,.int .i64 xs[d].ctors[k].idx] 74)) w.heap.size 35 #[.int .i64 (d:Int),.int .i64 i]):=((Blk.new _ _ _).same (Below.heap_alloc _ _ _ (by simp))).same (Below.heap_alloc _ _ _ (by simp;omega))
 have KC0:Hid (Blk (((w.alloc (.cells #[.int .i64 (d:Int),.int .i64 i] 35)).alloc (.cells #[] 35)).alloc (.cells #[.string xs[d].ctors[k].name,.slice A3 xs[d].ctors[k].args.length cap3,.int .i64 xs[d].ctors[k].idx] 74)) (w.heap.size+2) 74 #[.string xs[d].ctors[k].name,.slice A3 xs[d].ctors[k].args.length cap3,.int .i64 xs[d].ctors[k].idx]):=by
  have h:=Blk.new ((w.alloc (.cells #[.int .i64 (d:Int),.int .i64 i] 35)).alloc (.cells #[] 35)) 74 #[.string xs[d].ctors[k].name,.slice A3 xs[d].ctors[k].args.length cap3,.int .i64 xs[d].ctors[k].idx]
  rw [show ((w.alloc (.cells #[.int .i64 (d:Int),.int .i64 i] 35)).alloc (.cells #[] 35)).heap.size=w.heap.size+2 from by simp] at h
  exact h
 have HO0:Hid (Own (((w.alloc (.cells #[.int .i64 (d:Int),.int .i64 i] 35)).alloc (.cells #[] 35)).alloc (.cells #[.string xs[d].ctors[k].name,.slice A3 xs[d].ctors[k].args.length cap3,.int .i64 xs[d].ctors[k].idx] 74)) (w.heap.size+1) 35 2 TyR ([]:List Ty) (.slice (some ⟨w.heap.size+1,0,none⟩) 0 0) []):=by
  have h:=Own.made (w.alloc (.cells #[.int .i64 (d:Int),.int .i64 i] 35)) (w.heap.size+1) 35 2 TyR #[] 0 (by simp) (by simp [maxLen]) rfl
  rw [World.size_alloc] at h
  exact h.below (fun x cs G hk h=>TyR_mono' _ _ x cs G hk h) ((zy2 _ _).alloc (zz8 _) _)
 go_loopw [7,9] (fun ov jv wr=>∃ j:Nat,j≤xs[d].ctors[k].args.length∧jv=.int .i64 j∧Hid (Own wr (w.heap.size+1) 35 2 TyR (argsTo (resIdx xs[d].ctors[k] i) xs[d].ctors[k].args j) ov [])∧Below w.heap.size w wr∧Hid (Blk wr w.heap.size 35 #[.int .i64 (d:Int),.int .i64 i])∧Hid (Blk wr (w.heap.size+2) 74 #[.string xs[d].ctors[k].name,.slice A3 xs[d].ctors[k].args.length cap3,.int .i64 xs[d].ctors[k].idx])∧Hid (∀ g'∈rowOf ov,g'=w.heap.size+1∨w.heap.size+3≤g')) (fun _ jv _=>xs[d].ctors[k].args.length-(intOf jv).toNat)
 case atStart=>exact ⟨0,Nat.zero_le _,rfl,HO0,hB2,KT0,KC0,fun g' hg'=>by rw [zA7,zy1] at hg';exact .inl hg'⟩
 case round =>
  clear hB2 hB0 KT0 KC0 HO0
  obtain ⟨j,hj,rfl,HO,hB,KT,KC,HN⟩:=hrel
  have y1:wr.cell? ⟨w.heap.size,1,none⟩=some (.int .i64 i):=(KT.out.cell 1).trans (by simp)
  have q0:wr.cell? ⟨w.heap.size+2,0,none⟩=some (.string xs[d].ctors[k].name):=(KC.out.cell 0).trans (by simp)
  have q1:wr.cell? ⟨w.heap.size+2,1,none⟩=some (.slice A3 xs[d].ctors[k].args.length cap3):=(KC.out.cell 1).trans (by simp)
  have q2:wr.cell? ⟨w.heap.size+2,2,none⟩=some (.int .i64 xs[d].ctors[k].idx):=(KC.out.cell 2).trans (by simp)
  have hsz:=KC.out.lt
  have hsz0:=KT.out.lt
  by_cases hjl:j<xs[d].ctors[k].args.length
  ·obtain ⟨b3,off3,rfl⟩:=HC.out.ptr (by omega)
   obtain ⟨hb4,a0,a1⟩:=ArrTy.at HC.out HG3.out hB j hjl
   have g5:(0:Int)≤(j:Int):=by omega
   have g6:(j:Int)<(xs[d].ctors[k].args.length:Int):=by omega
   have hbx:Below wr.heap.size wr (wr.alloc (.cells #[.int .i64 xs[d].ctors[k].args[j].d,.int .i64 xs[d].ctors[k].args[j].i] 35)):=(zy2 _ _).alloc (zz8 _) _
   have hBx:=hB.trans (hbx.mono hB.size)
   have HOx:=jj (HO.out.below (fun x cs G hk h=>TyR_mono' _ _ x cs G hk h) hbx)
   have KTx:=jj (KT.out.same (hbx.block _ KT.out.lt))
   have KCx:=jj (KC.out.same (hbx.block _ KC.out.lt))
   cases q3:(xs[d].ctors[k].args[j].i == -1) with
   |true =>
    have HF2:=jj ((argsTo_succ (resIdx xs[d].ctors[k] i) xs[d].ctors[k].args j hjl).trans (by rw [argTy_yes q3]))
    have KX:=jj (Blk.new wr 35 #[.int .i64 xs[d].ctors[k].args[j].d,.int .i64 xs[d].ctors[k].args[j].i])
    go_wp2_with fail
    obtain ⟨W4,hW4⟩:∃ W4,W4=wr.alloc (.cells #[.int .i64 xs[d].ctors[k].args[j].d,.int .i64 xs[d].ctors[k].args[j].i] 35):=⟨_,rfl⟩
    rw [←hW4] at hbx hBx HOx KTx KCx KX ⊢
    clear hW4
    refine (spec_l1Result xs[d].ctors[k] i _ _ _ W4).mono ?_
    rintro e w4 ⟨rfl,hb4'⟩
    have hB4:=hBx.trans (hb4'.mono hBx.size)
    have HO4:=jj (HOx.out.below (fun x cs G hk h=>TyR_mono' _ _ x cs G hk h) hb4')
    have KT4:=jj (KTx.out.same (hb4'.block _ KTx.out.lt))
    have KC4:=jj (KCx.out.same (hb4'.block _ KCx.out.lt))
    have k4:=KX.out.same (hb4'.block _ KX.out.lt)
    have z0:w4.cell? ⟨wr.heap.size,0,none⟩=some (.int .i64 xs[d].ctors[k].args[j].d):=(k4.cell 0).trans (by simp)
    have z1:w4.cell? ⟨wr.heap.size,1,none⟩=some (.int .i64 xs[d].ctors[k].args[j].i):=(k4.cell 1).trans (by simp)
    have zf:=k4.frozen 1
    have hz4:=k4.lt
    have hrw:=HO4.out.row
    have hrow0:=HO.out.row
    have hB1:Below w.heap.size w (w4.setCell ⟨wr.heap.size,1,none⟩ (.int .i64 (resIdx xs[d].ctors[k] i))):=hB4.setCell (by show w.heap.size≤wr.heap.size;omega) _
    have HO1:=jj (Own.set (j:=1) (b:=wr.heap.size) TyR_mono' HO4.out (.int .i64 (resIdx xs[d].ctors[k] i)) (fun h=>by have:=(hrow0 _ h).2;omega) (fun h=>by cases h))
    have KT1:Hid (Blk (w4.setCell ⟨wr.heap.size,1,none⟩ (.int .i64 (resIdx xs[d].ctors[k] i))) w.heap.size 35 #[.int .i64 (d:Int),.int .i64 i]):=KT4.out.same (zz7 _ _ _ _ (by show w.heap.size≠wr.heap.size;omega))
    have KC1:Hid (Blk (w4.setCell ⟨wr.heap.size,1,none⟩ (.int .i64 (resIdx xs[d].ctors[k] i))) (w.heap.size+2) 74 #[.string xs[d].ctors[k].name,.slice (some ⟨b3,off3,none⟩) xs[d].ctors[k].args.length cap3,.int .i64 xs[d].ctors[k].idx]):=KC4.out.same (zz7 _ _ _ _ (by show w.heap.size+2≠wr.heap.size;omega))
    have hbs:w.heap.size+1≤(w4.setCell ⟨wr.heap.size,1,none⟩ (.int .i64 (resIdx xs[d].ctors[k] i))).heap.size:=Nat.le_of_lt (Nat.lt_of_le_of_lt (Nat.le_add_right _ 1) KC1.out.lt)
    have hbs3:w.heap.size+3≤(w4.setCell ⟨wr.heap.size,1,none⟩ (.int .i64 (resIdx xs[d].ctors[k] i))).heap.size:=KC1.out.lt
    have hrow2:=HN.out
    clear hbx hBx HOx KTx KCx KX k4 hrw hrow0 y1 q0 q1 q2 a0 a1
    generalize hrr:resIdx xs[d].ctors[k] i=rr at *
    have HRR:=jj hrr
    clear hrr
    go_wp2_with (at_builtin;refine Halt.mk ?_)
    refine Halt.of (zA2 (P:=Try.prog) rfl _ _ 72 rfl i0 _ 16 Try.underlying72 HI.out HZ0.out HZ1.out HZ2.out rfl (by decide) TyR_len' TyR_mono' (by rfl) HO1.out ⟨xs[d].ctors[k].args[j].d,rr⟩ 35 [.int .i64 (xs[d].ctors[k].args[j].d),.int .i64 (rr)] [] _ (by rfl) (by simp) (by simp [Value.oneCell']) ⟨rfl,rfl⟩ (Under.nil _) (fun _ _ h=>by cases h) (by have:=zAC (rr) xs[d].ctors[k].args j;unfold maxLen;omega) (by have:=zAC (rr) xs[d].ctors[k].args j;omega) hbs ?_)
    intro g cp w3 hown3 hgr3 hat3
    have hrow:=HO1.out.row
    have hB3:Below w.heap.size w w3:=(hB1.alloc hB1.size _).grown hgr3 (by have:=hB1.size;simp;omega) (fun g hg=>by have:=hrow g (zA1.2 hg);omega)
    have HO3:=jj hown3
    have KT3:Hid (Blk w3 w.heap.size 35 #[.int .i64 (d:Int),.int .i64 i]):=(KT1.out.same (Below.heap_alloc _ _ _ KT1.out.lt)).same (hgr3.block _ (by have:=KT1.out.lt;simp;omega) (fun e=>by have:=hrow _ (zA1.2 e.symm);omega))
    have KC3:Hid (Blk w3 (w.heap.size+2) 74 #[.string xs[d].ctors[k].name,.slice (some ⟨b3,off3,none⟩) xs[d].ctors[k].args.length cap3,.int .i64 xs[d].ctors[k].idx]):=(KC1.out.same (Below.heap_alloc _ _ _ KC1.out.lt)).same (hgr3.block _ (by have:=KC1.out.lt;simp;omega) (fun e=>by have:=hrow2 _ (zA1.2 e.symm);omega))
    have hne3:∀ g'∈rowOf (.slice (some ⟨g,0,none⟩) ((argsTo (rr) xs[d].ctors[k].args j).length+1) cp),g'=w.heap.size+1∨w.heap.size+3≤g':=fun g' hg'=>by
     rw [zA7,zy1] at hg'
     subst hg'
     rcases hat3 with h | h
     ·exact hrow2 _ (zA1.2 h)
     ·right;have:=hbs3;omega
    have HN3:=jj hne3
    clear hown3 hgr3 hat3 hrow hrow2 hne3
    go_wp2
    go_roundw
    case rel=>exact ⟨j+1,by omega,by go_num,(by rw [HRR.out,HF2.out];exact HO3.out),hB3,KT3,KC3,HN3⟩
    case measure=>(simp [intOf] <;> omega)
   |false =>
    have HF2:=jj ((argsTo_succ (resIdx xs[d].ctors[k] i) xs[d].ctors[k].args j hjl).trans (by rw [argTy_no q3]))
    have hB1:=hBx
    have HO1:=HOx
    have KT1:Hid (Blk (wr.alloc (.cells #[.int .i64 xs[d].ctors[k].args[j].d,.int .i64 xs[d].ctors[k].args[j].i] 35)) w.heap.size 35 #[.int .i64 (d:Int),.int .i64 i]):=KTx
    have KC1:Hid (Blk (wr.alloc (.cells #[.int .i64 xs[d].ctors[k].args[j].d,.int .i64 xs[d].ctors[k].args[j].i] 35)) (w.heap.size+2) 74 #[.string xs[d].ctors[k].name,.slice (some ⟨b3,off3,none⟩) xs[d].ctors[k].args.length cap3,.int .i64 xs[d].ctors[k].idx]):=KCx
    have hbs:w.heap.size+1≤(wr.alloc (.cells #[.int .i64 xs[d].ctors[k].args[j].d,.int .i64 xs[d].ctors[k].args[j].i] 35)).heap.size:=Nat.le_of_lt (Nat.lt_of_le_of_lt (Nat.le_add_right _ 1) KC1.out.lt)
    have hbs3:w.heap.size+3≤(wr.alloc (.cells #[.int .i64 xs[d].ctors[k].args[j].d,.int .i64 xs[d].ctors[k].args[j].i] 35)).heap.size:=KC1.out.lt
    have hrow2:=HN.out
    clear hBx HOx KTx KCx
    go_wp2_with (at_builtin;refine Halt.mk ?_)
    refine Halt.of (zA2 (P:=Try.prog) rfl _ _ 72 rfl i0 _ 16 Try.underlying72 HI.out HZ0.out HZ1.out HZ2.out rfl (by decide) TyR_len' TyR_mono' (by rfl) HO1.out ⟨xs[d].ctors[k].args[j].d,xs[d].ctors[k].args[j].i⟩ 35 [.int .i64 (xs[d].ctors[k].args[j].d),.int .i64 (xs[d].ctors[k].args[j].i)] [] _ (by rfl) (by simp) (by simp [Value.oneCell']) ⟨rfl,rfl⟩ (Under.nil _) (fun _ _ h=>by cases h) (by have:=zAC (resIdx xs[d].ctors[k] i) xs[d].ctors[k].args j;unfold maxLen;omega) (by have:=zAC (resIdx xs[d].ctors[k] i) xs[d].ctors[k].args j;omega) hbs ?_)
    intro g cp w3 hown3 hgr3 hat3
    have hrow:=HO1.out.row
    have hB3:Below w.heap.size w w3:=(hB1.alloc hB1.size _).grown hgr3 (by have:=hB1.size;simp;omega) (fun g hg=>by have:=hrow g (zA1.2 hg);omega)
    have HO3:=jj hown3
    have KT3:Hid (Blk w3 w.heap.size 35 #[.int .i64 (d:Int),.int .i64 i]):=(KT1.out.same (Below.heap_alloc _ _ _ KT1.out.lt)).same (hgr3.block _ (by have:=KT1.out.lt;simp;omega) (fun e=>by have:=hrow _ (zA1.2 e.symm);omega))
    have KC3:Hid (Blk w3 (w.heap.size+2) 74 #[.string xs[d].ctors[k].name,.slice (some ⟨b3,off3,none⟩) xs[d].ctors[k].args.length cap3,.int .i64 xs[d].ctors[k].idx]):=(KC1.out.same (Below.heap_alloc _ _ _ KC1.out.lt)).same (hgr3.block _ (by have:=KC1.out.lt;simp;omega) (fun e=>by have:=hrow2 _ (zA1.2 e.symm);omega))
    have hne3:∀ g'∈rowOf (.slice (some ⟨g,0,none⟩) ((argsTo (resIdx xs[d].ctors[k] i) xs[d].ctors[k].args j).length+1) cp),g'=w.heap.size+1∨w.heap.size+3≤g':=fun g' hg'=>by
     rw [zA7,zy1] at hg'
     subst hg'
     rcases hat3 with h | h
     ·exact hrow2 _ (zA1.2 h)
     ·right;have:=hbs3;omega
    have HN3:=jj hne3
    clear hown3 hgr3 hat3 hrow hrow2 hne3
    go_wp2
    go_roundw
    case rel=>exact ⟨j+1,by omega,by go_num,(by rw [HF2.out];exact HO3.out),hB3,KT3,KC3,HN3⟩
    case measure=>(simp [intOf] <;> omega)
  ·have hfin:GivesTys w (argsL xs[d].ctors[k] i) (.returned u7) wr:=by
    unfold argsL
    have h:=HO.out
    rw [argsTo_all _ _ (by omega)] at h
    exact h.tys hB (by omega)
   have HFin:=jj hfin
   clear hfin
   go_wp2
   go_ret
   exact HFin.out
theorem info_int:(Try.prog.info? 3).map (fun i=>(i.zero,i.size,i.bytes))=some (some (.int .i64 0),1,8):=by kernel_rfl
def fitsB (c:Kt) (i:Int):Bool:=c.idx==0 || (i==0 || c.idx==i)
def fitAt (cs:List Kt) (i:Int) (k:Nat):Bool:=match cs[k]? with | some c=>fitsB c i | none=>false
def fitTo (cs:List Kt) (i:Int) (n:Nat):List Int:=((List.range n).filter (fitAt cs i)).map Int.ofNat
def ctorsAt (xs:List Dt) (d:Int):List Kt:=match xs[d.toNat]? with | some x=>x.ctors | none=>[]
def ctorsL (xs:List Dt) (t:Ty):List Int:=if t.d = -1 then [] else fitTo (ctorsAt xs t.d) t.i (ctorsAt xs t.d).length
theorem fitTo_succ (cs:List Kt) (i:Int) (n:Nat) (h:n<cs.length):fitTo cs i (n+1)=if fitsB cs[n] i then fitTo cs i n ++ [(n:Int)] else fitTo cs i n:=by
 unfold fitTo
 rw [List.range_succ,List.filter_append]
 have hf:fitAt cs i n=fitsB cs[n] i:=by unfold fitAt;rw [List.getElem?_eq_getElem h]
 cases hb:fitsB cs[n] i <;> simp [hf,hb]
theorem fitTo_yes {cs:List Kt} {i:Int} {n:Nat} (h:n<cs.length) (e:fitsB cs[n] i=true):fitTo cs i (n+1)=fitTo cs i n ++ [(n:Int)]:=by rw [fitTo_succ cs i n h,if_pos e]
theorem fitTo_no {cs:List Kt} {i:Int} {n:Nat} (h:n<cs.length) (e:fitsB cs[n] i=false):fitTo cs i (n+1)=fitTo cs i n:=by rw [fitTo_succ cs i n h,if_neg (by simp [e])]
theorem fitTo_len (cs:List Kt) (i:Int) (n:Nat):(fitTo cs i n).length≤n:=by
 unfold fitTo
 rw [List.length_map]
 exact Nat.le_trans (List.length_filter_le _ _) (by simp)
theorem ctorsL_int {xs:List Dt} {t:Ty} (h:t.d = -1):ctorsL xs t=[]:=if_pos h
theorem ctorsAt_get {xs:List Dt} {d:Nat} (h:d<xs.length):ctorsAt xs (d:Int)=xs[d].ctors:=by unfold ctorsAt;rw [Int.toNat_natCast,List.getElem?_eq_getElem h]
theorem ctorsL_data {xs:List Dt} {d:Nat} {i:Int} (h:d<xs.length):ctorsL xs ⟨(d:Int),i⟩=fitTo xs[d].ctors i xs[d].ctors.length:=by
 unfold ctorsL
 rw [if_neg (by show ¬((d:Int) = -1);omega)]
 show fitTo (ctorsAt xs (d:Int)) i (ctorsAt xs (d:Int)).length=_
 rw [ctorsAt_get h]
def MadeNats (w:World) (xs:List Int) (e:Ending) (w':World):Prop:=MadeArr NatR w xs e w'
theorem Own.nats {w0 w:World} {B:Nat} {E:TypeId} {xs:List Int} {v:Value} (h:Own w B E 1 NatR xs v []) (hb:Below w0.heap.size w0 w) (hB:w0.heap.size≤B):MadeNats w0 xs (.returned v) w :=
 h.gives hb hB (fun b hb=>by cases hb) (Free.nil _)
theorem impl_ctorsOf (xs:List Dt) (t:Ty) (w:World) (v:Value) (F:List Nat) (hx:Arr w (DtR w) xs v F) (hf:Under w.heap.size F) (hw:WorldOK xs) (ht:InWorld xs.length t) :
  Calls Try.prog 89 #[v,.agg #[.int .i64 t.d,.int .i64 t.i]] w (MadeNats w (ctorsL xs t)):=by
 obtain ⟨A,cap,rfl,hc1,hc2⟩:=hx.form
 have HX:=jj hx
 have HF:=jj hf
 clear hx hf
 rcases ht with hd | ⟨d,hd,hdl⟩
 ·have hf:=jj (ctorsL_int (xs:=xs) hd)
  have t0:(t.d != -1)=false:=by simp [hd]
  clear hd
  go_enter Try.func89,Try.ntmps89
  go_wp2
  go_ret
  rw [hf.out]
  exact ⟨_,[],rfl,(zy2 _ _).alloc (zz8 _) _,Arr.nil,Free.nil _,Fresh.nil _ _⟩
 ·obtain ⟨t1,t2⟩:=t
  simp only at hd
  subst hd
  have hf:=jj (ctorsL_data (i:=t2) hdl)
  have t0:((d:Int) != -1)=true:=by rw [bne_iff_ne];omega
  obtain ⟨i0,hi,hz0,hz1,hz2⟩:=info_parts info_int
  have HI:=jj hi
  have HZ0:=jj hz0
  have HZ1:=jj hz1
  have HZ2:=jj hz2
  clear hi hz0 hz1 hz2
  obtain ⟨b,off,rfl⟩:=HX.out.ptr (by omega)
  have hB0:Below w.heap.size w (w.alloc (.cells #[.int .i64 (d:Int),.int .i64 t2] 35)):=(zy2 _ _).alloc (zz8 _) _
  obtain ⟨A1,cap1,G1,hb,c0,c1,HK,HG,hs,hn1,hn2⟩:=ArrDt.at HX.out HF.out hB0 d hdl
  have g1:(0:Int)≤(d:Int):=by omega
  have g2:(d:Int)<(xs.length:Int):=by omega
  have HL:=jj (hw.at hdl).hi
  clear c0 hs
  go_enter Try.func89,Try.ntmps89
  go_wp2
  clear c1 hb
  go_loopw [5,18] (fun ov iv wr=>∃ k:Nat,k≤xs[d].ctors.length∧iv=.int .i64 k∧Hid (Own wr (w.heap.size+1) 3 1 NatR (fitTo xs[d].ctors t2 k) ov [])∧Below w.heap.size w wr∧Hid (Blk wr w.heap.size 35 #[.int .i64 (d:Int),.int .i64 t2])) (fun _ iv _=>xs[d].ctors.length-(intOf iv).toNat)
  case atStart=>exact ⟨0,Nat.zero_le _,rfl,(show Own _ _ _ _ _ [] _ _ from Own.nil _ _ _ _ _),hB0,Blk.new _ _ _⟩
  case round =>
   clear hB0
   obtain ⟨k,hk,rfl,HO,hB,KT⟩:=hrel
   by_cases hkl:k<xs[d].ctors.length
   ·obtain ⟨b2,off2,rfl⟩:=HK.out.ptr (by omega)
    obtain ⟨A3,cap3,G3,hb3,k0,k1,k2,HC,HG3,-,-,-⟩:=ArrKt.rep HK.out HG.out hB k hkl
    have g3:(0:Int)≤(k:Int):=by omega
    have g4:(k:Int)<(xs[d].ctors.length:Int):=by omega
    have y1:wr.cell? ⟨w.heap.size,1,none⟩=some (.int .i64 t2):=(KT.out.cell 1).trans (by simp)
    have hy1:=KT.out.lt
    have hb1:Below wr.heap.size wr (wr.alloc (.cells #[.string xs[d].ctors[k].name,.slice A3 xs[d].ctors[k].args.length cap3,.int .i64 xs[d].ctors[k].idx] 74)):=(zy2 _ _).alloc (zz8 _) _
    have hB1:=hB.trans (hb1.mono hB.size)
    have HO1:=jj (HO.out.below (fun x cs G hk h=>NatR_mono _ _ x cs G hk h) hb1)
    have KT1:Hid (Blk (wr.alloc (.cells #[.string xs[d].ctors[k].name,.slice A3 xs[d].ctors[k].args.length cap3,.int .i64 xs[d].ctors[k].idx] 74)) w.heap.size 35 #[.int .i64 (d:Int),.int .i64 t2]):=KT.out.same (hb1.block _ KT.out.lt)
    have hsz1:wr.heap.size≤(wr.alloc (.cells #[.string xs[d].ctors[k].name,.slice A3 xs[d].ctors[k].args.length cap3,.int .i64 xs[d].ctors[k].idx] 74)).heap.size:=hb1.size
    have hz1':w.heap.size+1≤wr.heap.size:=KT.out.lt
    cases q0:(t2==0) with
    |true =>
     have e1:fitsB xs[d].ctors[k] t2=true:=by unfold fitsB;rw [q0,Bool.true_or,Bool.or_true]
     have HF2:=jj (fitTo_yes hkl e1)
     clear e1
     have hlen:=fitTo_len xs[d].ctors t2 k
     go_wp2_with (at_builtin;refine Halt.mk ?_)
     refine Halt.of (zA2 (P:=Try.prog) rfl _ _ 107 rfl i0 _ 8 Try.underlying107 HI.out HZ0.out HZ1.out HZ2.out rfl Nat.zero_lt_one NatR_len NatR_mono (by rfl) HO1.out (k:Int) 3 [.int .i64 (k:Int)] [] _ (by rfl) (by simp) (by simp [Value.oneCell']) ⟨rfl,rfl⟩ (Under.nil _) (fun _ _ h=>by cases h) (by have:=HL.out;unfold maxLen;omega) (by have:=HL.out;omega) (Nat.le_trans hz1' hsz1) ?_)
     intro g cp w3 hown3 hgr3 hat3
     have hrow:=HO1.out.row
     have hB3:Below w.heap.size w w3:=(hB1.alloc hB1.size _).grown hgr3 (by have:=hB1.size;simp;omega) (fun g hg=>by have:=hrow g (zA1.2 hg);omega)
     have HO3:=jj hown3
     have KT3:Hid (Blk w3 w.heap.size 35 #[.int .i64 (d:Int),.int .i64 t2]):=(KT1.out.same (Below.heap_alloc _ _ _ KT1.out.lt)).same (hgr3.block _ (by have:=KT1.out.lt;simp;omega) (fun e=>by have:=hrow _ (zA1.2 e.symm);omega))
     have hsz3:=hgr3.size
     clear hown3 hgr3 hat3 hrow hlen
     go_wp2
     go_roundw
     case rel=>exact ⟨k+1,by omega,by go_num,(by rw [HF2.out];exact HO3.out),hB3,KT3⟩
     case measure=>(simp [intOf] <;> omega)
    |false =>
     cases q1:(xs[d].ctors[k].idx==0) with
     |true =>
      have e1:fitsB xs[d].ctors[k] t2=true:=by unfold fitsB;rw [q1,Bool.true_or]
      have HF2:=jj (fitTo_yes hkl e1)
      clear e1
      have hlen:=fitTo_len xs[d].ctors t2 k
      go_wp2_with (at_builtin;refine Halt.mk ?_)
      refine Halt.of (zA2 (P:=Try.prog) rfl _ _ 107 rfl i0 _ 8 Try.underlying107 HI.out HZ0.out HZ1.out HZ2.out rfl Nat.zero_lt_one NatR_len NatR_mono (by rfl) HO1.out (k:Int) 3 [.int .i64 (k:Int)] [] _ (by rfl) (by simp) (by simp [Value.oneCell']) ⟨rfl,rfl⟩ (Under.nil _) (fun _ _ h=>by cases h) (by have:=HL.out;unfold maxLen;omega) (by have:=HL.out;omega) (Nat.le_trans hz1' hsz1) ?_)
      intro g cp w3 hown3 hgr3 hat3
      have hrow:=HO1.out.row
      have hB3:Below w.heap.size w w3:=(hB1.alloc hB1.size _).grown hgr3 (by have:=hB1.size;simp;omega) (fun g hg=>by have:=hrow g (zA1.2 hg);omega)
      have HO3:=jj hown3
      have KT3:Hid (Blk w3 w.heap.size 35 #[.int .i64 (d:Int),.int .i64 t2]):=(KT1.out.same (Below.heap_alloc _ _ _ KT1.out.lt)).same (hgr3.block _ (by have:=KT1.out.lt;simp;omega) (fun e=>by have:=hrow _ (zA1.2 e.symm);omega))
      have hsz3:=hgr3.size
      clear hown3 hgr3 hat3 hrow hlen
      go_wp2
      go_roundw
      case rel=>exact ⟨k+1,by omega,by go_num,(by rw [HF2.out];exact HO3.out),hB3,KT3⟩
      case measure=>(simp [intOf] <;> omega)
     |false =>
      cases q2:(xs[d].ctors[k].idx==t2) with
      |true =>
       have e1:fitsB xs[d].ctors[k] t2=true:=by unfold fitsB;rw [q0,q1,q2];rfl
       have HF2:=jj (fitTo_yes hkl e1)
       clear e1
       have hlen:=fitTo_len xs[d].ctors t2 k
       go_wp2_with (at_builtin;refine Halt.mk ?_)
       refine Halt.of (zA2 (P:=Try.prog) rfl _ _ 107 rfl i0 _ 8 Try.underlying107 HI.out HZ0.out HZ1.out HZ2.out rfl Nat.zero_lt_one NatR_len NatR_mono (by rfl) HO1.out (k:Int) 3 [.int .i64 (k:Int)] [] _ (by rfl) (by simp) (by simp [Value.oneCell']) ⟨rfl,rfl⟩ (Under.nil _) (fun _ _ h=>by cases h) (by have:=HL.out;unfold maxLen;omega) (by have:=HL.out;omega) (Nat.le_trans hz1' hsz1) ?_)
       intro g cp w3 hown3 hgr3 hat3
       have hrow:=HO1.out.row
       have hB3:Below w.heap.size w w3:=(hB1.alloc hB1.size _).grown hgr3 (by have:=hB1.size;simp;omega) (fun g hg=>by have:=hrow g (zA1.2 hg);omega)
       have HO3:=jj hown3
       have KT3:Hid (Blk w3 w.heap.size 35 #[.int .i64 (d:Int),.int .i64 t2]):=(KT1.out.same (Below.heap_alloc _ _ _ KT1.out.lt)).same (hgr3.block _ (by have:=KT1.out.lt;simp;omega) (fun e=>by have:=hrow _ (zA1.2 e.symm);omega))
       have hsz3:=hgr3.size
       clear hown3 hgr3 hat3 hrow hlen
       go_wp2
       go_roundw
       case rel=>exact ⟨k+1,by omega,by go_num,(by rw [HF2.out];exact HO3.out),hB3,KT3⟩
       case measure=>(simp [intOf] <;> omega)
      |false =>
       have e1:fitsB xs[d].ctors[k] t2=false:=by unfold fitsB;rw [q0,q1,q2];rfl
       have HF2:=jj (fitTo_no hkl e1)
       clear e1
       go_wp2
       go_roundw
       case rel=>exact ⟨k+1,by omega,by go_num,(by rw [HF2.out];exact HO1.out),hB1,KT1⟩
       case measure=>(simp [intOf] <;> omega)
   ·have hfin:MadeNats w (ctorsL xs ⟨(d:Int),t2⟩) (.returned u5) wr:=by
     rw [hf.out]
     have h:=HO.out
     rw [show k=xs[d].ctors.length by omega] at h
     exact h.nats hB (by omega)
    have HFin:=jj hfin
    clear hfin
    go_wp2
    go_ret
    exact HFin.out
def ctorNames (pre:List Dt):List ByteArray:=pre.flatMap fun x=>x.ctors.map Kt.name
def twiceB (pre:List Dt) (cs:List Kt) (s c:ByteArray):Bool:=nameIn (pre.map Dt.name) s || nameIn (ctorNames pre ++ cs.map Kt.name) c
theorem nameIn_snoc (l:List ByteArray) (x s:ByteArray):nameIn (l ++ [x]) s=(nameIn l s || (x.toList==s.toList)):=by simp [nameIn]
theorem nameIn_append (l m:List ByteArray) (s:ByteArray):nameIn (l ++ m) s=(nameIn l s || nameIn m s):=by simp [nameIn]
theorem nameIn_mem {l:List ByteArray} {x s:ByteArray} (h:x∈l) (e:(x.toList==s.toList)=true):nameIn l s=true:=by
 unfold nameIn;rw [List.any_eq_true];exact ⟨x,h,e⟩
theorem ctorNames_snoc (l:List Dt) (x:Dt):ctorNames (l ++ [x])=ctorNames l ++ x.ctors.map Kt.name:=by simp [ctorNames]
def MissD (xs:List Dt) (s c:ByteArray) (i:Nat):Prop:=nameIn ((xs.take i).map Dt.name) s=false∧nameIn (ctorNames (xs.take i)) c=false
theorem MissD.snoc {xs:List Dt} {s c:ByteArray} {i:Nat} (h:MissD xs s c i) (hi:i<xs.length) (h1:(xs[i].name.toList==s.toList)=false) (h2:nameIn (xs[i].ctors.map Kt.name) c=false):MissD xs s c (i+1):=by
 unfold MissD
 rw [take_snoc' xs i hi,List.map_append,List.map_cons,List.map_nil,nameIn_snoc,ctorNames_snoc,nameIn_append,h.1,h.2,h1,h2]
 exact ⟨rfl,rfl⟩
theorem twice_hitD {xs:List Dt} {cs:List Kt} {s c:ByteArray} {i d:Nat} (hi:i<xs.length) (hd:i<d) (h1:(xs[i].name.toList==s.toList)=true):twiceB (xs.take d) cs s c=true:=by
 unfold twiceB
 rw [nameIn_mem (List.mem_map_of_mem (List.mem_take_iff_getElem.2 ⟨i,by omega,rfl⟩)) h1];rfl
theorem twice_hitC {xs:List Dt} {cs:List Kt} {s c:ByteArray} {i j d:Nat} (hi:i<xs.length) (hd:i<d) (hj:j<xs[i].ctors.length) (h1:(xs[i].ctors[j].name.toList==c.toList)=true):twiceB (xs.take d) cs s c=true:=by
 unfold twiceB
 rw [nameIn_append,nameIn_mem (l:=ctorNames (xs.take d)) (x:=xs[i].ctors[j].name) (List.mem_flatMap.2 ⟨xs[i],List.mem_take_iff_getElem.2 ⟨i,by omega,rfl⟩,List.mem_map_of_mem (List.getElem_mem hj)⟩) h1,Bool.true_or,Bool.or_true]
theorem twice_hitK {pre:List Dt} {ks:List Kt} {s c:ByteArray} {j k:Nat} (hj:j<ks.length) (hk:j<k) (h1:(ks[j].name.toList==c.toList)=true):twiceB pre (ks.take k) s c=true:=by
 unfold twiceB
 rw [nameIn_append,nameIn_mem (l:=(ks.take k).map Kt.name) (List.mem_map_of_mem (List.mem_take_iff_getElem.2 ⟨j,by omega,rfl⟩)) h1,Bool.or_true,Bool.or_true]
theorem twice_miss {xs:List Dt} {cs:List Kt} {s c:ByteArray} {d:Nat} (h:MissD xs s c d) (h1:nameIn (cs.map Kt.name) c=false):twiceB (xs.take d) cs s c=false:=by
 unfold twiceB
 rw [nameIn_append,h.1,h.2,h1];rfl
def MissK (ks:List Kt) (c:ByteArray) (j:Nat):Prop:=nameIn ((ks.take j).map Kt.name) c=false
theorem MissK.snoc {ks:List Kt} {c:ByteArray} {j:Nat} (h:MissK ks c j) (hj:j<ks.length) (h1:(ks[j].name.toList==c.toList)=false):MissK ks c (j+1):=by
 unfold MissK
 rw [take_snoc' ks j hj,List.map_append,List.map_cons,List.map_nil,nameIn_snoc,h1,Bool.or_false]
 exact h
theorem MissK.all {ks:List Kt} {c:ByteArray} {j:Nat} (h:MissK ks c j) (hj:ks.length≤j):nameIn (ks.map Kt.name) c=false:=by
 unfold MissK at h
 rwa [List.take_of_length_le hj] at h
theorem spec_l1Twice (xs:List Dt) (d k:Nat) (hd:d<xs.length) (hk:k<xs[d].ctors.length) (w:World) (v:Value) (F:List Nat) (hx:Arr w (DtR w) xs v F) (hf:Under w.heap.size F) :
  Calls Try.prog 58 #[v,.int .i64 d,.int .i64 k] w fun e w'=>e=.returned (.bool (twiceB (xs.take d) (xs[d].ctors.take k) xs[d].name xs[d].ctors[k].name))∧Below w.heap.size w w':=by
 obtain ⟨A,cap,rfl,hc1,hc2⟩:=hx.form
 obtain ⟨b,off,rfl⟩:=hx.ptr (by omega)
 have HX:=jj hx
 have HF:=jj hf
 clear hx hf
 go_enter Try.func58,Try.ntmps58
 go_wp2
 go_loopw [7] (fun iv wr=>∃ i:Nat,i≤d+1∧iv=.int .i64 i∧Hid ((i≤d→MissD xs xs[d].name xs[d].ctors[k].name i)∧(i=d+1→twiceB (xs.take d) (xs[d].ctors.take k) xs[d].name xs[d].ctors[k].name=false))∧Below w.heap.size w wr) (fun iv _=>d+1-(intOf iv).toNat)
 case atStart=>exact ⟨0,Nat.zero_le _,rfl,⟨fun _=>⟨rfl,rfl⟩,fun h=>by omega⟩,zy2 _ _⟩
 case round =>
  obtain ⟨i,hi,rfl,HR,hB⟩:=hrel
  have HBQ:=jj (fun n=>zAR hB n)
  by_cases hid:i<d
  ·have hil:i<xs.length:=by omega
   have HM:=jj (HR.out.1 (by omega))
   obtain ⟨Ai,capi,Gi,hbi,i0,i1,HI,HGi,-,-,-⟩:=ArrDt.at HX.out HF.out hB i hil
   obtain ⟨Ad,capd,Gd,hbd,d0,d1,HD,HGd,-,-,-⟩:=ArrDt.at HX.out HF.out hB d hd
   have g5:(0:Int)≤(i:Int):=by omega
   have g6:(i:Int)<(xs.length:Int):=by omega
   have g7:(0:Int)≤(d:Int):=by omega
   have g8:(d:Int)<(xs.length:Int):=by omega
   have hdec:decide (i<d)=true:=by simpa using hid
   cases e0:(xs[i].name.toList==xs[d].name.toList) with
   |true =>
    have hf:=jj (twice_hitD (cs:=xs[d].ctors.take k) (c:=xs[d].ctors[k].name) hil hid e0)
    go_wp2_with fail
    go_quiet (fail)
    go_wp2
    go_ret
    exact ⟨zA0 hf.out.symm,HBQ.out _⟩
   |false =>
    go_wp2_with fail
    go_quiet (fail)
    have HE0:=jj e0
    clear e0 i0 i1 d0 d1 HI HGi HD HGd hbi hbd hB
    go_wp2
    obtain ⟨wo,hwo⟩:∃ wo:World,wo=wr:=⟨_,rfl⟩
    go_loopw [8] (fun jv ws=>∃ j:Nat,j≤xs[i].ctors.length∧jv=.int .i64 j∧Hid (MissK xs[i].ctors xs[d].ctors[k].name j)∧Below w.heap.size w ws) (fun jv _=>xs[i].ctors.length-(intOf jv).toNat)
    case atStart=>exact ⟨0,Nat.zero_le _,rfl,(show MissK xs[i].ctors xs[d].ctors[k].name 0 from rfl),HBQ.out _⟩
    case round =>
     clear hwo
     obtain ⟨j,hj,rfl,HK,hB2⟩:=hrel
     have HBq2:=jj (fun n=>zAR hB2 n)
     obtain ⟨Ai,capi,Gi,hbi,i0,i1,HI,HGi,-,hci1,hci2⟩:=ArrDt.at HX.out HF.out hB2 i hil
     clear i0
     by_cases hlt:j<xs[i].ctors.length
     ·have hjl:j<xs[i].ctors.length:=by omega
      obtain ⟨bi,offi,rfl⟩:=HI.out.ptr (by omega)
      obtain ⟨-,-,-,hbj,j0,-,-,-,-,-,-,-⟩:=ArrKt.at HI.out HGi.out hB2 j hjl
      obtain ⟨Ad,capd,Gd,hbd,d0,d1,HD,HGd,-,hcd1,hcd2⟩:=ArrDt.at HX.out HF.out hB2 d hd
      clear d0
      obtain ⟨bd,offd,rfl⟩:=HD.out.ptr (by omega)
      obtain ⟨-,-,-,hbk,k0,-,-,-,-,-,-,-⟩:=ArrKt.at HD.out HGd.out hB2 k hk
      have g1:(0:Int)≤(j:Int):=by omega
      have g2:(j:Int)<(xs[i].ctors.length:Int):=by omega
      have g3:(0:Int)≤(k:Int):=by omega
      have g4:(k:Int)<(xs[d].ctors.length:Int):=by omega
      have g5:(0:Int)≤(i:Int):=by omega
      have g6:(i:Int)<(xs.length:Int):=by omega
      have g7:(0:Int)≤(d:Int):=by omega
      have g8:(d:Int)<(xs.length:Int):=by omega
      have g9:decide (k<xs[d].ctors.length)=true:=by simpa using hk
      cases e1:(xs[i].ctors[j].name.toList==xs[d].ctors[k].name.toList) with
      |true =>
       have hf:=jj (twice_hitC hil hid hjl e1:twiceB (xs.take d) (xs[d].ctors.take k) xs[d].name xs[d].ctors[k].name=true)
       go_wp2_with fail
       go_quiet (fail)
       go_wp2
       go_ret
       exact ⟨zA0 hf.out.symm,HBq2.out _⟩
      |false =>
       have HK2:=jj (HK.out.snoc hjl e1)
       go_wp2_with fail
       go_quiet (fail)
       go_wp2
       go_roundw
       case rel=>exact ⟨j+1,by omega,by go_num,HK2,HBq2.out _⟩
       case measure=>(simp [intOf] <;> omega)
     ·go_wp2_with fail
      have hm2:MissD xs xs[d].name xs[d].ctors[k].name (i+1):=HM.out.snoc hil HE0.out (HK.out.all (by omega))
      go_roundw
      case rel=>exact ⟨i+1,by omega,by go_num,⟨fun _=>hm2,fun h=>by omega⟩,hB2⟩
      case measure=>(simp [intOf] <;> omega)
  ·by_cases he:i=d
   ·subst he
    have hil:i<xs.length:=by omega
    have HM:=jj (HR.out.1 (by omega))
    have hdec:decide (i<i)=false:=by simp
    go_wp2_with fail
    go_quiet (fail)
    clear hB
    go_wp2
    obtain ⟨wo,hwo⟩:∃ wo:World,wo=wr:=⟨_,rfl⟩
    go_loopw [8] (fun jv ws=>∃ j:Nat,j≤k∧jv=.int .i64 j∧Hid (MissK xs[i].ctors xs[i].ctors[k].name j)∧Below w.heap.size w ws) (fun jv _=>k-(intOf jv).toNat)
    case atStart=>exact ⟨0,Nat.zero_le _,rfl,(show MissK xs[i].ctors xs[i].ctors[k].name 0 from rfl),HBQ.out _⟩
    case round =>
     clear hwo
     obtain ⟨j,hj,rfl,HK,hB2⟩:=hrel
     have HBq2:=jj (fun n=>zAR hB2 n)
     obtain ⟨Ai,capi,Gi,hbi,i0,i1,HI,HGi,-,hci1,hci2⟩:=ArrDt.at HX.out HF.out hB2 i hil
     clear i0
     by_cases hlt:j<k
     ·have hjl:j<xs[i].ctors.length:=by omega
      obtain ⟨bi,offi,rfl⟩:=HI.out.ptr (by omega)
      obtain ⟨-,-,-,hbj,j0,-,-,-,-,-,-,-⟩:=ArrKt.at HI.out HGi.out hB2 j hjl
      obtain ⟨-,-,-,hbk,k0,-,-,-,-,-,-,-⟩:=ArrKt.at HI.out HGi.out hB2 k hk
      have g1:(0:Int)≤(j:Int):=by omega
      have g2:(j:Int)<(xs[i].ctors.length:Int):=by omega
      have g3:(0:Int)≤(k:Int):=by omega
      have g4:(k:Int)<(xs[i].ctors.length:Int):=by omega
      have g5:(0:Int)≤(i:Int):=by omega
      have g6:(i:Int)<(xs.length:Int):=by omega
      have g7:(0:Int)≤(i:Int):=by omega
      have g8:(i:Int)<(xs.length:Int):=by omega
      have g9:decide (k<xs[i].ctors.length)=true:=by simpa using hk
      cases e1:(xs[i].ctors[j].name.toList==xs[i].ctors[k].name.toList) with
      |true =>
       have hf:=jj (twice_hitK hjl hlt e1:twiceB (xs.take i) (xs[i].ctors.take k) xs[i].name xs[i].ctors[k].name=true)
       go_wp2_with fail
       go_quiet (fail)
       go_wp2
       go_ret
       exact ⟨zA0 hf.out.symm,HBq2.out _⟩
      |false =>
       have HK2:=jj (HK.out.snoc hjl e1)
       go_wp2_with fail
       go_quiet (fail)
       go_wp2
       go_roundw
       case rel=>exact ⟨j+1,by omega,by go_num,HK2,HBq2.out _⟩
       case measure=>(simp [intOf] <;> omega)
     ·go_wp2_with fail
      have hm2:twiceB (xs.take i) (xs[i].ctors.take k) xs[i].name xs[i].ctors[k].name=false:=twice_miss HM.out (by have h:=HK.out;have e:j=k:=(by omega);unfold MissK at h;rw [e] at h;exact h)
      go_roundw
      case rel=>exact ⟨i+1,by omega,by go_num,⟨fun h=>by omega,fun _=>hm2⟩,hB2⟩
      case measure=>(simp [intOf] <;> omega)
   ·have hf:=jj (HR.out.2 (by omega))
    go_wp2
    go_ret
    exact ⟨zA0 hf.out.symm,hB⟩
def WInv (xs:List Dt) (d:Nat):Prop:=worldOk xs=worldGo xs.length ((xs.take d).map Dt.name) (ctorNames (xs.take d)) (xs.drop d)
def KInv (xs:List Dt) (d:Nat) (hd:d<xs.length) (k:Nat):Prop :=
 worldOk xs=(ctorsSpec xs.length (nameIn ((xs.take d).map Dt.name) xs[d].name) (ctorNames (xs.take d) ++ (xs[d].ctors.take k).map Kt.name) (xs[d].ctors.drop k) && worldGo xs.length ((xs.take (d+1)).map Dt.name) (ctorNames (xs.take (d+1))) (xs.drop (d+1)))
def KInvI (xs:List Dt) (d:Nat) (hd:d<xs.length) (k:Nat):Prop :=
 worldOk xs=(ctorsGo xs.length (ctorNames (xs.take d) ++ (xs[d].ctors.take k).map Kt.name) (xs[d].ctors.drop k) && worldGo xs.length ((xs.take (d+1)).map Dt.name) (ctorNames (xs.take (d+1))) (xs.drop (d+1)))
theorem WInv.zero {xs:List Dt} (h:xs.length≤4):WInv xs 0:=by
 unfold WInv worldOk
 rw [decide_eq_true (by omega),Bool.true_and];rfl
theorem worldOk_long {xs:List Dt} (h:¬xs.length≤4):worldOk xs=false:=by
 unfold worldOk
 rw [decide_eq_false (by omega),Bool.false_and]
theorem WInv.done {xs:List Dt} {d:Nat} (h:WInv xs d) (hd:xs.length≤d):worldOk xs=true:=by
 unfold WInv at h
 rw [h,List.drop_of_length_le hd];rfl
theorem WInv.step {xs:List Dt} {d:Nat} (h:WInv xs d) (hd:d<xs.length):worldOk xs=(dnameOk xs[d].name.data.toList && (!nameIn ((xs.take d).map Dt.name) xs[d].name && (withinB (xs[d].ctors.length:Int) 1 4 && (ctorsGo xs.length (ctorNames (xs.take d)) xs[d].ctors && worldGo xs.length ((xs.take (d+1)).map Dt.name) (ctorNames (xs.take (d+1))) (xs.drop (d+1)))))):=by
 unfold WInv at h
 rw [h,List.drop_eq_getElem_cons hd,worldGo,take_snoc' xs d hd,List.map_append,ctorNames_snoc];rfl
theorem WInv.bad1 {xs:List Dt} {d:Nat} (h:WInv xs d) (hd:d<xs.length) (e:dnameOk xs[d].name.data.toList=false):worldOk xs=false:=by
 rw [h.step hd,e];rfl
theorem WInv.bad2 {xs:List Dt} {d:Nat} (h:WInv xs d) (hd:d<xs.length) (e:withinB (xs[d].ctors.length:Int) 1 4=false):worldOk xs=false:=by
 rw [h.step hd,e,Bool.false_and,Bool.and_false,Bool.and_false]
theorem WInv.bad3 {xs:List Dt} {d:Nat} (h:WInv xs d) (hd:d<xs.length) (e:nameIn ((xs.take d).map Dt.name) xs[d].name=true):worldOk xs=false:=by
 rw [h.step hd,e,Bool.not_true,Bool.false_and,Bool.and_false]
theorem WInv.go {xs:List Dt} {d:Nat} (h:WInv xs d) (hd:d<xs.length) (e1:dnameOk xs[d].name.data.toList=true) (e2:withinB (xs[d].ctors.length:Int) 1 4=true):KInv xs d hd 0:=by
 unfold KInv
 have hne:xs[d].ctors≠[]:=fun e=>by
  rw [e] at e2
  simp [withinB] at e2
 rw [List.take_zero,List.map_nil,List.append_nil,List.drop_zero,ctorsSpec_eq _ _ _ _ hne,h.step hd,e1,e2,Bool.true_and,Bool.true_and,Bool.and_assoc]
theorem WInv.goI {xs:List Dt} {d:Nat} (h:WInv xs d) (hd:d<xs.length) (e1:dnameOk xs[d].name.data.toList=true) (e2:withinB (xs[d].ctors.length:Int) 1 4=true) (e3:nameIn ((xs.take d).map Dt.name) xs[d].name=false):KInvI xs d hd 0:=by
 unfold KInvI
 rw [List.take_zero,List.map_nil,List.append_nil,List.drop_zero,h.step hd,e1,e2,e3,Bool.not_false,Bool.true_and,Bool.true_and,Bool.true_and]
theorem KInv.step {xs:List Dt} {d k:Nat} {hd:d<xs.length} (h:KInv xs d hd k) (hk:k<xs[d].ctors.length) :
  worldOk xs=((ctorOkB xs.length xs[d].ctors[k] && (!twiceB (xs.take d) (xs[d].ctors.take k) xs[d].name xs[d].ctors[k].name && ctorsSpec xs.length (nameIn ((xs.take d).map Dt.name) xs[d].name) (ctorNames (xs.take d) ++ (xs[d].ctors.take (k+1)).map Kt.name) (xs[d].ctors.drop (k+1)))) && worldGo xs.length ((xs.take (d+1)).map Dt.name) (ctorNames (xs.take (d+1))) (xs.drop (d+1))):=by
 unfold KInv at h
 rw [h,List.drop_eq_getElem_cons hk,ctorsSpec,take_snoc' _ k hk,List.map_append,←List.append_assoc];rfl
theorem KInv.bad1 {xs:List Dt} {d k:Nat} {hd:d<xs.length} (h:KInv xs d hd k) (hk:k<xs[d].ctors.length) (e:ctorOkB xs.length xs[d].ctors[k]=false):worldOk xs=false:=by
 rw [h.step hk,e];rfl
theorem KInv.bad2 {xs:List Dt} {d k:Nat} {hd:d<xs.length} (h:KInv xs d hd k) (hk:k<xs[d].ctors.length) (e:twiceB (xs.take d) (xs[d].ctors.take k) xs[d].name xs[d].ctors[k].name=true):worldOk xs=false:=by
 rw [h.step hk,e,Bool.not_true,Bool.false_and,Bool.and_false,Bool.false_and]
theorem KInv.next {xs:List Dt} {d k:Nat} {hd:d<xs.length} (h:KInv xs d hd k) (hk:k<xs[d].ctors.length) (e1:ctorOkB xs.length xs[d].ctors[k]=true) (e2:twiceB (xs.take d) (xs[d].ctors.take k) xs[d].name xs[d].ctors[k].name=false):KInv xs d hd (k+1):=by
 have h':=h.step hk
 rw [e1,e2,Bool.not_false,Bool.true_and,Bool.true_and] at h'
 exact h'
theorem KInv.done {xs:List Dt} {d k:Nat} {hd:d<xs.length} (h:KInv xs d hd k) (hk:xs[d].ctors.length≤k):WInv xs (d+1):=by
 unfold KInv at h
 rw [List.drop_of_length_le hk,ctorsSpec,Bool.true_and] at h
 exact h
theorem KInvI.step {xs:List Dt} {d k:Nat} {hd:d<xs.length} (h:KInvI xs d hd k) (hk:k<xs[d].ctors.length) :
  worldOk xs=((ctorOkB xs.length xs[d].ctors[k] && (!nameIn (ctorNames (xs.take d) ++ (xs[d].ctors.take k).map Kt.name) xs[d].ctors[k].name && ctorsGo xs.length (ctorNames (xs.take d) ++ (xs[d].ctors.take (k+1)).map Kt.name) (xs[d].ctors.drop (k+1)))) && worldGo xs.length ((xs.take (d+1)).map Dt.name) (ctorNames (xs.take (d+1))) (xs.drop (d+1))):=by
 unfold KInvI at h
 rw [h,List.drop_eq_getElem_cons hk,ctorsGo,take_snoc' _ k hk,List.map_append,←List.append_assoc];rfl
theorem KInvI.bad1 {xs:List Dt} {d k:Nat} {hd:d<xs.length} (h:KInvI xs d hd k) (hk:k<xs[d].ctors.length) (e:ctorOkB xs.length xs[d].ctors[k]=false):worldOk xs=false:=by
 rw [h.step hk,e];rfl
theorem KInvI.bad2 {xs:List Dt} {d k:Nat} {hd:d<xs.length} (h:KInvI xs d hd k) (hk:k<xs[d].ctors.length) (e:nameIn (ctorNames (xs.take d) ++ (xs[d].ctors.take k).map Kt.name) xs[d].ctors[k].name=true):worldOk xs=false:=by
 rw [h.step hk,e,Bool.not_true,Bool.false_and,Bool.and_false,Bool.false_and]
theorem KInvI.next {xs:List Dt} {d k:Nat} {hd:d<xs.length} (h:KInvI xs d hd k) (hk:k<xs[d].ctors.length) (e1:ctorOkB xs.length xs[d].ctors[k]=true) (e2:nameIn (ctorNames (xs.take d) ++ (xs[d].ctors.take k).map Kt.name) xs[d].ctors[k].name=false):KInvI xs d hd (k+1):=by
 have h':=h.step hk
 rw [e1,e2,Bool.not_false,Bool.true_and,Bool.true_and] at h'
 exact h'
theorem KInvI.done {xs:List Dt} {d k:Nat} {hd:d<xs.length} (h:KInvI xs d hd k) (hk:xs[d].ctors.length≤k):WInv xs (d+1):=by
 unfold KInvI at h
 rw [List.drop_of_length_le hk,ctorsGo,Bool.true_and] at h
 exact h
theorem spec_WorldValid (xs:List Dt) (w:World) (v:Value) (F:List Nat) (hx:Arr w (DtR w) xs v F) (hf:Under w.heap.size F) :
  Calls Try.prog 45 #[v] w fun e w'=>e=.returned (.bool (worldOk xs))∧Below w.heap.size w w':=by
 obtain ⟨A,cap,rfl,hc1,hc2⟩:=hx.form
 have HX:=jj hx
 have HF:=jj hf
 clear hx hf
 by_cases h4:xs.length≤4
 ·have H0:=jj (WInv.zero h4)
  go_enter Try.func45,Try.ntmps45
  go_wp2
  go_loopw [3] (fun iv wr=>∃ d:Nat,d≤xs.length∧iv=.int .i64 d∧Hid (WInv xs d)∧Below w.heap.size w wr) (fun iv _=>xs.length-(intOf iv).toNat)
  case atStart=>exact ⟨0,Nat.zero_le _,rfl,H0,zy2 _ _⟩
  case round =>
   obtain ⟨d,hd,rfl,HW,hB⟩:=hrel
   by_cases hlt:d<xs.length
   ·obtain ⟨b,off,rfl⟩:=HX.out.ptr (by omega)
    obtain ⟨A1,cap1,G1,hb,c0,c1,HK,HG,hs,hn1,hn2⟩:=ArrDt.at HX.out HF.out hB d hlt
    have g1:(0:Int)≤(d:Int):=by omega
    have g2:(d:Int)<(xs.length:Int):=by omega
    have HS:=jj hs
    clear hs
    go_wp2_with fail
    refine (spec_l1Data xs[d].name wr (by unfold maxLen;exact HS.out)).mono ?_
    rintro e w1 ⟨rfl,rfl⟩
    cases e1:dnameOk xs[d].name.data.toList with
    |false =>
     have hf:=jj (HW.out.bad1 hlt e1)
     clear e1
     go_wp2
     go_ret
     exact ⟨zA0 hf.out.symm,hB⟩
    |true =>
     have HE1:=jj e1
     clear e1
     by_cases hl0:xs[d].ctors.length=0
     ·have t0:((xs[d].ctors.length:Int)==0)=true:=by simp [hl0]
      have hf:=jj (HW.out.bad2 hlt (withinB_lo (by simp;omega)))
      clear hl0
      go_wp2
      go_ret
      exact ⟨zA0 hf.out.symm,hB⟩
     ·have t0:((xs[d].ctors.length:Int)==0)=false:=by simp;simpa using hl0
      by_cases hl5:4<xs[d].ctors.length
      ·have t1:decide ((xs[d].ctors.length:Int)>4)=true:=by simp;omega
       have hf:=jj (HW.out.bad2 hlt (by rw [withinB_hi (by simp;omega)];simp;omega))
       clear hl0
       go_wp2
       go_ret
       exact ⟨zA0 hf.out.symm,hB⟩
      ·have t1:decide ((xs[d].ctors.length:Int)>4)=false:=by simp;omega
       have HK0:=jj (HW.out.go hlt HE1.out ((zAF _ _ _).2 ⟨by omega,by omega⟩))
       have hl1:0<xs[d].ctors.length:=by omega
       clear hl0
       go_wp2
       clear t0 t1 c0 c1
       obtain ⟨wo,hwo⟩:∃ wo:World,wo=wr:=⟨_,rfl⟩
       go_loopw [4] (fun jv ws=>∃ k:Nat,k≤xs[d].ctors.length∧jv=.int .i64 k∧Hid (KInv xs d hlt k)∧Below w.heap.size w ws) (fun jv _=>xs[d].ctors.length-(intOf jv).toNat)
       case atStart=>exact ⟨0,Nat.zero_le _,rfl,HK0,hB⟩
       case round =>
        clear hwo
        obtain ⟨k,hk,rfl,HKI,hB2⟩:=hrel
        obtain ⟨A2,cap2,G2,hb2,c0,c1,HK2,HG2,-,hn3,hn4⟩:=ArrDt.at HX.out HF.out hB2 d hlt
        clear c0
        by_cases hkl:k<xs[d].ctors.length
        ·obtain ⟨b2,off2,rfl⟩:=HK2.out.ptr (by omega)
         obtain ⟨A3,cap3,G3,hb3,k0,k1,k2,HC,HG3,-,-,-⟩:=ArrKt.rep HK2.out HG2.out hB2 k hkl
         have g3:(0:Int)≤(k:Int):=by omega
         have g4:(k:Int)<(xs[d].ctors.length:Int):=by omega
         go_wp2_with fail
         refine (spec_l1Ctor xs.length xs[d].ctors[k] _ _ _ (HC.out.below hB2 HG3.out) (HG3.out.mono hB2.size)).mono ?_
         rintro e w2 ⟨rfl,hb2'⟩
         have hB3:=hB2.trans (hb2'.mono hB2.size)
         cases e2:ctorOkB xs.length xs[d].ctors[k] with
         |false =>
          have hf:=jj (HKI.out.bad1 hkl e2)
          clear e2
          go_wp2
          go_ret
          exact ⟨zA0 hf.out.symm,hB3⟩
         |true =>
          have HE2:=jj e2
          clear e2 k0 k1 k2 c1
          go_wp2_with fail
          refine (spec_l1Twice xs d k hlt hkl _ _ F (ArrDt.below HX.out hB3 HF.out) (HF.out.mono hB3.size)).mono ?_
          rintro e w3 ⟨rfl,hb3'⟩
          have hB4:=hB3.trans (hb3'.mono hB3.size)
          cases e3:twiceB (xs.take d) (xs[d].ctors.take k) xs[d].name xs[d].ctors[k].name with
          |true =>
           have hf:=jj (HKI.out.bad2 hkl e3)
           clear e3
           go_wp2
           go_ret
           exact ⟨zA0 hf.out.symm,hB4⟩
          |false =>
           have HK3:=jj (HKI.out.next hkl HE2.out e3)
           clear e3
           go_wp2
           go_roundw
           case rel=>exact ⟨k+1,by omega,by go_num,HK3,hB4⟩
           case measure=>(simp [intOf] <;> omega)
        ·have HW2:=jj (HKI.out.done (by omega))
         go_wp2
         go_roundw
         case rel=>exact ⟨d+1,by omega,by go_num,HW2,hB2⟩
         case measure=>(simp [intOf] <;> omega)
   ·have hf:=jj (HW.out.done (by omega))
    go_wp2
    go_ret
    exact ⟨zA0 hf.out.symm,hB⟩
 ·have hf:=jj (worldOk_long h4)
  go_enter Try.func45,Try.ntmps45
  go_wp2
  go_ret
  exact ⟨zA0 hf.out.symm,zy2 _ _⟩
theorem ctorOk_closure (A:Option Addr) (n cap:Nat) (t:Ty) (w:World) (g:Nat) (hn:n≤9223372036854775807) (hg:w.cell? ⟨g,0,none⟩=some (.slice A n cap)) (hgl:g<w.heap.size) :
  Calls Try.prog 78 #[.agg #[.int .i64 t.d,.int .i64 t.i],.pointer (some ⟨g,0,none⟩)] w fun e w'=>e=.returned (.bool (!argOkB n t))∧Below w.heap.size w w':=by
 have HN:=jj hn
 clear hn
 go_enter Try.func78,Try.ntmps78
 go_wp2_with fail
 obtain ⟨W2,hW2⟩:∃ W2,W2=w.alloc (.cells #[.int .i64 t.d,.int .i64 t.i] 35):=⟨_,rfl⟩
 have hB2:Below w.heap.size w W2:=by rw [hW2];exact (zy2 _ _).alloc (zz8 _) _
 rw [←hW2]
 clear hW2
 refine (impl_argOk A n cap t W2 HN.out).mono ?_
 rintro e w' ⟨rfl,hB'⟩
 have hB3:=hB2.trans (hB'.mono hB2.size)
 generalize hbb:argOkB n t=bb
 have HBB:=jj hbb
 clear hbb
 go_wp2
 go_ret
 exact ⟨zA0 (by rw [HBB.out]),hB3⟩
theorem IndexFunc_Ty (A0:Option Addr) (n cap0:Nat) (xs:List Ty) (r:Int) (hr:FirstAt (fun t=>!argOkB n t) xs r) (w:World) (x:Value) (F:List Nat) (g:Nat) (hn:n≤9223372036854775807) (hg:w.cell? ⟨g,0,none⟩=some (.slice A0 n cap0)) (hgl:g<w.heap.size) (hx:Arr w (TyR w) xs x F) (hF:Under w.heap.size F) :
  Calls Try.prog 85 #[x,.func (.func 78) #[] #[.pointer (some ⟨g,0,none⟩)]] w fun e w'=>e=.returned (.int .i64 r)∧Below w.heap.size w w':=by
 have HX:=jj hx
 obtain ⟨A,cap,rfl,hc1,hc2⟩:=hx.form
 clear hx
 have HF:=jj hF
 clear hF
 have HG0:=jj hg
 have HN:=jj hn
 have HR:=jj hr
 clear hg hn hr
 go_enter Try.func85,Try.ntmps85
 go_wp2
 go_loopw [8] (fun i wr=>∃ k:Nat,k≤xs.length∧i=.int .i64 k∧Hid (∀ j (hj:j<xs.length),j<k→(!argOkB n xs[j])=false)∧Below w.heap.size w wr) (fun i _=>xs.length-(intOf i).toNat)
 case atStart=>exact ⟨0,Nat.zero_le _,rfl,fun j hj h=>by omega,zy2 _ _⟩
 case round =>
  obtain ⟨k,hk,rfl,HT,hB⟩:=hrel
  by_cases hlt:k<xs.length
  ·have hi0:(0:Int)≤(k:Int):=by omega
   have hi1:(k:Int)<(xs.length:Int):=by omega
   obtain ⟨b,off,cs,G,rfl,hb,hcs,hv,-⟩:=HX.out.get zAQ hlt
   have hbl:=HF.out b hb
   have hcs:=hcs.same (hB.block b hbl)
   obtain rfl:=TyR_form hv
   have c0:=hcs 0 _ rfl
   have c1:=hcs 1 _ rfl
   simp only [Nat.add_zero] at c0
   clear hcs hv hb
   have hbw:=zz9 hbl hB.size
   go_wp2_with fail
   refine (ctorOk_closure A0 n cap0 xs[k] wr g HN.out ((hB.cell (p:=⟨g,0,none⟩) hgl).trans HG0.out) (zz9 hgl hB.size)).mono ?_
   rintro e w' ⟨rfl,hB'⟩
   have hB3:=hB.trans (hB'.mono hB.size)
   cases hq:argOkB n xs[k] with
   |false =>
    have hf:Hid (r=(k:Int)):=HR.out.hit hlt (by simp [hq]) (fun j hj h=>HT.out j hj h)
    clear hq
    go_wp2
    go_ret
    exact ⟨zA6 hf.out.symm,hB3⟩
   |true =>
    have hT2:Hid (∀ j (hj:j<xs.length),j<k+1→(!argOkB n xs[j])=false):=fun j hj h=>by
     rcases Nat.lt_or_ge j k with h2 | h2
     ·exact HT.out j hj h2
     ·obtain rfl:j=k:=by omega
      rw [hq];rfl
    clear hq
    go_wp2
    go_roundw
    case rel=>exact ⟨k+1,by omega,by go_num,hT2,hB3⟩
    case measure=>simp [intOf];omega
  ·have hf:Hid (r = -1):=HR.out.miss (fun j hj=>HT.out j hj (by omega))
   go_wp2
   go_ret
   exact ⟨zA6 hf.out.symm,hB⟩
theorem ContainsFunc_Ty (A0:Option Addr) (n cap0:Nat) (xs:List Ty) (w:World) (x:Value) (F:List Nat) (g:Nat) (hn:n≤9223372036854775807) (hg:w.cell? ⟨g,0,none⟩=some (.slice A0 n cap0)) (hgl:g<w.heap.size) (hx:Arr w (TyR w) xs x F) (hF:Under w.heap.size F) :
  Calls Try.prog 77 #[x,.func (.func 78) #[] #[.pointer (some ⟨g,0,none⟩)]] w fun e w'=>e=.returned (.bool (xs.any fun t=>!argOkB n t))∧Below w.heap.size w w':=by
 obtain ⟨r,hr⟩:=FirstAt.ex (fun t=>!argOkB n t) xs
 have hf:Hid ((xs.any fun t=>!argOkB n t)=decide (0≤r)):=hr.any
 have hcall:=IndexFunc_Ty A0 n cap0 xs r hr w x F g hn hg hgl hx hF
 obtain ⟨A,cap,rfl,hc1,hc2⟩:=hx.form
 have HC:=jj hcall
 clear hcall hr hx hF hn hg
 go_enter Try.func77,Try.ntmps77
 go_wp2_with fail
 refine HC.out.mono ?_
 rintro e w' ⟨rfl,hB'⟩
 go_wp2
 go_ret
 exact ⟨zA0 hf.out.symm,hB'⟩
theorem any_not_all {α:Type} (p:α→Bool) (l:List α):(!(l.any fun t=>!p t))=l.all p:=by
 induction l with
 |nil=>rfl
 |cons x xs ih=>rw [List.any_cons,List.all_cons,Bool.not_or,ih,Bool.not_not]
theorem impl_ctorOk (A0:Option Addr) (n cap0:Nat) (c:Kt) (w:World) (cs:List Value) (F:List Nat) (hn:n≤9223372036854775807) (hv:KtR w c cs F) (hF:Under w.heap.size F) :
  Calls Try.prog 67 #[.slice A0 n cap0,.agg cs.toArray] w fun e w'=>e=.returned (.bool (ctorOkB n c))∧Below w.heap.size w w':=by
 obtain ⟨kv,rfl,ha,hs⟩:=hv
 have HX:=jj ha
 obtain ⟨A,cap,rfl,hc1,hc2⟩:=ha.form
 clear ha
 have HF:=jj hF
 have HS:=jj hs
 have HN:=jj hn
 clear hF hs hn
 go_enter Try.func67,Try.ntmps67
 go_wp2_with fail
 obtain ⟨W2,hW2⟩:∃ W2,W2=(w.alloc (.cells #[.slice A0 n cap0] 33)).alloc (.cells #[.string c.name,.slice A c.args.length cap,.int .i64 c.idx] 74):=⟨_,rfl⟩
 have hB2:Below w.heap.size w W2:=by rw [hW2];exact ((zy2 _ _).alloc (zz8 _) _).alloc (by simp) _
 have k1:Blk W2 w.heap.size 33 #[.slice A0 n cap0]:=by rw [hW2];exact (Blk.new w _ _).same (Below.heap_alloc _ _ _ (by simp))
 have k2:Blk W2 (w.heap.size+1) 74 #[.string c.name,.slice A c.args.length cap,.int .i64 c.idx]:=by rw [hW2];have:=Blk.new (w.alloc (.cells #[.slice A0 n cap0] 33)) 74 #[.string c.name,.slice A c.args.length cap,.int .i64 c.idx];simpa using this
 rw [←hW2]
 clear hW2
 have x0:W2.cell? ⟨w.heap.size,0,none⟩=some (.slice A0 n cap0):=(k1.cell 0).trans (by simp)
 have x1:W2.cell? ⟨w.heap.size+1,1,none⟩=some (.slice A c.args.length cap):=(k2.cell 1).trans (by simp)
 have x2:W2.cell? ⟨w.heap.size+1,2,none⟩=some (.int .i64 c.idx):=(k2.cell 2).trans (by simp)
 have hlt0:=k1.lt
 clear k1 k2
 refine (impl_NameValid c.name W2 (by have:=HS.out;unfold maxLen;omega)).mono ?_
 rintro e w' ⟨rfl,rfl⟩
 have h0:ctorOkB n c=(nameOk c.name.data.toList && (decide ((c.args.length:Int)≤3) && (withinB c.idx 0 3 && c.args.all (argOkB n)))):=rfl
 cases hn:nameOk c.name.data.toList with
 |false =>
  have hf:Hid (ctorOkB n c=false):=by rw [h0,hn];rfl
  clear hn h0
  go_wp2
  go_ret
  exact ⟨zA0 hf.out.symm,hB2⟩
 |true =>
  rw [hn,Bool.true_and] at h0
  clear hn
  cases hl:decide ((c.args.length:Int)≤3) with
  |false =>
   have hf:Hid (ctorOkB n c=false):=by rw [h0,hl];rfl
   clear h0
   go_wp2
   go_ret
   exact ⟨zA0 hf.out.symm,hB2⟩
  |true =>
   rw [hl,Bool.true_and] at h0
   have H0:=jj h0
   clear h0
   go_wp2_with fail
   refine (zA9 c.idx 0 3 W2).mono ?_
   rintro e w' ⟨rfl,rfl⟩
   cases hi:withinB c.idx 0 3 with
   |false =>
    have hf:Hid (ctorOkB n c=false):=by rw [H0.out,hi];rfl
    clear hi
    go_wp2
    go_ret
    exact ⟨zA0 hf.out.symm,hB2⟩
   |true =>
    have hf:Hid (ctorOkB n c=!(c.args.any fun t=>!argOkB n t)):=by rw [H0.out,hi,Bool.true_and,any_not_all];rfl
    clear hi
    go_wp2_with fail
    refine (ContainsFunc_Ty A0 n cap0 c.args W2 _ F w.heap.size HN.out x0 hlt0 (ArrTy.below HX.out hB2 HF.out) (HF.out.mono hB2.size)).mono ?_
    rintro e w' ⟨rfl,hB'⟩
    have hB3:=hB2.trans (hB'.mono hB2.size)
    generalize hbb:(c.args.any fun t=>!argOkB n t)=bb
    have HBB:=jj hbb
    clear hbb
    go_wp2
    go_ret
    exact ⟨zA0 (by rw [hf.out,HBB.out]),hB3⟩
theorem plainElem_bool_inv {H:Type} {P:Program} {e:TypeId} (he:P.underlying e=some .bool) {v:Value} {z:DataW H×List MemPlace} (h:Go.plainElem P e v=some z):∃ a,v=.bool a∧z=(.lit (.bool a),[]):=by
 unfold Go.plainElem at h
 rw [he] at h
 cases v <;> simp at h
 exact ⟨_,rfl,h.symm⟩
theorem lookup_bool {H:Type} {P:Program} {k t e:TypeId} {w:World} {b n:Nat} {D:DataW H} (h:w.ownsMap P k (Go.plainElem P e) b n D) (K:Go.Maps.Keyed P k) (ht:P.underlying t=some (.map k e)) (he:P.underlying e=some .bool) (hz:(zeroValue e).run P w=.ok (.bool false) w)
  {key:Value} {kl:Lit} (hkey:Go.keyOf P k key=some kl):∃ c,(Instr.lookup t (.map (some b)) key false).run P w=.ok (.bool c) w∧D.atKey kl (.lit (.bool false))=.lit (.bool c):=by
 obtain ⟨v,ps,hrun,hv⟩:=h.lookup K ht hz (plainElem_bool he false) hkey
 obtain ⟨c,rfl,hc⟩:=plainElem_bool_inv he hv
 simp only [Prod.mk.injEq] at hc
 exact ⟨c,hrun,hc.1⟩
open Go.Maps
def strLit (s:ByteArray):Lit:=.string s.data.toList
theorem strLit_same (a b:ByteArray):(strLit a).sameKey (strLit b)=(a.toList==b.toList):=by
 rw [ByteArray.toList_eq,ByteArray.toList_eq];rfl
theorem any_same (names:List ByteArray) (s:ByteArray):((names.map strLit).any fun x=>x.sameKey (strLit s))=nameIn names s:=by
 induction names with
 |nil=>rfl
 |cons x xs ih=>rw [List.map_cons,List.any_cons,ih,strLit_same];rfl
theorem isKey_str (s:ByteArray):WideAt.IsKeyLit (strLit s):=trivial
theorem atKey_setOf {H:Type} (u z:DataW H) (k:Lit) (acc:List Lit) (ha:∀ x∈acc,WideAt.IsKeyLit x) (hk:WideAt.IsKeyLit k):(setOf u acc).atKey k z=if acc.any (fun x=>x.sameKey k) then u else z:=by
 cases h:acc.any (fun x=>x.sameKey k) with
 |false =>
  rw [if_neg (by simp)]
  exact atKey_of_not_has ((has_setOf u k acc ha).trans h) z
 |true =>
  rw [if_pos rfl]
  revert h
  have key:∀ n (acc:List Lit),acc.length=n→(∀ x∈acc,WideAt.IsKeyLit x)→acc.any (fun x=>x.sameKey k)=true→(setOf u acc).atKey k z=u:=by
   intro n
   induction n with
   |zero=>intro acc hl _ h;rw [List.length_eq_zero_iff.1 hl] at h;simp at h
   |succ n ih =>
    intro acc hl ha h
    obtain ⟨l,x,rfl⟩:∃ l x,acc=l ++ [x]:=⟨acc.dropLast,acc.getLast (by intro e;rw [e] at hl;simp at hl),(List.dropLast_concat_getLast _).symm⟩
    rw [setOf_snoc]
    have hl':∀ y∈l,WideAt.IsKeyLit y:=fun y hy=>ha y (List.mem_append.2 (.inl hy))
    by_cases e:k=x
    ·subst e
     exact atKey_put_same (tidy_setOf u l hl').isMap hk u z
    ·rw [atKey_put_other e]
     refine ih l (by simpa using hl) hl' ?_
     rw [List.any_append,Bool.or_eq_true] at h
     rcases h with h | h
     ·exact h
     ·simp only [List.any_cons,List.any_nil,Bool.or_false] at h
      exact absurd ((WideAt.sameKey_iff hk).1 h).symm e
  exact key _ acc rfl ha
theorem lawS:Maps.Keyed Try.prog 9:=string_keyed Try.underlying9
theorem zeroB (w:World):(zeroValue 4).run Try.prog w=.ok (.bool false) w:=by kernel_rfl
def OwnsNames (w:World) (b:Nat) (names:List ByteArray):Prop:=w.ownsMap (H:=Unit) Try.prog 9 (Go.plainElem Try.prog 4) b names.length (setOf (.lit (.bool true)) (names.map strLit))
theorem OwnsNames.made (w:World):OwnsNames (w.alloc (.map #[] 0)) w.heap.size []:=World.ownsMap_made w _ _ _
theorem OwnsNames.kept {w w':World} {b:Nat} {names:List ByteArray} {row:Option Nat} (h:OwnsNames w b names) (hg:w.grownBy w' row) (hne:some b≠row):OwnsNames w' b names:=World.ownsMap.kept h hg hne
theorem OwnsNames.below {w w':World} {b:Nat} {names:List ByteArray} (h:OwnsNames w b names) (hb:Below w.heap.size w w'):OwnsNames w' b names :=
 h.kept (row:=none) ⟨hb.os,hb.tape,hb.output,hb.size,fun k hk _=>hb.block k hk⟩ (by simp)
theorem OwnsNames.alloc {w:World} {b:Nat} {names:List ByteArray} (h:OwnsNames w b names) (o:Obj):OwnsNames (w.alloc o) b names:=World.ownsMap.alloc h o
theorem OwnsNames.lt {w:World} {b:Nat} {names:List ByteArray} (h:OwnsNames w b names):b<w.heap.size:=World.ownsMap.lt h
theorem keyS (s:ByteArray) (hs:s.size≤maxLen):Go.keyOf Try.prog 9 (.string s)=some (strLit s):=Go.WideMaps.keyOf_string_mk Try.underlying9 hs
theorem OwnsNames.look {w:World} {b:Nat} {names:List ByteArray} (h:OwnsNames w b names) (s:ByteArray) (hs:s.size≤maxLen):(Instr.lookup 99 (.map (some b)) (.string s) false).run Try.prog w=.ok (.bool (nameIn names s)) w:=by
 obtain ⟨c,hr,hc⟩:=lookup_bool h lawS Try.underlying99 Try.underlying4 (zeroB w) (keyS s hs)
 rw [hr,atKey_setOf _ _ _ _ (fun x hx=>by obtain ⟨y,-,rfl⟩:=List.mem_map.1 hx;exact isKey_str y) (isKey_str s),any_same] at *
 cases hn:nameIn names s <;> rw [hn] at hc
 ·rw [if_neg (by simp)] at hc;cases hc;rfl
 ·rw [if_pos rfl] at hc;cases hc;rfl
theorem OwnsNames.put {w:World} {b:Nat} {names:List ByteArray} (h:OwnsNames w b names) (s:ByteArray) (w':World) (h':w'.ownsMap (H:=Unit) Try.prog 9 (Go.plainElem Try.prog 4) b (names.length+1) ((setOf (.lit (.bool true)) (names.map strLit)).put (strLit s) (.lit (.bool true)))):OwnsNames w' b (names ++ [s]):=by
 unfold OwnsNames
 rw [List.map_append,List.map_cons,List.map_nil,setOf_snoc,List.length_append]
 exact h'
theorem OwnsNames.add {w:World} {b:Nat} {names:List ByteArray} (h:OwnsNames w b names) (hn:names.length<1000000) (s:ByteArray) (hs:s.size≤maxLen) :
  ∃ w',(Instr.mapUpdate 99 (.map (some b)) (.string s) (.bool true)).run Try.prog w=.ok () w'∧OwnsNames w' b (names ++ [s])∧w.grownBy w' (some b):=by
 obtain ⟨w',hr,h1,h2⟩:=World.ownsMap.update h lawS Try.underlying99 (by unfold maxLen;omega) (keyS s hs) (plainElem_bool Try.underlying4 true)
 exact ⟨w',hr,h.put s w' h1,h2⟩
theorem ctorNames_len (xs:List Dt) (h:∀ x∈xs,x.ctors.length≤4):(ctorNames xs).length≤4*xs.length:=by
 induction xs with
 |nil=>simp [ctorNames]
 |cons x xs ih =>
  have h1:=h x (by simp)
  have h2:=ih fun y hy=>h y (by simp [hy])
  simp only [ctorNames,List.flatMap_cons,List.length_append,List.length_map,List.length_cons] at h2 ⊢
  omega
theorem dname_one {s:ByteArray} (h:s.size=1) (p:0<s.size):dnameOk s.data.toList=(bigB (s[0]'p) && !(s.toList==[73])):=by
 rw [ByteArray.toList_eq,one_byte s h]
 show (bigB (s[0]'p) && !(s[0]==73))=_
 congr 2
 simp
theorem dname_not {s:ByteArray} (h:s.size≠1):dnameOk s.data.toList=false:=by
 have hl:s.data.toList.length≠1:=by simpa using h
 generalize s.data.toList=l at *
 match l,hl with
 |[],_=>rfl
 |[c],hl=>simp at hl
 |_ :: _ :: _,_=>rfl
theorem impl_WorldValid (xs:List Dt) (w:World) (v:Value) (F:List Nat) (hx:Arr w (DtR w) xs v F) (hf:Under w.heap.size F) :
  Calls Try.prog 51 #[v] w fun e w'=>e=.returned (.bool (worldOk xs))∧Below w.heap.size w w':=by
 obtain ⟨A,cap,rfl,hc1,hc2⟩:=hx.form
 have hn:xs.length≤9223372036854775807:=by omega
 have HX:=jj hx
 have HF:=jj hf
 have HN:=jj hn
 clear hx hf hn
 by_cases h4:xs.length≤4
 ·have H0:=jj (WInv.zero h4)
  have hmm:=@run_makeMap Try.prog
  go_enter Try.func51,Try.ntmps51
  go_wp2
  clear hmm
  have HM0:Hid (OwnsNames ((w.alloc (.map #[] 0)).alloc (.map #[] 0)) w.heap.size (ctorNames (xs.take 0))):=(OwnsNames.made w).alloc _
  have HD0:Hid (OwnsNames ((w.alloc (.map #[] 0)).alloc (.map #[] 0)) (w.heap.size+1) ((xs.take 0).map Dt.name)):=by
   have:=OwnsNames.made (w.alloc (.map #[] 0))
   rwa [World.size_alloc] at this
  go_loopw [16] (fun iv wr=>∃ d:Nat,d≤xs.length∧iv=.int .i64 d∧Hid (WInv xs d)∧Below w.heap.size w wr∧Hid (OwnsNames wr (w.heap.size+1) ((xs.take d).map Dt.name))∧Hid (OwnsNames wr w.heap.size (ctorNames (xs.take d)))∧Hid (∀ x∈xs.take d,x.ctors.length≤4)∧w.heap.size+1<wr.heap.size) (fun iv _=>xs.length-(intOf iv).toNat)
  case atStart=>exact ⟨0,Nat.zero_le _,rfl,H0,((zy2 _ _).alloc (zz8 _) _).alloc (by simp) _,HD0,HM0,fun x hx=>by simp at hx,by simp⟩
  case round =>
   obtain ⟨d,hd,rfl,HW,hB,HD,HM,H4,hz⟩:=hrel
   by_cases hlt:d<xs.length
   ·obtain ⟨b,off,rfl⟩:=HX.out.ptr (by omega)
    obtain ⟨A1,cap1,G1,hb,c0,c1,HK,HG,hs,hn1,hn2⟩:=ArrDt.at HX.out HF.out hB d hlt
    have g1:(0:Int)≤(d:Int):=by omega
    have g2:(d:Int)<(xs.length:Int):=by omega
    have hsm:xs[d].name.size≤maxLen:=by unfold maxLen;exact hs
    have HS:=jj hsm
    clear hs hsm
    have hlk:=(HD.out.alloc (.cells #[.string xs[d].name,.slice A1 xs[d].ctors.length cap1] 57)).look xs[d].name HS.out
    by_cases h1:xs[d].name.size=1
    ·have t1:((xs[d].name.size:Int) != 1)=false:=by simp [h1]
     have p0:0<xs[d].name.size:=by omega
     have hdn:=dname_one h1 p0
     clear h1
     cases hlo:decide ((65:Int)≤(xs[d].name[0].toNat:Int)) with
     |false =>
      have t2:decide ((xs[d].name[0].toNat:Int)<65)=true:=by simp at hlo ⊢;omega
      have hf:=jj (HW.out.bad1 hlt (by rw [hdn];unfold bigB;rw [hlo];rfl))
      clear hdn hlo hlk
      go_wp2
      go_ret
      exact ⟨zA0 hf.out.symm,hB.alloc hB.size _⟩
     |true =>
      have t2:decide ((xs[d].name[0].toNat:Int)<65)=false:=by simp at hlo ⊢;omega
      cases hhi:decide ((xs[d].name[0].toNat:Int)≤90) with
      |false =>
       have t3:decide ((xs[d].name[0].toNat:Int)>90)=true:=by simp at hhi ⊢;omega
       have hf:=jj (HW.out.bad1 hlt (by rw [hdn];unfold bigB;rw [hlo,hhi];rfl))
       clear hdn hlo hhi hlk
       go_wp2
       go_ret
       exact ⟨zA0 hf.out.symm,hB.alloc hB.size _⟩
      |true =>
       have t3:decide ((xs[d].name[0].toNat:Int)>90)=false:=by simp at hhi ⊢;omega
       have hbig:bigB xs[d].name[0]=true:=by unfold bigB;rw [hlo,hhi];rfl
       clear hlo hhi
       rw [hbig,Bool.true_and] at hdn
       clear hbig
       cases t4:(xs[d].name.toList==[73]) with
       |true =>
        have hf:=jj (HW.out.bad1 hlt (by rw [hdn,t4];rfl))
        clear hdn hlk
        go_wp2
        go_ret
        exact ⟨zA0 hf.out.symm,hB.alloc hB.size _⟩
       |false =>
        rw [t4] at hdn
        have HDN:=jj hdn
        clear hdn
        cases e3:nameIn ((xs.take d).map Dt.name) xs[d].name with
        |true =>
         have hf:=jj (HW.out.bad3 hlt e3)
         rw [e3] at hlk
         clear e3
         go_wp2
         go_ret
         exact ⟨zA0 hf.out.symm,hB.alloc hB.size _⟩
        |false =>
         rw [e3] at hlk
         have HE3:=jj e3
         clear e3
         cases e4:withinB (xs[d].ctors.length:Int) 1 4 with
         |false =>
          have hf:=jj (HW.out.bad2 hlt e4)
          have HE4:=jj e4
          clear e4
          go_wp2_with fail
          refine (zA9 (xs[d].ctors.length:Int) 1 4 _).mono ?_
          rintro e w2 ⟨rfl,rfl⟩
          rw [HE4.out]
          go_wp2
          go_ret
          exact ⟨zA0 hf.out.symm,hB.alloc hB.size _⟩
         |true =>
          have HK0:=jj (HW.out.goI hlt HDN.out e4 HE3.out)
          have h5:xs[d].ctors.length≤4:=by have:=(zAF _ _ _).1 e4;omega
          have H5:=jj h5
          have HE4:=jj e4
          clear e4 h5
          obtain ⟨w2,hrun2,hm2,hg2⟩:=(HD.out.alloc (.cells #[.string xs[d].name,.slice A1 xs[d].ctors.length cap1] 57)).add (by rw [List.length_map,List.length_take];omega) xs[d].name HS.out
          have k2:=Blk.new wr 57 #[.string xs[d].name,.slice A1 xs[d].ctors.length cap1]
          have k3:=k2.same (hg2.block _ k2.lt (by have:=HD.out.lt;simp;omega))
          have x1:w2.cell? ⟨wr.heap.size,1,none⟩=some (.slice A1 xs[d].ctors.length cap1):=(k3.cell 1).trans (by simp)
          have hx1:=k3.lt
          clear k2 k3
          have hBa:Below w.heap.size w (wr.alloc (.cells #[.string xs[d].name,.slice A1 xs[d].ctors.length cap1] 57)):=hB.alloc hB.size _
          have hB3:=hBa.grown hg2 hBa.size (fun _ h=>by cases h;omega)
          have HM3:Hid (OwnsNames w2 w.heap.size (ctorNames (xs.take d) ++ (xs[d].ctors.take 0).map Kt.name)):=by
           rw [List.take_zero,List.map_nil,List.append_nil]
           exact (HM.out.alloc _).kept hg2 (by simp)
          have HD3:Hid (OwnsNames w2 (w.heap.size+1) ((xs.take (d+1)).map Dt.name)):=by
           rw [take_snoc' xs d hlt,List.map_append];exact hm2
          have hz3:w.heap.size+1<w2.heap.size:=by have:=hg2.size;simp at this;omega
          clear hm2 hg2 hBa HD HM hz
          go_wp2_with fail
          refine (zA9 (xs[d].ctors.length:Int) 1 4 _).mono ?_
          rintro e w2' ⟨rfl,rfl⟩
          rw [HE4.out]
          go_wp2
          clear x1 hx1 hrun2 hlk t1 t2 t3 t4 c0 c1
          obtain ⟨wo,hwo⟩:∃ wo:World,wo=w2:=⟨_,rfl⟩
          go_loopw [60] (fun jv ws=>∃ k:Nat,k≤xs[d].ctors.length∧jv=.int .i64 k∧Hid (KInvI xs d hlt k)∧Below w.heap.size w ws∧Hid (OwnsNames ws (w.heap.size+1) ((xs.take (d+1)).map Dt.name))∧Hid (OwnsNames ws w.heap.size (ctorNames (xs.take d) ++ (xs[d].ctors.take k).map Kt.name))∧w.heap.size+1<ws.heap.size) (fun jv _=>xs[d].ctors.length-(intOf jv).toNat)
          case atStart=>exact ⟨0,Nat.zero_le _,rfl,HK0,hB3,HD3,HM3,hz3⟩
          case round =>
           clear hwo hz3 hB3 hB
           obtain ⟨k,hk,rfl,HKI,hB,HD,HM,hz⟩:=hrel
           by_cases hkl:k<xs[d].ctors.length
           ·obtain ⟨b2,off2,rfl⟩:=HK.out.ptr (by omega)
            obtain ⟨A3,cap3,G3,hb3,k0,k1,k2,HC,HG3,hs3,-,-⟩:=ArrKt.rep HK.out HG.out hB k hkl
            have g3:(0:Int)≤(k:Int):=by omega
            have g4:(k:Int)<(xs[d].ctors.length:Int):=by omega
            have HS3:=jj hs3
            clear hs3
            go_wp2_with fail
            obtain ⟨W4,hW4⟩:∃ W4,W4=wr.alloc (.cells #[.string xs[d].ctors[k].name,.slice A3 xs[d].ctors[k].args.length cap3,.int .i64 xs[d].ctors[k].idx] 74):=⟨_,rfl⟩
            have hb4:Below wr.heap.size wr W4:=by rw [hW4];exact (zy2 _ _).alloc (zz8 _) _
            have k4:Blk W4 wr.heap.size 74 #[.string xs[d].ctors[k].name,.slice A3 xs[d].ctors[k].args.length cap3,.int .i64 xs[d].ctors[k].idx]:=by rw [hW4];exact Blk.new _ _ _
            rw [←hW4]
            clear hW4
            have hB4:=hB.trans (hb4.mono hB.size)
            refine (impl_ctorOk _ xs.length cap xs[d].ctors[k] W4 _ _ HN.out (HC.out.below hB4 HG3.out) (HG3.out.mono hB4.size)).mono ?_
            rintro e w5 ⟨rfl,hb5⟩
            have hB5:=hB4.trans (hb5.mono hB4.size)
            have k5:=k4.same (hb5.block _ k4.lt)
            have x0:w5.cell? ⟨wr.heap.size,0,none⟩=some (.string xs[d].ctors[k].name):=(k5.cell 0).trans (by simp)
            have hx0:=k5.lt
            clear k4 k5 k0 k1 k2
            have HD5:=jj ((HD.out.below hb4).below hb5)
            have HM5:=jj ((HM.out.below hb4).below hb5)
            have hlk:=HM5.out.look xs[d].ctors[k].name (by unfold maxLen;exact HS3.out)
            cases e2:ctorOkB xs.length xs[d].ctors[k] with
            |false =>
             have hf:=jj (HKI.out.bad1 hkl e2)
             clear e2 hlk
             go_wp2
             go_ret
             exact ⟨zA0 hf.out.symm,hB5⟩
            |true =>
             cases e3:nameIn (ctorNames (xs.take d) ++ (xs[d].ctors.take k).map Kt.name) xs[d].ctors[k].name with
             |true =>
              have hf:=jj (HKI.out.bad2 hkl e3)
              rw [e3] at hlk
              clear e2 e3
              go_wp2
              go_ret
              exact ⟨zA0 hf.out.symm,hB5⟩
             |false =>
              have HK3:=jj (HKI.out.next hkl e2 e3)
              rw [e3] at hlk
              clear e2 e3
              obtain ⟨w6,hrun6,hm6,hg6⟩:=HM5.out.add (by
               have h1:=ctorNames_len (xs.take d) (fun x hx=>H4.out x hx)
               have h2:(xs.take d).length≤4:=by rw [List.length_take];omega
               have h3:=H5.out
               simp only [List.length_append,List.length_map,List.length_take]
               omega) xs[d].ctors[k].name (by unfold maxLen;exact HS3.out)
              have hB6:=hB5.grown hg6 hB5.size (fun _ h=>by cases h;exact zz8 _)
              have HD6:=jj (HD5.out.kept hg6 (by simp))
              have HM6:Hid (OwnsNames w6 w.heap.size (ctorNames (xs.take d) ++ (xs[d].ctors.take (k+1)).map Kt.name)):=by
               rw [take_snoc' _ k hkl,List.map_append,←List.append_assoc];exact hm6
              have hz6:w.heap.size+1<w6.heap.size:=zz9 hz (Nat.le_trans hb4.size (Nat.le_trans hb5.size hg6.size))
              clear hm6 hg6 hb5 hb4 HD5 HM5 hB4 hB5 hB
              go_wp2
              go_roundw
              case rel=>exact ⟨k+1,by omega,by go_num,HK3,hB6,HD6,HM6,hz6⟩
              case measure=>(simp [intOf] <;> omega)
           ·have HW2:=jj (HKI.out.done (by omega))
            have HM6:Hid (OwnsNames wr w.heap.size (ctorNames (xs.take (d+1)))):=by
             have h:=HM.out
             rw [List.take_of_length_le (show xs[d].ctors.length≤k by omega),←ctorNames_snoc,←take_snoc' xs d hlt] at h
             exact h
            have H6:Hid (∀ x∈xs.take (d+1),x.ctors.length≤4):=fun x hx=>by
             rw [take_snoc' xs d hlt] at hx
             rcases List.mem_append.1 hx with h | h
             ·exact H4.out x h
             ·rw [List.mem_singleton.1 h];exact H5.out
            go_wp2
            go_roundw
            case rel=>exact ⟨d+1,by omega,by go_num,HW2,hB,HD,HM6,H6,hz⟩
            case measure=>(simp [intOf] <;> omega)
    ·have t1:((xs[d].name.size:Int) != 1)=true:=by simp;omega
     have hf:=jj (HW.out.bad1 hlt (dname_not h1))
     clear h1 hlk
     go_wp2
     go_ret
     exact ⟨zA0 hf.out.symm,hB.alloc hB.size _⟩
   ·have hf:=jj (HW.out.done (by omega))
    go_wp2
    go_ret
    exact ⟨zA0 hf.out.symm,hB⟩
 ·have hf:=jj (worldOk_long h4)
  go_enter Try.func51,Try.ntmps51
  go_wp2
  go_ret
  exact ⟨zA0 hf.out.symm,zy2 _ _⟩
theorem impl_typeOk (A:Option Addr) (n cap:Nat) (t:Ty) (w:World) (hn:n≤9223372036854775807):Calls Try.prog 52 #[.slice A n cap,.agg #[.int .i64 t.d,.int .i64 t.i]] w fun e w'=>e=.returned (.bool (typeOkB n t))∧Below w.heap.size w w':=by
 cases h0:(t.d == -1) with
 |true =>
  cases h1:(t.i==0) with
  |true =>
   have hf:Hid (typeOkB n t=true):=by unfold Hid typeOkB;rw [if_pos (by simpa using h0),h1]
   go_enter Try.func52,Try.ntmps52
   go_wp2
   go_ret
   exact ⟨zA0 hf.out.symm,(zy2 _ _).alloc (zz8 _) _⟩
  |false =>
   have hf:Hid (typeOkB n t=false):=by unfold Hid typeOkB;rw [if_pos (by simpa using h0),h1]
   have hw:Hid (withinB t.d 0 ((n:Int)-1)=false):=by
    have:t.d = -1:=by simpa using h0
    exact withinB_lo (by rw [this];rfl)
   go_enter Try.func52,Try.ntmps52
   go_wp2_with fail
   refine (zA9 t.d 0 ((n:Int)-1) _).mono ?_
   rintro e w' ⟨rfl,rfl⟩
   rw [hw.out]
   go_wp2
   go_ret
   exact ⟨zA0 hf.out.symm,(zy2 _ _).alloc (zz8 _) _⟩
 |false =>
  have hf0:typeOkB n t=(withinB t.d 0 ((n:Int)-1) && withinB t.i 0 3):=by unfold typeOkB;rw [if_neg (by simpa using h0)]
  cases hw:withinB t.d 0 ((n:Int)-1) with
  |false =>
   have hf:Hid (typeOkB n t=false):=by rw [hf0,hw];rfl
   have HW:=jj hw
   clear hf0 hw
   go_enter Try.func52,Try.ntmps52
   go_wp2_with fail
   refine (zA9 t.d 0 ((n:Int)-1) _).mono ?_
   rintro e w' ⟨rfl,rfl⟩
   rw [HW.out]
   go_wp2
   go_ret
   exact ⟨zA0 hf.out.symm,(zy2 _ _).alloc (zz8 _) _⟩
  |true =>
   have hf:Hid (typeOkB n t=withinB t.i 0 3):=by rw [hf0,hw];rfl
   have HW:=jj hw
   clear hf0 hw
   go_enter Try.func52,Try.ntmps52
   go_wp2_with fail
   refine (zA9 t.d 0 ((n:Int)-1) _).mono ?_
   rintro e w' ⟨rfl,rfl⟩
   rw [HW.out]
   go_wp2_with fail
   refine (zA9 t.i 0 3 _).mono ?_
   rintro e w' ⟨rfl,rfl⟩
   generalize hbb:withinB t.i 0 3=bb
   have HBB:=jj hbb
   clear hbb
   go_wp2
   go_ret
   exact ⟨zA0 (hf.out.trans HBB.out).symm,(zy2 _ _).alloc (zz8 _) _⟩
theorem spec_l1Is (A:Option Addr) (n cap:Nat) (t:Ty) (w:World):Calls Try.prog 46 #[.slice A n cap,.agg #[.int .i64 t.d,.int .i64 t.i]] w fun e w'=>e=.returned (.bool (typeOkB n t))∧Below w.heap.size w w':=by
 have h0:=typeOkB_arg n t
 go_enter Try.func46,Try.ntmps46
 go_wp2_with fail
 obtain ⟨W2,hW2⟩:∃ W2,W2=w.alloc (.cells #[.int .i64 t.d,.int .i64 t.i] 35):=⟨_,rfl⟩
 have hB2:Below w.heap.size w W2:=by rw [hW2];exact (zy2 _ _).alloc (zz8 _) _
 have k1:Blk W2 w.heap.size 35 #[.int .i64 t.d,.int .i64 t.i]:=by rw [hW2];exact Blk.new _ _ _
 rw [←hW2]
 clear hW2
 refine (spec_l1Arg n t W2).mono ?_
 rintro e w' ⟨rfl,hB'⟩
 have hB3:=hB2.trans (hB'.mono hB2.size)
 have k2:=k1.same (hB'.block _ k1.lt)
 have x1:w'.cell? ⟨w.heap.size,1,none⟩=some (.int .i64 t.i):=(k2.cell 1).trans (by simp)
 have hlt:=k2.lt
 clear k1 k2
 cases h1:argOkB n t with
 |false =>
  rw [h1] at h0
  have hf:=jj h0
  clear h0 h1
  go_wp2
  go_ret
  exact ⟨zA0 hf.out,hB3⟩
 |true =>
  rw [h1,Bool.true_and] at h0
  have hf:=jj h0
  clear h0 h1
  go_wp2
  go_ret
  exact ⟨zA0 hf.out,hB3⟩
theorem spec_TypeValid (xs:List Dt) (t:Ty) (w:World) (v:Value) (F:List Nat) (hx:Arr w (DtR w) xs v F) (hf:Under w.heap.size F) :
  Calls Try.prog 33 #[v,.agg #[.int .i64 t.d,.int .i64 t.i]] w fun e w'=>e=.returned (.bool (typeValidB xs t))∧Below w.heap.size w w':=by
 obtain ⟨A,cap,rfl,hc1,hc2⟩:=hx.form
 have hn:xs.length≤9223372036854775807:=by omega
 have HX:=jj hx
 have HF:=jj hf
 have HN:=jj hn
 clear hx hf hn
 go_enter Try.func33,Try.ntmps33
 go_wp2_with fail
 obtain ⟨W2,hW2⟩:∃ W2,W2=w.alloc (.cells #[.int .i64 t.d,.int .i64 t.i] 35):=⟨_,rfl⟩
 have hB2:Below w.heap.size w W2:=by rw [hW2];exact (zy2 _ _).alloc (zz8 _) _
 have k1:Blk W2 w.heap.size 35 #[.int .i64 t.d,.int .i64 t.i]:=by rw [hW2];exact Blk.new _ _ _
 rw [←hW2]
 clear hW2
 refine (spec_WorldValid xs W2 _ F (ArrDt.below HX.out hB2 HF.out) (HF.out.mono hB2.size)).mono ?_
 rintro e w' ⟨rfl,hB'⟩
 have hB3:=hB2.trans (hB'.mono hB2.size)
 have k2:=k1.same (hB'.block _ k1.lt)
 have x0:w'.cell? ⟨w.heap.size,0,none⟩=some (.int .i64 t.d):=(k2.cell 0).trans (by simp)
 have x1:w'.cell? ⟨w.heap.size,1,none⟩=some (.int .i64 t.i):=(k2.cell 1).trans (by simp)
 have hlt:=k2.lt
 clear k1 k2
 cases h1:worldOk xs with
 |false =>
  have hf:Hid (typeValidB xs t=false):=by unfold Hid typeValidB;rw [h1];rfl
  clear h1
  go_wp2
  go_ret
  exact ⟨zA0 hf.out.symm,hB3⟩
 |true =>
  have hf:Hid (typeValidB xs t=typeOkB xs.length t):=by unfold Hid typeValidB;rw [h1];rfl
  clear h1
  go_wp2_with fail
  refine (spec_l1Is _ xs.length cap t w').mono ?_
  rintro e w2 ⟨rfl,hB''⟩
  have hB4:=hB3.trans (hB''.mono hB3.size)
  generalize hbb:typeOkB (xs.length:Int) t=bb
  have HBB:=jj hbb
  clear hbb
  go_wp2
  go_ret
  exact ⟨zA0 (hf.out.trans HBB.out).symm,hB4⟩
theorem impl_TypeValid (xs:List Dt) (t:Ty) (w:World) (v:Value) (F:List Nat) (hx:Arr w (DtR w) xs v F) (hf:Under w.heap.size F) :
  Calls Try.prog 38 #[v,.agg #[.int .i64 t.d,.int .i64 t.i]] w fun e w'=>e=.returned (.bool (typeValidB xs t))∧Below w.heap.size w w':=by
 obtain ⟨A,cap,rfl,hc1,hc2⟩:=hx.form
 have hn:xs.length≤9223372036854775807:=by omega
 have HX:=jj hx
 have HF:=jj hf
 have HN:=jj hn
 clear hx hf hn
 go_enter Try.func38,Try.ntmps38
 go_wp2_with fail
 obtain ⟨W2,hW2⟩:∃ W2,W2=w.alloc (.cells #[.int .i64 t.d,.int .i64 t.i] 35):=⟨_,rfl⟩
 have hB2:Below w.heap.size w W2:=by rw [hW2];exact (zy2 _ _).alloc (zz8 _) _
 have k1:Blk W2 w.heap.size 35 #[.int .i64 t.d,.int .i64 t.i]:=by rw [hW2];exact Blk.new _ _ _
 rw [←hW2]
 clear hW2
 refine (impl_WorldValid xs W2 _ F (ArrDt.below HX.out hB2 HF.out) (HF.out.mono hB2.size)).mono ?_
 rintro e w' ⟨rfl,hB'⟩
 have hB3:=hB2.trans (hB'.mono hB2.size)
 have k2:=k1.same (hB'.block _ k1.lt)
 have x0:w'.cell? ⟨w.heap.size,0,none⟩=some (.int .i64 t.d):=(k2.cell 0).trans (by simp)
 have x1:w'.cell? ⟨w.heap.size,1,none⟩=some (.int .i64 t.i):=(k2.cell 1).trans (by simp)
 have hlt:=k2.lt
 clear k1 k2
 cases h1:worldOk xs with
 |false =>
  have hf:Hid (typeValidB xs t=false):=by unfold Hid typeValidB;rw [h1];rfl
  clear h1
  go_wp2
  go_ret
  exact ⟨zA0 hf.out.symm,hB3⟩
 |true =>
  have hf:Hid (typeValidB xs t=typeOkB xs.length t):=by unfold Hid typeValidB;rw [h1];rfl
  clear h1
  go_wp2_with fail
  refine (impl_typeOk _ xs.length cap t w' HN.out).mono ?_
  rintro e w2 ⟨rfl,hB''⟩
  have hB4:=hB3.trans (hB''.mono hB3.size)
  generalize hbb:typeOkB (xs.length:Int) t=bb
  have HBB:=jj hbb
  clear hbb
  go_wp2
  go_ret
  exact ⟨zA0 (hf.out.trans HBB.out).symm,hB4⟩
def ctorsOfL (xs:List Dt) (t:Ty):List Int:=if typeValidB xs t=true then ctorsL xs t else []
theorem spec_l1Fits (c:Kt) (i:Int) (A:Option Addr) (n cap:Nat) (w:World):Calls Try.prog 83 #[.agg #[.string c.name,.slice A n cap,.int .i64 c.idx],.int .i64 i] w fun e w'=>e=.returned (.bool (fitsB c i))∧Below w.heap.size w w':=by
 cases q1:(c.idx==0) with
 |true =>
  have hf:Hid (fitsB c i=true):=by unfold Hid fitsB;rw [q1,Bool.true_or]
  go_enter Try.func83,Try.ntmps83
  go_wp2
  go_ret
  exact ⟨zA0 hf.out.symm,(zy2 _ _).alloc (zz8 _) _⟩
 |false =>
  cases q0:(i==0) with
  |true =>
   have hf:Hid (fitsB c i=true):=by unfold Hid fitsB;rw [q0,Bool.true_or,Bool.or_true]
   go_enter Try.func83,Try.ntmps83
   go_wp2
   go_ret
   exact ⟨zA0 hf.out.symm,(zy2 _ _).alloc (zz8 _) _⟩
  |false =>
   have hf:Hid (fitsB c i=(c.idx==i)):=by unfold Hid fitsB;rw [q0,q1,Bool.false_or,Bool.false_or]
   go_enter Try.func83,Try.ntmps83
   go_wp2
   go_ret
   exact ⟨zA0 hf.out.symm,(zy2 _ _).alloc (zz8 _) _⟩
theorem spec_l1Ctors (xs:List Dt) (t:Ty) (w:World) (v:Value) (F:List Nat) (hx:Arr w (DtR w) xs v F) (hf:Under w.heap.size F) (hw:WorldOK xs) (ht:InWorld xs.length t) :
  Calls Try.prog 73 #[v,.agg #[.int .i64 t.d,.int .i64 t.i]] w (MadeNats w (ctorsL xs t)):=by
 obtain ⟨A,cap,rfl,hc1,hc2⟩:=hx.form
 have HX:=jj hx
 have HF:=jj hf
 clear hx hf
 rcases ht with hd | ⟨d,hd,hdl⟩
 ·have hf:=jj (ctorsL_int (xs:=xs) hd)
  have t0:(t.d == -1)=true:=by simp [hd]
  clear hd
  go_enter Try.func73,Try.ntmps73
  go_wp2
  go_ret
  rw [hf.out]
  exact ⟨_,[],rfl,((zy2 _ _).alloc (zz8 _) _).alloc (by simp) _,⟨_,_,rfl,by simp,by simp [maxLen],.inl ⟨rfl,rfl⟩⟩,Free.nil _,Fresh.nil _ _⟩
 ·obtain ⟨t1,t2⟩:=t
  simp only at hd
  subst hd
  have hf:=jj (ctorsL_data (i:=t2) hdl)
  have t0:((d:Int) == -1)=false:=by rw [beq_eq_false_iff_ne];omega
  obtain ⟨i0,hi,hz0,hz1,hz2⟩:=info_parts info_int
  have HI:=jj hi
  have HZ0:=jj hz0
  have HZ1:=jj hz1
  have HZ2:=jj hz2
  clear hi hz0 hz1 hz2
  obtain ⟨b,off,rfl⟩:=HX.out.ptr (by omega)
  have hB0:Below w.heap.size w ((w.alloc (.cells #[.int .i64 (d:Int),.int .i64 t2] 35)).alloc (.cells #[] 3)):=((zy2 _ _).alloc (zz8 _) _).alloc (by simp) _
  have KT0:Hid (Blk ((w.alloc (.cells #[.int .i64 (d:Int),.int .i64 t2] 35)).alloc (.cells #[] 3)) w.heap.size 35 #[.int .i64 (d:Int),.int .i64 t2]):=(Blk.new _ _ _).same (Below.heap_alloc _ _ _ (by simp))
  have HO0:Hid (Own ((w.alloc (.cells #[.int .i64 (d:Int),.int .i64 t2] 35)).alloc (.cells #[] 3)) (w.heap.size+1) 3 1 NatR ([]:List Int) (.slice (some ⟨w.heap.size+1,0,none⟩) 0 0) []):=by
   have h:=Own.made (w.alloc (.cells #[.int .i64 (d:Int),.int .i64 t2] 35)) (w.heap.size+1) 3 1 NatR #[] 0 (by simp) (by simp [maxLen]) rfl
   rwa [World.size_alloc] at h
  have g1:(0:Int)≤(d:Int):=by omega
  have g2:(d:Int)<(xs.length:Int):=by omega
  have HL:=jj (hw.at hdl).hi
  go_enter Try.func73,Try.ntmps73
  go_wp2
  go_loopw [5,6] (fun ov iv wr=>∃ k:Nat,k≤xs[d].ctors.length∧iv=.int .i64 k∧Hid (Own wr (w.heap.size+1) 3 1 NatR (fitTo xs[d].ctors t2 k) ov [])∧Below w.heap.size w wr∧Hid (Blk wr w.heap.size 35 #[.int .i64 (d:Int),.int .i64 t2])) (fun _ iv _=>xs[d].ctors.length-(intOf iv).toNat)
  case atStart=>exact ⟨0,Nat.zero_le _,rfl,HO0,hB0,KT0⟩
  case round =>
   clear hB0 KT0 HO0
   obtain ⟨k,hk,rfl,HO,hB,KT⟩:=hrel
   obtain ⟨A1,cap1,G1,hb,c0,c1,HK,HG,hs,hn1,hn2⟩:=ArrDt.at HX.out HF.out hB d hdl
   clear c0 hs
   have y0:wr.cell? ⟨w.heap.size,0,none⟩=some (.int .i64 (d:Int)):=(KT.out.cell 0).trans (by simp)
   have y1:wr.cell? ⟨w.heap.size,1,none⟩=some (.int .i64 t2):=(KT.out.cell 1).trans (by simp)
   have hy1:=KT.out.lt
   by_cases hkl:k<xs[d].ctors.length
   ·obtain ⟨b2,off2,rfl⟩:=HK.out.ptr (by omega)
    obtain ⟨A3,cap3,G3,hb3,k0,k1,k2,HC,HG3,-,-,-⟩:=ArrKt.rep HK.out HG.out hB k hkl
    have g3:(0:Int)≤(k:Int):=by omega
    have g4:(k:Int)<(xs[d].ctors.length:Int):=by omega
    go_wp2_with fail
    have hkeep:∀ U U':World,(U.cell? ⟨w.heap.size,0,none⟩=some (.int .i64 (d:Int))∧U.cell? ⟨w.heap.size,1,none⟩=some (.int .i64 t2)∧U.cell? ⟨b,off+d*2+1,none⟩=some (.slice (some ⟨b2,off2,none⟩) xs[d].ctors.length cap1)∧U.cell? ⟨b2,off2+k*3,none⟩=some (.string xs[d].ctors[k].name)∧U.cell? ⟨b2,off2+k*3+1,none⟩=some (.slice A3 xs[d].ctors[k].args.length cap3)∧U.cell? ⟨b2,off2+k*3+2,none⟩=some (.int .i64 xs[d].ctors[k].idx))→Below U.heap.size U U'→wr.heap.size≤U.heap.size→(U'.cell? ⟨w.heap.size,0,none⟩=some (.int .i64 (d:Int))∧U'.cell? ⟨w.heap.size,1,none⟩=some (.int .i64 t2)∧U'.cell? ⟨b,off+d*2+1,none⟩=some (.slice (some ⟨b2,off2,none⟩) xs[d].ctors.length cap1)∧U'.cell? ⟨b2,off2+k*3,none⟩=some (.string xs[d].ctors[k].name)∧U'.cell? ⟨b2,off2+k*3+1,none⟩=some (.slice A3 xs[d].ctors[k].args.length cap3)∧U'.cell? ⟨b2,off2+k*3+2,none⟩=some (.int .i64 xs[d].ctors[k].idx)):=fun U U' h hUU hU=>⟨(hUU.cell (zz9 (KT.out.lt) hU)).trans h.1,(hUU.cell (zz9 (KT.out.lt) hU)).trans h.2.1,(hUU.cell (zz9 (hb) hU)).trans h.2.2.1,(hUU.cell (zz9 (hb3) hU)).trans h.2.2.2.1,(hUU.cell (zz9 (hb3) hU)).trans h.2.2.2.2.1,(hUU.cell (zz9 (hb3) hU)).trans h.2.2.2.2.2⟩
    have HKeep:=jj hkeep
    clear hkeep
    go_region_held3 (fun w'=>w'.cell? ⟨w.heap.size,0,none⟩=some (.int .i64 (d:Int))∧w'.cell? ⟨w.heap.size,1,none⟩=some (.int .i64 t2)∧w'.cell? ⟨b,off+d*2+1,none⟩=some (.slice (some ⟨b2,off2,none⟩) xs[d].ctors.length cap1)∧w'.cell? ⟨b2,off2+k*3,none⟩=some (.string xs[d].ctors[k].name)∧w'.cell? ⟨b2,off2+k*3+1,none⟩=some (.slice A3 xs[d].ctors[k].args.length cap3)∧w'.cell? ⟨b2,off2+k*3+2,none⟩=some (.int .i64 xs[d].ctors[k].idx)) (first | assumption | (exact ⟨y0,y1,c1,k0,k1,k2⟩) | (exact HKeep.out wr.drew w' ⟨y0,y1,c1,k0,k1,k2⟩ hB' (zz8 _))) (first | (go_at_call 83;((with_reducible refine (spec_l1Fits xs[d].ctors[k] t2 _ _ _ _).mono ?_);rintro e w' ⟨rfl,hB'⟩)))
    have hB1:=hB.drew.trans (hB'.mono hB.size)
    have HO1:Hid (Own w' (w.heap.size+1) 3 1 NatR (fitTo xs[d].ctors t2 k) u5 []):=Own.below (fun x cs G hk h=>NatR_mono _ _ x cs G hk h) (w:=wr) HO.out (zAA hB')
    have KT1:Hid (Blk w' w.heap.size 35 #[.int .i64 (d:Int),.int .i64 t2]):=KT.out.same (hB'.block _ KT.out.lt)
    have hsz1:wr.heap.size≤w'.heap.size:=hB'.size
    have hz1':w.heap.size+1≤wr.heap.size:=KT.out.lt
    clear HKeep
    cases e1:fitsB xs[d].ctors[k] t2 with
    |false =>
     have HF2:=jj (fitTo_no hkl e1)
     clear e1
     go_wp2
     go_roundw
     case rel=>exact ⟨k+1,by omega,by go_num,(by rw [HF2.out];exact HO1.out),hB1,KT1⟩
     case measure=>(simp [intOf] <;> omega)
    |true =>
     have HF2:=jj (fitTo_yes hkl e1)
     clear e1
     have hlen:=fitTo_len xs[d].ctors t2 k
     go_wp2_with (at_builtin;refine Halt.mk ?_)
     refine Halt.of (zA2 (P:=Try.prog) rfl _ _ 107 rfl i0 _ 8 Try.underlying107 HI.out HZ0.out HZ1.out HZ2.out rfl Nat.zero_lt_one NatR_len NatR_mono (by rfl) HO1.out (k:Int) 3 [.int .i64 (k:Int)] [] _ (by rfl) (by simp) (by simp [Value.oneCell']) ⟨rfl,rfl⟩ (Under.nil _) (fun _ _ h=>by cases h) (by have:=HL.out;unfold maxLen;omega) (by have:=HL.out;omega) (Nat.le_trans hz1' hsz1) ?_)
     intro g cp w3 hown3 hgr3 hat3
     have hrow:=HO1.out.row
     have hB3:Below w.heap.size w w3:=(hB1.alloc hB1.size _).grown hgr3 (by have:=hB1.size;simp;omega) (fun g hg=>by have:=hrow g (zA1.2 hg);omega)
     have HO3:=jj hown3
     have KT3:Hid (Blk w3 w.heap.size 35 #[.int .i64 (d:Int),.int .i64 t2]):=(KT1.out.same (Below.heap_alloc _ _ _ KT1.out.lt)).same (hgr3.block _ (by have:=KT1.out.lt;simp;omega) (fun e=>by have:=hrow _ (zA1.2 e.symm);omega))
     have hsz3:=hgr3.size
     clear hown3 hgr3 hat3 hrow hlen
     go_wp2
     go_roundw
     case rel=>exact ⟨k+1,by omega,by go_num,(by rw [HF2.out];exact HO3.out),hB3,KT3⟩
     case measure=>(simp [intOf] <;> omega)
   ·have hfin:MadeNats w (ctorsL xs ⟨(d:Int),t2⟩) (.returned u5) wr:=by
     rw [hf.out]
     have h:=HO.out
     rw [show k=xs[d].ctors.length by omega] at h
     exact h.nats hB (by omega)
    have HFin:=jj hfin
    clear hfin
    go_wp2
    go_ret
    exact HFin.out
theorem ArrNat.at {w0 w:World} {b off n cap:Nat} {F:List Nat} {xs:List Int} (h:Arr w0 (NatR w0) xs (.slice (some ⟨b,off,none⟩) n cap) F) (hF:Under w0.heap.size F) (hB:Below w0.heap.size w0 w) (i:Nat) (hi:i<xs.length) :
  b<w.heap.size∧w.cell? ⟨b,off+i,none⟩=some (.int .i64 xs[i]):=by
 obtain ⟨b',off',cs,G,e,hb,hcs,hv,hG⟩:=h.get (NatR_len _) hi
 cases e
 have hbl:=hF _ hb
 have hc:=hcs.same (hB.block _ hbl)
 obtain ⟨rfl,-⟩:=hv
 have:=hc 0 _ rfl
 rw [Nat.mul_one] at this
 exact ⟨zz9 hbl hB.size,this⟩
def hasB (xs:List Int) (n:Int):Bool:=xs.any fun x=>n==x
theorem hasB_iff (xs:List Int) (n:Int):hasB xs n=true↔n∈xs:=by
 unfold hasB
 rw [List.any_eq_true]
 exact ⟨fun ⟨x,h,e⟩=>by rw [beq_iff_eq] at e;rw [e];exact h,fun h=>⟨n,h,by simp⟩⟩
theorem Index_int (xs:List Int) (n r:Int) (hr:FirstAt (fun x=>n==x) xs r) (w:World) (x:Value) (F:List Nat) (hx:Arr w (NatR w) xs x F) (hf:Under w.heap.size F) :
  Calls Try.prog 94 #[x,.int .i64 n] w fun e w'=>e=.returned (.int .i64 r)∧Below w.heap.size w w':=by
 obtain ⟨A,cap,rfl,hc1,hc2⟩:=hx.form
 have HX:=jj hx
 have HF:=jj hf
 have HR:=jj hr
 clear hx hf hr
 go_enter Try.func94,Try.ntmps94
 go_wp2
 go_loopw [8] (fun i wr=>∃ k:Nat,k≤xs.length∧i=.int .i64 k∧Hid (∀ j (hj:j<xs.length),j<k→(n==xs[j])=false)∧Below w.heap.size w wr) (fun i _=>xs.length-(intOf i).toNat)
 case atStart=>exact ⟨0,Nat.zero_le _,rfl,fun j hj h=>by omega,zy2 _ _⟩
 case round =>
  obtain ⟨k,hk,rfl,HT,hB⟩:=hrel
  by_cases hlt:k<xs.length
  ·have g1:(0:Int)≤(k:Int):=by omega
   have g2:(k:Int)<(xs.length:Int):=by omega
   obtain ⟨b,off,rfl⟩:=HX.out.ptr (by omega)
   obtain ⟨hb,c0⟩:=ArrNat.at HX.out HF.out hB k hlt
   cases hq:(n==xs[k]) with
   |true =>
    have hf:=jj (HR.out.hit hlt hq (fun j hj h=>HT.out j hj h))
    go_wp2
    go_ret
    exact ⟨zA6 hf.out.symm,hB⟩
   |false =>
    have hT2:Hid (∀ j (hj:j<xs.length),j<k+1→(n==xs[j])=false):=fun j hj h=>by
     rcases Nat.lt_or_ge j k with h2 | h2
     ·exact HT.out j hj h2
     ·obtain rfl:j=k:=by omega
      exact hq
    go_wp2
    go_roundw
    case rel=>exact ⟨k+1,by omega,by go_num,hT2,hB⟩
    case measure=>(simp [intOf] <;> omega)
  ·have hf:Hid (r = -1):=HR.out.miss (fun j hj=>HT.out j hj (by omega))
   go_wp2
   go_ret
   exact ⟨zA6 hf.out.symm,hB⟩
theorem impl_has (xs:List Int) (n:Int) (w:World) (x:Value) (F:List Nat) (hx:Arr w (NatR w) xs x F) (hf:Under w.heap.size F) :
  Calls Try.prog 88 #[x,.int .i64 n] w fun e w'=>e=.returned (.bool (hasB xs n))∧Below w.heap.size w w':=by
 obtain ⟨r,hr⟩:=FirstAt.ex (fun x=>n==x) xs
 have hres:Hid (hasB xs n=decide (0≤r)):=hr.any
 have hcall:=Index_int xs n r hr w x F hx hf
 obtain ⟨A,cap,rfl,hc1,hc2⟩:=hx.form
 have HC:=jj hcall
 clear hcall hr hx hf
 go_enter Try.func88,Try.ntmps88
 go_wp2_with fail
 refine HC.out.mono ?_
 rintro e w' ⟨rfl,hB'⟩
 go_wp2
 go_ret
 exact ⟨zA0 hres.out.symm,hB'⟩
theorem any_drop {α:Type} (p:α→Bool) (l:List α) (k:Nat) (h:k<l.length):(l.drop k).any p=(p l[k] || (l.drop (k+1)).any p):=by
 rw [List.drop_eq_getElem_cons h];rfl
theorem spec_l1Has (xs:List Int) (n:Int) (w:World) (x:Value) (F:List Nat) (hx:Arr w (NatR w) xs x F) (hf:Under w.heap.size F) :
  Calls Try.prog 72 #[x,.int .i64 n] w fun e w'=>e=.returned (.bool (hasB xs n))∧Below w.heap.size w w':=by
 obtain ⟨A,cap,rfl,hc1,hc2⟩:=hx.form
 have HX:=jj hx
 have HF:=jj hf
 clear hx hf
 go_enter Try.func72,Try.ntmps72
 go_wp2
 go_loopw [5] (fun i wr=>∃ k:Nat,k≤xs.length∧i=.int .i64 k∧Hid (hasB xs n=(xs.drop k).any fun x=>n==x)∧Below w.heap.size w wr) (fun i _=>xs.length-(intOf i).toNat)
 case atStart=>exact ⟨0,Nat.zero_le _,rfl,(show hasB xs n=hasB xs n from rfl),zy2 _ _⟩
 case round =>
  obtain ⟨k,hk,rfl,HT,hB⟩:=hrel
  by_cases hlt:k<xs.length
  ·have g1:(0:Int)≤(k:Int):=by omega
   have g2:(k:Int)<(xs.length:Int):=by omega
   obtain ⟨b,off,rfl⟩:=HX.out.ptr (by omega)
   obtain ⟨hb,c0⟩:=ArrNat.at HX.out HF.out hB k hlt
   have hd:=HT.out
   rw [any_drop _ xs k hlt] at hd
   cases hq:(xs[k]==n) with
   |true =>
    have hq2:(n==xs[k])=true:=by rw [beq_iff_eq] at hq ⊢;exact hq.symm
    rw [hq2,Bool.true_or] at hd
    have hf:=jj hd
    clear hd hq2
    go_wp2
    go_ret
    exact ⟨zA0 hf.out.symm,hB⟩
   |false =>
    have hq2:(n==xs[k])=false:=by rw [beq_eq_false_iff_ne] at hq ⊢;exact fun e=>hq e.symm
    rw [hq2,Bool.false_or] at hd
    have HT2:=jj hd
    clear hd hq2
    go_wp2
    go_roundw
    case rel=>exact ⟨k+1,by omega,by go_num,HT2,hB⟩
    case measure=>(simp [intOf] <;> omega)
  ·have hd:=HT.out
   rw [List.drop_of_length_le (by omega)] at hd
   have hf:=jj hd
   clear hd
   go_wp2
   go_ret
   exact ⟨zA0 hf.out.symm,hB⟩
def ctorAt (xs:List Dt) (t:Ty) (k:Int):Option Kt:=(ctorsAt xs t.d)[k.toNat]?
def argsOf (xs:List Dt) (t:Ty) (k:Int):List Ty:=match ctorAt xs t k with | some c=>argsL c t.i | none=>[]
def argTypesL (xs:List Dt) (t:Ty) (k:Int):List Ty:=if hasB (ctorsOfL xs t) k=true then argsOf xs t k else []
theorem argsOf_get {xs:List Dt} {d k:Nat} {i:Int} (hd:d<xs.length) (hk:k<xs[d].ctors.length):argsOf xs ⟨(d:Int),i⟩ (k:Int)=argsL xs[d].ctors[k] i:=by
 unfold argsOf ctorAt
 simp only
 rw [ctorsAt_get hd,Int.toNat_natCast,List.getElem?_eq_getElem hk]
theorem mem_fitTo {cs:List Kt} {i:Int} {m:Nat} {n:Int} (h:n∈fitTo cs i m):∃ k:Nat,n=(k:Int)∧k<m:=by
 unfold fitTo at h
 obtain ⟨k,hk,rfl⟩:=List.mem_map.1 h
 have:=(List.mem_filter.1 hk).1
 exact ⟨k,rfl,by simpa using this⟩
theorem mem_ctorsL {xs:List Dt} {t:Ty} {n:Int} (ht:InWorld xs.length t) (h:n∈ctorsL xs t):∃ d k:Nat,t.d=(d:Int)∧n=(k:Int)∧∃ hd:d<xs.length,k<xs[d].ctors.length:=by
 rcases ht with hd | ⟨d,hd,hdl⟩
 ·rw [ctorsL_int hd] at h;cases h
 ·obtain ⟨t1,t2⟩:=t
  simp only at hd
  subst hd
  rw [ctorsL_data hdl] at h
  obtain ⟨k,rfl,hk⟩:=mem_fitTo h
  exact ⟨d,k,rfl,rfl,hdl,hk⟩
def namedB (p:P):Bool:=p.op==2 || p.op==6
def kindB (xs:List Dt) (t:Ty) (p:P):Bool:=if p.op=3 then t.d == -1 && (decide (0≤p.n) && (decide (p.n≤p.m) && decide (p.m≤9))) else if p.op=4 then hasB (ctorsL xs t) p.ct else (p.op==1 || (p.op==2 || (p.op==5 || p.op==6)))
def ownB (xs:List Dt) (t:Ty) (p:P):Bool:=(if namedB p=true then decide (0≤p.va) && decide (p.va≤5) else p.va==0) && ((p.op==3 || (p.n==0 && p.m==0)) && ((p.op==4 || p.ct==0) && kindB xs t p))
def kidsN (op:Int):Nat:=if op=5 then 2 else if op=6 then 1 else 0
def typesP (xs:List Dt) (t:Ty) (p:P):List Ty:=if p.op=4 then argsOf xs t p.ct else List.replicate (kidsN p.op) t
def shapeB (xs:List Dt):Nat→Ty→P→Bool
 |0,_,_=>false
 |d+1,t,p=>ownB xs t p && (p.ks.length==(typesP xs t p).length && ((typesP xs t p).zip p.ks).all fun x=>shapeB xs d x.1 x.2)
def nodesP (p:P):Nat:=p.size+1
def kidsV (xs:List Dt) (t:Ty) (p:P):List (Ty×P):=((typesP xs t p).zip p.ks).take (if p.op=5 then 1 else p.ks.length)
def varsN (xs:List Dt):Nat→Ty→P→List Vt
 |0,_,_=>[]
 |d+1,t,p=>(if namedB p=true then [⟨p.va,t⟩] else []) ++ (kidsV xs t p).flatMap fun x=>varsN xs d x.1 x.2
def dupFree (l:List Vt):Bool:=decide ((l.map Vt.var).Nodup)
def alikeB (a b:List Vt):Bool:=(a.all fun v=>match b.find? fun u=>u.var==v.var with | some u=>(u.ty.d==v.ty.d && u.ty.i==v.ty.i) | none=>false) && a.length==b.length
def sameV (a b:List Vt):Bool:=a.length==b.length && a.all fun v=>b.any fun u=>Vt.same u v
def linB (xs:List Dt):Nat→Ty→P→Bool
 |0,_,_=>true
 |d+1,t,p=>(((typesP xs t p).zip p.ks).all fun x=>linB xs d x.1 x.2) && (if p.op=5 then (match p.ks with | [k0,k1]=>alikeB (varsN xs d t k0) (varsN xs d t k1) | _=>true) else dupFree (varsN xs (d+1) t p))
def patOkB (xs:List Dt) (t:Ty) (p:P):Bool:=shapeB xs 10 t p && (decide (nodesP p≤60) && linB xs 10 t p)
theorem typesP_or {xs:List Dt} {t:Ty} {p:P} (h:p.op=5):typesP xs t p=[t,t]:=by
 unfold typesP kidsN
 rw [if_neg (by omega),if_pos h];rfl
theorem kids_two {α:Type} {l:List α} (h:l.length=2):∃ a b,l=[a,b]:=by
 match l,h with
 |[a,b],_=>exact ⟨a,b,rfl⟩
theorem lin_dup (xs:List Dt):∀ (d:Nat) (t:Ty) (p:P),shapeB xs d t p=true→linB xs d t p=true→dupFree (varsN xs d t p)=true
 |0,_,_,h,_=>by simp [shapeB] at h
 |d+1,t,p,hs,hl=>by
  simp only [shapeB,linB,Bool.and_eq_true] at hs hl
  by_cases h5:p.op=5
  ·have hty:=typesP_or (xs:=xs) (t:=t) h5
   obtain ⟨h1,h2,h3⟩:=hs
   rw [hty] at h2 h3
   obtain ⟨k0,k1,hk⟩:=kids_two (by simpa using h2)
   have hv:varsN xs (d+1) t p=varsN xs d t k0:=by
    have e:varsN xs (d+1) t p=(if namedB p=true then [⟨p.va,t⟩] else []) ++ (kidsV xs t p).flatMap fun x=>varsN xs d x.1 x.2:=rfl
    have kv:kidsV xs t p=[(t,k0)]:=by unfold kidsV;rw [hty,hk,h5];rfl
    have nb:namedB p=false:=by unfold namedB;rw [h5];rfl
    rw [e,kv,nb]
    simp
   rw [hv]
   rw [hk] at h3
   have hl1:=hl.1
   rw [hty,hk] at hl1
   simp only [List.zip_cons_cons,List.zip_nil_right,List.all_cons,List.all_nil,Bool.and_true,Bool.and_eq_true] at h3 hl1
   exact lin_dup xs d t k0 h3.1 hl1.1
  ·have hl2:=hl.2
   rwa [if_neg h5] at hl2
theorem find_of_nodup:∀ {b:List Vt} {u:Vt},(b.map Vt.var).Nodup→u∈b→b.find? (fun x=>x.var==u.var)=some u
 |[],_,_,h=>by cases h
 |x :: b,u,hn,h=>by
  rw [List.map_cons,List.nodup_cons] at hn
  rcases List.mem_cons.1 h with rfl | h
  ·simp
  ·have hx:(x.var==u.var)=false:=by
    rw [beq_eq_false_iff_ne]
    intro e
    exact hn.1 (by rw [e];exact List.mem_map_of_mem h)
   rw [List.find?_cons,hx]
   exact find_of_nodup hn.2 h
theorem alike_same {a b:List Vt} (hb:dupFree b=true):alikeB a b=sameV a b:=by
 have hn:(b.map Vt.var).Nodup:=of_decide_eq_true hb
 have key:∀ v:Vt,(match b.find? fun u=>u.var==v.var with | some u=>(u.ty.d==v.ty.d && u.ty.i==v.ty.i) | none=>false)=b.any fun u=>Vt.same u v:=fun v=>by
  rw [Bool.eq_iff_iff,List.any_eq_true]
  constructor
  ·intro h
   split at h
   ·rename_i u hu
    have hm:=List.mem_of_find?_eq_some hu
    have hv:=List.find?_some hu
    exact ⟨u,hm,by
     unfold Vt.same
     rw [hv]
     simpa using h⟩
   ·cases h
  ·rintro ⟨u,hm,hu⟩
   obtain rfl:=(Vt.same_iff u v).1 hu
   rw [find_of_nodup hn hm]
   simp
 unfold alikeB sameV
 rw [Bool.and_comm]
 congr 1
 exact congrArg (fun f=>a.all f) (funext key)
end Go.Proofs.Ytghekinfoadcoaa
