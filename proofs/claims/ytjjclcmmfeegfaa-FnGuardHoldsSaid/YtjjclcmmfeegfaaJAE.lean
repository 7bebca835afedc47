/-
  Lemmas, and contracts of functions. Conditions: none.
-/
import Derived.Test.YtjjclcmmfeegfaaJAD
import Derived.Test.YtjjclcmmfeegfaaJAA
import Derived.Deep.RegionWith
import Derived.Test.YtjjclcmmfeegfaaJAB
import Derived.Deep.RegionHeld3
import Derived.Deep.QuietTactic
import Derived.BigQuiet
import Derived.IntWalk

set_option linter.unusedVariables false
set_option linter.unusedSimpArgs false
set_option maxRecDepth 100000
set_option maxHeartbeats 1600000

namespace Go.Proofs.Ytjjclcmmfeegfaa
open Go.RowKit
def scanPB (xs:List Dt) (d:Nat) (t:Ty) (p:P) (c:Nat):Bool:=shapeB xs d t p && (decide (c+nodesP p≤60) && linB xs d t p)
def nodeB (xs:List Dt) (t:Ty) (p:P):Bool:=ownB xs t p && p.ks.length==(typesP xs t p).length
def kidSum (p:P) (i:Nat):Nat:=(p.ks.take i).foldl (fun n k=>n+nodesP k) 0
theorem foldl_nodes (l:List P) (n:Nat):l.foldl (fun n k=>n+nodesP k) n=n+(l.length+P.subs l):=by
 induction l generalizing n with
 |nil=>simp [P.subs]
 |cons k l ih=>rw [List.foldl_cons,ih];simp only [P.subs,List.length_cons,nodesP];omega
theorem kidSum_succ (p:P) (i:Nat) (h:i<p.ks.length):kidSum p (i+1)=kidSum p i+nodesP p.ks[i]:=by
 unfold kidSum
 rw [take_snoc' p.ks i h,List.foldl_append];rfl
theorem kidSum_all (p:P) {i:Nat} (h:p.ks.length≤i):nodesP p=1+kidSum p i:=by
 unfold kidSum
 rw [List.take_of_length_le h,foldl_nodes]
 obtain ⟨op,ct,n,m,va,ks⟩:=p
 unfold nodesP
 rw [P.size,P.sizes_eq]
 simp only;omega
theorem kidSum_le (p:P) (i:Nat):1+kidSum p i≤nodesP p:=by
 rw [kidSum_all p (zz8 _)]
 unfold kidSum
 rw [foldl_nodes,foldl_nodes]
 have h1:=P.subs_take_le p.ks i
 have h2:(p.ks.take i).length≤p.ks.length:=by rw [List.length_take];omega
 rw [List.take_of_length_le (zz8 _)]
 omega
section
variable {xs : List Dt} {d c i : Nat} {t : Ty} {p : P}
structure KidsOk (xs:List Dt) (d:Nat) (t:Ty) (p:P) (c i:Nat):Prop where
 node:nodeB xs t p=true
 le:i≤p.ks.length
 fit:c+1+kidSum p i≤60
 all:∀ j (h:j<p.ks.length) (h':j<(typesP xs t p).length),j<i→shapeB xs d (typesP xs t p)[j] p.ks[j]=true∧linB xs d (typesP xs t p)[j] p.ks[j]=true
end
theorem ArrP.at {w0 w:World} {b off n cap:Nat} {F:List Nat} {xs:List P} (h:Arr w0 (PR w0) xs (.slice (some ⟨b,off,none⟩) n cap) F) (hF:Under w0 F) (hB:Below w0 w0 w) (i:Nat) (hi:i<xs.length) :
  ∃ A1 cap1 G,b<w.heap.size∧w.cell? ⟨b,off+i*6,none⟩=xs[i].op∧w.cell? ⟨b,off+i*6+1,none⟩=xs[i].ct∧w.cell? ⟨b,off+i*6+2,none⟩=xs[i].n∧w.cell? ⟨b,off+i*6+3,none⟩=xs[i].m∧w.cell? ⟨b,off+i*6+4,none⟩=xs[i].va∧w.cell? ⟨b,off+i*6+5,none⟩=some (.slice A1 xs[i].ks.length cap1) ∧
   Hid (PR w0 xs[i] [xs[i].op,xs[i].ct,xs[i].n,xs[i].m,xs[i].va,.slice A1 xs[i].ks.length cap1] G)∧Hid (Under w0 G)∧(∀ b∈G,b∈F)∧xs[i].ks.length≤cap1∧cap1≤9223372036854775807:=by
 obtain ⟨b',off',cs,G,e,hb,hcs,hv,hG⟩:=h.get PR_len hi
 cases e
 have hbl:=hF _ hb
 have hc:=hcs.same (hB.block _ hbl)
 obtain ⟨kv,rfl,ha⟩:=(zAA _ _ _).1 hv
 obtain ⟨A1,cap1,rfl,h1,h2⟩:=ha.form
 exact ⟨A1,cap1,G,zz9 hbl hB.size,hc 0 _ rfl,hc 1 _ rfl,hc 2 _ rfl,hc 3 _ rfl,hc 4 _ rfl,hc 5 _ rfl,hv,hF.sub hG,hG,h1,h2⟩
theorem zAB (p:P):nodesP p=1+P.sizes p.ks:=by obtain ⟨op,ct,n,m,va,ks⟩:=p;unfold nodesP;rw [P.size];simp only;omega
theorem sizesP_step {l:List P} {i:Nat} (h:i<l.length):P.sizes (l.take (i+1))=P.sizes (l.take i)+nodesP l[i]:=by
 rw [P.sizes_eq,P.sizes_eq,P.subs_take_succ l i h,List.length_take,List.length_take]
 unfold nodesP
 omega
theorem zAH (l:List P) (i:Nat):P.sizes (l.take i)≤P.sizes l:=by
 rw [P.sizes_eq,P.sizes_eq,List.length_take]
 have:=P.subs_take_le l i
 omega
theorem nodesP_mem {l:List P} {i:Nat} (h:i<l.length):nodesP l[i]≤P.sizes l:=by
 have h1:=sizesP_step h
 have h2:=zAH l (i+1)
 omega
theorem P.indv {q:P→Prop} (h:∀ v:P,(∀ k∈v.ks,q k)→q v):∀ v,q v:=P.ind fun op ct n m va ks ih=>h ⟨op,ct,n,m,va,ks⟩ ih
def DrewPN (b p n g:Nat) (top:Int) (G:List Nat) (w:World) (e:Ending) (w':World):Prop:=∃ (a:P) (cs:List Value) (F:List Nat) (q:Nat) (m:Int),e=.returned (.tuple #[.agg cs.toArray,.int .i64 m])∧PR w' a cs F∧(∀ b∈F,b<w'.heap.size∧(b∈G∨w.heap.size≤b))∧nodesP a≤b∧Rd w' g q∧q≤p+n∧Chg [g] w w'∧0≤m∧m≤top
theorem psizes_snoc2 (vs:List P) (v k:P) (s:Nat) (h:P.sizes vs≤2*s) (hv:nodesP v≤2*nodesP k):P.sizes (vs ++ [v])≤2*(s+nodesP k):=by
 rw [P.sizes_eq] at h ⊢
 rw [P.subs_snoc,List.length_append]
 unfold nodesP at hv ⊢
 simp only [List.length_cons,List.length_nil]
 omega
def NameP (a:P):Prop:=∀ (w:World) (p g:Nat) (n:Int) (cs:List Value) (G:List Nat),Rd w g p→p+2*nodesP a≤900000→0≤n→n+2*(nodesP a:Int)≤1000000→PR w a cs G→Under w G→(∀ b∈G,b≠g) →
 Calls Try.prog 90 #[.pointer (some ⟨g,0,none⟩),.agg cs.toArray,.int .i64 n] w (DrewPN (2*nodesP a) p (2*nodesP a) g (n+2*(nodesP a:Int)) G w)
set_option maxHeartbeats 8000000 in
theorem l3Name_top (a:P) (ih:∀ k∈a.ks,NameP k) (w:World) (p g:Nat) (n:Int) (cs:List Value) (G:List Nat) (hr:Rd w g p) (hp:p+2*nodesP a≤900000) (hn0:0≤n) (hn1:n+2*(nodesP a:Int)≤1000000) (hv:PR w a cs G) (hG:Under w G) (hGg:∀ b∈G,b≠g) (h5:decide (n>5)=true) :
  Calls Try.prog 90 #[.pointer (some ⟨g,0,none⟩),.agg cs.toArray,.int .i64 n] w (DrewPN (2*nodesP a) p (2*nodesP a) g (n+2*(nodesP a:Int)) G w):=by
 obtain ⟨kv,rfl,ha⟩:=(zAA _ _ _).1 hv
 obtain ⟨A4,cap4,rfl,hc3,hc4⟩:=ha.form
 have IH:=jj ih
 have hgl:=hr.lt
 have hnp:1≤nodesP a:=by unfold nodesP;omega
 have hka:=kidSum_all a (zz8 a.ks.length)
 have hkl:a.ks.length≤1000000:=by
  have h1:=P.sizes_eq a.ks
  have h2:=zAB a
  omega
 have hB0:Below w w ((w.alloc (.cells #[a.op,a.ct,a.n,a.m,a.va,.slice A4 a.ks.length cap4] 28)).alloc (.cells #[(0:Int),(0:Int),(0:Int),(0:Int),(0:Int),.slice none 0 0] 28)):=((zy2 _ _).alloc (zz8 _) _).alloc (by simp) _
 have KP:Hid (Blk ((w.alloc (.cells #[a.op,a.ct,a.n,a.m,a.va,.slice A4 a.ks.length cap4] 28)).alloc (.cells #[(0:Int),(0:Int),(0:Int),(0:Int),(0:Int),.slice none 0 0] 28)) w.heap.size 28 #[a.op,a.ct,a.n,a.m,a.va,.slice A4 a.ks.length cap4]):=(Blk.new w _ _).same (Below.heap_alloc _ _ _ (by simp))
 have KR:Hid (Blk ((w.alloc (.cells #[a.op,a.ct,a.n,a.m,a.va,.slice A4 a.ks.length cap4] 28)).alloc (.cells #[(0:Int),(0:Int),(0:Int),(0:Int),(0:Int),.slice none 0 0] 28)) (w.heap.size+1) 28 #[(0:Int),(0:Int),(0:Int),(0:Int),(0:Int),.slice none 0 0]):=zA9 w _ 28 _
 have HR:=jj (hr.below hB0)
 have hz2:((w.alloc (.cells #[a.op,a.ct,a.n,a.m,a.va,.slice A4 a.ks.length cap4] 28)).alloc (.cells #[(0:Int),(0:Int),(0:Int),(0:Int),(0:Int),.slice none 0 0] 28)).heap.size=w.heap.size+2:=by simp
 have HC0:Hid (Chg [g] w ((w.alloc (.cells #[a.op,a.ct,a.n,a.m,a.va,.slice A4 a.ks.length cap4] 28)).alloc (.cells #[(0:Int),(0:Int),(0:Int),(0:Int),(0:Int),.slice none 0 0] 28))):=.of_below hB0
 have HV0:=jj (hv.below hB0 hG)
 have HUN:Hid (∀ b∈G,b<((w.alloc (.cells #[a.op,a.ct,a.n,a.m,a.va,.slice A4 a.ks.length cap4] 28)).alloc (.cells #[(0:Int),(0:Int),(0:Int),(0:Int),(0:Int),.slice none 0 0] 28)).heap.size∧(b∈G∨w.heap.size≤b)∧b≠w.heap.size+1):=fun b hb=>⟨by have:=hG b hb;omega,.inl hb,by have:=hG b hb;omega⟩
 have HA:=jj ha
 have HV:=jj hv
 have HRw:=jj hr
 have HG:=jj hG
 have HGg:=jj hGg
 have HG1:Hid (∀ b,g<b→b∉[g]):=fun b hb h=>by rw [zy1] at h;omega
 clear ih hr hv ha hG hGg hB0
 obtain ⟨z0,z1,z2,z3,z4,z5,zlt⟩:=KP.out.c6
 have rc0:=(KR.out.cell 0).trans (show _=some (.int .i64 0) from by simp)
 have rf0:=KR.out.frozen 0
 have rc1:=(KR.out.cell 1).trans (show _=some (.int .i64 0) from by simp)
 have rf1:=KR.out.frozen 1
 have rc2:=(KR.out.cell 2).trans (show _=some (.int .i64 0) from by simp)
 have rf2:=KR.out.frozen 2
 have rc3:=(KR.out.cell 3).trans (show _=some (.int .i64 0) from by simp)
 have rf3:=KR.out.frozen 3
 have rc4:=(KR.out.cell 4).trans (show _=some (.int .i64 0) from by simp)
 have rf4:=KR.out.frozen 4
 have rc5:=(KR.out.cell 5).trans (show _=some (.slice none 0 0) from by simp)
 have rf5:=KR.out.frozen 5
 have rlt:=KR.out.lt
 go_enter Try.func90,Try.ntmps90
 go_wp2
 clear rc0 rf0 rc1 rf1 rc2 rf2 rc3 rf3 rc4 rf4 rc5 rf5 rlt KR HR HC0 HV0 HUN hz2 KP z0 z1 z2 z3 z4 z5 zlt
 have hBe:Below w w ((w.alloc (.cells #[a.op,a.ct,a.n,a.m,a.va,.slice A4 a.ks.length cap4] 28)).alloc (.cells #[a.op,a.ct,a.n,a.m,a.va,.slice A4 a.ks.length cap4] 28)):=((zy2 _ _).alloc (zz8 _) _).alloc (by simp) _
 have KR:Hid (Blk ((w.alloc (.cells #[a.op,a.ct,a.n,a.m,a.va,.slice A4 a.ks.length cap4] 28)).alloc (.cells #[a.op,a.ct,a.n,a.m,a.va,.slice A4 a.ks.length cap4] 28)) (w.heap.size+1) 28 #[a.op,a.ct,a.n,a.m,a.va,.slice A4 a.ks.length cap4]):=zA9 w _ 28 _
 have HV0:=jj (HV.out.below hBe HG.out)
 have HR:=jj (HRw.out.below hBe)
 have hz2:((w.alloc (.cells #[a.op,a.ct,a.n,a.m,a.va,.slice A4 a.ks.length cap4] 28)).alloc (.cells #[a.op,a.ct,a.n,a.m,a.va,.slice A4 a.ks.length cap4] 28)).heap.size=w.heap.size+2:=by simp
 generalize ((w.alloc (.cells #[a.op,a.ct,a.n,a.m,a.va,.slice A4 a.ks.length cap4] 28)).alloc (.cells #[a.op,a.ct,a.n,a.m,a.va,.slice A4 a.ks.length cap4] 28))=w3 at *
 refine bodyPost_ret (zAC rfl _ _ (w.heap.size+1) 28 #[a.op,a.ct,a.n,a.m,a.va,.slice A4 a.ks.length cap4] (0,0) _ rfl KR.out Try.underlying28 rfl rfl) rfl ?_
 exact ⟨a,[a.op,a.ct,a.n,a.m,a.va,.slice A4 a.ks.length cap4],G,p,n,rfl,HV0.out,fun b hb=>⟨by have:=HG.out b hb;omega,.inl hb⟩,by omega,HR.out,by omega,.of_below hBe,hn0,by omega⟩
set_option maxHeartbeats 8000000 in
theorem l3Name_or (a:P) (ih:∀ k∈a.ks,NameP k) (w:World) (p g:Nat) (n:Int) (cs:List Value) (G:List Nat) (hr:Rd w g p) (hp:p+2*nodesP a≤900000) (hn0:0≤n) (hn1:n+2*(nodesP a:Int)≤1000000) (hv:PR w a cs G) (hG:Under w G) (hGg:∀ b∈G,b≠g) (h5:decide (n>5)=false) (q5:(a.op==5)=true) :
  Calls Try.prog 90 #[.pointer (some ⟨g,0,none⟩),.agg cs.toArray,.int .i64 n] w (DrewPN (2*nodesP a) p (2*nodesP a) g (n+2*(nodesP a:Int)) G w):=by
 obtain ⟨kv,rfl,ha⟩:=(zAA _ _ _).1 hv
 obtain ⟨A4,cap4,rfl,hc3,hc4⟩:=ha.form
 have IH:=jj ih
 have hgl:=hr.lt
 have hnp:1≤nodesP a:=by unfold nodesP;omega
 have hka:=kidSum_all a (zz8 a.ks.length)
 have hkl:a.ks.length≤1000000:=by
  have h1:=P.sizes_eq a.ks
  have h2:=zAB a
  omega
 have hB0:Below w w ((w.alloc (.cells #[a.op,a.ct,a.n,a.m,a.va,.slice A4 a.ks.length cap4] 28)).alloc (.cells #[(0:Int),(0:Int),(0:Int),(0:Int),(0:Int),.slice none 0 0] 28)):=((zy2 _ _).alloc (zz8 _) _).alloc (by simp) _
 have KP:Hid (Blk ((w.alloc (.cells #[a.op,a.ct,a.n,a.m,a.va,.slice A4 a.ks.length cap4] 28)).alloc (.cells #[(0:Int),(0:Int),(0:Int),(0:Int),(0:Int),.slice none 0 0] 28)) w.heap.size 28 #[a.op,a.ct,a.n,a.m,a.va,.slice A4 a.ks.length cap4]):=(Blk.new w _ _).same (Below.heap_alloc _ _ _ (by simp))
 have KR:Hid (Blk ((w.alloc (.cells #[a.op,a.ct,a.n,a.m,a.va,.slice A4 a.ks.length cap4] 28)).alloc (.cells #[(0:Int),(0:Int),(0:Int),(0:Int),(0:Int),.slice none 0 0] 28)) (w.heap.size+1) 28 #[(0:Int),(0:Int),(0:Int),(0:Int),(0:Int),.slice none 0 0]):=zA9 w _ 28 _
 have HR:=jj (hr.below hB0)
 have hz2:((w.alloc (.cells #[a.op,a.ct,a.n,a.m,a.va,.slice A4 a.ks.length cap4] 28)).alloc (.cells #[(0:Int),(0:Int),(0:Int),(0:Int),(0:Int),.slice none 0 0] 28)).heap.size=w.heap.size+2:=by simp
 have HC0:Hid (Chg [g] w ((w.alloc (.cells #[a.op,a.ct,a.n,a.m,a.va,.slice A4 a.ks.length cap4] 28)).alloc (.cells #[(0:Int),(0:Int),(0:Int),(0:Int),(0:Int),.slice none 0 0] 28))):=.of_below hB0
 have HV0:=jj (hv.below hB0 hG)
 have HUN:Hid (∀ b∈G,b<((w.alloc (.cells #[a.op,a.ct,a.n,a.m,a.va,.slice A4 a.ks.length cap4] 28)).alloc (.cells #[(0:Int),(0:Int),(0:Int),(0:Int),(0:Int),.slice none 0 0] 28)).heap.size∧(b∈G∨w.heap.size≤b)∧b≠w.heap.size+1):=fun b hb=>⟨by have:=hG b hb;omega,.inl hb,by have:=hG b hb;omega⟩
 have HA:=jj ha
 have HV:=jj hv
 have HRw:=jj hr
 have HG:=jj hG
 have HGg:=jj hGg
 have HG1:Hid (∀ b,g<b→b∉[g]):=fun b hb h=>by rw [zy1] at h;omega
 clear ih hr hv ha hG hGg hB0
 obtain ⟨z0,z1,z2,z3,z4,z5,zlt⟩:=KP.out.c6
 have rc0:=(KR.out.cell 0).trans (show _=some (.int .i64 0) from by simp)
 have rf0:=KR.out.frozen 0
 have rc1:=(KR.out.cell 1).trans (show _=some (.int .i64 0) from by simp)
 have rf1:=KR.out.frozen 1
 have rc2:=(KR.out.cell 2).trans (show _=some (.int .i64 0) from by simp)
 have rf2:=KR.out.frozen 2
 have rc3:=(KR.out.cell 3).trans (show _=some (.int .i64 0) from by simp)
 have rf3:=KR.out.frozen 3
 have rc4:=(KR.out.cell 4).trans (show _=some (.int .i64 0) from by simp)
 have rf4:=KR.out.frozen 4
 have rc5:=(KR.out.cell 5).trans (show _=some (.slice none 0 0) from by simp)
 have rf5:=KR.out.frozen 5
 have rlt:=KR.out.lt
 go_enter Try.func90,Try.ntmps90
 go_wp2
 clear rc0 rf0 rc1 rf1 rc2 rf2 rc3 rf3 rc4 rf4 rc5 rf5 rlt KR HR HC0 HV0 HUN hz2 KP z0 z1 z2 z3 z4 z5 zlt
 have hBe:Below w w ((w.alloc (.cells #[a.op,a.ct,a.n,a.m,a.va,.slice A4 a.ks.length cap4] 28)).alloc (.cells #[a.op,a.ct,a.n,a.m,a.va,.slice A4 a.ks.length cap4] 28)):=((zy2 _ _).alloc (zz8 _) _).alloc (by simp) _
 have KR:Hid (Blk ((w.alloc (.cells #[a.op,a.ct,a.n,a.m,a.va,.slice A4 a.ks.length cap4] 28)).alloc (.cells #[a.op,a.ct,a.n,a.m,a.va,.slice A4 a.ks.length cap4] 28)) (w.heap.size+1) 28 #[a.op,a.ct,a.n,a.m,a.va,.slice A4 a.ks.length cap4]):=zA9 w _ 28 _
 have HV0:=jj (HV.out.below hBe HG.out)
 have HR:=jj (HRw.out.below hBe)
 have hz2:((w.alloc (.cells #[a.op,a.ct,a.n,a.m,a.va,.slice A4 a.ks.length cap4] 28)).alloc (.cells #[a.op,a.ct,a.n,a.m,a.va,.slice A4 a.ks.length cap4] 28)).heap.size=w.heap.size+2:=by simp
 generalize ((w.alloc (.cells #[a.op,a.ct,a.n,a.m,a.va,.slice A4 a.ks.length cap4] 28)).alloc (.cells #[a.op,a.ct,a.n,a.m,a.va,.slice A4 a.ks.length cap4] 28))=w3 at *
 refine bodyPost_ret (zAC rfl _ _ (w.heap.size+1) 28 #[a.op,a.ct,a.n,a.m,a.va,.slice A4 a.ks.length cap4] (0,0) _ rfl KR.out Try.underlying28 rfl rfl) rfl ?_
 exact ⟨a,[a.op,a.ct,a.n,a.m,a.va,.slice A4 a.ks.length cap4],G,p,n,rfl,HV0.out,fun b hb=>⟨by have:=HG.out b hb;omega,.inl hb⟩,by omega,HR.out,by omega,.of_below hBe,hn0,by omega⟩
set_option maxHeartbeats 8000000 in
theorem l3Name_int (a:P) (ih:∀ k∈a.ks,NameP k) (w:World) (p g:Nat) (n:Int) (cs:List Value) (G:List Nat) (hr:Rd w g p) (hp:p+2*nodesP a≤900000) (hn0:0≤n) (hn1:n+2*(nodesP a:Int)≤1000000) (hv:PR w a cs G) (hG:Under w G) (hGg:∀ b∈G,b≠g) (h5:decide (n>5)=false) (q5:(a.op==5)=false) (q3:(a.op==3)=true) :
  Calls Try.prog 90 #[.pointer (some ⟨g,0,none⟩),.agg cs.toArray,.int .i64 n] w (DrewPN (2*nodesP a) p (2*nodesP a) g (n+2*(nodesP a:Int)) G w):=by
 obtain ⟨kv,rfl,ha⟩:=(zAA _ _ _).1 hv
 obtain ⟨A4,cap4,rfl,hc3,hc4⟩:=ha.form
 have IH:=jj ih
 have hgl:=hr.lt
 have hnp:1≤nodesP a:=by unfold nodesP;omega
 have hka:=kidSum_all a (zz8 a.ks.length)
 have hkl:a.ks.length≤1000000:=by
  have h1:=P.sizes_eq a.ks
  have h2:=zAB a
  omega
 have hB0:Below w w ((w.alloc (.cells #[a.op,a.ct,a.n,a.m,a.va,.slice A4 a.ks.length cap4] 28)).alloc (.cells #[(0:Int),(0:Int),(0:Int),(0:Int),(0:Int),.slice none 0 0] 28)):=((zy2 _ _).alloc (zz8 _) _).alloc (by simp) _
 have KP:Hid (Blk ((w.alloc (.cells #[a.op,a.ct,a.n,a.m,a.va,.slice A4 a.ks.length cap4] 28)).alloc (.cells #[(0:Int),(0:Int),(0:Int),(0:Int),(0:Int),.slice none 0 0] 28)) w.heap.size 28 #[a.op,a.ct,a.n,a.m,a.va,.slice A4 a.ks.length cap4]):=(Blk.new w _ _).same (Below.heap_alloc _ _ _ (by simp))
 have KR:Hid (Blk ((w.alloc (.cells #[a.op,a.ct,a.n,a.m,a.va,.slice A4 a.ks.length cap4] 28)).alloc (.cells #[(0:Int),(0:Int),(0:Int),(0:Int),(0:Int),.slice none 0 0] 28)) (w.heap.size+1) 28 #[(0:Int),(0:Int),(0:Int),(0:Int),(0:Int),.slice none 0 0]):=zA9 w _ 28 _
 have HR:=jj (hr.below hB0)
 have hz2:((w.alloc (.cells #[a.op,a.ct,a.n,a.m,a.va,.slice A4 a.ks.length cap4] 28)).alloc (.cells #[(0:Int),(0:Int),(0:Int),(0:Int),(0:Int),.slice none 0 0] 28)).heap.size=w.heap.size+2:=by simp
 have HC0:Hid (Chg [g] w ((w.alloc (.cells #[a.op,a.ct,a.n,a.m,a.va,.slice A4 a.ks.length cap4] 28)).alloc (.cells #[(0:Int),(0:Int),(0:Int),(0:Int),(0:Int),.slice none 0 0] 28))):=.of_below hB0
 have HV0:=jj (hv.below hB0 hG)
 have HUN:Hid (∀ b∈G,b<((w.alloc (.cells #[a.op,a.ct,a.n,a.m,a.va,.slice A4 a.ks.length cap4] 28)).alloc (.cells #[(0:Int),(0:Int),(0:Int),(0:Int),(0:Int),.slice none 0 0] 28)).heap.size∧(b∈G∨w.heap.size≤b)∧b≠w.heap.size+1):=fun b hb=>⟨by have:=hG b hb;omega,.inl hb,by have:=hG b hb;omega⟩
 have HA:=jj ha
 have HV:=jj hv
 have HRw:=jj hr
 have HG:=jj hG
 have HGg:=jj hGg
 have HG1:Hid (∀ b,g<b→b∉[g]):=fun b hb h=>by rw [zy1] at h;omega
 clear ih hr hv ha hG hGg hB0
 obtain ⟨z0,z1,z2,z3,z4,z5,zlt⟩:=KP.out.c6
 have rc0:=(KR.out.cell 0).trans (show _=some (.int .i64 0) from by simp)
 have rf0:=KR.out.frozen 0
 have rc1:=(KR.out.cell 1).trans (show _=some (.int .i64 0) from by simp)
 have rf1:=KR.out.frozen 1
 have rc2:=(KR.out.cell 2).trans (show _=some (.int .i64 0) from by simp)
 have rf2:=KR.out.frozen 2
 have rc3:=(KR.out.cell 3).trans (show _=some (.int .i64 0) from by simp)
 have rf3:=KR.out.frozen 3
 have rc4:=(KR.out.cell 4).trans (show _=some (.int .i64 0) from by simp)
 have rf4:=KR.out.frozen 4
 have rc5:=(KR.out.cell 5).trans (show _=some (.slice none 0 0) from by simp)
 have rf5:=KR.out.frozen 5
 have rlt:=KR.out.lt
 go_enter Try.func90,Try.ntmps90
 go_wp2
 clear rc0 rf0 rc1 rf1 rc2 rf2 rc3 rf3 rc4 rf4 rc5 rf5 rlt KR HR HC0 HV0 HUN hz2 KP z0 z1 z2 z3 z4 z5 zlt
 have hBe:Below w w ((w.alloc (.cells #[a.op,a.ct,a.n,a.m,a.va,.slice A4 a.ks.length cap4] 28)).alloc (.cells #[a.op,a.ct,a.n,a.m,a.va,.slice A4 a.ks.length cap4] 28)):=((zy2 _ _).alloc (zz8 _) _).alloc (by simp) _
 have KR:Hid (Blk ((w.alloc (.cells #[a.op,a.ct,a.n,a.m,a.va,.slice A4 a.ks.length cap4] 28)).alloc (.cells #[a.op,a.ct,a.n,a.m,a.va,.slice A4 a.ks.length cap4] 28)) (w.heap.size+1) 28 #[a.op,a.ct,a.n,a.m,a.va,.slice A4 a.ks.length cap4]):=zA9 w _ 28 _
 have HV0:=jj (HV.out.below hBe HG.out)
 have HR:=jj (HRw.out.below hBe)
 have hz2:((w.alloc (.cells #[a.op,a.ct,a.n,a.m,a.va,.slice A4 a.ks.length cap4] 28)).alloc (.cells #[a.op,a.ct,a.n,a.m,a.va,.slice A4 a.ks.length cap4] 28)).heap.size=w.heap.size+2:=by simp
 generalize ((w.alloc (.cells #[a.op,a.ct,a.n,a.m,a.va,.slice A4 a.ks.length cap4] 28)).alloc (.cells #[a.op,a.ct,a.n,a.m,a.va,.slice A4 a.ks.length cap4] 28))=w3 at *
 refine bodyPost_ret (zAC rfl _ _ (w.heap.size+1) 28 #[a.op,a.ct,a.n,a.m,a.va,.slice A4 a.ks.length cap4] (0,0) _ rfl KR.out Try.underlying28 rfl rfl) rfl ?_
 exact ⟨a,[a.op,a.ct,a.n,a.m,a.va,.slice A4 a.ks.length cap4],G,p,n,rfl,HV0.out,fun b hb=>⟨by have:=HG.out b hb;omega,.inl hb⟩,by omega,HR.out,by omega,.of_below hBe,hn0,by omega⟩
def LitN (w:World) (b:Nat) (ls:List Int):Prop:=b<w.heap.size∧Arr w (NatR w) ls (.slice (some ⟨b,0,none⟩) ls.length ls.length) [b]
theorem LitN.new (w:World) (ls:List Int) (hl:ls.length≤1000):LitN (w.alloc (.cells (ls.map (Value.int .i64)).toArray 3)) w.heap.size ls:=⟨by simp,lit_nums w ls hl⟩
theorem LitN.chg {w w':World} {b:Nat} {ls:List Int} {F:List Nat} (h:LitN w b ls) (hc:Chg F w w') (hb:b∉F):LitN w' b ls :=
 ⟨zz9 h.1 hc.size,h.2.mono (hc.kept (fun x hx=>by rw [List.mem_singleton.1 hx];exact h.1) (fun x hx=>by rw [List.mem_singleton.1 hx];exact hb)) fun _ _ _ _ _ h=>h⟩
theorem Chg.alloc {F:List Nat} {w w':World} (h:Chg F w w') (o:Obj):Chg F w (w'.alloc o):=h.step ((zy2 _ _).alloc (zz8 _) _)
set_option maxHeartbeats 8000000 in
theorem l3Name_node (a:P) (ih:∀ k∈a.ks,NameP k) (w:World) (p g:Nat) (n:Int) (cs:List Value) (G:List Nat) (hr:Rd w g p) (hp:p+2*nodesP a≤900000) (hn0:0≤n) (hn1:n+2*(nodesP a:Int)≤1000000) (hv:PR w a cs G) (hG:Under w G) (hGg:∀ b∈G,b≠g) (h5:decide (n>5)=false) (q5:(a.op==5)=false) (q3:(a.op==3)=false) (q1:(a.op==1)=false) :
  Calls Try.prog 90 #[.pointer (some ⟨g,0,none⟩),.agg cs.toArray,.int .i64 n] w (DrewPN (2*nodesP a) p (2*nodesP a) g (n+2*(nodesP a:Int)) G w):=by
 obtain ⟨kv,rfl,ha⟩:=(zAA _ _ _).1 hv
 obtain ⟨A4,cap4,rfl,hc3,hc4⟩:=ha.form
 have IH:=jj ih
 have hgl:=hr.lt
 have hnp:1≤nodesP a:=by unfold nodesP;omega
 have hka:=kidSum_all a (zz8 a.ks.length)
 have hkl:a.ks.length≤1000000:=by
  have h1:=P.sizes_eq a.ks
  have h2:=zAB a
  omega
 have hB0:Below w w ((w.alloc (.cells #[a.op,a.ct,a.n,a.m,a.va,.slice A4 a.ks.length cap4] 28)).alloc (.cells #[(0:Int),(0:Int),(0:Int),(0:Int),(0:Int),.slice none 0 0] 28)):=((zy2 _ _).alloc (zz8 _) _).alloc (by simp) _
 have KP:Hid (Blk ((w.alloc (.cells #[a.op,a.ct,a.n,a.m,a.va,.slice A4 a.ks.length cap4] 28)).alloc (.cells #[(0:Int),(0:Int),(0:Int),(0:Int),(0:Int),.slice none 0 0] 28)) w.heap.size 28 #[a.op,a.ct,a.n,a.m,a.va,.slice A4 a.ks.length cap4]):=(Blk.new w _ _).same (Below.heap_alloc _ _ _ (by simp))
 have KR:Hid (Blk ((w.alloc (.cells #[a.op,a.ct,a.n,a.m,a.va,.slice A4 a.ks.length cap4] 28)).alloc (.cells #[(0:Int),(0:Int),(0:Int),(0:Int),(0:Int),.slice none 0 0] 28)) (w.heap.size+1) 28 #[(0:Int),(0:Int),(0:Int),(0:Int),(0:Int),.slice none 0 0]):=zA9 w _ 28 _
 have HR:=jj (hr.below hB0)
 have hz2:((w.alloc (.cells #[a.op,a.ct,a.n,a.m,a.va,.slice A4 a.ks.length cap4] 28)).alloc (.cells #[(0:Int),(0:Int),(0:Int),(0:Int),(0:Int),.slice none 0 0] 28)).heap.size=w.heap.size+2:=by simp
 have HC0:Hid (Chg [g] w ((w.alloc (.cells #[a.op,a.ct,a.n,a.m,a.va,.slice A4 a.ks.length cap4] 28)).alloc (.cells #[(0:Int),(0:Int),(0:Int),(0:Int),(0:Int),.slice none 0 0] 28))):=.of_below hB0
 have HV0:=jj (hv.below hB0 hG)
 have HUN:Hid (∀ b∈G,b<((w.alloc (.cells #[a.op,a.ct,a.n,a.m,a.va,.slice A4 a.ks.length cap4] 28)).alloc (.cells #[(0:Int),(0:Int),(0:Int),(0:Int),(0:Int),.slice none 0 0] 28)).heap.size∧(b∈G∨w.heap.size≤b)∧b≠w.heap.size+1):=fun b hb=>⟨by have:=hG b hb;omega,.inl hb,by have:=hG b hb;omega⟩
 have HA:=jj ha
 have HV:=jj hv
 have HRw:=jj hr
 have HG:=jj hG
 have HGg:=jj hGg
 have HG1:Hid (∀ b,g<b→b∉[g]):=fun b hb h=>by rw [zy1] at h;omega
 clear ih hr hv ha hG hGg hB0
 go_enter Try.func90,Try.ntmps90
 go_wp2_with fail
 obtain ⟨w2,hw2⟩:∃ X,X=((w.alloc (.cells #[a.op,a.ct,a.n,a.m,a.va,.slice A4 a.ks.length cap4] 28)).alloc (.cells #[(0:Int),(0:Int),(0:Int),(0:Int),(0:Int),.slice none 0 0] 28)):=⟨_,rfl⟩
 rw [←hw2] at KP KR HR hz2 HC0 HV0 HUN ⊢
 clear hw2
 obtain ⟨z0,z1,z2,z3,z4,z5,zlt⟩:=KP.out.c6
 obtain ⟨w3,hw3⟩:∃ X,X=w2:=⟨_,rfl⟩
 have hz3:w3.heap.size=w.heap.size+2:=by rw [hw3];exact hz2
 rw [←hw3] at KP KR HC0 HR ⊢
 have KP3:=jj KP.out
 have KR3:=jj KR.out
 have HC3:=jj HC0.out
 have HR3:=jj HR.out
 obtain ⟨p3,hp3⟩:∃ q,q=p:=⟨_,rfl⟩
 rw [←hp3] at HR3
 clear hw3 z0 z1 z2 z3 z4 z5 zlt KP KR HC0 HR HV0 HUN
 have KP3:=jj KP3.out
 obtain ⟨z0,z1,z2,z3,z4,z5,zlt⟩:=KP3.out.c6
 go_wp2
 obtain ⟨w9,hw9⟩:∃ X,X=(w3.alloc (.cells #[a.op,a.ct,a.n,a.m,a.va,.slice none 0 0] 28)):=⟨_,rfl⟩
 obtain ⟨D,hD⟩:∃ D,D=w.heap.size+2:=⟨_,rfl⟩
 have hDw:D=w3.heap.size:=hD.trans hz3.symm
 have KN9:Hid (Blk w9 D 28 #[a.op,a.ct,a.n,a.m,a.va,.slice none 0 0]):=by rw [hw9,hDw];exact Blk.new w3 28 _
 have hk9:∀ b,b<D→w9.heap[b]?=w3.heap[b]?:=fun b hb=>by rw [hw9,Below.heap_alloc _ _ _ (by omega)]
 have hs9:w9.heap.size=D+1:=by rw [hw9,hDw];simp
 have HC9:Hid (Chg [g] w w9):=by rw [hw9];exact HC3.out.alloc _
 have hD2:w.heap.size+2≤D:=by omega
 rw [←hD]
 rw [←hw9]
 clear hDw
 clear hw9
 have KP9:=jj (KP3.out.same (hk9 _ (by omega)))
 have KR9:=jj (KR3.out.same (hk9 _ (by omega)))
 have HR9:=jj (HR3.out.keep (w':=w9) (fun b hb=>hk9 b (by omega)))
 clear z0 z1 z2 z3 z4 z5 zlt
 clear hk9 KP3 KR3 HC3 HR3 hD
 obtain ⟨i0,hi,hz0,hz1,hz2'⟩:=info_parts info_PE
 have HI:=jj hi
 have HZ0:=jj hz0
 have HZ1:=jj hz1
 have HZ2x:=jj hz2'
 clear hi hz0 hz1 hz2'
 go_loopw [9,10] (fun mv iv wr=>∃ q:Nat,∃ m:Int,∃ kv:Value,∃ Fk:List Nat,∃ vs:List P,∃ pq:Nat,q≤a.ks.length∧iv=.int .i64 q∧mv=.int .i64 m∧Hid (vs.length=q)∧Hid (P.sizes vs≤2*kidSum a q)∧Hid (Blk wr D 28 #[a.op,a.ct,a.n,a.m,a.va,kv])∧Hid (Own wr (D+1) 28 6 PR vs kv Fk)∧Hid (∀ b∈Fk,b∈G∨D+1≤b)∧Hid (Chg [D,g] w9 wr)∧Hid (Chg [g] w wr)∧w9.heap.size≤wr.heap.size∧Hid (Rd wr g pq)∧pq≤p3+2*kidSum a q∧0≤m∧m≤n+2*((kidSum a q:Nat):Int)) (fun _ iv _=>a.ks.length-(intOf iv).toNat)
 case atStart=>exact ⟨0,n,_,[],[],p3,Nat.zero_le _,rfl,rfl,rfl,Nat.zero_le _,KN9,Own.nil _ _ _ _ _,(fun b hb=>by cases hb),Chg.refl _ _,HC9,zz8 _,HR9,by omega,hn0,by omega⟩
 case round =>
  clear HC9 KN9 HR9
  obtain ⟨q,m,kv,Fk,vs,pq,hql,rfl,rfl,HVL,HVS,KD,HO,HFh,HC,HCw,hws9,HRq,hpq,hm0,hm1⟩:=hrel
  obtain ⟨kA,kcap,hkv,hkc1,hkc2⟩:=HO.out.form
  subst hkv
  have hDg:∀ b,g<b→b≠D→b∉[D,g]:=fun b h1 h2 h=>by
   rcases List.mem_cons.1 h with h3 | h3
   ·exact h2 h3
   ·rw [zy1] at h3;omega
  have KPr:=jj (KP9.out.same (HC.out.block _ KP9.out.lt (hDg _ hgl (by omega))))
  have KRr:=jj (KR9.out.same (HC.out.block _ KR9.out.lt (hDg _ (by omega) (by omega))))
  have HFk:Hid (∀ b∈Fk,b≠D∧b≠g):=fun b hb=>by
   rcases HFh.out b hb with h | h
   ·exact ⟨by have:=HG.out b h;omega,HGg.out b h⟩
   ·exact ⟨by omega,by omega⟩
  have HAr:Hid (Arr wr (PR wr) a.ks (.slice A4 a.ks.length cap4) G):=ArrP.mono HA.out (HCw.out.kept HG.out (fun b hb h=>by rw [zy1] at h;exact HGg.out b hb h))
  have HGr:Hid (Under wr G):=HG.out.mono HCw.out.size
  have klt:=KD.out.lt
  clear hDg
  obtain ⟨z0,z1,z2,z3,z4,z5,zlt⟩:=KPr.out.c6
  by_cases hil:q<a.ks.length
  ·have g1:(0:Int)≤(q:Int):=by omega
   have g2:(q:Int)<(a.ks.length:Int):=by omega
   obtain ⟨b4,off4,rfl⟩:=HAr.out.ptr (by omega)
   obtain ⟨A7,cap7,G7,hb7,c0,c1,c2,c3,c4,c5,HV7,HG7,hsub,-,-⟩:=ArrP.at HAr.out HGr.out (zy2 _ _) q hil
   have HSUB:=jj hsub
   have hks:=kidSum_succ a q hil
   have hkle:=kidSum_le a (q+1)
   have hvl:=HVL.out
   have hvl3:vs.length≤1000000:=by omega
   clear hvl hsub
   have HME:Hid (a.ks[q]∈a.ks):=List.getElem_mem hil
   have HCALL:=jj (IH.out a.ks[q] HME.out wr pq g m _ G7 HRq.out (by omega) hm0 (by omega) HV7.out HG7.out (fun b hb=>HGg.out b (HSUB.out b hb)))
   go_wp2_with fail
   refine HCALL.out.mono ?_
   rintro e wA ⟨vA,csA,FA,qA,mA,rfl,hpA,hfA,hnA,hRA,hqA,hCA,hmA0,hmA1⟩
   obtain ⟨kvA,rfl,haA⟩:=(zAA _ _ _).1 hpA
   obtain ⟨A8,cap8,rfl,-,-⟩:=haA.form
   have hmx:vs.length+1≤maxLen:=by unfold maxLen;omega
   have hby:(vs.length+1)*64≤140737488355328:=by omega
   have hb9:Below wA wA (wA.alloc (.cells #[vA.op,vA.ct,vA.n,vA.m,vA.va,.slice A8 vA.ks.length cap8] 28)):=(zy2 _ _).alloc (zz8 _) _
   have HBu:Hid (Chg [g] wr (wA.alloc (.cells #[vA.op,vA.ct,vA.n,vA.m,vA.va,.slice A8 vA.ks.length cap8] 28))):=hCA.alloc _
   have HPb:=jj (hpA.below hb9 (fun b hb=>(hfA b hb).1))
   have hDg1:D∉[g]:=HG1.out _ (by omega)
   have KDA:=hCA.block _ klt hDg1
   have zT:wA.cell? ⟨D,5,none⟩=some (.slice kA vs.length kcap):=((KD.out.same KDA).cell 5).trans (by simp)
   have hkA:=(KD.out.same KDA).lt
   have zfT:wA.frozen? ⟨D,5,none⟩=false:=(KD.out.same KDA).frozen 5
   have HFA:Hid (∀ b∈FA,b<wA.heap.size∧(b∈G∨wr.heap.size≤b)):=fun b hb=>⟨(hfA b hb).1,by rcases (hfA b hb).2 with h | h;exact .inl (HSUB.out b h);exact .inr h⟩
   have HFA2:Hid (∀ b∈FA,b≠D∧b≠g):=fun b hb=>by
    rcases (HFA.out b hb).2 with h | h
    ·exact ⟨by have:=HG.out b h;omega,HGg.out b h⟩
    ·exact ⟨by omega,by omega⟩
   have HFA3:Hid (∀ x∈rowOf (.slice kA vs.length kcap),x∉FA):=fun x hx h=>by
    have h1:=HO.out.row x hx
    rcases (HFA.out x h).2 with h2 | h2
    ·have:=HG.out x h2;omega
    ·omega
   have HRA:=jj (hRA.below hb9)
   have HNA:=jj hnA
   have HOb:Hid (Own (wA.alloc (.cells #[vA.op,vA.ct,vA.n,vA.m,vA.va,.slice A8 vA.ks.length cap8] 28)) (D+1) 28 6 PR vs (.slice kA vs.length kcap) Fk):=HO.out.chg2 PR_mono' HBu.out (fun b hb=>by rw [zy1] at hb;omega) (fun b hb h=>by rw [zy1] at h;exact (HFk.out b hb).2 h)
   have hsz:D+1≤(wA.alloc (.cells #[vA.op,vA.ct,vA.n,vA.m,vA.va,.slice A8 vA.ks.length cap8] 28)).heap.size:=by have:=HBu.out.size;omega
   clear z0 z1 z2 z3 z4 z5 zlt c0 c1 c2 c3 c4 c5 hpA hfA hnA hRA haA KDA HCALL hb7
   go_wp2_with (at_builtin;refine Halt.mk ?_)
   refine Halt.of (zA6 (P:=Try.prog) rfl _ _ 26 rfl i0 _ 64 Try.underlying26 HI.out HZ0.out HZ1.out HZ2x.out rfl (by decide) PR_len' PR_mono' (by rfl) HOb.out vA 28 [vA.op,vA.ct,vA.n,vA.m,vA.va,.slice A8 vA.ks.length cap8] FA _ (by rfl) (by simp) (by simp [Value.oneCell']) HPb.out (fun b hb=>by rw [World.size_alloc];have:=(HFA.out b hb).1;omega) HFA3.out hmx hby hsz ?_)
   intro gz cp w7 hown7 hgr7 hat7
   have hrow:=HOb.out.row
   have n7:some D≠(Value.ownBlock (.slice kA vs.length kcap)):=fun e=>by have:=(hrow D (zA2.2 e.symm)).1;omega
   have hl7:D<((wA.alloc (.cells #[vA.op,vA.ct,vA.n,vA.m,vA.va,.slice A8 vA.ks.length cap8] 28)).alloc (.cells [.int .i64 vA.op,.int .i64 vA.ct,.int .i64 vA.n,.int .i64 vA.m,.int .i64 vA.va,.slice A8 vA.ks.length cap8].toArray 28)).heap.size:=by rw [World.size_alloc,World.size_alloc];omega
   have z71:w7.cell? ⟨D,5,none⟩=some (.slice kA vs.length kcap):=(World.grownBy.cell_far hgr7 ⟨D,5,none⟩ hl7 n7).trans ((World.cell?_alloc_lt _ _ _ (by rw [World.size_alloc];show D<_;omega)).trans ((World.cell?_alloc_lt _ _ _ (show D<wA.heap.size from hkA)).trans zT))
   have zf71:w7.frozen? ⟨D,5,none⟩=false:=(World.grownBy.frozen_far hgr7 ⟨D,5,none⟩ hl7 n7).trans (Eq.trans (World.frozen?_of_block (Below.heap_alloc _ _ _ (by rw [World.size_alloc];show D<_;omega))) (Eq.trans (World.frozen?_of_block (Below.heap_alloc _ _ _ (show D<wA.heap.size from hkA))) zfT))
   obtain ⟨r1,r2,r3,r4,r5,r6,r7⟩:=kid_round4 (w:=w) 5 PR_mono' hs9 (Nat.lt_succ_self D) hgl (by omega) KD.out HO.out HFk.out HC.out HCw.out HBu.out HFA2.out hown7 hgr7 HRA.out
   have R1:=jj r1
   have R2:=jj r2
   have R4:=jj r4
   have R5:=jj r5
   have R7:=jj r7
   have R3:Hid (∀ b∈Fk ++ FA,b∈G∨D+1≤b):=fun b hb=>by
    rcases List.mem_append.1 hb with h | h
    ·exact HFh.out b h
    ·rcases (HFA.out b h).2 with h2 | h2
     ·exact .inl h2
     ·exact .inr (by omega)
   have HV2:Hid ((vs ++ [vA]).length=q+1):=by have:=HVL.out;unfold Hid;rw [List.length_append];simp only [List.length_cons,List.length_nil];omega
   have HS2:Hid (P.sizes (vs ++ [vA])≤2*kidSum a (q+1)):=by unfold Hid;rw [hks];exact psizes_snoc2 vs vA _ _ HVS.out HNA.out
   have HKS:=jj hks
   have h7D:D<w7.heap.size:=zz9 hl7 hgr7.size
   clear r1 r2 r3 r4 r5 r7 hown7 hgr7 hat7 hrow n7 hl7 zT zfT hks
   go_wp2
   go_roundw
   case rel=>exact ⟨q+1,mA,_,_,vs ++ [vA],qA,hil,by go_num,rfl,HV2,HS2,R1,(by rw [show (vs ++ [vA]).length=vs.length+1 from by rw [List.length_append];rfl] at *;exact R2),R3,R4,R5,r6,R7,by have:=HKS.out;omega,hmA0,by have:=HKS.out;push_cast [this];omega⟩
   case measure=>(simp [intOf] <;> omega)
  ·obtain ⟨FF,hf1,hf3⟩:=kid_done4 (D:=D) (g:=g) HO.out HFk.out (Nat.lt_succ_self D) (by omega)
   have HF1:=jj hf1
   have HF3:Hid (∀ b∈FF,b<wr.heap.size∧(b∈G∨w.heap.size≤b)∧b≠w.heap.size+1):=fun b hb=>by
    have h:=hf3 b hb
    rcases h.2.2.2 with h2 | h2
    ·rcases HFh.out b h2 with h3 | h3
     ·exact ⟨h.2.2.1,.inl h3,by have:=HG.out b h3;omega⟩
     ·exact ⟨h.2.2.1,.inr (by omega),by omega⟩
    ·exact ⟨h.2.2.1,.inr (by omega),by omega⟩
   have HFg:Hid (∀ b∈FF,b∉[g]):=fun b hb h=>by rw [zy1] at h;exact (hf3 b hb).2.1 h
   have hq:q=a.ks.length:=by omega
   have HSZ:Hid (nodesP ⟨a.op,a.ct,a.n,a.m,a.va,vs⟩≤2*nodesP a-1):=by have h1:=HVS.out;rw [hq] at h1;unfold Hid;rw [zAB];simp only;omega
   have HRP:Hid (PR wr ⟨a.op,a.ct,a.n,a.m,a.va,vs⟩ [a.op,a.ct,a.n,a.m,a.va,.slice kA vs.length kcap] FF):=(zAA _ _ _).2 ⟨_,rfl,HF1.out⟩
   rw [hq] at hpq hm1
   clear hf1 hf3 hq
   by_cases hm5:m≤5
   ·have d1:decide (m≤5)=true:=decide_eq_true hm5
    clear hm5
    go_wp2_with fail
    refine (zAG 6 pq g wr HRq.out (by omega) (by omega) (by omega)).mono ?_
    rintro e w10 ⟨r10,rfl,-,hR10,hC10⟩
    have KDX:=jj (KD.out.same (hC10.block _ klt (HG1.out _ (by omega))))
    have KRX:=jj (KRr.out.same (hC10.block _ KRr.out.lt (HG1.out _ (by omega))))
    have HCX:=jj (HCw.out.trans hC10)
    have HRX:=jj hR10
    have hzX:=hC10.size
    have HRPX:=jj (PR.mono _ _ _ (hC10.kept (fun b hb=>(HF3.out b hb).1) HFg.out) HRP.out)
    have HFX:Hid (∀ b∈FF,b<w10.heap.size∧(b∈G∨w.heap.size≤b)∧b≠w.heap.size+1):=fun b hb=>⟨zz9 (HF3.out b hb).1 hzX,(HF3.out b hb).2⟩
    clear z0 z1 z2 z3 z4 z5 zlt hR10 hC10
    cases q10:((r10:Int)==0) with
    |true =>
     have hmw:IntKind.i64.wrap (m+1)=m+1:=IntWalk.i64_in _ (by omega)
     have e0:=(KDX.out.cell 0).trans (show _=some (.int .i64 a.op) from by simp)
     have e1:=(KDX.out.cell 1).trans (show _=some (.int .i64 a.ct) from by simp)
     have e2:=(KDX.out.cell 2).trans (show _=some (.int .i64 a.n) from by simp)
     have e3:=(KDX.out.cell 3).trans (show _=some (.int .i64 a.m) from by simp)
     have e4:=(KDX.out.cell 4).trans (show _=some (.int .i64 a.va) from by simp)
     have e5:=(KDX.out.cell 5).trans (show _=some (.slice kA vs.length kcap) from by simp)
     have elt:=KDX.out.lt
     have rc0:=(KRX.out.cell 0).trans (show _=some (.int .i64 0) from by simp)
     have rf0:=KRX.out.frozen 0
     have rc1:=(KRX.out.cell 1).trans (show _=some (.int .i64 0) from by simp)
     have rf1:=KRX.out.frozen 1
     have rc2:=(KRX.out.cell 2).trans (show _=some (.int .i64 0) from by simp)
     have rf2:=KRX.out.frozen 2
     have rc3:=(KRX.out.cell 3).trans (show _=some (.int .i64 0) from by simp)
     have rf3:=KRX.out.frozen 3
     have rc4:=(KRX.out.cell 4).trans (show _=some (.int .i64 0) from by simp)
     have rf4:=KRX.out.frozen 4
     have rc5:=(KRX.out.cell 5).trans (show _=some (.slice none 0 0) from by simp)
     have rf5:=KRX.out.frozen 5
     have rlt:=KRX.out.lt
     go_wp2
     clear rc0 rf0 rc1 rf1 rc2 rf2 rc3 rf3 rc4 rf4 rc5 rf5 rlt
     obtain ⟨w6,hw6⟩:∃ X,X=((((((w10.setCell ⟨w.heap.size+1,0,none⟩ (.int .i64 6)).setCell ⟨w.heap.size+1,1,none⟩ (.int .i64 0)).setCell ⟨w.heap.size+1,2,none⟩ (.int .i64 0)).setCell ⟨w.heap.size+1,3,none⟩ (.int .i64 0)).setCell ⟨w.heap.size+1,4,none⟩ (.int .i64 m)).setCell ⟨w.heap.size+1,5,none⟩ (.slice (some ⟨w10,0,none⟩) 1 1)):=⟨_,rfl⟩
     have hs6:w6.heap.size=w10.heap.size:=by rw [hw6,size_six]
     have K6:Hid (Blk w6 (w.heap.size+1) 28 #[(6:Int),(0:Int),(0:Int),(0:Int),.int .i64 m,.slice (some ⟨w10,0,none⟩) 1 1]):=by rw [hw6];exact KRX.out.six _ _ _ _ _ _
     have hkp:Kept FF w10 w6:=by rw [hw6];exact kept_six (w:=w10) (H:=w.heap.size+1) (fun b hb=>(HFX.out b hb).2.2) _ _ _ _ _ _
     have HP6:=jj (PR.mono _ _ _ hkp HRPX.out)
     have HR6:Hid (Rd w6 g (pq+1)):=by rw [hw6];exact rd_six HRX.out (by omega) _ _ _ _ _ _
     have HC6:Hid (Chg [g] w w6):=by rw [hw6];exact zAS HCX.out (by omega) _ _ _ _ _ _
     rw [←hw6]
     clear hw6 hkp
     have hbW:Below w6 w6 (w6.alloc (.cells #[a.op,a.ct,a.n,a.m,a.va,.slice kA vs.length kcap] 28)):=(zy2 _ _).alloc (zz8 _) _
     have KAW:Hid (Blk (w6.alloc (.cells #[a.op,a.ct,a.n,a.m,a.va,.slice kA vs.length kcap] 28)) w10.heap.size 28 #[a.op,a.ct,a.n,a.m,a.va,.slice kA vs.length kcap]):=by rw [←hs6];exact Blk.new _ _ _
     have KRW:=jj (K6.out.same (hbW.block _ K6.out.lt))
     have HCW:=jj (HC6.out.step hbW)
     have HRW:=jj (HR6.out.below hbW)
     have HPW:=jj (HP6.out.below hbW (fun b hb=>by rw [hs6];exact (HFX.out b hb).1))
     have hsW:(w6.alloc (.cells #[a.op,a.ct,a.n,a.m,a.va,.slice kA vs.length kcap] 28)).heap.size=w10.heap.size+1:=by rw [World.size_alloc,hs6]
     generalize (w6.alloc (.cells #[a.op,a.ct,a.n,a.m,a.va,.slice kA vs.length kcap] 28))=wW at *
     have HFW:Hid (∀ b∈w10.heap.size :: FF,b<wW.heap.size∧(b∈G∨w.heap.size≤b)):=fun b hb=>by
      rcases List.mem_cons.1 hb with h | h
      ·exact ⟨by omega,.inr (by omega)⟩
      ·have:=HFX.out b h;exact ⟨by omega,this.2.1⟩
     have HAW:Hid (PR wW ⟨6,0,0,0,m,[⟨a.op,a.ct,a.n,a.m,a.va,vs⟩]⟩ [(6:Int),(0:Int),(0:Int),(0:Int),.int .i64 m,.slice (some ⟨w10,0,none⟩) 1 1] (w10.heap.size :: FF)):=(zAA _ _ _).2 ⟨_,rfl,arr_pat1 KAW.out HPW.out⟩
     have HSW:Hid (nodesP ⟨6,0,0,0,m,[⟨a.op,a.ct,a.n,a.m,a.va,vs⟩]⟩≤2*nodesP a):=by have h1:=HSZ.out;unfold Hid;rw [zAB];simp only [P.sizes];unfold nodesP at h1 ⊢;omega
     refine bodyPost_ret (zAC rfl _ _ (w.heap.size+1) 28 #[(6:Int),(0:Int),(0:Int),(0:Int),.int .i64 m,.slice (some ⟨w10,0,none⟩) 1 1] (0,0) _ rfl KRW.out Try.underlying28 rfl rfl) rfl ?_
     exact ⟨⟨6,0,0,0,m,[⟨a.op,a.ct,a.n,a.m,a.va,vs⟩]⟩,[(6:Int),(0:Int),(0:Int),(0:Int),.int .i64 m,.slice (some ⟨w10,0,none⟩) 1 1],(w10.heap.size :: FF),pq+1,(m+1),rfl,HAW.out,HFW.out,HSW.out,HRW.out,by omega,HCW.out,by omega,by omega⟩
    |false =>
     have e0:=(KDX.out.cell 0).trans (show _=some (.int .i64 a.op) from by simp)
     have e1:=(KDX.out.cell 1).trans (show _=some (.int .i64 a.ct) from by simp)
     have e2:=(KDX.out.cell 2).trans (show _=some (.int .i64 a.n) from by simp)
     have e3:=(KDX.out.cell 3).trans (show _=some (.int .i64 a.m) from by simp)
     have e4:=(KDX.out.cell 4).trans (show _=some (.int .i64 a.va) from by simp)
     have e5:=(KDX.out.cell 5).trans (show _=some (.slice kA vs.length kcap) from by simp)
     have elt:=KDX.out.lt
     have rc0:=(KRX.out.cell 0).trans (show _=some (.int .i64 0) from by simp)
     have rf0:=KRX.out.frozen 0
     have rc1:=(KRX.out.cell 1).trans (show _=some (.int .i64 0) from by simp)
     have rf1:=KRX.out.frozen 1
     have rc2:=(KRX.out.cell 2).trans (show _=some (.int .i64 0) from by simp)
     have rf2:=KRX.out.frozen 2
     have rc3:=(KRX.out.cell 3).trans (show _=some (.int .i64 0) from by simp)
     have rf3:=KRX.out.frozen 3
     have rc4:=(KRX.out.cell 4).trans (show _=some (.int .i64 0) from by simp)
     have rf4:=KRX.out.frozen 4
     have rc5:=(KRX.out.cell 5).trans (show _=some (.slice none 0 0) from by simp)
     have rf5:=KRX.out.frozen 5
     have rlt:=KRX.out.lt
     go_wp2
     clear rc0 rf0 rc1 rf1 rc2 rf2 rc3 rf3 rc4 rf4 rc5 rf5 rlt
     refine bodyPost_ret (zAC rfl _ _ (w.heap.size+1) 28 #[a.op,a.ct,a.n,a.m,a.va,.slice kA vs.length kcap] (0,0) _ rfl (KRX.out.six _ _ _ _ _ _) Try.underlying28 rfl rfl) rfl ?_
     have hkp:Kept FF w10 _:=kept_six (w:=w10) (H:=w.heap.size+1) (fun b hb=>(HFX.out b hb).2.2) (.int .i64 a.op) (.int .i64 a.ct) (.int .i64 a.n) (.int .i64 a.m) (.int .i64 a.va) (.slice kA vs.length kcap)
     exact ⟨⟨a.op,a.ct,a.n,a.m,a.va,vs⟩,[a.op,a.ct,a.n,a.m,a.va,.slice kA vs.length kcap],FF,pq+1,m,rfl,PR.mono _ _ _ hkp HRPX.out,fun b hb=>⟨by rw [size_six];exact (HFX.out b hb).1,(HFX.out b hb).2.1⟩,by have:=HSZ.out;omega,rd_six HRX.out (by omega) _ _ _ _ _ _,by omega,zAS HCX.out (by omega) _ _ _ _ _ _,hm0,by omega⟩
   ·have d1:decide (m≤5)=false:=decide_eq_false hm5
    clear hm5 z0 z1 z2 z3 z4 z5
    obtain ⟨-,-,-,-,-,z5,-⟩:=KPr.out.c6
    have e0:=(KD.out.cell 0).trans (show _=some (.int .i64 a.op) from by simp)
    have e1:=(KD.out.cell 1).trans (show _=some (.int .i64 a.ct) from by simp)
    have e2:=(KD.out.cell 2).trans (show _=some (.int .i64 a.n) from by simp)
    have e3:=(KD.out.cell 3).trans (show _=some (.int .i64 a.m) from by simp)
    have e4:=(KD.out.cell 4).trans (show _=some (.int .i64 a.va) from by simp)
    have e5:=(KD.out.cell 5).trans (show _=some (.slice kA vs.length kcap) from by simp)
    have elt:=KD.out.lt
    have rc0:=(KRr.out.cell 0).trans (show _=some (.int .i64 0) from by simp)
    have rf0:=KRr.out.frozen 0
    have rc1:=(KRr.out.cell 1).trans (show _=some (.int .i64 0) from by simp)
    have rf1:=KRr.out.frozen 1
    have rc2:=(KRr.out.cell 2).trans (show _=some (.int .i64 0) from by simp)
    have rf2:=KRr.out.frozen 2
    have rc3:=(KRr.out.cell 3).trans (show _=some (.int .i64 0) from by simp)
    have rf3:=KRr.out.frozen 3
    have rc4:=(KRr.out.cell 4).trans (show _=some (.int .i64 0) from by simp)
    have rf4:=KRr.out.frozen 4
    have rc5:=(KRr.out.cell 5).trans (show _=some (.slice none 0 0) from by simp)
    have rf5:=KRr.out.frozen 5
    have rlt:=KRr.out.lt
    go_wp2
    clear rc0 rf0 rc1 rf1 rc2 rf2 rc3 rf3 rc4 rf4 rc5 rf5 rlt
    refine bodyPost_ret (zAC rfl _ _ (w.heap.size+1) 28 #[a.op,a.ct,a.n,a.m,a.va,.slice kA vs.length kcap] (0,0) _ rfl (KRr.out.six _ _ _ _ _ _) Try.underlying28 rfl rfl) rfl ?_
    have hkp:Kept FF wr _:=kept_six (w:=wr) (H:=w.heap.size+1) (fun b hb=>(HF3.out b hb).2.2) (.int .i64 a.op) (.int .i64 a.ct) (.int .i64 a.n) (.int .i64 a.m) (.int .i64 a.va) (.slice kA vs.length kcap)
    exact ⟨⟨a.op,a.ct,a.n,a.m,a.va,vs⟩,[a.op,a.ct,a.n,a.m,a.va,.slice kA vs.length kcap],FF,pq,m,rfl,PR.mono _ _ _ hkp HRP.out,fun b hb=>⟨by rw [size_six];exact (HF3.out b hb).1,(HF3.out b hb).2.1⟩,by have:=HSZ.out;omega,rd_six HRq.out (by omega) _ _ _ _ _ _,by omega,zAS HCw.out (by omega) _ _ _ _ _ _,hm0,by omega⟩
set_option maxHeartbeats 8000000 in
theorem l3Name_any (a:P) (ih:∀ k∈a.ks,NameP k) (w:World) (p g:Nat) (n:Int) (cs:List Value) (G:List Nat) (hr:Rd w g p) (hp:p+2*nodesP a≤900000) (hn0:0≤n) (hn1:n+2*(nodesP a:Int)≤1000000) (hv:PR w a cs G) (hG:Under w G) (hGg:∀ b∈G,b≠g) (h5:decide (n>5)=false) (q5:(a.op==5)=false) (q3:(a.op==3)=false) (q1:(a.op==1)=true) :
  Calls Try.prog 90 #[.pointer (some ⟨g,0,none⟩),.agg cs.toArray,.int .i64 n] w (DrewPN (2*nodesP a) p (2*nodesP a) g (n+2*(nodesP a:Int)) G w):=by
 obtain ⟨kv,rfl,ha⟩:=(zAA _ _ _).1 hv
 obtain ⟨A4,cap4,rfl,hc3,hc4⟩:=ha.form
 have IH:=jj ih
 have hgl:=hr.lt
 have hnp:1≤nodesP a:=by unfold nodesP;omega
 have hka:=kidSum_all a (zz8 a.ks.length)
 have hkl:a.ks.length≤1000000:=by
  have h1:=P.sizes_eq a.ks
  have h2:=zAB a
  omega
 have hB0:Below w w ((w.alloc (.cells #[a.op,a.ct,a.n,a.m,a.va,.slice A4 a.ks.length cap4] 28)).alloc (.cells #[(0:Int),(0:Int),(0:Int),(0:Int),(0:Int),.slice none 0 0] 28)):=((zy2 _ _).alloc (zz8 _) _).alloc (by simp) _
 have KP:Hid (Blk ((w.alloc (.cells #[a.op,a.ct,a.n,a.m,a.va,.slice A4 a.ks.length cap4] 28)).alloc (.cells #[(0:Int),(0:Int),(0:Int),(0:Int),(0:Int),.slice none 0 0] 28)) w.heap.size 28 #[a.op,a.ct,a.n,a.m,a.va,.slice A4 a.ks.length cap4]):=(Blk.new w _ _).same (Below.heap_alloc _ _ _ (by simp))
 have KR:Hid (Blk ((w.alloc (.cells #[a.op,a.ct,a.n,a.m,a.va,.slice A4 a.ks.length cap4] 28)).alloc (.cells #[(0:Int),(0:Int),(0:Int),(0:Int),(0:Int),.slice none 0 0] 28)) (w.heap.size+1) 28 #[(0:Int),(0:Int),(0:Int),(0:Int),(0:Int),.slice none 0 0]):=zA9 w _ 28 _
 have HR:=jj (hr.below hB0)
 have hz2:((w.alloc (.cells #[a.op,a.ct,a.n,a.m,a.va,.slice A4 a.ks.length cap4] 28)).alloc (.cells #[(0:Int),(0:Int),(0:Int),(0:Int),(0:Int),.slice none 0 0] 28)).heap.size=w.heap.size+2:=by simp
 have HC0:Hid (Chg [g] w ((w.alloc (.cells #[a.op,a.ct,a.n,a.m,a.va,.slice A4 a.ks.length cap4] 28)).alloc (.cells #[(0:Int),(0:Int),(0:Int),(0:Int),(0:Int),.slice none 0 0] 28))):=.of_below hB0
 have HV0:=jj (hv.below hB0 hG)
 have HUN:Hid (∀ b∈G,b<((w.alloc (.cells #[a.op,a.ct,a.n,a.m,a.va,.slice A4 a.ks.length cap4] 28)).alloc (.cells #[(0:Int),(0:Int),(0:Int),(0:Int),(0:Int),.slice none 0 0] 28)).heap.size∧(b∈G∨w.heap.size≤b)∧b≠w.heap.size+1):=fun b hb=>⟨by have:=hG b hb;omega,.inl hb,by have:=hG b hb;omega⟩
 have HA:=jj ha
 have HV:=jj hv
 have HRw:=jj hr
 have HG:=jj hG
 have HGg:=jj hGg
 have HG1:Hid (∀ b,g<b→b∉[g]):=fun b hb h=>by rw [zy1] at h;omega
 clear ih hr hv ha hG hGg hB0
 go_enter Try.func90,Try.ntmps90
 go_wp2_with fail
 obtain ⟨w2,hw2⟩:∃ X,X=((w.alloc (.cells #[a.op,a.ct,a.n,a.m,a.va,.slice A4 a.ks.length cap4] 28)).alloc (.cells #[(0:Int),(0:Int),(0:Int),(0:Int),(0:Int),.slice none 0 0] 28)):=⟨_,rfl⟩
 rw [←hw2] at KP KR HR hz2 HC0 HV0 HUN ⊢
 clear hw2
 obtain ⟨z0,z1,z2,z3,z4,z5,zlt⟩:=KP.out.c6
 refine (zAG 2 p g w2 HR.out (by omega) (by omega) (by omega)).mono ?_
 rintro e w3 ⟨r,rfl,-,hR3,hC3⟩
 have KP3:=jj (KP.out.same (hC3.block _ KP.out.lt (HG1.out _ hgl)))
 have KR3:=jj (KR.out.same (hC3.block _ KR.out.lt (HG1.out _ (by omega))))
 have HC3:=jj (HC0.out.trans hC3)
 have HR3:=jj hR3
 have hz3:=hC3.size
 clear z0 z1 z2 z3 z4 z5 zlt hR3 hC3 KP KR HC0 HR HV0 HUN
 obtain ⟨p3,hp3⟩:∃ q,q=p+1:=⟨_,rfl⟩
 rw [←hp3] at HR3
 cases qr:((r:Int)==0) with
 |true =>
  have hnw:IntKind.i64.wrap (n+1)=n+1:=IntWalk.i64_in _ (by omega)
  have HE:Hid (∀ b∈([]:List Nat),b<w3.heap.size∧(b∈G∨w.heap.size≤b)∧b≠w.heap.size+1):=fun b hb=>by cases hb
  have rc0:=(KR3.out.cell 0).trans (show _=some (.int .i64 0) from by simp)
  have rf0:=KR3.out.frozen 0
  have rc1:=(KR3.out.cell 1).trans (show _=some (.int .i64 0) from by simp)
  have rf1:=KR3.out.frozen 1
  have rc2:=(KR3.out.cell 2).trans (show _=some (.int .i64 0) from by simp)
  have rf2:=KR3.out.frozen 2
  have rc3:=(KR3.out.cell 3).trans (show _=some (.int .i64 0) from by simp)
  have rf3:=KR3.out.frozen 3
  have rc4:=(KR3.out.cell 4).trans (show _=some (.int .i64 0) from by simp)
  have rf4:=KR3.out.frozen 4
  have rc5:=(KR3.out.cell 5).trans (show _=some (.slice none 0 0) from by simp)
  have rf5:=KR3.out.frozen 5
  have rlt:=KR3.out.lt
  go_wp2
  clear rc0 rf0 rc1 rf1 rc2 rf2 rc3 rf3 rc4 rf4 rc5 rf5 rlt
  refine bodyPost_ret (zAC rfl _ _ (w.heap.size+1) 28 #[(2:Int),(0:Int),(0:Int),(0:Int),.int .i64 n,.slice none 0 0] (0,0) _ rfl (KR3.out.six _ _ _ _ _ _) Try.underlying28 rfl rfl) rfl ?_
  have hkp:Kept ([]:List Nat) w3 _:=kept_six (w:=w3) (H:=w.heap.size+1) (fun b hb=>(HE.out b hb).2.2) (.int .i64 2) (.int .i64 0) (.int .i64 0) (.int .i64 0) (.int .i64 n) (.slice none 0 0)
  exact ⟨⟨2,0,0,0,n,[]⟩,[(2:Int),(0:Int),(0:Int),(0:Int),.int .i64 n,.slice none 0 0],([]:List Nat),p3,(n+1),rfl,PR.mono _ _ _ hkp ((zAA _ _ _).2 ⟨_,rfl,Arr.nil⟩),fun b hb=>⟨by rw [size_six];exact (HE.out b hb).1,(HE.out b hb).2.1⟩,by simp [nodesP,P.size,P.sizes];omega,rd_six HR3.out (by omega) _ _ _ _ _ _,by omega,zAS HC3.out (by omega) _ _ _ _ _ _,by omega,by omega⟩
 |false =>
  have KP3:=jj KP3.out
  obtain ⟨z0,z1,z2,z3,z4,z5,zlt⟩:=KP3.out.c6
  go_wp2
  clear qr
  obtain ⟨w9,hw9⟩:∃ X,X=(w3.alloc (.cells #[a.op,a.ct,a.n,a.m,a.va,.slice none 0 0] 28)):=⟨_,rfl⟩
  obtain ⟨D,hD⟩:∃ D,D=w3.heap.size:=⟨_,rfl⟩
  have hDw:D=w3.heap.size:=hD
  have KN9:Hid (Blk w9 D 28 #[a.op,a.ct,a.n,a.m,a.va,.slice none 0 0]):=by rw [hw9,hDw];exact Blk.new w3 28 _
  have hk9:∀ b,b<D→w9.heap[b]?=w3.heap[b]?:=fun b hb=>by rw [hw9,Below.heap_alloc _ _ _ (by omega)]
  have hs9:w9.heap.size=D+1:=by rw [hw9,hDw];simp
  have HC9:Hid (Chg [g] w w9):=by rw [hw9];exact HC3.out.alloc _
  have hD2:w.heap.size+2≤D:=by omega
  rw [←hD]
  rw [←hw9]
  clear hDw
  clear hw9
  have KP9:=jj (KP3.out.same (hk9 _ (by omega)))
  have KR9:=jj (KR3.out.same (hk9 _ (by omega)))
  have HR9:=jj (HR3.out.keep (w':=w9) (fun b hb=>hk9 b (by omega)))
  clear z0 z1 z2 z3 z4 z5 zlt
  clear hk9 KP3 KR3 HC3 HR3 hD
  obtain ⟨i0,hi,hz0,hz1,hz2'⟩:=info_parts info_PE
  have HI:=jj hi
  have HZ0:=jj hz0
  have HZ1:=jj hz1
  have HZ2x:=jj hz2'
  clear hi hz0 hz1 hz2'
  go_loopw [9,10] (fun mv iv wr=>∃ q:Nat,∃ m:Int,∃ kv:Value,∃ Fk:List Nat,∃ vs:List P,∃ pq:Nat,q≤a.ks.length∧iv=.int .i64 q∧mv=.int .i64 m∧Hid (vs.length=q)∧Hid (P.sizes vs≤2*kidSum a q)∧Hid (Blk wr D 28 #[a.op,a.ct,a.n,a.m,a.va,kv])∧Hid (Own wr (D+1) 28 6 PR vs kv Fk)∧Hid (∀ b∈Fk,b∈G∨D+1≤b)∧Hid (Chg [D,g] w9 wr)∧Hid (Chg [g] w wr)∧w9.heap.size≤wr.heap.size∧Hid (Rd wr g pq)∧pq≤p3+2*kidSum a q∧0≤m∧m≤n+2*((kidSum a q:Nat):Int)) (fun _ iv _=>a.ks.length-(intOf iv).toNat)
  case atStart=>exact ⟨0,n,_,[],[],p3,Nat.zero_le _,rfl,rfl,rfl,Nat.zero_le _,KN9,Own.nil _ _ _ _ _,(fun b hb=>by cases hb),Chg.refl _ _,HC9,zz8 _,HR9,by omega,hn0,by omega⟩
  case round =>
   clear HC9 KN9 HR9
   obtain ⟨q,m,kv,Fk,vs,pq,hql,rfl,rfl,HVL,HVS,KD,HO,HFh,HC,HCw,hws9,HRq,hpq,hm0,hm1⟩:=hrel
   obtain ⟨kA,kcap,hkv,hkc1,hkc2⟩:=HO.out.form
   subst hkv
   have hDg:∀ b,g<b→b≠D→b∉[D,g]:=fun b h1 h2 h=>by
    rcases List.mem_cons.1 h with h3 | h3
    ·exact h2 h3
    ·rw [zy1] at h3;omega
   have KPr:=jj (KP9.out.same (HC.out.block _ KP9.out.lt (hDg _ hgl (by omega))))
   have KRr:=jj (KR9.out.same (HC.out.block _ KR9.out.lt (hDg _ (by omega) (by omega))))
   have HFk:Hid (∀ b∈Fk,b≠D∧b≠g):=fun b hb=>by
    rcases HFh.out b hb with h | h
    ·exact ⟨by have:=HG.out b h;omega,HGg.out b h⟩
    ·exact ⟨by omega,by omega⟩
   have HAr:Hid (Arr wr (PR wr) a.ks (.slice A4 a.ks.length cap4) G):=ArrP.mono HA.out (HCw.out.kept HG.out (fun b hb h=>by rw [zy1] at h;exact HGg.out b hb h))
   have HGr:Hid (Under wr G):=HG.out.mono HCw.out.size
   have klt:=KD.out.lt
   clear hDg
   obtain ⟨z0,z1,z2,z3,z4,z5,zlt⟩:=KPr.out.c6
   by_cases hil:q<a.ks.length
   ·have g1:(0:Int)≤(q:Int):=by omega
    have g2:(q:Int)<(a.ks.length:Int):=by omega
    obtain ⟨b4,off4,rfl⟩:=HAr.out.ptr (by omega)
    obtain ⟨A7,cap7,G7,hb7,c0,c1,c2,c3,c4,c5,HV7,HG7,hsub,-,-⟩:=ArrP.at HAr.out HGr.out (zy2 _ _) q hil
    have HSUB:=jj hsub
    have hks:=kidSum_succ a q hil
    have hkle:=kidSum_le a (q+1)
    have hvl:=HVL.out
    have hvl3:vs.length≤1000000:=by omega
    clear hvl hsub
    have HME:Hid (a.ks[q]∈a.ks):=List.getElem_mem hil
    have HCALL:=jj (IH.out a.ks[q] HME.out wr pq g m _ G7 HRq.out (by omega) hm0 (by omega) HV7.out HG7.out (fun b hb=>HGg.out b (HSUB.out b hb)))
    go_wp2_with fail
    refine HCALL.out.mono ?_
    rintro e wA ⟨vA,csA,FA,qA,mA,rfl,hpA,hfA,hnA,hRA,hqA,hCA,hmA0,hmA1⟩
    obtain ⟨kvA,rfl,haA⟩:=(zAA _ _ _).1 hpA
    obtain ⟨A8,cap8,rfl,-,-⟩:=haA.form
    have hmx:vs.length+1≤maxLen:=by unfold maxLen;omega
    have hby:(vs.length+1)*64≤140737488355328:=by omega
    have hb9:Below wA wA (wA.alloc (.cells #[vA.op,vA.ct,vA.n,vA.m,vA.va,.slice A8 vA.ks.length cap8] 28)):=(zy2 _ _).alloc (zz8 _) _
    have HBu:Hid (Chg [g] wr (wA.alloc (.cells #[vA.op,vA.ct,vA.n,vA.m,vA.va,.slice A8 vA.ks.length cap8] 28))):=hCA.alloc _
    have HPb:=jj (hpA.below hb9 (fun b hb=>(hfA b hb).1))
    have hDg1:D∉[g]:=HG1.out _ (by omega)
    have KDA:=hCA.block _ klt hDg1
    have zT:wA.cell? ⟨D,5,none⟩=some (.slice kA vs.length kcap):=((KD.out.same KDA).cell 5).trans (by simp)
    have hkA:=(KD.out.same KDA).lt
    have zfT:wA.frozen? ⟨D,5,none⟩=false:=(KD.out.same KDA).frozen 5
    have HFA:Hid (∀ b∈FA,b<wA.heap.size∧(b∈G∨wr.heap.size≤b)):=fun b hb=>⟨(hfA b hb).1,by rcases (hfA b hb).2 with h | h;exact .inl (HSUB.out b h);exact .inr h⟩
    have HFA2:Hid (∀ b∈FA,b≠D∧b≠g):=fun b hb=>by
     rcases (HFA.out b hb).2 with h | h
     ·exact ⟨by have:=HG.out b h;omega,HGg.out b h⟩
     ·exact ⟨by omega,by omega⟩
    have HFA3:Hid (∀ x∈rowOf (.slice kA vs.length kcap),x∉FA):=fun x hx h=>by
     have h1:=HO.out.row x hx
     rcases (HFA.out x h).2 with h2 | h2
     ·have:=HG.out x h2;omega
     ·omega
    have HRA:=jj (hRA.below hb9)
    have HNA:=jj hnA
    have HOb:Hid (Own (wA.alloc (.cells #[vA.op,vA.ct,vA.n,vA.m,vA.va,.slice A8 vA.ks.length cap8] 28)) (D+1) 28 6 PR vs (.slice kA vs.length kcap) Fk):=HO.out.chg2 PR_mono' HBu.out (fun b hb=>by rw [zy1] at hb;omega) (fun b hb h=>by rw [zy1] at h;exact (HFk.out b hb).2 h)
    have hsz:D+1≤(wA.alloc (.cells #[vA.op,vA.ct,vA.n,vA.m,vA.va,.slice A8 vA.ks.length cap8] 28)).heap.size:=by have:=HBu.out.size;omega
    clear z0 z1 z2 z3 z4 z5 zlt c0 c1 c2 c3 c4 c5 hpA hfA hnA hRA haA KDA HCALL hb7
    go_wp2_with (at_builtin;refine Halt.mk ?_)
    refine Halt.of (zA6 (P:=Try.prog) rfl _ _ 26 rfl i0 _ 64 Try.underlying26 HI.out HZ0.out HZ1.out HZ2x.out rfl (by decide) PR_len' PR_mono' (by rfl) HOb.out vA 28 [vA.op,vA.ct,vA.n,vA.m,vA.va,.slice A8 vA.ks.length cap8] FA _ (by rfl) (by simp) (by simp [Value.oneCell']) HPb.out (fun b hb=>by rw [World.size_alloc];have:=(HFA.out b hb).1;omega) HFA3.out hmx hby hsz ?_)
    intro gz cp w7 hown7 hgr7 hat7
    have hrow:=HOb.out.row
    have n7:some D≠(Value.ownBlock (.slice kA vs.length kcap)):=fun e=>by have:=(hrow D (zA2.2 e.symm)).1;omega
    have hl7:D<((wA.alloc (.cells #[vA.op,vA.ct,vA.n,vA.m,vA.va,.slice A8 vA.ks.length cap8] 28)).alloc (.cells [.int .i64 vA.op,.int .i64 vA.ct,.int .i64 vA.n,.int .i64 vA.m,.int .i64 vA.va,.slice A8 vA.ks.length cap8].toArray 28)).heap.size:=by rw [World.size_alloc,World.size_alloc];omega
    have z71:w7.cell? ⟨D,5,none⟩=some (.slice kA vs.length kcap):=(World.grownBy.cell_far hgr7 ⟨D,5,none⟩ hl7 n7).trans ((World.cell?_alloc_lt _ _ _ (by rw [World.size_alloc];show D<_;omega)).trans ((World.cell?_alloc_lt _ _ _ (show D<wA.heap.size from hkA)).trans zT))
    have zf71:w7.frozen? ⟨D,5,none⟩=false:=(World.grownBy.frozen_far hgr7 ⟨D,5,none⟩ hl7 n7).trans (Eq.trans (World.frozen?_of_block (Below.heap_alloc _ _ _ (by rw [World.size_alloc];show D<_;omega))) (Eq.trans (World.frozen?_of_block (Below.heap_alloc _ _ _ (show D<wA.heap.size from hkA))) zfT))
    obtain ⟨r1,r2,r3,r4,r5,r6,r7⟩:=kid_round4 (w:=w) 5 PR_mono' hs9 (Nat.lt_succ_self D) hgl (by omega) KD.out HO.out HFk.out HC.out HCw.out HBu.out HFA2.out hown7 hgr7 HRA.out
    have R1:=jj r1
    have R2:=jj r2
    have R4:=jj r4
    have R5:=jj r5
    have R7:=jj r7
    have R3:Hid (∀ b∈Fk ++ FA,b∈G∨D+1≤b):=fun b hb=>by
     rcases List.mem_append.1 hb with h | h
     ·exact HFh.out b h
     ·rcases (HFA.out b h).2 with h2 | h2
      ·exact .inl h2
      ·exact .inr (by omega)
    have HV2:Hid ((vs ++ [vA]).length=q+1):=by have:=HVL.out;unfold Hid;rw [List.length_append];simp only [List.length_cons,List.length_nil];omega
    have HS2:Hid (P.sizes (vs ++ [vA])≤2*kidSum a (q+1)):=by unfold Hid;rw [hks];exact psizes_snoc2 vs vA _ _ HVS.out HNA.out
    have HKS:=jj hks
    have h7D:D<w7.heap.size:=zz9 hl7 hgr7.size
    clear r1 r2 r3 r4 r5 r7 hown7 hgr7 hat7 hrow n7 hl7 zT zfT hks
    go_wp2
    go_roundw
    case rel=>exact ⟨q+1,mA,_,_,vs ++ [vA],qA,hil,by go_num,rfl,HV2,HS2,R1,(by rw [show (vs ++ [vA]).length=vs.length+1 from by rw [List.length_append];rfl] at *;exact R2),R3,R4,R5,r6,R7,by have:=HKS.out;omega,hmA0,by have:=HKS.out;push_cast [this];omega⟩
    case measure=>(simp [intOf] <;> omega)
   ·obtain ⟨FF,hf1,hf3⟩:=kid_done4 (D:=D) (g:=g) HO.out HFk.out (Nat.lt_succ_self D) (by omega)
    have HF1:=jj hf1
    have HF3:Hid (∀ b∈FF,b<wr.heap.size∧(b∈G∨w.heap.size≤b)∧b≠w.heap.size+1):=fun b hb=>by
     have h:=hf3 b hb
     rcases h.2.2.2 with h2 | h2
     ·rcases HFh.out b h2 with h3 | h3
      ·exact ⟨h.2.2.1,.inl h3,by have:=HG.out b h3;omega⟩
      ·exact ⟨h.2.2.1,.inr (by omega),by omega⟩
     ·exact ⟨h.2.2.1,.inr (by omega),by omega⟩
    have HFg:Hid (∀ b∈FF,b∉[g]):=fun b hb h=>by rw [zy1] at h;exact (hf3 b hb).2.1 h
    have hq:q=a.ks.length:=by omega
    have HSZ:Hid (nodesP ⟨a.op,a.ct,a.n,a.m,a.va,vs⟩≤2*nodesP a-1):=by have h1:=HVS.out;rw [hq] at h1;unfold Hid;rw [zAB];simp only;omega
    have HRP:Hid (PR wr ⟨a.op,a.ct,a.n,a.m,a.va,vs⟩ [a.op,a.ct,a.n,a.m,a.va,.slice kA vs.length kcap] FF):=(zAA _ _ _).2 ⟨_,rfl,HF1.out⟩
    rw [hq] at hpq hm1
    clear hf1 hf3 hq
    by_cases hm5:m≤5
    ·have d1:decide (m≤5)=true:=decide_eq_true hm5
     clear hm5
     go_wp2_with fail
     refine (zAG 6 pq g wr HRq.out (by omega) (by omega) (by omega)).mono ?_
     rintro e w10 ⟨r10,rfl,-,hR10,hC10⟩
     have KDX:=jj (KD.out.same (hC10.block _ klt (HG1.out _ (by omega))))
     have KRX:=jj (KRr.out.same (hC10.block _ KRr.out.lt (HG1.out _ (by omega))))
     have HCX:=jj (HCw.out.trans hC10)
     have HRX:=jj hR10
     have hzX:=hC10.size
     have HRPX:=jj (PR.mono _ _ _ (hC10.kept (fun b hb=>(HF3.out b hb).1) HFg.out) HRP.out)
     have HFX:Hid (∀ b∈FF,b<w10.heap.size∧(b∈G∨w.heap.size≤b)∧b≠w.heap.size+1):=fun b hb=>⟨zz9 (HF3.out b hb).1 hzX,(HF3.out b hb).2⟩
     clear z0 z1 z2 z3 z4 z5 zlt hR10 hC10
     cases q10:((r10:Int)==0) with
     |true =>
      have hmw:IntKind.i64.wrap (m+1)=m+1:=IntWalk.i64_in _ (by omega)
      have e0:=(KDX.out.cell 0).trans (show _=some (.int .i64 a.op) from by simp)
      have e1:=(KDX.out.cell 1).trans (show _=some (.int .i64 a.ct) from by simp)
      have e2:=(KDX.out.cell 2).trans (show _=some (.int .i64 a.n) from by simp)
      have e3:=(KDX.out.cell 3).trans (show _=some (.int .i64 a.m) from by simp)
      have e4:=(KDX.out.cell 4).trans (show _=some (.int .i64 a.va) from by simp)
      have e5:=(KDX.out.cell 5).trans (show _=some (.slice kA vs.length kcap) from by simp)
      have elt:=KDX.out.lt
      have rc0:=(KRX.out.cell 0).trans (show _=some (.int .i64 0) from by simp)
      have rf0:=KRX.out.frozen 0
      have rc1:=(KRX.out.cell 1).trans (show _=some (.int .i64 0) from by simp)
      have rf1:=KRX.out.frozen 1
      have rc2:=(KRX.out.cell 2).trans (show _=some (.int .i64 0) from by simp)
      have rf2:=KRX.out.frozen 2
      have rc3:=(KRX.out.cell 3).trans (show _=some (.int .i64 0) from by simp)
      have rf3:=KRX.out.frozen 3
      have rc4:=(KRX.out.cell 4).trans (show _=some (.int .i64 0) from by simp)
      have rf4:=KRX.out.frozen 4
      have rc5:=(KRX.out.cell 5).trans (show _=some (.slice none 0 0) from by simp)
      have rf5:=KRX.out.frozen 5
      have rlt:=KRX.out.lt
      go_wp2
      clear rc0 rf0 rc1 rf1 rc2 rf2 rc3 rf3 rc4 rf4 rc5 rf5 rlt
      obtain ⟨w6,hw6⟩:∃ X,X=((((((w10.setCell ⟨w.heap.size+1,0,none⟩ (.int .i64 6)).setCell ⟨w.heap.size+1,1,none⟩ (.int .i64 0)).setCell ⟨w.heap.size+1,2,none⟩ (.int .i64 0)).setCell ⟨w.heap.size+1,3,none⟩ (.int .i64 0)).setCell ⟨w.heap.size+1,4,none⟩ (.int .i64 m)).setCell ⟨w.heap.size+1,5,none⟩ (.slice (some ⟨w10,0,none⟩) 1 1)):=⟨_,rfl⟩
      have hs6:w6.heap.size=w10.heap.size:=by rw [hw6,size_six]
      have K6:Hid (Blk w6 (w.heap.size+1) 28 #[(6:Int),(0:Int),(0:Int),(0:Int),.int .i64 m,.slice (some ⟨w10,0,none⟩) 1 1]):=by rw [hw6];exact KRX.out.six _ _ _ _ _ _
      have hkp:Kept FF w10 w6:=by rw [hw6];exact kept_six (w:=w10) (H:=w.heap.size+1) (fun b hb=>(HFX.out b hb).2.2) _ _ _ _ _ _
      have HP6:=jj (PR.mono _ _ _ hkp HRPX.out)
      have HR6:Hid (Rd w6 g (pq+1)):=by rw [hw6];exact rd_six HRX.out (by omega) _ _ _ _ _ _
      have HC6:Hid (Chg [g] w w6):=by rw [hw6];exact zAS HCX.out (by omega) _ _ _ _ _ _
      rw [←hw6]
      clear hw6 hkp
      have hbW:Below w6 w6 (w6.alloc (.cells #[a.op,a.ct,a.n,a.m,a.va,.slice kA vs.length kcap] 28)):=(zy2 _ _).alloc (zz8 _) _
      have KAW:Hid (Blk (w6.alloc (.cells #[a.op,a.ct,a.n,a.m,a.va,.slice kA vs.length kcap] 28)) w10.heap.size 28 #[a.op,a.ct,a.n,a.m,a.va,.slice kA vs.length kcap]):=by rw [←hs6];exact Blk.new _ _ _
      have KRW:=jj (K6.out.same (hbW.block _ K6.out.lt))
      have HCW:=jj (HC6.out.step hbW)
      have HRW:=jj (HR6.out.below hbW)
      have HPW:=jj (HP6.out.below hbW (fun b hb=>by rw [hs6];exact (HFX.out b hb).1))
      have hsW:(w6.alloc (.cells #[a.op,a.ct,a.n,a.m,a.va,.slice kA vs.length kcap] 28)).heap.size=w10.heap.size+1:=by rw [World.size_alloc,hs6]
      generalize (w6.alloc (.cells #[a.op,a.ct,a.n,a.m,a.va,.slice kA vs.length kcap] 28))=wW at *
      have HFW:Hid (∀ b∈w10.heap.size :: FF,b<wW.heap.size∧(b∈G∨w.heap.size≤b)):=fun b hb=>by
       rcases List.mem_cons.1 hb with h | h
       ·exact ⟨by omega,.inr (by omega)⟩
       ·have:=HFX.out b h;exact ⟨by omega,this.2.1⟩
      have HAW:Hid (PR wW ⟨6,0,0,0,m,[⟨a.op,a.ct,a.n,a.m,a.va,vs⟩]⟩ [(6:Int),(0:Int),(0:Int),(0:Int),.int .i64 m,.slice (some ⟨w10,0,none⟩) 1 1] (w10.heap.size :: FF)):=(zAA _ _ _).2 ⟨_,rfl,arr_pat1 KAW.out HPW.out⟩
      have HSW:Hid (nodesP ⟨6,0,0,0,m,[⟨a.op,a.ct,a.n,a.m,a.va,vs⟩]⟩≤2*nodesP a):=by have h1:=HSZ.out;unfold Hid;rw [zAB];simp only [P.sizes];unfold nodesP at h1 ⊢;omega
      refine bodyPost_ret (zAC rfl _ _ (w.heap.size+1) 28 #[(6:Int),(0:Int),(0:Int),(0:Int),.int .i64 m,.slice (some ⟨w10,0,none⟩) 1 1] (0,0) _ rfl KRW.out Try.underlying28 rfl rfl) rfl ?_
      exact ⟨⟨6,0,0,0,m,[⟨a.op,a.ct,a.n,a.m,a.va,vs⟩]⟩,[(6:Int),(0:Int),(0:Int),(0:Int),.int .i64 m,.slice (some ⟨w10,0,none⟩) 1 1],(w10.heap.size :: FF),pq+1,(m+1),rfl,HAW.out,HFW.out,HSW.out,HRW.out,by omega,HCW.out,by omega,by omega⟩
     |false =>
      have e0:=(KDX.out.cell 0).trans (show _=some (.int .i64 a.op) from by simp)
      have e1:=(KDX.out.cell 1).trans (show _=some (.int .i64 a.ct) from by simp)
      have e2:=(KDX.out.cell 2).trans (show _=some (.int .i64 a.n) from by simp)
      have e3:=(KDX.out.cell 3).trans (show _=some (.int .i64 a.m) from by simp)
      have e4:=(KDX.out.cell 4).trans (show _=some (.int .i64 a.va) from by simp)
      have e5:=(KDX.out.cell 5).trans (show _=some (.slice kA vs.length kcap) from by simp)
      have elt:=KDX.out.lt
      have rc0:=(KRX.out.cell 0).trans (show _=some (.int .i64 0) from by simp)
      have rf0:=KRX.out.frozen 0
      have rc1:=(KRX.out.cell 1).trans (show _=some (.int .i64 0) from by simp)
      have rf1:=KRX.out.frozen 1
      have rc2:=(KRX.out.cell 2).trans (show _=some (.int .i64 0) from by simp)
      have rf2:=KRX.out.frozen 2
      have rc3:=(KRX.out.cell 3).trans (show _=some (.int .i64 0) from by simp)
      have rf3:=KRX.out.frozen 3
      have rc4:=(KRX.out.cell 4).trans (show _=some (.int .i64 0) from by simp)
      have rf4:=KRX.out.frozen 4
      have rc5:=(KRX.out.cell 5).trans (show _=some (.slice none 0 0) from by simp)
      have rf5:=KRX.out.frozen 5
      have rlt:=KRX.out.lt
      go_wp2
      clear rc0 rf0 rc1 rf1 rc2 rf2 rc3 rf3 rc4 rf4 rc5 rf5 rlt
      refine bodyPost_ret (zAC rfl _ _ (w.heap.size+1) 28 #[a.op,a.ct,a.n,a.m,a.va,.slice kA vs.length kcap] (0,0) _ rfl (KRX.out.six _ _ _ _ _ _) Try.underlying28 rfl rfl) rfl ?_
      have hkp:Kept FF w10 _:=kept_six (w:=w10) (H:=w.heap.size+1) (fun b hb=>(HFX.out b hb).2.2) (.int .i64 a.op) (.int .i64 a.ct) (.int .i64 a.n) (.int .i64 a.m) (.int .i64 a.va) (.slice kA vs.length kcap)
      exact ⟨⟨a.op,a.ct,a.n,a.m,a.va,vs⟩,[a.op,a.ct,a.n,a.m,a.va,.slice kA vs.length kcap],FF,pq+1,m,rfl,PR.mono _ _ _ hkp HRPX.out,fun b hb=>⟨by rw [size_six];exact (HFX.out b hb).1,(HFX.out b hb).2.1⟩,by have:=HSZ.out;omega,rd_six HRX.out (by omega) _ _ _ _ _ _,by omega,zAS HCX.out (by omega) _ _ _ _ _ _,hm0,by omega⟩
    ·have d1:decide (m≤5)=false:=decide_eq_false hm5
     clear hm5 z0 z1 z2 z3 z4 z5
     obtain ⟨-,-,-,-,-,z5,-⟩:=KPr.out.c6
     have e0:=(KD.out.cell 0).trans (show _=some (.int .i64 a.op) from by simp)
     have e1:=(KD.out.cell 1).trans (show _=some (.int .i64 a.ct) from by simp)
     have e2:=(KD.out.cell 2).trans (show _=some (.int .i64 a.n) from by simp)
     have e3:=(KD.out.cell 3).trans (show _=some (.int .i64 a.m) from by simp)
     have e4:=(KD.out.cell 4).trans (show _=some (.int .i64 a.va) from by simp)
     have e5:=(KD.out.cell 5).trans (show _=some (.slice kA vs.length kcap) from by simp)
     have elt:=KD.out.lt
     have rc0:=(KRr.out.cell 0).trans (show _=some (.int .i64 0) from by simp)
     have rf0:=KRr.out.frozen 0
     have rc1:=(KRr.out.cell 1).trans (show _=some (.int .i64 0) from by simp)
     have rf1:=KRr.out.frozen 1
     have rc2:=(KRr.out.cell 2).trans (show _=some (.int .i64 0) from by simp)
     have rf2:=KRr.out.frozen 2
     have rc3:=(KRr.out.cell 3).trans (show _=some (.int .i64 0) from by simp)
     have rf3:=KRr.out.frozen 3
     have rc4:=(KRr.out.cell 4).trans (show _=some (.int .i64 0) from by simp)
     have rf4:=KRr.out.frozen 4
     have rc5:=(KRr.out.cell 5).trans (show _=some (.slice none 0 0) from by simp)
     have rf5:=KRr.out.frozen 5
     have rlt:=KRr.out.lt
     go_wp2
     clear rc0 rf0 rc1 rf1 rc2 rf2 rc3 rf3 rc4 rf4 rc5 rf5 rlt
     refine bodyPost_ret (zAC rfl _ _ (w.heap.size+1) 28 #[a.op,a.ct,a.n,a.m,a.va,.slice kA vs.length kcap] (0,0) _ rfl (KRr.out.six _ _ _ _ _ _) Try.underlying28 rfl rfl) rfl ?_
     have hkp:Kept FF wr _:=kept_six (w:=wr) (H:=w.heap.size+1) (fun b hb=>(HF3.out b hb).2.2) (.int .i64 a.op) (.int .i64 a.ct) (.int .i64 a.n) (.int .i64 a.m) (.int .i64 a.va) (.slice kA vs.length kcap)
     exact ⟨⟨a.op,a.ct,a.n,a.m,a.va,vs⟩,[a.op,a.ct,a.n,a.m,a.va,.slice kA vs.length kcap],FF,pq,m,rfl,PR.mono _ _ _ hkp HRP.out,fun b hb=>⟨by rw [size_six];exact (HF3.out b hb).1,(HF3.out b hb).2.1⟩,by have:=HSZ.out;omega,rd_six HRq.out (by omega) _ _ _ _ _ _,by omega,zAS HCw.out (by omega) _ _ _ _ _ _,hm0,by omega⟩
theorem l3Name_of (a:P) (ih:∀ k∈a.ks,NameP k):NameP a:=by
 intro w p g n cs G hr hp hn0 hn1 hv hG hGg
 cases h5:decide (n>5) with
 |true=>exact l3Name_top a ih w p g n cs G hr hp hn0 hn1 hv hG hGg h5
 |false =>
  cases q5:(a.op==5) with
  |true=>exact l3Name_or a ih w p g n cs G hr hp hn0 hn1 hv hG hGg h5 q5
  |false =>
   cases q3:(a.op==3) with
   |true=>exact l3Name_int a ih w p g n cs G hr hp hn0 hn1 hv hG hGg h5 q5 q3
   |false =>
    cases q1:(a.op==1) with
    |true=>exact l3Name_any a ih w p g n cs G hr hp hn0 hn1 hv hG hGg h5 q5 q3 q1
    |false=>exact l3Name_node a ih w p g n cs G hr hp hn0 hn1 hv hG hGg h5 q5 q3 q1
theorem spec_l3Name:∀ a,NameP a:=P.indv l3Name_of
theorem spec_l3Kids (op:Int) (h4:¬op=4) (w:World):Calls Try.prog 117 #[.int .i64 op] w fun e w'=>e=.returned (.int .i64 ((kidsN op:Nat):Int))∧w'=w:=by
 have t4:(op==4)=false:=by simpa using h4
 by_cases h5:op=5
 ·subst h5
  go_enter Try.func117,Try.ntmps117
  go_wp2
  go_ret
  exact ⟨rfl,rfl⟩
 ·have t5:(op==5)=false:=by simpa using h5
  by_cases h6:op=6
  ·subst h6
   go_enter Try.func117,Try.ntmps117
   go_wp2
   go_ret
   exact ⟨rfl,rfl⟩
  ·have t6:(op==6)=false:=by simpa using h6
   have hk:Hid (kidsN op=0):=by unfold Hid kidsN;rw [if_neg h5,if_neg h6]
   go_enter Try.func117,Try.ntmps117
   go_wp2
   go_ret
   exact ⟨by rw [hk.out];rfl,rfl⟩
theorem spec_l3Own (xs:List Dt) (hw:WorldOK xs) (t:Ty) (ht:TyIn xs.length t) (p:P) (w:World) (x:Value) (F:List Nat) (cs:List Value) (G:List Nat):Arr w (DtR w) xs x F→Under w F→PR w p cs G→Under w G →
  Calls Try.prog 99 #[x,.agg #[t.d,t.i],.agg cs.toArray] w fun e w'=>e=.returned (.bool (ownB xs t p))∧Below w w w':=by
 intro hx hf hv hg
 obtain ⟨kv,rfl,ha⟩:=(zAA _ _ _).1 hv
 obtain ⟨A,cap,rfl,hc1,hc2⟩:=hx.form
 obtain ⟨A4,cap4,rfl,hc3,hc4⟩:=ha.form
 have HV:=jj hv
 have HX:=jj hx
 have HF:=jj hf
 have HA:=jj ha
 have HG:=jj hg
 clear hx hf ha hg
 clear hv
 have HW:=jj hw
 have HT:=jj ht.inWorld
 clear hw ht HA HG HV
 obtain ⟨op,ct,n,m,va,ks⟩:=p
 simp only at hc3 hc4 ⊢
 have HB:Hid (Below w w ((w.alloc (.cells #[t.d,t.i] 25)).alloc (.cells #[.int .i64 op,.int .i64 ct,.int .i64 n,.int .i64 m,.int .i64 va,.slice A4 ks.length cap4] 28))):=((zy2 _ _).alloc (zz8 _) _).alloc (by simp) _
 by_cases o1:op=1
 ·subst o1
  by_cases v1:va=0
  ·have tv1:(va != 0)=false:=by simp [v1]
   by_cases n1:n=0
   ·have tn1:(n != 0)=false:=by simp [n1]
    by_cases m1:m=0
    ·have tm1:(m != 0)=false:=by simp [m1]
     by_cases c1:ct=0
     ·have tc1:(ct != 0)=false:=by simp [c1]
      have hf:Hid (ownB xs t ⟨1,ct,n,m,va,ks⟩=true):=by unfold Hid ownB namedB kindB;simp [v1,n1,m1,c1]
      go_enter Try.func99,Try.ntmps99
      go_wp2
      go_ret
      exact ⟨by subst_vars;exact zA0 hf.out.symm,((zy2 _ _).alloc (zz8 _) _).alloc (by simp) _⟩
     ·have tc1:(ct != 0)=true:=by simpa using c1
      have hf:Hid (ownB xs t ⟨1,ct,n,m,va,ks⟩=false):=by unfold Hid ownB namedB kindB;simp [v1,n1,m1,c1]
      go_enter Try.func99,Try.ntmps99
      go_wp2
      go_ret
      exact ⟨by subst_vars;exact zA0 hf.out.symm,((zy2 _ _).alloc (zz8 _) _).alloc (by simp) _⟩
    ·have tm1:(m != 0)=true:=by simpa using m1
     have hf:Hid (ownB xs t ⟨1,ct,n,m,va,ks⟩=false):=by unfold Hid ownB namedB kindB;simp [v1,m1]
     go_enter Try.func99,Try.ntmps99
     go_wp2
     go_ret
     exact ⟨by subst_vars;exact zA0 hf.out.symm,((zy2 _ _).alloc (zz8 _) _).alloc (by simp) _⟩
   ·have tn1:(n != 0)=true:=by simpa using n1
    have hf:Hid (ownB xs t ⟨1,ct,n,m,va,ks⟩=false):=by unfold Hid ownB namedB kindB;simp [v1,n1]
    go_enter Try.func99,Try.ntmps99
    go_wp2
    go_ret
    exact ⟨by subst_vars;exact zA0 hf.out.symm,((zy2 _ _).alloc (zz8 _) _).alloc (by simp) _⟩
  ·have tv1:(va != 0)=true:=by simpa using v1
   have hf:Hid (ownB xs t ⟨1,ct,n,m,va,ks⟩=false):=by unfold Hid ownB namedB kindB;simp [v1]
   go_enter Try.func99,Try.ntmps99
   go_wp2
   go_ret
   exact ⟨by subst_vars;exact zA0 hf.out.symm,((zy2 _ _).alloc (zz8 _) _).alloc (by simp) _⟩
 have u1:(op==1)=false:=by simpa using o1
 by_cases o2:op=2
 ·subst o2
  by_cases v1:va<0
  ·have tv1:(decide (va<0))=true:=by simpa using v1
   have v1x:¬0≤va:=by omega
   have hf:Hid (ownB xs t ⟨2,ct,n,m,va,ks⟩=false):=by unfold Hid ownB namedB kindB;simp [v1x]
   go_enter Try.func99,Try.ntmps99
   go_wp2
   go_ret
   exact ⟨by subst_vars;exact zA0 hf.out.symm,((zy2 _ _).alloc (zz8 _) _).alloc (by simp) _⟩
  ·have tv1:(decide (va<0))=false:=by simpa using v1
   by_cases v2:5<va
   ·have tv2:(decide (va>5))=true:=by simpa using v2
    have v2x:¬va≤5:=by omega
    have hf:Hid (ownB xs t ⟨2,ct,n,m,va,ks⟩=false):=by unfold Hid ownB namedB kindB;simp [v2x]
    go_enter Try.func99,Try.ntmps99
    go_wp2
    go_ret
    exact ⟨by subst_vars;exact zA0 hf.out.symm,((zy2 _ _).alloc (zz8 _) _).alloc (by simp) _⟩
   ·have tv2:(decide (va>5))=false:=by simpa using v2
    have v1x:0≤va:=by omega
    have v2x:va≤5:=by omega
    by_cases n1:n=0
    ·have tn1:(n != 0)=false:=by simp [n1]
     by_cases m1:m=0
     ·have tm1:(m != 0)=false:=by simp [m1]
      by_cases c1:ct=0
      ·have tc1:(ct != 0)=false:=by simp [c1]
       have hf:Hid (ownB xs t ⟨2,ct,n,m,va,ks⟩=true):=by unfold Hid ownB namedB kindB;simp [v1x,v2x,n1,m1,c1]
       go_enter Try.func99,Try.ntmps99
       go_wp2
       go_ret
       exact ⟨by subst_vars;exact zA0 hf.out.symm,((zy2 _ _).alloc (zz8 _) _).alloc (by simp) _⟩
      ·have tc1:(ct != 0)=true:=by simpa using c1
       have hf:Hid (ownB xs t ⟨2,ct,n,m,va,ks⟩=false):=by unfold Hid ownB namedB kindB;simp [v1x,v2x,n1,m1,c1]
       go_enter Try.func99,Try.ntmps99
       go_wp2
       go_ret
       exact ⟨by subst_vars;exact zA0 hf.out.symm,((zy2 _ _).alloc (zz8 _) _).alloc (by simp) _⟩
     ·have tm1:(m != 0)=true:=by simpa using m1
      have hf:Hid (ownB xs t ⟨2,ct,n,m,va,ks⟩=false):=by unfold Hid ownB namedB kindB;simp [v1x,v2x,m1]
      go_enter Try.func99,Try.ntmps99
      go_wp2
      go_ret
      exact ⟨by subst_vars;exact zA0 hf.out.symm,((zy2 _ _).alloc (zz8 _) _).alloc (by simp) _⟩
    ·have tn1:(n != 0)=true:=by simpa using n1
     have hf:Hid (ownB xs t ⟨2,ct,n,m,va,ks⟩=false):=by unfold Hid ownB namedB kindB;simp [v1x,v2x,n1]
     go_enter Try.func99,Try.ntmps99
     go_wp2
     go_ret
     exact ⟨by subst_vars;exact zA0 hf.out.symm,((zy2 _ _).alloc (zz8 _) _).alloc (by simp) _⟩
 have u2:(op==2)=false:=by simpa using o2
 by_cases o3:op=3
 ·subst o3
  by_cases v1:va=0
  ·have tv1:(va != 0)=false:=by simp [v1]
   by_cases c1:ct=0
   ·have tc1:(ct != 0)=false:=by simp [c1]
    by_cases a0:t.d = -1
    ·have b0:(t.d == -1)=true:=by simp [a0]
     by_cases a1:0≤n
     ·have b1:decide (n≥0)=true:=by simpa using a1
      by_cases a2:n≤m
      ·have b2:decide (n≤m)=true:=by simpa using a2
       by_cases a3:m≤9
       ·have b3:decide (m≤9)=true:=by simpa using a3
        have hf:Hid (ownB xs t ⟨3,ct,n,m,va,ks⟩=true):=by unfold Hid ownB namedB kindB;simp [v1,c1,a0,a1,a2,a3]
        go_enter Try.func99,Try.ntmps99
        go_wp2
        go_ret
        exact ⟨by subst_vars;exact zA0 hf.out.symm,((zy2 _ _).alloc (zz8 _) _).alloc (by simp) _⟩
       ·have b3:decide (m≤9)=false:=by simpa using a3
        have hf:Hid (ownB xs t ⟨3,ct,n,m,va,ks⟩=false):=by unfold Hid ownB namedB kindB;simp [v1,c1,a0,a1,a2,a3]
        go_enter Try.func99,Try.ntmps99
        go_wp2
        go_ret
        exact ⟨by subst_vars;exact zA0 hf.out.symm,((zy2 _ _).alloc (zz8 _) _).alloc (by simp) _⟩
      ·have b2:decide (n≤m)=false:=by simpa using a2
       have hf:Hid (ownB xs t ⟨3,ct,n,m,va,ks⟩=false):=by unfold Hid ownB namedB kindB;simp [v1,c1,a2]
       go_enter Try.func99,Try.ntmps99
       go_wp2
       go_ret
       exact ⟨by subst_vars;exact zA0 hf.out.symm,((zy2 _ _).alloc (zz8 _) _).alloc (by simp) _⟩
     ·have b1:decide (n≥0)=false:=by simpa using a1
      have hf:Hid (ownB xs t ⟨3,ct,n,m,va,ks⟩=false):=by unfold Hid ownB namedB kindB;simp [v1,c1,a1]
      go_enter Try.func99,Try.ntmps99
      go_wp2
      go_ret
      exact ⟨by subst_vars;exact zA0 hf.out.symm,((zy2 _ _).alloc (zz8 _) _).alloc (by simp) _⟩
    ·have b0:(t.d == -1)=false:=by simpa using a0
     have hf:Hid (ownB xs t ⟨3,ct,n,m,va,ks⟩=false):=by unfold Hid ownB namedB kindB;simp [v1,c1,a0]
     go_enter Try.func99,Try.ntmps99
     go_wp2
     go_ret
     exact ⟨by subst_vars;exact zA0 hf.out.symm,((zy2 _ _).alloc (zz8 _) _).alloc (by simp) _⟩
   ·have tc1:(ct != 0)=true:=by simpa using c1
    have hf:Hid (ownB xs t ⟨3,ct,n,m,va,ks⟩=false):=by unfold Hid ownB namedB kindB;simp [v1,c1]
    go_enter Try.func99,Try.ntmps99
    go_wp2
    go_ret
    exact ⟨by subst_vars;exact zA0 hf.out.symm,((zy2 _ _).alloc (zz8 _) _).alloc (by simp) _⟩
  ·have tv1:(va != 0)=true:=by simpa using v1
   have hf:Hid (ownB xs t ⟨3,ct,n,m,va,ks⟩=false):=by unfold Hid ownB namedB kindB;simp [v1]
   go_enter Try.func99,Try.ntmps99
   go_wp2
   go_ret
   exact ⟨by subst_vars;exact zA0 hf.out.symm,((zy2 _ _).alloc (zz8 _) _).alloc (by simp) _⟩
 have u3:(op==3)=false:=by simpa using o3
 by_cases o4:op=4
 ·subst o4
  by_cases v1:va=0
  ·have tv1:(va != 0)=false:=by simp [v1]
   by_cases n1:n=0
   ·have tn1:(n != 0)=false:=by simp [n1]
    by_cases m1:m=0
    ·have tm1:(m != 0)=false:=by simp [m1]
     have hf:Hid (ownB xs t ⟨4,ct,n,m,va,ks⟩=hasB (ctorsL xs t) ct):=by unfold Hid ownB namedB kindB;simp [v1,n1,m1]
     subst_vars
     go_enter Try.func99,Try.ntmps99
     go_wp2_with fail
     obtain ⟨W2,hW2⟩:∃ W2,W2=((w.alloc (.cells #[t.d,t.i] 25)).alloc (.cells #[(4:Int),.int .i64 ct,(0:Int),(0:Int),(0:Int),.slice A4 ks.length cap4] 28)):=⟨_,rfl⟩
     rw [←hW2] at HB
     have KT:Hid (Blk W2 w 25 #[t.d,t.i]):=by rw [hW2];exact (Blk.new w _ _).same (Below.heap_alloc _ _ _ (by simp))
     have KP:Hid (Blk W2 (w.heap.size+1) 28 #[(4:Int),.int .i64 ct,(0:Int),(0:Int),(0:Int),.slice A4 ks.length cap4]):=by rw [hW2];have h:=Blk.new (w.alloc (.cells #[t.d,t.i] 25)) 28 #[(4:Int),.int .i64 ct,(0:Int),(0:Int),(0:Int),.slice A4 ks.length cap4];rw [World.size_alloc] at h;exact h
     rw [←hW2]
     clear hW2
     obtain ⟨y0,y1,klt⟩:=KT.out.c2
     have z1:W2.cell? ⟨w.heap.size+1,1,none⟩=some (.int .i64 ct):=(KP.out.cell 1).trans (by simp)
     have klt2:=KP.out.lt
     have hB0:=HB.out
     have hkeep:Kp W2.heap.size (fun U=>U.cell? ⟨w,0,none⟩=t.d∧U.cell? ⟨w,1,none⟩=t.i∧U.cell? ⟨w.heap.size+1,1,none⟩=some (.int .i64 ct)):=fun U U' h hUU hU=>⟨(hUU.cell (zz9 (klt) hU)).trans h.1,(hUU.cell (zz9 (klt) hU)).trans h.2.1,(hUU.cell (zz9 (klt2) hU)).trans h.2.2⟩
     have HKeep:=jj hkeep
     clear hkeep
     go_region_held3 (fun w'=>w'.cell? ⟨w,0,none⟩=t.d∧w'.cell? ⟨w,1,none⟩=t.i∧w'.cell? ⟨w.heap.size+1,1,none⟩=some (.int .i64 ct)) (first | assumption | (exact ⟨y0,y1,z1⟩) | (exact HKeep.out W2.drew w4 ⟨y0,y1,z1⟩ hb4 (zz8 _)) | (exact HKeep.out w4 w5 (by assumption) hb5 hlew4)) (first | (go_at_call 86;((with_reducible refine (spec_l1Ctors xs t _ _ F (ArrDt.below HX.out hB0.drew HF.out) (HF.out.mono hB0.drew.size) HW.out HT.out).mono ?_);rintro e w4 ⟨v4,F4,rfl,hb4,ha4,-,hfs4⟩);have hlew4:W2.heap.size≤w4.heap.size:=hb4.size) | (go_at_call 121;((with_reducible refine (spec_l1Has (ctorsL xs t) ct _ _ F4 ha4 hfs4.under).mono ?_);rintro e w5 ⟨rfl,hb5⟩)))
     have hBa:=hB0.drew.trans (hb4.mono hB0.drew.size)
     have hB5:=hBa.trans (hb5.mono hBa.size)
     generalize hasB (ctorsL xs t) ct=r at *
     clear HKeep ha4 hfs4 hb4 hb5 hBa hB0 HB KT KP y0 y1 z1 klt klt2
     go_wp2
     go_ret
     exact ⟨zA0 hf.out.symm,hB5⟩
    ·have tm1:(m != 0)=true:=by simpa using m1
     have hf:Hid (ownB xs t ⟨4,ct,n,m,va,ks⟩=false):=by unfold Hid ownB namedB kindB;simp [v1,m1]
     go_enter Try.func99,Try.ntmps99
     go_wp2
     go_ret
     exact ⟨by subst_vars;exact zA0 hf.out.symm,((zy2 _ _).alloc (zz8 _) _).alloc (by simp) _⟩
   ·have tn1:(n != 0)=true:=by simpa using n1
    have hf:Hid (ownB xs t ⟨4,ct,n,m,va,ks⟩=false):=by unfold Hid ownB namedB kindB;simp [v1,n1]
    go_enter Try.func99,Try.ntmps99
    go_wp2
    go_ret
    exact ⟨by subst_vars;exact zA0 hf.out.symm,((zy2 _ _).alloc (zz8 _) _).alloc (by simp) _⟩
  ·have tv1:(va != 0)=true:=by simpa using v1
   have hf:Hid (ownB xs t ⟨4,ct,n,m,va,ks⟩=false):=by unfold Hid ownB namedB kindB;simp [v1]
   go_enter Try.func99,Try.ntmps99
   go_wp2
   go_ret
   exact ⟨by subst_vars;exact zA0 hf.out.symm,((zy2 _ _).alloc (zz8 _) _).alloc (by simp) _⟩
 have u4:(op==4)=false:=by simpa using o4
 by_cases o5:op=5
 ·subst o5
  by_cases v1:va=0
  ·have tv1:(va != 0)=false:=by simp [v1]
   by_cases n1:n=0
   ·have tn1:(n != 0)=false:=by simp [n1]
    by_cases m1:m=0
    ·have tm1:(m != 0)=false:=by simp [m1]
     by_cases c1:ct=0
     ·have tc1:(ct != 0)=false:=by simp [c1]
      have hf:Hid (ownB xs t ⟨5,ct,n,m,va,ks⟩=true):=by unfold Hid ownB namedB kindB;simp [v1,n1,m1,c1]
      go_enter Try.func99,Try.ntmps99
      go_wp2
      go_ret
      exact ⟨by subst_vars;exact zA0 hf.out.symm,((zy2 _ _).alloc (zz8 _) _).alloc (by simp) _⟩
     ·have tc1:(ct != 0)=true:=by simpa using c1
      have hf:Hid (ownB xs t ⟨5,ct,n,m,va,ks⟩=false):=by unfold Hid ownB namedB kindB;simp [v1,n1,m1,c1]
      go_enter Try.func99,Try.ntmps99
      go_wp2
      go_ret
      exact ⟨by subst_vars;exact zA0 hf.out.symm,((zy2 _ _).alloc (zz8 _) _).alloc (by simp) _⟩
    ·have tm1:(m != 0)=true:=by simpa using m1
     have hf:Hid (ownB xs t ⟨5,ct,n,m,va,ks⟩=false):=by unfold Hid ownB namedB kindB;simp [v1,m1]
     go_enter Try.func99,Try.ntmps99
     go_wp2
     go_ret
     exact ⟨by subst_vars;exact zA0 hf.out.symm,((zy2 _ _).alloc (zz8 _) _).alloc (by simp) _⟩
   ·have tn1:(n != 0)=true:=by simpa using n1
    have hf:Hid (ownB xs t ⟨5,ct,n,m,va,ks⟩=false):=by unfold Hid ownB namedB kindB;simp [v1,n1]
    go_enter Try.func99,Try.ntmps99
    go_wp2
    go_ret
    exact ⟨by subst_vars;exact zA0 hf.out.symm,((zy2 _ _).alloc (zz8 _) _).alloc (by simp) _⟩
  ·have tv1:(va != 0)=true:=by simpa using v1
   have hf:Hid (ownB xs t ⟨5,ct,n,m,va,ks⟩=false):=by unfold Hid ownB namedB kindB;simp [v1]
   go_enter Try.func99,Try.ntmps99
   go_wp2
   go_ret
   exact ⟨by subst_vars;exact zA0 hf.out.symm,((zy2 _ _).alloc (zz8 _) _).alloc (by simp) _⟩
 have u5:(op==5)=false:=by simpa using o5
 by_cases o6:op=6
 ·subst o6
  by_cases v1:va<0
  ·have tv1:(decide (va<0))=true:=by simpa using v1
   have v1x:¬0≤va:=by omega
   have hf:Hid (ownB xs t ⟨6,ct,n,m,va,ks⟩=false):=by unfold Hid ownB namedB kindB;simp [v1x]
   go_enter Try.func99,Try.ntmps99
   go_wp2
   go_ret
   exact ⟨by subst_vars;exact zA0 hf.out.symm,((zy2 _ _).alloc (zz8 _) _).alloc (by simp) _⟩
  ·have tv1:(decide (va<0))=false:=by simpa using v1
   by_cases v2:5<va
   ·have tv2:(decide (va>5))=true:=by simpa using v2
    have v2x:¬va≤5:=by omega
    have hf:Hid (ownB xs t ⟨6,ct,n,m,va,ks⟩=false):=by unfold Hid ownB namedB kindB;simp [v2x]
    go_enter Try.func99,Try.ntmps99
    go_wp2
    go_ret
    exact ⟨by subst_vars;exact zA0 hf.out.symm,((zy2 _ _).alloc (zz8 _) _).alloc (by simp) _⟩
   ·have tv2:(decide (va>5))=false:=by simpa using v2
    have v1x:0≤va:=by omega
    have v2x:va≤5:=by omega
    by_cases n1:n=0
    ·have tn1:(n != 0)=false:=by simp [n1]
     by_cases m1:m=0
     ·have tm1:(m != 0)=false:=by simp [m1]
      by_cases c1:ct=0
      ·have tc1:(ct != 0)=false:=by simp [c1]
       have hf:Hid (ownB xs t ⟨6,ct,n,m,va,ks⟩=true):=by unfold Hid ownB namedB kindB;simp [v1x,v2x,n1,m1,c1]
       go_enter Try.func99,Try.ntmps99
       go_wp2
       go_ret
       exact ⟨by subst_vars;exact zA0 hf.out.symm,((zy2 _ _).alloc (zz8 _) _).alloc (by simp) _⟩
      ·have tc1:(ct != 0)=true:=by simpa using c1
       have hf:Hid (ownB xs t ⟨6,ct,n,m,va,ks⟩=false):=by unfold Hid ownB namedB kindB;simp [v1x,v2x,n1,m1,c1]
       go_enter Try.func99,Try.ntmps99
       go_wp2
       go_ret
       exact ⟨by subst_vars;exact zA0 hf.out.symm,((zy2 _ _).alloc (zz8 _) _).alloc (by simp) _⟩
     ·have tm1:(m != 0)=true:=by simpa using m1
      have hf:Hid (ownB xs t ⟨6,ct,n,m,va,ks⟩=false):=by unfold Hid ownB namedB kindB;simp [v1x,v2x,m1]
      go_enter Try.func99,Try.ntmps99
      go_wp2
      go_ret
      exact ⟨by subst_vars;exact zA0 hf.out.symm,((zy2 _ _).alloc (zz8 _) _).alloc (by simp) _⟩
    ·have tn1:(n != 0)=true:=by simpa using n1
     have hf:Hid (ownB xs t ⟨6,ct,n,m,va,ks⟩=false):=by unfold Hid ownB namedB kindB;simp [v1x,v2x,n1]
     go_enter Try.func99,Try.ntmps99
     go_wp2
     go_ret
     exact ⟨by subst_vars;exact zA0 hf.out.symm,((zy2 _ _).alloc (zz8 _) _).alloc (by simp) _⟩
 have u6:(op==6)=false:=by simpa using o6
 have un3:(op != 3)=true:=by simpa using o3
 have un4:(op != 4)=true:=by simpa using o4
 by_cases v1:va=0
 ·have tv1:(va != 0)=false:=by simp [v1]
  by_cases n1:n=0
  ·have tn1:(n != 0)=false:=by simp [n1]
   by_cases m1:m=0
   ·have tm1:(m != 0)=false:=by simp [m1]
    by_cases c1:ct=0
    ·have tc1:(ct != 0)=false:=by simp [c1]
     have hf:Hid (ownB xs t ⟨op,ct,n,m,va,ks⟩=false):=by unfold Hid ownB namedB kindB;simp [o1,o2,o3,o4,o5,o6,v1,n1,m1,c1]
     go_enter Try.func99,Try.ntmps99
     go_wp2
     go_ret
     exact ⟨by subst_vars;exact zA0 hf.out.symm,((zy2 _ _).alloc (zz8 _) _).alloc (by simp) _⟩
    ·have tc1:(ct != 0)=true:=by simpa using c1
     have hf:Hid (ownB xs t ⟨op,ct,n,m,va,ks⟩=false):=by unfold Hid ownB namedB kindB;simp [o1,o2,o3,o4,o5,o6,v1,n1,m1,c1]
     go_enter Try.func99,Try.ntmps99
     go_wp2
     go_ret
     exact ⟨by subst_vars;exact zA0 hf.out.symm,((zy2 _ _).alloc (zz8 _) _).alloc (by simp) _⟩
   ·have tm1:(m != 0)=true:=by simpa using m1
    have hf:Hid (ownB xs t ⟨op,ct,n,m,va,ks⟩=false):=by unfold Hid ownB namedB kindB;simp [o1,o2,o3,o4,o5,o6,v1,m1]
    go_enter Try.func99,Try.ntmps99
    go_wp2
    go_ret
    exact ⟨by subst_vars;exact zA0 hf.out.symm,((zy2 _ _).alloc (zz8 _) _).alloc (by simp) _⟩
  ·have tn1:(n != 0)=true:=by simpa using n1
   have hf:Hid (ownB xs t ⟨op,ct,n,m,va,ks⟩=false):=by unfold Hid ownB namedB kindB;simp [o1,o2,o3,o4,o5,o6,v1,n1]
   go_enter Try.func99,Try.ntmps99
   go_wp2
   go_ret
   exact ⟨by subst_vars;exact zA0 hf.out.symm,((zy2 _ _).alloc (zz8 _) _).alloc (by simp) _⟩
 ·have tv1:(va != 0)=true:=by simpa using v1
  have hf:Hid (ownB xs t ⟨op,ct,n,m,va,ks⟩=false):=by unfold Hid ownB namedB kindB;simp [o1,o2,o3,o4,o5,o6,v1]
  go_enter Try.func99,Try.ntmps99
  go_wp2
  go_ret
  exact ⟨by subst_vars;exact zA0 hf.out.symm,((zy2 _ _).alloc (zz8 _) _).alloc (by simp) _⟩
def repTo (t:Ty) (i:Nat):List Ty:=List.replicate i t
theorem repTo_len (t:Ty) (i:Nat):(repTo t i).length=i:=List.length_replicate
theorem repTo_succ (t:Ty) (i:Nat):repTo t (i+1)=repTo t i ++ [t]:=List.replicate_succ'
theorem kidsN_le (op:Int):kidsN op≤2:=by unfold kidsN;split;omega;split <;> omega
theorem typesP_no {xs:List Dt} {t:Ty} {p:P} (h:¬p.op=4):typesP xs t p=repTo t (kidsN p.op):=by unfold typesP;rw [if_neg h];rfl
theorem ownB_ctor {xs:List Dt} {t:Ty} {p:P} (h:p.op=4) (ho:ownB xs t p=true):p.ct∈ctorsL xs t:=by
 unfold ownB kindB at ho
 simp only [Bool.and_eq_true] at ho
 have h2:=ho.2.2.2
 rw [if_neg (by omega),if_pos h] at h2
 exact (hasB_iff _ _).1 h2
theorem spec_l3Types (xs:List Dt) (hw:WorldOK xs) (t:Ty) (ht:TyIn xs.length t) (p:P) (ho:ownB xs t p=true) (w:World) (x:Value) (F:List Nat) (cs:List Value) (G:List Nat):Arr w (DtR w) xs x F→Under w F→PR w p cs G→Under w G →
  Calls Try.prog 92 #[x,.agg #[t.d,t.i],.agg cs.toArray] w (MadeArr TyR w (typesP xs t p)):=by
 intro hx hf hv hg
 obtain ⟨kv,rfl,ha⟩:=(zAA _ _ _).1 hv
 obtain ⟨A,cap,rfl,hc1,hc2⟩:=hx.form
 obtain ⟨A4,cap4,rfl,hc3,hc4⟩:=ha.form
 have HV:=jj hv
 have HX:=jj hx
 have HF:=jj hf
 have HA:=jj ha
 have HG:=jj hg
 clear hx hf ha hg
 clear hv
 by_cases h4:p.op=4
 ·have t4:(p.op==4)=true:=by simp [h4]
  obtain ⟨q,k,e2,hvc,hq',hkl⟩:=mem_ctorsL (xs:=xs) (t:=t) ht.inWorld (ownB_ctor h4 ho)
  have hty:typesP xs t p=argsL xs[q].ctors[k] t.i:=by
   unfold typesP
   rw [if_pos h4,hvc]
   obtain ⟨td,ti⟩:=t
   simp only at e2
   subst e2
   exact argsOf_get hq' hkl
  have HTY:=jj hty
  have HVC:=jj hvc
  have HE2:=jj e2
  have HLA:=jj (hw.ctor hq' hkl).args
  clear hty hvc e2 h4 ho hw ht
  go_enter Try.func92,Try.ntmps92
  go_wp2_with fail
  obtain ⟨W2,hW2⟩:∃ W2,W2=((w.alloc (.cells #[t.d,t.i] 25)).alloc (.cells #[p.op,p.ct,p.n,p.m,p.va,.slice A4 p.ks.length cap4] 28)):=⟨_,rfl⟩
  have hB0:Below w w W2:=by rw [hW2];exact ((zy2 _ _).alloc (zz8 _) _).alloc (by simp) _
  have KT:Hid (Blk W2 w 25 #[t.d,t.i]):=by rw [hW2];exact (Blk.new w _ _).same (Below.heap_alloc _ _ _ (by simp))
  have KP:Hid (Blk W2 (w.heap.size+1) 28 #[p.op,p.ct,p.n,p.m,p.va,.slice A4 p.ks.length cap4]):=by rw [hW2];have h:=Blk.new (w.alloc (.cells #[t.d,t.i] 25)) 28 #[p.op,p.ct,p.n,p.m,p.va,.slice A4 p.ks.length cap4];rw [World.size_alloc] at h;exact h
  have hws:w.heap.size+2≤W2.heap.size:=by rw [hW2];simp
  have hws2:W2.heap.size=w.heap.size+1+1:=by rw [hW2];simp
  rw [←hW2]
  clear hW2
  obtain ⟨y0,y1,klt⟩:=KT.out.c2
  obtain ⟨z0,z1,-,-,-,-,klt2⟩:=KP.out.c6
  go_wp2_with fail
  rw [HVC.out,HE2.out]
  refine (spec_l1Args xs q k t.i hq' hkl W2 _ F (ArrDt.below HX.out hB0 HF.out) (HF.out.mono hB0.size) HLA.out).mono ?_
  rintro e w6 ⟨v6,F6,rfl,hb6,ha6,hfr6,hfs6⟩
  have hfin:MadeArr TyR w (typesP xs t p) (.returned v6) w6:=⟨v6,F6,rfl,hB0.trans (hb6.mono hB0.size),by rw [HTY.out];exact ha6,hfr6,fun b hb=>⟨Nat.le_trans hB0.size (hfs6 b hb).1,(hfs6 b hb).2⟩⟩
  have HFin:=jj hfin
  clear hfin ha6 hfr6 hfs6 hb6 y0 y1 z0 z1 klt klt2 t4
  go_wp2
  go_ret
  exact HFin.out
 ·have t4:(p.op==4)=false:=by simpa using h4
  obtain ⟨i0,hi,hz0,hz1,hz2⟩:=info_parts info_tyE
  have HI:=jj hi
  have HZ0:=jj hz0
  have HZ1:=jj hz1
  have HZ2:=jj hz2
  clear hi hz0 hz1 hz2
  have HTY:=jj (typesP_no (xs:=xs) (t:=t) h4)
  have H4:=jj h4
  have hk2:=kidsN_le p.op
  generalize hkn:kidsN p.op=kn at *
  have HKN:=jj hkn
  clear h4 ho hw ht hkn
  have hws9:(((w.alloc (.cells #[t.d,t.i] 25)).alloc (.cells #[p.op,p.ct,p.n,p.m,p.va,.slice A4 p.ks.length cap4] 28)).alloc (.cells #[] 25)).heap.size=w.heap.size+3:=by simp
  go_enter Try.func92,Try.ntmps92
  go_wp2
  obtain ⟨w9,hw9⟩:∃ w9,w9=((w.alloc (.cells #[t.d,t.i] 25)).alloc (.cells #[p.op,p.ct,p.n,p.m,p.va,.slice A4 p.ks.length cap4] 28)).alloc (.cells #[] 25):=⟨_,rfl⟩
  have hB0:Below w w w9:=by rw [hw9];exact (((zy2 _ _).alloc (zz8 _) _).alloc (by simp) _).alloc (by simp;omega) _
  have KT:Hid (Blk w9 w 25 #[t.d,t.i]):=by rw [hw9];exact ((Blk.new w _ _).same (Below.heap_alloc _ _ _ (by simp))).same (Below.heap_alloc _ _ _ (by simp;omega))
  have KP:Hid (Blk w9 (w.heap.size+1) 28 #[p.op,p.ct,p.n,p.m,p.va,.slice A4 p.ks.length cap4]):=by rw [hw9];have h:=Blk.new (w.alloc (.cells #[t.d,t.i] 25)) 28 #[p.op,p.ct,p.n,p.m,p.va,.slice A4 p.ks.length cap4];rw [World.size_alloc] at h;exact h.same (Below.heap_alloc _ _ _ (by simp))
  have HO:Hid (Own w9 (w.heap.size+2) 25 2 TyR (repTo t 0) (.slice (some ⟨w.heap.size+2,0,none⟩) 0 0) []):=by
   rw [hw9]
   have h:=Own.made ((w.alloc (.cells #[t.d,t.i] 25)).alloc (.cells #[p.op,p.ct,p.n,p.m,p.va,.slice A4 p.ks.length cap4] 28)) (w.heap.size+2) 25 2 TyR #[] 0 (by simp) (by simp [maxLen]) rfl
   rw [show ((w.alloc (.cells #[t.d,t.i] 25)).alloc (.cells #[p.op,p.ct,p.n,p.m,p.va,.slice A4 p.ks.length cap4] 28)).heap.size=w.heap.size+2 from by simp] at h
   exact h
  rw [←hw9] at hws9 ⊢
  clear hw9
  go_loopw [7,8] (fun ov iv wr=>∃ i:Nat,i≤kn∧iv=.int .i64 i∧Hid (Own wr (w.heap.size+2) 25 2 TyR (repTo t i) ov [])∧Hid (Blk wr w 25 #[t.d,t.i])∧Hid (Blk wr (w.heap.size+1) 28 #[p.op,p.ct,p.n,p.m,p.va,.slice A4 p.ks.length cap4])∧Below w w wr∧w.heap.size+2≤wr.heap.size) (fun _ iv _=>kn-(intOf iv).toNat)
  case atStart=>exact ⟨0,Nat.zero_le _,rfl,HO,KT,KP,hB0,by omega⟩
  case round =>
   clear hB0 KT KP HO hws9
   obtain ⟨i,hi,rfl,HO,KT,KP,hB,hsz⟩:=hrel
   obtain ⟨kA,kcap,hkv,hkc1,hkc2⟩:=HO.out.form
   subst hkv
   obtain ⟨y0,y1,klt⟩:=KT.out.c2
   obtain ⟨z0,-,-,-,-,-,klt2⟩:=KP.out.c6
   have HRL:=jj (repTo_len t i)
   go_wp2_with fail
   refine (spec_l3Kids p.op H4.out wr).mono ?_
   rintro e w' ⟨rfl,hw'⟩
   rw [hw',HKN.out]
   clear hw' w'
   by_cases hil:i<kn
   ·have t1:decide ((i:Int)<(kn:Int))=true:=by simp;omega
    have hB1:Below wr wr wr:=zy2 _ _
    have HF2:=jj (repTo_succ t i)
    go_wp2_with (at_builtin;refine Halt.mk ?_)
    refine Halt.of (zA6 (P:=Try.prog) rfl _ _ 116 rfl i0 _ 16 Try.underlying116 HI.out HZ0.out HZ1.out HZ2.out rfl (by decide) TyR_len' TyR_mono' (by rfl) HO.out t 25 [t.d,t.i] [] wr.heap.size (by rfl) rfl (by simp [Value.oneCell']) ⟨rfl,rfl⟩ (Under.nil _) (fun _ _ h=>by cases h) (by have:=HRL.out;unfold maxLen;omega) (by have:=HRL.out;omega) hsz ?_)
    intro g cp w3 hown3 hgr3 hat3
    have hrow:=HO.out.row
    have hba:Below wr wr (wr.alloc (.cells #[t.d,t.i] 25)):=(zy2 _ _).alloc (zz8 _) _
    have hB3:Below (w.heap.size+2) wr w3:=(hba.mono hsz).grown hgr3 (by simp;omega) (fun g hg=>(hrow g (zA2.2 hg)).1)
    have HO3:=jj hown3
    have KT3:=jj (KT.out.same (hB3.block _ (by omega)))
    have KP3:=jj (KP.out.same (hB3.block _ (by omega)))
    have hB4:=hB.trans (hB3.mono (by omega))
    have hsz4:=Nat.le_trans hsz hB3.size
    clear hrow hba hB3 hown3 hgr3 hat3 y0 y1 z0 klt klt2
    go_wp2
    go_roundw
    case rel=>exact ⟨i+1,by omega,by go_num,by rw [HF2.out];exact HO3.out,KT3,KP3,hB4,hsz4⟩
    case measure=>(simp [intOf] <;> omega)
   ·have t1:decide ((i:Int)<(kn:Int))=false:=by simp;omega
    obtain rfl:i=kn:=by omega
    have HFin:Hid (MadeArr TyR w (typesP xs t p) (.returned (.slice kA (repTo t i).length kcap)) wr):=by rw [HTY.out];exact Own.gives HO.out hB (by omega) (fun b hb=>by cases hb) (Free.nil _)
    go_wp2
    go_ret
    exact HFin.out
def allP (f:Ty→P→Bool) (ls:List Ty) (ks:List P):Bool:=(ls.zip ks).all fun x=>f x.1 x.2
theorem allP_step {f:Ty→P→Bool} {ls:List Ty} {ks:List P} {i:Nat} (h1:i<ls.length) (h2:i<ks.length):allP f (ls.drop i) (ks.drop i)=(f ls[i] ks[i] && allP f (ls.drop (i+1)) (ks.drop (i+1))):=by
 rw [List.drop_eq_getElem_cons h1,List.drop_eq_getElem_cons h2];rfl
theorem allP_end {f:Ty→P→Bool} {ls:List Ty} {ks:List P} {i:Nat} (h1:ls.length≤i):allP f (ls.drop i) (ks.drop i)=true:=by
 rw [List.drop_of_length_le h1];rfl
theorem shapeB_succ (xs:List Dt) (d:Nat) (t:Ty) (p:P):shapeB xs (d+1) t p=(ownB xs t p && (p.ks.length==(typesP xs t p).length && allP (shapeB xs d) (typesP xs t p) p.ks)):=rfl
theorem typesP_in {xs:List Dt} (hw:WorldOK xs) {t:Ty} (ht:TyIn xs.length t) {p:P} (ho:ownB xs t p=true):∀ a∈typesP xs t p,TyIn xs.length a:=fun a ha=>by
 by_cases h4:p.op=4
 ·unfold typesP at ha
  rw [if_pos h4] at ha
  exact argsOf_in hw ht (ownB_ctor h4 ho) ha
 ·rw [typesP_no h4] at ha
  have:=List.eq_of_mem_replicate ha
  rw [this];exact ht
theorem typesP_len {xs:List Dt} (hw:WorldOK xs) {t:Ty} (ht:TyIn xs.length t) {p:P} (ho:ownB xs t p=true):(typesP xs t p).length≤3:=by
 by_cases h4:p.op=4
 ·unfold typesP
  rw [if_pos h4]
  exact argsOf_len3 hw ht (ownB_ctor h4 ho)
 ·rw [typesP_no h4,repTo_len]
  have:=kidsN_le p.op
  omega
def ShapeS (p:P):Prop:=∀ (xs:List Dt) (_:WorldOK xs) (d:Nat) (_:d≤10) (t:Ty) (_:TyIn xs.length t) (w:World) (x:Value) (F:List Nat) (cs:List Value) (G:List Nat),Arr w (DtR w) xs x F→Under w F→PR w p cs G→Under w G →
 Calls Try.prog 77 #[x,.agg #[t.d,t.i],.agg cs.toArray,(d:Int)] w fun e w'=>e=.returned (.bool (shapeB xs d t p))∧Below w w w'
theorem l3Shape_of (p:P) (ih:∀ k∈p.ks,ShapeS k):ShapeS p:=by
 intro xs hw d hd t ht w x F cs G hx hf hv hg
 have IH:=jj ih
 clear ih
 obtain ⟨kv,rfl,ha⟩:=(zAA _ _ _).1 hv
 obtain ⟨A,cap,rfl,hc1,hc2⟩:=hx.form
 obtain ⟨A4,cap4,rfl,hc3,hc4⟩:=ha.form
 have HV:=jj hv
 have HX:=jj hx
 have HF:=jj hf
 have HA:=jj ha
 have HG:=jj hg
 clear hx hf ha hg
 clear hv
 have HW:=jj hw
 have HT:=jj ht
 clear hw ht
 cases d with
 |zero =>
  go_enter Try.func77,Try.ntmps77
  go_wp2
  go_ret
  exact ⟨zA0 rfl,((zy2 _ _).alloc (zz8 _) _).alloc (by simp) _⟩
 |succ d =>
 have hd1:decide (((d+1:Nat):Int)<1)=false:=by simp;omega
 have hde:((d+1:Nat):Int)=(d:Int)+1:=by omega
 rw [hde] at hd1 ⊢
 clear hde
 have HFD:=jj (shapeB_succ xs d t p)
 go_enter Try.func77,Try.ntmps77
 go_wp2_with fail
 obtain ⟨W2,hW2⟩:∃ W2,W2=((w.alloc (.cells #[t.d,t.i] 25)).alloc (.cells #[p.op,p.ct,p.n,p.m,p.va,.slice A4 p.ks.length cap4] 28)):=⟨_,rfl⟩
 have hB0:Below w w W2:=by rw [hW2];exact ((zy2 _ _).alloc (zz8 _) _).alloc (by simp) _
 have KT:Hid (Blk W2 w 25 #[t.d,t.i]):=by rw [hW2];exact (Blk.new w _ _).same (Below.heap_alloc _ _ _ (by simp))
 have KP:Hid (Blk W2 (w.heap.size+1) 28 #[p.op,p.ct,p.n,p.m,p.va,.slice A4 p.ks.length cap4]):=by rw [hW2];have h:=Blk.new (w.alloc (.cells #[t.d,t.i] 25)) 28 #[p.op,p.ct,p.n,p.m,p.va,.slice A4 p.ks.length cap4];rw [World.size_alloc] at h;exact h
 have hws:w.heap.size+2≤W2.heap.size:=by rw [hW2];simp
 rw [←hW2]
 clear hW2
 obtain ⟨y0,y1,klt⟩:=KT.out.c2
 obtain ⟨z0,z1,z2,z3,z4,z5,klt2⟩:=KP.out.c6
 go_wp2_with fail
 refine (spec_l3Own xs HW.out t HT.out p W2 _ F _ G (ArrDt.below HX.out hB0 HF.out) (HF.out.mono hB0.size) (HV.out.below hB0 HG.out) (HG.out.mono hB0.size)).mono ?_
 rintro e w3 ⟨rfl,hb3⟩
 have hB3:=hB0.trans (hb3.mono hB0.size)
 have KT3:=jj (KT.out.same (hb3.block _ KT.out.lt))
 have KP3:=jj (KP.out.same (hb3.block _ KP.out.lt))
 clear y0 y1 z0 z1 z2 z3 z4 z5 klt klt2
 obtain ⟨y0,y1,klt⟩:=KT3.out.c2
 obtain ⟨z0,z1,z2,z3,z4,z5,klt2⟩:=KP3.out.c6
 clear hb3 KT KP hB0
 cases e1:ownB xs t p with
 |false =>
  have hf:Hid (shapeB xs (d+1) t p=false):=by rw [HFD.out,e1];rfl
  clear e1
  go_wp2
  go_ret
  exact ⟨zA0 hf.out.symm,hB3⟩
 |true =>
  have h1:shapeB xs (d+1) t p=(p.ks.length==(typesP xs t p).length && allP (shapeB xs d) (typesP xs t p) p.ks):=by rw [HFD.out,e1,Bool.true_and]
  have H1:=jj h1
  have HO:=jj e1
  have HAI:=jj (typesP_in HW.out HT.out e1)
  have hl3:=typesP_len HW.out HT.out e1
  clear h1 e1
  go_wp2_with fail
  refine (spec_l3Types xs HW.out t HT.out p HO.out w3 _ F _ G (ArrDt.below HX.out hB3 HF.out) (HF.out.mono hB3.size) (HV.out.below hB3 HG.out) (HG.out.mono hB3.size)).mono ?_
  rintro e w6 ⟨v6,F6,rfl,hb6,ha6,-,hfs6⟩
  have hB6:=hB3.trans (hb6.mono hB3.size)
  have KT6:=jj (KT3.out.same (hb6.block _ KT3.out.lt))
  have KP6:=jj (KP3.out.same (hb6.block _ KP3.out.lt))
  generalize hass:typesP xs t p=ls at *
  clear hass
  obtain ⟨A6,cap6,rfl,hd3,hd4⟩:=ha6.form
  have HA6:=jj ha6
  have HU6:=jj hfs6.under
  clear y0 y1 z0 z1 z2 z3 z4 z5 klt klt2
  clear ha6 hfs6 hb6 KT3 KP3 hB3 KT6
  obtain ⟨-,-,-,-,-,z5,klt2⟩:=KP6.out.c6
  by_cases hln:p.ks.length=ls.length
  ·have t2:((p.ks.length:Int) != (ls.length:Int))=false:=by simp [hln]
   have h3:shapeB xs (d+1) t p=allP (shapeB xs d) ls p.ks:=by rw [H1.out,hln];simp
   have H3:=jj h3
   have HLN:=jj hln
   clear h3 hln
   go_wp2
   clear z5 klt2 t2
   go_loopw [10] (fun iv wr=>∃ i:Nat,i≤ls.length∧iv=.int .i64 i∧Hid (shapeB xs (d+1) t p=allP (shapeB xs d) (ls.drop i) (p.ks.drop i))∧Hid (Blk wr (w.heap.size+1) 28 #[p.op,p.ct,p.n,p.m,p.va,.slice A4 p.ks.length cap4])∧Below w w wr∧Hid (Below w6 w6 wr)) (fun iv _=>ls.length-(intOf iv).toNat)
   case atStart=>exact ⟨0,Nat.zero_le _,rfl,H3,KP6,hB6,zy2 _ _⟩
   case round =>
    clear hB6
    obtain ⟨i,hi,rfl,HR,KP,hB,HB6⟩:=hrel
    by_cases hil:i<ls.length
    ·have hik:i<p.ks.length:=by rw [HLN.out];exact hil
     obtain ⟨b6,off6,rfl⟩:=HA6.out.ptr (by omega)
     obtain ⟨hb6,a0,a1⟩:=ArrTy.at HA6.out HU6.out HB6.out i hil
     obtain ⟨b4,off4,rfl⟩:=HA.out.ptr (by omega)
     obtain ⟨A7,cap7,G7,hb7,k0,k1,k2,k3,k4,k5,HV7,HG7,-,-,-⟩:=ArrP.at HA.out HG.out hB i hik
     obtain ⟨-,-,-,-,-,z5,klt2⟩:=KP.out.c6
     have g1:(0:Int)≤(i:Int):=by omega
     have g2:(i:Int)<(ls.length:Int):=by omega
     have g3:(i:Int)<(p.ks.length:Int):=by omega
     have hstep:=HR.out
     rw [allP_step hil hik] at hstep
     have HST:=jj hstep
     clear hstep
     have hwr:IntKind.i64.wrap (d:Int)=(d:Int):=IntWalk.i64_in _ (by omega)
     have HCALL:=jj (IH.out p.ks[i] (List.getElem_mem hik) xs HW.out d (by omega) ls[i] (HAI.out _ (List.getElem_mem hil)) wr.drew _ F _ G7 (ArrDt.below HX.out hB.drew HF.out) (HF.out.mono hB.drew.size) (HV7.out.below hB.drew HG7.out) (HG7.out.mono hB.drew.size))
     go_wp2_with fail
     have hkeep:Kp wr.heap.size (fun U=>U.cell? ⟨b6,off6+i*2,none⟩=ls[i].d∧U.cell? ⟨b6,off6+i*2+1,none⟩=ls[i].i∧U.cell? ⟨w.heap.size+1,5,none⟩=some (.slice (some ⟨b4,off4,none⟩) p.ks.length cap4)∧U.cell? ⟨b4,off4+i*6,none⟩=p.ks[i].op∧U.cell? ⟨b4,off4+i*6+1,none⟩=p.ks[i].ct∧U.cell? ⟨b4,off4+i*6+2,none⟩=p.ks[i].n∧U.cell? ⟨b4,off4+i*6+3,none⟩=p.ks[i].m∧U.cell? ⟨b4,off4+i*6+4,none⟩=p.ks[i].va∧U.cell? ⟨b4,off4+i*6+5,none⟩=some (.slice A7 p.ks[i].ks.length cap7)):=fun U U' h hUU hU=>⟨(hUU.cell (zz9 (hb6) hU)).trans h.1,(hUU.cell (zz9 (hb6) hU)).trans h.2.1,(hUU.cell (zz9 (klt2) hU)).trans h.2.2.1,(hUU.cell (zz9 (hb7) hU)).trans h.2.2.2.1,(hUU.cell (zz9 (hb7) hU)).trans h.2.2.2.2.1,(hUU.cell (zz9 (hb7) hU)).trans h.2.2.2.2.2.1,(hUU.cell (zz9 (hb7) hU)).trans h.2.2.2.2.2.2.1,(hUU.cell (zz9 (hb7) hU)).trans h.2.2.2.2.2.2.2.1,(hUU.cell (zz9 (hb7) hU)).trans h.2.2.2.2.2.2.2.2⟩
     have HKeep:=jj hkeep
     clear hkeep
     go_region_held3 (fun w'=>w'.cell? ⟨b6,off6+i*2,none⟩=ls[i].d∧w'.cell? ⟨b6,off6+i*2+1,none⟩=ls[i].i∧w'.cell? ⟨w.heap.size+1,5,none⟩=some (.slice (some ⟨b4,off4,none⟩) p.ks.length cap4)∧w'.cell? ⟨b4,off4+i*6,none⟩=p.ks[i].op∧w'.cell? ⟨b4,off4+i*6+1,none⟩=p.ks[i].ct∧w'.cell? ⟨b4,off4+i*6+2,none⟩=p.ks[i].n∧w'.cell? ⟨b4,off4+i*6+3,none⟩=p.ks[i].m∧w'.cell? ⟨b4,off4+i*6+4,none⟩=p.ks[i].va∧w'.cell? ⟨b4,off4+i*6+5,none⟩=some (.slice A7 p.ks[i].ks.length cap7)) (first | assumption | (exact ⟨a0,a1,z5,k0,k1,k2,k3,k4,k5⟩) | (exact HKeep.out wr.drew w' ⟨a0,a1,z5,k0,k1,k2,k3,k4,k5⟩ hB' (zz8 _))) (first | (go_at_call 77;((with_reducible refine HCALL.out.mono ?_);rintro e w' ⟨rfl,hB'⟩)))
     have hB3:=hB.drew.trans (hB'.mono hB.size)
     have HB3:=jj (HB6.out.drew.trans (hB'.mono HB6.out.size))
     have KP3:=jj (KP.out.same (hB'.block _ KP.out.lt))
     clear HKeep hwr
     cases e3:shapeB xs d ls[i] p.ks[i] with
     |false =>
      have hf:Hid (shapeB xs (d+1) t p=false):=by rw [HST.out,e3];rfl
      clear e3
      go_wp2
      go_ret
      exact ⟨zA0 hf.out.symm,hB3⟩
     |true =>
      have hR2:Hid (shapeB xs (d+1) t p=allP (shapeB xs d) (ls.drop (i+1)) (p.ks.drop (i+1))):=by rw [HST.out,e3,Bool.true_and];rfl
      clear e3
      go_wp2
      go_roundw
      case rel=>exact ⟨i+1,by omega,by go_num,hR2,KP3,hB3,HB3⟩
      case measure=>(simp [intOf] <;> omega)
    ·have hf:Hid (shapeB xs (d+1) t p=true):=by rw [HR.out];exact allP_end (by omega)
     go_wp2
     go_ret
     exact ⟨zA0 hf.out.symm,hB⟩
  ·have t2:((p.ks.length:Int) != (ls.length:Int))=true:=by rw [bne_iff_ne];omega
   have hf:Hid (shapeB xs (d+1) t p=false):=by unfold Hid;rw [H1.out];simp [hln]
   clear hln
   go_wp2
   go_ret
   exact ⟨zA0 hf.out.symm,hB6⟩
theorem spec_l3Shape:∀ p,ShapeS p:=P.indv l3Shape_of
theorem ArrVt.at {w0 w:World} {b off n cap:Nat} {F:List Nat} {xs:List Vt} (h:Arr w0 (VtR w0) xs (.slice (some ⟨b,off,none⟩) n cap) F) (hF:Under w0 F) (hB:Below w0 w0 w) (i:Nat) (hi:i<xs.length) :
  b<w.heap.size∧w.cell? ⟨b,off+i*3,none⟩=xs[i].var∧w.cell? ⟨b,off+i*3+1,none⟩=xs[i].ty.d∧w.cell? ⟨b,off+i*3+2,none⟩=xs[i].ty.i:=by
 obtain ⟨b',off',cs,G,e,hb,hcs,hv,hG⟩:=h.get (VtR_len w0) hi
 cases e
 have hbl:=hF _ hb
 have hc:=hcs.same (hB.block _ hbl)
 obtain ⟨rfl,rfl⟩:=hv
 exact ⟨zz9 hbl hB.size,hc 0 _ rfl,hc 1 _ rfl,hc 2 _ rfl⟩
theorem spec_l3Find (xs:List Vt) (n r:Int) (hr:FirstAt (fun x:Vt=>x.var==n) xs r) (w:World) (x:Value) (F:List Nat) (hx:Arr w (VtR w) xs x F) (hf:Under w F) :
  Calls Try.prog 98 #[x,.int .i64 n] w fun e w'=>e=.returned (.int .i64 r)∧Below w w w':=by
 obtain ⟨A,cap,rfl,hc1,hc2⟩:=hx.form
 have HX:=jj hx
 have HF:=jj hf
 have HR:=jj hr
 clear hx hf hr
 go_enter Try.func98,Try.ntmps98
 go_wp2
 go_loopw [5] (fun i wr=>∃ k:Nat,k≤xs.length∧i=.int .i64 k∧Hid (∀ j (hj:j<xs.length),j<k→(xs[j].var==n)=false)∧Below w w wr) (fun i _=>xs.length-(intOf i).toNat)
 case atStart=>exact ⟨0,Nat.zero_le _,rfl,fun j hj h=>by omega,zy2 _ _⟩
 case round =>
  obtain ⟨k,hk,rfl,HT,hB⟩:=hrel
  by_cases hlt:k<xs.length
  ·have g1:(0:Int)≤(k:Int):=by omega
   have g2:(k:Int)<(xs.length:Int):=by omega
   obtain ⟨b,off,rfl⟩:=HX.out.ptr (by omega)
   obtain ⟨hb,c0,c1,c2⟩:=ArrVt.at HX.out HF.out hB k hlt
   cases hq:(xs[k].var==n) with
   |true =>
    have hf:=jj (HR.out.hit hlt hq (fun j hj h=>HT.out j hj h))
    go_wp2
    go_ret
    exact ⟨zAP hf.out.symm,hB⟩
   |false =>
    have hT2:Hid (∀ j (hj:j<xs.length),j<k+1→(xs[j].var==n)=false):=fun j hj h=>by
     rcases Nat.lt_or_ge j k with h2 | h2
     ·exact HT.out j hj h2
     ·obtain rfl:j=k:=by omega
      exact hq
    go_wp2
    go_roundw
    case rel=>exact ⟨k+1,by omega,by go_num,hT2,hB⟩
    case measure=>(simp [intOf] <;> omega)
  ·have hf:Hid (r = -1):=HR.out.miss (fun j hj=>HT.out j hj (by omega))
   go_wp2
   go_ret
   exact ⟨zAP hf.out.symm,hB⟩
end Go.Proofs.Ytjjclcmmfeegfaa
