/-
  Lemmas, and contracts of functions. Conditions: none.
-/
import Derived.Test.YtjjclcmmfeegfaaGAH
import Derived.Test.YtjjclcmmfeegfaaGAG
import Derived.Test.YtjjclcmmfeegfaaGAD
import Derived.Test.YtjjclcmmfeegfaaGAB
import Derived.Test.YtjjclcmmfeegfaaGAC
import Derived.Deep.RegionWith
import Derived.Test.YtjjclcmmfeegfaaGAE

set_option linter.unusedVariables false
set_option linter.unusedSimpArgs false
set_option maxRecDepth 100000
set_option maxHeartbeats 1600000

namespace Go.Proofs.Ytjjclcmmfeegfaa
open Go.RowKit
def MutP (a:P) (p g:Nat) (G:List Nat) (w:World) (e:Ending) (w':World):Prop:=∃ (b:P) (cs:List Value) (F:List Nat) (q:Nat),e=.returned (.agg cs.toArray)∧PR w' b cs F∧(∀ x∈F,x<w'.heap.size∧x≠g∧(x∈G∨w.heap.size≤x))∧nodesP b≤nodesP a+1∧Rd w' g q∧q≤p+2∧Chg [g] w w'
theorem PR_one (w:World) (x:P) (cs:List Value) (G:List Nat) (h:PR w x cs G):∀ u∈cs,u.oneCell'=true:=by
 obtain ⟨kv,rfl,ha⟩:=(zA4 _ _ _).1 h
 obtain ⟨A,cap,rfl,-,-⟩:=ha.form
 simp [Value.oneCell']
theorem Own.under_any2 {α:Type} {w:World} {B k:Nat} {E:TypeId} {R:World→α→List Value→List Nat→Prop} {vs:List α} {v:Value} {F:List Nat} (h:Own w B E k R vs v F):Under w (if vs=[] then [] else rowOf v ++ F):=by
 by_cases hx:vs=[]
 ·rw [if_pos hx];exact Under.nil _
 ·rw [if_neg hx]
  intro b hb
  rcases List.mem_append.1 hb with hb | hb
  ·exact (h.row b hb).2
  ·exact h.under b hb
theorem Own.deeper {α:Type} {w w':World} {B k:Nat} {E:TypeId} {R:World→α→List Value→List Nat→Prop} {vs:List α} {v:Value} {F G:List Nat} (hR:∀ x cs G,Kept G w w'→R w x cs G→R w' x cs G) (h:Own w B E k R vs v F) (hc:Chg G w w') (h1:∀ g∈rowOf v,g∉G) (h2:∀ g∈F,g∉G):Own w' B E k R vs v F :=
 h.mono hR (hc.kept (fun b hb=>by
  rcases List.mem_append.1 hb with h' | h'
  ·exact (h.row b h').2
  ·exact h.under b h') (fun b hb=>by
  rcases List.mem_append.1 hb with h' | h'
  ·exact h1 b h'
  ·exact h2 b h')) hc.size
theorem Own.head {w:World} {B:Nat} {E:TypeId} {k:P} {ks:List P} {F:List Nat} {g n cap:Nat} (h:Own w B E 6 PR (k :: ks) (.slice (some ⟨g,0,none⟩) n cap) F) (new:List Value) (hnew:new.length=6) (y:P) (hy:∀ w,PR w y new []) :
  ∃ F',(∀ b∈F',b∈F)∧Own (putCells w g 0 new) B E 6 PR (y :: ks) (.slice (some ⟨g,0,none⟩) n cap) F':=by
 obtain ⟨cs,h1,h2,h3,h4⟩:=h
 obtain ⟨c1,c2,F1,F2,rfl,rfl,k1,k2⟩:=h2
 have hl1:c1.length=6:=PR_len k c1 F1 k1
 obtain ⟨hlen,hown⟩:=h1
 rcases hown with ⟨hv,-⟩ | ⟨g',cap',cur,hv,hb,hg,hc,hm,hs,ht⟩
 ·cases hv
 ·cases hv
  simp only [List.length_cons] at hlen hc ht
  have hroom:0+new.length≤cur.size:=by
   rw [hs,hnew]
   have:1≤cap:=by omega
   omega
  obtain ⟨C',g1,g2,g3,g4⟩:=Blk.put new 0 (show Blk w g E cur from hg) hroom
  have hgF:g∉F2:=fun hx=>h4 g (by simp [zA7]) (List.mem_append.2 (.inr hx))
  have hgr:=(putCells_grown g new w 0).1
  have hU2:Under w F2:=h3.sub fun b hb=>List.mem_append.2 (.inr hb)
  have hkp:Kept F2 w (putCells w g 0 new):=fun b hb=>hgr.block b (hU2 b hb) (fun e=>by cases e;exact hgF hb)
  refine ⟨F2,fun b hb=>List.mem_append.2 (.inr hb),new ++ c2,⟨?_,.inr ⟨g,cap,C',rfl,hb,g1,hc,hm,g2.trans hs,?_⟩⟩,⟨new,c2,[],F2,rfl,rfl,hy _,?_⟩,hU2.mono hgr.size,fun x hx hxF=>?_⟩
  ·rw [List.length_append] at hlen ⊢
   rw [hnew];rw [hl1] at hlen;exact hlen
  ·apply List.ext_getElem?
   intro j
   have hlt:(C'.toList.take ((ks.length+1)*6))[j]?=if j<(ks.length+1)*6 then C'[j]? else none:=by
    rw [List.getElem?_take]
    simp
   have hlt2:(cur.toList.take ((ks.length+1)*6))[j]?=if j<(ks.length+1)*6 then cur[j]? else none:=by
    rw [List.getElem?_take]
    simp
   refine hlt.trans ?_
   have hlt2:=(congrArg (fun l=>l[j]?) ht).symm.trans hlt2
   by_cases hj:j<6
   ·rw [if_pos (by omega),List.getElem?_append_left (by omega)]
    have:=g3 j (by omega)
    rw [Nat.zero_add] at this
    exact this
   ·have e1:(new ++ c2)[j]?=c2[j-6]?:=by rw [List.getElem?_append_right (by omega),hnew]
    have e2:(c1 ++ c2)[j]?=c2[j-6]?:=by rw [List.getElem?_append_right (by omega),hl1]
    rw [e1,←e2,hlt2,g4 j (.inr (by omega))]
  ·exact k2.mono fun x _ ds H hH hr=>PR.mono x ds H (fun b hb=>hkp b (hH b hb)) hr
  ·rw [zA7,zy1] at hx
   subst hx
   exact hgF hxF
theorem Own.cell0 {w:World} {B:Nat} {E:TypeId} {k:P} {ks:List P} {F:List Nat} {A:Option Addr} {n cap:Nat} (h:Own w B E 6 PR (k :: ks) (.slice A n cap) F) :
  ∃ g C,A=some ⟨g,0,none⟩∧B≤g∧Blk w g E C∧6≤C.size:=by
 obtain ⟨cs,h1,-⟩:=h
 rcases h1.2 with ⟨hv,hn⟩ | ⟨g',cap',cur,hv,hb,hg,hc,hm,hs,ht⟩
 ·simp at hn
 ·cases hv
  simp only [List.length_cons] at hc
  exact ⟨g',cur,rfl,hb,hg,by rw [hs];omega⟩
set_option maxHeartbeats 8000000 in
theorem spec_l3Mutate (a:P) (hn:nodesP a≤2000) (w:World) (p g:Nat) (hr:Rd w g p) (hp:p≤800000) (cs:List Value) (G:List Nat) (hv:PR w a cs G) (hG:Under w G) (hGg:∀ b∈G,b≠g) :
  Calls Try.prog 55 #[.pointer (some ⟨g,0,none⟩),.agg cs.toArray] w (MutP a p g G w):=by
 have hgl:=hr.lt
 obtain ⟨kv,rfl,ha⟩:=(zA4 _ _ _).1 hv
 obtain ⟨A4,cap4,rfl,hc3,hc4⟩:=ha.form
 obtain ⟨i0,hi,hz0,hz1,hz2⟩:=info_parts info_PE
 have hkl:a.ks.length≤2000:=by rw [zA5,P.sizes_eq] at hn;omega
 have HGG:=jj hGg
 have HI:=jj hi
 have HZ0:=jj hz0
 have HZ1:=jj hz1
 have HZ2:=jj hz2
 have HA:=jj ha
 have HG:=jj hG
 have HR:=jj hr
 clear hi hz0 hz1 hz2 ha hG hr
 clear hv hGg hn
 have hB0:Below w w (((w.alloc (.cells #[a.op,a.ct,a.n,a.m,a.va,.slice A4 a.ks.length cap4] 28)).alloc (.cells #[(0:Int),(0:Int),(0:Int),(0:Int),(0:Int),.slice none 0 0] 28)).alloc (.cells #[a.op,a.ct,a.n,a.m,a.va,.slice A4 a.ks.length cap4] 28)):=(((zy2 _ _).alloc (zz8 _) _).alloc (by simp) _).alloc (by simp;omega) _
 have KV:Hid (Blk (((w.alloc (.cells #[a.op,a.ct,a.n,a.m,a.va,.slice A4 a.ks.length cap4] 28)).alloc (.cells #[(0:Int),(0:Int),(0:Int),(0:Int),(0:Int),.slice none 0 0] 28)).alloc (.cells #[a.op,a.ct,a.n,a.m,a.va,.slice A4 a.ks.length cap4] 28)) w.heap.size 28 #[a.op,a.ct,a.n,a.m,a.va,.slice A4 a.ks.length cap4]):=((Blk.new w _ _).same (Below.heap_alloc _ _ _ (by simp))).same (Below.heap_alloc _ _ _ (by simp;omega))
 have KR:Hid (Blk (((w.alloc (.cells #[a.op,a.ct,a.n,a.m,a.va,.slice A4 a.ks.length cap4] 28)).alloc (.cells #[(0:Int),(0:Int),(0:Int),(0:Int),(0:Int),.slice none 0 0] 28)).alloc (.cells #[a.op,a.ct,a.n,a.m,a.va,.slice A4 a.ks.length cap4] 28)) (w.heap.size+1) 28 #[(0:Int),(0:Int),(0:Int),(0:Int),(0:Int),.slice none 0 0]):=(zA8 w _ 28 _).same (Below.heap_alloc _ _ _ (by simp))
 have KD:Hid (Blk (((w.alloc (.cells #[a.op,a.ct,a.n,a.m,a.va,.slice A4 a.ks.length cap4] 28)).alloc (.cells #[(0:Int),(0:Int),(0:Int),(0:Int),(0:Int),.slice none 0 0] 28)).alloc (.cells #[a.op,a.ct,a.n,a.m,a.va,.slice A4 a.ks.length cap4] 28)) (w.heap.size+2) 28 #[a.op,a.ct,a.n,a.m,a.va,.slice A4 a.ks.length cap4]):=by
  have h:=zA8 (w.alloc (.cells #[a.op,a.ct,a.n,a.m,a.va,.slice A4 a.ks.length cap4] 28)) (.cells #[(0:Int),(0:Int),(0:Int),(0:Int),(0:Int),.slice none 0 0] 28) 28 #[a.op,a.ct,a.n,a.m,a.va,.slice A4 a.ks.length cap4]
  rw [World.size_alloc] at h
  exact h
 have hs3:((((w.alloc (.cells #[a.op,a.ct,a.n,a.m,a.va,.slice A4 a.ks.length cap4] 28)).alloc (.cells #[(0:Int),(0:Int),(0:Int),(0:Int),(0:Int),.slice none 0 0] 28)).alloc (.cells #[a.op,a.ct,a.n,a.m,a.va,.slice A4 a.ks.length cap4] 28))).heap.size=w.heap.size+3:=by simp
 have hB3:Below w w ((((w.alloc (.cells #[a.op,a.ct,a.n,a.m,a.va,.slice A4 a.ks.length cap4] 28)).alloc (.cells #[(0:Int),(0:Int),(0:Int),(0:Int),(0:Int),.slice none 0 0] 28)).alloc (.cells #[a.op,a.ct,a.n,a.m,a.va,.slice A4 a.ks.length cap4] 28)).alloc (.cells #[] 28)):=hB0.alloc hB0.size _
 have hO0:Own ((((w.alloc (.cells #[a.op,a.ct,a.n,a.m,a.va,.slice A4 a.ks.length cap4] 28)).alloc (.cells #[(0:Int),(0:Int),(0:Int),(0:Int),(0:Int),.slice none 0 0] 28)).alloc (.cells #[a.op,a.ct,a.n,a.m,a.va,.slice A4 a.ks.length cap4] 28)).alloc (.cells #[] 28)) (w.heap.size+3) 28 6 PR ([]:List P) (.slice (some ⟨w.heap.size+3,0,none⟩) 0 0) []:=by
  have h:=Own.made (((w.alloc (.cells #[a.op,a.ct,a.n,a.m,a.va,.slice A4 a.ks.length cap4] 28)).alloc (.cells #[(0:Int),(0:Int),(0:Int),(0:Int),(0:Int),.slice none 0 0] 28)).alloc (.cells #[a.op,a.ct,a.n,a.m,a.va,.slice A4 a.ks.length cap4] 28)) (w.heap.size+3) 28 6 PR #[] 0 (by rw [hs3];exact zz8 _) (by simp [maxLen]) rfl
  rw [hs3] at h
  exact h
 have hX0:Arr ((((w.alloc (.cells #[a.op,a.ct,a.n,a.m,a.va,.slice A4 a.ks.length cap4] 28)).alloc (.cells #[(0:Int),(0:Int),(0:Int),(0:Int),(0:Int),.slice none 0 0] 28)).alloc (.cells #[a.op,a.ct,a.n,a.m,a.va,.slice A4 a.ks.length cap4] 28)).alloc (.cells #[] 28)) (PR ((((w.alloc (.cells #[a.op,a.ct,a.n,a.m,a.va,.slice A4 a.ks.length cap4] 28)).alloc (.cells #[(0:Int),(0:Int),(0:Int),(0:Int),(0:Int),.slice none 0 0] 28)).alloc (.cells #[a.op,a.ct,a.n,a.m,a.va,.slice A4 a.ks.length cap4] 28)).alloc (.cells #[] 28))) a.ks (.slice A4 a.ks.length cap4) G:=ArrP.below HA.out hB3 HG.out
 have hs4:((((w.alloc (.cells #[a.op,a.ct,a.n,a.m,a.va,.slice A4 a.ks.length cap4] 28)).alloc (.cells #[(0:Int),(0:Int),(0:Int),(0:Int),(0:Int),.slice none 0 0] 28)).alloc (.cells #[a.op,a.ct,a.n,a.m,a.va,.slice A4 a.ks.length cap4] 28)).alloc (.cells #[] 28)).heap.size=w.heap.size+4:=by simp
 obtain ⟨v2,w5,F2,hr5,ho5,hG5,hgr5,hat5⟩:=run_append_all (P:=Try.prog) 26 26 i0 _ 64 Try.underlying26 HI.out HZ0.out HZ1.out HZ2.out rfl (by decide) PR_len' PR_mono' PR_one hO0 hX0 (HG.out.mono hB3.size) (fun x hx hxG=>by rw [zA7,zy1] at hx;subst hx;have:=HG.out _ hxG;omega) (by simp;omega) (by simp;omega) (by rw [hs4];omega)
 rw [List.nil_append,List.nil_append] at ho5
 obtain ⟨vA,vcap,rfl,hvc1,hvc2⟩:=ho5.form
 have hB5:Below w w w5:=hB3.grown hgr5 hB3.size (fun x hx=>by
  have hx:some (w.heap.size+3)=some x:=hx
  cases hx;omega)
 have hkeep5:∀ (b:Nat) (cs:Array Value),b<w.heap.size+3→Blk (((w.alloc (.cells #[a.op,a.ct,a.n,a.m,a.va,.slice A4 a.ks.length cap4] 28)).alloc (.cells #[(0:Int),(0:Int),(0:Int),(0:Int),(0:Int),.slice none 0 0] 28)).alloc (.cells #[a.op,a.ct,a.n,a.m,a.va,.slice A4 a.ks.length cap4] 28)) b 28 cs→Blk w5 b 28 cs:=fun b cs hb h=>(h.same (Below.heap_alloc _ _ _ (by rw [hs3];exact hb))).same (hgr5.block _ (by rw [hs4];omega) (fun e=>by
  have e:some b=some (w.heap.size+3):=e
  cases e;omega))
 have KV5:=jj (hkeep5 _ _ (by omega) KV.out)
 have KR5:=jj (hkeep5 _ _ (by omega) KR.out)
 have KD5:=jj (hkeep5 _ _ (by omega) KD.out)
 have HO5:=jj ho5
 have HG5:=jj hG5
 have HRUN:=jj hr5
 have HR5:=jj (HR.out.below hB5)
 have HB5:=jj hB5
 clear hr5 ho5 hG5 hgr5 hat5 hkeep5 hX0 hO0 hB3 hB0 KV KR KD hs3 hs4 hB5
 go_enter Try.func55,Try.ntmps55
 go_wp2_with (at_builtin;refine Halt.mk ?_)
 refine Halt.of (wpList_append_run rfl _ _ 26 rfl (by rfl) (by rfl) HRUN.out ?_)
 clear HRUN
 obtain ⟨e0,e1,e2,e3,e4,e5,elt,f0,f1,f2,f3,f4,f5⟩:=KD5.out.q6
 go_wp2_with fail
 clear e0 f0 e1 f1 e2 f2 e3 f3 e4 f4 e5 f5 elt
 obtain ⟨wp,hwp⟩:∃ X,X=w5.setCell ⟨w.heap.size+2,5,none⟩ (.slice vA a.ks.length vcap):=⟨_,rfl⟩
 have hBp:Below w w wp:=by rw [hwp];exact HB5.out.setCell (by show w.heap.size≤w.heap.size+2;omega) _
 have KDp:Hid (Blk wp (w.heap.size+2) 28 #[a.op,a.ct,a.n,a.m,a.va,.slice vA a.ks.length vcap]):=by rw [hwp];exact KD5.out.set_ 5 _
 have KRp:Hid (Blk wp (w.heap.size+1) 28 #[(0:Int),(0:Int),(0:Int),(0:Int),(0:Int),.slice none 0 0]):=by rw [hwp];exact KR5.out.same (zz7 _ _ _ _ (by show w.heap.size+1≠w.heap.size+2;omega))
 have HFG:Hid (∀ b∈F2,b≠g∧b≠w.heap.size+2∧b≠w.heap.size+1∧b∈G):=fun b hb=>by
  have h1:=HG.out b (HG5.out b hb)
  exact ⟨HGG.out b (HG5.out b hb),by omega,by omega,HG5.out b hb⟩
 have HOp:Hid (Own wp (w.heap.size+3) 28 6 PR a.ks (.slice vA a.ks.length vcap) F2):=by
  rw [hwp]
  exact HO5.out.set (fun w w' x cs G hk h=>PR_mono' w w' x cs G hk h) _ (fun h=>by have:=(HO5.out.row _ h).1;omega) (fun h=>(HFG.out _ h).2.1 rfl)
 have HRp:Hid (Rd wp g p):=by rw [hwp];exact HR5.out.keep fun b hb=>zz7 _ _ _ _ (by show b≠w.heap.size+2;omega)
 rw [←hwp]
 clear hwp KD5 KR5 HO5 HR5 HB5 KV5
 refine (zAH 30 p g wp HRp.out (by omega) (by omega) (by omega)).mono ?_
 rintro e w6 ⟨r,rfl,hr30,hR6,hC6⟩
 have HC6:Hid (Chg [g] w w6):=(Chg.of_below hBp).trans hC6
 have HR6:=jj hR6
 have KD6:Hid (Blk w6 (w.heap.size+2) 28 #[a.op,a.ct,a.n,a.m,a.va,.slice vA a.ks.length vcap]):=KDp.out.same (hC6.block _ KDp.out.lt (by rw [zy1];omega))
 have KR6:Hid (Blk w6 (w.heap.size+1) 28 #[(0:Int),(0:Int),(0:Int),(0:Int),(0:Int),.slice none 0 0]):=KRp.out.same (hC6.block _ KRp.out.lt (by rw [zy1];omega))
 have HO6:=jj (HOp.out.deeper (fun x cs G hk h=>PR_mono' _ _ x cs G hk h) hC6 (fun b hb h=>by rw [zy1] at h;have:=(HOp.out.row b hb).1;omega) (fun b hb h=>by rw [zy1] at h;exact (HFG.out b hb).1 h))
 have hz6:w.heap.size+3≤w6.heap.size:=by have:=KD6.out.lt;omega
 clear hBp KDp KRp HOp HRp hR6 hC6
 by_cases h0:r=0
 ·subst h0
  go_wp2_with fail
  have hLit:LitN (w6.alloc (.cells ([0,7,1,2,5].map (Value.int .i64)).toArray 3)) w6.heap.size [0,7,1,2,5]:=LitN.new _ _ (by decide)
  have hb7:Below w6 w6 (w6.alloc (.cells ([0,7,1,2,5].map (Value.int .i64)).toArray 3)):=(zy2 _ _).alloc (zz8 _) _
  have hR7:Rd (w6.alloc (.cells ([0,7,1,2,5].map (Value.int .i64)).toArray 3)) g (p+1):=HR6.out.below hb7
  have hLit2:=hLit
  simp only [List.map_cons,List.map_nil] at hLit2
  obtain ⟨w7,hw7⟩:∃ X,X=(w6.alloc (.cells ([0,7,1,2,5].map (Value.int .i64)).toArray 3)):=⟨_,rfl⟩
  have hw7':=hw7
  simp only [List.map_cons,List.map_nil] at hw7'
  rw [←hw7] at hLit hb7 hR7
  first | rw [←hw7] | rw [←hw7']
  clear hw7 hw7' hLit2
  have hg6:g<w6.heap.size:=HR6.out.lt
  refine (num_any [0,7,1,2,5] (by decide) (by decide) (p+1) g w7 hR7 (by omega) _ _ hLit.2 (fun x hx=>by rw [List.mem_singleton.1 hx];exact hLit.1) (fun e=>by rw [zy1] at e;omega)).mono ?_
  rintro e w8 ⟨nx,-,rfl,hR8,hq8⟩
  have hC68:Chg [g] w6 w8:=(Chg.of_below hb7).trans hq8
  have hC8:Chg [g] w w8:=HC6.out.trans hC68
  have KD8:Hid (Blk w8 (w.heap.size+2) 28 #[a.op,a.ct,a.n,a.m,a.va,.slice vA a.ks.length vcap]):=KD6.out.same (hC68.block _ KD6.out.lt (by rw [zy1];omega))
  have KR8:Hid (Blk w8 (w.heap.size+1) 28 #[(0:Int),(0:Int),(0:Int),(0:Int),(0:Int),.slice none 0 0]):=KR6.out.same (hC68.block _ KR6.out.lt (by rw [zy1];omega))
  have HO8:=jj (HO6.out.deeper (fun x cs G hk h=>PR_mono' _ _ x cs G hk h) hC68 (fun b hb h=>by rw [zy1] at h;have:=(HO6.out.row b hb).1;omega) (fun b hb h=>by rw [zy1] at h;exact (HFG.out b hb).1 h))
  have HO9:Hid (Own (w8.setCell ⟨w.heap.size+2,0,none⟩ (.int .i64 nx)) (w.heap.size+3) 28 6 PR a.ks (.slice vA a.ks.length vcap) F2):=HO8.out.set (fun w w' x cs G hk h=>PR_mono' w w' x cs G hk h) _ (fun h=>by have:=(HO8.out.row _ h).1;omega) (fun h=>(HFG.out _ h).2.1 rfl)
  have KR9:Hid (Blk (w8.setCell ⟨w.heap.size+2,0,none⟩ (.int .i64 nx)) (w.heap.size+1) 28 #[(0:Int),(0:Int),(0:Int),(0:Int),(0:Int),.slice none 0 0]):=KR8.out.same (zz7 _ _ _ _ (by show w.heap.size+1≠w.heap.size+2;omega))
  have HR9:Hid (Rd (w8.setCell ⟨w.heap.size+2,0,none⟩ (.int .i64 nx)) g (p+1+1)):=hR8.keep fun b hb=>zz7 _ _ _ _ (by show b≠w.heap.size+2;omega)
  have HC9:Hid (Chg [g] w (w8.setCell ⟨w.heap.size+2,0,none⟩ (.int .i64 nx))):=hC8.set_new (by omega)
  obtain ⟨e0,e1,e2,e3,e4,e5,elt,f0,f1,f2,f3,f4,f5⟩:=KD8.out.q6
  obtain ⟨r0,r1,r2,r3,r4,r5,rlt,s0,s1,s2,s3,s4,s5⟩:=KR8.out.q6
  clear hLit hb7 hR7 hq8 hR8 hC68 hC8
  go_wp2
  clear e0 f0 e1 f1 e2 f2 e3 f3 e4 f4 e5 f5 elt
  clear r0 s0 r1 s1 r2 s2 r3 s3 r4 s4 r5 s5 rlt
  refine bodyPost_ret (zA1 rfl _ _ (w.heap.size+1) 28 #[.int .i64 nx,a.ct,a.n,a.m,a.va,.slice vA a.ks.length vcap] (0,0) _ rfl (KR9.out.six _ _ _ _ _ _) Try.underlying28 rfl rfl) rfl ?_
  have hfr:=HO9.out.under_any2
  have hne:∀ b∈(if a.ks=[] then [] else rowOf (.slice vA a.ks.length vcap) ++ F2),b≠w.heap.size+1:=fun b hb e=>by
   by_cases hx:a.ks=[]
   ·rw [if_pos hx] at hb;cases hb
   ·rw [if_neg hx] at hb
    rcases List.mem_append.1 hb with hb | hb
    ·have:=(HO9.out.row b hb).1;omega
    ·exact (HFG.out b hb).2.2.1 e
  have hkp:Kept (if a.ks=[] then [] else rowOf (.slice vA a.ks.length vcap) ++ F2) (w8.setCell ⟨w.heap.size+2,0,none⟩ (.int .i64 nx)) (((((((w8.setCell ⟨w.heap.size+2,0,none⟩ (.int .i64 nx)).setCell ⟨w.heap.size+1,0,none⟩ (.int .i64 nx)).setCell ⟨w.heap.size+1,1,none⟩ (.int .i64 a.ct)).setCell ⟨w.heap.size+1,2,none⟩ (.int .i64 a.n)).setCell ⟨w.heap.size+1,3,none⟩ (.int .i64 a.m)).setCell ⟨w.heap.size+1,4,none⟩ (.int .i64 a.va)).setCell ⟨w.heap.size+1,5,none⟩ (.slice vA a.ks.length vcap)):=zAM hne _ _ _ _ _ _
  refine ⟨⟨nx,a.ct,a.n,a.m,a.va,a.ks⟩,[.int .i64 nx,a.ct,a.n,a.m,a.va,.slice vA a.ks.length vcap],_,p+1+1,rfl,(zA4 _ _ _).2 ⟨_,rfl,ArrP.mono HO9.out.arr hkp⟩,(fun b hb=>?_),(by rw [zA5,zA5];exact Nat.le_succ _),zB2 HR9.out (by omega) _ _ _ _ _ _,by omega,zAL HC9.out (by omega) _ _ _ _ _ _⟩
  rw [zAN]
  refine ⟨hfr b hb,?_⟩
  by_cases hx:a.ks=[]
  ·rw [if_pos hx] at hb;cases hb
  ·rw [if_neg hx] at hb
   rcases List.mem_append.1 hb with hb | hb
   ·have:=(HO9.out.row b hb).1;exact ⟨by omega,.inr (by omega)⟩
   ·exact ⟨(HFG.out b hb).1,.inl (HFG.out b hb).2.2.2⟩
 by_cases h1:r=1
 ·subst h1
  go_wp2_with fail
  have hLit:LitN (w6.alloc (.cells ([6,-1,1].map (Value.int .i64)).toArray 3)) w6.heap.size [6,-1,1]:=LitN.new _ _ (by decide)
  have hb7:Below w6 w6 (w6.alloc (.cells ([6,-1,1].map (Value.int .i64)).toArray 3)):=(zy2 _ _).alloc (zz8 _) _
  have hR7:Rd (w6.alloc (.cells ([6,-1,1].map (Value.int .i64)).toArray 3)) g (p+1):=HR6.out.below hb7
  have hLit2:=hLit
  simp only [List.map_cons,List.map_nil] at hLit2
  obtain ⟨w7,hw7⟩:∃ X,X=(w6.alloc (.cells ([6,-1,1].map (Value.int .i64)).toArray 3)):=⟨_,rfl⟩
  have hw7':=hw7
  simp only [List.map_cons,List.map_nil] at hw7'
  rw [←hw7] at hLit hb7 hR7
  first | rw [←hw7] | rw [←hw7']
  clear hw7 hw7' hLit2
  have hg6:g<w6.heap.size:=HR6.out.lt
  refine (num_any [6,-1,1] (by decide) (by decide) (p+1) g w7 hR7 (by omega) _ _ hLit.2 (fun x hx=>by rw [List.mem_singleton.1 hx];exact hLit.1) (fun e=>by rw [zy1] at e;omega)).mono ?_
  rintro e w8 ⟨nx,-,rfl,hR8,hq8⟩
  have hC68:Chg [g] w6 w8:=(Chg.of_below hb7).trans hq8
  have hC8:Chg [g] w w8:=HC6.out.trans hC68
  have KD8:Hid (Blk w8 (w.heap.size+2) 28 #[a.op,a.ct,a.n,a.m,a.va,.slice vA a.ks.length vcap]):=KD6.out.same (hC68.block _ KD6.out.lt (by rw [zy1];omega))
  have KR8:Hid (Blk w8 (w.heap.size+1) 28 #[(0:Int),(0:Int),(0:Int),(0:Int),(0:Int),.slice none 0 0]):=KR6.out.same (hC68.block _ KR6.out.lt (by rw [zy1];omega))
  have HO8:=jj (HO6.out.deeper (fun x cs G hk h=>PR_mono' _ _ x cs G hk h) hC68 (fun b hb h=>by rw [zy1] at h;have:=(HO6.out.row b hb).1;omega) (fun b hb h=>by rw [zy1] at h;exact (HFG.out b hb).1 h))
  have HO9:Hid (Own (w8.setCell ⟨w.heap.size+2,4,none⟩ (.int .i64 nx)) (w.heap.size+3) 28 6 PR a.ks (.slice vA a.ks.length vcap) F2):=HO8.out.set (fun w w' x cs G hk h=>PR_mono' w w' x cs G hk h) _ (fun h=>by have:=(HO8.out.row _ h).1;omega) (fun h=>(HFG.out _ h).2.1 rfl)
  have KR9:Hid (Blk (w8.setCell ⟨w.heap.size+2,4,none⟩ (.int .i64 nx)) (w.heap.size+1) 28 #[(0:Int),(0:Int),(0:Int),(0:Int),(0:Int),.slice none 0 0]):=KR8.out.same (zz7 _ _ _ _ (by show w.heap.size+1≠w.heap.size+2;omega))
  have HR9:Hid (Rd (w8.setCell ⟨w.heap.size+2,4,none⟩ (.int .i64 nx)) g (p+1+1)):=hR8.keep fun b hb=>zz7 _ _ _ _ (by show b≠w.heap.size+2;omega)
  have HC9:Hid (Chg [g] w (w8.setCell ⟨w.heap.size+2,4,none⟩ (.int .i64 nx))):=hC8.set_new (by omega)
  obtain ⟨e0,e1,e2,e3,e4,e5,elt,f0,f1,f2,f3,f4,f5⟩:=KD8.out.q6
  obtain ⟨r0,r1,r2,r3,r4,r5,rlt,s0,s1,s2,s3,s4,s5⟩:=KR8.out.q6
  clear hLit hb7 hR7 hq8 hR8 hC68 hC8
  go_wp2
  clear e0 f0 e1 f1 e2 f2 e3 f3 e4 f4 e5 f5 elt
  clear r0 s0 r1 s1 r2 s2 r3 s3 r4 s4 r5 s5 rlt
  refine bodyPost_ret (zA1 rfl _ _ (w.heap.size+1) 28 #[a.op,a.ct,a.n,a.m,.int .i64 nx,.slice vA a.ks.length vcap] (0,0) _ rfl (KR9.out.six _ _ _ _ _ _) Try.underlying28 rfl rfl) rfl ?_
  have hfr:=HO9.out.under_any2
  have hne:∀ b∈(if a.ks=[] then [] else rowOf (.slice vA a.ks.length vcap) ++ F2),b≠w.heap.size+1:=fun b hb e=>by
   by_cases hx:a.ks=[]
   ·rw [if_pos hx] at hb;cases hb
   ·rw [if_neg hx] at hb
    rcases List.mem_append.1 hb with hb | hb
    ·have:=(HO9.out.row b hb).1;omega
    ·exact (HFG.out b hb).2.2.1 e
  have hkp:Kept (if a.ks=[] then [] else rowOf (.slice vA a.ks.length vcap) ++ F2) (w8.setCell ⟨w.heap.size+2,4,none⟩ (.int .i64 nx)) (((((((w8.setCell ⟨w.heap.size+2,4,none⟩ (.int .i64 nx)).setCell ⟨w.heap.size+1,0,none⟩ (.int .i64 a.op)).setCell ⟨w.heap.size+1,1,none⟩ (.int .i64 a.ct)).setCell ⟨w.heap.size+1,2,none⟩ (.int .i64 a.n)).setCell ⟨w.heap.size+1,3,none⟩ (.int .i64 a.m)).setCell ⟨w.heap.size+1,4,none⟩ (.int .i64 nx)).setCell ⟨w.heap.size+1,5,none⟩ (.slice vA a.ks.length vcap)):=zAM hne _ _ _ _ _ _
  refine ⟨⟨a.op,a.ct,a.n,a.m,nx,a.ks⟩,[a.op,a.ct,a.n,a.m,.int .i64 nx,.slice vA a.ks.length vcap],_,p+1+1,rfl,(zA4 _ _ _).2 ⟨_,rfl,ArrP.mono HO9.out.arr hkp⟩,(fun b hb=>?_),(by rw [zA5,zA5];exact Nat.le_succ _),zB2 HR9.out (by omega) _ _ _ _ _ _,by omega,zAL HC9.out (by omega) _ _ _ _ _ _⟩
  rw [zAN]
  refine ⟨hfr b hb,?_⟩
  by_cases hx:a.ks=[]
  ·rw [if_pos hx] at hb;cases hb
  ·rw [if_neg hx] at hb
   rcases List.mem_append.1 hb with hb | hb
   ·have:=(HO9.out.row b hb).1;exact ⟨by omega,.inr (by omega)⟩
   ·exact ⟨(HFG.out b hb).1,.inl (HFG.out b hb).2.2.2⟩
 by_cases h2:r=2
 ·subst h2
  go_wp2_with fail
  have hLit:LitN (w6.alloc (.cells ([9,-1,1].map (Value.int .i64)).toArray 3)) w6.heap.size [9,-1,1]:=LitN.new _ _ (by decide)
  have hb7:Below w6 w6 (w6.alloc (.cells ([9,-1,1].map (Value.int .i64)).toArray 3)):=(zy2 _ _).alloc (zz8 _) _
  have hR7:Rd (w6.alloc (.cells ([9,-1,1].map (Value.int .i64)).toArray 3)) g (p+1):=HR6.out.below hb7
  have hLit2:=hLit
  simp only [List.map_cons,List.map_nil] at hLit2
  obtain ⟨w7,hw7⟩:∃ X,X=(w6.alloc (.cells ([9,-1,1].map (Value.int .i64)).toArray 3)):=⟨_,rfl⟩
  have hw7':=hw7
  simp only [List.map_cons,List.map_nil] at hw7'
  rw [←hw7] at hLit hb7 hR7
  first | rw [←hw7] | rw [←hw7']
  clear hw7 hw7' hLit2
  have hg6:g<w6.heap.size:=HR6.out.lt
  refine (num_any [9,-1,1] (by decide) (by decide) (p+1) g w7 hR7 (by omega) _ _ hLit.2 (fun x hx=>by rw [List.mem_singleton.1 hx];exact hLit.1) (fun e=>by rw [zy1] at e;omega)).mono ?_
  rintro e w8 ⟨nx,-,rfl,hR8,hq8⟩
  have hC68:Chg [g] w6 w8:=(Chg.of_below hb7).trans hq8
  have hC8:Chg [g] w w8:=HC6.out.trans hC68
  have KD8:Hid (Blk w8 (w.heap.size+2) 28 #[a.op,a.ct,a.n,a.m,a.va,.slice vA a.ks.length vcap]):=KD6.out.same (hC68.block _ KD6.out.lt (by rw [zy1];omega))
  have KR8:Hid (Blk w8 (w.heap.size+1) 28 #[(0:Int),(0:Int),(0:Int),(0:Int),(0:Int),.slice none 0 0]):=KR6.out.same (hC68.block _ KR6.out.lt (by rw [zy1];omega))
  have HO8:=jj (HO6.out.deeper (fun x cs G hk h=>PR_mono' _ _ x cs G hk h) hC68 (fun b hb h=>by rw [zy1] at h;have:=(HO6.out.row b hb).1;omega) (fun b hb h=>by rw [zy1] at h;exact (HFG.out b hb).1 h))
  have HO9:Hid (Own (w8.setCell ⟨w.heap.size+2,1,none⟩ (.int .i64 nx)) (w.heap.size+3) 28 6 PR a.ks (.slice vA a.ks.length vcap) F2):=HO8.out.set (fun w w' x cs G hk h=>PR_mono' w w' x cs G hk h) _ (fun h=>by have:=(HO8.out.row _ h).1;omega) (fun h=>(HFG.out _ h).2.1 rfl)
  have KR9:Hid (Blk (w8.setCell ⟨w.heap.size+2,1,none⟩ (.int .i64 nx)) (w.heap.size+1) 28 #[(0:Int),(0:Int),(0:Int),(0:Int),(0:Int),.slice none 0 0]):=KR8.out.same (zz7 _ _ _ _ (by show w.heap.size+1≠w.heap.size+2;omega))
  have HR9:Hid (Rd (w8.setCell ⟨w.heap.size+2,1,none⟩ (.int .i64 nx)) g (p+1+1)):=hR8.keep fun b hb=>zz7 _ _ _ _ (by show b≠w.heap.size+2;omega)
  have HC9:Hid (Chg [g] w (w8.setCell ⟨w.heap.size+2,1,none⟩ (.int .i64 nx))):=hC8.set_new (by omega)
  obtain ⟨e0,e1,e2,e3,e4,e5,elt,f0,f1,f2,f3,f4,f5⟩:=KD8.out.q6
  obtain ⟨r0,r1,r2,r3,r4,r5,rlt,s0,s1,s2,s3,s4,s5⟩:=KR8.out.q6
  clear hLit hb7 hR7 hq8 hR8 hC68 hC8
  go_wp2
  clear e0 f0 e1 f1 e2 f2 e3 f3 e4 f4 e5 f5 elt
  clear r0 s0 r1 s1 r2 s2 r3 s3 r4 s4 r5 s5 rlt
  refine bodyPost_ret (zA1 rfl _ _ (w.heap.size+1) 28 #[a.op,.int .i64 nx,a.n,a.m,a.va,.slice vA a.ks.length vcap] (0,0) _ rfl (KR9.out.six _ _ _ _ _ _) Try.underlying28 rfl rfl) rfl ?_
  have hfr:=HO9.out.under_any2
  have hne:∀ b∈(if a.ks=[] then [] else rowOf (.slice vA a.ks.length vcap) ++ F2),b≠w.heap.size+1:=fun b hb e=>by
   by_cases hx:a.ks=[]
   ·rw [if_pos hx] at hb;cases hb
   ·rw [if_neg hx] at hb
    rcases List.mem_append.1 hb with hb | hb
    ·have:=(HO9.out.row b hb).1;omega
    ·exact (HFG.out b hb).2.2.1 e
  have hkp:Kept (if a.ks=[] then [] else rowOf (.slice vA a.ks.length vcap) ++ F2) (w8.setCell ⟨w.heap.size+2,1,none⟩ (.int .i64 nx)) (((((((w8.setCell ⟨w.heap.size+2,1,none⟩ (.int .i64 nx)).setCell ⟨w.heap.size+1,0,none⟩ (.int .i64 a.op)).setCell ⟨w.heap.size+1,1,none⟩ (.int .i64 nx)).setCell ⟨w.heap.size+1,2,none⟩ (.int .i64 a.n)).setCell ⟨w.heap.size+1,3,none⟩ (.int .i64 a.m)).setCell ⟨w.heap.size+1,4,none⟩ (.int .i64 a.va)).setCell ⟨w.heap.size+1,5,none⟩ (.slice vA a.ks.length vcap)):=zAM hne _ _ _ _ _ _
  refine ⟨⟨a.op,nx,a.n,a.m,a.va,a.ks⟩,[a.op,.int .i64 nx,a.n,a.m,a.va,.slice vA a.ks.length vcap],_,p+1+1,rfl,(zA4 _ _ _).2 ⟨_,rfl,ArrP.mono HO9.out.arr hkp⟩,(fun b hb=>?_),(by rw [zA5,zA5];exact Nat.le_succ _),zB2 HR9.out (by omega) _ _ _ _ _ _,by omega,zAL HC9.out (by omega) _ _ _ _ _ _⟩
  rw [zAN]
  refine ⟨hfr b hb,?_⟩
  by_cases hx:a.ks=[]
  ·rw [if_pos hx] at hb;cases hb
  ·rw [if_neg hx] at hb
   rcases List.mem_append.1 hb with hb | hb
   ·have:=(HO9.out.row b hb).1;exact ⟨by omega,.inr (by omega)⟩
   ·exact ⟨(HFG.out b hb).1,.inl (HFG.out b hb).2.2.2⟩
 by_cases h3:r=3
 ·subst h3
  obtain ⟨e0,e1,e2,e3,e4,e5,elt,f0,f1,f2,f3,f4,f5⟩:=KD6.out.q6
  go_wp2_with (at_builtin;refine Halt.mk ?_)
  refine Halt.of (zA3 (P:=Try.prog) rfl _ _ 26 rfl i0 _ 64 Try.underlying26 HI.out HZ0.out HZ1.out HZ2.out rfl (by decide) PR_len' PR_mono' (by rfl) HO6.out ⟨2,0,0,0,0,[]⟩ 28 [(2:Int),(0:Int),(0:Int),(0:Int),(0:Int),.slice none 0 0] [] _ (by rfl) (by simp) (by simp [Value.oneCell']) ((zA4 _ _ _).2 ⟨_,rfl,Arr.nil⟩) (Under.nil _) (fun _ _ h=>by cases h) (by unfold maxLen;omega) (by omega) hz6 ?_)
  intro g7 cp7 w9 hown9 hgr9 hat9
  clear e0 f0 e1 f1 e2 f2 e3 f3 e4 f4 e5 f5 elt
  rw [List.append_nil] at hown9
  have HO9':=jj hown9
  have hb69:Below (w.heap.size+3) w6 w9:=((zy2 _ _).alloc hz6 _).grown hgr9 (by simp;omega) (fun x hx=>(HO6.out.row x (zA2.2 hx)).1)
  have KD9:Hid (Blk w9 (w.heap.size+2) 28 #[a.op,a.ct,a.n,a.m,a.va,.slice vA a.ks.length vcap]):=KD6.out.same (hb69.block _ (by omega))
  have KR9':Hid (Blk w9 (w.heap.size+1) 28 #[(0:Int),(0:Int),(0:Int),(0:Int),(0:Int),.slice none 0 0]):=KR6.out.same (hb69.block _ (by omega))
  have HO9:Hid (Own (w9.setCell ⟨w.heap.size+2,5,none⟩ (.slice (some ⟨g7,0,none⟩) (a.ks.length+1) cp7)) (w.heap.size+3) 28 6 PR (a.ks ++ [⟨2,0,0,0,0,[]⟩]) (.slice (some ⟨g7,0,none⟩) (a.ks.length+1) cp7) F2):=HO9'.out.set (fun w w' x cs G hk h=>PR_mono' w w' x cs G hk h) _ (fun h=>by have:=(HO9'.out.row _ h).1;omega) (fun h=>(HFG.out _ h).2.1 rfl)
  have KR9:Hid (Blk (w9.setCell ⟨w.heap.size+2,5,none⟩ (.slice (some ⟨g7,0,none⟩) (a.ks.length+1) cp7)) (w.heap.size+1) 28 #[(0:Int),(0:Int),(0:Int),(0:Int),(0:Int),.slice none 0 0]):=KR9'.out.same (zz7 _ _ _ _ (by show w.heap.size+1≠w.heap.size+2;omega))
  have hC69:Chg [g] w w9:=⟨hb69.os.trans HC6.out.os,hb69.tape.trans HC6.out.tape,hb69.output.trans HC6.out.output,Nat.le_trans HC6.out.size hb69.size,fun b hb hn=>(hb69.block b (by omega)).trans (HC6.out.block b hb hn)⟩
  have HC9:Hid (Chg [g] w (w9.setCell ⟨w.heap.size+2,5,none⟩ (.slice (some ⟨g7,0,none⟩) (a.ks.length+1) cp7))):=hC69.set_new (by omega)
  have HR9:Hid (Rd (w9.setCell ⟨w.heap.size+2,5,none⟩ (.slice (some ⟨g7,0,none⟩) (a.ks.length+1) cp7)) g (p+1)):=(HR6.out.keep (w':=w9) (fun b hb=>hb69.block b (by omega))).keep fun b hb=>zz7 _ _ _ _ (by show b≠w.heap.size+2;omega)
  obtain ⟨e0,e1,e2,e3,e4,e5,elt,f0,f1,f2,f3,f4,f5⟩:=KD9.out.q6
  obtain ⟨r0,r1,r2,r3,r4,r5,rlt,s0,s1,s2,s3,s4,s5⟩:=KR9'.out.q6
  clear hown9 hgr9 hat9 hC69
  go_wp2
  clear e0 f0 e1 f1 e2 f2 e3 f3 e4 f4 e5 f5 elt
  clear r0 s0 r1 s1 r2 s2 r3 s3 r4 s4 r5 s5 rlt
  refine bodyPost_ret (zA1 rfl _ _ (w.heap.size+1) 28 #[a.op,a.ct,a.n,a.m,a.va,.slice (some ⟨g7,0,none⟩) (a.ks.length+1) cp7] (0,0) _ rfl (KR9.out.six _ _ _ _ _ _) Try.underlying28 rfl rfl) rfl ?_
  have hfr:=HO9.out.under_any2
  have hne:∀ b∈(if (a.ks ++ [⟨2,0,0,0,0,[]⟩])=[] then [] else rowOf (.slice (some ⟨g7,0,none⟩) (a.ks.length+1) cp7) ++ F2),b≠w.heap.size+1:=fun b hb e=>by
   by_cases hx:(a.ks ++ [⟨2,0,0,0,0,[]⟩])=[]
   ·rw [if_pos hx] at hb;cases hb
   ·rw [if_neg hx] at hb
    rcases List.mem_append.1 hb with hb | hb
    ·have:=(HO9.out.row b hb).1;omega
    ·exact (HFG.out b hb).2.2.1 e
  have hkp:Kept (if (a.ks ++ [⟨2,0,0,0,0,[]⟩])=[] then [] else rowOf (.slice (some ⟨g7,0,none⟩) (a.ks.length+1) cp7) ++ F2) (w9.setCell ⟨w.heap.size+2,5,none⟩ (.slice (some ⟨g7,0,none⟩) (a.ks.length+1) cp7)) (((((((w9.setCell ⟨w.heap.size+2,5,none⟩ (.slice (some ⟨g7,0,none⟩) (a.ks.length+1) cp7)).setCell ⟨w.heap.size+1,0,none⟩ (.int .i64 a.op)).setCell ⟨w.heap.size+1,1,none⟩ (.int .i64 a.ct)).setCell ⟨w.heap.size+1,2,none⟩ (.int .i64 a.n)).setCell ⟨w.heap.size+1,3,none⟩ (.int .i64 a.m)).setCell ⟨w.heap.size+1,4,none⟩ (.int .i64 a.va)).setCell ⟨w.heap.size+1,5,none⟩ (.slice (some ⟨g7,0,none⟩) (a.ks.length+1) cp7)):=zAM hne _ _ _ _ _ _
  refine ⟨⟨a.op,a.ct,a.n,a.m,a.va,a.ks ++ [⟨2,0,0,0,0,[]⟩]⟩,[a.op,a.ct,a.n,a.m,a.va,.slice (some ⟨g7,0,none⟩) (a.ks.length+1) cp7],_,p+1,rfl,(zA4 _ _ _).2 ⟨_,rfl,ArrP.mono HO9.out.arr hkp⟩,(fun b hb=>?_),(by rw [zA5,zA5,P.sizes_eq,P.sizes_eq,P.subs_snoc,List.length_append];simp [P.size,P.sizes];omega),zB2 HR9.out (by omega) _ _ _ _ _ _,by omega,zAL HC9.out (by omega) _ _ _ _ _ _⟩
  rw [zAN]
  refine ⟨hfr b hb,?_⟩
  by_cases hx:(a.ks ++ [⟨2,0,0,0,0,[]⟩])=[]
  ·rw [if_pos hx] at hb;cases hb
  ·rw [if_neg hx] at hb
   rcases List.mem_append.1 hb with hb | hb
   ·have:=(HO9.out.row b hb).1;exact ⟨by omega,.inr (by omega)⟩
   ·exact ⟨(HFG.out b hb).1,.inl (HFG.out b hb).2.2.2⟩
 by_cases h4:r=4
 ·subst h4
  by_cases hk:a.ks=[]
  ·have hl0:a.ks.length=0:=by rw [hk];rfl
   have t5:decide (0<a.ks.length)=false:=by rw [hl0];rfl
   clear hk hl0
   obtain ⟨e0,e1,e2,e3,e4,e5,elt,f0,f1,f2,f3,f4,f5⟩:=KD6.out.q6
   obtain ⟨r0,r1,r2,r3,r4,r5,rlt,s0,s1,s2,s3,s4,s5⟩:=KR6.out.q6
   go_wp2
   clear e0 f0 e1 f1 e2 f2 e3 f3 e4 f4 e5 f5 elt
   clear r0 s0 r1 s1 r2 s2 r3 s3 r4 s4 r5 s5 rlt
   refine bodyPost_ret (zA1 rfl _ _ (w.heap.size+1) 28 #[a.op,a.ct,a.n,a.m,a.va,.slice vA a.ks.length vcap] (0,0) _ rfl (KR6.out.six _ _ _ _ _ _) Try.underlying28 rfl rfl) rfl ?_
   have hfr:=HO6.out.under_any2
   have hne:∀ b∈(if a.ks=[] then [] else rowOf (.slice vA a.ks.length vcap) ++ F2),b≠w.heap.size+1:=fun b hb e=>by
    by_cases hx:a.ks=[]
    ·rw [if_pos hx] at hb;cases hb
    ·rw [if_neg hx] at hb
     rcases List.mem_append.1 hb with hb | hb
     ·have:=(HO6.out.row b hb).1;omega
     ·exact (HFG.out b hb).2.2.1 e
   have hkp:Kept (if a.ks=[] then [] else rowOf (.slice vA a.ks.length vcap) ++ F2) w6 ((((((w6.setCell ⟨w.heap.size+1,0,none⟩ (.int .i64 a.op)).setCell ⟨w.heap.size+1,1,none⟩ (.int .i64 a.ct)).setCell ⟨w.heap.size+1,2,none⟩ (.int .i64 a.n)).setCell ⟨w.heap.size+1,3,none⟩ (.int .i64 a.m)).setCell ⟨w.heap.size+1,4,none⟩ (.int .i64 a.va)).setCell ⟨w.heap.size+1,5,none⟩ (.slice vA a.ks.length vcap)):=zAM hne _ _ _ _ _ _
   refine ⟨⟨a.op,a.ct,a.n,a.m,a.va,a.ks⟩,[a.op,a.ct,a.n,a.m,a.va,.slice vA a.ks.length vcap],_,p+1,rfl,(zA4 _ _ _).2 ⟨_,rfl,ArrP.mono HO6.out.arr hkp⟩,(fun b hb=>?_),(by rw [zA5,zA5];exact Nat.le_succ _),zB2 HR6.out (by omega) _ _ _ _ _ _,by omega,zAL HC6.out (by omega) _ _ _ _ _ _⟩
   rw [zAN]
   refine ⟨hfr b hb,?_⟩
   by_cases hx:a.ks=[]
   ·rw [if_pos hx] at hb;cases hb
   ·rw [if_neg hx] at hb
    rcases List.mem_append.1 hb with hb | hb
    ·have:=(HO6.out.row b hb).1;exact ⟨by omega,.inr (by omega)⟩
    ·exact ⟨(HFG.out b hb).1,.inl (HFG.out b hb).2.2.2⟩
  ·obtain ⟨k0,ks0,hk0⟩:=List.exists_cons_of_ne_nil hk
   have hpos:0<a.ks.length:=by rw [hk0];simp
   have hHd:=HO6.out
   rw [hk0] at hHd
   obtain ⟨g4,C4,rfl,hg4,hC4,hs4⟩:=hHd.cell0
   obtain ⟨F4,hF4,hO4⟩:=hHd.head [(2:Int),(0:Int),(0:Int),(0:Int),(0:Int),.slice none 0 0] rfl ⟨2,0,0,0,0,[]⟩ (fun w=>(zA4 _ _ _).2 ⟨_,rfl,Arr.nil⟩)
   have hsz4:nodesP ⟨a.op,a.ct,a.n,a.m,a.va,⟨2,0,0,0,0,[]⟩ :: ks0⟩≤nodesP a+1:=by
    rw [zA5,zA5,hk0,P.sizes_eq,P.sizes_eq]
    simp [P.subs,P.size,P.sizes]
    omega
   have HSZ4:=jj hsz4
   have HO4:Hid (Own (putCells w6 g4 0 [(2:Int),(0:Int),(0:Int),(0:Int),(0:Int),.slice none 0 0]) (w.heap.size+3) 28 6 PR (⟨2,0,0,0,0,[]⟩ :: ks0) (.slice (some ⟨g4,0,none⟩) a.ks.length vcap) F4):=by
    have e:a.ks.length=(k0 :: ks0).length:=by rw [hk0]
    rw [e];exact hO4
   have HF4:Hid (∀ b∈F4,b≠g∧b≠w.heap.size+2∧b≠w.heap.size+1∧b∈G):=fun b hb=>HFG.out b (hF4 b hb)
   have hgr4:=(putCells_grown g4 [(2:Int),(0:Int),(0:Int),(0:Int),(0:Int),.slice none 0 0] w6 0)
   have KR9:Hid (Blk (putCells w6 g4 0 [(2:Int),(0:Int),(0:Int),(0:Int),(0:Int),.slice none 0 0]) (w.heap.size+1) 28 #[(0:Int),(0:Int),(0:Int),(0:Int),(0:Int),.slice none 0 0]):=KR6.out.same (hgr4.1.block _ KR6.out.lt (fun e=>by cases e;omega))
   have HC9:Hid (Chg [g] w (putCells w6 g4 0 [(2:Int),(0:Int),(0:Int),(0:Int),(0:Int),.slice none 0 0])):=((((((HC6.out.set_new (by omega)).set_new (by omega)).set_new (by omega)).set_new (by omega)).set_new (by omega)).set_new (by omega))
   have HR9:Hid (Rd (putCells w6 g4 0 [(2:Int),(0:Int),(0:Int),(0:Int),(0:Int),.slice none 0 0]) g (p+1)):=HR6.out.keep fun b hb=>hgr4.1.block b (by omega) (fun e=>by cases e;omega)
   have hx0:∃ u,w6.cell? ⟨g4,0,none⟩=some u:=⟨C4[0],by rw [hC4.cell,Array.getElem?_eq_getElem (by omega)]⟩
   have hx1:∃ u,w6.cell? ⟨g4,1,none⟩=some u:=⟨C4[1],by rw [hC4.cell,Array.getElem?_eq_getElem (by omega)]⟩
   have hx2:∃ u,w6.cell? ⟨g4,2,none⟩=some u:=⟨C4[2],by rw [hC4.cell,Array.getElem?_eq_getElem (by omega)]⟩
   have hx3:∃ u,w6.cell? ⟨g4,3,none⟩=some u:=⟨C4[3],by rw [hC4.cell,Array.getElem?_eq_getElem (by omega)]⟩
   have hx4:∃ u,w6.cell? ⟨g4,4,none⟩=some u:=⟨C4[4],by rw [hC4.cell,Array.getElem?_eq_getElem (by omega)]⟩
   have hx5:∃ u,w6.cell? ⟨g4,5,none⟩=some u:=⟨C4[5],by rw [hC4.cell,Array.getElem?_eq_getElem (by omega)]⟩
   obtain ⟨u0,x0⟩:=hx0
   obtain ⟨u1,x1⟩:=hx1
   obtain ⟨u2,x2⟩:=hx2
   obtain ⟨u3,x3⟩:=hx3
   obtain ⟨u4,x4⟩:=hx4
   obtain ⟨u5,x5⟩:=hx5
   have z0:=hC4.frozen 0
   have z1:=hC4.frozen 1
   have z2:=hC4.frozen 2
   have z3:=hC4.frozen 3
   have z4:=hC4.frozen 4
   have z5:=hC4.frozen 5
   have xlt:=hC4.lt
   have hd1:w.heap.size+2≠g4:=by omega
   have hd2:w.heap.size+1≠g4:=by omega
   have hd3:¬g4=w.heap.size+2:=by omega
   have hd4:¬g4=w.heap.size+1:=by omega
   obtain ⟨e0,e1,e2,e3,e4,e5,elt,f0,f1,f2,f3,f4,f5⟩:=KD6.out.q6
   obtain ⟨r0,r1,r2,r3,r4,r5,rlt,s0,s1,s2,s3,s4,s5⟩:=KR6.out.q6
   clear hHd hO4 hF4 hC4 hs4 hk hk0 hgr4 hsz4
   have hq0:(0:Int)<(a.ks.length:Int):=by omega
   go_wp2
   clear e0 f0 e1 f1 e2 f2 e3 f3 e4 f4 e5 f5 elt
   clear r0 s0 r1 s1 r2 s2 r3 s3 r4 s4 r5 s5 rlt
   clear x0 x1 x2 x3 x4 x5 z0 z1 z2 z3 z4 z5 xlt
   refine bodyPost_ret (zA1 rfl _ _ (w.heap.size+1) 28 #[a.op,a.ct,a.n,a.m,a.va,.slice (some ⟨g4,0,none⟩) a.ks.length vcap] (0,0) _ rfl (KR9.out.six _ _ _ _ _ _) Try.underlying28 rfl rfl) rfl ?_
   have hfr:=HO4.out.under_any2
   have hne:∀ b∈(if (⟨2,0,0,0,0,[]⟩ :: ks0)=[] then [] else rowOf (.slice (some ⟨g4,0,none⟩) a.ks.length vcap) ++ F4),b≠w.heap.size+1:=fun b hb e=>by
    by_cases hx:(⟨2,0,0,0,0,[]⟩ :: ks0)=[]
    ·rw [if_pos hx] at hb;cases hb
    ·rw [if_neg hx] at hb
     rcases List.mem_append.1 hb with hb | hb
     ·have:=(HO4.out.row b hb).1;omega
     ·exact (HF4.out b hb).2.2.1 e
   have hkp:Kept (if (⟨2,0,0,0,0,[]⟩ :: ks0)=[] then [] else rowOf (.slice (some ⟨g4,0,none⟩) a.ks.length vcap) ++ F4) (putCells w6 g4 0 [(2:Int),(0:Int),(0:Int),(0:Int),(0:Int),.slice none 0 0]) (((((((putCells w6 g4 0 [(2:Int),(0:Int),(0:Int),(0:Int),(0:Int),.slice none 0 0]).setCell ⟨w.heap.size+1,0,none⟩ (.int .i64 a.op)).setCell ⟨w.heap.size+1,1,none⟩ (.int .i64 a.ct)).setCell ⟨w.heap.size+1,2,none⟩ (.int .i64 a.n)).setCell ⟨w.heap.size+1,3,none⟩ (.int .i64 a.m)).setCell ⟨w.heap.size+1,4,none⟩ (.int .i64 a.va)).setCell ⟨w.heap.size+1,5,none⟩ (.slice (some ⟨g4,0,none⟩) a.ks.length vcap)):=zAM hne _ _ _ _ _ _
   refine ⟨⟨a.op,a.ct,a.n,a.m,a.va,⟨2,0,0,0,0,[]⟩ :: ks0⟩,[a.op,a.ct,a.n,a.m,a.va,.slice (some ⟨g4,0,none⟩) a.ks.length vcap],_,p+1,rfl,(zA4 _ _ _).2 ⟨_,rfl,ArrP.mono HO4.out.arr hkp⟩,(fun b hb=>?_),HSZ4.out,zB2 HR9.out (by omega) _ _ _ _ _ _,by omega,zAL HC9.out (by omega) _ _ _ _ _ _⟩
   rw [zAN]
   refine ⟨hfr b hb,?_⟩
   by_cases hx:(⟨2,0,0,0,0,[]⟩ :: ks0)=[]
   ·rw [if_pos hx] at hb;cases hb
   ·rw [if_neg hx] at hb
    rcases List.mem_append.1 hb with hb | hb
    ·have:=(HO4.out.row b hb).1;exact ⟨by omega,.inr (by omega)⟩
    ·exact ⟨(HF4.out b hb).1,.inl (HF4.out b hb).2.2.2⟩
 by_cases h5:r=5
 ·subst h5
  go_wp2_with fail
  have hLit:LitN (w6.alloc (.cells ([10,-1,5].map (Value.int .i64)).toArray 3)) w6.heap.size [10,-1,5]:=LitN.new _ _ (by decide)
  have hb7:Below w6 w6 (w6.alloc (.cells ([10,-1,5].map (Value.int .i64)).toArray 3)):=(zy2 _ _).alloc (zz8 _) _
  have hR7:Rd (w6.alloc (.cells ([10,-1,5].map (Value.int .i64)).toArray 3)) g (p+1):=HR6.out.below hb7
  have hLit2:=hLit
  simp only [List.map_cons,List.map_nil] at hLit2
  obtain ⟨w7,hw7⟩:∃ X,X=(w6.alloc (.cells ([10,-1,5].map (Value.int .i64)).toArray 3)):=⟨_,rfl⟩
  have hw7':=hw7
  simp only [List.map_cons,List.map_nil] at hw7'
  rw [←hw7] at hLit hb7 hR7
  first | rw [←hw7] | rw [←hw7']
  clear hw7 hw7' hLit2
  have hg6:g<w6.heap.size:=HR6.out.lt
  refine (num_any [10,-1,5] (by decide) (by decide) (p+1) g w7 hR7 (by omega) _ _ hLit.2 (fun x hx=>by rw [List.mem_singleton.1 hx];exact hLit.1) (fun e=>by rw [zy1] at e;omega)).mono ?_
  rintro e w8 ⟨nx,-,rfl,hR8,hq8⟩
  have hC68:Chg [g] w6 w8:=(Chg.of_below hb7).trans hq8
  have hC8:Chg [g] w w8:=HC6.out.trans hC68
  have KD8:Hid (Blk w8 (w.heap.size+2) 28 #[a.op,a.ct,a.n,a.m,a.va,.slice vA a.ks.length vcap]):=KD6.out.same (hC68.block _ KD6.out.lt (by rw [zy1];omega))
  have KR8:Hid (Blk w8 (w.heap.size+1) 28 #[(0:Int),(0:Int),(0:Int),(0:Int),(0:Int),.slice none 0 0]):=KR6.out.same (hC68.block _ KR6.out.lt (by rw [zy1];omega))
  have HO8:=jj (HO6.out.deeper (fun x cs G hk h=>PR_mono' _ _ x cs G hk h) hC68 (fun b hb h=>by rw [zy1] at h;have:=(HO6.out.row b hb).1;omega) (fun b hb h=>by rw [zy1] at h;exact (HFG.out b hb).1 h))
  have HO9:Hid (Own (w8.setCell ⟨w.heap.size+2,2,none⟩ (.int .i64 nx)) (w.heap.size+3) 28 6 PR a.ks (.slice vA a.ks.length vcap) F2):=HO8.out.set (fun w w' x cs G hk h=>PR_mono' w w' x cs G hk h) _ (fun h=>by have:=(HO8.out.row _ h).1;omega) (fun h=>(HFG.out _ h).2.1 rfl)
  have KR9:Hid (Blk (w8.setCell ⟨w.heap.size+2,2,none⟩ (.int .i64 nx)) (w.heap.size+1) 28 #[(0:Int),(0:Int),(0:Int),(0:Int),(0:Int),.slice none 0 0]):=KR8.out.same (zz7 _ _ _ _ (by show w.heap.size+1≠w.heap.size+2;omega))
  have HR9:Hid (Rd (w8.setCell ⟨w.heap.size+2,2,none⟩ (.int .i64 nx)) g (p+1+1)):=hR8.keep fun b hb=>zz7 _ _ _ _ (by show b≠w.heap.size+2;omega)
  have HC9:Hid (Chg [g] w (w8.setCell ⟨w.heap.size+2,2,none⟩ (.int .i64 nx))):=hC8.set_new (by omega)
  obtain ⟨e0,e1,e2,e3,e4,e5,elt,f0,f1,f2,f3,f4,f5⟩:=KD8.out.q6
  obtain ⟨r0,r1,r2,r3,r4,r5,rlt,s0,s1,s2,s3,s4,s5⟩:=KR8.out.q6
  clear hLit hb7 hR7 hq8 hR8 hC68 hC8
  go_wp2
  clear e0 f0 e1 f1 e2 f2 e3 f3 e4 f4 e5 f5 elt
  clear r0 s0 r1 s1 r2 s2 r3 s3 r4 s4 r5 s5 rlt
  refine bodyPost_ret (zA1 rfl _ _ (w.heap.size+1) 28 #[a.op,a.ct,.int .i64 nx,a.m,a.va,.slice vA a.ks.length vcap] (0,0) _ rfl (KR9.out.six _ _ _ _ _ _) Try.underlying28 rfl rfl) rfl ?_
  have hfr:=HO9.out.under_any2
  have hne:∀ b∈(if a.ks=[] then [] else rowOf (.slice vA a.ks.length vcap) ++ F2),b≠w.heap.size+1:=fun b hb e=>by
   by_cases hx:a.ks=[]
   ·rw [if_pos hx] at hb;cases hb
   ·rw [if_neg hx] at hb
    rcases List.mem_append.1 hb with hb | hb
    ·have:=(HO9.out.row b hb).1;omega
    ·exact (HFG.out b hb).2.2.1 e
  have hkp:Kept (if a.ks=[] then [] else rowOf (.slice vA a.ks.length vcap) ++ F2) (w8.setCell ⟨w.heap.size+2,2,none⟩ (.int .i64 nx)) (((((((w8.setCell ⟨w.heap.size+2,2,none⟩ (.int .i64 nx)).setCell ⟨w.heap.size+1,0,none⟩ (.int .i64 a.op)).setCell ⟨w.heap.size+1,1,none⟩ (.int .i64 a.ct)).setCell ⟨w.heap.size+1,2,none⟩ (.int .i64 nx)).setCell ⟨w.heap.size+1,3,none⟩ (.int .i64 a.m)).setCell ⟨w.heap.size+1,4,none⟩ (.int .i64 a.va)).setCell ⟨w.heap.size+1,5,none⟩ (.slice vA a.ks.length vcap)):=zAM hne _ _ _ _ _ _
  refine ⟨⟨a.op,a.ct,nx,a.m,a.va,a.ks⟩,[a.op,a.ct,.int .i64 nx,a.m,a.va,.slice vA a.ks.length vcap],_,p+1+1,rfl,(zA4 _ _ _).2 ⟨_,rfl,ArrP.mono HO9.out.arr hkp⟩,(fun b hb=>?_),(by rw [zA5,zA5];exact Nat.le_succ _),zB2 HR9.out (by omega) _ _ _ _ _ _,by omega,zAL HC9.out (by omega) _ _ _ _ _ _⟩
  rw [zAN]
  refine ⟨hfr b hb,?_⟩
  by_cases hx:a.ks=[]
  ·rw [if_pos hx] at hb;cases hb
  ·rw [if_neg hx] at hb
   rcases List.mem_append.1 hb with hb | hb
   ·have:=(HO9.out.row b hb).1;exact ⟨by omega,.inr (by omega)⟩
   ·exact ⟨(HFG.out b hb).1,.inl (HFG.out b hb).2.2.2⟩
 have q0:((r:Int)==0)=false:=by rw [beq_eq_false_iff_ne];omega
 have q1:((r:Int)==1)=false:=by rw [beq_eq_false_iff_ne];omega
 have q2:((r:Int)==2)=false:=by rw [beq_eq_false_iff_ne];omega
 have q3:((r:Int)==3)=false:=by rw [beq_eq_false_iff_ne];omega
 have q4:((r:Int)==4)=false:=by rw [beq_eq_false_iff_ne];omega
 have q5:((r:Int)==5)=false:=by rw [beq_eq_false_iff_ne];omega
 obtain ⟨e0,e1,e2,e3,e4,e5,elt,f0,f1,f2,f3,f4,f5⟩:=KD6.out.q6
 obtain ⟨r0,r1,r2,r3,r4,r5,rlt,s0,s1,s2,s3,s4,s5⟩:=KR6.out.q6
 go_wp2
 clear e0 f0 e1 f1 e2 f2 e3 f3 e4 f4 e5 f5 elt
 clear r0 s0 r1 s1 r2 s2 r3 s3 r4 s4 r5 s5 rlt
 refine bodyPost_ret (zA1 rfl _ _ (w.heap.size+1) 28 #[a.op,a.ct,a.n,a.m,a.va,.slice vA a.ks.length vcap] (0,0) _ rfl (KR6.out.six _ _ _ _ _ _) Try.underlying28 rfl rfl) rfl ?_
 have hfr:=HO6.out.under_any2
 have hne:∀ b∈(if a.ks=[] then [] else rowOf (.slice vA a.ks.length vcap) ++ F2),b≠w.heap.size+1:=fun b hb e=>by
  by_cases hx:a.ks=[]
  ·rw [if_pos hx] at hb;cases hb
  ·rw [if_neg hx] at hb
   rcases List.mem_append.1 hb with hb | hb
   ·have:=(HO6.out.row b hb).1;omega
   ·exact (HFG.out b hb).2.2.1 e
 have hkp:Kept (if a.ks=[] then [] else rowOf (.slice vA a.ks.length vcap) ++ F2) w6 ((((((w6.setCell ⟨w.heap.size+1,0,none⟩ (.int .i64 a.op)).setCell ⟨w.heap.size+1,1,none⟩ (.int .i64 a.ct)).setCell ⟨w.heap.size+1,2,none⟩ (.int .i64 a.n)).setCell ⟨w.heap.size+1,3,none⟩ (.int .i64 a.m)).setCell ⟨w.heap.size+1,4,none⟩ (.int .i64 a.va)).setCell ⟨w.heap.size+1,5,none⟩ (.slice vA a.ks.length vcap)):=zAM hne _ _ _ _ _ _
 refine ⟨⟨a.op,a.ct,a.n,a.m,a.va,a.ks⟩,[a.op,a.ct,a.n,a.m,a.va,.slice vA a.ks.length vcap],_,p+1,rfl,(zA4 _ _ _).2 ⟨_,rfl,ArrP.mono HO6.out.arr hkp⟩,(fun b hb=>?_),(by rw [zA5,zA5];exact Nat.le_succ _),zB2 HR6.out (by omega) _ _ _ _ _ _,by omega,zAL HC6.out (by omega) _ _ _ _ _ _⟩
 rw [zAN]
 refine ⟨hfr b hb,?_⟩
 by_cases hx:a.ks=[]
 ·rw [if_pos hx] at hb;cases hb
 ·rw [if_neg hx] at hb
  rcases List.mem_append.1 hb with hb | hb
  ·have:=(HO6.out.row b hb).1;exact ⟨by omega,.inr (by omega)⟩
  ·exact ⟨(HFG.out b hb).1,.inl (HFG.out b hb).2.2.2⟩
def MutCls (cls:List Cl) (p g:Nat) (G:List Nat) (N:Nat) (w:World) (e:Ending) (w':World):Prop:=∃ (ds:List Cl) (v:Value) (F:List Nat) (q:Nat),e=.returned v∧Arr w' (ClR w') ds v F∧(∀ x∈F,x<w'.heap.size∧x≠g∧(x∈G∨w.heap.size≤x))∧ds.length≤10∧cls.length≤ds.length∧(∀ c∈ds,nodesP c.pat≤N+2)∧Rd w' g q∧q≤p+5∧Chg [g] w w'
theorem ClR_one (w:World) (x:Cl) (cs:List Value) (G:List Nat) (h:ClR w x cs G):∀ u∈cs,u.oneCell'=true:=by
 obtain ⟨A,cap,rfl⟩:=zAV h
 intro u hu
 simp only [List.mem_cons,List.not_mem_nil,or_false] at hu
 rcases hu with rfl | rfl | rfl | rfl | rfl | rfl | rfl | rfl | rfl <;> rfl
theorem Own.front {α:Type} {k:Nat} {R:World→α→List Value→List Nat→Prop} (hRl:∀ w x cs G,R w x cs G→cs.length=k) (hRm:∀ w w' x cs G,Kept G w w'→R w x cs G→R w' x cs G) {w:World} {B:Nat} {E:TypeId} {x:α} {xs:List α} {F:List Nat} {A:Option Addr} {n cap:Nat} (h:Own w B E k R (x :: xs) (.slice A n cap) F) :
  ∃ (g:Nat) (cur:Array Value) (c1:List Value) (F1:List Nat),A=some ⟨g,0,none⟩∧B≤g∧Blk w g E cur∧k≤cur.size∧(∀ j,j<k→cur[j]?=c1[j]?)∧R w x c1 F1∧(∀ b∈F1,b∈F∧b≠g) ∧
   ∀ (w':World) (cur':Array Value) (y:α) (new:List Value) (Fn:List Nat),Blk w' g E cur'→cur'.size=cur.size→(∀ j,k≤j→cur'[j]?=cur[j]?)→(∀ j,j<k→cur'[j]?=new[j]?)→R w' y new Fn→Under w'.heap.size Fn→g∉Fn→(∀ b,b<w.heap.size→b≠g→w'.heap[b]?=w.heap[b]?)→w.heap.size≤w'.heap.size →
    ∃ F',(∀ b∈F',b∈F∨b∈Fn)∧Own w' B E k R (y :: xs) (.slice A n cap) F':=by
 obtain ⟨cs,h1,h2,h3,h4⟩:=h
 obtain ⟨c1,c2,F1,F2,rfl,rfl,k1,k2⟩:=h2
 have hl1:c1.length=k:=hRl w x c1 F1 k1
 obtain ⟨hlen,hown⟩:=h1
 rcases hown with ⟨hv,hn⟩ | ⟨g,cap',cur,hv,hb,hg,hc,hm,hs,ht⟩
 ·simp at hn
 ·cases hv
  simp only [List.length_cons] at hlen hc ht
  have hk:k≤cur.size:=by
   rw [hs]
   exact Nat.le_trans (Nat.le_of_eq (Nat.one_mul k).symm) (Nat.mul_le_mul_right k (show 1≤cap by omega))
  have hkk:k≤(xs.length+1)*k:=Nat.le_trans (Nat.le_of_eq (Nat.one_mul k).symm) (Nat.mul_le_mul_right k (by omega))
  have htk:∀ j,(cur.toList.take ((xs.length+1)*k))[j]?=if j<(xs.length+1)*k then cur[j]? else none:=fun j=>by
   rw [List.getElem?_take]
   simp
  have hgF:∀ b∈F1 ++ F2,b≠g:=fun b hb e=>h4 g (by simp [zA7]) (e▸hb)
  refine ⟨g,cur,c1,F1,rfl,hb,hg,hk,fun j hj=>?_,k1,fun b hb=>⟨List.mem_append.2 (.inl hb),hgF b (List.mem_append.2 (.inl hb))⟩,?_⟩
  ·have h:=htk j
   rw [if_pos (by omega)] at h
   rw [←h,ht,List.getElem?_append_left (by omega)]
  ·intro w' cur' y new Fn b1 b2 b3 b4 hy hu hgn hkeep hsz
   have hnew:new.length=k:=hRl w' y new Fn hy
   have hU2:Under w F2:=h3.sub fun b hb=>List.mem_append.2 (.inr hb)
   have hkp:Kept F2 w w':=fun b hb=>hkeep b (hU2 b hb) (hgF b (List.mem_append.2 (.inr hb)))
   refine ⟨Fn ++ F2,fun b hb=>(List.mem_append.1 hb).elim .inr fun h=>.inl (List.mem_append.2 (.inr h)),new ++ c2,⟨?_,.inr ⟨g,cap,cur',rfl,hb,b1,hc,hm,b2.trans hs,?_⟩⟩,⟨new,c2,Fn,F2,rfl,rfl,hy,?_⟩,fun b hb=>(List.mem_append.1 hb).elim (fun h=>hu b h) (fun h=>zz9 (hU2 b h) hsz),fun z hz hzF=>?_⟩
   ·rw [List.length_append] at hlen ⊢
    rw [hnew];rw [hl1] at hlen;exact hlen
   ·apply List.ext_getElem?
    intro j
    have hlt:(cur'.toList.take ((xs.length+1)*k))[j]?=if j<(xs.length+1)*k then cur'[j]? else none:=by
     rw [List.getElem?_take]
     simp
    refine (hlt.trans ?_)
    by_cases hj:j<k
    ·rw [if_pos (by omega),List.getElem?_append_left (by omega),b4 j hj]
    ·have e1:(new ++ c2)[j]?=c2[j-k]?:=by rw [List.getElem?_append_right (by omega),hnew]
     have e2:(c1 ++ c2)[j]?=c2[j-k]?:=by rw [List.getElem?_append_right (by omega),hl1]
     rw [e1,←e2,←ht,htk j,b3 j (by omega)]
   ·exact k2.mono fun x _ ds H hH hr=>hRm w w' x ds H (fun b hb=>hkp b (hH b hb)) hr
   ·rw [zA7,zy1] at hz
    subst hz
    exact (List.mem_append.1 hzF).elim hgn (fun h=>hgF _ (List.mem_append.2 (.inr h)) rfl)
def slen:Value→Nat
 |.slice _ n _=>n
 |_=>0
theorem own_foot2 {α:Type} {w:World} {B k g:Nat} {E:TypeId} {R:World→α→List Value→List Nat→Prop} {vs:List α} {v:Value} {F G:List Nat} (h:Own w B E k R vs v F) (hg:g<B) (hF:∀ b∈F,b≠g∧(b∈G∨B≤b)):∀ b∈(if vs=[] then [] else rowOf v ++ F),b<w.heap.size∧b≠g∧(b∈G∨B≤b):=by
 intro b hb
 by_cases hx:vs=[]
 ·rw [if_pos hx] at hb;cases hb
 ·rw [if_neg hx] at hb
  rcases List.mem_append.1 hb with hb | hb
  ·have:=h.row b hb;exact ⟨this.2,by omega,.inr this.1⟩
  ·exact ⟨h.under b hb,hF b hb⟩
set_option maxHeartbeats 8000000 in
theorem spec_l4Mutate (cls:List Cl) (hlen:cls.length≤10) (N:Nat) (hN:N≤1500) (hNc:∀ c∈cls,nodesP c.pat≤N) (w:World) (p g:Nat) (hr:Rd w g p) (hp:p≤700000) (x:Value) (G:List Nat) (hx:Arr w (ClR w) cls x G) (hG:Under w G) (hGg:∀ b∈G,b≠g) :
  Calls Try.prog 41 #[.pointer (some ⟨g,0,none⟩),x] w (MutCls cls p g G N w):=by
 have hgl:=hr.lt
 obtain ⟨A4,cap4,rfl,hc3,hc4⟩:=hx.form
 obtain ⟨i0,hi,hz0,hz1,hz2⟩:=info_parts info_CE
 have HGG:=jj hGg
 have HNC:=jj hNc
 have HI:=jj hi
 have HZ0:=jj hz0
 have HZ1:=jj hz1
 have HZ2:=jj hz2
 have HX:=jj hx
 have HG:=jj hG
 have HR:=jj hr
 clear hi hz0 hz1 hz2 hx hG hr
 clear hGg hNc
 have hb0:Below w w (w.alloc (.cells #[] 55)):=(zy2 _ _).alloc (zz8 _) _
 have hO0:Own (w.alloc (.cells #[] 55)) w.heap.size 55 9 ClR ([]:List Cl) (.slice (some ⟨w,0,none⟩) 0 0) []:=Own.made w w.heap.size 55 9 ClR #[] 0 (zz8 _) (by simp [maxLen]) rfl
 have hX0:Arr (w.alloc (.cells #[] 55)) (ClR (w.alloc (.cells #[] 55))) cls (.slice A4 cls.length cap4) G:=ArrCl.below HX.out hb0 HG.out
 have hs1:((w.alloc (.cells #[] 55))).heap.size=w.heap.size+1:=by simp
 obtain ⟨v2,w5,F2,hr5,ho5,hG5,hgr5,hat5⟩:=run_append_all (P:=Try.prog) 50 50 i0 _ 88 Try.underlying50 HI.out HZ0.out HZ1.out HZ2.out rfl (by decide) ClR_lenA zAJ ClR_one hO0 hX0 (HG.out.mono hb0.size) (fun x hx hxG=>by rw [zA7,zy1] at hx;subst hx;have:=HG.out _ hxG;omega) (by simp;omega) (by simp;omega) (by rw [hs1];omega)
 rw [List.nil_append,List.nil_append] at ho5
 obtain ⟨vA,vcap,rfl,hvc1,hvc2⟩:=ho5.form
 have hB5:Below w w w5:=hb0.grown hgr5 hb0.size (fun x hx=>by
  have hx:some w.heap.size=some x:=hx
  cases hx;exact zz8 _)
 have HO5:=jj ho5
 have HFG:Hid (∀ b∈F2,b≠g∧(b∈G∨w.heap.size≤b)):=fun b hb=>⟨HGG.out b (hG5 b hb),.inl (hG5 b hb)⟩
 have HRUN:=jj hr5
 have HR5:=jj (HR.out.below hB5)
 clear hr5 ho5 hG5 hgr5 hat5 hX0 hO0 hb0 HR hs1
 go_enter Try.func41,Try.ntmps41
 go_wp2_with (at_builtin;refine Halt.mk ?_)
 refine Halt.of (wpList_append_run rfl _ _ 50 rfl (by rfl) (by rfl) HRUN.out ?_)
 clear HRUN
 go_wp2_with fail
 refine (zAH 24 p g w5 HR5.out (by omega) (by omega) (by omega)).mono ?_
 rintro e w6 ⟨r,rfl,hr24,hR6,hC6⟩
 have HC6:Hid (Chg [g] w w6):=(Chg.of_below hB5).trans hC6
 have HR6:=jj hR6
 have HO6:=jj (HO5.out.deeper (fun x cs G hk h=>zAJ _ _ x cs G hk h) hC6 (fun b hb h=>by rw [zy1] at h;have:=(HO5.out.row b hb).1;omega) (fun b hb h=>by rw [zy1] at h;exact (HFG.out b hb).1 h))
 clear hB5 hR6 hC6 HO5 HR5
 by_cases h0:r=0
 ·subst h0
  by_cases hk:cls=[]
  ·have hl0:decide ((cls.length:Int)>0)=false:=by rw [hk];rfl
   have hl0':decide ((0:Int)<(cls.length:Int))=false:=by rw [hk];rfl
   have hl0n:decide (0<cls.length)=false:=by rw [hk];rfl
   clear hk
   have HFin:Hid (MutCls cls p g G N w (.returned (.slice vA cls.length vcap)) w6):=⟨cls,_,_,p+1,rfl,HO6.out.arr,own_foot2 (g:=g) HO6.out (by omega) HFG.out,by omega,zz8 _,(fun c hc=>by have:=HNC.out c hc;omega),HR6.out,by omega,HC6.out⟩
   go_wp2
   go_ret
   exact HFin.out
  ·obtain ⟨c0,cs0,hk0⟩:=List.exists_cons_of_ne_nil hk
   have hpos:0<cls.length:=by rw [hk0];simp
   have hl0:decide ((cls.length:Int)>0)=true:=decide_eq_true (by omega)
   have hl0':decide ((0:Int)<(cls.length:Int))=true:=decide_eq_true (by omega)
   have hl0n:decide (0<cls.length)=true:=decide_eq_true hpos
   have HK0:=jj hk0
   have hHd:=HO6.out
   rw [hk0] at hHd
   obtain ⟨g4,-,-,-,rfl,hg4,-⟩:=hHd.front ClR_lenA zAJ
   clear hk hHd hk0
   have hb10:Below w6 w6 (w6.alloc (.cells #[(1:Int),(2:Int),(3:Int),.int .i64 (-1)] 3)):=(zy2 _ _).alloc (zz8 _) _
   have HL10:Hid (LitN (w6.alloc (.cells #[(1:Int),(2:Int),(3:Int),.int .i64 (-1)] 3)) w6.heap.size [1,2,3,-1]):=LitN.new w6 [1,2,3,-1] (by decide)
   have hgl10:w6.heap.size≠g:=by have:=HR6.out.lt;omega
   go_wp2_with fail
   obtain ⟨w10,hw10⟩:∃ X,X=(w6.alloc (.cells #[(1:Int),(2:Int),(3:Int),.int .i64 (-1)] 3)):=⟨_,rfl⟩
   rw [←hw10] at hb10 HL10 ⊢
   clear hw10
   refine (num_any [1,2,3,-1] (by decide) (by decide) (p+1) g w10 (HR6.out.below hb10) (by omega) _ _ HL10.out.2 (fun x hx=>by rw [List.mem_singleton.1 hx];exact HL10.out.1) (fun e=>hgl10 (List.mem_singleton.1 e).symm)).mono ?_
   rintro e w7 ⟨n1,-,rfl,hR7,hC7⟩
   have hc7:Chg [g] w6 w7:=(Chg.of_below hb10).trans hC7
   have HO7:=jj (HO6.out.deeper (fun x cs G hk h=>zAJ _ _ x cs G hk h) hc7 (fun b hb h=>by rw [zy1] at h;have:=(HO6.out.row b hb).1;omega) (fun b hb h=>by rw [zy1] at h;exact (HFG.out b hb).1 h))
   have HR7:=jj hR7
   have HC7:Hid (Chg [g] w w7):=HC6.out.trans hc7
   clear hb10 HL10 hgl10 hR7 hC7 hc7 HO6 HR6 HC6
   have hb11:Below w7 w7 (w7.alloc (.cells #[(0:Int),(5:Int),(9:Int)] 3)):=(zy2 _ _).alloc (zz8 _) _
   have HL11:Hid (LitN (w7.alloc (.cells #[(0:Int),(5:Int),(9:Int)] 3)) w7.heap.size [0,5,9]):=LitN.new w7 [0,5,9] (by decide)
   have hgl11:w7.heap.size≠g:=by have:=HR7.out.lt;omega
   go_wp2_with fail
   obtain ⟨w11,hw11⟩:∃ X,X=(w7.alloc (.cells #[(0:Int),(5:Int),(9:Int)] 3)):=⟨_,rfl⟩
   rw [←hw11] at hb11 HL11 ⊢
   clear hw11
   refine (num_any [0,5,9] (by decide) (by decide) (p+1+1) g w11 (HR7.out.below hb11) (by omega) _ _ HL11.out.2 (fun x hx=>by rw [List.mem_singleton.1 hx];exact HL11.out.1) (fun e=>hgl11 (List.mem_singleton.1 e).symm)).mono ?_
   rintro e w8 ⟨n2,-,rfl,hR8,hC8⟩
   have hc8:Chg [g] w7 w8:=(Chg.of_below hb11).trans hC8
   have HO8:=jj (HO7.out.deeper (fun x cs G hk h=>zAJ _ _ x cs G hk h) hc8 (fun b hb h=>by rw [zy1] at h;have:=(HO7.out.row b hb).1;omega) (fun b hb h=>by rw [zy1] at h;exact (HFG.out b hb).1 h))
   have HR8:=jj hR8
   have HC8:Hid (Chg [g] w w8):=HC7.out.trans hc8
   clear hb11 HL11 hgl11 hR8 hC8 hc8 HO7 HR7 HC7
   have hb12:Below w8 w8 (w8.alloc (.cells #[(3:Int),(10:Int),.int .i64 (-1)] 3)):=(zy2 _ _).alloc (zz8 _) _
   have HL12:Hid (LitN (w8.alloc (.cells #[(3:Int),(10:Int),.int .i64 (-1)] 3)) w8.heap.size [3,10,-1]):=LitN.new w8 [3,10,-1] (by decide)
   have hgl12:w8.heap.size≠g:=by have:=HR8.out.lt;omega
   go_wp2_with fail
   obtain ⟨w12,hw12⟩:∃ X,X=(w8.alloc (.cells #[(3:Int),(10:Int),.int .i64 (-1)] 3)):=⟨_,rfl⟩
   rw [←hw12] at hb12 HL12 ⊢
   clear hw12
   refine (num_any [3,10,-1] (by decide) (by decide) (p+1+1+1) g w12 (HR8.out.below hb12) (by omega) _ _ HL12.out.2 (fun x hx=>by rw [List.mem_singleton.1 hx];exact HL12.out.1) (fun e=>hgl12 (List.mem_singleton.1 e).symm)).mono ?_
   rintro e w9 ⟨n3,-,rfl,hR9,hC9⟩
   have hc9:Chg [g] w8 w9:=(Chg.of_below hb12).trans hC9
   have HO9:=jj (HO8.out.deeper (fun x cs G hk h=>zAJ _ _ x cs G hk h) hc9 (fun b hb h=>by rw [zy1] at h;have:=(HO8.out.row b hb).1;omega) (fun b hb h=>by rw [zy1] at h;exact (HFG.out b hb).1 h))
   have HR9:=jj hR9
   have HC9:Hid (Chg [g] w w9):=HC8.out.trans hc9
   clear hb12 HL12 hgl12 hR9 hC9 hc9 HO8 HR8 HC8
   have hHd:=HO9.out
   rw [HK0.out] at hHd
   obtain ⟨g5,cur,c1,F1,e5,hg5,hcur,hcs,hcj,hr1,hf1,hcl⟩:=hHd.front ClR_lenA zAJ
   cases e5
   obtain ⟨cA,ccap,rfl⟩:=zAV hr1
   obtain ⟨ds1,e1,hp1⟩:=hr1
   obtain ⟨F',hF',hO'⟩:=hcl (((w9.setCell ⟨g4,6,none⟩ (.int .i64 n1)).setCell ⟨g4,7,none⟩ (.int .i64 n2)).setCell ⟨g4,8,none⟩ (.int .i64 n3)) (((cur.setIfInBounds 6 (.int .i64 n1)).setIfInBounds 7 (.int .i64 n2)).setIfInBounds 8 (.int .i64 n3)) ⟨c0.pat,⟨n1,n2,n3⟩⟩ [c0.pat.op,c0.pat.ct,c0.pat.n,c0.pat.m,c0.pat.va,.slice cA c0.pat.ks.length ccap,.int .i64 n1,.int .i64 n2,.int .i64 n3] F1 (((hcur.set_ 6 _).set_ 7 _).set_ 8 _) (by simp) (fun j hj=>by rw [Array.getElem?_setIfInBounds_ne (by omega),Array.getElem?_setIfInBounds_ne (by omega),Array.getElem?_setIfInBounds_ne (by omega)]) (fun j hj=>by
    have h:=hcj j hj
    rcases j with _ | _ | _ | _ | _ | _ | _ | _ | _ | j
    ·rw [Array.getElem?_setIfInBounds_ne (by omega),Array.getElem?_setIfInBounds_ne (by omega),Array.getElem?_setIfInBounds_ne (by omega),h];rfl
    ·rw [Array.getElem?_setIfInBounds_ne (by omega),Array.getElem?_setIfInBounds_ne (by omega),Array.getElem?_setIfInBounds_ne (by omega),h];rfl
    ·rw [Array.getElem?_setIfInBounds_ne (by omega),Array.getElem?_setIfInBounds_ne (by omega),Array.getElem?_setIfInBounds_ne (by omega),h];rfl
    ·rw [Array.getElem?_setIfInBounds_ne (by omega),Array.getElem?_setIfInBounds_ne (by omega),Array.getElem?_setIfInBounds_ne (by omega),h];rfl
    ·rw [Array.getElem?_setIfInBounds_ne (by omega),Array.getElem?_setIfInBounds_ne (by omega),Array.getElem?_setIfInBounds_ne (by omega),h];rfl
    ·rw [Array.getElem?_setIfInBounds_ne (by omega),Array.getElem?_setIfInBounds_ne (by omega),Array.getElem?_setIfInBounds_ne (by omega),h];rfl
    ·rw [Array.getElem?_setIfInBounds_ne (by omega),Array.getElem?_setIfInBounds_ne (by omega),Array.getElem?_setIfInBounds_self_of_lt (by omega)];rfl
    ·rw [Array.getElem?_setIfInBounds_ne (by omega),Array.getElem?_setIfInBounds_self_of_lt (by first | omega | (simp;omega))];rfl
    ·rw [Array.getElem?_setIfInBounds_self_of_lt (by first | omega | (simp;omega))];rfl
    ·omega) ⟨[c0.pat.op,c0.pat.ct,c0.pat.n,c0.pat.m,c0.pat.va,.slice cA c0.pat.ks.length ccap],rfl,PR.mono (w:=w9) _ _ _ (fun b hb=>by rw [zz7 _ _ _ _ (hf1 b hb).2,zz7 _ _ _ _ (hf1 b hb).2,zz7 _ _ _ _ (hf1 b hb).2]) (by
     have e2:ds1=[.int .i64 c0.pat.op,.int .i64 c0.pat.ct,.int .i64 c0.pat.n,.int .i64 c0.pat.m,.int .i64 c0.pat.va,.slice cA c0.pat.ks.length ccap]:=by
      have:=congrArg (List.take 6) e1
      obtain ⟨kv,rfl,-⟩:=(zA4 _ _ _).1 hp1
      simpa using this.symm
     rw [←e2];exact hp1)⟩ (fun b hb=>by have:=HO9.out.under b (hf1 b hb).1;simpa [World.setCell] using this) (fun h=>(hf1 _ h).2 rfl) (fun b hb hne=>by rw [zz7 _ _ _ _ hne,zz7 _ _ _ _ hne,zz7 _ _ _ _ hne]) (by simp [World.setCell])
   rw [←HK0.out] at hO'
   have HO':=jj hO'
   have HF'':Hid (∀ b∈F',b≠g∧(b∈G∨w.heap.size≤b)):=fun b hb=>(hF' b hb).elim (fun h=>HFG.out b h) (fun h=>HFG.out b (hf1 b h).1)
   have HNN:Hid (∀ c∈(⟨c0.pat,⟨n1,n2,n3⟩⟩ :: cs0:List Cl),nodesP c.pat≤N+2):=fun c hc=>by
    rcases List.mem_cons.1 hc with rfl | hc
    ·have:=HNC.out c0 (by rw [HK0.out];simp);show nodesP c0.pat≤N+2;omega
    ·have:=HNC.out c (by rw [HK0.out];simp [hc]);omega
   have hdl:(⟨c0.pat,⟨n1,n2,n3⟩⟩ :: cs0:List Cl).length=cls.length:=by rw [HK0.out];rfl
   have HFin:Hid (MutCls cls p g G N w (.returned (.slice (some ⟨g4,0,none⟩) cls.length vcap)) (((w9.setCell ⟨g4,6,none⟩ (.int .i64 n1)).setCell ⟨g4,7,none⟩ (.int .i64 n2)).setCell ⟨g4,8,none⟩ (.int .i64 n3))):=⟨_,_,_,p+1+1+1+1,rfl,HO'.out.arr,own_foot2 (g:=g) HO'.out (by omega) HF''.out,by omega,by omega,HNN.out,((HR9.out.set (by omega)).set (by omega)).set (by omega),by omega,((HC9.out.set_new (by omega)).set_new (by omega)).set_new (by omega)⟩
   clear hdl HNN HF'' HO' hO' hF' hcl hf1 hp1 e1
   have x6:w9.cell? ⟨g4,6,none⟩=c0.gd.op:=(hcur.cell 6).trans ((hcj 6 (by omega)).trans rfl)
   have x7:w9.cell? ⟨g4,7,none⟩=c0.gd.va:=(hcur.cell 7).trans ((hcj 7 (by omega)).trans rfl)
   have x8:w9.cell? ⟨g4,8,none⟩=c0.gd.n:=(hcur.cell 8).trans ((hcj 8 (by omega)).trans rfl)
   have z6:=hcur.frozen 6
   have z7:=hcur.frozen 7
   have z8:=hcur.frozen 8
   have xlt:=hcur.lt
   clear hcur hcs hcj
   go_wp2
   clear x6 z6 x7 z7 x8 z8 xlt
   go_ret
   exact HFin.out
 by_cases h1:r=1
 ·subst h1
  by_cases hk:cls=[]
  ·have hl0:decide ((cls.length:Int)>0)=false:=by rw [hk];rfl
   have hl0':decide ((0:Int)<(cls.length:Int))=false:=by rw [hk];rfl
   have hl0n:decide (0<cls.length)=false:=by rw [hk];rfl
   clear hk
   have HFin:Hid (MutCls cls p g G N w (.returned (.slice vA cls.length vcap)) w6):=⟨cls,_,_,p+1,rfl,HO6.out.arr,own_foot2 (g:=g) HO6.out (by omega) HFG.out,by omega,zz8 _,(fun c hc=>by have:=HNC.out c hc;omega),HR6.out,by omega,HC6.out⟩
   go_wp2
   go_ret
   exact HFin.out
  ·obtain ⟨c0,cs0,hk0⟩:=List.exists_cons_of_ne_nil hk
   have hpos:0<cls.length:=by rw [hk0];simp
   have hl0:decide ((cls.length:Int)>0)=true:=decide_eq_true (by omega)
   have hl0':decide ((0:Int)<(cls.length:Int))=true:=decide_eq_true (by omega)
   have hl0n:decide (0<cls.length)=true:=decide_eq_true hpos
   have g1:(0:Int)<(cls.length:Int):=by omega
   have HK0:=jj hk0
   have hHd:=HO6.out
   rw [hk0] at hHd
   obtain ⟨g4,cur,c1,F1,rfl,hg4,hcur,hcs,hcj,hr1,hf1,-⟩:=hHd.front ClR_lenA zAJ
   obtain ⟨cA,ccap,rfl⟩:=zAV hr1
   obtain ⟨ds1,e1,hp1⟩:=hr1
   have e2:ds1=[.int .i64 c0.pat.op,.int .i64 c0.pat.ct,.int .i64 c0.pat.n,.int .i64 c0.pat.m,.int .i64 c0.pat.va,.slice cA c0.pat.ks.length ccap]:=by
    have:=congrArg (List.take 6) e1
    obtain ⟨kv,rfl,-⟩:=(zA4 _ _ _).1 hp1
    simpa using this.symm
   subst e2
   have HP1:=jj hp1
   have UF1:Hid (Under w6 F1):=fun b hb=>HO6.out.under b (hf1 b hb).1
   have HF1:=jj hf1
   have hN0:nodesP c0.pat≤N:=HNC.out c0 (by rw [hk0];simp)
   have x0:w6.cell? ⟨g4,0,none⟩=c0.pat.op:=(hcur.cell 0).trans ((hcj 0 (by omega)).trans rfl)
   have x1:w6.cell? ⟨g4,1,none⟩=c0.pat.ct:=(hcur.cell 1).trans ((hcj 1 (by omega)).trans rfl)
   have x2:w6.cell? ⟨g4,2,none⟩=c0.pat.n:=(hcur.cell 2).trans ((hcj 2 (by omega)).trans rfl)
   have x3:w6.cell? ⟨g4,3,none⟩=c0.pat.m:=(hcur.cell 3).trans ((hcj 3 (by omega)).trans rfl)
   have x4:w6.cell? ⟨g4,4,none⟩=c0.pat.va:=(hcur.cell 4).trans ((hcj 4 (by omega)).trans rfl)
   have x5:w6.cell? ⟨g4,5,none⟩=some (.slice cA c0.pat.ks.length ccap):=(hcur.cell 5).trans ((hcj 5 (by omega)).trans rfl)
   have xlt:=hcur.lt
   clear hk hHd hk0 hcur hcs hcj hf1 e1 hp1
   go_wp2_with fail
   clear x0 x1 x2 x3 x4 x5 xlt
   refine (spec_l3Mutate c0.pat (by omega) w6 (p+1) g HR6.out (by omega) _ F1 HP1.out UF1.out (fun b hb=>(HFG.out b (HF1.out b hb).1).1)).mono ?_
   rintro e w7 ⟨m1,cs7,F7,q7,rfl,hp7,hf7,hn7,hr7,hq7,hc7⟩
   obtain ⟨kv7,rfl,ha7⟩:=(zA4 _ _ _).1 hp7
   obtain ⟨m1A,m1cap,rfl,-,-⟩:=ha7.form
   have HO7:=jj (HO6.out.deeper (fun x cs G hk h=>zAJ _ _ x cs G hk h) hc7 (fun b hb h=>by rw [zy1] at h;have:=(HO6.out.row b hb).1;omega) (fun b hb h=>by rw [zy1] at h;exact (HFG.out b hb).1 h))
   have HC7:Hid (Chg [g] w w7):=HC6.out.trans hc7
   have HR7:=jj hr7
   have HP7:=jj hp7
   have hz7:=hc7.size
   have hz6:=HC6.out.size
   have hg46:g4<w6.heap.size:=(HO6.out.row g4 (by rw [zA7];simp)).2
   have HF7:Hid (∀ b∈F7,b<w7.heap.size∧b≠g∧b≠g4∧(b∈G∨w.heap.size≤b)):=fun b hb=>by
    obtain ⟨h1,h2,h3⟩:=hf7 b hb
    rcases h3 with h3 | h3
    ·exact ⟨h1,h2,(HF1.out b h3).2,(HFG.out b (HF1.out b h3).1).2⟩
    ·exact ⟨h1,h2,by omega,.inr (by omega)⟩
   clear hp7 hf7 hr7 hc7 ha7 HO6 HR6 HC6
   go_wp2_with fail
   refine (spec_l3Mutate m1 (by omega) w7 q7 g HR7.out (by omega) _ F7 HP7.out (fun b hb=>(HF7.out b hb).1) (fun b hb=>(HF7.out b hb).2.1)).mono ?_
   rintro e w8 ⟨m2,cs8,F8,q8,rfl,hp8,hf8,hn8,hr8,hq8,hc8⟩
   obtain ⟨kv8,rfl,ha8⟩:=(zA4 _ _ _).1 hp8
   obtain ⟨mA,mcap,rfl,-,-⟩:=ha8.form
   have HO8:=jj (HO7.out.deeper (fun x cs G hk h=>zAJ _ _ x cs G hk h) hc8 (fun b hb h=>by rw [zy1] at h;have:=(HO7.out.row b hb).1;omega) (fun b hb h=>by rw [zy1] at h;exact (HFG.out b hb).1 h))
   have HC8:Hid (Chg [g] w w8):=HC7.out.trans hc8
   have HR8:=jj hr8
   have HP8:=jj hp8
   have hz8:=hc8.size
   have HF8:Hid (∀ b∈F8,b<w8.heap.size∧b≠g∧b≠g4∧(b∈G∨w.heap.size≤b)):=fun b hb=>by
    obtain ⟨h1,h2,h3⟩:=hf8 b hb
    rcases h3 with h3 | h3
    ·exact ⟨h1,h2,(HF7.out b h3).2.2.1,(HF7.out b h3).2.2.2⟩
    ·exact ⟨h1,h2,by omega,.inr (by omega)⟩
   clear hp8 hf8 hr8 hc8 ha8 HO7 HR7 HC7 HP7
   have hHd:=HO8.out
   rw [HK0.out] at hHd
   obtain ⟨g5,cur,c1,F5,e5,hg5,hcur,hcs,hcj,hr1,hf1,hcl⟩:=hHd.front ClR_lenA zAJ
   cases e5
   obtain ⟨c5A,c5cap,rfl⟩:=zAV hr1
   obtain ⟨F',hF',hO'⟩:=hcl ((((((w8.setCell ⟨g4,0,none⟩ (.int .i64 m2.op)).setCell ⟨g4,1,none⟩ (.int .i64 m2.ct)).setCell ⟨g4,2,none⟩ (.int .i64 m2.n)).setCell ⟨g4,3,none⟩ (.int .i64 m2.m)).setCell ⟨g4,4,none⟩ (.int .i64 m2.va)).setCell ⟨g4,5,none⟩ (.slice mA m2.ks.length mcap)) ((((((cur.setIfInBounds 0 (.int .i64 m2.op)).setIfInBounds 1 (.int .i64 m2.ct)).setIfInBounds 2 (.int .i64 m2.n)).setIfInBounds 3 (.int .i64 m2.m)).setIfInBounds 4 (.int .i64 m2.va)).setIfInBounds 5 (.slice mA m2.ks.length mcap)) ⟨m2,c0.gd⟩ [m2.op,m2.ct,m2.n,m2.m,m2.va,.slice mA m2.ks.length mcap,c0.gd.op,c0.gd.va,c0.gd.n] F8 ((((((hcur.set_ 0 _).set_ 1 _).set_ 2 _).set_ 3 _).set_ 4 _).set_ 5 _) (by simp) (fun j hj=>by rw [Array.getElem?_setIfInBounds_ne (by omega),Array.getElem?_setIfInBounds_ne (by omega),Array.getElem?_setIfInBounds_ne (by omega),Array.getElem?_setIfInBounds_ne (by omega),Array.getElem?_setIfInBounds_ne (by omega),Array.getElem?_setIfInBounds_ne (by omega)]) (fun j hj=>by
    have h:=hcj j hj
    rcases j with _ | _ | _ | _ | _ | _ | _ | _ | _ | j
    ·rw [Array.getElem?_setIfInBounds_ne (by omega),Array.getElem?_setIfInBounds_ne (by omega),Array.getElem?_setIfInBounds_ne (by omega),Array.getElem?_setIfInBounds_ne (by omega),Array.getElem?_setIfInBounds_ne (by omega),Array.getElem?_setIfInBounds_self_of_lt (by first | omega | (simp;omega))];rfl
    ·rw [Array.getElem?_setIfInBounds_ne (by omega),Array.getElem?_setIfInBounds_ne (by omega),Array.getElem?_setIfInBounds_ne (by omega),Array.getElem?_setIfInBounds_ne (by omega),Array.getElem?_setIfInBounds_self_of_lt (by first | omega | (simp;omega))];rfl
    ·rw [Array.getElem?_setIfInBounds_ne (by omega),Array.getElem?_setIfInBounds_ne (by omega),Array.getElem?_setIfInBounds_ne (by omega),Array.getElem?_setIfInBounds_self_of_lt (by first | omega | (simp;omega))];rfl
    ·rw [Array.getElem?_setIfInBounds_ne (by omega),Array.getElem?_setIfInBounds_ne (by omega),Array.getElem?_setIfInBounds_self_of_lt (by first | omega | (simp;omega))];rfl
    ·rw [Array.getElem?_setIfInBounds_ne (by omega),Array.getElem?_setIfInBounds_self_of_lt (by first | omega | (simp;omega))];rfl
    ·rw [Array.getElem?_setIfInBounds_self_of_lt (by first | omega | (simp;omega))];rfl
    ·rw [Array.getElem?_setIfInBounds_ne (by omega),Array.getElem?_setIfInBounds_ne (by omega),Array.getElem?_setIfInBounds_ne (by omega),Array.getElem?_setIfInBounds_ne (by omega),Array.getElem?_setIfInBounds_ne (by omega),Array.getElem?_setIfInBounds_ne (by omega),h];rfl
    ·rw [Array.getElem?_setIfInBounds_ne (by omega),Array.getElem?_setIfInBounds_ne (by omega),Array.getElem?_setIfInBounds_ne (by omega),Array.getElem?_setIfInBounds_ne (by omega),Array.getElem?_setIfInBounds_ne (by omega),Array.getElem?_setIfInBounds_ne (by omega),h];rfl
    ·rw [Array.getElem?_setIfInBounds_ne (by omega),Array.getElem?_setIfInBounds_ne (by omega),Array.getElem?_setIfInBounds_ne (by omega),Array.getElem?_setIfInBounds_ne (by omega),Array.getElem?_setIfInBounds_ne (by omega),Array.getElem?_setIfInBounds_ne (by omega),h];rfl
    ·omega) ⟨[m2.op,m2.ct,m2.n,m2.m,m2.va,.slice mA m2.ks.length mcap],rfl,PR.mono (w:=w8) _ _ _ (fun b hb=>by rw [zz7 _ _ _ _ (HF8.out b hb).2.2.1,zz7 _ _ _ _ (HF8.out b hb).2.2.1,zz7 _ _ _ _ (HF8.out b hb).2.2.1,zz7 _ _ _ _ (HF8.out b hb).2.2.1,zz7 _ _ _ _ (HF8.out b hb).2.2.1,zz7 _ _ _ _ (HF8.out b hb).2.2.1]) HP8.out⟩ (fun b hb=>by have:=(HF8.out b hb).1;simpa [World.setCell] using this) (fun h=>(HF8.out _ h).2.2.1 rfl) (fun b hb hne=>by rw [zz7 _ _ _ _ hne,zz7 _ _ _ _ hne,zz7 _ _ _ _ hne,zz7 _ _ _ _ hne,zz7 _ _ _ _ hne,zz7 _ _ _ _ hne]) (by simp [World.setCell])
   rw [←HK0.out] at hO'
   have HO':=jj hO'
   have HF'':Hid (∀ b∈F',b≠g∧(b∈G∨w.heap.size≤b)):=fun b hb=>(hF' b hb).elim (fun h=>HFG.out b h) (fun h=>⟨(HF8.out b h).2.1,(HF8.out b h).2.2.2⟩)
   have HNN:Hid (∀ c∈(⟨m2,c0.gd⟩ :: cs0:List Cl),nodesP c.pat≤N+2):=fun c hc=>by
    rcases List.mem_cons.1 hc with rfl | hc
    ·show nodesP m2≤N+2;omega
    ·have:=HNC.out c (by rw [HK0.out];simp [hc]);omega
   have hdl:(⟨m2,c0.gd⟩ :: cs0:List Cl).length=cls.length:=by rw [HK0.out];rfl
   have HFin:Hid (MutCls cls p g G N w (.returned (.slice (some ⟨g4,0,none⟩) cls.length vcap)) ((((((w8.setCell ⟨g4,0,none⟩ (.int .i64 m2.op)).setCell ⟨g4,1,none⟩ (.int .i64 m2.ct)).setCell ⟨g4,2,none⟩ (.int .i64 m2.n)).setCell ⟨g4,3,none⟩ (.int .i64 m2.m)).setCell ⟨g4,4,none⟩ (.int .i64 m2.va)).setCell ⟨g4,5,none⟩ (.slice mA m2.ks.length mcap))):=⟨_,_,_,q8,rfl,HO'.out.arr,own_foot2 (g:=g) HO'.out (by omega) HF''.out,by omega,by omega,HNN.out,(((((HR8.out.set (by omega)).set (by omega)).set (by omega)).set (by omega)).set (by omega)).set (by omega),by omega,(((((HC8.out.set_new (by omega)).set_new (by omega)).set_new (by omega)).set_new (by omega)).set_new (by omega)).set_new (by omega)⟩
   clear hdl HNN HF'' HO' hO' hF' hcl hf1
   have x0:=(hcur.cell 0).trans ((hcj 0 (by omega)).trans rfl)
   have z0:=hcur.frozen 0
   have x1:=(hcur.cell 1).trans ((hcj 1 (by omega)).trans rfl)
   have z1:=hcur.frozen 1
   have x2:=(hcur.cell 2).trans ((hcj 2 (by omega)).trans rfl)
   have z2:=hcur.frozen 2
   have x3:=(hcur.cell 3).trans ((hcj 3 (by omega)).trans rfl)
   have z3:=hcur.frozen 3
   have x4:=(hcur.cell 4).trans ((hcj 4 (by omega)).trans rfl)
   have z4:=hcur.frozen 4
   have x5:=(hcur.cell 5).trans ((hcj 5 (by omega)).trans rfl)
   have z5:=hcur.frozen 5
   have xlt:=hcur.lt
   clear hcur hcs hcj
   go_wp2
   clear x0 z0 x1 z1 x2 z2 x3 z3 x4 z4 x5 z5 xlt
   go_ret
   exact HFin.out
 by_cases h2:r=2
 ·subst h2
  have hl20:cls.length≤10:=hlen
  have HC6k:=HC6.out
  go_wp2
  go_loopw [5] (fun ov wr=>∃ (ds:List Cl),Hid (Own wr w.heap.size 55 9 ClR ds ov F2)∧cls.length≤ds.length∧ds.length≤10∧Hid (∀ c∈ds,nodesP c.pat≤N+2)∧Hid (Chg [g] w wr)∧w.heap.size≤wr.heap.size∧Hid (Rd wr g (p+1))) (fun ov _=>20-slen ov)
  case atStart=>exact ⟨cls,HO6,zz8 _,by omega,(fun c hc=>by have:=HNC.out c hc;omega),HC6,HC6k.size,HR6⟩
  case round =>
   clear HO6 HC6 HR6 HC6k
   obtain ⟨ds,HO,hd1,hd2,HND,HC,hz,HR⟩:=hrel
   obtain ⟨oA,ocap,hov,hoc1,hoc2⟩:=HO.out.form
   subst hov
   by_cases hk:ds.length≤8
   ·have g1:decide ((ds.length:Int)≤8)=true:=decide_eq_true (by omega)
    go_wp2_with (at_builtin;refine Halt.mk ?_)
    refine Halt.of (zA3 (P:=Try.prog) rfl _ _ 50 rfl i0 _ 88 Try.underlying50 HI.out HZ0.out HZ1.out HZ2.out rfl (by decide) ClR_lenA zAJ (by rfl) HO.out (⟨⟨1,0,0,0,0,[]⟩,⟨0,0,0⟩⟩:Cl) 55 [(1:Int),(0:Int),(0:Int),(0:Int),(0:Int),.slice none 0 0,(0:Int),(0:Int),(0:Int)] [] wr.heap.size (by rfl) rfl (by simp [Value.oneCell']) ⟨_,rfl,(zA4 _ _ _).2 ⟨_,rfl,Arr.nil⟩⟩ (Under.nil _) (fun _ _ h=>by cases h) (by unfold maxLen;omega) (by omega) hz ?_)
    intro gz cp w7 hown hgr hat
    rw [List.append_nil] at hown
    have hb7:Below w wr w7:=(((zy2 _ _).alloc hz _)).trans (grown_below hgr (by simp;omega) (fun b hb=>(HO.out.row b hb).1))
    have HOw:=jj hown
    have HN7:Hid (∀ c∈ds ++ [(⟨⟨1,0,0,0,0,[]⟩,⟨0,0,0⟩⟩:Cl)],nodesP c.pat≤N+2):=fun c hc=>by
     rcases List.mem_append.1 hc with h | h
     ·exact HND.out c h
     ·rw [List.mem_singleton.1 h];show nodesP ⟨1,0,0,0,0,[]⟩≤N+2;simp [nodesP,P.size,P.sizes]
    have HC7:Hid (Chg [g] w w7):=HC.out.under2 hb7
    have HR7:=jj (HR.out.keep (fun b hb=>hb7.block b (by omega)))
    have hz7:w.heap.size≤w7.heap.size:=by have:=hb7.size;omega
    have hl7:(ds ++ [(⟨⟨1,0,0,0,0,[]⟩,⟨0,0,0⟩⟩:Cl)]).length=ds.length+1:=by rw [List.length_append];rfl
    clear hown hgr hat hb7 HO HND HC HR g1
    go_wp2
    go_roundw
    case rel=>exact ⟨ds ++ [(⟨⟨1,0,0,0,0,[]⟩,⟨0,0,0⟩⟩:Cl)],HOw,by omega,by omega,HN7,HC7,hz7,HR7⟩
    case measure=>(simp [slen] <;> omega)
   ·have g1:decide ((ds.length:Int)≤8)=false:=decide_eq_false (by omega)
    have HFin:Hid (MutCls cls p g G N w (.returned (.slice oA ds.length ocap)) wr):=⟨ds,_,_,p+1,rfl,HO.out.arr,own_foot2 (g:=g) HO.out (by omega) HFG.out,by omega,hd1,HND.out,HR.out,by omega,HC.out⟩
    go_wp2
    go_ret
    exact HFin.out
 have q0:((r:Int)==0)=false:=by rw [beq_eq_false_iff_ne];omega
 have q1:((r:Int)==1)=false:=by rw [beq_eq_false_iff_ne];omega
 have q2:((r:Int)==2)=false:=by rw [beq_eq_false_iff_ne];omega
 have HFin:Hid (MutCls cls p g G N w (.returned (.slice vA cls.length vcap)) w6):=⟨cls,_,_,p+1,rfl,HO6.out.arr,own_foot2 (g:=g) HO6.out (by omega) HFG.out,by omega,zz8 _,(fun c hc=>by have:=HNC.out c hc;omega),HR6.out,by omega,HC6.out⟩
 go_wp2
 go_ret
 exact HFin.out
def KtO (w:World) (c:Kt) (cs:List Value) (F:List Nat):Prop:=∃ kv,cs=[.string c.name,kv,.int .i64 c.idx]∧Own w 0 25 2 TyR c.args kv []∧F=rowOf kv∧c.name.size≤9223372036854775807
def DtO (w:World) (x:Dt) (cs:List Value) (F:List Nat):Prop:=∃ kv,cs=[.string x.name,kv]∧Arr w (KtO w) x.ctors kv F∧x.name.size≤9223372036854775807
def SmallW (n:Nat) (xs:List Dt):Prop:=∀ x∈xs,x.ctors.length≤n∧∀ c∈x.ctors,c.args.length≤n
structure Cpy (g q:Nat) (xs:List Dt) (v:Value) (F:List Nat) (w w1:World):Prop where
 rd:Rd w1 g q
 chg:Chg [g] w w1
 own:Own w1 w.heap.size 113 2 DtO xs v F
 free:Free w1 F
 fresh:∀ b∈F,w.heap.size≤b
 lt:g<w.heap.size
def Mutd (g p m:Nat) (xs:List Dt) (w:World) (e:Ending) (w':World):Prop:=DrewWorld g p 10 w (fun ys=>0<ys.length∧ys.length≤xs.length+1∧SmallW (m+1) ys) e w'
section
variable {g q p m : Nat} {xs : List Dt} {v : Value} {F : List Nat} {w w1 w2 : World}
end
def dtk (xs:List Dt) (d:Nat):List Dt:=xs.take d
def ktk (cs:List Kt) (k:Nat):List Kt:=cs.take k
def DrewW (w:World) (e:Ending) (w':World):Prop:=∃ xs v F,e=.returned v∧Below w w w'∧Arr w' (DtR w') xs v F∧Fresh w w' F
def DrewWT (w:World) (e:Ending) (w':World):Prop:=∃ xs v F,∃ t:Ty,e=.returned (.tuple #[v,.agg #[t.d,t.i]])∧Below w w w'∧Arr w' (DtR w') xs v F∧Fresh w w' F
def DrewWTN (w:World) (e:Ending) (w':World):Prop:=∃ xs v F,∃ t:Ty,∃ n:Int,e=.returned (.tuple #[v,.agg #[t.d,t.i],.int .i64 n])∧Below w w w'∧Arr w' (DtR w') xs v F∧Fresh w w' F
def DrewWW (w:World) (e:Ending) (w':World):Prop:=∃ xs v F ys v2 F2,e=.returned (.tuple #[v,v2])∧Below w w w'∧Arr w' (DtR w') xs v F∧Under w'.heap.size F∧Arr w' (DtR w') ys v2 F2∧Under w'.heap.size F2
def DrewCC (w:World) (e:Ending) (w':World):Prop:=∃ (l1 l2:List Cl) (v1 v2:Value) (F1 F2:List Nat),e=.returned (.tuple #[v1,v2])∧Below w w w'∧Arr w' (ClR w') l1 v1 F1∧Under w'.heap.size F1∧Arr w' (ClR w') l2 v2 F2∧Under w'.heap.size F2
set_option maxHeartbeats 8000000 in
theorem spec_DrawClausesSame (bs0:List Int) (w:World) (v:Value) (F:List Nat) (hx:Arr w (ByR w) bs0 v F) (hf:Under w F) :
  Calls Try.prog 15 #[v] w (DrewCC w):=by
 have HX0:=jj hx
 have HU0:=jj hf
 clear hx hf
 go_enter Try.func15,Try.ntmps15
 go_wp2_with fail
 refine (spec_l17Open bs0 w v F HX0.out HU0.out).mono ?_
 rintro e w3 ⟨g,rfl,hge,hb3,hR3⟩
 have HR3:=jj hR3
 have HB3:=jj hb3
 have hg3:g<w3.heap.size:=hR3.lt
 clear hR3 hb3 HX0 HU0
 go_wp2_with fail
 refine (spec_l4Typed 0 g w3 HR3.out (by omega)).mono ?_
 rintro e w4 ⟨xs,xv,FX,t,cls,lv,Fl,va,vA,vcap,Fv,q4,rfl,htok,hx4,hfx4,hl4,hfl4,hn4,hcl4,hv4,hfv4,-,-,hr4,hq4,hc4⟩
 obtain ⟨lA,lcap,rfl,-,-⟩:=hl4.form
 obtain ⟨xA,xcap,rfl,-,-⟩:=hx4.form
 have HTOK:=jj htok
 have HCL:Hid (∀ c∈cls,nodesP c.pat≤512):=fun c hc=>(hcl4 c hc).1
 have NL:Hid (∀ b∈Fl,b≠g):=fun b hb=>(hfl4 b hb).2.1
 have NX:Hid (∀ b∈FX,b≠g):=fun b hb=>by have:=(hfx4 b hb).1;omega
 have UX4:Hid (Under w4 FX):=fun b hb=>(hfx4 b hb).2
 have hb6:Below w4 w4 ((w4.alloc (.cells #[t.d,t.i] 25)).alloc (.cells #[va.c,va.n,.slice vA va.ks.length vcap] 46)):=((zy2 _ _).alloc (zz8 _) _).alloc (by simp) _
 have KT5:Hid (Blk ((w4.alloc (.cells #[t.d,t.i] 25)).alloc (.cells #[va.c,va.n,.slice vA va.ks.length vcap] 46)) w4.heap.size 25 #[t.d,t.i]):=(Blk.new w4 _ _).same (Below.heap_alloc _ _ _ (by simp))
 have HL5:=jj (ArrCl.below hl4 hb6 (fun b hb=>(hfl4 b hb).1))
 have UL5:Hid (Under (((w4.alloc (.cells #[t.d,t.i] 25)).alloc (.cells #[va.c,va.n,.slice vA va.ks.length vcap] 46))).heap.size Fl):=fun b hb=>zz9 (hfl4 b hb).1 hb6.size
 have HX5:=jj (ArrDt.below hx4 hb6 UX4.out)
 have UX5:Hid (Under (((w4.alloc (.cells #[t.d,t.i] 25)).alloc (.cells #[va.c,va.n,.slice vA va.ks.length vcap] 46))).heap.size FX):=UX4.out.mono hb6.size
 have HR5:=jj (hr4.below hb6)
 have hz4:=hc4.size
 have HB5:Hid (Below w w ((w4.alloc (.cells #[t.d,t.i] 25)).alloc (.cells #[va.c,va.n,.slice vA va.ks.length vcap] 46))):=(HB3.out.trans (hc4.below (fun b hb=>by rw [zy1] at hb;omega) HB3.out.size)).trans (hb6.mono (Nat.le_trans HB3.out.size hz4))
 clear htok hx4 hfx4 hl4 hfl4 hcl4 hv4 hfv4 hr4 hc4 hb6 HR3 HB3 UX4
 go_wp2_with fail
 obtain ⟨w5,hw5⟩:∃ X,X=((w4.alloc (.cells #[t.d,t.i] 25)).alloc (.cells #[va.c,va.n,.slice vA va.ks.length vcap] 46)):=⟨_,rfl⟩
 rw [←hw5] at KT5 HL5 UL5 HX5 UX5 HR5 HB5 ⊢
 clear hw5
 obtain ⟨k,hk⟩:∃ X,X=w4.heap.size:=⟨_,rfl⟩
 rw [←hk] at KT5 hz4 ⊢
 first | (obtain ⟨k2,hk2⟩:∃ X,X=k+1:=⟨_,rfl⟩;rw [←hk2];clear hk2) | skip
 clear hk
 have hgk:g<k:=by omega
 refine (zAH 2 q4 g w5 HR5.out (by omega) (by omega) (by omega)).mono ?_
 rintro e w6 ⟨r,rfl,hr2,hr6,hc6⟩
 have HL6:=jj (ArrCl.mono HL5.out (hc6.kept UL5.out (fun b hb h=>NL.out b hb (List.mem_singleton.1 h))))
 have UL6:=jj (UL5.out.mono hc6.size)
 have HB6:=jj (HB5.out.trans (hc6.below (fun b hb=>by rw [zy1] at hb;omega) HB5.out.size))
 have KT6:=jj (KT5.out.same (hc6.block _ KT5.out.lt (by rw [zy1];omega)))
 have HX6:=jj (ArrDt.mono HX5.out (hc6.kept UX5.out (fun b hb h=>NX.out b hb (List.mem_singleton.1 h))))
 have UX6:=jj (UX5.out.mono hc6.size)
 have HR6:=jj hr6
 clear hr6 hc6 HL5 UL5 HB5 KT5 HX5 UX5 HR5
 cases q0:((r:Int)==0) with
 |true =>
  have y0:w6.cell? ⟨k,0,none⟩=t.d:=(KT6.out.cell 0).trans (by simp)
  have y1:w6.cell? ⟨k,1,none⟩=t.i:=(KT6.out.cell 1).trans (by simp)
  have ylt:=KT6.out.lt
  go_wp2_with fail
  clear y0 y1 ylt
  clear q0
  refine (spec_l4List xs (worldOK HTOK.out.ok) t (zB4 HTOK.out.ty) w6 (q4+1) g _ FX HR6.out (by omega) HX6.out UX6.out (fun h=>NX.out g h rfl)).mono ?_
  rintro e w7 ⟨ds,dv,Fd,q7,rfl,hd7,hfd7,-,-,-,-,hc7⟩
  have HL7:=jj (ArrCl.mono HL6.out (hc7.kept UL6.out (fun b hb h=>NL.out b hb (List.mem_singleton.1 h))))
  have UL7:=jj (UL6.out.mono hc7.size)
  have HB7:=jj (HB6.out.trans (hc7.below (fun b hb=>by rw [zy1] at hb;omega) HB6.out.size))
  have HFin:Hid (DrewCC w (.returned (.tuple #[.slice lA cls.length lcap,dv])) w7):=⟨cls,ds,_,_,_,_,rfl,HB7.out,HL7.out,UL7.out,hd7,fun b hb=>(hfd7 b hb).1⟩
  clear hd7 hfd7 hc7 HL7 UL7 HB7
  go_wp2
  go_ret2
  exact HFin.out
 |false =>
  go_wp2_with fail
  clear q0
  refine (spec_l4Mutate cls (by omega) 512 (by omega) HCL.out w6 (q4+1) g HR6.out (by omega) _ Fl HL6.out UL6.out NL.out).mono ?_
  rintro e w7 ⟨ds,dv,Fd,q7,rfl,hd7,hfd7,hl7,-,hn7,hr7,hq7,hc7⟩
  have HL7:=jj (ArrCl.mono HL6.out (hc7.kept UL6.out (fun b hb h=>NL.out b hb (List.mem_singleton.1 h))))
  have UL7:=jj (UL6.out.mono hc7.size)
  have HB7:=jj (HB6.out.trans (hc7.below (fun b hb=>by rw [zy1] at hb;omega) HB6.out.size))
  have HD7:=jj hd7
  have UD7:Hid (Under w7 Fd):=fun b hb=>(hfd7 b hb).1
  have ND7:Hid (∀ b∈Fd,b≠g):=fun b hb=>(hfd7 b hb).2.1
  have HN7:=jj hn7
  have HR7:=jj hr7
  obtain ⟨dA,dcap,rfl,-,-⟩:=hd7.form
  clear hd7 hfd7 hc7 hn7 hr7 HL6 UL6 HB6 KT6 HX6 UX6 HR6
  go_wp2_with fail
  refine (spec_l4Mutate ds hl7 514 (by omega) HN7.out w7 q7 g HR7.out (by omega) _ Fd HD7.out UD7.out ND7.out).mono ?_
  rintro e w8 ⟨es,ev,Fe,q8,rfl,he8,hfe8,-,-,-,-,-,hc8⟩
  have HL8:=jj (ArrCl.mono HL7.out (hc8.kept UL7.out (fun b hb h=>NL.out b hb (List.mem_singleton.1 h))))
  have UL8:=jj (UL7.out.mono hc8.size)
  have HB8:=jj (HB7.out.trans (hc8.below (fun b hb=>by rw [zy1] at hb;omega) HB7.out.size))
  have HFin:Hid (DrewCC w (.returned (.tuple #[.slice lA cls.length lcap,ev])) w8):=⟨cls,es,_,_,_,_,rfl,HB8.out,HL8.out,UL8.out,he8,fun b hb=>(hfe8 b hb).1⟩
  clear he8 hfe8 hc8 HL8 UL8 HB8
  go_wp2
  go_ret2
  exact HFin.out
end Go.Proofs.Ytjjclcmmfeegfaa
