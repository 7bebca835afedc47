/-
  Lemmas, and contracts of functions. Conditions: none.
-/
import Derived.Test.YtjjclcmmfeegfaaGreatDoorJAF
import Derived.Test.YtjjclcmmfeegfaaGreatDoorJAC
import Derived.Deep.RegionWith
import Derived.Deep.Cut
import Derived.Test.YtjjclcmmfeegfaaGreatDoorJAD
import Derived.Test.YtjjclcmmfeegfaaGreatDoorJAB
import Derived.Test.YtjjclcmmfeegfaaGreatDoorJAE

set_option linter.unusedVariables false
set_option linter.unusedSimpArgs false
set_option maxRecDepth 100000
set_option maxHeartbeats 1600000

namespace Go.Proofs.YtjjclcmmfeegfaaGreatDoor
open Go.RowKit
def MutV (bs:List Int) (B:Nat) (a:V) (p g:Nat) (G:List Nat) (w:World) (e:Ending) (w':World):Prop:=∃ (b:V) (cs:List Value) (F:List Nat) (q:Nat),e=.returned (.agg cs.toArray)∧VR w' b cs F∧(∀ x∈F,x<w'.heap.size∧x≠g∧(x∈G∨w.heap.size≤x))∧2*nodes b≤2*nodes a+(q-p)+1∧RdB w' g bs q∧p<q∧q≤B+1∧pot bs q≤pot bs p+2∧Chg [g] w w'
theorem pot_lt {bs:List Int} {B p:Nat} (hp:p≤B+1) (h:pot bs p+3≤pot bs B):p<B:=by
 rcases Nat.lt_or_ge p B with g | g
 ·exact g
 ·have h2:=pot_down bs B
  rcases Nat.eq_or_lt_of_le g with e | e
  ·rw [←e] at h;omega
  ·have e:p=B+1:=by omega
   rw [e] at h;omega
theorem Own.head_at {w:World} {B:Nat} {E:TypeId} {k:V} {ks:List V} {F:List Nat} {g n cap:Nat} (h:Own w B E 3 VR (k :: ks) (.slice (some ⟨g,0,none⟩) n cap) F) :
  ∃ A1 cap1 G1,w.cell? ⟨g,0,none⟩=k.c∧w.cell? ⟨g,1,none⟩=k.n∧w.cell? ⟨g,2,none⟩=some (.slice A1 k.ks.length cap1)∧VR w k [k.c,k.n,.slice A1 k.ks.length cap1] G1∧(∀ b∈G1,b∈F):=by
 obtain ⟨cs,h1,h2,h3,h4⟩:=h
 have hc:∃ m,w.ownsRow B E 3 (.slice (some ⟨g,0,none⟩) n cap) m cs:=⟨_,h1⟩
 obtain ⟨c1,c2,F1,F2,rfl,rfl,k1,k2⟩:=h2
 obtain ⟨kv,rfl,ha⟩:=(zA6 _ _ _).1 k1
 obtain ⟨A1,cap1,rfl,-,-⟩:=ha.form
 have hn:(k :: ks).length=n:=by
  rcases h1.2 with ⟨hv,-⟩ | ⟨g',cap',cur,hv,-⟩
  ·cases hv
  ·cases hv;rfl
 rw [hn] at h1
 have hc:=cellsAt_ownsRow h1
 exact ⟨A1,cap1,F1,hc 0 _ rfl,hc 1 _ rfl,hc 2 _ rfl,k1,fun b hb=>List.mem_append.2 (.inl hb)⟩
def MutF (bs:List Int) (B f:Nat):Prop:=∀ (a:V) (w:World) (p g:Nat) (_:RdB w g bs p) (_:B+1≤p+f) (_:p≤B+1) (_:pot bs p+3≤pot bs B) (_:2*nodes a≤4000+p) (cs:List Value) (G:List Nat) (_:VR w a cs G) (_:Under w G) (_:∀ b∈G,b≠g),
  Calls Tryz.prog 112 #[.pointer (some ⟨g,0,none⟩),.agg cs.toArray] w (MutV bs B a p g G w)
set_option maxHeartbeats 16000000 in
theorem spec_l2Mutate_step (bs:List Int) (B f:Nat) (hB:B≤1100000) (ih:MutF bs B f):MutF bs B (f+1):=by
 intro a w p g hr hf hp hpot hn cs G hv hG hGg
 have hpB:=pot_lt hp hpot
 have hgl:=hr.lt
 obtain ⟨kv,rfl,ha⟩:=(zA6 _ _ _).1 hv
 obtain ⟨A4,cap4,rfl,hc3,hc4⟩:=ha.form
 obtain ⟨i0,hi,hz0,hz1,hz2⟩:=info_parts info_VE
 have hkl:a.ks.length≤600000:=by rw [zAI,V.sizes_eq] at hn;omega
 have HGG:=jj hGg
 have IH:=jj ih
 clear ih
 have hws:(((w.alloc (.cells #[a.c,a.n,.slice A4 a.ks.length cap4] 45)).alloc (.cells #[(0:Int),(0:Int),.slice none 0 0] 45))).heap.size=w.heap.size+2:=by simp
 have hB0:Below w w ((w.alloc (.cells #[a.c,a.n,.slice A4 a.ks.length cap4] 45)).alloc (.cells #[(0:Int),(0:Int),.slice none 0 0] 45)):=((zy2 _ _).alloc (zz8 _) _).alloc (by simp) _
 have KV:Hid (Blk ((w.alloc (.cells #[a.c,a.n,.slice A4 a.ks.length cap4] 45)).alloc (.cells #[(0:Int),(0:Int),.slice none 0 0] 45)) w.heap.size 45 #[a.c,a.n,.slice A4 a.ks.length cap4]):=(Blk.new w _ _).same (Below.heap_alloc _ _ _ (by simp))
 have KR:Hid (Blk ((w.alloc (.cells #[a.c,a.n,.slice A4 a.ks.length cap4] 45)).alloc (.cells #[(0:Int),(0:Int),.slice none 0 0] 45)) (w.heap.size+1) 45 #[(0:Int),(0:Int),.slice none 0 0]):=zAG w _ 45 _
 have HX:Hid (Arr ((w.alloc (.cells #[a.c,a.n,.slice A4 a.ks.length cap4] 45)).alloc (.cells #[(0:Int),(0:Int),.slice none 0 0] 45)) (VR ((w.alloc (.cells #[a.c,a.n,.slice A4 a.ks.length cap4] 45)).alloc (.cells #[(0:Int),(0:Int),.slice none 0 0] 45))) a.ks (.slice A4 a.ks.length cap4) G):=ArrV.below ha hB0 hG
 have HG:=jj hG
 have HR:Hid (RdB ((w.alloc (.cells #[a.c,a.n,.slice A4 a.ks.length cap4] 45)).alloc (.cells #[(0:Int),(0:Int),.slice none 0 0] 45)) g bs p):=hr.below hB0
 have HI:=jj hi
 have HZ0:=jj hz0
 have HZ1:=jj hz1
 have HZ2:=jj hz2
 clear hi hz0 hz1 hz2
 clear hv ha hG hGg hr
 go_enter Tryz.func112,Tryz.ntmps112
 go_wp2_with fail
 obtain ⟨W0,hW0⟩:∃ X,X=((w.alloc (.cells #[a.c,a.n,.slice A4 a.ks.length cap4] 45)).alloc (.cells #[(0:Int),(0:Int),.slice none 0 0] 45)):=⟨_,rfl⟩
 rw [←hW0] at hws hB0 KV KR HX HR ⊢
 clear hW0
 have hkvl:=KV.out.lt
 go_cut [5] from 6 (fun pv wc=>∃ (D:Nat) (vA:Option Addr) (vcap:Nat) (F2:List Nat),pv=.pointer (some ⟨D,0,none⟩)∧w.heap.size+2≤D∧Hid (Blk wc D 45 #[a.c,a.n,.slice vA a.ks.length vcap])∧Hid (Own wc (w.heap.size+2) 45 3 VR a.ks (.slice vA a.ks.length vcap) F2)∧Hid (∀ b∈F2,b∈G)∧Hid (D∉rowOf (.slice vA a.ks.length vcap))∧Hid (Below (w.heap.size+2) W0 wc))
 case first =>
  have HS:Hid (∀ C:World,Below (w.heap.size+2) W0 C→(C.cell? ⟨w,0,none⟩=a.c∧C.cell? ⟨w,1,none⟩=a.n∧C.cell? ⟨w,2,none⟩=some (.slice A4 a.ks.length cap4))):=fun C hb=>⟨((KV.out.same (hb.block _ (by omega))).cell 0).trans (by simp),((KV.out.same (hb.block _ (by omega))).cell 1).trans (by simp),((KV.out.same (hb.block _ (by omega))).cell 2).trans (by simp)⟩
  have hC0:Below (w.heap.size+2) W0 W0.drew:=(zy2 _ _).drew
  have hsz0:W0.drew.heap.size=w.heap.size+2:=hws
  have HX0:Hid (Arr W0.drew (VR W0.drew) a.ks (.slice A4 a.ks.length cap4) G):=ArrV.mono HX.out (w':=W0.drew) (fun _ _=>rfl)
  refine wpBS HS.out (T:=fun _=>True) (d:=99) (by kernel_rfl) ?_
  obtain ⟨wd,hwd⟩:∃ X,X=W0.drew:=⟨_,rfl⟩
  rw [←hwd] at hC0 hsz0 HX0 ⊢
  clear hwd
  have hS0:=HS.out _ hC0
  have hT0:True:=trivial
  have hz0:w.heap.size+2≤wd.heap.size:=by omega
  clear hsz0
  refine wV 0 rfl hS0 hT0 ?_
  (try simp only [zz])
  refine wV 1 rfl hS0 hT0 ?_
  (try simp only [zz])
  refine wV 2 rfl hS0 hT0 ?_
  (try simp only [zz])
  refine wV 3 rfl hS0 hT0 ?_
  (try simp only [zz])
  refine wV 5 rfl hS0 hT0 ?_
  (try simp only [zz])
  refine wV 6 rfl hS0 hT0 ?_
  (try simp only [zz])
  refine wR (rs:=[4,9]) (by kernel_rfl) (by simp) ?_
  refine AllReadyB.c rfl (fun K hK=>?_) (AllReadyB.c rfl (fun K hK=>?_) (AllReadyB.n))
  ·skip
   go_simp
   obtain ⟨C1,hX⟩:∃ X,X=wd.alloc (.cells #[] 45):=⟨_,rfl⟩
   obtain ⟨g1,hg1⟩:∃ X,X=wd.heap.size:=⟨_,rfl⟩
   have hb1:Below wd wd C1:=by rw [hX];exact (zy2 _ _).alloc (zz8 _) _
   have hzz:C1.heap.size=wd.heap.size+1:=by rw [hX];simp
   have HO1:Hid (Own C1 (w.heap.size+2) 45 3 VR ([]:List V) (.slice (some ⟨g1,0,none⟩) 0 0) []):=by
    rw [hX,hg1]
    exact Own.made wd (w.heap.size+2) 45 3 VR #[] 0 hz0 (by simp [maxLen]) rfl
   rw [←hX,←hg1]
   clear hX
   have hC1:Below (w.heap.size+2) W0 C1:=hC0.trans (hb1.mono hz0)
   have hz1:w.heap.size+2≤C1.heap.size:=by omega
   have HX1:=jj (ArrV.below HX0.out hb1 (HG.out.mono (by omega)))
   have hgl:g1<C1.heap.size:=by omega
   clear hb1 hzz hg1
   (try dsimp only)
   refine hK.out _ _ (HS.out _ hC1) (fun _=>trivial) ?_
   clear hK K
   (try simp only [zz])
   refine wR (rs:=[7,9]) (by kernel_rfl) (by simp) ?_
   refine AllReadyB.c rfl (fun K hK=>?_) (AllReadyB.c rfl (fun K hK=>?_) (AllReadyB.n))
   ·skip
    obtain ⟨v2,C2,F2,hr2,ho2,hG2,hgr2,hat2⟩:=zAW (P:=Tryz.prog) 43 43 i0 _ 40 Tryz.underlying43 HI.out HZ0.out HZ1.out HZ2.out rfl (by decide) VR_len' VR_mono' VR_one' HO1.out HX1.out (HG.out.mono (by omega)) (fun x hx hxG=>by rw [zA3,zy1] at hx;subst hx;have:=HG.out _ hxG;have:=(HO1.out.row _ (by rw [zA3];exact List.mem_singleton.2 rfl)).1;omega) (by simp;omega) (by simp;omega) hz1
    rw [List.nil_append,List.nil_append] at ho2
    obtain ⟨vA,vcap,rfl,hvc1,hvc2⟩:=ho2.form
    have hrow:∀ x,some g1=some x→w.heap.size+2≤x:=fun x hx=>by cases hx;exact (HO1.out.row _ (by rw [zA3];exact List.mem_singleton.2 rfl)).1
    have hC2:Below (w.heap.size+2) W0 C2:=hC1.grown hgr2 hz1 hrow
    have hzz:C1.heap.size≤C2.heap.size:=hgr2.size
    have hz2:w.heap.size+2≤C2.heap.size:=by omega
    have HO2:=jj ho2
    have HG2:=jj hG2
    refine step_append_run (P:=Tryz.prog) rfl _ _ 43 rfl (by rfl) (by rfl) hr2 ?_
    clear hr2 ho2 hG2 hgr2 hat2 hrow hvc1 hvc2
    (try dsimp only)
    refine hK.out _ _ (HS.out _ hC2) (fun _=>trivial) ?_
    clear hK K
    (try simp only [zz])
    refine wV 8 rfl (HS.out _ hC2) hT0 ?_
    (try simp only [zz])
    refine w1 9 rfl fun K hK=>?_
    go_simp
    obtain ⟨C3,hX⟩:∃ X,X=C2.alloc (.cells #[(0:Int),(0:Int),.slice none 0 0] 45):=⟨_,rfl⟩
    obtain ⟨D,hD⟩:∃ X,X=C2.heap.size:=⟨_,rfl⟩
    have hb3:Below C2 C2 C3:=by rw [hX];exact (zy2 _ _).alloc (zz8 _) _
    have KD3:Hid (Blk C3 D 45 #[(0:Int),(0:Int),.slice none 0 0]):=by rw [hX,hD];exact Blk.new _ _ _
    rw [←hX,←hD]
    clear hX
    have hdge:w.heap.size+2≤D:=by rw [hD];exact hz2
    have hC3:Below (w.heap.size+2) W0 C3:=hC2.trans (hb3.mono hz2)
    have HO3:=jj (Own.below (fun x cs G hk h=>VR_mono' _ _ x cs G hk h) HO2.out hb3)
    have HDR:Hid (D∉rowOf (.slice vA a.ks.length vcap)):=fun h=>by have:=(HO2.out.row _ h).2;omega
    clear hb3 hD
    (try dsimp only)
    refine hK.out _ _ (HS.out _ hC3) (fun _=>trivial) ?_
    clear hK K
    (try simp only [zz])
    have yy0:C3.cell? ⟨D,0,none⟩=some (.int .i64 0):=(KD3.out.cell 0).trans (by simp)
    have ff0:=KD3.out.frozen 0
    have yy1:C3.cell? ⟨D,1,none⟩=some (.int .i64 0):=(KD3.out.cell 1).trans (by simp)
    have ff1:=KD3.out.frozen 1
    have yy2:C3.cell? ⟨D,2,none⟩=some (.slice none 0 0):=(KD3.out.cell 2).trans (by simp)
    have ff2:=KD3.out.frozen 2
    have yylt:=KD3.out.lt
    have hCe:Below (w.heap.size+2) W0 (((C3.setCell ⟨D,0,none⟩ (.int .i64 a.c)).setCell ⟨D,1,none⟩ (.int .i64 a.n)).setCell ⟨D,2,none⟩ (.slice vA a.ks.length vcap)):=((hC3.setCell hdge _).setCell hdge _).setCell hdge _
    have hKe:Hid (Blk (((C3.setCell ⟨D,0,none⟩ (.int .i64 a.c)).setCell ⟨D,1,none⟩ (.int .i64 a.n)).setCell ⟨D,2,none⟩ (.slice vA a.ks.length vcap)) D 45 #[a.c,a.n,.slice vA a.ks.length vcap]):=((KD3.out.set_ 0 _).set_ 1 _).set_ 2 _
    have hDF:D∉F2:=fun h=>by have:=HG.out _ (HG2.out _ h);omega
    have hOe:Hid (Own (((C3.setCell ⟨D,0,none⟩ (.int .i64 a.c)).setCell ⟨D,1,none⟩ (.int .i64 a.n)).setCell ⟨D,2,none⟩ (.slice vA a.ks.length vcap)) (w.heap.size+2) 45 3 VR a.ks (.slice vA a.ks.length vcap) F2):=(((HO3.out.set (fun w w' x cs G hk h=>VR_mono' w w' x cs G hk h) _ HDR.out hDF).set (fun w w' x cs G hk h=>VR_mono' w w' x cs G hk h) _ HDR.out hDF).set (fun w w' x cs G hk h=>VR_mono' w w' x cs G hk h) _ HDR.out hDF)
    refine w1 10 rfl fun K hK=>?_
    go_simp
    refine hK.out _ _ (HS.out _ hCe) (fun _=>trivial) ?_
    clear hK K
    (try simp only [zz])
    refine wE (by kernel_rfl) ?_
    clear yy0 ff0 yy1 ff1 yy2 ff2 yylt
    go_wp2
    go_meet
    case rel=>exact ⟨D,vA,vcap,F2,rfl,hdge,hKe,hOe,HG2,HDR,hCe⟩
   ·skip
    go_simp
    obtain ⟨C4,hX⟩:∃ X,X=C1.alloc (.cells #[(0:Int),(0:Int),.slice none 0 0] 45):=⟨_,rfl⟩
    obtain ⟨D,hD⟩:∃ X,X=C1.heap.size:=⟨_,rfl⟩
    have hb4:Below C1 C1 C4:=by rw [hX];exact (zy2 _ _).alloc (zz8 _) _
    have hzz:C4.heap.size=C1.heap.size+1:=by rw [hX];simp
    have KD4:Hid (Blk C4 D 45 #[(0:Int),(0:Int),.slice none 0 0]):=by rw [hX,hD];exact Blk.new _ _ _
    rw [←hX,←hD]
    clear hX
    have hdge:w.heap.size+2≤D:=by rw [hD];exact hz1
    have hC4:Below (w.heap.size+2) W0 C4:=hC1.trans (hb4.mono hz1)
    have hz4:w.heap.size+2≤C4.heap.size:=by omega
    have HX4:=jj (ArrV.below HX1.out hb4 (HG.out.mono (by omega)))
    have HO4:=jj (Own.below (fun x cs G hk h=>VR_mono' _ _ x cs G hk h) HO1.out hb4)
    have hgd:g1≠D:=by omega
    clear hb4 hzz hD
    (try dsimp only)
    refine hK.out _ _ (HS.out _ hC4) (fun _=>trivial) ?_
    clear hK K
    (try simp only [zz])
    refine wR (rs:=[7]) (by kernel_rfl) (by simp) ?_
    refine AllReadyB.c rfl (fun K hK=>?_) (AllReadyB.n)
    obtain ⟨v2,C5,F2,hr5,ho5,hG5,hgr5,hat5⟩:=zAW (P:=Tryz.prog) 43 43 i0 _ 40 Tryz.underlying43 HI.out HZ0.out HZ1.out HZ2.out rfl (by decide) VR_len' VR_mono' VR_one' HO4.out HX4.out (HG.out.mono (by omega)) (fun x hx hxG=>by rw [zA3,zy1] at hx;subst hx;have:=HG.out _ hxG;have:=(HO4.out.row _ (by rw [zA3];exact List.mem_singleton.2 rfl)).1;omega) (by simp;omega) (by simp;omega) hz4
    rw [List.nil_append,List.nil_append] at ho5
    obtain ⟨vA,vcap,rfl,hvc1,hvc2⟩:=ho5.form
    have hrow:∀ x,some g1=some x→w.heap.size+2≤x:=fun x hx=>by cases hx;exact (HO4.out.row _ (by rw [zA3];exact List.mem_singleton.2 rfl)).1
    have hC5:Below (w.heap.size+2) W0 C5:=hC4.grown hgr5 hz4 hrow
    have hzz:C4.heap.size≤C5.heap.size:=hgr5.size
    have hz5:w.heap.size+2≤C5.heap.size:=by omega
    have HO5:=jj ho5
    have HG2:=jj hG5
    have KD5:Hid (Blk C5 D 45 #[(0:Int),(0:Int),.slice none 0 0]):=KD4.out.same (hgr5.block _ KD4.out.lt (fun e=>by
     have e:some D=some g1:=e
     cases e;exact hgd rfl))
    have HDR:Hid (D∉rowOf (.slice vA a.ks.length vcap)):=fun h=>by
     have hm:=zA1.1 h
     rcases hat5 with q | q
     ·rw [q] at hm
      have hm:some g1=some D:=hm
      cases hm;exact hgd rfl
     ·rw [q] at hm
      have hm:some C4.heap.size=some D:=hm
      have:=KD4.out.lt
      cases hm;omega
    refine step_append_run (P:=Tryz.prog) rfl _ _ 43 rfl (by rfl) (by rfl) hr5 ?_
    clear hr5 ho5 hG5 hgr5 hat5 hrow hvc1 hvc2
    (try dsimp only)
    refine hK.out _ _ (HS.out _ hC5) (fun _=>trivial) ?_
    clear hK K
    (try simp only [zz])
    refine wV 8 rfl (HS.out _ hC5) hT0 ?_
    (try simp only [zz])
    have yy0:C5.cell? ⟨D,0,none⟩=some (.int .i64 0):=(KD5.out.cell 0).trans (by simp)
    have ff0:=KD5.out.frozen 0
    have yy1:C5.cell? ⟨D,1,none⟩=some (.int .i64 0):=(KD5.out.cell 1).trans (by simp)
    have ff1:=KD5.out.frozen 1
    have yy2:C5.cell? ⟨D,2,none⟩=some (.slice none 0 0):=(KD5.out.cell 2).trans (by simp)
    have ff2:=KD5.out.frozen 2
    have yylt:=KD5.out.lt
    have hCe:Below (w.heap.size+2) W0 (((C5.setCell ⟨D,0,none⟩ (.int .i64 a.c)).setCell ⟨D,1,none⟩ (.int .i64 a.n)).setCell ⟨D,2,none⟩ (.slice vA a.ks.length vcap)):=((hC5.setCell hdge _).setCell hdge _).setCell hdge _
    have hKe:Hid (Blk (((C5.setCell ⟨D,0,none⟩ (.int .i64 a.c)).setCell ⟨D,1,none⟩ (.int .i64 a.n)).setCell ⟨D,2,none⟩ (.slice vA a.ks.length vcap)) D 45 #[a.c,a.n,.slice vA a.ks.length vcap]):=((KD5.out.set_ 0 _).set_ 1 _).set_ 2 _
    have hDF:D∉F2:=fun h=>by have:=HG.out _ (HG2.out _ h);omega
    have hOe:Hid (Own (((C5.setCell ⟨D,0,none⟩ (.int .i64 a.c)).setCell ⟨D,1,none⟩ (.int .i64 a.n)).setCell ⟨D,2,none⟩ (.slice vA a.ks.length vcap)) (w.heap.size+2) 45 3 VR a.ks (.slice vA a.ks.length vcap) F2):=(((HO5.out.set (fun w w' x cs G hk h=>VR_mono' w w' x cs G hk h) _ HDR.out hDF).set (fun w w' x cs G hk h=>VR_mono' w w' x cs G hk h) _ HDR.out hDF).set (fun w w' x cs G hk h=>VR_mono' w w' x cs G hk h) _ HDR.out hDF)
    refine w1 10 rfl fun K hK=>?_
    go_simp
    refine hK.out _ _ (HS.out _ hCe) (fun _=>trivial) ?_
    clear hK K
    (try simp only [zz])
    refine wE (by kernel_rfl) ?_
    clear yy0 ff0 yy1 ff1 yy2 ff2 yylt
    go_wp2
    go_meet
    case rel=>exact ⟨D,vA,vcap,F2,rfl,hdge,hKe,hOe,HG2,HDR,hCe⟩
  ·skip
   go_simp
   obtain ⟨C6,hX⟩:∃ X,X=wd.alloc (.cells #[(0:Int),(0:Int),.slice none 0 0] 45):=⟨_,rfl⟩
   obtain ⟨D,hD⟩:∃ X,X=wd.heap.size:=⟨_,rfl⟩
   have hb6:Below wd wd C6:=by rw [hX];exact (zy2 _ _).alloc (zz8 _) _
   have hzz:C6.heap.size=wd.heap.size+1:=by rw [hX];simp
   have KD6:Hid (Blk C6 D 45 #[(0:Int),(0:Int),.slice none 0 0]):=by rw [hX,hD];exact Blk.new _ _ _
   rw [←hX,←hD]
   clear hX
   have hdge:w.heap.size+2≤D:=by rw [hD];exact hz0
   have hC6:Below (w.heap.size+2) W0 C6:=hC0.trans (hb6.mono hz0)
   have hz6:w.heap.size+2≤C6.heap.size:=by omega
   have HX6:=jj (ArrV.below HX0.out hb6 (HG.out.mono (by omega)))
   clear hb6 hzz hD
   (try dsimp only)
   refine hK.out _ _ (HS.out _ hC6) (fun _=>trivial) ?_
   clear hK K
   (try simp only [zz])
   refine wR (rs:=[4]) (by kernel_rfl) (by simp) ?_
   refine AllReadyB.c rfl (fun K hK=>?_) (AllReadyB.n)
   go_simp
   obtain ⟨C7,hX⟩:∃ X,X=C6.alloc (.cells #[] 45):=⟨_,rfl⟩
   obtain ⟨g7,hg7⟩:∃ X,X=C6.heap.size:=⟨_,rfl⟩
   have hb7:Below C6 C6 C7:=by rw [hX];exact (zy2 _ _).alloc (zz8 _) _
   have hzz:C7.heap.size=C6.heap.size+1:=by rw [hX];simp
   have HO7:Hid (Own C7 (w.heap.size+2) 45 3 VR ([]:List V) (.slice (some ⟨g7,0,none⟩) 0 0) []):=by
    rw [hX,hg7]
    exact Own.made C6 (w.heap.size+2) 45 3 VR #[] 0 hz6 (by simp [maxLen]) rfl
   rw [←hX,←hg7]
   clear hX
   have KD7:Hid (Blk C7 D 45 #[(0:Int),(0:Int),.slice none 0 0]):=KD6.out.same (hb7.block _ KD6.out.lt)
   have hgd:g7≠D:=by have:=KD6.out.lt;omega
   have hC7:Below (w.heap.size+2) W0 C7:=hC6.trans (hb7.mono hz6)
   have hz7:w.heap.size+2≤C7.heap.size:=by omega
   have HX7:=jj (ArrV.below HX6.out hb7 (HG.out.mono (by omega)))
   have hgl:g7<C7.heap.size:=by omega
   clear hb7 hzz hg7
   (try dsimp only)
   refine hK.out _ _ (HS.out _ hC7) (fun _=>trivial) ?_
   clear hK K
   (try simp only [zz])
   refine wR (rs:=[7]) (by kernel_rfl) (by simp) ?_
   refine AllReadyB.c rfl (fun K hK=>?_) (AllReadyB.n)
   obtain ⟨v2,C8,F2,hr8,ho8,hG8,hgr8,hat8⟩:=zAW (P:=Tryz.prog) 43 43 i0 _ 40 Tryz.underlying43 HI.out HZ0.out HZ1.out HZ2.out rfl (by decide) VR_len' VR_mono' VR_one' HO7.out HX7.out (HG.out.mono (by omega)) (fun x hx hxG=>by rw [zA3,zy1] at hx;subst hx;have:=HG.out _ hxG;have:=(HO7.out.row _ (by rw [zA3];exact List.mem_singleton.2 rfl)).1;omega) (by simp;omega) (by simp;omega) hz7
   rw [List.nil_append,List.nil_append] at ho8
   obtain ⟨vA,vcap,rfl,hvc1,hvc2⟩:=ho8.form
   have hrow:∀ x,some g7=some x→w.heap.size+2≤x:=fun x hx=>by cases hx;exact (HO7.out.row _ (by rw [zA3];exact List.mem_singleton.2 rfl)).1
   have hC8:Below (w.heap.size+2) W0 C8:=hC7.grown hgr8 hz7 hrow
   have hzz:C7.heap.size≤C8.heap.size:=hgr8.size
   have hz8:w.heap.size+2≤C8.heap.size:=by omega
   have HO8:=jj ho8
   have HG2:=jj hG8
   have KD8:Hid (Blk C8 D 45 #[(0:Int),(0:Int),.slice none 0 0]):=KD7.out.same (hgr8.block _ KD7.out.lt (fun e=>by
    have e:some D=some g7:=e
    cases e;exact hgd rfl))
   have HDR:Hid (D∉rowOf (.slice vA a.ks.length vcap)):=fun h=>by
    have hm:=zA1.1 h
    rcases hat8 with q | q
    ·rw [q] at hm
     have hm:some g7=some D:=hm
     cases hm;exact hgd rfl
    ·rw [q] at hm
     have hm:some C7.heap.size=some D:=hm
     have:=KD7.out.lt
     cases hm;omega
   refine step_append_run (P:=Tryz.prog) rfl _ _ 43 rfl (by rfl) (by rfl) hr8 ?_
   clear hr8 ho8 hG8 hgr8 hat8 hrow hvc1 hvc2
   (try dsimp only)
   refine hK.out _ _ (HS.out _ hC8) (fun _=>trivial) ?_
   clear hK K
   (try simp only [zz])
   refine wV 8 rfl (HS.out _ hC8) hT0 ?_
   (try simp only [zz])
   have yy0:C8.cell? ⟨D,0,none⟩=some (.int .i64 0):=(KD8.out.cell 0).trans (by simp)
   have ff0:=KD8.out.frozen 0
   have yy1:C8.cell? ⟨D,1,none⟩=some (.int .i64 0):=(KD8.out.cell 1).trans (by simp)
   have ff1:=KD8.out.frozen 1
   have yy2:C8.cell? ⟨D,2,none⟩=some (.slice none 0 0):=(KD8.out.cell 2).trans (by simp)
   have ff2:=KD8.out.frozen 2
   have yylt:=KD8.out.lt
   have hCe:Below (w.heap.size+2) W0 (((C8.setCell ⟨D,0,none⟩ (.int .i64 a.c)).setCell ⟨D,1,none⟩ (.int .i64 a.n)).setCell ⟨D,2,none⟩ (.slice vA a.ks.length vcap)):=((hC8.setCell hdge _).setCell hdge _).setCell hdge _
   have hKe:Hid (Blk (((C8.setCell ⟨D,0,none⟩ (.int .i64 a.c)).setCell ⟨D,1,none⟩ (.int .i64 a.n)).setCell ⟨D,2,none⟩ (.slice vA a.ks.length vcap)) D 45 #[a.c,a.n,.slice vA a.ks.length vcap]):=((KD8.out.set_ 0 _).set_ 1 _).set_ 2 _
   have hDF:D∉F2:=fun h=>by have:=HG.out _ (HG2.out _ h);omega
   have hOe:Hid (Own (((C8.setCell ⟨D,0,none⟩ (.int .i64 a.c)).setCell ⟨D,1,none⟩ (.int .i64 a.n)).setCell ⟨D,2,none⟩ (.slice vA a.ks.length vcap)) (w.heap.size+2) 45 3 VR a.ks (.slice vA a.ks.length vcap) F2):=(((HO8.out.set (fun w w' x cs G hk h=>VR_mono' w w' x cs G hk h) _ HDR.out hDF).set (fun w w' x cs G hk h=>VR_mono' w w' x cs G hk h) _ HDR.out hDF).set (fun w w' x cs G hk h=>VR_mono' w w' x cs G hk h) _ HDR.out hDF)
   refine w1 10 rfl fun K hK=>?_
   go_simp
   refine hK.out _ _ (HS.out _ hCe) (fun _=>trivial) ?_
   clear hK K
   (try simp only [zz])
   refine wE (by kernel_rfl) ?_
   clear yy0 ff0 yy1 ff1 yy2 ff2 yylt
   go_wp2
   go_meet
   case rel=>exact ⟨D,vA,vcap,F2,rfl,hdge,hKe,hOe,HG2,HDR,hCe⟩
 case rest =>
  obtain ⟨D,vA,vcap,F2,rfl,hDge,KD,HO,HG2,HDR,HBc⟩:=hcut
  obtain ⟨wp,hwp⟩:∃ X,X=wc:=⟨_,rfl⟩
  rw [←hwp] at KD HO HBc ⊢
  clear hwp
  have KRp:Hid (Blk wp (w.heap.size+1) 45 #[(0:Int),(0:Int),.slice none 0 0]):=KR.out.same (HBc.out.block _ (by omega))
  have hBp:Below w w wp:=hB0.trans (HBc.out.mono (by omega))
  have HRp:Hid (RdB wp g bs p):=HR.out.keep fun b hb=>HBc.out.block _ (by omega)
  have hDw:D<wp.heap.size:=KD.out.lt
  have HFG:Hid (∀ b∈F2,b≠g∧b≠w.heap.size+1∧(b∈G∨w.heap.size≤b)):=fun b hb=>⟨HGG.out b (HG2.out b hb),by have:=HG.out b (HG2.out b hb);omega,.inl (HG2.out b hb)⟩
  have HDF:Hid (D∉F2):=fun h=>by have:=HG.out _ (HG2.out _ h);omega
  clear HX HR KR HBc
  have hp3:pkOf bs p 24=3→pot bs (p+1)=pot bs p-2:=pot_three bs p
  have hpk:pkOf bs p 24=0∨pkOf bs p 24=1→pot bs (p+2)≤pot bs p+2:=pot_skip bs p
  have HUP:Hid (pot bs (p+1)≤pot bs p+2):=pot_up bs p
  go_wp2_with fail
  refine (pick_x bs 24 p g wp HRp.out (by omega) (by omega) (by omega)).mono ?_
  rintro e w6 ⟨rfl,hR6,hC6⟩
  generalize pkOf bs p 24=r at hp3 hpk ⊢
  have HC6:Hid (Chg [g] w w6):=(Chg.of_below hBp).trans hC6
  have HR6:=jj hR6
  have KD6:Hid (Blk w6 D 45 #[a.c,a.n,.slice vA a.ks.length vcap]):=KD.out.same (hC6.block _ KD.out.lt (by rw [zy1];omega))
  have KR6:Hid (Blk w6 (w.heap.size+1) 45 #[(0:Int),(0:Int),.slice none 0 0]):=KRp.out.same (hC6.block _ KRp.out.lt (by rw [zy1];omega))
  have HO6:=jj (HO.out.deeperV (fun x cs G hk h=>VR_mono' _ _ x cs G hk h) hC6 (fun b hb h=>by rw [zy1] at h;have:=(HO.out.row b hb).1;omega) (fun b hb h=>by rw [zy1] at h;exact (HFG.out b hb).1 h))
  have hz6:w.heap.size+2≤w6.heap.size:=by have:=KD6.out.lt;omega
  clear hBp KD KRp HO HRp hR6 hC6
  by_cases h0:r=0
  ·subst h0
   have HSK:Hid (pot bs (p+1+1)≤pot bs p+2):=hpk (.inl rfl)
   clear hpk hp3
   go_wp2_with fail
   have hLit:LitN (w6.alloc (.cells ([0,1,-1,9,-2].map (Value.int .i64)).toArray 3)) w6.heap.size [0,1,-1,9,-2]:=LitN.new _ _ (by decide)
   have hb7:Below w6 w6 (w6.alloc (.cells ([0,1,-1,9,-2].map (Value.int .i64)).toArray 3)):=(zy2 _ _).alloc (zz8 _) _
   have hR7:RdB (w6.alloc (.cells ([0,1,-1,9,-2].map (Value.int .i64)).toArray 3)) g bs (p+1):=HR6.out.below hb7
   have hLit2:=hLit
   simp only [List.map_cons,List.map_nil] at hLit2
   obtain ⟨w7,hw7⟩:∃ X,X=(w6.alloc (.cells ([0,1,-1,9,-2].map (Value.int .i64)).toArray 3)):=⟨_,rfl⟩
   have hw7':=hw7
   simp only [List.map_cons,List.map_nil] at hw7'
   rw [←hw7] at hLit hb7 hR7
   first | rw [←hw7] | rw [←hw7']
   clear hw7 hw7' hLit2
   have hg6:g<w6.heap.size:=HR6.out.lt
   refine (num_x bs [0,1,-1,9,-2] (by decide) (by decide) (p+1) g w7 hR7 (by omega) _ _ hLit.2 (fun x hx=>by rw [List.mem_singleton.1 hx];exact hLit.1) (fun e=>by rw [zy1] at e;omega)).mono ?_
   rintro e w8 ⟨nx,-,rfl,hR8,hq8⟩
   have hC68:Chg [g] w6 w8:=(Chg.of_below hb7).trans hq8
   have hC8:Chg [g] w w8:=HC6.out.trans hC68
   have KD8:Hid (Blk w8 D 45 #[a.c,a.n,.slice vA a.ks.length vcap]):=KD6.out.same (hC68.block _ KD6.out.lt (by rw [zy1];omega))
   have KR8:Hid (Blk w8 (w.heap.size+1) 45 #[(0:Int),(0:Int),.slice none 0 0]):=KR6.out.same (hC68.block _ KR6.out.lt (by rw [zy1];omega))
   have HO8:=jj (HO6.out.deeperV (fun x cs G hk h=>VR_mono' _ _ x cs G hk h) hC68 (fun b hb h=>by rw [zy1] at h;have:=(HO6.out.row b hb).1;omega) (fun b hb h=>by rw [zy1] at h;exact (HFG.out b hb).1 h))
   have HO9:Hid (Own (w8.setCell ⟨D,0,none⟩ (.int .i64 nx)) (w.heap.size+2) 45 3 VR a.ks (.slice vA a.ks.length vcap) F2):=HO8.out.set (fun w w' x cs G hk h=>VR_mono' w w' x cs G hk h) _ HDR.out HDF.out
   have KR9:Hid (Blk (w8.setCell ⟨D,0,none⟩ (.int .i64 nx)) (w.heap.size+1) 45 #[(0:Int),(0:Int),.slice none 0 0]):=KR8.out.same (zz7 _ _ _ _ (by show w.heap.size+1≠D;omega))
   have HR9:Hid (RdB (w8.setCell ⟨D,0,none⟩ (.int .i64 nx)) g bs (p+1+1)):=hR8.keep fun b hb=>zz7 _ _ _ _ (by show b≠D;omega)
   have HC9:Hid (Chg [g] w (w8.setCell ⟨D,0,none⟩ (.int .i64 nx))):=hC8.set_new (by omega)
   obtain ⟨e0,e1,e2,elt,f0,f1,f2⟩:=KD8.out.q3
   have r0:w8.cell? ⟨w.heap.size+1,0,none⟩=some (.int .i64 0):=(KR8.out.cell 0).trans (by simp)
   have s0:=KR8.out.frozen 0
   have r1:w8.cell? ⟨w.heap.size+1,1,none⟩=some (.int .i64 0):=(KR8.out.cell 1).trans (by simp)
   have s1:=KR8.out.frozen 1
   have r2:w8.cell? ⟨w.heap.size+1,2,none⟩=some (.slice none 0 0):=(KR8.out.cell 2).trans (by simp)
   have s2:=KR8.out.frozen 2
   have rlt:=KR8.out.lt
   clear hLit hb7 hR7 hq8 hR8 hC68 hC8
   go_wp2
   clear e0 f0 e1 f1 e2 f2 elt
   clear r0 s0 r1 s1 r2 s2 rlt
   refine bodyPost_ret (zA2 rfl _ _ (w.heap.size+1) 45 #[.int .i64 nx,a.n,.slice vA a.ks.length vcap] (0,0) _ rfl (KR9.out.three _ _ _) Tryz.underlying45 rfl rfl) rfl ?_
   have hfr:=HO9.out.under_any3
   have hne:∀ b∈(if a.ks=[] then [] else rowOf (.slice vA a.ks.length vcap) ++ F2),b≠w.heap.size+1:=fun b hb e=>by
    by_cases hx:a.ks=[]
    ·rw [if_pos hx] at hb;cases hb
    ·rw [if_neg hx] at hb
     rcases List.mem_append.1 hb with hb | hb
     ·have:=(HO9.out.row b hb).1;omega
     ·exact (HFG.out b hb).2.1 e
   have hkp:Kept (if a.ks=[] then [] else rowOf (.slice vA a.ks.length vcap) ++ F2) (w8.setCell ⟨D,0,none⟩ (.int .i64 nx)) ((((w8.setCell ⟨D,0,none⟩ (.int .i64 nx)).setCell ⟨w.heap.size+1,0,none⟩ (.int .i64 nx)).setCell ⟨w.heap.size+1,1,none⟩ (.int .i64 a.n)).setCell ⟨w.heap.size+1,2,none⟩ (.slice vA a.ks.length vcap)):=zBE hne _ _ _
   refine ⟨⟨nx,a.n,a.ks⟩,[.int .i64 nx,a.n,.slice vA a.ks.length vcap],_,p+1+1,rfl,(zA6 _ _ _).2 ⟨_,rfl,ArrV.mono HO9.out.arr hkp⟩,(fun b hb=>?_),(by rw [zAI,zAI];show 2*(1+V.sizes a.ks)≤2*(1+V.sizes a.ks)+(p+1+1-p)+1;omega),rdb_three HR9.out (by omega) _ _ _,by omega,by omega,HSK.out,chg_three HC9.out (by omega) _ _ _⟩
   rw [zBG]
   refine ⟨hfr b hb,?_⟩
   by_cases hx:a.ks=[]
   ·rw [if_pos hx] at hb;cases hb
   ·rw [if_neg hx] at hb
    rcases List.mem_append.1 hb with hb | hb
    ·have:=(HO9.out.row b hb).1;exact ⟨by omega,.inr (by omega)⟩
    ·exact ⟨(HFG.out b hb).1,(HFG.out b hb).2.2⟩
  by_cases h1:r=1
  ·subst h1
   have HSK:Hid (pot bs (p+1+1)≤pot bs p+2):=hpk (.inr rfl)
   clear hpk hp3
   go_wp2_with fail
   have hLit:LitN (w6.alloc (.cells ([10,-1,1].map (Value.int .i64)).toArray 3)) w6.heap.size [10,-1,1]:=LitN.new _ _ (by decide)
   have hb7:Below w6 w6 (w6.alloc (.cells ([10,-1,1].map (Value.int .i64)).toArray 3)):=(zy2 _ _).alloc (zz8 _) _
   have hR7:RdB (w6.alloc (.cells ([10,-1,1].map (Value.int .i64)).toArray 3)) g bs (p+1):=HR6.out.below hb7
   have hLit2:=hLit
   simp only [List.map_cons,List.map_nil] at hLit2
   obtain ⟨w7,hw7⟩:∃ X,X=(w6.alloc (.cells ([10,-1,1].map (Value.int .i64)).toArray 3)):=⟨_,rfl⟩
   have hw7':=hw7
   simp only [List.map_cons,List.map_nil] at hw7'
   rw [←hw7] at hLit hb7 hR7
   first | rw [←hw7] | rw [←hw7']
   clear hw7 hw7' hLit2
   have hg6:g<w6.heap.size:=HR6.out.lt
   refine (num_x bs [10,-1,1] (by decide) (by decide) (p+1) g w7 hR7 (by omega) _ _ hLit.2 (fun x hx=>by rw [List.mem_singleton.1 hx];exact hLit.1) (fun e=>by rw [zy1] at e;omega)).mono ?_
   rintro e w8 ⟨nx,-,rfl,hR8,hq8⟩
   have hC68:Chg [g] w6 w8:=(Chg.of_below hb7).trans hq8
   have hC8:Chg [g] w w8:=HC6.out.trans hC68
   have KD8:Hid (Blk w8 D 45 #[a.c,a.n,.slice vA a.ks.length vcap]):=KD6.out.same (hC68.block _ KD6.out.lt (by rw [zy1];omega))
   have KR8:Hid (Blk w8 (w.heap.size+1) 45 #[(0:Int),(0:Int),.slice none 0 0]):=KR6.out.same (hC68.block _ KR6.out.lt (by rw [zy1];omega))
   have HO8:=jj (HO6.out.deeperV (fun x cs G hk h=>VR_mono' _ _ x cs G hk h) hC68 (fun b hb h=>by rw [zy1] at h;have:=(HO6.out.row b hb).1;omega) (fun b hb h=>by rw [zy1] at h;exact (HFG.out b hb).1 h))
   have HO9:Hid (Own (w8.setCell ⟨D,1,none⟩ (.int .i64 nx)) (w.heap.size+2) 45 3 VR a.ks (.slice vA a.ks.length vcap) F2):=HO8.out.set (fun w w' x cs G hk h=>VR_mono' w w' x cs G hk h) _ HDR.out HDF.out
   have KR9:Hid (Blk (w8.setCell ⟨D,1,none⟩ (.int .i64 nx)) (w.heap.size+1) 45 #[(0:Int),(0:Int),.slice none 0 0]):=KR8.out.same (zz7 _ _ _ _ (by show w.heap.size+1≠D;omega))
   have HR9:Hid (RdB (w8.setCell ⟨D,1,none⟩ (.int .i64 nx)) g bs (p+1+1)):=hR8.keep fun b hb=>zz7 _ _ _ _ (by show b≠D;omega)
   have HC9:Hid (Chg [g] w (w8.setCell ⟨D,1,none⟩ (.int .i64 nx))):=hC8.set_new (by omega)
   obtain ⟨e0,e1,e2,elt,f0,f1,f2⟩:=KD8.out.q3
   have r0:w8.cell? ⟨w.heap.size+1,0,none⟩=some (.int .i64 0):=(KR8.out.cell 0).trans (by simp)
   have s0:=KR8.out.frozen 0
   have r1:w8.cell? ⟨w.heap.size+1,1,none⟩=some (.int .i64 0):=(KR8.out.cell 1).trans (by simp)
   have s1:=KR8.out.frozen 1
   have r2:w8.cell? ⟨w.heap.size+1,2,none⟩=some (.slice none 0 0):=(KR8.out.cell 2).trans (by simp)
   have s2:=KR8.out.frozen 2
   have rlt:=KR8.out.lt
   clear hLit hb7 hR7 hq8 hR8 hC68 hC8
   go_wp2
   clear e0 f0 e1 f1 e2 f2 elt
   clear r0 s0 r1 s1 r2 s2 rlt
   refine bodyPost_ret (zA2 rfl _ _ (w.heap.size+1) 45 #[a.c,.int .i64 nx,.slice vA a.ks.length vcap] (0,0) _ rfl (KR9.out.three _ _ _) Tryz.underlying45 rfl rfl) rfl ?_
   have hfr:=HO9.out.under_any3
   have hne:∀ b∈(if a.ks=[] then [] else rowOf (.slice vA a.ks.length vcap) ++ F2),b≠w.heap.size+1:=fun b hb e=>by
    by_cases hx:a.ks=[]
    ·rw [if_pos hx] at hb;cases hb
    ·rw [if_neg hx] at hb
     rcases List.mem_append.1 hb with hb | hb
     ·have:=(HO9.out.row b hb).1;omega
     ·exact (HFG.out b hb).2.1 e
   have hkp:Kept (if a.ks=[] then [] else rowOf (.slice vA a.ks.length vcap) ++ F2) (w8.setCell ⟨D,1,none⟩ (.int .i64 nx)) ((((w8.setCell ⟨D,1,none⟩ (.int .i64 nx)).setCell ⟨w.heap.size+1,0,none⟩ (.int .i64 a.c)).setCell ⟨w.heap.size+1,1,none⟩ (.int .i64 nx)).setCell ⟨w.heap.size+1,2,none⟩ (.slice vA a.ks.length vcap)):=zBE hne _ _ _
   refine ⟨⟨a.c,nx,a.ks⟩,[a.c,.int .i64 nx,.slice vA a.ks.length vcap],_,p+1+1,rfl,(zA6 _ _ _).2 ⟨_,rfl,ArrV.mono HO9.out.arr hkp⟩,(fun b hb=>?_),(by rw [zAI,zAI];show 2*(1+V.sizes a.ks)≤2*(1+V.sizes a.ks)+(p+1+1-p)+1;omega),rdb_three HR9.out (by omega) _ _ _,by omega,by omega,HSK.out,chg_three HC9.out (by omega) _ _ _⟩
   rw [zBG]
   refine ⟨hfr b hb,?_⟩
   by_cases hx:a.ks=[]
   ·rw [if_pos hx] at hb;cases hb
   ·rw [if_neg hx] at hb
    rcases List.mem_append.1 hb with hb | hb
    ·have:=(HO9.out.row b hb).1;exact ⟨by omega,.inr (by omega)⟩
    ·exact ⟨(HFG.out b hb).1,(HFG.out b hb).2.2⟩
  by_cases h2:r=2
  ·subst h2
   clear hpk hp3
   obtain ⟨e0,e1,e2,elt,f0,f1,f2⟩:=KD6.out.q3
   go_wp2_with (at_builtin;refine Halt.mk ?_)
   refine Halt.of (zA5 (P:=Tryz.prog) rfl _ _ 43 rfl i0 _ 40 Tryz.underlying43 HI.out HZ0.out HZ1.out HZ2.out rfl (by decide) VR_len' VR_mono' (by rfl) HO6.out ⟨-1,0,[]⟩ 45 [.int .i64 (-1),(0:Int),.slice none 0 0] [] _ (by rfl) (by simp) (by simp [Value.oneCell']) ((zA6 _ _ _).2 ⟨_,rfl,Arr.nil⟩) (Under.nil _) (fun _ _ h=>by cases h) (by unfold maxLen;omega) (by omega) hz6 ?_)
   intro g7 cp7 w9 hown9 hgr9 hat9
   clear e0 f0 e1 f1 e2 f2 elt
   rw [List.append_nil] at hown9
   have HO9':=jj hown9
   have hb69:Below (w.heap.size+2) w6 w9:=((zy2 _ _).alloc hz6 _).grown hgr9 (by simp;omega) (fun x hx=>(HO6.out.row x (zA1.2 hx)).1)
   have hDl:=KD6.out.lt
   have hDk:w9.heap[D]?=w6.heap[D]?:=(hgr9.block _ (by rw [World.size_alloc];omega) (fun e=>HDR.out (zA1.2 e.symm))).trans (Below.heap_alloc _ _ _ hDl)
   have KD9:Hid (Blk w9 D 45 #[a.c,a.n,.slice vA a.ks.length vcap]):=KD6.out.same hDk
   have KR9':Hid (Blk w9 (w.heap.size+1) 45 #[(0:Int),(0:Int),.slice none 0 0]):=KR6.out.same (hb69.block _ (by omega))
   have hD7:D≠g7:=fun e=>by
    rcases hat9 with h | h
    ·exact HDR.out (zA1.2 (by rw [e];exact h))
    ·omega
   have HO9:Hid (Own (w9.setCell ⟨D,2,none⟩ (.slice (some ⟨g7,0,none⟩) (a.ks.length+1) cp7)) (w.heap.size+2) 45 3 VR (a.ks ++ [⟨-1,0,[]⟩]) (.slice (some ⟨g7,0,none⟩) (a.ks.length+1) cp7) F2):=HO9'.out.set (fun w w' x cs G hk h=>VR_mono' w w' x cs G hk h) _ (fun h=>by rw [zA3,zy1] at h;exact hD7 h) HDF.out
   have KR9:Hid (Blk (w9.setCell ⟨D,2,none⟩ (.slice (some ⟨g7,0,none⟩) (a.ks.length+1) cp7)) (w.heap.size+1) 45 #[(0:Int),(0:Int),.slice none 0 0]):=KR9'.out.same (zz7 _ _ _ _ (by show w.heap.size+1≠D;omega))
   have hC69:Chg [g] w w9:=⟨hb69.os.trans HC6.out.os,hb69.tape.trans HC6.out.tape,hb69.output.trans HC6.out.output,Nat.le_trans HC6.out.size hb69.size,fun b hb hn=>(hb69.block b (by omega)).trans (HC6.out.block b hb hn)⟩
   have HC9:Hid (Chg [g] w (w9.setCell ⟨D,2,none⟩ (.slice (some ⟨g7,0,none⟩) (a.ks.length+1) cp7))):=hC69.set_new (by omega)
   have HR9:Hid (RdB (w9.setCell ⟨D,2,none⟩ (.slice (some ⟨g7,0,none⟩) (a.ks.length+1) cp7)) g bs (p+1)):=(HR6.out.keep (w':=w9) (fun b hb=>hb69.block b (by omega))).keep fun b hb=>zz7 _ _ _ _ (by show b≠D;omega)
   obtain ⟨e0,e1,e2,elt,f0,f1,f2⟩:=KD9.out.q3
   have r0:w9.cell? ⟨w.heap.size+1,0,none⟩=some (.int .i64 0):=(KR9'.out.cell 0).trans (by simp)
   have s0:=KR9'.out.frozen 0
   have r1:w9.cell? ⟨w.heap.size+1,1,none⟩=some (.int .i64 0):=(KR9'.out.cell 1).trans (by simp)
   have s1:=KR9'.out.frozen 1
   have r2:w9.cell? ⟨w.heap.size+1,2,none⟩=some (.slice none 0 0):=(KR9'.out.cell 2).trans (by simp)
   have s2:=KR9'.out.frozen 2
   have rlt:=KR9'.out.lt
   clear hown9 hgr9 hat9 hC69 hDk
   go_wp2
   clear e0 f0 e1 f1 e2 f2 elt
   clear r0 s0 r1 s1 r2 s2 rlt
   refine bodyPost_ret (zA2 rfl _ _ (w.heap.size+1) 45 #[a.c,a.n,.slice (some ⟨g7,0,none⟩) (a.ks.length+1) cp7] (0,0) _ rfl (KR9.out.three _ _ _) Tryz.underlying45 rfl rfl) rfl ?_
   have hfr:=HO9.out.under_any3
   have hne:∀ b∈(if (a.ks ++ [⟨-1,0,[]⟩])=[] then [] else rowOf (.slice (some ⟨g7,0,none⟩) (a.ks.length+1) cp7) ++ F2),b≠w.heap.size+1:=fun b hb e=>by
    by_cases hx:(a.ks ++ [⟨-1,0,[]⟩])=[]
    ·rw [if_pos hx] at hb;cases hb
    ·rw [if_neg hx] at hb
     rcases List.mem_append.1 hb with hb | hb
     ·have:=(HO9.out.row b hb).1;omega
     ·exact (HFG.out b hb).2.1 e
   have hkp:Kept (if (a.ks ++ [⟨-1,0,[]⟩])=[] then [] else rowOf (.slice (some ⟨g7,0,none⟩) (a.ks.length+1) cp7) ++ F2) (w9.setCell ⟨D,2,none⟩ (.slice (some ⟨g7,0,none⟩) (a.ks.length+1) cp7)) ((((w9.setCell ⟨D,2,none⟩ (.slice (some ⟨g7,0,none⟩) (a.ks.length+1) cp7)).setCell ⟨w.heap.size+1,0,none⟩ (.int .i64 a.c)).setCell ⟨w.heap.size+1,1,none⟩ (.int .i64 a.n)).setCell ⟨w.heap.size+1,2,none⟩ (.slice (some ⟨g7,0,none⟩) (a.ks.length+1) cp7)):=zBE hne _ _ _
   refine ⟨⟨a.c,a.n,a.ks ++ [⟨-1,0,[]⟩]⟩,[a.c,a.n,.slice (some ⟨g7,0,none⟩) (a.ks.length+1) cp7],_,p+1,rfl,(zA6 _ _ _).2 ⟨_,rfl,ArrV.mono HO9.out.arr hkp⟩,(fun b hb=>?_),(by rw [zAI,zAI];show 2*(1+V.sizes (a.ks ++ [⟨-1,0,[]⟩]))≤2*(1+V.sizes a.ks)+(p+1-p)+1;rw [V.sizes_snoc];show 2*(1+(V.sizes a.ks+(1+0)))≤2*(1+V.sizes a.ks)+(p+1-p)+1;omega),rdb_three HR9.out (by omega) _ _ _,by omega,by omega,HUP.out,chg_three HC9.out (by omega) _ _ _⟩
   rw [zBG]
   refine ⟨hfr b hb,?_⟩
   by_cases hx:(a.ks ++ [⟨-1,0,[]⟩])=[]
   ·rw [if_pos hx] at hb;cases hb
   ·rw [if_neg hx] at hb
    rcases List.mem_append.1 hb with hb | hb
    ·have:=(HO9.out.row b hb).1;exact ⟨by omega,.inr (by omega)⟩
    ·exact ⟨(HFG.out b hb).1,(HFG.out b hb).2.2⟩
  by_cases h3:r=3
  ·subst h3
   have HP3:Hid (pot bs (p+1)=pot bs p-2):=hp3 rfl
   clear hpk hp3
   by_cases hk:a.ks=[]
   ·have hl0:a.ks.length=0:=by rw [hk];rfl
    have t5:decide (0<a.ks.length)=false:=by rw [hl0];rfl
    clear hk hl0
    obtain ⟨e0,e1,e2,elt,f0,f1,f2⟩:=KD6.out.q3
    have r0:w6.cell? ⟨w.heap.size+1,0,none⟩=some (.int .i64 0):=(KR6.out.cell 0).trans (by simp)
    have s0:=KR6.out.frozen 0
    have r1:w6.cell? ⟨w.heap.size+1,1,none⟩=some (.int .i64 0):=(KR6.out.cell 1).trans (by simp)
    have s1:=KR6.out.frozen 1
    have r2:w6.cell? ⟨w.heap.size+1,2,none⟩=some (.slice none 0 0):=(KR6.out.cell 2).trans (by simp)
    have s2:=KR6.out.frozen 2
    have rlt:=KR6.out.lt
    go_wp2
    clear e0 f0 e1 f1 e2 f2 elt
    clear r0 s0 r1 s1 r2 s2 rlt
    refine bodyPost_ret (zA2 rfl _ _ (w.heap.size+1) 45 #[a.c,a.n,.slice vA a.ks.length vcap] (0,0) _ rfl (KR6.out.three _ _ _) Tryz.underlying45 rfl rfl) rfl ?_
    have hfr:=HO6.out.under_any3
    have hne:∀ b∈(if a.ks=[] then [] else rowOf (.slice vA a.ks.length vcap) ++ F2),b≠w.heap.size+1:=fun b hb e=>by
     by_cases hx:a.ks=[]
     ·rw [if_pos hx] at hb;cases hb
     ·rw [if_neg hx] at hb
      rcases List.mem_append.1 hb with hb | hb
      ·have:=(HO6.out.row b hb).1;omega
      ·exact (HFG.out b hb).2.1 e
    have hkp:Kept (if a.ks=[] then [] else rowOf (.slice vA a.ks.length vcap) ++ F2) w6 (((w6.setCell ⟨w.heap.size+1,0,none⟩ (.int .i64 a.c)).setCell ⟨w.heap.size+1,1,none⟩ (.int .i64 a.n)).setCell ⟨w.heap.size+1,2,none⟩ (.slice vA a.ks.length vcap)):=zBE hne _ _ _
    refine ⟨⟨a.c,a.n,a.ks⟩,[a.c,a.n,.slice vA a.ks.length vcap],_,p+1,rfl,(zA6 _ _ _).2 ⟨_,rfl,ArrV.mono HO6.out.arr hkp⟩,(fun b hb=>?_),(by rw [zAI,zAI];show 2*(1+V.sizes a.ks)≤2*(1+V.sizes a.ks)+(p+1-p)+1;omega),rdb_three HR6.out (by omega) _ _ _,by omega,by omega,HUP.out,chg_three HC6.out (by omega) _ _ _⟩
    rw [zBG]
    refine ⟨hfr b hb,?_⟩
    by_cases hx:a.ks=[]
    ·rw [if_pos hx] at hb;cases hb
    ·rw [if_neg hx] at hb
     rcases List.mem_append.1 hb with hb | hb
     ·have:=(HO6.out.row b hb).1;exact ⟨by omega,.inr (by omega)⟩
     ·exact ⟨(HFG.out b hb).1,(HFG.out b hb).2.2⟩
   ·obtain ⟨k0,ks0,hk0⟩:=List.exists_cons_of_ne_nil hk
    have hpos:0<a.ks.length:=by rw [hk0];simp
    have hHd:=HO6.out
    rw [hk0] at hHd
    have hnk:nodes a=1+(nodes k0+V.sizes ks0):=by rw [zAI,hk0];rfl
    have hgx:∃ g4,vA=some ⟨g4,0,none⟩:=by
     obtain ⟨g4,C4,h,-⟩:=hHd.cell0V
     exact ⟨g4,h⟩
    obtain ⟨g4,rfl⟩:=hgx
    have hg4:=HO6.out.row g4 (by rw [zA3];exact List.mem_singleton.2 rfl)
    have hDg:D≠g4:=fun e=>HDR.out (by rw [zA3,e];exact List.mem_singleton.2 rfl)
    obtain ⟨A1,cap1,G1,x0,x1,x2,hv1,hG1⟩:=hHd.head_at
    have HG1:Hid (∀ b∈G1,b∈F2):=hG1
    have HAP:Hid (g4∉F2):=HO6.out.apart g4 (by rw [zA3];exact List.mem_singleton.2 rfl)
    have HV1:=jj hv1
    have HNK:=jj hnk
    have hlen:(k0 :: ks0).length=a.ks.length:=by rw [hk0]
    have HHD:Hid (Own w6 (w.heap.size+2) 45 3 VR (k0 :: ks0) (.slice (some ⟨g4,0,none⟩) a.ks.length vcap) F2):=by
     rw [hlen] at hHd
     exact hHd
    have hq0:(0:Int)<(a.ks.length:Int):=by omega
    have HG1U:Hid (Under w6 G1):=fun b hb=>HO6.out.under b (hG1 b hb)
    have e2:w6.cell? ⟨D,2,none⟩=some (.slice (some ⟨g4,0,none⟩) a.ks.length vcap):=(KD6.out.cell 2).trans (by simp)
    have f2:=KD6.out.frozen 2
    have elt:=KD6.out.lt
    have HX0:=jj x0
    have HX1:=jj x1
    have HX2:=jj x2
    clear hv1 hG1 hnk hk0 hHd x0 x1 x2 hk hlen
    go_wp2_with fail
    clear e2 f2 elt
    have hDl:=KD6.out.lt
    have hng:g4≠g:=by omega
    have hnD:D≠g:=by omega
    have HS:Hid (∀ C:World,Chg [g,g4] w6 C→(C.cell? ⟨D,2,none⟩=some (.slice (some ⟨g4,0,none⟩) a.ks.length vcap))):=fun C hC=>(hC.cell hDl (by simp;omega)).trans ((KD6.out.cell 2).trans (by simp))
    have hC0:Chg [g] w6 w6.drew:=(Chg.refl _ _).drew
    have HRd:Hid (RdB w6.drew g bs (p+1)):=HR6.out.keep (fun b hb=>rfl)
    have HVd:Hid (VR w6.drew k0 [k0.c,k0.n,.slice A1 k0.ks.length cap1] G1):=VR.drew HV1.out
    have HGd:Hid (Under w6.drew.heap.size G1):=HG1U.out
    refine zA4 (S:=fun w'=>w'.cell? ⟨D,2,none⟩=some (.slice (some ⟨g4,0,none⟩) a.ks.length vcap)) (T:=fun _=>True) (d:=99) (by kernel_rfl) ?_
    obtain ⟨wd,hwd⟩:∃ X,X=w6.drew:=⟨_,rfl⟩
    have hzd:wd.heap.size=w6.heap.size:=by rw [hwd];rfl
    rw [←hwd] at hC0 HRd HVd HGd ⊢
    clear hwd
    have hS0:=HS.out _ (hC0.mono (by simp))
    have hT0:True:=trivial
    refine wV 0 rfl hS0 hT0 ?_
    (try simp only [zz])
    refine wV 1 rfl hS0 hT0 ?_
    (try simp only [zz])
    refine wV 2 rfl hS0 hT0 ?_
    (try simp only [zz])
    refine wV 3 rfl hS0 hT0 ?_
    (try simp only [zz])
    refine wV 4 rfl hS0 hT0 ?_
    (try simp only [zz])
    refine wV 5 rfl hS0 hT0 ?_
    (try simp only [zz])
    refine wV 6 rfl hS0 hT0 ?_
    (try simp only [zz])
    refine w1 7 rfl fun K hK=>?_
    have x0:=(hC0.cell hg4.2 (by rw [zy1];omega)).trans HX0.out
    have x1:=(hC0.cell hg4.2 (by rw [zy1];omega)).trans HX1.out
    have x2:=(hC0.cell hg4.2 (by rw [zy1];omega)).trans HX2.out
    go_simp
    (try dsimp only)
    refine hK.out _ _ (HS.out _ (hC0.mono (by simp))) (fun _=>trivial) ?_
    clear hK K
    (try simp only [zz])
    clear x0 x1 x2
    refine w1 8 rfl fun K hK=>?_
    go_simp
    go_at_call 112
    refine (IH.out k0 wd (p+1) g HRd.out (by omega) (by omega) (by have:=HP3.out;omega) (by have:=HNK.out;omega) _ G1 HVd.out HGd.out (fun b hb=>(HFG.out b (HG1.out b hb)).1)).mono ?_
    rintro e C1 ⟨b1,cs1,Fb1,q1,rfl,hv1,hf1,hn1,hr1,hl1,hm1,ho1,hc1⟩
    obtain ⟨kv1,rfl,ha1⟩:=(zA6 _ _ _).1 hv1
    obtain ⟨yA,ycap,rfl,-,-⟩:=ha1.form
    have hC1:Chg [g] w6 C1:=hC0.trans hc1
    have HV1':=jj hv1
    have HR1:=jj hr1
    have HF1:=jj hf1
    have hz1:=hc1.size
    have hp1:pot bs q1≤pot bs p:=by have:=HP3.out;omega
    clear hv1 hr1 hf1 ha1 hc1 HRd HVd HGd
    (try dsimp only)
    refine hK.out _ _ (HS.out _ (hC1.mono (by simp))) (fun _=>trivial) ?_
    clear hK K
    (try simp only [zz])
    refine w1 9 rfl fun K hK=>?_
    go_simp
    go_at_call 112
    refine (IH.out b1 C1 q1 g HR1.out (by omega) (by omega) (by omega) (by have:=HNK.out;omega) _ Fb1 HV1'.out (fun b hb=>(HF1.out b hb).1) (fun b hb=>(HF1.out b hb).2.1)).mono ?_
    rintro e C2 ⟨b2,cs2,Fb2,q2,rfl,hv2,hf2,hn2,hr2,hl2,hm2,ho2,hc2⟩
    obtain ⟨kv2,rfl,ha2⟩:=(zA6 _ _ _).1 hv2
    obtain ⟨bA,bcap,rfl,-,-⟩:=ha2.form
    have hC2:Chg [g] w6 C2:=hC1.trans hc2
    have hz2:=hc2.size
    have HF2:Hid (∀ x∈Fb2,x<C2.heap.size∧x≠g∧(x∈F2∨w6.heap.size≤x)):=fun x hx=>⟨(hf2 x hx).1,(hf2 x hx).2.1,by
     rcases (hf2 x hx).2.2 with h | h
     ·rcases (HF1.out x h).2.2 with h' | h'
      ·exact .inl (HG1.out x h')
      ·exact .inr (by omega)
     ·exact .inr (by omega)⟩
    have KD7:Hid (Blk C2 D 45 #[a.c,a.n,.slice (some ⟨g4,0,none⟩) a.ks.length vcap]):=KD6.out.same (hC2.block _ hDl (by rw [zy1];omega))
    have KR7:Hid (Blk C2 (w.heap.size+1) 45 #[(0:Int),(0:Int),.slice none 0 0]):=KR6.out.same (hC2.block _ KR6.out.lt (by rw [zy1];omega))
    have hO7:Own C2 (w.heap.size+2) 45 3 VR (k0 :: ks0) (.slice (some ⟨g4,0,none⟩) a.ks.length vcap) F2:=HHD.out.deeperV (fun x cs G hk h=>VR_mono' _ _ x cs G hk h) hC2 (fun b hb h=>by rw [zy1] at h;rw [zA3,zy1] at hb;omega) (fun b hb h=>by rw [zy1] at h;exact (HFG.out b hb).1 h)
    obtain ⟨F4,hF4,hO4⟩:=hO7.headV [b2.c,b2.n,.slice bA b2.ks.length bcap] rfl Fb2 b2 hv2 (fun b hb=>(HF2.out b hb).1) (fun h=>by
     rcases (HF2.out _ h).2.2 with h' | h'
     ·exact HAP.out h'
     ·omega)
    obtain ⟨g4',C4,hcc,hge4,hB4,hs4⟩:=hO7.cell0V
    cases hcc
    have HO4:Hid (Own (((C2.setCell ⟨g4,0,none⟩ (.int .i64 b2.c)).setCell ⟨g4,1,none⟩ (.int .i64 b2.n)).setCell ⟨g4,2,none⟩ (.slice bA b2.ks.length bcap)) (w.heap.size+2) 45 3 VR (b2 :: ks0) (.slice (some ⟨g4,0,none⟩) a.ks.length vcap) F4):=hO4
    have HF4:Hid (∀ b∈F4,b≠g∧b≠w.heap.size+1∧(b∈G∨w.heap.size≤b)):=fun b hb=>by
     rcases hF4 b hb with h | h
     ·exact HFG.out b h
     ·refine ⟨(HF2.out b h).2.1,?_⟩
      rcases (HF2.out b h).2.2 with h' | h'
      ·exact (HFG.out b h').2
      ·exact ⟨by omega,.inr (by omega)⟩
    have KD8:Hid (Blk (((C2.setCell ⟨g4,0,none⟩ (.int .i64 b2.c)).setCell ⟨g4,1,none⟩ (.int .i64 b2.n)).setCell ⟨g4,2,none⟩ (.slice bA b2.ks.length bcap)) D 45 #[a.c,a.n,.slice (some ⟨g4,0,none⟩) a.ks.length vcap]):=((KD7.out.same (zz7 _ _ _ _ (by show D≠g4;omega))).same (zz7 _ _ _ _ (by show D≠g4;omega))).same (zz7 _ _ _ _ (by show D≠g4;omega))
    have KR8:Hid (Blk (((C2.setCell ⟨g4,0,none⟩ (.int .i64 b2.c)).setCell ⟨g4,1,none⟩ (.int .i64 b2.n)).setCell ⟨g4,2,none⟩ (.slice bA b2.ks.length bcap)) (w.heap.size+1) 45 #[(0:Int),(0:Int),.slice none 0 0]):=((KR7.out.same (zz7 _ _ _ _ (by show w.heap.size+1≠g4;omega))).same (zz7 _ _ _ _ (by show w.heap.size+1≠g4;omega))).same (zz7 _ _ _ _ (by show w.heap.size+1≠g4;omega))
    have HC8:Hid (Chg [g] w (((C2.setCell ⟨g4,0,none⟩ (.int .i64 b2.c)).setCell ⟨g4,1,none⟩ (.int .i64 b2.n)).setCell ⟨g4,2,none⟩ (.slice bA b2.ks.length bcap))):=((((HC6.out.trans hC2).set_new (by omega)).set_new (by omega)).set_new (by omega))
    have hC8:Chg [g,g4] w6 (((C2.setCell ⟨g4,0,none⟩ (.int .i64 b2.c)).setCell ⟨g4,1,none⟩ (.int .i64 b2.n)).setCell ⟨g4,2,none⟩ (.slice bA b2.ks.length bcap)):=((((hC2.mono (by simp)).set (by simp)).set (by simp)).set (by simp))
    have HR8:Hid (RdB (((C2.setCell ⟨g4,0,none⟩ (.int .i64 b2.c)).setCell ⟨g4,1,none⟩ (.int .i64 b2.n)).setCell ⟨g4,2,none⟩ (.slice bA b2.ks.length bcap)) g bs q2):=((hr2.keep fun b hb=>zz7 _ _ _ _ (by show b≠g4;omega)).keep fun b hb=>zz7 _ _ _ _ (by show b≠g4;omega)).keep fun b hb=>zz7 _ _ _ _ (by show b≠g4;omega)
    have HSZ:Hid (2*(1+V.sizes (b2 :: ks0))≤2*nodes a+(q2-p)+1):=by
     have h1:=HNK.out
     have h2:V.sizes (b2 :: ks0)=nodes b2+V.sizes ks0:=rfl
     unfold Hid
     omega
    have HPT:Hid (pot bs q2≤pot bs p+2):=by unfold Hid;omega
    have hpq:p<q2:=by omega
    have hx0:∃ u,C2.cell? ⟨g4,0,none⟩=some u:=⟨C4[0],by rw [hB4.cell,Array.getElem?_eq_getElem (by omega)]⟩
    have hx1:∃ u,C2.cell? ⟨g4,1,none⟩=some u:=⟨C4[1],by rw [hB4.cell,Array.getElem?_eq_getElem (by omega)]⟩
    have hx2:∃ u,C2.cell? ⟨g4,2,none⟩=some u:=⟨C4[2],by rw [hB4.cell,Array.getElem?_eq_getElem (by omega)]⟩
    obtain ⟨u0,x0⟩:=hx0
    obtain ⟨u1,x1⟩:=hx1
    obtain ⟨u2,x2⟩:=hx2
    have z0:=hB4.frozen 0
    have z1:=hB4.frozen 1
    have z2:=hB4.frozen 2
    have xlt:=hB4.lt
    clear hO7 hO4 hF4 hB4 hs4 hge4 hv2 hf2 hn2 hr2 ha2 hc2 ho2
    (try dsimp only)
    refine hK.out _ _ (HS.out _ (hC2.mono (by simp))) (fun _=>trivial) ?_
    clear hK K
    (try simp only [zz])
    have hS2:=HS.out _ (hC2.mono (by simp))
    refine wV 10 rfl hS2 hT0 ?_
    (try simp only [zz])
    refine w1 11 rfl fun K hK=>?_
    go_simp
    (try dsimp only)
    refine hK.out _ _ (HS.out _ hC8) (fun _=>trivial) ?_
    clear hK K
    (try simp only [zz])
    refine wE (by kernel_rfl) ?_
    clear x0 x1 x2 z0 z1 z2 xlt hC8 hS0 hT0 hS2
    obtain ⟨w10,hw10⟩:∃ X,X=(((C2.setCell ⟨g4,0,none⟩ (.int .i64 b2.c)).setCell ⟨g4,1,none⟩ (.int .i64 b2.n)).setCell ⟨g4,2,none⟩ (.slice bA b2.ks.length bcap)):=⟨_,rfl⟩
    rw [←hw10] at KD8 KR8 HC8 HR8 HO4 ⊢
    have h10:C2.heap.size=w10.heap.size:=by rw [hw10];simp [World.setCell]
    clear hw10
    obtain ⟨e0,e1,e2,elt,f0,f1,f2⟩:=KD8.out.q3
    have r0:w10.cell? ⟨w.heap.size+1,0,none⟩=some (.int .i64 0):=(KR8.out.cell 0).trans (by simp)
    have s0:=KR8.out.frozen 0
    have r1:w10.cell? ⟨w.heap.size+1,1,none⟩=some (.int .i64 0):=(KR8.out.cell 1).trans (by simp)
    have s1:=KR8.out.frozen 1
    have r2:w10.cell? ⟨w.heap.size+1,2,none⟩=some (.slice none 0 0):=(KR8.out.cell 2).trans (by simp)
    have s2:=KR8.out.frozen 2
    have rlt:=KR8.out.lt
    go_wp2
    clear e0 f0 e1 f1 e2 f2 elt
    clear r0 s0 r1 s1 r2 s2 rlt
    refine bodyPost_ret (zA2 rfl _ _ (w.heap.size+1) 45 #[a.c,a.n,.slice (some ⟨g4,0,none⟩) a.ks.length vcap] (0,0) _ rfl (KR8.out.three _ _ _) Tryz.underlying45 rfl rfl) rfl ?_
    have hfr:=HO4.out.under_any3
    have hne:∀ b∈(if (b2 :: ks0)=[] then [] else rowOf (.slice (some ⟨g4,0,none⟩) a.ks.length vcap) ++ F4),b≠w.heap.size+1:=fun b hb e=>by
     by_cases hx:(b2 :: ks0)=[]
     ·rw [if_pos hx] at hb;cases hb
     ·rw [if_neg hx] at hb
      rcases List.mem_append.1 hb with hb | hb
      ·have:=(HO4.out.row b hb).1;omega
      ·exact (HF4.out b hb).2.1 e
    have hkp:Kept (if (b2 :: ks0)=[] then [] else rowOf (.slice (some ⟨g4,0,none⟩) a.ks.length vcap) ++ F4) w10 (((w10.setCell ⟨w.heap.size+1,0,none⟩ (.int .i64 a.c)).setCell ⟨w.heap.size+1,1,none⟩ (.int .i64 a.n)).setCell ⟨w.heap.size+1,2,none⟩ (.slice (some ⟨g4,0,none⟩) a.ks.length vcap)):=zBE hne _ _ _
    refine ⟨⟨a.c,a.n,b2 :: ks0⟩,[a.c,a.n,.slice (some ⟨g4,0,none⟩) a.ks.length vcap],_,q2,rfl,(zA6 _ _ _).2 ⟨_,rfl,ArrV.mono HO4.out.arr hkp⟩,(fun b hb=>?_),HSZ.out,rdb_three HR8.out (by omega) _ _ _,by omega,by omega,HPT.out,chg_three HC8.out (by omega) _ _ _⟩
    rw [zBG]
    refine ⟨hfr b hb,?_⟩
    by_cases hx:(b2 :: ks0)=[]
    ·rw [if_pos hx] at hb;cases hb
    ·rw [if_neg hx] at hb
     rcases List.mem_append.1 hb with hb | hb
     ·have:=(HO4.out.row b hb).1;exact ⟨by omega,.inr (by omega)⟩
     ·exact ⟨(HF4.out b hb).1,(HF4.out b hb).2.2⟩
  clear hpk hp3
  have q0:((r:Int)==0)=false:=by rw [beq_eq_false_iff_ne];omega
  have q1:((r:Int)==1)=false:=by rw [beq_eq_false_iff_ne];omega
  have q2:((r:Int)==2)=false:=by rw [beq_eq_false_iff_ne];omega
  have q3:((r:Int)==3)=false:=by rw [beq_eq_false_iff_ne];omega
  obtain ⟨e0,e1,e2,elt,f0,f1,f2⟩:=KD6.out.q3
  have r0:w6.cell? ⟨w.heap.size+1,0,none⟩=some (.int .i64 0):=(KR6.out.cell 0).trans (by simp)
  have s0:=KR6.out.frozen 0
  have r1:w6.cell? ⟨w.heap.size+1,1,none⟩=some (.int .i64 0):=(KR6.out.cell 1).trans (by simp)
  have s1:=KR6.out.frozen 1
  have r2:w6.cell? ⟨w.heap.size+1,2,none⟩=some (.slice none 0 0):=(KR6.out.cell 2).trans (by simp)
  have s2:=KR6.out.frozen 2
  have rlt:=KR6.out.lt
  go_wp2
  clear e0 f0 e1 f1 e2 f2 elt
  clear r0 s0 r1 s1 r2 s2 rlt
  refine bodyPost_ret (zA2 rfl _ _ (w.heap.size+1) 45 #[a.c,a.n,.slice vA a.ks.length vcap] (0,0) _ rfl (KR6.out.three _ _ _) Tryz.underlying45 rfl rfl) rfl ?_
  have hfr:=HO6.out.under_any3
  have hne:∀ b∈(if a.ks=[] then [] else rowOf (.slice vA a.ks.length vcap) ++ F2),b≠w.heap.size+1:=fun b hb e=>by
   by_cases hx:a.ks=[]
   ·rw [if_pos hx] at hb;cases hb
   ·rw [if_neg hx] at hb
    rcases List.mem_append.1 hb with hb | hb
    ·have:=(HO6.out.row b hb).1;omega
    ·exact (HFG.out b hb).2.1 e
  have hkp:Kept (if a.ks=[] then [] else rowOf (.slice vA a.ks.length vcap) ++ F2) w6 (((w6.setCell ⟨w.heap.size+1,0,none⟩ (.int .i64 a.c)).setCell ⟨w.heap.size+1,1,none⟩ (.int .i64 a.n)).setCell ⟨w.heap.size+1,2,none⟩ (.slice vA a.ks.length vcap)):=zBE hne _ _ _
  refine ⟨⟨a.c,a.n,a.ks⟩,[a.c,a.n,.slice vA a.ks.length vcap],_,p+1,rfl,(zA6 _ _ _).2 ⟨_,rfl,ArrV.mono HO6.out.arr hkp⟩,(fun b hb=>?_),(by rw [zAI,zAI];show 2*(1+V.sizes a.ks)≤2*(1+V.sizes a.ks)+(p+1-p)+1;omega),rdb_three HR6.out (by omega) _ _ _,by omega,by omega,HUP.out,chg_three HC6.out (by omega) _ _ _⟩
  rw [zBG]
  refine ⟨hfr b hb,?_⟩
  by_cases hx:a.ks=[]
  ·rw [if_pos hx] at hb;cases hb
  ·rw [if_neg hx] at hb
   rcases List.mem_append.1 hb with hb | hb
   ·have:=(HO6.out.row b hb).1;exact ⟨by omega,.inr (by omega)⟩
   ·exact ⟨(HFG.out b hb).1,(HFG.out b hb).2.2⟩
theorem spec_l2Mutate_all (bs:List Int) (B:Nat) (hB:B≤1100000):∀ f,MutF bs B f
 |0=>by
  intro a w p g hr hf hp hpot
  have:=pot_lt hp hpot
  omega
 |f+1=>spec_l2Mutate_step bs B f hB (spec_l2Mutate_all bs B hB f)
theorem Own.mono0 {α:Type} {w w':World} {B k:Nat} {E:TypeId} {R:World→α→List Value→List Nat→Prop} {xs:List α} {v:Value} (hR:∀ x cs G,R w x cs G→R w' x cs G) (h:Own w B E k R xs v []) (hk:Kept (rowOf v) w w'):Own w' B E k R xs v []:=by
 obtain ⟨cs,h1,h2,h3,h4⟩:=h
 refine ⟨cs,⟨h1.1,?_⟩,h2.mono fun x _ cs G _ hr=>hR x cs G hr,Under.nil _,h4⟩
 rcases h1.2 with hn | ⟨g,cap,cur,rfl,hb,hg,rest⟩
 ·exact .inl hn
 ·exact .inr ⟨g,cap,cur,rfl,hb,(hk g (by simp [zA3])).trans hg,rest⟩
def KtO (w:World) (c:Kt) (cs:List Value) (F:List Nat):Prop:=∃ kv,cs=[.string c.name,kv,.int .i64 c.idx]∧Own w 0 25 2 TyR c.args kv []∧F=rowOf kv∧c.name.size≤9223372036854775807
theorem KtO_len (w:World) (c:Kt) (cs:List Value) (F:List Nat) (h:KtO w c cs F):cs.length=3:=by obtain ⟨kv,rfl,-⟩:=h;rfl
theorem KtO_mono (w w':World) (c:Kt) (cs:List Value) (F:List Nat) (hk:Kept F w w') (h:KtO w c cs F):KtO w' c cs F:=by
 obtain ⟨kv,e,ho,rfl,hs⟩:=h
 exact ⟨kv,e,Own.mono0 (w:=w) (w':=w') (fun x cs G (h:TyR w x cs G)=>(h:TyR w' x cs G)) ho hk,rfl,hs⟩
theorem KtO.toR {w:World} {c:Kt} {cs:List Value} {F:List Nat} (h:KtO w c cs F):∃ G,(∀ b∈G,b∈F)∧KtR w c cs G:=by
 obtain ⟨kv,rfl,ho,rfl,hs⟩:=h
 refine ⟨_,fun b hb=>?_,kv,rfl,ho.arr,hs⟩
 split at hb
 ·cases hb
 ·rwa [List.append_nil] at hb
def DtO (w:World) (x:Dt) (cs:List Value) (F:List Nat):Prop:=∃ kv,cs=[.string x.name,kv]∧Arr w (KtO w) x.ctors kv F∧x.name.size≤9223372036854775807
theorem DtO_len (w:World) (x:Dt) (cs:List Value) (F:List Nat) (h:DtO w x cs F):cs.length=2:=by obtain ⟨kv,rfl,-⟩:=h;rfl
theorem DtO_mono (w w':World) (x:Dt) (cs:List Value) (F:List Nat) (hk:Kept F w w') (h:DtO w x cs F):DtO w' x cs F:=by
 obtain ⟨kv,e,ha,hs⟩:=h
 exact ⟨kv,e,ha.mono hk fun y _ cs G hk h=>KtO_mono _ _ y cs G hk h,hs⟩
theorem Flat.weaken {α:Type} {R R':α→List Value→List Nat→Prop} (hR:∀ x cs G,R x cs G→∃ G',(∀ b∈G',b∈G)∧R' x cs G'):∀ {xs:List α} {cs:List Value} {F:List Nat},Flat R xs cs F→∃ F',(∀ b∈F',b∈F)∧Flat R' xs cs F'
 |[],cs,F,h=>⟨[],(fun b hb=>by cases hb),h.1,rfl⟩
 |x :: xs,cs,F,h=>by
  obtain ⟨c1,c2,F1,F2,rfl,rfl,h1,h2⟩:=h
  obtain ⟨G1,g1,r1⟩:=hR _ _ _ h1
  obtain ⟨G2,g2,r2⟩:=Flat.weaken hR h2
  exact ⟨G1 ++ G2,fun b hb=>by
   rcases List.mem_append.1 hb with h | h
   ·exact List.mem_append.2 (.inl (g1 b h))
   ·exact List.mem_append.2 (.inr (g2 b h)),c1,c2,G1,G2,rfl,rfl,r1,r2⟩
theorem Arr.weaken {α:Type} {w:World} {R R':α→List Value→List Nat→Prop} (hR:∀ x cs G,R x cs G→∃ G',(∀ b∈G',b∈G)∧R' x cs G') {xs:List α} {v:Value} {F:List Nat} (h:Arr w R xs v F):∃ F',(∀ b∈F',b∈F)∧Arr w R' xs v F':=by
 obtain ⟨A,cap,rfl,h1,h2,h3⟩:=h
 rcases h3 with ⟨h3,-⟩ | ⟨b,off,cs,G,rfl,hc,hf,rfl⟩
 ·exact ⟨[],fun b hb=>(by cases hb),A,cap,rfl,h1,h2,.inl ⟨h3,rfl⟩⟩
 ·obtain ⟨G',hg,hf'⟩:=Flat.weaken hR hf
  exact ⟨b :: G',fun x hx=>by
   rcases List.mem_cons.1 hx with rfl | h
   ·simp
   ·simp [hg x h],_,cap,rfl,h1,h2,.inr ⟨b,off,cs,G',rfl,hc,hf',rfl⟩⟩
theorem DtO.toR {w:World} {x:Dt} {cs:List Value} {F:List Nat} (h:DtO w x cs F):∃ G,(∀ b∈G,b∈F)∧DtR w x cs G:=by
 obtain ⟨kv,rfl,ha,hs⟩:=h
 obtain ⟨G,hg,ha'⟩:=ha.weaken fun _ _ _ h=>KtO.toR h
 exact ⟨G,hg,kv,rfl,ha',hs⟩
theorem ArrDtO.toR {w:World} {xs:List Dt} {v:Value} {F:List Nat} (h:Arr w (DtO w) xs v F):∃ G,(∀ b∈G,b∈F)∧Arr w (DtR w) xs v G:=h.weaken fun _ _ _ h=>DtO.toR h
def SmallW (n:Nat) (xs:List Dt):Prop:=∀ x∈xs,x.ctors.length≤n∧∀ c∈x.ctors,c.args.length≤n
theorem SmallW.of {xs:List Dt} (h:WorldOK xs):SmallW 4 xs:=fun x hx=>⟨(h.all x hx).hi,fun c hc=>by have:=((h.all x hx).all c hc).args;omega⟩
theorem Arr.put {α:Type} {R R':World→α→List Value→List Nat→Prop} {k:Nat} (hRl:∀ w x cs G,R w x cs G→cs.length=k) (hRl':∀ w x cs G,R' w x cs G→cs.length=k)
  (hconv:∀ w w' x cs G,Kept G w w'→R w x cs G→∃ G',(∀ b∈G',b∈G)∧R' w' x cs G') {w:World} {xs:List α} {v:Value} {F:List Nat}
  (h:Arr w (R w) xs v F) (hfr:Free w F) {i:Nat} (hi:i<xs.length) :
  ∃ b off c F2 cap,v=.slice (some ⟨b,off,none⟩) xs.length cap∧CellsAt w b (off+i*k) c∧R w xs[i] c F2∧Free w F2∧b∉F2∧b∈F∧(∀ x∈F2,x∈F)∧(∀ j,w.frozen? ⟨b,j,none⟩=false) ∧
   ∀ w' y c' G2,(∀ j,j<off+i*k∨off+i*k+k≤j→w'.cell? ⟨b,j,none⟩=w.cell? ⟨b,j,none⟩)→(∀ x∈F,x≠b→x∉F2→w'.heap[x]?=w.heap[x]?)→CellsAt w' b (off+i*k) c'→R' w' y c' G2 →
    ∃ F',(∀ x∈F',x∈F∨x∈G2)∧Arr w' (R' w') (xs.set i y) v F':=by
 obtain ⟨A,cap,rfl,h1,h2,h3⟩:=h
 rcases h3 with ⟨rfl,-⟩ | ⟨b,off,cs,G,rfl,hc,hf,rfl⟩
 ·simp at hi
 have hxs:xs=xs.take i ++ (xs[i] :: xs.drop (i+1)):=by rw [←List.drop_eq_getElem_cons hi,List.take_append_drop]
 have hf':=hf
 rw [hxs] at hf'
 obtain ⟨c1,c23,F1,F23,rfl,rfl,g1,g23⟩:=Flat.split (xs.take i) hf'
 obtain ⟨c2,c3,F2,F3,rfl,rfl,g2,g3⟩:=g23
 have l1:c1.length=i*k:=by rw [g1.length (hRl w),List.length_take];congr 1;omega
 have hc2:=hc.right
 rw [l1] at hc2
 have l2:=hRl _ _ _ _ g2
 have nd:=List.nodup_cons.1 hfr.1
 have nd1:=List.nodup_append.1 nd.2
 have nd2:=List.nodup_append.1 nd1.2.1
 have hbF2:b∉F2:=fun hb=>nd.1 (List.mem_append.2 (.inr (List.mem_append.2 (.inl hb))))
 refine ⟨b,off,c2,F2,cap,rfl,hc2.left,g2,⟨nd2.1,fun x hx j=>hfr.2 x (by simp [hx]) j⟩,hbF2,by simp,fun x hx=>by simp [hx],fun j=>hfr.2 b (by simp) j,?_⟩
 intro w' y c' G2 hcell hblk hc' hy
 have k1:Kept F1 w w':=fun x hx=>hblk x (by simp [hx]) (fun e=>nd.1 (by simp [←e,hx])) (fun hm=>nd1.2.2 x hx x (by simp [hm]) rfl)
 have k3:Kept F3 w w':=fun x hx=>hblk x (by simp [hx]) (fun e=>nd.1 (by simp [←e,hx])) (fun hm=>nd2.2.2 x hm x hx rfl)
 have lc':=hRl' _ _ _ _ hy
 have hxs':xs.set i y=xs.take i ++ (y :: xs.drop (i+1)):=by rw [List.set_eq_take_append_cons_drop,if_pos hi]
 obtain ⟨F1',s1,e1⟩:=Flat.weaken (R:=fun x cs H=>∃ G',(∀ b∈G',b∈H)∧R' w' x cs G') (R':=R' w') (fun _ _ _ h=>h) (g1.mono fun x _ cs H hH hr=>hconv _ _ x cs H (fun z hz=>k1 z (hH z hz)) hr)
 obtain ⟨F3',s3,e3⟩:=Flat.weaken (R:=fun x cs H=>∃ G',(∀ b∈G',b∈H)∧R' w' x cs G') (R':=R' w') (fun _ _ _ h=>h) (g3.mono fun x _ cs H hH hr=>hconv _ _ x cs H (fun z hz=>k3 z (hH z hz)) hr)
 refine ⟨b :: (F1' ++ (G2 ++ F3')),fun x hx=>?_,?_⟩
 ·rcases List.mem_cons.1 hx with rfl | hx
  ·simp
  ·rcases List.mem_append.1 hx with hx | hx
   ·left;simp [s1 x hx]
   ·rcases List.mem_append.1 hx with hx | hx
    ·right;exact hx
    ·left;simp [s3 x hx]
 ·rw [hxs']
  refine ⟨_,cap,by rw [←hxs',List.length_set],by rw [←hxs',List.length_set];exact h1,h2,.inr ⟨b,off,c1 ++ (c' ++ c3),F1' ++ (G2 ++ F3'),rfl,?_,?_,rfl⟩⟩
  ·refine CellsAt.append (fun j u hj=>?_) (CellsAt.append ?_ (fun j u hj=>?_))
   ·have hjl:=(List.getElem?_eq_some_iff.1 hj).1
    rw [hcell _ (.inl (by omega))]
    exact hc.left j u hj
   ·rw [l1];exact hc'
   ·rw [l1,hcell _ (.inr (by omega))]
    have:=hc2.right j u hj
    rw [l2] at this
    rwa [lc']
  ·exact e1.append ⟨c',c3,G2,F3',rfl,rfl,hy,e3⟩
theorem KtO.toR' {w w':World} {c:Kt} {cs:List Value} {F:List Nat} (hk:Kept F w w') (h:KtO w c cs F):∃ G,(∀ b∈G,b∈F)∧KtR w' c cs G:=KtO.toR (KtO_mono _ _ _ _ _ hk h)
theorem DtO.toR' {w w':World} {c:Dt} {cs:List Value} {F:List Nat} (hk:Kept F w w') (h:DtO w c cs F):∃ G,(∀ b∈G,b∈F)∧DtR w' c cs G:=DtO.toR (DtO_mono _ _ _ _ _ hk h)
theorem KtR_len0 (w:World) (c:Kt) (cs:List Value) (F:List Nat) (h:KtR w c cs F):cs.length=3:=by obtain ⟨kv,rfl,-⟩:=h;rfl
theorem DtR_len0 (w:World) (c:Dt) (cs:List Value) (F:List Nat) (h:DtR w c cs F):cs.length=2:=by obtain ⟨kv,rfl,-⟩:=h;rfl
theorem put1 {w:World} {xs:List Dt} {v:Value} {F:List Nat} (h:Arr w (DtO w) xs v F) (hfr:Free w F) {d:Nat} (hd:d<xs.length) :
  ∃ b off cap kv F2,v=.slice (some ⟨b,off,none⟩) xs.length cap∧b∈F∧(∀ x∈F2,x∈F∧x≠b)∧(∀ j,w.frozen? ⟨b,j,none⟩=false)∧w.cell? ⟨b,off+d*2,none⟩=some (.string xs[d].name)∧w.cell? ⟨b,off+d*2+1,none⟩=some kv ∧
   Arr w (KtO w) xs[d].ctors kv F2∧xs[d].name.size≤9223372036854775807 ∧
   ∀ w' nm ks kv' G2,(∀ j,j<off+d*2∨off+d*2+2≤j→w'.cell? ⟨b,j,none⟩=w.cell? ⟨b,j,none⟩)→(∀ x∈F,x≠b→w'.heap[x]?=w.heap[x]?)→w'.cell? ⟨b,off+d*2,none⟩=some (.string nm)→w'.cell? ⟨b,off+d*2+1,none⟩=some kv' →
    Arr w' (KtR w') ks kv' G2→nm.size≤9223372036854775807→∃ F',(∀ x∈F',x∈F∨x∈G2)∧Arr w' (DtR w') (xs.set d ⟨nm,ks⟩) v F':=by
 obtain ⟨b,off,c,F2,cap,e,hc,⟨kv,rfl,ha,hs⟩,hf2,hb2,hbF,hsub,hz,H⟩:=Arr.put (R:=DtO) (R':=DtR) DtO_len DtR_len0 (fun _ _ _ _ _ hk h=>DtO.toR' hk h) h hfr hd
 refine ⟨b,off,cap,kv,F2,e,hbF,fun x hx=>⟨hsub x hx,fun e=>hb2 (e▸hx)⟩,hz,by simpa using hc 0 _ rfl,hc 1 _ rfl,ha,hs,?_⟩
 intro w' nm ks kv' G2 h1 h2 h3 h4 h5 h6
 exact H w' ⟨nm,ks⟩ [.string nm,kv'] G2 h1 (fun x hx hxb _=>h2 x hx hxb) (CellsAt.cons h3 (CellsAt.cons h4 (CellsAt.nil _ _ _))) ⟨kv',rfl,h5,h6⟩
theorem put2 {w:World} {xs:List Dt} {v:Value} {F:List Nat} (h:Arr w (DtO w) xs v F) (hfr:Free w F) {d:Nat} (hd:d<xs.length) (hk:0<xs[d].ctors.length) :
  ∃ b off cap b2 off2 cap2 av,v=.slice (some ⟨b,off,none⟩) xs.length cap∧b∈F∧b2∈F∧b2≠b∧(∀ j,w.frozen? ⟨b,j,none⟩=false)∧(∀ j,w.frozen? ⟨b2,j,none⟩=false) ∧
   w.cell? ⟨b,off+d*2+1,none⟩=some (.slice (some ⟨b2,off2,none⟩) xs[d].ctors.length cap2) ∧
   w.cell? ⟨b2,off2,none⟩=some (.string xs[d].ctors[0].name)∧w.cell? ⟨b2,off2+1,none⟩=some av∧w.cell? ⟨b2,off2+2,none⟩=xs[d].ctors[0].idx ∧
   Own w 0 25 2 TyR xs[d].ctors[0].args av []∧(∀ x∈rowOf av,x∈F∧x≠b∧x≠b2)∧xs[d].ctors[0].name.size≤9223372036854775807 ∧
   ∀ w' nm ags ix av' G2,(∀ j,j<off2∨off2+3≤j→w'.cell? ⟨b2,j,none⟩=w.cell? ⟨b2,j,none⟩)→(∀ x∈F,x≠b2→x∉rowOf av→w'.heap[x]?=w.heap[x]?) →
    w'.cell? ⟨b2,off2,none⟩=some (.string nm)→w'.cell? ⟨b2,off2+1,none⟩=some av'→w'.cell? ⟨b2,off2+2,none⟩=some (.int .i64 ix) →
    Arr w' (TyR w') ags av' G2→nm.size≤9223372036854775807→∃ F',(∀ x∈F',x∈F∨x∈G2)∧Arr w' (DtR w') (xs.set d ⟨xs[d].name,xs[d].ctors.set 0 ⟨nm,ags,ix⟩⟩) v F':=by
 obtain ⟨b,off,c,F2,cap,e,hc,⟨kv,rfl,ha,hs⟩,hf2,hb2,hbF,hsub,hz,H⟩:=Arr.put (R:=DtO) (R':=DtR) DtO_len DtR_len0 (fun _ _ _ _ _ hk h=>DtO.toR' hk h) h hfr hd
 obtain ⟨b2,off2,c2,F3,cap2,rfl,hc2,⟨av,rfl,hown,rfl,hs2⟩,hf3,hb3,hbF2,hsub2,hz2,H2⟩:=Arr.put (R:=KtO) (R':=KtR) KtO_len KtR_len0 (fun _ _ _ _ _ hk h=>KtO.toR' hk h) ha hf2 hk
 simp only [Nat.zero_mul,Nat.add_zero] at hc2 H2
 refine ⟨b,off,cap,b2,off2,cap2,av,e,hbF,hsub _ hbF2,fun e=>hb2 (e▸hbF2),hz,hz2,hc 1 _ rfl,by simpa using hc2 0 _ rfl,hc2 1 _ rfl,hc2 2 _ rfl,hown,fun x hx=>⟨hsub _ (hsub2 x hx),fun e=>hb2 (e▸hsub2 x hx),fun e=>hb3 (e▸hx)⟩,hs2,?_⟩
 intro w' nm ags ix av' G2 h1 h2 h3 h4 h5 h6 h7
 obtain ⟨F2',s2,ha2⟩:=H2 w' ⟨nm,ags,ix⟩ [.string nm,av',.int .i64 ix] G2 h1 (fun x hx hxb hxa=>h2 x (hsub x hx) hxb hxa) (CellsAt.cons h3 (CellsAt.cons h4 (CellsAt.cons h5 (CellsAt.nil _ _ _)))) ⟨av',rfl,h6,h7⟩
 have hbb:w'.heap[b]?=w.heap[b]?:=h2 b hbF (fun e=>hb2 (e▸hbF2)) (fun hx=>hb2 (hsub2 _ hx))
 obtain ⟨F',s,ha'⟩:=H w' ⟨xs[d].name,xs[d].ctors.set 0 ⟨nm,ags,ix⟩⟩ [.string xs[d].name,.slice (some ⟨b2,off2,none⟩) xs[d].ctors.length cap2] F2' (fun j _=>World.cell?_of_block (a:=⟨b,j,none⟩) hbb)
  (fun x hx hxb hx2=>h2 x hx (fun e=>hx2 (e▸hbF2)) (fun hxa=>hx2 (hsub2 _ hxa))) (fun j u hj=>(World.cell?_of_block (a:=⟨b,off+d*2+j,none⟩) hbb).trans (hc j u hj)) ⟨_,rfl,ha2,hs⟩
 exact ⟨F',fun x hx=>by
  rcases s x hx with h | h
  ·exact .inl h
  ·rcases s2 x h with h | h
   ·exact .inl (hsub x h)
   ·exact .inr h,ha'⟩
theorem Rd.same {w w':World} {g p:Nat} (h:Rd w g p) (hk:∀ b,b≤g→w'.heap[b]?=w.heap[b]?):Rd w' g p:=by
 obtain ⟨A,cap,bs,F,h1,h2,h3,h5⟩:=h
 exact ⟨A,cap,bs,F,h1.same (hk g (zz8 _)),ArrBy.mono h2 (fun c hc=>hk c (Nat.le_of_lt (h3 c hc))),h3,h5⟩
theorem Rd.low {w w':World} {g p B:Nat} (h:Rd w g p) (hb:Below B w w') (hg:g<B):Rd w' g p:=h.same fun b hb'=>hb.block b (by omega)
theorem SmallW.set {n:Nat} {xs:List Dt} {d:Nat} {y:Dt} (h:SmallW n xs) (h1:y.ctors.length≤n) (h2:∀ c∈y.ctors,c.args.length≤n):SmallW n (xs.set d y):=fun x hx=>by
 rcases List.mem_or_eq_of_mem_set hx with hx | rfl
 ·exact h x hx
 ·exact ⟨h1,h2⟩
theorem SmallW.mono {n m:Nat} {xs:List Dt} (h:SmallW n xs) (hm:n≤m):SmallW m xs:=fun x hx=>⟨Nat.le_trans (h x hx).1 hm,fun c hc=>Nat.le_trans ((h x hx).2 c hc) hm⟩
structure Cpy (g q:Nat) (xs:List Dt) (v:Value) (F:List Nat) (w w1:World):Prop where
 rd:Rd w1 g q
 chg:Chg [g] w w1
 own:Own w1 w.heap.size 64 2 DtO xs v F
 free:Free w1 F
 fresh:∀ b∈F,w.heap.size≤b
 lt:g<w.heap.size
def Mutd (g p m:Nat) (xs:List Dt) (w:World) (e:Ending) (w':World):Prop:=DrewWorld g p 10 w (fun ys=>0<ys.length∧ys.length≤xs.length+1∧SmallW (m+1) ys) e w'
section
variable {g q p m : Nat} {xs : List Dt} {v : Value} {F : List Nat} {w w1 w2 : World}
theorem Cpy.step {q':Nat} (h:Cpy g q xs v F w w1) (hr:Rd w2 g q') (hc:Chg [g] w1 w2):Cpy g q' xs v F w w2:=by
 have hu:=h.own.under
 have hro:=h.own.row
 have hlt:=h.lt
 refine ⟨hr,h.chg.trans hc,h.own.mono (fun x cs G hk h=>DtO_mono _ _ x cs G hk h) (hc.kept (fun b hb=>?_) (fun b hb=>?_)) hc.size,h.free.kept (hc.kept hu (fun b hb=>?_)),h.fresh,hlt⟩
 ·rcases List.mem_append.1 hb with h1 | h1
  ·exact (hro b h1).2
  ·exact hu b h1
 ·rw [zy1]
  rcases List.mem_append.1 hb with h1 | h1
  ·have:=(hro b h1).1;omega
  ·have:=h.fresh b h1;omega
 ·rw [zy1]
  have:=h.fresh b hb;omega
theorem Cpy.drew (h:Cpy g q xs v F w w1):Cpy g q xs v F w w1.drew:=h.step h.rd (Chg.refl _ _).drew
theorem Cpy.arr (h:Cpy g q xs v F w w1):∃ FF,Arr w1 (DtO w1) xs v FF∧Free w1 FF∧∀ b∈FF,w.heap.size≤b∧b<w1.heap.size:=by
 refine ⟨_,h.own.arr,h.own.free h.free,fun b hb=>?_⟩
 split at hb
 ·cases hb
 ·rcases List.mem_append.1 hb with h1 | h1
  ·exact h.own.row b h1
  ·exact ⟨h.fresh b h1,h.own.under b h1⟩
theorem Mutd.of {ys:List Dt} {q':Nat} {G:List Nat} (h:Arr w1 (DtR w1) ys v G) (hG:∀ b∈G,w.heap.size≤b∧b<w1.heap.size) (hr:Rd w1 g q') (hq:q'≤p+10) (hc:Chg [g] w w1) (h0:0<ys.length) (hl:ys.length≤xs.length+1) (hs:SmallW (m+1) ys):Mutd g p m xs w (.returned v) w1 :=
 ⟨ys,v,G,q',rfl,⟨h0,hl,hs⟩,h,hG,hr,hq,hc⟩
theorem Cpy.done (h:Cpy g q xs v F w w1) (h0:0<xs.length) (hs:SmallW m xs) (hq:q≤p+10):Mutd g p m xs w (.returned v) w1:=by
 obtain ⟨FF,ha,-,hF⟩:=h.arr
 obtain ⟨G,hG,ha'⟩:=ArrDtO.toR ha
 exact Mutd.of ha' (fun b hb=>hF b (hG b hb)) h.rd hq h.chg h0 (Nat.le_succ _) (hs.mono (by omega))
theorem Cpy.data {b off n cap d:Nat} (h:Cpy g q xs (.slice (some ⟨b,off,none⟩) n cap) F w w1) (h0:0<xs.length) (hs:SmallW m xs) (hd:d<xs.length) :
  ∃ kA kcap F2,w1.cell? ⟨b,off+d*2,none⟩=some (.string xs[d].name)∧w1.cell? ⟨b,off+d*2+1,none⟩=some (.slice kA xs[d].ctors.length kcap)∧(∀ j,w1.frozen? ⟨b,j,none⟩=false)∧w.heap.size≤b∧b<w1.heap.size∧xs[d].ctors.length≤kcap∧kcap≤9223372036854775807 ∧
   DtO w1 xs[d] [.string xs[d].name,.slice kA xs[d].ctors.length kcap] F2∧(∀ x∈F2,x≠b∧w.heap.size≤x∧x<w1.heap.size) ∧
   (∀ s:ByteArray,s.size≤1000→q≤p+10→Mutd g p m xs w (.returned (.slice (some ⟨b,off,none⟩) n cap)) (w1.setCell ⟨b,off+d*2,none⟩ (.string s))) ∧
   (∀ E,q≤p+10→Mutd g p m xs w (.returned (.slice (some ⟨b,off,none⟩) n cap)) ((w1.setCell ⟨b,off+d*2+1,none⟩ (.slice (some ⟨w1,0,none⟩) 0 0)).alloc (.cells #[] E))):=by
 obtain ⟨FF,ha,hfr,hF⟩:=h.arr
 obtain ⟨b',off',cap',kv,F2,e,hbF,hF2,hz,hn,hk,hkv,hns,H⟩:=put1 ha hfr hd
 cases e
 obtain ⟨kA,kcap,rfl,hc1,hc2⟩:=hkv.form
 have hb:=hF _ hbF
 have hg:=h.lt
 have hsd:=hs _ (List.getElem_mem hd)
 refine ⟨kA,kcap,F2,hn,hk,hz,hb.1,hb.2,hc1,hc2,⟨_,rfl,hkv,hns⟩,fun x hx=>⟨(hF2 x hx).2,hF x (hF2 x hx).1⟩,fun s hss hq=>?_,fun E hq=>?_⟩
 ·obtain ⟨G,hG,hka⟩:=(hkv.mono (w':=w1.setCell ⟨b,off+d*2,none⟩ (.string s)) (R':=KtO (w1.setCell ⟨b,off+d*2,none⟩ (.string s))) (fun c hc=>zz7 _ _ _ _ (hF2 c hc).2) (fun y _ cs G hk h=>KtO_mono _ _ y cs G hk h)).weaken fun _ _ _ h=>KtO.toR h
  obtain ⟨F',hF',har⟩:=H _ s xs[d].ctors (.slice kA xs[d].ctors.length kcap) G (fun j hj=>World.cell?_setCell_other _ _ _ _ (by intro e;injection e;omega)) (fun x hx hxb=>zz7 _ _ _ _ hxb)
   (World.cell?_setCell_same _ _ _ hn) ((World.cell?_setCell_other _ _ _ _ (by intro e;injection e;omega)).trans hk) hka (by omega)
  refine Mutd.of har (fun x hx=>?_) (h.rd.set (by omega)) hq (h.chg.set_new hb.1) (by rw [List.length_set];exact h0) (by rw [List.length_set];exact Nat.le_succ _) ((hs.mono (by omega)).set (by simpa using Nat.le_trans hsd.1 (by omega)) (fun c hc=>Nat.le_trans (hsd.2 c hc) (by omega)))
  have hsz:(w1.setCell ⟨b,off+d*2,none⟩ (.string s)).heap.size=w1.heap.size:=by simp [World.setCell]
  rw [hsz]
  rcases hF' x hx with h1 | h1
  ·exact hF x h1
  ·exact hF x (hF2 x (hG x h1)).1
 ·rw [←World.setCell_alloc_past _ _ _ _ hb.2]
  have hblk:∀ x,x<w1.heap.size→x≠b→((w1.alloc (.cells #[] E)).setCell ⟨b,off+d*2+1,none⟩ (.slice (some ⟨w1,0,none⟩) 0 0)).heap[x]?=w1.heap[x]?:=fun x hx hxb=>(zz7 _ _ _ _ hxb).trans (Below.heap_alloc _ _ _ hx)
  have hce:∀ j,(w1.alloc (.cells #[] E)).cell? ⟨b,j,none⟩=w1.cell? ⟨b,j,none⟩:=fun j=>World.cell?_alloc_lt _ _ _ hb.2
  obtain ⟨F',hF',har⟩:=H _ xs[d].name [] (.slice (some ⟨w1,0,none⟩) 0 0) [] (fun j hj=>(World.cell?_setCell_other _ _ _ _ (by intro e;injection e;omega)).trans (hce j)) (fun x hx hxb=>hblk x (hF x hx).2 hxb)
   ((World.cell?_setCell_other _ _ _ _ (by intro e;injection e;omega)).trans ((hce _).trans hn)) (World.cell?_setCell_same _ _ _ ((hce _).trans hk)) ⟨_,_,rfl,by simp,by simp [maxLen],.inl ⟨rfl,rfl⟩⟩ hns
  have hsz:((w1.alloc (.cells #[] E)).setCell ⟨b,off+d*2+1,none⟩ (.slice (some ⟨w1,0,none⟩) 0 0)).heap.size=w1.heap.size+1:=by simp [World.setCell]
  have hbel:Below w1 w1 (w1.alloc (.cells #[] E)):=(zy2 _ _).alloc (zz8 _) _
  refine Mutd.of har (fun x hx=>?_) ((h.rd.below hbel).set (by omega)) hq ((h.chg.step hbel).set_new hb.1) (by rw [List.length_set];exact h0) (by rw [List.length_set];exact Nat.le_succ _) ((hs.mono (by omega)).set (by simp) (fun c hc=>by cases hc))
  rw [hsz]
  rcases hF' x hx with h1 | h1
  ·have:=hF x h1;omega
  ·cases h1
theorem Cpy.ctor {b off n cap d:Nat} (h:Cpy g q xs (.slice (some ⟨b,off,none⟩) n cap) F w w1) (h0:0<xs.length) (hs:SmallW m xs) (hd:d<xs.length) (hk:0<xs[d].ctors.length) :
  ∃ b2 off2 cap2 aA acap,w1.cell? ⟨b,off+d*2+1,none⟩=some (.slice (some ⟨b2,off2,none⟩) xs[d].ctors.length cap2)∧b≠b2∧b∉[g]∧b2∉[g]∧b<w1.heap.size∧b2<w1.heap.size∧(∀ j,w1.frozen? ⟨b2,j,none⟩=false) ∧
   w1.cell? ⟨b2,off2,none⟩=some (.string xs[d].ctors[0].name)∧w1.cell? ⟨b2,off2+1,none⟩=some (.slice aA xs[d].ctors[0].args.length acap)∧w1.cell? ⟨b2,off2+2,none⟩=xs[d].ctors[0].idx ∧
   Own w1 0 25 2 TyR xs[d].ctors[0].args (.slice aA xs[d].ctors[0].args.length acap) []∧(∀ x∈rowOf (.slice aA xs[d].ctors[0].args.length acap),x∉[g]∧x≠b∧x≠b2∧x<w1.heap.size)∧xs[d].ctors[0].args.length≤m ∧
   (∀ (w2:World) (q':Nat) (s:ByteArray),Rd w2 g q'→Chg [g] w1 w2→q'≤p+10→s.size≤1000→Mutd g p m xs w (.returned (.slice (some ⟨b,off,none⟩) n cap)) (w2.setCell ⟨b2,off2,none⟩ (.string s))) ∧
   (∀ (w2:World) (q':Nat) (i:Int),Rd w2 g q'→Chg [g] w1 w2→q'≤p+10→Mutd g p m xs w (.returned (.slice (some ⟨b,off,none⟩) n cap)) (w2.setCell ⟨b2,off2+2,none⟩ (.int .i64 i))) ∧
   (∀ (w2:World) (q':Nat) (y:Ty) (g' c':Nat) (w3:World) (o:Obj),Rd w2 g q'→Chg [g] w1 w2→q'≤p+10→Own w3 0 25 2 TyR (xs[d].ctors[0].args ++ [y]) (.slice (some ⟨g',0,none⟩) (xs[d].ctors[0].args.length+1) c') [] →
    (w2.alloc o).grownBy w3 (Value.slice aA xs[d].ctors[0].args.length acap).ownBlock→((Value.slice aA xs[d].ctors[0].args.length acap).ownBlock=some g'∨g'=w2.heap.size+1) →
    Mutd g p m xs w (.returned (.slice (some ⟨b,off,none⟩) n cap)) (w3.setCell ⟨b2,off2+1,none⟩ (.slice (some ⟨g',0,none⟩) (xs[d].ctors[0].args.length+1) c'))):=by
 obtain ⟨FF,ha,hfr,hF⟩:=h.arr
 obtain ⟨b',off',cap',b2,off2,cap2,av,e,hbF,hb2F,hbb,hz,hz2,hkc,c0,c1,c2,hown,hrow,hns,H⟩:=put2 ha hfr hd hk
 cases e
 obtain ⟨aA,acap,rfl,-,-⟩:=hown.form
 have hb:=hF _ hbF
 have hb2:=hF _ hb2F
 have hg:=h.lt
 have hsd:=hs _ (List.getElem_mem hd)
 have hsa:=hsd.2 _ (List.getElem_mem hk)
 have hFg:∀ x∈FF,x∉[g]:=fun x hx=>by have:=(hF x hx).1;rw [zy1];omega
 have small:∀ c:Kt,c.args.length≤m+1→SmallW (m+1) (xs.set d ⟨xs[d].name,xs[d].ctors.set 0 c⟩):=fun c hc=>(hs.mono (by omega)).set (by simp only [List.length_set];omega) (fun k hk'=>by
  rcases List.mem_or_eq_of_mem_set hk' with h1 | rfl
  ·exact Nat.le_trans (hsd.2 _ h1) (by omega)
  ·exact hc)
 refine ⟨b2,off2,cap2,aA,acap,hkc,fun e=>hbb e.symm,hFg _ hbF,hFg _ hb2F,hb.2,hb2.2,hz2,c0,c1,c2,hown,fun x hx=>⟨hFg _ (hrow x hx).1,(hrow x hx).2.1,(hrow x hx).2.2,(hF _ (hrow x hx).1).2⟩,hsa,fun w2 q' s hr hc hq hss=>?_,fun w2 q' i hr hc hq=>?_,fun w2 q' y g' c' w3 o hr hc hq ho3 hg3 hat=>?_⟩
 ·have hcl:∀ j,w2.cell? ⟨b2,j,none⟩=w1.cell? ⟨b2,j,none⟩:=fun j=>hc.cell hb2.2 (hFg _ hb2F)
  have hkp:∀ x∈FF,x≠b2→(w2.setCell ⟨b2,off2,none⟩ (.string s)).heap[x]?=w1.heap[x]?:=fun x hx hxb=>(zz7 _ _ _ _ hxb).trans (hc.block x (hF x hx).2 (hFg x hx))
  have ho2:=(hown.mono0 (w':=w2.setCell ⟨b2,off2,none⟩ (.string s)) (fun x cs G (h:TyR w1 x cs G)=>(h:TyR _ x cs G)) (fun x hx=>hkp x (hrow x hx).1 (hrow x hx).2.2)).arr
  obtain ⟨F',hF',har⟩:=H (w2.setCell ⟨b2,off2,none⟩ (.string s)) s _ xs[d].ctors[0].idx _ _ (fun j hj=>(World.cell?_setCell_other _ _ _ _ (by intro e;injection e;omega)).trans (hcl j)) (fun x hx hxb _=>hkp x hx hxb)
   (World.cell?_setCell_same _ _ _ ((hcl _).trans c0)) ((World.cell?_setCell_other _ _ _ _ (by intro e;injection e;omega)).trans ((hcl _).trans c1)) ((World.cell?_setCell_other _ _ _ _ (by intro e;injection e;omega)).trans ((hcl _).trans c2)) ho2 (by omega)
  have hsz:(w2.setCell ⟨b2,off2,none⟩ (.string s)).heap.size=w2.heap.size:=by simp [World.setCell]
  refine Mutd.of har (fun x hx=>?_) (hr.set (by omega)) hq ((h.chg.trans hc).set_new hb2.1) (by rw [List.length_set];exact h0) (by rw [List.length_set];exact Nat.le_succ _) (small _ (by simp only;omega))
  rw [hsz]
  have hz2:=hc.size
  rcases hF' x hx with h1 | h1
  ·have:=hF x h1;omega
  ·split at h1
   ·cases h1
   ·rw [List.append_nil] at h1
    have:=hF x (hrow x h1).1;omega
 ·have hcl:∀ j,w2.cell? ⟨b2,j,none⟩=w1.cell? ⟨b2,j,none⟩:=fun j=>hc.cell hb2.2 (hFg _ hb2F)
  have hkp:∀ x∈FF,x≠b2→(w2.setCell ⟨b2,off2+2,none⟩ (.int .i64 i)).heap[x]?=w1.heap[x]?:=fun x hx hxb=>(zz7 _ _ _ _ hxb).trans (hc.block x (hF x hx).2 (hFg x hx))
  have ho2:=(hown.mono0 (w':=w2.setCell ⟨b2,off2+2,none⟩ (.int .i64 i)) (fun x cs G (h:TyR w1 x cs G)=>(h:TyR _ x cs G)) (fun x hx=>hkp x (hrow x hx).1 (hrow x hx).2.2)).arr
  obtain ⟨F',hF',har⟩:=H (w2.setCell ⟨b2,off2+2,none⟩ (.int .i64 i)) xs[d].ctors[0].name _ i _ _ (fun j hj=>(World.cell?_setCell_other _ _ _ _ (by intro e;injection e;omega)).trans (hcl j)) (fun x hx hxb _=>hkp x hx hxb)
   ((World.cell?_setCell_other _ _ _ _ (by intro e;injection e;omega)).trans ((hcl _).trans c0)) ((World.cell?_setCell_other _ _ _ _ (by intro e;injection e;omega)).trans ((hcl _).trans c1)) (World.cell?_setCell_same _ _ _ ((hcl _).trans c2)) ho2 hns
  have hsz:(w2.setCell ⟨b2,off2+2,none⟩ (.int .i64 i)).heap.size=w2.heap.size:=by simp [World.setCell]
  refine Mutd.of har (fun x hx=>?_) (hr.set (by omega)) hq ((h.chg.trans hc).set_new hb2.1) (by rw [List.length_set];exact h0) (by rw [List.length_set];exact Nat.le_succ _) (small _ (by simp only;omega))
  rw [hsz]
  have hz2:=hc.size
  rcases hF' x hx with h1 | h1
  ·have:=hF x h1;omega
  ·split at h1
   ·cases h1
   ·rw [List.append_nil] at h1
    have:=hF x (hrow x h1).1;omega
 ·have hrw:∀ x,(Value.slice aA xs[d].ctors[0].args.length acap).ownBlock=some x→w.heap.size≤x∧x≠b2:=fun x hx=>⟨(hF x (hrow x (zA1.2 hx)).1).1,(hrow x (zA1.2 hx)).2.2⟩
  have hwz:w.heap.size≤w1.heap.size:=h.chg.size
  have hw2:w1.heap.size≤w2.heap.size:=hc.size
  have hB3:Below w w2 w3:=((zy2 w.heap.size w2).alloc (by omega) o).grown hg3 (by simp;omega) (fun x hx=>(hrw x hx).1)
  have hblk:∀ x,x<w2.heap.size→x∉rowOf (Value.slice aA xs[d].ctors[0].args.length acap)→w3.heap[x]?=w2.heap[x]?:=fun x hx hxr=>(hg3.block x (by simp;omega) (fun e=>hxr (zA1.2 e.symm))).trans (Below.heap_alloc _ _ _ hx)
  have hb2r:b2∉rowOf (Value.slice aA xs[d].ctors[0].args.length acap):=fun hx=>(hrow _ hx).2.2 rfl
  have hb3:w3.heap[b2]?=w1.heap[b2]?:=(hblk b2 (by omega) hb2r).trans (hc.block _ hb2.2 (hFg _ hb2F))
  have hcl:∀ j,w3.cell? ⟨b2,j,none⟩=w1.cell? ⟨b2,j,none⟩:=fun j=>World.cell?_of_block (a:=⟨b2,j,none⟩) hb3
  have hgn:g'≠b2:=by
   rcases hat with h1 | h1
   ·exact (hrw _ h1).2
   ·omega
  have ho2:=(Own.set (j:=off2+1) (b:=b2) TyR_mono' ho3 (.slice (some ⟨g',0,none⟩) (xs[d].ctors[0].args.length+1) c') (fun h=>hgn (by rw [zA3,zy1] at h;exact h.symm)) (fun h=>by cases h))
  have hro2:=ho2.row
  have har2:=ho2.arr
  obtain ⟨F',hF',har⟩:=H (w3.setCell ⟨b2,off2+1,none⟩ (.slice (some ⟨g',0,none⟩) (xs[d].ctors[0].args.length+1) c')) xs[d].ctors[0].name _ xs[d].ctors[0].idx _ _ (fun j hj=>(World.cell?_setCell_other _ _ _ _ (by intro e;injection e;omega)).trans (hcl j))
   (fun x hx hxb hxr=>(zz7 _ _ _ _ hxb).trans ((hblk x (by have:=hF x hx;omega) hxr).trans (hc.block x (hF x hx).2 (hFg x hx))))
   ((World.cell?_setCell_other _ _ _ _ (by intro e;injection e;omega)).trans ((hcl _).trans c0)) (World.cell?_setCell_same _ _ _ ((hcl _).trans c1)) ((World.cell?_setCell_other _ _ _ _ (by intro e;injection e;omega)).trans ((hcl _).trans c2)) har2 hns
  have hsz:(w3.setCell ⟨b2,off2+1,none⟩ (.slice (some ⟨g',0,none⟩) (xs[d].ctors[0].args.length+1) c')).heap.size=w3.heap.size:=by simp [World.setCell]
  have hz3:w2.heap.size≤w3.heap.size:=hB3.size
  have hgw:w.heap.size≤g':=by
   rcases hat with h1 | h1
   ·exact (hrw _ h1).1
   ·omega
  refine Mutd.of har (fun x hx=>?_) ((hr.low hB3 hg).set (by omega)) hq (((h.chg.trans hc).under hB3).set_new hb2.1) (by rw [List.length_set];exact h0) (by rw [List.length_set];exact Nat.le_succ _) (small _ (by simp only [List.length_append,List.length_cons,List.length_nil];omega))
  rcases hF' x hx with h1 | h1
  ·rw [hsz];have:=hF x h1;omega
  ·split at h1
   ·cases h1
   ·rw [List.append_nil] at h1
    have h2:=hro2 x h1
    rw [zA3,zy1] at h1
    exact ⟨by omega,h2.2⟩
theorem Cpy.twice {d:Nat} {o:Obj} {vB:Option Nat} {w3:World} {v3:Value} {F2:List Nat} (h:Cpy g q xs v F w w1) (h0:0<xs.length) (hs:SmallW m xs) (hd:d<xs.length) (hF2:∀ x∈F2,w.heap.size≤x) (hv:vB=v.ownBlock)
  (ho:Own w3 w.heap.size 64 2 DtO (xs ++ [xs[d]]) v3 (F ++ F2)) (hg:(w1.alloc o).grownBy w3 vB) (hq:q≤p+10):Mutd g p m xs w (.returned v3) w3:=by
 subst hv
 have hro:=h.own.row
 have hwz:w.heap.size≤w1.heap.size:=h.chg.size
 have hB3:Below w w1 w3:=((zy2 w.heap.size w1).alloc hwz o).grown hg (by simp;omega) (fun x hx=>(hro x (zA1.2 hx)).1)
 have hr3:=ho.row
 have hu3:=ho.under
 obtain ⟨G,hG,ha'⟩:=ArrDtO.toR ho.arr
 refine Mutd.of ha' (fun x hx=>?_) (h.rd.low hB3 h.lt) hq (h.chg.under hB3) (by simp) (by simp) (fun x hx=>?_)
 ·have h1:=hG x hx
  split at h1
  ·cases h1
  ·rcases List.mem_append.1 h1 with h1 | h1
   ·exact hr3 x h1
   ·refine ⟨?_,hu3 x h1⟩
    rcases List.mem_append.1 h1 with h1 | h1
    ·exact h.fresh x h1
    ·exact hF2 x h1
 ·rcases List.mem_append.1 hx with h1 | h1
  ·exact (hs.mono (by omega:m≤m+1)) x h1
  ·rw [zy1] at h1
   subst h1
   exact (hs.mono (by omega:m≤m+1)) _ (List.getElem_mem hd)
end
def dtk (xs:List Dt) (d:Nat):List Dt:=xs.take d
def ktk (cs:List Kt) (k:Nat):List Kt:=cs.take k
theorem dtk_len (xs:List Dt) (d:Nat):(dtk xs d).length≤d:=by unfold dtk;rw [List.length_take];omega
theorem ktk_len (cs:List Kt) (k:Nat):(ktk cs k).length≤k:=by unfold ktk;rw [List.length_take];omega
theorem dtk_succ (xs:List Dt) (d:Nat) (h:d<xs.length):dtk xs (d+1)=dtk xs d ++ [xs[d]]:=take_snoc' xs d h
theorem ktk_succ (cs:List Kt) (k:Nat) (h:k<cs.length):ktk cs (k+1)=ktk cs k ++ [cs[k]]:=take_snoc' cs k h
theorem dtk_all (xs:List Dt) {d:Nat} (h:xs.length≤d):dtk xs d=xs:=List.take_of_length_le h
theorem ktk_all (cs:List Kt) {k:Nat} (h:cs.length≤k):ktk cs k=cs:=List.take_of_length_le h
theorem Own.free_row {α:Type} {w:World} {B k:Nat} {E:TypeId} {R:World→α→List Value→List Nat→Prop} {xs:List α} {v:Value} {F:List Nat} (h:Own w B E k R xs v F):Free w (rowOf v):=by
 obtain ⟨cs,h1,-⟩:=h
 rcases h1.2 with ⟨rfl,-⟩ | ⟨g,cap,cur,rfl,hb,hg,-⟩
 ·exact Free.nil _
 ·rw [zA3]
  exact ⟨by simp,fun b hb' i=>by rw [zy1] at hb';subst hb';simp [World.frozen?,hg]⟩
theorem TyR_one (w:World) (x:Ty) (cs:List Value) (G:List Nat) (h:TyR w x cs G):∀ u∈cs,u.oneCell'=true:=by
 obtain ⟨rfl,-⟩:=h
 simp [Value.oneCell']
set_option maxHeartbeats 6400000 in
theorem spec_l1Copy (xs:List Dt) (w:World) (v:Value) (F:List Nat) (hx:Arr w (DtR w) xs v F) (hf:Under w F) (hl:xs.length≤100) (hsm:SmallW 100 xs) :
  Calls Tryz.prog 127 #[v] w fun e w'=>∃ v' F',e=.returned v'∧Below w w w'∧Own w' w.heap.size 64 2 DtO xs v' F'∧Free w' F'∧(∀ b∈F',w.heap.size+1≤b):=by
 obtain ⟨A,cap,rfl,hc1,hc2⟩:=hx.form
 obtain ⟨i0,hi,hz0,hz1,hz2⟩:=info_parts info_KtE
 have HI:=jj hi
 have HZ0:=jj hz0
 have HZ1:=jj hz1
 have HZ2:=jj hz2
 clear hi hz0 hz1 hz2
 obtain ⟨j0,hj,hj0,hj1,hj2⟩:=info_parts info_tyE
 have HJ:=jj hj
 have HJ0:=jj hj0
 have HJ1:=jj hj1
 have HJ2:=jj hj2
 clear hj hj0 hj1 hj2
 obtain ⟨m0,hm,hm0,hm1,hm2⟩:=info_parts info_DtE
 have HM:=jj hm
 have HM0:=jj hm0
 have HM1:=jj hm1
 have HM2:=jj hm2
 clear hm hm0 hm1 hm2
 have HSM:=jj hsm
 have HX:=jj hx
 have HF:=jj hf
 clear hx hf
 clear hsm
 go_enter Tryz.func127,Tryz.ntmps127
 go_wp2
 have hB1:Below w w (w.alloc (.cells #[] 64)):=(zy2 _ _).alloc (zz8 _) _
 have HO1:Hid (Own (w.alloc (.cells #[] 64)) w.heap.size 64 2 DtO (dtk xs 0) (.slice (some ⟨w,0,none⟩) 0 0) []):=Own.made w w.heap.size 64 2 DtO #[] 0 (zz8 _) (by simp [maxLen]) rfl
 have hw1:(w.alloc (.cells #[] 64)).heap.size=w.heap.size+1:=World.size_alloc _ _
 obtain ⟨w1,hw1e⟩:∃ w1,w1=w.alloc (.cells #[] 64):=⟨_,rfl⟩
 rw [←hw1e] at hB1 HO1 hw1 ⊢
 clear hw1e
 go_loopw [3,4] (fun ov dv wr=>∃ d:Nat,∃ Fo:List Nat,d≤xs.length∧dv=.int .i64 d∧Hid (Own wr w.heap.size 64 2 DtO (dtk xs d) ov Fo)∧Hid (Free wr Fo)∧Hid (∀ b∈Fo,w1.heap.size≤b)∧Hid (Chg [w.heap.size] w1 wr)∧Below w w wr∧w1.heap.size≤wr.heap.size) (fun _ dv _=>xs.length-(intOf dv).toNat)
 case atStart=>exact ⟨0,[],Nat.zero_le _,rfl,HO1,Free.nil _,(fun b hb=>by cases hb),Chg.refl _ _,hB1,zz8 _⟩
 case round =>
  clear hB1 HO1
  obtain ⟨d,Fo,hd,rfl,HO,HFr,HFh,HC,hB,hwr⟩:=hrel
  by_cases hdl:d<xs.length
  ·obtain ⟨b,off,rfl⟩:=HX.out.ptr (by omega)
   have g1:(0:Int)≤(d:Int):=by omega
   have g2:(d:Int)<(xs.length:Int):=by omega
   obtain ⟨A1,cap1,G1,hbw,c0w,c1w,HK,HG,hns,hn1,hn2⟩:=ArrDt.at HX.out HF.out (zy2 _ _) d hdl
   have c0:=(hB.cell (p:=⟨b,off+d*2,none⟩) hbw).trans c0w
   have hb:b<wr.heap.size:=zz9 hbw hB.size
   have hcl:xs[d].ctors.length≤100:=(HSM.out _ (List.getElem_mem hdl)).1
   have hdk:=dtk_len xs d
   have HB8:Hid (∀ b∈rowOf u3 ++ Fo,b<wr.heap.size):=fun b hb=>by
    rcases List.mem_append.1 hb with h | h
    ·exact (HO.out.row b h).2
    ·exact HO.out.under b h
   obtain ⟨w8,hw8⟩:∃ w8,w8=wr:=⟨_,rfl⟩
   rw [←hw8] at HO HFr HC hB hwr c0 hb HB8 ⊢
   clear hw8
   have hw9:Below w8 w8 (w8.alloc (.cells #[.string xs[d].name,.slice none 0 0] 64)):=(zy2 _ _).alloc (zz8 _) _
   have HO9:Hid (Own (w8.alloc (.cells #[.string xs[d].name,.slice none 0 0] 64)) w.heap.size 64 2 DtO (dtk xs d) u3 Fo):=HO.out.below (fun x cs G hk h=>DtO_mono _ _ x cs G hk h) hw9
   have HFr9:Hid (Free (w8.alloc (.cells #[.string xs[d].name,.slice none 0 0] 64)) Fo):=HFr.out.kept (.of_below hw9 HO.out.under)
   have HC9:Hid (Chg [w.heap.size] w1 (w8.alloc (.cells #[.string xs[d].name,.slice none 0 0] 64))):=HC.out.step hw9
   have KD9:Hid (Blk (w8.alloc (.cells #[.string xs[d].name,.slice none 0 0] 64)) w8.heap.size 64 #[.string xs[d].name,.slice none 0 0]):=Blk.new _ _ _
   have hB9:=hB.trans (hw9.mono hB.size)
   have hw9s:(w8.alloc (.cells #[.string xs[d].name,.slice none 0 0] 64)).heap.size=w8.heap.size+1:=World.size_alloc _ _
   have hHD8:w.heap.size≤w8.heap.size:=hB.size
   have HR:Hid (∀ g∈rowOf u3,g=w.heap.size∨w1.heap.size≤g):=fun g hg=>by have:=(HO.out.row g hg).1;omega
   go_wp2
   obtain ⟨w9,hw9e⟩:∃ w9,w9=w8.alloc (.cells #[.string xs[d].name,.slice none 0 0] 64):=⟨_,rfl⟩
   rw [←hw9e] at HO9 HFr9 HC9 KD9 hB9 hw9s ⊢
   clear hw9 hw9e HO HFr HC hB c0 hb
   go_loopw [6] (fun kv' wr=>∃ k:Nat,∃ kv:Value,∃ Fk:List Nat,k≤xs[d].ctors.length∧kv'=.int .i64 k∧Hid (Blk wr w8 64 #[.string xs[d].name,kv])∧Hid (Own wr (w8.heap.size+1) 67 3 KtO (ktk xs[d].ctors k) kv Fk)∧Hid (Free wr Fk)∧Hid (∀ b∈Fk,w8.heap.size+1≤b)∧Hid (Chg [w8.heap.size] w9 wr)∧Below w w wr∧w9.heap.size≤wr.heap.size) (fun kv' _=>xs[d].ctors.length-(intOf kv').toNat)
   case atStart=>exact ⟨0,_,[],Nat.zero_le _,rfl,KD9,(show Own _ _ _ _ _ (ktk xs[d].ctors 0) _ _ from Own.nil _ _ _ _ _),Free.nil _,(fun b hb=>by cases hb),Chg.refl _ _,hB9,zz8 _⟩
   case round =>
    clear hB9 KD9
    obtain ⟨k,kv,Fk,hkl,rfl,KD,HOk,HFk,HFkh,HCk,hB,hw9r⟩:=hrel
    obtain ⟨kA,kcap,hkv,hkc1,hkc2⟩:=HOk.out.form
    subst hkv
    have z0:wr.cell? ⟨w8,0,none⟩=some (.string xs[d].name):=(KD.out.cell 0).trans (by simp)
    have z1:wr.cell? ⟨w8,1,none⟩=some (.slice kA (ktk xs[d].ctors k).length kcap):=(KD.out.cell 1).trans (by simp)
    have zf1:=KD.out.frozen 1
    have hkz:=KD.out.lt
    have c1:=(hB.cell (p:=⟨b,off+d*2+1,none⟩) hbw).trans c1w
    have hbr:b<wr.heap.size:=zz9 hbw hB.size
    by_cases hlt:k<xs[d].ctors.length
    ·obtain ⟨b2,off2,rfl⟩:=HK.out.ptr (by omega)
     obtain ⟨A3,cap3,G3,hb3,k0,k1,k2,HKT,HG3,hks,hn3,hn4⟩:=ArrKt.rep HK.out HG.out hB k hlt
     have g3:(0:Int)≤(k:Int):=by omega
     have g4:(k:Int)<(xs[d].ctors.length:Int):=by omega
     have hal:xs[d].ctors[k].args.length≤100:=(HSM.out _ (List.getElem_mem hdl)).2 _ (List.getElem_mem hlt)
     have hkk:=ktk_len xs[d].ctors k
     have harg:Arr w (TyR w) xs[d].ctors[k].args (.slice A3 xs[d].ctors[k].args.length cap3) G3:=by
      obtain ⟨kv,hkv,ha,-⟩:=HKT.out
      have:kv=.slice A3 xs[d].ctors[k].args.length cap3:=by simpa using (List.cons.inj (List.cons.inj hkv).2).1.symm
      rw [←this];exact ha
     have ha1:Below wr wr (wr.alloc (.cells #[.string xs[d].ctors[k].name,.slice A3 xs[d].ctors[k].args.length cap3,xs[d].ctors[k].idx] 67)):=(zy2 _ _).alloc (zz8 _) _
     have ha2:Below wr wr ((wr.alloc (.cells #[.string xs[d].ctors[k].name,.slice A3 xs[d].ctors[k].args.length cap3,xs[d].ctors[k].idx] 67)).alloc (.cells #[] 25)):=ha1.alloc ha1.size _
     have hos:Own ((wr.alloc (.cells #[.string xs[d].ctors[k].name,.slice A3 xs[d].ctors[k].args.length cap3,xs[d].ctors[k].idx] 67)).alloc (.cells #[] 25)) 0 25 2 TyR ([]:List Ty) (.slice (some ⟨wr.heap.size+1,0,none⟩) 0 0) []:=by
      have h:=Own.made (wr.alloc (.cells #[.string xs[d].ctors[k].name,.slice A3 xs[d].ctors[k].args.length cap3,xs[d].ctors[k].idx] 67)) 0 25 2 TyR #[] 0 (Nat.zero_le _) (by simp [maxLen]) rfl
      rwa [World.size_alloc] at h
     have hKC:Blk ((wr.alloc (.cells #[.string xs[d].ctors[k].name,.slice A3 xs[d].ctors[k].args.length cap3,xs[d].ctors[k].idx] 67)).alloc (.cells #[] 25)) wr.heap.size 67 #[.string xs[d].ctors[k].name,.slice A3 xs[d].ctors[k].args.length cap3,xs[d].ctors[k].idx]:=(Blk.new wr _ _).same (Below.heap_alloc _ _ _ (by simp))
     have hsz2:((wr.alloc (.cells #[.string xs[d].ctors[k].name,.slice A3 xs[d].ctors[k].args.length cap3,xs[d].ctors[k].idx] 67)).alloc (.cells #[] 25)).heap.size=wr.heap.size+2:=by simp
     have hAB:=ArrTy.below harg (hB.trans (ha2.mono hB.size)) HG3.out
     obtain ⟨v',wc,hrun,hoc,hgc,hrc⟩:=run_append_whole (P:=Tryz.prog) (R:=TyR ((wr.alloc (.cells #[.string xs[d].ctors[k].name,.slice A3 xs[d].ctors[k].args.length cap3,xs[d].ctors[k].idx] 67)).alloc (.cells #[] 25))) (RR:=TyR) (B:=0) (k:=2) (E:=25) 65 65 j0 _ 16 Tryz.underlying65 HJ.out HJ0.out HJ1.out HJ2.out rfl (by decide) (fun x cs G h=>TyR_len x cs G h) (fun x cs G h=>TyR_one _ x cs G h) (fun w' x cs G h=>⟨h.1,rfl⟩) hos hAB (by omega) (by omega) (Nat.zero_le _)
     obtain ⟨vA,vcap,hv',hvc1,hvc2⟩:=hoc.form
     subst hv'
     generalize hwb:((wr.alloc (.cells #[.string xs[d].ctors[k].name,.slice A3 xs[d].ctors[k].args.length cap3,xs[d].ctors[k].idx] 67)).alloc (.cells #[] 25))=wb at *
     have kb1:wb.cell? ⟨wr,1,none⟩=some (.slice A3 xs[d].ctors[k].args.length cap3):=(hKC.cell 1).trans (by simp)
     have hKCc:Blk wc wr 67 #[.string xs[d].ctors[k].name,.slice A3 xs[d].ctors[k].args.length cap3,xs[d].ctors[k].idx]:=hKC.same (hgc.block _ (by omega) (fun e=>by injection e;omega))
     have hbc:Below wr wr wc:=ha2.grown hgc (by omega) (fun g hg=>by injection hg;omega)
     have hcz:wb.heap.size≤wc.heap.size:=hgc.size
     have hrw:∀ x∈rowOf (.slice vA xs[d].ctors[k].args.length vcap),wr.heap.size+1≤x:=fun x hx=>by rcases hrc x hx with h | h <;> omega
     have hx1:wc.cell? ⟨w8,1,none⟩=some (.slice kA (ktk xs[d].ctors k).length kcap):=(hbc.cell hkz).trans z1
     have hxf:wc.frozen? ⟨w8,1,none⟩=false:=(hbc.frozen hkz).trans zf1
     have y0:wc.cell? ⟨wr,0,none⟩=some (.string xs[d].ctors[k].name):=(hKCc.cell 0).trans (by simp)
     have y1:wc.cell? ⟨wr,1,none⟩=some (.slice A3 xs[d].ctors[k].args.length cap3):=(hKCc.cell 1).trans (by simp)
     have y2:wc.cell? ⟨wr,2,none⟩=xs[d].ctors[k].idx:=(hKCc.cell 2).trans (by simp)
     have yf1:=hKCc.frozen 1
     have hne:wr.heap.size≠w8.heap.size:=by omega
     have hcs:wr.heap.size<wc.heap.size:=hKCc.lt
     have hBu:Hid (Below wr wr (wc.setCell ⟨wr,1,none⟩ (.slice vA xs[d].ctors[k].args.length vcap))):=hbc.setCell (zz8 _) _
     have hod:=Own.set (j:=1) (b:=wr.heap.size) TyR_mono' hoc (.slice vA xs[d].ctors[k].args.length vcap) (fun h=>by have:=hrw _ h;omega) (fun h=>by cases h)
     have hrd:=hod.row
     have HKO:Hid (KtO (wc.setCell ⟨wr,1,none⟩ (.slice vA xs[d].ctors[k].args.length vcap)) xs[d].ctors[k] [.string xs[d].ctors[k].name,.slice vA xs[d].ctors[k].args.length vcap,xs[d].ctors[k].idx] (rowOf (.slice vA xs[d].ctors[k].args.length vcap))):=⟨_,rfl,hod,rfl,hks⟩
     have HfrA:=jj hod.free_row
     have HfsA:Hid (∀ b∈rowOf (.slice vA xs[d].ctors[k].args.length vcap),wr.heap.size≤b∧b<(wc.setCell ⟨wr,1,none⟩ (.slice vA xs[d].ctors[k].args.length vcap)).heap.size):=fun b hb=>⟨by have:=hrw b hb;omega,(hrd b hb).2⟩
     have HOA:Hid (Own (wc.setCell ⟨wr,1,none⟩ (.slice vA xs[d].ctors[k].args.length vcap)) (w8.heap.size+1) 67 3 KtO (ktk xs[d].ctors k) (.slice kA (ktk xs[d].ctors k).length kcap) Fk):=HOk.out.below (fun x cs G hk h=>KtO_mono _ _ x cs G hk h) hBu.out
     have HF2:=jj (ktk_succ xs[d].ctors k hlt)
     have HRUN:=jj hrun
     have hbs2:w8.heap.size+1≤(wc.setCell ⟨wr,1,none⟩ (.slice vA xs[d].ctors[k].args.length vcap)).heap.size:=by have:=hBu.out.size;omega
     clear hrun hod hrd hrw hrc hoc hgc hbc hKC hKCc ha1 ha2 hos hAB harg
     go_wp2_with (at_builtin;refine Halt.mk ?_)
     try rw [hwb]
     refine Halt.of (wpList_append_run rfl _ _ 65 rfl (by rfl) (by rfl) HRUN.out ?_)
     go_wp2_with (at_builtin;refine Halt.mk ?_)
     refine Halt.of (zA5 (P:=Tryz.prog) rfl _ _ 62 rfl i0 _ 48 Tryz.underlying62 HI.out HZ0.out HZ1.out HZ2.out rfl (by decide) KtO_len KtO_mono (by rfl) HOA.out xs[d].ctors[k] 67 [.string xs[d].ctors[k].name,.slice vA xs[d].ctors[k].args.length vcap,xs[d].ctors[k].idx] (rowOf (.slice vA xs[d].ctors[k].args.length vcap)) wc.heap.size (by rfl) (by simp [World.setCell]) (by simp [Value.oneCell']) HKO.out (fun b hb=>(HfsA.out b hb).2) (fun g hg hG=>Nat.lt_irrefl _ (zz9 (HOk.out.row g hg).2 (HfsA.out g hG).1)) (by unfold maxLen;omega) (by omega) hbs2 ?_)
     intro g cp w7 hown7 hgr7 hat7
     have z71:w7.cell? ⟨w8,1,none⟩=some (.slice kA (ktk xs[d].ctors k).length kcap):=(World.cell?_of_block (a:=⟨w8,1,none⟩) (grow_old HOk.out hBu.out hgr7 (Nat.lt_succ_self _) hkz)).trans z1
     have zf71:w7.frozen? ⟨w8,1,none⟩=false:=(World.frozen?_of_block (a:=⟨w8,1,none⟩) (grow_old HOk.out hBu.out hgr7 (Nat.lt_succ_self _) hkz)).trans zf1
     obtain ⟨r1,r2,r3,r4,r5,r6,r7⟩:=grow_round KtO_mono hw9s KD.out HOk.out HFk.out HFkh.out HCk.out hB hHD8 (zz8 _) hBu.out HfrA.out HfsA.out hown7 hgr7
     have R1:=jj r1
     have R2:=jj r2
     have R3:=jj r3
     have R4:=jj r4
     have R5:=jj r5
     have R6:=jj r6
     clear r1 r2 r3 r4 r5 r6 hown7 hgr7 hat7
     go_wp2
     go_roundw
     case rel=>exact ⟨k+1,_,_,hlt,by go_num,R1,by rw [HF2.out];exact R2.out,R3,R4,R5,R6.out,r7⟩
     case measure=>(simp [intOf] <;> omega)
    ·have HF2:=jj (dtk_succ xs d hdl)
     have hOr:Hid (Own wr w.heap.size 64 2 DtO (dtk xs d) u3 Fo):=Own.mono (w:=w9) (fun x cs G hk h=>DtO_mono _ _ x cs G hk h) HO9.out (HCk.out.kept (fun b hb=>by have:=HB8.out b hb;omega) (fun b hb=>by have:=HB8.out b hb;simp;omega)) HCk.out.size
     have hFrr:Hid (Free wr Fo):=HFr9.out.kept (HCk.out.kept (fun b hb=>by have:=HB8.out b (List.mem_append.2 (.inr hb));omega) (fun b hb=>by have:=HB8.out b (List.mem_append.2 (.inr hb));simp;omega))
     have hw18:w1.heap.size≤w8.heap.size:=hwr
     have hCr:Hid (Chg [w.heap.size] w1 wr):=HC9.out.trans_new HCk.out hw18
     have hka:ktk xs[d].ctors k=xs[d].ctors:=ktk_all _ (by omega)
     have harr:=HOk.out.arr
     have hfree:=HOk.out.free HFk.out
     have hrk:=HOk.out.row
     have hff:∀ b∈(if ktk xs[d].ctors k=[] then [] else rowOf (.slice kA (ktk xs[d].ctors k).length kcap) ++ Fk),w8.heap.size+1≤b∧b<wr.heap.size:=fun b hb=>by
      split at hb
      ·cases hb
      ·rcases List.mem_append.1 hb with h | h
       ·exact hrk b h
       ·exact ⟨HFkh.out b h,HOk.out.under b h⟩
     generalize (if ktk xs[d].ctors k=[] then [] else rowOf (.slice kA (ktk xs[d].ctors k).length kcap) ++ Fk)=FF at harr hfree hff
     have HFF:=jj hff
     have HFREE:=jj hfree
     have HDX:Hid (DtO wr xs[d] [.string xs[d].name,.slice kA (ktk xs[d].ctors k).length kcap] FF):=⟨_,rfl,by rw [hka] at harr ⊢;exact harr,hns⟩
     have hbs:w.heap.size≤wr.heap.size:=hB.size
     clear harr hfree hrk hff HOk HFk HFkh HO9 HFr9 HC9 hka
     go_wp2_with (at_builtin;refine Halt.mk ?_)
     refine Halt.of (zA5 (P:=Tryz.prog) rfl _ _ 23 rfl m0 _ 40 Tryz.underlying23 HM.out HM0.out HM1.out HM2.out rfl (by decide) DtO_len DtO_mono (by rfl) hOr.out xs[d] 64 [.string xs[d].name,.slice kA (ktk xs[d].ctors k).length kcap] FF _ (by rfl) rfl (by simp [Value.oneCell']) HDX.out (fun b hb=>(HFF.out b hb).2) (fun g hg hG=>by have h1:=HB8.out g (List.mem_append.2 (.inl hg));have h2:=(HFF.out g hG).1;omega) (by unfold maxLen;omega) (by omega) hbs ?_)
     intro g cp w7 hown7 hgr7 hat7
     obtain ⟨r1,r2,r3,r4,r5,r6⟩:=push_round (n:=(dtk xs d).length+1) (cp:=cp) hOr.out hFrr.out HFREE.out HB8.out HFF.out HR.out hCr.out hB (zz8 _) HFh.out hw18 hgr7 hat7
     have R1:=jj r1
     have R2:=jj r2
     have R4:=jj r4
     have R5:=jj r5
     have HO7:=jj hown7
     clear r1 r2 r3 r4 r5 hown7 hgr7 hat7
     go_wp2
     go_roundw
     case rel=>exact ⟨d+1,Fo ++ FF,hdl,by go_num,by rw [HF2.out];exact HO7.out,R1,R2,R4,R5.out,r6⟩
     case measure=>(simp [intOf] <;> omega)
  ·have hfin:Own wr w.heap.size 64 2 DtO xs u3 Fo:=by
    have h:=HO.out
    rw [dtk_all xs (by omega)] at h
    exact h
   have HFin:=jj hfin
   clear hfin HO
   go_wp2
   go_ret
   exact ⟨_,Fo,rfl,hB,HFin.out,HFr.out,fun b hb=>by have:=HFh.out b hb;omega⟩
end Go.Proofs.YtjjclcmmfeegfaaGreatDoor
