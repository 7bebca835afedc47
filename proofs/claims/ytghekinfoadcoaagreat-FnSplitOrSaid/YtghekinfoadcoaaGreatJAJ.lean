/-
  Lemmas, and contracts of functions. Conditions: none.
-/
import Derived.Test.YtghekinfoadcoaaGreatJAI
import Derived.Test.YtghekinfoadcoaaGreatJAC
import Derived.Deep.RegionWith
import Derived.Deep.Cut
import Derived.Test.YtghekinfoadcoaaGreatJAH
import Derived.Test.YtghekinfoadcoaaGreatJAB
import Derived.Test.YtghekinfoadcoaaGreatJAA

set_option linter.unusedVariables false
set_option linter.unusedSimpArgs false
set_option maxRecDepth 100000
set_option maxHeartbeats 1600000

namespace Go.Proofs.YtghekinfoadcoaaGreat
open Go.RowKit
def MutV (bs:List Int) (B:Nat) (a:V) (p g:Nat) (G:List Nat) (w:World) (e:Ending) (w':World):Prop:=∃ (b:V) (cs:List Value) (F:List Nat) (q:Nat),e=.returned (.agg cs.toArray)∧VR w' b cs F∧(∀ x∈F,x<w'.heap.size∧x≠g∧(x∈G∨w.heap.size≤x))∧2*nodes b≤2*nodes a+(q-p)+1∧RdB w' g bs q∧p<q∧q≤B+1∧pot bs q≤pot bs p+2∧Chg [g] w w'
theorem pot_lt {bs:List Int} {B p:Nat} (hp:p≤B+1) (h:pot bs p+3≤pot bs B):p<B:=by
 rcases Nat.lt_or_ge p B with g | g
 ·exact g
 ·have h2:=pot_down bs B
  rcases Nat.eq_or_lt_of_le g with e | e
  ·rw [←e] at h;omega
  ·have e:p=B+1:=by omega
   rw [e] at h;omega
theorem Own.head_at {w:World} {B:Nat} {E:TypeId} {k:V} {ks:List V} {F:List Nat} {g n cap:Nat} (h:Own w B E 3 VR (k :: ks) (.slice (some ⟨g,0,none⟩) n cap) F) :
  ∃ A1 cap1 G1,w.cell? ⟨g,0,none⟩=k.c∧w.cell? ⟨g,1,none⟩=k.n∧w.cell? ⟨g,2,none⟩=some (.slice A1 k.ks.length cap1)∧VR w k [k.c,k.n,.slice A1 k.ks.length cap1] G1∧(∀ b∈G1,b∈F):=by
 obtain ⟨cs,h1,h2,h3,h4⟩:=h
 have hc:∃ m,w.ownsRow B E 3 (.slice (some ⟨g,0,none⟩) n cap) m cs:=⟨_,h1⟩
 obtain ⟨c1,c2,F1,F2,rfl,rfl,k1,k2⟩:=h2
 obtain ⟨kv,rfl,ha⟩:=(zAF _ _ _).1 k1
 obtain ⟨A1,cap1,rfl,-,-⟩:=ha.form
 have hn:(k :: ks).length=n:=by
  rcases h1.2 with ⟨hv,-⟩ | ⟨g',cap',cur,hv,-⟩
  ·cases hv
  ·cases hv;rfl
 rw [hn] at h1
 have hc:=cellsAt_ownsRow h1
 exact ⟨A1,cap1,F1,hc 0 _ rfl,hc 1 _ rfl,hc 2 _ rfl,k1,fun b hb=>List.mem_append.2 (.inl hb)⟩
def MutF (bs:List Int) (B f:Nat):Prop:=∀ (a:V) (w:World) (p g:Nat) (_:RdB w g bs p) (_:B+1≤p+f) (_:p≤B+1) (_:pot bs p+3≤pot bs B) (_:2*nodes a≤4000+p) (cs:List Value) (G:List Nat) (_:VR w a cs G) (_:Under w G) (_:∀ b∈G,b≠g),
  Calls Tryz.prog 57 #[.pointer (some ⟨g,0,none⟩),.agg cs.toArray] w (MutV bs B a p g G w)
set_option maxHeartbeats 16000000 in
theorem spec_l2Mutate_step (bs:List Int) (B f:Nat) (hB:B≤1100000) (ih:MutF bs B f):MutF bs B (f+1):=by
 intro a w p g hr hf hp hpot hn cs G hv hG hGg
 have hpB:=pot_lt hp hpot
 have hgl:=hr.lt
 obtain ⟨kv,rfl,ha⟩:=(zAF _ _ _).1 hv
 obtain ⟨A4,cap4,rfl,hc3,hc4⟩:=ha.form
 obtain ⟨i0,hi,hz0,hz1,hz2⟩:=info_parts info_VE
 have hkl:a.ks.length≤600000:=by rw [zAN,V.sizes_eq] at hn;omega
 have HGG:=jj hGg
 have IH:=jj ih
 clear ih
 have hws:(((w.alloc (.cells #[a.c,a.n,.slice A4 a.ks.length cap4] 47)).alloc (.cells #[(0:Int),(0:Int),.slice none 0 0] 47))).heap.size=w.heap.size+2:=by simp
 have hB0:Below w w ((w.alloc (.cells #[a.c,a.n,.slice A4 a.ks.length cap4] 47)).alloc (.cells #[(0:Int),(0:Int),.slice none 0 0] 47)):=((zy2 _ _).alloc (zz8 _) _).alloc (by simp) _
 have KV:Hid (Blk ((w.alloc (.cells #[a.c,a.n,.slice A4 a.ks.length cap4] 47)).alloc (.cells #[(0:Int),(0:Int),.slice none 0 0] 47)) w.heap.size 47 #[a.c,a.n,.slice A4 a.ks.length cap4]):=(Blk.new w _ _).same (Below.heap_alloc _ _ _ (by simp))
 have KR:Hid (Blk ((w.alloc (.cells #[a.c,a.n,.slice A4 a.ks.length cap4] 47)).alloc (.cells #[(0:Int),(0:Int),.slice none 0 0] 47)) (w.heap.size+1) 47 #[(0:Int),(0:Int),.slice none 0 0]):=zA9 w _ 47 _
 have HX:Hid (Arr ((w.alloc (.cells #[a.c,a.n,.slice A4 a.ks.length cap4] 47)).alloc (.cells #[(0:Int),(0:Int),.slice none 0 0] 47)) (VR ((w.alloc (.cells #[a.c,a.n,.slice A4 a.ks.length cap4] 47)).alloc (.cells #[(0:Int),(0:Int),.slice none 0 0] 47))) a.ks (.slice A4 a.ks.length cap4) G):=ArrV.below ha hB0 hG
 have HG:=jj hG
 have HR:Hid (RdB ((w.alloc (.cells #[a.c,a.n,.slice A4 a.ks.length cap4] 47)).alloc (.cells #[(0:Int),(0:Int),.slice none 0 0] 47)) g bs p):=hr.below hB0
 have HI:=jj hi
 have HZ0:=jj hz0
 have HZ1:=jj hz1
 have HZ2:=jj hz2
 clear hi hz0 hz1 hz2
 clear hv ha hG hGg hr
 go_enter Tryz.func57,Tryz.ntmps57
 go_wp2_with fail
 obtain ⟨W0,hW0⟩:∃ X,X=((w.alloc (.cells #[a.c,a.n,.slice A4 a.ks.length cap4] 47)).alloc (.cells #[(0:Int),(0:Int),.slice none 0 0] 47)):=⟨_,rfl⟩
 rw [←hW0] at hws hB0 KV KR HX HR ⊢
 clear hW0
 have hkvl:=KV.out.lt
 go_cut [5] from 6 (fun pv wc=>∃ (D:Nat) (vA:Option Addr) (vcap:Nat) (F2:List Nat),pv=.pointer (some ⟨D,0,none⟩)∧w.heap.size+2≤D∧Hid (Blk wc D 47 #[a.c,a.n,.slice vA a.ks.length vcap])∧Hid (Own wc (w.heap.size+2) 47 3 VR a.ks (.slice vA a.ks.length vcap) F2)∧Hid (∀ b∈F2,b∈G)∧Hid (D∉rowOf (.slice vA a.ks.length vcap))∧Hid (Below (w.heap.size+2) W0 wc))
 case first =>
  have HS:Hid (∀ C:World,Below (w.heap.size+2) W0 C→(C.cell? ⟨w,0,none⟩=a.c∧C.cell? ⟨w,1,none⟩=a.n∧C.cell? ⟨w,2,none⟩=some (.slice A4 a.ks.length cap4))):=fun C hb=>⟨((KV.out.same (hb.block _ (by omega))).cell 0).trans (by simp),((KV.out.same (hb.block _ (by omega))).cell 1).trans (by simp),((KV.out.same (hb.block _ (by omega))).cell 2).trans (by simp)⟩
  have hC0:Below (w.heap.size+2) W0 W0.drew:=(zy2 _ _).drew
  have hsz0:W0.drew.heap.size=w.heap.size+2:=hws
  have HX0:Hid (Arr W0.drew (VR W0.drew) a.ks (.slice A4 a.ks.length cap4) G):=ArrV.mono HX.out (w':=W0.drew) (fun _ _=>rfl)
  refine wpBS HS.out (T:=fun _=>True) (d:=99) (by kernel_rfl) ?_
  obtain ⟨wd,hwd⟩:∃ X,X=W0.drew:=⟨_,rfl⟩
  rw [←hwd] at hC0 hsz0 HX0 ⊢
  clear hwd
  have hS0:=HS.out _ hC0
  have hT0:True:=trivial
  have hz0:w.heap.size+2≤wd.heap.size:=by omega
  clear hsz0
  refine wV 0 rfl hS0 hT0 ?_
  (try simp only [zz])
  refine wV 1 rfl hS0 hT0 ?_
  (try simp only [zz])
  refine wV 2 rfl hS0 hT0 ?_
  (try simp only [zz])
  refine wV 3 rfl hS0 hT0 ?_
  (try simp only [zz])
  refine wV 5 rfl hS0 hT0 ?_
  (try simp only [zz])
  refine wV 6 rfl hS0 hT0 ?_
  (try simp only [zz])
  refine wR (rs:=[4,9]) (by kernel_rfl) (by simp) ?_
  refine AllReadyB.c rfl (fun K hK=>?_) (AllReadyB.c rfl (fun K hK=>?_) (AllReadyB.n))
  ·skip
   go_simp
   obtain ⟨C1,hX⟩:∃ X,X=wd.alloc (.cells #[] 47):=⟨_,rfl⟩
   obtain ⟨g1,hg1⟩:∃ X,X=wd.heap.size:=⟨_,rfl⟩
   have hb1:Below wd wd C1:=by rw [hX];exact (zy2 _ _).alloc (zz8 _) _
   have hzz:C1.heap.size=wd.heap.size+1:=by rw [hX];simp
   have HO1:Hid (Own C1 (w.heap.size+2) 47 3 VR ([]:List V) (.slice (some ⟨g1,0,none⟩) 0 0) []):=by
    rw [hX,hg1]
    exact Own.made wd (w.heap.size+2) 47 3 VR #[] 0 hz0 (by simp [maxLen]) rfl
   rw [←hX,←hg1]
   clear hX
   have hC1:Below (w.heap.size+2) W0 C1:=hC0.trans (hb1.mono hz0)
   have hz1:w.heap.size+2≤C1.heap.size:=by omega
   have HX1:=jj (ArrV.below HX0.out hb1 (HG.out.mono (by omega)))
   have hgl:g1<C1.heap.size:=by omega
   clear hb1 hzz hg1
   (try dsimp only)
   refine hK.out _ _ (HS.out _ hC1) (fun _=>trivial) ?_
   clear hK K
   (try simp only [zz])
   refine wR (rs:=[7,9]) (by kernel_rfl) (by simp) ?_
   refine AllReadyB.c rfl (fun K hK=>?_) (AllReadyB.c rfl (fun K hK=>?_) (AllReadyB.n))
   ·skip
    obtain ⟨v2,C2,F2,hr2,ho2,hG2,hgr2,hat2⟩:=zAA (P:=Tryz.prog) 45 45 i0 _ 40 Tryz.underlying45 HI.out HZ0.out HZ1.out HZ2.out rfl (by decide) VR_len' VR_mono' VR_one' HO1.out HX1.out (HG.out.mono (by omega)) (fun x hx hxG=>by rw [zA3,zy1] at hx;subst hx;have:=HG.out _ hxG;have:=(HO1.out.row _ (by rw [zA3];exact List.mem_singleton.2 rfl)).1;omega) (by simp;omega) (by simp;omega) hz1
    rw [List.nil_append,List.nil_append] at ho2
    obtain ⟨vA,vcap,rfl,hvc1,hvc2⟩:=ho2.form
    have hrow:∀ x,some g1=some x→w.heap.size+2≤x:=fun x hx=>by cases hx;exact (HO1.out.row _ (by rw [zA3];exact List.mem_singleton.2 rfl)).1
    have hC2:Below (w.heap.size+2) W0 C2:=hC1.grown hgr2 hz1 hrow
    have hzz:C1.heap.size≤C2.heap.size:=hgr2.size
    have hz2:w.heap.size+2≤C2.heap.size:=by omega
    have HO2:=jj ho2
    have HG2:=jj hG2
    refine zAB (P:=Tryz.prog) rfl _ _ 45 rfl (by rfl) (by rfl) hr2 ?_
    clear hr2 ho2 hG2 hgr2 hat2 hrow hvc1 hvc2
    (try dsimp only)
    refine hK.out _ _ (HS.out _ hC2) (fun _=>trivial) ?_
    clear hK K
    (try simp only [zz])
    refine wV 8 rfl (HS.out _ hC2) hT0 ?_
    (try simp only [zz])
    refine w1 9 rfl fun K hK=>?_
    go_simp
    obtain ⟨C3,hX⟩:∃ X,X=C2.alloc (.cells #[(0:Int),(0:Int),.slice none 0 0] 47):=⟨_,rfl⟩
    obtain ⟨D,hD⟩:∃ X,X=C2.heap.size:=⟨_,rfl⟩
    have hb3:Below C2 C2 C3:=by rw [hX];exact (zy2 _ _).alloc (zz8 _) _
    have KD3:Hid (Blk C3 D 47 #[(0:Int),(0:Int),.slice none 0 0]):=by rw [hX,hD];exact Blk.new _ _ _
    rw [←hX,←hD]
    clear hX
    have hdge:w.heap.size+2≤D:=by rw [hD];exact hz2
    have hC3:Below (w.heap.size+2) W0 C3:=hC2.trans (hb3.mono hz2)
    have HO3:=jj (Own.below (fun x cs G hk h=>VR_mono' _ _ x cs G hk h) HO2.out hb3)
    have HDR:Hid (D∉rowOf (.slice vA a.ks.length vcap)):=fun h=>by have:=(HO2.out.row _ h).2;omega
    clear hb3 hD
    (try dsimp only)
    refine hK.out _ _ (HS.out _ hC3) (fun _=>trivial) ?_
    clear hK K
    (try simp only [zz])
    have yy0:C3.cell? ⟨D,0,none⟩=some (.int .i64 0):=(KD3.out.cell 0).trans (by simp)
    have ff0:=KD3.out.frozen 0
    have yy1:C3.cell? ⟨D,1,none⟩=some (.int .i64 0):=(KD3.out.cell 1).trans (by simp)
    have ff1:=KD3.out.frozen 1
    have yy2:C3.cell? ⟨D,2,none⟩=some (.slice none 0 0):=(KD3.out.cell 2).trans (by simp)
    have ff2:=KD3.out.frozen 2
    have yylt:=KD3.out.lt
    have hCe:Below (w.heap.size+2) W0 (((C3.setCell ⟨D,0,none⟩ (.int .i64 a.c)).setCell ⟨D,1,none⟩ (.int .i64 a.n)).setCell ⟨D,2,none⟩ (.slice vA a.ks.length vcap)):=((hC3.setCell hdge _).setCell hdge _).setCell hdge _
    have hKe:Hid (Blk (((C3.setCell ⟨D,0,none⟩ (.int .i64 a.c)).setCell ⟨D,1,none⟩ (.int .i64 a.n)).setCell ⟨D,2,none⟩ (.slice vA a.ks.length vcap)) D 47 #[a.c,a.n,.slice vA a.ks.length vcap]):=((KD3.out.set_ 0 _).set_ 1 _).set_ 2 _
    have hDF:D∉F2:=fun h=>by have:=HG.out _ (HG2.out _ h);omega
    have hOe:Hid (Own (((C3.setCell ⟨D,0,none⟩ (.int .i64 a.c)).setCell ⟨D,1,none⟩ (.int .i64 a.n)).setCell ⟨D,2,none⟩ (.slice vA a.ks.length vcap)) (w.heap.size+2) 47 3 VR a.ks (.slice vA a.ks.length vcap) F2):=(((HO3.out.set (fun w w' x cs G hk h=>VR_mono' w w' x cs G hk h) _ HDR.out hDF).set (fun w w' x cs G hk h=>VR_mono' w w' x cs G hk h) _ HDR.out hDF).set (fun w w' x cs G hk h=>VR_mono' w w' x cs G hk h) _ HDR.out hDF)
    refine w1 10 rfl fun K hK=>?_
    go_simp
    refine hK.out _ _ (HS.out _ hCe) (fun _=>trivial) ?_
    clear hK K
    (try simp only [zz])
    refine wE (by kernel_rfl) ?_
    clear yy0 ff0 yy1 ff1 yy2 ff2 yylt
    go_wp2
    go_meet
    case rel=>exact ⟨D,vA,vcap,F2,rfl,hdge,hKe,hOe,HG2,HDR,hCe⟩
   ·skip
    go_simp
    obtain ⟨C4,hX⟩:∃ X,X=C1.alloc (.cells #[(0:Int),(0:Int),.slice none 0 0] 47):=⟨_,rfl⟩
    obtain ⟨D,hD⟩:∃ X,X=C1.heap.size:=⟨_,rfl⟩
    have hb4:Below C1 C1 C4:=by rw [hX];exact (zy2 _ _).alloc (zz8 _) _
    have hzz:C4.heap.size=C1.heap.size+1:=by rw [hX];simp
    have KD4:Hid (Blk C4 D 47 #[(0:Int),(0:Int),.slice none 0 0]):=by rw [hX,hD];exact Blk.new _ _ _
    rw [←hX,←hD]
    clear hX
    have hdge:w.heap.size+2≤D:=by rw [hD];exact hz1
    have hC4:Below (w.heap.size+2) W0 C4:=hC1.trans (hb4.mono hz1)
    have hz4:w.heap.size+2≤C4.heap.size:=by omega
    have HX4:=jj (ArrV.below HX1.out hb4 (HG.out.mono (by omega)))
    have HO4:=jj (Own.below (fun x cs G hk h=>VR_mono' _ _ x cs G hk h) HO1.out hb4)
    have hgd:g1≠D:=by omega
    clear hb4 hzz hD
    (try dsimp only)
    refine hK.out _ _ (HS.out _ hC4) (fun _=>trivial) ?_
    clear hK K
    (try simp only [zz])
    refine wR (rs:=[7]) (by kernel_rfl) (by simp) ?_
    refine AllReadyB.c rfl (fun K hK=>?_) (AllReadyB.n)
    obtain ⟨v2,C5,F2,hr5,ho5,hG5,hgr5,hat5⟩:=zAA (P:=Tryz.prog) 45 45 i0 _ 40 Tryz.underlying45 HI.out HZ0.out HZ1.out HZ2.out rfl (by decide) VR_len' VR_mono' VR_one' HO4.out HX4.out (HG.out.mono (by omega)) (fun x hx hxG=>by rw [zA3,zy1] at hx;subst hx;have:=HG.out _ hxG;have:=(HO4.out.row _ (by rw [zA3];exact List.mem_singleton.2 rfl)).1;omega) (by simp;omega) (by simp;omega) hz4
    rw [List.nil_append,List.nil_append] at ho5
    obtain ⟨vA,vcap,rfl,hvc1,hvc2⟩:=ho5.form
    have hrow:∀ x,some g1=some x→w.heap.size+2≤x:=fun x hx=>by cases hx;exact (HO4.out.row _ (by rw [zA3];exact List.mem_singleton.2 rfl)).1
    have hC5:Below (w.heap.size+2) W0 C5:=hC4.grown hgr5 hz4 hrow
    have hzz:C4.heap.size≤C5.heap.size:=hgr5.size
    have hz5:w.heap.size+2≤C5.heap.size:=by omega
    have HO5:=jj ho5
    have HG2:=jj hG5
    have KD5:Hid (Blk C5 D 47 #[(0:Int),(0:Int),.slice none 0 0]):=KD4.out.same (hgr5.block _ KD4.out.lt (fun e=>by
     have e:some D=some g1:=e
     cases e;exact hgd rfl))
    have HDR:Hid (D∉rowOf (.slice vA a.ks.length vcap)):=fun h=>by
     have hm:=zA1.1 h
     rcases hat5 with q | q
     ·rw [q] at hm
      have hm:some g1=some D:=hm
      cases hm;exact hgd rfl
     ·rw [q] at hm
      have hm:some C4.heap.size=some D:=hm
      have:=KD4.out.lt
      cases hm;omega
    refine zAB (P:=Tryz.prog) rfl _ _ 45 rfl (by rfl) (by rfl) hr5 ?_
    clear hr5 ho5 hG5 hgr5 hat5 hrow hvc1 hvc2
    (try dsimp only)
    refine hK.out _ _ (HS.out _ hC5) (fun _=>trivial) ?_
    clear hK K
    (try simp only [zz])
    refine wV 8 rfl (HS.out _ hC5) hT0 ?_
    (try simp only [zz])
    have yy0:C5.cell? ⟨D,0,none⟩=some (.int .i64 0):=(KD5.out.cell 0).trans (by simp)
    have ff0:=KD5.out.frozen 0
    have yy1:C5.cell? ⟨D,1,none⟩=some (.int .i64 0):=(KD5.out.cell 1).trans (by simp)
    have ff1:=KD5.out.frozen 1
    have yy2:C5.cell? ⟨D,2,none⟩=some (.slice none 0 0):=(KD5.out.cell 2).trans (by simp)
    have ff2:=KD5.out.frozen 2
    have yylt:=KD5.out.lt
    have hCe:Below (w.heap.size+2) W0 (((C5.setCell ⟨D,0,none⟩ (.int .i64 a.c)).setCell ⟨D,1,none⟩ (.int .i64 a.n)).setCell ⟨D,2,none⟩ (.slice vA a.ks.length vcap)):=((hC5.setCell hdge _).setCell hdge _).setCell hdge _
    have hKe:Hid (Blk (((C5.setCell ⟨D,0,none⟩ (.int .i64 a.c)).setCell ⟨D,1,none⟩ (.int .i64 a.n)).setCell ⟨D,2,none⟩ (.slice vA a.ks.length vcap)) D 47 #[a.c,a.n,.slice vA a.ks.length vcap]):=((KD5.out.set_ 0 _).set_ 1 _).set_ 2 _
    have hDF:D∉F2:=fun h=>by have:=HG.out _ (HG2.out _ h);omega
    have hOe:Hid (Own (((C5.setCell ⟨D,0,none⟩ (.int .i64 a.c)).setCell ⟨D,1,none⟩ (.int .i64 a.n)).setCell ⟨D,2,none⟩ (.slice vA a.ks.length vcap)) (w.heap.size+2) 47 3 VR a.ks (.slice vA a.ks.length vcap) F2):=(((HO5.out.set (fun w w' x cs G hk h=>VR_mono' w w' x cs G hk h) _ HDR.out hDF).set (fun w w' x cs G hk h=>VR_mono' w w' x cs G hk h) _ HDR.out hDF).set (fun w w' x cs G hk h=>VR_mono' w w' x cs G hk h) _ HDR.out hDF)
    refine w1 10 rfl fun K hK=>?_
    go_simp
    refine hK.out _ _ (HS.out _ hCe) (fun _=>trivial) ?_
    clear hK K
    (try simp only [zz])
    refine wE (by kernel_rfl) ?_
    clear yy0 ff0 yy1 ff1 yy2 ff2 yylt
    go_wp2
    go_meet
    case rel=>exact ⟨D,vA,vcap,F2,rfl,hdge,hKe,hOe,HG2,HDR,hCe⟩
  ·skip
   go_simp
   obtain ⟨C6,hX⟩:∃ X,X=wd.alloc (.cells #[(0:Int),(0:Int),.slice none 0 0] 47):=⟨_,rfl⟩
   obtain ⟨D,hD⟩:∃ X,X=wd.heap.size:=⟨_,rfl⟩
   have hb6:Below wd wd C6:=by rw [hX];exact (zy2 _ _).alloc (zz8 _) _
   have hzz:C6.heap.size=wd.heap.size+1:=by rw [hX];simp
   have KD6:Hid (Blk C6 D 47 #[(0:Int),(0:Int),.slice none 0 0]):=by rw [hX,hD];exact Blk.new _ _ _
   rw [←hX,←hD]
   clear hX
   have hdge:w.heap.size+2≤D:=by rw [hD];exact hz0
   have hC6:Below (w.heap.size+2) W0 C6:=hC0.trans (hb6.mono hz0)
   have hz6:w.heap.size+2≤C6.heap.size:=by omega
   have HX6:=jj (ArrV.below HX0.out hb6 (HG.out.mono (by omega)))
   clear hb6 hzz hD
   (try dsimp only)
   refine hK.out _ _ (HS.out _ hC6) (fun _=>trivial) ?_
   clear hK K
   (try simp only [zz])
   refine wR (rs:=[4]) (by kernel_rfl) (by simp) ?_
   refine AllReadyB.c rfl (fun K hK=>?_) (AllReadyB.n)
   go_simp
   obtain ⟨C7,hX⟩:∃ X,X=C6.alloc (.cells #[] 47):=⟨_,rfl⟩
   obtain ⟨g7,hg7⟩:∃ X,X=C6.heap.size:=⟨_,rfl⟩
   have hb7:Below C6 C6 C7:=by rw [hX];exact (zy2 _ _).alloc (zz8 _) _
   have hzz:C7.heap.size=C6.heap.size+1:=by rw [hX];simp
   have HO7:Hid (Own C7 (w.heap.size+2) 47 3 VR ([]:List V) (.slice (some ⟨g7,0,none⟩) 0 0) []):=by
    rw [hX,hg7]
    exact Own.made C6 (w.heap.size+2) 47 3 VR #[] 0 hz6 (by simp [maxLen]) rfl
   rw [←hX,←hg7]
   clear hX
   have KD7:Hid (Blk C7 D 47 #[(0:Int),(0:Int),.slice none 0 0]):=KD6.out.same (hb7.block _ KD6.out.lt)
   have hgd:g7≠D:=by have:=KD6.out.lt;omega
   have hC7:Below (w.heap.size+2) W0 C7:=hC6.trans (hb7.mono hz6)
   have hz7:w.heap.size+2≤C7.heap.size:=by omega
   have HX7:=jj (ArrV.below HX6.out hb7 (HG.out.mono (by omega)))
   have hgl:g7<C7.heap.size:=by omega
   clear hb7 hzz hg7
   (try dsimp only)
   refine hK.out _ _ (HS.out _ hC7) (fun _=>trivial) ?_
   clear hK K
   (try simp only [zz])
   refine wR (rs:=[7]) (by kernel_rfl) (by simp) ?_
   refine AllReadyB.c rfl (fun K hK=>?_) (AllReadyB.n)
   obtain ⟨v2,C8,F2,hr8,ho8,hG8,hgr8,hat8⟩:=zAA (P:=Tryz.prog) 45 45 i0 _ 40 Tryz.underlying45 HI.out HZ0.out HZ1.out HZ2.out rfl (by decide) VR_len' VR_mono' VR_one' HO7.out HX7.out (HG.out.mono (by omega)) (fun x hx hxG=>by rw [zA3,zy1] at hx;subst hx;have:=HG.out _ hxG;have:=(HO7.out.row _ (by rw [zA3];exact List.mem_singleton.2 rfl)).1;omega) (by simp;omega) (by simp;omega) hz7
   rw [List.nil_append,List.nil_append] at ho8
   obtain ⟨vA,vcap,rfl,hvc1,hvc2⟩:=ho8.form
   have hrow:∀ x,some g7=some x→w.heap.size+2≤x:=fun x hx=>by cases hx;exact (HO7.out.row _ (by rw [zA3];exact List.mem_singleton.2 rfl)).1
   have hC8:Below (w.heap.size+2) W0 C8:=hC7.grown hgr8 hz7 hrow
   have hzz:C7.heap.size≤C8.heap.size:=hgr8.size
   have hz8:w.heap.size+2≤C8.heap.size:=by omega
   have HO8:=jj ho8
   have HG2:=jj hG8
   have KD8:Hid (Blk C8 D 47 #[(0:Int),(0:Int),.slice none 0 0]):=KD7.out.same (hgr8.block _ KD7.out.lt (fun e=>by
    have e:some D=some g7:=e
    cases e;exact hgd rfl))
   have HDR:Hid (D∉rowOf (.slice vA a.ks.length vcap)):=fun h=>by
    have hm:=zA1.1 h
    rcases hat8 with q | q
    ·rw [q] at hm
     have hm:some g7=some D:=hm
     cases hm;exact hgd rfl
    ·rw [q] at hm
     have hm:some C7.heap.size=some D:=hm
     have:=KD7.out.lt
     cases hm;omega
   refine zAB (P:=Tryz.prog) rfl _ _ 45 rfl (by rfl) (by rfl) hr8 ?_
   clear hr8 ho8 hG8 hgr8 hat8 hrow hvc1 hvc2
   (try dsimp only)
   refine hK.out _ _ (HS.out _ hC8) (fun _=>trivial) ?_
   clear hK K
   (try simp only [zz])
   refine wV 8 rfl (HS.out _ hC8) hT0 ?_
   (try simp only [zz])
   have yy0:C8.cell? ⟨D,0,none⟩=some (.int .i64 0):=(KD8.out.cell 0).trans (by simp)
   have ff0:=KD8.out.frozen 0
   have yy1:C8.cell? ⟨D,1,none⟩=some (.int .i64 0):=(KD8.out.cell 1).trans (by simp)
   have ff1:=KD8.out.frozen 1
   have yy2:C8.cell? ⟨D,2,none⟩=some (.slice none 0 0):=(KD8.out.cell 2).trans (by simp)
   have ff2:=KD8.out.frozen 2
   have yylt:=KD8.out.lt
   have hCe:Below (w.heap.size+2) W0 (((C8.setCell ⟨D,0,none⟩ (.int .i64 a.c)).setCell ⟨D,1,none⟩ (.int .i64 a.n)).setCell ⟨D,2,none⟩ (.slice vA a.ks.length vcap)):=((hC8.setCell hdge _).setCell hdge _).setCell hdge _
   have hKe:Hid (Blk (((C8.setCell ⟨D,0,none⟩ (.int .i64 a.c)).setCell ⟨D,1,none⟩ (.int .i64 a.n)).setCell ⟨D,2,none⟩ (.slice vA a.ks.length vcap)) D 47 #[a.c,a.n,.slice vA a.ks.length vcap]):=((KD8.out.set_ 0 _).set_ 1 _).set_ 2 _
   have hDF:D∉F2:=fun h=>by have:=HG.out _ (HG2.out _ h);omega
   have hOe:Hid (Own (((C8.setCell ⟨D,0,none⟩ (.int .i64 a.c)).setCell ⟨D,1,none⟩ (.int .i64 a.n)).setCell ⟨D,2,none⟩ (.slice vA a.ks.length vcap)) (w.heap.size+2) 47 3 VR a.ks (.slice vA a.ks.length vcap) F2):=(((HO8.out.set (fun w w' x cs G hk h=>VR_mono' w w' x cs G hk h) _ HDR.out hDF).set (fun w w' x cs G hk h=>VR_mono' w w' x cs G hk h) _ HDR.out hDF).set (fun w w' x cs G hk h=>VR_mono' w w' x cs G hk h) _ HDR.out hDF)
   refine w1 10 rfl fun K hK=>?_
   go_simp
   refine hK.out _ _ (HS.out _ hCe) (fun _=>trivial) ?_
   clear hK K
   (try simp only [zz])
   refine wE (by kernel_rfl) ?_
   clear yy0 ff0 yy1 ff1 yy2 ff2 yylt
   go_wp2
   go_meet
   case rel=>exact ⟨D,vA,vcap,F2,rfl,hdge,hKe,hOe,HG2,HDR,hCe⟩
 case rest =>
  obtain ⟨D,vA,vcap,F2,rfl,hDge,KD,HO,HG2,HDR,HBc⟩:=hcut
  obtain ⟨wp,hwp⟩:∃ X,X=wc:=⟨_,rfl⟩
  rw [←hwp] at KD HO HBc ⊢
  clear hwp
  have KRp:Hid (Blk wp (w.heap.size+1) 47 #[(0:Int),(0:Int),.slice none 0 0]):=KR.out.same (HBc.out.block _ (by omega))
  have hBp:Below w w wp:=hB0.trans (HBc.out.mono (by omega))
  have HRp:Hid (RdB wp g bs p):=HR.out.keep fun b hb=>HBc.out.block _ (by omega)
  have hDw:D<wp.heap.size:=KD.out.lt
  have HFG:Hid (∀ b∈F2,b≠g∧b≠w.heap.size+1∧(b∈G∨w.heap.size≤b)):=fun b hb=>⟨HGG.out b (HG2.out b hb),by have:=HG.out b (HG2.out b hb);omega,.inl (HG2.out b hb)⟩
  have HDF:Hid (D∉F2):=fun h=>by have:=HG.out _ (HG2.out _ h);omega
  clear HX HR KR HBc
  have hp3:pkOf bs p 24=3→pot bs (p+1)=pot bs p-2:=pot_three bs p
  have hpk:pkOf bs p 24=0∨pkOf bs p 24=1→pot bs (p+2)≤pot bs p+2:=pot_skip bs p
  have HUP:Hid (pot bs (p+1)≤pot bs p+2):=pot_up bs p
  go_wp2_with fail
  refine (pick_x bs 24 p g wp HRp.out (by omega) (by omega) (by omega)).mono ?_
  rintro e w6 ⟨rfl,hR6,hC6⟩
  generalize pkOf bs p 24=r at hp3 hpk ⊢
  have HC6:Hid (Chg [g] w w6):=(Chg.of_below hBp).trans hC6
  have HR6:=jj hR6
  have KD6:Hid (Blk w6 D 47 #[a.c,a.n,.slice vA a.ks.length vcap]):=KD.out.same (hC6.block _ KD.out.lt (by rw [zy1];omega))
  have KR6:Hid (Blk w6 (w.heap.size+1) 47 #[(0:Int),(0:Int),.slice none 0 0]):=KRp.out.same (hC6.block _ KRp.out.lt (by rw [zy1];omega))
  have HO6:=jj (HO.out.deeperV (fun x cs G hk h=>VR_mono' _ _ x cs G hk h) hC6 (fun b hb h=>by rw [zy1] at h;have:=(HO.out.row b hb).1;omega) (fun b hb h=>by rw [zy1] at h;exact (HFG.out b hb).1 h))
  have hz6:w.heap.size+2≤w6.heap.size:=by have:=KD6.out.lt;omega
  clear hBp KD KRp HO HRp hR6 hC6
  by_cases h0:r=0
  ·subst h0
   have HSK:Hid (pot bs (p+1+1)≤pot bs p+2):=hpk (.inl rfl)
   clear hpk hp3
   go_wp2_with fail
   have hLit:LitN (w6.alloc (.cells ([0,1,-1,9,-2].map (Value.int .i64)).toArray 3)) w6.heap.size [0,1,-1,9,-2]:=LitN.new _ _ (by decide)
   have hb7:Below w6 w6 (w6.alloc (.cells ([0,1,-1,9,-2].map (Value.int .i64)).toArray 3)):=(zy2 _ _).alloc (zz8 _) _
   have hR7:RdB (w6.alloc (.cells ([0,1,-1,9,-2].map (Value.int .i64)).toArray 3)) g bs (p+1):=HR6.out.below hb7
   have hLit2:=hLit
   simp only [List.map_cons,List.map_nil] at hLit2
   obtain ⟨w7,hw7⟩:∃ X,X=(w6.alloc (.cells ([0,1,-1,9,-2].map (Value.int .i64)).toArray 3)):=⟨_,rfl⟩
   have hw7':=hw7
   simp only [List.map_cons,List.map_nil] at hw7'
   rw [←hw7] at hLit hb7 hR7
   first | rw [←hw7] | rw [←hw7']
   clear hw7 hw7' hLit2
   have hg6:g<w6.heap.size:=HR6.out.lt
   refine (num_x bs [0,1,-1,9,-2] (by decide) (by decide) (p+1) g w7 hR7 (by omega) _ _ hLit.2 (fun x hx=>by rw [List.mem_singleton.1 hx];exact hLit.1) (fun e=>by rw [zy1] at e;omega)).mono ?_
   rintro e w8 ⟨nx,-,rfl,hR8,hq8⟩
   have hC68:Chg [g] w6 w8:=(Chg.of_below hb7).trans hq8
   have hC8:Chg [g] w w8:=HC6.out.trans hC68
   have KD8:Hid (Blk w8 D 47 #[a.c,a.n,.slice vA a.ks.length vcap]):=KD6.out.same (hC68.block _ KD6.out.lt (by rw [zy1];omega))
   have KR8:Hid (Blk w8 (w.heap.size+1) 47 #[(0:Int),(0:Int),.slice none 0 0]):=KR6.out.same (hC68.block _ KR6.out.lt (by rw [zy1];omega))
   have HO8:=jj (HO6.out.deeperV (fun x cs G hk h=>VR_mono' _ _ x cs G hk h) hC68 (fun b hb h=>by rw [zy1] at h;have:=(HO6.out.row b hb).1;omega) (fun b hb h=>by rw [zy1] at h;exact (HFG.out b hb).1 h))
   have HO9:Hid (Own (w8.setCell ⟨D,0,none⟩ (.int .i64 nx)) (w.heap.size+2) 47 3 VR a.ks (.slice vA a.ks.length vcap) F2):=HO8.out.set (fun w w' x cs G hk h=>VR_mono' w w' x cs G hk h) _ HDR.out HDF.out
   have KR9:Hid (Blk (w8.setCell ⟨D,0,none⟩ (.int .i64 nx)) (w.heap.size+1) 47 #[(0:Int),(0:Int),.slice none 0 0]):=KR8.out.same (zz7 _ _ _ _ (by show w.heap.size+1≠D;omega))
   have HR9:Hid (RdB (w8.setCell ⟨D,0,none⟩ (.int .i64 nx)) g bs (p+1+1)):=hR8.keep fun b hb=>zz7 _ _ _ _ (by show b≠D;omega)
   have HC9:Hid (Chg [g] w (w8.setCell ⟨D,0,none⟩ (.int .i64 nx))):=hC8.set_new (by omega)
   obtain ⟨e0,e1,e2,elt,f0,f1,f2⟩:=KD8.out.q3
   have r0:w8.cell? ⟨w.heap.size+1,0,none⟩=some (.int .i64 0):=(KR8.out.cell 0).trans (by simp)
   have s0:=KR8.out.frozen 0
   have r1:w8.cell? ⟨w.heap.size+1,1,none⟩=some (.int .i64 0):=(KR8.out.cell 1).trans (by simp)
   have s1:=KR8.out.frozen 1
   have r2:w8.cell? ⟨w.heap.size+1,2,none⟩=some (.slice none 0 0):=(KR8.out.cell 2).trans (by simp)
   have s2:=KR8.out.frozen 2
   have rlt:=KR8.out.lt
   clear hLit hb7 hR7 hq8 hR8 hC68 hC8
   go_wp2
   clear e0 f0 e1 f1 e2 f2 elt
   clear r0 s0 r1 s1 r2 s2 rlt
   refine bodyPost_ret (zA2 rfl _ _ (w.heap.size+1) 47 #[.int .i64 nx,a.n,.slice vA a.ks.length vcap] (0,0) _ rfl (KR9.out.three _ _ _) Tryz.underlying47 rfl rfl) rfl ?_
   have hfr:=HO9.out.under_any3
   have hne:∀ b∈(if a.ks=[] then [] else rowOf (.slice vA a.ks.length vcap) ++ F2),b≠w.heap.size+1:=fun b hb e=>by
    by_cases hx:a.ks=[]
    ·rw [if_pos hx] at hb;cases hb
    ·rw [if_neg hx] at hb
     rcases List.mem_append.1 hb with hb | hb
     ·have:=(HO9.out.row b hb).1;omega
     ·exact (HFG.out b hb).2.1 e
   have hkp:Kept (if a.ks=[] then [] else rowOf (.slice vA a.ks.length vcap) ++ F2) (w8.setCell ⟨D,0,none⟩ (.int .i64 nx)) ((((w8.setCell ⟨D,0,none⟩ (.int .i64 nx)).setCell ⟨w.heap.size+1,0,none⟩ (.int .i64 nx)).setCell ⟨w.heap.size+1,1,none⟩ (.int .i64 a.n)).setCell ⟨w.heap.size+1,2,none⟩ (.slice vA a.ks.length vcap)):=zBE hne _ _ _
   refine ⟨⟨nx,a.n,a.ks⟩,[.int .i64 nx,a.n,.slice vA a.ks.length vcap],_,p+1+1,rfl,(zAF _ _ _).2 ⟨_,rfl,ArrV.mono HO9.out.arr hkp⟩,(fun b hb=>?_),(by rw [zAN,zAN];show 2*(1+V.sizes a.ks)≤2*(1+V.sizes a.ks)+(p+1+1-p)+1;omega),rdb_three HR9.out (by omega) _ _ _,by omega,by omega,HSK.out,chg_three HC9.out (by omega) _ _ _⟩
   rw [zBG]
   refine ⟨hfr b hb,?_⟩
   by_cases hx:a.ks=[]
   ·rw [if_pos hx] at hb;cases hb
   ·rw [if_neg hx] at hb
    rcases List.mem_append.1 hb with hb | hb
    ·have:=(HO9.out.row b hb).1;exact ⟨by omega,.inr (by omega)⟩
    ·exact ⟨(HFG.out b hb).1,(HFG.out b hb).2.2⟩
  by_cases h1:r=1
  ·subst h1
   have HSK:Hid (pot bs (p+1+1)≤pot bs p+2):=hpk (.inr rfl)
   clear hpk hp3
   go_wp2_with fail
   have hLit:LitN (w6.alloc (.cells ([10,-1,1].map (Value.int .i64)).toArray 3)) w6.heap.size [10,-1,1]:=LitN.new _ _ (by decide)
   have hb7:Below w6 w6 (w6.alloc (.cells ([10,-1,1].map (Value.int .i64)).toArray 3)):=(zy2 _ _).alloc (zz8 _) _
   have hR7:RdB (w6.alloc (.cells ([10,-1,1].map (Value.int .i64)).toArray 3)) g bs (p+1):=HR6.out.below hb7
   have hLit2:=hLit
   simp only [List.map_cons,List.map_nil] at hLit2
   obtain ⟨w7,hw7⟩:∃ X,X=(w6.alloc (.cells ([10,-1,1].map (Value.int .i64)).toArray 3)):=⟨_,rfl⟩
   have hw7':=hw7
   simp only [List.map_cons,List.map_nil] at hw7'
   rw [←hw7] at hLit hb7 hR7
   first | rw [←hw7] | rw [←hw7']
   clear hw7 hw7' hLit2
   have hg6:g<w6.heap.size:=HR6.out.lt
   refine (num_x bs [10,-1,1] (by decide) (by decide) (p+1) g w7 hR7 (by omega) _ _ hLit.2 (fun x hx=>by rw [List.mem_singleton.1 hx];exact hLit.1) (fun e=>by rw [zy1] at e;omega)).mono ?_
   rintro e w8 ⟨nx,-,rfl,hR8,hq8⟩
   have hC68:Chg [g] w6 w8:=(Chg.of_below hb7).trans hq8
   have hC8:Chg [g] w w8:=HC6.out.trans hC68
   have KD8:Hid (Blk w8 D 47 #[a.c,a.n,.slice vA a.ks.length vcap]):=KD6.out.same (hC68.block _ KD6.out.lt (by rw [zy1];omega))
   have KR8:Hid (Blk w8 (w.heap.size+1) 47 #[(0:Int),(0:Int),.slice none 0 0]):=KR6.out.same (hC68.block _ KR6.out.lt (by rw [zy1];omega))
   have HO8:=jj (HO6.out.deeperV (fun x cs G hk h=>VR_mono' _ _ x cs G hk h) hC68 (fun b hb h=>by rw [zy1] at h;have:=(HO6.out.row b hb).1;omega) (fun b hb h=>by rw [zy1] at h;exact (HFG.out b hb).1 h))
   have HO9:Hid (Own (w8.setCell ⟨D,1,none⟩ (.int .i64 nx)) (w.heap.size+2) 47 3 VR a.ks (.slice vA a.ks.length vcap) F2):=HO8.out.set (fun w w' x cs G hk h=>VR_mono' w w' x cs G hk h) _ HDR.out HDF.out
   have KR9:Hid (Blk (w8.setCell ⟨D,1,none⟩ (.int .i64 nx)) (w.heap.size+1) 47 #[(0:Int),(0:Int),.slice none 0 0]):=KR8.out.same (zz7 _ _ _ _ (by show w.heap.size+1≠D;omega))
   have HR9:Hid (RdB (w8.setCell ⟨D,1,none⟩ (.int .i64 nx)) g bs (p+1+1)):=hR8.keep fun b hb=>zz7 _ _ _ _ (by show b≠D;omega)
   have HC9:Hid (Chg [g] w (w8.setCell ⟨D,1,none⟩ (.int .i64 nx))):=hC8.set_new (by omega)
   obtain ⟨e0,e1,e2,elt,f0,f1,f2⟩:=KD8.out.q3
   have r0:w8.cell? ⟨w.heap.size+1,0,none⟩=some (.int .i64 0):=(KR8.out.cell 0).trans (by simp)
   have s0:=KR8.out.frozen 0
   have r1:w8.cell? ⟨w.heap.size+1,1,none⟩=some (.int .i64 0):=(KR8.out.cell 1).trans (by simp)
   have s1:=KR8.out.frozen 1
   have r2:w8.cell? ⟨w.heap.size+1,2,none⟩=some (.slice none 0 0):=(KR8.out.cell 2).trans (by simp)
   have s2:=KR8.out.frozen 2
   have rlt:=KR8.out.lt
   clear hLit hb7 hR7 hq8 hR8 hC68 hC8
   go_wp2
   clear e0 f0 e1 f1 e2 f2 elt
   clear r0 s0 r1 s1 r2 s2 rlt
   refine bodyPost_ret (zA2 rfl _ _ (w.heap.size+1) 47 #[a.c,.int .i64 nx,.slice vA a.ks.length vcap] (0,0) _ rfl (KR9.out.three _ _ _) Tryz.underlying47 rfl rfl) rfl ?_
   have hfr:=HO9.out.under_any3
   have hne:∀ b∈(if a.ks=[] then [] else rowOf (.slice vA a.ks.length vcap) ++ F2),b≠w.heap.size+1:=fun b hb e=>by
    by_cases hx:a.ks=[]
    ·rw [if_pos hx] at hb;cases hb
    ·rw [if_neg hx] at hb
     rcases List.mem_append.1 hb with hb | hb
     ·have:=(HO9.out.row b hb).1;omega
     ·exact (HFG.out b hb).2.1 e
   have hkp:Kept (if a.ks=[] then [] else rowOf (.slice vA a.ks.length vcap) ++ F2) (w8.setCell ⟨D,1,none⟩ (.int .i64 nx)) ((((w8.setCell ⟨D,1,none⟩ (.int .i64 nx)).setCell ⟨w.heap.size+1,0,none⟩ (.int .i64 a.c)).setCell ⟨w.heap.size+1,1,none⟩ (.int .i64 nx)).setCell ⟨w.heap.size+1,2,none⟩ (.slice vA a.ks.length vcap)):=zBE hne _ _ _
   refine ⟨⟨a.c,nx,a.ks⟩,[a.c,.int .i64 nx,.slice vA a.ks.length vcap],_,p+1+1,rfl,(zAF _ _ _).2 ⟨_,rfl,ArrV.mono HO9.out.arr hkp⟩,(fun b hb=>?_),(by rw [zAN,zAN];show 2*(1+V.sizes a.ks)≤2*(1+V.sizes a.ks)+(p+1+1-p)+1;omega),rdb_three HR9.out (by omega) _ _ _,by omega,by omega,HSK.out,chg_three HC9.out (by omega) _ _ _⟩
   rw [zBG]
   refine ⟨hfr b hb,?_⟩
   by_cases hx:a.ks=[]
   ·rw [if_pos hx] at hb;cases hb
   ·rw [if_neg hx] at hb
    rcases List.mem_append.1 hb with hb | hb
    ·have:=(HO9.out.row b hb).1;exact ⟨by omega,.inr (by omega)⟩
    ·exact ⟨(HFG.out b hb).1,(HFG.out b hb).2.2⟩
  by_cases h2:r=2
  ·subst h2
   clear hpk hp3
   obtain ⟨e0,e1,e2,elt,f0,f1,f2⟩:=KD6.out.q3
   go_wp2_with (at_builtin;refine Halt.mk ?_)
   refine Halt.of (zA6 (P:=Tryz.prog) rfl _ _ 45 rfl i0 _ 40 Tryz.underlying45 HI.out HZ0.out HZ1.out HZ2.out rfl (by decide) VR_len' VR_mono' (by rfl) HO6.out ⟨-1,0,[]⟩ 47 [.int .i64 (-1),(0:Int),.slice none 0 0] [] _ (by rfl) (by simp) (by simp [Value.oneCell']) ((zAF _ _ _).2 ⟨_,rfl,Arr.nil⟩) (Under.nil _) (fun _ _ h=>by cases h) (by unfold maxLen;omega) (by omega) hz6 ?_)
   intro g7 cp7 w9 hown9 hgr9 hat9
   clear e0 f0 e1 f1 e2 f2 elt
   rw [List.append_nil] at hown9
   have HO9':=jj hown9
   have hb69:Below (w.heap.size+2) w6 w9:=((zy2 _ _).alloc hz6 _).grown hgr9 (by simp;omega) (fun x hx=>(HO6.out.row x (zA1.2 hx)).1)
   have hDl:=KD6.out.lt
   have hDk:w9.heap[D]?=w6.heap[D]?:=(hgr9.block _ (by rw [World.size_alloc];omega) (fun e=>HDR.out (zA1.2 e.symm))).trans (Below.heap_alloc _ _ _ hDl)
   have KD9:Hid (Blk w9 D 47 #[a.c,a.n,.slice vA a.ks.length vcap]):=KD6.out.same hDk
   have KR9':Hid (Blk w9 (w.heap.size+1) 47 #[(0:Int),(0:Int),.slice none 0 0]):=KR6.out.same (hb69.block _ (by omega))
   have hD7:D≠g7:=fun e=>by
    rcases hat9 with h | h
    ·exact HDR.out (zA1.2 (by rw [e];exact h))
    ·omega
   have HO9:Hid (Own (w9.setCell ⟨D,2,none⟩ (.slice (some ⟨g7,0,none⟩) (a.ks.length+1) cp7)) (w.heap.size+2) 47 3 VR (a.ks ++ [⟨-1,0,[]⟩]) (.slice (some ⟨g7,0,none⟩) (a.ks.length+1) cp7) F2):=HO9'.out.set (fun w w' x cs G hk h=>VR_mono' w w' x cs G hk h) _ (fun h=>by rw [zA3,zy1] at h;exact hD7 h) HDF.out
   have KR9:Hid (Blk (w9.setCell ⟨D,2,none⟩ (.slice (some ⟨g7,0,none⟩) (a.ks.length+1) cp7)) (w.heap.size+1) 47 #[(0:Int),(0:Int),.slice none 0 0]):=KR9'.out.same (zz7 _ _ _ _ (by show w.heap.size+1≠D;omega))
   have hC69:Chg [g] w w9:=⟨hb69.os.trans HC6.out.os,hb69.tape.trans HC6.out.tape,hb69.output.trans HC6.out.output,Nat.le_trans HC6.out.size hb69.size,fun b hb hn=>(hb69.block b (by omega)).trans (HC6.out.block b hb hn)⟩
   have HC9:Hid (Chg [g] w (w9.setCell ⟨D,2,none⟩ (.slice (some ⟨g7,0,none⟩) (a.ks.length+1) cp7))):=hC69.set_new (by omega)
   have HR9:Hid (RdB (w9.setCell ⟨D,2,none⟩ (.slice (some ⟨g7,0,none⟩) (a.ks.length+1) cp7)) g bs (p+1)):=(HR6.out.keep (w':=w9) (fun b hb=>hb69.block b (by omega))).keep fun b hb=>zz7 _ _ _ _ (by show b≠D;omega)
   obtain ⟨e0,e1,e2,elt,f0,f1,f2⟩:=KD9.out.q3
   have r0:w9.cell? ⟨w.heap.size+1,0,none⟩=some (.int .i64 0):=(KR9'.out.cell 0).trans (by simp)
   have s0:=KR9'.out.frozen 0
   have r1:w9.cell? ⟨w.heap.size+1,1,none⟩=some (.int .i64 0):=(KR9'.out.cell 1).trans (by simp)
   have s1:=KR9'.out.frozen 1
   have r2:w9.cell? ⟨w.heap.size+1,2,none⟩=some (.slice none 0 0):=(KR9'.out.cell 2).trans (by simp)
   have s2:=KR9'.out.frozen 2
   have rlt:=KR9'.out.lt
   clear hown9 hgr9 hat9 hC69 hDk
   go_wp2
   clear e0 f0 e1 f1 e2 f2 elt
   clear r0 s0 r1 s1 r2 s2 rlt
   refine bodyPost_ret (zA2 rfl _ _ (w.heap.size+1) 47 #[a.c,a.n,.slice (some ⟨g7,0,none⟩) (a.ks.length+1) cp7] (0,0) _ rfl (KR9.out.three _ _ _) Tryz.underlying47 rfl rfl) rfl ?_
   have hfr:=HO9.out.under_any3
   have hne:∀ b∈(if (a.ks ++ [⟨-1,0,[]⟩])=[] then [] else rowOf (.slice (some ⟨g7,0,none⟩) (a.ks.length+1) cp7) ++ F2),b≠w.heap.size+1:=fun b hb e=>by
    by_cases hx:(a.ks ++ [⟨-1,0,[]⟩])=[]
    ·rw [if_pos hx] at hb;cases hb
    ·rw [if_neg hx] at hb
     rcases List.mem_append.1 hb with hb | hb
     ·have:=(HO9.out.row b hb).1;omega
     ·exact (HFG.out b hb).2.1 e
   have hkp:Kept (if (a.ks ++ [⟨-1,0,[]⟩])=[] then [] else rowOf (.slice (some ⟨g7,0,none⟩) (a.ks.length+1) cp7) ++ F2) (w9.setCell ⟨D,2,none⟩ (.slice (some ⟨g7,0,none⟩) (a.ks.length+1) cp7)) ((((w9.setCell ⟨D,2,none⟩ (.slice (some ⟨g7,0,none⟩) (a.ks.length+1) cp7)).setCell ⟨w.heap.size+1,0,none⟩ (.int .i64 a.c)).setCell ⟨w.heap.size+1,1,none⟩ (.int .i64 a.n)).setCell ⟨w.heap.size+1,2,none⟩ (.slice (some ⟨g7,0,none⟩) (a.ks.length+1) cp7)):=zBE hne _ _ _
   refine ⟨⟨a.c,a.n,a.ks ++ [⟨-1,0,[]⟩]⟩,[a.c,a.n,.slice (some ⟨g7,0,none⟩) (a.ks.length+1) cp7],_,p+1,rfl,(zAF _ _ _).2 ⟨_,rfl,ArrV.mono HO9.out.arr hkp⟩,(fun b hb=>?_),(by rw [zAN,zAN];show 2*(1+V.sizes (a.ks ++ [⟨-1,0,[]⟩]))≤2*(1+V.sizes a.ks)+(p+1-p)+1;rw [V.sizes_snoc];show 2*(1+(V.sizes a.ks+(1+0)))≤2*(1+V.sizes a.ks)+(p+1-p)+1;omega),rdb_three HR9.out (by omega) _ _ _,by omega,by omega,HUP.out,chg_three HC9.out (by omega) _ _ _⟩
   rw [zBG]
   refine ⟨hfr b hb,?_⟩
   by_cases hx:(a.ks ++ [⟨-1,0,[]⟩])=[]
   ·rw [if_pos hx] at hb;cases hb
   ·rw [if_neg hx] at hb
    rcases List.mem_append.1 hb with hb | hb
    ·have:=(HO9.out.row b hb).1;exact ⟨by omega,.inr (by omega)⟩
    ·exact ⟨(HFG.out b hb).1,(HFG.out b hb).2.2⟩
  by_cases h3:r=3
  ·subst h3
   have HP3:Hid (pot bs (p+1)=pot bs p-2):=hp3 rfl
   clear hpk hp3
   by_cases hk:a.ks=[]
   ·have hl0:a.ks.length=0:=by rw [hk];rfl
    have t5:decide (0<a.ks.length)=false:=by rw [hl0];rfl
    clear hk hl0
    obtain ⟨e0,e1,e2,elt,f0,f1,f2⟩:=KD6.out.q3
    have r0:w6.cell? ⟨w.heap.size+1,0,none⟩=some (.int .i64 0):=(KR6.out.cell 0).trans (by simp)
    have s0:=KR6.out.frozen 0
    have r1:w6.cell? ⟨w.heap.size+1,1,none⟩=some (.int .i64 0):=(KR6.out.cell 1).trans (by simp)
    have s1:=KR6.out.frozen 1
    have r2:w6.cell? ⟨w.heap.size+1,2,none⟩=some (.slice none 0 0):=(KR6.out.cell 2).trans (by simp)
    have s2:=KR6.out.frozen 2
    have rlt:=KR6.out.lt
    go_wp2
    clear e0 f0 e1 f1 e2 f2 elt
    clear r0 s0 r1 s1 r2 s2 rlt
    refine bodyPost_ret (zA2 rfl _ _ (w.heap.size+1) 47 #[a.c,a.n,.slice vA a.ks.length vcap] (0,0) _ rfl (KR6.out.three _ _ _) Tryz.underlying47 rfl rfl) rfl ?_
    have hfr:=HO6.out.under_any3
    have hne:∀ b∈(if a.ks=[] then [] else rowOf (.slice vA a.ks.length vcap) ++ F2),b≠w.heap.size+1:=fun b hb e=>by
     by_cases hx:a.ks=[]
     ·rw [if_pos hx] at hb;cases hb
     ·rw [if_neg hx] at hb
      rcases List.mem_append.1 hb with hb | hb
      ·have:=(HO6.out.row b hb).1;omega
      ·exact (HFG.out b hb).2.1 e
    have hkp:Kept (if a.ks=[] then [] else rowOf (.slice vA a.ks.length vcap) ++ F2) w6 (((w6.setCell ⟨w.heap.size+1,0,none⟩ (.int .i64 a.c)).setCell ⟨w.heap.size+1,1,none⟩ (.int .i64 a.n)).setCell ⟨w.heap.size+1,2,none⟩ (.slice vA a.ks.length vcap)):=zBE hne _ _ _
    refine ⟨⟨a.c,a.n,a.ks⟩,[a.c,a.n,.slice vA a.ks.length vcap],_,p+1,rfl,(zAF _ _ _).2 ⟨_,rfl,ArrV.mono HO6.out.arr hkp⟩,(fun b hb=>?_),(by rw [zAN,zAN];show 2*(1+V.sizes a.ks)≤2*(1+V.sizes a.ks)+(p+1-p)+1;omega),rdb_three HR6.out (by omega) _ _ _,by omega,by omega,HUP.out,chg_three HC6.out (by omega) _ _ _⟩
    rw [zBG]
    refine ⟨hfr b hb,?_⟩
    by_cases hx:a.ks=[]
    ·rw [if_pos hx] at hb;cases hb
    ·rw [if_neg hx] at hb
     rcases List.mem_append.1 hb with hb | hb
     ·have:=(HO6.out.row b hb).1;exact ⟨by omega,.inr (by omega)⟩
     ·exact ⟨(HFG.out b hb).1,(HFG.out b hb).2.2⟩
   ·obtain ⟨k0,ks0,hk0⟩:=List.exists_cons_of_ne_nil hk
    have hpos:0<a.ks.length:=by rw [hk0];simp
    have hHd:=HO6.out
    rw [hk0] at hHd
    have hnk:nodes a=1+(nodes k0+V.sizes ks0):=by rw [zAN,hk0];rfl
    have hgx:∃ g4,vA=some ⟨g4,0,none⟩:=by
     obtain ⟨g4,C4,h,-⟩:=hHd.cell0V
     exact ⟨g4,h⟩
    obtain ⟨g4,rfl⟩:=hgx
    have hg4:=HO6.out.row g4 (by rw [zA3];exact List.mem_singleton.2 rfl)
    have hDg:D≠g4:=fun e=>HDR.out (by rw [zA3,e];exact List.mem_singleton.2 rfl)
    obtain ⟨A1,cap1,G1,x0,x1,x2,hv1,hG1⟩:=hHd.head_at
    have HG1:Hid (∀ b∈G1,b∈F2):=hG1
    have HAP:Hid (g4∉F2):=HO6.out.apart g4 (by rw [zA3];exact List.mem_singleton.2 rfl)
    have HV1:=jj hv1
    have HNK:=jj hnk
    have hlen:(k0 :: ks0).length=a.ks.length:=by rw [hk0]
    have HHD:Hid (Own w6 (w.heap.size+2) 47 3 VR (k0 :: ks0) (.slice (some ⟨g4,0,none⟩) a.ks.length vcap) F2):=by
     rw [hlen] at hHd
     exact hHd
    have hq0:(0:Int)<(a.ks.length:Int):=by omega
    have HG1U:Hid (Under w6 G1):=fun b hb=>HO6.out.under b (hG1 b hb)
    have e2:w6.cell? ⟨D,2,none⟩=some (.slice (some ⟨g4,0,none⟩) a.ks.length vcap):=(KD6.out.cell 2).trans (by simp)
    have f2:=KD6.out.frozen 2
    have elt:=KD6.out.lt
    have HX0:=jj x0
    have HX1:=jj x1
    have HX2:=jj x2
    clear hv1 hG1 hnk hk0 hHd x0 x1 x2 hk hlen
    go_wp2_with fail
    clear e2 f2 elt
    have hDl:=KD6.out.lt
    have hng:g4≠g:=by omega
    have hnD:D≠g:=by omega
    have HS:Hid (∀ C:World,Chg [g,g4] w6 C→(C.cell? ⟨D,2,none⟩=some (.slice (some ⟨g4,0,none⟩) a.ks.length vcap))):=fun C hC=>(hC.cell hDl (by simp;omega)).trans ((KD6.out.cell 2).trans (by simp))
    have hC0:Chg [g] w6 w6.drew:=(Chg.refl _ _).drew
    have HRd:Hid (RdB w6.drew g bs (p+1)):=HR6.out.keep (fun b hb=>rfl)
    have HVd:Hid (VR w6.drew k0 [k0.c,k0.n,.slice A1 k0.ks.length cap1] G1):=VR.drew HV1.out
    have HGd:Hid (Under w6.drew.heap.size G1):=HG1U.out
    refine zA5 (S:=fun w'=>w'.cell? ⟨D,2,none⟩=some (.slice (some ⟨g4,0,none⟩) a.ks.length vcap)) (T:=fun _=>True) (d:=99) (by kernel_rfl) ?_
    obtain ⟨wd,hwd⟩:∃ X,X=w6.drew:=⟨_,rfl⟩
    have hzd:wd.heap.size=w6.heap.size:=by rw [hwd];rfl
    rw [←hwd] at hC0 HRd HVd HGd ⊢
    clear hwd
    have hS0:=HS.out _ (hC0.mono (by simp))
    have hT0:True:=trivial
    refine wV 0 rfl hS0 hT0 ?_
    (try simp only [zz])
    refine wV 1 rfl hS0 hT0 ?_
    (try simp only [zz])
    refine wV 2 rfl hS0 hT0 ?_
    (try simp only [zz])
    refine wV 3 rfl hS0 hT0 ?_
    (try simp only [zz])
    refine wV 4 rfl hS0 hT0 ?_
    (try simp only [zz])
    refine wV 5 rfl hS0 hT0 ?_
    (try simp only [zz])
    refine wV 6 rfl hS0 hT0 ?_
    (try simp only [zz])
    refine w1 7 rfl fun K hK=>?_
    have x0:=(hC0.cell hg4.2 (by rw [zy1];omega)).trans HX0.out
    have x1:=(hC0.cell hg4.2 (by rw [zy1];omega)).trans HX1.out
    have x2:=(hC0.cell hg4.2 (by rw [zy1];omega)).trans HX2.out
    go_simp
    (try dsimp only)
    refine hK.out _ _ (HS.out _ (hC0.mono (by simp))) (fun _=>trivial) ?_
    clear hK K
    (try simp only [zz])
    clear x0 x1 x2
    refine w1 8 rfl fun K hK=>?_
    go_simp
    go_at_call 57
    refine (IH.out k0 wd (p+1) g HRd.out (by omega) (by omega) (by have:=HP3.out;omega) (by have:=HNK.out;omega) _ G1 HVd.out HGd.out (fun b hb=>(HFG.out b (HG1.out b hb)).1)).mono ?_
    rintro e C1 ⟨b1,cs1,Fb1,q1,rfl,hv1,hf1,hn1,hr1,hl1,hm1,ho1,hc1⟩
    obtain ⟨kv1,rfl,ha1⟩:=(zAF _ _ _).1 hv1
    obtain ⟨yA,ycap,rfl,-,-⟩:=ha1.form
    have hC1:Chg [g] w6 C1:=hC0.trans hc1
    have HV1':=jj hv1
    have HR1:=jj hr1
    have HF1:=jj hf1
    have hz1:=hc1.size
    have hp1:pot bs q1≤pot bs p:=by have:=HP3.out;omega
    clear hv1 hr1 hf1 ha1 hc1 HRd HVd HGd
    (try dsimp only)
    refine hK.out _ _ (HS.out _ (hC1.mono (by simp))) (fun _=>trivial) ?_
    clear hK K
    (try simp only [zz])
    refine w1 9 rfl fun K hK=>?_
    go_simp
    go_at_call 57
    refine (IH.out b1 C1 q1 g HR1.out (by omega) (by omega) (by omega) (by have:=HNK.out;omega) _ Fb1 HV1'.out (fun b hb=>(HF1.out b hb).1) (fun b hb=>(HF1.out b hb).2.1)).mono ?_
    rintro e C2 ⟨b2,cs2,Fb2,q2,rfl,hv2,hf2,hn2,hr2,hl2,hm2,ho2,hc2⟩
    obtain ⟨kv2,rfl,ha2⟩:=(zAF _ _ _).1 hv2
    obtain ⟨bA,bcap,rfl,-,-⟩:=ha2.form
    have hC2:Chg [g] w6 C2:=hC1.trans hc2
    have hz2:=hc2.size
    have HF2:Hid (∀ x∈Fb2,x<C2.heap.size∧x≠g∧(x∈F2∨w6.heap.size≤x)):=fun x hx=>⟨(hf2 x hx).1,(hf2 x hx).2.1,by
     rcases (hf2 x hx).2.2 with h | h
     ·rcases (HF1.out x h).2.2 with h' | h'
      ·exact .inl (HG1.out x h')
      ·exact .inr (by omega)
     ·exact .inr (by omega)⟩
    have KD7:Hid (Blk C2 D 47 #[a.c,a.n,.slice (some ⟨g4,0,none⟩) a.ks.length vcap]):=KD6.out.same (hC2.block _ hDl (by rw [zy1];omega))
    have KR7:Hid (Blk C2 (w.heap.size+1) 47 #[(0:Int),(0:Int),.slice none 0 0]):=KR6.out.same (hC2.block _ KR6.out.lt (by rw [zy1];omega))
    have hO7:Own C2 (w.heap.size+2) 47 3 VR (k0 :: ks0) (.slice (some ⟨g4,0,none⟩) a.ks.length vcap) F2:=HHD.out.deeperV (fun x cs G hk h=>VR_mono' _ _ x cs G hk h) hC2 (fun b hb h=>by rw [zy1] at h;rw [zA3,zy1] at hb;omega) (fun b hb h=>by rw [zy1] at h;exact (HFG.out b hb).1 h)
    obtain ⟨F4,hF4,hO4⟩:=hO7.headV [b2.c,b2.n,.slice bA b2.ks.length bcap] rfl Fb2 b2 hv2 (fun b hb=>(HF2.out b hb).1) (fun h=>by
     rcases (HF2.out _ h).2.2 with h' | h'
     ·exact HAP.out h'
     ·omega)
    obtain ⟨g4',C4,hcc,hge4,hB4,hs4⟩:=hO7.cell0V
    cases hcc
    have HO4:Hid (Own (((C2.setCell ⟨g4,0,none⟩ (.int .i64 b2.c)).setCell ⟨g4,1,none⟩ (.int .i64 b2.n)).setCell ⟨g4,2,none⟩ (.slice bA b2.ks.length bcap)) (w.heap.size+2) 47 3 VR (b2 :: ks0) (.slice (some ⟨g4,0,none⟩) a.ks.length vcap) F4):=hO4
    have HF4:Hid (∀ b∈F4,b≠g∧b≠w.heap.size+1∧(b∈G∨w.heap.size≤b)):=fun b hb=>by
     rcases hF4 b hb with h | h
     ·exact HFG.out b h
     ·refine ⟨(HF2.out b h).2.1,?_⟩
      rcases (HF2.out b h).2.2 with h' | h'
      ·exact (HFG.out b h').2
      ·exact ⟨by omega,.inr (by omega)⟩
    have KD8:Hid (Blk (((C2.setCell ⟨g4,0,none⟩ (.int .i64 b2.c)).setCell ⟨g4,1,none⟩ (.int .i64 b2.n)).setCell ⟨g4,2,none⟩ (.slice bA b2.ks.length bcap)) D 47 #[a.c,a.n,.slice (some ⟨g4,0,none⟩) a.ks.length vcap]):=((KD7.out.same (zz7 _ _ _ _ (by show D≠g4;omega))).same (zz7 _ _ _ _ (by show D≠g4;omega))).same (zz7 _ _ _ _ (by show D≠g4;omega))
    have KR8:Hid (Blk (((C2.setCell ⟨g4,0,none⟩ (.int .i64 b2.c)).setCell ⟨g4,1,none⟩ (.int .i64 b2.n)).setCell ⟨g4,2,none⟩ (.slice bA b2.ks.length bcap)) (w.heap.size+1) 47 #[(0:Int),(0:Int),.slice none 0 0]):=((KR7.out.same (zz7 _ _ _ _ (by show w.heap.size+1≠g4;omega))).same (zz7 _ _ _ _ (by show w.heap.size+1≠g4;omega))).same (zz7 _ _ _ _ (by show w.heap.size+1≠g4;omega))
    have HC8:Hid (Chg [g] w (((C2.setCell ⟨g4,0,none⟩ (.int .i64 b2.c)).setCell ⟨g4,1,none⟩ (.int .i64 b2.n)).setCell ⟨g4,2,none⟩ (.slice bA b2.ks.length bcap))):=((((HC6.out.trans hC2).set_new (by omega)).set_new (by omega)).set_new (by omega))
    have hC8:Chg [g,g4] w6 (((C2.setCell ⟨g4,0,none⟩ (.int .i64 b2.c)).setCell ⟨g4,1,none⟩ (.int .i64 b2.n)).setCell ⟨g4,2,none⟩ (.slice bA b2.ks.length bcap)):=((((hC2.mono (by simp)).set (by simp)).set (by simp)).set (by simp))
    have HR8:Hid (RdB (((C2.setCell ⟨g4,0,none⟩ (.int .i64 b2.c)).setCell ⟨g4,1,none⟩ (.int .i64 b2.n)).setCell ⟨g4,2,none⟩ (.slice bA b2.ks.length bcap)) g bs q2):=((hr2.keep fun b hb=>zz7 _ _ _ _ (by show b≠g4;omega)).keep fun b hb=>zz7 _ _ _ _ (by show b≠g4;omega)).keep fun b hb=>zz7 _ _ _ _ (by show b≠g4;omega)
    have HSZ:Hid (2*(1+V.sizes (b2 :: ks0))≤2*nodes a+(q2-p)+1):=by
     have h1:=HNK.out
     have h2:V.sizes (b2 :: ks0)=nodes b2+V.sizes ks0:=rfl
     unfold Hid
     omega
    have HPT:Hid (pot bs q2≤pot bs p+2):=by unfold Hid;omega
    have hpq:p<q2:=by omega
    have hx0:∃ u,C2.cell? ⟨g4,0,none⟩=some u:=⟨C4[0],by rw [hB4.cell,Array.getElem?_eq_getElem (by omega)]⟩
    have hx1:∃ u,C2.cell? ⟨g4,1,none⟩=some u:=⟨C4[1],by rw [hB4.cell,Array.getElem?_eq_getElem (by omega)]⟩
    have hx2:∃ u,C2.cell? ⟨g4,2,none⟩=some u:=⟨C4[2],by rw [hB4.cell,Array.getElem?_eq_getElem (by omega)]⟩
    obtain ⟨u0,x0⟩:=hx0
    obtain ⟨u1,x1⟩:=hx1
    obtain ⟨u2,x2⟩:=hx2
    have z0:=hB4.frozen 0
    have z1:=hB4.frozen 1
    have z2:=hB4.frozen 2
    have xlt:=hB4.lt
    clear hO7 hO4 hF4 hB4 hs4 hge4 hv2 hf2 hn2 hr2 ha2 hc2 ho2
    (try dsimp only)
    refine hK.out _ _ (HS.out _ (hC2.mono (by simp))) (fun _=>trivial) ?_
    clear hK K
    (try simp only [zz])
    have hS2:=HS.out _ (hC2.mono (by simp))
    refine wV 10 rfl hS2 hT0 ?_
    (try simp only [zz])
    refine w1 11 rfl fun K hK=>?_
    go_simp
    (try dsimp only)
    refine hK.out _ _ (HS.out _ hC8) (fun _=>trivial) ?_
    clear hK K
    (try simp only [zz])
    refine wE (by kernel_rfl) ?_
    clear x0 x1 x2 z0 z1 z2 xlt hC8 hS0 hT0 hS2
    obtain ⟨w10,hw10⟩:∃ X,X=(((C2.setCell ⟨g4,0,none⟩ (.int .i64 b2.c)).setCell ⟨g4,1,none⟩ (.int .i64 b2.n)).setCell ⟨g4,2,none⟩ (.slice bA b2.ks.length bcap)):=⟨_,rfl⟩
    rw [←hw10] at KD8 KR8 HC8 HR8 HO4 ⊢
    have h10:C2.heap.size=w10.heap.size:=by rw [hw10];simp [World.setCell]
    clear hw10
    obtain ⟨e0,e1,e2,elt,f0,f1,f2⟩:=KD8.out.q3
    have r0:w10.cell? ⟨w.heap.size+1,0,none⟩=some (.int .i64 0):=(KR8.out.cell 0).trans (by simp)
    have s0:=KR8.out.frozen 0
    have r1:w10.cell? ⟨w.heap.size+1,1,none⟩=some (.int .i64 0):=(KR8.out.cell 1).trans (by simp)
    have s1:=KR8.out.frozen 1
    have r2:w10.cell? ⟨w.heap.size+1,2,none⟩=some (.slice none 0 0):=(KR8.out.cell 2).trans (by simp)
    have s2:=KR8.out.frozen 2
    have rlt:=KR8.out.lt
    go_wp2
    clear e0 f0 e1 f1 e2 f2 elt
    clear r0 s0 r1 s1 r2 s2 rlt
    refine bodyPost_ret (zA2 rfl _ _ (w.heap.size+1) 47 #[a.c,a.n,.slice (some ⟨g4,0,none⟩) a.ks.length vcap] (0,0) _ rfl (KR8.out.three _ _ _) Tryz.underlying47 rfl rfl) rfl ?_
    have hfr:=HO4.out.under_any3
    have hne:∀ b∈(if (b2 :: ks0)=[] then [] else rowOf (.slice (some ⟨g4,0,none⟩) a.ks.length vcap) ++ F4),b≠w.heap.size+1:=fun b hb e=>by
     by_cases hx:(b2 :: ks0)=[]
     ·rw [if_pos hx] at hb;cases hb
     ·rw [if_neg hx] at hb
      rcases List.mem_append.1 hb with hb | hb
      ·have:=(HO4.out.row b hb).1;omega
      ·exact (HF4.out b hb).2.1 e
    have hkp:Kept (if (b2 :: ks0)=[] then [] else rowOf (.slice (some ⟨g4,0,none⟩) a.ks.length vcap) ++ F4) w10 (((w10.setCell ⟨w.heap.size+1,0,none⟩ (.int .i64 a.c)).setCell ⟨w.heap.size+1,1,none⟩ (.int .i64 a.n)).setCell ⟨w.heap.size+1,2,none⟩ (.slice (some ⟨g4,0,none⟩) a.ks.length vcap)):=zBE hne _ _ _
    refine ⟨⟨a.c,a.n,b2 :: ks0⟩,[a.c,a.n,.slice (some ⟨g4,0,none⟩) a.ks.length vcap],_,q2,rfl,(zAF _ _ _).2 ⟨_,rfl,ArrV.mono HO4.out.arr hkp⟩,(fun b hb=>?_),HSZ.out,rdb_three HR8.out (by omega) _ _ _,by omega,by omega,HPT.out,chg_three HC8.out (by omega) _ _ _⟩
    rw [zBG]
    refine ⟨hfr b hb,?_⟩
    by_cases hx:(b2 :: ks0)=[]
    ·rw [if_pos hx] at hb;cases hb
    ·rw [if_neg hx] at hb
     rcases List.mem_append.1 hb with hb | hb
     ·have:=(HO4.out.row b hb).1;exact ⟨by omega,.inr (by omega)⟩
     ·exact ⟨(HF4.out b hb).1,(HF4.out b hb).2.2⟩
  clear hpk hp3
  have q0:((r:Int)==0)=false:=by rw [beq_eq_false_iff_ne];omega
  have q1:((r:Int)==1)=false:=by rw [beq_eq_false_iff_ne];omega
  have q2:((r:Int)==2)=false:=by rw [beq_eq_false_iff_ne];omega
  have q3:((r:Int)==3)=false:=by rw [beq_eq_false_iff_ne];omega
  obtain ⟨e0,e1,e2,elt,f0,f1,f2⟩:=KD6.out.q3
  have r0:w6.cell? ⟨w.heap.size+1,0,none⟩=some (.int .i64 0):=(KR6.out.cell 0).trans (by simp)
  have s0:=KR6.out.frozen 0
  have r1:w6.cell? ⟨w.heap.size+1,1,none⟩=some (.int .i64 0):=(KR6.out.cell 1).trans (by simp)
  have s1:=KR6.out.frozen 1
  have r2:w6.cell? ⟨w.heap.size+1,2,none⟩=some (.slice none 0 0):=(KR6.out.cell 2).trans (by simp)
  have s2:=KR6.out.frozen 2
  have rlt:=KR6.out.lt
  go_wp2
  clear e0 f0 e1 f1 e2 f2 elt
  clear r0 s0 r1 s1 r2 s2 rlt
  refine bodyPost_ret (zA2 rfl _ _ (w.heap.size+1) 47 #[a.c,a.n,.slice vA a.ks.length vcap] (0,0) _ rfl (KR6.out.three _ _ _) Tryz.underlying47 rfl rfl) rfl ?_
  have hfr:=HO6.out.under_any3
  have hne:∀ b∈(if a.ks=[] then [] else rowOf (.slice vA a.ks.length vcap) ++ F2),b≠w.heap.size+1:=fun b hb e=>by
   by_cases hx:a.ks=[]
   ·rw [if_pos hx] at hb;cases hb
   ·rw [if_neg hx] at hb
    rcases List.mem_append.1 hb with hb | hb
    ·have:=(HO6.out.row b hb).1;omega
    ·exact (HFG.out b hb).2.1 e
  have hkp:Kept (if a.ks=[] then [] else rowOf (.slice vA a.ks.length vcap) ++ F2) w6 (((w6.setCell ⟨w.heap.size+1,0,none⟩ (.int .i64 a.c)).setCell ⟨w.heap.size+1,1,none⟩ (.int .i64 a.n)).setCell ⟨w.heap.size+1,2,none⟩ (.slice vA a.ks.length vcap)):=zBE hne _ _ _
  refine ⟨⟨a.c,a.n,a.ks⟩,[a.c,a.n,.slice vA a.ks.length vcap],_,p+1,rfl,(zAF _ _ _).2 ⟨_,rfl,ArrV.mono HO6.out.arr hkp⟩,(fun b hb=>?_),(by rw [zAN,zAN];show 2*(1+V.sizes a.ks)≤2*(1+V.sizes a.ks)+(p+1-p)+1;omega),rdb_three HR6.out (by omega) _ _ _,by omega,by omega,HUP.out,chg_three HC6.out (by omega) _ _ _⟩
  rw [zBG]
  refine ⟨hfr b hb,?_⟩
  by_cases hx:a.ks=[]
  ·rw [if_pos hx] at hb;cases hb
  ·rw [if_neg hx] at hb
   rcases List.mem_append.1 hb with hb | hb
   ·have:=(HO6.out.row b hb).1;exact ⟨by omega,.inr (by omega)⟩
   ·exact ⟨(HFG.out b hb).1,(HFG.out b hb).2.2⟩
theorem spec_l2Mutate_all (bs:List Int) (B:Nat) (hB:B≤1100000):∀ f,MutF bs B f
 |0=>by
  intro a w p g hr hf hp hpot
  have:=pot_lt hp hpot
  omega
 |f+1=>spec_l2Mutate_step bs B f hB (spec_l2Mutate_all bs B hB f)
def DrewWTPV (w:World) (e:Ending) (w':World):Prop:=∃ (xs:List Dt) (v:Value) (F:List Nat) (t:Ty) (b:P) (qA:Option Addr) (qcap:Nat) (Fb:List Nat) (u:V) (uA:Option Addr) (ucap:Nat) (Fu:List Nat),e=.returned (.tuple #[v,.agg #[t.d,t.i],.agg #[b.op,b.ct,b.n,b.m,b.va,.slice qA b.ks.length qcap],.agg #[u.c,u.n,.slice uA u.ks.length ucap]])∧Below w w w'∧TypedOk xs t∧Arr w' (DtR w') xs v F∧Fresh w w' F∧PR w' b [b.op,b.ct,b.n,b.m,b.va,.slice qA b.ks.length qcap] Fb∧Fresh w w' Fb∧nodesP b≤2000∧VR w' u [u.c,u.n,.slice uA u.ks.length ucap] Fu∧Fresh w w' Fu∧nodes u≤600000
set_option maxHeartbeats 8000000 in
theorem spec_DrawMatchPattern (bs:List Int) (w:World) (v:Value) (F:List Nat) (hx:Arr w (ByR w) bs v F) (hf:Under w F) :
  Calls Tryz.prog 26 #[v] w (DrewWTPV w):=by
 have hB2:Below w w (((w.alloc (.cells #[(0:Int),(0:Int)] 39)).alloc (.cells #[(0:Int),(0:Int),(0:Int),(0:Int),(0:Int),.slice none 0 0] 43)).alloc (.cells #[(0:Int),(0:Int),.slice none 0 0] 47)):=(((zy2 _ _).alloc (zz8 _) _).alloc (by simp) _).alloc (by simp;omega) _
 have K32:Hid (Blk (((w.alloc (.cells #[(0:Int),(0:Int)] 39)).alloc (.cells #[(0:Int),(0:Int),(0:Int),(0:Int),(0:Int),.slice none 0 0] 43)).alloc (.cells #[(0:Int),(0:Int),.slice none 0 0] 47)) (w.heap.size) 39 #[(0:Int),(0:Int)]):=((Blk.new w _ _).same (Below.heap_alloc _ _ _ (by simp))).same (Below.heap_alloc _ _ _ (by simp;omega))
 have K42:Hid (Blk (((w.alloc (.cells #[(0:Int),(0:Int)] 39)).alloc (.cells #[(0:Int),(0:Int),(0:Int),(0:Int),(0:Int),.slice none 0 0] 43)).alloc (.cells #[(0:Int),(0:Int),.slice none 0 0] 47)) (w.heap.size+1) 43 #[(0:Int),(0:Int),(0:Int),(0:Int),(0:Int),.slice none 0 0]):=(zA9 w _ 43 _).same (Below.heap_alloc _ _ _ (by simp))
 have K52:Hid (Blk (((w.alloc (.cells #[(0:Int),(0:Int)] 39)).alloc (.cells #[(0:Int),(0:Int),(0:Int),(0:Int),(0:Int),.slice none 0 0] 43)).alloc (.cells #[(0:Int),(0:Int),.slice none 0 0] 47)) (w.heap.size+2) 47 #[(0:Int),(0:Int),.slice none 0 0]):=by
  have h:=zA9 (w.alloc (.cells #[(0:Int),(0:Int)] 39)) (.cells #[(0:Int),(0:Int),(0:Int),(0:Int),(0:Int),.slice none 0 0] 43) 47 #[(0:Int),(0:Int),.slice none 0 0]
  rw [World.size_alloc] at h
  exact h
 have hs2:((((w.alloc (.cells #[(0:Int),(0:Int)] 39)).alloc (.cells #[(0:Int),(0:Int),(0:Int),(0:Int),(0:Int),.slice none 0 0] 43)).alloc (.cells #[(0:Int),(0:Int),.slice none 0 0] 47))).heap.size=w.heap.size+3:=by simp
 have HX2:Hid (Arr (((w.alloc (.cells #[(0:Int),(0:Int)] 39)).alloc (.cells #[(0:Int),(0:Int),(0:Int),(0:Int),(0:Int),.slice none 0 0] 43)).alloc (.cells #[(0:Int),(0:Int),.slice none 0 0] 47)) (ByR (((w.alloc (.cells #[(0:Int),(0:Int)] 39)).alloc (.cells #[(0:Int),(0:Int),(0:Int),(0:Int),(0:Int),.slice none 0 0] 43)).alloc (.cells #[(0:Int),(0:Int),.slice none 0 0] 47))) bs v F):=ArrBy.mono hx (.of_below hB2 hf)
 have HU2:Hid (Under ((((w.alloc (.cells #[(0:Int),(0:Int)] 39)).alloc (.cells #[(0:Int),(0:Int),(0:Int),(0:Int),(0:Int),.slice none 0 0] 43)).alloc (.cells #[(0:Int),(0:Int),.slice none 0 0] 47))).heap.size F):=hf.mono hB2.size
 clear hx hf
 go_enter Tryz.func26,Tryz.ntmps26
 go_wp2_with fail
 obtain ⟨w2,hw2⟩:∃ X,X=(((w.alloc (.cells #[(0:Int),(0:Int)] 39)).alloc (.cells #[(0:Int),(0:Int),(0:Int),(0:Int),(0:Int),.slice none 0 0] 43)).alloc (.cells #[(0:Int),(0:Int),.slice none 0 0] 47)):=⟨_,rfl⟩
 rw [←hw2] at hB2 K32 K42 K52 hs2 HX2 HU2 ⊢
 clear hw2
 refine (spec_l17Open bs w2 v F HX2.out HU2.out).mono ?_
 rintro e w3 ⟨g,rfl,hge,hb3,hR3⟩
 have HR3:=jj hR3
 have hg3:g<w3.heap.size:=hR3.lt
 have hB3:Below w w w3:=hB2.trans (hb3.mono hB2.size)
 have K33:=jj (K32.out.same (hb3.block _ K32.out.lt))
 have K43:=jj (K42.out.same (hb3.block _ K42.out.lt))
 have K53:=jj (K52.out.same (hb3.block _ K52.out.lt))
 clear hR3 hb3 K32 K42 K52 HX2 HU2 hB2
 go_wp2_with fail
 refine (spec_l3TypedV 0 g w3 HR3.out (by omega)).mono ?_
 rintro e w4 ⟨xs,v4,FW,t,a,csa,Fa,va,vA,vcap,q4,Fv,rfl,htok,ha4,hfs4,hp4,hf4,hn4,hr4,hq4,hc4,hv4,hfv4,hnv4⟩
 obtain ⟨kva,rfl,haa⟩:=(zA8 _ _ _).1 hp4
 obtain ⟨pA,pcap,rfl,-,-⟩:=haa.form
 obtain ⟨A1,cap1,rfl,-,-⟩:=ha4.form
 have hz4:=hc4.size
 have hB4:Below w w w4:=hB3.trans (hc4.below (fun b hb=>by rw [zy1] at hb;omega) hB3.size)
 have K34:=jj (K33.out.same (hc4.block _ K33.out.lt (by rw [zy1];omega)))
 have K44:=jj (K43.out.same (hc4.block _ K43.out.lt (by rw [zy1];omega)))
 have K54:=jj (K53.out.same (hc4.block _ K53.out.lt (by rw [zy1];omega)))
 have HTOK:=jj htok
 have HFW:Hid (∀ b∈FW,w3.heap.size≤b):=fun b hb=>(hfs4 b hb).1
 have HFA:Hid (∀ b∈Fa,w3.heap.size≤b∧b≠g):=fun b hb=>⟨(hf4 b hb).2.2,(hf4 b hb).2.1⟩
 have HFV:Hid (∀ b∈Fv,w3.heap.size≤b∧b≠g):=fun b hb=>⟨(hfv4 b hb).2.2,(hfv4 b hb).2.1⟩
 have hna:nodesP a≤512:=hn4
 have hnv:nodes va≤256:=hnv4
 have hb5:Below w4 w4 (((w4.alloc (.cells #[t.d,t.i] 39)).alloc (.cells #[a.op,a.ct,a.n,a.m,a.va,.slice pA a.ks.length pcap] 43)).alloc (.cells #[va.c,va.n,.slice vA va.ks.length vcap] 47)):=(((zy2 _ _).alloc (zz8 _) _).alloc (by simp) _).alloc (by simp;omega) _
 have KB5:Hid (Blk (((w4.alloc (.cells #[t.d,t.i] 39)).alloc (.cells #[a.op,a.ct,a.n,a.m,a.va,.slice pA a.ks.length pcap] 43)).alloc (.cells #[va.c,va.n,.slice vA va.ks.length vcap] 47)) w4.heap.size 39 #[t.d,t.i]):=((Blk.new w4 _ _).same (Below.heap_alloc _ _ _ (by simp))).same (Below.heap_alloc _ _ _ (by simp;omega))
 have KC5:Hid (Blk (((w4.alloc (.cells #[t.d,t.i] 39)).alloc (.cells #[a.op,a.ct,a.n,a.m,a.va,.slice pA a.ks.length pcap] 43)).alloc (.cells #[va.c,va.n,.slice vA va.ks.length vcap] 47)) (w4.heap.size+1) 43 #[a.op,a.ct,a.n,a.m,a.va,.slice pA a.ks.length pcap]):=(zA9 w4 _ 43 _).same (Below.heap_alloc _ _ _ (by simp))
 have KD5:Hid (Blk (((w4.alloc (.cells #[t.d,t.i] 39)).alloc (.cells #[a.op,a.ct,a.n,a.m,a.va,.slice pA a.ks.length pcap] 43)).alloc (.cells #[va.c,va.n,.slice vA va.ks.length vcap] 47)) (w4.heap.size+2) 47 #[va.c,va.n,.slice vA va.ks.length vcap]):=by
  have h:=zA9 (w4.alloc (.cells #[t.d,t.i] 39)) (.cells #[a.op,a.ct,a.n,a.m,a.va,.slice pA a.ks.length pcap] 43) 47 #[va.c,va.n,.slice vA va.ks.length vcap]
  rw [World.size_alloc] at h
  exact h
 have HA5:=jj (ArrDt.below ha4 hb5 (Fresh.under hfs4))
 have HUW5:Hid (Under ((((w4.alloc (.cells #[t.d,t.i] 39)).alloc (.cells #[a.op,a.ct,a.n,a.m,a.va,.slice pA a.ks.length pcap] 43)).alloc (.cells #[va.c,va.n,.slice vA va.ks.length vcap] 47))).heap.size FW):=(Fresh.under hfs4).mono hb5.size
 have HP5:=jj (PR.below hp4 hb5 (fun b hb=>(hf4 b hb).1))
 have HUa5:Hid (Under ((((w4.alloc (.cells #[t.d,t.i] 39)).alloc (.cells #[a.op,a.ct,a.n,a.m,a.va,.slice pA a.ks.length pcap] 43)).alloc (.cells #[va.c,va.n,.slice vA va.ks.length vcap] 47))).heap.size Fa):=fun b hb=>zz9 (hf4 b hb).1 hb5.size
 have HV5:=jj (VR.below hv4 hb5 (fun b hb=>(hfv4 b hb).1))
 have HUv5:Hid (Under ((((w4.alloc (.cells #[t.d,t.i] 39)).alloc (.cells #[a.op,a.ct,a.n,a.m,a.va,.slice pA a.ks.length pcap] 43)).alloc (.cells #[va.c,va.n,.slice vA va.ks.length vcap] 47))).heap.size Fv):=fun b hb=>zz9 (hfv4 b hb).1 hb5.size
 have HR5:=jj (hr4.below hb5)
 have HB5:Hid (Below w w (((w4.alloc (.cells #[t.d,t.i] 39)).alloc (.cells #[a.op,a.ct,a.n,a.m,a.va,.slice pA a.ks.length pcap] 43)).alloc (.cells #[va.c,va.n,.slice vA va.ks.length vcap] 47))):=hB4.trans (hb5.mono hB4.size)
 have K35:=jj (K34.out.same (hb5.block _ K34.out.lt))
 have K45:=jj (K44.out.same (hb5.block _ K44.out.lt))
 have K55:=jj (K54.out.same (hb5.block _ K54.out.lt))
 have hwg:w.heap.size+3≤g:=by omega
 clear htok ha4 hfs4 hp4 hf4 hn4 hr4 hc4 haa hb5 hv4 hfv4 hnv4 K33 K43 K53 K34 K44 K54 HR3 hB3 hB4
 go_wp2_with fail
 obtain ⟨wb,hwb⟩:∃ X,X=(((w4.alloc (.cells #[t.d,t.i] 39)).alloc (.cells #[a.op,a.ct,a.n,a.m,a.va,.slice pA a.ks.length pcap] 43)).alloc (.cells #[va.c,va.n,.slice vA va.ks.length vcap] 47)):=⟨_,rfl⟩
 rw [←hwb] at KB5 KC5 KD5 HA5 HUW5 HP5 HUa5 HV5 HUv5 HR5 HB5 K35 K45 K55 ⊢
 clear hwb
 obtain ⟨k,hk⟩:∃ X,X=w4.heap.size:=⟨_,rfl⟩
 obtain ⟨kp,hkp⟩:∃ X,X=k+1:=⟨_,rfl⟩
 obtain ⟨kv,hkv⟩:∃ X,X=kp+1:=⟨_,rfl⟩
 rw [←hk] at KB5 KC5 KD5 hz4 ⊢
 rw [←hkp] at KC5
 rw [show k+2=kp+1 by omega,←hkv] at KD5
 first | rw [←hkp] | skip
 first | rw [←hkv] | skip
 have KB:=KB5
 have KC:=KC5
 have KD:=KD5
 have hkn:g<k∧w.heap.size+3≤k∧k<kp∧kp<kv:=by omega
 obtain ⟨hk1,hk2,hk3,hk4⟩:=hkn
 have hkb:kv<wb.heap.size:=KD.out.lt
 clear hk hkp hkv KB5 KC5 KD5
 have HS:Hid (∀ C:World,Chg [g,w.heap.size,w.heap.size+1,w.heap.size+2] wb C→(C.cell? ⟨k,0,none⟩=t.d∧C.cell? ⟨k,1,none⟩=t.i∧C.cell? ⟨kp,0,none⟩=a.op∧C.cell? ⟨kp,1,none⟩=a.ct∧C.cell? ⟨kp,2,none⟩=a.n∧C.cell? ⟨kp,3,none⟩=a.m∧C.cell? ⟨kp,4,none⟩=a.va∧C.cell? ⟨kp,5,none⟩=some (.slice pA a.ks.length pcap)∧C.cell? ⟨kv,0,none⟩=va.c∧C.cell? ⟨kv,1,none⟩=va.n∧C.cell? ⟨kv,2,none⟩=some (.slice vA va.ks.length vcap))):=fun C hC=>⟨(hC.cell (p:=⟨k,0,none⟩) KB.out.lt (by simp;omega)).trans ((KB.out.cell 0).trans (by simp)),(hC.cell (p:=⟨k,1,none⟩) KB.out.lt (by simp;omega)).trans ((KB.out.cell 1).trans (by simp)),(hC.cell (p:=⟨kp,0,none⟩) KC.out.lt (by simp;omega)).trans ((KC.out.cell 0).trans (by simp)),(hC.cell (p:=⟨kp,1,none⟩) KC.out.lt (by simp;omega)).trans ((KC.out.cell 1).trans (by simp)),(hC.cell (p:=⟨kp,2,none⟩) KC.out.lt (by simp;omega)).trans ((KC.out.cell 2).trans (by simp)),(hC.cell (p:=⟨kp,3,none⟩) KC.out.lt (by simp;omega)).trans ((KC.out.cell 3).trans (by simp)),(hC.cell (p:=⟨kp,4,none⟩) KC.out.lt (by simp;omega)).trans ((KC.out.cell 4).trans (by simp)),(hC.cell (p:=⟨kp,5,none⟩) KC.out.lt (by simp;omega)).trans ((KC.out.cell 5).trans (by simp)),(hC.cell (p:=⟨kv,0,none⟩) KD.out.lt (by simp;omega)).trans ((KD.out.cell 0).trans (by simp)),(hC.cell (p:=⟨kv,1,none⟩) KD.out.lt (by simp;omega)).trans ((KD.out.cell 1).trans (by simp)),(hC.cell (p:=⟨kv,2,none⟩) KD.out.lt (by simp;omega)).trans ((KD.out.cell 2).trans (by simp))⟩
 have hC0:Chg [g,w.heap.size,w.heap.size+1,w.heap.size+2] wb wb.drew:=(Chg.refl _ _).drew
 have K3d:Hid (Blk wb.drew (w.heap.size) 39 #[(0:Int),(0:Int)]):=K35.out
 have K4d:Hid (Blk wb.drew (w.heap.size+1) 43 #[(0:Int),(0:Int),(0:Int),(0:Int),(0:Int),.slice none 0 0]):=K45.out
 have K5d:Hid (Blk wb.drew (w.heap.size+2) 47 #[(0:Int),(0:Int),.slice none 0 0]):=K55.out
 have HPd:Hid (PR wb.drew a [a.op,a.ct,a.n,a.m,a.va,.slice pA a.ks.length pcap] Fa):=PR.drew HP5.out
 have HUad:Hid (Under wb.drew.heap.size Fa):=HUa5.out
 have HVd:Hid (VR wb.drew va [va.c,va.n,.slice vA va.ks.length vcap] Fv):=VR.drew HV5.out
 have HUvd:Hid (Under wb.drew.heap.size Fv):=HUv5.out
 have HRd:Hid (Rd wb.drew g q4):=HR5.out.keep (fun b hb=>rfl)
 have HAd:Hid (Arr wb.drew (DtR wb.drew) xs (.slice A1 xs.length cap1) FW):=ArrDt.drew HA5.out
 have HUWd:Hid (Under wb.drew.heap.size FW):=HUW5.out
 clear K35 K45 K55 HP5 HUa5 HV5 HUv5 HR5 HA5 HUW5
 refine zA5 (S:=fun w'=>w'.cell? ⟨k,0,none⟩=t.d∧w'.cell? ⟨k,1,none⟩=t.i∧w'.cell? ⟨kp,0,none⟩=a.op∧w'.cell? ⟨kp,1,none⟩=a.ct∧w'.cell? ⟨kp,2,none⟩=a.n∧w'.cell? ⟨kp,3,none⟩=a.m∧w'.cell? ⟨kp,4,none⟩=a.va∧w'.cell? ⟨kp,5,none⟩=some (.slice pA a.ks.length pcap)∧w'.cell? ⟨kv,0,none⟩=va.c∧w'.cell? ⟨kv,1,none⟩=va.n∧w'.cell? ⟨kv,2,none⟩=some (.slice vA va.ks.length vcap)) (T:=fun _=>True) (d:=99) (by kernel_rfl) ?_
 obtain ⟨wd,hwd⟩:∃ X,X=wb.drew:=⟨_,rfl⟩
 have hzd:wb.heap.size≤wd.heap.size:=by rw [hwd];exact zz8 _
 rw [←hwd] at hC0 K3d K4d K5d HPd HUad HVd HUvd HRd HAd HUWd ⊢
 clear hwd
 have hS0:=HS.out _ hC0
 have hT0:True:=trivial
 refine wV 0 rfl hS0 hT0 ?_
 (try simp only [zz])
 refine wV 1 rfl hS0 hT0 ?_
 (try simp only [zz])
 refine wV 2 rfl hS0 hT0 ?_
 (try simp only [zz])
 refine wV 3 rfl hS0 hT0 ?_
 (try simp only [zz])
 refine wV 5 rfl hS0 hT0 ?_
 (try simp only [zz])
 refine wV 6 rfl hS0 hT0 ?_
 (try simp only [zz])
 refine w1 4 rfl fun K hK=>?_
 go_simp
 go_at_call 56
 refine (spec_l3Mutate a (by omega) wd q4 g HRd.out (by omega) _ Fa HPd.out HUad.out (fun b hb=>(HFA.out b hb).2)).mono ?_
 rintro e C1 ⟨b,cs1,Fb,q7,rfl,hp1,hf1,hn1,hr1,hq1,hc1⟩
 obtain ⟨kvb,rfl,hbb⟩:=(zA8 _ _ _).1 hp1
 obtain ⟨qA,qcap,rfl,-,-⟩:=hbb.form
 have hC1:Chg [g,w.heap.size,w.heap.size+1,w.heap.size+2] wb C1:=hC0.trans (hc1.mono (by simp))
 have K31:=jj (K3d.out.same (hc1.block _ K3d.out.lt (by rw [zy1];omega)))
 have K41:=jj (K4d.out.same (hc1.block _ K4d.out.lt (by rw [zy1];omega)))
 have K51:=jj (K5d.out.same (hc1.block _ K5d.out.lt (by rw [zy1];omega)))
 have HA1:=jj (ArrDt.mono HAd.out (hc1.kept HUWd.out (fun x hx h=>by rw [zy1] at h;have:=HFW.out x hx;omega)))
 have HUW1:Hid (Under C1 FW):=HUWd.out.mono hc1.size
 have HV1:=jj (VR.mono _ _ _ (hc1.kept HUvd.out (fun x hx h=>by rw [zy1] at h;exact (HFV.out x hx).2 h)) HVd.out)
 have HUv1:Hid (Under C1 Fv):=HUvd.out.mono hc1.size
 have HPB1:=jj hp1
 have HUB1:Hid (Under C1 Fb):=fun x hx=>(hf1 x hx).1
 have HFB:Hid (∀ x∈Fb,w3.heap.size≤x∧x≠g):=fun x hx=>⟨by
  rcases (hf1 x hx).2.2 with h | h
  ·exact (HFA.out x h).1
  ·omega,(hf1 x hx).2.1⟩
 have HNB:Hid (nodesP b≤2000):=by unfold Hid;omega
 have HR1:=jj hr1
 have hz1:=hc1.size
 clear hp1 hf1 hn1 hr1 hc1 hbb K3d K4d K5d HPd HUad HVd HUvd HRd HAd HUWd
 (try dsimp only)
 refine hK.out _ _ (HS.out _ hC1) (fun _=>trivial) ?_
 clear hK K
 (try simp only [zz])
 refine w1 7 rfl fun K hK=>?_
 go_simp
 go_at_call 57
 obtain ⟨zs,hzs⟩:=HR1.out.bytes
 obtain ⟨B,hB1,hB2',hB3⟩:=pot_big zs hzs.le hzs.len q7 (by omega)
 refine (spec_l2Mutate_all zs B (by omega) (B+2) va C1 q7 g hzs (by omega) (by omega) (by omega) (by omega) _ Fv HV1.out HUv1.out (fun b hb=>(HFV.out b hb).2)).mono ?_
 rintro e C2 ⟨u,cs2,Fu,q8,rfl,hp2,hf2,hn2,-,hl2,hq2,-,hc2⟩
 obtain ⟨kvu,rfl,huu⟩:=(zAF _ _ _).1 hp2
 obtain ⟨uA,ucap,rfl,-,-⟩:=huu.form
 have hC2:Chg [g,w.heap.size,w.heap.size+1,w.heap.size+2] wb C2:=hC1.trans (hc2.mono (by simp))
 have K32:=jj (K31.out.same (hc2.block _ K31.out.lt (by rw [zy1];omega)))
 have K42:=jj (K41.out.same (hc2.block _ K41.out.lt (by rw [zy1];omega)))
 have K52:=jj (K51.out.same (hc2.block _ K51.out.lt (by rw [zy1];omega)))
 have HA2:=jj (ArrDt.mono HA1.out (hc2.kept HUW1.out (fun x hx h=>by rw [zy1] at h;have:=HFW.out x hx;omega)))
 have HUW2:Hid (Under C2 FW):=HUW1.out.mono hc2.size
 have HPB:=jj (PR.mono _ _ _ (hc2.kept HUB1.out (fun x hx h=>by rw [zy1] at h;exact (HFB.out x hx).2 h)) HPB1.out)
 have HUB:Hid (Under C2 Fb):=HUB1.out.mono hc2.size
 have HVU:=jj hp2
 have HUU:Hid (Under C2 Fu):=fun x hx=>(hf2 x hx).1
 have HFU:Hid (∀ x∈Fu,w3.heap.size≤x∧x≠g):=fun x hx=>⟨by
  rcases (hf2 x hx).2.2 with h | h
  ·exact (HFV.out x h).1
  ·omega,(hf2 x hx).2.1⟩
 have HNU:Hid (nodes u≤600000):=by unfold Hid;omega
 clear hp2 hf2 hc2 huu HR1 hzs hB3 HV1 HUv1 HPB1 HUB1 K31 K41 K51 HA1 HUW1
 (try dsimp only)
 refine hK.out _ _ (HS.out _ hC2) (fun _=>trivial) ?_
 clear hK K
 (try simp only [zz])
 refine w1 8 rfl fun K hK=>?_
 go_simp
 (try dsimp only)
 refine hK.out _ _ (HS.out _ hC2) (fun _=>trivial) ?_
 clear hK K
 (try simp only [zz])
 refine w1 9 rfl fun K hK=>?_
 have yy0:C2.cell? ⟨w,0,none⟩=some (.int .i64 0):=(K32.out.cell 0).trans (by simp)
 have ff0:=K32.out.frozen 0
 have yy1:C2.cell? ⟨w,1,none⟩=some (.int .i64 0):=(K32.out.cell 1).trans (by simp)
 have ff1:=K32.out.frozen 1
 have yylt:=K32.out.lt
 have hC12:Chg [g,w.heap.size,w.heap.size+1,w.heap.size+2] wb ((C2.setCell ⟨w,0,none⟩ (.int .i64 t.d)).setCell ⟨w,1,none⟩ (.int .i64 t.i)):=((hC2.set (by simp)).set (by simp))
 have KK12:Hid (Blk ((C2.setCell ⟨w,0,none⟩ (.int .i64 t.d)).setCell ⟨w,1,none⟩ (.int .i64 t.i)) (w.heap.size) 39 #[t.d,t.i]):=((K32.out.set_ 0 _).set_ 1 _)
 have K4212:Hid (Blk ((C2.setCell ⟨w,0,none⟩ (.int .i64 t.d)).setCell ⟨w,1,none⟩ (.int .i64 t.i)) (w.heap.size+1) 43 #[(0:Int),(0:Int),(0:Int),(0:Int),(0:Int),.slice none 0 0]):=((K42.out.same (zz7 _ _ _ _ (by show w.heap.size+1≠w.heap.size;omega))).same (zz7 _ _ _ _ (by show w.heap.size+1≠w.heap.size;omega)))
 have K5212:Hid (Blk ((C2.setCell ⟨w,0,none⟩ (.int .i64 t.d)).setCell ⟨w,1,none⟩ (.int .i64 t.i)) (w.heap.size+2) 47 #[(0:Int),(0:Int),.slice none 0 0]):=((K52.out.same (zz7 _ _ _ _ (by show w.heap.size+2≠w.heap.size;omega))).same (zz7 _ _ _ _ (by show w.heap.size+2≠w.heap.size;omega)))
 have hz12:(((C2.setCell ⟨w,0,none⟩ (.int .i64 t.d)).setCell ⟨w,1,none⟩ (.int .i64 t.i))).heap.size=C2.heap.size:=by simp [World.setCell]
 have hkA12:Kept FW C2 ((C2.setCell ⟨w,0,none⟩ (.int .i64 t.d)).setCell ⟨w,1,none⟩ (.int .i64 t.i)):=fun x hx=>by rw [zz7 _ _ _ _ (by show x≠w.heap.size;have:=HFW.out x hx;omega),zz7 _ _ _ _ (by show x≠w.heap.size;have:=HFW.out x hx;omega)]
 have hkB12:Kept Fb C2 ((C2.setCell ⟨w,0,none⟩ (.int .i64 t.d)).setCell ⟨w,1,none⟩ (.int .i64 t.i)):=fun x hx=>by rw [zz7 _ _ _ _ (by show x≠w.heap.size;have:=HFB.out x hx;omega),zz7 _ _ _ _ (by show x≠w.heap.size;have:=HFB.out x hx;omega)]
 have hkU12:Kept Fu C2 ((C2.setCell ⟨w,0,none⟩ (.int .i64 t.d)).setCell ⟨w,1,none⟩ (.int .i64 t.i)):=fun x hx=>by rw [zz7 _ _ _ _ (by show x≠w.heap.size;have:=HFU.out x hx;omega),zz7 _ _ _ _ (by show x≠w.heap.size;have:=HFU.out x hx;omega)]
 go_simp
 refine hK.out _ _ (HS.out _ hC12) (fun _=>trivial) ?_
 clear hK K
 (try simp only [zz])
 clear yy0 ff0 yy1 ff1 yylt
 obtain ⟨D2,hX⟩:∃ X,X=((C2.setCell ⟨w,0,none⟩ (.int .i64 t.d)).setCell ⟨w,1,none⟩ (.int .i64 t.i)):=⟨_,rfl⟩
 rw [←hX] at hC12 KK12 K4212 K5212 hz12 hkA12 hkB12 hkU12 ⊢
 clear hX
 refine w1 10 rfl fun K hK=>?_
 obtain ⟨yy0,yy1,yy2,yy3,yy4,yy5,yylt,ff0,ff1,ff2,ff3,ff4,ff5⟩:=K4212.out.q6
 have hC13:Chg [g,w.heap.size,w.heap.size+1,w.heap.size+2] wb ((((((D2.setCell ⟨w.heap.size+1,0,none⟩ (.int .i64 b.op)).setCell ⟨w.heap.size+1,1,none⟩ (.int .i64 b.ct)).setCell ⟨w.heap.size+1,2,none⟩ (.int .i64 b.n)).setCell ⟨w.heap.size+1,3,none⟩ (.int .i64 b.m)).setCell ⟨w.heap.size+1,4,none⟩ (.int .i64 b.va)).setCell ⟨w.heap.size+1,5,none⟩ (.slice qA b.ks.length qcap)):=((((((hC12.set (by simp)).set (by simp)).set (by simp)).set (by simp)).set (by simp)).set (by simp))
 have KK13:Hid (Blk ((((((D2.setCell ⟨w.heap.size+1,0,none⟩ (.int .i64 b.op)).setCell ⟨w.heap.size+1,1,none⟩ (.int .i64 b.ct)).setCell ⟨w.heap.size+1,2,none⟩ (.int .i64 b.n)).setCell ⟨w.heap.size+1,3,none⟩ (.int .i64 b.m)).setCell ⟨w.heap.size+1,4,none⟩ (.int .i64 b.va)).setCell ⟨w.heap.size+1,5,none⟩ (.slice qA b.ks.length qcap)) (w.heap.size+1) 43 #[b.op,b.ct,b.n,b.m,b.va,.slice qA b.ks.length qcap]):=((((((K4212.out.set_ 0 _).set_ 1 _).set_ 2 _).set_ 3 _).set_ 4 _).set_ 5 _)
 have KK1213:Hid (Blk ((((((D2.setCell ⟨w.heap.size+1,0,none⟩ (.int .i64 b.op)).setCell ⟨w.heap.size+1,1,none⟩ (.int .i64 b.ct)).setCell ⟨w.heap.size+1,2,none⟩ (.int .i64 b.n)).setCell ⟨w.heap.size+1,3,none⟩ (.int .i64 b.m)).setCell ⟨w.heap.size+1,4,none⟩ (.int .i64 b.va)).setCell ⟨w.heap.size+1,5,none⟩ (.slice qA b.ks.length qcap)) (w.heap.size) 39 #[t.d,t.i]):=((((((KK12.out.same (zz7 _ _ _ _ (by show w.heap.size≠w.heap.size+1;omega))).same (zz7 _ _ _ _ (by show w.heap.size≠w.heap.size+1;omega))).same (zz7 _ _ _ _ (by show w.heap.size≠w.heap.size+1;omega))).same (zz7 _ _ _ _ (by show w.heap.size≠w.heap.size+1;omega))).same (zz7 _ _ _ _ (by show w.heap.size≠w.heap.size+1;omega))).same (zz7 _ _ _ _ (by show w.heap.size≠w.heap.size+1;omega)))
 have K521213:Hid (Blk ((((((D2.setCell ⟨w.heap.size+1,0,none⟩ (.int .i64 b.op)).setCell ⟨w.heap.size+1,1,none⟩ (.int .i64 b.ct)).setCell ⟨w.heap.size+1,2,none⟩ (.int .i64 b.n)).setCell ⟨w.heap.size+1,3,none⟩ (.int .i64 b.m)).setCell ⟨w.heap.size+1,4,none⟩ (.int .i64 b.va)).setCell ⟨w.heap.size+1,5,none⟩ (.slice qA b.ks.length qcap)) (w.heap.size+2) 47 #[(0:Int),(0:Int),.slice none 0 0]):=((((((K5212.out.same (zz7 _ _ _ _ (by show w.heap.size+2≠w.heap.size+1;omega))).same (zz7 _ _ _ _ (by show w.heap.size+2≠w.heap.size+1;omega))).same (zz7 _ _ _ _ (by show w.heap.size+2≠w.heap.size+1;omega))).same (zz7 _ _ _ _ (by show w.heap.size+2≠w.heap.size+1;omega))).same (zz7 _ _ _ _ (by show w.heap.size+2≠w.heap.size+1;omega))).same (zz7 _ _ _ _ (by show w.heap.size+2≠w.heap.size+1;omega)))
 have hz13:(((((((D2.setCell ⟨w.heap.size+1,0,none⟩ (.int .i64 b.op)).setCell ⟨w.heap.size+1,1,none⟩ (.int .i64 b.ct)).setCell ⟨w.heap.size+1,2,none⟩ (.int .i64 b.n)).setCell ⟨w.heap.size+1,3,none⟩ (.int .i64 b.m)).setCell ⟨w.heap.size+1,4,none⟩ (.int .i64 b.va)).setCell ⟨w.heap.size+1,5,none⟩ (.slice qA b.ks.length qcap))).heap.size=D2.heap.size:=by simp [World.setCell]
 have hkA13:Kept FW D2 ((((((D2.setCell ⟨w.heap.size+1,0,none⟩ (.int .i64 b.op)).setCell ⟨w.heap.size+1,1,none⟩ (.int .i64 b.ct)).setCell ⟨w.heap.size+1,2,none⟩ (.int .i64 b.n)).setCell ⟨w.heap.size+1,3,none⟩ (.int .i64 b.m)).setCell ⟨w.heap.size+1,4,none⟩ (.int .i64 b.va)).setCell ⟨w.heap.size+1,5,none⟩ (.slice qA b.ks.length qcap)):=fun x hx=>by rw [zz7 _ _ _ _ (by show x≠w.heap.size+1;have:=HFW.out x hx;omega),zz7 _ _ _ _ (by show x≠w.heap.size+1;have:=HFW.out x hx;omega),zz7 _ _ _ _ (by show x≠w.heap.size+1;have:=HFW.out x hx;omega),zz7 _ _ _ _ (by show x≠w.heap.size+1;have:=HFW.out x hx;omega),zz7 _ _ _ _ (by show x≠w.heap.size+1;have:=HFW.out x hx;omega),zz7 _ _ _ _ (by show x≠w.heap.size+1;have:=HFW.out x hx;omega)]
 have hkB13:Kept Fb D2 ((((((D2.setCell ⟨w.heap.size+1,0,none⟩ (.int .i64 b.op)).setCell ⟨w.heap.size+1,1,none⟩ (.int .i64 b.ct)).setCell ⟨w.heap.size+1,2,none⟩ (.int .i64 b.n)).setCell ⟨w.heap.size+1,3,none⟩ (.int .i64 b.m)).setCell ⟨w.heap.size+1,4,none⟩ (.int .i64 b.va)).setCell ⟨w.heap.size+1,5,none⟩ (.slice qA b.ks.length qcap)):=fun x hx=>by rw [zz7 _ _ _ _ (by show x≠w.heap.size+1;have:=HFB.out x hx;omega),zz7 _ _ _ _ (by show x≠w.heap.size+1;have:=HFB.out x hx;omega),zz7 _ _ _ _ (by show x≠w.heap.size+1;have:=HFB.out x hx;omega),zz7 _ _ _ _ (by show x≠w.heap.size+1;have:=HFB.out x hx;omega),zz7 _ _ _ _ (by show x≠w.heap.size+1;have:=HFB.out x hx;omega),zz7 _ _ _ _ (by show x≠w.heap.size+1;have:=HFB.out x hx;omega)]
 have hkU13:Kept Fu D2 ((((((D2.setCell ⟨w.heap.size+1,0,none⟩ (.int .i64 b.op)).setCell ⟨w.heap.size+1,1,none⟩ (.int .i64 b.ct)).setCell ⟨w.heap.size+1,2,none⟩ (.int .i64 b.n)).setCell ⟨w.heap.size+1,3,none⟩ (.int .i64 b.m)).setCell ⟨w.heap.size+1,4,none⟩ (.int .i64 b.va)).setCell ⟨w.heap.size+1,5,none⟩ (.slice qA b.ks.length qcap)):=fun x hx=>by rw [zz7 _ _ _ _ (by show x≠w.heap.size+1;have:=HFU.out x hx;omega),zz7 _ _ _ _ (by show x≠w.heap.size+1;have:=HFU.out x hx;omega),zz7 _ _ _ _ (by show x≠w.heap.size+1;have:=HFU.out x hx;omega),zz7 _ _ _ _ (by show x≠w.heap.size+1;have:=HFU.out x hx;omega),zz7 _ _ _ _ (by show x≠w.heap.size+1;have:=HFU.out x hx;omega),zz7 _ _ _ _ (by show x≠w.heap.size+1;have:=HFU.out x hx;omega)]
 go_simp
 refine hK.out _ _ (HS.out _ hC13) (fun _=>trivial) ?_
 clear hK K
 (try simp only [zz])
 clear yy0 ff0 yy1 ff1 yy2 ff2 yy3 ff3 yy4 ff4 yy5 ff5 yylt
 obtain ⟨D3,hX⟩:∃ X,X=((((((D2.setCell ⟨w.heap.size+1,0,none⟩ (.int .i64 b.op)).setCell ⟨w.heap.size+1,1,none⟩ (.int .i64 b.ct)).setCell ⟨w.heap.size+1,2,none⟩ (.int .i64 b.n)).setCell ⟨w.heap.size+1,3,none⟩ (.int .i64 b.m)).setCell ⟨w.heap.size+1,4,none⟩ (.int .i64 b.va)).setCell ⟨w.heap.size+1,5,none⟩ (.slice qA b.ks.length qcap)):=⟨_,rfl⟩
 rw [←hX] at hC13 KK13 KK1213 K521213 hz13 hkA13 hkB13 hkU13 ⊢
 clear hX
 refine w1 11 rfl fun K hK=>?_
 have yy0:D3.cell? ⟨w.heap.size+2,0,none⟩=some (.int .i64 0):=(K521213.out.cell 0).trans (by simp)
 have ff0:=K521213.out.frozen 0
 have yy1:D3.cell? ⟨w.heap.size+2,1,none⟩=some (.int .i64 0):=(K521213.out.cell 1).trans (by simp)
 have ff1:=K521213.out.frozen 1
 have yy2:D3.cell? ⟨w.heap.size+2,2,none⟩=some (.slice none 0 0):=(K521213.out.cell 2).trans (by simp)
 have ff2:=K521213.out.frozen 2
 have yylt:=K521213.out.lt
 have hC14:Chg [g,w.heap.size,w.heap.size+1,w.heap.size+2] wb (((D3.setCell ⟨w.heap.size+2,0,none⟩ (.int .i64 u.c)).setCell ⟨w.heap.size+2,1,none⟩ (.int .i64 u.n)).setCell ⟨w.heap.size+2,2,none⟩ (.slice uA u.ks.length ucap)):=(((hC13.set (by simp)).set (by simp)).set (by simp))
 have KK14:Hid (Blk (((D3.setCell ⟨w.heap.size+2,0,none⟩ (.int .i64 u.c)).setCell ⟨w.heap.size+2,1,none⟩ (.int .i64 u.n)).setCell ⟨w.heap.size+2,2,none⟩ (.slice uA u.ks.length ucap)) (w.heap.size+2) 47 #[u.c,u.n,.slice uA u.ks.length ucap]):=(((K521213.out.set_ 0 _).set_ 1 _).set_ 2 _)
 have KK121314:Hid (Blk (((D3.setCell ⟨w.heap.size+2,0,none⟩ (.int .i64 u.c)).setCell ⟨w.heap.size+2,1,none⟩ (.int .i64 u.n)).setCell ⟨w.heap.size+2,2,none⟩ (.slice uA u.ks.length ucap)) (w.heap.size) 39 #[t.d,t.i]):=(((KK1213.out.same (zz7 _ _ _ _ (by show w.heap.size≠w.heap.size+2;omega))).same (zz7 _ _ _ _ (by show w.heap.size≠w.heap.size+2;omega))).same (zz7 _ _ _ _ (by show w.heap.size≠w.heap.size+2;omega)))
 have KK1314:Hid (Blk (((D3.setCell ⟨w.heap.size+2,0,none⟩ (.int .i64 u.c)).setCell ⟨w.heap.size+2,1,none⟩ (.int .i64 u.n)).setCell ⟨w.heap.size+2,2,none⟩ (.slice uA u.ks.length ucap)) (w.heap.size+1) 43 #[b.op,b.ct,b.n,b.m,b.va,.slice qA b.ks.length qcap]):=(((KK13.out.same (zz7 _ _ _ _ (by show w.heap.size+1≠w.heap.size+2;omega))).same (zz7 _ _ _ _ (by show w.heap.size+1≠w.heap.size+2;omega))).same (zz7 _ _ _ _ (by show w.heap.size+1≠w.heap.size+2;omega)))
 have hz14:((((D3.setCell ⟨w.heap.size+2,0,none⟩ (.int .i64 u.c)).setCell ⟨w.heap.size+2,1,none⟩ (.int .i64 u.n)).setCell ⟨w.heap.size+2,2,none⟩ (.slice uA u.ks.length ucap))).heap.size=D3.heap.size:=by simp [World.setCell]
 have hkA14:Kept FW D3 (((D3.setCell ⟨w.heap.size+2,0,none⟩ (.int .i64 u.c)).setCell ⟨w.heap.size+2,1,none⟩ (.int .i64 u.n)).setCell ⟨w.heap.size+2,2,none⟩ (.slice uA u.ks.length ucap)):=fun x hx=>by rw [zz7 _ _ _ _ (by show x≠w.heap.size+2;have:=HFW.out x hx;omega),zz7 _ _ _ _ (by show x≠w.heap.size+2;have:=HFW.out x hx;omega),zz7 _ _ _ _ (by show x≠w.heap.size+2;have:=HFW.out x hx;omega)]
 have hkB14:Kept Fb D3 (((D3.setCell ⟨w.heap.size+2,0,none⟩ (.int .i64 u.c)).setCell ⟨w.heap.size+2,1,none⟩ (.int .i64 u.n)).setCell ⟨w.heap.size+2,2,none⟩ (.slice uA u.ks.length ucap)):=fun x hx=>by rw [zz7 _ _ _ _ (by show x≠w.heap.size+2;have:=HFB.out x hx;omega),zz7 _ _ _ _ (by show x≠w.heap.size+2;have:=HFB.out x hx;omega),zz7 _ _ _ _ (by show x≠w.heap.size+2;have:=HFB.out x hx;omega)]
 have hkU14:Kept Fu D3 (((D3.setCell ⟨w.heap.size+2,0,none⟩ (.int .i64 u.c)).setCell ⟨w.heap.size+2,1,none⟩ (.int .i64 u.n)).setCell ⟨w.heap.size+2,2,none⟩ (.slice uA u.ks.length ucap)):=fun x hx=>by rw [zz7 _ _ _ _ (by show x≠w.heap.size+2;have:=HFU.out x hx;omega),zz7 _ _ _ _ (by show x≠w.heap.size+2;have:=HFU.out x hx;omega),zz7 _ _ _ _ (by show x≠w.heap.size+2;have:=HFU.out x hx;omega)]
 go_simp
 refine hK.out _ _ (HS.out _ hC14) (fun _=>trivial) ?_
 clear hK K
 (try simp only [zz])
 clear yy0 ff0 yy1 ff1 yy2 ff2 yylt
 obtain ⟨D4,hX⟩:∃ X,X=(((D3.setCell ⟨w.heap.size+2,0,none⟩ (.int .i64 u.c)).setCell ⟨w.heap.size+2,1,none⟩ (.int .i64 u.n)).setCell ⟨w.heap.size+2,2,none⟩ (.slice uA u.ks.length ucap)):=⟨_,rfl⟩
 rw [←hX] at hC14 KK14 KK121314 KK1314 hz14 hkA14 hkB14 hkU14 ⊢
 clear hX
 refine wE (by kernel_rfl) ?_
 clear hS0 hT0
 have HFin:Hid (DrewWTPV w (.returned (.tuple #[.slice A1 xs.length cap1,.agg #[t.d,t.i],.agg #[b.op,b.ct,b.n,b.m,b.va,.slice qA b.ks.length qcap],.agg #[u.c,u.n,.slice uA u.ks.length ucap]])) D4):=by
  have hz:D4.heap.size=C2.heap.size:=by rw [hz14,hz13,hz12]
  refine ⟨xs,_,FW,t,b,qA,qcap,Fb,u,uA,ucap,Fu,rfl,HB5.out.trans (hC14.below (by intro x hx;simp at hx;omega) HB5.out.size),HTOK.out,ArrDt.mono (ArrDt.mono (ArrDt.mono HA2.out hkA12) hkA13) hkA14,?_,PR.mono _ _ _ hkB14 (PR.mono _ _ _ hkB13 (PR.mono _ _ _ hkB12 HPB.out)),?_,HNB.out,VR.mono _ _ _ hkU14 (VR.mono _ _ _ hkU13 (VR.mono _ _ _ hkU12 HVU.out)),?_,HNU.out⟩
  ·intro x hx;rw [hz];exact ⟨by have:=HFW.out x hx;omega,HUW2.out x hx⟩
  ·intro x hx;rw [hz];exact ⟨by have:=(HFB.out x hx).1;omega,HUB.out x hx⟩
  ·intro x hx;rw [hz];exact ⟨by have:=(HFU.out x hx).1;omega,HUU.out x hx⟩
 clear hkA12 hkA13 hkA14 hkB12 hkB13 hkB14 hkU12 hkU13 hkU14 hC12 hC13 hC14 hC2 hC1 hC0
 go_wp2
 refine bodyPost_ret (results_tmp_cell3 rfl _ _ (w.heap.size) (w.heap.size+1) (w.heap.size+2) 39 43 47 #[t.d,t.i] #[b.op,b.ct,b.n,b.m,b.va,.slice qA b.ks.length qcap] #[u.c,u.n,.slice uA u.ks.length ucap] (0,0) (0,0) (0,0) _ _ _ rfl KK121314.out Tryz.underlying39 rfl rfl rfl KK1314.out Tryz.underlying43 rfl rfl rfl KK14.out Tryz.underlying47 rfl rfl) rfl ?_
 exact HFin.out
@[ext] structure Bd where
 var:Int
 val:V
def Bd.size (x:Bd):Nat:=x.val.size
def Bd.sizes (l:List Bd):Nat:=l.length+sumBy Bd.size l
def BdR (w:World) (x:Bd) (cs:List Value) (F:List Nat):Prop:=∃ ds:List Value,cs=[.int .i64 x.var] ++ ds∧VR w x.val ds F
theorem BdR_form {w:World} {x:Bd} {cs:List Value} {F:List Nat} (h:BdR w x cs F):∃ A cap,cs=[.int .i64 x.var,.int .i64 x.val.c,.int .i64 x.val.n,.slice A x.val.ks.length cap]:=by
 obtain ⟨ds,rfl,ha⟩:=h
 obtain ⟨kv,rfl,ha2⟩:=(zAF _ _ _).1 ha
 obtain ⟨A,cap,rfl,-,-⟩:=ha2.form
 exact ⟨A,cap,rfl⟩
theorem BdR_len {w:World} (x:Bd) (cs:List Value) (F:List Nat) (h:BdR w x cs F):cs.length=4:=by
 obtain ⟨A,cap,rfl⟩:=BdR_form h
 rfl
mutual
def P.mat:P→V→Option (List Bd)
 |⟨op,ct,n,m,va,ks⟩,v =>
  if op=1 then some []
  else if op=2 then some [⟨va,v⟩]
  else if op=3 then (if withinB v.n n m=true then some [] else none)
  else if op=5 then P.mator ks v
  else if op=6 then (P.mator ks v).map (fun l=>⟨va,v⟩ :: l)
  else if v.c=ct then P.mats ks v.ks else none
def P.mats:List P→List V→Option (List Bd)
 |[],_=>some []
 |k :: ks,[]=>none
 |k :: ks,v :: vs=>match P.mat k v with
  |none=>none
  |some a=>match P.mats ks vs with
   |none=>none
   |some b=>some (a ++ b)
def P.mator:List P→V→Option (List Bd)
 |[],_=>none
 |k :: ks,v=>match P.mat k v with
  |none=>P.mator ks v
  |some a=>some a
end
theorem P.mat_eq (p:P) (v:V):P.mat p v=if p.op=1 then some [] else if p.op=2 then some [⟨p.va,v⟩] else if p.op=3 then (if withinB v.n p.n p.m=true then some [] else none) else if p.op=5 then P.mator p.ks v else if p.op=6 then (P.mator p.ks v).map (fun l=>⟨p.va,v⟩ :: l) else if v.c=p.ct then P.mats p.ks v.ks else none:=by
 obtain ⟨op,ct,n,m,va,ks⟩:=p
 rw [P.mat]
theorem mat_1 {p:P} {v:V} (h:p.op=1):P.mat p v=some []:=by rw [P.mat_eq,if_pos h]
theorem mat_2 {p:P} {v:V} (h:p.op=2):P.mat p v=some [⟨p.va,v⟩]:=by rw [P.mat_eq,if_neg (by omega),if_pos h]
theorem mat_3 {p:P} {v:V} (h:p.op=3):P.mat p v=if withinB v.n p.n p.m=true then some [] else none:=by rw [P.mat_eq,if_neg (by omega),if_neg (by omega),if_pos h]
theorem mat_5 {p:P} {v:V} {k0 k1:P} (h:p.op=5) (hk:p.ks=[k0,k1]):P.mat p v=(match P.mat k0 v with | some a=>some a | none=>P.mat k1 v):=by
 rw [P.mat_eq,if_neg (by omega),if_neg (by omega),if_neg (by omega),if_pos h,hk,P.mator,P.mator,P.mator]
 cases P.mat k0 v with
 |some a=>rfl
 |none=>cases P.mat k1 v <;> rfl
theorem mat_6 {p:P} {v:V} {k0:P} (h:p.op=6) (hk:p.ks=[k0]):P.mat p v=(P.mat k0 v).map (fun l=>⟨p.va,v⟩ :: l):=by
 rw [P.mat_eq,if_neg (by omega),if_neg (by omega),if_neg (by omega),if_neg (by omega),if_pos h,hk,P.mator,P.mator]
 cases P.mat k0 v <;> rfl
theorem mat_4 {p:P} {v:V} (h:p.op=4):P.mat p v=if v.c=p.ct then P.mats p.ks v.ks else none:=by rw [P.mat_eq,if_neg (by omega),if_neg (by omega),if_neg (by omega),if_neg (by omega),if_neg (by omega)]
theorem mats_nil (vs:List V):P.mats [] vs=some []:=by cases vs <;> rfl
theorem mats_snoc:∀ (ks:List P) (vs:List V) (k:P) (v:V),ks.length=vs.length→P.mats (ks ++ [k]) (vs ++ [v])=(match P.mats ks vs with | none=>none | some a=>match P.mat k v with | none=>none | some b=>some (a ++ b))
 |[],[],k,v,_=>by
  simp only [List.nil_append,P.mats]
  cases P.mat k v with
  |none=>rfl
  |some b=>simp
 |x :: ks,y :: vs,k,v,h=>by
  rw [List.cons_append,List.cons_append,P.mats,P.mats,mats_snoc ks vs k v (by simpa using h)]
  cases P.mat x y with
  |none=>rfl
  |some a =>
   cases P.mats ks vs with
   |none=>rfl
   |some b =>
    cases P.mat k v with
    |none=>rfl
    |some c=>simp
 |[],_ :: _,_,_,h=>by simp at h
 |_ :: _,[],_,_,h=>by simp at h
theorem mats_bad:∀ (ks:List P) (vs:List V) (i:Nat),P.mats (ks.take i) (vs.take i)=none→P.mats ks vs=none
 |[],vs,i,h=>by rw [List.take_nil,mats_nil] at h;cases h
 |k :: ks,vs,0,h=>by rw [List.take_zero,mats_nil] at h;cases h
 |k :: ks,[],i+1,h=>rfl
 |k :: ks,v :: vs,i+1,h=>by
  rw [List.take_succ_cons,List.take_succ_cons,P.mats] at h
  rw [P.mats]
  cases hk:P.mat k v with
  |none=>rfl
  |some a =>
   rw [hk] at h
   cases hm:P.mats (ks.take i) (vs.take i) with
   |none=>rw [mats_bad ks vs i hm]
   |some b=>rw [hm] at h;cases h
theorem mats_take {ks:List P} {vs:List V} {i:Nat} (h1:i<ks.length) (h2:i<vs.length):P.mats (ks.take (i+1)) (vs.take (i+1))=(match P.mats (ks.take i) (vs.take i) with | none=>none | some a=>match P.mat ks[i] vs[i] with | none=>none | some b=>some (a ++ b)):=by
 rw [List.take_succ_eq_append_getElem h1,List.take_succ_eq_append_getElem h2]
 exact mats_snoc _ _ _ _ (by rw [List.length_take,List.length_take];omega)
theorem info_BE:(Tryz.prog.info? 69).map (fun i=>(i.zero,i.size,i.bytes))=some (some (.agg #[(0:Int),(0:Int),(0:Int),.slice none 0 0]),4,48):=by kernel_rfl
theorem zA4 (w w':World) (x:Bd) (cs:List Value) (G:List Nat) (hk:Kept G w w') (h:BdR w x cs G):BdR w' x cs G:=by
 obtain ⟨ds,rfl,h⟩:=h
 exact ⟨ds,rfl,VR.mono _ _ _ hk h⟩
theorem zAY (w:World) (x:Bd) (cs:List Value) (G:List Nat) (h:BdR w x cs G):cs.length=4:=BdR_len x cs G h
theorem BdR_one (w:World) (x:Bd) (cs:List Value) (G:List Nat) (h:BdR w x cs G):∀ u∈cs,u.oneCell'=true:=by
 obtain ⟨A,cap,rfl⟩:=BdR_form h
 simp [Value.oneCell']
theorem BdR_of {w:World} {va:Int} {v:V} {A:Option Addr} {cap:Nat} {G:List Nat} (h:VR w v [v.c,v.n,.slice A v.ks.length cap] G):BdR w ⟨va,v⟩ [.int .i64 va,v.c,v.n,.slice A v.ks.length cap] G:=⟨_,rfl,h⟩
end Go.Proofs.YtghekinfoadcoaaGreat
