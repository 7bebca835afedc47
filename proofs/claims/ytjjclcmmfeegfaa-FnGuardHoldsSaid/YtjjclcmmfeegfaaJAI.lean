/-
  Lemmas, and contracts of functions. Conditions: none.
-/
import Derived.Test.YtjjclcmmfeegfaaJAH
import Derived.Test.YtjjclcmmfeegfaaJAE
import Derived.Test.YtjjclcmmfeegfaaJAD
import Derived.Test.YtjjclcmmfeegfaaJAA
import Derived.Test.YtjjclcmmfeegfaaJAB
import Derived.Deep.RegionWith

set_option linter.unusedVariables false
set_option linter.unusedSimpArgs false
set_option maxRecDepth 100000
set_option maxHeartbeats 1600000

namespace Go.Proofs.Ytjjclcmmfeegfaa
open Go.RowKit
theorem mat_len:∀ (p:P) (v:V) (l:List Bd),P.mat p v=some l→l.length≤nodesP p:=P.ind fun op ct n m va ks ih v l h=>by
 have hs:∀ (ks:List P) (_:∀ k∈ks,∀ (v:V) (l:List Bd),P.mat k v=some l→l.length≤nodesP k) (vs:List V) (l:List Bd),P.mats ks vs=some l→l.length≤P.sizes ks:=by
  intro ks
  induction ks with
  |nil=>intro _ vs l h;rw [mats_nil] at h;cases h;exact Nat.zero_le _
  |cons k ks ih2 =>
   intro hk vs l h
   cases vs with
   |nil=>cases h
   |cons v vs =>
    rw [P.mats] at h
    cases hm:P.mat k v with
    |none=>rw [hm] at h;cases h
    |some a =>
     rw [hm] at h
     cases hn:P.mats ks vs with
     |none=>rw [hn] at h;cases h
     |some b =>
      rw [hn] at h
      cases h
      have h1:=hk k (by simp) v a hm
      have h2:=ih2 (fun x hx=>hk x (by simp [hx])) vs b hn
      have h3:P.sizes (k :: ks)=nodesP k+P.sizes ks:=by simp only [P.sizes,nodesP];omega
      rw [List.length_append,h3];omega
 have ho:∀ (ks:List P) (_:∀ k∈ks,∀ (v:V) (l:List Bd),P.mat k v=some l→l.length≤nodesP k) (v:V) (l:List Bd),P.mator ks v=some l→l.length≤P.sizes ks:=by
  intro ks
  induction ks with
  |nil=>intro _ v l h;cases h
  |cons k ks ih2 =>
   intro hk v l h
   have h3:P.sizes (k :: ks)=nodesP k+P.sizes ks:=by simp only [P.sizes,nodesP];omega
   rw [P.mator] at h
   cases hm:P.mat k v with
   |none =>
    rw [hm] at h
    have:=ih2 (fun x hx=>hk x (by simp [hx])) v l h
    rw [h3];omega
   |some a =>
    rw [hm] at h
    cases h
    have h1:=hk k (by simp) v _ hm
    rw [h3];omega
 have hn:nodesP ⟨op,ct,n,m,va,ks⟩=P.sizes ks+1:=rfl
 rw [P.mat] at h
 rw [hn]
 split at h
 ·cases h;exact Nat.zero_le _
 ·split at h
  ·cases h;simp
  ·split at h
   ·split at h
    ·cases h;exact Nat.zero_le _
    ·cases h
   ·split at h
    ·have:=ho ks ih v l h;omega
    ·split at h
     ·cases hm:P.mator ks v with
      |none=>rw [hm] at h;cases h
      |some a =>
       rw [hm] at h
       cases h
       have:=ho ks ih v a hm
       simp;omega
     ·split at h
      ·have:=hs ks ih v.ks l h;omega
      ·cases h
theorem arr_bd {w:World} {y:Bd} {cs:List Value} {G:List Nat} {H:Nat} {T:TypeId} (hk:Blk w H T cs.toArray) (h:BdR w y cs G):Arr w (BdR w) [y] (.slice (some ⟨H,0,none⟩) 1 1) (H :: G) :=
 ⟨_,_,rfl,zz8 _,by simp [maxLen],.inr ⟨H,0,cs,G,rfl,(fun j u hj=>by rw [Nat.zero_add,hk.cell];simpa using hj),Flat.one h,rfl⟩⟩
theorem under_ifA {α:Type} {w:World} {B k:Nat} {E:TypeId} {R:World→α→List Value→List Nat→Prop} {vs:List α} {v:Value} {F:List Nat} (h:Own w B E k R vs v F):Under w (if vs=[] then [] else rowOf v ++ F):=by
 by_cases hx:vs=[]
 ·rw [if_pos hx];exact Under.nil _
 ·rw [if_neg hx]
  intro b hb
  rcases List.mem_append.1 hb with hb | hb
  ·exact (h.row b hb).2
  ·exact h.under b hb
theorem shape_parts2 {xs:List Dt} {d:Nat} {t:Ty} {p:P} (h:shapeB xs (d+1) t p=true):ownB xs t p=true∧p.ks.length=(typesP xs t p).length∧∀ (i:Nat) (h1:i<(typesP xs t p).length) (h2:i<p.ks.length),shapeB xs d (typesP xs t p)[i] p.ks[i]=true:=by
 have h0:shapeB xs (d+1) t p=(ownB xs t p && (p.ks.length==(typesP xs t p).length && ((typesP xs t p).zip p.ks).all fun x=>shapeB xs d x.1 x.2)):=rfl
 rw [h0,Bool.and_eq_true,Bool.and_eq_true,beq_iff_eq,List.all_eq_true] at h
 refine ⟨h.1,h.2.1,fun i h1 h2=>?_⟩
 have hz:i<((typesP xs t p).zip p.ks).length:=by rw [List.length_zip];omega
 have:=h.2.2 _ (List.getElem_mem hz)
 rwa [List.getElem_zip] at this
theorem ops_of2 {xs:List Dt} {t:Ty} {p:P} (h:ownB xs t p=true):p.op=1∨p.op=2∨p.op=3∨p.op=4∨p.op=5∨p.op=6:=by
 unfold ownB kindB at h
 by_cases h3:p.op=3
 ·exact .inr (.inr (.inl h3))
 ·by_cases h4:p.op=4
  ·exact .inr (.inr (.inr (.inl h4)))
  ·rw [if_neg h3,if_neg h4] at h
   simp only [Bool.and_eq_true,Bool.or_eq_true,beq_iff_eq] at h
   rcases h.2.2.2 with h | h | h | h
   ·exact .inl h
   ·exact .inr (.inl h)
   ·exact .inr (.inr (.inr (.inr (.inl h))))
   ·exact .inr (.inr (.inr (.inr (.inr h))))
theorem zipAll_nth2 {f:Ty→V→Bool}:∀ {ls:List Ty} {ks:List V},zipAll f ls ks=true→∀ (i:Nat) (h1:i<ls.length) (h2:i<ks.length),f ls[i] ks[i]=true
 |_ :: _,_ :: _,h,0,_,_=>by rw [zipAll,Bool.and_eq_true] at h;exact h.1
 |_ :: ls,_ :: ks,h,i+1,h1,h2=>by
  rw [zipAll,Bool.and_eq_true] at h
  exact zipAll_nth2 h.2 i (by simpa using h1) (by simpa using h2)
theorem ctor_kids {xs:List Dt} {d e:Nat} {t:Ty} {p:P} {v:V} (hs:shapeB xs (d+1) t p=true) (hf:fitsV xs (e+1) t v=true) (h4:p.op=4) (hc:v.c=p.ct) :
  v.ks.length=p.ks.length∧∀ (i:Nat) (h1:i<p.ks.length) (h2:i<v.ks.length),∃ a,shapeB xs d a p.ks[i]=true∧fitsV xs e a v.ks[i]=true:=by
 obtain ⟨ho,hl,ha⟩:=shape_parts2 hs
 have hk:hasB (ctorsL xs t) p.ct=true:=by
  unfold ownB kindB at ho
  rw [if_neg (show ¬p.op=3 by omega),if_pos h4] at ho
  simp only [Bool.and_eq_true] at ho
  exact ho.2.2.2
 have hd:¬t.d = -1:=fun hd=>by
  unfold ctorsL at hk
  rw [if_pos hd] at hk
  cases hk
 have ht:typesP xs t p=argsOf xs t p.ct:=by unfold typesP;rw [if_pos h4]
 rw [fitsV_data hd] at hf
 simp only [Bool.and_eq_true,decide_eq_true_iff] at hf
 obtain ⟨-,-,h5,h6⟩:=hf
 rw [hc] at h5 h6
 refine ⟨by rw [h5,hl,ht],fun i h1 h2=>⟨(argsOf xs t p.ct)[i]'(by omega),?_,zipAll_nth2 h6 i (by omega) h2⟩⟩
 have:=ha i (by omega) h1
 simp only [ht] at this
 exact this
def MatS (p:P) (v:V) (bs:List Bd) (w:World) (e:Ending) (w':World):Prop:=∃ (x:Value) (ok:Bool) (F:List Nat),e=.returned (.tuple #[x,.bool ok])∧Below w w w'∧ok=(P.mat p v).isSome∧(∃ l',Arr w' (BdR w') l' x F∧Under w'.heap.size F)∧∀ l,P.mat p v=some l→Arr w' (BdR w') (bs ++ l) x F∧Under w'.heap.size F
def MatF (p:P):Prop:=∀ (d e:Nat) (xs:List Dt) (t:Ty) (v:V) (_:shapeB xs d t p=true) (_:fitsV xs e t v=true) (w:World) (x0:Value) (bs:List Bd) (F:List Nat) (cs:List Value) (G:List Nat) (ds:List Value) (H:List Nat) (_:Arr w (BdR w) bs x0 F) (_:Under w F) (_:PR w p cs G) (_:Under w G) (_:VR w v ds H) (_:Under w H) (_:bs.length+nodesP p≤100000),
  Calls Try.prog 37 #[x0,.agg cs.toArray,.agg ds.toArray] w (MatS p v bs w)
set_option maxHeartbeats 16000000 in
theorem spec_l3Match_of (p:P) (ih:∀ k∈p.ks,MatF k):MatF p:=by
 intro d e xs t v hs hfv w x0 bs F cs G ds H hx hfu hp hg hv hh hlen
 obtain ⟨kp,rfl,hka⟩:=(zAA _ _ _).1 hp
 obtain ⟨pA,pcap,rfl,-,-⟩:=hka.form
 obtain ⟨kv,rfl,hva⟩:=(VR_iff _ _ _).1 hv
 obtain ⟨vA,vcap,rfl,-,-⟩:=hva.form
 obtain ⟨xA,xcap,rfl,-,-⟩:=hx.form
 obtain ⟨d,rfl⟩:∃ k,d=k+1:=by
  cases d with
  |zero=>rw [shapeB] at hs;cases hs
  |succ k=>exact ⟨k,rfl⟩
 obtain ⟨e,rfl⟩:∃ k,e=k+1:=by
  cases e with
  |zero=>rw [fitsV] at hfv;cases hfv
  |succ k=>exact ⟨k,rfl⟩
 obtain ⟨i0,hi,hz0,hz1,hz2⟩:=info_parts info_BE
 obtain ⟨ho,hl,hsk⟩:=shape_parts2 hs
 have hop:=ops_of2 ho
 have IH:=jj ih
 have hws:(((w.alloc (.cells #[p.op,p.ct,p.n,p.m,p.va,.slice pA p.ks.length pcap] 28)).alloc (.cells #[v.c,v.n,.slice vA v.ks.length vcap] 46))).heap.size=w.heap.size+2:=by simp
 have hB0:Below w w ((w.alloc (.cells #[p.op,p.ct,p.n,p.m,p.va,.slice pA p.ks.length pcap] 28)).alloc (.cells #[v.c,v.n,.slice vA v.ks.length vcap] 46)):=((zy2 _ _).alloc (zz8 _) _).alloc (by simp) _
 have KP:Hid (Blk ((w.alloc (.cells #[p.op,p.ct,p.n,p.m,p.va,.slice pA p.ks.length pcap] 28)).alloc (.cells #[v.c,v.n,.slice vA v.ks.length vcap] 46)) w.heap.size 28 #[p.op,p.ct,p.n,p.m,p.va,.slice pA p.ks.length pcap]):=(Blk.new w _ _).same (Below.heap_alloc _ _ _ (by simp))
 have KV:Hid (Blk ((w.alloc (.cells #[p.op,p.ct,p.n,p.m,p.va,.slice pA p.ks.length pcap] 28)).alloc (.cells #[v.c,v.n,.slice vA v.ks.length vcap] 46)) (w.heap.size+1) 46 #[v.c,v.n,.slice vA v.ks.length vcap]):=zA9 w _ 46 _
 have HX:Hid (Arr ((w.alloc (.cells #[p.op,p.ct,p.n,p.m,p.va,.slice pA p.ks.length pcap] 28)).alloc (.cells #[v.c,v.n,.slice vA v.ks.length vcap] 46)) (BdR ((w.alloc (.cells #[p.op,p.ct,p.n,p.m,p.va,.slice pA p.ks.length pcap] 28)).alloc (.cells #[v.c,v.n,.slice vA v.ks.length vcap] 46))) bs (.slice xA bs.length xcap) F):=hx.mono (.of_below hB0 hfu) fun x _ cs G hk h=>zA3 _ _ x cs G hk h
 have HKP:Hid (Arr ((w.alloc (.cells #[p.op,p.ct,p.n,p.m,p.va,.slice pA p.ks.length pcap] 28)).alloc (.cells #[v.c,v.n,.slice vA v.ks.length vcap] 46)) (PR ((w.alloc (.cells #[p.op,p.ct,p.n,p.m,p.va,.slice pA p.ks.length pcap] 28)).alloc (.cells #[v.c,v.n,.slice vA v.ks.length vcap] 46))) p.ks (.slice pA p.ks.length pcap) G):=ArrP.below hka hB0 hg
 have HKV:Hid (Arr ((w.alloc (.cells #[p.op,p.ct,p.n,p.m,p.va,.slice pA p.ks.length pcap] 28)).alloc (.cells #[v.c,v.n,.slice vA v.ks.length vcap] 46)) (VR ((w.alloc (.cells #[p.op,p.ct,p.n,p.m,p.va,.slice pA p.ks.length pcap] 28)).alloc (.cells #[v.c,v.n,.slice vA v.ks.length vcap] 46))) v.ks (.slice vA v.ks.length vcap) H):=ArrV.below hva hB0 hh
 have HV:Hid (VR ((w.alloc (.cells #[p.op,p.ct,p.n,p.m,p.va,.slice pA p.ks.length pcap] 28)).alloc (.cells #[v.c,v.n,.slice vA v.ks.length vcap] 46)) v [v.c,v.n,.slice vA v.ks.length vcap] H):=hv.below hB0 hh
 have HF:=jj hfu
 have HG:=jj hg
 have HH:=jj hh
 have HFU:Hid (Under (((w.alloc (.cells #[p.op,p.ct,p.n,p.m,p.va,.slice pA p.ks.length pcap] 28)).alloc (.cells #[v.c,v.n,.slice vA v.ks.length vcap] 46))).heap.size F):=hfu.mono hB0.size
 have HGU:Hid (Under (((w.alloc (.cells #[p.op,p.ct,p.n,p.m,p.va,.slice pA p.ks.length pcap] 28)).alloc (.cells #[v.c,v.n,.slice vA v.ks.length vcap] 46))).heap.size G):=hg.mono hB0.size
 have HHU:Hid (Under (((w.alloc (.cells #[p.op,p.ct,p.n,p.m,p.va,.slice pA p.ks.length pcap] 28)).alloc (.cells #[v.c,v.n,.slice vA v.ks.length vcap] 46))).heap.size H):=hh.mono hB0.size
 have HFV:=jj hfv
 have HI:=jj hi
 have HZ0:=jj hz0
 have HZ1:=jj hz1
 have HZ2:=jj hz2
 clear hi hz0 hz1 hz2
 clear hx hfu hp hg hv hh hka hva ih
 rcases hop with h1 | h2 | h3 | h4 | h5 | h6
 ·clear hs hfv ho hl hsk
  have q1:(p.op==1)=true:=beq_iff_eq.2 (by omega)
  have q2:(p.op==2)=false:=beq_eq_false_iff_ne.2 (by omega)
  have q3:(p.op==3)=false:=beq_eq_false_iff_ne.2 (by omega)
  have q5:(p.op==5)=false:=beq_eq_false_iff_ne.2 (by omega)
  have q6:(p.op==6)=false:=beq_eq_false_iff_ne.2 (by omega)
  have H1_:=jj h1
  clear h1
  obtain ⟨y0,y1,y2,y3,y4,y5,-⟩:=KP.out.c6
  obtain ⟨u0,u1,u2,-⟩:=KV.out.c3
  have yl:=KP.out.lt
  have ul:=KV.out.lt
  go_enter Try.func37,Try.ntmps37
  go_wp2
  go_ret2
  exact ⟨.slice xA bs.length xcap,true,F,rfl,hB0,by rw [mat_1 H1_.out];rfl,⟨_,HX.out,HFU.out⟩,fun l hl=>by
   rw [mat_1 H1_.out] at hl
   cases hl
   rw [List.append_nil]
   exact ⟨HX.out,HFU.out⟩⟩
 ·clear hs hfv ho hl hsk
  have q1:(p.op==1)=false:=beq_eq_false_iff_ne.2 (by omega)
  have q2:(p.op==2)=true:=beq_iff_eq.2 (by omega)
  have q3:(p.op==3)=false:=beq_eq_false_iff_ne.2 (by omega)
  have q5:(p.op==5)=false:=beq_eq_false_iff_ne.2 (by omega)
  have q6:(p.op==6)=false:=beq_eq_false_iff_ne.2 (by omega)
  have H2_:=jj h2
  clear h2
  obtain ⟨y0,y1,y2,y3,y4,y5,-⟩:=KP.out.c6
  obtain ⟨u0,u1,u2,-⟩:=KV.out.c3
  have yl:=KP.out.lt
  have ul:=KV.out.lt
  go_enter Try.func37,Try.ntmps37
  go_wp2_with fail
  clear y0 y1 y2 y3 y4 y5 u0 u1 u2 yl ul
  obtain ⟨W0,hW0⟩:∃ X,X=((w.alloc (.cells #[p.op,p.ct,p.n,p.m,p.va,.slice pA p.ks.length pcap] 28)).alloc (.cells #[v.c,v.n,.slice vA v.ks.length vcap] 46)):=⟨_,rfl⟩
  rw [←hW0] at hws hB0 KP KV HX HKP HKV HV HFU HGU HHU ⊢
  clear hW0
  have hwz:w.heap.size+2≤W0.heap.size:=by omega
  have hwz1:w.heap.size<W0.heap.size:=by omega
  have hwz2:w.heap.size≤W0.heap.size:=by omega
  clear hws
  have HS:Hid (∀ C:World,Below (w.heap.size+2) W0 C→(C.cell? ⟨w,4,none⟩=p.va∧C.cell? ⟨w.heap.size+1,0,none⟩=v.c∧C.cell? ⟨w.heap.size+1,1,none⟩=v.n∧C.cell? ⟨w.heap.size+1,2,none⟩=some (.slice vA v.ks.length vcap))):=fun C hb=>⟨((KP.out.same (hb.block _ (by omega))).cell 4).trans (by simp),((KV.out.same (hb.block _ (by omega))).cell 0).trans (by simp),((KV.out.same (hb.block _ (by omega))).cell 1).trans (by simp),((KV.out.same (hb.block _ (by omega))).cell 2).trans (by simp)⟩
  have hC0:Below (w.heap.size+2) W0 W0.drew:=(zy2 _ _).drew
  have hz0:w.heap.size+2≤W0.drew.heap.size:=hwz
  have HX0:Hid (Arr W0.drew (BdR W0.drew) bs (.slice xA bs.length xcap) F):=HX.out.mono (fun _ _=>rfl) fun x _ cs G hk h=>zA3 _ _ x cs G hk h
  have HV0:Hid (VR W0.drew v [v.c,v.n,.slice vA v.ks.length vcap] H):=VR.drew HV.out
  refine wpBS HS.out (T:=fun _=>True) (d:=99) (by kernel_rfl) ?_
  obtain ⟨wd,hwd⟩:∃ X,X=W0.drew:=⟨_,rfl⟩
  rw [←hwd] at hC0 hz0 HX0 HV0 ⊢
  clear hwd
  have hS0:=HS.out _ hC0
  have hT0:True:=trivial
  refine wV 1 rfl hS0 hT0 ?_
  (try simp only [zz])
  refine wV 3 rfl hS0 hT0 ?_
  (try simp only [zz])
  refine wV 4 rfl hS0 hT0 ?_
  (try simp only [zz])
  refine wV 5 rfl hS0 hT0 ?_
  (try simp only [zz])
  refine wV 6 rfl hS0 hT0 ?_
  (try simp only [zz])
  refine wR (rs:=[0,7]) (by kernel_rfl) (by simp) ?_
  refine AllReadyB.c rfl (fun K hK=>?_) (AllReadyB.c rfl (fun K hK=>?_) (AllReadyB.n))
  ·skip
   go_simp
   obtain ⟨C1,hX⟩:∃ X,X=wd.alloc (.cells #[] 48):=⟨_,rfl⟩
   obtain ⟨g1,hg1⟩:∃ X,X=wd.heap.size:=⟨_,rfl⟩
   have hb1:Below wd wd C1:=by rw [hX];exact (zy2 _ _).alloc (zz8 _) _
   have hzz:C1.heap.size=wd.heap.size+1:=by rw [hX];simp
   have HO1:Hid (Own C1 (w.heap.size+2) 48 4 BdR ([]:List Bd) (.slice (some ⟨g1,0,none⟩) 0 0) []):=by
    rw [hX,hg1]
    exact Own.made wd (w.heap.size+2) 48 4 BdR #[] 0 hz0 (by simp [maxLen]) rfl
   rw [←hX,←hg1]
   clear hX
   have hC1:Below (w.heap.size+2) W0 C1:=hC0.trans (hb1.mono hz0)
   have hz1:w.heap.size+2≤C1.heap.size:=Nat.le_trans hz0 hb1.size
   have HX1:Hid (Arr C1 (BdR C1) bs (.slice xA bs.length xcap) F):=HX0.out.mono (.of_below hb1 (HF.out.mono (by omega))) fun x _ cs G hk h=>zA3 _ _ x cs G hk h
   have HV1:=jj (HV0.out.below hb1 (HH.out.mono (by omega)))
   have hgl:g1<C1.heap.size:=by omega
   clear hb1 hzz hg1
   (try dsimp only)
   refine hK.out _ _ (HS.out _ hC1) (fun _=>trivial) ?_
   clear hK K
   (try simp only [zz])
   refine wR (rs:=[2,7]) (by kernel_rfl) (by simp) ?_
   refine AllReadyB.c rfl (fun K hK=>?_) (AllReadyB.c rfl (fun K hK=>?_) (AllReadyB.n))
   ·skip
    obtain ⟨x2,C2,F2,hr2,ho2,hG2,hgr2,hat2⟩:=zAD (P:=Try.prog) 40 40 i0 _ 48 Try.underlying40 HI.out HZ0.out HZ1.out HZ2.out rfl (by decide) zAQ zA3 BdR_one HO1.out HX1.out (HF.out.mono (by omega)) (fun x hx hxG=>by rw [zA4,zy1] at hx;subst hx;have:=HF.out _ hxG;have:=(HO1.out.row _ (by rw [zA4];exact List.mem_singleton.2 rfl)).1;omega) (by simp;omega) (by simp;omega) hz1
    rw [List.nil_append,List.nil_append] at ho2
    obtain ⟨xA2,xcap2,rfl,hvc1,hvc2⟩:=ho2.form
    have HO2:=jj ho2
    have HG2:=jj hG2
    have hbg:Below (w.heap.size+2) C1 C2:=(zy2 _ _).grown hgr2 hz1 (fun x hx=>(HO1.out.row x (zA2.2 hx)).1)
    have hC2:Below (w.heap.size+2) W0 C2:=hC1.trans hbg
    have hzz:C1.heap.size≤C2.heap.size:=hgr2.size
    have hz2:w.heap.size+2≤C2.heap.size:=by omega
    have HV2:Hid (VR C2 v [v.c,v.n,.slice vA v.ks.length vcap] H):=VR.mono _ _ _ (fun b hb=>hbg.block b (by have:=HH.out b hb;omega)) HV1.out
    refine zA7 (P:=Try.prog) rfl _ _ 40 rfl (by rfl) (by rfl) hr2 ?_
    clear hr2 ho2 hG2 hgr2 hat2 hvc1 hvc2 hbg hzz
    (try dsimp only)
    refine hK.out _ _ (HS.out _ hC2) (fun _=>trivial) ?_
    clear hK K
    (try simp only [zz])
    refine wR (rs:=[7]) (by kernel_rfl) (by simp) ?_
    refine AllReadyB.c rfl (fun K hK=>?_) (AllReadyB.n)
    go_simp
    obtain ⟨C3,hX⟩:∃ X,X=C2.alloc (.cells #[p.va,v.c,v.n,.slice vA v.ks.length vcap] 48):=⟨_,rfl⟩
    obtain ⟨H1,hD⟩:∃ X,X=C2.heap.size:=⟨_,rfl⟩
    have hb3:Below C2 C2 C3:=by rw [hX];exact (zy2 _ _).alloc (zz8 _) _
    have KH3:Hid (Blk C3 H1 48 #[p.va,v.c,v.n,.slice vA v.ks.length vcap]):=by rw [hX,hD];exact Blk.new _ _ _
    rw [←hX,←hD]
    clear hX
    have hdge:w.heap.size+2≤H1:=by rw [hD];exact hz2
    have HO3:=jj (Own.below (fun x cs G hk h=>zA3 _ _ x cs G hk h) HO2.out hb3)
    have HDR:Hid (H1∉rowOf (.slice xA2 bs.length xcap2)):=fun h=>by have:=(HO2.out.row _ h).2;omega
    have hC3:Below (w.heap.size+2) W0 C3:=hC2.trans (hb3.mono hz2)
    have hz3:w.heap.size+2≤C3.heap.size:=Nat.le_trans hz2 hb3.size
    have HV3:=jj (HV2.out.below hb3 (HH.out.mono (by omega)))
    clear hb3 hD
    (try dsimp only)
    refine hK.out _ _ (HS.out _ hC3) (fun _=>trivial) ?_
    clear hK K
    (try simp only [zz])
    refine wR (rs:=[8]) (by kernel_rfl) (by simp) ?_
    refine AllReadyB.c rfl (fun K hK=>?_) (AllReadyB.n)
    have hy4:Arr C3 (BdR C3) [(⟨p.va,v⟩:Bd)] (.slice (some ⟨H1,0,none⟩) 1 1) (H1 :: H):=arr_bd KH3.out (BdR_of HV3.out)
    have hu4:Under C3 (H1 :: H):=fun b hb=>by
     rcases List.mem_cons.1 hb with e | e
     ·rw [e];exact KH3.out.lt
     ·have:=HH.out b e;omega
    obtain ⟨x3,C4,F3,hr4,ho4,hG4,hgr4,hat4⟩:=zAD (P:=Try.prog) 40 40 i0 _ 48 Try.underlying40 HI.out HZ0.out HZ1.out HZ2.out rfl (by decide) zAQ zA3 BdR_one HO3.out hy4 hu4 (fun x hx hxG=>by
     have hr:=(HO3.out.row x hx).1
     rcases List.mem_cons.1 hxG with e | e
     ·rw [e] at hx;exact HDR.out hx
     ·have:=HH.out x e;omega) (by simp;omega) (by simp;omega) hz3
    obtain ⟨xA3,xcap3,rfl,hvc1,hvc2⟩:=ho4.form
    have hlq:(bs ++ [(⟨p.va,v⟩:Bd)]).length=bs.length+1:=by rw [List.length_append];rfl
    rw [hlq] at ho4 hr4
    clear hlq
    have HO4:=jj ho4
    have hbg:Below (w.heap.size+2) C3 C4:=(zy2 _ _).grown hgr4 hz3 (fun x hx=>(HO3.out.row x (zA2.2 hx)).1)
    have hC4:Below (w.heap.size+2) W0 C4:=hC3.trans hbg
    have hzz:C3.heap.size≤C4.heap.size:=hgr4.size
    have hz4:w.heap.size+2≤C4.heap.size:=by omega
    have HV4:Hid (VR C4 v [v.c,v.n,.slice vA v.ks.length vcap] H):=VR.mono _ _ _ (fun b hb=>hbg.block b (by have:=HH.out b hb;omega)) HV3.out
    refine zA7 (P:=Try.prog) rfl _ _ 40 rfl (by rfl) (by rfl) hr4 ?_
    clear hr4 ho4 hG4 hgr4 hat4 hvc1 hvc2 hbg hzz hy4 hu4
    (try dsimp only)
    refine hK.out _ _ (HS.out _ hC4) (fun _=>trivial) ?_
    clear hK K
    (try simp only [zz])
    refine wV 9 rfl (HS.out _ hC4) hT0 ?_
    (try simp only [zz])
    refine wV 10 rfl (HS.out _ hC4) hT0 ?_
    (try simp only [zz])
    refine wE (by kernel_rfl) ?_
    go_wp2
    go_ret2
    exact ⟨.slice xA3 (bs.length+1) xcap3,true,_,rfl,hB0.trans (hC4.mono (by omega)),by rw [mat_2 H2_.out];rfl,⟨_,HO4.out.arr,under_ifA HO4.out⟩,fun l hl=>by
     rw [mat_2 H2_.out] at hl
     cases hl
     exact ⟨HO4.out.arr,under_ifA HO4.out⟩⟩
   ·skip
    go_simp
    obtain ⟨C5,hX⟩:∃ X,X=C1.alloc (.cells #[p.va,v.c,v.n,.slice vA v.ks.length vcap] 48):=⟨_,rfl⟩
    obtain ⟨H1,hD⟩:∃ X,X=C1.heap.size:=⟨_,rfl⟩
    have hb5:Below C1 C1 C5:=by rw [hX];exact (zy2 _ _).alloc (zz8 _) _
    have KH5:Hid (Blk C5 H1 48 #[p.va,v.c,v.n,.slice vA v.ks.length vcap]):=by rw [hX,hD];exact Blk.new _ _ _
    rw [←hX,←hD]
    clear hX
    have hdge:w.heap.size+2≤H1:=by rw [hD];exact hz1
    have HO5:=jj (Own.below (fun x cs G hk h=>zA3 _ _ x cs G hk h) HO1.out hb5)
    have hgd:g1≠H1:=by omega
    have hC5:Below (w.heap.size+2) W0 C5:=hC1.trans (hb5.mono hz1)
    have hz5:w.heap.size+2≤C5.heap.size:=Nat.le_trans hz1 hb5.size
    have HX5:Hid (Arr C5 (BdR C5) bs (.slice xA bs.length xcap) F):=HX1.out.mono (.of_below hb5 (HF.out.mono (by omega))) fun x _ cs G hk h=>zA3 _ _ x cs G hk h
    have HV5:=jj (HV1.out.below hb5 (HH.out.mono (by omega)))
    clear hb5 hD
    (try dsimp only)
    refine hK.out _ _ (HS.out _ hC5) (fun _=>trivial) ?_
    clear hK K
    (try simp only [zz])
    refine wR (rs:=[2]) (by kernel_rfl) (by simp) ?_
    refine AllReadyB.c rfl (fun K hK=>?_) (AllReadyB.n)
    obtain ⟨x2,C6,F2,hr6,ho6,hG6,hgr6,hat6⟩:=zAD (P:=Try.prog) 40 40 i0 _ 48 Try.underlying40 HI.out HZ0.out HZ1.out HZ2.out rfl (by decide) zAQ zA3 BdR_one HO5.out HX5.out (HF.out.mono (by omega)) (fun x hx hxG=>by rw [zA4,zy1] at hx;subst hx;have:=HF.out _ hxG;have:=(HO5.out.row _ (by rw [zA4];exact List.mem_singleton.2 rfl)).1;omega) (by simp;omega) (by simp;omega) hz5
    rw [List.nil_append,List.nil_append] at ho6
    obtain ⟨xA2,xcap2,rfl,hvc1,hvc2⟩:=ho6.form
    have HO6:=jj ho6
    have HG2:=jj hG6
    have hbg:Below (w.heap.size+2) C5 C6:=(zy2 _ _).grown hgr6 hz5 (fun x hx=>(HO5.out.row x (zA2.2 hx)).1)
    have hC6:Below (w.heap.size+2) W0 C6:=hC5.trans hbg
    have hzz:C5.heap.size≤C6.heap.size:=hgr6.size
    have hz6:w.heap.size+2≤C6.heap.size:=by omega
    have HV6:Hid (VR C6 v [v.c,v.n,.slice vA v.ks.length vcap] H):=VR.mono _ _ _ (fun b hb=>hbg.block b (by have:=HH.out b hb;omega)) HV5.out
    have KH6:Hid (Blk C6 H1 48 #[p.va,v.c,v.n,.slice vA v.ks.length vcap]):=KH5.out.same (hgr6.block _ KH5.out.lt (fun e=>by
     have e:some H1=some g1:=e
     cases e;exact hgd rfl))
    have HDR:Hid (H1∉rowOf (.slice xA2 bs.length xcap2)):=fun h=>by
     have hm:=zA2.1 h
     rcases hat6 with q | q
     ·rw [q] at hm
      have hm:some g1=some H1:=hm
      cases hm;exact hgd rfl
     ·rw [q] at hm
      have hm:some C5.heap.size=some H1:=hm
      have:=KH5.out.lt
      cases hm;omega
    refine zA7 (P:=Try.prog) rfl _ _ 40 rfl (by rfl) (by rfl) hr6 ?_
    clear hr6 ho6 hG6 hgr6 hat6 hvc1 hvc2 hbg hzz
    (try dsimp only)
    refine hK.out _ _ (HS.out _ hC6) (fun _=>trivial) ?_
    clear hK K
    (try simp only [zz])
    refine wR (rs:=[8]) (by kernel_rfl) (by simp) ?_
    refine AllReadyB.c rfl (fun K hK=>?_) (AllReadyB.n)
    have hy7:Arr C6 (BdR C6) [(⟨p.va,v⟩:Bd)] (.slice (some ⟨H1,0,none⟩) 1 1) (H1 :: H):=arr_bd KH6.out (BdR_of HV6.out)
    have hu7:Under C6 (H1 :: H):=fun b hb=>by
     rcases List.mem_cons.1 hb with e | e
     ·rw [e];exact KH6.out.lt
     ·have:=HH.out b e;omega
    obtain ⟨x3,C7,F3,hr7,ho7,hG7,hgr7,hat7⟩:=zAD (P:=Try.prog) 40 40 i0 _ 48 Try.underlying40 HI.out HZ0.out HZ1.out HZ2.out rfl (by decide) zAQ zA3 BdR_one HO6.out hy7 hu7 (fun x hx hxG=>by
     have hr:=(HO6.out.row x hx).1
     rcases List.mem_cons.1 hxG with e | e
     ·rw [e] at hx;exact HDR.out hx
     ·have:=HH.out x e;omega) (by simp;omega) (by simp;omega) hz6
    obtain ⟨xA3,xcap3,rfl,hvc1,hvc2⟩:=ho7.form
    have hlq:(bs ++ [(⟨p.va,v⟩:Bd)]).length=bs.length+1:=by rw [List.length_append];rfl
    rw [hlq] at ho7 hr7
    clear hlq
    have HO7:=jj ho7
    have hbg:Below (w.heap.size+2) C6 C7:=(zy2 _ _).grown hgr7 hz6 (fun x hx=>(HO6.out.row x (zA2.2 hx)).1)
    have hC7:Below (w.heap.size+2) W0 C7:=hC6.trans hbg
    have hzz:C6.heap.size≤C7.heap.size:=hgr7.size
    have hz7:w.heap.size+2≤C7.heap.size:=by omega
    have HV7:Hid (VR C7 v [v.c,v.n,.slice vA v.ks.length vcap] H):=VR.mono _ _ _ (fun b hb=>hbg.block b (by have:=HH.out b hb;omega)) HV6.out
    refine zA7 (P:=Try.prog) rfl _ _ 40 rfl (by rfl) (by rfl) hr7 ?_
    clear hr7 ho7 hG7 hgr7 hat7 hvc1 hvc2 hbg hzz hy7 hu7
    (try dsimp only)
    refine hK.out _ _ (HS.out _ hC7) (fun _=>trivial) ?_
    clear hK K
    (try simp only [zz])
    refine wV 9 rfl (HS.out _ hC7) hT0 ?_
    (try simp only [zz])
    refine wV 10 rfl (HS.out _ hC7) hT0 ?_
    (try simp only [zz])
    refine wE (by kernel_rfl) ?_
    go_wp2
    go_ret2
    exact ⟨.slice xA3 (bs.length+1) xcap3,true,_,rfl,hB0.trans (hC7.mono (by omega)),by rw [mat_2 H2_.out];rfl,⟨_,HO7.out.arr,under_ifA HO7.out⟩,fun l hl=>by
     rw [mat_2 H2_.out] at hl
     cases hl
     exact ⟨HO7.out.arr,under_ifA HO7.out⟩⟩
  ·skip
   go_simp
   obtain ⟨C8,hX⟩:∃ X,X=wd.alloc (.cells #[p.va,v.c,v.n,.slice vA v.ks.length vcap] 48):=⟨_,rfl⟩
   obtain ⟨H1,hD⟩:∃ X,X=wd.heap.size:=⟨_,rfl⟩
   have hb8:Below wd wd C8:=by rw [hX];exact (zy2 _ _).alloc (zz8 _) _
   have KH8:Hid (Blk C8 H1 48 #[p.va,v.c,v.n,.slice vA v.ks.length vcap]):=by rw [hX,hD];exact Blk.new _ _ _
   rw [←hX,←hD]
   clear hX
   have hdge:w.heap.size+2≤H1:=by rw [hD];exact hz0
   have hC8:Below (w.heap.size+2) W0 C8:=hC0.trans (hb8.mono hz0)
   have hz8:w.heap.size+2≤C8.heap.size:=Nat.le_trans hz0 hb8.size
   have HX8:Hid (Arr C8 (BdR C8) bs (.slice xA bs.length xcap) F):=HX0.out.mono (.of_below hb8 (HF.out.mono (by omega))) fun x _ cs G hk h=>zA3 _ _ x cs G hk h
   have HV8:=jj (HV0.out.below hb8 (HH.out.mono (by omega)))
   clear hb8 hD
   (try dsimp only)
   refine hK.out _ _ (HS.out _ hC8) (fun _=>trivial) ?_
   clear hK K
   (try simp only [zz])
   refine wR (rs:=[0]) (by kernel_rfl) (by simp) ?_
   refine AllReadyB.c rfl (fun K hK=>?_) (AllReadyB.n)
   go_simp
   obtain ⟨C9,hX⟩:∃ X,X=C8.alloc (.cells #[] 48):=⟨_,rfl⟩
   obtain ⟨g9,hg9⟩:∃ X,X=C8.heap.size:=⟨_,rfl⟩
   have hb9:Below C8 C8 C9:=by rw [hX];exact (zy2 _ _).alloc (zz8 _) _
   have hzz:C9.heap.size=C8.heap.size+1:=by rw [hX];simp
   have HO9:Hid (Own C9 (w.heap.size+2) 48 4 BdR ([]:List Bd) (.slice (some ⟨g9,0,none⟩) 0 0) []):=by
    rw [hX,hg9]
    exact Own.made C8 (w.heap.size+2) 48 4 BdR #[] 0 hz8 (by simp [maxLen]) rfl
   rw [←hX,←hg9]
   clear hX
   have KH9:Hid (Blk C9 H1 48 #[p.va,v.c,v.n,.slice vA v.ks.length vcap]):=KH8.out.same (hb9.block _ KH8.out.lt)
   have hgd:g9≠H1:=by have:=KH8.out.lt;omega
   have hC9:Below (w.heap.size+2) W0 C9:=hC8.trans (hb9.mono hz8)
   have hz9:w.heap.size+2≤C9.heap.size:=Nat.le_trans hz8 hb9.size
   have HX9:Hid (Arr C9 (BdR C9) bs (.slice xA bs.length xcap) F):=HX8.out.mono (.of_below hb9 (HF.out.mono (by omega))) fun x _ cs G hk h=>zA3 _ _ x cs G hk h
   have HV9:=jj (HV8.out.below hb9 (HH.out.mono (by omega)))
   have hgl:g9<C9.heap.size:=by omega
   clear hb9 hzz hg9
   (try dsimp only)
   refine hK.out _ _ (HS.out _ hC9) (fun _=>trivial) ?_
   clear hK K
   (try simp only [zz])
   refine wR (rs:=[2]) (by kernel_rfl) (by simp) ?_
   refine AllReadyB.c rfl (fun K hK=>?_) (AllReadyB.n)
   obtain ⟨x2,C10,F2,hr10,ho10,hG10,hgr10,hat10⟩:=zAD (P:=Try.prog) 40 40 i0 _ 48 Try.underlying40 HI.out HZ0.out HZ1.out HZ2.out rfl (by decide) zAQ zA3 BdR_one HO9.out HX9.out (HF.out.mono (by omega)) (fun x hx hxG=>by rw [zA4,zy1] at hx;subst hx;have:=HF.out _ hxG;have:=(HO9.out.row _ (by rw [zA4];exact List.mem_singleton.2 rfl)).1;omega) (by simp;omega) (by simp;omega) hz9
   rw [List.nil_append,List.nil_append] at ho10
   obtain ⟨xA2,xcap2,rfl,hvc1,hvc2⟩:=ho10.form
   have HO10:=jj ho10
   have HG2:=jj hG10
   have hbg:Below (w.heap.size+2) C9 C10:=(zy2 _ _).grown hgr10 hz9 (fun x hx=>(HO9.out.row x (zA2.2 hx)).1)
   have hC10:Below (w.heap.size+2) W0 C10:=hC9.trans hbg
   have hzz:C9.heap.size≤C10.heap.size:=hgr10.size
   have hz10:w.heap.size+2≤C10.heap.size:=by omega
   have HV10:Hid (VR C10 v [v.c,v.n,.slice vA v.ks.length vcap] H):=VR.mono _ _ _ (fun b hb=>hbg.block b (by have:=HH.out b hb;omega)) HV9.out
   have KH10:Hid (Blk C10 H1 48 #[p.va,v.c,v.n,.slice vA v.ks.length vcap]):=KH9.out.same (hgr10.block _ KH9.out.lt (fun e=>by
    have e:some H1=some g9:=e
    cases e;exact hgd rfl))
   have HDR:Hid (H1∉rowOf (.slice xA2 bs.length xcap2)):=fun h=>by
    have hm:=zA2.1 h
    rcases hat10 with q | q
    ·rw [q] at hm
     have hm:some g9=some H1:=hm
     cases hm;exact hgd rfl
    ·rw [q] at hm
     have hm:some C9.heap.size=some H1:=hm
     have:=KH9.out.lt
     cases hm;omega
   refine zA7 (P:=Try.prog) rfl _ _ 40 rfl (by rfl) (by rfl) hr10 ?_
   clear hr10 ho10 hG10 hgr10 hat10 hvc1 hvc2 hbg hzz
   (try dsimp only)
   refine hK.out _ _ (HS.out _ hC10) (fun _=>trivial) ?_
   clear hK K
   (try simp only [zz])
   refine wR (rs:=[8]) (by kernel_rfl) (by simp) ?_
   refine AllReadyB.c rfl (fun K hK=>?_) (AllReadyB.n)
   have hy11:Arr C10 (BdR C10) [(⟨p.va,v⟩:Bd)] (.slice (some ⟨H1,0,none⟩) 1 1) (H1 :: H):=arr_bd KH10.out (BdR_of HV10.out)
   have hu11:Under C10 (H1 :: H):=fun b hb=>by
    rcases List.mem_cons.1 hb with e | e
    ·rw [e];exact KH10.out.lt
    ·have:=HH.out b e;omega
   obtain ⟨x3,C11,F3,hr11,ho11,hG11,hgr11,hat11⟩:=zAD (P:=Try.prog) 40 40 i0 _ 48 Try.underlying40 HI.out HZ0.out HZ1.out HZ2.out rfl (by decide) zAQ zA3 BdR_one HO10.out hy11 hu11 (fun x hx hxG=>by
    have hr:=(HO10.out.row x hx).1
    rcases List.mem_cons.1 hxG with e | e
    ·rw [e] at hx;exact HDR.out hx
    ·have:=HH.out x e;omega) (by simp;omega) (by simp;omega) hz10
   obtain ⟨xA3,xcap3,rfl,hvc1,hvc2⟩:=ho11.form
   have hlq:(bs ++ [(⟨p.va,v⟩:Bd)]).length=bs.length+1:=by rw [List.length_append];rfl
   rw [hlq] at ho11 hr11
   clear hlq
   have HO11:=jj ho11
   have hbg:Below (w.heap.size+2) C10 C11:=(zy2 _ _).grown hgr11 hz10 (fun x hx=>(HO10.out.row x (zA2.2 hx)).1)
   have hC11:Below (w.heap.size+2) W0 C11:=hC10.trans hbg
   have hzz:C10.heap.size≤C11.heap.size:=hgr11.size
   have hz11:w.heap.size+2≤C11.heap.size:=by omega
   have HV11:Hid (VR C11 v [v.c,v.n,.slice vA v.ks.length vcap] H):=VR.mono _ _ _ (fun b hb=>hbg.block b (by have:=HH.out b hb;omega)) HV10.out
   refine zA7 (P:=Try.prog) rfl _ _ 40 rfl (by rfl) (by rfl) hr11 ?_
   clear hr11 ho11 hG11 hgr11 hat11 hvc1 hvc2 hbg hzz hy11 hu11
   (try dsimp only)
   refine hK.out _ _ (HS.out _ hC11) (fun _=>trivial) ?_
   clear hK K
   (try simp only [zz])
   refine wV 9 rfl (HS.out _ hC11) hT0 ?_
   (try simp only [zz])
   refine wV 10 rfl (HS.out _ hC11) hT0 ?_
   (try simp only [zz])
   refine wE (by kernel_rfl) ?_
   go_wp2
   go_ret2
   exact ⟨.slice xA3 (bs.length+1) xcap3,true,_,rfl,hB0.trans (hC11.mono (by omega)),by rw [mat_2 H2_.out];rfl,⟨_,HO11.out.arr,under_ifA HO11.out⟩,fun l hl=>by
    rw [mat_2 H2_.out] at hl
    cases hl
    exact ⟨HO11.out.arr,under_ifA HO11.out⟩⟩
 ·clear hs hfv ho hl hsk
  have q1:(p.op==1)=false:=beq_eq_false_iff_ne.2 (by omega)
  have q2:(p.op==2)=false:=beq_eq_false_iff_ne.2 (by omega)
  have q3:(p.op==3)=true:=beq_iff_eq.2 (by omega)
  have q5:(p.op==5)=false:=beq_eq_false_iff_ne.2 (by omega)
  have q6:(p.op==6)=false:=beq_eq_false_iff_ne.2 (by omega)
  have H3_:=jj h3
  clear h3
  cases hge:decide (p.n≤v.n) with
  |true =>
   cases hle:decide (v.n≤p.m) with
   |true =>
    have hwi:withinB v.n p.n p.m=true:=by unfold withinB;rw [hge,hle];rfl
    obtain ⟨y0,y1,y2,y3,y4,y5,-⟩:=KP.out.c6
    obtain ⟨u0,u1,u2,-⟩:=KV.out.c3
    have yl:=KP.out.lt
    have ul:=KV.out.lt
    go_enter Try.func37,Try.ntmps37
    go_wp2_with fail
    clear y0 y1 y2 y3 y4 y5 u0 u1 u2 yl ul
    obtain ⟨W0,hW0⟩:∃ X,X=((w.alloc (.cells #[p.op,p.ct,p.n,p.m,p.va,.slice pA p.ks.length pcap] 28)).alloc (.cells #[v.c,v.n,.slice vA v.ks.length vcap] 46)):=⟨_,rfl⟩
    rw [←hW0] at hws hB0 KP KV HX HKP HKV HV HFU HGU HHU ⊢
    clear hW0
    have hwz:w.heap.size+2≤W0.heap.size:=by omega
    have hwz1:w.heap.size<W0.heap.size:=by omega
    have hwz2:w.heap.size≤W0.heap.size:=by omega
    clear hws
    have HS:Hid (∀ C:World,Below W0 W0 C→(C.cell? ⟨w,2,none⟩=p.n∧C.cell? ⟨w,3,none⟩=p.m∧C.cell? ⟨w.heap.size+1,1,none⟩=v.n)):=fun C hb=>⟨(hb.cell (KP.out.lt)).trans ((KP.out.cell 2).trans (by simp)),(hb.cell (KP.out.lt)).trans ((KP.out.cell 3).trans (by simp)),(hb.cell (KV.out.lt)).trans ((KV.out.cell 1).trans (by simp))⟩
    have hC0:Below W0 W0 W0.drew:=(zy2 _ _).drew
    refine wpBS HS.out (T:=fun _=>True) (d:=99) (by kernel_rfl) ?_
    obtain ⟨wd,hwd⟩:∃ X,X=W0.drew:=⟨_,rfl⟩
    rw [←hwd] at hC0  ⊢
    clear hwd
    have hS0:=HS.out _ hC0
    have hT0:True:=trivial
    refine wV 0 rfl hS0 hT0 ?_
    (try simp only [zz])
    refine wV 1 rfl hS0 hT0 ?_
    (try simp only [zz])
    refine wV 2 rfl hS0 hT0 ?_
    (try simp only [zz])
    refine wV 3 rfl hS0 hT0 ?_
    (try simp only [zz])
    refine wV 4 rfl hS0 hT0 ?_
    (try simp only [zz])
    refine wV 5 rfl hS0 hT0 ?_
    (try simp only [zz])
    refine wV 6 rfl hS0 hT0 ?_
    (try simp only [zz])
    refine wV 7 rfl hS0 hT0 ?_
    (try simp only [zz])
    refine wV 8 rfl hS0 hT0 ?_
    (try simp only [zz])
    refine wV 9 rfl hS0 hT0 ?_
    (try simp only [zz])
    refine wV 10 rfl hS0 hT0 ?_
    (try simp only [zz])
    refine wV 11 rfl hS0 hT0 ?_
    (try simp only [zz])
    refine wV 12 rfl hS0 hT0 ?_
    (try simp only [zz])
    refine wV 13 rfl hS0 hT0 ?_
    (try simp only [zz])
    refine wV 14 rfl hS0 hT0 ?_
    (try simp only [zz])
    refine wE (by kernel_rfl) ?_
    clear hS0 hT0
    have hB1:=hB0.trans (hC0.mono hB0.size)
    go_wp2
    go_ret2
    exact ⟨.slice xA bs.length xcap,_,F,rfl,hB1,by rw [mat_3 H3_.out];rw [if_pos hwi];rfl,⟨_,HX.out.mono (.of_below hC0 HFU.out) fun x _ cs G hk h=>zA3 _ _ x cs G hk h,HFU.out.mono hC0.size⟩,fun l hl=>by
     rw [mat_3 H3_.out,if_pos hwi] at hl
     cases hl
     rw [List.append_nil];exact ⟨HX.out.mono (.of_below hC0 HFU.out) fun x _ cs G hk h=>zA3 _ _ x cs G hk h,HFU.out.mono hC0.size⟩⟩
   |false =>
    have hwi:withinB v.n p.n p.m=false:=by unfold withinB;rw [hge,hle];rfl
    obtain ⟨y0,y1,y2,y3,y4,y5,-⟩:=KP.out.c6
    obtain ⟨u0,u1,u2,-⟩:=KV.out.c3
    have yl:=KP.out.lt
    have ul:=KV.out.lt
    go_enter Try.func37,Try.ntmps37
    go_wp2_with fail
    clear y0 y1 y2 y3 y4 y5 u0 u1 u2 yl ul
    obtain ⟨W0,hW0⟩:∃ X,X=((w.alloc (.cells #[p.op,p.ct,p.n,p.m,p.va,.slice pA p.ks.length pcap] 28)).alloc (.cells #[v.c,v.n,.slice vA v.ks.length vcap] 46)):=⟨_,rfl⟩
    rw [←hW0] at hws hB0 KP KV HX HKP HKV HV HFU HGU HHU ⊢
    clear hW0
    have hwz:w.heap.size+2≤W0.heap.size:=by omega
    have hwz1:w.heap.size<W0.heap.size:=by omega
    have hwz2:w.heap.size≤W0.heap.size:=by omega
    clear hws
    have HS:Hid (∀ C:World,Below W0 W0 C→(C.cell? ⟨w,2,none⟩=p.n∧C.cell? ⟨w,3,none⟩=p.m∧C.cell? ⟨w.heap.size+1,1,none⟩=v.n)):=fun C hb=>⟨(hb.cell (KP.out.lt)).trans ((KP.out.cell 2).trans (by simp)),(hb.cell (KP.out.lt)).trans ((KP.out.cell 3).trans (by simp)),(hb.cell (KV.out.lt)).trans ((KV.out.cell 1).trans (by simp))⟩
    have hC0:Below W0 W0 W0.drew:=(zy2 _ _).drew
    refine wpBS HS.out (T:=fun _=>True) (d:=99) (by kernel_rfl) ?_
    obtain ⟨wd,hwd⟩:∃ X,X=W0.drew:=⟨_,rfl⟩
    rw [←hwd] at hC0  ⊢
    clear hwd
    have hS0:=HS.out _ hC0
    have hT0:True:=trivial
    refine wV 0 rfl hS0 hT0 ?_
    (try simp only [zz])
    refine wV 1 rfl hS0 hT0 ?_
    (try simp only [zz])
    refine wV 2 rfl hS0 hT0 ?_
    (try simp only [zz])
    refine wV 3 rfl hS0 hT0 ?_
    (try simp only [zz])
    refine wV 4 rfl hS0 hT0 ?_
    (try simp only [zz])
    refine wV 5 rfl hS0 hT0 ?_
    (try simp only [zz])
    refine wV 6 rfl hS0 hT0 ?_
    (try simp only [zz])
    refine wV 7 rfl hS0 hT0 ?_
    (try simp only [zz])
    refine wV 8 rfl hS0 hT0 ?_
    (try simp only [zz])
    refine wV 9 rfl hS0 hT0 ?_
    (try simp only [zz])
    refine wV 10 rfl hS0 hT0 ?_
    (try simp only [zz])
    refine wV 11 rfl hS0 hT0 ?_
    (try simp only [zz])
    refine wV 12 rfl hS0 hT0 ?_
    (try simp only [zz])
    refine wV 13 rfl hS0 hT0 ?_
    (try simp only [zz])
    refine wV 14 rfl hS0 hT0 ?_
    (try simp only [zz])
    refine wE (by kernel_rfl) ?_
    clear hS0 hT0
    have hB1:=hB0.trans (hC0.mono hB0.size)
    go_wp2
    go_ret2
    exact ⟨.slice xA bs.length xcap,_,F,rfl,hB1,by rw [mat_3 H3_.out];rw [if_neg (by simp [hwi])];rfl,⟨_,HX.out.mono (.of_below hC0 HFU.out) fun x _ cs G hk h=>zA3 _ _ x cs G hk h,HFU.out.mono hC0.size⟩,fun l hl=>by
     rw [mat_3 H3_.out,if_neg (by simp [hwi])] at hl
     cases hl
     skip⟩
  |false =>
   have hwi:withinB v.n p.n p.m=false:=by unfold withinB;rw [hge];rfl
   obtain ⟨y0,y1,y2,y3,y4,y5,-⟩:=KP.out.c6
   obtain ⟨u0,u1,u2,-⟩:=KV.out.c3
   have yl:=KP.out.lt
   have ul:=KV.out.lt
   go_enter Try.func37,Try.ntmps37
   go_wp2_with fail
   clear y0 y1 y2 y3 y4 y5 u0 u1 u2 yl ul
   obtain ⟨W0,hW0⟩:∃ X,X=((w.alloc (.cells #[p.op,p.ct,p.n,p.m,p.va,.slice pA p.ks.length pcap] 28)).alloc (.cells #[v.c,v.n,.slice vA v.ks.length vcap] 46)):=⟨_,rfl⟩
   rw [←hW0] at hws hB0 KP KV HX HKP HKV HV HFU HGU HHU ⊢
   clear hW0
   have hwz:w.heap.size+2≤W0.heap.size:=by omega
   have hwz1:w.heap.size<W0.heap.size:=by omega
   have hwz2:w.heap.size≤W0.heap.size:=by omega
   clear hws
   have HS:Hid (∀ C:World,Below W0 W0 C→(C.cell? ⟨w,2,none⟩=p.n∧C.cell? ⟨w,3,none⟩=p.m∧C.cell? ⟨w.heap.size+1,1,none⟩=v.n)):=fun C hb=>⟨(hb.cell (KP.out.lt)).trans ((KP.out.cell 2).trans (by simp)),(hb.cell (KP.out.lt)).trans ((KP.out.cell 3).trans (by simp)),(hb.cell (KV.out.lt)).trans ((KV.out.cell 1).trans (by simp))⟩
   have hC0:Below W0 W0 W0.drew:=(zy2 _ _).drew
   refine wpBS HS.out (T:=fun _=>True) (d:=99) (by kernel_rfl) ?_
   obtain ⟨wd,hwd⟩:∃ X,X=W0.drew:=⟨_,rfl⟩
   rw [←hwd] at hC0  ⊢
   clear hwd
   have hS0:=HS.out _ hC0
   have hT0:True:=trivial
   refine wV 0 rfl hS0 hT0 ?_
   (try simp only [zz])
   refine wV 1 rfl hS0 hT0 ?_
   (try simp only [zz])
   refine wV 2 rfl hS0 hT0 ?_
   (try simp only [zz])
   refine wV 3 rfl hS0 hT0 ?_
   (try simp only [zz])
   refine wV 4 rfl hS0 hT0 ?_
   (try simp only [zz])
   refine wV 5 rfl hS0 hT0 ?_
   (try simp only [zz])
   refine wV 6 rfl hS0 hT0 ?_
   (try simp only [zz])
   refine wN 7 rfl hS0 hT0 ?_
   (try simp only [zz])
   refine wN 8 rfl hS0 hT0 ?_
   (try simp only [zz])
   refine wN 9 rfl hS0 hT0 ?_
   (try simp only [zz])
   refine wN 10 rfl hS0 hT0 ?_
   (try simp only [zz])
   refine wN 11 rfl hS0 hT0 ?_
   (try simp only [zz])
   refine wV 12 rfl hS0 hT0 ?_
   (try simp only [zz])
   refine wV 13 rfl hS0 hT0 ?_
   (try simp only [zz])
   refine wV 14 rfl hS0 hT0 ?_
   (try simp only [zz])
   refine wE (by kernel_rfl) ?_
   clear hS0 hT0
   have hB1:=hB0.trans (hC0.mono hB0.size)
   go_wp2
   go_ret2
   exact ⟨.slice xA bs.length xcap,_,F,rfl,hB1,by rw [mat_3 H3_.out];rw [if_neg (by simp [hwi])];rfl,⟨_,HX.out.mono (.of_below hC0 HFU.out) fun x _ cs G hk h=>zA3 _ _ x cs G hk h,HFU.out.mono hC0.size⟩,fun l hl=>by
    rw [mat_3 H3_.out,if_neg (by simp [hwi])] at hl
    cases hl
    skip⟩
 ·clear ho hl hsk
  have hks:p.ks.length≤100000:=by
   have h1:=zAB p
   have h2:=P.sizes_eq p.ks
   omega
  cases hce:(v.c != p.ct) with
  |true =>
   have hno:P.mat p v=none:=by rw [mat_4 h4,if_neg (bne_iff_ne.1 hce)]
   have HNO:=jj hno
   clear hno
   have q1:(p.op==1)=false:=beq_eq_false_iff_ne.2 (by omega)
   have q2:(p.op==2)=false:=beq_eq_false_iff_ne.2 (by omega)
   have q3:(p.op==3)=false:=beq_eq_false_iff_ne.2 (by omega)
   have q5:(p.op==5)=false:=beq_eq_false_iff_ne.2 (by omega)
   have q6:(p.op==6)=false:=beq_eq_false_iff_ne.2 (by omega)
   have H4_:=jj h4
   clear h4
   obtain ⟨y0,y1,y2,y3,y4,y5,-⟩:=KP.out.c6
   obtain ⟨u0,u1,u2,-⟩:=KV.out.c3
   have yl:=KP.out.lt
   have ul:=KV.out.lt
   go_enter Try.func37,Try.ntmps37
   go_wp2
   go_ret2
   exact ⟨_,false,F,rfl,hB0,by rw [HNO.out];rfl,⟨_,HX.out,HFU.out⟩,fun l hl=>by rw [HNO.out] at hl;cases hl⟩
  |false =>
   have hct:v.c=p.ct:=by
    have:=bne_eq_false_iff_eq.1 hce
    exact this
   obtain ⟨hvl,hkid⟩:=ctor_kids hs hfv h4 hct
   have HKID:=jj hkid
   have HVL:=jj hvl
   have hmat:P.mat p v=P.mats p.ks v.ks:=by rw [mat_4 h4,if_pos hct]
   have HMAT:=jj hmat
   clear hkid hmat hvl hct
   have q1:(p.op==1)=false:=beq_eq_false_iff_ne.2 (by omega)
   have q2:(p.op==2)=false:=beq_eq_false_iff_ne.2 (by omega)
   have q3:(p.op==3)=false:=beq_eq_false_iff_ne.2 (by omega)
   have q5:(p.op==5)=false:=beq_eq_false_iff_ne.2 (by omega)
   have q6:(p.op==6)=false:=beq_eq_false_iff_ne.2 (by omega)
   have H4_:=jj h4
   clear h4
   obtain ⟨y0,y1,y2,y3,y4,y5,-⟩:=KP.out.c6
   obtain ⟨u0,u1,u2,-⟩:=KV.out.c3
   have yl:=KP.out.lt
   have ul:=KV.out.lt
   go_enter Try.func37,Try.ntmps37
   go_wp2
   clear y0 y1 y2 y3 y4 y5 u0 u1 u2 yl ul
   obtain ⟨W0,hW0⟩:∃ X,X=((w.alloc (.cells #[p.op,p.ct,p.n,p.m,p.va,.slice pA p.ks.length pcap] 28)).alloc (.cells #[v.c,v.n,.slice vA v.ks.length vcap] 46)):=⟨_,rfl⟩
   rw [←hW0] at hws hB0 KP KV HX HKP HKV HV HFU HGU HHU ⊢
   clear hW0
   have hwz:w.heap.size+2≤W0.heap.size:=by omega
   have hwz1:w.heap.size<W0.heap.size:=by omega
   have hwz2:w.heap.size≤W0.heap.size:=by omega
   clear hws
   go_loopw [0,10] (fun ov iv wr=>∃ (i:Nat) (li:List Bd) (Fo:List Nat),i≤p.ks.length∧iv=.int .i64 i∧Hid (P.mats (p.ks.take i) (v.ks.take i)=some li)∧li.length≤P.sizes (p.ks.take i)∧Hid (Arr wr (BdR wr) (bs ++ li) ov Fo)∧Hid (Under wr Fo)∧Below W0 W0 wr) (fun _ iv _=>p.ks.length-(intOf iv).toNat)
   case atStart=>exact ⟨0,[],F,Nat.zero_le _,rfl,by rw [List.take_zero,mats_nil];rfl,Nat.zero_le _,by rw [List.append_nil];exact HX,HFU,zy2 _ _⟩
   case round =>
    obtain ⟨i,li,Fo,hi,rfl,HMI,hll,HXr,HUr,hbr⟩:=hrel
    obtain ⟨oA,ocap,hov,-,-⟩:=HXr.out.form
    rw [List.length_append] at hov
    subst hov
    have hwr:=hbr.size
    have KPr:=jj (KP.out.same (hbr.block _ KP.out.lt))
    have KVr:=jj (KV.out.same (hbr.block _ KV.out.lt))
    obtain ⟨y0,y1,y2,y3,y4,y5,-⟩:=KPr.out.c6
    obtain ⟨u0,u1,u2,-⟩:=KVr.out.c3
    have yl:=KPr.out.lt
    have ul:=KVr.out.lt
    by_cases hlt:i<p.ks.length
    ·have hlv:i<v.ks.length:=by have:=HVL.out;omega
     obtain ⟨ai,hsi,hfi⟩:=HKID.out i hlt hlv
     obtain ⟨kb,koff,rfl⟩:=HKP.out.ptr (by omega)
     obtain ⟨vb,voff,rfl⟩:=HKV.out.ptr (by omega)
     obtain ⟨kiA,kicap,Gi,hkb,kiz0,kiz1,kiz2,kiz3,kiz4,kiz5,HKi,HGi,-,-,-⟩:=ArrP.at HKP.out HGU.out hbr i hlt
     obtain ⟨viA,vicap,Wi,hvb,viz0,viz1,viz2,HVi,HWi,-,-,-⟩:=ArrV.at HKV.out HHU.out hbr i hlv
     have hmt:=mats_take hlt hlv
     rw [HMI.out] at hmt
     have hst:=sizesP_step hlt
     have hsl:=zAH p.ks (i+1)
     have hn1:=zAB p
     have hmi:p.ks[i]∈p.ks:=List.getElem_mem hlt
     have HBAD:Hid (∀ (h:P.mats (p.ks.take (i+1)) (v.ks.take (i+1))=none),P.mat p v=none):=fun h=>by rw [HMAT.out];exact mats_bad _ _ _ h
     have HML:Hid (∀ l,P.mat p.ks[i] v.ks[i]=some l→l.length≤nodesP p.ks[i]):=fun l hl=>mat_len _ _ _ hl
     have HMT:=jj hmt
     have HSi:=jj hsi
     have HFi:=jj hfi
     clear hmt hsi hfi
     generalize p.ks[i]=ki at kiz0 kiz1 kiz2 kiz3 kiz4 kiz5 HKi hmi HML HMT HSi hst
     generalize v.ks[i]=vi at viz0 viz1 viz2 HVi HML HMT HFi
     have g1:(0:Int)≤(i:Int):=by omega
     have g2:(i:Int)<(p.ks.length:Int):=by omega
     have g3:(i:Int)<(v.ks.length:Int):=by omega
     have hwz3:W0.heap.size≤W0.heap.size:=zz8 _
     go_wp2_with fail
     clear y0 y1 y2 y3 y4 y5 u0 u1 u2 yl ul
     have HS:Hid (∀ C:World,Below wr wr C→(C.cell? ⟨w,5,none⟩=some (.slice (some ⟨kb,koff,none⟩) p.ks.length pcap)∧C.cell? ⟨w.heap.size+1,2,none⟩=some (.slice (some ⟨vb,voff,none⟩) v.ks.length vcap)∧C.cell? ⟨kb,koff+i*6,none⟩=ki.op∧C.cell? ⟨kb,koff+i*6+1,none⟩=ki.ct∧C.cell? ⟨kb,koff+i*6+2,none⟩=ki.n∧C.cell? ⟨kb,koff+i*6+3,none⟩=ki.m∧C.cell? ⟨kb,koff+i*6+4,none⟩=ki.va∧C.cell? ⟨kb,koff+i*6+5,none⟩=some (.slice kiA ki.ks.length kicap)∧C.cell? ⟨vb,voff+i*3,none⟩=vi.c∧C.cell? ⟨vb,voff+i*3+1,none⟩=vi.n∧C.cell? ⟨vb,voff+i*3+2,none⟩=some (.slice viA vi.ks.length vicap))):=fun C hb=>⟨(hb.cell (KPr.out.lt)).trans ((KPr.out.cell 5).trans (by simp)),(hb.cell (KVr.out.lt)).trans ((KVr.out.cell 2).trans (by simp)),(hb.cell (hkb)).trans kiz0,(hb.cell (hkb)).trans kiz1,(hb.cell (hkb)).trans kiz2,(hb.cell (hkb)).trans kiz3,(hb.cell (hkb)).trans kiz4,(hb.cell (hkb)).trans kiz5,(hb.cell (hvb)).trans viz0,(hb.cell (hvb)).trans viz1,(hb.cell (hvb)).trans viz2⟩
     have hC0:Below wr wr wr.drew:=(zy2 _ _).drew
     refine wpBS HS.out (T:=fun _=>True) (d:=99) (by kernel_rfl) ?_
     obtain ⟨wd,hwd⟩:∃ X,X=wr.drew:=⟨_,rfl⟩
     rw [←hwd] at hC0  ⊢
     clear hwd
     have hS0:=HS.out _ hC0
     have hT0:True:=trivial
     refine wV 0 rfl hS0 hT0 ?_
     (try simp only [zz])
     refine wV 1 rfl hS0 hT0 ?_
     (try simp only [zz])
     refine wV 2 rfl hS0 hT0 ?_
     (try simp only [zz])
     refine wV 3 rfl hS0 hT0 ?_
     (try simp only [zz])
     refine wV 4 rfl hS0 hT0 ?_
     (try simp only [zz])
     refine wV 5 rfl hS0 hT0 ?_
     (try simp only [zz])
     refine wV 6 rfl hS0 hT0 ?_
     (try simp only [zz])
     refine wV 7 rfl hS0 hT0 ?_
     (try simp only [zz])
     refine wV 8 rfl hS0 hT0 ?_
     (try simp only [zz])
     refine wV 9 rfl hS0 hT0 ?_
     (try simp only [zz])
     refine wV 10 rfl hS0 hT0 ?_
     (try simp only [zz])
     have HXd:=jj (HXr.out.mono (.of_below hC0 HUr.out) fun x _ cs G hk h=>zA3 _ _ x cs G hk h)
     have HUd:=jj (HUr.out.mono hC0.size)
     have hbd:=hbr.trans (hC0.mono hwr)
     refine w1 11 rfl fun K hK=>?_
     go_simp
     go_at_call 37
     refine (IH.out ki hmi d e xs ai vi HSi.out HFi.out wd _ (bs ++ li) _ _ _ _ _ HXd.out HUd.out (HKi.out.below hbd (HGi.out.mono hwz3)) ((HGi.out.mono hwz3).mono hbd.size) (HVi.out.below hbd (HWi.out.mono hwz3)) ((HWi.out.mono hwz3).mono hbd.size) (by rw [List.length_append];omega)).mono ?_
     rintro e C8 ⟨x8,ok8,F8,rfl,hb8,hok8,ha8,hl8⟩
     have hC1:Below wr wr C8:=hC0.trans (hb8.mono hC0.size)
     have hS1:=HS.out _ hC1
     have HL8:=jj hl8
     have HOK8:=jj hok8
     have HAR8:=jj ha8
     clear hl8 hok8 ha8
     (try dsimp only)
     refine hK.out _ _ hS1 (fun _=>trivial) ?_
     clear hK K
     (try simp only [zz])
     refine wV 12 rfl hS1 hT0 ?_
     (try simp only [zz])
     refine wV 13 rfl hS1 hT0 ?_
     (try simp only [zz])
     refine wV 14 rfl hS1 hT0 ?_
     (try simp only [zz])
     refine wV 15 rfl hS1 hT0 ?_
     (try simp only [zz])
     refine wV 16 rfl hS1 hT0 ?_
     (try simp only [zz])
     refine wE (by kernel_rfl) ?_
     clear hS0 hS1 hT0
     have hbr8:=hbr.trans (hC1.mono hwr)
     have HXO8:=jj (HXr.out.mono (.of_below hC1 HUr.out) fun x _ cs G hk h=>zA3 _ _ x cs G hk h)
     have HUO8:=jj (HUr.out.mono hC1.size)
     clear kiz0 kiz1 kiz2 kiz3 kiz4 kiz5 viz0 viz1 viz2 hkb hvb hC0 hC1
     obtain ⟨w8,hw8⟩:∃ X,X=C8:=⟨_,rfl⟩
     rw [←hw8] at hbr8 HL8 HXO8 HUO8 ⊢
     clear hw8
     cases ok8 with
     |false =>
      have hno:P.mat ki vi=none:=by
       cases hm:P.mat ki vi with
       |none=>rfl
       |some a=>have:=HOK8.out;rw [hm] at this;cases this
      have hno2:P.mat p v=none:=HBAD.out (by have:=HMT.out;rw [hno] at this;exact this)
      have HNO:=jj hno2
      have hB9:=hB0.trans (hbr8.mono hB0.size)
      clear hno hno2
      go_wp2
      go_ret2
      exact ⟨_,false,Fo,rfl,hB9,by rw [HNO.out];rfl,⟨_,HXO8.out,HUO8.out⟩,fun l hl=>by rw [HNO.out] at hl;cases hl⟩
     |true =>
      obtain ⟨a,ha⟩:∃ a,P.mat ki vi=some a:=by
       cases hm:P.mat ki vi with
       |none=>have:=HOK8.out;rw [hm] at this;cases this
       |some a=>exact ⟨a,rfl⟩
      obtain ⟨hx8,hu8⟩:=HL8.out a ha
      have hal:=HML.out a ha
      have hm2:P.mats (p.ks.take (i+1)) (v.ks.take (i+1))=some (li ++ a):=by have:=HMT.out;rw [ha] at this;exact this
      rw [List.append_assoc] at hx8
      have HX8:=jj hx8
      have HU8:=jj hu8
      have HM2:=jj hm2
      clear ha hx8 hu8 hm2
      go_wp2
      go_roundw
      case rel=>exact ⟨i+1,li ++ a,F8,by omega,by go_num,HM2,by rw [List.length_append];omega,HX8,HU8,hbr8⟩
      case measure=>(simp [intOf] <;> omega)
    ·have hm:P.mat p v=some li:=by
      have:=HMI.out
      rw [List.take_of_length_le (by omega),List.take_of_length_le (by have:=HVL.out;omega)] at this
      rw [HMAT.out,this]
     have HM:=jj hm
     have hB9:=hB0.trans (hbr.mono hB0.size)
     clear hm
     go_wp2
     go_ret2
     exact ⟨_,true,Fo,rfl,hB9,by rw [HM.out];rfl,⟨_,HXr.out,HUr.out⟩,fun l hl=>by
      rw [HM.out] at hl
      cases hl
      exact ⟨HXr.out,HUr.out⟩⟩
 ·have hty:=typesP_or (xs:=xs) (t:=t) h5
  rw [hty] at hl
  obtain ⟨k0,k1,hk0⟩:=kids_two hl
  have hl2:p.ks.length=2:=hl
  have hs0:=hsk 0 (by rw [hty];simp) (by omega)
  have hs1:=hsk 1 (by rw [hty];simp) (by omega)
  simp only [hty,hk0,zz2,zz3] at hs0 hs1
  have HS0:=jj hs0
  have HS1:=jj hs1
  have hm0:k0∈p.ks:=by rw [hk0];simp
  have hm1:k1∈p.ks:=by rw [hk0];simp
  have hnn:nodesP p=1+nodesP k0+nodesP k1:=by rw [zAB,hk0];simp only [P.sizes,nodesP];omega
  obtain ⟨kb,koff,rfl⟩:=HKP.out.ptr (by omega)
  obtain ⟨k0A,k0cap,G0,hk0b,k0z0,k0z1,k0z2,k0z3,k0z4,k0z5,HK0,HG0,-,-,-⟩:=ArrP.at HKP.out HGU.out (zy2 _ _) 0 (by omega)
  obtain ⟨k1A,k1cap,G1,-,k1z0,k1z1,k1z2,k1z3,k1z4,k1z5,HK1,HG1,-,-,-⟩:=ArrP.at HKP.out HGU.out (zy2 _ _) 1 (by omega)
  have e0:p.ks[0]'(by omega)=k0:=by simp [hk0]
  have e1:p.ks[1]'(by omega)=k1:=by simp [hk0]
  simp only [e0,e1,Nat.zero_mul,Nat.one_mul,Nat.add_zero] at k0z0 k1z0 k0z1 k1z1 k0z2 k1z2 k0z3 k1z3 k0z4 k1z4 k0z5 k1z5 HK0 HK1
  have g1:(0:Int)<(p.ks.length:Int):=by omega
  have g2:(1:Int)<(p.ks.length:Int):=by omega
  have g1n:0<p.ks.length:=by omega
  have g2n:1<p.ks.length:=by omega
  have HKL:=jj hk0
  clear hl2 hk0 e0 e1
  clear hs hfv ho hl hsk hs0 hs1 hty
  have q1:(p.op==1)=false:=beq_eq_false_iff_ne.2 (by omega)
  have q2:(p.op==2)=false:=beq_eq_false_iff_ne.2 (by omega)
  have q3:(p.op==3)=false:=beq_eq_false_iff_ne.2 (by omega)
  have q5:(p.op==5)=true:=beq_iff_eq.2 (by omega)
  have q6:(p.op==6)=false:=beq_eq_false_iff_ne.2 (by omega)
  have H5_:=jj h5
  clear h5
  obtain ⟨y0,y1,y2,y3,y4,y5,-⟩:=KP.out.c6
  obtain ⟨u0,u1,u2,-⟩:=KV.out.c3
  have yl:=KP.out.lt
  have ul:=KV.out.lt
  go_enter Try.func37,Try.ntmps37
  go_wp2_with fail
  clear y0 y1 y2 y3 y4 y5 u0 u1 u2 yl ul
  obtain ⟨W0,hW0⟩:∃ X,X=((w.alloc (.cells #[p.op,p.ct,p.n,p.m,p.va,.slice (some ⟨kb,koff,none⟩) p.ks.length pcap] 28)).alloc (.cells #[v.c,v.n,.slice vA v.ks.length vcap] 46)):=⟨_,rfl⟩
  rw [←hW0] at hws hB0 KP KV HX HKP HKV HV HFU HGU HHU k0z0 k1z0 k0z1 k1z1 k0z2 k1z2 k0z3 k1z3 k0z4 k1z4 k0z5 k1z5 HK0 HK1 HG0 HG1 hk0b ⊢
  clear hW0
  have hwz:w.heap.size+2≤W0.heap.size:=by omega
  have hwz1:w.heap.size<W0.heap.size:=by omega
  have hwz2:w.heap.size≤W0.heap.size:=by omega
  clear hws
  have HS:Hid (∀ C:World,Below W0 W0 C→(C.cell? ⟨w,5,none⟩=some (.slice (some ⟨kb,koff,none⟩) p.ks.length pcap)∧C.cell? ⟨w.heap.size+1,0,none⟩=v.c∧C.cell? ⟨w.heap.size+1,1,none⟩=v.n∧C.cell? ⟨w.heap.size+1,2,none⟩=some (.slice vA v.ks.length vcap)∧C.cell? ⟨kb,koff,none⟩=k0.op∧C.cell? ⟨kb,koff+1,none⟩=k0.ct∧C.cell? ⟨kb,koff+2,none⟩=k0.n∧C.cell? ⟨kb,koff+3,none⟩=k0.m∧C.cell? ⟨kb,koff+4,none⟩=k0.va∧C.cell? ⟨kb,koff+5,none⟩=some (.slice k0A k0.ks.length k0cap))):=fun C hb=>⟨(hb.cell (KP.out.lt)).trans ((KP.out.cell 5).trans (by simp)),(hb.cell (KV.out.lt)).trans ((KV.out.cell 0).trans (by simp)),(hb.cell (KV.out.lt)).trans ((KV.out.cell 1).trans (by simp)),(hb.cell (KV.out.lt)).trans ((KV.out.cell 2).trans (by simp)),(hb.cell (hk0b)).trans k0z0,(hb.cell (hk0b)).trans k0z1,(hb.cell (hk0b)).trans k0z2,(hb.cell (hk0b)).trans k0z3,(hb.cell (hk0b)).trans k0z4,(hb.cell (hk0b)).trans k0z5⟩
  have hC0:Below W0 W0 W0.drew:=(zy2 _ _).drew
  refine wpBS HS.out (T:=fun _=>True) (d:=99) (by kernel_rfl) ?_
  obtain ⟨wd,hwd⟩:∃ X,X=W0.drew:=⟨_,rfl⟩
  rw [←hwd] at hC0  ⊢
  clear hwd
  have hS0:=HS.out _ hC0
  have hT0:True:=trivial
  refine wV 0 rfl hS0 hT0 ?_
  (try simp only [zz])
  refine wV 1 rfl hS0 hT0 ?_
  (try simp only [zz])
  refine wV 2 rfl hS0 hT0 ?_
  (try simp only [zz])
  refine wV 3 rfl hS0 hT0 ?_
  (try simp only [zz])
  refine wV 4 rfl hS0 hT0 ?_
  (try simp only [zz])
  refine wV 5 rfl hS0 hT0 ?_
  (try simp only [zz])
  have HXd:=jj (HX.out.mono (.of_below hC0 HFU.out) fun x _ cs G hk h=>zA3 _ _ x cs G hk h)
  refine w1 6 rfl fun K hK=>?_
  go_simp
  go_at_call 37
  refine (IH.out k0 hm0 d (e+1) xs t v HS0.out HFV.out wd _ bs F _ _ _ H HXd.out (HFU.out.mono hC0.size) (HK0.out.below hC0 HG0.out) (HG0.out.mono hC0.size) (HV.out.below hC0 (HH.out.mono hwz2)) ((HH.out.mono hwz2).mono hC0.size) (by omega)).mono ?_
  rintro e C8 ⟨x8,ok8,F8,rfl,hb8,hok8,ha8,hl8⟩
  have hC1:Below W0 W0 C8:=hC0.trans (hb8.mono hC0.size)
  have hS1:=HS.out _ hC1
  have HL8:=jj hl8
  have HOK8:=jj hok8
  have HAR8:=jj ha8
  clear hl8 hok8 ha8
  (try dsimp only)
  refine hK.out _ _ hS1 (fun _=>trivial) ?_
  clear hK K
  (try simp only [zz])
  refine wV 7 rfl hS1 hT0 ?_
  (try simp only [zz])
  refine wV 8 rfl hS1 hT0 ?_
  (try simp only [zz])
  refine wV 9 rfl hS1 hT0 ?_
  (try simp only [zz])
  refine wV 10 rfl hS1 hT0 ?_
  (try simp only [zz])
  refine wV 11 rfl hS1 hT0 ?_
  (try simp only [zz])
  refine wE (by kernel_rfl) ?_
  clear hS0 hS1 hT0
  cases ok8 with
  |true =>
   have hB8:=hB0.trans (hC1.mono hB0.size)
   have hsm:∃ a,P.mat k0 v=some a:=by
    cases hm:P.mat k0 v with
    |none=>have:=HOK8.out;rw [hm] at this;cases this
    |some a=>exact ⟨a,rfl⟩
   obtain ⟨a,ha⟩:=hsm
   have HA:=jj ha
   clear ha
   go_wp2
   go_ret2
   exact ⟨x8,true,F8,rfl,hB8,by rw [mat_5 H5_.out HKL.out,HA.out];rfl,HAR8.out,fun l hl=>by
    rw [mat_5 H5_.out HKL.out,HA.out] at hl
    cases hl
    exact HL8.out a HA.out⟩
  |false =>
   have hno:P.mat k0 v=none:=by
    cases hm:P.mat k0 v with
    |none=>rfl
    |some a=>have:=HOK8.out;rw [hm] at this;cases this
   have HNO:=jj hno
   clear hno
   have KP8:=jj (KP.out.same (hC1.block _ KP.out.lt))
   have KV8:=jj (KV.out.same (hC1.block _ KV.out.lt))
   have HX8:=jj (HX.out.mono (.of_below hC1 HFU.out) fun x _ cs G hk h=>zA3 _ _ x cs G hk h)
   have HFU8:=jj (HFU.out.mono hC1.size)
   have HK1b:=jj (HK1.out.below hC1 HG1.out)
   have HG1b:=jj (HG1.out.mono hC1.size)
   have HV8:=jj (HV.out.below hC1 (HH.out.mono hwz2))
   have HH8:=jj ((HH.out.mono hwz2).mono hC1.size)
   obtain ⟨y0,y1,y2,y3,y4,y5,-⟩:=KP8.out.c6
   obtain ⟨u0,u1,u2,-⟩:=KV8.out.c3
   have yl:=KP8.out.lt
   have ul:=KV8.out.lt
   go_wp2_with fail
   clear y0 y1 y2 y3 y4 y5 u0 u1 u2 yl ul
   have hQ1:=hC1
   have HS:Hid (∀ C:World,Below C8 C8 C→(C.cell? ⟨w,5,none⟩=some (.slice (some ⟨kb,koff,none⟩) p.ks.length pcap)∧C.cell? ⟨w.heap.size+1,0,none⟩=v.c∧C.cell? ⟨w.heap.size+1,1,none⟩=v.n∧C.cell? ⟨w.heap.size+1,2,none⟩=some (.slice vA v.ks.length vcap)∧C.cell? ⟨kb,koff+6,none⟩=k1.op∧C.cell? ⟨kb,koff+6+1,none⟩=k1.ct∧C.cell? ⟨kb,koff+6+2,none⟩=k1.n∧C.cell? ⟨kb,koff+6+3,none⟩=k1.m∧C.cell? ⟨kb,koff+6+4,none⟩=k1.va∧C.cell? ⟨kb,koff+6+5,none⟩=some (.slice k1A k1.ks.length k1cap))):=fun C hb=>⟨(hb.cell (KP8.out.lt)).trans ((KP8.out.cell 5).trans (by simp)),(hb.cell (KV8.out.lt)).trans ((KV8.out.cell 0).trans (by simp)),(hb.cell (KV8.out.lt)).trans ((KV8.out.cell 1).trans (by simp)),(hb.cell (KV8.out.lt)).trans ((KV8.out.cell 2).trans (by simp)),(hb.cell ((zz9 hk0b hQ1.size))).trans ((hQ1.cell hk0b).trans k1z0),(hb.cell ((zz9 hk0b hQ1.size))).trans ((hQ1.cell hk0b).trans k1z1),(hb.cell ((zz9 hk0b hQ1.size))).trans ((hQ1.cell hk0b).trans k1z2),(hb.cell ((zz9 hk0b hQ1.size))).trans ((hQ1.cell hk0b).trans k1z3),(hb.cell ((zz9 hk0b hQ1.size))).trans ((hQ1.cell hk0b).trans k1z4),(hb.cell ((zz9 hk0b hQ1.size))).trans ((hQ1.cell hk0b).trans k1z5)⟩
   have hD0:Below C8 C8 C8.drew:=(zy2 _ _).drew
   refine wpBS HS.out (T:=fun _=>True) (d:=99) (by kernel_rfl) ?_
   obtain ⟨wd,hwd⟩:∃ X,X=C8.drew:=⟨_,rfl⟩
   rw [←hwd] at hD0  ⊢
   clear hwd
   have hS0:=HS.out _ hD0
   have hT0:True:=trivial
   refine wV 0 rfl hS0 hT0 ?_
   (try simp only [zz])
   refine wV 1 rfl hS0 hT0 ?_
   (try simp only [zz])
   refine wV 2 rfl hS0 hT0 ?_
   (try simp only [zz])
   refine wV 3 rfl hS0 hT0 ?_
   (try simp only [zz])
   refine wV 4 rfl hS0 hT0 ?_
   (try simp only [zz])
   refine wV 5 rfl hS0 hT0 ?_
   (try simp only [zz])
   have HXd2:=jj (HX8.out.mono (.of_below hD0 HFU8.out) fun x _ cs G hk h=>zA3 _ _ x cs G hk h)
   refine w1 6 rfl fun K hK=>?_
   go_simp
   go_at_call 37
   refine (IH.out k1 hm1 d (e+1) xs t v HS1.out HFV.out wd _ bs F _ _ _ H HXd2.out (HFU8.out.mono hD0.size) (HK1b.out.below hD0 HG1b.out) (HG1b.out.mono hD0.size) (HV8.out.below hD0 HH8.out) (HH8.out.mono hD0.size) (by omega)).mono ?_
   rintro e C9 ⟨x9,ok9,F9,rfl,hb9,hok9,ha9,hl9⟩
   have hD1:Below C8 C8 C9:=hD0.trans (hb9.mono hD0.size)
   have hS1:=HS.out _ hD1
   have HL9:=jj hl9
   have HOK9:=jj hok9
   have HAR9:=jj ha9
   clear hl9 hok9 ha9
   (try dsimp only)
   refine hK.out _ _ hS1 (fun _=>trivial) ?_
   clear hK K
   (try simp only [zz])
   refine wV 7 rfl hS1 hT0 ?_
   (try simp only [zz])
   refine wV 8 rfl hS1 hT0 ?_
   (try simp only [zz])
   refine wV 9 rfl hS1 hT0 ?_
   (try simp only [zz])
   refine wV 10 rfl hS1 hT0 ?_
   (try simp only [zz])
   refine wE (by kernel_rfl) ?_
   clear hS0 hS1 hT0
   have hC8:=hC1.trans (hD1.mono hC1.size)
   have hB9:=hB0.trans (hC8.mono hB0.size)
   go_wp2
   go_ret2
   exact ⟨x9,ok9,F9,rfl,hB9,by rw [HOK9.out,mat_5 H5_.out HKL.out,HNO.out],HAR9.out,fun l hl=>by
    rw [mat_5 H5_.out HKL.out,HNO.out] at hl
    exact HL9.out l hl⟩
 ·have hty:=typesP_as (xs:=xs) (t:=t) h6
  rw [hty] at hl
  obtain ⟨k0,hk0⟩:∃ k0,p.ks=[k0]:=List.length_eq_one_iff.1 hl
  have hl1:p.ks.length=1:=hl
  have hs0:=hsk 0 (by rw [hty];simp) (by omega)
  simp only [hty,hk0,zz2] at hs0
  have HSK:=jj hs0
  have hkm:k0∈p.ks:=by rw [hk0];simp
  have hnn:nodesP p=1+nodesP k0:=by rw [zAB,hk0];simp only [P.sizes,nodesP];omega
  obtain ⟨kb,koff,rfl⟩:=HKP.out.ptr (by omega)
  obtain ⟨k0A,k0cap,G0,hk0b,k0z0,k0z1,k0z2,k0z3,k0z4,k0z5,HK0,HG0,hgg0,-,-⟩:=ArrP.at HKP.out HGU.out (zy2 _ _) 0 (by omega)
  have e0:p.ks[0]'(by omega)=k0:=by simp [hk0]
  simp only [e0,Nat.zero_mul,Nat.add_zero] at k0z0 k0z1 k0z2 k0z3 k0z4 k0z5 HK0
  have hkb:kb<w.heap.size:=by
   obtain ⟨b',off',cs',G',e',hb',-⟩:=HKP.out.get PR_len (show 0<p.ks.length by omega)
   cases e'
   exact HG.out _ hb'
  have gz1:(0:Int)<(p.ks.length:Int):=by omega
  have gz2:0<p.ks.length:=by omega
  have HKL:=jj hk0
  clear hl1 hk0 e0
  clear hs hfv ho hl hsk hs0 hty
  have q1:(p.op==1)=false:=beq_eq_false_iff_ne.2 (by omega)
  have q2:(p.op==2)=false:=beq_eq_false_iff_ne.2 (by omega)
  have q3:(p.op==3)=false:=beq_eq_false_iff_ne.2 (by omega)
  have q5:(p.op==5)=false:=beq_eq_false_iff_ne.2 (by omega)
  have q6:(p.op==6)=true:=beq_iff_eq.2 (by omega)
  have H6_:=jj h6
  clear h6
  obtain ⟨y0,y1,y2,y3,y4,y5,-⟩:=KP.out.c6
  obtain ⟨u0,u1,u2,-⟩:=KV.out.c3
  have yl:=KP.out.lt
  have ul:=KV.out.lt
  go_enter Try.func37,Try.ntmps37
  go_wp2_with fail
  clear y0 y1 y2 y3 y4 y5 u0 u1 u2 yl ul
  obtain ⟨W0,hW0⟩:∃ X,X=((w.alloc (.cells #[p.op,p.ct,p.n,p.m,p.va,.slice (some ⟨kb,koff,none⟩) p.ks.length pcap] 28)).alloc (.cells #[v.c,v.n,.slice vA v.ks.length vcap] 46)):=⟨_,rfl⟩
  rw [←hW0] at hws hB0 KP KV HX HKP HKV HV HFU HGU HHU k0z0 k0z1 k0z2 k0z3 k0z4 k0z5 HK0 HG0 hk0b ⊢
  clear hW0
  have hwz:w.heap.size+2≤W0.heap.size:=by omega
  have hwz1:w.heap.size<W0.heap.size:=by omega
  have hwz2:w.heap.size≤W0.heap.size:=by omega
  clear hws
  have HKD:Hid (∀ C,Below (w.heap.size+2) W0 C→PR C k0 [k0.op,k0.ct,k0.n,k0.m,k0.va,.slice k0A k0.ks.length k0cap] G0∧Under C G0):=fun C hb=>⟨HK0.out.below hb (fun b hb'=>by have:=HG.out b (hgg0 b hb');omega),fun b hb'=>by have h1:=HG.out b (hgg0 b hb');have h2:=hb.size;omega⟩
  have HS:Hid (∀ C:World,Below (w.heap.size+2) W0 C→(C.cell? ⟨w,4,none⟩=p.va∧C.cell? ⟨w,5,none⟩=some (.slice (some ⟨kb,koff,none⟩) p.ks.length pcap)∧C.cell? ⟨w.heap.size+1,0,none⟩=v.c∧C.cell? ⟨w.heap.size+1,1,none⟩=v.n∧C.cell? ⟨w.heap.size+1,2,none⟩=some (.slice vA v.ks.length vcap)∧C.cell? ⟨kb,koff,none⟩=k0.op∧C.cell? ⟨kb,koff+1,none⟩=k0.ct∧C.cell? ⟨kb,koff+2,none⟩=k0.n∧C.cell? ⟨kb,koff+3,none⟩=k0.m∧C.cell? ⟨kb,koff+4,none⟩=k0.va∧C.cell? ⟨kb,koff+5,none⟩=some (.slice k0A k0.ks.length k0cap))):=fun C hb=>⟨((KP.out.same (hb.block _ (by omega))).cell 4).trans (by simp),((KP.out.same (hb.block _ (by omega))).cell 5).trans (by simp),((KV.out.same (hb.block _ (by omega))).cell 0).trans (by simp),((KV.out.same (hb.block _ (by omega))).cell 1).trans (by simp),((KV.out.same (hb.block _ (by omega))).cell 2).trans (by simp),(hb.cell (by show kb<w.heap.size+2;omega)).trans k0z0,(hb.cell (by show kb<w.heap.size+2;omega)).trans k0z1,(hb.cell (by show kb<w.heap.size+2;omega)).trans k0z2,(hb.cell (by show kb<w.heap.size+2;omega)).trans k0z3,(hb.cell (by show kb<w.heap.size+2;omega)).trans k0z4,(hb.cell (by show kb<w.heap.size+2;omega)).trans k0z5⟩
  have hC0:Below (w.heap.size+2) W0 W0.drew:=(zy2 _ _).drew
  have hz0:w.heap.size+2≤W0.drew.heap.size:=hwz
  have HX0:Hid (Arr W0.drew (BdR W0.drew) bs (.slice xA bs.length xcap) F):=HX.out.mono (fun _ _=>rfl) fun x _ cs G hk h=>zA3 _ _ x cs G hk h
  have HV0:Hid (VR W0.drew v [v.c,v.n,.slice vA v.ks.length vcap] H):=VR.drew HV.out
  refine wpBS HS.out (T:=fun _=>True) (d:=99) (by kernel_rfl) ?_
  obtain ⟨wd,hwd⟩:∃ X,X=W0.drew:=⟨_,rfl⟩
  rw [←hwd] at hC0 hz0 HX0 HV0 ⊢
  clear hwd
  have hS0:=HS.out _ hC0
  have hT0:True:=trivial
  refine wV 1 rfl hS0 hT0 ?_
  (try simp only [zz])
  refine wV 3 rfl hS0 hT0 ?_
  (try simp only [zz])
  refine wV 4 rfl hS0 hT0 ?_
  (try simp only [zz])
  refine wV 5 rfl hS0 hT0 ?_
  (try simp only [zz])
  refine wV 6 rfl hS0 hT0 ?_
  (try simp only [zz])
  refine wV 9 rfl hS0 hT0 ?_
  (try simp only [zz])
  refine wV 10 rfl hS0 hT0 ?_
  (try simp only [zz])
  refine wV 11 rfl hS0 hT0 ?_
  (try simp only [zz])
  refine wV 12 rfl hS0 hT0 ?_
  (try simp only [zz])
  refine wV 13 rfl hS0 hT0 ?_
  (try simp only [zz])
  refine wR (rs:=[0,7]) (by kernel_rfl) (by simp) ?_
  refine AllReadyB.c rfl (fun K hK=>?_) (AllReadyB.c rfl (fun K hK=>?_) (AllReadyB.n))
  focus
   skip
   go_simp
   obtain ⟨C1,hX⟩:∃ X,X=wd.alloc (.cells #[] 48):=⟨_,rfl⟩
   obtain ⟨g1,hg1⟩:∃ X,X=wd.heap.size:=⟨_,rfl⟩
   have hb1:Below wd wd C1:=by rw [hX];exact (zy2 _ _).alloc (zz8 _) _
   have hzz:C1.heap.size=wd.heap.size+1:=by rw [hX];simp
   have HO1:Hid (Own C1 (w.heap.size+2) 48 4 BdR ([]:List Bd) (.slice (some ⟨g1,0,none⟩) 0 0) []):=by
    rw [hX,hg1]
    exact Own.made wd (w.heap.size+2) 48 4 BdR #[] 0 hz0 (by simp [maxLen]) rfl
   rw [←hX,←hg1]
   clear hX
   have hC1:Below (w.heap.size+2) W0 C1:=hC0.trans (hb1.mono hz0)
   have hz1:w.heap.size+2≤C1.heap.size:=Nat.le_trans hz0 hb1.size
   have HX1:Hid (Arr C1 (BdR C1) bs (.slice xA bs.length xcap) F):=HX0.out.mono (.of_below hb1 (HF.out.mono (by omega))) fun x _ cs G hk h=>zA3 _ _ x cs G hk h
   have HV1:=jj (HV0.out.below hb1 (HH.out.mono (by omega)))
   have hgl:g1<C1.heap.size:=by omega
   clear hb1 hzz hg1
   (try dsimp only)
   refine hK.out _ _ (HS.out _ hC1) (fun _=>trivial) ?_
   clear hK K
   (try simp only [zz])
   refine wR (rs:=[2,7]) (by kernel_rfl) (by simp) ?_
   refine AllReadyB.c rfl (fun K hK=>?_) (AllReadyB.c rfl (fun K hK=>?_) (AllReadyB.n))
   focus
    skip
    obtain ⟨x2,C2,F2,hr2,ho2,hG2,hgr2,hat2⟩:=zAD (P:=Try.prog) 40 40 i0 _ 48 Try.underlying40 HI.out HZ0.out HZ1.out HZ2.out rfl (by decide) zAQ zA3 BdR_one HO1.out HX1.out (HF.out.mono (by omega)) (fun x hx hxG=>by rw [zA4,zy1] at hx;subst hx;have:=HF.out _ hxG;have:=(HO1.out.row _ (by rw [zA4];exact List.mem_singleton.2 rfl)).1;omega) (by simp;omega) (by simp;omega) hz1
    rw [List.nil_append,List.nil_append] at ho2
    obtain ⟨xA2,xcap2,rfl,hvc1,hvc2⟩:=ho2.form
    have HO2:=jj ho2
    have HG2:=jj hG2
    have hbg:Below (w.heap.size+2) C1 C2:=(zy2 _ _).grown hgr2 hz1 (fun x hx=>(HO1.out.row x (zA2.2 hx)).1)
    have hC2:Below (w.heap.size+2) W0 C2:=hC1.trans hbg
    have hzz:C1.heap.size≤C2.heap.size:=hgr2.size
    have hz2:w.heap.size+2≤C2.heap.size:=by omega
    have HV2:Hid (VR C2 v [v.c,v.n,.slice vA v.ks.length vcap] H):=VR.mono _ _ _ (fun b hb=>hbg.block b (by have:=HH.out b hb;omega)) HV1.out
    refine zA7 (P:=Try.prog) rfl _ _ 40 rfl (by rfl) (by rfl) hr2 ?_
    clear hr2 ho2 hG2 hgr2 hat2 hvc1 hvc2 hbg hzz
    (try dsimp only)
    refine hK.out _ _ (HS.out _ hC2) (fun _=>trivial) ?_
    clear hK K
    (try simp only [zz])
    refine wR (rs:=[7]) (by kernel_rfl) (by simp) ?_
    refine AllReadyB.c rfl (fun K hK=>?_) (AllReadyB.n)
    go_simp
    obtain ⟨C3,hX⟩:∃ X,X=C2.alloc (.cells #[p.va,v.c,v.n,.slice vA v.ks.length vcap] 48):=⟨_,rfl⟩
    obtain ⟨H1,hD⟩:∃ X,X=C2.heap.size:=⟨_,rfl⟩
    have hb3:Below C2 C2 C3:=by rw [hX];exact (zy2 _ _).alloc (zz8 _) _
    have KH3:Hid (Blk C3 H1 48 #[p.va,v.c,v.n,.slice vA v.ks.length vcap]):=by rw [hX,hD];exact Blk.new _ _ _
    rw [←hX,←hD]
    clear hX
    have hdge:w.heap.size+2≤H1:=by rw [hD];exact hz2
    have HO3:=jj (Own.below (fun x cs G hk h=>zA3 _ _ x cs G hk h) HO2.out hb3)
    have HDR:Hid (H1∉rowOf (.slice xA2 bs.length xcap2)):=fun h=>by have:=(HO2.out.row _ h).2;omega
    have hC3:Below (w.heap.size+2) W0 C3:=hC2.trans (hb3.mono hz2)
    have hz3:w.heap.size+2≤C3.heap.size:=Nat.le_trans hz2 hb3.size
    have HV3:=jj (HV2.out.below hb3 (HH.out.mono (by omega)))
    clear hb3 hD
    (try dsimp only)
    refine hK.out _ _ (HS.out _ hC3) (fun _=>trivial) ?_
    clear hK K
    (try simp only [zz])
    refine wR (rs:=[8]) (by kernel_rfl) (by simp) ?_
    refine AllReadyB.c rfl (fun K hK=>?_) (AllReadyB.n)
    have hy4:Arr C3 (BdR C3) [(⟨p.va,v⟩:Bd)] (.slice (some ⟨H1,0,none⟩) 1 1) (H1 :: H):=arr_bd KH3.out (BdR_of HV3.out)
    have hu4:Under C3 (H1 :: H):=fun b hb=>by
     rcases List.mem_cons.1 hb with e | e
     ·rw [e];exact KH3.out.lt
     ·have:=HH.out b e;omega
    obtain ⟨x3,C4,F3,hr4,ho4,hG4,hgr4,hat4⟩:=zAD (P:=Try.prog) 40 40 i0 _ 48 Try.underlying40 HI.out HZ0.out HZ1.out HZ2.out rfl (by decide) zAQ zA3 BdR_one HO3.out hy4 hu4 (fun x hx hxG=>by
     have hr:=(HO3.out.row x hx).1
     rcases List.mem_cons.1 hxG with e | e
     ·rw [e] at hx;exact HDR.out hx
     ·have:=HH.out x e;omega) (by simp;omega) (by simp;omega) hz3
    obtain ⟨xA3,xcap3,rfl,hvc1,hvc2⟩:=ho4.form
    have hlq:(bs ++ [(⟨p.va,v⟩:Bd)]).length=bs.length+1:=by rw [List.length_append];rfl
    rw [hlq] at ho4 hr4
    clear hlq
    have HO4:=jj ho4
    have hbg:Below (w.heap.size+2) C3 C4:=(zy2 _ _).grown hgr4 hz3 (fun x hx=>(HO3.out.row x (zA2.2 hx)).1)
    have hC4:Below (w.heap.size+2) W0 C4:=hC3.trans hbg
    have hzz:C3.heap.size≤C4.heap.size:=hgr4.size
    have hz4:w.heap.size+2≤C4.heap.size:=by omega
    have HV4:Hid (VR C4 v [v.c,v.n,.slice vA v.ks.length vcap] H):=VR.mono _ _ _ (fun b hb=>hbg.block b (by have:=HH.out b hb;omega)) HV3.out
    refine zA7 (P:=Try.prog) rfl _ _ 40 rfl (by rfl) (by rfl) hr4 ?_
    clear hr4 ho4 hG4 hgr4 hat4 hvc1 hvc2 hbg hzz hy4 hu4
    (try dsimp only)
    refine hK.out _ _ (HS.out _ hC4) (fun _=>trivial) ?_
    clear hK K
    (try simp only [zz])
    refine w1 14 rfl fun K hK=>?_
    go_simp
    go_at_call 37
    refine (IH.out k0 hkm d (e+1) xs t v HSK.out HFV.out C4 _ (bs ++ [(⟨p.va,v⟩:Bd)]) _ _ _ _ _ HO4.out.arr (under_ifA HO4.out) (HKD.out _ hC4).1 (HKD.out _ hC4).2 HV4.out (HH.out.mono (by omega)) (by rw [List.length_append];simp only [List.length_cons,List.length_nil];omega)).mono ?_
    rintro e2 C9 ⟨x9,ok9,F9,rfl,hb9,hok9,ha9,hl9⟩
    have hC9:Below (w.heap.size+2) W0 C9:=hC4.trans (hb9.mono hz4)
   rotate_left
   focus
    skip
    go_simp
    obtain ⟨C5,hX⟩:∃ X,X=C1.alloc (.cells #[p.va,v.c,v.n,.slice vA v.ks.length vcap] 48):=⟨_,rfl⟩
    obtain ⟨H1,hD⟩:∃ X,X=C1.heap.size:=⟨_,rfl⟩
    have hb5:Below C1 C1 C5:=by rw [hX];exact (zy2 _ _).alloc (zz8 _) _
    have KH5:Hid (Blk C5 H1 48 #[p.va,v.c,v.n,.slice vA v.ks.length vcap]):=by rw [hX,hD];exact Blk.new _ _ _
    rw [←hX,←hD]
    clear hX
    have hdge:w.heap.size+2≤H1:=by rw [hD];exact hz1
    have HO5:=jj (Own.below (fun x cs G hk h=>zA3 _ _ x cs G hk h) HO1.out hb5)
    have hgd:g1≠H1:=by omega
    have hC5:Below (w.heap.size+2) W0 C5:=hC1.trans (hb5.mono hz1)
    have hz5:w.heap.size+2≤C5.heap.size:=Nat.le_trans hz1 hb5.size
    have HX5:Hid (Arr C5 (BdR C5) bs (.slice xA bs.length xcap) F):=HX1.out.mono (.of_below hb5 (HF.out.mono (by omega))) fun x _ cs G hk h=>zA3 _ _ x cs G hk h
    have HV5:=jj (HV1.out.below hb5 (HH.out.mono (by omega)))
    clear hb5 hD
    (try dsimp only)
    refine hK.out _ _ (HS.out _ hC5) (fun _=>trivial) ?_
    clear hK K
    (try simp only [zz])
    refine wR (rs:=[2]) (by kernel_rfl) (by simp) ?_
    refine AllReadyB.c rfl (fun K hK=>?_) (AllReadyB.n)
    obtain ⟨x2,C6,F2,hr6,ho6,hG6,hgr6,hat6⟩:=zAD (P:=Try.prog) 40 40 i0 _ 48 Try.underlying40 HI.out HZ0.out HZ1.out HZ2.out rfl (by decide) zAQ zA3 BdR_one HO5.out HX5.out (HF.out.mono (by omega)) (fun x hx hxG=>by rw [zA4,zy1] at hx;subst hx;have:=HF.out _ hxG;have:=(HO5.out.row _ (by rw [zA4];exact List.mem_singleton.2 rfl)).1;omega) (by simp;omega) (by simp;omega) hz5
    rw [List.nil_append,List.nil_append] at ho6
    obtain ⟨xA2,xcap2,rfl,hvc1,hvc2⟩:=ho6.form
    have HO6:=jj ho6
    have HG2:=jj hG6
    have hbg:Below (w.heap.size+2) C5 C6:=(zy2 _ _).grown hgr6 hz5 (fun x hx=>(HO5.out.row x (zA2.2 hx)).1)
    have hC6:Below (w.heap.size+2) W0 C6:=hC5.trans hbg
    have hzz:C5.heap.size≤C6.heap.size:=hgr6.size
    have hz6:w.heap.size+2≤C6.heap.size:=by omega
    have HV6:Hid (VR C6 v [v.c,v.n,.slice vA v.ks.length vcap] H):=VR.mono _ _ _ (fun b hb=>hbg.block b (by have:=HH.out b hb;omega)) HV5.out
    have KH6:Hid (Blk C6 H1 48 #[p.va,v.c,v.n,.slice vA v.ks.length vcap]):=KH5.out.same (hgr6.block _ KH5.out.lt (fun e=>by
     have e:some H1=some g1:=e
     cases e;exact hgd rfl))
    have HDR:Hid (H1∉rowOf (.slice xA2 bs.length xcap2)):=fun h=>by
     have hm:=zA2.1 h
     rcases hat6 with q | q
     ·rw [q] at hm
      have hm:some g1=some H1:=hm
      cases hm;exact hgd rfl
     ·rw [q] at hm
      have hm:some C5.heap.size=some H1:=hm
      have:=KH5.out.lt
      cases hm;omega
    refine zA7 (P:=Try.prog) rfl _ _ 40 rfl (by rfl) (by rfl) hr6 ?_
    clear hr6 ho6 hG6 hgr6 hat6 hvc1 hvc2 hbg hzz
    (try dsimp only)
    refine hK.out _ _ (HS.out _ hC6) (fun _=>trivial) ?_
    clear hK K
    (try simp only [zz])
    refine wR (rs:=[8]) (by kernel_rfl) (by simp) ?_
    refine AllReadyB.c rfl (fun K hK=>?_) (AllReadyB.n)
    have hy7:Arr C6 (BdR C6) [(⟨p.va,v⟩:Bd)] (.slice (some ⟨H1,0,none⟩) 1 1) (H1 :: H):=arr_bd KH6.out (BdR_of HV6.out)
    have hu7:Under C6 (H1 :: H):=fun b hb=>by
     rcases List.mem_cons.1 hb with e | e
     ·rw [e];exact KH6.out.lt
     ·have:=HH.out b e;omega
    obtain ⟨x3,C7,F3,hr7,ho7,hG7,hgr7,hat7⟩:=zAD (P:=Try.prog) 40 40 i0 _ 48 Try.underlying40 HI.out HZ0.out HZ1.out HZ2.out rfl (by decide) zAQ zA3 BdR_one HO6.out hy7 hu7 (fun x hx hxG=>by
     have hr:=(HO6.out.row x hx).1
     rcases List.mem_cons.1 hxG with e | e
     ·rw [e] at hx;exact HDR.out hx
     ·have:=HH.out x e;omega) (by simp;omega) (by simp;omega) hz6
    obtain ⟨xA3,xcap3,rfl,hvc1,hvc2⟩:=ho7.form
    have hlq:(bs ++ [(⟨p.va,v⟩:Bd)]).length=bs.length+1:=by rw [List.length_append];rfl
    rw [hlq] at ho7 hr7
    clear hlq
    have HO7:=jj ho7
    have hbg:Below (w.heap.size+2) C6 C7:=(zy2 _ _).grown hgr7 hz6 (fun x hx=>(HO6.out.row x (zA2.2 hx)).1)
    have hC7:Below (w.heap.size+2) W0 C7:=hC6.trans hbg
    have hzz:C6.heap.size≤C7.heap.size:=hgr7.size
    have hz7:w.heap.size+2≤C7.heap.size:=by omega
    have HV7:Hid (VR C7 v [v.c,v.n,.slice vA v.ks.length vcap] H):=VR.mono _ _ _ (fun b hb=>hbg.block b (by have:=HH.out b hb;omega)) HV6.out
    refine zA7 (P:=Try.prog) rfl _ _ 40 rfl (by rfl) (by rfl) hr7 ?_
    clear hr7 ho7 hG7 hgr7 hat7 hvc1 hvc2 hbg hzz hy7 hu7
    (try dsimp only)
    refine hK.out _ _ (HS.out _ hC7) (fun _=>trivial) ?_
    clear hK K
    (try simp only [zz])
    refine w1 14 rfl fun K hK=>?_
    go_simp
    go_at_call 37
    refine (IH.out k0 hkm d (e+1) xs t v HSK.out HFV.out C7 _ (bs ++ [(⟨p.va,v⟩:Bd)]) _ _ _ _ _ HO7.out.arr (under_ifA HO7.out) (HKD.out _ hC7).1 (HKD.out _ hC7).2 HV7.out (HH.out.mono (by omega)) (by rw [List.length_append];simp only [List.length_cons,List.length_nil];omega)).mono ?_
    rintro e2 C9 ⟨x9,ok9,F9,rfl,hb9,hok9,ha9,hl9⟩
    have hC9:Below (w.heap.size+2) W0 C9:=hC7.trans (hb9.mono hz7)
   rotate_left
  rotate_left 2
  focus
   skip
   go_simp
   obtain ⟨C8,hX⟩:∃ X,X=wd.alloc (.cells #[p.va,v.c,v.n,.slice vA v.ks.length vcap] 48):=⟨_,rfl⟩
   obtain ⟨H1,hD⟩:∃ X,X=wd.heap.size:=⟨_,rfl⟩
   have hb8:Below wd wd C8:=by rw [hX];exact (zy2 _ _).alloc (zz8 _) _
   have KH8:Hid (Blk C8 H1 48 #[p.va,v.c,v.n,.slice vA v.ks.length vcap]):=by rw [hX,hD];exact Blk.new _ _ _
   rw [←hX,←hD]
   clear hX
   have hdge:w.heap.size+2≤H1:=by rw [hD];exact hz0
   have hC8:Below (w.heap.size+2) W0 C8:=hC0.trans (hb8.mono hz0)
   have hz8:w.heap.size+2≤C8.heap.size:=Nat.le_trans hz0 hb8.size
   have HX8:Hid (Arr C8 (BdR C8) bs (.slice xA bs.length xcap) F):=HX0.out.mono (.of_below hb8 (HF.out.mono (by omega))) fun x _ cs G hk h=>zA3 _ _ x cs G hk h
   have HV8:=jj (HV0.out.below hb8 (HH.out.mono (by omega)))
   clear hb8 hD
   (try dsimp only)
   refine hK.out _ _ (HS.out _ hC8) (fun _=>trivial) ?_
   clear hK K
   (try simp only [zz])
   refine wR (rs:=[0]) (by kernel_rfl) (by simp) ?_
   refine AllReadyB.c rfl (fun K hK=>?_) (AllReadyB.n)
   go_simp
   obtain ⟨C9,hX⟩:∃ X,X=C8.alloc (.cells #[] 48):=⟨_,rfl⟩
   obtain ⟨g9,hg9⟩:∃ X,X=C8.heap.size:=⟨_,rfl⟩
   have hb9:Below C8 C8 C9:=by rw [hX];exact (zy2 _ _).alloc (zz8 _) _
   have hzz:C9.heap.size=C8.heap.size+1:=by rw [hX];simp
   have HO9:Hid (Own C9 (w.heap.size+2) 48 4 BdR ([]:List Bd) (.slice (some ⟨g9,0,none⟩) 0 0) []):=by
    rw [hX,hg9]
    exact Own.made C8 (w.heap.size+2) 48 4 BdR #[] 0 hz8 (by simp [maxLen]) rfl
   rw [←hX,←hg9]
   clear hX
   have KH9:Hid (Blk C9 H1 48 #[p.va,v.c,v.n,.slice vA v.ks.length vcap]):=KH8.out.same (hb9.block _ KH8.out.lt)
   have hgd:g9≠H1:=by have:=KH8.out.lt;omega
   have hC9:Below (w.heap.size+2) W0 C9:=hC8.trans (hb9.mono hz8)
   have hz9:w.heap.size+2≤C9.heap.size:=Nat.le_trans hz8 hb9.size
   have HX9:Hid (Arr C9 (BdR C9) bs (.slice xA bs.length xcap) F):=HX8.out.mono (.of_below hb9 (HF.out.mono (by omega))) fun x _ cs G hk h=>zA3 _ _ x cs G hk h
   have HV9:=jj (HV8.out.below hb9 (HH.out.mono (by omega)))
   have hgl:g9<C9.heap.size:=by omega
   clear hb9 hzz hg9
   (try dsimp only)
   refine hK.out _ _ (HS.out _ hC9) (fun _=>trivial) ?_
   clear hK K
   (try simp only [zz])
   refine wR (rs:=[2]) (by kernel_rfl) (by simp) ?_
   refine AllReadyB.c rfl (fun K hK=>?_) (AllReadyB.n)
   obtain ⟨x2,C10,F2,hr10,ho10,hG10,hgr10,hat10⟩:=zAD (P:=Try.prog) 40 40 i0 _ 48 Try.underlying40 HI.out HZ0.out HZ1.out HZ2.out rfl (by decide) zAQ zA3 BdR_one HO9.out HX9.out (HF.out.mono (by omega)) (fun x hx hxG=>by rw [zA4,zy1] at hx;subst hx;have:=HF.out _ hxG;have:=(HO9.out.row _ (by rw [zA4];exact List.mem_singleton.2 rfl)).1;omega) (by simp;omega) (by simp;omega) hz9
   rw [List.nil_append,List.nil_append] at ho10
   obtain ⟨xA2,xcap2,rfl,hvc1,hvc2⟩:=ho10.form
   have HO10:=jj ho10
   have HG2:=jj hG10
   have hbg:Below (w.heap.size+2) C9 C10:=(zy2 _ _).grown hgr10 hz9 (fun x hx=>(HO9.out.row x (zA2.2 hx)).1)
   have hC10:Below (w.heap.size+2) W0 C10:=hC9.trans hbg
   have hzz:C9.heap.size≤C10.heap.size:=hgr10.size
   have hz10:w.heap.size+2≤C10.heap.size:=by omega
   have HV10:Hid (VR C10 v [v.c,v.n,.slice vA v.ks.length vcap] H):=VR.mono _ _ _ (fun b hb=>hbg.block b (by have:=HH.out b hb;omega)) HV9.out
   have KH10:Hid (Blk C10 H1 48 #[p.va,v.c,v.n,.slice vA v.ks.length vcap]):=KH9.out.same (hgr10.block _ KH9.out.lt (fun e=>by
    have e:some H1=some g9:=e
    cases e;exact hgd rfl))
   have HDR:Hid (H1∉rowOf (.slice xA2 bs.length xcap2)):=fun h=>by
    have hm:=zA2.1 h
    rcases hat10 with q | q
    ·rw [q] at hm
     have hm:some g9=some H1:=hm
     cases hm;exact hgd rfl
    ·rw [q] at hm
     have hm:some C9.heap.size=some H1:=hm
     have:=KH9.out.lt
     cases hm;omega
   refine zA7 (P:=Try.prog) rfl _ _ 40 rfl (by rfl) (by rfl) hr10 ?_
   clear hr10 ho10 hG10 hgr10 hat10 hvc1 hvc2 hbg hzz
   (try dsimp only)
   refine hK.out _ _ (HS.out _ hC10) (fun _=>trivial) ?_
   clear hK K
   (try simp only [zz])
   refine wR (rs:=[8]) (by kernel_rfl) (by simp) ?_
   refine AllReadyB.c rfl (fun K hK=>?_) (AllReadyB.n)
   have hy11:Arr C10 (BdR C10) [(⟨p.va,v⟩:Bd)] (.slice (some ⟨H1,0,none⟩) 1 1) (H1 :: H):=arr_bd KH10.out (BdR_of HV10.out)
   have hu11:Under C10 (H1 :: H):=fun b hb=>by
    rcases List.mem_cons.1 hb with e | e
    ·rw [e];exact KH10.out.lt
    ·have:=HH.out b e;omega
   obtain ⟨x3,C11,F3,hr11,ho11,hG11,hgr11,hat11⟩:=zAD (P:=Try.prog) 40 40 i0 _ 48 Try.underlying40 HI.out HZ0.out HZ1.out HZ2.out rfl (by decide) zAQ zA3 BdR_one HO10.out hy11 hu11 (fun x hx hxG=>by
    have hr:=(HO10.out.row x hx).1
    rcases List.mem_cons.1 hxG with e | e
    ·rw [e] at hx;exact HDR.out hx
    ·have:=HH.out x e;omega) (by simp;omega) (by simp;omega) hz10
   obtain ⟨xA3,xcap3,rfl,hvc1,hvc2⟩:=ho11.form
   have hlq:(bs ++ [(⟨p.va,v⟩:Bd)]).length=bs.length+1:=by rw [List.length_append];rfl
   rw [hlq] at ho11 hr11
   clear hlq
   have HO11:=jj ho11
   have hbg:Below (w.heap.size+2) C10 C11:=(zy2 _ _).grown hgr11 hz10 (fun x hx=>(HO10.out.row x (zA2.2 hx)).1)
   have hC11:Below (w.heap.size+2) W0 C11:=hC10.trans hbg
   have hzz:C10.heap.size≤C11.heap.size:=hgr11.size
   have hz11:w.heap.size+2≤C11.heap.size:=by omega
   have HV11:Hid (VR C11 v [v.c,v.n,.slice vA v.ks.length vcap] H):=VR.mono _ _ _ (fun b hb=>hbg.block b (by have:=HH.out b hb;omega)) HV10.out
   refine zA7 (P:=Try.prog) rfl _ _ 40 rfl (by rfl) (by rfl) hr11 ?_
   clear hr11 ho11 hG11 hgr11 hat11 hvc1 hvc2 hbg hzz hy11 hu11
   (try dsimp only)
   refine hK.out _ _ (HS.out _ hC11) (fun _=>trivial) ?_
   clear hK K
   (try simp only [zz])
   refine w1 14 rfl fun K hK=>?_
   go_simp
   go_at_call 37
   refine (IH.out k0 hkm d (e+1) xs t v HSK.out HFV.out C11 _ (bs ++ [(⟨p.va,v⟩:Bd)]) _ _ _ _ _ HO11.out.arr (under_ifA HO11.out) (HKD.out _ hC11).1 (HKD.out _ hC11).2 HV11.out (HH.out.mono (by omega)) (by rw [List.length_append];simp only [List.length_cons,List.length_nil];omega)).mono ?_
   rintro e2 C9 ⟨x9,ok9,F9,rfl,hb9,hok9,ha9,hl9⟩
   have hC9:Below (w.heap.size+2) W0 C9:=hC11.trans (hb9.mono hz11)
  rotate_left
  all_goals (
   have HL9:=jj hl9
   have HOK9:=jj hok9
   have HAR9:=jj ha9
   clear hl9 hok9 ha9
   (try dsimp only)
   refine hK.out _ _ (HS.out _ hC9) (fun _=>trivial) ?_
   clear hK K
   (try simp only [zz])
   refine wV 15 rfl (HS.out _ hC9) hT0 ?_
   (try simp only [zz])
   refine wV 16 rfl (HS.out _ hC9) hT0 ?_
   (try simp only [zz])
   refine wV 17 rfl (HS.out _ hC9) hT0 ?_
   (try simp only [zz])
   refine wV 18 rfl (HS.out _ hC9) hT0 ?_
   (try simp only [zz])
   refine wE (by kernel_rfl) ?_
   go_wp2
   go_ret2
   exact ⟨x9,ok9,F9,rfl,hB0.trans (hC9.mono (by omega)),by rw [HOK9.out,mat_6 H6_.out HKL.out];cases P.mat k0 v <;> rfl,HAR9.out,fun l hl=>by
    rw [mat_6 H6_.out HKL.out] at hl
    cases hm:P.mat k0 v with
    |none=>rw [hm] at hl;cases hl
    |some a =>
     rw [hm] at hl
     cases hl
     have:=HL9.out a hm
     rw [List.append_assoc] at this
     exact this⟩)
theorem spec_l3Match:∀ p,MatF p:=P.ind fun op ct n m va ks ih=>spec_l3Match_of ⟨op,ct,n,m,va,ks⟩ ih
end Go.Proofs.Ytjjclcmmfeegfaa
