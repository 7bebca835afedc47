/-
  Lemmas and contracts of functions: markText: a text for a number. Conditions: the number is between 0 and 1099511627776. markValueS: every part is written anew. Conditions: the parts are no more than 1099511627776. markBindS: every part is written anew. Conditions: the parts are no more than 1099511627776. Sizes of trees. Conditions: none. MatchPattern: how many marks its result takes; its second result named otherwise. Conditions: none. markTypeS: every part is written anew. Conditions: the parts are no more than 1099511627776. markCtorS: every part is written anew. Conditions: the parts are no more than 1099511627776. markDataS: every part is written anew. Conditions: the parts are no more than 1099511627776. markPatternS: every part is written anew. Conditions: the parts are no more than 1099511627776. heldValueS: what mark wrote is there. Conditions: the parts are no more than 1099511627776. heldBindS: what mark wrote is there. Conditions: the parts are no more than 1099511627776. What comes in as an argument (slices of structs, trees) lies in memory as the plain data say. Conditions: none. A Type that comes in as an argument lies in memory as the plain data say. Conditions: none. A Ctor that comes in as an argument lies in memory as the plain data say. Conditions: none. A Data that comes in as an argument lies in memory as the plain data say. Conditions: none. A Pattern that comes in as an argument lies in memory as the plain data say. Conditions: none. A Value that comes in as an argument lies in memory as the plain data say. Conditions: none.
-/
import Derived.Test.YtghekinfoadcoaaGreatKAB
import Derived.Test.YtghekinfoadcoaaGreatKAC
import Derived.Test.YtghekinfoadcoaaGreatChecked
import Derived.Laws.BytesArg
import Derived.Test.YtghekinfoadcoaaGreatKAA
import Derived.Deep.RegionWith
import Derived.Test.YtghekinfoadcoaaGreatKAI
import Derived.ProofKit
import Derived.ChangeArms
import Derived.Deep.Fields

set_option linter.unusedVariables false
set_option linter.unusedSimpArgs false
set_option maxRecDepth 100000
set_option maxHeartbeats 1600000

namespace Go.Proofs.YtghekinfoadcoaaGreat
open Go.RowKit
def digs (n:Nat):List UInt8:=if h:n=0 then [] else digs (n / 10) ++ [UInt8.ofNat (48+n % 10)]
termination_by n
decreasing_by omega
def mtext (k:Int):ByteArray:=if k≤0 then ⟨#[109,48]⟩ else ⟨(109 :: digs k.toNat).toArray⟩
theorem digs_zero:digs 0=[]:=by rw [digs];rfl
theorem digs_pos (n:Nat) (h:0<n):digs n=digs (n / 10) ++ [UInt8.ofNat (48+n % 10)]:=by rw [digs,dif_neg (by omega)]
theorem digs_len (n:Nat):(digs n).length≤n:=by
 induction n using Nat.strongRecOn with
 |ind n ih =>
  rcases Nat.eq_zero_or_pos n with rfl | h
  ·rw [digs_zero];exact zz8 _
  ·rw [digs_pos n h,List.length_append,List.length_singleton]
   have:=ih (n / 10) (by omega)
   omega
theorem mtext_le (k:Int) (h0:0≤k) (h:k≤1099511627776):(mtext k).size≤9223372036854775807:=by
 unfold mtext
 split
 ·decide
 ·have:=digs_len k.toNat
  show (109 :: digs k.toNat).toArray.size≤_
  rw [List.size_toArray,List.length_cons]
  omega
theorem markText_any (k:Int) (w:World) (h0:0≤k) (hk:k≤1099511627776):Calls Tryz.prog 49 #[.int .i64 k] w fun e w'=>e=.returned (.string (mtext k))∧Below w.heap.size w w':=by
 by_cases hz:k≤0
 ·have hf:Hid (mtext k=⟨#[109,48]⟩):=by unfold Hid mtext;rw [if_pos hz]
  go_enter Tryz.func49,Tryz.ntmps49
  go_wp2
  go_ret
  exact ⟨by rw [hf.out];rfl,zy2 _ _⟩
 ·obtain ⟨n0,rfl⟩:=Int.eq_ofNat_of_zero_le h0
  have hf:Hid (mtext (n0:Int)=⟨(109 :: digs n0).toArray⟩):=by unfold Hid mtext;rw [if_neg hz];rfl
  have hkn:n0≤1099511627776:=by omega
  go_enter Tryz.func49,Tryz.ntmps49
  go_wp2
  go_loopw [0,3] (fun kv ov wr=>∃ n:Nat,∃ out:ByteArray,kv=.int .i64 n∧ov=.string out∧n≤1099511627776∧Hid (digs n0=digs n ++ out.data.toList)∧out.size+n≤n0∧Below w.heap.size w wr) (fun kv _ _=>(intOf kv).toNat)
  case atStart=>exact ⟨n0,⟨#[]⟩,rfl,rfl,hkn,(show digs n0=digs n0 ++ [] from (List.append_nil _).symm),(by show 0+n0≤n0;omega),zy2 _ _⟩
  case round =>
   obtain ⟨n,out,rfl,rfl,hn,HD,hsz,hB⟩:=hrel
   by_cases hlt:0<n
   ·have g1:(0:Int)≤(n:Int):=by omega
    have g2:(0:Int)<(n:Int):=by omega
    have hcv:=conv1 wr (48+(n:Int) % 10)
    have hdg:=digs_pos n hlt
    have HD2:Hid (digs n0=digs (n / 10) ++ (strOfNums [48+(n:Int) % 10] ++ out).data.toList):=by
     unfold Hid
     rw [HD.out,hdg,data_append,strOfNums_data,List.append_assoc]
     congr 3
     all_goals (simp only [List.map_cons,List.map_nil];try (congr 2;omega))
    have hs2:(strOfNums [48+(n:Int) % 10] ++ out).size+n / 10≤n0:=by rw [size_append,strOfNums_size];simp only [List.length_singleton];omega
    have HS2:=jj hs2
    have hcat:(strOfNums [48+(n:Int) % 10]).size+out.size≤9223372036854775807:=by rw [strOfNums_size];simp only [List.length_singleton];omega
    clear hs2 hdg
    go_wp2
    go_roundw
    case rel=>exact ⟨n / 10,_,(by go_num),rfl,by omega,HD2,HS2.out,hB.alloc hB.size _⟩
    case measure=>(simp [intOf] <;> omega)
   ·obtain rfl:n=0:=by omega
    have hfin:mtext (n0:Int)=⟨#[109]⟩ ++ out:=by
     rw [hf.out]
     refine bytes_ext ?_
     rw [data_append]
     have h:=HD.out
     rw [digs_zero,List.nil_append] at h
     rw [←h]
     simp
    have HFin:=jj hfin
    clear hfin
    go_wp2
    go_ret
    exact ⟨by rw [HFin.out];rfl,hB⟩
mutual
def cntV:V→Nat
 |⟨_,_,ks⟩=>2+cntsV ks
def cntsV:List V→Nat
 |[]=>0
 |x :: xs=>cntV x+cntsV xs
end
mutual
def mkV (k:Int):V→V
 |⟨_,_,ks⟩=>⟨k,k+1,mksV (k+1+1) ks⟩
def mksV (k:Int):List V→List V
 |[]=>[]
 |x :: xs=>mkV k x :: mksV (k+cntV x) xs
end
theorem cntsV_eq (xs:List V):cntsV xs=sumBy cntV xs:=by
 induction xs with
 |nil=>rfl
 |cons x xs ih=>rw [cntsV,sumBy,ih]
theorem mksV_eq (xs:List V):∀ k,mksV k xs=mkS mkV cntV k xs:=by
 induction xs with
 |nil=>intro k;rfl
 |cons x xs ih=>intro k;rw [mksV,mkS,ih]
theorem cntV_def (x:V):cntV x=2+sumBy cntV x.ks:=by obtain ⟨a0,a1,ks⟩:=x;rw [cntV,cntsV_eq]
theorem mkV_def (k:Int) (x:V):mkV k x=⟨k,k+1,mkS mkV cntV (k+1+1) x.ks⟩:=by obtain ⟨a0,a1,ks⟩:=x;rw [mkV,mksV_eq]
theorem cntsV_le (xs:List V):sumBy cntV xs≤16*V.sizes xs:=by
 have h:∀ x:V,cntV x≤16+16*x.size:=V.ind fun a0 a1 ks ih=>by
  have h2:∀ l:List V,(∀ x∈l,cntV x≤16+16*x.size)→sumBy cntV l≤16*V.sizes l:=by
   intro l
   induction l with
   |nil=>intro _;exact Nat.zero_le _
   |cons x l ih2 =>
    intro hl
    have h3:=ih2 fun y hy=>hl y (by simp [hy])
    have h4:=hl x (by simp)
    simp only [sumBy,V.sizes]
    omega
  have h5:=h2 ks ih
  rw [cntV_def]
  show _≤16+16*V.sizes ks
  simp only
  omega
 induction xs with
 |nil=>exact Nat.zero_le _
 |cons x xs ih =>
  have h1:=h x
  simp only [sumBy,V.sizes]
  omega
def MarkV (x:V):Prop:=∀ (w:World) (v:Value) (F:List Nat) (k0:Int),0≤k0→k0+(sumBy cntV x.ks:Nat)≤1099511627776→Arr w (VR w) x.ks v F→Free w F→Under w.heap.size F →
 Calls Tryz.prog 52 #[v,.int .i64 k0] w fun e w'=>e=.returned (.int .i64 (k0+(sumBy cntV x.ks:Nat)))∧Chg F w w'∧Arr w' (VR w') (mkS mkV cntV k0 x.ks) v F∧Free w' F
theorem markValueS_of (xs:List V) (ih:∀ x∈xs,MarkV x) (w:World) (v:Value) (F:List Nat) (k0:Int) (h0:0≤k0) (hk:k0+(sumBy cntV xs:Nat)≤1099511627776) (hx:Arr w (VR w) xs v F) (hfr:Free w F) (hf:Under w.heap.size F) :
  Calls Tryz.prog 52 #[v,.int .i64 k0] w fun e w'=>e=.returned (.int .i64 (k0+(sumBy cntV xs:Nat)))∧Chg F w w'∧Arr w' (VR w') (mkS mkV cntV k0 xs) v F∧Free w' F:=by
 have HX:=jj (And.intro hx (And.intro hfr (Chg.refl F w)))
 obtain ⟨A,cap,rfl,hc1,hc2⟩:=hx.form
 have HF:=jj hf
 have HK:=jj hk
 have IH:=jj ih
 clear hx hfr hf hk ih
 go_enter Tryz.func52,Tryz.ntmps52
 go_wp2
 go_loopw [1,5] (fun kv iv wr=>∃ i:Nat,∃ m:Int,i≤xs.length∧iv=.int .i64 i∧kv=.int .i64 m∧0≤m∧Hid (m=k0+(sumBy cntV (xs.take i):Nat))∧Hid (Arr wr (VR wr) (mkTo mkV cntV k0 xs i) (.slice A xs.length cap) F∧Free wr F∧Chg F w wr)) (fun _ iv _=>xs.length-(intOf iv).toNat)
 case atStart=>exact ⟨0,k0,Nat.zero_le _,rfl,rfl,h0,(by simp [Hid,sumBy]),HX⟩
 case round =>
  obtain ⟨i,m,hi,rfl,rfl,hm0,HM,HR⟩:=hrel
  by_cases hlt:i<xs.length
  ·have g1:(0:Int)≤(i:Int):=by omega
   have g2:(i:Int)<(xs.length:Int):=by omega
   obtain ⟨b,off,c,F1,F2,F3,cap',hv,hFe,hc,hr,hfr2,hnb,hbl,hfz,hu2,hclose⟩:=HR.out.1.focus (fun w=>VR_len (w:=w)) (fun w w' x cs G hk h=>VR.mono (w:=w) (w':=w') x cs G hk h) HR.out.2.1 (HF.out.mono HR.out.2.2.size) (i:=i) (by rw [zAW];exact hlt)
   obtain rfl:A=some ⟨b,off,none⟩:=by injection hv
   rw [mkTo_get hlt] at hr
   have hsum:m+(cntV xs[i]:Nat)≤1099511627776:=by
    have h1:=HM.out
    have h2:=HK.out
    have h3:=zAH cntV xs (i+1)
    rw [zA3 cntV xs i hlt] at h3
    omega
   have HCl:=jj hclose
   have HHv:=jj hv
   have HFe:=jj hFe
   clear hclose hv hFe
   obtain ⟨kv,rfl,ha⟩:=(zAD _ _ _).1 hr
   obtain ⟨A1,cap1,rfl,-,-⟩:=ha.form
   have hcd:=cntV_def xs[i]
   rw [hcd] at hsum
   have x0:wr.cell? ⟨b,off+i*3,none⟩=some (.int .i64 xs[i].c):=hc 0 _ rfl
   have x1:wr.cell? ⟨b,off+i*3+1,none⟩=some (.int .i64 xs[i].n):=hc 1 _ rfl
   have x2:wr.cell? ⟨b,off+i*3+2,none⟩=some (.slice A1 xs[i].ks.length cap1):=hc 2 _ rfl
   clear hc
   have HA:=jj ha
   have HFr2:=jj hfr2
   have HU2:=jj hu2
   have HNB:=jj hnb
   clear ha hfr2 hu2 hnb
   have hsn:(0:Int)≤(sumBy cntV xs[i].ks:Nat):=by omega
   generalize hsg:sumBy cntV xs[i].ks=s at *
   have HSG:=jj hsg
   have HCD:=jj hcd
   clear hsg hcd
   have HFz:=jj hfz
   clear hfz
   have U0:=jj (Upd.refl b (off+i*3) 3 F2 wr)
   have K0:=jj (Kept.refl F2 wr)
   have z0:wr.frozen? ⟨b,off+i*3,none⟩=false:=(U0.out.froz _).trans (HFz.out _)
   have z1:wr.frozen? ⟨b,off+i*3+1,none⟩=false:=(U0.out.froz _).trans (HFz.out _)
   go_wp2_with fail
   have U1:=jj (U0.out.set (j:=off+i*3) (by omega) (by omega) (.int .i64 (m)))
   have K1:=jj (K0.out.set (b:=b) (j:=off+i*3) (u:=.int .i64 (m)) HNB.out)
   have y0:(wr.setCell ⟨b,off+i*3,none⟩ (.int .i64 (m))).cell? ⟨b,off+i*3,none⟩=some (.int .i64 (m)):=World.cell?_setCell_same _ _ _ x0
   have y1:=(World.cell?_setCell_other _ ⟨b,off+i*3,none⟩ ⟨b,off+i*3+1,none⟩ (.int .i64 (m)) (by intro e;injection e;omega)).trans x1
   have y2:=(World.cell?_setCell_other _ ⟨b,off+i*3,none⟩ ⟨b,off+i*3+2,none⟩ (.int .i64 (m)) (by intro e;injection e;omega)).trans x2
   clear x0 x1 x2
   have x0:=y0
   have x1:=y1
   have x2:=y2
   clear y0 y1 y2
   have U2:=jj (U1.out.set (j:=off+i*3+1) (by omega) (by omega) (.int .i64 (m+1)))
   have K2:=jj (K1.out.set (b:=b) (j:=off+i*3+1) (u:=.int .i64 (m+1)) HNB.out)
   have y0:=(World.cell?_setCell_other _ ⟨b,off+i*3+1,none⟩ ⟨b,off+i*3,none⟩ (.int .i64 (m+1)) (by intro e;injection e;omega)).trans x0
   have y1:((wr.setCell ⟨b,off+i*3,none⟩ (.int .i64 (m))).setCell ⟨b,off+i*3+1,none⟩ (.int .i64 (m+1))).cell? ⟨b,off+i*3+1,none⟩=some (.int .i64 (m+1)):=World.cell?_setCell_same _ _ _ x1
   have y2:=(World.cell?_setCell_other _ ⟨b,off+i*3+1,none⟩ ⟨b,off+i*3+2,none⟩ (.int .i64 (m+1)) (by intro e;injection e;omega)).trans x2
   clear x0 x1 x2
   have x0:=y0
   have x1:=y1
   have x2:=y2
   clear y0 y1 y2
   refine (IH.out _ (List.getElem_mem hlt) _ _ F2 (m+1+1) (by omega) (by rw [HSG.out];omega) (HA.out.mono K2.out (fun x _ cs G hk h=>(fun w w' x cs G hk h=>VR.mono (w:=w) (w':=w') x cs G hk h) _ _ x cs G hk h)) (HFr2.out.kept K2.out) (HU2.out.mono U2.out.size)).mono ?_
   rintro e v1 ⟨rfl,hg1,hm1,hfr1⟩
   have hlE1:b<((wr.setCell ⟨b,off+i*3,none⟩ (.int .i64 (m))).setCell ⟨b,off+i*3+1,none⟩ (.int .i64 (m+1))).heap.size:=zz9 hbl U2.out.size
   have U3:=jj (U2.out.sub hg1 HNB.out hlE1)
   have y0:=(World.cell?_of_block (w:=((wr.setCell ⟨b,off+i*3,none⟩ (.int .i64 (m))).setCell ⟨b,off+i*3+1,none⟩ (.int .i64 (m+1)))) (a:=⟨b,off+i*3,none⟩) (hg1.block b hlE1 HNB.out)).trans x0
   have y1:=(World.cell?_of_block (w:=((wr.setCell ⟨b,off+i*3,none⟩ (.int .i64 (m))).setCell ⟨b,off+i*3+1,none⟩ (.int .i64 (m+1)))) (a:=⟨b,off+i*3+1,none⟩) (hg1.block b hlE1 HNB.out)).trans x1
   have y2:=(World.cell?_of_block (w:=((wr.setCell ⟨b,off+i*3,none⟩ (.int .i64 (m))).setCell ⟨b,off+i*3+1,none⟩ (.int .i64 (m+1)))) (a:=⟨b,off+i*3+2,none⟩) (hg1.block b hlE1 HNB.out)).trans x2
   clear x0 x1 x2 z0 z1
   have x0:=y0
   have x1:=y1
   have x2:=y2
   clear y0 y1 y2
   have hb11:b<v1.heap.size:=zz9 hbl U3.out.size
   have z0:v1.frozen? ⟨b,off+i*3,none⟩=false:=(U3.out.froz _).trans (HFz.out _)
   have z1:v1.frozen? ⟨b,off+i*3+1,none⟩=false:=(U3.out.froz _).trans (HFz.out _)
   have HMk:=jj hm1
   have HFrk:=jj hfr1
   have hgs1:=hg1.size
   clear hm1 hfr1 hg1 hlE1
   have K3:=jj (Kept.refl F2 v1)
   rw [HSG.out]
   have X0:=jj x0
   have X1:=jj x1
   have X2:=jj x2
   have hfin:=HCl.out v1 (mkV m xs[i]) _ U3.out (CellsAt.cons X0.out (CellsAt.cons X1.out (CellsAt.cons X2.out (CellsAt.nil _ _ _)))) (by obtain rfl:=HSG.out;rw [mkV_def];exact (zAD _ _ _).2 ⟨_,rfl,(HMk.out.mono K3.out (fun x _ cs G hk h=>(fun w w' x cs G hk h=>VR.mono (w:=w) (w':=w') x cs G hk h) _ _ x cs G hk h))⟩) (HFrk.out.kept K3.out)
   have hst:(mkTo mkV cntV k0 xs i).set i (mkV m xs[i])=mkTo mkV cntV k0 xs (i+1):=by rw [HM.out];exact mkTo_step hlt
   rw [hst] at hfin
   clear hst
   have HFin:=jj (And.intro hfin.1 (And.intro hfin.2.1 (HR.out.2.2.trans hfin.2.2)))
   clear hfin
   have HM2:Hid (m+1+1+(s:Int)=k0+(sumBy cntV (xs.take (i+1)):Nat)):=by
    have h1:=HM.out
    have h2:=HCD.out
    unfold Hid
    rw [zA3 cntV xs i hlt]
    omega
   go_wp2
   go_roundw
   case rel=>exact ⟨i+1,m+1+1+(s:Int),by omega,by go_num,rfl,by omega,HM2,HFin.out⟩
   case measure=>(simp [intOf] <;> omega)
  ·have HEnd:Hid (Chg F w wr∧Arr wr (VR wr) (mkS mkV cntV k0 xs) (.slice A xs.length cap) F∧Free wr F):=by
    have h:=HR.out
    rw [mkTo_all k0 xs (by omega)] at h
    exact ⟨h.2.2,h.1,h.2.1⟩
   have hf:Hid (m=k0+(sumBy cntV xs:Nat)):=by
    have h:=HM.out
    rwa [List.take_of_length_le (by omega)] at h
   go_wp2
   go_ret
   exact ⟨zA5 hf.out,HEnd.out⟩
theorem markV_all:∀ x,MarkV x:=V.ind fun a0 a1 ks ih w v F k0 h0 hk hx hfr hf=>markValueS_of ks ih w v F k0 h0 hk hx hfr hf
theorem markValueS_any (xs:List V) (w:World) (v:Value) (F:List Nat) (k0:Int) (h0:0≤k0) (hk:k0+(sumBy cntV xs:Nat)≤1099511627776) (hx:Arr w (VR w) xs v F) (hfr:Free w F) (hf:Under w.heap.size F) :
  Calls Tryz.prog 52 #[v,.int .i64 k0] w fun e w'=>e=.returned (.int .i64 (k0+(sumBy cntV xs:Nat)))∧Chg F w w'∧Arr w' (VR w') (mkS mkV cntV k0 xs) v F∧Free w' F:=markValueS_of xs (fun x _=>markV_all x) w v F k0 h0 hk hx hfr hf
def mkTopV (k:Int) (x:V):V:=⟨x.c,x.n,mkS mkV cntV k x.ks⟩
theorem markValue_any (x:V) (w:World) (cs:List Value) (F:List Nat) (k0:Int) (h0:0≤k0) (hk:k0+(sumBy cntV x.ks:Nat)≤1099511627776) (hx:VR w x cs F) (hfr:Free w F) (hf:Under w.heap.size F) :
  Calls Tryz.prog 23 #[.agg cs.toArray,.int .i64 k0] w fun e w'=>e=.returned (.int .i64 (k0+(sumBy cntV x.ks:Nat)))∧Chg F w w'∧VR w' (mkTopV k0 x) cs F∧Free w' F:=by
 obtain ⟨kv,rfl,ha⟩:=(zAD _ _ _).1 hx
 obtain ⟨A,cap,rfl,-,-⟩:=ha.form
 have HA:=jj ha
 have HF:=jj hf
 have HFR:=jj hfr
 have HK:=jj hk
 clear hx ha hf hfr hk
 go_enter Tryz.func23,Tryz.ntmps23
 go_wp2_with fail
 obtain ⟨w1,hw1⟩:∃ w1,w1=w.alloc (.cells #[.int .i64 x.c,.int .i64 x.n,.slice A x.ks.length cap] 47):=⟨_,rfl⟩
 have hb1:Below w.heap.size w w1:=by rw [hw1];exact (zy2 _ _).alloc (zz8 _) _
 have KV:Blk w1 w.heap.size 47 #[.int .i64 x.c,.int .i64 x.n,.slice A x.ks.length cap]:=by rw [hw1];exact Blk.new _ _ _
 rw [←hw1]
 clear hw1
 have z0:w1.cell? ⟨w.heap.size,2,none⟩=some (.slice A x.ks.length cap):=(KV.cell 2).trans (by simp)
 have klt:=KV.lt
 clear KV
 go_wp2_with fail
 refine (markValueS_any x.ks w1 _ F k0 h0 HK.out (ArrV.below HA.out hb1 HF.out) (HFR.out.kept (.of_below hb1 HF.out)) (HF.out.mono hb1.size)).mono ?_
 rintro e w2 ⟨rfl,hg,hm,hfr2⟩
 have hfin:Chg F w w2∧VR w2 (mkTopV k0 x) [.int .i64 x.c,.int .i64 x.n,.slice A x.ks.length cap] F∧Free w2 F:=⟨(Chg.of_below hb1).trans hg,(zAD _ _ _).2 ⟨_,rfl,hm⟩,hfr2⟩
 have HFin:=jj hfin
 clear hfin hm hfr2 hg
 go_wp2
 go_ret
 exact ⟨rfl,HFin.out⟩
def cntBd (x:Bd):Nat:=3+sumBy cntV x.val.ks
def mkBd (k:Int) (x:Bd):Bd:=⟨k,⟨k+1,k+1+1,mkS mkV cntV (k+1+1+1) x.val.ks⟩⟩
theorem cntBd_def (x:Bd):cntBd x=3+sumBy cntV x.val.ks:=rfl
theorem markBindS_any (xs:List Bd) (w:World) (v:Value) (F:List Nat) (k0:Int) (h0:0≤k0) (hk:k0+(sumBy cntBd xs:Nat)≤1099511627776) (hx:Arr w (BdR w) xs v F) (hfr:Free w F) (hf:Under w.heap.size F) :
  Calls Tryz.prog 24 #[v,.int .i64 k0] w fun e w'=>e=.returned (.int .i64 (k0+(sumBy cntBd xs:Nat)))∧Chg F w w'∧Arr w' (BdR w') (mkS mkBd cntBd k0 xs) v F∧Free w' F:=by
 have HX:=jj (And.intro hx (And.intro hfr (Chg.refl F w)))
 obtain ⟨A,cap,rfl,hc1,hc2⟩:=hx.form
 have HF:=jj hf
 have HK:=jj hk
 clear hx hfr hf hk
 go_enter Tryz.func24,Tryz.ntmps24
 go_wp2
 go_loopw [1,5] (fun kv iv wr=>∃ i:Nat,∃ m:Int,i≤xs.length∧iv=.int .i64 i∧kv=.int .i64 m∧0≤m∧Hid (m=k0+(sumBy cntBd (xs.take i):Nat))∧Hid (Arr wr (BdR wr) (mkTo mkBd cntBd k0 xs i) (.slice A xs.length cap) F∧Free wr F∧Chg F w wr)) (fun _ iv _=>xs.length-(intOf iv).toNat)
 case atStart=>exact ⟨0,k0,Nat.zero_le _,rfl,rfl,h0,(by simp [Hid,sumBy]),HX⟩
 case round =>
  obtain ⟨i,m,hi,rfl,rfl,hm0,HM,HR⟩:=hrel
  by_cases hlt:i<xs.length
  ·have g1:(0:Int)≤(i:Int):=by omega
   have g2:(i:Int)<(xs.length:Int):=by omega
   obtain ⟨b,off,c,F1,F2,F3,cap',hv,hFe,hc,hr,hfr2,hnb,hbl,hfz,hu2,hclose⟩:=HR.out.1.focus (fun w=>BdR_len (w:=w)) (fun w w' x cs G hk h=>BdR.mono (w:=w) (w':=w') x cs G hk h) HR.out.2.1 (HF.out.mono HR.out.2.2.size) (i:=i) (by rw [zAW];exact hlt)
   obtain rfl:A=some ⟨b,off,none⟩:=by injection hv
   rw [mkTo_get hlt] at hr
   have hsum:m+(cntBd xs[i]:Nat)≤1099511627776:=by
    have h1:=HM.out
    have h2:=HK.out
    have h3:=zAH cntBd xs (i+1)
    rw [zA3 cntBd xs i hlt] at h3
    omega
   have HCl:=jj hclose
   have HHv:=jj hv
   have HFe:=jj hFe
   clear hclose hv hFe
   obtain ⟨ds,rfl,hv0⟩:=hr
   obtain ⟨kv,rfl,ha⟩:=(zAD _ _ _).1 hv0
   obtain ⟨A1,cap1,rfl,-,-⟩:=ha.form
   have hcd:=cntBd_def xs[i]
   rw [hcd] at hsum
   have x0:wr.cell? ⟨b,off+i*4,none⟩=some (.int .i64 xs[i].var):=hc 0 _ rfl
   have x1:wr.cell? ⟨b,off+i*4+1,none⟩=some (.int .i64 xs[i].val.c):=hc 1 _ rfl
   have x2:wr.cell? ⟨b,off+i*4+2,none⟩=some (.int .i64 xs[i].val.n):=hc 2 _ rfl
   have x3:wr.cell? ⟨b,off+i*4+3,none⟩=some (.slice A1 xs[i].val.ks.length cap1):=hc 3 _ rfl
   clear hc
   have HA:=jj ha
   have HFr2:=jj hfr2
   have HU2:=jj hu2
   have HNB:=jj hnb
   clear ha hfr2 hu2 hnb
   have hsn:(0:Int)≤(sumBy cntV xs[i].val.ks:Nat):=by omega
   generalize hsg:sumBy cntV xs[i].val.ks=s at *
   have HSG:=jj hsg
   have HCD:=jj hcd
   clear hsg hcd
   have HFz:=jj hfz
   clear hfz
   have U0:=jj (Upd.refl b (off+i*4) 4 F2 wr)
   have K0:=jj (Kept.refl F2 wr)
   have z0:wr.frozen? ⟨b,off+i*4,none⟩=false:=(U0.out.froz _).trans (HFz.out _)
   have z1:wr.frozen? ⟨b,off+i*4+1,none⟩=false:=(U0.out.froz _).trans (HFz.out _)
   have z2:wr.frozen? ⟨b,off+i*4+2,none⟩=false:=(U0.out.froz _).trans (HFz.out _)
   go_wp2_with fail
   have U1:=jj (U0.out.set (j:=off+i*4) (by omega) (by omega) (.int .i64 (m)))
   have K1:=jj (K0.out.set (b:=b) (j:=off+i*4) (u:=.int .i64 (m)) HNB.out)
   have y0:(wr.setCell ⟨b,off+i*4,none⟩ (.int .i64 (m))).cell? ⟨b,off+i*4,none⟩=some (.int .i64 (m)):=World.cell?_setCell_same _ _ _ x0
   have y1:=(World.cell?_setCell_other _ ⟨b,off+i*4,none⟩ ⟨b,off+i*4+1,none⟩ (.int .i64 (m)) (by intro e;injection e;omega)).trans x1
   have y2:=(World.cell?_setCell_other _ ⟨b,off+i*4,none⟩ ⟨b,off+i*4+2,none⟩ (.int .i64 (m)) (by intro e;injection e;omega)).trans x2
   have y3:=(World.cell?_setCell_other _ ⟨b,off+i*4,none⟩ ⟨b,off+i*4+3,none⟩ (.int .i64 (m)) (by intro e;injection e;omega)).trans x3
   clear x0 x1 x2 x3
   have x0:=y0
   have x1:=y1
   have x2:=y2
   have x3:=y3
   clear y0 y1 y2 y3
   have U2:=jj (U1.out.set (j:=off+i*4+1) (by omega) (by omega) (.int .i64 (m+1)))
   have K2:=jj (K1.out.set (b:=b) (j:=off+i*4+1) (u:=.int .i64 (m+1)) HNB.out)
   have y0:=(World.cell?_setCell_other _ ⟨b,off+i*4+1,none⟩ ⟨b,off+i*4,none⟩ (.int .i64 (m+1)) (by intro e;injection e;omega)).trans x0
   have y1:((wr.setCell ⟨b,off+i*4,none⟩ (.int .i64 (m))).setCell ⟨b,off+i*4+1,none⟩ (.int .i64 (m+1))).cell? ⟨b,off+i*4+1,none⟩=some (.int .i64 (m+1)):=World.cell?_setCell_same _ _ _ x1
   have y2:=(World.cell?_setCell_other _ ⟨b,off+i*4+1,none⟩ ⟨b,off+i*4+2,none⟩ (.int .i64 (m+1)) (by intro e;injection e;omega)).trans x2
   have y3:=(World.cell?_setCell_other _ ⟨b,off+i*4+1,none⟩ ⟨b,off+i*4+3,none⟩ (.int .i64 (m+1)) (by intro e;injection e;omega)).trans x3
   clear x0 x1 x2 x3
   have x0:=y0
   have x1:=y1
   have x2:=y2
   have x3:=y3
   clear y0 y1 y2 y3
   have U3:=jj (U2.out.set (j:=off+i*4+2) (by omega) (by omega) (.int .i64 (m+1+1)))
   have K3:=jj (K2.out.set (b:=b) (j:=off+i*4+2) (u:=.int .i64 (m+1+1)) HNB.out)
   have y0:=(World.cell?_setCell_other _ ⟨b,off+i*4+2,none⟩ ⟨b,off+i*4,none⟩ (.int .i64 (m+1+1)) (by intro e;injection e;omega)).trans x0
   have y1:=(World.cell?_setCell_other _ ⟨b,off+i*4+2,none⟩ ⟨b,off+i*4+1,none⟩ (.int .i64 (m+1+1)) (by intro e;injection e;omega)).trans x1
   have y2:(((wr.setCell ⟨b,off+i*4,none⟩ (.int .i64 (m))).setCell ⟨b,off+i*4+1,none⟩ (.int .i64 (m+1))).setCell ⟨b,off+i*4+2,none⟩ (.int .i64 (m+1+1))).cell? ⟨b,off+i*4+2,none⟩=some (.int .i64 (m+1+1)):=World.cell?_setCell_same _ _ _ x2
   have y3:=(World.cell?_setCell_other _ ⟨b,off+i*4+2,none⟩ ⟨b,off+i*4+3,none⟩ (.int .i64 (m+1+1)) (by intro e;injection e;omega)).trans x3
   clear x0 x1 x2 x3
   have x0:=y0
   have x1:=y1
   have x2:=y2
   have x3:=y3
   clear y0 y1 y2 y3
   refine (markValueS_any xs[i].val.ks _ _ F2 (m+1+1+1) (by omega) (by rw [HSG.out];omega) (HA.out.mono K3.out (fun x _ cs G hk h=>(fun w w' x cs G hk h=>VR.mono (w:=w) (w':=w') x cs G hk h) _ _ x cs G hk h)) (HFr2.out.kept K3.out) (HU2.out.mono U3.out.size)).mono ?_
   rintro e v1 ⟨rfl,hg1,hm1,hfr1⟩
   have hlE1:b<(((wr.setCell ⟨b,off+i*4,none⟩ (.int .i64 (m))).setCell ⟨b,off+i*4+1,none⟩ (.int .i64 (m+1))).setCell ⟨b,off+i*4+2,none⟩ (.int .i64 (m+1+1))).heap.size:=zz9 hbl U3.out.size
   have U4:=jj (U3.out.sub hg1 HNB.out hlE1)
   have y0:=(World.cell?_of_block (w:=(((wr.setCell ⟨b,off+i*4,none⟩ (.int .i64 (m))).setCell ⟨b,off+i*4+1,none⟩ (.int .i64 (m+1))).setCell ⟨b,off+i*4+2,none⟩ (.int .i64 (m+1+1)))) (a:=⟨b,off+i*4,none⟩) (hg1.block b hlE1 HNB.out)).trans x0
   have y1:=(World.cell?_of_block (w:=(((wr.setCell ⟨b,off+i*4,none⟩ (.int .i64 (m))).setCell ⟨b,off+i*4+1,none⟩ (.int .i64 (m+1))).setCell ⟨b,off+i*4+2,none⟩ (.int .i64 (m+1+1)))) (a:=⟨b,off+i*4+1,none⟩) (hg1.block b hlE1 HNB.out)).trans x1
   have y2:=(World.cell?_of_block (w:=(((wr.setCell ⟨b,off+i*4,none⟩ (.int .i64 (m))).setCell ⟨b,off+i*4+1,none⟩ (.int .i64 (m+1))).setCell ⟨b,off+i*4+2,none⟩ (.int .i64 (m+1+1)))) (a:=⟨b,off+i*4+2,none⟩) (hg1.block b hlE1 HNB.out)).trans x2
   have y3:=(World.cell?_of_block (w:=(((wr.setCell ⟨b,off+i*4,none⟩ (.int .i64 (m))).setCell ⟨b,off+i*4+1,none⟩ (.int .i64 (m+1))).setCell ⟨b,off+i*4+2,none⟩ (.int .i64 (m+1+1)))) (a:=⟨b,off+i*4+3,none⟩) (hg1.block b hlE1 HNB.out)).trans x3
   clear x0 x1 x2 x3 z0 z1 z2
   have x0:=y0
   have x1:=y1
   have x2:=y2
   have x3:=y3
   clear y0 y1 y2 y3
   have hb11:b<v1.heap.size:=zz9 hbl U4.out.size
   have z0:v1.frozen? ⟨b,off+i*4,none⟩=false:=(U4.out.froz _).trans (HFz.out _)
   have z1:v1.frozen? ⟨b,off+i*4+1,none⟩=false:=(U4.out.froz _).trans (HFz.out _)
   have z2:v1.frozen? ⟨b,off+i*4+2,none⟩=false:=(U4.out.froz _).trans (HFz.out _)
   have HMk:=jj hm1
   have HFrk:=jj hfr1
   have hgs1:=hg1.size
   clear hm1 hfr1 hg1 hlE1
   have K4:=jj (Kept.refl F2 v1)
   rw [HSG.out]
   have X0:=jj x0
   have X1:=jj x1
   have X2:=jj x2
   have X3:=jj x3
   have hfin:=HCl.out v1 (mkBd m xs[i]) _ U4.out (CellsAt.cons X0.out (CellsAt.cons X1.out (CellsAt.cons X2.out (CellsAt.cons X3.out (CellsAt.nil _ _ _))))) (by obtain rfl:=HSG.out;exact ⟨_,rfl,(zAD _ _ _).2 ⟨_,rfl,(HMk.out.mono K4.out (fun x _ cs G hk h=>(fun w w' x cs G hk h=>VR.mono (w:=w) (w':=w') x cs G hk h) _ _ x cs G hk h))⟩⟩) (HFrk.out.kept K4.out)
   have hst:(mkTo mkBd cntBd k0 xs i).set i (mkBd m xs[i])=mkTo mkBd cntBd k0 xs (i+1):=by rw [HM.out];exact mkTo_step hlt
   rw [hst] at hfin
   clear hst
   have HFin:=jj (And.intro hfin.1 (And.intro hfin.2.1 (HR.out.2.2.trans hfin.2.2)))
   clear hfin
   have HM2:Hid (m+1+1+1+(s:Int)=k0+(sumBy cntBd (xs.take (i+1)):Nat)):=by
    have h1:=HM.out
    have h2:=HCD.out
    unfold Hid
    rw [zA3 cntBd xs i hlt]
    omega
   go_wp2
   go_roundw
   case rel=>exact ⟨i+1,m+1+1+1+(s:Int),by omega,by go_num,rfl,by omega,HM2,HFin.out⟩
   case measure=>(simp [intOf] <;> omega)
  ·have HEnd:Hid (Chg F w wr∧Arr wr (BdR wr) (mkS mkBd cntBd k0 xs) (.slice A xs.length cap) F∧Free wr F):=by
    have h:=HR.out
    rw [mkTo_all k0 xs (by omega)] at h
    exact ⟨h.2.2,h.1,h.2.1⟩
   have hf:Hid (m=k0+(sumBy cntBd xs:Nat)):=by
    have h:=HM.out
    rwa [List.take_of_length_le (by omega)] at h
   go_wp2
   go_ret
   exact ⟨zA5 hf.out,HEnd.out⟩
theorem V.size_sizes (v:V):v.size=V.sizes v.ks:=by
 obtain ⟨c,n,ks⟩:=v
 rw [V.size]
theorem P.size_sizes (p:P):p.size=P.sizes p.ks:=by
 obtain ⟨op,c,n,m,a,ks⟩:=p
 rw [P.size]
theorem match_rw {P:Program} {f:FuncId} {as':Array Value} {w:World} {vs:List Bd} {b b':Bool} (h:b=b') (c:Calls P f as' w (MadeBd vs b w)):Calls P f as' w (MadeBd vs b' w):=h▸c
theorem sumBy_le {α:Type} (f:α→Nat) (n:Nat):∀ (l:List α),(∀ x∈l,f x≤n)→sumBy f l≤l.length*n
 |[],_=>by simp [sumBy]
 |x :: l,h=>by
  have h1:=sumBy_le f n l (fun y hy=>h y (by simp [hy]))
  have h2:=h x (by simp)
  rw [sumBy,List.length_cons,Nat.add_mul,Nat.one_mul]
  omega
theorem sortB_perm {l:List Bd} (hn:(l.map Bd.var).Nodup) (h0:∀ b∈l,0≤b.var∧b.var≤5):(sortB l).Perm l:=by
 have hp:=List.mergeSort_perm l (fun a b=>decide (a.var≤b.var))
 have hs:(l.mergeSort (fun a b=>decide (a.var≤b.var))).Pairwise (fun a b=>a.var≤b.var) :=
  (List.pairwise_mergeSort (le:=fun a b=>decide (a.var≤b.var)) (fun a b c h1 h2=>by simp at *;omega) (fun a b=>by simp;omega) l).imp fun h=>by simpa using h
 rw [←sorted_is hp hs hn h0]
 exact hp
theorem match_bound (xs:List Dt) (t:Ty) (p:P) (v:V) (hv:v.size≤1048576):sumBy cntBd (matchV xs t p v)≤200000000:=by
 unfold matchV
 split
 ·rename_i hb
  unfold matchB at hb
  rw [Bool.and_eq_true,Bool.and_eq_true] at hb
  obtain ⟨h1,-,h3⟩:=hb
  unfold patternValidB patOkB at h1
  simp only [Bool.and_eq_true] at h1
  obtain ⟨-,hs,-,hl⟩:=h1
  obtain ⟨l,hm⟩:=Option.isSome_iff_exists.1 h3
  obtain ⟨q1,q2,q3⟩:=mat_six (vars_range xs 10 t p hs) hs hl hm
  rw [hm]
  show sumBy cntBd (sortB l)≤_
  have hp:=sortB_perm q1 q2
  have h5:=sumBy_le cntBd 16777219 (sortB l) (fun b hb=>by
   have h6:=mat_small p v l hm b (hp.mem_iff.1 hb)
   have h7:=cntsV_le b.val.ks
   have h8:=V.size_sizes b.val
   rw [cntBd_def]
   omega)
  have h9:=hp.length_eq
  have h10:(sortB l).length*16777219≤6*16777219:=Nat.mul_le_mul_right _ (by omega)
  omega
 ·exact Nat.zero_le _
def cntTy (x:Ty):Nat:=2
def mkTy (k:Int) (x:Ty):Ty:=⟨k,k+1⟩
theorem cntTy_def (x:Ty):cntTy x=2:=rfl
theorem cntsTy_len (xs:List Ty):sumBy cntTy xs=2*xs.length:=by
 induction xs with
 |nil=>rfl
 |cons x xs ih=>simp only [sumBy,ih,List.length_cons,cntTy];omega
theorem markTypeS_any (xs:List Ty) (w:World) (v:Value) (F:List Nat) (k0:Int) (h0:0≤k0) (hk:k0+(sumBy cntTy xs:Nat)≤1099511627776) (hx:Arr w (TyR w) xs v F) (hfr:Free w F) (hf:Under w.heap.size F) :
  Calls Tryz.prog 82 #[v,.int .i64 k0] w fun e w'=>e=.returned (.int .i64 (k0+(sumBy cntTy xs:Nat)))∧Chg F w w'∧Arr w' (TyR w') (mkS mkTy cntTy k0 xs) v F∧Free w' F:=by
 have HX:=jj (And.intro hx (And.intro hfr (Chg.refl F w)))
 obtain ⟨A,cap,rfl,hc1,hc2⟩:=hx.form
 have HF:=jj hf
 have HK:=jj hk
 clear hx hfr hf hk
 go_enter Tryz.func82,Tryz.ntmps82
 go_wp2
 go_loopw [1,5] (fun kv iv wr=>∃ i:Nat,∃ m:Int,i≤xs.length∧iv=.int .i64 i∧kv=.int .i64 m∧0≤m∧Hid (m=k0+(sumBy cntTy (xs.take i):Nat))∧Hid (Arr wr (TyR wr) (mkTo mkTy cntTy k0 xs i) (.slice A xs.length cap) F∧Free wr F∧Chg F w wr)) (fun _ iv _=>xs.length-(intOf iv).toNat)
 case atStart=>exact ⟨0,k0,Nat.zero_le _,rfl,rfl,h0,(by simp [Hid,sumBy]),HX⟩
 case round =>
  obtain ⟨i,m,hi,rfl,rfl,hm0,HM,HR⟩:=hrel
  by_cases hlt:i<xs.length
  ·have g1:(0:Int)≤(i:Int):=by omega
   have g2:(i:Int)<(xs.length:Int):=by omega
   obtain ⟨b,off,c,F1,F2,F3,cap',hv,hFe,hc,hr,hfr2,hnb,hbl,hfz,hu2,hclose⟩:=HR.out.1.focus (fun w=>zAT (w:=w)) (fun w w' x cs G hk h=>TyR.mono (w:=w) (w':=w') x cs G hk h) HR.out.2.1 (HF.out.mono HR.out.2.2.size) (i:=i) (by rw [zAW];exact hlt)
   obtain rfl:A=some ⟨b,off,none⟩:=by injection hv
   rw [mkTo_get hlt] at hr
   have hsum:m+(cntTy xs[i]:Nat)≤1099511627776:=by
    have h1:=HM.out
    have h2:=HK.out
    have h3:=zAH cntTy xs (i+1)
    rw [zA3 cntTy xs i hlt] at h3
    omega
   have HCl:=jj hclose
   have HHv:=jj hv
   have HFe:=jj hFe
   clear hclose hv hFe
   obtain ⟨rfl,rfl⟩:=hr
   have hcd:=cntTy_def xs[i]
   rw [hcd] at hsum
   have x0:wr.cell? ⟨b,off+i*2,none⟩=some (.int .i64 xs[i].d):=hc 0 _ rfl
   have x1:wr.cell? ⟨b,off+i*2+1,none⟩=some (.int .i64 xs[i].i):=hc 1 _ rfl
   clear hc
   have HFr2:=jj hfr2
   have HU2:=jj hu2
   have HNB:=jj hnb
   have HCD:=jj hcd
   clear hfr2 hu2 hnb hcd
   have HFz:=jj hfz
   clear hfz
   have U0:=jj (Upd.refl b (off+i*2) 2 [] wr)
   have K0:=jj (Kept.refl [] wr)
   have z0:wr.frozen? ⟨b,off+i*2,none⟩=false:=(U0.out.froz _).trans (HFz.out _)
   have z1:wr.frozen? ⟨b,off+i*2+1,none⟩=false:=(U0.out.froz _).trans (HFz.out _)
   have X0:=jj x0
   have X1:=jj x1
   have U1:=jj (U0.out.set (j:=off+i*2) (by omega) (by omega) (.int .i64 (m)))
   have Y0:=jj (show (wr.setCell ⟨b,off+i*2,none⟩ (.int .i64 (m))).cell? ⟨b,off+i*2,none⟩=some (.int .i64 (m)) from World.cell?_setCell_same _ _ _ X0.out)
   have Y1:=jj ((World.cell?_setCell_other _ ⟨b,off+i*2,none⟩ ⟨b,off+i*2+1,none⟩ (.int .i64 (m)) (by intro e;injection e;omega)).trans X1.out)
   clear X0 X1
   have X0:=Y0
   have X1:=Y1
   clear Y0 Y1
   have U2:=jj (U1.out.set (j:=off+i*2+1) (by omega) (by omega) (.int .i64 (m+1)))
   have Y0:=jj ((World.cell?_setCell_other _ ⟨b,off+i*2+1,none⟩ ⟨b,off+i*2,none⟩ (.int .i64 (m+1)) (by intro e;injection e;omega)).trans X0.out)
   have Y1:=jj (show ((wr.setCell ⟨b,off+i*2,none⟩ (.int .i64 (m))).setCell ⟨b,off+i*2+1,none⟩ (.int .i64 (m+1))).cell? ⟨b,off+i*2+1,none⟩=some (.int .i64 (m+1)) from World.cell?_setCell_same _ _ _ X1.out)
   clear X0 X1
   have X0:=Y0
   have X1:=Y1
   clear Y0 Y1
   have hfin:=HCl.out ((wr.setCell ⟨b,off+i*2,none⟩ (.int .i64 (m))).setCell ⟨b,off+i*2+1,none⟩ (.int .i64 (m+1))) (mkTy m xs[i]) _ U2.out (CellsAt.cons X0.out (CellsAt.cons X1.out (CellsAt.nil _ _ _))) (⟨rfl,rfl⟩) (Free.nil _)
   have hst:(mkTo mkTy cntTy k0 xs i).set i (mkTy m xs[i])=mkTo mkTy cntTy k0 xs (i+1):=by rw [HM.out];exact mkTo_step hlt
   rw [hst] at hfin
   clear hst
   have HFin:=jj (And.intro hfin.1 (And.intro hfin.2.1 (HR.out.2.2.trans hfin.2.2)))
   clear hfin
   have HM2:Hid (m+1+1=k0+(sumBy cntTy (xs.take (i+1)):Nat)):=by
    have h1:=HM.out
    have h2:=HCD.out
    unfold Hid
    rw [zA3 cntTy xs i hlt]
    omega
   go_wp2
   go_roundw
   case rel=>exact ⟨i+1,m+1+1,by omega,by go_num,rfl,by omega,HM2,HFin.out⟩
   case measure=>(simp [intOf] <;> omega)
  ·have HEnd:Hid (Chg F w wr∧Arr wr (TyR wr) (mkS mkTy cntTy k0 xs) (.slice A xs.length cap) F∧Free wr F):=by
    have h:=HR.out
    rw [mkTo_all k0 xs (by omega)] at h
    exact ⟨h.2.2,h.1,h.2.1⟩
   have hf:Hid (m=k0+(sumBy cntTy xs:Nat)):=by
    have h:=HM.out
    rwa [List.take_of_length_le (by omega)] at h
   go_wp2
   go_ret
   exact ⟨zA5 hf.out,HEnd.out⟩
def cntKt (x:Kt):Nat:=2+sumBy cntTy x.args
def mkKt (k:Int) (x:Kt):Kt:=⟨mtext (k),mkS mkTy cntTy (k+1) x.args,k+1+(sumBy cntTy x.args:Nat)⟩
theorem cntKt_def (x:Kt):cntKt x=2+sumBy cntTy x.args:=rfl
theorem markCtorS_any (xs:List Kt) (w:World) (v:Value) (F:List Nat) (k0:Int) (h0:0≤k0) (hk:k0+(sumBy cntKt xs:Nat)≤1099511627776) (hx:Arr w (KtR w) xs v F) (hfr:Free w F) (hf:Under w.heap.size F) :
  Calls Tryz.prog 50 #[v,.int .i64 k0] w fun e w'=>e=.returned (.int .i64 (k0+(sumBy cntKt xs:Nat)))∧Chg F w w'∧Arr w' (KtR w') (mkS mkKt cntKt k0 xs) v F∧Free w' F:=by
 have HX:=jj (And.intro hx (And.intro hfr (Chg.refl F w)))
 obtain ⟨A,cap,rfl,hc1,hc2⟩:=hx.form
 have HF:=jj hf
 have HK:=jj hk
 clear hx hfr hf hk
 go_enter Tryz.func50,Tryz.ntmps50
 go_wp2
 go_loopw [1,5] (fun kv iv wr=>∃ i:Nat,∃ m:Int,i≤xs.length∧iv=.int .i64 i∧kv=.int .i64 m∧0≤m∧Hid (m=k0+(sumBy cntKt (xs.take i):Nat))∧Hid (Arr wr (KtR wr) (mkTo mkKt cntKt k0 xs i) (.slice A xs.length cap) F∧Free wr F∧Chg F w wr)) (fun _ iv _=>xs.length-(intOf iv).toNat)
 case atStart=>exact ⟨0,k0,Nat.zero_le _,rfl,rfl,h0,(by simp [Hid,sumBy]),HX⟩
 case round =>
  obtain ⟨i,m,hi,rfl,rfl,hm0,HM,HR⟩:=hrel
  by_cases hlt:i<xs.length
  ·have g1:(0:Int)≤(i:Int):=by omega
   have g2:(i:Int)<(xs.length:Int):=by omega
   obtain ⟨b,off,c,F1,F2,F3,cap',hv,hFe,hc,hr,hfr2,hnb,hbl,hfz,hu2,hclose⟩:=HR.out.1.focus (fun w=>KtR_len (w:=w)) (fun w w' x cs G hk h=>KtR.mono (w:=w) (w':=w') x cs G hk h) HR.out.2.1 (HF.out.mono HR.out.2.2.size) (i:=i) (by rw [zAW];exact hlt)
   obtain rfl:A=some ⟨b,off,none⟩:=by injection hv
   rw [mkTo_get hlt] at hr
   have hsum:m+(cntKt xs[i]:Nat)≤1099511627776:=by
    have h1:=HM.out
    have h2:=HK.out
    have h3:=zAH cntKt xs (i+1)
    rw [zA3 cntKt xs i hlt] at h3
    omega
   have HCl:=jj hclose
   have HHv:=jj hv
   have HFe:=jj hFe
   clear hclose hv hFe
   obtain ⟨kv,rfl,ha,hs0⟩:=hr
   obtain ⟨A1,cap1,rfl,-,-⟩:=ha.form
   have hcd:=cntKt_def xs[i]
   rw [hcd] at hsum
   have x0:wr.cell? ⟨b,off+i*3,none⟩=some (.string xs[i].name):=hc 0 _ rfl
   have x1:wr.cell? ⟨b,off+i*3+1,none⟩=some (.slice A1 xs[i].args.length cap1):=hc 1 _ rfl
   have x2:wr.cell? ⟨b,off+i*3+2,none⟩=some (.int .i64 xs[i].idx):=hc 2 _ rfl
   clear hc
   have HA:=jj ha
   have HFr2:=jj hfr2
   have HU2:=jj hu2
   have HNB:=jj hnb
   clear ha hfr2 hu2 hnb
   have hsn:(0:Int)≤(sumBy cntTy xs[i].args:Nat):=by omega
   generalize hsg:sumBy cntTy xs[i].args=s at *
   have HSG:=jj hsg
   have HCD:=jj hcd
   clear hsg hcd
   have HFz:=jj hfz
   clear hfz
   have U0:=jj (Upd.refl b (off+i*3) 3 F2 wr)
   have K0:=jj (Kept.refl F2 wr)
   have z0:wr.frozen? ⟨b,off+i*3,none⟩=false:=(U0.out.froz _).trans (HFz.out _)
   have z2:wr.frozen? ⟨b,off+i*3+2,none⟩=false:=(U0.out.froz _).trans (HFz.out _)
   go_wp2_with fail
   refine (markText_any (m) _ (by omega) (by omega)).mono ?_
   rintro e v1 ⟨rfl,hb1⟩
   have hlE1:b<wr.heap.size:=zz9 hbl U0.out.size
   have U1:=jj (U0.out.below hb1 hlE1)
   have K1:=jj (K0.out.step hb1 (HU2.out.mono U0.out.size))
   have y0:=(hb1.cell (p:=⟨b,off+i*3,none⟩) hlE1).trans x0
   have y1:=(hb1.cell (p:=⟨b,off+i*3+1,none⟩) hlE1).trans x1
   have y2:=(hb1.cell (p:=⟨b,off+i*3+2,none⟩) hlE1).trans x2
   clear x0 x1 x2 z0 z2
   have x0:=y0
   have x1:=y1
   have x2:=y2
   clear y0 y1 y2
   have hb11:b<v1.heap.size:=zz9 hbl U1.out.size
   have z0:v1.frozen? ⟨b,off+i*3,none⟩=false:=(U1.out.froz _).trans (HFz.out _)
   have z2:v1.frozen? ⟨b,off+i*3+2,none⟩=false:=(U1.out.froz _).trans (HFz.out _)
   clear hb1 hlE1
   go_wp2_with fail
   have U2:=jj (U1.out.set (j:=off+i*3) (by omega) (by omega) (.string (mtext (m))))
   have K2:=jj (K1.out.set (b:=b) (j:=off+i*3) (u:=.string (mtext (m))) HNB.out)
   have y0:(v1.setCell ⟨b,off+i*3,none⟩ (.string (mtext (m)))).cell? ⟨b,off+i*3,none⟩=some (.string (mtext (m))):=World.cell?_setCell_same _ _ _ x0
   have y1:=(World.cell?_setCell_other _ ⟨b,off+i*3,none⟩ ⟨b,off+i*3+1,none⟩ (.string (mtext (m))) (by intro e;injection e;omega)).trans x1
   have y2:=(World.cell?_setCell_other _ ⟨b,off+i*3,none⟩ ⟨b,off+i*3+2,none⟩ (.string (mtext (m))) (by intro e;injection e;omega)).trans x2
   clear x0 x1 x2
   have x0:=y0
   have x1:=y1
   have x2:=y2
   clear y0 y1 y2
   refine (markTypeS_any xs[i].args _ _ F2 (m+1) (by omega) (by rw [HSG.out];omega) (HA.out.mono K2.out (fun x _ cs G hk h=>(fun w w' x cs G hk h=>TyR.mono (w:=w) (w':=w') x cs G hk h) _ _ x cs G hk h)) (HFr2.out.kept K2.out) (HU2.out.mono U2.out.size)).mono ?_
   rintro e v2 ⟨rfl,hg2,hm2,hfr2⟩
   have hlE2:b<(v1.setCell ⟨b,off+i*3,none⟩ (.string (mtext (m)))).heap.size:=zz9 hbl U2.out.size
   have U3:=jj (U2.out.sub hg2 HNB.out hlE2)
   have y0:=(World.cell?_of_block (w:=(v1.setCell ⟨b,off+i*3,none⟩ (.string (mtext (m))))) (a:=⟨b,off+i*3,none⟩) (hg2.block b hlE2 HNB.out)).trans x0
   have y1:=(World.cell?_of_block (w:=(v1.setCell ⟨b,off+i*3,none⟩ (.string (mtext (m))))) (a:=⟨b,off+i*3+1,none⟩) (hg2.block b hlE2 HNB.out)).trans x1
   have y2:=(World.cell?_of_block (w:=(v1.setCell ⟨b,off+i*3,none⟩ (.string (mtext (m))))) (a:=⟨b,off+i*3+2,none⟩) (hg2.block b hlE2 HNB.out)).trans x2
   clear x0 x1 x2 z0 z2
   have x0:=y0
   have x1:=y1
   have x2:=y2
   clear y0 y1 y2
   have hb12:b<v2.heap.size:=zz9 hbl U3.out.size
   have z0:v2.frozen? ⟨b,off+i*3,none⟩=false:=(U3.out.froz _).trans (HFz.out _)
   have z2:v2.frozen? ⟨b,off+i*3+2,none⟩=false:=(U3.out.froz _).trans (HFz.out _)
   have HMk:=jj hm2
   have HFrk:=jj hfr2
   have hgs2:=hg2.size
   clear hm2 hfr2 hg2 hlE2
   have K3:=jj (Kept.refl F2 v2)
   rw [HSG.out]
   have X0:=jj x0
   have X1:=jj x1
   have X2:=jj x2
   have U4:=jj (U3.out.set (j:=off+i*3+2) (by omega) (by omega) (.int .i64 (m+1+(s:Int))))
   have K4:=jj (K3.out.set (b:=b) (j:=off+i*3+2) (u:=.int .i64 (m+1+(s:Int))) HNB.out)
   have Y0:=jj ((World.cell?_setCell_other _ ⟨b,off+i*3+2,none⟩ ⟨b,off+i*3,none⟩ (.int .i64 (m+1+(s:Int))) (by intro e;injection e;omega)).trans X0.out)
   have Y1:=jj ((World.cell?_setCell_other _ ⟨b,off+i*3+2,none⟩ ⟨b,off+i*3+1,none⟩ (.int .i64 (m+1+(s:Int))) (by intro e;injection e;omega)).trans X1.out)
   have Y2:=jj (show (v2.setCell ⟨b,off+i*3+2,none⟩ (.int .i64 (m+1+(s:Int)))).cell? ⟨b,off+i*3+2,none⟩=some (.int .i64 (m+1+(s:Int))) from World.cell?_setCell_same _ _ _ X2.out)
   clear X0 X1 X2
   have X0:=Y0
   have X1:=Y1
   have X2:=Y2
   clear Y0 Y1 Y2
   have hfin:=HCl.out (v2.setCell ⟨b,off+i*3+2,none⟩ (.int .i64 (m+1+(s:Int)))) (mkKt m xs[i]) _ U4.out (CellsAt.cons X0.out (CellsAt.cons X1.out (CellsAt.cons X2.out (CellsAt.nil _ _ _)))) (by obtain rfl:=HSG.out;exact ⟨_,rfl,(HMk.out.mono K4.out (fun x _ cs G hk h=>(fun w w' x cs G hk h=>TyR.mono (w:=w) (w':=w') x cs G hk h) _ _ x cs G hk h)),mtext_le _ (by omega) (by omega)⟩) (HFrk.out.kept K4.out)
   have hst:(mkTo mkKt cntKt k0 xs i).set i (mkKt m xs[i])=mkTo mkKt cntKt k0 xs (i+1):=by rw [HM.out];exact mkTo_step hlt
   rw [hst] at hfin
   clear hst
   have HFin:=jj (And.intro hfin.1 (And.intro hfin.2.1 (HR.out.2.2.trans hfin.2.2)))
   clear hfin
   have HM2:Hid (m+1+(s:Int)+1=k0+(sumBy cntKt (xs.take (i+1)):Nat)):=by
    have h1:=HM.out
    have h2:=HCD.out
    unfold Hid
    rw [zA3 cntKt xs i hlt]
    omega
   go_wp2
   go_roundw
   case rel=>exact ⟨i+1,m+1+(s:Int)+1,by omega,by go_num,rfl,by omega,HM2,HFin.out⟩
   case measure=>(simp [intOf] <;> omega)
  ·have HEnd:Hid (Chg F w wr∧Arr wr (KtR wr) (mkS mkKt cntKt k0 xs) (.slice A xs.length cap) F∧Free wr F):=by
    have h:=HR.out
    rw [mkTo_all k0 xs (by omega)] at h
    exact ⟨h.2.2,h.1,h.2.1⟩
   have hf:Hid (m=k0+(sumBy cntKt xs:Nat)):=by
    have h:=HM.out
    rwa [List.take_of_length_le (by omega)] at h
   go_wp2
   go_ret
   exact ⟨zA5 hf.out,HEnd.out⟩
def cntDt (x:Dt):Nat:=1+sumBy cntKt x.ctors
def mkDt (k:Int) (x:Dt):Dt:=⟨mtext (k),mkS mkKt cntKt (k+1) x.ctors⟩
theorem cntDt_def (x:Dt):cntDt x=1+sumBy cntKt x.ctors:=rfl
theorem cntsTy_le (xs:List Ty):sumBy cntTy xs≤16*Ty.sizes xs:=by
 rw [cntsTy_len];unfold Ty.sizes;omega
theorem cntsKt_le (xs:List Kt):sumBy cntKt xs≤16*Kt.sizes xs:=by
 induction xs with
 |nil=>exact Nat.zero_le _
 |cons x xs ih =>
  have h:=cntsTy_le x.args
  have h1:cntKt x=2+sumBy cntTy x.args:=rfl
  have h2:Kt.size x=x.name.size+Ty.sizes x.args:=rfl
  simp only [Kt.sizes,sumBy,List.length_cons] at ih ⊢
  omega
theorem cntsDt_le (xs:List Dt):sumBy cntDt xs≤16*Dt.sizes xs:=by
 induction xs with
 |nil=>exact Nat.zero_le _
 |cons x xs ih =>
  have h:=cntsKt_le x.ctors
  have h1:cntDt x=1+sumBy cntKt x.ctors:=rfl
  have h2:Dt.size x=x.name.size+Kt.sizes x.ctors:=rfl
  simp only [Dt.sizes,sumBy,List.length_cons] at ih ⊢
  omega
theorem markDataS_any (xs:List Dt) (w:World) (v:Value) (F:List Nat) (k0:Int) (h0:0≤k0) (hk:k0+(sumBy cntDt xs:Nat)≤1099511627776) (hx:Arr w (DtR w) xs v F) (hfr:Free w F) (hf:Under w.heap.size F) :
  Calls Tryz.prog 21 #[v,.int .i64 k0] w fun e w'=>e=.returned (.int .i64 (k0+(sumBy cntDt xs:Nat)))∧Chg F w w'∧Arr w' (DtR w') (mkS mkDt cntDt k0 xs) v F∧Free w' F:=by
 have HX:=jj (And.intro hx (And.intro hfr (Chg.refl F w)))
 obtain ⟨A,cap,rfl,hc1,hc2⟩:=hx.form
 have HF:=jj hf
 have HK:=jj hk
 clear hx hfr hf hk
 go_enter Tryz.func21,Tryz.ntmps21
 go_wp2
 go_loopw [1,5] (fun kv iv wr=>∃ i:Nat,∃ m:Int,i≤xs.length∧iv=.int .i64 i∧kv=.int .i64 m∧0≤m∧Hid (m=k0+(sumBy cntDt (xs.take i):Nat))∧Hid (Arr wr (DtR wr) (mkTo mkDt cntDt k0 xs i) (.slice A xs.length cap) F∧Free wr F∧Chg F w wr)) (fun _ iv _=>xs.length-(intOf iv).toNat)
 case atStart=>exact ⟨0,k0,Nat.zero_le _,rfl,rfl,h0,(by simp [Hid,sumBy]),HX⟩
 case round =>
  obtain ⟨i,m,hi,rfl,rfl,hm0,HM,HR⟩:=hrel
  by_cases hlt:i<xs.length
  ·have g1:(0:Int)≤(i:Int):=by omega
   have g2:(i:Int)<(xs.length:Int):=by omega
   obtain ⟨b,off,c,F1,F2,F3,cap',hv,hFe,hc,hr,hfr2,hnb,hbl,hfz,hu2,hclose⟩:=HR.out.1.focus (fun w=>DtR_len (w:=w)) (fun w w' x cs G hk h=>DtR.mono (w:=w) (w':=w') x cs G hk h) HR.out.2.1 (HF.out.mono HR.out.2.2.size) (i:=i) (by rw [zAW];exact hlt)
   obtain rfl:A=some ⟨b,off,none⟩:=by injection hv
   rw [mkTo_get hlt] at hr
   have hsum:m+(cntDt xs[i]:Nat)≤1099511627776:=by
    have h1:=HM.out
    have h2:=HK.out
    have h3:=zAH cntDt xs (i+1)
    rw [zA3 cntDt xs i hlt] at h3
    omega
   have HCl:=jj hclose
   have HHv:=jj hv
   have HFe:=jj hFe
   clear hclose hv hFe
   obtain ⟨kv,rfl,ha,hs0⟩:=hr
   obtain ⟨A1,cap1,rfl,-,-⟩:=ha.form
   have hcd:=cntDt_def xs[i]
   rw [hcd] at hsum
   have x0:wr.cell? ⟨b,off+i*2,none⟩=some (.string xs[i].name):=hc 0 _ rfl
   have x1:wr.cell? ⟨b,off+i*2+1,none⟩=some (.slice A1 xs[i].ctors.length cap1):=hc 1 _ rfl
   clear hc
   have HA:=jj ha
   have HFr2:=jj hfr2
   have HU2:=jj hu2
   have HNB:=jj hnb
   clear ha hfr2 hu2 hnb
   have hsn:(0:Int)≤(sumBy cntKt xs[i].ctors:Nat):=by omega
   generalize hsg:sumBy cntKt xs[i].ctors=s at *
   have HSG:=jj hsg
   have HCD:=jj hcd
   clear hsg hcd
   have HFz:=jj hfz
   clear hfz
   have U0:=jj (Upd.refl b (off+i*2) 2 F2 wr)
   have K0:=jj (Kept.refl F2 wr)
   have z0:wr.frozen? ⟨b,off+i*2,none⟩=false:=(U0.out.froz _).trans (HFz.out _)
   go_wp2_with fail
   refine (markText_any (m) _ (by omega) (by omega)).mono ?_
   rintro e v1 ⟨rfl,hb1⟩
   have hlE1:b<wr.heap.size:=zz9 hbl U0.out.size
   have U1:=jj (U0.out.below hb1 hlE1)
   have K1:=jj (K0.out.step hb1 (HU2.out.mono U0.out.size))
   have y0:=(hb1.cell (p:=⟨b,off+i*2,none⟩) hlE1).trans x0
   have y1:=(hb1.cell (p:=⟨b,off+i*2+1,none⟩) hlE1).trans x1
   clear x0 x1 z0
   have x0:=y0
   have x1:=y1
   clear y0 y1
   have hb11:b<v1.heap.size:=zz9 hbl U1.out.size
   have z0:v1.frozen? ⟨b,off+i*2,none⟩=false:=(U1.out.froz _).trans (HFz.out _)
   clear hb1 hlE1
   go_wp2_with fail
   have U2:=jj (U1.out.set (j:=off+i*2) (by omega) (by omega) (.string (mtext (m))))
   have K2:=jj (K1.out.set (b:=b) (j:=off+i*2) (u:=.string (mtext (m))) HNB.out)
   have y0:(v1.setCell ⟨b,off+i*2,none⟩ (.string (mtext (m)))).cell? ⟨b,off+i*2,none⟩=some (.string (mtext (m))):=World.cell?_setCell_same _ _ _ x0
   have y1:=(World.cell?_setCell_other _ ⟨b,off+i*2,none⟩ ⟨b,off+i*2+1,none⟩ (.string (mtext (m))) (by intro e;injection e;omega)).trans x1
   clear x0 x1
   have x0:=y0
   have x1:=y1
   clear y0 y1
   refine (markCtorS_any xs[i].ctors _ _ F2 (m+1) (by omega) (by rw [HSG.out];omega) (HA.out.mono K2.out (fun x _ cs G hk h=>(fun w w' x cs G hk h=>KtR.mono (w:=w) (w':=w') x cs G hk h) _ _ x cs G hk h)) (HFr2.out.kept K2.out) (HU2.out.mono U2.out.size)).mono ?_
   rintro e v2 ⟨rfl,hg2,hm2,hfr2⟩
   have hlE2:b<(v1.setCell ⟨b,off+i*2,none⟩ (.string (mtext (m)))).heap.size:=zz9 hbl U2.out.size
   have U3:=jj (U2.out.sub hg2 HNB.out hlE2)
   have y0:=(World.cell?_of_block (w:=(v1.setCell ⟨b,off+i*2,none⟩ (.string (mtext (m))))) (a:=⟨b,off+i*2,none⟩) (hg2.block b hlE2 HNB.out)).trans x0
   have y1:=(World.cell?_of_block (w:=(v1.setCell ⟨b,off+i*2,none⟩ (.string (mtext (m))))) (a:=⟨b,off+i*2+1,none⟩) (hg2.block b hlE2 HNB.out)).trans x1
   clear x0 x1 z0
   have x0:=y0
   have x1:=y1
   clear y0 y1
   have hb12:b<v2.heap.size:=zz9 hbl U3.out.size
   have z0:v2.frozen? ⟨b,off+i*2,none⟩=false:=(U3.out.froz _).trans (HFz.out _)
   have HMk:=jj hm2
   have HFrk:=jj hfr2
   have hgs2:=hg2.size
   clear hm2 hfr2 hg2 hlE2
   have K3:=jj (Kept.refl F2 v2)
   rw [HSG.out]
   have X0:=jj x0
   have X1:=jj x1
   have hfin:=HCl.out v2 (mkDt m xs[i]) _ U3.out (CellsAt.cons X0.out (CellsAt.cons X1.out (CellsAt.nil _ _ _))) (by obtain rfl:=HSG.out;exact ⟨_,rfl,(HMk.out.mono K3.out (fun x _ cs G hk h=>(fun w w' x cs G hk h=>KtR.mono (w:=w) (w':=w') x cs G hk h) _ _ x cs G hk h)),mtext_le _ (by omega) (by omega)⟩) (HFrk.out.kept K3.out)
   have hst:(mkTo mkDt cntDt k0 xs i).set i (mkDt m xs[i])=mkTo mkDt cntDt k0 xs (i+1):=by rw [HM.out];exact mkTo_step hlt
   rw [hst] at hfin
   clear hst
   have HFin:=jj (And.intro hfin.1 (And.intro hfin.2.1 (HR.out.2.2.trans hfin.2.2)))
   clear hfin
   have HM2:Hid (m+1+(s:Int)=k0+(sumBy cntDt (xs.take (i+1)):Nat)):=by
    have h1:=HM.out
    have h2:=HCD.out
    unfold Hid
    rw [zA3 cntDt xs i hlt]
    omega
   go_wp2
   go_roundw
   case rel=>exact ⟨i+1,m+1+(s:Int),by omega,by go_num,rfl,by omega,HM2,HFin.out⟩
   case measure=>(simp [intOf] <;> omega)
  ·have HEnd:Hid (Chg F w wr∧Arr wr (DtR wr) (mkS mkDt cntDt k0 xs) (.slice A xs.length cap) F∧Free wr F):=by
    have h:=HR.out
    rw [mkTo_all k0 xs (by omega)] at h
    exact ⟨h.2.2,h.1,h.2.1⟩
   have hf:Hid (m=k0+(sumBy cntDt xs:Nat)):=by
    have h:=HM.out
    rwa [List.take_of_length_le (by omega)] at h
   go_wp2
   go_ret
   exact ⟨zA5 hf.out,HEnd.out⟩
mutual
def cntP:P→Nat
 |⟨_,_,_,_,_,ks⟩=>5+cntsP ks
def cntsP:List P→Nat
 |[]=>0
 |x :: xs=>cntP x+cntsP xs
end
mutual
def mkP (k:Int):P→P
 |⟨_,_,_,_,_,ks⟩=>⟨k,k+1,k+1+1,k+1+1+1,k+1+1+1+1,mksP (k+1+1+1+1+1) ks⟩
def mksP (k:Int):List P→List P
 |[]=>[]
 |x :: xs=>mkP k x :: mksP (k+cntP x) xs
end
theorem cntsP_eq (xs:List P):cntsP xs=sumBy cntP xs:=by
 induction xs with
 |nil=>rfl
 |cons x xs ih=>rw [cntsP,sumBy,ih]
theorem mksP_eq (xs:List P):∀ k,mksP k xs=mkS mkP cntP k xs:=by
 induction xs with
 |nil=>intro k;rfl
 |cons x xs ih=>intro k;rw [mksP,mkS,ih]
theorem cntP_def (x:P):cntP x=5+sumBy cntP x.ks:=by obtain ⟨a0,a1,a2,a3,a4,ks⟩:=x;rw [cntP,cntsP_eq]
theorem mkP_def (k:Int) (x:P):mkP k x=⟨k,k+1,k+1+1,k+1+1+1,k+1+1+1+1,mkS mkP cntP (k+1+1+1+1+1) x.ks⟩:=by obtain ⟨a0,a1,a2,a3,a4,ks⟩:=x;rw [mkP,mksP_eq]
theorem cntsP_le (xs:List P):sumBy cntP xs≤16*P.sizes xs:=by
 have h:∀ x:P,cntP x≤16+16*x.size:=P.ind fun a0 a1 a2 a3 a4 ks ih=>by
  have h2:∀ l:List P,(∀ x∈l,cntP x≤16+16*x.size)→sumBy cntP l≤16*P.sizes l:=by
   intro l
   induction l with
   |nil=>intro _;exact Nat.zero_le _
   |cons x l ih2 =>
    intro hl
    have h3:=ih2 fun y hy=>hl y (by simp [hy])
    have h4:=hl x (by simp)
    simp only [sumBy,P.sizes]
    omega
  have h5:=h2 ks ih
  rw [cntP_def]
  show _≤16+16*P.sizes ks
  simp only
  omega
 induction xs with
 |nil=>exact Nat.zero_le _
 |cons x xs ih =>
  have h1:=h x
  simp only [sumBy,P.sizes]
  omega
def MarkP (x:P):Prop:=∀ (w:World) (v:Value) (F:List Nat) (k0:Int),0≤k0→k0+(sumBy cntP x.ks:Nat)≤1099511627776→Arr w (PR w) x.ks v F→Free w F→Under w.heap.size F →
 Calls Tryz.prog 51 #[v,.int .i64 k0] w fun e w'=>e=.returned (.int .i64 (k0+(sumBy cntP x.ks:Nat)))∧Chg F w w'∧Arr w' (PR w') (mkS mkP cntP k0 x.ks) v F∧Free w' F
theorem markPatternS_of (xs:List P) (ih:∀ x∈xs,MarkP x) (w:World) (v:Value) (F:List Nat) (k0:Int) (h0:0≤k0) (hk:k0+(sumBy cntP xs:Nat)≤1099511627776) (hx:Arr w (PR w) xs v F) (hfr:Free w F) (hf:Under w.heap.size F) :
  Calls Tryz.prog 51 #[v,.int .i64 k0] w fun e w'=>e=.returned (.int .i64 (k0+(sumBy cntP xs:Nat)))∧Chg F w w'∧Arr w' (PR w') (mkS mkP cntP k0 xs) v F∧Free w' F:=by
 have HX:=jj (And.intro hx (And.intro hfr (Chg.refl F w)))
 obtain ⟨A,cap,rfl,hc1,hc2⟩:=hx.form
 have HF:=jj hf
 have HK:=jj hk
 have IH:=jj ih
 clear hx hfr hf hk ih
 go_enter Tryz.func51,Tryz.ntmps51
 go_wp2
 go_loopw [1,5] (fun kv iv wr=>∃ i:Nat,∃ m:Int,i≤xs.length∧iv=.int .i64 i∧kv=.int .i64 m∧0≤m∧Hid (m=k0+(sumBy cntP (xs.take i):Nat))∧Hid (Arr wr (PR wr) (mkTo mkP cntP k0 xs i) (.slice A xs.length cap) F∧Free wr F∧Chg F w wr)) (fun _ iv _=>xs.length-(intOf iv).toNat)
 case atStart=>exact ⟨0,k0,Nat.zero_le _,rfl,rfl,h0,(by simp [Hid,sumBy]),HX⟩
 case round =>
  obtain ⟨i,m,hi,rfl,rfl,hm0,HM,HR⟩:=hrel
  by_cases hlt:i<xs.length
  ·have g1:(0:Int)≤(i:Int):=by omega
   have g2:(i:Int)<(xs.length:Int):=by omega
   obtain ⟨b,off,c,F1,F2,F3,cap',hv,hFe,hc,hr,hfr2,hnb,hbl,hfz,hu2,hclose⟩:=HR.out.1.focus (fun w=>PR_len (w:=w)) (fun w w' x cs G hk h=>PR.mono (w:=w) (w':=w') x cs G hk h) HR.out.2.1 (HF.out.mono HR.out.2.2.size) (i:=i) (by rw [zAW];exact hlt)
   obtain rfl:A=some ⟨b,off,none⟩:=by injection hv
   rw [mkTo_get hlt] at hr
   have hsum:m+(cntP xs[i]:Nat)≤1099511627776:=by
    have h1:=HM.out
    have h2:=HK.out
    have h3:=zAH cntP xs (i+1)
    rw [zA3 cntP xs i hlt] at h3
    omega
   have HCl:=jj hclose
   have HHv:=jj hv
   have HFe:=jj hFe
   clear hclose hv hFe
   obtain ⟨kv,rfl,ha⟩:=(zAF _ _ _).1 hr
   obtain ⟨A1,cap1,rfl,-,-⟩:=ha.form
   have hcd:=cntP_def xs[i]
   rw [hcd] at hsum
   have x0:wr.cell? ⟨b,off+i*6,none⟩=some (.int .i64 xs[i].op):=hc 0 _ rfl
   have x1:wr.cell? ⟨b,off+i*6+1,none⟩=some (.int .i64 xs[i].ct):=hc 1 _ rfl
   have x2:wr.cell? ⟨b,off+i*6+2,none⟩=some (.int .i64 xs[i].n):=hc 2 _ rfl
   have x3:wr.cell? ⟨b,off+i*6+3,none⟩=some (.int .i64 xs[i].m):=hc 3 _ rfl
   have x4:wr.cell? ⟨b,off+i*6+4,none⟩=some (.int .i64 xs[i].va):=hc 4 _ rfl
   have x5:wr.cell? ⟨b,off+i*6+5,none⟩=some (.slice A1 xs[i].ks.length cap1):=hc 5 _ rfl
   clear hc
   have HA:=jj ha
   have HFr2:=jj hfr2
   have HU2:=jj hu2
   have HNB:=jj hnb
   clear ha hfr2 hu2 hnb
   have hsn:(0:Int)≤(sumBy cntP xs[i].ks:Nat):=by omega
   generalize hsg:sumBy cntP xs[i].ks=s at *
   have HSG:=jj hsg
   have HCD:=jj hcd
   clear hsg hcd
   have HFz:=jj hfz
   clear hfz
   have U0:=jj (Upd.refl b (off+i*6) 6 F2 wr)
   have K0:=jj (Kept.refl F2 wr)
   have z0:wr.frozen? ⟨b,off+i*6,none⟩=false:=(U0.out.froz _).trans (HFz.out _)
   have z1:wr.frozen? ⟨b,off+i*6+1,none⟩=false:=(U0.out.froz _).trans (HFz.out _)
   have z2:wr.frozen? ⟨b,off+i*6+2,none⟩=false:=(U0.out.froz _).trans (HFz.out _)
   have z3:wr.frozen? ⟨b,off+i*6+3,none⟩=false:=(U0.out.froz _).trans (HFz.out _)
   have z4:wr.frozen? ⟨b,off+i*6+4,none⟩=false:=(U0.out.froz _).trans (HFz.out _)
   go_wp2_with fail
   have U1:=jj (U0.out.set (j:=off+i*6) (by omega) (by omega) (.int .i64 (m)))
   have K1:=jj (K0.out.set (b:=b) (j:=off+i*6) (u:=.int .i64 (m)) HNB.out)
   have y0:(wr.setCell ⟨b,off+i*6,none⟩ (.int .i64 (m))).cell? ⟨b,off+i*6,none⟩=some (.int .i64 (m)):=World.cell?_setCell_same _ _ _ x0
   have y1:=(World.cell?_setCell_other _ ⟨b,off+i*6,none⟩ ⟨b,off+i*6+1,none⟩ (.int .i64 (m)) (by intro e;injection e;omega)).trans x1
   have y2:=(World.cell?_setCell_other _ ⟨b,off+i*6,none⟩ ⟨b,off+i*6+2,none⟩ (.int .i64 (m)) (by intro e;injection e;omega)).trans x2
   have y3:=(World.cell?_setCell_other _ ⟨b,off+i*6,none⟩ ⟨b,off+i*6+3,none⟩ (.int .i64 (m)) (by intro e;injection e;omega)).trans x3
   have y4:=(World.cell?_setCell_other _ ⟨b,off+i*6,none⟩ ⟨b,off+i*6+4,none⟩ (.int .i64 (m)) (by intro e;injection e;omega)).trans x4
   have y5:=(World.cell?_setCell_other _ ⟨b,off+i*6,none⟩ ⟨b,off+i*6+5,none⟩ (.int .i64 (m)) (by intro e;injection e;omega)).trans x5
   clear x0 x1 x2 x3 x4 x5
   have x0:=y0
   have x1:=y1
   have x2:=y2
   have x3:=y3
   have x4:=y4
   have x5:=y5
   clear y0 y1 y2 y3 y4 y5
   have U2:=jj (U1.out.set (j:=off+i*6+1) (by omega) (by omega) (.int .i64 (m+1)))
   have K2:=jj (K1.out.set (b:=b) (j:=off+i*6+1) (u:=.int .i64 (m+1)) HNB.out)
   have y0:=(World.cell?_setCell_other _ ⟨b,off+i*6+1,none⟩ ⟨b,off+i*6,none⟩ (.int .i64 (m+1)) (by intro e;injection e;omega)).trans x0
   have y1:((wr.setCell ⟨b,off+i*6,none⟩ (.int .i64 (m))).setCell ⟨b,off+i*6+1,none⟩ (.int .i64 (m+1))).cell? ⟨b,off+i*6+1,none⟩=some (.int .i64 (m+1)):=World.cell?_setCell_same _ _ _ x1
   have y2:=(World.cell?_setCell_other _ ⟨b,off+i*6+1,none⟩ ⟨b,off+i*6+2,none⟩ (.int .i64 (m+1)) (by intro e;injection e;omega)).trans x2
   have y3:=(World.cell?_setCell_other _ ⟨b,off+i*6+1,none⟩ ⟨b,off+i*6+3,none⟩ (.int .i64 (m+1)) (by intro e;injection e;omega)).trans x3
   have y4:=(World.cell?_setCell_other _ ⟨b,off+i*6+1,none⟩ ⟨b,off+i*6+4,none⟩ (.int .i64 (m+1)) (by intro e;injection e;omega)).trans x4
   have y5:=(World.cell?_setCell_other _ ⟨b,off+i*6+1,none⟩ ⟨b,off+i*6+5,none⟩ (.int .i64 (m+1)) (by intro e;injection e;omega)).trans x5
   clear x0 x1 x2 x3 x4 x5
   have x0:=y0
   have x1:=y1
   have x2:=y2
   have x3:=y3
   have x4:=y4
   have x5:=y5
   clear y0 y1 y2 y3 y4 y5
   have U3:=jj (U2.out.set (j:=off+i*6+2) (by omega) (by omega) (.int .i64 (m+1+1)))
   have K3:=jj (K2.out.set (b:=b) (j:=off+i*6+2) (u:=.int .i64 (m+1+1)) HNB.out)
   have y0:=(World.cell?_setCell_other _ ⟨b,off+i*6+2,none⟩ ⟨b,off+i*6,none⟩ (.int .i64 (m+1+1)) (by intro e;injection e;omega)).trans x0
   have y1:=(World.cell?_setCell_other _ ⟨b,off+i*6+2,none⟩ ⟨b,off+i*6+1,none⟩ (.int .i64 (m+1+1)) (by intro e;injection e;omega)).trans x1
   have y2:(((wr.setCell ⟨b,off+i*6,none⟩ (.int .i64 (m))).setCell ⟨b,off+i*6+1,none⟩ (.int .i64 (m+1))).setCell ⟨b,off+i*6+2,none⟩ (.int .i64 (m+1+1))).cell? ⟨b,off+i*6+2,none⟩=some (.int .i64 (m+1+1)):=World.cell?_setCell_same _ _ _ x2
   have y3:=(World.cell?_setCell_other _ ⟨b,off+i*6+2,none⟩ ⟨b,off+i*6+3,none⟩ (.int .i64 (m+1+1)) (by intro e;injection e;omega)).trans x3
   have y4:=(World.cell?_setCell_other _ ⟨b,off+i*6+2,none⟩ ⟨b,off+i*6+4,none⟩ (.int .i64 (m+1+1)) (by intro e;injection e;omega)).trans x4
   have y5:=(World.cell?_setCell_other _ ⟨b,off+i*6+2,none⟩ ⟨b,off+i*6+5,none⟩ (.int .i64 (m+1+1)) (by intro e;injection e;omega)).trans x5
   clear x0 x1 x2 x3 x4 x5
   have x0:=y0
   have x1:=y1
   have x2:=y2
   have x3:=y3
   have x4:=y4
   have x5:=y5
   clear y0 y1 y2 y3 y4 y5
   have U4:=jj (U3.out.set (j:=off+i*6+3) (by omega) (by omega) (.int .i64 (m+1+1+1)))
   have K4:=jj (K3.out.set (b:=b) (j:=off+i*6+3) (u:=.int .i64 (m+1+1+1)) HNB.out)
   have y0:=(World.cell?_setCell_other _ ⟨b,off+i*6+3,none⟩ ⟨b,off+i*6,none⟩ (.int .i64 (m+1+1+1)) (by intro e;injection e;omega)).trans x0
   have y1:=(World.cell?_setCell_other _ ⟨b,off+i*6+3,none⟩ ⟨b,off+i*6+1,none⟩ (.int .i64 (m+1+1+1)) (by intro e;injection e;omega)).trans x1
   have y2:=(World.cell?_setCell_other _ ⟨b,off+i*6+3,none⟩ ⟨b,off+i*6+2,none⟩ (.int .i64 (m+1+1+1)) (by intro e;injection e;omega)).trans x2
   have y3:((((wr.setCell ⟨b,off+i*6,none⟩ (.int .i64 (m))).setCell ⟨b,off+i*6+1,none⟩ (.int .i64 (m+1))).setCell ⟨b,off+i*6+2,none⟩ (.int .i64 (m+1+1))).setCell ⟨b,off+i*6+3,none⟩ (.int .i64 (m+1+1+1))).cell? ⟨b,off+i*6+3,none⟩=some (.int .i64 (m+1+1+1)):=World.cell?_setCell_same _ _ _ x3
   have y4:=(World.cell?_setCell_other _ ⟨b,off+i*6+3,none⟩ ⟨b,off+i*6+4,none⟩ (.int .i64 (m+1+1+1)) (by intro e;injection e;omega)).trans x4
   have y5:=(World.cell?_setCell_other _ ⟨b,off+i*6+3,none⟩ ⟨b,off+i*6+5,none⟩ (.int .i64 (m+1+1+1)) (by intro e;injection e;omega)).trans x5
   clear x0 x1 x2 x3 x4 x5
   have x0:=y0
   have x1:=y1
   have x2:=y2
   have x3:=y3
   have x4:=y4
   have x5:=y5
   clear y0 y1 y2 y3 y4 y5
   have U5:=jj (U4.out.set (j:=off+i*6+4) (by omega) (by omega) (.int .i64 (m+1+1+1+1)))
   have K5:=jj (K4.out.set (b:=b) (j:=off+i*6+4) (u:=.int .i64 (m+1+1+1+1)) HNB.out)
   have y0:=(World.cell?_setCell_other _ ⟨b,off+i*6+4,none⟩ ⟨b,off+i*6,none⟩ (.int .i64 (m+1+1+1+1)) (by intro e;injection e;omega)).trans x0
   have y1:=(World.cell?_setCell_other _ ⟨b,off+i*6+4,none⟩ ⟨b,off+i*6+1,none⟩ (.int .i64 (m+1+1+1+1)) (by intro e;injection e;omega)).trans x1
   have y2:=(World.cell?_setCell_other _ ⟨b,off+i*6+4,none⟩ ⟨b,off+i*6+2,none⟩ (.int .i64 (m+1+1+1+1)) (by intro e;injection e;omega)).trans x2
   have y3:=(World.cell?_setCell_other _ ⟨b,off+i*6+4,none⟩ ⟨b,off+i*6+3,none⟩ (.int .i64 (m+1+1+1+1)) (by intro e;injection e;omega)).trans x3
   have y4:(((((wr.setCell ⟨b,off+i*6,none⟩ (.int .i64 (m))).setCell ⟨b,off+i*6+1,none⟩ (.int .i64 (m+1))).setCell ⟨b,off+i*6+2,none⟩ (.int .i64 (m+1+1))).setCell ⟨b,off+i*6+3,none⟩ (.int .i64 (m+1+1+1))).setCell ⟨b,off+i*6+4,none⟩ (.int .i64 (m+1+1+1+1))).cell? ⟨b,off+i*6+4,none⟩=some (.int .i64 (m+1+1+1+1)):=World.cell?_setCell_same _ _ _ x4
   have y5:=(World.cell?_setCell_other _ ⟨b,off+i*6+4,none⟩ ⟨b,off+i*6+5,none⟩ (.int .i64 (m+1+1+1+1)) (by intro e;injection e;omega)).trans x5
   clear x0 x1 x2 x3 x4 x5
   have x0:=y0
   have x1:=y1
   have x2:=y2
   have x3:=y3
   have x4:=y4
   have x5:=y5
   clear y0 y1 y2 y3 y4 y5
   refine (IH.out _ (List.getElem_mem hlt) _ _ F2 (m+1+1+1+1+1) (by omega) (by rw [HSG.out];omega) (HA.out.mono K5.out (fun x _ cs G hk h=>(fun w w' x cs G hk h=>PR.mono (w:=w) (w':=w') x cs G hk h) _ _ x cs G hk h)) (HFr2.out.kept K5.out) (HU2.out.mono U5.out.size)).mono ?_
   rintro e v1 ⟨rfl,hg1,hm1,hfr1⟩
   have hlE1:b<(((((wr.setCell ⟨b,off+i*6,none⟩ (.int .i64 (m))).setCell ⟨b,off+i*6+1,none⟩ (.int .i64 (m+1))).setCell ⟨b,off+i*6+2,none⟩ (.int .i64 (m+1+1))).setCell ⟨b,off+i*6+3,none⟩ (.int .i64 (m+1+1+1))).setCell ⟨b,off+i*6+4,none⟩ (.int .i64 (m+1+1+1+1))).heap.size:=zz9 hbl U5.out.size
   have U6:=jj (U5.out.sub hg1 HNB.out hlE1)
   have y0:=(World.cell?_of_block (w:=(((((wr.setCell ⟨b,off+i*6,none⟩ (.int .i64 (m))).setCell ⟨b,off+i*6+1,none⟩ (.int .i64 (m+1))).setCell ⟨b,off+i*6+2,none⟩ (.int .i64 (m+1+1))).setCell ⟨b,off+i*6+3,none⟩ (.int .i64 (m+1+1+1))).setCell ⟨b,off+i*6+4,none⟩ (.int .i64 (m+1+1+1+1)))) (a:=⟨b,off+i*6,none⟩) (hg1.block b hlE1 HNB.out)).trans x0
   have y1:=(World.cell?_of_block (w:=(((((wr.setCell ⟨b,off+i*6,none⟩ (.int .i64 (m))).setCell ⟨b,off+i*6+1,none⟩ (.int .i64 (m+1))).setCell ⟨b,off+i*6+2,none⟩ (.int .i64 (m+1+1))).setCell ⟨b,off+i*6+3,none⟩ (.int .i64 (m+1+1+1))).setCell ⟨b,off+i*6+4,none⟩ (.int .i64 (m+1+1+1+1)))) (a:=⟨b,off+i*6+1,none⟩) (hg1.block b hlE1 HNB.out)).trans x1
   have y2:=(World.cell?_of_block (w:=(((((wr.setCell ⟨b,off+i*6,none⟩ (.int .i64 (m))).setCell ⟨b,off+i*6+1,none⟩ (.int .i64 (m+1))).setCell ⟨b,off+i*6+2,none⟩ (.int .i64 (m+1+1))).setCell ⟨b,off+i*6+3,none⟩ (.int .i64 (m+1+1+1))).setCell ⟨b,off+i*6+4,none⟩ (.int .i64 (m+1+1+1+1)))) (a:=⟨b,off+i*6+2,none⟩) (hg1.block b hlE1 HNB.out)).trans x2
   have y3:=(World.cell?_of_block (w:=(((((wr.setCell ⟨b,off+i*6,none⟩ (.int .i64 (m))).setCell ⟨b,off+i*6+1,none⟩ (.int .i64 (m+1))).setCell ⟨b,off+i*6+2,none⟩ (.int .i64 (m+1+1))).setCell ⟨b,off+i*6+3,none⟩ (.int .i64 (m+1+1+1))).setCell ⟨b,off+i*6+4,none⟩ (.int .i64 (m+1+1+1+1)))) (a:=⟨b,off+i*6+3,none⟩) (hg1.block b hlE1 HNB.out)).trans x3
   have y4:=(World.cell?_of_block (w:=(((((wr.setCell ⟨b,off+i*6,none⟩ (.int .i64 (m))).setCell ⟨b,off+i*6+1,none⟩ (.int .i64 (m+1))).setCell ⟨b,off+i*6+2,none⟩ (.int .i64 (m+1+1))).setCell ⟨b,off+i*6+3,none⟩ (.int .i64 (m+1+1+1))).setCell ⟨b,off+i*6+4,none⟩ (.int .i64 (m+1+1+1+1)))) (a:=⟨b,off+i*6+4,none⟩) (hg1.block b hlE1 HNB.out)).trans x4
   have y5:=(World.cell?_of_block (w:=(((((wr.setCell ⟨b,off+i*6,none⟩ (.int .i64 (m))).setCell ⟨b,off+i*6+1,none⟩ (.int .i64 (m+1))).setCell ⟨b,off+i*6+2,none⟩ (.int .i64 (m+1+1))).setCell ⟨b,off+i*6+3,none⟩ (.int .i64 (m+1+1+1))).setCell ⟨b,off+i*6+4,none⟩ (.int .i64 (m+1+1+1+1)))) (a:=⟨b,off+i*6+5,none⟩) (hg1.block b hlE1 HNB.out)).trans x5
   clear x0 x1 x2 x3 x4 x5 z0 z1 z2 z3 z4
   have x0:=y0
   have x1:=y1
   have x2:=y2
   have x3:=y3
   have x4:=y4
   have x5:=y5
   clear y0 y1 y2 y3 y4 y5
   have hb11:b<v1.heap.size:=zz9 hbl U6.out.size
   have z0:v1.frozen? ⟨b,off+i*6,none⟩=false:=(U6.out.froz _).trans (HFz.out _)
   have z1:v1.frozen? ⟨b,off+i*6+1,none⟩=false:=(U6.out.froz _).trans (HFz.out _)
   have z2:v1.frozen? ⟨b,off+i*6+2,none⟩=false:=(U6.out.froz _).trans (HFz.out _)
   have z3:v1.frozen? ⟨b,off+i*6+3,none⟩=false:=(U6.out.froz _).trans (HFz.out _)
   have z4:v1.frozen? ⟨b,off+i*6+4,none⟩=false:=(U6.out.froz _).trans (HFz.out _)
   have HMk:=jj hm1
   have HFrk:=jj hfr1
   have hgs1:=hg1.size
   clear hm1 hfr1 hg1 hlE1
   have K6:=jj (Kept.refl F2 v1)
   rw [HSG.out]
   have X0:=jj x0
   have X1:=jj x1
   have X2:=jj x2
   have X3:=jj x3
   have X4:=jj x4
   have X5:=jj x5
   have hfin:=HCl.out v1 (mkP m xs[i]) _ U6.out (CellsAt.cons X0.out (CellsAt.cons X1.out (CellsAt.cons X2.out (CellsAt.cons X3.out (CellsAt.cons X4.out (CellsAt.cons X5.out (CellsAt.nil _ _ _))))))) (by obtain rfl:=HSG.out;rw [mkP_def];exact (zAF _ _ _).2 ⟨_,rfl,(HMk.out.mono K6.out (fun x _ cs G hk h=>(fun w w' x cs G hk h=>PR.mono (w:=w) (w':=w') x cs G hk h) _ _ x cs G hk h))⟩) (HFrk.out.kept K6.out)
   have hst:(mkTo mkP cntP k0 xs i).set i (mkP m xs[i])=mkTo mkP cntP k0 xs (i+1):=by rw [HM.out];exact mkTo_step hlt
   rw [hst] at hfin
   clear hst
   have HFin:=jj (And.intro hfin.1 (And.intro hfin.2.1 (HR.out.2.2.trans hfin.2.2)))
   clear hfin
   have HM2:Hid (m+1+1+1+1+1+(s:Int)=k0+(sumBy cntP (xs.take (i+1)):Nat)):=by
    have h1:=HM.out
    have h2:=HCD.out
    unfold Hid
    rw [zA3 cntP xs i hlt]
    omega
   go_wp2
   go_roundw
   case rel=>exact ⟨i+1,m+1+1+1+1+1+(s:Int),by omega,by go_num,rfl,by omega,HM2,HFin.out⟩
   case measure=>(simp [intOf] <;> omega)
  ·have HEnd:Hid (Chg F w wr∧Arr wr (PR wr) (mkS mkP cntP k0 xs) (.slice A xs.length cap) F∧Free wr F):=by
    have h:=HR.out
    rw [mkTo_all k0 xs (by omega)] at h
    exact ⟨h.2.2,h.1,h.2.1⟩
   have hf:Hid (m=k0+(sumBy cntP xs:Nat)):=by
    have h:=HM.out
    rwa [List.take_of_length_le (by omega)] at h
   go_wp2
   go_ret
   exact ⟨zA5 hf.out,HEnd.out⟩
theorem markP_all:∀ x,MarkP x:=P.ind fun a0 a1 a2 a3 a4 ks ih w v F k0 h0 hk hx hfr hf=>markPatternS_of ks ih w v F k0 h0 hk hx hfr hf
theorem markPatternS_any (xs:List P) (w:World) (v:Value) (F:List Nat) (k0:Int) (h0:0≤k0) (hk:k0+(sumBy cntP xs:Nat)≤1099511627776) (hx:Arr w (PR w) xs v F) (hfr:Free w F) (hf:Under w.heap.size F) :
  Calls Tryz.prog 51 #[v,.int .i64 k0] w fun e w'=>e=.returned (.int .i64 (k0+(sumBy cntP xs:Nat)))∧Chg F w w'∧Arr w' (PR w') (mkS mkP cntP k0 xs) v F∧Free w' F:=markPatternS_of xs (fun x _=>markP_all x) w v F k0 h0 hk hx hfr hf
def mkTopP (k:Int) (x:P):P:=⟨x.op,x.ct,x.n,x.m,x.va,mkS mkP cntP k x.ks⟩
theorem markPattern_any (x:P) (w:World) (cs:List Value) (F:List Nat) (k0:Int) (h0:0≤k0) (hk:k0+(sumBy cntP x.ks:Nat)≤1099511627776) (hx:PR w x cs F) (hfr:Free w F) (hf:Under w.heap.size F) :
  Calls Tryz.prog 22 #[.agg cs.toArray,.int .i64 k0] w fun e w'=>e=.returned (.int .i64 (k0+(sumBy cntP x.ks:Nat)))∧Chg F w w'∧PR w' (mkTopP k0 x) cs F∧Free w' F:=by
 obtain ⟨kv,rfl,ha⟩:=(zAF _ _ _).1 hx
 obtain ⟨A,cap,rfl,-,-⟩:=ha.form
 have HA:=jj ha
 have HF:=jj hf
 have HFR:=jj hfr
 have HK:=jj hk
 clear hx ha hf hfr hk
 go_enter Tryz.func22,Tryz.ntmps22
 go_wp2_with fail
 obtain ⟨w1,hw1⟩:∃ w1,w1=w.alloc (.cells #[.int .i64 x.op,.int .i64 x.ct,.int .i64 x.n,.int .i64 x.m,.int .i64 x.va,.slice A x.ks.length cap] 43):=⟨_,rfl⟩
 have hb1:Below w.heap.size w w1:=by rw [hw1];exact (zy2 _ _).alloc (zz8 _) _
 have KV:Blk w1 w.heap.size 43 #[.int .i64 x.op,.int .i64 x.ct,.int .i64 x.n,.int .i64 x.m,.int .i64 x.va,.slice A x.ks.length cap]:=by rw [hw1];exact Blk.new _ _ _
 rw [←hw1]
 clear hw1
 have z0:w1.cell? ⟨w.heap.size,5,none⟩=some (.slice A x.ks.length cap):=(KV.cell 5).trans (by simp)
 have klt:=KV.lt
 clear KV
 go_wp2_with fail
 refine (markPatternS_any x.ks w1 _ F k0 h0 HK.out (ArrP.below HA.out hb1 HF.out) (HFR.out.kept (.of_below hb1 HF.out)) (HF.out.mono hb1.size)).mono ?_
 rintro e w2 ⟨rfl,hg,hm,hfr2⟩
 have hfin:Chg F w w2∧PR w2 (mkTopP k0 x) [.int .i64 x.op,.int .i64 x.ct,.int .i64 x.n,.int .i64 x.m,.int .i64 x.va,.slice A x.ks.length cap] F∧Free w2 F:=⟨(Chg.of_below hb1).trans hg,(zAF _ _ _).2 ⟨_,rfl,hm⟩,hfr2⟩
 have HFin:=jj hfin
 clear hfin hm hfr2 hg
 go_wp2
 go_ret
 exact ⟨rfl,HFin.out⟩
def HeldV (x:V):Prop:=∀ (w:World) (v:Value) (F:List Nat) (k0:Int),0≤k0→k0+(sumBy cntV x.ks:Nat)≤1099511627776→Arr w (VR w) (mkS mkV cntV k0 x.ks) v F→Under w.heap.size F →
 Calls Tryz.prog 53 #[v,.int .i64 k0] w fun e w'=>e=.returned (.int .i64 (k0+(sumBy cntV x.ks:Nat)))∧Below w.heap.size w w'
theorem heldValueS_of (xs:List V) (ih:∀ x∈xs,HeldV x) (w:World) (v:Value) (F:List Nat) (k0:Int) (h0:0≤k0) (hk:k0+(sumBy cntV xs:Nat)≤1099511627776) (hx:Arr w (VR w) (mkS mkV cntV k0 xs) v F) (hf:Under w.heap.size F) :
  Calls Tryz.prog 53 #[v,.int .i64 k0] w fun e w'=>e=.returned (.int .i64 (k0+(sumBy cntV xs:Nat)))∧Below w.heap.size w w':=by
 obtain ⟨A,cap,rfl,hc1,hc2⟩:=hx.form
 rw [zAC] at hx hc1
 rw [zAC]
 have HX:=jj hx
 have HF:=jj hf
 have HK:=jj hk
 have IH:=jj ih
 clear hx hf hk ih
 go_enter Tryz.func53,Tryz.ntmps53
 go_wp2
 go_loopw [1,5] (fun kv iv wr=>∃ i:Nat,∃ m:Int,i≤xs.length∧iv=.int .i64 i∧kv=.int .i64 m∧0≤m∧Hid (m=k0+(sumBy cntV (xs.take i):Nat))∧Below w.heap.size w wr) (fun _ iv _=>xs.length-(intOf iv).toNat)
 case atStart=>exact ⟨0,k0,Nat.zero_le _,rfl,rfl,h0,(by simp [Hid,sumBy]),zy2 _ _⟩
 case round =>
  obtain ⟨i,m,hi,rfl,rfl,hm0,HM,hB⟩:=hrel
  by_cases hlt:i<xs.length
  ·have g1:(0:Int)≤(i:Int):=by omega
   have g2:(i:Int)<(xs.length:Int):=by omega
   obtain ⟨b,off,c,F2,rfl,hb,hc,hr,hG⟩:=HX.out.get ((fun w=>VR_len (w:=w)) _) (i:=i) (by rw [zAC];exact hlt)
   have hge:(mkS mkV cntV k0 xs)[i]'(by rw [zAC];exact hlt)=mkV m xs[i]:=by
    have h:=mkS_get (mk:=mkV) (cnt:=cntV) (k:=k0) hlt
    rw [←HM.out,List.getElem?_eq_getElem (by rw [zAC];exact hlt)] at h
    exact Option.some.inj h
   rw [hge] at hr
   clear hge
   have hbl:=HF.out b hb
   have hc:=hc.same (hB.block b hbl)
   have hu2:=HF.out.sub hG
   clear hG hb
   have hbw:=zz9 hbl hB.size
   have hsum:m+(cntV xs[i]:Nat)≤1099511627776:=by
    have h1:=HM.out
    have h2:=HK.out
    have h3:=zAH cntV xs (i+1)
    rw [zA3 cntV xs i hlt] at h3
    omega
   rw [mkV_def] at hr
   obtain ⟨kv,rfl,ha⟩:=(zAD _ _ _).1 hr
   obtain ⟨A1,cap1,rfl,-,-⟩:=ha.form
   have hcd:=cntV_def xs[i]
   rw [hcd] at hsum
   simp only [zAC] at hc
   have x0:wr.cell? ⟨b,off+i*3,none⟩=some (.int .i64 (m)):=hc 0 _ rfl
   have x1:wr.cell? ⟨b,off+i*3+1,none⟩=some (.int .i64 (m+1)):=hc 1 _ rfl
   have x2:wr.cell? ⟨b,off+i*3+2,none⟩=some (.slice A1 xs[i].ks.length cap1):=hc 2 _ rfl
   clear hc
   simp only [zAC] at ha
   have HA:=jj ha
   have HU2:=jj hu2
   clear ha hu2
   have hsn:(0:Int)≤(sumBy cntV xs[i].ks:Nat):=by omega
   generalize hsg:sumBy cntV xs[i].ks=s at *
   have HSG:=jj hsg
   have HCD:=jj hcd
   clear hsg hcd
   go_wp2_with fail
   refine (IH.out _ (List.getElem_mem hlt) _ _ F2 (m+1+1) (by omega) (by rw [HSG.out];omega) (HA.out.mono (.of_below hB HU2.out) (fun x _ cs G hk h=>(fun w w' x cs G hk h=>VR.mono (w:=w) (w':=w') x cs G hk h) _ _ x cs G hk h)) (HU2.out.mono hB.size)).mono ?_
   rintro e v1 ⟨rfl,hb1⟩
   rw [HSG.out]
   have y0:=(hb1.cell (p:=⟨b,off+i*3,none⟩) hbw).trans x0
   have y1:=(hb1.cell (p:=⟨b,off+i*3+1,none⟩) hbw).trans x1
   have y2:=(hb1.cell (p:=⟨b,off+i*3+2,none⟩) hbw).trans x2
   clear x0 x1 x2
   have x0:=y0
   have x1:=y1
   have x2:=y2
   clear y0 y1 y2
   have hB1:=hB.trans (hb1.mono hB.size)
   have hbw:=zz9 hbw hb1.size
   clear hb1
   have HM2:Hid (m+1+1+(s:Int)=k0+(sumBy cntV (xs.take (i+1)):Nat)):=by
    have h1:=HM.out
    have h2:=HCD.out
    unfold Hid
    rw [zA3 cntV xs i hlt]
    omega
   have hnn:0≤m+1+1+(s:Int):=by omega
   go_wp2
   go_roundw
   case rel=>exact ⟨i+1,m+1+1+(s:Int),by omega,by go_num,rfl,by omega,HM2,hB1⟩
   case measure=>(simp [intOf] <;> omega)
  ·have hf:Hid (m=k0+(sumBy cntV xs:Nat)):=by
    have h:=HM.out
    rwa [List.take_of_length_le (by omega)] at h
   go_wp2
   go_ret
   exact ⟨zA5 hf.out,hB⟩
theorem heldV_all:∀ x,HeldV x:=V.ind fun a0 a1 ks ih w v F k0 h0 hk hx hf=>heldValueS_of ks ih w v F k0 h0 hk hx hf
theorem heldValueS_any (xs:List V) (w:World) (v:Value) (F:List Nat) (k0:Int) (h0:0≤k0) (hk:k0+(sumBy cntV xs:Nat)≤1099511627776) (hx:Arr w (VR w) (mkS mkV cntV k0 xs) v F) (hf:Under w.heap.size F) :
  Calls Tryz.prog 53 #[v,.int .i64 k0] w fun e w'=>e=.returned (.int .i64 (k0+(sumBy cntV xs:Nat)))∧Below w.heap.size w w':=heldValueS_of xs (fun x _=>heldV_all x) w v F k0 h0 hk hx hf
theorem heldBindS_any (xs:List Bd) (w:World) (v:Value) (F:List Nat) (k0:Int) (h0:0≤k0) (hk:k0+(sumBy cntBd xs:Nat)≤1099511627776) (hx:Arr w (BdR w) (mkS mkBd cntBd k0 xs) v F) (hf:Under w.heap.size F) :
  Calls Tryz.prog 25 #[v,.int .i64 k0] w fun e w'=>e=.returned (.int .i64 (k0+(sumBy cntBd xs:Nat)))∧Below w.heap.size w w':=by
 obtain ⟨A,cap,rfl,hc1,hc2⟩:=hx.form
 rw [zAC] at hx hc1
 rw [zAC]
 have HX:=jj hx
 have HF:=jj hf
 have HK:=jj hk
 clear hx hf hk
 go_enter Tryz.func25,Tryz.ntmps25
 go_wp2
 go_loopw [1,5] (fun kv iv wr=>∃ i:Nat,∃ m:Int,i≤xs.length∧iv=.int .i64 i∧kv=.int .i64 m∧0≤m∧Hid (m=k0+(sumBy cntBd (xs.take i):Nat))∧Below w.heap.size w wr) (fun _ iv _=>xs.length-(intOf iv).toNat)
 case atStart=>exact ⟨0,k0,Nat.zero_le _,rfl,rfl,h0,(by simp [Hid,sumBy]),zy2 _ _⟩
 case round =>
  obtain ⟨i,m,hi,rfl,rfl,hm0,HM,hB⟩:=hrel
  by_cases hlt:i<xs.length
  ·have g1:(0:Int)≤(i:Int):=by omega
   have g2:(i:Int)<(xs.length:Int):=by omega
   obtain ⟨b,off,c,F2,rfl,hb,hc,hr,hG⟩:=HX.out.get ((fun w=>BdR_len (w:=w)) _) (i:=i) (by rw [zAC];exact hlt)
   have hge:(mkS mkBd cntBd k0 xs)[i]'(by rw [zAC];exact hlt)=mkBd m xs[i]:=by
    have h:=mkS_get (mk:=mkBd) (cnt:=cntBd) (k:=k0) hlt
    rw [←HM.out,List.getElem?_eq_getElem (by rw [zAC];exact hlt)] at h
    exact Option.some.inj h
   rw [hge] at hr
   clear hge
   have hbl:=HF.out b hb
   have hc:=hc.same (hB.block b hbl)
   have hu2:=HF.out.sub hG
   clear hG hb
   have hbw:=zz9 hbl hB.size
   have hsum:m+(cntBd xs[i]:Nat)≤1099511627776:=by
    have h1:=HM.out
    have h2:=HK.out
    have h3:=zAH cntBd xs (i+1)
    rw [zA3 cntBd xs i hlt] at h3
    omega
   unfold mkBd at hr
   obtain ⟨ds,rfl,hv0⟩:=hr
   obtain ⟨kv,rfl,ha⟩:=(zAD _ _ _).1 hv0
   obtain ⟨A1,cap1,rfl,-,-⟩:=ha.form
   have hcd:=cntBd_def xs[i]
   rw [hcd] at hsum
   simp only [zAC] at hc
   have x0:wr.cell? ⟨b,off+i*4,none⟩=some (.int .i64 (m)):=hc 0 _ rfl
   have x1:wr.cell? ⟨b,off+i*4+1,none⟩=some (.int .i64 (m+1)):=hc 1 _ rfl
   have x2:wr.cell? ⟨b,off+i*4+2,none⟩=some (.int .i64 (m+1+1)):=hc 2 _ rfl
   have x3:wr.cell? ⟨b,off+i*4+3,none⟩=some (.slice A1 xs[i].val.ks.length cap1):=hc 3 _ rfl
   clear hc
   simp only [zAC] at ha
   have HA:=jj ha
   have HU2:=jj hu2
   clear ha hu2
   have hsn:(0:Int)≤(sumBy cntV xs[i].val.ks:Nat):=by omega
   generalize hsg:sumBy cntV xs[i].val.ks=s at *
   have HSG:=jj hsg
   have HCD:=jj hcd
   clear hsg hcd
   go_wp2_with fail
   refine (heldValueS_any xs[i].val.ks _ _ F2 (m+1+1+1) (by omega) (by rw [HSG.out];omega) (HA.out.mono (.of_below hB HU2.out) (fun x _ cs G hk h=>(fun w w' x cs G hk h=>VR.mono (w:=w) (w':=w') x cs G hk h) _ _ x cs G hk h)) (HU2.out.mono hB.size)).mono ?_
   rintro e v1 ⟨rfl,hb1⟩
   rw [HSG.out]
   have y0:=(hb1.cell (p:=⟨b,off+i*4,none⟩) hbw).trans x0
   have y1:=(hb1.cell (p:=⟨b,off+i*4+1,none⟩) hbw).trans x1
   have y2:=(hb1.cell (p:=⟨b,off+i*4+2,none⟩) hbw).trans x2
   have y3:=(hb1.cell (p:=⟨b,off+i*4+3,none⟩) hbw).trans x3
   clear x0 x1 x2 x3
   have x0:=y0
   have x1:=y1
   have x2:=y2
   have x3:=y3
   clear y0 y1 y2 y3
   have hB1:=hB.trans (hb1.mono hB.size)
   have hbw:=zz9 hbw hb1.size
   clear hb1
   have HM2:Hid (m+1+1+1+(s:Int)=k0+(sumBy cntBd (xs.take (i+1)):Nat)):=by
    have h1:=HM.out
    have h2:=HCD.out
    unfold Hid
    rw [zA3 cntBd xs i hlt]
    omega
   have hnn:0≤m+1+1+1+(s:Int):=by omega
   go_wp2
   go_roundw
   case rel=>exact ⟨i+1,m+1+1+1+(s:Int),by omega,by go_num,rfl,by omega,HM2,hB1⟩
   case measure=>(simp [intOf] <;> omega)
  ·have hf:Hid (m=k0+(sumBy cntBd xs:Nat)):=by
    have h:=HM.out
    rwa [List.take_of_length_le (by omega)] at h
   go_wp2
   go_ret
   exact ⟨zA5 hf.out,hB⟩
end Go.Proofs.YtghekinfoadcoaaGreat
namespace Go.Proofs.YtghekinfoadcoaaGreat
open Go.ChangeShapes Go.WideShapes Go.ChangeAt Go.RowKit
section
variable {H : Type} {enc : TypeId × Value → H} {P : Program} {w : World} {base : Nat} {spare : Nat → Bool} {held : Bool}
theorem cell_lt {w:World} {a:Addr} {v:Value} (h:w.cell? a=some v):a.block<w.heap.size:=by
 rcases Nat.lt_or_ge a.block w.heap.size with hl | hl
 ·exact hl
 ·unfold World.cell? at h
  rw [Array.getElem?_eq_none hl] at h
  cases h
theorem open_Arr {α:Type} (R:α→List Value→List Nat→Prop) {t e:TypeId} {k n fuel:Nat} {cs:List Value} {x:DataW H×List MemPlace} (ht:P.underlying t=some (.slice e)) (hk:P.cellsOf e=k) (hk0:0<k) (hf:fuel=n+1)
  (hR:∀ ds y,DataW.trod enc P w base spare held n e ds=some y→ds.length=k→∃ a F,R a ds F∧Under w.heap.size F)
  (h:DataW.trod enc P w base spare held fuel t cs=some x):∃ xs v F,cs=[v]∧Arr w R xs v F∧Under w.heap.size F:=by
 subst hf
 rcases DataW.trod_slice ht h with ⟨rfl,-⟩ | ⟨a,len,cap,elems,rest,m,hm,rfl,-,-,hl,hmax,hlen,hel,-,-⟩
 ·exact ⟨[],_,[],rfl,Arr.nil,Under.nil _⟩
 ·obtain rfl:n=m:=by omega
  by_cases h0:len=0
  ·subst h0
   exact ⟨[],_,[],rfl,⟨_,_,rfl,hl,hmax,.inl ⟨rfl,rfl⟩⟩,Under.nil _⟩
  ·have get:∀ i,i<len→∃ ds y,(∀ j,j<k→w.cell? (a.add (i*k+j))=ds[j]?)∧ds.length=k∧DataW.trod enc P w base spare held n e ds=some y:=fun i hi=>by
    have h1:=hel i hi
    rw [List.getElem?_eq_getElem (by omega),Option.bind_eq_some_iff] at h1
    obtain ⟨ds,h2,h3⟩:=h1
    obtain ⟨-,h4,h5⟩:=World.cells?_some h2
    rw [hk] at h4 h5
    refine ⟨ds,_,fun j hj=>?_,h4,h3⟩
    rw [←h5 j hj]
    congr 1
    unfold Addr.add
    by_cases e1:i*k=0 <;> by_cases e2:j=0 <;> simp [e1,e2,Nat.add_assoc]
   obtain ⟨b,off,spot⟩:=a
   obtain ⟨ds0,y0,g1,g2,-⟩:=get 0 (by omega)
   have hc0:w.cell? ⟨b,off,spot⟩=some (ds0[0]'(by omega)):=by
    have:=g1 0 hk0
    simpa [Addr.add,List.getElem?_eq_getElem (show 0<ds0.length by omega)] using this
   have hspot:spot=none:=by simpa using World.cell?_spot hc0
   subst hspot
   have hb:b<w.heap.size:=cell_lt hc0
   have key:∀ m,m≤len→∃ (xs:List α) (cs:List Value) (F:List Nat),xs.length=m∧cs.length=m*k∧CellsAt w b off cs∧Flat R xs cs F∧Under w.heap.size F:=by
    intro m
    induction m with
    |zero=>intro _;exact ⟨[],[],[],rfl,by simp,fun j u hj=>by simp at hj,⟨rfl,rfl⟩,Under.nil _⟩
    |succ m ih =>
     intro hm
     obtain ⟨xs,cs,F,h1,h2,h3,h4,h5⟩:=ih (by omega)
     obtain ⟨ds,y,g1,g2,g3⟩:=get m (by omega)
     obtain ⟨z,G,r1,r2⟩:=hR ds y g3 g2
     refine ⟨xs ++ [z],cs ++ ds,F ++ G,by simp [h1],by simp [h2,g2,Nat.add_mul],h3.append (fun j u hj=>?_),h4.append (Flat.one r1),fun c hc=>?_⟩
     ·have hjk:j<k:=by rw [←g2];exact (List.getElem?_eq_some_iff.1 hj).1
      have:=g1 j hjk
      rw [hj,Addr.add_lit] at this
      rw [h2,←this]
      congr 2
      omega
     ·rcases List.mem_append.1 hc with hc | hc
      ·exact h5 c hc
      ·exact r2 c hc
   obtain ⟨xs,cs,F,h1,h2,h3,h4,h5⟩:=key len (zz8 _)
   refine ⟨xs,_,b :: F,rfl,⟨_,_,by rw [h1],by omega,hmax,.inr ⟨b,off,cs,F,rfl,h3,h4,rfl⟩⟩,fun c hc=>?_⟩
   rcases List.mem_cons.1 hc with rfl | hc
   ·exact hb
   ·exact h5 c hc
theorem one_field {fs:Array Field} {n:Nat} {cs:List Value} {xs:List (DataW H×List MemPlace)}
  (hf:∀ (i:Nat) (f:Field),fs[i]?=some f→DataW.trod enc P w base spare held n f.type ((cs.drop f.offset).take (P.cellsOf f.type))=xs[i]?)
  (hone:Deep.oneCellFields P fs=true) (hxl:xs.length=fs.size) (i:Nat) (f:Field) (hi:fs[i]?=some f) (c:Value) (hc:cs[i]?=some c) :
  ∃ y,DataW.trod enc P w base spare held n f.type [c]=some y:=by
 obtain ⟨h1,h2⟩:=Deep.hone_of hone i f hi
 have h:=hf i f hi
 have hlt:i<fs.size:=(Array.getElem?_eq_some_iff.1 hi).1
 rw [List.getElem?_eq_getElem (show i<xs.length by omega),h1,h2] at h
 obtain ⟨hlc,hcc⟩:=List.getElem?_eq_some_iff.1 hc
 rw [List.drop_eq_getElem_cons hlc,hcc] at h
 exact ⟨_,h⟩
theorem sub_field {fs:Array Field} {n:Nat} {cs:List Value} {xs:List (DataW H×List MemPlace)}
  (hf:∀ (i:Nat) (f:Field),fs[i]?=some f→DataW.trod enc P w base spare held n f.type ((cs.drop f.offset).take (P.cellsOf f.type))=xs[i]?)
  (hxl:xs.length=fs.size) (i:Nat) (f:Field) (hi:fs[i]?=some f) (k off:Nat) (hk:P.cellsOf f.type=k) (ho:f.offset=off) :
  ∃ y,DataW.trod enc P w base spare held n f.type ((cs.drop off).take k)=some y:=by
 have h:=hf i f hi
 have hlt:i<fs.size:=(Array.getElem?_eq_some_iff.1 hi).1
 rw [List.getElem?_eq_getElem (show i<xs.length by omega),hk,ho] at h
 exact ⟨_,h⟩
theorem open_slice_arg {α:Type} (R:α→List Value→List Nat→Prop) {t e:TypeId} {k:Nat} {r:Reach} {b0:Nat} {v:Value} {d:DataW H} {ps:List MemPlace} (ht:P.underlying t=some (.slice e)) (hk:P.cellsOf e=k) (hk0:0<k)
  (hR:∀ n ds y,DataW.trod enc P w base spare held n e ds=some y→∃ a F,R a ds F∧Under w.heap.size F)
  (hval:Value.okWide P w r b0 t v) (h:DataW.Trod enc P w base spare held t v d ps):∃ xs F,Arr w R xs v F∧Under w.heap.size F:=by
 obtain ⟨a,len,cap,rfl⟩:=okWide_slice ht hval
 obtain ⟨fuel,hf⟩:=h
 cases fuel with
 |zero=>simp [DataW.trod] at hf
 |succ n =>
  obtain ⟨xs,v,F,hv,ha,hF⟩:=open_Arr R ht hk hk0 rfl (fun ds y hd _=>hR n ds y hd) hf
  have:v=.slice a len cap:=by simpa [Value.cells] using hv.symm
  subst this
  exact ⟨xs,F,ha,hF⟩
end
end Go.Proofs.YtghekinfoadcoaaGreat
namespace Go.Proofs.YtghekinfoadcoaaGreat
open Go.ChangeShapes Go.WideShapes Go.ChangeAt Go.RowKit
set_option maxRecDepth 100000
theorem cellsOf_lawsTy:Tryz.prog.cellsOf 24=2:=by kernel_rfl
theorem open_Ty_cells {H:Type} {enc:TypeId×Value→H} {w:World} {base:Nat} {spare:Nat→Bool} {held:Bool} (fuel:Nat) (cs:List Value) (x:DataW H×List MemPlace)
  (h:DataW.trod enc Tryz.prog w base spare held fuel 24 cs=some x):∃ v F,TyR w v cs F∧Under w.heap.size F:=by
 obtain ⟨xs,n,rfl,-,hl,hxl,hf⟩:=DataW.trod_struct Tryz.underlying24 h
 rw [cellsOf_lawsTy] at hl
 match cs,hl with
 |[c0,c1],_ =>
 obtain ⟨y0,f0⟩:=sub_field hf hxl 0 _ rfl 1 0 (by kernel_rfl) rfl
 obtain ⟨i0,e0,-,-⟩:=DataW.trod_int Tryz.underlying3 f0
 obtain rfl:c0=.int .i64 i0:=by simpa using e0
 obtain ⟨y1,f1⟩:=sub_field hf hxl 1 _ rfl 1 1 (by kernel_rfl) rfl
 obtain ⟨i1,e1,-,-⟩:=DataW.trod_int Tryz.underlying3 f1
 obtain rfl:c1=.int .i64 i1:=by simpa using e1
 exact ⟨⟨i0,i1⟩,[],⟨rfl,rfl⟩,Under.nil _⟩
theorem open_Ty {H:Type} {enc:TypeId×Value→H} {w:World} {base:Nat} {spare:Nat→Bool} {held:Bool} {r:Reach} {b0:Nat} {v:Value} {d:DataW H} {ps:List MemPlace} (hval:Value.okWide Tryz.prog w r b0 24 v)
  (h:DataW.Trod enc Tryz.prog w base spare held 24 v d ps):∃ (x:Ty) (cs:List Value) (F:List Nat),v=.agg cs.toArray∧TyR w x cs F∧Under w.heap.size F:=by
 obtain ⟨cs,rfl,-⟩:=okWide_struct Tryz.underlying24 hval
 obtain ⟨fuel,hf⟩:=h
 obtain ⟨x,F,h1,h2⟩:=open_Ty_cells fuel _ _ hf
 exact ⟨x,cs.toList,F,by simp,h1,h2⟩
end Go.Proofs.YtghekinfoadcoaaGreat
namespace Go.Proofs.YtghekinfoadcoaaGreat
open Go.ChangeShapes Go.WideShapes Go.ChangeAt Go.RowKit
set_option maxRecDepth 100000
theorem cellsOf_lawsKt:Tryz.prog.cellsOf 139=3:=by kernel_rfl
theorem open_Kt_cells {H:Type} {enc:TypeId×Value→H} {w:World} {base:Nat} {spare:Nat→Bool} {held:Bool} (fuel:Nat) (cs:List Value) (x:DataW H×List MemPlace)
  (h:DataW.trod enc Tryz.prog w base spare held fuel 139 cs=some x):∃ v F,KtR w v cs F∧Under w.heap.size F:=by
 obtain ⟨xs,n,rfl,-,hl,hxl,hf⟩:=DataW.trod_struct Tryz.underlying139 h
 rw [cellsOf_lawsKt] at hl
 match cs,hl with
 |[c0,c1,c2],_ =>
 obtain ⟨y0,f0⟩:=sub_field hf hxl 0 _ rfl 1 0 (by kernel_rfl) rfl
 obtain ⟨s0,e0,-,hs0⟩:=DataW.trod_string Tryz.underlying9 f0
 obtain rfl:c0=.string s0:=by simpa using e0
 obtain ⟨y1,f1⟩:=sub_field hf hxl 1 _ rfl 1 1 (by kernel_rfl) rfl
 cases n with
 |zero=>simp [DataW.trod] at f1
 |succ n =>
 obtain ⟨l1,kv,F,ek,ha,hF⟩:=open_Arr (TyR w) Tryz.underlying137 cellsOf_lawsTy (by decide) rfl (fun ds y hd _=>open_Ty_cells n ds y hd) f1
 obtain rfl:c1=kv:=by simpa using ek
 obtain ⟨y2,f2⟩:=sub_field hf hxl 2 _ rfl 1 2 (by kernel_rfl) rfl
 obtain ⟨i2,e2,-,-⟩:=DataW.trod_int Tryz.underlying3 f2
 obtain rfl:c2=.int .i64 i2:=by simpa using e2
 exact ⟨⟨s0,l1,i2⟩,F,⟨_,rfl,ha,(by unfold maxLen at hs0;omega)⟩,hF⟩
end Go.Proofs.YtghekinfoadcoaaGreat
namespace Go.Proofs.YtghekinfoadcoaaGreat
open Go.ChangeShapes Go.WideShapes Go.ChangeAt Go.RowKit
set_option maxRecDepth 100000
theorem cellsOf_lawsDt:Tryz.prog.cellsOf 77=2:=by kernel_rfl
theorem open_Dt_cells {H:Type} {enc:TypeId×Value→H} {w:World} {base:Nat} {spare:Nat→Bool} {held:Bool} (fuel:Nat) (cs:List Value) (x:DataW H×List MemPlace)
  (h:DataW.trod enc Tryz.prog w base spare held fuel 77 cs=some x):∃ v F,DtR w v cs F∧Under w.heap.size F:=by
 obtain ⟨xs,n,rfl,-,hl,hxl,hf⟩:=DataW.trod_struct Tryz.underlying77 h
 rw [cellsOf_lawsDt] at hl
 match cs,hl with
 |[c0,c1],_ =>
 obtain ⟨y0,f0⟩:=sub_field hf hxl 0 _ rfl 1 0 (by kernel_rfl) rfl
 obtain ⟨s0,e0,-,hs0⟩:=DataW.trod_string Tryz.underlying9 f0
 obtain rfl:c0=.string s0:=by simpa using e0
 obtain ⟨y1,f1⟩:=sub_field hf hxl 1 _ rfl 1 1 (by kernel_rfl) rfl
 cases n with
 |zero=>simp [DataW.trod] at f1
 |succ n =>
 obtain ⟨l1,kv,F,ek,ha,hF⟩:=open_Arr (KtR w) Tryz.underlying75 cellsOf_lawsKt (by decide) rfl (fun ds y hd _=>open_Kt_cells n ds y hd) f1
 obtain rfl:c1=kv:=by simpa using ek
 exact ⟨⟨s0,l1⟩,F,⟨_,rfl,ha,(by unfold maxLen at hs0;omega)⟩,hF⟩
theorem open_Dts {H:Type} {enc:TypeId×Value→H} {w:World} {base:Nat} {spare:Nat→Bool} {held:Bool} {r:Reach} {b0:Nat} {v:Value} {d:DataW H} {ps:List MemPlace} (hval:Value.okWide Tryz.prog w r b0 22 v)
  (h:DataW.Trod enc Tryz.prog w base spare held 22 v d ps):∃ (x:List Dt) (F:List Nat),Arr w (DtR w) x v F∧Under w.heap.size F :=
 open_slice_arg (DtR w) Tryz.underlying22 cellsOf_lawsDt (by decide) (fun n ds y hd=>open_Dt_cells n ds y hd) hval h
end Go.Proofs.YtghekinfoadcoaaGreat
namespace Go.Proofs.YtghekinfoadcoaaGreat
open Go.ChangeShapes Go.WideShapes Go.ChangeAt Go.RowKit
set_option maxRecDepth 100000
theorem cellsOf_lawsP:Tryz.prog.cellsOf 27=6:=by kernel_rfl
theorem open_P_cells {H:Type} {enc:TypeId×Value→H} {w:World} {base:Nat} {spare:Nat→Bool} {held:Bool} (fuel:Nat):∀ (cs:List Value) (x:DataW H×List MemPlace),
  DataW.trod enc Tryz.prog w base spare held fuel 27 cs=some x→∃ v F,PR w v cs F∧Under w.heap.size F:=by
 induction fuel using Nat.strongRecOn with
 |ind fuel ih =>
 intro cs x h
 obtain ⟨xs,n,rfl,-,hl,hxl,hf⟩:=DataW.trod_struct Tryz.underlying27 h
 rw [cellsOf_lawsP] at hl
 match cs,hl with
 |[c0,c1,c2,c3,c4,c5],_ =>
 obtain ⟨y,hq⟩:=one_field hf (by kernel_rfl) hxl 5 _ rfl c5 rfl
 obtain ⟨y0,f0⟩:=one_field hf (by kernel_rfl) hxl 0 _ rfl c0 rfl
 obtain ⟨i0,e0,-,-⟩:=DataW.trod_int Tryz.underlying3 f0
 obtain ⟨y1,f1⟩:=one_field hf (by kernel_rfl) hxl 1 _ rfl c1 rfl
 obtain ⟨i1,e1,-,-⟩:=DataW.trod_int Tryz.underlying3 f1
 obtain ⟨y2,f2⟩:=one_field hf (by kernel_rfl) hxl 2 _ rfl c2 rfl
 obtain ⟨i2,e2,-,-⟩:=DataW.trod_int Tryz.underlying3 f2
 obtain ⟨y3,f3⟩:=one_field hf (by kernel_rfl) hxl 3 _ rfl c3 rfl
 obtain ⟨i3,e3,-,-⟩:=DataW.trod_int Tryz.underlying3 f3
 obtain ⟨y4,f4⟩:=one_field hf (by kernel_rfl) hxl 4 _ rfl c4 rfl
 obtain ⟨i4,e4,-,-⟩:=DataW.trod_int Tryz.underlying3 f4
 simp only [List.cons.injEq,and_true] at e0 e1 e2 e3 e4
 subst e0 e1 e2 e3 e4
 cases n with
 |zero=>simp [DataW.trod] at hq
 |succ n =>
  obtain ⟨ks,kv,F,ek,ha,hF⟩:=open_Arr (PR w) Tryz.underlying25 cellsOf_lawsP (by decide) rfl (fun ds y hd _=>ih n (by omega) ds y hd) hq
  simp only [List.cons.injEq,and_true] at ek
  subst ek
  exact ⟨⟨i0,i1,i2,i3,i4,ks⟩,F,(zAF _ _ _).2 ⟨_,rfl,ha⟩,hF⟩
theorem open_P {H:Type} {enc:TypeId×Value→H} {w:World} {base:Nat} {spare:Nat→Bool} {held:Bool} {r:Reach} {b0:Nat} {v:Value} {d:DataW H} {ps:List MemPlace} (hval:Value.okWide Tryz.prog w r b0 27 v)
  (h:DataW.Trod enc Tryz.prog w base spare held 27 v d ps):∃ (x:P) (cs:List Value) (F:List Nat),v=.agg cs.toArray∧PR w x cs F∧Under w.heap.size F:=by
 obtain ⟨cs,rfl,-⟩:=okWide_struct Tryz.underlying27 hval
 obtain ⟨fuel,hf⟩:=h
 obtain ⟨x,F,h1,h2⟩:=open_P_cells fuel _ _ hf
 exact ⟨x,cs.toList,F,by simp,h1,h2⟩
end Go.Proofs.YtghekinfoadcoaaGreat
namespace Go.Proofs.YtghekinfoadcoaaGreat
open Go.ChangeShapes Go.WideShapes Go.ChangeAt Go.RowKit
set_option maxRecDepth 100000
theorem cellsOf_lawsV:Tryz.prog.cellsOf 30=3:=by kernel_rfl
theorem open_V_cells {H:Type} {enc:TypeId×Value→H} {w:World} {base:Nat} {spare:Nat→Bool} {held:Bool} (fuel:Nat):∀ (cs:List Value) (x:DataW H×List MemPlace),
  DataW.trod enc Tryz.prog w base spare held fuel 30 cs=some x→∃ v F,VR w v cs F∧Under w.heap.size F:=by
 induction fuel using Nat.strongRecOn with
 |ind fuel ih =>
 intro cs x h
 obtain ⟨xs,n,rfl,-,hl,hxl,hf⟩:=DataW.trod_struct Tryz.underlying30 h
 rw [cellsOf_lawsV] at hl
 match cs,hl with
 |[c0,c1,c2],_ =>
 obtain ⟨y,hq⟩:=one_field hf (by kernel_rfl) hxl 2 _ rfl c2 rfl
 obtain ⟨y0,f0⟩:=one_field hf (by kernel_rfl) hxl 0 _ rfl c0 rfl
 obtain ⟨i0,e0,-,-⟩:=DataW.trod_int Tryz.underlying3 f0
 obtain ⟨y1,f1⟩:=one_field hf (by kernel_rfl) hxl 1 _ rfl c1 rfl
 obtain ⟨i1,e1,-,-⟩:=DataW.trod_int Tryz.underlying3 f1
 simp only [List.cons.injEq,and_true] at e0 e1
 subst e0 e1
 cases n with
 |zero=>simp [DataW.trod] at hq
 |succ n =>
  obtain ⟨ks,kv,F,ek,ha,hF⟩:=open_Arr (VR w) Tryz.underlying28 cellsOf_lawsV (by decide) rfl (fun ds y hd _=>ih n (by omega) ds y hd) hq
  simp only [List.cons.injEq,and_true] at ek
  subst ek
  exact ⟨⟨i0,i1,ks⟩,F,(zAD _ _ _).2 ⟨_,rfl,ha⟩,hF⟩
theorem open_V {H:Type} {enc:TypeId×Value→H} {w:World} {base:Nat} {spare:Nat→Bool} {held:Bool} {r:Reach} {b0:Nat} {v:Value} {d:DataW H} {ps:List MemPlace} (hval:Value.okWide Tryz.prog w r b0 30 v)
  (h:DataW.Trod enc Tryz.prog w base spare held 30 v d ps):∃ (x:V) (cs:List Value) (F:List Nat),v=.agg cs.toArray∧VR w x cs F∧Under w.heap.size F:=by
 obtain ⟨cs,rfl,-⟩:=okWide_struct Tryz.underlying30 hval
 obtain ⟨fuel,hf⟩:=h
 obtain ⟨x,F,h1,h2⟩:=open_V_cells fuel _ _ hf
 exact ⟨x,cs.toList,F,by simp,h1,h2⟩
end Go.Proofs.YtghekinfoadcoaaGreat
