/-
  Lemmas, and contracts of functions. Conditions: none.
-/
import Derived.Test.YtjjclcmmfeegfaaGAC
import Derived.Test.YtjjclcmmfeegfaaChecked
import Derived.Test.YtjjclcmmfeegfaaGAA
import Derived.Deep.RegionWith
import Derived.Test.YtjjclcmmfeegfaaGAB
import Derived.IntWalk
import Derived.Deep.RegionHeld3

set_option linter.unusedVariables false
set_option linter.unusedSimpArgs false
set_option maxRecDepth 100000
set_option maxHeartbeats 1600000

namespace Go.Proofs.Ytjjclcmmfeegfaa
open Go.RowKit
theorem spec_l1Text (xs:List Dt) (hw:WorldOK xs) (w:World) (v:Value) (F:List Nat) (hx:Arr w (DtR w) xs v F) (hf:Under w F) :
  Calls Try.prog 114 #[v] w fun e w'=>e=.returned (.string (bs (textT xs)))∧Below w w w':=by
 obtain ⟨A,cap,rfl,hc1,hc2⟩:=hx.form
 have hxl:=hw.len
 have HW:=jj hw
 have HX:=jj hx
 have HF:=jj hf
 clear hx hf
 clear hw
 go_enter Try.func114,Try.ntmps114
 go_wp2
 go_loopw [3,4] (fun ov dv wr=>∃ d:Nat,∃ out:ByteArray,d≤xs.length∧dv=.int .i64 d∧ov=.string out∧out.size≤100*d∧Hid (textT xs=tl out ++ dtsT xs (decide (d=0)) (xs.drop d))∧Below w w wr) (fun _ dv _=>xs.length-(intOf dv).toNat)
 case atStart=>exact ⟨0,⟨#[]⟩,Nat.zero_le _,rfl,rfl,Nat.zero_le _,rfl,zy2 _ _⟩
 case round =>
  obtain ⟨d,out,hd,rfl,rfl,hos,HT,hB⟩:=hrel
  by_cases hdl:d<xs.length
  ·obtain ⟨b,off,rfl⟩:=HX.out.ptr (by omega)
   have hd2:=hdl
   have g1:(0:Int)≤(d:Int):=by omega
   have g2:(d:Int)<(xs.length:Int):=by omega
   have t1:decide ((d:Int)<(xs.length:Int))=true:=decide_eq_true g2
   have hcl4:=(HW.out.at hdl).hi
   have hns:xs[d].name.size=1:=dname_len (HW.out.at hdl).name
   obtain ⟨A1,cap1,G1,hb,c0,c1,HK,HG,-,hn1,hn2⟩:=ArrDt.at HX.out HF.out hB d hdl
   have hst:=HT.out
   rw [dtsT_step xs _ _ d hdl] at hst
   by_cases hdp:0<d
   have t2:decide ((d:Int)>0)=true:=decide_eq_true (by omega)
   have hd0:decide (d=0)=false:=by exact decide_eq_false (by omega)
   rw [hd0,if_neg (by simp)] at hst
   have hst2:textT xs=tl (out ++ ⟨#[59]⟩ ++ xs[d].name ++ ⟨#[61]⟩) ++ (ktsT xs true xs[d].ctors ++ dtsT xs false (xs.drop (d+1))):=by
    rw [hst,zAC,zAC,zAC]
    show tl out ++ ([59] ++ (tl _ ++ ([61] ++ _)))=(tl out ++ [59]) ++ tl _ ++ [61] ++ _
    simp only [List.append_assoc,List.nil_append]
    rfl
   have HST:=jj hst2
   have hs2:(out ++ ⟨#[59]⟩ ++ xs[d].name ++ ⟨#[61]⟩).size≤100*d+3:=by rw [zAD,zAD,zAD];show out.size+1+_+1≤_;omega
   rotate_left
   have t2:decide ((d:Int)>0)=false:=decide_eq_false (by omega)
   have hd0:decide (d=0)=true:=by exact decide_eq_true (by omega)
   rw [hd0,if_pos rfl] at hst
   have hst2:textT xs=tl (out ++ xs[d].name ++ ⟨#[61]⟩) ++ (ktsT xs true xs[d].ctors ++ dtsT xs false (xs.drop (d+1))):=by
    rw [hst,zAC,zAC]
    show tl out ++ ([] ++ (tl _ ++ ([61] ++ _)))=tl out ++ tl _ ++ [61] ++ _
    simp only [List.append_assoc,List.nil_append]
    rfl
   have HST:=jj hst2
   have hs2:(out ++ xs[d].name ++ ⟨#[61]⟩).size≤100*d+3:=by rw [zAD,zAD];show out.size+_+1≤_;omega
   rotate_left
   all_goals (
    have HS2:=jj hs2
    have hc1:out.size+1≤9223372036854775807:=by omega
    have hc2:out.size+xs[d].name.size≤9223372036854775807:=by omega
    have hc3:out.size+1+xs[d].name.size≤9223372036854775807:=by omega
    have hc4:out.size+xs[d].name.size+1≤9223372036854775807:=by omega
    have hc5:out.size+1+xs[d].name.size+1≤9223372036854775807:=by omega
    clear hst hst2 hs2 hd0
    go_wp2
    obtain ⟨wo,hwo⟩:∃ wo,wo=wr:=⟨_,rfl⟩
    rw [←hwo] at hB c0 c1 hb ⊢
    clear hwo
    go_loopw [3,5] (fun ov kv wr=>∃ k:Nat,∃ out:ByteArray,k≤xs[d].ctors.length∧kv=.int .i64 k∧ov=.string out∧out.size≤100*d+3+18*k∧Hid (textT xs=tl out ++ (ktsT xs (decide (k=0)) (xs[d].ctors.drop k) ++ dtsT xs false (xs.drop (d+1))))∧Below w w wr) (fun _ kv _=>xs[d].ctors.length-(intOf kv).toNat)
    case atStart=>exact ⟨0,_,Nat.zero_le _,rfl,rfl,HS2.out,HST.out,hB⟩
    case round =>
     clear hB c0 c1 hb HST HS2 hos hns hc1 hc2 hc3 hc4 hc5 t1
     obtain ⟨k,out,hk,rfl,rfl,hos,HT,hB⟩:=hrel
     obtain ⟨A1,cap1,G1,hb,c0,c1,HK,HG,-,hn1,hn2⟩:=ArrDt.at HX.out HF.out hB d hdl
     by_cases hkl:k<xs[d].ctors.length
     ·obtain ⟨b2,off2,rfl⟩:=HK.out.ptr (by omega)
      obtain ⟨A3,cap3,G3,hb3,k0,k1,k2,HK3,HG3,-,hn3,hn4⟩:=ArrKt.rep HK.out HG.out hB k hkl
      have g3:(0:Int)≤(k:Int):=by omega
      have g4:(k:Int)<(xs[d].ctors.length:Int):=by omega
      have hst:=HT.out
      rw [ktsT_step xs _ _ k hkl] at hst
      have HKO:Hid (KtOk xs.length xs[d].ctors[k]):=HW.out.ctor hd2 hkl
      have hkt:(bs (ktT xs xs[d].ctors[k])).size≤17:=ktT_len HW.out HKO.out
      have hc1:out.size+1≤9223372036854775807:=by omega
      have hc2:out.size+(bs (ktT xs xs[d].ctors[k])).size≤9223372036854775807:=by omega
      have hc3:out.size+1+(bs (ktT xs xs[d].ctors[k])).size≤9223372036854775807:=by omega
      by_cases hkp:0<k
      have t3:decide ((k:Int)>0)=true:=decide_eq_true (by omega)
      have hk0:decide (k=0)=false:=by exact decide_eq_false (by omega)
      rw [hk0,if_neg (by simp)] at hst
      have hst2:textT xs=tl (out ++ ⟨#[124]⟩ ++ bs (ktT xs xs[d].ctors[k])) ++ (ktsT xs (decide (k+1=0)) (xs[d].ctors.drop (k+1)) ++ dtsT xs false (xs.drop (d+1))):=by
       rw [hst,zAC,zAC,tl_bs,decide_eq_false (show ¬(k+1=0) by omega)]
       show tl out ++ (([124] ++ (_ ++ _)) ++ _)=(tl out ++ [124]) ++ _ ++ _
       simp only [List.append_assoc,List.nil_append]
      have HST:=jj hst2
      have hs2:(out ++ ⟨#[124]⟩ ++ bs (ktT xs xs[d].ctors[k])).size≤100*d+3+18*(k+1):=by rw [zAD,zAD];show out.size+1+_≤_;omega
      rotate_left
      have t3:decide ((k:Int)>0)=false:=decide_eq_false (by omega)
      have hk0:decide (k=0)=true:=by exact decide_eq_true (by omega)
      rw [hk0,if_pos rfl] at hst
      have hst2:textT xs=tl (out ++ bs (ktT xs xs[d].ctors[k])) ++ (ktsT xs (decide (k+1=0)) (xs[d].ctors.drop (k+1)) ++ dtsT xs false (xs.drop (d+1))):=by
       rw [hst,zAC,tl_bs,decide_eq_false (show ¬(k+1=0) by omega)]
       show tl out ++ (([] ++ (_ ++ _)) ++ _)=tl out ++ _ ++ _
       simp only [List.append_assoc,List.nil_append]
      have HST:=jj hst2
      have hs2:(out ++ bs (ktT xs xs[d].ctors[k])).size≤100*d+3+18*(k+1):=by rw [zAD];omega
      rotate_left
      all_goals (
       have HS2:=jj hs2
       clear hst hst2 hs2 hk0
       go_wp2_with fail
       refine (spec_l1CtorText xs HW.out xs[d].ctors[k] HKO.out wr _ F (ArrDt.below HX.out hB HF.out) (HF.out.mono hB.size) _ _ G3 (HK3.out.below hB HG3.out) (HG3.out.mono hB.size)).mono ?_
       rintro e w' ⟨rfl,hB'⟩
       have hB3:=hB.trans (hB'.mono hB.size)
       clear k0 k1 k2 c0 c1
       go_wp2
       go_roundw
       case rel=>exact ⟨k+1,_,by omega,by go_num,rfl,HS2.out,HST,hB3⟩
       case measure=>(simp [intOf] <;> omega))
     ·have hst:=HT.out
      rw [List.drop_of_length_le (by omega),ktsT,List.nil_append] at hst
      have hdn:decide (d+1=0)=false:=decide_eq_false (by omega)
      have HST:Hid (textT xs=tl out ++ dtsT xs (decide (d+1=0)) (xs.drop (d+1))):=by rw [hdn];exact hst
      have hos2:out.size≤100*(d+1):=by omega
      clear hst hdn
      go_wp2
      go_roundw
      case rel=>exact ⟨d+1,out,by omega,by go_num,rfl,hos2,HST,hB⟩
      case measure=>(simp [intOf] <;> omega))
  ·have hst:=HT.out
   rw [List.drop_of_length_le (by omega),dtsT,List.append_nil] at hst
   have hf:Hid (bs (textT xs)=out):=by unfold Hid;rw [hst,bs_tl]
   clear hst
   go_wp2
   go_ret
   exact ⟨ret_str hf.out.symm,hB⟩
def splitS:List ByteArray→Option (List (ByteArray×ByteArray))
 |[]=>some []
 |l :: ls=>match cutS 61 l with
  |[a,b]=>match splitS ls with
   |some r=>some ((a,b) :: r)
   |none=>none
  |_=>none
def pdt (names:List ByteArray) (p:ByteArray×ByteArray):Dt:=⟨p.1,((cutS 124 p.2).take 5).map (pkt names)⟩
def buildS (r:List (ByteArray×ByteArray)):List Dt:=r.map (pdt (r.map Prod.fst))
def linesT (text:ByteArray):List ByteArray:=if text.size=0 then [] else (cutS 59 text).take 5
def parseS (text:ByteArray):Option (List Dt):=match splitS (linesT text) with
 |some r=>some (buildS r)
 |none=>none
theorem splitGo_eq:∀ (l:List (List UInt8)),splitGo l=match splitS (l.map bs) with | some r=>some (r.map fun p=>(tl p.1,tl p.2)) | none=>none
 |[]=>rfl
 |x :: l=>by
  have ih:=splitGo_eq l
  have e:cutS 61 (bs x)=(cutL 61 x).map bs:=rfl
  rw [List.map_cons,splitS,splitGo,e,ih]
  match h:cutL 61 x with
  |[]=>rfl
  |[_]=>rfl
  |[a,b] =>
   simp only [List.map_cons,List.map_nil]
   cases splitS (l.map bs) <;> rfl
  |_ :: _ :: _ :: _=>rfl
theorem parseS_eq (text:ByteArray):parseGo (tl text)=parseS text:=by
 unfold parseGo parseS linesT
 by_cases h0:text.size=0
 ·have ht:tl text=[]:=List.eq_nil_of_length_eq_zero (by rw [zAO];exact h0)
  rw [if_pos ht,if_pos h0];rfl
 ·have ht:¬tl text=[]:=fun e=>h0 (by rw [←zAO,e];rfl)
  rw [if_neg ht,if_neg h0,splitGo_eq]
  have e:((cutL 59 (tl text)).take 5).map bs=(cutS 59 text).take 5:=by unfold cutS;rw [List.map_take]
  rw [e]
  cases splitS ((cutS 59 text).take 5) with
  |none=>rfl
  |some r =>
   show some _=some _
   congr 1
   unfold buildS
   rw [List.map_map,List.map_map]
   refine List.map_congr_left fun p _=>?_
   show parseDt (List.map (Prod.fst ∘ fun p=>(tl p.1,tl p.2)) r) (tl p.1) (tl p.2)=pdt (r.map Prod.fst) p
   unfold parseDt pdt
   rw [bs_tl]
   congr 1
   unfold cutS
   rw [←List.map_take,List.map_map]
   refine List.map_congr_left fun x _=>?_
   show parseKt _ x=parseKt _ (tl (bs x))
   rw [tl_bs,List.map_map]
   rfl
def splitAfter (ps:List (ByteArray×ByteArray)) (ls:List ByteArray):Option (List (ByteArray×ByteArray)):=match splitS ls with
 |some r=>some (ps ++ r)
 |none=>none
theorem splitAfter_nil (ls:List ByteArray):splitAfter [] ls=splitS ls:=by unfold splitAfter;cases splitS ls <;> rfl
theorem splitAfter_bad {ps:List (ByteArray×ByteArray)} {ls:List ByteArray} {i:Nat} (hi:i<ls.length) (h:(cutS 61 ls[i]).length≠2):splitAfter ps (ls.drop i)=none:=by
 unfold splitAfter
 rw [List.drop_eq_getElem_cons hi,splitS]
 match h':cutS 61 ls[i],h with
 |[],_=>rfl
 |[_],_=>rfl
 |[_,_],h=>simp at h
 |_ :: _ :: _ :: _,_=>rfl
theorem splitAfter_good {ps:List (ByteArray×ByteArray)} {ls:List ByteArray} {i:Nat} (hi:i<ls.length) {a b:ByteArray} (h:cutS 61 ls[i]=[a,b]):splitAfter ps (ls.drop i)=splitAfter (ps ++ [(a,b)]) (ls.drop (i+1)):=by
 unfold splitAfter
 rw [List.drop_eq_getElem_cons hi,splitS,h]
 cases splitS (ls.drop (i+1)) with
 |none=>rfl
 |some r=>show some (ps ++ ((a,b) :: r))=some ((ps ++ [(a,b)]) ++ r);rw [List.append_assoc];rfl
theorem splitAfter_end {ps:List (ByteArray×ByteArray)} {ls:List ByteArray} {i:Nat} (h:ls.length≤i):splitAfter ps (ls.drop i)=some ps:=by
 unfold splitAfter
 rw [List.drop_of_length_le h]
 show some (ps ++ [])=_
 rw [List.append_nil]
theorem two_of {l:List ByteArray} (h:l.length=2):∃ a b,l=[a,b]:=by
 match l,h with
 |[a,b],_=>exact ⟨a,b,rfl⟩
def namesOf (ps:List (ByteArray×ByteArray)):List ByteArray:=ps.map Prod.fst
theorem namesOf_len (ps:List (ByteArray×ByteArray)):(namesOf ps).length=ps.length:=List.length_map _
theorem namesOf_snoc (ps:List (ByteArray×ByteArray)) (p:ByteArray×ByteArray):namesOf (ps ++ [p])=namesOf ps ++ [p.1]:=by unfold namesOf;rw [List.map_append];rfl
theorem namesOf_get (ps:List (ByteArray×ByteArray)) (i:Nat) (h:i<ps.length):(namesOf ps)[i]'(by rw [namesOf_len];exact h)=ps[i].1:=by unfold namesOf;rw [List.getElem_map]
def dtsTo (ps:List (ByteArray×ByteArray)) (i:Nat):List Dt:=(ps.take i).map (pdt (namesOf ps))
theorem dtsTo_len (ps:List (ByteArray×ByteArray)) (i:Nat):(dtsTo ps i).length≤i:=by unfold dtsTo;rw [List.length_map,List.length_take];omega
theorem dtsTo_succ (ps:List (ByteArray×ByteArray)) (i:Nat) (h:i<ps.length):dtsTo ps (i+1)=dtsTo ps i ++ [pdt (namesOf ps) ps[i]]:=map_take_snoc _ _ _ h
theorem dtsTo_all (ps:List (ByteArray×ByteArray)) {i:Nat} (h:ps.length≤i):dtsTo ps i=buildS ps:=by unfold dtsTo buildS;rw [List.take_of_length_le h];rfl
def ktsTo (names ls:List ByteArray) (k:Nat):List Kt:=(ls.take k).map (pkt names)
theorem ktsTo_len (names ls:List ByteArray) (k:Nat):(ktsTo names ls k).length≤k:=by unfold ktsTo;rw [List.length_map,List.length_take];omega
theorem ktsTo_succ (names ls:List ByteArray) (k:Nat) (h:k<ls.length):ktsTo names ls (k+1)=ktsTo names ls k ++ [pkt names ls[k]]:=map_take_snoc _ _ _ h
theorem ktsTo_all (names ls:List ByteArray) {k:Nat} (hk:k≤5) (h:ls.length≤k∨k=5):ktsTo names ls k=(ls.take 5).map (pkt names):=by
 unfold ktsTo
 rcases h with h | h
 ·congr 1
  rw [List.take_of_length_le h]
  rcases Nat.lt_or_ge 5 ls.length with h5 | h5
  ·omega
  ·rw [List.take_of_length_le h5]
 ·rw [h]
theorem Free.append {w:World} {F G:List Nat} (hF:Free w F) (hG:Free w G) (hd:∀ b∈F,b∉G):Free w (F ++ G) :=
 ⟨List.nodup_append.2 ⟨hF.1,hG.1,fun a ha b hb e=>hd a ha (by rw [e];exact hb)⟩,fun b hb i=>by
  rcases List.mem_append.1 hb with h | h
  ·exact hF.2 b h i
  ·exact hG.2 b h i⟩
theorem Chg.trans_new {F:List Nat} {a b c:World} {D:Nat} (h:Chg F a b) (k:Chg [D] b c) (hD:a.heap.size≤D):Chg F a c :=
 ⟨k.os.trans h.os,k.tape.trans h.tape,k.output.trans h.output,Nat.le_trans h.size k.size,fun x hx hn=>(k.block x (zz9 hx h.size) (by simp;omega)).trans (h.block x hx hn)⟩
/-! ### One round: a call, an element that is appended, the slice that is stored into the block D -/
section
variable {α : Type} {R : World → α → List Value → List Nat → Prop} {k D H : Nat} {E T : TypeId} {xs ys : List α} {w w9 wr wA w7 : World} {o : Obj} {nm v v' : Value} {F G : List Nat}
theorem grow_old (HO:Own wr (D+1) E k R xs v F) (hBu:Below wr wr wA) (hgr:(wA.alloc o).grownBy w7 v.ownBlock) {b:Nat} (hb:b<D+1) (hbr:b<wr.heap.size):w7.heap[b]?=wr.heap[b]?:=by
 have hl:b<wA.heap.size:=zz9 hbr hBu.size
 refine ((hgr.block b (by rw [World.size_alloc];omega) (fun e=>?_)).trans (Below.heap_alloc _ _ _ hl)).trans (hBu.block b hbr)
 have:=(HO.row b (zA2.2 e.symm)).1
 omega
theorem grow_round (hRm:∀ w w' x cs G,Kept G w w'→R w x cs G→R w' x cs G) (hw9:w9.heap.size=D+1) (KD:Blk wr D T #[nm,v]) (HO:Own wr (D+1) E k R xs v F) (HF:Free wr F) (HFh:∀ b∈F,D+1≤b) (HC:Chg [D] w9 wr) (hB:Below H w wr) (hHD:H≤D) (hw:H≤w.heap.size)
  (hBu:Below wr wr wA) (hfrA:Free wA G) (hfsA:∀ b∈G,wr.heap.size≤b∧b<wA.heap.size) (hown:Own w7 (D+1) E k R ys v' (F ++ G)) (hgr:(wA.alloc o).grownBy w7 v.ownBlock) :
  Blk (w7.setCell ⟨D,1,none⟩ v') D T #[nm,v']∧Own (w7.setCell ⟨D,1,none⟩ v') (D+1) E k R ys v' (F ++ G)∧Free (w7.setCell ⟨D,1,none⟩ v') (F ++ G)∧(∀ b∈F ++ G,D+1≤b)∧Chg [D] w9 (w7.setCell ⟨D,1,none⟩ v')∧Below H w (w7.setCell ⟨D,1,none⟩ v')∧w9.heap.size≤(w7.setCell ⟨D,1,none⟩ v').heap.size:=by
 have hlt:=KD.lt
 have hA:=hBu.size
 have hFG:∀ b∈F ++ G,D+1≤b:=fun b hb=>by
  rcases List.mem_append.1 hb with h | h
  ·exact HFh b h
  ·have:=(hfsA b h).1;omega
 have hBA7:Below (D+1) wA w7:=((zy2 (D+1) wA).alloc (by omega) o).grown hgr (by rw [World.size_alloc];omega) (fun g hg=>(HO.row g (zA2.2 hg)).1)
 have hC7:Chg [D] w9 w7:=(HC.step hBu).under (by rw [hw9];exact hBA7)
 have hC8:Chg [D] w9 (w7.setCell ⟨D,1,none⟩ v'):=hC7.set (by simp)
 have hne:∀ b∈F ++ G,b≠D:=fun b hb e=>by have:=hFG b hb;omega
 refine ⟨?_,Own.set (j:=1) hRm hown v' (fun h=>by have:=(hown.row _ h).1;omega) (fun h=>hne _ h rfl),?_,hFG,hC8,?_,hC8.size⟩
 ·exact (KD.same (grow_old HO hBu hgr (Nat.lt_succ_self D) hlt)).set_ 1 v'
 ·have hfr:Free wA (F ++ G):=Free.append (HF.kept (.of_below hBu HO.under)) hfrA (fun b hb hG=>by have h1:=HO.under b hb;have h2:=(hfsA b hG).1;omega)
  have hfr7:Free w7 (F ++ G):=hfr.kept fun b hb=>by
   have hbA:b<wA.heap.size:=by
    rcases List.mem_append.1 hb with h | h
    ·exact zz9 (HO.under b h) hA
    ·exact (hfsA b h).2
   refine (hgr.block b (by rw [World.size_alloc];omega) (fun e=>?_)).trans (Below.heap_alloc _ _ _ hbA)
   have hrw:=zA2.2 e.symm
   rcases List.mem_append.1 hb with h | h
   ·exact HO.apart b hrw h
   ·have h1:=(HO.row b hrw).2
    have h2:=(hfsA b h).1
    omega
  exact hfr7.kept fun b hb=>zz7 w7 ⟨D,1,none⟩ v' b (hne b hb)
 ·have h8:Below H w w7:=(hB.trans (hBu.mono (Nat.le_trans hw hB.size))).trans (hBA7.mono (by omega))
  exact h8.setCell hHD _
theorem push_round (HO:Own wr H E k R xs v F) (hFr:Free wr F) (HFr:Free wr G) (hd:∀ b∈rowOf v ++ F,b<D) (hG:∀ b∈G,D+1≤b∧b<wr.heap.size) {w6:World} (HR:∀ g∈rowOf v,g=H∨w6.heap.size≤g) (HC:Chg [H] w6 wr) (hB:Below H w wr) (hw:H≤w.heap.size) (HFh:∀ b∈F,w6.heap.size≤b) (hD:w6.heap.size≤D)
  (hgr:(wr.alloc o).grownBy w7 v.ownBlock) {g n cp:Nat} (hat:v.ownBlock=some g∨g=wr.heap.size+1) :
  Free w7 (F ++ G)∧(∀ b∈F ++ G,w6.heap.size≤b)∧(∀ g'∈rowOf (.slice (some ⟨g,0,none⟩) n cp),g'=H∨w6.heap.size≤g')∧Chg [H] w6 w7∧Below H w w7∧w6.heap.size≤w7.heap.size:=by
 have hb77:Below wr wr (wr.alloc o):=(zy2 _ _).alloc (zz8 _) _
 have h6:=HC.size
 have h1:=HC.step hb77
 have hC7:Chg [H] w6 w7:=by
  refine ⟨hgr.os.trans h1.os,hgr.tape.trans h1.tape,hgr.output.trans h1.output,Nat.le_trans h1.size hgr.size,fun x hx hn=>(hgr.block x (zz9 hx h1.size) (fun e=>?_)).trans (h1.block x hx hn)⟩
  rcases HR x (zA2.2 e.symm) with h | h
  ·exact hn (by simp [h])
  ·omega
 refine ⟨?_,fun b hb=>?_,fun g' hg'=>?_,hC7,?_,hC7.size⟩
 ·refine (Free.append hFr HFr (fun b hb hg=>by have h1:=hd b (List.mem_append.2 (.inr hb));have h2:=(hG b hg).1;omega)).kept (fun b hb=>?_)
  have hbl:b<wr.heap.size:=by
   rcases List.mem_append.1 hb with h | h
   ·exact HO.under b h
   ·exact (hG b h).2
  refine (hgr.block b (zz9 hbl hb77.size) (fun e=>?_)).trans (Below.heap_alloc _ _ _ hbl)
  have hrw:=zA2.2 e.symm
  rcases List.mem_append.1 hb with h | h
  ·exact HO.apart b hrw h
  ·have h1:=hd b (List.mem_append.2 (.inl hrw))
   have h2:=(hG b h).1
   omega
 ·rcases List.mem_append.1 hb with h | h
  ·exact HFh b h
  ·have:=(hG b h).1;omega
 ·rw [zA7,zy1] at hg'
  subst hg'
  rcases hat with h | h
  ·exact HR _ (zA2.2 h)
  ·right;omega
 ·have hs:=hB.size
  exact (hB.alloc (Nat.le_trans hw hs) _).grown hgr (by rw [World.size_alloc];omega) (fun g hg=>(HO.row g (zA2.2 hg)).1)
end
theorem KtR_len' (w:World) (x:Kt) (cs:List Value) (F:List Nat) (h:KtR w x cs F):cs.length=3:=KtR_len x cs F h
theorem KtR_mono' (w w':World) (x:Kt) (cs:List Value) (F:List Nat) (hk:Kept F w w') (h:KtR w x cs F):KtR w' x cs F:=KtR.mono x cs F hk h
theorem DtR_len' (w:World) (x:Dt) (cs:List Value) (F:List Nat) (h:DtR w x cs F):cs.length=2:=DtR_len x cs F h
theorem DtR_mono' (w w':World) (x:Dt) (cs:List Value) (F:List Nat) (hk:Kept F w w') (h:DtR w x cs F):DtR w' x cs F:=DtR.mono x cs F hk h
theorem info_KtE:(Try.prog.info? 118).map (fun i=>(i.zero,i.size,i.bytes))=some (some (.agg #[.string ⟨#[]⟩,.slice none 0 0,(0:Int)]),3,48):=by kernel_rfl
theorem info_DtE:(Try.prog.info? 113).map (fun i=>(i.zero,i.size,i.bytes))=some (some (.agg #[.string ⟨#[]⟩,.slice none 0 0]),2,40):=by kernel_rfl
def GivesWorld (w:World) (r:Option (List Dt)) (e:Ending) (w':World):Prop :=
 ∃ v F,e=.returned (.tuple #[v,.bool r.isSome])∧Below w w w'∧Arr w' (DtR w') (r.getD []) v F∧Free w' F∧Fresh w w' F
def parseB (text:ByteArray):Option (List Dt):=parseW (tl text)
theorem parseB_bad {text:ByteArray} (h:parseS text=none):parseB text=none:=by unfold parseB parseW;rw [parseS_eq,h]
theorem parseB_no {text:ByteArray} {xs:List Dt} (h:parseS text=some xs) (h2:worldOk xs=false):parseB text=none:=by unfold parseB parseW;rw [parseS_eq,h];simp only;rw [if_neg (by simp [h2])]
theorem parseB_text {text:ByteArray} {xs:List Dt} (h:parseS text=some xs) (h3:¬textT xs=tl text):parseB text=none:=by
 unfold parseB parseW;rw [parseS_eq,h];simp only;rw [if_neg h3];split <;> rfl
theorem parseB_yes {text:ByteArray} {xs:List Dt} (h:parseS text=some xs) (h2:worldOk xs=true) (h3:textT xs=tl text):parseB text=some xs:=by unfold parseB parseW;rw [parseS_eq,h];simp only;rw [if_pos h2,if_pos h3]
set_option maxHeartbeats 6400000 in
theorem spec_ParseWorld (text:ByteArray) (hs:text.size≤1000000) (w:World) :
  Calls Try.prog 85 #[.string text] w (GivesWorld w (parseB text)):=by
 obtain ⟨i0,hi,hz0,hz1,hz2⟩:=info_parts info_KtE
 have HI:=jj hi
 have HZ0:=jj hz0
 have HZ1:=jj hz1
 have HZ2:=jj hz2
 clear hi hz0 hz1 hz2
 obtain ⟨j0,hj,hj0,hj1,hj2⟩:=info_parts info_strE
 have HJ:=jj hj
 have HJ0:=jj hj0
 have HJ1:=jj hj1
 have HJ2:=jj hj2
 clear hj hj0 hj1 hj2
 obtain ⟨m0,hm,hm0,hm1,hm2⟩:=info_parts info_DtE
 have HM:=jj hm
 have HM0:=jj hm0
 have HM1:=jj hm1
 have HM2:=jj hm2
 clear hm hm0 hm1 hm2
 go_enter Try.func85,Try.ntmps85
 go_wp2_with fail
 have hB1:Below w w ((w.alloc (.cells #[] 113)).alloc (.cells #[] 9)):=((zy2 _ _).alloc (zz8 _) _).alloc (by simp) _
 have HO1:Hid (Own ((w.alloc (.cells #[] 113)).alloc (.cells #[] 9)) w.heap.size 113 2 DtR ([]:List Dt) (.slice (some ⟨w,0,none⟩) 0 0) []):=(Own.made w w.heap.size 113 2 DtR #[] 0 (zz8 _) (by simp [maxLen]) rfl).below (fun x cs G hk h=>DtR_mono' _ _ x cs G hk h) ((zy2 _ _).alloc (zz8 _) _)
 have HN1:Hid (Own ((w.alloc (.cells #[] 113)).alloc (.cells #[] 9)) (w.heap.size+1) 9 1 StrR (namesOf []) (.slice (some ⟨w.heap.size+1,0,none⟩) 0 0) []):=by
  have h:=Own.made (w.alloc (.cells #[] 113)) (w.heap.size+1) 9 1 StrR #[] 0 (by simp) (by simp [maxLen]) rfl
  rw [World.size_alloc] at h
  exact h
 have hsz1:(((w.alloc (.cells #[] 113)).alloc (.cells #[] 9))).heap.size=w.heap.size+2:=by simp
 obtain ⟨wb,hwb⟩:∃ wb,wb=((w.alloc (.cells #[] 113)).alloc (.cells #[] 9)):=⟨_,rfl⟩
 rw [←hwb] at hB1 HO1 HN1 hsz1 ⊢
 clear hwb
 have hcut:Calls Try.prog 112 #[.string text,.int .u8 59] wb (MadeStrs wb (cutS 59 text)):=zAI text 59 hs wb
 have hpos:=cutS_pos 59 text
 have hlm:=cutS_mem 59 text
 have hlen:=cutS_len 59 text
 obtain ⟨lines,hlines⟩:∃ l,cutS 59 text=l:=⟨_,rfl⟩
 rw [hlines] at hcut hpos hlm hlen
 have HLN:=jj hlines
 have HLM:=jj hlm
 clear hlines hlm
 refine hcut.mono ?_
 rintro e w3 ⟨v3,F3,rfl,hb3,ha3,-,hfs3⟩
 obtain ⟨A3,cap3,rfl,hc3,hc4⟩:=ha3.form
 have hB3:=hB1.trans (hb3.mono hB1.size)
 have HO3:=jj (HO1.out.below (fun x cs G hk h=>DtR_mono' _ _ x cs G hk h) hb3)
 have HNN:=jj (HN1.out.below (fun x cs G hk h=>StrR_mono _ _ x cs G hk h) hb3)
 have HA3:=jj ha3
 have HU3:=jj hfs3.under
 have HN3:Hid (∀ b∈F3,w.heap.size+2≤b):=fun b hb=>by have:=(hfs3 b hb).1;omega
 have hw3:w.heap.size+2≤w3.heap.size:=by have:=hb3.size;omega
 clear hb3 ha3 hfs3 HO1 HN1 hcut hB1 hsz1
 by_cases h0:text.size=0
 ·skip
  have q0:(text.toList==[])=true:=by
   rw [beq_iff_eq,zAA];exact List.eq_nil_of_length_eq_zero (by rw [zAO];exact h0)
  have HPS:Hid (parseS text=some []):=by unfold Hid parseS linesT;rw [if_pos h0];rfl
  have u1:(0:Int)<(lines.length:Int):=by omega
  clear h0
  go_wp2
  go_loopw [5,7] (fun nv iv wr=>nv=.slice (some ⟨w.heap.size+1,0,none⟩) 0 0∧iv=.int .i64 0∧Below w3 w3 wr) (fun _ _ _=>0)
  case atStart=>exact ⟨rfl,rfl,zy2 _ _⟩
  case round =>
   obtain ⟨rfl,rfl,hb4⟩:=hrel
   go_wp2
   obtain ⟨w4,hw4⟩:∃ w4,w4=wr:=⟨_,rfl⟩
   rw [←hw4] at hb4 ⊢
   clear hw4
   go_loopw [4,9] (fun ov iv wr=>ov=.slice (some ⟨w,0,none⟩) 0 0∧iv=.int .i64 0∧Below w3 w3 wr) (fun _ _ _=>0)
   case atStart=>exact ⟨rfl,rfl,hb4⟩
   case round =>
    clear hb4
    obtain ⟨rfl,rfl,hb5⟩:=hrel
    have hB5:=hB3.trans (hb5.mono hB3.size)
    obtain ⟨ee,hee⟩:∃ ee:List Dt,ee=[]:=⟨_,rfl⟩
    have HO:Hid (Own wr w.heap.size 113 2 DtR ee (.slice (some ⟨w,0,none⟩) 0 0) []):=by rw [hee];exact HO3.out.below (fun x cs G hk h=>DtR_mono' _ _ x cs G hk h) hb5
    rw [←hee] at HPS
    clear hee
    have HFr:Hid (Free wr ([]:List Nat)):=Free.nil _
    have HFh:Hid (∀ b∈([]:List Nat),w.heap.size≤b):=fun b hb=>by cases hb
    clear HO3
    have harr:=HO.out.arr
    have hfree:=HO.out.free HFr.out
    have hfresh:=Own.fresh (w0:=w) HO.out (zz8 _) HFh.out
    generalize (if ee=[] then [] else rowOf (.slice (some ⟨w,0,none⟩) 0 0) ++ ([]:List Nat))=FF at harr hfree hfresh
    have HARR:=jj harr
    have HFREE:=jj hfree
    have HFRESH:=jj hfresh
    clear harr hfree hfresh HO HFr HFh
    generalize hxx:ee=xx at *
    clear hxx
    go_wp2_with fail
    refine (spec_WorldValid xx wr _ FF HARR.out HFRESH.out.under).mono ?_
    rintro e w8 ⟨rfl,hb8⟩
    have hB8:=hB5.trans (hb8.mono hB5.size)
    cases e1:worldOk xx with
    |false =>
     have HNO:=jj (parseB_no HPS.out e1)
     clear e1
     have hfin:GivesWorld w (parseB text) (.returned (.tuple #[.slice (some ⟨w8,0,none⟩) 0 0,.bool false])) (w8.alloc (.cells #[] 113)):=by
      rw [HNO.out]
      exact ⟨_,[],rfl,hB8.alloc hB8.size _,⟨_,_,rfl,by simp,by simp [maxLen],.inl ⟨rfl,rfl⟩⟩,Free.nil _,Fresh.nil _ _⟩
     have HFin:=jj hfin
     clear hfin
     go_wp2
     go_ret2
     exact HFin.out
    |true =>
     have HW:=jj (worldOK e1)
     have HE1:=jj e1
     clear e1
     have HA8:=jj (ArrDt.below HARR.out hb8 HFRESH.out.under)
     have hF8:=jj (HFRESH.out.under.mono hb8.size)
     go_wp2_with fail
     refine (spec_l1Text xx HW.out w8 _ FF HA8.out hF8.out).mono ?_
     rintro e w9 ⟨rfl,hb9⟩
     have hB9:=hB8.trans (hb9.mono hB8.size)
     have hb89:=hb8.trans (hb9.mono hb8.size)
     generalize htt:bs (textT xx)=tt
     cases e2:(tt.toList==text.toList) with
     |true =>
      have HYES:Hid (parseB text=some xx):=parseB_yes HPS.out HE1.out (by rw [beq_iff_eq,zAA,zAA,←htt,tl_bs] at e2;exact e2)
      have hfin:GivesWorld w (parseB text) (.returned (.tuple #[.slice (some ⟨w,0,none⟩) 0 0,.bool true])) w9:=by
       rw [HYES.out]
       exact ⟨_,FF,rfl,hB9,ArrDt.below HARR.out hb89 HFRESH.out.under,HFREE.out.kept (.of_below hb89 HFRESH.out.under),fun b hb=>⟨(HFRESH.out b hb).1,zz9 (HFRESH.out b hb).2 hb89.size⟩⟩
      have HFin:=jj hfin
      clear hfin htt
      go_wp2
      go_ret2
      exact HFin.out
     |false =>
      have HNO:Hid (parseB text=none):=parseB_text HPS.out (fun h=>by rw [beq_eq_false_iff_ne,zAA,zAA,←htt,tl_bs] at e2;exact e2 h)
      clear htt
      have hfin:GivesWorld w (parseB text) (.returned (.tuple #[.slice (some ⟨w9,0,none⟩) 0 0,.bool false])) (w9.alloc (.cells #[] 113)):=by
       rw [HNO.out]
       exact ⟨_,[],rfl,hB9.alloc hB9.size _,⟨_,_,rfl,by simp,by simp [maxLen],.inl ⟨rfl,rfl⟩⟩,Free.nil _,Fresh.nil _ _⟩
      have HFin:=jj hfin
      clear hfin
      go_wp2
      go_ret2
      exact HFin.out
 ·skip
  have q0:(text.toList==[])=false:=by
   rw [beq_eq_false_iff_ne,zAA];intro e;have:=zAO text;rw [e] at this;simp at this;omega
  have HLT:Hid (linesT text=lines.take 5):=by unfold Hid linesT;rw [if_neg h0,HLN.out]
  have hl5:(lines.take 5).length≤5:=by rw [List.length_take];omega
  have HT0:Hid (splitS (linesT text)=splitAfter [] ((lines.take 5).drop 0)):=by unfold Hid;rw [HLT.out,splitAfter_nil];rfl
  clear h0
  go_wp2
  go_loopw [5,7] (fun nv iv wr=>∃ i:Nat,∃ ps:List (ByteArray×ByteArray),i≤lines.length∧i≤5∧ps.length=i∧iv=.int .i64 i∧Hid (splitS (linesT text)=splitAfter ps ((lines.take 5).drop i))∧Hid (Own wr (w.heap.size+1) 9 1 StrR (namesOf ps) nv [])∧Hid (∀ g∈rowOf nv,g=w.heap.size+1∨w3.heap.size≤g)∧Hid (Chg [w.heap.size+1] w3 wr)∧Below w w wr∧Hid (∀ p∈ps,p.1.size≤1000000∧p.2.size≤1000000)∧Hid (∀ j (hj:j<ps.length),∃ h2:j<lines.length,cutS 61 lines[j]=[ps[j].1,ps[j].2])) (fun _ iv _=>5-(intOf iv).toNat)
  case atStart=>exact ⟨0,[],Nat.zero_le _,by omega,rfl,rfl,HT0,HNN,(fun g hg=>by rw [zA7,zy1] at hg;exact .inl hg),Chg.refl _ _,hB3,(fun p hp=>by cases hp),(fun j hj=>by simp at hj)⟩
  case round =>
   clear HNN HT0
   obtain ⟨i,ps,hil,hi5,hpl,rfl,HT,HN,HNR,HC,hB,HSZ,HPP⟩:=hrel
   by_cases hl1:i<lines.length∧i≤4
   ·obtain ⟨hl1,hl2⟩:=hl1
    have u1:decide ((i:Int)<(lines.length:Int))=true:=decide_eq_true (by omega)
    have u2:decide ((i:Int)≤4)=true:=decide_eq_true (by omega)
    have g1:(0:Int)≤(i:Int):=by omega
    have g2:(i:Int)<(lines.length:Int):=by omega
    obtain ⟨b3,off3,rfl⟩:=HA3.out.ptr (by omega)
    have HAr:Hid (Arr wr (StrR wr) lines (.slice (some ⟨b3,off3,none⟩) lines.length cap3) F3):=ArrStr.mono HA3.out (HC.out.kept HU3.out (fun b hb=>by have:=HN3.out b hb;simp;omega))
    obtain ⟨hbl,c0⟩:=ArrStr.at HAr.out (fun b hb=>zz9 (HU3.out b hb) HC.out.size) (zy2 _ _) i hl1
    have hlsz:lines[i].size≤1000000:=Nat.le_trans (HLM.out _ (List.getElem_mem hl1)) hs
    have htk:i<(lines.take 5).length:=by rw [List.length_take];omega
    have hge:(lines.take 5)[i]=lines[i]:=List.getElem_take
    have hcall:Calls Try.prog 112 #[.string lines[i],.int .u8 61] wr (MadeStrs wr (cutS 61 lines[i])):=zAI lines[i] 61 hlsz wr
    have hpm:=cutS_mem 61 lines[i]
    by_cases h2:(cutS 61 lines[i]).length=2
    ·obtain ⟨a,b,hab⟩:=two_of h2
     have HT2:Hid (splitS (linesT text)=splitAfter (ps ++ [(a,b)]) ((lines.take 5).drop (i+1))):=by
      unfold Hid
      rw [HT.out]
      exact splitAfter_good htk (by rw [hge];exact hab)
     rw [hab] at hcall hpm
     have hsa:a.size≤1000000:=Nat.le_trans (hpm a (by simp)) hlsz
     have hsb:b.size≤1000000:=Nat.le_trans (hpm b (by simp)) hlsz
     have HSZ2:Hid (∀ p∈ps ++ [(a,b)],p.1.size≤1000000∧p.2.size≤1000000):=fun p hp=>by
      rcases List.mem_append.1 hp with h | h
      ·exact HSZ.out p h
      ·rw [zy1] at h;subst h;exact ⟨hsa,hsb⟩
     have HPP2:Hid (∀ j (hj:j<(ps ++ [(a,b)]).length),∃ h2:j<lines.length,cutS 61 lines[j]=[(ps ++ [(a,b)])[j].1,(ps ++ [(a,b)])[j].2]):=fun j hj=>by
      rw [List.length_append,List.length_singleton] at hj
      rcases Nat.lt_or_ge j ps.length with h | h
      ·obtain ⟨e1,e2⟩:=HPP.out j h
       exact ⟨e1,by rw [List.getElem_append_left h];exact e2⟩
      ·obtain rfl:j=i:=by omega
       refine ⟨hl1,?_⟩
       rw [List.getElem_append_right h]
       simp only [hpl,Nat.sub_self,zz2]
       exact hab
     have hns:=namesOf_snoc ps (a,b)
     have HNS:=jj hns
     have hnl:=namesOf_len ps
     have HCALL:=jj hcall
     clear hcall hpm h2 hab hns HSZ HPP HT htk hge
     go_wp2_with fail
     refine HCALL.out.mono ?_
     rintro e w4 ⟨v4,F4,rfl,hb4,ha4,-,hfs4⟩
     obtain ⟨A4,cap4,rfl,hc7,hc8⟩:=ha4.form
     obtain ⟨b4,off4,rfl⟩:=ha4.ptr (by simp)
     obtain ⟨hb4l,p0⟩:=ArrStr.at ha4 hfs4.under (zy2 _ _) 0 (by simp)
     have p0:w4.cell? ⟨b4,off4,none⟩=some (.string a):=p0
     have hB4:=hB.trans (hb4.mono hB.size)
     have HO1:Hid (Own w4 (w.heap.size+1) 9 1 StrR (namesOf ps) u5 []):=HN.out.below (fun x cs G hk h=>StrR_mono _ _ x cs G hk h) hb4
     have hwz:w3.heap.size≤w4.heap.size:=Nat.le_trans HC.out.size hb4.size
     have hC4:=jj (HC.out.step hb4)
     clear HCALL c0 hbl ha4 hfs4
     go_wp2_with (at_builtin;refine Halt.mk ?_)
     refine Halt.of (zA3 (P:=Try.prog) rfl _ _ 115 rfl j0 _ 16 Try.underlying115 HJ.out HJ0.out HJ1.out HJ2.out rfl Nat.zero_lt_one zAW StrR_mono (by rfl) HO1.out a 9 [.string a] [] _ (by rfl) (by simp) (by simp [Value.oneCell']) ⟨rfl,rfl⟩ (Under.nil _) (fun _ _ h=>by cases h) (by unfold maxLen;omega) (by omega) (by omega) ?_)
     intro g cp w5 hown5 hgr5 hat5
     have hrow:=HO1.out.row
     have hb45:Below w4 w4 (w4.alloc (.cells #[.string a] 9)):=(zy2 _ _).alloc (zz8 _) _
     have hC5:Hid (Chg [w.heap.size+1] w3 w5):=by
      have h1:=hC4.out.step hb45
      refine ⟨hgr5.os.trans h1.os,hgr5.tape.trans h1.tape,hgr5.output.trans h1.output,Nat.le_trans h1.size hgr5.size,fun x hx hn=>(hgr5.block x (zz9 hx h1.size) (fun e=>?_)).trans (h1.block x hx hn)⟩
      rcases HNR.out x (zA2.2 e.symm) with h | h
      ·exact hn (by simp [h])
      ·omega
     have hB5:Below w w w5:=(hB4.alloc hB4.size _).grown hgr5 (by have:=hB4.size;simp;omega) (fun g hg=>by have:=(hrow g (zA2.2 hg)).1;omega)
     have HN5:Hid (∀ g'∈rowOf (.slice (some ⟨g,0,none⟩) ((namesOf ps).length+1) cp),g'=w.heap.size+1∨w3.heap.size≤g'):=fun g' hg'=>by
      rw [zA7,zy1] at hg'
      subst hg'
      rcases hat5 with h | h
      ·exact HNR.out _ (zA2.2 h)
      ·right;omega
     have HO5:=jj hown5
     clear hown5 hgr5 hat5 hrow hb45 p0 hb4l hC4 HO1 hb4
     go_wp2
     go_roundw
     case rel=>exact ⟨i+1,ps ++ [(a,b)],by omega,by omega,by simp [hpl],by go_num,HT2,(by rw [HNS.out];have h:=HO5.out;rw [hnl,hpl] at h;exact h),(by have h:=HN5.out;rw [hnl,hpl] at h;exact h),hC5,hB5,HSZ2,HPP2⟩
     case measure=>(simp [intOf] <;> omega)
    ·have HBAD:Hid (parseB text=none):=by
      refine parseB_bad ?_
      unfold parseS
      rw [HT.out,splitAfter_bad htk (by rw [hge];exact h2)]
     have hne2:(((cutS 61 lines[i]).length:Int) != 2)=true:=by rw [bne_iff_ne];omega
     have HCALL:=jj hcall
     obtain ⟨parts,hparts⟩:∃ l,cutS 61 lines[i]=l:=⟨_,rfl⟩
     rw [hparts] at HCALL hne2
     clear hcall hpm h2 hparts htk hge
     go_wp2_with fail
     refine HCALL.out.mono ?_
     rintro e w4 ⟨v4,F4,rfl,hb4,ha4,-,hfs4⟩
     obtain ⟨A4,cap4,rfl,hc7,hc8⟩:=ha4.form
     have hB4:=hB.trans (hb4.mono hB.size)
     clear ha4 hfs4 HCALL c0 hbl
     have hfin:GivesWorld w (parseB text) (.returned (.tuple #[.slice (some ⟨w4,0,none⟩) 0 0,.bool false])) (w4.alloc (.cells #[] 113)):=by
      rw [HBAD.out]
      exact ⟨_,[],rfl,hB4.alloc hB4.size _,⟨_,_,rfl,by simp,by simp [maxLen],.inl ⟨rfl,rfl⟩⟩,Free.nil _,Fresh.nil _ _⟩
     have HFin:=jj hfin
     clear hfin
     go_wp2
     go_ret2
     exact HFin.out
   ·by_cases hll:i<lines.length
    have u1:decide ((i:Int)<(lines.length:Int))=true:=decide_eq_true (by omega)
    have u2:decide ((i:Int)≤4)=false:=decide_eq_false (by omega)
    have hdone:(lines.take 5).length≤i:=by omega
    rotate_left
    have u1:decide ((i:Int)<(lines.length:Int))=false:=decide_eq_false (by omega)
    have hdone:(lines.take 5).length≤i:=by rw [List.length_take];omega
    rotate_left
    all_goals (
     have HPS0:Hid (parseS text=some (buildS ps)):=by
      have h:=HT.out
      rw [splitAfter_end (by omega)] at h
      unfold Hid parseS
      rw [h]
     obtain ⟨nA,ncap,hnv,hnc1,hnc2⟩:=HN.out.form
     subst hnv
     have hna:=HN.out.arr
     have HNROW:=jj HN.out.row
     have hfn:∀ b∈(if namesOf ps=[] then [] else rowOf (.slice nA (namesOf ps).length ncap) ++ []),w.heap.size+1≤b∧b<wr.heap.size:=fun b hb=>by
      split at hb
      ·cases hb
      ·rw [List.append_nil] at hb
       exact HNROW.out b hb
     generalize (if namesOf ps=[] then [] else rowOf (.slice nA (namesOf ps).length ncap) ++ [])=Fn at hna hfn
     have HNA:=jj hna
     have HFN:=jj hfn
     clear hna hfn HNROW HN
     have HLA:Hid (Arr wr (StrR wr) lines (.slice A3 lines.length cap3) F3):=ArrStr.mono HA3.out (HC.out.kept HU3.out (fun b hb=>by have:=HN3.out b hb;simp;omega))
     have HLU:Hid (∀ b∈F3,w.heap.size+1≤b∧b<wr.heap.size):=fun b hb=>⟨by have:=HN3.out b hb;omega,zz9 (HU3.out b hb) HC.out.size⟩
     have HO6:Hid (Own wr w.heap.size 113 2 DtR (dtsTo ps 0) (.slice (some ⟨w,0,none⟩) 0 0) []):=Own.mono (w:=w3) (fun x cs G hk h=>DtR_mono' _ _ x cs G hk h) HO3.out (HC.out.kept (fun b hb=>by rw [zA7,List.append_nil,zy1] at hb;omega) (fun b hb=>by rw [zA7,List.append_nil,zy1] at hb;simp;omega)) HC.out.size
     have hnl:=namesOf_len ps
     go_wp2
     obtain ⟨w6,hw6⟩:∃ w6,w6=wr:=⟨_,rfl⟩
     rw [←hw6] at HNA HFN HLA HLU HO6 hB ⊢
     have hw63:w3.heap.size≤w6.heap.size:=by rw [hw6];exact HC.out.size
     clear hw6 HC HA3 HU3 HO3 hl1
     obtain ⟨names,hnm⟩:∃ l,namesOf ps=l:=⟨_,rfl⟩
     rw [hnm] at HNA hnl ⊢
     have HNM:=jj hnm
     have HNL:=jj hnl
     have HPL:=jj hpl
     have hps5:ps.length≤5:=by omega
     clear hnm hnl hpl
     go_loopw [4,9] (fun ov iv wr=>∃ i:Nat,∃ Fo:List Nat,i≤ps.length∧iv=.int .i64 i∧Hid (Own wr w.heap.size 113 2 DtR (dtsTo ps i) ov Fo)∧Hid (Free wr Fo)∧Hid (∀ b∈Fo,w6.heap.size≤b)∧Hid (∀ g∈rowOf ov,g=w.heap.size∨w6.heap.size≤g)∧Hid (Chg [w.heap.size] w6 wr)∧Below w w wr∧w6.heap.size≤wr.heap.size) (fun _ iv _=>ps.length-(intOf iv).toNat)
     case atStart=>exact ⟨0,[],Nat.zero_le _,rfl,HO6,Free.nil _,(fun b hb=>by cases hb),(fun g hg=>by rw [zA7,zy1] at hg;exact .inl hg),Chg.refl _ _,hB,zz8 _⟩
     case round =>
      clear hB HO6
      obtain ⟨i,Fo,hi,rfl,HO,HFr,HFh,HR,HC,hB,hw6r⟩:=hrel
      by_cases hil:i<ps.length
      ·have hnl:=HNL.out
       have u3:decide ((i:Int)<(names.length:Int))=true:=decide_eq_true (by omega)
       have g1:(0:Int)≤(i:Int):=by omega
       have g2:(i:Int)<(names.length:Int):=by omega
       clear hnl
       obtain ⟨hil2,hcut⟩:=HPP.out i hil
       have g3:(i:Int)<(lines.length:Int):=by omega
       have HLr:Hid (Arr wr (StrR wr) lines (.slice A3 lines.length cap3) F3):=ArrStr.mono HLA.out (HC.out.kept (fun b hb=>(HLU.out b hb).2) (fun b hb=>by have:=(HLU.out b hb).1;simp;omega))
       have HNr:Hid (Arr wr (StrR wr) names (.slice nA names.length ncap) Fn):=ArrStr.mono HNA.out (HC.out.kept (fun b hb=>(HFN.out b hb).2) (fun b hb=>by have:=(HFN.out b hb).1;simp;omega))
       have hFnr:Hid (Under wr Fn):=fun b hb=>zz9 (HFN.out b hb).2 hw6r
       obtain ⟨bL,offL,rfl⟩:=HLr.out.ptr (by omega)
       obtain ⟨hbL,cL⟩:=ArrStr.at HLr.out (fun b hb=>zz9 (HLU.out b hb).2 hw6r) (zy2 _ _) i hil2
       have hlsz:lines[i].size≤1000000:=Nat.le_trans (HLM.out _ (List.getElem_mem hil2)) hs
       have hcall:Calls Try.prog 112 #[.string lines[i],.int .u8 61] wr (MadeStrs wr (cutS 61 lines[i])):=zAI lines[i] 61 hlsz wr
       rw [hcut] at hcall
       have HCALL:=jj hcall
       clear hcall hcut
       go_wp2_with fail
       refine HCALL.out.mono ?_
       rintro e w7 ⟨v7,F7,rfl,hb7,ha7,-,hfs7⟩
       obtain ⟨A7,cap7,rfl,hc7,hc8⟩:=ha7.form
       obtain ⟨b7,off7,rfl⟩:=ha7.ptr (by simp)
       obtain ⟨hb7l,p71⟩:=ArrStr.at ha7 hfs7.under (zy2 _ _) 1 (by simp)
       have p71:w7.cell? ⟨b7,off7+1,none⟩=some (.string ps[i].2):=p71
       have hB7:=hB.trans (hb7.mono hB.size)
       have hpsz:=(HSZ.out ps[i] (List.getElem_mem hil))
       have hcall2:Calls Try.prog 112 #[.string ps[i].2,.int .u8 124] w7 (MadeStrs w7 (cutS 124 ps[i].2)):=zAI ps[i].2 124 hpsz.2 w7
       have HCALL2:=jj hcall2
       clear hcall2 HCALL cL hbL ha7 hfs7
       go_wp2_with fail
       refine HCALL2.out.mono ?_
       rintro e w8 ⟨v8,F8,rfl,hb8,ha8,-,hfs8⟩
       obtain ⟨A8,cap8,rfl,hc9,hc10⟩:=ha8.form
       have hB8:=hB7.trans (hb8.mono hB7.size)
       have hr8:Below wr wr w8:=hb7.trans (hb8.mono hb7.size)
       have hcm:=cutS_mem 124 ps[i].2
       obtain ⟨cl,hcl⟩:∃ l,cutS 124 ps[i].2=l:=⟨_,rfl⟩
       rw [hcl] at ha8 hcm
       have HCL:=jj hcl
       have HA8:=jj ha8
       have HU8:=jj hfs8.under
       have HCM:=jj hcm
       clear hcm
       rw [hcl] at hc9 ⊢
       clear hcl ha8 hfs8 p71 hb7l HCALL2
       have HN8:Hid (Arr w8 (StrR w8) names (.slice nA names.length ncap) Fn):=ArrStr.below HNr.out hr8 hFnr.out
       have hFn8:Hid (Under w8 Fn):=hFnr.out.mono hr8.size
       obtain ⟨bN,offN,hnA⟩:=HN8.out.ptr (by have:=HNL.out;omega)
       subst hnA
       obtain ⟨hbN,cN⟩:=ArrStr.at HN8.out hFn8.out (zy2 _ _) i (by have:=HNL.out;omega)
       have hnmi:names[i]'(by have:=HNL.out;omega)=ps[i].1:=by have h:=HNM.out;subst h;exact namesOf_get ps i hil
       rw [hnmi] at cN
       have hw9:Below w8 w8 (w8.alloc (.cells #[.string ps[i].1,.slice none 0 0] 113)):=(zy2 _ _).alloc (zz8 _) _
       have HO8:Hid (Own w8 w.heap.size 113 2 DtR (dtsTo ps i) u4 Fo):=HO.out.below (fun x cs G hk h=>DtR_mono' _ _ x cs G hk h) hr8
       have HFr8:Hid (Free w8 Fo):=HFr.out.kept (.of_below hr8 HO.out.under)
       have HC8:Hid (Chg [w.heap.size] w6 w8):=HC.out.step hr8
       have hw68:w6.heap.size≤w8.heap.size:=Nat.le_trans hw6r hr8.size
       have HO9:Hid (Own (w8.alloc (.cells #[.string ps[i].1,.slice none 0 0] 113)) w.heap.size 113 2 DtR (dtsTo ps i) u4 Fo):=HO8.out.below (fun x cs G hk h=>DtR_mono' _ _ x cs G hk h) hw9
       have HFr9:Hid (Free (w8.alloc (.cells #[.string ps[i].1,.slice none 0 0] 113)) Fo):=HFr8.out.kept (.of_below hw9 HO8.out.under)
       have HC9:Hid (Chg [w.heap.size] w6 (w8.alloc (.cells #[.string ps[i].1,.slice none 0 0] 113))):=HC8.out.step hw9
       have KD9:Hid (Blk (w8.alloc (.cells #[.string ps[i].1,.slice none 0 0] 113)) w8.heap.size 113 #[.string ps[i].1,.slice none 0 0]):=Blk.new _ _ _
       have HN9:Hid (Arr (w8.alloc (.cells #[.string ps[i].1,.slice none 0 0] 113)) (StrR _) names (.slice (some ⟨bN,offN,none⟩) names.length ncap) Fn):=ArrStr.below HN8.out hw9 hFn8.out
       have HA9:Hid (Arr (w8.alloc (.cells #[.string ps[i].1,.slice none 0 0] 113)) (StrR _) cl (.slice A8 cl.length cap8) F8):=ArrStr.below HA8.out hw9 HU8.out
       have hB9:=hB8.trans (hw9.mono hB8.size)
       have hD:w.heap.size<w8.heap.size:=zz9 (by omega) hw68
       have hw9s:(w8.alloc (.cells #[.string ps[i].1,.slice none 0 0] 113)).heap.size=w8.heap.size+1:=World.size_alloc _ _
       go_wp2
       obtain ⟨w9,hw9e⟩:∃ w9,w9=w8.alloc (.cells #[.string ps[i].1,.slice none 0 0] 113):=⟨_,rfl⟩
       rw [←hw9e] at HO9 HFr9 HC9 KD9 HN9 HA9 hB9 hw9s ⊢
       have HB8:Hid (∀ b∈rowOf u4 ++ Fo,b<w8.heap.size):=fun b hb=>by
        rcases List.mem_append.1 hb with h | h
        ·exact (HO8.out.row b h).2
        ·exact HO8.out.under b h
       clear hw9 hw9e HO8 HFr8 HC8 HN8 HA8 HLr HNr HO HFr HC hB hB7 hB8 hb7 hb8 hr8 cN hbN
       have hpz:=hpsz.1
       have hpz2:=hpsz.2
       clear hpsz
       go_loopw [12] (fun kv' wr=>∃ k:Nat,∃ kv:Value,∃ Fk:List Nat,k≤cl.length∧k≤5∧kv'=.int .i64 k∧Hid (Blk wr w8 113 #[.string ps[i].1,kv])∧Hid (Own wr (w8.heap.size+1) 118 3 KtR (ktsTo names cl k) kv Fk)∧Hid (Free wr Fk)∧Hid (∀ b∈Fk,w8.heap.size+1≤b)∧Hid (Chg [w8.heap.size] w9 wr)∧Below w w wr∧w9.heap.size≤wr.heap.size) (fun kv' _=>5-(intOf kv').toNat)
       case atStart=>exact ⟨0,_,[],Nat.zero_le _,by omega,rfl,KD9,(show Own _ _ _ _ _ (ktsTo names cl 0) _ _ from Own.nil _ _ _ _ _),Free.nil _,(fun b hb=>by cases hb),Chg.refl _ _,hB9,zz8 _⟩
       case round =>
        clear hB9 KD9
        obtain ⟨k,kv,Fk,hkl,hk5,rfl,KD,HOk,HFk,HFkh,HCk,hB,hw9r⟩:=hrel
        obtain ⟨kA,kcap,hkv,hkc1,hkc2⟩:=HOk.out.form
        subst hkv
        have z0:wr.cell? ⟨w8,0,none⟩=some (.string ps[i].1):=(KD.out.cell 0).trans (by simp)
        have z1:wr.cell? ⟨w8,1,none⟩=some (.slice kA (ktsTo names cl k).length kcap):=(KD.out.cell 1).trans (by simp)
        have zf1:=KD.out.frozen 1
        have hkz:=KD.out.lt
        by_cases hlt:k<cl.length∧k≤4
        ·obtain ⟨hk1,hk2⟩:=hlt
         have u5:decide ((k:Int)<(cl.length:Int))=true:=decide_eq_true (by omega)
         have u6:decide ((k:Int)≤4)=true:=decide_eq_true (by omega)
         have g5:(0:Int)≤(k:Int):=by omega
         have g6:(k:Int)<(cl.length:Int):=by omega
         obtain ⟨b5,off5,rfl⟩:=HA9.out.ptr (by omega)
         have hu9:Hid (∀ b∈F8,b<w8.heap.size):=HU8.out
         have HAr:Hid (Arr wr (StrR wr) cl (.slice (some ⟨b5,off5,none⟩) cl.length cap8) F8):=ArrStr.mono HA9.out (HCk.out.kept (fun b hb=>by have:=hu9.out b hb;omega) (fun b hb=>by have:=hu9.out b hb;simp;omega))
         have HNr:Hid (Arr wr (StrR wr) names (.slice (some ⟨bN,offN,none⟩) names.length ncap) Fn):=ArrStr.mono HN9.out (HCk.out.kept (fun b hb=>by have:=hFn8.out b hb;omega) (fun b hb=>by have:=hFn8.out b hb;simp;omega))
         obtain ⟨hb5l,c0⟩:=ArrStr.at HAr.out (fun b hb=>by have:=hu9.out b hb;omega) (zy2 _ _) k hk1
         have hb5w:b5<w8.heap.size:=by
          obtain ⟨b',off',cs',G',e',hb',-⟩:=HAr.out.get (zAW wr) hk1
          cases e'
          exact hu9.out _ hb'
         have hb5n:w8.heap.size≠b5:=by omega
         have hm5:cl[k].size≤1000000:=Nat.le_trans (HCM.out _ (List.getElem_mem hk1)) hpz2
         have HF2:=jj (ktsTo_succ names cl k hk1)
         have hkl4:(ktsTo names cl k).length≤4:=Nat.le_trans (ktsTo_len names cl k) hk2
         have hmx:(ktsTo names cl k).length+1≤maxLen:=by unfold maxLen;omega
         have hby:((ktsTo names cl k).length+1)*48≤140737488355328:=by omega
         have hwr8:w8.heap.size+1≤wr.heap.size:=by omega
         have hb5w1:b5<w8.heap.size+1:=by omega
         have hHD8:w.heap.size≤w8.heap.size:=by omega
         have HCALL:=jj (spec_l1ParseCtor names cl[k] wr.drew _ Fn (ArrStr.mono (w:=wr) HNr.out (fun _ _=>rfl)) (fun b hb=>by have:=hFn8.out b hb;show b<wr.heap.size;omega) hm5)
         go_wp2_with fail
         generalize hpk:pkt names cl[k]=c at HCALL HF2
         clear hpk
         refine zA9 (S:=fun w'=>w'.cell? ⟨b5,off5+k,none⟩=some (.string cl[k])) (T:=fun w'=>w'.cell? ⟨w8,1,none⟩=some (.slice kA (ktsTo names cl k).length kcap)) (d:=9) (by kernel_rfl) ?_
         have hS1:wr.drew.cell? ⟨b5,off5+k,none⟩=some (.string cl[k]):=c0
         have hT1:wr.drew.cell? ⟨w8,1,none⟩=some (.slice kA (ktsTo names cl k).length kcap):=z1
         refine wV 0 rfl hS1 hT1 ?_
         (try simp only [Act.put,zz4,zz5,zz6])
         refine zB5 (i:=1) (v:=?_) rfl (by decide) rfl (by kernel_rfl) (by kernel_rfl) (by kernel_rfl) (by kernel_rfl) (fun _ _ _ h=>h) (Or.inl ⟨by rfl,?hy1⟩) (by rfl) hS1 hT1 ?_
         case hy1=>(intro W hSw;(try dsimp only at hSw);go_simp;try with_reducible rfl)
         (try simp only [Act.put,zz4,zz5,zz6])
         refine wV 2 rfl hS1 hT1 ?_
         (try simp only [Act.put,zz4,zz5,zz6])
         refine wV 3 rfl hS1 hT1 ?_
         (try simp only [Act.put,zz4,zz5,zz6])
         refine wV 4 rfl hS1 hT1 ?_
         (try simp only [Act.put,zz4,zz5,zz6])
         refine wV 5 rfl hS1 hT1 ?_
         (try simp only [Act.put,zz4,zz5,zz6])
         refine wV 6 rfl hS1 hT1 ?_
         (try simp only [Act.put,zz4,zz5,zz6])
         refine w1 7 rfl fun K hK=>?_
         go_simp
         go_at_call 113
         with_reducible refine HCALL.out.mono ?_
         rintro e wA ⟨cs,G,rfl,hBA,hkA',hfrA,hfsA⟩
         obtain ⟨cA,ccap,rfl⟩:=KtR_form hkA'
         have hBu:=zAU hBA
         have hS6:wA.cell? ⟨b5,off5+k,none⟩=some (.string cl[k]):=(hBu.cell hb5l).trans c0
         have z61:wA.cell? ⟨w8,1,none⟩=some (.slice kA (ktsTo names cl k).length kcap):=(hBu.cell hkz).trans z1
         have zf61:wA.frozen? ⟨w8,1,none⟩=false:=(hBu.frozen hkz).trans zf1
         have hkz6:w8.heap.size<wA.heap.size:=zz9 hkz hBu.size
         have HOA:Hid (Own wA (w8.heap.size+1) 118 3 KtR (ktsTo names cl k) (.slice kA (ktsTo names cl k).length kcap) Fk):=HOk.out.below (fun x cs G hk h=>KtR_mono' _ _ x cs G hk h) hBu
         have HKA:=jj hkA'
         have HfrA:=jj hfrA
         have HfsA:Hid (∀ b∈G,wr.heap.size≤b∧b<wA.heap.size):=hfsA
         clear hkA' hfrA hfsA
         dsimp only
         refine hK.out _ _ hS6 (fun _=>z61) ?_
         clear hK K
         (try simp only [Act.put,zz4,zz5,zz6])
         refine w1 8 rfl fun K hK=>?_
         go_simp
         refine hK.out _ _ ((World.cell?_alloc_lt _ _ _ (zz9 hb5l hBu.size)).trans hS6) (fun _=>(World.cell?_alloc_lt _ _ _ hkz6).trans z61) ?_
         clear hK K
         (try simp only [Act.put,zz4,zz5,zz6])
         refine w1 9 rfl fun K hK=>?_
         refine step_push1 (P:=Try.prog) rfl _ _ 111 rfl i0 _ 48 Try.underlying111 HI.out HZ0.out HZ1.out HZ2.out rfl (by decide) KtR_len' KtR_mono' (by rfl) HOA.out c 118 [.string c.name,.slice cA c.args.length ccap,c.idx] G _ (by rfl) rfl (by simp [Value.oneCell']) HKA.out (fun b hb=>(HfsA.out b hb).2) (fun g hg hG=>Nat.lt_irrefl _ (zz9 (HOk.out.row g hg).2 (HfsA.out g hG).1)) hmx hby (Nat.le_trans hwr8 hBu.size) ?_
         intro g cp w7 hown7 hgr7 hat7
         have s7:w7.cell? ⟨b5,off5+k,none⟩=some (.string cl[k]):=(World.cell?_of_block (a:=⟨b5,off5+k,none⟩) (grow_old HOk.out hBu hgr7 hb5w1 hb5l)).trans c0
         have z71:w7.cell? ⟨w8,1,none⟩=some (.slice kA (ktsTo names cl k).length kcap):=(World.cell?_of_block (a:=⟨w8,1,none⟩) (grow_old HOk.out hBu hgr7 (Nat.lt_succ_self _) hkz)).trans z1
         have zf71:w7.frozen? ⟨w8,1,none⟩=false:=(World.frozen?_of_block (a:=⟨w8,1,none⟩) (grow_old HOk.out hBu hgr7 (Nat.lt_succ_self _) hkz)).trans zf1
         refine hK.out _ _ s7 (fun _=>z71) ?_
         clear hK K
         (try simp only [Act.put,zz4,zz5,zz6])
         refine wV 10 rfl s7 z71 ?_
         (try simp only [Act.put,zz4,zz5,zz6])
         refine w1 11 rfl fun K hK=>?_
         go_simp
         refine hK.out _ _ ((World.cell?_setCell_far _ _ _ _ hb5n).trans s7) (fun h=>by cases h) ?_
         clear hK K
         (try simp only [Act.put,zz4,zz5,zz6])
         refine wE (by kernel_rfl) ?_
         all_goals (
          obtain ⟨r1,r2,r3,r4,r5,r6,r7⟩:=grow_round KtR_mono' hw9s KD.out HOk.out HFk.out HFkh.out HCk.out hB hHD8 (zz8 _) hBu HfrA.out HfsA.out hown7 hgr7
          have R1:=jj r1
          have R2:=jj r2
          have R3:=jj r3
          have R4:=jj r4
          have R5:=jj r5
          have R6:=jj r6
          clear r1 r2 r3 r4 r5 r6 hown7 hgr7 hat7 hS1 hT1 hS6 s7 z61 zf61 z0 z1 zf1 z71 zf71 HOA HKA HfrA HfsA hBu hBA hkz6
          go_wp2
          go_roundw
          case rel=>exact ⟨k+1,_,Fk ++ G,hk1,Nat.succ_le_succ hk2,by go_num,R1,by rw [HF2.out];exact R2.out,R3,R4,R5,R6.out,r7⟩
          case measure=>(simp [intOf] <;> omega))
        ·have hpd:Hid (pdt (namesOf ps) ps[i]=⟨ps[i].1,ktsTo names cl k⟩):=by
          unfold Hid pdt
          rw [HNM.out,HCL.out,ktsTo_all names cl hk5 (by omega)]
         have HF2:=jj (dtsTo_succ ps i hil)
         have hdl:(dtsTo ps i).length≤5:=Nat.le_trans (dtsTo_len ps i) (by omega)
         have hOr:Hid (Own wr w.heap.size 113 2 DtR (dtsTo ps i) u4 Fo):=Own.mono (w:=w9) (fun x cs G hk h=>DtR_mono' _ _ x cs G hk h) HO9.out (HCk.out.kept (fun b hb=>by have:=HB8.out b hb;omega) (fun b hb=>by have:=HB8.out b hb;simp;omega)) HCk.out.size
         have hFrr:Hid (Free wr Fo):=HFr9.out.kept (HCk.out.kept (fun b hb=>by have:=HB8.out b (List.mem_append.2 (.inr hb));omega) (fun b hb=>by have:=HB8.out b (List.mem_append.2 (.inr hb));simp;omega))
         have hCr:Hid (Chg [w.heap.size] w6 wr):=HC9.out.trans_new HCk.out hw68
         have harr:=HOk.out.arr
         have hfree:=HOk.out.free HFk.out
         have hrk:=HOk.out.row
         have hff:∀ b∈(if ktsTo names cl k=[] then [] else rowOf (.slice kA (ktsTo names cl k).length kcap) ++ Fk),w8.heap.size+1≤b∧b<wr.heap.size:=fun b hb=>by
          split at hb
          ·cases hb
          ·rcases List.mem_append.1 hb with h | h
           ·exact hrk b h
           ·exact ⟨HFkh.out b h,HOk.out.under b h⟩
         generalize (if ktsTo names cl k=[] then [] else rowOf (.slice kA (ktsTo names cl k).length kcap) ++ Fk)=FF at harr hfree hff
         have HFF:=jj hff
         have HFREE:=jj hfree
         have HDX:Hid (DtR wr ⟨ps[i].1,ktsTo names cl k⟩ [.string ps[i].1,.slice kA (ktsTo names cl k).length kcap] FF):=⟨_,rfl,harr,(show ps[i].1.size≤9223372036854775807 by omega)⟩
         clear harr hfree hrk hff HOk HFk HFkh HO9 HFr9 HC9 HN9 HA9 HU8
         have hbs:w.heap.size≤wr.heap.size:=hB.size
         by_cases hk5':k<cl.length
         have u5:decide ((k:Int)<(cl.length:Int))=true:=decide_eq_true (by omega)
         have u6:decide ((k:Int)≤4)=false:=decide_eq_false (by omega)
         rotate_left
         have u5:decide ((k:Int)<(cl.length:Int))=false:=decide_eq_false (by omega)
         rotate_left
         all_goals (
          clear hlt
          go_wp2_with (at_builtin;refine Halt.mk ?_)
          refine Halt.of (zA3 (P:=Try.prog) rfl _ _ 23 rfl m0 _ 40 Try.underlying23 HM.out HM0.out HM1.out HM2.out rfl (by decide) DtR_len' DtR_mono' (by rfl) hOr.out ⟨ps[i].1,ktsTo names cl k⟩ 113 [.string ps[i].1,.slice kA (ktsTo names cl k).length kcap] FF _ (by rfl) (by simp) (by simp [Value.oneCell']) HDX.out (fun b hb=>(HFF.out b hb).2) (fun g hg hG=>by have h1:=HB8.out g (List.mem_append.2 (.inl hg));have h2:=(HFF.out g hG).1;omega) (by unfold maxLen;omega) (by omega) hbs ?_)
          intro g cp w7 hown7 hgr7 hat7
          obtain ⟨r1,r2,r3,r4,r5,r6⟩:=push_round (n:=(dtsTo ps i).length+1) (cp:=cp) hOr.out hFrr.out HFREE.out HB8.out HFF.out HR.out hCr.out hB (zz8 _) HFh.out hw68 hgr7 hat7
          have HFr7:=jj r1
          have HFh7:=jj r2
          have HR7:=jj r3
          have HC7:=jj r4
          have HB7:=jj r5
          clear r1 r2 r3 r4 r5
          have HO7:=jj hown7
          have HEQ:Hid (dtsTo ps (i+1)=dtsTo ps i ++ [⟨ps[i].1,ktsTo names cl k⟩]):=by unfold Hid;rw [HF2.out,hpd.out]
          clear hown7 hgr7 hat7
          go_wp2
          go_roundw
          case rel=>exact ⟨i+1,Fo ++ FF,by omega,by go_num,by rw [HEQ.out];exact HO7.out,HFr7,HFh7,HR7,HC7,HB7.out,r6⟩
          case measure=>(simp [intOf] <;> omega))
      ·have HPS:Hid (parseS text=some (dtsTo ps i)):=by unfold Hid;rw [HPS0.out,dtsTo_all ps (by omega)]
       have u3:decide ((i:Int)<(names.length:Int))=false:=decide_eq_false (by have:=HNL.out;omega)
       have HFh2:Hid (∀ b∈Fo,w.heap.size≤b):=fun b hb=>by have:=HFh.out b hb;omega
       clear HFh
       have HFh:=HFh2
       have hil3:¬i<names.length:=by have:=HNL.out;omega
       clear HFh2 hil
       have harr:=HO.out.arr
       have hfree:=HO.out.free HFr.out
       have hfresh:=Own.fresh (w0:=w) HO.out (zz8 _) HFh.out
       generalize (if (dtsTo ps i)=[] then [] else rowOf (u4) ++ Fo)=FF at harr hfree hfresh
       have HARR:=jj harr
       have HFREE:=jj hfree
       have HFRESH:=jj hfresh
       clear harr hfree hfresh HO HFr HFh
       generalize hxx:(dtsTo ps i)=xx at *
       clear hxx
       go_wp2_with fail
       refine (spec_WorldValid xx wr _ FF HARR.out HFRESH.out.under).mono ?_
       rintro e w8 ⟨rfl,hb8⟩
       have hB8:=hB.trans (hb8.mono hB.size)
       cases e1:worldOk xx with
       |false =>
        have HNO:=jj (parseB_no HPS.out e1)
        clear e1
        have hfin:GivesWorld w (parseB text) (.returned (.tuple #[.slice (some ⟨w8,0,none⟩) 0 0,.bool false])) (w8.alloc (.cells #[] 113)):=by
         rw [HNO.out]
         exact ⟨_,[],rfl,hB8.alloc hB8.size _,⟨_,_,rfl,by simp,by simp [maxLen],.inl ⟨rfl,rfl⟩⟩,Free.nil _,Fresh.nil _ _⟩
        have HFin:=jj hfin
        clear hfin
        go_wp2
        go_ret2
        exact HFin.out
       |true =>
        have HW:=jj (worldOK e1)
        have HE1:=jj e1
        clear e1
        have HA8:=jj (ArrDt.below HARR.out hb8 HFRESH.out.under)
        have hF8:=jj (HFRESH.out.under.mono hb8.size)
        go_wp2_with fail
        refine (spec_l1Text xx HW.out w8 _ FF HA8.out hF8.out).mono ?_
        rintro e w9 ⟨rfl,hb9⟩
        have hB9:=hB8.trans (hb9.mono hB8.size)
        have hb89:=hb8.trans (hb9.mono hb8.size)
        generalize htt:bs (textT xx)=tt
        cases e2:(tt.toList==text.toList) with
        |true =>
         have HYES:Hid (parseB text=some xx):=parseB_yes HPS.out HE1.out (by rw [beq_iff_eq,zAA,zAA,←htt,tl_bs] at e2;exact e2)
         have hfin:GivesWorld w (parseB text) (.returned (.tuple #[u4,.bool true])) w9:=by
          rw [HYES.out]
          exact ⟨_,FF,rfl,hB9,ArrDt.below HARR.out hb89 HFRESH.out.under,HFREE.out.kept (.of_below hb89 HFRESH.out.under),fun b hb=>⟨(HFRESH.out b hb).1,zz9 (HFRESH.out b hb).2 hb89.size⟩⟩
         have HFin:=jj hfin
         clear hfin htt
         go_wp2
         go_ret2
         exact HFin.out
        |false =>
         have HNO:Hid (parseB text=none):=parseB_text HPS.out (fun h=>by rw [beq_eq_false_iff_ne,zAA,zAA,←htt,tl_bs] at e2;exact e2 h)
         clear htt
         have hfin:GivesWorld w (parseB text) (.returned (.tuple #[.slice (some ⟨w9,0,none⟩) 0 0,.bool false])) (w9.alloc (.cells #[] 113)):=by
          rw [HNO.out]
          exact ⟨_,[],rfl,hB9.alloc hB9.size _,⟨_,_,rfl,by simp,by simp [maxLen],.inl ⟨rfl,rfl⟩⟩,Free.nil _,Fresh.nil _ _⟩
         have HFin:=jj hfin
         clear hfin
         go_wp2
         go_ret2
         exact HFin.out)
def eightT:List ByteArray:=(sevenT ++ [[]]).map bs
theorem spec_l1Texts (w:World):Calls Try.prog 84 #[] w fun e w'=>e=.returned (.slice (some ⟨w,0,none⟩) 8 8)∧w'=w.alloc (.cells (eightT.map Value.string).toArray 9):=by
 go_enter Try.func84,Try.ntmps84
 go_wp2
 go_ret
 exact ⟨rfl,rfl⟩
theorem seven_at {r:Nat} (h:r<7):∃ t,eightT[r]?=some (bs t)∧t∈sevenT∧(bs t).size≤100:=by
 have key:∀ r:Fin 7,∃ t,eightT[r.1]?=some (bs t)∧t∈sevenT∧(bs t).size≤100:=by
  intro ⟨r,hr⟩
  have h7:sevenT.length=7:=rfl
  have hr7:r<sevenT.length:=by omega
  refine ⟨sevenT[r],?_,List.getElem_mem hr7,?_⟩
  ·unfold eightT
   rw [List.getElem?_map,List.getElem?_append_left hr7,List.getElem?_eq_getElem hr7];rfl
  ·have hall:∀ t∈sevenT,t.length≤100:=by decide
   exact hall _ (List.getElem_mem hr7)
 exact key ⟨r,h⟩
theorem seven_parse {t:List UInt8} (h:t∈sevenT):∃ xs,parseB (bs t)=some xs∧worldOk xs=true∧0<xs.length:=by
 have:=List.all_eq_true.1 sevenT_fine t h
 exact fineW_ex this
def DrewWorld (g p n:Nat) (w:World) (Q:List Dt→Prop) (e:Ending) (w':World):Prop:=∃ xs v F q,e=.returned v∧Q xs∧Arr w' (DtR w') xs v F∧Fresh w w' F∧Rd w' g q∧q≤p+n∧Chg [g] w w'
theorem spec_l1WorldQ (Q:List Dt→Prop) (hQ:∀ t∈sevenT,∃ xs,parseB (bs t)=some xs∧Q xs) (p g:Nat) (w:World) (h:Rd w g p) (hp:p≤900000):Calls Try.prog 64 #[.pointer (some ⟨g,0,none⟩)] w (DrewWorld g p 1 w Q):=by
 have HR0:=jj h
 have hgl:=h.lt
 clear h
 go_enter Try.func64,Try.ntmps64
 go_wp2_with fail
 refine (spec_l1Texts w).mono ?_
 rintro e w1 ⟨rfl,hw1⟩
 have hb1:Below w w w1:=by rw [hw1];exact (zy2 _ _).alloc (zz8 _) _
 have hk1:Blk w1 w 9 (eightT.map Value.string).toArray:=by rw [hw1];exact Blk.new _ _ _
 have HR1:=jj (HR0.out.below hb1)
 have HK1:=jj hk1
 clear hw1 hk1
 go_wp2_with fail
 refine (zAH 7 p g w1 HR1.out (by omega) (by omega) (by omega)).mono ?_
 rintro e w2 ⟨r,rfl,hr,hR2,hC2⟩
 obtain ⟨t,ht,htm,htl⟩:=seven_at hr
 have hlt1:=HK1.out.lt
 have c1:w1.cell? ⟨w.heap.size,r,none⟩=some (.string (bs t)):=(HK1.out.cell r).trans (by simp [ht])
 have c2:w2.cell? ⟨w.heap.size,r,none⟩=some (.string (bs t)):=(hC2.cell hlt1 (by simp;omega)).trans c1
 obtain ⟨xs,hxp,hxo⟩:=hQ t htm
 have HXP:=jj hxp
 have HXO:=jj hxo
 have HR2:=jj hR2
 have HC2:=jj hC2
 have g1:(0:Int)≤(r:Int):=by omega
 have g2:(r:Int)<8:=by omega
 have hsz2:=hC2.size
 clear hxp hxo hR2 hC2 c1 ht htm
 generalize hT:bs t=T at *
 clear hT
 go_wp2_with fail
 refine (spec_ParseWorld T (by omega) w2).mono ?_
 rintro e w3 ⟨v3,F3,rfl,hb3,ha3,-,hfs3⟩
 rw [HXP.out] at ha3 ⊢
 have hfin:DrewWorld g p 1 w Q (.returned v3) w3 :=
  ⟨xs,v3,F3,p+1,rfl,HXO.out,ha3,fun b hb=>⟨Nat.le_trans (Nat.le_trans hb1.size hsz2) (hfs3 b hb).1,(hfs3 b hb).2⟩,HR2.out.below hb3,zz8 _,((Chg.of_below hb1).trans HC2.out).step hb3⟩
 have HFin:=jj hfin
 clear hfin ha3 hfs3 hb3
 go_wp2
 go_ret
 exact HFin.out
def DrewV (b p n g:Nat) (w:World) (e:Ending) (w':World):Prop:=∃ (v:V) (cs:List Value) (F:List Nat) (q:Nat),e=.returned (.agg cs.toArray)∧VR w' v cs F∧Fresh w w' F∧nodes v≤b∧Rd w' g q∧q≤p+n∧Chg [g] w w'
def GoodK (xs:List Dt) (t:Ty) (N:Nat) (k:Int):Prop:=k∈ctorsL xs t∧mostIn xs (tableL xs) t k≠0∧mostIn xs (tableL xs) t k≤(N:Int)
theorem good_args {xs:List Dt} (hw:WorldOK xs) {t:Ty} (ht:TyIn xs.length t) {N:Nat} {k:Int} (h:GoodK xs t (N+1) k) {a:Ty} (ha:a∈argsOf xs t k):TyIn xs.length a∧depthIn (tableL xs) a≠0∧depthIn (tableL xs) a≤(N:Int):=by
 have hs:=sound_tableL hw
 have hne:=mostGo_ne (tab:=tableL xs) (ls:=argsOf xs t k) (m:=0) h.2.1
 have hp:=(mostGo_pos hs.dpos (Int.le_refl 0) hne).2 a ha
 have h2:mostGo (tableL xs) 0 (argsOf xs t k)=mostIn xs (tableL xs) t k:=rfl
 have h3:=h.2.2
 push_cast at h3
 exact ⟨argsOf_in hw ht h.1 ha,hne a ha,by omega⟩
theorem sizes_snoc' (vs:List V) (v:V) (q b:Nat) (h:V.sizes vs≤q*b) (hv:nodes v≤b):V.sizes (vs ++ [v])≤(q+1)*b:=by
 rw [V.sizes_eq] at h ⊢
 rw [V.subs_snoc,List.length_append,Nat.add_mul]
 unfold nodes at hv
 simp only [List.length_cons,List.length_nil]
 omega
theorem pow4 (N:Nat):1≤4 ^ N∧4 ^ (N+1)=4 ^ N*4:=⟨Nat.one_le_pow _ _ (by omega),Nat.pow_succ ..⟩
theorem pow4_le {N:Nat} (h:N≤8):4 ^ N≤65536:=Nat.le_trans (Nat.pow_le_pow_right (by omega) h) (by decide)
theorem zAR {P:Program} {fn:Func} {u p1 p2:Tmp} {ty1 ty2:TypeId} (h:fn.results=#[.tmp u,.cell p1 ty1,.cell p2 ty2]) (tmps:Array Value) (w:World) (g1 g2:Nat) (t1 t2:TypeId) (cs1 cs2:Array Value) (fr1 fr2:Nat×Nat) (d1 d2:TypeDesc)
  (hp1:tmps.getD p1 undef=.pointer (some ⟨g1,0,none⟩)) (hg1:w.heap[g1]?=some (.cells cs1 t1 fr1)) (hu1:P.underlying ty1=some d1) (hd1:(match d1 with | .struct _ | .array _ _=>true | _=>false)=true) (hi1:(P.info? ty1).map (·.size)=some cs1.size)
  (hp2:tmps.getD p2 undef=.pointer (some ⟨g2,0,none⟩)) (hg2:w.heap[g2]?=some (.cells cs2 t2 fr2)) (hu2:P.underlying ty2=some d2) (hd2:(match d2 with | .struct _ | .array _ _=>true | _=>false)=true) (hi2:(P.info? ty2).map (·.size)=some cs2.size) :
  (results fn tmps).run P w=.ok (.tuple #[tmps.getD u undef,.agg cs1,.agg cs2]) w:=by
 have hp1':tmps[p1]?.getD undef=.pointer (some ⟨g1,0,none⟩):=by simpa using hp1
 have hp2':tmps[p2]?.getD undef=.pointer (some ⟨g2,0,none⟩):=by simpa using hp2
 simp [results,h,hp1',hp2',asAddr,run_loadVar_row w g1 t1 ty1 cs1 fr1 d1 hg1 hu1 hd1 hi1,run_loadVar_row w g2 t2 ty2 cs2 fr2 d2 hg2 hu2 hd2 hi2]
theorem pow44:4 ^ 4=256:=by decide
def smallTab (xs:List Dt):Bool:=(tableL xs).all fun x=>decide (x≤4)
theorem seven_tab:sevenT.all (fun t=>match parseW t with | some xs=>smallTab xs | none=>false)=true:=by decide +kernel
theorem seven_small {t:List UInt8} (h:t∈sevenT):∃ xs,parseB (bs t)=some xs∧worldOk xs=true∧0<xs.length∧smallTab xs=true:=by
 obtain ⟨xs,h1,h2,h3⟩:=fineW_ex (List.all_eq_true.1 sevenT_fine t h)
 have h4:=List.all_eq_true.1 seven_tab t h
 rw [h1] at h4
 obtain ⟨ys,g1,g2,g3⟩:=seven_parse h
 have hb:parseB (bs t)=parseW t:=by first | rfl | (unfold parseB;simp [bs_toList]) | (unfold parseB;rfl)
 exact ⟨xs,hb.trans h1,h2,h3,h4⟩
theorem depth_small {xs:List Dt} (h:smallTab xs=true) (t:Ty):depthIn (tableL xs) t≤4:=by
 unfold depthIn
 split
 ·omega
 ·unfold smallTab at h
  rw [List.all_eq_true] at h
  rw [List.getD_eq_getElem?_getD]
  cases e:(tableL xs)[slotOf t]? with
  |none=>simp
  |some x =>
   have:=h x (List.mem_of_getElem? e)
   simpa using this
structure TypedOk (xs:List Dt) (t:Ty):Prop where
 ok:worldOk xs=true
 pos:0<xs.length
 small:smallTab xs=true
 ty:typeOkB xs.length t=true
 dep:depthIn (tableL xs) t≠0
def DrewTyped (p n g:Nat) (w:World) (e:Ending) (w':World):Prop:=∃ (xs:List Dt) (v:Value) (F:List Nat) (t:Ty) (a:V) (cs:List Value) (G:List Nat) (q:Nat),e=.returned (.tuple #[v,.agg #[t.d,t.i],.agg cs.toArray])∧TypedOk xs t∧Arr w' (DtR w') xs v F∧Fresh w w' F∧VR w' a cs G∧Fresh w w' G∧nodes a≤256∧Rd w' g q∧q≤p+n∧Chg [g] w w'
structure Vt where
 var:Int
 ty:Ty
def VtR (_:World) (x:Vt) (cs:List Value) (F:List Nat):Prop:=cs=[.int .i64 x.var,.int .i64 x.ty.d,.int .i64 x.ty.i]∧F=[]
theorem VtR_len (w:World) (x:Vt) (cs:List Value) (F:List Nat) (h:VtR w x cs F):cs.length=3:=by rw [h.1];rfl
theorem zA6 (w w':World) (x:Vt) (cs:List Value) (F:List Nat) (_:Kept F w w') (h:VtR w x cs F):VtR w' x cs F:=h
def Vt.same (a b:Vt):Bool:=a.var==b.var && (a.ty.d==b.ty.d && a.ty.i==b.ty.i)
theorem Vt.same_iff (a b:Vt):Vt.same a b=true↔a=b:=by
 obtain ⟨v,d,i⟩:=a
 obtain ⟨v',d',i'⟩:=b
 simp [Vt.same]
def namedB (p:P):Bool:=p.op==2 || p.op==6
def kindB (xs:List Dt) (t:Ty) (p:P):Bool:=if p.op=3 then t.d == -1 && (decide (0≤p.n) && (decide (p.n≤p.m) && decide (p.m≤9))) else if p.op=4 then hasB (ctorsL xs t) p.ct else (p.op==1 || (p.op==2 || (p.op==5 || p.op==6)))
def ownB (xs:List Dt) (t:Ty) (p:P):Bool:=(if namedB p=true then decide (0≤p.va) && decide (p.va≤5) else p.va==0) && ((p.op==3 || (p.n==0 && p.m==0)) && ((p.op==4 || p.ct==0) && kindB xs t p))
def kidsN (op:Int):Nat:=if op=5 then 2 else if op=6 then 1 else 0
def typesP (xs:List Dt) (t:Ty) (p:P):List Ty:=if p.op=4 then argsOf xs t p.ct else List.replicate (kidsN p.op) t
def shapeB (xs:List Dt):Nat→Ty→P→Bool
 |0,_,_=>false
 |d+1,t,p=>ownB xs t p && (p.ks.length==(typesP xs t p).length && ((typesP xs t p).zip p.ks).all fun x=>shapeB xs d x.1 x.2)
def nodesP (p:P):Nat:=p.size+1
def kidsV (xs:List Dt) (t:Ty) (p:P):List (Ty×P):=((typesP xs t p).zip p.ks).take (if p.op=5 then 1 else p.ks.length)
def varsN (xs:List Dt):Nat→Ty→P→List Vt
 |0,_,_=>[]
 |d+1,t,p=>(if namedB p=true then [⟨p.va,t⟩] else []) ++ (kidsV xs t p).flatMap fun x=>varsN xs d x.1 x.2
def dupFree (l:List Vt):Bool:=decide ((l.map Vt.var).Nodup)
def alikeB (a b:List Vt):Bool:=(a.all fun v=>match b.find? fun u=>u.var==v.var with | some u=>(u.ty.d==v.ty.d && u.ty.i==v.ty.i) | none=>false) && a.length==b.length
def sameV (a b:List Vt):Bool:=a.length==b.length && a.all fun v=>b.any fun u=>Vt.same u v
def linB (xs:List Dt):Nat→Ty→P→Bool
 |0,_,_=>true
 |d+1,t,p=>(((typesP xs t p).zip p.ks).all fun x=>linB xs d x.1 x.2) && (if p.op=5 then (match p.ks with | [k0,k1]=>alikeB (varsN xs d t k0) (varsN xs d t k1) | _=>true) else dupFree (varsN xs (d+1) t p))
def patOkB (xs:List Dt) (t:Ty) (p:P):Bool:=shapeB xs 10 t p && (decide (nodesP p≤60) && linB xs 10 t p)
theorem typesP_or {xs:List Dt} {t:Ty} {p:P} (h:p.op=5):typesP xs t p=[t,t]:=by
 unfold typesP kidsN
 rw [if_neg (by omega),if_pos h];rfl
theorem kids_two {α:Type} {l:List α} (h:l.length=2):∃ a b,l=[a,b]:=by
 match l,h with
 |[a,b],_=>exact ⟨a,b,rfl⟩
theorem lin_dup (xs:List Dt):∀ (d:Nat) (t:Ty) (p:P),shapeB xs d t p=true→linB xs d t p=true→dupFree (varsN xs d t p)=true
 |0,_,_,h,_=>by simp [shapeB] at h
 |d+1,t,p,hs,hl=>by
  simp only [shapeB,linB,Bool.and_eq_true] at hs hl
  by_cases h5:p.op=5
  ·have hty:=typesP_or (xs:=xs) (t:=t) h5
   obtain ⟨h1,h2,h3⟩:=hs
   rw [hty] at h2 h3
   obtain ⟨k0,k1,hk⟩:=kids_two (by simpa using h2)
   have hv:varsN xs (d+1) t p=varsN xs d t k0:=by
    have e:varsN xs (d+1) t p=(if namedB p=true then [⟨p.va,t⟩] else []) ++ (kidsV xs t p).flatMap fun x=>varsN xs d x.1 x.2:=rfl
    have kv:kidsV xs t p=[(t,k0)]:=by unfold kidsV;rw [hty,hk,h5];rfl
    have nb:namedB p=false:=by unfold namedB;rw [h5];rfl
    rw [e,kv,nb]
    simp
   rw [hv]
   rw [hk] at h3
   have hl1:=hl.1
   rw [hty,hk] at hl1
   simp only [List.zip_cons_cons,List.zip_nil_right,List.all_cons,List.all_nil,Bool.and_true,Bool.and_eq_true] at h3 hl1
   exact lin_dup xs d t k0 h3.1 hl1.1
  ·have hl2:=hl.2
   rwa [if_neg h5] at hl2
theorem find_of_nodup:∀ {b:List Vt} {u:Vt},(b.map Vt.var).Nodup→u∈b→b.find? (fun x=>x.var==u.var)=some u
 |[],_,_,h=>by cases h
 |x :: b,u,hn,h=>by
  rw [List.map_cons,List.nodup_cons] at hn
  rcases List.mem_cons.1 h with rfl | h
  ·simp
  ·have hx:(x.var==u.var)=false:=by
    rw [beq_eq_false_iff_ne]
    intro e
    exact hn.1 (by rw [e];exact List.mem_map_of_mem h)
   rw [List.find?_cons,hx]
   exact find_of_nodup hn.2 h
theorem alike_same {a b:List Vt} (hb:dupFree b=true):alikeB a b=sameV a b:=by
 have hn:(b.map Vt.var).Nodup:=of_decide_eq_true hb
 have key:∀ v:Vt,(match b.find? fun u=>u.var==v.var with | some u=>(u.ty.d==v.ty.d && u.ty.i==v.ty.i) | none=>false)=b.any fun u=>Vt.same u v:=fun v=>by
  rw [Bool.eq_iff_iff,List.any_eq_true]
  constructor
  ·intro h
   split at h
   ·rename_i u hu
    have hm:=List.mem_of_find?_eq_some hu
    have hv:=List.find?_some hu
    exact ⟨u,hm,by
     unfold Vt.same
     rw [hv]
     simpa using h⟩
   ·cases h
  ·rintro ⟨u,hm,hu⟩
   obtain rfl:=(Vt.same_iff u v).1 hu
   rw [find_of_nodup hn hm]
   simp
 unfold alikeB sameV
 rw [Bool.and_comm]
 congr 1
 exact congrArg (fun f=>a.all f) (funext key)
theorem Own.chg2 {α:Type} {R:World→α→List Value→List Nat→Prop} {w w':World} {B k:Nat} {E:TypeId} {xs:List α} {v:Value} {F L:List Nat} (hRm:∀ w w' x cs G,Kept G w w'→R w x cs G→R w' x cs G) (h:Own w B E k R xs v F) (hc:Chg L w w') (hL:∀ b∈L,b<B) (hF:∀ b∈F,b∉L):Own w' B E k R xs v F :=
 h.mono (fun x cs G hk h=>hRm _ _ x cs G hk h) (hc.kept (fun b hb=>by
  rcases List.mem_append.1 hb with h1 | h1
  ·exact (h.row b h1).2
  ·exact h.under b h1) (fun b hb hl=>by
  have h2:=hL b hl
  rcases List.mem_append.1 hb with h1 | h1
  ·have:=(h.row b h1).1;omega
  ·exact hF b h1 hl)) hc.size
section
variable {α : Type} {w w9 wr wA w7 : World} {D Bz H k g : Nat} {T E : TypeId} {cells : Array Value} {R : World → α → List Value → List Nat → Prop} {xs ys : List α} {v v' : Value} {F G : List Nat} {o : Obj}
theorem kid_round4 (j:Nat) (hRm:∀ w w' x cs G,Kept G w w'→R w x cs G→R w' x cs G) (hw9:w9.heap.size=Bz) (hDB:D<Bz) (hgw:g<w.heap.size) (hwD:w.heap.size≤D) (KD:Blk wr D T cells) (HO:Own wr Bz E k R xs v F) (HFh:∀ b∈F,b≠D∧b≠g) (HC:Chg [D,g] w9 wr) (hB:Chg [g] w wr)
  (hBu:Chg [g] wr wA) (hfsA:∀ b∈G,b≠D∧b≠g) (hown:Own w7 Bz E k R ys v' (F ++ G)) (hgr:(wA.alloc o).grownBy w7 v.ownBlock) {p:Nat} (hR:Rd wA g p) :
  Blk (w7.setCell ⟨D,j,none⟩ v') D T (cells.setIfInBounds j v')∧Own (w7.setCell ⟨D,j,none⟩ v') Bz E k R ys v' (F ++ G)∧(∀ b∈F ++ G,b≠D∧b≠g)∧Chg [D,g] w9 (w7.setCell ⟨D,j,none⟩ v')∧Chg [g] w (w7.setCell ⟨D,j,none⟩ v')∧w9.heap.size≤(w7.setCell ⟨D,j,none⟩ v').heap.size∧Rd (w7.setCell ⟨D,j,none⟩ v') g p:=by
 have hlt:=KD.lt
 have hA:=hBu.size
 have hz:=HC.size
 rw [hw9] at hz
 have hws:=hB.size
 have hFG:∀ b∈F ++ G,b≠D∧b≠g:=fun b hb=>by
  rcases List.mem_append.1 hb with h | h
  ·exact HFh b h
  ·exact hfsA b h
 have hBA7:Below Bz wA w7:=((zy2 Bz wA).alloc (by omega) o).grown hgr (by rw [World.size_alloc];omega) (fun g hg=>(HO.row g (zA2.2 hg)).1)
 have hC7:Chg [D,g] w9 w7:=chg_under (HC.trans (hBu.mono (by simp))) (by rw [hw9];exact hBA7)
 have hC8:Chg [D,g] w9 (w7.setCell ⟨D,j,none⟩ v'):=hC7.set (by simp)
 have hD7:w7.heap[D]?=wr.heap[D]?:=(hBA7.block D (by omega)).trans (hBu.block D hlt (by rw [zy1];omega))
 refine ⟨(KD.same hD7).set_ j v',Own.set (j:=j) hRm hown v' (fun h=>by have:=(hown.row _ h).1;omega) (fun h=>(hFG _ h).1 rfl),hFG,hC8,?_,hC8.size,hR.keep fun b hb=>?_⟩
 ·exact (chg_under (hB.trans hBu) (hBA7.mono (by omega))).set_new hwD
 ·exact (zz7 w7 ⟨D,j,none⟩ v' b (by show b≠D;omega)).trans (hBA7.block b (by omega))
theorem kid_done4 (HO:Own wr Bz E k R xs v F) (HFh:∀ b∈F,b≠D∧b≠g) (hD:D<Bz) (hg:g<Bz):∃ FF,Arr wr (R wr) xs v FF∧∀ b∈FF,b≠D∧b≠g∧b<wr.heap.size∧(b∈F∨Bz≤b) :=
 ⟨_,HO.arr,fun b hb=>by
  split at hb
  ·cases hb
  ·rcases List.mem_append.1 hb with h | h
   ·have:=HO.row b h;exact ⟨by omega,by omega,this.2,.inr this.1⟩
   ·have:=HFh b h;exact ⟨this.1,this.2,HO.under b h,.inl h⟩⟩
end
def DrewP (b p n g:Nat) (w:World) (e:Ending) (w':World):Prop:=∃ (a:P) (cs:List Value) (F:List Nat) (q:Nat),e=.returned (.agg cs.toArray)∧PR w' a cs F∧(∀ b∈F,b<w'.heap.size∧b≠g∧(w.heap.size≤b))∧nodesP a≤b∧Rd w' g q∧q≤p+n∧Chg [g] w w'
theorem arr_pats2 {w:World} {g:Nat} {T:TypeId} {a b:P} {ca cb:List Value} {Fa Fb:List Nat} (h:Blk w g T (ca ++ cb).toArray) (ha:PR w a ca Fa) (hb:PR w b cb Fb):Arr w (PR w) [a,b] (.slice (some ⟨g,0,none⟩) 2 2) (g :: (Fa ++ Fb)) :=
 ⟨_,2,rfl,zz8 _,by simp [maxLen],.inr ⟨g,0,ca ++ cb,Fa ++ Fb,rfl,fun j u hj=>by rw [Nat.zero_add,h.cell];simpa using hj,⟨ca,cb,Fa,Fb,rfl,rfl,ha,⟨cb,[],Fb,[],by simp,by simp,hb,rfl,rfl⟩⟩,rfl⟩⟩
theorem arr_pat1 {w:World} {g:Nat} {T:TypeId} {a:P} {ca:List Value} {Fa:List Nat} (h:Blk w g T ca.toArray) (ha:PR w a ca Fa):Arr w (PR w) [a] (.slice (some ⟨g,0,none⟩) 1 1) (g :: Fa) :=
 ⟨_,1,rfl,zz8 _,by simp [maxLen],.inr ⟨g,0,ca,Fa,rfl,fun j u hj=>by rw [Nat.zero_add,h.cell];simpa using hj,⟨ca,[],Fa,[],by simp,by simp,ha,rfl,rfl⟩,rfl⟩⟩
theorem psizes_snoc (vs:List P) (v:P) (q b:Nat) (h:P.sizes vs≤q*b) (hv:nodesP v≤b):P.sizes (vs ++ [v])≤(q+1)*b:=by
 rw [P.sizes_eq] at h ⊢
 rw [P.subs_snoc,List.length_append,Nat.add_mul]
 unfold nodesP at hv
 simp only [List.length_cons,List.length_nil]
 omega
end Go.Proofs.Ytjjclcmmfeegfaa
