/-
  Lemmas, and contracts of functions. Conditions: none.
-/
import Derived.Test.YtjjclcmmfeegfaaGreatDoorJAD
import Derived.Test.YtjjclcmmfeegfaaGreatDoorJAA
import Derived.Deep.RegionWith
import Derived.Test.YtjjclcmmfeegfaaGreatDoorJAC
import Derived.IntWalk
import Derived.Test.YtjjclcmmfeegfaaGreatDoorJAB
import Derived.Deep.RegionHeld3

set_option linter.unusedVariables false
set_option linter.unusedSimpArgs false
set_option maxRecDepth 100000
set_option maxHeartbeats 1600000

namespace Go.Proofs.YtjjclcmmfeegfaaGreatDoor
open Go.RowKit
set_option maxHeartbeats 6400000 in
theorem spec_ParseWorld (text:ByteArray) (hs:text.size≤1000000) (w:World) :
  Calls Tryz.prog 11 #[.string text] w (GivesWorld w (parseB text)):=by
 obtain ⟨i0,hi,hz0,hz1,hz2⟩:=info_parts info_KtE
 have HI:=jj hi
 have HZ0:=jj hz0
 have HZ1:=jj hz1
 have HZ2:=jj hz2
 clear hi hz0 hz1 hz2
 obtain ⟨j0,hj,hj0,hj1,hj2⟩:=info_parts info_strE
 have HJ:=jj hj
 have HJ0:=jj hj0
 have HJ1:=jj hj1
 have HJ2:=jj hj2
 clear hj hj0 hj1 hj2
 obtain ⟨m0,hm,hm0,hm1,hm2⟩:=info_parts info_DtE
 have HM:=jj hm
 have HM0:=jj hm0
 have HM1:=jj hm1
 have HM2:=jj hm2
 clear hm hm0 hm1 hm2
 go_enter Tryz.func11,Tryz.ntmps11
 go_wp2_with fail
 have hB1:Below w w ((w.alloc (.cells #[] 64)).alloc (.cells #[] 9)):=((zy2 _ _).alloc (zz8 _) _).alloc (by simp) _
 have HO1:Hid (Own ((w.alloc (.cells #[] 64)).alloc (.cells #[] 9)) w.heap.size 64 2 DtR ([]:List Dt) (.slice (some ⟨w,0,none⟩) 0 0) []):=(Own.made w w.heap.size 64 2 DtR #[] 0 (zz8 _) (by simp [maxLen]) rfl).below (fun x cs G hk h=>DtR_mono' _ _ x cs G hk h) ((zy2 _ _).alloc (zz8 _) _)
 have HN1:Hid (Own ((w.alloc (.cells #[] 64)).alloc (.cells #[] 9)) (w.heap.size+1) 9 1 StrR (namesOf []) (.slice (some ⟨w.heap.size+1,0,none⟩) 0 0) []):=by
  have h:=Own.made (w.alloc (.cells #[] 64)) (w.heap.size+1) 9 1 StrR #[] 0 (by simp) (by simp [maxLen]) rfl
  rw [World.size_alloc] at h
  exact h
 have hsz1:(((w.alloc (.cells #[] 64)).alloc (.cells #[] 9))).heap.size=w.heap.size+2:=by simp
 obtain ⟨wb,hwb⟩:∃ wb,wb=((w.alloc (.cells #[] 64)).alloc (.cells #[] 9)):=⟨_,rfl⟩
 rw [←hwb] at hB1 HO1 HN1 hsz1 ⊢
 clear hwb
 have hcut:Calls Tryz.prog 36 #[.string text,.int .u8 59] wb (MadeStrs wb (cutS 59 text)):=zAM text 59 hs wb
 have hpos:=cutS_pos 59 text
 have hlm:=cutS_mem 59 text
 have hlen:=cutS_len 59 text
 obtain ⟨lines,hlines⟩:∃ l,cutS 59 text=l:=⟨_,rfl⟩
 rw [hlines] at hcut hpos hlm hlen
 have HLN:=jj hlines
 have HLM:=jj hlm
 clear hlines hlm
 refine hcut.mono ?_
 rintro e w3 ⟨v3,F3,rfl,hb3,ha3,-,hfs3⟩
 obtain ⟨A3,cap3,rfl,hc3,hc4⟩:=ha3.form
 have hB3:=hB1.trans (hb3.mono hB1.size)
 have HO3:=jj (HO1.out.below (fun x cs G hk h=>DtR_mono' _ _ x cs G hk h) hb3)
 have HNN:=jj (HN1.out.below (fun x cs G hk h=>zA7 _ _ x cs G hk h) hb3)
 have HA3:=jj ha3
 have HU3:=jj hfs3.under
 have HN3:Hid (∀ b∈F3,w.heap.size+2≤b):=fun b hb=>by have:=(hfs3 b hb).1;omega
 have hw3:w.heap.size+2≤w3.heap.size:=by have:=hb3.size;omega
 clear hb3 ha3 hfs3 HO1 HN1 hcut hB1 hsz1
 by_cases h0:text.size=0
 ·skip
  have q0:(text.toList==[])=true:=by
   rw [beq_iff_eq,zAA];exact List.eq_nil_of_length_eq_zero (by rw [zAR];exact h0)
  have HPS:Hid (parseS text=some []):=by unfold Hid parseS linesT;rw [if_pos h0];rfl
  have u1:(0:Int)<(lines.length:Int):=by omega
  clear h0
  go_wp2
  go_loopw [5,7] (fun nv iv wr=>nv=.slice (some ⟨w.heap.size+1,0,none⟩) 0 0∧iv=.int .i64 0∧Below w3 w3 wr) (fun _ _ _=>0)
  case atStart=>exact ⟨rfl,rfl,zy2 _ _⟩
  case round =>
   obtain ⟨rfl,rfl,hb4⟩:=hrel
   go_wp2
   obtain ⟨w4,hw4⟩:∃ w4,w4=wr:=⟨_,rfl⟩
   rw [←hw4] at hb4 ⊢
   clear hw4
   go_loopw [4,9] (fun ov iv wr=>ov=.slice (some ⟨w,0,none⟩) 0 0∧iv=.int .i64 0∧Below w3 w3 wr) (fun _ _ _=>0)
   case atStart=>exact ⟨rfl,rfl,hb4⟩
   case round =>
    clear hb4
    obtain ⟨rfl,rfl,hb5⟩:=hrel
    have hB5:=hB3.trans (hb5.mono hB3.size)
    obtain ⟨ee,hee⟩:∃ ee:List Dt,ee=[]:=⟨_,rfl⟩
    have HO:Hid (Own wr w.heap.size 64 2 DtR ee (.slice (some ⟨w,0,none⟩) 0 0) []):=by rw [hee];exact HO3.out.below (fun x cs G hk h=>DtR_mono' _ _ x cs G hk h) hb5
    rw [←hee] at HPS
    clear hee
    have HFr:Hid (Free wr ([]:List Nat)):=Free.nil _
    have HFh:Hid (∀ b∈([]:List Nat),w.heap.size≤b):=fun b hb=>by cases hb
    clear HO3
    have harr:=HO.out.arr
    have hfree:=HO.out.free HFr.out
    have hfresh:=Own.fresh (w0:=w) HO.out (zz8 _) HFh.out
    generalize (if ee=[] then [] else rowOf (.slice (some ⟨w,0,none⟩) 0 0) ++ ([]:List Nat))=FF at harr hfree hfresh
    have HARR:=jj harr
    have HFREE:=jj hfree
    have HFRESH:=jj hfresh
    clear harr hfree hfresh HO HFr HFh
    generalize hxx:ee=xx at *
    clear hxx
    go_wp2_with fail
    refine (spec_WorldValid xx wr _ FF HARR.out HFRESH.out.under).mono ?_
    rintro e w8 ⟨rfl,hb8⟩
    have hB8:=hB5.trans (hb8.mono hB5.size)
    cases e1:worldOk xx with
    |false =>
     have HNO:=jj (parseB_no HPS.out e1)
     clear e1
     have hfin:GivesWorld w (parseB text) (.returned (.tuple #[.slice (some ⟨w8,0,none⟩) 0 0,.bool false])) (w8.alloc (.cells #[] 64)):=by
      rw [HNO.out]
      exact ⟨_,[],rfl,hB8.alloc hB8.size _,⟨_,_,rfl,by simp,by simp [maxLen],.inl ⟨rfl,rfl⟩⟩,Free.nil _,Fresh.nil _ _⟩
     have HFin:=jj hfin
     clear hfin
     go_wp2
     go_ret2
     exact HFin.out
    |true =>
     have HW:=jj (worldOK e1)
     have HE1:=jj e1
     clear e1
     have HA8:=jj (ArrDt.below HARR.out hb8 HFRESH.out.under)
     have hF8:=jj (HFRESH.out.under.mono hb8.size)
     go_wp2_with fail
     refine (spec_l1Text xx HW.out w8 _ FF HA8.out hF8.out).mono ?_
     rintro e w9 ⟨rfl,hb9⟩
     have hB9:=hB8.trans (hb9.mono hB8.size)
     have hb89:=hb8.trans (hb9.mono hb8.size)
     generalize htt:bs (textT xx)=tt
     cases e2:(tt.toList==text.toList) with
     |true =>
      have HYES:Hid (parseB text=some xx):=parseB_yes HPS.out HE1.out (by rw [beq_iff_eq,zAA,zAA,←htt,tl_bs] at e2;exact e2)
      have hfin:GivesWorld w (parseB text) (.returned (.tuple #[.slice (some ⟨w,0,none⟩) 0 0,.bool true])) w9:=by
       rw [HYES.out]
       exact ⟨_,FF,rfl,hB9,ArrDt.below HARR.out hb89 HFRESH.out.under,HFREE.out.kept (.of_below hb89 HFRESH.out.under),fun b hb=>⟨(HFRESH.out b hb).1,zz9 (HFRESH.out b hb).2 hb89.size⟩⟩
      have HFin:=jj hfin
      clear hfin htt
      go_wp2
      go_ret2
      exact HFin.out
     |false =>
      have HNO:Hid (parseB text=none):=parseB_text HPS.out (fun h=>by rw [beq_eq_false_iff_ne,zAA,zAA,←htt,tl_bs] at e2;exact e2 h)
      clear htt
      have hfin:GivesWorld w (parseB text) (.returned (.tuple #[.slice (some ⟨w9,0,none⟩) 0 0,.bool false])) (w9.alloc (.cells #[] 64)):=by
       rw [HNO.out]
       exact ⟨_,[],rfl,hB9.alloc hB9.size _,⟨_,_,rfl,by simp,by simp [maxLen],.inl ⟨rfl,rfl⟩⟩,Free.nil _,Fresh.nil _ _⟩
      have HFin:=jj hfin
      clear hfin
      go_wp2
      go_ret2
      exact HFin.out
 ·skip
  have q0:(text.toList==[])=false:=by
   rw [beq_eq_false_iff_ne,zAA];intro e;have:=zAR text;rw [e] at this;simp at this;omega
  have HLT:Hid (linesT text=lines.take 5):=by unfold Hid linesT;rw [if_neg h0,HLN.out]
  have hl5:(lines.take 5).length≤5:=by rw [List.length_take];omega
  have HT0:Hid (splitS (linesT text)=splitAfter [] ((lines.take 5).drop 0)):=by unfold Hid;rw [HLT.out,splitAfter_nil];rfl
  clear h0
  go_wp2
  go_loopw [5,7] (fun nv iv wr=>∃ i:Nat,∃ ps:List (ByteArray×ByteArray),i≤lines.length∧i≤5∧ps.length=i∧iv=.int .i64 i∧Hid (splitS (linesT text)=splitAfter ps ((lines.take 5).drop i))∧Hid (Own wr (w.heap.size+1) 9 1 StrR (namesOf ps) nv [])∧Hid (∀ g∈rowOf nv,g=w.heap.size+1∨w3.heap.size≤g)∧Hid (Chg [w.heap.size+1] w3 wr)∧Below w w wr∧Hid (∀ p∈ps,p.1.size≤1000000∧p.2.size≤1000000)∧Hid (∀ j (hj:j<ps.length),∃ h2:j<lines.length,cutS 61 lines[j]=[ps[j].1,ps[j].2])) (fun _ iv _=>5-(intOf iv).toNat)
  case atStart=>exact ⟨0,[],Nat.zero_le _,by omega,rfl,rfl,HT0,HNN,(fun g hg=>by rw [zA3,zy1] at hg;exact .inl hg),Chg.refl _ _,hB3,(fun p hp=>by cases hp),(fun j hj=>by simp at hj)⟩
  case round =>
   clear HNN HT0
   obtain ⟨i,ps,hil,hi5,hpl,rfl,HT,HN,HNR,HC,hB,HSZ,HPP⟩:=hrel
   by_cases hl1:i<lines.length∧i≤4
   ·obtain ⟨hl1,hl2⟩:=hl1
    have u1:decide ((i:Int)<(lines.length:Int))=true:=decide_eq_true (by omega)
    have u2:decide ((i:Int)≤4)=true:=decide_eq_true (by omega)
    have g1:(0:Int)≤(i:Int):=by omega
    have g2:(i:Int)<(lines.length:Int):=by omega
    obtain ⟨b3,off3,rfl⟩:=HA3.out.ptr (by omega)
    have HAr:Hid (Arr wr (StrR wr) lines (.slice (some ⟨b3,off3,none⟩) lines.length cap3) F3):=ArrStr.mono HA3.out (HC.out.kept HU3.out (fun b hb=>by have:=HN3.out b hb;simp;omega))
    obtain ⟨hbl,c0⟩:=ArrStr.at HAr.out (fun b hb=>zz9 (HU3.out b hb) HC.out.size) (zy2 _ _) i hl1
    have hlsz:lines[i].size≤1000000:=Nat.le_trans (HLM.out _ (List.getElem_mem hl1)) hs
    have htk:i<(lines.take 5).length:=by rw [List.length_take];omega
    have hge:(lines.take 5)[i]=lines[i]:=List.getElem_take
    have hcall:Calls Tryz.prog 36 #[.string lines[i],.int .u8 61] wr (MadeStrs wr (cutS 61 lines[i])):=zAM lines[i] 61 hlsz wr
    have hpm:=cutS_mem 61 lines[i]
    by_cases h2:(cutS 61 lines[i]).length=2
    ·obtain ⟨a,b,hab⟩:=two_of h2
     have HT2:Hid (splitS (linesT text)=splitAfter (ps ++ [(a,b)]) ((lines.take 5).drop (i+1))):=by
      unfold Hid
      rw [HT.out]
      exact splitAfter_good htk (by rw [hge];exact hab)
     rw [hab] at hcall hpm
     have hsa:a.size≤1000000:=Nat.le_trans (hpm a (by simp)) hlsz
     have hsb:b.size≤1000000:=Nat.le_trans (hpm b (by simp)) hlsz
     have HSZ2:Hid (∀ p∈ps ++ [(a,b)],p.1.size≤1000000∧p.2.size≤1000000):=fun p hp=>by
      rcases List.mem_append.1 hp with h | h
      ·exact HSZ.out p h
      ·rw [zy1] at h;subst h;exact ⟨hsa,hsb⟩
     have HPP2:Hid (∀ j (hj:j<(ps ++ [(a,b)]).length),∃ h2:j<lines.length,cutS 61 lines[j]=[(ps ++ [(a,b)])[j].1,(ps ++ [(a,b)])[j].2]):=fun j hj=>by
      rw [List.length_append,List.length_singleton] at hj
      rcases Nat.lt_or_ge j ps.length with h | h
      ·obtain ⟨e1,e2⟩:=HPP.out j h
       exact ⟨e1,by rw [List.getElem_append_left h];exact e2⟩
      ·obtain rfl:j=i:=by omega
       refine ⟨hl1,?_⟩
       rw [List.getElem_append_right h]
       simp only [hpl,Nat.sub_self,zz2]
       exact hab
     have hns:=namesOf_snoc ps (a,b)
     have HNS:=jj hns
     have hnl:=namesOf_len ps
     have HCALL:=jj hcall
     clear hcall hpm h2 hab hns HSZ HPP HT htk hge
     go_wp2_with fail
     refine HCALL.out.mono ?_
     rintro e w4 ⟨v4,F4,rfl,hb4,ha4,-,hfs4⟩
     obtain ⟨A4,cap4,rfl,hc7,hc8⟩:=ha4.form
     obtain ⟨b4,off4,rfl⟩:=ha4.ptr (by simp)
     obtain ⟨hb4l,p0⟩:=ArrStr.at ha4 hfs4.under (zy2 _ _) 0 (by simp)
     have p0:w4.cell? ⟨b4,off4,none⟩=some (.string a):=p0
     have hB4:=hB.trans (hb4.mono hB.size)
     have HO1:Hid (Own w4 (w.heap.size+1) 9 1 StrR (namesOf ps) u5 []):=HN.out.below (fun x cs G hk h=>zA7 _ _ x cs G hk h) hb4
     have hwz:w3.heap.size≤w4.heap.size:=Nat.le_trans HC.out.size hb4.size
     have hC4:=jj (HC.out.step hb4)
     clear HCALL c0 hbl ha4 hfs4
     go_wp2_with (at_builtin;refine Halt.mk ?_)
     refine Halt.of (zA5 (P:=Tryz.prog) rfl _ _ 60 rfl j0 _ 16 Tryz.underlying60 HJ.out HJ0.out HJ1.out HJ2.out rfl Nat.zero_lt_one zAH zA7 (by rfl) HO1.out a 9 [.string a] [] _ (by rfl) (by simp) (by simp [Value.oneCell']) ⟨rfl,rfl⟩ (Under.nil _) (fun _ _ h=>by cases h) (by unfold maxLen;omega) (by omega) (by omega) ?_)
     intro g cp w5 hown5 hgr5 hat5
     have hrow:=HO1.out.row
     have hb45:Below w4 w4 (w4.alloc (.cells #[.string a] 9)):=(zy2 _ _).alloc (zz8 _) _
     have hC5:Hid (Chg [w.heap.size+1] w3 w5):=by
      have h1:=hC4.out.step hb45
      refine ⟨hgr5.os.trans h1.os,hgr5.tape.trans h1.tape,hgr5.output.trans h1.output,Nat.le_trans h1.size hgr5.size,fun x hx hn=>(hgr5.block x (zz9 hx h1.size) (fun e=>?_)).trans (h1.block x hx hn)⟩
      rcases HNR.out x (zA1.2 e.symm) with h | h
      ·exact hn (by simp [h])
      ·omega
     have hB5:Below w w w5:=(hB4.alloc hB4.size _).grown hgr5 (by have:=hB4.size;simp;omega) (fun g hg=>by have:=(hrow g (zA1.2 hg)).1;omega)
     have HN5:Hid (∀ g'∈rowOf (.slice (some ⟨g,0,none⟩) ((namesOf ps).length+1) cp),g'=w.heap.size+1∨w3.heap.size≤g'):=fun g' hg'=>by
      rw [zA3,zy1] at hg'
      subst hg'
      rcases hat5 with h | h
      ·exact HNR.out _ (zA1.2 h)
      ·right;omega
     have HO5:=jj hown5
     clear hown5 hgr5 hat5 hrow hb45 p0 hb4l hC4 HO1 hb4
     go_wp2
     go_roundw
     case rel=>exact ⟨i+1,ps ++ [(a,b)],by omega,by omega,by simp [hpl],by go_num,HT2,(by rw [HNS.out];have h:=HO5.out;rw [hnl,hpl] at h;exact h),(by have h:=HN5.out;rw [hnl,hpl] at h;exact h),hC5,hB5,HSZ2,HPP2⟩
     case measure=>(simp [intOf] <;> omega)
    ·have HBAD:Hid (parseB text=none):=by
      refine parseB_bad ?_
      unfold parseS
      rw [HT.out,splitAfter_bad htk (by rw [hge];exact h2)]
     have hne2:(((cutS 61 lines[i]).length:Int) != 2)=true:=by rw [bne_iff_ne];omega
     have HCALL:=jj hcall
     obtain ⟨parts,hparts⟩:∃ l,cutS 61 lines[i]=l:=⟨_,rfl⟩
     rw [hparts] at HCALL hne2
     clear hcall hpm h2 hparts htk hge
     go_wp2_with fail
     refine HCALL.out.mono ?_
     rintro e w4 ⟨v4,F4,rfl,hb4,ha4,-,hfs4⟩
     obtain ⟨A4,cap4,rfl,hc7,hc8⟩:=ha4.form
     have hB4:=hB.trans (hb4.mono hB.size)
     clear ha4 hfs4 HCALL c0 hbl
     have hfin:GivesWorld w (parseB text) (.returned (.tuple #[.slice (some ⟨w4,0,none⟩) 0 0,.bool false])) (w4.alloc (.cells #[] 64)):=by
      rw [HBAD.out]
      exact ⟨_,[],rfl,hB4.alloc hB4.size _,⟨_,_,rfl,by simp,by simp [maxLen],.inl ⟨rfl,rfl⟩⟩,Free.nil _,Fresh.nil _ _⟩
     have HFin:=jj hfin
     clear hfin
     go_wp2
     go_ret2
     exact HFin.out
   ·by_cases hll:i<lines.length
    have u1:decide ((i:Int)<(lines.length:Int))=true:=decide_eq_true (by omega)
    have u2:decide ((i:Int)≤4)=false:=decide_eq_false (by omega)
    have hdone:(lines.take 5).length≤i:=by omega
    rotate_left
    have u1:decide ((i:Int)<(lines.length:Int))=false:=decide_eq_false (by omega)
    have hdone:(lines.take 5).length≤i:=by rw [List.length_take];omega
    rotate_left
    all_goals (
     have HPS0:Hid (parseS text=some (buildS ps)):=by
      have h:=HT.out
      rw [splitAfter_end (by omega)] at h
      unfold Hid parseS
      rw [h]
     obtain ⟨nA,ncap,hnv,hnc1,hnc2⟩:=HN.out.form
     subst hnv
     have hna:=HN.out.arr
     have HNROW:=jj HN.out.row
     have hfn:∀ b∈(if namesOf ps=[] then [] else rowOf (.slice nA (namesOf ps).length ncap) ++ []),w.heap.size+1≤b∧b<wr.heap.size:=fun b hb=>by
      split at hb
      ·cases hb
      ·rw [List.append_nil] at hb
       exact HNROW.out b hb
     generalize (if namesOf ps=[] then [] else rowOf (.slice nA (namesOf ps).length ncap) ++ [])=Fn at hna hfn
     have HNA:=jj hna
     have HFN:=jj hfn
     clear hna hfn HNROW HN
     have HLA:Hid (Arr wr (StrR wr) lines (.slice A3 lines.length cap3) F3):=ArrStr.mono HA3.out (HC.out.kept HU3.out (fun b hb=>by have:=HN3.out b hb;simp;omega))
     have HLU:Hid (∀ b∈F3,w.heap.size+1≤b∧b<wr.heap.size):=fun b hb=>⟨by have:=HN3.out b hb;omega,zz9 (HU3.out b hb) HC.out.size⟩
     have HO6:Hid (Own wr w.heap.size 64 2 DtR (dtsTo ps 0) (.slice (some ⟨w,0,none⟩) 0 0) []):=Own.mono (w:=w3) (fun x cs G hk h=>DtR_mono' _ _ x cs G hk h) HO3.out (HC.out.kept (fun b hb=>by rw [zA3,List.append_nil,zy1] at hb;omega) (fun b hb=>by rw [zA3,List.append_nil,zy1] at hb;simp;omega)) HC.out.size
     have hnl:=namesOf_len ps
     go_wp2
     obtain ⟨w6,hw6⟩:∃ w6,w6=wr:=⟨_,rfl⟩
     rw [←hw6] at HNA HFN HLA HLU HO6 hB ⊢
     have hw63:w3.heap.size≤w6.heap.size:=by rw [hw6];exact HC.out.size
     clear hw6 HC HA3 HU3 HO3 hl1
     obtain ⟨names,hnm⟩:∃ l,namesOf ps=l:=⟨_,rfl⟩
     rw [hnm] at HNA hnl ⊢
     have HNM:=jj hnm
     have HNL:=jj hnl
     have HPL:=jj hpl
     have hps5:ps.length≤5:=by omega
     clear hnm hnl hpl
     go_loopw [4,9] (fun ov iv wr=>∃ i:Nat,∃ Fo:List Nat,i≤ps.length∧iv=.int .i64 i∧Hid (Own wr w.heap.size 64 2 DtR (dtsTo ps i) ov Fo)∧Hid (Free wr Fo)∧Hid (∀ b∈Fo,w6.heap.size≤b)∧Hid (∀ g∈rowOf ov,g=w.heap.size∨w6.heap.size≤g)∧Hid (Chg [w.heap.size] w6 wr)∧Below w w wr∧w6.heap.size≤wr.heap.size) (fun _ iv _=>ps.length-(intOf iv).toNat)
     case atStart=>exact ⟨0,[],Nat.zero_le _,rfl,HO6,Free.nil _,(fun b hb=>by cases hb),(fun g hg=>by rw [zA3,zy1] at hg;exact .inl hg),Chg.refl _ _,hB,zz8 _⟩
     case round =>
      clear hB HO6
      obtain ⟨i,Fo,hi,rfl,HO,HFr,HFh,HR,HC,hB,hw6r⟩:=hrel
      by_cases hil:i<ps.length
      ·have hnl:=HNL.out
       have u3:decide ((i:Int)<(names.length:Int))=true:=decide_eq_true (by omega)
       have g1:(0:Int)≤(i:Int):=by omega
       have g2:(i:Int)<(names.length:Int):=by omega
       clear hnl
       obtain ⟨hil2,hcut⟩:=HPP.out i hil
       have g3:(i:Int)<(lines.length:Int):=by omega
       have HLr:Hid (Arr wr (StrR wr) lines (.slice A3 lines.length cap3) F3):=ArrStr.mono HLA.out (HC.out.kept (fun b hb=>(HLU.out b hb).2) (fun b hb=>by have:=(HLU.out b hb).1;simp;omega))
       have HNr:Hid (Arr wr (StrR wr) names (.slice nA names.length ncap) Fn):=ArrStr.mono HNA.out (HC.out.kept (fun b hb=>(HFN.out b hb).2) (fun b hb=>by have:=(HFN.out b hb).1;simp;omega))
       have hFnr:Hid (Under wr Fn):=fun b hb=>zz9 (HFN.out b hb).2 hw6r
       obtain ⟨bL,offL,rfl⟩:=HLr.out.ptr (by omega)
       obtain ⟨hbL,cL⟩:=ArrStr.at HLr.out (fun b hb=>zz9 (HLU.out b hb).2 hw6r) (zy2 _ _) i hil2
       have hlsz:lines[i].size≤1000000:=Nat.le_trans (HLM.out _ (List.getElem_mem hil2)) hs
       have hcall:Calls Tryz.prog 36 #[.string lines[i],.int .u8 61] wr (MadeStrs wr (cutS 61 lines[i])):=zAM lines[i] 61 hlsz wr
       rw [hcut] at hcall
       have HCALL:=jj hcall
       clear hcall hcut
       go_wp2_with fail
       refine HCALL.out.mono ?_
       rintro e w7 ⟨v7,F7,rfl,hb7,ha7,-,hfs7⟩
       obtain ⟨A7,cap7,rfl,hc7,hc8⟩:=ha7.form
       obtain ⟨b7,off7,rfl⟩:=ha7.ptr (by simp)
       obtain ⟨hb7l,p71⟩:=ArrStr.at ha7 hfs7.under (zy2 _ _) 1 (by simp)
       have p71:w7.cell? ⟨b7,off7+1,none⟩=some (.string ps[i].2):=p71
       have hB7:=hB.trans (hb7.mono hB.size)
       have hpsz:=(HSZ.out ps[i] (List.getElem_mem hil))
       have hcall2:Calls Tryz.prog 36 #[.string ps[i].2,.int .u8 124] w7 (MadeStrs w7 (cutS 124 ps[i].2)):=zAM ps[i].2 124 hpsz.2 w7
       have HCALL2:=jj hcall2
       clear hcall2 HCALL cL hbL ha7 hfs7
       go_wp2_with fail
       refine HCALL2.out.mono ?_
       rintro e w8 ⟨v8,F8,rfl,hb8,ha8,-,hfs8⟩
       obtain ⟨A8,cap8,rfl,hc9,hc10⟩:=ha8.form
       have hB8:=hB7.trans (hb8.mono hB7.size)
       have hr8:Below wr wr w8:=hb7.trans (hb8.mono hb7.size)
       have hcm:=cutS_mem 124 ps[i].2
       obtain ⟨cl,hcl⟩:∃ l,cutS 124 ps[i].2=l:=⟨_,rfl⟩
       rw [hcl] at ha8 hcm
       have HCL:=jj hcl
       have HA8:=jj ha8
       have HU8:=jj hfs8.under
       have HCM:=jj hcm
       clear hcm
       rw [hcl] at hc9 ⊢
       clear hcl ha8 hfs8 p71 hb7l HCALL2
       have HN8:Hid (Arr w8 (StrR w8) names (.slice nA names.length ncap) Fn):=ArrStr.below HNr.out hr8 hFnr.out
       have hFn8:Hid (Under w8 Fn):=hFnr.out.mono hr8.size
       obtain ⟨bN,offN,hnA⟩:=HN8.out.ptr (by have:=HNL.out;omega)
       subst hnA
       obtain ⟨hbN,cN⟩:=ArrStr.at HN8.out hFn8.out (zy2 _ _) i (by have:=HNL.out;omega)
       have hnmi:names[i]'(by have:=HNL.out;omega)=ps[i].1:=by have h:=HNM.out;subst h;exact namesOf_get ps i hil
       rw [hnmi] at cN
       have hw9:Below w8 w8 (w8.alloc (.cells #[.string ps[i].1,.slice none 0 0] 64)):=(zy2 _ _).alloc (zz8 _) _
       have HO8:Hid (Own w8 w.heap.size 64 2 DtR (dtsTo ps i) u4 Fo):=HO.out.below (fun x cs G hk h=>DtR_mono' _ _ x cs G hk h) hr8
       have HFr8:Hid (Free w8 Fo):=HFr.out.kept (.of_below hr8 HO.out.under)
       have HC8:Hid (Chg [w.heap.size] w6 w8):=HC.out.step hr8
       have hw68:w6.heap.size≤w8.heap.size:=Nat.le_trans hw6r hr8.size
       have HO9:Hid (Own (w8.alloc (.cells #[.string ps[i].1,.slice none 0 0] 64)) w.heap.size 64 2 DtR (dtsTo ps i) u4 Fo):=HO8.out.below (fun x cs G hk h=>DtR_mono' _ _ x cs G hk h) hw9
       have HFr9:Hid (Free (w8.alloc (.cells #[.string ps[i].1,.slice none 0 0] 64)) Fo):=HFr8.out.kept (.of_below hw9 HO8.out.under)
       have HC9:Hid (Chg [w.heap.size] w6 (w8.alloc (.cells #[.string ps[i].1,.slice none 0 0] 64))):=HC8.out.step hw9
       have KD9:Hid (Blk (w8.alloc (.cells #[.string ps[i].1,.slice none 0 0] 64)) w8.heap.size 64 #[.string ps[i].1,.slice none 0 0]):=Blk.new _ _ _
       have HN9:Hid (Arr (w8.alloc (.cells #[.string ps[i].1,.slice none 0 0] 64)) (StrR _) names (.slice (some ⟨bN,offN,none⟩) names.length ncap) Fn):=ArrStr.below HN8.out hw9 hFn8.out
       have HA9:Hid (Arr (w8.alloc (.cells #[.string ps[i].1,.slice none 0 0] 64)) (StrR _) cl (.slice A8 cl.length cap8) F8):=ArrStr.below HA8.out hw9 HU8.out
       have hB9:=hB8.trans (hw9.mono hB8.size)
       have hD:w.heap.size<w8.heap.size:=zz9 (by omega) hw68
       have hw9s:(w8.alloc (.cells #[.string ps[i].1,.slice none 0 0] 64)).heap.size=w8.heap.size+1:=World.size_alloc _ _
       go_wp2
       obtain ⟨w9,hw9e⟩:∃ w9,w9=w8.alloc (.cells #[.string ps[i].1,.slice none 0 0] 64):=⟨_,rfl⟩
       rw [←hw9e] at HO9 HFr9 HC9 KD9 HN9 HA9 hB9 hw9s ⊢
       have HB8:Hid (∀ b∈rowOf u4 ++ Fo,b<w8.heap.size):=fun b hb=>by
        rcases List.mem_append.1 hb with h | h
        ·exact (HO8.out.row b h).2
        ·exact HO8.out.under b h
       clear hw9 hw9e HO8 HFr8 HC8 HN8 HA8 HLr HNr HO HFr HC hB hB7 hB8 hb7 hb8 hr8 cN hbN
       have hpz:=hpsz.1
       have hpz2:=hpsz.2
       clear hpsz
       go_loopw [12] (fun kv' wr=>∃ k:Nat,∃ kv:Value,∃ Fk:List Nat,k≤cl.length∧k≤5∧kv'=.int .i64 k∧Hid (Blk wr w8 64 #[.string ps[i].1,kv])∧Hid (Own wr (w8.heap.size+1) 67 3 KtR (ktsTo names cl k) kv Fk)∧Hid (Free wr Fk)∧Hid (∀ b∈Fk,w8.heap.size+1≤b)∧Hid (Chg [w8.heap.size] w9 wr)∧Below w w wr∧w9.heap.size≤wr.heap.size) (fun kv' _=>5-(intOf kv').toNat)
       case atStart=>exact ⟨0,_,[],Nat.zero_le _,by omega,rfl,KD9,(show Own _ _ _ _ _ (ktsTo names cl 0) _ _ from Own.nil _ _ _ _ _),Free.nil _,(fun b hb=>by cases hb),Chg.refl _ _,hB9,zz8 _⟩
       case round =>
        clear hB9 KD9
        obtain ⟨k,kv,Fk,hkl,hk5,rfl,KD,HOk,HFk,HFkh,HCk,hB,hw9r⟩:=hrel
        obtain ⟨kA,kcap,hkv,hkc1,hkc2⟩:=HOk.out.form
        subst hkv
        have z0:wr.cell? ⟨w8,0,none⟩=some (.string ps[i].1):=(KD.out.cell 0).trans (by simp)
        have z1:wr.cell? ⟨w8,1,none⟩=some (.slice kA (ktsTo names cl k).length kcap):=(KD.out.cell 1).trans (by simp)
        have zf1:=KD.out.frozen 1
        have hkz:=KD.out.lt
        by_cases hlt:k<cl.length∧k≤4
        ·obtain ⟨hk1,hk2⟩:=hlt
         have u5:decide ((k:Int)<(cl.length:Int))=true:=decide_eq_true (by omega)
         have u6:decide ((k:Int)≤4)=true:=decide_eq_true (by omega)
         have g5:(0:Int)≤(k:Int):=by omega
         have g6:(k:Int)<(cl.length:Int):=by omega
         obtain ⟨b5,off5,rfl⟩:=HA9.out.ptr (by omega)
         have hu9:Hid (∀ b∈F8,b<w8.heap.size):=HU8.out
         have HAr:Hid (Arr wr (StrR wr) cl (.slice (some ⟨b5,off5,none⟩) cl.length cap8) F8):=ArrStr.mono HA9.out (HCk.out.kept (fun b hb=>by have:=hu9.out b hb;omega) (fun b hb=>by have:=hu9.out b hb;simp;omega))
         have HNr:Hid (Arr wr (StrR wr) names (.slice (some ⟨bN,offN,none⟩) names.length ncap) Fn):=ArrStr.mono HN9.out (HCk.out.kept (fun b hb=>by have:=hFn8.out b hb;omega) (fun b hb=>by have:=hFn8.out b hb;simp;omega))
         obtain ⟨hb5l,c0⟩:=ArrStr.at HAr.out (fun b hb=>by have:=hu9.out b hb;omega) (zy2 _ _) k hk1
         have hb5w:b5<w8.heap.size:=by
          obtain ⟨b',off',cs',G',e',hb',-⟩:=HAr.out.get (zAH wr) hk1
          cases e'
          exact hu9.out _ hb'
         have hb5n:w8.heap.size≠b5:=by omega
         have hm5:cl[k].size≤1000000:=Nat.le_trans (HCM.out _ (List.getElem_mem hk1)) hpz2
         have HF2:=jj (ktsTo_succ names cl k hk1)
         have hkl4:(ktsTo names cl k).length≤4:=Nat.le_trans (ktsTo_len names cl k) hk2
         have hmx:(ktsTo names cl k).length+1≤maxLen:=by unfold maxLen;omega
         have hby:((ktsTo names cl k).length+1)*48≤140737488355328:=by omega
         have hwr8:w8.heap.size+1≤wr.heap.size:=by omega
         have hb5w1:b5<w8.heap.size+1:=by omega
         have hHD8:w.heap.size≤w8.heap.size:=by omega
         have HCALL:=jj (spec_l1ParseCtor names cl[k] wr.drew _ Fn (ArrStr.mono (w:=wr) HNr.out (fun _ _=>rfl)) (fun b hb=>by have:=hFn8.out b hb;show b<wr.heap.size;omega) hm5)
         go_wp2_with fail
         generalize hpk:pkt names cl[k]=c at HCALL HF2
         clear hpk
         refine zA4 (S:=fun w'=>w'.cell? ⟨b5,off5+k,none⟩=some (.string cl[k])) (T:=fun w'=>w'.cell? ⟨w8,1,none⟩=some (.slice kA (ktsTo names cl k).length kcap)) (d:=9) (by kernel_rfl) ?_
         have hS1:wr.drew.cell? ⟨b5,off5+k,none⟩=some (.string cl[k]):=c0
         have hT1:wr.drew.cell? ⟨w8,1,none⟩=some (.slice kA (ktsTo names cl k).length kcap):=z1
         refine wV 0 rfl hS1 hT1 ?_
         (try simp only [Act.put,zz4,zz5,zz6])
         refine zAP (i:=1) (v:=?_) rfl (by decide) rfl (by kernel_rfl) (by kernel_rfl) (by kernel_rfl) (by kernel_rfl) (fun _ _ _ h=>h) (Or.inl ⟨by rfl,?hy1⟩) (by rfl) hS1 hT1 ?_
         case hy1=>(intro W hSw;(try dsimp only at hSw);go_simp;try with_reducible rfl)
         (try simp only [Act.put,zz4,zz5,zz6])
         refine wV 2 rfl hS1 hT1 ?_
         (try simp only [Act.put,zz4,zz5,zz6])
         refine wV 3 rfl hS1 hT1 ?_
         (try simp only [Act.put,zz4,zz5,zz6])
         refine wV 4 rfl hS1 hT1 ?_
         (try simp only [Act.put,zz4,zz5,zz6])
         refine wV 5 rfl hS1 hT1 ?_
         (try simp only [Act.put,zz4,zz5,zz6])
         refine wV 6 rfl hS1 hT1 ?_
         (try simp only [Act.put,zz4,zz5,zz6])
         refine w1 7 rfl fun K hK=>?_
         go_simp
         go_at_call 37
         with_reducible refine HCALL.out.mono ?_
         rintro e wA ⟨cs,G,rfl,hBA,hkA',hfrA,hfsA⟩
         obtain ⟨cA,ccap,rfl⟩:=KtR_form hkA'
         have hBu:=zAX hBA
         have hS6:wA.cell? ⟨b5,off5+k,none⟩=some (.string cl[k]):=(hBu.cell hb5l).trans c0
         have z61:wA.cell? ⟨w8,1,none⟩=some (.slice kA (ktsTo names cl k).length kcap):=(hBu.cell hkz).trans z1
         have zf61:wA.frozen? ⟨w8,1,none⟩=false:=(hBu.frozen hkz).trans zf1
         have hkz6:w8.heap.size<wA.heap.size:=zz9 hkz hBu.size
         have HOA:Hid (Own wA (w8.heap.size+1) 67 3 KtR (ktsTo names cl k) (.slice kA (ktsTo names cl k).length kcap) Fk):=HOk.out.below (fun x cs G hk h=>KtR_mono' _ _ x cs G hk h) hBu
         have HKA:=jj hkA'
         have HfrA:=jj hfrA
         have HfsA:Hid (∀ b∈G,wr.heap.size≤b∧b<wA.heap.size):=hfsA
         clear hkA' hfrA hfsA
         dsimp only
         refine hK.out _ _ hS6 (fun _=>z61) ?_
         clear hK K
         (try simp only [Act.put,zz4,zz5,zz6])
         refine w1 8 rfl fun K hK=>?_
         go_simp
         refine hK.out _ _ ((World.cell?_alloc_lt _ _ _ (zz9 hb5l hBu.size)).trans hS6) (fun _=>(World.cell?_alloc_lt _ _ _ hkz6).trans z61) ?_
         clear hK K
         (try simp only [Act.put,zz4,zz5,zz6])
         refine w1 9 rfl fun K hK=>?_
         refine zAB (P:=Tryz.prog) rfl _ _ 62 rfl i0 _ 48 Tryz.underlying62 HI.out HZ0.out HZ1.out HZ2.out rfl (by decide) KtR_len' KtR_mono' (by rfl) HOA.out c 67 [.string c.name,.slice cA c.args.length ccap,c.idx] G _ (by rfl) rfl (by simp [Value.oneCell']) HKA.out (fun b hb=>(HfsA.out b hb).2) (fun g hg hG=>Nat.lt_irrefl _ (zz9 (HOk.out.row g hg).2 (HfsA.out g hG).1)) hmx hby (Nat.le_trans hwr8 hBu.size) ?_
         intro g cp w7 hown7 hgr7 hat7
         have s7:w7.cell? ⟨b5,off5+k,none⟩=some (.string cl[k]):=(World.cell?_of_block (a:=⟨b5,off5+k,none⟩) (grow_old HOk.out hBu hgr7 hb5w1 hb5l)).trans c0
         have z71:w7.cell? ⟨w8,1,none⟩=some (.slice kA (ktsTo names cl k).length kcap):=(World.cell?_of_block (a:=⟨w8,1,none⟩) (grow_old HOk.out hBu hgr7 (Nat.lt_succ_self _) hkz)).trans z1
         have zf71:w7.frozen? ⟨w8,1,none⟩=false:=(World.frozen?_of_block (a:=⟨w8,1,none⟩) (grow_old HOk.out hBu hgr7 (Nat.lt_succ_self _) hkz)).trans zf1
         refine hK.out _ _ s7 (fun _=>z71) ?_
         clear hK K
         (try simp only [Act.put,zz4,zz5,zz6])
         refine wV 10 rfl s7 z71 ?_
         (try simp only [Act.put,zz4,zz5,zz6])
         refine w1 11 rfl fun K hK=>?_
         go_simp
         refine hK.out _ _ ((World.cell?_setCell_far _ _ _ _ hb5n).trans s7) (fun h=>by cases h) ?_
         clear hK K
         (try simp only [Act.put,zz4,zz5,zz6])
         refine wE (by kernel_rfl) ?_
         all_goals (
          obtain ⟨r1,r2,r3,r4,r5,r6,r7⟩:=grow_round KtR_mono' hw9s KD.out HOk.out HFk.out HFkh.out HCk.out hB hHD8 (zz8 _) hBu HfrA.out HfsA.out hown7 hgr7
          have R1:=jj r1
          have R2:=jj r2
          have R3:=jj r3
          have R4:=jj r4
          have R5:=jj r5
          have R6:=jj r6
          clear r1 r2 r3 r4 r5 r6 hown7 hgr7 hat7 hS1 hT1 hS6 s7 z61 zf61 z0 z1 zf1 z71 zf71 HOA HKA HfrA HfsA hBu hBA hkz6
          go_wp2
          go_roundw
          case rel=>exact ⟨k+1,_,Fk ++ G,hk1,Nat.succ_le_succ hk2,by go_num,R1,by rw [HF2.out];exact R2.out,R3,R4,R5,R6.out,r7⟩
          case measure=>(simp [intOf] <;> omega))
        ·have hpd:Hid (pdt (namesOf ps) ps[i]=⟨ps[i].1,ktsTo names cl k⟩):=by
          unfold Hid pdt
          rw [HNM.out,HCL.out,ktsTo_all names cl hk5 (by omega)]
         have HF2:=jj (dtsTo_succ ps i hil)
         have hdl:(dtsTo ps i).length≤5:=Nat.le_trans (dtsTo_len ps i) (by omega)
         have hOr:Hid (Own wr w.heap.size 64 2 DtR (dtsTo ps i) u4 Fo):=Own.mono (w:=w9) (fun x cs G hk h=>DtR_mono' _ _ x cs G hk h) HO9.out (HCk.out.kept (fun b hb=>by have:=HB8.out b hb;omega) (fun b hb=>by have:=HB8.out b hb;simp;omega)) HCk.out.size
         have hFrr:Hid (Free wr Fo):=HFr9.out.kept (HCk.out.kept (fun b hb=>by have:=HB8.out b (List.mem_append.2 (.inr hb));omega) (fun b hb=>by have:=HB8.out b (List.mem_append.2 (.inr hb));simp;omega))
         have hCr:Hid (Chg [w.heap.size] w6 wr):=HC9.out.trans_new HCk.out hw68
         have harr:=HOk.out.arr
         have hfree:=HOk.out.free HFk.out
         have hrk:=HOk.out.row
         have hff:∀ b∈(if ktsTo names cl k=[] then [] else rowOf (.slice kA (ktsTo names cl k).length kcap) ++ Fk),w8.heap.size+1≤b∧b<wr.heap.size:=fun b hb=>by
          split at hb
          ·cases hb
          ·rcases List.mem_append.1 hb with h | h
           ·exact hrk b h
           ·exact ⟨HFkh.out b h,HOk.out.under b h⟩
         generalize (if ktsTo names cl k=[] then [] else rowOf (.slice kA (ktsTo names cl k).length kcap) ++ Fk)=FF at harr hfree hff
         have HFF:=jj hff
         have HFREE:=jj hfree
         have HDX:Hid (DtR wr ⟨ps[i].1,ktsTo names cl k⟩ [.string ps[i].1,.slice kA (ktsTo names cl k).length kcap] FF):=⟨_,rfl,harr,(show ps[i].1.size≤9223372036854775807 by omega)⟩
         clear harr hfree hrk hff HOk HFk HFkh HO9 HFr9 HC9 HN9 HA9 HU8
         have hbs:w.heap.size≤wr.heap.size:=hB.size
         by_cases hk5':k<cl.length
         have u5:decide ((k:Int)<(cl.length:Int))=true:=decide_eq_true (by omega)
         have u6:decide ((k:Int)≤4)=false:=decide_eq_false (by omega)
         rotate_left
         have u5:decide ((k:Int)<(cl.length:Int))=false:=decide_eq_false (by omega)
         rotate_left
         all_goals (
          clear hlt
          go_wp2_with (at_builtin;refine Halt.mk ?_)
          refine Halt.of (zA5 (P:=Tryz.prog) rfl _ _ 23 rfl m0 _ 40 Tryz.underlying23 HM.out HM0.out HM1.out HM2.out rfl (by decide) DtR_len' DtR_mono' (by rfl) hOr.out ⟨ps[i].1,ktsTo names cl k⟩ 64 [.string ps[i].1,.slice kA (ktsTo names cl k).length kcap] FF _ (by rfl) (by simp) (by simp [Value.oneCell']) HDX.out (fun b hb=>(HFF.out b hb).2) (fun g hg hG=>by have h1:=HB8.out g (List.mem_append.2 (.inl hg));have h2:=(HFF.out g hG).1;omega) (by unfold maxLen;omega) (by omega) hbs ?_)
          intro g cp w7 hown7 hgr7 hat7
          obtain ⟨r1,r2,r3,r4,r5,r6⟩:=push_round (n:=(dtsTo ps i).length+1) (cp:=cp) hOr.out hFrr.out HFREE.out HB8.out HFF.out HR.out hCr.out hB (zz8 _) HFh.out hw68 hgr7 hat7
          have HFr7:=jj r1
          have HFh7:=jj r2
          have HR7:=jj r3
          have HC7:=jj r4
          have HB7:=jj r5
          clear r1 r2 r3 r4 r5
          have HO7:=jj hown7
          have HEQ:Hid (dtsTo ps (i+1)=dtsTo ps i ++ [⟨ps[i].1,ktsTo names cl k⟩]):=by unfold Hid;rw [HF2.out,hpd.out]
          clear hown7 hgr7 hat7
          go_wp2
          go_roundw
          case rel=>exact ⟨i+1,Fo ++ FF,by omega,by go_num,by rw [HEQ.out];exact HO7.out,HFr7,HFh7,HR7,HC7,HB7.out,r6⟩
          case measure=>(simp [intOf] <;> omega))
      ·have HPS:Hid (parseS text=some (dtsTo ps i)):=by unfold Hid;rw [HPS0.out,dtsTo_all ps (by omega)]
       have u3:decide ((i:Int)<(names.length:Int))=false:=decide_eq_false (by have:=HNL.out;omega)
       have HFh2:Hid (∀ b∈Fo,w.heap.size≤b):=fun b hb=>by have:=HFh.out b hb;omega
       clear HFh
       have HFh:=HFh2
       have hil3:¬i<names.length:=by have:=HNL.out;omega
       clear HFh2 hil
       have harr:=HO.out.arr
       have hfree:=HO.out.free HFr.out
       have hfresh:=Own.fresh (w0:=w) HO.out (zz8 _) HFh.out
       generalize (if (dtsTo ps i)=[] then [] else rowOf (u4) ++ Fo)=FF at harr hfree hfresh
       have HARR:=jj harr
       have HFREE:=jj hfree
       have HFRESH:=jj hfresh
       clear harr hfree hfresh HO HFr HFh
       generalize hxx:(dtsTo ps i)=xx at *
       clear hxx
       go_wp2_with fail
       refine (spec_WorldValid xx wr _ FF HARR.out HFRESH.out.under).mono ?_
       rintro e w8 ⟨rfl,hb8⟩
       have hB8:=hB.trans (hb8.mono hB.size)
       cases e1:worldOk xx with
       |false =>
        have HNO:=jj (parseB_no HPS.out e1)
        clear e1
        have hfin:GivesWorld w (parseB text) (.returned (.tuple #[.slice (some ⟨w8,0,none⟩) 0 0,.bool false])) (w8.alloc (.cells #[] 64)):=by
         rw [HNO.out]
         exact ⟨_,[],rfl,hB8.alloc hB8.size _,⟨_,_,rfl,by simp,by simp [maxLen],.inl ⟨rfl,rfl⟩⟩,Free.nil _,Fresh.nil _ _⟩
        have HFin:=jj hfin
        clear hfin
        go_wp2
        go_ret2
        exact HFin.out
       |true =>
        have HW:=jj (worldOK e1)
        have HE1:=jj e1
        clear e1
        have HA8:=jj (ArrDt.below HARR.out hb8 HFRESH.out.under)
        have hF8:=jj (HFRESH.out.under.mono hb8.size)
        go_wp2_with fail
        refine (spec_l1Text xx HW.out w8 _ FF HA8.out hF8.out).mono ?_
        rintro e w9 ⟨rfl,hb9⟩
        have hB9:=hB8.trans (hb9.mono hB8.size)
        have hb89:=hb8.trans (hb9.mono hb8.size)
        generalize htt:bs (textT xx)=tt
        cases e2:(tt.toList==text.toList) with
        |true =>
         have HYES:Hid (parseB text=some xx):=parseB_yes HPS.out HE1.out (by rw [beq_iff_eq,zAA,zAA,←htt,tl_bs] at e2;exact e2)
         have hfin:GivesWorld w (parseB text) (.returned (.tuple #[u4,.bool true])) w9:=by
          rw [HYES.out]
          exact ⟨_,FF,rfl,hB9,ArrDt.below HARR.out hb89 HFRESH.out.under,HFREE.out.kept (.of_below hb89 HFRESH.out.under),fun b hb=>⟨(HFRESH.out b hb).1,zz9 (HFRESH.out b hb).2 hb89.size⟩⟩
         have HFin:=jj hfin
         clear hfin htt
         go_wp2
         go_ret2
         exact HFin.out
        |false =>
         have HNO:Hid (parseB text=none):=parseB_text HPS.out (fun h=>by rw [beq_eq_false_iff_ne,zAA,zAA,←htt,tl_bs] at e2;exact e2 h)
         clear htt
         have hfin:GivesWorld w (parseB text) (.returned (.tuple #[.slice (some ⟨w9,0,none⟩) 0 0,.bool false])) (w9.alloc (.cells #[] 64)):=by
          rw [HNO.out]
          exact ⟨_,[],rfl,hB9.alloc hB9.size _,⟨_,_,rfl,by simp,by simp [maxLen],.inl ⟨rfl,rfl⟩⟩,Free.nil _,Fresh.nil _ _⟩
         have HFin:=jj hfin
         clear hfin
         go_wp2
         go_ret2
         exact HFin.out)
def eightT:List ByteArray:=(sevenT ++ [[]]).map bs
theorem spec_l1Texts (w:World):Calls Tryz.prog 59 #[] w fun e w'=>e=.returned (.slice (some ⟨w,0,none⟩) 8 8)∧w'=w.alloc (.cells (eightT.map Value.string).toArray 9):=by
 go_enter Tryz.func59,Tryz.ntmps59
 go_wp2
 go_ret
 exact ⟨rfl,rfl⟩
theorem seven_at {r:Nat} (h:r<7):∃ t,eightT[r]?=some (bs t)∧t∈sevenT∧(bs t).size≤100:=by
 have key:∀ r:Fin 7,∃ t,eightT[r.1]?=some (bs t)∧t∈sevenT∧(bs t).size≤100:=by
  intro ⟨r,hr⟩
  have h7:sevenT.length=7:=rfl
  have hr7:r<sevenT.length:=by omega
  refine ⟨sevenT[r],?_,List.getElem_mem hr7,?_⟩
  ·unfold eightT
   rw [List.getElem?_map,List.getElem?_append_left hr7,List.getElem?_eq_getElem hr7];rfl
  ·have hall:∀ t∈sevenT,t.length≤100:=by decide
   exact hall _ (List.getElem_mem hr7)
 exact key ⟨r,h⟩
theorem seven_parse {t:List UInt8} (h:t∈sevenT):∃ xs,parseB (bs t)=some xs∧worldOk xs=true∧0<xs.length:=by
 have:=List.all_eq_true.1 sevenT_fine t h
 exact fineW_ex this
def DrewWorld (g p n:Nat) (w:World) (Q:List Dt→Prop) (e:Ending) (w':World):Prop:=∃ xs v F q,e=.returned v∧Q xs∧Arr w' (DtR w') xs v F∧Fresh w w' F∧Rd w' g q∧q≤p+n∧Chg [g] w w'
theorem spec_l1WorldQ (Q:List Dt→Prop) (hQ:∀ t∈sevenT,∃ xs,parseB (bs t)=some xs∧Q xs) (p g:Nat) (w:World) (h:Rd w g p) (hp:p≤900000):Calls Tryz.prog 102 #[.pointer (some ⟨g,0,none⟩)] w (DrewWorld g p 1 w Q):=by
 have HR0:=jj h
 have hgl:=h.lt
 clear h
 go_enter Tryz.func102,Tryz.ntmps102
 go_wp2_with fail
 refine (spec_l1Texts w).mono ?_
 rintro e w1 ⟨rfl,hw1⟩
 have hb1:Below w w w1:=by rw [hw1];exact (zy2 _ _).alloc (zz8 _) _
 have hk1:Blk w1 w 9 (eightT.map Value.string).toArray:=by rw [hw1];exact Blk.new _ _ _
 have HR1:=jj (HR0.out.below hb1)
 have HK1:=jj hk1
 clear hw1 hk1
 go_wp2_with fail
 refine (zBB 7 p g w1 HR1.out (by omega) (by omega) (by omega)).mono ?_
 rintro e w2 ⟨r,rfl,hr,hR2,hC2⟩
 obtain ⟨t,ht,htm,htl⟩:=seven_at hr
 have hlt1:=HK1.out.lt
 have c1:w1.cell? ⟨w.heap.size,r,none⟩=some (.string (bs t)):=(HK1.out.cell r).trans (by simp [ht])
 have c2:w2.cell? ⟨w.heap.size,r,none⟩=some (.string (bs t)):=(hC2.cell hlt1 (by simp;omega)).trans c1
 obtain ⟨xs,hxp,hxo⟩:=hQ t htm
 have HXP:=jj hxp
 have HXO:=jj hxo
 have HR2:=jj hR2
 have HC2:=jj hC2
 have g1:(0:Int)≤(r:Int):=by omega
 have g2:(r:Int)<8:=by omega
 have hsz2:=hC2.size
 clear hxp hxo hR2 hC2 c1 ht htm
 generalize hT:bs t=T at *
 clear hT
 go_wp2_with fail
 refine (spec_ParseWorld T (by omega) w2).mono ?_
 rintro e w3 ⟨v3,F3,rfl,hb3,ha3,-,hfs3⟩
 rw [HXP.out] at ha3 ⊢
 have hfin:DrewWorld g p 1 w Q (.returned v3) w3 :=
  ⟨xs,v3,F3,p+1,rfl,HXO.out,ha3,fun b hb=>⟨Nat.le_trans (Nat.le_trans hb1.size hsz2) (hfs3 b hb).1,(hfs3 b hb).2⟩,HR2.out.below hb3,zz8 _,((Chg.of_below hb1).trans HC2.out).step hb3⟩
 have HFin:=jj hfin
 clear hfin ha3 hfs3 hb3
 go_wp2
 go_ret
 exact HFin.out
def DrewV (b p n g:Nat) (w:World) (e:Ending) (w':World):Prop:=∃ (v:V) (cs:List Value) (F:List Nat) (q:Nat),e=.returned (.agg cs.toArray)∧VR w' v cs F∧Fresh w w' F∧nodes v≤b∧Rd w' g q∧q≤p+n∧Chg [g] w w'
def GoodK (xs:List Dt) (t:Ty) (N:Nat) (k:Int):Prop:=k∈ctorsL xs t∧mostIn xs (tableL xs) t k≠0∧mostIn xs (tableL xs) t k≤(N:Int)
theorem good_args {xs:List Dt} (hw:WorldOK xs) {t:Ty} (ht:TyIn xs.length t) {N:Nat} {k:Int} (h:GoodK xs t (N+1) k) {a:Ty} (ha:a∈argsOf xs t k):TyIn xs.length a∧depthIn (tableL xs) a≠0∧depthIn (tableL xs) a≤(N:Int):=by
 have hs:=sound_tableL hw
 have hne:=mostGo_ne (tab:=tableL xs) (ls:=argsOf xs t k) (m:=0) h.2.1
 have hp:=(mostGo_pos hs.dpos (Int.le_refl 0) hne).2 a ha
 have h2:mostGo (tableL xs) 0 (argsOf xs t k)=mostIn xs (tableL xs) t k:=rfl
 have h3:=h.2.2
 push_cast at h3
 exact ⟨zB8 hw ht h.1 ha,hne a ha,by omega⟩
theorem sizes_snoc' (vs:List V) (v:V) (q b:Nat) (h:V.sizes vs≤q*b) (hv:nodes v≤b):V.sizes (vs ++ [v])≤(q+1)*b:=by
 rw [V.sizes_eq] at h ⊢
 rw [V.subs_snoc,List.length_append,Nat.add_mul]
 unfold nodes at hv
 simp only [List.length_cons,List.length_nil]
 omega
theorem pow4 (N:Nat):1≤4 ^ N∧4 ^ (N+1)=4 ^ N*4:=⟨Nat.one_le_pow _ _ (by omega),Nat.pow_succ ..⟩
theorem pow4_le {N:Nat} (h:N≤8):4 ^ N≤65536:=Nat.le_trans (Nat.pow_le_pow_right (by omega) h) (by decide)
theorem spec_l2Draw:∀ (N:Nat),∀ (_:N≤8) (xs:List Dt) (_:WorldOK xs) (t:Ty) (_:TyIn xs.length t) (_:depthIn (tableL xs) t≠0) (dp:Int) (_:dp≤((N:Nat):Int)) (_:((N:Nat):Int)-30≤dp) (_:depthIn (tableL xs) t≤((N:Nat):Int)) (w:World) (p g:Nat) (x:Value) (F:List Nat) (u:Value) (H:List Nat),Rd w g p→p+4 ^ N≤900000→Arr w (DtR w) xs x F→Under w F→g∉F→Arr w (NatR w) (tableL xs) u H→Under w H→g∉H →
  Calls Tryz.prog 153 #[.pointer (some ⟨g,0,none⟩),x,u,.agg #[t.d,t.i],.int .i64 dp] w (DrewV (4 ^ N) p (4 ^ N) g w):=by
 intro N
 induction N with
 |zero =>
  intro _ xs hw t ht h0 dp _ _ hn
  exfalso
  have:=(tableL_small hw).dep t
  simp only [Int.natCast_zero] at hn
  omega
 |succ N ih =>
  intro h8 xs hw t ht h0 dp hdp hlo hn w p g x F u H hr hp hx hf hgf hy hh hgh
  have IH:=jj (ih (by omega))
  clear ih
  have hp4:=pow4 N
  have hp48:=pow4_le h8
  have hgl:=hr.lt
  obtain ⟨A,cap,rfl,hc1,hc2⟩:=hx.form
  obtain ⟨U,ucap,rfl,hu1,hu2⟩:=hy.form
  have HR:=jj hr
  have HGF:Hid (∀ b∈F,b∉[g]):=fun b hb h=>hgf (by rw [zy1] at h;rwa [←h])
  have HGH:Hid (∀ b∈H,b∉[g]):=fun b hb h=>hgh (by rw [zy1] at h;rwa [←h])
  have HGf:=jj hgf
  have HGh:=jj hgh
  clear hr hgf hgh
  rcases id ht with hti | ⟨d,i,rfl,hd4,hi4⟩
  ·have t0:(t.d == -1)=true:=by simp [hti]
   have K0:Hid (Blk ((w.alloc (.cells #[t.d,t.i] 25)).alloc (.cells #[(0:Int),(0:Int),.slice none 0 0] 45)) (w.heap.size+1) 45 #[(0:Int),(0:Int),.slice none 0 0]):=zAG w _ 45 _
   have HB0:Hid (Below w w ((w.alloc (.cells #[t.d,t.i] 25)).alloc (.cells #[(0:Int),(0:Int),.slice none 0 0] 45))):=((zy2 _ _).alloc (zz8 _) _).alloc (by simp) _
   clear hn h0 ht hti hx hf hy hh hlo
   go_enter Tryz.func153,Tryz.ntmps153
   go_wp2_with fail
   obtain ⟨W2,hW2⟩:∃ W2,W2=((w.alloc (.cells #[t.d,t.i] 25)).alloc (.cells #[(0:Int),(0:Int),.slice none 0 0] 45)):=⟨_,rfl⟩
   rw [←hW2] at K0 HB0 ⊢
   clear hW2
   have hR2:=HR.out.below HB0.out
   refine (zBB 10 p g W2 hR2 (by omega) (by omega) (by omega)).mono ?_
   rintro e w3 ⟨r,rfl,hr10,hR3,hC3⟩
   have KR:=jj (K0.out.same (hC3.block _ K0.out.lt (by rw [zy1];omega)))
   have HR3:=jj hR3
   have hC:Chg [g] w w3:=(Chg.of_below HB0.out).trans hC3
   have HC:=jj hC
   have rc0:=(KR.out.cell 0).trans (show _=some (.int .i64 0) from by simp)
   have rf0:=KR.out.frozen 0
   have rc1:=(KR.out.cell 1).trans (show _=some (.int .i64 0) from by simp)
   have rf1:=KR.out.frozen 1
   have rc2:=(KR.out.cell 2).trans (show _=some (.slice none 0 0) from by simp)
   have rf2:=KR.out.frozen 2
   have rlt:=KR.out.lt
   clear K0 HB0 hR2 hR3 hC3 hC
   go_wp2
   clear rc0 rf0 rc1 rf1 rc2 rf2 rlt
   refine bodyPost_ret (zA2 rfl _ _ (w.heap.size+1) 45 #[.int .i64 (-1),(r:Int),.slice none 0 0] (0,0) _ rfl (KR.out.three _ _ _) Tryz.underlying45 rfl rfl) rfl ?_
   refine ⟨⟨-1,(r:Int),[]⟩,[.int .i64 (-1),(r:Int),.slice none 0 0],[],p+1,rfl,(zA6 _ _ _).2 ⟨_,rfl,Arr.nil⟩,Fresh.nil _ _,by simp [nodes,V.size,V.sizes];omega,?_,by omega,((HC.out.set_new (by omega)).set_new (by omega)).set_new (by omega)⟩
   exact HR3.out.keep fun b hb=>by rw [zz7 _ _ _ _ (by show b≠w.heap.size+1;omega),zz7 _ _ _ _ (by show b≠w.heap.size+1;omega),zz7 _ _ _ _ (by show b≠w.heap.size+1;omega)]
  ·have t0:((d:Int) == -1)=false:=by rw [beq_eq_false_iff_ne];omega
   have hdn:¬(⟨(d:Int),(i:Int)⟩:Ty).d = -1:=by simp only;omega
   obtain ⟨kf,hkf⟩:=least_find hw ht hdn h0
   have HFI:=jj hkf
   have HW:=jj hw
   have HT:=jj ht
   have H0:=jj h0
   have HN:=jj hn
   have HKL:Hid ((ctorsL xs ⟨(d:Int),(i:Int)⟩).length≤4):=by
    have h:=ctorsL_len hw (s:=d*4+i) (by omega)
    rw [tyAt_mk hi4] at h
    exact h
   obtain ⟨i0,hi,hz0,hz1,hz2⟩:=info_parts info_int
   obtain ⟨v0,hvi,hv0,hv1,hv2⟩:=info_parts info_VE
   have HX:=jj hx
   have HF:=jj hf
   have HY:=jj hy
   have HH:=jj hh
   have HI:=jj hi
   have HZ0:=jj hz0
   have HZ1:=jj hz1
   have HZ2:=jj hz2
   have HVI:=jj hvi
   have HV0:=jj hv0
   have HV1:=jj hv1
   have HV2:=jj hv2
   clear hx hf hy hh hi hz0 hz1 hz2 hvi hv0 hv1 hv2
   clear hkf hdn hw ht h0 hn
   go_enter Tryz.func153,Tryz.ntmps153
   go_wp2_with fail
   obtain ⟨W2,hW2⟩:∃ W2,W2=((w.alloc (.cells #[(d:Int),(i:Int)] 25)).alloc (.cells #[(0:Int),(0:Int),.slice none 0 0] 45)):=⟨_,rfl⟩
   have hB0:Below w w W2:=by rw [hW2];exact ((zy2 _ _).alloc (zz8 _) _).alloc (by simp) _
   have KT:Hid (Blk W2 w 25 #[(d:Int),(i:Int)]):=by rw [hW2];exact (Blk.new w _ _).same (Below.heap_alloc _ _ _ (by simp))
   have KR:Hid (Blk W2 (w.heap.size+1) 45 #[(0:Int),(0:Int),.slice none 0 0]):=by rw [hW2];exact zAG w _ _ _
   rw [←hW2]
   clear hW2
   have y0:W2.cell? ⟨w,0,none⟩=(d:Int):=(KT.out.cell 0).trans (by simp)
   have y1:W2.cell? ⟨w,1,none⟩=(i:Int):=(KT.out.cell 1).trans (by simp)
   have ylt:=KT.out.lt
   go_wp2_with fail
   refine (spec_l1Ctors xs ⟨(d:Int),(i:Int)⟩ W2 _ F (ArrDt.below HX.out hB0 HF.out) (HF.out.mono hB0.size) HW.out HT.out.inWorld).mono ?_
   rintro e w3 ⟨v3,F3,rfl,hb3,ha3,-,hfs3⟩
   have hB3:=hB0.trans (hb3.mono hB0.size)
   have KT3:=jj (KT.out.same (hb3.block _ KT.out.lt))
   have KR3:=jj (KR.out.same (hb3.block _ KR.out.lt))
   have HA3:=jj ha3
   have HU3:=jj hfs3.under
   have hW2s:=hB0.size
   have hW3s:=KR3.out.lt
   obtain ⟨C3,cap3,rfl,hl1,hl2⟩:=ha3.form
   have HO3:Hid (Own (w3.alloc (.cells #[] 3)) w3.heap.size 3 1 NatR ([]:List Int) (.slice (some ⟨w3,0,none⟩) 0 0) []):=Own.made w3 w3.heap.size 3 1 NatR #[] 0 (zz8 _) (by simp [maxLen]) rfl
   have HB34:Hid (Below w3 w3 (w3.alloc (.cells #[] 3))):=(zy2 _ _).alloc (zz8 _) _
   clear ha3 hfs3 hb3 KT KR y0 y1 ylt hB0
   go_wp2
   go_loopw [12,13] (fun fv iv wr=>∃ j:Nat,∃ fl:List Int,j≤(ctorsL xs ⟨(d:Int),(i:Int)⟩).length∧iv=.int .i64 j∧Hid (Own wr w3.heap.size 3 1 NatR fl fv [])∧Hid (∀ k∈fl,GoodK xs ⟨(d:Int),(i:Int)⟩ (N+1) k)∧Hid (((ctorsL xs ⟨(d:Int),(i:Int)⟩).drop j).find? (isLeast xs ⟨(d:Int),(i:Int)⟩)=some kf∨fl≠[])∧Hid (fl.length≤j)∧Hid (Below w3 w3 wr)∧w3.heap.size≤wr.heap.size) (fun _ iv _=>(ctorsL xs ⟨(d:Int),(i:Int)⟩).length-(intOf iv).toNat)
   case atStart=>exact ⟨0,[],Nat.zero_le _,rfl,HO3,(fun k hk=>by cases hk),.inl HFI.out,Nat.zero_le _,HB34.out,HB34.out.size⟩
   case round =>
    clear HO3 HB34
    obtain ⟨j,fl,hj,rfl,HO,HGK,HFJ,HFL,HBJ,hws⟩:=hrel
    obtain ⟨wo,hwo⟩:∃ wo,wo=wr:=⟨_,rfl⟩
    rw [←hwo] at HO HBJ hws ⊢
    clear hwo
    obtain ⟨fA,fcap,hfv,hfc1,hfc2⟩:=HO.out.form
    subst hfv
    have hB:=hB3.trans (HBJ.out.mono hB3.size)
    have KTo:=jj (KT3.out.same (HBJ.out.block _ KT3.out.lt))
    have y0:wo.cell? ⟨w,0,none⟩=(d:Int):=(KTo.out.cell 0).trans (by simp)
    have y1:wo.cell? ⟨w,1,none⟩=(i:Int):=(KTo.out.cell 1).trans (by simp)
    have ylt:=KTo.out.lt
    by_cases hjl:j<(ctorsL xs ⟨(d:Int),(i:Int)⟩).length
    ·have g1:(0:Int)≤(j:Int):=by omega
     have g2:(j:Int)<((ctorsL xs ⟨(d:Int),(i:Int)⟩).length:Int):=by omega
     obtain ⟨b3,off3,rfl⟩:=HA3.out.ptr (by omega)
     obtain ⟨hb3l,c3⟩:=ArrNat.at HA3.out HU3.out HBJ.out j hjl
     have hmj:=find_step (p:=isLeast xs ⟨(d:Int),(i:Int)⟩) hjl
     obtain ⟨d',m,e1,hkm,hd',hm⟩:=zAT HT.out.inWorld (List.getElem_mem hjl)
     obtain rfl:d=d':=Int.ofNat.inj e1
     have hme:(ctorsL xs ⟨(d:Int),(i:Int)⟩)[j]∈(ctorsL xs ⟨(d:Int),(i:Int)⟩):=List.getElem_mem hjl
     rw [hkm] at hmj c3
     rw [hkm] at hme
     have HMJ:=jj hmj
     have HME:=jj hme
     have HIL:Hid (isLeast xs ⟨(d:Int),(i:Int)⟩ (m:Int)=((mostIn xs (tableL xs) ⟨(d:Int),(i:Int)⟩ (m:Int))==(depthIn (tableL xs) ⟨(d:Int),(i:Int)⟩))):=rfl
     have HKJ:=jj hkm
     have HNN:=jj (mostIn_nonneg HW.out ⟨(d:Int),(i:Int)⟩ (m:Int))
     clear hkm e1 hmj hme
     go_wp2_with fail
     have hkeep:Kp wo.heap.size (fun U=>U.cell? ⟨w,0,none⟩=(d:Int)∧U.cell? ⟨w,1,none⟩=(i:Int)∧U.cell? ⟨b3,off3+j,none⟩=(m:Int)):=fun U U' h hUU hU=>⟨(hUU.cell (zz9 (ylt) hU)).trans h.1,(hUU.cell (zz9 (ylt) hU)).trans h.2.1,(hUU.cell (zz9 (hb3l) hU)).trans h.2.2⟩
     have HKeep:=jj hkeep
     clear hkeep
     go_region_held3 (fun w'=>w'.cell? ⟨w,0,none⟩=(d:Int)∧w'.cell? ⟨w,1,none⟩=(i:Int)∧w'.cell? ⟨b3,off3+j,none⟩=(m:Int)) (first | assumption | (exact ⟨y0,y1,c3⟩) | (exact HKeep.out wo.drew w5 ⟨y0,y1,c3⟩ hb5 (zz8 _))) (first | (go_at_call 189;((with_reducible refine (spec_l1Most xs HW.out (tableL xs) (tableL_small HW.out) d i m hd4 hi4 hm _ _ _ F H (ArrDt.below HX.out hB.drew HF.out) (HF.out.mono hB.drew.size) (ArrNat.below HY.out hB.drew HH.out) (HH.out.mono hB.drew.size)).mono ?_);rintro e w5 ⟨rfl,hb5⟩)))
     have hb5u:=zAX hb5
     have hB5:=hB.drew.trans (hb5.mono hB.size)
     have HB35:Hid (Below w3 w3 w5):=HBJ.out.trans (hb5u.mono HBJ.out.size)
     have KT5:=jj (KTo.out.same (hb5u.block _ KTo.out.lt))
     have HO5:Hid (Own w5 w3.heap.size 3 1 NatR fl (.slice fA fl.length fcap) []):=Own.below (fun x cs G hk h=>zAY _ _ x cs G hk h) (w:=wo) HO.out hb5u
     obtain ⟨hb3l5,c35⟩:=ArrNat.at HA3.out HU3.out HB35.out j hjl
     rw [HKJ.out] at c35
     have hws5:=HB35.out.size
     have y0:w5.cell? ⟨w,0,none⟩=(d:Int):=(KT5.out.cell 0).trans (by simp)
     have y1:w5.cell? ⟨w,1,none⟩=(i:Int):=(KT5.out.cell 1).trans (by simp)
     have ylt:=KT5.out.lt
     clear hb5 hb5u c3 hb3l KTo HO HBJ
     obtain ⟨mo,hmo⟩:∃ q,q=(mostIn xs (tableL xs) ⟨(d:Int),(i:Int)⟩ (m:Int)):=⟨_,rfl⟩
     obtain ⟨de,hde⟩:∃ q,q=(depthIn (tableL xs) ⟨(d:Int),(i:Int)⟩):=⟨_,rfl⟩
     rw [←hmo] at HNN HIL ⊢
     rw [←hde] at HIL HN H0
     have HMO:=jj hmo
     have HDE:=jj hde
     clear hmo hde
     have hfl4:fl.length≤4:=by have h1:=HFL.out;have h2:=HKL.out;omega
     by_cases q1:mo>0
     ·have d1:decide (mo>0)=true:=decide_eq_true q1
      have d1':decide (0<mo)=true:=decide_eq_true q1
      by_cases q2:mo≤dp
      ·have d2:decide (mo≤dp)=true:=decide_eq_true q2
       have HG2:Hid (∀ k∈fl ++ [(m:Int)],GoodK xs ⟨(d:Int),(i:Int)⟩ (N+1) k):=fun k hk=>by
        rcases List.mem_append.1 hk with h | h
        ·exact HGK.out k h
        ·rw [zy1] at h
         subst h
         exact ⟨HME.out,by rw [←HMO.out];omega,by rw [←HMO.out];omega⟩
       clear q1 q2
       go_wp2_with (at_builtin;refine Halt.mk ?_)
       refine Halt.of (zA5 (P:=Tryz.prog) rfl _ _ 129 rfl i0 _ 8 Tryz.underlying129 HI.out HZ0.out HZ1.out HZ2.out rfl Nat.zero_lt_one NatR_len zAY (by rfl) HO5.out (m:Int) 3 [(m:Int)] [] _ (by rfl) (by simp) (by simp [Value.oneCell']) ⟨rfl,rfl⟩ (Under.nil _) (fun _ _ h=>by cases h) (by unfold maxLen;omega) (by omega) hws5 ?_)
       intro gz cp w8 hown8 hgr8 hat8
       have hrow:=HO5.out.row
       have HB38:Hid (Below w3 w3 w8):=(HB35.out.alloc hws5 _).grown hgr8 (by rw [World.size_alloc];omega) (fun g hg=>(hrow g (zA1.2 hg)).1)
       have HO8:Hid (Own w8 w3.heap.size 3 1 NatR (fl ++ [(m:Int)]) (.slice (some ⟨gz,0,none⟩) (fl ++ [(m:Int)]).length cp) []):=by rw [show (fl ++ [(m:Int)]).length=fl.length+1 from by rw [List.length_append];rfl];exact hown8
       have hws8:=HB38.out.size
       have HL2:Hid ((fl ++ [(m:Int)]).length≤j+1):=by have:=HFL.out;unfold Hid;rw [List.length_append];simp only [List.length_cons,List.length_nil];omega
       clear hown8 hgr8 hat8 hrow c35 hb3l5 y0 y1 ylt
       go_wp2
       go_roundw
       case rel=>exact ⟨j+1,fl ++ [(m:Int)],hjl,by go_num,(by rw [show (fl ++ [(m:Int)]).length=fl.length+1 from by rw [List.length_append];rfl] at HO8;exact HO8),HG2,.inr (by simp),HL2,HB38,hws8⟩
       case measure=>(simp [intOf] <;> omega)
      ·have d2:decide (mo≤dp)=false:=decide_eq_false q2
       go_wp2_with fail
       refine (spec_l1Depth xs.length HW.out.len (tableL xs) (tableL_small HW.out) ⟨(d:Int),(i:Int)⟩ HT.out w5 _ H (ArrNat.below HY.out hB5 HH.out) (HH.out.mono hB5.size)).mono ?_
       rintro e w6 ⟨rfl,hb6⟩
       rw [←HDE.out]
       have hB6:=hB5.trans (hb6.mono hB5.size)
       have HB36:Hid (Below w3 w3 w6):=HB35.out.trans (hb6.mono HB35.out.size)
       have HO6:Hid (Own w6 w3.heap.size 3 1 NatR fl (.slice fA fl.length fcap) []):=Own.below (fun x cs G hk h=>zAY _ _ x cs G hk h) (w:=w5) HO5.out hb6
       have hws6:=HB36.out.size
       obtain ⟨hb3l6,c36⟩:=ArrNat.at HA3.out HU3.out HB36.out j hjl
       rw [HKJ.out] at c36
       have KT6:=jj (KT5.out.same (hb6.block _ KT5.out.lt))
       clear hb6 c35 hb3l5 y0 y1 ylt KT5 HO5 HB35
       cases q3:(mo==de) with
       |false =>
        have HF2:Hid ((((ctorsL xs ⟨(d:Int),(i:Int)⟩).drop (j+1)).find? (isLeast xs ⟨(d:Int),(i:Int)⟩)=some kf)∨fl≠[]):=by
         rcases HFJ.out with h1 | h1
         ·rw [HMJ.out,HIL.out,q3,if_neg (by simp)] at h1
          exact .inl h1
         ·exact .inr h1
        clear q1 q2
        go_wp2
        go_roundw
        case rel=>exact ⟨j+1,fl,hjl,by go_num,HO6,HGK,HF2,by have:=HFL.out;unfold Hid;omega,HB36,hws6⟩
        case measure=>(simp [intOf] <;> omega)
       |true =>
        have HG2:Hid (∀ k∈fl ++ [(m:Int)],GoodK xs ⟨(d:Int),(i:Int)⟩ (N+1) k):=fun k hk=>by
         rcases List.mem_append.1 hk with h | h
         ·exact HGK.out k h
         ·rw [zy1] at h
          subst h
          have h3:=eq_of_beq q3
          have h4:=HN.out
          exact ⟨HME.out,by rw [←HMO.out];omega,by rw [←HMO.out];omega⟩
        clear q1 q2
        go_wp2_with (at_builtin;refine Halt.mk ?_)
        refine Halt.of (zA5 (P:=Tryz.prog) rfl _ _ 129 rfl i0 _ 8 Tryz.underlying129 HI.out HZ0.out HZ1.out HZ2.out rfl Nat.zero_lt_one NatR_len zAY (by rfl) HO6.out (m:Int) 3 [(m:Int)] [] _ (by rfl) (by simp) (by simp [Value.oneCell']) ⟨rfl,rfl⟩ (Under.nil _) (fun _ _ h=>by cases h) (by unfold maxLen;omega) (by omega) hws6 ?_)
        intro gz cp w8 hown8 hgr8 hat8
        have hrow:=HO6.out.row
        have HB38:Hid (Below w3 w3 w8):=(HB36.out.alloc hws6 _).grown hgr8 (by rw [World.size_alloc];omega) (fun g hg=>(hrow g (zA1.2 hg)).1)
        have HO8:Hid (Own w8 w3.heap.size 3 1 NatR (fl ++ [(m:Int)]) (.slice (some ⟨gz,0,none⟩) (fl ++ [(m:Int)]).length cp) []):=by rw [show (fl ++ [(m:Int)]).length=fl.length+1 from by rw [List.length_append];rfl];exact hown8
        have hws8:=HB38.out.size
        have HL2:Hid ((fl ++ [(m:Int)]).length≤j+1):=by have:=HFL.out;unfold Hid;rw [List.length_append];simp only [List.length_cons,List.length_nil];omega
        clear hown8 hgr8 hat8 hrow c36 hb3l6
        go_wp2
        go_roundw
        case rel=>exact ⟨j+1,fl ++ [(m:Int)],hjl,by go_num,(by rw [show (fl ++ [(m:Int)]).length=fl.length+1 from by rw [List.length_append];rfl] at HO8;exact HO8),HG2,.inr (by simp),HL2,HB38,hws8⟩
        case measure=>(simp [intOf] <;> omega)
     ·have d1:decide (mo>0)=false:=decide_eq_false q1
      have d1':decide (0<mo)=false:=decide_eq_false q1
      have HF2:Hid ((((ctorsL xs ⟨(d:Int),(i:Int)⟩).drop (j+1)).find? (isLeast xs ⟨(d:Int),(i:Int)⟩)=some kf)∨fl≠[]):=by
       rcases HFJ.out with h1 | h1
       ·have h0:=H0.out
        have hnn:=HNN.out
        rw [HMJ.out,HIL.out,if_neg (by rw [beq_iff_eq];omega)] at h1
        exact .inl h1
       ·exact .inr h1
      clear q1
      go_wp2
      go_roundw
      case rel=>exact ⟨j+1,fl,hjl,by go_num,HO5,HGK,HF2,by have:=HFL.out;unfold Hid;omega,HB35,hws5⟩
      case measure=>(simp [intOf] <;> omega)
    ·have hne:fl≠[]:=by
      rcases HFJ.out with h1 | h1
      ·rw [find_end (by omega)] at h1;cases h1
      ·exact h1
     have hfl1:1≤fl.length:=by cases fl with | nil=>exact absurd rfl hne | cons a l=>simp
     have hfl4:fl.length≤4:=by have h1:=HFL.out;have h2:=HKL.out;omega
     have harr:=HO.out.arr
     rw [if_neg hne] at harr
     have HAF:=jj harr
     have HAU:Hid (∀ b∈rowOf (.slice fA fl.length fcap) ++ [],w3.heap.size≤b∧b<wo.heap.size):=fun b hb=>HO.out.row b (by simpa using hb)
     have KRo:=jj (KR3.out.same (HBJ.out.block _ KR3.out.lt))
     have HRo:=jj (HR.out.below hB)
     clear harr hne
     go_wp2_with fail
     refine (zBB fl.length p g wo HRo.out (by omega) hfl1 (by omega)).mono ?_
     rintro e w6 ⟨r,rfl,hrl,hR6,hC6⟩
     have hg1:∀ b,g<b→b∉[g]:=fun b hb h=>by rw [zy1] at h;omega
     have HG1:=jj hg1
     clear hg1
     have KT6:=jj (KTo.out.same (hC6.block _ KTo.out.lt (HG1.out _ hgl)))
     have KR6:=jj (KRo.out.same (hC6.block _ KRo.out.lt (HG1.out _ (by omega))))
     have HC6:Hid (Chg [g] w w6):=(Chg.of_below hB).trans hC6
     have hz6:=hC6.size
     have hAF6:Arr w6 (NatR w6) fl (.slice fA fl.length fcap) (rowOf (.slice fA fl.length fcap) ++ []):=ArrNat.kept HAF.out (hC6.kept (fun b hb=>(HAU.out b hb).2) (fun b hb=>HG1.out _ (by have:=(HAU.out b hb).1;omega)))
     obtain ⟨bf,offf,rfl⟩:=hAF6.ptr (by omega)
     obtain ⟨hbfl,cf⟩:=ArrNat.at hAF6 (fun b hb=>zz9 (HAU.out b hb).2 hz6) (zy2 _ _) r hrl
     have hgk:=HGK.out fl[r] (List.getElem_mem hrl)
     obtain ⟨d',m,e1,hkm,hd',hm⟩:=zAT HT.out.inWorld hgk.1
     obtain rfl:d=d':=Int.ofNat.inj e1
     rw [hkm] at cf hgk
     have HGM:=jj hgk
     have HR6:=jj hR6
     have g1:(0:Int)≤(r:Int):=by omega
     have g2:(r:Int)<(fl.length:Int):=by omega
     have hal:=zAF (i:=(i:Int)) hd4 hm
     have HAL:Hid (∀ a∈argsL xs[d].ctors[m] (i:Int),TyIn xs.length a∧depthIn (tableL xs) a≠0∧depthIn (tableL xs) a≤((N:Nat):Int)):=fun a ha=>good_args HW.out HT.out HGM.out (by rw [hal];exact ha)
     have hl3:(argsL xs[d].ctors[m] (i:Int)).length≤3:=by rw [argsL_len];exact (HW.out.ctor hd4 hm).args
     have hca:=(HW.out.ctor hd4 hm).args
     clear hkm e1 hgk hR6 hC6 hAF6 hal y0 y1 ylt KTo KRo hB HO HAF HAU
     have y0:w6.cell? ⟨w,0,none⟩=(d:Int):=(KT6.out.cell 0).trans (by simp)
     have y1:w6.cell? ⟨w,1,none⟩=(i:Int):=(KT6.out.cell 1).trans (by simp)
     have ylt:=KT6.out.lt
     go_wp2_with fail
     clear y0 y1 ylt cf hbfl
     have hD0:=HC6.out.size
     obtain ⟨wn,hwn⟩:∃ wn,wn=w6.alloc (.cells #[(m:Int),(0:Int),.slice none 0 0] 45):=⟨_,rfl⟩
     have hbn:Below w6 w6 wn:=by rw [hwn];exact (zy2 _ _).alloc (zz8 _) _
     have KN:Hid (Blk wn w6 45 #[(m:Int),(0:Int),.slice none 0 0]):=by rw [hwn];exact Blk.new _ _ _
     rw [←hwn]
     clear hwn
     obtain ⟨D,hD⟩:∃ D,D=w6.heap.size:=⟨_,rfl⟩
     rw [←hD] at KN hbn hD0 hz6 ⊢
     have HCn:Hid (Chg [g] w wn):=HC6.out.trans (.of_below (by rw [←hD];exact hbn))
     have KRn:=jj (KR6.out.same (hbn.block _ (by rw [hD];exact KR6.out.lt)))
     have HRn:=jj (HR6.out.keep (w':=wn) (fun b hb=>hbn.block b (by omega)))
     clear hbn HC6 KT6 HR6 KR6 hD
     refine (spec_l1Args xs d m (i:Int) hd4 hm wn _ F (HX.out.mono (HCn.out.kept HF.out HGF.out) fun y _ cs G hk h=>DtR.mono y cs G hk h) (HF.out.mono HCn.out.size) hca).mono ?_
     rintro e w9 ⟨v7,F7,rfl,hb7,ha7,-,hfs7⟩
     have KN9:=jj (KN.out.same (hb7.block _ KN.out.lt))
     have KR9:=jj (KRn.out.same (hb7.block _ KRn.out.lt))
     have HC9:Hid (Chg [g] w w9):=HCn.out.step hb7
     have HR9:=jj (HRn.out.below hb7)
     have HA7:=jj ha7
     have HU7:=jj hfs7.under
     have HL7:Hid (∀ b∈F7,D<b):=fun b hb=>zz9 KN.out.lt (hfs7 b hb).1
     have hDw:D<w9.heap.size:=KN9.out.lt
     have hk3:=KR3.out.lt
     obtain ⟨C7,cap7,rfl,hl71,hl72⟩:=ha7.form
     obtain ⟨Bz,hBz⟩:∃ B,B=w9.heap.size:=⟨_,rfl⟩
     have HBZ:=jj hBz
     have hDB:D<Bz:=by rw [hBz];exact hDw
     have hwsD:w3.heap.size≤D:=by omega
     clear ha7 hfs7 hb7 KN HCn KRn HRn hBz
     generalize (argsL xs[d].ctors[m] (i:Int))=ls at *
     go_wp2
     go_loopw [17] (fun iv wr=>∃ q:Nat,∃ kv:Value,∃ Fk:List Nat,∃ vs:List V,∃ pq:Nat,q≤ls.length∧iv=.int .i64 q∧Hid (vs.length=q)∧Hid (V.sizes vs≤q*4 ^ N)∧Hid (Blk wr D 45 #[(m:Int),(0:Int),kv])∧Hid (Own wr Bz 45 3 VR vs kv Fk)∧Hid (∀ b∈Fk,Bz≤b)∧Hid (Chg [D,g] w9 wr)∧Hid (Chg [g] w wr)∧w9.heap.size≤wr.heap.size∧Hid (Rd wr g pq)∧pq≤p+1+q*4 ^ N) (fun iv _=>ls.length-(intOf iv).toNat)
     case atStart=>exact ⟨0,_,[],[],p+1,Nat.zero_le _,rfl,rfl,Nat.zero_le _,KN9,Own.nil _ _ _ _ _,(fun b hb=>by cases hb),Chg.refl _ _,HC9,zz8 _,HR9,by omega⟩
     case round =>
      clear HC9 KN9 HR9
      obtain ⟨q,kv,Fk,vs,pq,hql,rfl,HVL,HVS,KD,HO,HFh,HC,HCw,hws9,HRq,hpq⟩:=hrel
      obtain ⟨kA,kcap,hkv,hkc1,hkc2⟩:=HO.out.form
      subst hkv
      have klt:=KD.out.lt
      have HA7r:Hid (Arr wr (TyR wr) ls (.slice C7 ls.length cap7) F7):=HA7.out.mono (HC.out.kept HU7.out (fun b hb h=>by have h1:=HL7.out b hb;rcases List.mem_cons.1 h with h2 | h2;omega;rw [zy1] at h2;omega)) (fun y _ cs G _ h=>h)
      have HU7r:Hid (Under wr F7):=HU7.out.mono HC.out.size
      by_cases hil:q<ls.length
      ·have g1:(0:Int)≤(q:Int):=by omega
       have g2:(q:Int)<(ls.length:Int):=by omega
       obtain ⟨b7,off7,rfl⟩:=HA7r.out.ptr (by omega)
       have hb7z:D<b7∧b7<Bz:=by
        obtain ⟨_,_,_,_,e,hb,-⟩:=HA7r.out.get TyR_len hil
        cases e
        exact ⟨HL7.out _ hb,by have:=HU7.out _ hb;rw [HBZ.out];exact this⟩
       obtain ⟨hb7w,k0,k1⟩:=ArrTy.at HA7r.out HU7r.out (zy2 _ _) q hil
       have ha:=HAL.out ls[q] (List.getElem_mem hil)
       have hvl:=HVL.out
       have hvl3:vs.length≤3:=by omega
       clear hvl
       have HA1:=jj ha
       clear ha
       obtain ⟨aq,haq⟩:∃ a,a=ls[q]:=⟨_,rfl⟩
       rw [←haq] at HA1 k0 k1
       clear haq
       have hmx:vs.length+1≤maxLen:=by unfold maxLen;omega
       have hby:(vs.length+1)*40≤140737488355328:=by omega
       have hmul:q*4 ^ N≤2*4 ^ N:=Nat.mul_le_mul_right _ (by omega)
       have hmul1:(q+1)*4 ^ N=q*4 ^ N+4 ^ N:=by rw [Nat.add_mul];omega
       have zT:wr.drew.cell? ⟨D,2,none⟩=some (.slice kA vs.length kcap):=(KD.out.cell 2).trans (by simp)
       have zfT:wr.drew.frozen? ⟨D,2,none⟩=false:=KD.out.frozen 2
       have hkT:D<wr.drew.heap.size:=klt
       have hb7':b7<wr.drew.heap.size:=hb7w
       have hDg:D∉[g]:=HG1.out _ (by omega)
       have hb7g:b7∉[g]:=HG1.out _ (by omega)
       have hdw:IntKind.i64.wrap (dp-1)=dp-1:=IntWalk.i64_in _ (by omega)
       have HCd:=jj (HCw.out.drew)
       have HCALL:=jj (IH.out xs HW.out aq HA1.out.1 HA1.out.2.1 (dp-1) (by push_cast at hdp;omega) (by push_cast at hlo;omega) HA1.out.2.2 wr.drew pq g _ F _ H HRq.out.drew (by omega) (HX.out.mono (HCd.out.kept HF.out HGF.out) fun y _ cs G hk h=>DtR.mono y cs G hk h) (HF.out.mono HCd.out.size) HGf.out (HY.out.mono (HCd.out.kept HH.out HGH.out) fun _ _ _ _ _ h=>h) (HH.out.mono HCd.out.size) HGh.out)
       go_wp2_with fail
       refine zA4 (S:=fun w'=>w'.cell? ⟨b7,off7+q*2,none⟩=aq.d∧w'.cell? ⟨b7,off7+q*2+1,none⟩=aq.i) (T:=fun w'=>w'.cell? ⟨D,2,none⟩=some (.slice kA vs.length kcap)) (d:=13) (by kernel_rfl) ?_
       have hS1:wr.drew.cell? ⟨b7,off7+q*2,none⟩=aq.d∧wr.drew.cell? ⟨b7,off7+q*2+1,none⟩=aq.i:=⟨k0,k1⟩
       have hT1:wr.drew.cell? ⟨D,2,none⟩=some (.slice kA vs.length kcap):=zT
       refine wV 0 rfl hS1 hT1 ?_
       (try simp only [Act.put,zz4,zz5,zz6])
       refine zAP (i:=1) (v:=?_) rfl (by decide) rfl (by kernel_rfl) (by kernel_rfl) (by kernel_rfl) (by kernel_rfl) (fun _ _ _ h=>h) (Or.inl ⟨by rfl,?hy1⟩) (by rfl) hS1 hT1 ?_
       case hy1=>(intro W hSw;(try dsimp only at hSw);(obtain ⟨⟨s0,s1⟩,tT⟩:=hSw);go_simp;try with_reducible rfl)
       (try simp only [Act.put,zz4,zz5,zz6])
       refine wV 2 rfl hS1 hT1 ?_
       (try simp only [Act.put,zz4,zz5,zz6])
       refine wV 3 rfl hS1 hT1 ?_
       (try simp only [Act.put,zz4,zz5,zz6])
       refine wV 4 rfl hS1 hT1 ?_
       (try simp only [Act.put,zz4,zz5,zz6])
       refine wV 5 rfl hS1 hT1 ?_
       (try simp only [Act.put,zz4,zz5,zz6])
       refine wV 6 rfl hS1 hT1 ?_
       (try simp only [Act.put,zz4,zz5,zz6])
       refine wV 7 rfl hS1 hT1 ?_
       (try simp only [Act.put,zz4,zz5,zz6])
       refine wV 8 rfl hS1 hT1 ?_
       (try simp only [Act.put,zz4,zz5,zz6])
       refine wV 9 rfl hS1 hT1 ?_
       (try simp only [Act.put,zz4,zz5,zz6])
       refine wV 10 rfl hS1 hT1 ?_
       (try simp only [Act.put,zz4,zz5,zz6])
       refine w1 11 rfl fun K hK=>?_
       go_simp
       go_at_call 153
       with_reducible refine HCALL.out.mono ?_
       rintro e wA ⟨vA,csA,FA,qA,rfl,hpA,hfsA,hnA,hRA,hqA,hbA⟩
       obtain ⟨kvA,rfl,haA⟩:=(zA6 _ _ _).1 hpA
       obtain ⟨A8,cap8,rfl,-,-⟩:=haA.form
       clear haA
       have HBu:Hid (Chg [g] wr wA):=hbA.undrew
       have HPA:=jj hpA
       have HRA:=jj hRA
       have HNA:=jj hnA
       have HFsA:Hid (∀ b∈FA,wr.heap.size≤b∧b<wA.heap.size):=fun b hb=>⟨(hfsA b hb).1,(hfsA b hb).2⟩
       have HOA:Hid (Own wA Bz 45 3 VR vs (.slice kA vs.length kcap) Fk):=HO.out.chg VR_mono' HBu.out (fun b hb=>by rw [zy1] at hb;omega) HFh.out
       have hbs:Bz≤wA.heap.size:=by have h1:=HBu.out.size;have h2:=HBZ.out;omega
       clear hpA hRA hnA hfsA
       have hSA:wA.cell? ⟨b7,off7+q*2,none⟩=aq.d∧wA.cell? ⟨b7,off7+q*2+1,none⟩=aq.i:=⟨(hbA.cell (p:=⟨b7,off7+q*2,none⟩) hb7' hb7g).trans k0,(hbA.cell (p:=⟨b7,off7+q*2+1,none⟩) hb7' hb7g).trans k1⟩
       have zA:wA.cell? ⟨D,2,none⟩=some (.slice kA vs.length kcap):=(hbA.cell (p:=⟨D,2,none⟩) hkT hDg).trans zT
       have zfA:wA.frozen? ⟨D,2,none⟩=false:=(hbA.frozen hkT hDg).trans zfT
       have hkA:D<wA.heap.size:=zz9 hkT hbA.size
       have kl1:b7<wA.heap.size:=zz9 hb7' hbA.size
       have kl2:b7<wA.heap.size:=zz9 hb7' hbA.size
       have hSB:(wA.alloc (.cells [.int .i64 vA.c,.int .i64 vA.n,.slice A8 vA.ks.length cap8].toArray 45)).cell? ⟨b7,off7+q*2,none⟩=aq.d∧(wA.alloc (.cells [.int .i64 vA.c,.int .i64 vA.n,.slice A8 vA.ks.length cap8].toArray 45)).cell? ⟨b7,off7+q*2+1,none⟩=aq.i:=⟨(World.cell?_alloc_lt _ _ _ kl1).trans hSA.1,(World.cell?_alloc_lt _ _ _ kl2).trans hSA.2⟩
       dsimp only
       refine hK.out _ _ hSA (fun _=>zA) ?_
       clear hK K
       (try simp only [Act.put,zz4,zz5,zz6])
       refine w1 12 rfl fun K hK=>?_
       go_simp
       refine hK.out _ _ hSB (fun _=>(World.cell?_alloc_lt _ _ _ hkA).trans zA) ?_
       clear hK K
       (try simp only [Act.put,zz4,zz5,zz6])
       refine w1 13 rfl fun K hK=>?_
       refine zAB (P:=Tryz.prog) rfl _ _ 43 rfl v0 _ 40 Tryz.underlying43 HVI.out HV0.out HV1.out HV2.out rfl (by decide) VR_len' VR_mono' (by rfl) HOA.out vA 45 [vA.c,vA.n,.slice A8 vA.ks.length cap8] FA wA.heap.size (by rfl) rfl (by simp [Value.oneCell']) HPA.out (fun b hb=>(HFsA.out b hb).2) (fun g hg hG=>Nat.lt_irrefl _ (zz9 (HO.out.row g hg).2 (HFsA.out g hG).1)) hmx hby hbs ?_
       intro g cp w7 hown7 hgr7 hat7
       have hrow7:=HOA.out.row
       have n7:∀ x,(x<Bz∨wr.heap.size≤x)→some x≠(Value.ownBlock (.slice kA vs.length kcap)):=fun x hx e=>by
        have h1:=(hrow7 x (zA1.2 e.symm)).1
        have h2:=(HO.out.row x (zA1.2 e.symm)).2
        omega
       have l7:wA.heap.size≤(wA.alloc (.cells [.int .i64 vA.c,.int .i64 vA.n,.slice A8 vA.ks.length cap8].toArray 45)).heap.size:=by rw [World.size_alloc];exact Nat.le_succ _
       have s7:w7.cell? ⟨b7,off7+q*2,none⟩=aq.d∧w7.cell? ⟨b7,off7+q*2+1,none⟩=aq.i:=⟨(World.grownBy.cell_far hgr7 ⟨b7,off7+q*2,none⟩ (zz9 kl1 l7) (n7 (b7) (by omega))).trans hSB.1,(World.grownBy.cell_far hgr7 ⟨b7,off7+q*2+1,none⟩ (zz9 kl2 l7) (n7 (b7) (by omega))).trans hSB.2⟩
       have z71:w7.cell? ⟨D,2,none⟩=some (.slice kA vs.length kcap):=(World.grownBy.cell_far hgr7 ⟨D,2,none⟩ (zz9 hkA l7) (n7 (D) (by omega))).trans ((World.cell?_alloc_lt _ _ _ hkA).trans zA)
       have zf71:w7.frozen? ⟨D,2,none⟩=false:=(World.grownBy.frozen_far hgr7 ⟨D,2,none⟩ (zz9 hkA l7) (n7 (D) (by omega))).trans (Eq.trans (World.frozen?_of_block (Below.heap_alloc _ _ _ hkA)) zfA)
       refine hK.out _ _ s7 (fun h=>by cases h) ?_
       clear hK K
       (try simp only [Act.put,zz4,zz5,zz6])
       refine wU (i:=14) (v:=?_) rfl (Or.inl ⟨by rfl,?hy14⟩) s7 (fun h=>by cases h) ?_
       case hy14=>(intro W hSw;(try dsimp only at hSw);(obtain ⟨s0,s1⟩:=hSw);go_simp;try with_reducible rfl)
       (try simp only [Act.put,zz4,zz5,zz6])
       refine w1 15 rfl fun K hK=>?_
       go_simp
       refine hK.out _ _ ⟨(World.cell?_setCell_far _ _ _ _ (by show D≠b7;omega)).trans s7.1,(World.cell?_setCell_far _ _ _ _ (by show D≠b7;omega)).trans s7.2⟩ (fun h=>by cases h) ?_
       clear hK K
       (try simp only [Act.put,zz4,zz5,zz6])
       refine wE (by kernel_rfl) ?_
       obtain ⟨r1,r2,r3,r4,r5,r6,r7⟩:=kid_round3 (w:=w) 2 VR_mono' HBZ.out.symm hDB hgl (by omega) KD.out HO.out HFh.out HC.out HCw.out HBu.out HFsA.out hown7 hgr7 HRA.out
       have R1:=jj r1
       have R2:=jj r2
       have R3:=jj r3
       have R4:=jj r4
       have R5:=jj r5
       have R7:=jj r7
       have HV2:Hid ((vs ++ [vA]).length=q+1):=by have:=HVL.out;unfold Hid;rw [List.length_append];simp only [List.length_cons,List.length_nil];omega
       have HS2:Hid (V.sizes (vs ++ [vA])≤(q+1)*4 ^ N):=sizes_snoc' vs vA q _ HVS.out HNA.out
       clear r1 r2 r3 r4 r5 r7 hown7 hgr7 hat7 hrow7 n7 l7 s7 z71 zf71 hSA zA zfA hkA hSB hS1 hT1 zT zfT hkT HCALL
       go_wp2
       go_roundw
       case rel=>exact ⟨q+1,_,_,vs ++ [vA],qA,hil,by go_num,HV2,HS2,R1,(by rw [show (vs ++ [vA]).length=vs.length+1 from by rw [List.length_append];rfl] at *;exact R2),R3,R4,R5,r6,R7,by omega⟩
       case measure=>(simp [intOf] <;> omega)
      ·have hq:q=ls.length:=by omega
       obtain ⟨FF,hf1,hf3⟩:=kid_done3 (H:=Bz) HO.out HFh.out (zz8 _)
       have HF1:=jj hf1
       have HF3:=jj hf3
       have e0:=(KD.out.cell 0).trans (show _=some (.int .i64 (m:Int)) from by simp)
       have e1:=(KD.out.cell 1).trans (show _=some (.int .i64 0) from by simp)
       have e2:=(KD.out.cell 2).trans (show _=some (.slice kA vs.length kcap) from by simp)
       have RR:=jj (KR9.out.same (HC.out.block _ KR9.out.lt (by intro h;rcases List.mem_cons.1 h with h2 | h2;omega;rw [zy1] at h2;omega)))
       have hmul:q*4 ^ N≤3*4 ^ N:=Nat.mul_le_mul_right _ (by omega)
       have HPQ:Hid (pq≤p+4 ^ (N+1)):=by unfold Hid;omega
       have HSZ:Hid (nodes ⟨(m:Int),0,vs⟩≤4 ^ (N+1)):=by have:=HVS.out;unfold Hid nodes;rw [V.size];omega
       have rc0:=(RR.out.cell 0).trans (show _=some (.int .i64 0) from by simp)
       have rf0:=RR.out.frozen 0
       have rc1:=(RR.out.cell 1).trans (show _=some (.int .i64 0) from by simp)
       have rf1:=RR.out.frozen 1
       have rc2:=(RR.out.cell 2).trans (show _=some (.slice none 0 0) from by simp)
       have rf2:=RR.out.frozen 2
       have rlt:=RR.out.lt
       clear hf1 hf3 hq
       go_wp2
       clear e0 e1 e2 rc0 rf0 rc1 rf1 rc2 rf2 rlt
       refine bodyPost_ret (zA2 rfl _ _ (w.heap.size+1) 45 #[(m:Int),(0:Int),.slice kA vs.length kcap] (0,0) _ rfl (RR.out.three _ _ _) Tryz.underlying45 rfl rfl) rfl ?_
       have hkp:Kept FF wr _:=zBE (w:=wr) (H:=w.heap.size+1) (fun b hb=>by have:=(HF3.out b hb).1;omega) (.int .i64 (m:Int)) (.int .i64 0) (.slice kA vs.length kcap)
       refine ⟨⟨(m:Int),0,vs⟩,[(m:Int),(0:Int),.slice kA vs.length kcap],FF,pq,rfl,(zA6 _ _ _).2 ⟨_,rfl,ArrV.mono HF1.out hkp⟩,fun b hb=>⟨by have:=(HF3.out b hb).1;omega,by rw [zBG];exact (HF3.out b hb).2⟩,HSZ.out,?_,HPQ.out,((HCw.out.set_new (by omega)).set_new (by omega)).set_new (by omega)⟩
       exact HRq.out.keep fun b hb=>by rw [zz7 _ _ _ _ (by show b≠w.heap.size+1;omega),zz7 _ _ _ _ (by show b≠w.heap.size+1;omega),zz7 _ _ _ _ (by show b≠w.heap.size+1;omega)]
end Go.Proofs.YtjjclcmmfeegfaaGreatDoor
