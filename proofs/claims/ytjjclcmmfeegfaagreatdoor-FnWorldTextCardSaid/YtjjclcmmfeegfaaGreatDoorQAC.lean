/-
  Lemmas, and contracts of functions. Conditions: none.
-/
import Derived.Test.YtjjclcmmfeegfaaGreatDoorQAB
import Derived.Deep.RegionWith
import Derived.Test.YtjjclcmmfeegfaaGreatDoorQAA
import Derived.IntWalk
import Derived.Lib.Join
import Derived.Lib.AtoiAll
import Derived.Lib.SplitLaws
import Derived.Lib.IndexBytes
import Derived.Lib.Strings
import Derived.Test.YtjjclcmmfeegfaaGreatDoorChecked
import Derived.Shelf.Small.Strs
import Derived.Shelf.LaysM
import Derived.Shelf.LaysC
import Derived.Shelf.Strconv.AtoiAll
import Derived.Shelf.Strings.Cut
import Derived.Shelf.Strings.Prefix
import Derived.Shelf.Strings.Split
import Derived.Lib.ConvBytes

set_option linter.unusedVariables false
set_option linter.unusedSimpArgs false
set_option maxRecDepth 100000
set_option maxHeartbeats 1600000

namespace Go.Proofs.YtjjclcmmfeegfaaGreatDoor
open Go.RowKit
set_option maxHeartbeats 6400000 in
theorem spec_ParseWorld (text:ByteArray) (hs:text.size≤2000000) (w:World) :
  Calls Tryz.prog 11 #[.string text] w (GivesWorld w (parseB text)):=by
 obtain ⟨i0,hi,hz0,hz1,hz2⟩:=info_parts info_KtE
 have HI:=jj hi
 have HZ0:=jj hz0
 have HZ1:=jj hz1
 have HZ2:=jj hz2
 clear hi hz0 hz1 hz2
 obtain ⟨j0,hj,hj0,hj1,hj2⟩:=info_parts info_strE
 have HJ:=jj hj
 have HJ0:=jj hj0
 have HJ1:=jj hj1
 have HJ2:=jj hj2
 clear hj hj0 hj1 hj2
 obtain ⟨m0,hm,hm0,hm1,hm2⟩:=info_parts info_DtE
 have HM:=jj hm
 have HM0:=jj hm0
 have HM1:=jj hm1
 have HM2:=jj hm2
 clear hm hm0 hm1 hm2
 go_enter Tryz.func11,Tryz.ntmps11
 go_wp2_with fail
 have hB1:Below w w ((w.alloc (.cells #[] 64)).alloc (.cells #[] 9)):=((zy2 _ _).alloc (zz8 _) _).alloc (by simp) _
 have HO1:Hid (Own ((w.alloc (.cells #[] 64)).alloc (.cells #[] 9)) w.heap.size 64 2 DtR ([]:List Dt) (.slice (some ⟨w,0,none⟩) 0 0) []):=(Own.made w w.heap.size 64 2 DtR #[] 0 (zz8 _) (by simp [maxLen]) rfl).below (fun x cs G hk h=>DtR_mono' _ _ x cs G hk h) ((zy2 _ _).alloc (zz8 _) _)
 have HN1:Hid (Own ((w.alloc (.cells #[] 64)).alloc (.cells #[] 9)) (w.heap.size+1) 9 1 StrR (namesOf []) (.slice (some ⟨w.heap.size+1,0,none⟩) 0 0) []):=by
  have h:=Own.made (w.alloc (.cells #[] 64)) (w.heap.size+1) 9 1 StrR #[] 0 (by simp) (by simp [maxLen]) rfl
  rw [World.size_alloc] at h
  exact h
 have hsz1:(((w.alloc (.cells #[] 64)).alloc (.cells #[] 9))).heap.size=w.heap.size+2:=by simp
 obtain ⟨wb,hwb⟩:∃ wb,wb=((w.alloc (.cells #[] 64)).alloc (.cells #[] 9)):=⟨_,rfl⟩
 rw [←hwb] at hB1 HO1 HN1 hsz1 ⊢
 clear hwb
 have hcut:Calls Tryz.prog 36 #[.string text,.int .u8 59] wb (MadeStrs wb (cutS 59 text)):=zAB text 59 hs wb
 have hpos:=cutS_pos 59 text
 have hlm:=zAM 59 text
 have hlen:=cutS_len 59 text
 obtain ⟨lines,hlines⟩:∃ l,cutS 59 text=l:=⟨_,rfl⟩
 rw [hlines] at hcut hpos hlm hlen
 have HLN:=jj hlines
 have HLM:=jj hlm
 clear hlines hlm
 refine hcut.mono ?_
 rintro e w3 ⟨v3,F3,rfl,hb3,ha3,-,hfs3⟩
 obtain ⟨A3,cap3,rfl,hc3,hc4⟩:=ha3.form
 have hB3:=hB1.trans (hb3.mono hB1.size)
 have HO3:=jj (HO1.out.below (fun x cs G hk h=>DtR_mono' _ _ x cs G hk h) hb3)
 have HNN:=jj (HN1.out.below (fun x cs G hk h=>zA8 _ _ x cs G hk h) hb3)
 have HA3:=jj ha3
 have HU3:=jj hfs3.under
 have HN3:Hid (∀ b∈F3,w.heap.size+2≤b):=fun b hb=>by have:=(hfs3 b hb).1;omega
 have hw3:w.heap.size+2≤w3.heap.size:=by have:=hb3.size;omega
 clear hb3 ha3 hfs3 HO1 HN1 hcut hB1 hsz1
 by_cases h0:text.size=0
 ·skip
  have q0:(text.toList==[])=true:=by
   rw [beq_iff_eq,zA2];exact List.eq_nil_of_length_eq_zero (by rw [zA6];exact h0)
  have HPS:Hid (parseS text=some []):=by unfold Hid parseS linesT;rw [if_pos h0];rfl
  have u1:(0:Int)<(lines.length:Int):=by omega
  clear h0
  go_wp2
  go_loopw [5,7] (fun nv iv wr=>nv=.slice (some ⟨w.heap.size+1,0,none⟩) 0 0∧iv=.int .i64 0∧Below w3 w3 wr) (fun _ _ _=>0)
  case atStart=>exact ⟨rfl,rfl,zy2 _ _⟩
  case round =>
   obtain ⟨rfl,rfl,hb4⟩:=hrel
   go_wp2
   obtain ⟨w4,hw4⟩:∃ w4,w4=wr:=⟨_,rfl⟩
   rw [←hw4] at hb4 ⊢
   clear hw4
   go_loopw [4,9] (fun ov iv wr=>ov=.slice (some ⟨w,0,none⟩) 0 0∧iv=.int .i64 0∧Below w3 w3 wr) (fun _ _ _=>0)
   case atStart=>exact ⟨rfl,rfl,hb4⟩
   case round =>
    clear hb4
    obtain ⟨rfl,rfl,hb5⟩:=hrel
    have hB5:=hB3.trans (hb5.mono hB3.size)
    obtain ⟨ee,hee⟩:∃ ee:List Dt,ee=[]:=⟨_,rfl⟩
    have HO:Hid (Own wr w.heap.size 64 2 DtR ee (.slice (some ⟨w,0,none⟩) 0 0) []):=by rw [hee];exact HO3.out.below (fun x cs G hk h=>DtR_mono' _ _ x cs G hk h) hb5
    rw [←hee] at HPS
    clear hee
    have HFr:Hid (Free wr ([]:List Nat)):=Free.nil _
    have HFh:Hid (∀ b∈([]:List Nat),w.heap.size≤b):=fun b hb=>by cases hb
    clear HO3
    have harr:=HO.out.arr
    have hfree:=HO.out.free HFr.out
    have hfresh:=Own.fresh (w0:=w) HO.out (zz8 _) HFh.out
    generalize (if ee=[] then [] else rowOf (.slice (some ⟨w,0,none⟩) 0 0) ++ ([]:List Nat))=FF at harr hfree hfresh
    have HARR:=jj harr
    have HFREE:=jj hfree
    have HFRESH:=jj hfresh
    clear harr hfree hfresh HO HFr HFh
    generalize hxx:ee=xx at *
    clear hxx
    go_wp2_with fail
    refine (zAL xx wr _ FF HARR.out HFRESH.out.under).mono ?_
    rintro e w8 ⟨rfl,hb8⟩
    have hB8:=hB5.trans (hb8.mono hB5.size)
    cases e1:worldOk xx with
    |false =>
     have HNO:=jj (parseB_no HPS.out e1)
     clear e1
     have hfin:GivesWorld w (parseB text) (.returned (.tuple #[.slice (some ⟨w8,0,none⟩) 0 0,.bool false])) (w8.alloc (.cells #[] 64)):=by
      rw [HNO.out]
      exact ⟨_,[],rfl,hB8.alloc hB8.size _,⟨_,_,rfl,by simp,by simp [maxLen],.inl ⟨rfl,rfl⟩⟩,Free.nil _,Fresh.nil _ _⟩
     have HFin:=jj hfin
     clear hfin
     go_wp2
     go_ret2
     exact HFin.out
    |true =>
     have HW:=jj (worldOK e1)
     have HE1:=jj e1
     clear e1
     have HA8:=jj (ArrDt.below HARR.out hb8 HFRESH.out.under)
     have hF8:=jj (HFRESH.out.under.mono hb8.size)
     go_wp2_with fail
     refine (spec_l1Text xx HW.out w8 _ FF HA8.out hF8.out).mono ?_
     rintro e w9 ⟨rfl,hb9⟩
     have hB9:=hB8.trans (hb9.mono hB8.size)
     have hb89:=hb8.trans (hb9.mono hb8.size)
     generalize htt:bs (textT xx)=tt
     cases e2:(tt.toList==text.toList) with
     |true =>
      have HYES:Hid (parseB text=some xx):=parseB_yes HPS.out HE1.out (by rw [beq_iff_eq,zA2,zA2,←htt,zAC] at e2;exact e2)
      have hfin:GivesWorld w (parseB text) (.returned (.tuple #[.slice (some ⟨w,0,none⟩) 0 0,.bool true])) w9:=by
       rw [HYES.out]
       exact ⟨_,FF,rfl,hB9,ArrDt.below HARR.out hb89 HFRESH.out.under,HFREE.out.kept (.of_below hb89 HFRESH.out.under),fun b hb=>⟨(HFRESH.out b hb).1,zz9 (HFRESH.out b hb).2 hb89.size⟩⟩
      have HFin:=jj hfin
      clear hfin htt
      go_wp2
      go_ret2
      exact HFin.out
     |false =>
      have HNO:Hid (parseB text=none):=parseB_text HPS.out (fun h=>by rw [beq_eq_false_iff_ne,zA2,zA2,←htt,zAC] at e2;exact e2 h)
      clear htt
      have hfin:GivesWorld w (parseB text) (.returned (.tuple #[.slice (some ⟨w9,0,none⟩) 0 0,.bool false])) (w9.alloc (.cells #[] 64)):=by
       rw [HNO.out]
       exact ⟨_,[],rfl,hB9.alloc hB9.size _,⟨_,_,rfl,by simp,by simp [maxLen],.inl ⟨rfl,rfl⟩⟩,Free.nil _,Fresh.nil _ _⟩
      have HFin:=jj hfin
      clear hfin
      go_wp2
      go_ret2
      exact HFin.out
 ·skip
  have q0:(text.toList==[])=false:=by
   rw [beq_eq_false_iff_ne,zA2];intro e;have:=zA6 text;rw [e] at this;simp at this;omega
  have HLT:Hid (linesT text=lines.take 5):=by unfold Hid linesT;rw [if_neg h0,HLN.out]
  have hl5:(lines.take 5).length≤5:=by rw [List.length_take];omega
  have HT0:Hid (splitS (linesT text)=splitAfter [] ((lines.take 5).drop 0)):=by unfold Hid;rw [HLT.out,splitAfter_nil];rfl
  clear h0
  go_wp2
  go_loopw [5,7] (fun nv iv wr=>∃ i:Nat,∃ ps:List (ByteArray×ByteArray),i≤lines.length∧i≤5∧ps.length=i∧iv=.int .i64 i∧Hid (splitS (linesT text)=splitAfter ps ((lines.take 5).drop i))∧Hid (Own wr (w.heap.size+1) 9 1 StrR (namesOf ps) nv [])∧Hid (∀ g∈rowOf nv,g=w.heap.size+1∨w3.heap.size≤g)∧Hid (Chg [w.heap.size+1] w3 wr)∧Below w w wr∧Hid (∀ p∈ps,p.1.size≤2000000∧p.2.size≤2000000)∧Hid (∀ j (hj:j<ps.length),∃ h2:j<lines.length,cutS 61 lines[j]=[ps[j].1,ps[j].2])) (fun _ iv _=>5-(intOf iv).toNat)
  case atStart=>exact ⟨0,[],Nat.zero_le _,by omega,rfl,rfl,HT0,HNN,(fun g hg=>by rw [zA4,zy1] at hg;exact .inl hg),Chg.refl _ _,hB3,(fun p hp=>by cases hp),(fun j hj=>by simp at hj)⟩
  case round =>
   clear HNN HT0
   obtain ⟨i,ps,hil,hi5,hpl,rfl,HT,HN,HNR,HC,hB,HSZ,HPP⟩:=hrel
   by_cases hl1:i<lines.length∧i≤4
   ·obtain ⟨hl1,hl2⟩:=hl1
    have u1:decide ((i:Int)<(lines.length:Int))=true:=decide_eq_true (by omega)
    have u2:decide ((i:Int)≤4)=true:=decide_eq_true (by omega)
    have g1:(0:Int)≤(i:Int):=by omega
    have g2:(i:Int)<(lines.length:Int):=by omega
    obtain ⟨b3,off3,rfl⟩:=HA3.out.ptr (by omega)
    have HAr:Hid (Arr wr (StrR wr) lines (.slice (some ⟨b3,off3,none⟩) lines.length cap3) F3):=ArrStr.mono HA3.out (HC.out.kept HU3.out (fun b hb=>by have:=HN3.out b hb;simp;omega))
    obtain ⟨hbl,c0⟩:=ArrStr.at HAr.out (fun b hb=>zz9 (HU3.out b hb) HC.out.size) (zy2 _ _) i hl1
    have hlsz:lines[i].size≤2000000:=Nat.le_trans (HLM.out _ (List.getElem_mem hl1)) hs
    have htk:i<(lines.take 5).length:=by rw [List.length_take];omega
    have hge:(lines.take 5)[i]=lines[i]:=List.getElem_take
    have hcall:Calls Tryz.prog 36 #[.string lines[i],.int .u8 61] wr (MadeStrs wr (cutS 61 lines[i])):=zAB lines[i] 61 hlsz wr
    have hpm:=zAM 61 lines[i]
    by_cases h2:(cutS 61 lines[i]).length=2
    ·obtain ⟨a,b,hab⟩:=two_of h2
     have HT2:Hid (splitS (linesT text)=splitAfter (ps ++ [(a,b)]) ((lines.take 5).drop (i+1))):=by
      unfold Hid
      rw [HT.out]
      exact splitAfter_good htk (by rw [hge];exact hab)
     rw [hab] at hcall hpm
     have hsa:a.size≤2000000:=Nat.le_trans (hpm a (by simp)) hlsz
     have hsb:b.size≤2000000:=Nat.le_trans (hpm b (by simp)) hlsz
     have HSZ2:Hid (∀ p∈ps ++ [(a,b)],p.1.size≤2000000∧p.2.size≤2000000):=fun p hp=>by
      rcases List.mem_append.1 hp with h | h
      ·exact HSZ.out p h
      ·rw [zy1] at h;subst h;exact ⟨hsa,hsb⟩
     have HPP2:Hid (∀ j (hj:j<(ps ++ [(a,b)]).length),∃ h2:j<lines.length,cutS 61 lines[j]=[(ps ++ [(a,b)])[j].1,(ps ++ [(a,b)])[j].2]):=fun j hj=>by
      rw [List.length_append,List.length_singleton] at hj
      rcases Nat.lt_or_ge j ps.length with h | h
      ·obtain ⟨e1,e2⟩:=HPP.out j h
       exact ⟨e1,by rw [List.getElem_append_left h];exact e2⟩
      ·obtain rfl:j=i:=by omega
       refine ⟨hl1,?_⟩
       rw [List.getElem_append_right h]
       simp only [hpl,Nat.sub_self,zz2]
       exact hab
     have hns:=namesOf_snoc ps (a,b)
     have HNS:=jj hns
     have hnl:=namesOf_len ps
     have HCALL:=jj hcall
     clear hcall hpm h2 hab hns HSZ HPP HT htk hge
     go_wp2_with fail
     refine HCALL.out.mono ?_
     rintro e w4 ⟨v4,F4,rfl,hb4,ha4,-,hfs4⟩
     obtain ⟨A4,cap4,rfl,hc7,hc8⟩:=ha4.form
     obtain ⟨b4,off4,rfl⟩:=ha4.ptr (by simp)
     obtain ⟨hb4l,p0⟩:=ArrStr.at ha4 hfs4.under (zy2 _ _) 0 (by simp)
     have p0:w4.cell? ⟨b4,off4,none⟩=some (.string a):=p0
     have hB4:=hB.trans (hb4.mono hB.size)
     have HO1:Hid (Own w4 (w.heap.size+1) 9 1 StrR (namesOf ps) u5 []):=HN.out.below (fun x cs G hk h=>zA8 _ _ x cs G hk h) hb4
     have hwz:w3.heap.size≤w4.heap.size:=Nat.le_trans HC.out.size hb4.size
     have hC4:=jj (HC.out.step hb4)
     clear HCALL c0 hbl ha4 hfs4
     go_wp2_with (at_builtin;refine Halt.mk ?_)
     refine Halt.of (zA5 (P:=Tryz.prog) rfl _ _ 60 rfl j0 _ 16 Tryz.underlying60 HJ.out HJ0.out HJ1.out HJ2.out rfl Nat.zero_lt_one zAA zA8 (by rfl) HO1.out a 9 [.string a] [] _ (by rfl) (by simp) (by simp [Value.oneCell']) ⟨rfl,rfl⟩ (Under.nil _) (fun _ _ h=>by cases h) (by unfold maxLen;omega) (by omega) (by omega) ?_)
     intro g cp w5 hown5 hgr5 hat5
     have hrow:=HO1.out.row
     have hb45:Below w4 w4 (w4.alloc (.cells #[.string a] 9)):=(zy2 _ _).alloc (zz8 _) _
     have hC5:Hid (Chg [w.heap.size+1] w3 w5):=by
      have h1:=hC4.out.step hb45
      refine ⟨hgr5.os.trans h1.os,hgr5.tape.trans h1.tape,hgr5.output.trans h1.output,Nat.le_trans h1.size hgr5.size,fun x hx hn=>(hgr5.block x (zz9 hx h1.size) (fun e=>?_)).trans (h1.block x hx hn)⟩
      rcases HNR.out x (zA1.2 e.symm) with h | h
      ·exact hn (by simp [h])
      ·omega
     have hB5:Below w w w5:=(hB4.alloc hB4.size _).grown hgr5 (by have:=hB4.size;simp;omega) (fun g hg=>by have:=(hrow g (zA1.2 hg)).1;omega)
     have HN5:Hid (∀ g'∈rowOf (.slice (some ⟨g,0,none⟩) ((namesOf ps).length+1) cp),g'=w.heap.size+1∨w3.heap.size≤g'):=fun g' hg'=>by
      rw [zA4,zy1] at hg'
      subst hg'
      rcases hat5 with h | h
      ·exact HNR.out _ (zA1.2 h)
      ·right;omega
     have HO5:=jj hown5
     clear hown5 hgr5 hat5 hrow hb45 p0 hb4l hC4 HO1 hb4
     go_wp2
     go_roundw
     case rel=>exact ⟨i+1,ps ++ [(a,b)],by omega,by omega,by simp [hpl],by go_num,HT2,(by rw [HNS.out];have h:=HO5.out;rw [hnl,hpl] at h;exact h),(by have h:=HN5.out;rw [hnl,hpl] at h;exact h),hC5,hB5,HSZ2,HPP2⟩
     case measure=>(simp [intOf] <;> omega)
    ·have HBAD:Hid (parseB text=none):=by
      refine parseB_bad ?_
      unfold parseS
      rw [HT.out,splitAfter_bad htk (by rw [hge];exact h2)]
     have hne2:(((cutS 61 lines[i]).length:Int) != 2)=true:=by rw [bne_iff_ne];omega
     have HCALL:=jj hcall
     obtain ⟨parts,hparts⟩:∃ l,cutS 61 lines[i]=l:=⟨_,rfl⟩
     rw [hparts] at HCALL hne2
     clear hcall hpm h2 hparts htk hge
     go_wp2_with fail
     refine HCALL.out.mono ?_
     rintro e w4 ⟨v4,F4,rfl,hb4,ha4,-,hfs4⟩
     obtain ⟨A4,cap4,rfl,hc7,hc8⟩:=ha4.form
     have hB4:=hB.trans (hb4.mono hB.size)
     clear ha4 hfs4 HCALL c0 hbl
     have hfin:GivesWorld w (parseB text) (.returned (.tuple #[.slice (some ⟨w4,0,none⟩) 0 0,.bool false])) (w4.alloc (.cells #[] 64)):=by
      rw [HBAD.out]
      exact ⟨_,[],rfl,hB4.alloc hB4.size _,⟨_,_,rfl,by simp,by simp [maxLen],.inl ⟨rfl,rfl⟩⟩,Free.nil _,Fresh.nil _ _⟩
     have HFin:=jj hfin
     clear hfin
     go_wp2
     go_ret2
     exact HFin.out
   ·by_cases hll:i<lines.length
    have u1:decide ((i:Int)<(lines.length:Int))=true:=decide_eq_true (by omega)
    have u2:decide ((i:Int)≤4)=false:=decide_eq_false (by omega)
    have hdone:(lines.take 5).length≤i:=by omega
    rotate_left
    have u1:decide ((i:Int)<(lines.length:Int))=false:=decide_eq_false (by omega)
    have hdone:(lines.take 5).length≤i:=by rw [List.length_take];omega
    rotate_left
    all_goals (
     have HPS0:Hid (parseS text=some (buildS ps)):=by
      have h:=HT.out
      rw [splitAfter_end (by omega)] at h
      unfold Hid parseS
      rw [h]
     obtain ⟨nA,ncap,hnv,hnc1,hnc2⟩:=HN.out.form
     subst hnv
     have hna:=HN.out.arr
     have HNROW:=jj HN.out.row
     have hfn:∀ b∈(if namesOf ps=[] then [] else rowOf (.slice nA (namesOf ps).length ncap) ++ []),w.heap.size+1≤b∧b<wr.heap.size:=fun b hb=>by
      split at hb
      ·cases hb
      ·rw [List.append_nil] at hb
       exact HNROW.out b hb
     generalize (if namesOf ps=[] then [] else rowOf (.slice nA (namesOf ps).length ncap) ++ [])=Fn at hna hfn
     have HNA:=jj hna
     have HFN:=jj hfn
     clear hna hfn HNROW HN
     have HLA:Hid (Arr wr (StrR wr) lines (.slice A3 lines.length cap3) F3):=ArrStr.mono HA3.out (HC.out.kept HU3.out (fun b hb=>by have:=HN3.out b hb;simp;omega))
     have HLU:Hid (∀ b∈F3,w.heap.size+1≤b∧b<wr.heap.size):=fun b hb=>⟨by have:=HN3.out b hb;omega,zz9 (HU3.out b hb) HC.out.size⟩
     have HO6:Hid (Own wr w.heap.size 64 2 DtR (dtsTo ps 0) (.slice (some ⟨w,0,none⟩) 0 0) []):=Own.mono (w:=w3) (fun x cs G hk h=>DtR_mono' _ _ x cs G hk h) HO3.out (HC.out.kept (fun b hb=>by rw [zA4,List.append_nil,zy1] at hb;omega) (fun b hb=>by rw [zA4,List.append_nil,zy1] at hb;simp;omega)) HC.out.size
     have hnl:=namesOf_len ps
     go_wp2
     obtain ⟨w6,hw6⟩:∃ w6,w6=wr:=⟨_,rfl⟩
     rw [←hw6] at HNA HFN HLA HLU HO6 hB ⊢
     have hw63:w3.heap.size≤w6.heap.size:=by rw [hw6];exact HC.out.size
     clear hw6 HC HA3 HU3 HO3 hl1
     obtain ⟨names,hnm⟩:∃ l,namesOf ps=l:=⟨_,rfl⟩
     rw [hnm] at HNA hnl ⊢
     have HNM:=jj hnm
     have HNL:=jj hnl
     have HPL:=jj hpl
     have hps5:ps.length≤5:=by omega
     clear hnm hnl hpl
     go_loopw [4,9] (fun ov iv wr=>∃ i:Nat,∃ Fo:List Nat,i≤ps.length∧iv=.int .i64 i∧Hid (Own wr w.heap.size 64 2 DtR (dtsTo ps i) ov Fo)∧Hid (Free wr Fo)∧Hid (∀ b∈Fo,w6.heap.size≤b)∧Hid (∀ g∈rowOf ov,g=w.heap.size∨w6.heap.size≤g)∧Hid (Chg [w.heap.size] w6 wr)∧Below w w wr∧w6.heap.size≤wr.heap.size) (fun _ iv _=>ps.length-(intOf iv).toNat)
     case atStart=>exact ⟨0,[],Nat.zero_le _,rfl,HO6,Free.nil _,(fun b hb=>by cases hb),(fun g hg=>by rw [zA4,zy1] at hg;exact .inl hg),Chg.refl _ _,hB,zz8 _⟩
     case round =>
      clear hB HO6
      obtain ⟨i,Fo,hi,rfl,HO,HFr,HFh,HR,HC,hB,hw6r⟩:=hrel
      by_cases hil:i<ps.length
      ·have hnl:=HNL.out
       have u3:decide ((i:Int)<(names.length:Int))=true:=decide_eq_true (by omega)
       have g1:(0:Int)≤(i:Int):=by omega
       have g2:(i:Int)<(names.length:Int):=by omega
       clear hnl
       obtain ⟨hil2,hcut⟩:=HPP.out i hil
       have g3:(i:Int)<(lines.length:Int):=by omega
       have HLr:Hid (Arr wr (StrR wr) lines (.slice A3 lines.length cap3) F3):=ArrStr.mono HLA.out (HC.out.kept (fun b hb=>(HLU.out b hb).2) (fun b hb=>by have:=(HLU.out b hb).1;simp;omega))
       have HNr:Hid (Arr wr (StrR wr) names (.slice nA names.length ncap) Fn):=ArrStr.mono HNA.out (HC.out.kept (fun b hb=>(HFN.out b hb).2) (fun b hb=>by have:=(HFN.out b hb).1;simp;omega))
       have hFnr:Hid (Under wr Fn):=fun b hb=>zz9 (HFN.out b hb).2 hw6r
       obtain ⟨bL,offL,rfl⟩:=HLr.out.ptr (by omega)
       obtain ⟨hbL,cL⟩:=ArrStr.at HLr.out (fun b hb=>zz9 (HLU.out b hb).2 hw6r) (zy2 _ _) i hil2
       have hlsz:lines[i].size≤2000000:=Nat.le_trans (HLM.out _ (List.getElem_mem hil2)) hs
       have hcall:Calls Tryz.prog 36 #[.string lines[i],.int .u8 61] wr (MadeStrs wr (cutS 61 lines[i])):=zAB lines[i] 61 hlsz wr
       rw [hcut] at hcall
       have HCALL:=jj hcall
       clear hcall hcut
       go_wp2_with fail
       refine HCALL.out.mono ?_
       rintro e w7 ⟨v7,F7,rfl,hb7,ha7,-,hfs7⟩
       obtain ⟨A7,cap7,rfl,hc7,hc8⟩:=ha7.form
       obtain ⟨b7,off7,rfl⟩:=ha7.ptr (by simp)
       obtain ⟨hb7l,p71⟩:=ArrStr.at ha7 hfs7.under (zy2 _ _) 1 (by simp)
       have p71:w7.cell? ⟨b7,off7+1,none⟩=some (.string ps[i].2):=p71
       have hB7:=hB.trans (hb7.mono hB.size)
       have hpsz:=(HSZ.out ps[i] (List.getElem_mem hil))
       have hcall2:Calls Tryz.prog 36 #[.string ps[i].2,.int .u8 124] w7 (MadeStrs w7 (cutS 124 ps[i].2)):=zAB ps[i].2 124 hpsz.2 w7
       have HCALL2:=jj hcall2
       clear hcall2 HCALL cL hbL ha7 hfs7
       go_wp2_with fail
       refine HCALL2.out.mono ?_
       rintro e w8 ⟨v8,F8,rfl,hb8,ha8,-,hfs8⟩
       obtain ⟨A8,cap8,rfl,hc9,hc10⟩:=ha8.form
       have hB8:=hB7.trans (hb8.mono hB7.size)
       have hr8:Below wr wr w8:=hb7.trans (hb8.mono hb7.size)
       have hcm:=zAM 124 ps[i].2
       obtain ⟨cl,hcl⟩:∃ l,cutS 124 ps[i].2=l:=⟨_,rfl⟩
       rw [hcl] at ha8 hcm
       have HCL:=jj hcl
       have HA8:=jj ha8
       have HU8:=jj hfs8.under
       have HCM:=jj hcm
       clear hcm
       rw [hcl] at hc9 ⊢
       clear hcl ha8 hfs8 p71 hb7l HCALL2
       have HN8:Hid (Arr w8 (StrR w8) names (.slice nA names.length ncap) Fn):=ArrStr.below HNr.out hr8 hFnr.out
       have hFn8:Hid (Under w8 Fn):=hFnr.out.mono hr8.size
       obtain ⟨bN,offN,hnA⟩:=HN8.out.ptr (by have:=HNL.out;omega)
       subst hnA
       obtain ⟨hbN,cN⟩:=ArrStr.at HN8.out hFn8.out (zy2 _ _) i (by have:=HNL.out;omega)
       have hnmi:names[i]'(by have:=HNL.out;omega)=ps[i].1:=by have h:=HNM.out;subst h;exact namesOf_get ps i hil
       rw [hnmi] at cN
       have hw9:Below w8 w8 (w8.alloc (.cells #[.string ps[i].1,.slice none 0 0] 64)):=(zy2 _ _).alloc (zz8 _) _
       have HO8:Hid (Own w8 w.heap.size 64 2 DtR (dtsTo ps i) u4 Fo):=HO.out.below (fun x cs G hk h=>DtR_mono' _ _ x cs G hk h) hr8
       have HFr8:Hid (Free w8 Fo):=HFr.out.kept (.of_below hr8 HO.out.under)
       have HC8:Hid (Chg [w.heap.size] w6 w8):=HC.out.step hr8
       have hw68:w6.heap.size≤w8.heap.size:=Nat.le_trans hw6r hr8.size
       have HO9:Hid (Own (w8.alloc (.cells #[.string ps[i].1,.slice none 0 0] 64)) w.heap.size 64 2 DtR (dtsTo ps i) u4 Fo):=HO8.out.below (fun x cs G hk h=>DtR_mono' _ _ x cs G hk h) hw9
       have HFr9:Hid (Free (w8.alloc (.cells #[.string ps[i].1,.slice none 0 0] 64)) Fo):=HFr8.out.kept (.of_below hw9 HO8.out.under)
       have HC9:Hid (Chg [w.heap.size] w6 (w8.alloc (.cells #[.string ps[i].1,.slice none 0 0] 64))):=HC8.out.step hw9
       have KD9:Hid (Blk (w8.alloc (.cells #[.string ps[i].1,.slice none 0 0] 64)) w8.heap.size 64 #[.string ps[i].1,.slice none 0 0]):=Blk.new _ _ _
       have HN9:Hid (Arr (w8.alloc (.cells #[.string ps[i].1,.slice none 0 0] 64)) (StrR _) names (.slice (some ⟨bN,offN,none⟩) names.length ncap) Fn):=ArrStr.below HN8.out hw9 hFn8.out
       have HA9:Hid (Arr (w8.alloc (.cells #[.string ps[i].1,.slice none 0 0] 64)) (StrR _) cl (.slice A8 cl.length cap8) F8):=ArrStr.below HA8.out hw9 HU8.out
       have hB9:=hB8.trans (hw9.mono hB8.size)
       have hD:w.heap.size<w8.heap.size:=zz9 (by omega) hw68
       have hw9s:(w8.alloc (.cells #[.string ps[i].1,.slice none 0 0] 64)).heap.size=w8.heap.size+1:=World.size_alloc _ _
       go_wp2
       obtain ⟨w9,hw9e⟩:∃ w9,w9=w8.alloc (.cells #[.string ps[i].1,.slice none 0 0] 64):=⟨_,rfl⟩
       rw [←hw9e] at HO9 HFr9 HC9 KD9 HN9 HA9 hB9 hw9s ⊢
       have HB8:Hid (∀ b∈rowOf u4 ++ Fo,b<w8.heap.size):=fun b hb=>by
        rcases List.mem_append.1 hb with h | h
        ·exact (HO8.out.row b h).2
        ·exact HO8.out.under b h
       clear hw9 hw9e HO8 HFr8 HC8 HN8 HA8 HLr HNr HO HFr HC hB hB7 hB8 hb7 hb8 hr8 cN hbN
       have hpz:=hpsz.1
       have hpz2:=hpsz.2
       clear hpsz
       go_loopw [12] (fun kv' wr=>∃ k:Nat,∃ kv:Value,∃ Fk:List Nat,k≤cl.length∧k≤5∧kv'=.int .i64 k∧Hid (Blk wr w8 64 #[.string ps[i].1,kv])∧Hid (Own wr (w8.heap.size+1) 67 3 KtR (ktsTo names cl k) kv Fk)∧Hid (Free wr Fk)∧Hid (∀ b∈Fk,w8.heap.size+1≤b)∧Hid (Chg [w8.heap.size] w9 wr)∧Below w w wr∧w9.heap.size≤wr.heap.size) (fun kv' _=>5-(intOf kv').toNat)
       case atStart=>exact ⟨0,_,[],Nat.zero_le _,by omega,rfl,KD9,(show Own _ _ _ _ _ (ktsTo names cl 0) _ _ from Own.nil _ _ _ _ _),Free.nil _,(fun b hb=>by cases hb),Chg.refl _ _,hB9,zz8 _⟩
       case round =>
        clear hB9 KD9
        obtain ⟨k,kv,Fk,hkl,hk5,rfl,KD,HOk,HFk,HFkh,HCk,hB,hw9r⟩:=hrel
        obtain ⟨kA,kcap,hkv,hkc1,hkc2⟩:=HOk.out.form
        subst hkv
        have z0:wr.cell? ⟨w8,0,none⟩=some (.string ps[i].1):=(KD.out.cell 0).trans (by simp)
        have z1:wr.cell? ⟨w8,1,none⟩=some (.slice kA (ktsTo names cl k).length kcap):=(KD.out.cell 1).trans (by simp)
        have zf1:=KD.out.frozen 1
        have hkz:=KD.out.lt
        by_cases hlt:k<cl.length∧k≤4
        ·obtain ⟨hk1,hk2⟩:=hlt
         have u5:decide ((k:Int)<(cl.length:Int))=true:=decide_eq_true (by omega)
         have u6:decide ((k:Int)≤4)=true:=decide_eq_true (by omega)
         have g5:(0:Int)≤(k:Int):=by omega
         have g6:(k:Int)<(cl.length:Int):=by omega
         obtain ⟨b5,off5,rfl⟩:=HA9.out.ptr (by omega)
         have hu9:Hid (∀ b∈F8,b<w8.heap.size):=HU8.out
         have HAr:Hid (Arr wr (StrR wr) cl (.slice (some ⟨b5,off5,none⟩) cl.length cap8) F8):=ArrStr.mono HA9.out (HCk.out.kept (fun b hb=>by have:=hu9.out b hb;omega) (fun b hb=>by have:=hu9.out b hb;simp;omega))
         have HNr:Hid (Arr wr (StrR wr) names (.slice (some ⟨bN,offN,none⟩) names.length ncap) Fn):=ArrStr.mono HN9.out (HCk.out.kept (fun b hb=>by have:=hFn8.out b hb;omega) (fun b hb=>by have:=hFn8.out b hb;simp;omega))
         obtain ⟨hb5l,c0⟩:=ArrStr.at HAr.out (fun b hb=>by have:=hu9.out b hb;omega) (zy2 _ _) k hk1
         have hb5w:b5<w8.heap.size:=by
          obtain ⟨b',off',cs',G',e',hb',-⟩:=HAr.out.get (zAA wr) hk1
          cases e'
          exact hu9.out _ hb'
         have hb5n:w8.heap.size≠b5:=by omega
         have hm5:cl[k].size≤2000000:=Nat.le_trans (HCM.out _ (List.getElem_mem hk1)) hpz2
         have HF2:=jj (ktsTo_succ names cl k hk1)
         have hkl4:(ktsTo names cl k).length≤4:=Nat.le_trans (ktsTo_len names cl k) hk2
         have hmx:(ktsTo names cl k).length+1≤maxLen:=by unfold maxLen;omega
         have hby:((ktsTo names cl k).length+1)*48≤140737488355328:=by omega
         have hwr8:w8.heap.size+1≤wr.heap.size:=by omega
         have hb5w1:b5<w8.heap.size+1:=by omega
         have hHD8:w.heap.size≤w8.heap.size:=by omega
         have HCALL:=jj (spec_l1ParseCtor names cl[k] wr.drew _ Fn (ArrStr.mono (w:=wr) HNr.out (fun _ _=>rfl)) (fun b hb=>by have:=hFn8.out b hb;show b<wr.heap.size;omega) hm5)
         go_wp2_with fail
         generalize hpk:pkt names cl[k]=c at HCALL HF2
         clear hpk
         refine zA9 (S:=fun w'=>w'.cell? ⟨b5,off5+k,none⟩=some (.string cl[k])) (T:=fun w'=>w'.cell? ⟨w8,1,none⟩=some (.slice kA (ktsTo names cl k).length kcap)) (d:=9) (by kernel_rfl) ?_
         have hS1:wr.drew.cell? ⟨b5,off5+k,none⟩=some (.string cl[k]):=c0
         have hT1:wr.drew.cell? ⟨w8,1,none⟩=some (.slice kA (ktsTo names cl k).length kcap):=z1
         refine wV 0 rfl hS1 hT1 ?_
         (try simp only [Act.put,zz4,zz5,zz6])
         refine zAG (i:=1) (v:=?_) rfl (by decide) rfl (by kernel_rfl) (by kernel_rfl) (by kernel_rfl) (by kernel_rfl) (fun _ _ _ h=>h) (Or.inl ⟨by rfl,?hy1⟩) (by rfl) hS1 hT1 ?_
         case hy1=>(intro W hSw;(try dsimp only at hSw);go_simp;try with_reducible rfl)
         (try simp only [Act.put,zz4,zz5,zz6])
         refine wV 2 rfl hS1 hT1 ?_
         (try simp only [Act.put,zz4,zz5,zz6])
         refine wV 3 rfl hS1 hT1 ?_
         (try simp only [Act.put,zz4,zz5,zz6])
         refine wV 4 rfl hS1 hT1 ?_
         (try simp only [Act.put,zz4,zz5,zz6])
         refine wV 5 rfl hS1 hT1 ?_
         (try simp only [Act.put,zz4,zz5,zz6])
         refine wV 6 rfl hS1 hT1 ?_
         (try simp only [Act.put,zz4,zz5,zz6])
         refine w1 7 rfl fun K hK=>?_
         go_simp
         go_at_call 37
         with_reducible refine HCALL.out.mono ?_
         rintro e wA ⟨cs,G,rfl,hBA,hkA',hfrA,hfsA⟩
         obtain ⟨cA,ccap,rfl⟩:=KtR_form hkA'
         have hBu:=zAJ hBA
         have hS6:wA.cell? ⟨b5,off5+k,none⟩=some (.string cl[k]):=(hBu.cell hb5l).trans c0
         have z61:wA.cell? ⟨w8,1,none⟩=some (.slice kA (ktsTo names cl k).length kcap):=(hBu.cell hkz).trans z1
         have zf61:wA.frozen? ⟨w8,1,none⟩=false:=(hBu.frozen hkz).trans zf1
         have hkz6:w8.heap.size<wA.heap.size:=zz9 hkz hBu.size
         have HOA:Hid (Own wA (w8.heap.size+1) 67 3 KtR (ktsTo names cl k) (.slice kA (ktsTo names cl k).length kcap) Fk):=HOk.out.below (fun x cs G hk h=>KtR_mono' _ _ x cs G hk h) hBu
         have HKA:=jj hkA'
         have HfrA:=jj hfrA
         have HfsA:Hid (∀ b∈G,wr.heap.size≤b∧b<wA.heap.size):=hfsA
         clear hkA' hfrA hfsA
         dsimp only
         refine hK.out _ _ hS6 (fun _=>z61) ?_
         clear hK K
         (try simp only [Act.put,zz4,zz5,zz6])
         refine w1 8 rfl fun K hK=>?_
         go_simp
         refine hK.out _ _ ((World.cell?_alloc_lt _ _ _ (zz9 hb5l hBu.size)).trans hS6) (fun _=>(World.cell?_alloc_lt _ _ _ hkz6).trans z61) ?_
         clear hK K
         (try simp only [Act.put,zz4,zz5,zz6])
         refine w1 9 rfl fun K hK=>?_
         refine zAF (P:=Tryz.prog) rfl _ _ 62 rfl i0 _ 48 Tryz.underlying62 HI.out HZ0.out HZ1.out HZ2.out rfl (by decide) KtR_len' KtR_mono' (by rfl) HOA.out c 67 [.string c.name,.slice cA c.args.length ccap,c.idx] G _ (by rfl) rfl (by simp [Value.oneCell']) HKA.out (fun b hb=>(HfsA.out b hb).2) (fun g hg hG=>Nat.lt_irrefl _ (zz9 (HOk.out.row g hg).2 (HfsA.out g hG).1)) hmx hby (Nat.le_trans hwr8 hBu.size) ?_
         intro g cp w7 hown7 hgr7 hat7
         have s7:w7.cell? ⟨b5,off5+k,none⟩=some (.string cl[k]):=(World.cell?_of_block (a:=⟨b5,off5+k,none⟩) (grow_old HOk.out hBu hgr7 hb5w1 hb5l)).trans c0
         have z71:w7.cell? ⟨w8,1,none⟩=some (.slice kA (ktsTo names cl k).length kcap):=(World.cell?_of_block (a:=⟨w8,1,none⟩) (grow_old HOk.out hBu hgr7 (Nat.lt_succ_self _) hkz)).trans z1
         have zf71:w7.frozen? ⟨w8,1,none⟩=false:=(World.frozen?_of_block (a:=⟨w8,1,none⟩) (grow_old HOk.out hBu hgr7 (Nat.lt_succ_self _) hkz)).trans zf1
         refine hK.out _ _ s7 (fun _=>z71) ?_
         clear hK K
         (try simp only [Act.put,zz4,zz5,zz6])
         refine wV 10 rfl s7 z71 ?_
         (try simp only [Act.put,zz4,zz5,zz6])
         refine w1 11 rfl fun K hK=>?_
         go_simp
         refine hK.out _ _ ((World.cell?_setCell_far _ _ _ _ hb5n).trans s7) (fun h=>by cases h) ?_
         clear hK K
         (try simp only [Act.put,zz4,zz5,zz6])
         refine wE (by kernel_rfl) ?_
         all_goals (
          obtain ⟨r1,r2,r3,r4,r5,r6,r7⟩:=grow_round KtR_mono' hw9s KD.out HOk.out HFk.out HFkh.out HCk.out hB hHD8 (zz8 _) hBu HfrA.out HfsA.out hown7 hgr7
          have R1:=jj r1
          have R2:=jj r2
          have R3:=jj r3
          have R4:=jj r4
          have R5:=jj r5
          have R6:=jj r6
          clear r1 r2 r3 r4 r5 r6 hown7 hgr7 hat7 hS1 hT1 hS6 s7 z61 zf61 z0 z1 zf1 z71 zf71 HOA HKA HfrA HfsA hBu hBA hkz6
          go_wp2
          go_roundw
          case rel=>exact ⟨k+1,_,Fk ++ G,hk1,Nat.succ_le_succ hk2,by go_num,R1,by rw [HF2.out];exact R2.out,R3,R4,R5,R6.out,r7⟩
          case measure=>(simp [intOf] <;> omega))
        ·have hpd:Hid (pdt (namesOf ps) ps[i]=⟨ps[i].1,ktsTo names cl k⟩):=by
          unfold Hid pdt
          rw [HNM.out,HCL.out,ktsTo_all names cl hk5 (by omega)]
         have HF2:=jj (dtsTo_succ ps i hil)
         have hdl:(dtsTo ps i).length≤5:=Nat.le_trans (dtsTo_len ps i) (by omega)
         have hOr:Hid (Own wr w.heap.size 64 2 DtR (dtsTo ps i) u4 Fo):=Own.mono (w:=w9) (fun x cs G hk h=>DtR_mono' _ _ x cs G hk h) HO9.out (HCk.out.kept (fun b hb=>by have:=HB8.out b hb;omega) (fun b hb=>by have:=HB8.out b hb;simp;omega)) HCk.out.size
         have hFrr:Hid (Free wr Fo):=HFr9.out.kept (HCk.out.kept (fun b hb=>by have:=HB8.out b (List.mem_append.2 (.inr hb));omega) (fun b hb=>by have:=HB8.out b (List.mem_append.2 (.inr hb));simp;omega))
         have hCr:Hid (Chg [w.heap.size] w6 wr):=HC9.out.trans_new HCk.out hw68
         have harr:=HOk.out.arr
         have hfree:=HOk.out.free HFk.out
         have hrk:=HOk.out.row
         have hff:∀ b∈(if ktsTo names cl k=[] then [] else rowOf (.slice kA (ktsTo names cl k).length kcap) ++ Fk),w8.heap.size+1≤b∧b<wr.heap.size:=fun b hb=>by
          split at hb
          ·cases hb
          ·rcases List.mem_append.1 hb with h | h
           ·exact hrk b h
           ·exact ⟨HFkh.out b h,HOk.out.under b h⟩
         generalize (if ktsTo names cl k=[] then [] else rowOf (.slice kA (ktsTo names cl k).length kcap) ++ Fk)=FF at harr hfree hff
         have HFF:=jj hff
         have HFREE:=jj hfree
         have HDX:Hid (DtR wr ⟨ps[i].1,ktsTo names cl k⟩ [.string ps[i].1,.slice kA (ktsTo names cl k).length kcap] FF):=⟨_,rfl,harr,(show ps[i].1.size≤9223372036854775807 by omega)⟩
         clear harr hfree hrk hff HOk HFk HFkh HO9 HFr9 HC9 HN9 HA9 HU8
         have hbs:w.heap.size≤wr.heap.size:=hB.size
         by_cases hk5':k<cl.length
         have u5:decide ((k:Int)<(cl.length:Int))=true:=decide_eq_true (by omega)
         have u6:decide ((k:Int)≤4)=false:=decide_eq_false (by omega)
         rotate_left
         have u5:decide ((k:Int)<(cl.length:Int))=false:=decide_eq_false (by omega)
         rotate_left
         all_goals (
          clear hlt
          go_wp2_with (at_builtin;refine Halt.mk ?_)
          refine Halt.of (zA5 (P:=Tryz.prog) rfl _ _ 23 rfl m0 _ 40 Tryz.underlying23 HM.out HM0.out HM1.out HM2.out rfl (by decide) DtR_len' DtR_mono' (by rfl) hOr.out ⟨ps[i].1,ktsTo names cl k⟩ 64 [.string ps[i].1,.slice kA (ktsTo names cl k).length kcap] FF _ (by rfl) (by simp) (by simp [Value.oneCell']) HDX.out (fun b hb=>(HFF.out b hb).2) (fun g hg hG=>by have h1:=HB8.out g (List.mem_append.2 (.inl hg));have h2:=(HFF.out g hG).1;omega) (by unfold maxLen;omega) (by omega) hbs ?_)
          intro g cp w7 hown7 hgr7 hat7
          obtain ⟨r1,r2,r3,r4,r5,r6⟩:=push_round (n:=(dtsTo ps i).length+1) (cp:=cp) hOr.out hFrr.out HFREE.out HB8.out HFF.out HR.out hCr.out hB (zz8 _) HFh.out hw68 hgr7 hat7
          have HFr7:=jj r1
          have HFh7:=jj r2
          have HR7:=jj r3
          have HC7:=jj r4
          have HB7:=jj r5
          clear r1 r2 r3 r4 r5
          have HO7:=jj hown7
          have HEQ:Hid (dtsTo ps (i+1)=dtsTo ps i ++ [⟨ps[i].1,ktsTo names cl k⟩]):=by unfold Hid;rw [HF2.out,hpd.out]
          clear hown7 hgr7 hat7
          go_wp2
          go_roundw
          case rel=>exact ⟨i+1,Fo ++ FF,by omega,by go_num,by rw [HEQ.out];exact HO7.out,HFr7,HFh7,HR7,HC7,HB7.out,r6⟩
          case measure=>(simp [intOf] <;> omega))
      ·have HPS:Hid (parseS text=some (dtsTo ps i)):=by unfold Hid;rw [HPS0.out,dtsTo_all ps (by omega)]
       have u3:decide ((i:Int)<(names.length:Int))=false:=decide_eq_false (by have:=HNL.out;omega)
       have HFh2:Hid (∀ b∈Fo,w.heap.size≤b):=fun b hb=>by have:=HFh.out b hb;omega
       clear HFh
       have HFh:=HFh2
       have hil3:¬i<names.length:=by have:=HNL.out;omega
       clear HFh2 hil
       have harr:=HO.out.arr
       have hfree:=HO.out.free HFr.out
       have hfresh:=Own.fresh (w0:=w) HO.out (zz8 _) HFh.out
       generalize (if (dtsTo ps i)=[] then [] else rowOf (u4) ++ Fo)=FF at harr hfree hfresh
       have HARR:=jj harr
       have HFREE:=jj hfree
       have HFRESH:=jj hfresh
       clear harr hfree hfresh HO HFr HFh
       generalize hxx:(dtsTo ps i)=xx at *
       clear hxx
       go_wp2_with fail
       refine (zAL xx wr _ FF HARR.out HFRESH.out.under).mono ?_
       rintro e w8 ⟨rfl,hb8⟩
       have hB8:=hB.trans (hb8.mono hB.size)
       cases e1:worldOk xx with
       |false =>
        have HNO:=jj (parseB_no HPS.out e1)
        clear e1
        have hfin:GivesWorld w (parseB text) (.returned (.tuple #[.slice (some ⟨w8,0,none⟩) 0 0,.bool false])) (w8.alloc (.cells #[] 64)):=by
         rw [HNO.out]
         exact ⟨_,[],rfl,hB8.alloc hB8.size _,⟨_,_,rfl,by simp,by simp [maxLen],.inl ⟨rfl,rfl⟩⟩,Free.nil _,Fresh.nil _ _⟩
        have HFin:=jj hfin
        clear hfin
        go_wp2
        go_ret2
        exact HFin.out
       |true =>
        have HW:=jj (worldOK e1)
        have HE1:=jj e1
        clear e1
        have HA8:=jj (ArrDt.below HARR.out hb8 HFRESH.out.under)
        have hF8:=jj (HFRESH.out.under.mono hb8.size)
        go_wp2_with fail
        refine (spec_l1Text xx HW.out w8 _ FF HA8.out hF8.out).mono ?_
        rintro e w9 ⟨rfl,hb9⟩
        have hB9:=hB8.trans (hb9.mono hB8.size)
        have hb89:=hb8.trans (hb9.mono hb8.size)
        generalize htt:bs (textT xx)=tt
        cases e2:(tt.toList==text.toList) with
        |true =>
         have HYES:Hid (parseB text=some xx):=parseB_yes HPS.out HE1.out (by rw [beq_iff_eq,zA2,zA2,←htt,zAC] at e2;exact e2)
         have hfin:GivesWorld w (parseB text) (.returned (.tuple #[u4,.bool true])) w9:=by
          rw [HYES.out]
          exact ⟨_,FF,rfl,hB9,ArrDt.below HARR.out hb89 HFRESH.out.under,HFREE.out.kept (.of_below hb89 HFRESH.out.under),fun b hb=>⟨(HFRESH.out b hb).1,zz9 (HFRESH.out b hb).2 hb89.size⟩⟩
         have HFin:=jj hfin
         clear hfin htt
         go_wp2
         go_ret2
         exact HFin.out
        |false =>
         have HNO:Hid (parseB text=none):=parseB_text HPS.out (fun h=>by rw [beq_eq_false_iff_ne,zA2,zA2,←htt,zAC] at e2;exact e2 h)
         clear htt
         have hfin:GivesWorld w (parseB text) (.returned (.tuple #[.slice (some ⟨w9,0,none⟩) 0 0,.bool false])) (w9.alloc (.cells #[] 64)):=by
          rw [HNO.out]
          exact ⟨_,[],rfl,hB9.alloc hB9.size _,⟨_,_,rfl,by simp,by simp [maxLen],.inl ⟨rfl,rfl⟩⟩,Free.nil _,Fresh.nil _ _⟩
         have HFin:=jj hfin
         clear hfin
         go_wp2
         go_ret2
         exact HFin.out)
theorem worldGo_new {n:Int}:∀ {ys:List Dt} {datas met:List ByteArray},worldGo n datas met ys=true→(∀ x∈ys,nameIn datas x.name=false)∧ys.Pairwise (fun x y=>x.name≠y.name)
 |[],_,_,_=>⟨(fun x hx=>by cases hx),List.Pairwise.nil⟩
 |y :: ys,datas,met,h=>by
  simp only [worldGo,Bool.and_eq_true,Bool.not_eq_true'] at h
  obtain ⟨i1,i2⟩:=worldGo_new h.2.2.2.2
  have hs:∀ x∈ys,nameIn datas x.name=false∧y.name≠x.name:=fun x hx=>by
   have h1:=i1 x hx
   unfold nameIn at h1 ⊢
   rw [List.any_append,Bool.or_eq_false_iff] at h1
   refine ⟨h1.1,fun e=>?_⟩
   have h2:=h1.2
   simp [e] at h2
  refine ⟨fun x hx=>?_,List.Pairwise.cons (fun x hx=>(hs x hx).2) i2⟩
  rcases List.mem_cons.1 hx with rfl | hx
  ·exact h.2.1
  ·exact (hs x hx).1
theorem name_inj {xs:List Dt} (h:worldOk xs=true) {d e:Nat} (hd:d<xs.length) (he:e<xs.length) (hn:xs[d].name=xs[e].name):d=e:=by
 unfold worldOk at h
 rw [Bool.and_eq_true] at h
 have hp:=List.pairwise_iff_getElem.1 (worldGo_new h.2).2
 rcases Nat.lt_trichotomy d e with h1 | h1 | h1
 ·exact absurd hn (hp d e hd he h1)
 ·exact h1
 ·exact absurd hn.symm (hp e d he hd h1)
def Let (b:UInt8):Prop:=65≤b.toNat∧b.toNat≤122
def Tyb (b:UInt8):Prop:=(65≤b.toNat∧b.toNat≤122)∨b.toNat=42∨(48≤b.toNat∧b.toNat≤57)
theorem nameOk_Let {l:List UInt8} (h:nameOk l=true):l≠[]∧∀ b∈l,Let b:=by
 cases l with
 |nil=>cases h
 |cons c l =>
  rw [nameOk_cons] at h
  simp only [Bool.and_eq_true,decide_eq_true_eq] at h
  refine ⟨by simp,fun b hb=>?_⟩
  rcases List.mem_cons.1 hb with rfl | hb
  ·exact ⟨h.1.2.1,by omega⟩
  ·have h2:=h.2
   unfold lowerAll at h2
   have h3:=List.all_eq_true.1 h2 b hb
   simp only [Bool.and_eq_true,decide_eq_true_eq,UInt8.le_iff_toNat_le] at h3
   have h4:(97:UInt8).toNat=97:=rfl
   have h5:(122:UInt8).toNat=122:=rfl
   exact ⟨by omega,by omega⟩
theorem dname_Let {s:ByteArray} (h:dnameOk (tl s)=true):∃ c:UInt8,tl s=[c]∧c≠73∧Let c:=by
 unfold dnameOk at h
 split at h
 ·rename_i c heq
  simp only [Bool.and_eq_true,bigB,decide_eq_true_eq,Bool.not_eq_true',beq_eq_false_iff_ne] at h
  exact ⟨c,heq,h.2,by unfold Let;omega⟩
 ·cases h
theorem idxT_Tyb {i:Int} (h0:-1≤i) (h3:i≤3):∀ b∈idxT i,Tyb b:=by
 obtain ⟨a,ha⟩:=Int.eq_ofNat_of_zero_le (show 0≤i+1 by omega)
 have key:∀ x:Fin 5,∀ b∈idxT ((x.1:Int)-1),(65≤b.toNat∧b.toNat≤122)∨b.toNat=42∨(48≤b.toNat∧b.toNat≤57):=by decide
 have:=key ⟨a,by omega⟩
 rwa [show (a:Int)-1=i by omega] at this
theorem tyT_shape {xs:List Dt} (hW:WorldOK xs) {s:Ty} (hs:argOkB xs.length s=true):(s=⟨-1,0⟩∧tyT xs s=[73])∨∃ (d:Nat) (hd:d<xs.length) (c:UInt8),s.d=(d:Int) ∧ -1≤s.i∧s.i≤3∧tl xs[d].name=[c]∧c≠73∧Let c∧tyT xs s=c :: idxT s.i:=by
 obtain ⟨sd,si⟩:=s
 by_cases e:sd = -1
 ·left
  unfold argOkB at hs
  rw [if_pos e] at hs
  have hi:si=0:=by simpa using hs
  subst e hi
  exact ⟨rfl,rfl⟩
 ·right
  have hin:=argOkB_in hs
  unfold argOkB at hs
  rw [if_neg e] at hs
  simp only [withinB,Bool.and_eq_true,decide_eq_true_eq] at hs
  rcases hin with h1 | ⟨d,h1,hd⟩
  ·exact absurd h1 e
  ·obtain ⟨c,hc,hc73,hl⟩:=dname_Let (hW.at hd).name
   simp only at h1
   refine ⟨d,hd,c,h1,hs.2.1,hs.2.2,hc,hc73,hl,?_⟩
   unfold tyT
   rw [if_neg e,h1,nameAt_get hd,hc]
   rfl
theorem tyT_Tyb {xs:List Dt} (hW:WorldOK xs) {s:Ty} (hs:argOkB xs.length s=true):∀ b∈tyT xs s,Tyb b:=by
 rcases tyT_shape hW hs with ⟨-,e⟩ | ⟨d,hd,c,-,h0,h3,-,-,hl,e⟩
 ·rw [e];intro b hb;rw [zy1] at hb;subst hb;exact .inl (by decide)
 ·rw [e];intro b hb
  rcases List.mem_cons.1 hb with rfl | hb
  ·exact .inl hl
  ·exact idxT_Tyb h0 h3 b hb
/-! ### Constructors -/
theorem joinTail_cons (sep x:List UInt8) (r:List (List UInt8)):Lib.joinTail sep (x :: r)=sep ++ x ++ Lib.joinTail sep r:=by simp [Lib.joinTail]
theorem join_of {α:Type} (f:α→List UInt8) (g:Bool→List α→List UInt8) (s:UInt8) (h0:∀ b,g b []=[]) (h1:∀ x l,g true (x :: l)=f x ++ g false l) (h2:∀ x l,g false (x :: l)=s :: (f x ++ g false l)) (l:List α):Lib.join (l.map f) [s]=g true l:=by
 have key:∀ l:List α,Lib.joinTail [s] (l.map f)=g false l:=by
  intro l
  induction l with
  |nil=>rw [h0];rfl
  |cons x l ih=>rw [List.map_cons,joinTail_cons,ih,h2];rfl
 cases l with
 |nil=>rw [h0];rfl
 |cons x l=>rw [List.map_cons,Lib.join_cons,key,h1]
def listedT (ls:List ByteArray):List UInt8:=if ls=[] then [] else 40 :: (Lib.join (ls.map tl) [44] ++ [41])
def tyB (xs:List Dt) (t:Ty):ByteArray:=bs (tyT xs t)
def ktB (xs:List Dt) (c:Kt):ByteArray:=bs (ktT xs c)
def dtT (xs:List Dt) (x:Dt):List UInt8:=tl x.name ++ (61 :: ktsT xs true x.ctors)
def dtB (xs:List Dt) (x:Dt):ByteArray:=bs (dtT xs x)
theorem map_tl_bs {α:Type} (f:α→List UInt8) (l:List α):(l.map fun x=>bs (f x)).map tl=l.map f:=by rw [List.map_map];rfl
theorem argsT_join (xs:List Dt) (a:Ty) (l:List Ty):argsT xs true (a :: l)=40 :: Lib.join ((a :: l).map (tyT xs)) [44]:=by
 have h:=join_of (tyT xs) (fun b l=>if b=true then (match l with | []=>[] | x :: l=>tyT xs x ++ argsT xs false l) else argsT xs false l) 44 (fun b=>by cases b <;> rfl) (fun x l=>rfl) (fun x l=>rfl) (a :: l)
 rw [h];rfl
theorem listedT_args (xs:List Dt) (c:Kt):listedT (c.args.map (tyB xs))=argsT xs true c.args ++ closeT c:=by
 unfold listedT closeT tyB
 cases hl:c.args with
 |nil=>rfl
 |cons a l =>
  rw [if_neg (by simp),if_pos (by simp),map_tl_bs,argsT_join]
  rfl
theorem ktT_listed (xs:List Dt) (c:Kt):tl c.name ++ (listedT (c.args.map (tyB xs)) ++ endT c)=ktT xs c:=by
 rw [listedT_args];unfold ktT;rw [List.append_assoc];rfl
theorem ktsT_join (xs:List Dt) (l:List Kt):Lib.join ((l.map (ktB xs)).map tl) [124]=ktsT xs true l:=by
 unfold ktB
 rw [map_tl_bs]
 exact join_of (ktT xs) (ktsT xs) 124 (fun b=>by cases b <;> rfl) (fun x l=>by simp [ktsT]) (fun x l=>by simp [ktsT]) l
theorem textT_join (xs:List Dt) (l:List Dt):Lib.join ((l.map (dtB xs)).map tl) [59]=dtsT xs true l:=by
 unfold dtB
 rw [map_tl_bs]
 exact join_of (dtT xs) (dtsT xs) 59 (fun b=>by cases b <;> rfl) (fun x l=>by simp [dtsT,dtT,tl]) (fun x l=>by simp [dtsT,dtT,tl]) l
theorem dtT_kts (xs:List Dt) (x:Dt):tl x.name ++ (61 :: Lib.join ((x.ctors.map (ktB xs)).map tl) [124])=dtT xs x:=by rw [ktsT_join];rfl
def Okb (b:UInt8):Prop:=b.toNat≠59∧b.toNat≠124
theorem Okb.ofLet {b:UInt8} (h:Let b):Okb b:=by unfold Let at h;unfold Okb;omega
theorem Okb.ofTyb {b:UInt8} (h:Tyb b):Okb b:=by unfold Tyb at h;unfold Okb;omega
theorem argsT_Okb {xs:List Dt} (hW:WorldOK xs):∀ (l:List Ty) (b:Bool),(∀ a∈l,argOkB xs.length a=true)→∀ x∈argsT xs b l,Okb x
 |[],_,_,x,hx=>by simp [argsT] at hx
 |a :: l,b,hl,x,hx=>by
  simp only [argsT] at hx
  rcases List.mem_cons.1 hx with rfl | hx
  ·cases b <;> (unfold Okb;decide)
  ·rcases List.mem_append.1 hx with hx | hx
   ·exact Okb.ofTyb (tyT_Tyb hW (hl a (by simp)) x hx)
   ·exact argsT_Okb hW l false (fun y hy=>hl y (by simp [hy])) x hx
theorem endT_Okb {c:Kt} (h0:0≤c.idx) (h3:c.idx≤3):∀ x∈endT c,Okb x:=by
 unfold endT
 split
 ·obtain ⟨a,ha⟩:=Int.eq_ofNat_of_zero_le h0
  have key:∀ y:Fin 4,∀ x∈58 :: digT (y.1:Int),x.toNat≠59∧x.toNat≠124:=by decide
  have:=key ⟨a,by omega⟩
  rw [ha]
  exact this
 ·intro x hx;cases hx
theorem ktT_Okb {xs:List Dt} (hW:WorldOK xs) {c:Kt} (hc:KtOk xs.length c):∀ x∈ktT xs c,Okb x:=by
 intro x hx
 unfold ktT at hx
 rcases List.mem_append.1 hx with hx | hx
 ·exact Okb.ofLet ((nameOk_Let hc.name).2 x hx)
 ·rcases List.mem_append.1 hx with hx | hx
  ·exact argsT_Okb hW _ _ hc.all x hx
  ·rcases List.mem_append.1 hx with hx | hx
   ·unfold closeT at hx
    split at hx
    ·rw [zy1] at hx;subst hx;unfold Okb;decide
    ·cases hx
   ·exact endT_Okb hc.lo hc.hi x hx
theorem ktsT_ne59 {xs:List Dt} (hW:WorldOK xs):∀ (l:List Kt) (b:Bool),(∀ c∈l,KtOk xs.length c)→∀ x∈ktsT xs b l,x.toNat≠59
 |[],_,_,x,hx=>by simp [ktsT] at hx
 |c :: l,b,hl,x,hx=>by
  simp only [ktsT] at hx
  rcases List.mem_append.1 hx with hx | hx
  ·cases b with
   |true=>simp at hx
   |false=>simp at hx;subst hx;decide
  ·rcases List.mem_append.1 hx with hx | hx
   ·exact (ktT_Okb hW (hl c (by simp)) x hx).1
   ·exact ktsT_ne59 hW l false (fun y hy=>hl y (by simp [hy])) x hx
theorem dtT_ne59 {xs:List Dt} (hW:WorldOK xs) {x:Dt} (hx:DtOk xs.length x):∀ b∈dtT xs x,b.toNat≠59:=by
 intro b hb
 unfold dtT at hb
 obtain ⟨c,hc,-,hl⟩:=dname_Let hx.name
 rw [hc] at hb
 rcases List.mem_append.1 hb with hb | hb
 ·rw [zy1] at hb;subst hb;unfold Let at hl;omega
 ·rcases List.mem_cons.1 hb with rfl | hb
  ·decide
  ·exact ktsT_ne59 hW _ _ hx.all b hb
theorem dtsF_cons (xs:List Dt) (x:Dt) (l:List Dt):dtsT xs false (x :: l)=59 :: (dtT xs x ++ dtsT xs false l):=by simp [dtsT,dtT,tl]
theorem dtsTr_cons (xs:List Dt) (x:Dt) (l:List Dt):dtsT xs true (x :: l)=dtT xs x ++ dtsT xs false l:=by simp [dtsT,dtT,tl]
/-! ### Worlds with the same names write types alike -/
theorem zAK {c:UInt8}:∀ (a cur r:List UInt8),(∀ x∈a,x≠c)→cutGo c cur (a ++ r)=cutGo c (cur ++ a) r
 |[],cur,r,_=>by simp
 |x :: a,cur,r,h=>by
  rw [List.cons_append,cutGo,if_neg (h x (by simp)),zAK a _ r (fun y hy=>h y (by simp [hy])),List.append_assoc];rfl
theorem cutGo_nil {c:UInt8} (cur:List UInt8):cutGo c cur []=[cur]:=rfl
theorem cutGo_at {c:UInt8} (cur r:List UInt8):cutGo c cur (c :: r)=cur :: cutGo c [] r:=by rw [cutGo,if_pos rfl]
theorem cutL_one {c:UInt8} {a:List UInt8} (h:∀ x∈a,x≠c):cutL c a=[a]:=by
 have:=zAK (c:=c) a [] [] h
 rw [List.append_nil,List.nil_append,cutGo_nil] at this
 exact this
theorem cutL_two {c:UInt8} {a b:List UInt8} (h:∀ x∈a,x≠c) (h':∀ x∈b,x≠c):cutL c (a ++ c :: b)=[a,b]:=by
 unfold cutL
 rw [zAK a [] _ h,List.nil_append,cutGo_at]
 have:=cutL_one h'
 unfold cutL at this
 rw [this]
theorem ne_of_toNat {x c:UInt8} (h:x.toNat≠c.toNat):x≠c:=fun e=>h (by rw [e])
theorem cut_dts {xs:List Dt} (hW:WorldOK xs):∀ (l:List Dt) (cur:List UInt8),(∀ x∈l,DtOk xs.length x)→cutGo 59 cur (dtsT xs false l)=cur :: l.map (dtT xs)
 |[],cur,_=>rfl
 |x :: l,cur,h=>by
  rw [dtsF_cons,cutGo_at,zAK _ _ _ (fun b hb=>ne_of_toNat (c:=59) (dtT_ne59 hW (h x (by simp)) b hb)),List.nil_append,cut_dts hW l _ (fun y hy=>h y (by simp [hy]))]
  rfl
theorem cutL_dts {xs:List Dt} (hW:WorldOK xs) {l:List Dt} (h0:l≠[]) (h:∀ x∈l,DtOk xs.length x):cutL 59 (dtsT xs true l)=l.map (dtT xs):=by
 cases l with
 |nil=>exact absurd rfl h0
 |cons x l =>
  unfold cutL
  rw [dtsTr_cons,zAK _ _ _ (fun b hb=>ne_of_toNat (c:=59) (dtT_ne59 hW (h x (by simp)) b hb)),List.nil_append,cut_dts hW l _ (fun y hy=>h y (by simp [hy]))]
  rfl
theorem ktsF_cons (xs:List Dt) (c:Kt) (l:List Kt):ktsT xs false (c :: l)=124 :: (ktT xs c ++ ktsT xs false l):=by simp [ktsT]
theorem ktsTr_cons (xs:List Dt) (c:Kt) (l:List Kt):ktsT xs true (c :: l)=ktT xs c ++ ktsT xs false l:=by simp [ktsT]
theorem cut_kts {xs:List Dt} (hW:WorldOK xs):∀ (l:List Kt) (cur:List UInt8),(∀ x∈l,KtOk xs.length x)→cutGo 124 cur (ktsT xs false l)=cur :: l.map (ktT xs)
 |[],cur,_=>rfl
 |x :: l,cur,h=>by
  rw [ktsF_cons,cutGo_at,zAK _ _ _ (fun b hb=>ne_of_toNat (c:=124) (ktT_Okb hW (h x (by simp)) b hb).2),List.nil_append,cut_kts hW l _ (fun y hy=>h y (by simp [hy]))]
  rfl
theorem cutL_kts {xs:List Dt} (hW:WorldOK xs) {l:List Kt} (h0:1≤l.length) (h:∀ x∈l,KtOk xs.length x):cutL 124 (ktsT xs true l)=l.map (ktT xs):=by
 cases l with
 |nil=>simp at h0
 |cons x l =>
  unfold cutL
  rw [ktsTr_cons,zAK _ _ _ (fun b hb=>ne_of_toNat (c:=124) (ktT_Okb hW (h x (by simp)) b hb).2),List.nil_append,cut_kts hW l _ (fun y hy=>h y (by simp [hy]))]
  rfl
/-! ### bytes that do not stand in a constructor's text -/
theorem Let.ne {b c:UInt8} (h:Let b) (hc:c.toNat<65∨122<c.toNat):b≠c:=ne_of_toNat (by unfold Let at h;omega)
theorem Tyb.ne {b c:UInt8} (h:Tyb b) (hc:c.toNat=40∨c.toNat=41∨c.toNat=44∨c.toNat=58∨c.toNat=61):b≠c:=ne_of_toNat (by unfold Tyb at h;omega)
theorem argsT_mem {xs:List Dt} (hW:WorldOK xs):∀ (l:List Ty),(∀ a∈l,argOkB xs.length a=true)→∀ x∈argsT xs false l,x=44∨Tyb x
 |[],_,x,hx=>by simp [argsT] at hx
 |a :: l,hl,x,hx=>by
  simp only [argsT,Bool.false_eq_true,if_false] at hx
  rcases List.mem_cons.1 hx with rfl | hx
  ·exact .inl rfl
  ·rcases List.mem_append.1 hx with hx | hx
   ·exact .inr (tyT_Tyb hW (hl a (by simp)) x hx)
   ·exact argsT_mem hW l (fun y hy=>hl y (by simp [hy])) x hx
theorem cut_args {xs:List Dt} (hW:WorldOK xs):∀ (l:List Ty) (cur:List UInt8),(∀ x∈l,argOkB xs.length x=true)→cutGo 44 cur (argsT xs false l)=cur :: l.map (tyT xs)
 |[],cur,_=>rfl
 |x :: l,cur,h=>by
  simp only [argsT,Bool.false_eq_true,if_false]
  rw [cutGo_at,zAK _ _ _ (fun b hb=>(tyT_Tyb hW (h x (by simp)) b hb).ne (by decide)),List.nil_append,cut_args hW l _ (fun y hy=>h y (by simp [hy]))]
  rfl
/-! ### names -/
theorem findGo_at:∀ (names:List (List UInt8)) (i d:Nat) (hd:d<names.length),names.Pairwise (·≠·)→findGo names[d] i names=((i+d:Nat):Int)
 |[],_,d,hd,_=>by simp at hd
 |x :: names,i,0,_,_=>by simp [findGo]
 |x :: names,i,d+1,hd,hp=>by
  rw [List.pairwise_cons] at hp
  have hd':d<names.length:=by simpa using hd
  have hne:x≠names[d]:=hp.1 _ (List.getElem_mem hd')
  rw [zz3,findGo,if_neg hne,findGo_at names (i+1) d hd' hp.2]
  congr 1;omega
theorem names_apart {xs:List Dt} (h:worldOk xs=true):(xs.map fun x=>tl x.name).Pairwise (·≠·):=by
 unfold worldOk at h
 rw [Bool.and_eq_true] at h
 rw [List.pairwise_map]
 exact (worldGo_new h.2).2.imp fun hn e=>hn (tl_inj e)
theorem idxOf_idxT {i:Int} (h0:-1≤i) (h3:i≤3):idxOf (idxT i)=i:=by
 obtain ⟨a,ha⟩:=Int.eq_ofNat_of_zero_le (show 0≤i+1 by omega)
 have key:∀ x:Fin 5,idxOf (idxT ((x.1:Int)-1))=(x.1:Int)-1:=by decide
 have:=key ⟨a,by omega⟩
 rwa [show (a:Int)-1=i by omega] at this
theorem parseTy_tyT {xs:List Dt} (hw:worldOk xs=true) (hW:WorldOK xs) {t:Ty} (ht:argOkB xs.length t=true):parseTy (xs.map fun x=>tl x.name) (tyT xs t)=t:=by
 rcases tyT_shape hW ht with ⟨rfl,e⟩ | ⟨d,hd,c,h1,h0,h3,hc,hc73,-,e⟩
 ·rw [e];rfl
 ·rw [e]
  have hdm:d<(xs.map fun x=>tl x.name).length:=by simpa using hd
  have hf:=findGo_at (xs.map fun x=>tl x.name) 0 d hdm (names_apart hw)
  rw [List.getElem_map,hc,Nat.zero_add] at hf
  obtain ⟨td,ti⟩:=t
  simp only at h1 h0 h3
  show (⟨findL _ [c],idxOf (idxT ti)⟩:Ty)=_
  unfold findL
  rw [if_neg (fun e=>hc73 (List.cons.inj e).1),hf,idxOf_idxT h0 h3,h1]
/-! ### constructors -/
def preT (xs:List Dt) (c:Kt):List UInt8:=tl c.name ++ (argsT xs true c.args ++ closeT c)
theorem ktT_pre (xs:List Dt) (c:Kt):ktT xs c=preT xs c ++ endT c:=by unfold ktT preT tl;simp [List.append_assoc]
theorem argsTr_cons (xs:List Dt) (a:Ty) (l:List Ty):argsT xs true (a :: l)=40 :: (tyT xs a ++ argsT xs false l):=by simp [argsT]
theorem preT_ne58 {xs:List Dt} (hW:WorldOK xs) {c:Kt} (hc:KtOk xs.length c):∀ x∈preT xs c,x≠58:=by
 intro x hx
 unfold preT at hx
 rcases List.mem_append.1 hx with hx | hx
 ·exact ((nameOk_Let hc.name).2 x hx).ne (by decide)
 ·rcases List.mem_append.1 hx with hx | hx
  ·cases ha:c.args with
   |nil=>rw [ha] at hx;cases hx
   |cons a l =>
    rw [ha,argsTr_cons] at hx
    have ok:∀ y∈a :: l,argOkB xs.length y=true:=fun y hy=>hc.all y (by rw [ha];exact hy)
    rcases List.mem_cons.1 hx with rfl | hx
    ·decide
    ·rcases List.mem_append.1 hx with hx | hx
     ·exact (tyT_Tyb hW (ok a (by simp)) x hx).ne (by decide)
     ·rcases argsT_mem hW l (fun y hy=>ok y (by simp [hy])) x hx with rfl | h
      ·decide
      ·exact h.ne (by decide)
  ·unfold closeT at hx
   split at hx
   ·rw [zy1] at hx;subst hx;decide
   ·cases hx
theorem parseBody_pre {xs:List Dt} (hw:worldOk xs=true) (hW:WorldOK xs) {c:Kt} (hc:KtOk xs.length c) (i:Int):parseBody (xs.map fun x=>tl x.name) i (preT xs c)=⟨c.name,c.args,i⟩:=by
 have hn:∀ x∈tl c.name,x≠40:=fun x hx=>((nameOk_Let hc.name).2 x hx).ne (by decide)
 unfold parseBody
 cases ha:c.args with
 |nil =>
  have e:preT xs c=tl c.name:=by unfold preT closeT;rw [ha];simp [argsT]
  rw [e,cutL_one hn]
  show (⟨bs (tl c.name),[],i⟩:Kt)=_
  rw [bs_tl]
 |cons a l =>
  have ok:∀ y∈a :: l,argOkB xs.length y=true:=fun y hy=>hc.all y (by rw [ha];exact hy)
  have e:preT xs c=tl c.name ++ 40 :: ((tyT xs a ++ argsT xs false l) ++ [41]):=by
   unfold preT closeT;rw [ha,argsTr_cons];simp
  have hp:∀ x∈(tyT xs a ++ argsT xs false l) ++ [41],x≠40:=fun x hx=>by
   rcases List.mem_append.1 hx with hx | hx
   ·rcases List.mem_append.1 hx with hx | hx
    ·exact (tyT_Tyb hW (ok a (by simp)) x hx).ne (by decide)
    ·rcases argsT_mem hW l (fun y hy=>ok y (by simp [hy])) x hx with rfl | h
     ·decide
     ·exact h.ne (by decide)
   ·rw [zy1] at hx;subst hx;decide
  rw [e,cutL_two hn hp]
  have hcut:cutL 44 (tyT xs a ++ argsT xs false l)=(a :: l).map (tyT xs):=by
   unfold cutL
   rw [zAK _ _ _ (fun b hb=>(tyT_Tyb hW (ok a (by simp)) b hb).ne (by decide)),List.nil_append,cut_args hW l _ (fun y hy=>ok y (by simp [hy]))]
   rfl
  have hlen:(a :: l).length≤3:=by rw [←ha];exact hc.args
  have hargs:parseArgs (xs.map fun x=>tl x.name) [tl c.name,(tyT xs a ++ argsT xs false l) ++ [41]]=a :: l:=by
   show (if _=[] then [] else _)=_
   rw [if_neg (by simp)]
   have ht:((tyT xs a ++ argsT xs false l) ++ [41]).take (((tyT xs a ++ argsT xs false l) ++ [41]).length-1)=tyT xs a ++ argsT xs false l:=by
    rw [List.length_append,List.length_singleton,Nat.add_sub_cancel,List.take_left']
    rfl
   rw [ht,hcut,List.take_of_length_le (by rw [List.length_map];omega),List.map_map]
   conv=>rhs;rw [←List.map_id (a :: l)]
   exact List.map_congr_left fun y hy=>parseTy_tyT hw hW (ok y hy)
  rw [hargs]
  show (⟨bs (tl c.name),a :: l,i⟩:Kt)=_
  rw [bs_tl]
theorem parseKt_ktT {xs:List Dt} (hw:worldOk xs=true) (hW:WorldOK xs) {c:Kt} (hc:KtOk xs.length c):parseKt (xs.map fun x=>tl x.name) (ktT xs c)=c:=by
 have hne:=(nameOk_Let hc.name).1
 have hpl:1≤(preT xs c).length:=by
  unfold preT
  rw [List.length_append]
  have:(tl c.name).length≠0:=fun h=>hne (List.length_eq_zero_iff.1 h)
  omega
 rw [ktT_pre]
 unfold parseKt
 by_cases hi:0<c.idx
 ·have he:endT c=[58,UInt8.ofNat (48+c.idx.toNat)]:=by unfold endT digT;rw [if_pos hi]
  have h3:=hc.hi
  have hx:hasIdx (preT xs c ++ endT c)=true:=by
   unfold hasIdx
   rw [he,Bool.and_eq_true,decide_eq_true_eq,decide_eq_true_eq,List.length_append]
   refine ⟨by simp;omega,?_⟩
   simp [List.getD_eq_getElem?_getD,List.getElem?_append]
  rw [if_pos hx,he]
  have h1:(preT xs c ++ [58,UInt8.ofNat (48+c.idx.toNat)]).take ((preT xs c ++ [58,UInt8.ofNat (48+c.idx.toNat)]).length-2)=preT xs c:=by
   rw [List.length_append];simp
  have h2:(preT xs c ++ [58,UInt8.ofNat (48+c.idx.toNat)]).getD ((preT xs c ++ [58,UInt8.ofNat (48+c.idx.toNat)]).length-1) 0=UInt8.ofNat (48+c.idx.toNat):=by
   rw [List.length_append]
   simp [List.getD_eq_getElem?_getD,List.getElem?_append]
  rw [h1,h2,parseBody_pre hw hW hc]
  have h5:((UInt8.ofNat (48+c.idx.toNat)).toNat:Int)-48=c.idx:=by
   rw [UInt8.toNat_ofNat']
   omega
  rw [h5]
 ·have he:endT c=[]:=by unfold endT;rw [if_neg hi]
  have h0:=hc.lo
  rw [he,List.append_nil]
  have hx:hasIdx (preT xs c)=false:=by
   unfold hasIdx
   rw [Bool.and_eq_false_iff]
   by_cases hl:2<(preT xs c).length
   ·right
    rw [decide_eq_false_iff_not]
    have hlt:(preT xs c).length-2<(preT xs c).length:=by omega
    rw [List.getD_eq_getElem?_getD,List.getElem?_eq_getElem hlt]
    exact preT_ne58 hW hc _ (List.getElem_mem hlt)
   ·left;rw [decide_eq_false_iff_not];exact hl
  rw [if_neg (by simp [hx]),parseBody_pre hw hW hc]
  have h5:c.idx=0:=by omega
  obtain ⟨n,a,ix⟩:=c
  simp only at h5
  rw [h5]
/-! ### worlds -/
theorem ktT_ne61 {xs:List Dt} (hW:WorldOK xs):∀ (l:List Kt) (b:Bool),(∀ c∈l,KtOk xs.length c)→∀ x∈ktsT xs b l,x≠61
 |[],_,_,x,hx=>by simp [ktsT] at hx
 |c :: l,b,hl,x,hx=>by
  simp only [ktsT] at hx
  have hc:=hl c (by simp)
  rcases List.mem_append.1 hx with hx | hx
  ·cases b with
   |true=>simp at hx
   |false=>simp at hx;subst hx;decide
  ·rcases List.mem_append.1 hx with hx | hx
   ·rw [ktT_pre] at hx
    rcases List.mem_append.1 hx with hx | hx
    ·unfold preT at hx
     rcases List.mem_append.1 hx with hx | hx
     ·exact ((nameOk_Let hc.name).2 x hx).ne (by decide)
     ·rcases List.mem_append.1 hx with hx | hx
      ·cases ha:c.args with
       |nil=>rw [ha] at hx;cases hx
       |cons a m =>
        rw [ha,argsTr_cons] at hx
        have ok:∀ y∈a :: m,argOkB xs.length y=true:=fun y hy=>hc.all y (by rw [ha];exact hy)
        rcases List.mem_cons.1 hx with rfl | hx
        ·decide
        ·rcases List.mem_append.1 hx with hx | hx
         ·exact (tyT_Tyb hW (ok a (by simp)) x hx).ne (by decide)
         ·rcases argsT_mem hW m (fun y hy=>ok y (by simp [hy])) x hx with rfl | h
          ·decide
          ·exact h.ne (by decide)
      ·unfold closeT at hx
       split at hx
       ·rw [zy1] at hx;subst hx;decide
       ·cases hx
    ·unfold endT at hx
     split at hx
     ·obtain ⟨a,ha⟩:=Int.eq_ofNat_of_zero_le hc.lo
      have key:∀ y:Fin 4,∀ x∈58 :: digT (y.1:Int),x≠61:=by decide
      have h3:=hc.hi
      have:=key ⟨a,by omega⟩
      rw [ha] at hx
      exact this x hx
     ·cases hx
   ·exact ktT_ne61 hW l false (fun y hy=>hl y (by simp [hy])) x hx
theorem cutL_dt {xs:List Dt} (hW:WorldOK xs) {x:Dt} (hx:DtOk xs.length x):cutL 61 (dtT xs x)=[tl x.name,ktsT xs true x.ctors]:=by
 obtain ⟨c,hc,-,hl⟩:=dname_Let hx.name
 unfold dtT
 refine cutL_two (fun b hb=>?_) (ktT_ne61 hW _ _ hx.all)
 rw [hc,zy1] at hb
 subst hb
 exact hl.ne (by decide)
theorem splitGo_dts {xs:List Dt} (hW:WorldOK xs):∀ (l:List Dt),(∀ x∈l,DtOk xs.length x)→splitGo (l.map (dtT xs))=some (l.map fun x=>(tl x.name,ktsT xs true x.ctors))
 |[],_=>rfl
 |x :: l,h=>by
  rw [List.map_cons,splitGo,cutL_dt hW (h x (by simp)),splitGo_dts hW l (fun y hy=>h y (by simp [hy]))]
  rfl
theorem parse_text {xs:List Dt} (h:worldOk xs=true):parseGo (textT xs)=some xs:=by
 have hW:=worldOK h
 unfold parseGo textT
 cases hxs:xs with
 |nil=>exact if_pos rfl
 |cons x l =>
  rw [←hxs]
  have hne:xs≠[]:=by rw [hxs];simp
  have hnt:dtsT xs true xs≠[]:=fun e=>by
   have hx:DtOk xs.length x:=hW.all x (by rw [hxs];simp)
   obtain ⟨c,hc,-,-⟩:=dname_Let hx.name
   have e2:dtsT xs true xs=dtT xs x ++ dtsT xs false l:=by
    conv=>lhs;arg 3;rw [hxs]
    exact dtsTr_cons xs x l
   rw [e2] at e
   unfold dtT at e
   rw [hc] at e
   cases e
  rw [if_neg hnt,cutL_dts hW hne hW.all,List.take_of_length_le (by rw [List.length_map];have:=hW.len;omega),splitGo_dts hW xs hW.all]
  simp only [List.map_map]
  congr 1
  conv=>rhs;rw [←List.map_id xs]
  refine List.map_congr_left fun y hy=>?_
  have hd:=hW.all y hy
  show parseDt (xs.map fun x=>tl x.name) (tl y.name) (ktsT xs true y.ctors)=y
  unfold parseDt
  rw [cutL_kts hW hd.lo hd.all,List.take_of_length_le (by rw [List.length_map];have:=hd.hi;omega),List.map_map,bs_tl]
  have hk:y.ctors.map (parseKt (xs.map fun x=>tl x.name) ∘ ktT xs)=y.ctors:=by
   conv=>rhs;rw [←List.map_id y.ctors]
   exact List.map_congr_left fun c hc=>parseKt_ktT h hW (hd.all c hc)
  rw [hk]
def cut1 (c:UInt8):List UInt8→List UInt8×List UInt8×Bool
 |[]=>([],[],false)
 |x :: l=>if x=c then ([],l,true) else (x :: (cut1 c l).1,(cut1 c l).2.1,(cut1 c l).2.2)
def trim1 (c:UInt8) (l:List UInt8):List UInt8:=if l.getLast?=some c then l.dropLast else l
def indexB (c:UInt8):Nat→List UInt8→Int
 |_,[] => -1
 |i,x :: l=>if x=c then (i:Int) else indexB c (i+1) l
def idxI (rest:List UInt8):Int:=if rest=[42] then -1 else match rest with
  |[x]=>((x-48).toNat:Int)
  |_=>0
def readArgI (names:List UInt8) (s:List UInt8):Ty:=if s=[73] then ⟨-1,0⟩ else match s with
  |[]=>⟨-1,0⟩
  |c :: rest=>⟨if indexB c 0 names<0 then 4 else indexB c 0 names,idxI rest⟩
def readKtI (atoi:List UInt8→Int) (names:List UInt8) (s:List UInt8):Kt :=
 let h:=cut1 58 s
 let b:=cut1 40 (trim1 41 h.1)
 ⟨bs b.1,if b.2.2=true then (cutL 44 b.2.1).map (readArgI names) else [],atoi h.2.1⟩
def readDtI (atoi:List UInt8→Int) (names:List UInt8) (s:List UInt8):Option Dt :=
 let b:=cut1 61 s
 if 4<(cutL 124 b.2.1).length then none else some ⟨bs b.1,(cutL 124 b.2.1).map (readKtI atoi names)⟩
def parseI (atoi:List UInt8→Int) (text:List UInt8):Option (List Dt) :=
 if text=[] then some [] else
 if 4<(cutL 59 text).length then none else
 if (cutL 59 text).any List.isEmpty then none else
 (cutL 59 text).mapM (readDtI atoi ((cutL 59 text).map fun l=>l.headD 0))
theorem cut1_at {c:UInt8}:∀ (a r:List UInt8),(∀ x∈a,x≠c)→cut1 c (a ++ c :: r)=(a,r,true)
 |[],r,_=>by simp [cut1]
 |x :: a,r,h=>by rw [List.cons_append,cut1,if_neg (h x (by simp)),cut1_at a r (fun y hy=>h y (by simp [hy]))]
theorem cut1_no {c:UInt8}:∀ (a:List UInt8),(∀ x∈a,x≠c)→cut1 c a=(a,[],false)
 |[],_=>rfl
 |x :: a,h=>by rw [cut1,if_neg (h x (by simp)),cut1_no a (fun y hy=>h y (by simp [hy]))]
theorem trim1_yes (c:UInt8) (a:List UInt8):trim1 c (a ++ [c])=a:=by unfold trim1;simp
theorem trim1_no {c:UInt8} {a:List UInt8} (h:∀ x∈a,x≠c):trim1 c a=a:=by
 unfold trim1
 rw [if_neg]
 intro e
 exact h c (List.mem_of_getLast? e) rfl
theorem indexB_at:∀ (names:List UInt8) (i d:Nat) (hd:d<names.length),names.Pairwise (·≠·)→indexB names[d] i names=((i+d:Nat):Int)
 |[],_,d,hd,_=>by simp at hd
 |x :: names,i,0,_,_=>by simp [indexB]
 |x :: names,i,d+1,hd,hp=>by
  rw [List.pairwise_cons] at hp
  have hd':d<names.length:=by simpa using hd
  have hne:x≠names[d]:=hp.1 _ (List.getElem_mem hd')
  rw [zz3,indexB,if_neg hne,indexB_at names (i+1) d hd' hp.2]
  congr 1;omega
theorem idxI_idxT {i:Int} (h0:-1≤i) (h3:i≤3):idxI (idxT i)=i:=by
 obtain ⟨a,ha⟩:=Int.eq_ofNat_of_zero_le (show 0≤i+1 by omega)
 have key:∀ x:Fin 5,idxI (idxT ((x.1:Int)-1))=(x.1:Int)-1:=by decide
 have:=key ⟨a,by omega⟩
 rwa [show (a:Int)-1=i by omega] at this
def namesI (xs:List Dt):List UInt8:=xs.map fun x=>(tl x.name).headD 0
theorem namesI_at {xs:List Dt} (hW:WorldOK xs) {d:Nat} (hd:d<xs.length):tl xs[d].name=[(namesI xs)[d]'(by unfold namesI;rw [List.length_map];exact hd)]:=by
 obtain ⟨c,hc,-,-⟩:=dname_Let (hW.at hd).name
 unfold namesI
 rw [List.getElem_map,hc];rfl
theorem namesI_apart {xs:List Dt} (h:worldOk xs=true):(namesI xs).Pairwise (·≠·):=by
 have hW:=worldOK h
 rw [List.pairwise_iff_getElem]
 intro i j hi hj hij e
 have hi':i<xs.length:=by simpa [namesI] using hi
 have hj':j<xs.length:=by simpa [namesI] using hj
 have h1:=namesI_at hW hi'
 have h2:=namesI_at hW hj'
 rw [e] at h1
 have:=name_inj h hi' hj' (tl_inj (by rw [h1,h2]))
 omega
theorem readArgI_tyT {xs:List Dt} (hw:worldOk xs=true) (hW:WorldOK xs) {t:Ty} (ht:argOkB xs.length t=true):readArgI (namesI xs) (tyT xs t)=t:=by
 rcases tyT_shape hW ht with ⟨rfl,e⟩ | ⟨d,hd,c,h1,h0,h3,hc,hc73,-,e⟩
 ·rw [e];rfl
 ·rw [e]
  have hdm:d<(namesI xs).length:=by simpa [namesI] using hd
  have hcn:c=(namesI xs)[d]:=by
   have:=namesI_at hW hd
   rw [hc] at this
   exact (List.cons.inj this).1
  have hf:=indexB_at (namesI xs) 0 d hdm (namesI_apart hw)
  rw [←hcn,Nat.zero_add] at hf
  obtain ⟨td,ti⟩:=t
  simp only at h1 h0 h3
  unfold readArgI
  rw [if_neg (fun e=>hc73 (List.cons.inj e).1)]
  show (⟨if indexB c 0 (namesI xs)<0 then 4 else indexB c 0 (namesI xs),idxI (idxT ti)⟩:Ty)=_
  rw [hf,if_neg (by omega),idxI_idxT h0 h3,h1]
theorem readKtI_ktT {atoi:List UInt8→Int} (a0:atoi []=0) (a1:∀ n:Nat,n<10→atoi (digT (n:Int))=n) {xs:List Dt} (hw:worldOk xs=true) (hW:WorldOK xs) {c:Kt} (hc:KtOk xs.length c):readKtI atoi (namesI xs) (ktT xs c)=c:=by
 have hcut:∃ f,cut1 58 (ktT xs c)=(preT xs c,(if 0<c.idx then digT c.idx else []),f):=by
  rw [ktT_pre]
  unfold endT
  by_cases hi:0<c.idx
  ·rw [if_pos hi,if_pos hi];exact ⟨_,cut1_at _ _ (preT_ne58 hW hc)⟩
  ·rw [if_neg hi,if_neg hi,List.append_nil];exact ⟨_,cut1_no _ (preT_ne58 hW hc)⟩
 obtain ⟨f,hcut⟩:=hcut
 have hat:atoi (if 0<c.idx then digT c.idx else [])=c.idx:=by
  have h0:=hc.lo
  have h3:=hc.hi
  by_cases hi:0<c.idx
  ·obtain ⟨n,hn⟩:=Int.eq_ofNat_of_zero_le h0
   rw [if_pos hi,hn]
   exact a1 n (by omega)
  ·rw [if_neg hi,a0];omega
 have hn:∀ x∈tl c.name,x≠40:=fun x hx=>((nameOk_Let hc.name).2 x hx).ne (by decide)
 have hn41:∀ x∈tl c.name,x≠41:=fun x hx=>((nameOk_Let hc.name).2 x hx).ne (by decide)
 unfold readKtI
 simp only [hcut,hat]
 obtain ⟨n,args,ix⟩:=c
 cases args with
 |nil =>
  have e:preT xs ⟨n,[],ix⟩=tl n:=by unfold preT closeT;simp [argsT]
  rw [e,trim1_no hn41,cut1_no _ hn]
  show (⟨bs (tl n),[],ix⟩:Kt)=_
  rw [bs_tl]
 |cons a l =>
  have ok:∀ y∈a :: l,argOkB xs.length y=true:=hc.all
  have e:preT xs ⟨n,a :: l,ix⟩=(tl n ++ 40 :: (tyT xs a ++ argsT xs false l)) ++ [41]:=by
   unfold preT closeT;rw [argsTr_cons];simp
  have hcl:cutL 44 (tyT xs a ++ argsT xs false l)=(a :: l).map (tyT xs):=by
   unfold cutL
   rw [zAK _ _ _ (fun b hb=>(tyT_Tyb hW (ok a (by simp)) b hb).ne (by decide)),List.nil_append,cut_args hW l _ (fun y hy=>ok y (by simp [hy]))]
   rfl
  rw [e,trim1_yes,cut1_at _ _ hn]
  simp only [if_true]
  rw [hcl,List.map_map,bs_tl]
  have hm:(a :: l).map (readArgI (namesI xs) ∘ tyT xs)=a :: l:=by
   conv=>rhs;rw [←List.map_id (a :: l)]
   exact List.map_congr_left fun y hy=>readArgI_tyT hw hW (ok y hy)
  rw [hm]
theorem readDtI_dtT {atoi:List UInt8→Int} (a0:atoi []=0) (a1:∀ n:Nat,n<10→atoi (digT (n:Int))=n) {xs:List Dt} (hw:worldOk xs=true) (hW:WorldOK xs) {x:Dt} (hx:DtOk xs.length x):readDtI atoi (namesI xs) (dtT xs x)=some x:=by
 obtain ⟨c,hc,-,hl⟩:=dname_Let hx.name
 have hcut:cut1 61 (dtT xs x)=(tl x.name,ktsT xs true x.ctors,true):=by
  unfold dtT
  refine cut1_at _ _ fun b hb=>?_
  rw [hc,zy1] at hb
  subst hb
  exact hl.ne (by decide)
 unfold readDtI
 simp only [hcut]
 rw [cutL_kts hW hx.lo hx.all,if_neg (by rw [List.length_map];have:=hx.hi;omega),List.map_map,bs_tl]
 have hk:x.ctors.map (readKtI atoi (namesI xs) ∘ ktT xs)=x.ctors:=by
  conv=>rhs;rw [←List.map_id x.ctors]
  exact List.map_congr_left fun k hk=>readKtI_ktT a0 a1 hw hW (hx.all k hk)
 rw [hk]
theorem mapM_some {α β:Type} {f:α→Option β} {g:β→α}:∀ (l:List β),(∀ y∈l,f (g y)=some y)→(l.map g).mapM f=some l
 |[],_=>rfl
 |y :: l,h=>by
  rw [List.map_cons,List.mapM_cons,h y (by simp),mapM_some l (fun z hz=>h z (by simp [hz]))]
  rfl
theorem parseI_text {atoi:List UInt8→Int} (a0:atoi []=0) (a1:∀ n:Nat,n<10→atoi (digT (n:Int))=n) {xs:List Dt} (h:worldOk xs=true):parseI atoi (textT xs)=some xs:=by
 have hW:=worldOK h
 unfold parseI textT
 cases hxs:xs with
 |nil=>exact if_pos rfl
 |cons x l =>
  rw [←hxs]
  have hne:xs≠[]:=by rw [hxs];simp
  have hdne:∀ y∈xs,dtT xs y≠[]:=fun y hy e=>by
   obtain ⟨c,hc,-,-⟩:=dname_Let (hW.all y hy).name
   unfold dtT at e
   rw [hc] at e
   cases e
  have hnt:dtsT xs true xs≠[]:=fun e=>by
   have e2:dtsT xs true xs=dtT xs x ++ dtsT xs false l:=by
    conv=>lhs;arg 3;rw [hxs]
    exact dtsTr_cons xs x l
   rw [e2] at e
   exact hdne x (by rw [hxs];simp) (List.append_eq_nil_iff.1 e).1
  have hnames:(xs.map (dtT xs)).map (fun l=>l.headD 0)=namesI xs:=by
   rw [List.map_map]
   unfold namesI
   refine List.map_congr_left fun y hy=>?_
   obtain ⟨c,hc,-,-⟩:=dname_Let (hW.all y hy).name
   show (dtT xs y).headD 0=_
   unfold dtT
   rw [hc];rfl
  have hany:(xs.map (dtT xs)).any List.isEmpty=false:=by
   rw [Bool.eq_false_iff]
   intro hh
   obtain ⟨z,hz,hz2⟩:=List.any_eq_true.1 hh
   obtain ⟨y,hy,rfl⟩:=List.mem_map.1 hz
   exact hdne y hy (List.isEmpty_iff.1 hz2)
  rw [if_neg hnt,cutL_dts hW hne hW.all,if_neg (by rw [List.length_map];have:=hW.len;omega),if_neg (by simp [hany]),hnames]
  exact mapM_some xs fun y hy=>readDtI_dtT a0 a1 h hW (hW.all y hy)
def VarsOK (w:World):Prop:=(∃ m,w.cell? ⟨0,0,none⟩=some (.int .i64 m))∧(∃ ev,w.cell? ⟨1,0,none⟩=some ev∧(ev=.nilIface∨∃ te pe,ev=.iface te pe))∧(∃ ev,w.cell? ⟨2,0,none⟩=some ev∧(ev=.nilIface∨∃ te pe,ev=.iface te pe))∧0<w.heap.size∧1<w.heap.size∧2<w.heap.size
theorem VarsOK.below {w w':World} (h:VarsOK w) (hb:Below w w w'):VarsOK w':=by
 obtain ⟨⟨m,h1⟩,⟨e1,h2,h3⟩,⟨e2,h4,h5⟩,h6,h7,h8⟩:=h
 exact ⟨⟨m,(hb.cell h6).trans h1⟩,⟨e1,(hb.cell h7).trans h2,h3⟩,⟨e2,(hb.cell h8).trans h4,h5⟩,zz9 h6 hb.size,zz9 h7 hb.size,zz9 h8 hb.size⟩
def atoiI (l:List UInt8):Int:=match Lib.atoiAll l with
 |.ok v=>v
 |.range=>Lib.atoiSat l
 |_=>0
def rdA (names s:ByteArray):Ty:=readArgI (tl names) (tl s)
theorem rdA_int {names s:ByteArray} (h:tl s=[73]):rdA names s=⟨-1,0⟩:=by unfold rdA readArgI;rw [if_pos h]
theorem rdA_nil {names s:ByteArray} (h:tl s=[]):rdA names s=⟨-1,0⟩:=by unfold rdA readArgI;rw [h];rfl
theorem rdA_cons {names s:ByteArray} (h:¬tl s=[73]) (p1:0<s.size):rdA names s=⟨if indexB s[0] 0 (tl names)<0 then 4 else indexB s[0] 0 (tl names),idxI (tl (s.extract 1 s.size))⟩:=by
 have e2:tl s=s[0] :: tl (s.extract 1 s.size):=by
  rw [zAI,List.take_of_length_le (by rw [zA6];exact zz8 _)]
  exact bytes_cons s p1
 unfold rdA readArgI
 rw [if_neg h]
 split
 ·rename_i e;rw [e] at e2;cases e2
 ·rename_i c rest e
  rw [e2] at e
  cases e
  rfl
theorem idxI_star {l:List UInt8} (h:l=[42]):idxI l = -1:=if_pos h
theorem idxI_not {l:List UInt8} (h:¬l=[42]) (h2:l.length≠1):idxI l=0:=by
 unfold idxI
 rw [if_neg h]
 split
 ·rename_i x e;exact absurd rfl h2
 ·rfl
theorem idxI_one {s:ByteArray} (h:¬tl (s.extract 1 s.size)=[42]) (h2:s.size=2) (p2:1<s.size):idxI (tl (s.extract 1 s.size))=((s[1]-48).toNat:Int):=by
 have e:tl (s.extract 1 s.size)=[s[1]]:=by
  rw [zAI,List.take_of_length_le (by rw [zA6];exact zz8 _),List.drop_eq_getElem_cons (by rw [zA6];omega),List.drop_of_length_le (by rw [zA6];omega)]
  rfl
 rw [e] at h ⊢
 unfold idxI
 rw [if_neg h]
theorem byte_mod (x:UInt8):((x.toNat:Int)-48) % 256=((x-48).toNat:Int):=by
 have h:x.toNat<256:=x.toNat_lt
 rw [UInt8.toNat_sub]
 show _=(((2 ^ 8-48+x.toNat) % 2 ^ 8:Nat):Int)
 omega
theorem ext_one {s:ByteArray} (p:1<s.size) (h:0<(s.extract 1 s.size).size):(s.extract 1 s.size)[0]'h=s[1]:=by
 simp [ByteArray.getElem_extract]
theorem split_at {c:UInt8}:∀ l:List UInt8,(∀ x∈l,x≠c)∨∃ a r,l=a ++ c :: r∧∀ x∈a,x≠c
 |[]=>.inl (fun x hx=>by cases hx)
 |y :: l=>by
  by_cases h:y=c
  ·exact .inr ⟨[],l,by rw [h];rfl,fun x hx=>by cases hx⟩
  ·rcases split_at l with h1 | ⟨a,r,h1,h2⟩
   ·exact .inl (fun x hx=>by rcases List.mem_cons.1 hx with rfl | hx;exact h;exact h1 x hx)
   ·exact .inr ⟨y :: a,r,by rw [h1];rfl,fun x hx=>by rcases List.mem_cons.1 hx with rfl | hx;exact h;exact h2 x hx⟩
theorem libByte_no {c:UInt8}:∀ l:List UInt8,(∀ x∈l,x≠c)→Lib.indexByte l c = -1
 |[],_=>rfl
 |y :: l,h=>by
  rw [Lib.indexByte,if_neg (by simpa using h y (by simp)),libByte_no l (fun x hx=>h x (by simp [hx]))]
  rfl
theorem libByte_at {c:UInt8}:∀ (a r:List UInt8),(∀ x∈a,x≠c)→Lib.indexByte (a ++ c :: r) c=(a.length:Int)
 |[],r,_=>by
  show Lib.indexByte (c :: r) c=0
  rw [Lib.indexByte,if_pos (by simp)]
 |y :: a,r,h=>by
  show Lib.indexByte (y :: (a ++ c :: r)) c=_
  rw [Lib.indexByte,if_neg (by simpa using h y (by simp)),libByte_at a r (fun x hx=>h x (by simp [hx]))]
  rw [if_neg (by first | (simp;done) | (simp;omega))]
  simp
theorem indexB_no {c:UInt8}:∀ (l:List UInt8) (i:Nat),(∀ x∈l,x≠c)→indexB c i l = -1
 |[],_,_=>rfl
 |y :: l,i,h=>by rw [indexB,if_neg (h y (by simp)),indexB_no l (i+1) (fun x hx=>h x (by simp [hx]))]
theorem indexB_hit {c:UInt8}:∀ (a r:List UInt8) (i:Nat),(∀ x∈a,x≠c)→indexB c i (a ++ c :: r)=((i+a.length:Nat):Int)
 |[],r,i,_=>by
  show indexB c i (c :: r)=_
  rw [indexB,if_pos rfl];rfl
 |y :: a,r,i,h=>by
  show indexB c i (y :: (a ++ c :: r))=_
  rw [indexB,if_neg (h y (by simp)),indexB_hit a r (i+1) (fun x hx=>h x (by simp [hx]))]
  simp only [List.length_cons]
  congr 1
  omega
theorem byte_index (c:UInt8) (l:List UInt8):Lib.indexByte l c=indexB c 0 l:=by
 rcases split_at (c:=c) l with h | ⟨a,r,rfl,h⟩
 ·rw [libByte_no l h,indexB_no l 0 h]
 ·rw [libByte_at a r h,indexB_hit a r 0 h,Nat.zero_add]
theorem lib_cut (c:UInt8) (l:List UInt8):Lib.cut l [c]=cut1 c l:=by
 unfold Lib.cut
 rw [Lib.index_one]
 rcases split_at (c:=c) l with h | ⟨a,r,rfl,h⟩
 ·rw [libByte_no l h,if_neg (by decide),cut1_no l h]
 ·rw [libByte_at a r h,if_pos (by omega),cut1_at a r h]
  have e:((a.length:Int)).toNat=a.length:=Int.toNat_natCast _
  rw [e]
  simp
theorem lib_trim (c:UInt8) (l:List UInt8):Lib.trimSuffix l [c]=trim1 c l:=by
 unfold Lib.trimSuffix Lib.hasSuffix trim1
 rw [List.dropLast_eq_take]
 have key:([c].isSuffixOf l=true)↔l.getLast?=some c:=by
  rw [List.isSuffixOf_iff_suffix]
  constructor
  ·rintro ⟨t,rfl⟩
   simp
  ·intro h
   obtain ⟨t,e⟩:=List.getLast?_eq_some_iff.1 h
   exact ⟨t,e.symm⟩
 by_cases h:l.getLast?=some c
 ·rw [if_pos (key.2 h),if_pos h];rfl
 ·rw [if_neg (fun e=>h (key.1 e)),if_neg h]
theorem cutL_at {c:UInt8} {a r:List UInt8} (h:∀ x∈a,x≠c):cutL c (a ++ c :: r)=a :: cutL c r:=by
 unfold cutL
 rw [zAK a [] (c :: r) h,List.nil_append,cutGo_at]
theorem lib_split (c:UInt8):∀ (n:Nat) (l:List UInt8),l.length≤n→Lib.splitK [c] 0 (Lib.count l [c]) l=cutL c l:=by
 intro n
 induction n with
 |zero =>
  intro l hl
  have e:l=[]:=List.eq_nil_of_length_eq_zero (by omega)
  subst e
  rfl
 |succ n ih =>
  intro l hl
  rw [Lib.count_one]
  rcases split_at (c:=c) l with h | ⟨a,r,rfl,h⟩
  ·have h0:l.count c=0:=List.count_eq_zero.2 (fun hm=>h c hm rfl)
   rw [h0,cutL_one h]
   rfl
  ·have h1:(a ++ c :: r).count c=r.count c+1:=by
    rw [List.count_append,List.count_cons_self,List.count_eq_zero.2 (fun hm=>h c hm rfl)]
    omega
   have h2:=ih r (by simp at hl;omega)
   rw [Lib.count_one] at h2
   rw [h1,cutL_at h,←h2,Lib.splitK,Lib.index_one,libByte_at a r h,if_neg (by first | (simp;done) | (simp;omega))]
   have e:((a.length:Int)).toNat=a.length:=Int.toNat_natCast _
   rw [e]
   simp
theorem split_pieces (c:UInt8) (s:ByteArray):Lib.splitB ⟨#[c]⟩ 0 (Lib.countB s ⟨#[c]⟩) s=(cutL c (tl s)).map bs:=by
 have h:=Lib.splitB_data ⟨#[c]⟩ 0 (Lib.countB s ⟨#[c]⟩) s
 have h2:=lib_split c _ (tl s) (zz8 _)
 have e:Lib.countB s ⟨#[c]⟩=Lib.count (tl s) [c]:=rfl
 rw [←h2,←e]
 have h3:Lib.splitK [c] 0 (Lib.countB s ⟨#[c]⟩) (tl s)=(Lib.splitB ⟨#[c]⟩ 0 (Lib.countB s ⟨#[c]⟩) s).map (·.data.toList):=h.symm
 rw [h3,List.map_map]
 exact (List.map_id _).symm
theorem arr_strs (w:World) (ls:List ByteArray) (T:TypeId) (hl:ls.length≤3000000):Arr (w.alloc (.cells (ls.map Value.string).toArray T)) (StrR (w.alloc (.cells (ls.map Value.string).toArray T))) ls (.slice (some ⟨w,0,none⟩) ls.length ls.length) [w.heap.size]:=by
 refine ⟨_,_,rfl,zz8 _,by unfold maxLen;omega,.inr ⟨w.heap.size,0,ls.map Value.string,[],rfl,fun j u hj=>?_,?_,rfl⟩⟩
 ·rw [Nat.zero_add]
  refine ((Blk.new w T (ls.map Value.string).toArray).cell j).trans ?_
  simpa using hj
 ·clear hl
  generalize w.alloc (.cells (ls.map Value.string).toArray T)=W
  induction ls with
  |nil=>exact ⟨rfl,rfl⟩
  |cons x xs ih=>exact ⟨[.string x],xs.map Value.string,[],[],rfl,rfl,⟨rfl,rfl⟩,ih⟩
end Go.Proofs.YtjjclcmmfeegfaaGreatDoor
namespace Go.Proofs.YtjjclcmmfeegfaaGreatDoor
open Go.Shelf
def Sh_lays137_ren:Go.Shelf.Ren:=⟨fun | 137=>144 | 217=>174 | 266=>206 | n=>n,fun | 9=>9 | 5=>5 | 3=>3 | n=>n,fun | n=>n⟩
theorem Sh_lays137:Go.Proofs.Lays.n137 Tryz.prog Sh_lays137_ren:={
 mixed:=by kernel_rfl
 f137:=Tryz.func144.trans (congrArg some (by kernel_rfl))
 f217:=Tryz.func174.trans (congrArg some (by kernel_rfl))
 f266:=Tryz.func206.trans (congrArg some (by kernel_rfl))
 t3:=Tryz.underlying3
 a3:=Tryz.isAgg3
 z3:=Tryz.sizeOf3
 v3:=Tryz.zeroValue3
 t5:=Tryz.underlying5
 a5:=Tryz.isAgg5
 z5:=Tryz.sizeOf5
 v5:=Tryz.zeroValue5
 t9:=Tryz.underlying9
 a9:=Tryz.isAgg9
 z9:=Tryz.sizeOf9
 v9:=Tryz.zeroValue9 }
open Go.RowKit in
theorem Sh_strings_IndexByte (s:ByteArray) (c:Int) (w:World) :
  Calls Tryz.prog 144 #[.string s,.int .u8 c] w fun e w'=>e=.returned (.int .i64 (Lib.indexByte s.data.toList c.toNat.toUInt8))∧w'=w:=Any.strings_IndexByte Sh_lays137 s c w
def Sh_laysC172_ren:Go.Shelf.Ren:=⟨fun | 172=>94 | 244=>142 | 245=>143 | 247=>179 | 279=>180 | 280=>181 | 281=>182 | 282=>183 | 287=>208 | 316=>209 | 171=>97 | 205=>210 | 321=>227 | 322=>228 | 243=>145 | 246=>184 | 283=>211 | 284=>212 | 285=>213 | 286=>214 | 129=>202 | 317=>229 | 318=>230 | 319=>231 | 320=>232 | 337=>236 | 338=>237 | n=>n,fun | 9=>9 | 3=>3 | 75=>112 | 76=>113 | 4=>4 | 5=>5 | 167=>186 | 37=>22 | 0=>0 | 85=>187 | 2=>2 | 168=>189 | 53=>208 | 175=>212 | 46=>170 | 210=>216 | 127=>193 | 145=>242 | 143=>240 | 21=>21 | 171=>218 | 173=>220 | 212=>244 | 51=>206 | 20=>20 | 213=>245 | 232=>251 | 233=>252 | 80=>160 | n=>n,fun | 15=>1 | 16=>2 | 17=>5 | 18=>6 | 19=>7 | n=>n⟩
theorem Sh_laysC172:Go.Proofs.LaysC.n172 Tryz.prog Sh_laysC172_ren:={
 mixed:=by kernel_rfl
 f129:=Tryz.func202.trans (congrArg some (by kernel_rfl))
 f171:=Tryz.func97.trans (congrArg some (by kernel_rfl))
 f172:=Tryz.func94.trans (congrArg some (by kernel_rfl))
 f205:=Tryz.func210.trans (congrArg some (by kernel_rfl))
 f243:=Tryz.func145.trans (congrArg some (by kernel_rfl))
 f244:=Tryz.func142.trans (congrArg some (by kernel_rfl))
 f245:=Tryz.func143.trans (congrArg some (by kernel_rfl))
 f246:=Tryz.func184.trans (congrArg some (by kernel_rfl))
 f247:=Tryz.func179.trans (congrArg some (by kernel_rfl))
 f279:=Tryz.func180.trans (congrArg some (by kernel_rfl))
 f280:=Tryz.func181.trans (congrArg some (by kernel_rfl))
 f281:=Tryz.func182.trans (congrArg some (by kernel_rfl))
 f282:=Tryz.func183.trans (congrArg some (by kernel_rfl))
 f283:=Tryz.func211.trans (congrArg some (by kernel_rfl))
 f284:=Tryz.func212.trans (congrArg some (by kernel_rfl))
 f285:=Tryz.func213.trans (congrArg some (by kernel_rfl))
 f286:=Tryz.func214.trans (congrArg some (by kernel_rfl))
 f287:=Tryz.func208.trans (congrArg some (by kernel_rfl))
 f316:=Tryz.func209.trans (congrArg some (by kernel_rfl))
 f317:=Tryz.func229.trans (congrArg some (by kernel_rfl))
 f318:=Tryz.func230.trans (congrArg some (by kernel_rfl))
 f319:=Tryz.func231.trans (congrArg some (by kernel_rfl))
 f320:=Tryz.func232.trans (congrArg some (by kernel_rfl))
 f321:=Tryz.func227.trans (congrArg some (by kernel_rfl))
 f322:=Tryz.func228.trans (congrArg some (by kernel_rfl))
 f337:=Tryz.func236.trans (congrArg some (by kernel_rfl))
 f338:=Tryz.func237.trans (congrArg some (by kernel_rfl))
 t0:=Tryz.underlying0
 a0:=Tryz.isAgg0
 z0:=Tryz.sizeOf0
 v0:=Tryz.zeroValue0
 t2:=Tryz.underlying2
 a2:=Tryz.isAgg2
 z2:=Tryz.sizeOf2
 v2:=Tryz.zeroValue2
 t3:=Tryz.underlying3
 a3:=Tryz.isAgg3
 z3:=Tryz.sizeOf3
 v3:=Tryz.zeroValue3
 t4:=Tryz.underlying4
 a4:=Tryz.isAgg4
 z4:=Tryz.sizeOf4
 v4:=Tryz.zeroValue4
 t5:=Tryz.underlying5
 a5:=Tryz.isAgg5
 z5:=Tryz.sizeOf5
 v5:=Tryz.zeroValue5
 t9:=Tryz.underlying9
 a9:=Tryz.isAgg9
 z9:=Tryz.sizeOf9
 v9:=Tryz.zeroValue9
 t20:=Tryz.underlying20
 a20:=Tryz.isAgg20
 z20:=Tryz.sizeOf20
 v20:=Tryz.zeroValue20
 t21:=Tryz.underlying21
 a21:=Tryz.isAgg21
 z21:=Tryz.sizeOf21
 v21:=Tryz.zeroValue21
 t37:=Tryz.underlying22
 a37:=Tryz.isAgg22
 z37:=Tryz.sizeOf22
 v37:=Tryz.zeroValue22
 t46:=Tryz.underlying170
 a46:=Tryz.isAgg170
 z46:=Tryz.sizeOf170
 v46:=Tryz.zeroValue170
 t51:=Tryz.underlying206
 a51:=Tryz.isAgg206
 z51:=Tryz.sizeOf206
 v51:=Tryz.zeroValue206
 t53:=Tryz.underlying208
 a53:=Tryz.isAgg208
 z53:=Tryz.sizeOf208
 v53:=Tryz.zeroValue208
 t75:=Tryz.underlying112
 a75:=Tryz.isAgg112
 z75:=Tryz.sizeOf112
 v75:=Tryz.zeroValue112
 t76:=Tryz.underlying113
 a76:=Tryz.isAgg113
 z76:=Tryz.sizeOf113
 v76:=Tryz.zeroValue113
 t85:=Tryz.underlying187
 a85:=Tryz.isAgg187
 z85:=Tryz.sizeOf187
 v85:=Tryz.zeroValue187
 t127:=Tryz.underlying193
 a127:=Tryz.isAgg193
 z127:=Tryz.sizeOf193
 v127:=Tryz.zeroValue193
 t143:=Tryz.underlying240
 a143:=Tryz.isAgg240
 z143:=Tryz.sizeOf240
 v143:=Tryz.zeroValue240
 t145:=Tryz.underlying242
 a145:=Tryz.isAgg242
 z145:=Tryz.sizeOf242
 v145:=Tryz.zeroValue242
 t167:=Tryz.underlying186
 a167:=Tryz.isAgg186
 z167:=Tryz.sizeOf186
 v167:=Tryz.zeroValue186
 t168:=Tryz.underlying189
 a168:=Tryz.isAgg189
 z168:=Tryz.sizeOf189
 v168:=Tryz.zeroValue189
 t171:=Tryz.underlying218
 a171:=Tryz.isAgg218
 z171:=Tryz.sizeOf218
 v171:=Tryz.zeroValue218
 t173:=Tryz.underlying220
 a173:=Tryz.isAgg220
 z173:=Tryz.sizeOf220
 v173:=Tryz.zeroValue220
 t175:=Tryz.underlying212
 a175:=Tryz.isAgg212
 z175:=Tryz.sizeOf212
 v175:=Tryz.zeroValue212
 t210:=Tryz.underlying216
 a210:=Tryz.isAgg216
 z210:=Tryz.sizeOf216
 v210:=Tryz.zeroValue216
 t212:=Tryz.underlying244
 a212:=Tryz.isAgg244
 z212:=Tryz.sizeOf244
 v212:=Tryz.zeroValue244
 t213:=Tryz.underlying245
 a213:=Tryz.isAgg245
 z213:=Tryz.sizeOf245
 t232:=Tryz.underlying251
 a232:=Tryz.isAgg251
 z232:=Tryz.sizeOf251
 v232:=Tryz.zeroValue251
 t233:=Tryz.underlying252
 a233:=Tryz.isAgg252
 z233:=Tryz.sizeOf252
 v233:=Tryz.zeroValue252
 g15:=by kernel_rfl
 g16:=by kernel_rfl
 g17:=by kernel_rfl
 g18:=by kernel_rfl
 g19:=by kernel_rfl
 t80:=Tryz.underlying160
 a80:=Tryz.isAgg160
 z80:=Tryz.sizeOf160
 v80:=Tryz.zeroValue160
 i0:=by kernel_rfl
 i2:=by kernel_rfl
 i3:=by kernel_rfl
 i4:=by kernel_rfl
 i5:=by kernel_rfl
 i9:=by kernel_rfl
 i20:=by kernel_rfl
 i21:=by kernel_rfl
 i37:=by kernel_rfl
 i46:=by kernel_rfl
 i51:=by kernel_rfl
 i53:=by kernel_rfl
 i75:=by kernel_rfl
 i76:=by kernel_rfl
 i80:=by kernel_rfl
 i85:=by kernel_rfl
 i127:=by kernel_rfl
 i143:=by kernel_rfl
 i145:=by kernel_rfl
 i167:=by kernel_rfl
 i168:=by kernel_rfl
 i171:=by kernel_rfl
 i173:=by kernel_rfl
 i175:=by kernel_rfl
 i210:=by kernel_rfl
 i212:=by kernel_rfl
 i232:=by kernel_rfl
 i233:=by kernel_rfl
 m15:=by kernel_rfl
 m16:=by kernel_rfl
 m17:=by kernel_rfl
 m18:=by kernel_rfl
 m19:=by kernel_rfl
 c0:=by kernel_rfl
 c2:=by kernel_rfl
 c3:=by kernel_rfl
 c4:=by kernel_rfl
 c5:=by kernel_rfl
 c9:=by kernel_rfl
 c20:=by kernel_rfl
 c21:=by kernel_rfl
 c37:=by kernel_rfl
 c46:=by kernel_rfl
 c51:=by kernel_rfl
 c53:=by kernel_rfl
 c75:=by kernel_rfl
 c76:=by kernel_rfl
 c80:=by kernel_rfl
 c85:=by kernel_rfl
 c127:=by kernel_rfl
 c143:=by kernel_rfl
 c145:=by kernel_rfl
 c167:=by kernel_rfl
 c168:=by kernel_rfl
 c171:=by kernel_rfl
 c173:=by kernel_rfl
 c175:=by kernel_rfl
 c210:=by kernel_rfl
 c212:=by kernel_rfl
 c213:=by kernel_rfl
 c232:=by kernel_rfl
 c233:=by kernel_rfl }
open Go.RowKit in
theorem Sh_strconv_Atoi_ok (s:ByteArray) (hmax:s.size≤9223372036854775806) (v:Int) (h:Lib.atoiAll s.data.toList=.ok v) (w:World) :
  Calls Tryz.prog 94 #[.string s] w fun e w'=>e=.returned (.tuple #[.int .i64 v,.nilIface])∧(w'=w∨∃ t,w'=Lib.bytesWorld w 5 t):=Any.strconv_Atoi_ok Sh_laysC172 s hmax v h w
open Go.RowKit in
theorem Sh_strconv_Atoi_syntax (s:ByteArray) (hlim:s.size≤281474976710656) (h:∀ v,Lib.atoiAll s.data.toList≠.ok v) (hr:Lib.atoiAll s.data.toList≠.range) (ev:Value) (w:World) (hv:w.cell? ⟨1,0,none⟩=some ev) (hev:ev=.nilIface∨∃ te pe,ev=.iface te pe) :
  Calls Tryz.prog 94 #[.string s] w fun e w'=>∃ N,e=.returned (.tuple #[.int .i64 (0),.iface 189 (.pointer (some ⟨N,0,none⟩))])∧w.heap.size≤N∧w'.heap[N]?=some (.cells #[.string ⟨#[65,116,111,105]⟩,.string s,ev] 216 (0,0))∧Below w.heap.size w w':=Any.strconv_Atoi_syntax Sh_laysC172 s hlim (by cases e:Lib.atoiAll s.data.toList with | ok v=>exact absurd e (h v) | range=>exact absurd e hr | _=>rfl) ev w hv hev
open Go.RowKit in
theorem Sh_strconv_Atoi_range (s:ByteArray) (hlim:s.size≤281474976710656) (h:Lib.atoiAll s.data.toList=.range) (ev:Value) (w:World) (hv:w.cell? ⟨2,0,none⟩=some ev) (hev:ev=.nilIface∨∃ te pe,ev=.iface te pe) :
  Calls Tryz.prog 94 #[.string s] w fun e w'=>∃ N,e=.returned (.tuple #[.int .i64 (Lib.atoiSat s.data.toList),.iface 189 (.pointer (some ⟨N,0,none⟩))])∧w.heap.size≤N∧w'.heap[N]?=some (.cells #[.string ⟨#[65,116,111,105]⟩,.string s,ev] 216 (0,0))∧Below w.heap.size w w':=Any.strconv_Atoi_range Sh_laysC172 s hlim h ev w hv hev
def Sh_lays145_ren:Go.Shelf.Ren:=⟨fun | 145=>40 | 220=>92 | 219=>140 | 217=>174 | 225=>175 | 224=>176 | 267=>177 | 266=>206 | 314=>207 | n=>n,fun | 9=>9 | 4=>4 | 59=>70 | 3=>3 | 5=>5 | 46=>170 | 146=>210 | 51=>206 | n=>n,fun | 1=>0 | n=>n⟩
theorem Sh_lays145:Go.Proofs.Lays.n145 Tryz.prog Sh_lays145_ren:={
 mixed:=by kernel_rfl
 f145:=Tryz.func40.trans (congrArg some (by kernel_rfl))
 f217:=Tryz.func174.trans (congrArg some (by kernel_rfl))
 f219:=Tryz.func140.trans (congrArg some (by kernel_rfl))
 f220:=Tryz.func92.trans (congrArg some (by kernel_rfl))
 f224:=Tryz.func176.trans (congrArg some (by kernel_rfl))
 f225:=Tryz.func175.trans (congrArg some (by kernel_rfl))
 f266:=Tryz.func206.trans (congrArg some (by kernel_rfl))
 f267:=Tryz.func177.trans (congrArg some (by kernel_rfl))
 f314:=Tryz.func207.trans (congrArg some (by kernel_rfl))
 t3:=Tryz.underlying3
 a3:=Tryz.isAgg3
 z3:=Tryz.sizeOf3
 v3:=Tryz.zeroValue3
 t4:=Tryz.underlying4
 a4:=Tryz.isAgg4
 z4:=Tryz.sizeOf4
 v4:=Tryz.zeroValue4
 t5:=Tryz.underlying5
 a5:=Tryz.isAgg5
 z5:=Tryz.sizeOf5
 v5:=Tryz.zeroValue5
 t9:=Tryz.underlying9
 a9:=Tryz.isAgg9
 z9:=Tryz.sizeOf9
 v9:=Tryz.zeroValue9
 t46:=Tryz.underlying170
 a46:=Tryz.isAgg170
 z46:=Tryz.sizeOf170
 v46:=Tryz.zeroValue170
 t51:=Tryz.underlying206
 a51:=Tryz.isAgg206
 z51:=Tryz.sizeOf206
 v51:=Tryz.zeroValue206
 t59:=Tryz.underlying70
 a59:=Tryz.isAgg70
 z59:=Tryz.sizeOf70
 v59:=Tryz.zeroValue70
 t146:=Tryz.underlying210
 a146:=Tryz.isAgg210
 z146:=Tryz.sizeOf210
 v146:=Tryz.zeroValue210
 g1:=by kernel_rfl }
open Go.RowKit Go.Lib in
theorem Sh_strings_Cut (s sep:ByteArray) (m:Int) (w:World) (hs:s.size<4294967281) (hm:w.cell? ⟨0,0,none⟩=some (.int .i64 m)) :
  Calls Tryz.prog 40 #[.string s,.string sep] w fun e w'=>e=.returned (.tuple #[.string ⟨(Lib.cut s.data.toList sep.data.toList).1.toArray⟩,.string ⟨(Lib.cut s.data.toList sep.data.toList).2.1.toArray⟩,.bool (Lib.cut s.data.toList sep.data.toList).2.2])∧∃ n,w'=w.drewN n:=Any.strings_Cut Sh_lays145 s sep m w hs hm
def Sh_lays102_ren:Go.Shelf.Ren:=⟨fun | 102=>93 | 209=>141 | 207=>178 | n=>n,fun | 9=>9 | 4=>4 | 3=>3 | n=>n,fun | n=>n⟩
theorem Sh_lays102:Go.Proofs.Lays.n102 Tryz.prog Sh_lays102_ren:={
 mixed:=by kernel_rfl
 f102:=Tryz.func93.trans (congrArg some (by kernel_rfl))
 f207:=Tryz.func178.trans (congrArg some (by kernel_rfl))
 f209:=Tryz.func141.trans (congrArg some (by kernel_rfl))
 t3:=Tryz.underlying3
 a3:=Tryz.isAgg3
 z3:=Tryz.sizeOf3
 v3:=Tryz.zeroValue3
 t4:=Tryz.underlying4
 a4:=Tryz.isAgg4
 z4:=Tryz.sizeOf4
 v4:=Tryz.zeroValue4
 t9:=Tryz.underlying9
 a9:=Tryz.isAgg9
 z9:=Tryz.sizeOf9
 v9:=Tryz.zeroValue9 }
open Go.RowKit Go.Lib in
theorem Sh_strings_TrimSuffix (s p:ByteArray) (w:World) (hs:s.size≤9223372036854775807) :
  Calls Tryz.prog 93 #[.string s,.string p] w fun e w'=>e=.returned (.string ⟨(Lib.trimSuffix s.data.toList p.data.toList).toArray⟩)∧w'=w:=Any.strings_TrimSuffix Sh_lays102 s p w hs
def Sh_lays146_ren:Go.Shelf.Ren:=⟨fun | 146=>39 | 221=>91 | 268=>137 | 138=>138 | 143=>139 | 195=>171 | 197=>172 | 218=>173 | 219=>140 | 260=>205 | 217=>174 | 225=>175 | 224=>176 | 267=>177 | 266=>206 | 314=>207 | n=>n,fun | 9=>9 | 31=>60 | 3=>3 | 4=>4 | 0=>0 | 105=>183 | 21=>21 | 5=>5 | 46=>170 | 119=>235 | 139=>238 | 138=>237 | 146=>210 | 51=>206 | n=>n,fun | 1=>0 | 3=>3 | 4=>4 | n=>n⟩
theorem Sh_lays146:Go.Proofs.Lays.n146 Tryz.prog Sh_lays146_ren:={
 mixed:=by kernel_rfl
 f138:=Tryz.func138.trans (congrArg some (by kernel_rfl))
 f143:=Tryz.func139.trans (congrArg some (by kernel_rfl))
 f146:=Tryz.func39.trans (congrArg some (by kernel_rfl))
 f195:=Tryz.func171.trans (congrArg some (by kernel_rfl))
 f197:=Tryz.func172.trans (congrArg some (by kernel_rfl))
 f217:=Tryz.func174.trans (congrArg some (by kernel_rfl))
 f218:=Tryz.func173.trans (congrArg some (by kernel_rfl))
 f219:=Tryz.func140.trans (congrArg some (by kernel_rfl))
 f221:=Tryz.func91.trans (congrArg some (by kernel_rfl))
 f224:=Tryz.func176.trans (congrArg some (by kernel_rfl))
 f225:=Tryz.func175.trans (congrArg some (by kernel_rfl))
 f260:=Tryz.func205.trans (congrArg some (by kernel_rfl))
 f266:=Tryz.func206.trans (congrArg some (by kernel_rfl))
 f267:=Tryz.func177.trans (congrArg some (by kernel_rfl))
 f268:=Tryz.func137.trans (congrArg some (by kernel_rfl))
 f314:=Tryz.func207.trans (congrArg some (by kernel_rfl))
 t0:=Tryz.underlying0
 a0:=Tryz.isAgg0
 z0:=Tryz.sizeOf0
 v0:=Tryz.zeroValue0
 t3:=Tryz.underlying3
 a3:=Tryz.isAgg3
 z3:=Tryz.sizeOf3
 v3:=Tryz.zeroValue3
 t4:=Tryz.underlying4
 a4:=Tryz.isAgg4
 z4:=Tryz.sizeOf4
 v4:=Tryz.zeroValue4
 t5:=Tryz.underlying5
 a5:=Tryz.isAgg5
 z5:=Tryz.sizeOf5
 v5:=Tryz.zeroValue5
 t9:=Tryz.underlying9
 a9:=Tryz.isAgg9
 z9:=Tryz.sizeOf9
 v9:=Tryz.zeroValue9
 t21:=Tryz.underlying21
 a21:=Tryz.isAgg21
 z21:=Tryz.sizeOf21
 v21:=Tryz.zeroValue21
 t31:=Tryz.underlying60
 a31:=Tryz.isAgg60
 z31:=Tryz.sizeOf60
 v31:=Tryz.zeroValue60
 t46:=Tryz.underlying170
 a46:=Tryz.isAgg170
 z46:=Tryz.sizeOf170
 v46:=Tryz.zeroValue170
 t51:=Tryz.underlying206
 a51:=Tryz.isAgg206
 z51:=Tryz.sizeOf206
 v51:=Tryz.zeroValue206
 t105:=Tryz.underlying183
 a105:=Tryz.isAgg183
 z105:=Tryz.sizeOf183
 v105:=Tryz.zeroValue183
 t119:=Tryz.underlying235
 a119:=Tryz.isAgg235
 z119:=Tryz.sizeOf235
 t138:=Tryz.underlying237
 a138:=Tryz.isAgg237
 z138:=Tryz.sizeOf237
 v138:=Tryz.zeroValue237
 t139:=Tryz.underlying238
 a139:=Tryz.isAgg238
 z139:=Tryz.sizeOf238
 v139:=Tryz.zeroValue238
 t146:=Tryz.underlying210
 a146:=Tryz.isAgg210
 z146:=Tryz.sizeOf210
 v146:=Tryz.zeroValue210
 g1:=by kernel_rfl
 g3:=by kernel_rfl
 g4:=by kernel_rfl }
open Go.RowKit Go.Lib in
theorem Sh_strings_Split (s sep:ByteArray) (m:Int) (w:World) (hs:s.size<4294967281) (hm:w.cell? ⟨0,0,none⟩=some (.int .i64 m)) (h1:1≤sep.size) :
  Calls Tryz.prog 39 #[.string s,.string sep] w fun e w' =>
   e=.returned (.slice (some ⟨w.heap.size,0,none⟩) (Lib.countB s sep+1) (Lib.countB s sep+1))∧w'=w.alloc (.cells ((Lib.splitB sep 0 (Lib.countB s sep) s).map Value.string).toArray 9):=Any.strings_Split Sh_lays146 (by kernel_rfl) s sep m w hs hm h1
end Go.Proofs.YtjjclcmmfeegfaaGreatDoor
namespace Go.Proofs.YtjjclcmmfeegfaaGreatDoor
open Go.RowKit
theorem index_call (s:ByteArray) (c:UInt8) (w:World):Calls Tryz.prog 144 #[.string s,.int .u8 (c.toNat:Int)] w fun e w'=>e=.returned (.int .i64 (indexB c 0 (tl s)))∧w'=w:=by
 refine (Sh_strings_IndexByte s (c.toNat:Int) w).mono ?_
 rintro e w' ⟨rfl,rfl⟩
 refine ⟨?_,rfl⟩
 have e:(c.toNat:Int).toNat.toUInt8=c:=by simp
 rw [e,←byte_index c (tl s)]
 rfl
theorem cut_call (s:ByteArray) (c:UInt8) (w:World) (hs:s.size≤2000000) (hv:VarsOK w):Calls Tryz.prog 40 #[.string s,.string ⟨#[c]⟩] w fun e w'=>e=.returned (.tuple #[.string (bs (cut1 c (tl s)).1),.string (bs (cut1 c (tl s)).2.1),.bool (cut1 c (tl s)).2.2])∧Below w w w':=by
 obtain ⟨⟨m,hm⟩,-⟩:=hv
 refine (Sh_strings_Cut s ⟨#[c]⟩ m w (by omega) hm).mono ?_
 rintro e w' ⟨rfl,n,rfl⟩
 refine ⟨?_,⟨rfl,rfl,rfl,zz8 _,fun _ _=>rfl⟩⟩
 have e:Lib.cut s.data.toList [c]=cut1 c (tl s):=lib_cut c (tl s)
 show Ending.returned (.tuple #[.string ⟨(Lib.cut s.data.toList [c]).1.toArray⟩,.string ⟨(Lib.cut s.data.toList [c]).2.1.toArray⟩,.bool (Lib.cut s.data.toList [c]).2.2])=_
 rw [e]
 rfl
theorem trim_call (s:ByteArray) (c:UInt8) (w:World) (hs:s.size≤2000000):Calls Tryz.prog 93 #[.string s,.string ⟨#[c]⟩] w fun e w'=>e=.returned (.string (bs (trim1 c (tl s))))∧w'=w:=by
 refine (Sh_strings_TrimSuffix s ⟨#[c]⟩ w (by omega)).mono ?_
 rintro e w' ⟨rfl,rfl⟩
 refine ⟨?_,rfl⟩
 show Ending.returned (.string ⟨(Lib.trimSuffix s.data.toList [c]).toArray⟩)=_
 rw [show Lib.trimSuffix s.data.toList [c]=trim1 c (tl s) from lib_trim c (tl s)]
 rfl
theorem split_call (s:ByteArray) (c:UInt8) (w:World) (hs:s.size≤2000000) (hv:VarsOK w):Calls Tryz.prog 39 #[.string s,.string ⟨#[c]⟩] w fun e w'=>∃ v F,e=.returned v∧Below w w w'∧Arr w' (StrR w') ((cutL c (tl s)).map bs) v F∧Fresh w w' F:=by
 obtain ⟨⟨m,hm⟩,-⟩:=hv
 refine (Sh_strings_Split s ⟨#[c]⟩ m w (by omega) hm (by show 1≤1;omega)).mono ?_
 rintro e w' ⟨rfl,rfl⟩
 have hle:=Lib.countB_le ⟨#[c]⟩ (by show 1≤1;omega) s.size s (zz8 _)
 have hlen:=Lib.splitB_all ⟨#[c]⟩ (by show 1≤1;omega) 0 _ s rfl
 have h:=arr_strs w (Lib.splitB ⟨#[c]⟩ 0 (Lib.countB s ⟨#[c]⟩) s) 9 (by omega)
 rw [hlen] at h
 refine ⟨_,[w.heap.size],rfl,(zy2 _ _).alloc (zz8 _) _,?_,fun b hb=>by rw [List.mem_singleton.1 hb];exact ⟨zz8 _,by simp⟩⟩
 rw [←split_pieces c s]
 exact h
theorem atoi_call (s:ByteArray) (w:World) (hs:s.size≤2000000) (hv:VarsOK w):Calls Tryz.prog 94 #[.string s] w fun e w'=>∃ ev,e=.returned (.tuple #[.int .i64 (atoiI (tl s)),ev])∧Below w w w':=by
 obtain ⟨-,⟨e1,h1,h2⟩,⟨e2,h3,h4⟩,-⟩:=hv
 cases h:Lib.atoiAll (tl s) with
 |ok v =>
  refine (Sh_strconv_Atoi_ok s (by omega) v h w).mono ?_
  rintro e w' ⟨rfl,hw⟩
  refine ⟨_,by unfold atoiI;rw [h],?_⟩
  rcases hw with rfl | ⟨t,rfl⟩
  ·exact zy2 _ _
  ·exact ⟨rfl,rfl,rfl,by rw [Lib.bytesWorld_size];omega,fun k hk=>Lib.bytesWorld_at_old w _ t k hk⟩
 |range =>
  refine (Sh_strconv_Atoi_range s (by omega) h e2 w h3 h4).mono ?_
  rintro e w' ⟨N,rfl,-,-,hb⟩
  exact ⟨_,by unfold atoiI;rw [h];rfl,hb⟩
 |_ =>
  refine (Sh_strconv_Atoi_syntax s (by omega) (fun v e=>by have:=h.symm.trans e;cases this) (fun e=>by have:=h.symm.trans e;cases this) e1 w h1 h2).mono ?_
  rintro e w' ⟨N,rfl,-,-,hb⟩
  exact ⟨_,by unfold atoiI;rw [h],hb⟩
set_option maxHeartbeats 6400000 in
theorem impl_readArg (names s:ByteArray) (hs:s.size≤2000000) (w:World) :
  Calls Tryz.prog 95 #[.string names,.string s] w fun e w'=>e=.returned (.agg #[.int .i64 (rdA names s).d,.int .i64 (rdA names s).i])∧Below w w w':=by
 cases q0:(s.toList==[73]) with
 |true =>
  have hf:Hid (rdA names s=⟨-1,0⟩):=rdA_int (by rw [beq_iff_eq,zA2] at q0;exact q0)
  go_enter Tryz.func95,Tryz.ntmps95
  go_wp2
  refine bodyPost_ret (results_cell_row rfl _ _ w.heap.size 25 #[.int .i64 (-1),.int .i64 (0)] (0,0) _ rfl (Blk.new w _ _) Tryz.underlying25 rfl rfl) rfl ?_
  exact ⟨ret_ty hf.out,(zy2 _ _).alloc (zz8 _) _⟩
 |false =>
  cases q1:(s.toList==[]) with
  |true =>
   have hf:Hid (rdA names s=⟨-1,0⟩):=rdA_nil (by rw [beq_iff_eq,zA2] at q1;exact q1)
   go_enter Tryz.func95,Tryz.ntmps95
   go_wp2
   refine bodyPost_ret (results_cell_row rfl _ _ w.heap.size 25 #[.int .i64 (-1),.int .i64 (0)] (0,0) _ rfl (Blk.new w _ _) Tryz.underlying25 rfl rfl) rfl ?_
   exact ⟨ret_ty hf.out,(zy2 _ _).alloc (zz8 _) _⟩
  |false =>
   have p1:0<s.size:=by
    rcases Nat.eq_zero_or_pos s.size with h | h
    ·rw [beq_eq_false_iff_ne,zA2] at q1
     exact absurd (List.eq_nil_of_length_eq_zero (by rw [zA6];exact h)) q1
    ·exact h
   have p1i:(0:Int)<(s.size:Int):=by omega
   have p1j:(1:Int)≤(s.size:Int):=by omega
   have HP:=jj (rdA_cons (names:=names) (by rw [beq_eq_false_iff_ne,zA2] at q0;exact q0) p1)
   go_enter Tryz.func95,Tryz.ntmps95
   go_wp2_with fail
   obtain ⟨w1,hw1⟩:∃ X,X=(w.alloc (.cells #[(0:Int),(0:Int)] 25)):=⟨_,rfl⟩
   have hB1:Below w w w1:=by rw [hw1];exact (zy2 _ _).alloc (zz8 _) _
   have K1:Hid (Blk w1 w 25 #[(0:Int),(0:Int)]):=by rw [hw1];exact Blk.new w _ _
   rw [←hw1]
   clear hw1
   refine (index_call names s[0] w1).mono ?_
   rintro e w2 ⟨rfl,rfl⟩
   obtain ⟨d0,hd0⟩:∃ d,d=indexB s[0] 0 (tl names):=⟨_,rfl⟩
   rw [←hd0] at HP ⊢
   clear hd0
   have k0:w2.cell? ⟨w,0,none⟩=some (.int .i64 0):=(K1.out.cell 0).trans (by simp)
   have k1:w2.cell? ⟨w,1,none⟩=some (.int .i64 0):=(K1.out.cell 1).trans (by simp)
   have f0:=K1.out.frozen 0
   have f1:=K1.out.frozen 1
   have klt:=K1.out.lt
   clear q0 q1
   by_cases hneg:d0<0
   ·have t1:decide (d0<0)=true:=decide_eq_true hneg
    have HD:Hid ((if d0<0 then (4:Int) else d0)=4):=if_pos hneg
    clear hneg
    cases q2:((s.extract 1 s.size).toList==[42]) with
    |true =>
     have hf:Hid (rdA names s=⟨4,-1⟩):=by
      rw [beq_iff_eq,zA2] at q2
      unfold Hid;rw [HP.out,HD.out,idxI_star q2]
     go_wp2
     refine bodyPost_ret (results_cell_row rfl _ _ w.heap.size 25 #[.int .i64 (4),.int .i64 (-1)] (0,0) _ rfl (K1.out.pair _ _ _) Tryz.underlying25 rfl rfl) rfl ?_
     exact ⟨ret_ty hf.out,zAD hB1 (zz8 _) (zz8 _) _ _ _⟩
    |false =>
     have HN:Hid (¬tl (s.extract 1 s.size)=[42]):=by
      rw [beq_eq_false_iff_ne,zA2] at q2
      exact q2
     by_cases h2:s.size=2
     ·have p2:1<s.size:=by omega
      have p3:(1:Int)<(s.size:Int):=by omega
      have q3:((s.size:Int)-1==1)=true:=by simp;omega
      have q4:((s.size:Int)==2)=true:=by simp;omega
      have hf:Hid (rdA names s=⟨4,((s[1]-48).toNat:Int)⟩):=by unfold Hid;rw [HP.out,HD.out,idxI_one HN.out h2 p2]
      clear h2
      go_wp2
      refine bodyPost_ret (results_cell_row rfl _ _ w.heap.size 25 _ (0,0) _ rfl (K1.out.pair _ _ _) Tryz.underlying25 rfl rfl) rfl ?_
      exact ⟨ret_ty (hf.out.trans (by rw [byte_mod,ext_one p2])),zAD hB1 (zz8 _) (zz8 _) _ _ _⟩
     ·have q3:((s.size:Int)-1==1)=false:=by rw [beq_eq_false_iff_ne];omega
      have q4:((s.size:Int)==2)=false:=by rw [beq_eq_false_iff_ne];omega
      have hf:Hid (rdA names s=⟨4,0⟩):=by unfold Hid;rw [HP.out,HD.out,idxI_not HN.out (by rw [zA6,ByteArray.size_extract];omega)]
      clear h2
      go_wp2
      refine bodyPost_ret (results_cell_row rfl _ _ w.heap.size 25 #[.int .i64 (4),.int .i64 (0)] (0,0) _ rfl (K1.out.pair _ _ _) Tryz.underlying25 rfl rfl) rfl ?_
      exact ⟨ret_ty hf.out,zAD hB1 (zz8 _) (zz8 _) _ _ _⟩
   ·have t1:decide (d0<0)=false:=decide_eq_false hneg
    have HD:Hid ((if d0<0 then (4:Int) else d0)=d0):=if_neg hneg
    clear hneg
    cases q2:((s.extract 1 s.size).toList==[42]) with
    |true =>
     have hf:Hid (rdA names s=⟨d0,-1⟩):=by
      rw [beq_iff_eq,zA2] at q2
      unfold Hid;rw [HP.out,HD.out,idxI_star q2]
     go_wp2
     refine bodyPost_ret (results_cell_row rfl _ _ w.heap.size 25 #[.int .i64 (d0),.int .i64 (-1)] (0,0) _ rfl (K1.out.pair _ _ _) Tryz.underlying25 rfl rfl) rfl ?_
     exact ⟨ret_ty hf.out,zAD hB1 (zz8 _) (zz8 _) _ _ _⟩
    |false =>
     have HN:Hid (¬tl (s.extract 1 s.size)=[42]):=by
      rw [beq_eq_false_iff_ne,zA2] at q2
      exact q2
     by_cases h2:s.size=2
     ·have p2:1<s.size:=by omega
      have p3:(1:Int)<(s.size:Int):=by omega
      have q3:((s.size:Int)-1==1)=true:=by simp;omega
      have q4:((s.size:Int)==2)=true:=by simp;omega
      have hf:Hid (rdA names s=⟨d0,((s[1]-48).toNat:Int)⟩):=by unfold Hid;rw [HP.out,HD.out,idxI_one HN.out h2 p2]
      clear h2
      go_wp2
      refine bodyPost_ret (results_cell_row rfl _ _ w.heap.size 25 _ (0,0) _ rfl (K1.out.pair _ _ _) Tryz.underlying25 rfl rfl) rfl ?_
      exact ⟨ret_ty (hf.out.trans (by rw [byte_mod,ext_one p2])),zAD hB1 (zz8 _) (zz8 _) _ _ _⟩
     ·have q3:((s.size:Int)-1==1)=false:=by rw [beq_eq_false_iff_ne];omega
      have q4:((s.size:Int)==2)=false:=by rw [beq_eq_false_iff_ne];omega
      have hf:Hid (rdA names s=⟨d0,0⟩):=by unfold Hid;rw [HP.out,HD.out,idxI_not HN.out (by rw [zA6,ByteArray.size_extract];omega)]
      clear h2
      go_wp2
      refine bodyPost_ret (results_cell_row rfl _ _ w.heap.size 25 #[.int .i64 (d0),.int .i64 (0)] (0,0) _ rfl (K1.out.pair _ _ _) Tryz.underlying25 rfl rfl) rfl ?_
      exact ⟨ret_ty hf.out,zAD hB1 (zz8 _) (zz8 _) _ _ _⟩
theorem cut1_len (c:UInt8):∀ l:List UInt8,(cut1 c l).1.length≤l.length∧(cut1 c l).2.1.length≤l.length
 |[]=>⟨zz8 _,zz8 _⟩
 |x :: l=>by
  have ih:=cut1_len c l
  rw [cut1]
  split
  ·exact ⟨Nat.zero_le _,Nat.le_succ _⟩
  ·exact ⟨Nat.succ_le_succ ih.1,Nat.le_succ_of_le ih.2⟩
theorem trim1_len (c:UInt8) (l:List UInt8):(trim1 c l).length≤l.length:=by
 unfold trim1
 split
 ·rw [List.length_dropLast];omega
 ·exact zz8 _
def nmK (s:ByteArray):ByteArray:=bs (cut1 40 (trim1 41 (cut1 58 (tl s)).1)).1
def agK (s:ByteArray):ByteArray:=bs (cut1 40 (trim1 41 (cut1 58 (tl s)).1)).2.1
def hasK (s:ByteArray):Bool:=(cut1 40 (trim1 41 (cut1 58 (tl s)).1)).2.2
def ixK (s:ByteArray):Int:=atoiI (cut1 58 (tl s)).2.1
def rdK (names s:ByteArray):Kt:=readKtI atoiI (tl names) (tl s)
def rdsTo (names:ByteArray) (ags:List ByteArray) (i:Nat):List Ty:=(ags.take i).map (rdA names)
theorem rdsTo_succ (names:ByteArray) (ags:List ByteArray) (i:Nat) (h:i<ags.length):rdsTo names ags (i+1)=rdsTo names ags i ++ [rdA names ags[i]]:=zAN _ _ _ h
theorem rdsTo_len (names:ByteArray) (ags:List ByteArray) (i:Nat):(rdsTo names ags i).length≤i:=by unfold rdsTo;rw [List.length_map,List.length_take];omega
theorem rdK_no {names s:ByteArray} (h:hasK s=false):rdK names s=⟨nmK s,[],ixK s⟩:=by
 unfold hasK at h
 unfold rdK readKtI nmK ixK
 simp only
 rw [if_neg (by simp [h])]
theorem rdK_yes {names s:ByteArray} (h:hasK s=true) {ags:List ByteArray} (ha:ags=(cutL 44 (tl (agK s))).map bs) {i:Nat} (hi:ags.length≤i):rdK names s=⟨nmK s,rdsTo names ags i,ixK s⟩:=by
 unfold hasK at h
 have e:rdsTo names ags i=(cutL 44 (cut1 40 (trim1 41 (cut1 58 (tl s)).1)).2.1).map (readArgI (tl names)):=by
  unfold rdsTo
  rw [List.take_of_length_le hi,ha,List.map_map]
  rfl
 rw [e]
 unfold rdK readKtI nmK ixK
 simp only
 rw [if_pos h]
end Go.Proofs.YtjjclcmmfeegfaaGreatDoor
