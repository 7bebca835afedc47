/-
  Lemmas, and contracts of functions. Conditions: none.
-/
import Derived.Test.YtjjclcmmfeegfaaGreatDoorQAA
import Derived.Deep.RegionWith
import Derived.Deep.RegionHeld3
import Derived.IntWalk
import Derived.Test.YtjjclcmmfeegfaaGreatDoorChecked
import Derived.Laws.BytesArg
import Derived.Deep.QuietTactic
import Derived.BigQuiet

set_option linter.unusedVariables false
set_option linter.unusedSimpArgs false
set_option maxRecDepth 100000
set_option maxHeartbeats 1600000

namespace Go.Proofs.YtjjclcmmfeegfaaGreatDoor
open Go.RowKit
theorem spec_l1ParseCtor (names:List ByteArray) (s:ByteArray) (w:World) (v:Value) (F:List Nat) (hx:Arr w (StrR w) names v F) (hf:Under w F) (hs:s.size≤2000000) :
  Calls Tryz.prog 37 #[v,.string s] w (GivesKt w (pkt names s)):=by
 obtain ⟨A,cap,rfl,hc1,hc2⟩:=hx.form
 have HX:=jj hx
 have HF:=jj hf
 clear hx hf
 obtain ⟨i0,hi,hz0,hz1,hz2⟩:=info_parts info_tyE
 have HI:=jj hi
 have HZ0:=jj hz0
 have HZ1:=jj hz1
 have HZ2:=jj hz2
 clear hi hz0 hz1 hz2
 by_cases h2:2<s.size
 focus
  obtain ⟨k2,hk2⟩:∃ k,s.size=k+2:=⟨s.size-2,by omega⟩
  have t0:decide ((s.size:Int)>2)=true:=decide_eq_true (by omega)
  have g0:(0:Int)≤(k2:Int):=by omega
  have g1:(k2:Int)<(s.size:Int):=by omega
  have g2:k2<s.size:=by omega
  have g3:k2+1<s.size:=by omega
  have hi1:=hasIdx_at h2
  have e2:s[s.size-2]=s[k2]:=by congr 1;omega
  have e1:s[s.size-1]=s[k2+1]:=by congr 1;omega
  have hx2:(s.size:Int)-2=(k2:Int):=by omega
  have hx1:(s.size:Int)-1=((k2+1:Nat):Int):=by omega
  cases q0:((s[k2].toNat:Int)==58)
  focus
   have hno:hasIdx (tl s)=false:=by
    rw [hi1,e2]
    rw [beq_eq_false_iff_ne] at q0 ⊢
    intro e
    exact q0 (by rw [e];rfl)
   have HP:Hid (pkt names s=pbody names 0 s):=pkt_no hno
   have hsz2:=hs
   clear hi1 e1 e2 hno h2 hk2
   go_enter Tryz.func37,Tryz.ntmps37
   go_wp2_with fail
   have hB0:Below w w ((w.alloc (.cells #[.string ⟨#[]⟩,.slice none 0 0,(0:Int)] 67)).alloc (.cells #[.string ⟨#[]⟩,.slice none 0 0,.int .i64 (0)] 67)):=((zy2 _ _).alloc (zz8 _) _).alloc (by simp) _
   have KH:Hid (Blk ((w.alloc (.cells #[.string ⟨#[]⟩,.slice none 0 0,(0:Int)] 67)).alloc (.cells #[.string ⟨#[]⟩,.slice none 0 0,.int .i64 (0)] 67)) w.heap.size 67 #[.string ⟨#[]⟩,.slice none 0 0,(0:Int)]):=(Blk.new w _ _).same (Below.heap_alloc _ _ _ (by simp))
   have KC:Hid (Blk ((w.alloc (.cells #[.string ⟨#[]⟩,.slice none 0 0,(0:Int)] 67)).alloc (.cells #[.string ⟨#[]⟩,.slice none 0 0,.int .i64 (0)] 67)) (w.heap.size+1) 67 #[.string ⟨#[]⟩,.slice none 0 0,.int .i64 (0)]):=by
    have h:=Blk.new (w.alloc (.cells #[.string ⟨#[]⟩,.slice none 0 0,(0:Int)] 67)) 67 #[.string ⟨#[]⟩,.slice none 0 0,.int .i64 (0)]
    rw [World.size_alloc] at h;exact h
   have hsz0:=KC.out.lt
   obtain ⟨W0,hW0⟩:∃ W0,W0=((w.alloc (.cells #[.string ⟨#[]⟩,.slice none 0 0,(0:Int)] 67)).alloc (.cells #[.string ⟨#[]⟩,.slice none 0 0,.int .i64 (0)] 67)):=⟨_,rfl⟩
   rw [←hW0] at hB0 KH KC hsz0 ⊢
   clear hW0
   refine (zAB (s) 40 hsz2 W0).mono ?_
   rintro e w3 ⟨v3,F3,rfl,hb3,ha3,hfr3,hfs3⟩
   obtain ⟨ss,hss⟩:∃ ss,ss=s:=⟨_,rfl⟩
   obtain ⟨ix,hix⟩:∃ ix:Int,ix=0:=⟨_,rfl⟩
  rotate_left
  focus
   have hyes:hasIdx (tl s)=true:=by
    rw [hi1,e2]
    rw [beq_iff_eq] at q0 ⊢
    exact UInt8.toNat_inj.1 (by show s[k2].toNat=58;omega)
   have HP:Hid (pkt names s=pbody names ((s[k2+1].toNat:Int)-48) (s.extract 0 k2)):=by
    unfold Hid
    rw [pkt_yes hyes h2,e1,show s.size-2=k2 by omega]
   have hw0:0≤(s[k2+1].toNat:Int)∧(s[k2+1].toNat:Int)≤255:=⟨by omega,by have:=s[k2+1].toNat_lt;omega⟩
   have hw1:IntKind.i64.wrap (s[k2+1].toNat:Int)=(s[k2+1].toNat:Int):=IntWalk.i64_in _ (by omega)
   have hw2:IntKind.i64.wrap ((s[k2+1].toNat:Int)-48)=(s[k2+1].toNat:Int)-48:=IntWalk.i64_in _ (by omega)
   have hsz2:(s.extract 0 k2).size≤2000000:=by rw [ByteArray.size_extract];omega
   clear hi1 e1 e2 hyes h2 hk2
   go_enter Tryz.func37,Tryz.ntmps37
   go_wp2_with fail
   have hB0:Below w w ((w.alloc (.cells #[.string ⟨#[]⟩,.slice none 0 0,(0:Int)] 67)).alloc (.cells #[.string ⟨#[]⟩,.slice none 0 0,.int .i64 ((s[k2+1].toNat:Int)-48)] 67)):=((zy2 _ _).alloc (zz8 _) _).alloc (by simp) _
   have KH:Hid (Blk ((w.alloc (.cells #[.string ⟨#[]⟩,.slice none 0 0,(0:Int)] 67)).alloc (.cells #[.string ⟨#[]⟩,.slice none 0 0,.int .i64 ((s[k2+1].toNat:Int)-48)] 67)) w.heap.size 67 #[.string ⟨#[]⟩,.slice none 0 0,(0:Int)]):=(Blk.new w _ _).same (Below.heap_alloc _ _ _ (by simp))
   have KC:Hid (Blk ((w.alloc (.cells #[.string ⟨#[]⟩,.slice none 0 0,(0:Int)] 67)).alloc (.cells #[.string ⟨#[]⟩,.slice none 0 0,.int .i64 ((s[k2+1].toNat:Int)-48)] 67)) (w.heap.size+1) 67 #[.string ⟨#[]⟩,.slice none 0 0,.int .i64 ((s[k2+1].toNat:Int)-48)]):=by
    have h:=Blk.new (w.alloc (.cells #[.string ⟨#[]⟩,.slice none 0 0,(0:Int)] 67)) 67 #[.string ⟨#[]⟩,.slice none 0 0,.int .i64 ((s[k2+1].toNat:Int)-48)]
    rw [World.size_alloc] at h;exact h
   have hsz0:=KC.out.lt
   obtain ⟨W0,hW0⟩:∃ W0,W0=((w.alloc (.cells #[.string ⟨#[]⟩,.slice none 0 0,(0:Int)] 67)).alloc (.cells #[.string ⟨#[]⟩,.slice none 0 0,.int .i64 ((s[k2+1].toNat:Int)-48)] 67)):=⟨_,rfl⟩
   rw [←hW0] at hB0 KH KC hsz0 ⊢
   clear hW0
   refine (zAB (s.extract 0 k2) 40 hsz2 W0).mono ?_
   rintro e w3 ⟨v3,F3,rfl,hb3,ha3,hfr3,hfs3⟩
   obtain ⟨ss,hss⟩:∃ ss,ss=s.extract 0 k2:=⟨_,rfl⟩
   obtain ⟨ix,hix⟩:∃ ix:Int,ix=(s[k2+1].toNat:Int)-48:=⟨_,rfl⟩
  rotate_left
 rotate_left 2
 focus
  have t0:decide ((s.size:Int)>2)=false:=decide_eq_false (by omega)
  have HP:Hid (pkt names s=pbody names 0 s):=pkt_no (hasIdx_no h2)
  clear h2
  go_enter Tryz.func37,Tryz.ntmps37
  go_wp2_with fail
  have hsz2:=hs
  have hB0:Below w w ((w.alloc (.cells #[.string ⟨#[]⟩,.slice none 0 0,(0:Int)] 67)).alloc (.cells #[.string ⟨#[]⟩,.slice none 0 0,.int .i64 (0)] 67)):=((zy2 _ _).alloc (zz8 _) _).alloc (by simp) _
  have KH:Hid (Blk ((w.alloc (.cells #[.string ⟨#[]⟩,.slice none 0 0,(0:Int)] 67)).alloc (.cells #[.string ⟨#[]⟩,.slice none 0 0,.int .i64 (0)] 67)) w.heap.size 67 #[.string ⟨#[]⟩,.slice none 0 0,(0:Int)]):=(Blk.new w _ _).same (Below.heap_alloc _ _ _ (by simp))
  have KC:Hid (Blk ((w.alloc (.cells #[.string ⟨#[]⟩,.slice none 0 0,(0:Int)] 67)).alloc (.cells #[.string ⟨#[]⟩,.slice none 0 0,.int .i64 (0)] 67)) (w.heap.size+1) 67 #[.string ⟨#[]⟩,.slice none 0 0,.int .i64 (0)]):=by
   have h:=Blk.new (w.alloc (.cells #[.string ⟨#[]⟩,.slice none 0 0,(0:Int)] 67)) 67 #[.string ⟨#[]⟩,.slice none 0 0,.int .i64 (0)]
   rw [World.size_alloc] at h;exact h
  have hsz0:=KC.out.lt
  obtain ⟨W0,hW0⟩:∃ W0,W0=((w.alloc (.cells #[.string ⟨#[]⟩,.slice none 0 0,(0:Int)] 67)).alloc (.cells #[.string ⟨#[]⟩,.slice none 0 0,.int .i64 (0)] 67)):=⟨_,rfl⟩
  rw [←hW0] at hB0 KH KC hsz0 ⊢
  clear hW0
  refine (zAB (s) 40 hsz2 W0).mono ?_
  rintro e w3 ⟨v3,F3,rfl,hb3,ha3,hfr3,hfs3⟩
  obtain ⟨ss,hss⟩:∃ ss,ss=s:=⟨_,rfl⟩
  obtain ⟨ix,hix⟩:∃ ix:Int,ix=0:=⟨_,rfl⟩
 rotate_left
 all_goals (
  have HP:Hid (pkt names s=pbody names ix ss):=by rw [hss,hix];exact HP
  rw [←hss] at hsz2 ha3
  rw [←hix] at KC
  clear hss hix
  have hB3:=hB0.trans (hb3.mono hB0.size)
  have KH3:=jj (KH.out.same (hb3.block _ KH.out.lt))
  have KC3:=jj (KC.out.same (hb3.block _ KC.out.lt))
  have hpos:=cutS_pos 40 ss
  have hpl:=cutS_len 40 ss
  have hpm:=zAM 40 ss
  obtain ⟨parts,hparts⟩:∃ l,cutS 40 ss=l:=⟨_,rfl⟩
  rw [hparts] at ha3 hpos hpl hpm
  have HPR:=jj hparts
  clear hparts
  obtain ⟨A3,cap3,rfl,hc3,hc4⟩:=ha3.form
  obtain ⟨b3,off3,rfl⟩:=ha3.ptr hpos
  have HA3:=jj ha3
  have HU3:=jj hfs3.under
  have HN3:Hid (∀ b∈F3,w.heap.size+2≤b):=fun b hb=>by have:=(hfs3 b hb).1;omega
  obtain ⟨hb3l,p0⟩:=ArrStr.at HA3.out HU3.out (zy2 _ _) 0 hpos
  rw [Nat.add_zero] at p0
  have hsz3:w.heap.size+2≤w3.heap.size:=by have:=hb3.size;omega
  have x0:w3.cell? ⟨w.heap.size+1,0,none⟩=some (.string ⟨#[]⟩):=(KC3.out.cell 0).trans (by simp)
  have x1:w3.cell? ⟨w.heap.size+1,1,none⟩=some (.slice none 0 0):=(KC3.out.cell 1).trans (by simp)
  have x2:w3.cell? ⟨w.heap.size+1,2,none⟩=some (.int .i64 (ix)):=(KC3.out.cell 2).trans (by simp)
  have y0:w3.cell? ⟨w,0,none⟩=some (.string ⟨#[]⟩):=(KH3.out.cell 0).trans (by simp)
  have y1:w3.cell? ⟨w,1,none⟩=some (.slice none 0 0):=(KH3.out.cell 1).trans (by simp)
  have y2:w3.cell? ⟨w,2,none⟩=some (.int .i64 0):=(KH3.out.cell 2).trans (by simp)
  have yf0:=KH3.out.frozen 0
  have yf1:=KH3.out.frozen 1
  have yf2:=KH3.out.frozen 2
  have xf:=KC3.out.frozen 0
  clear hb3 ha3 hfr3 hfs3 KH KC hB0 hsz0
  have hnm:parts[0].size≤2000000:=Nat.le_trans (hpm _ (List.getElem_mem hpos)) hsz2
  have HPM:=jj hpm
  clear hpm
  have hg1:(0:Int)<(parts.length:Int):=by omega
  have hb3n:b3≠w.heap.size+1:=by
   obtain ⟨b',off',cs',G',e',hb',-⟩:=HA3.out.get (zAA w3) hpos
   cases e'
   have:=HN3.out _ hb'
   omega
  have KH4:Hid (Blk (w3.setCell ⟨w.heap.size+1,0,none⟩ (.string parts[0])) w.heap.size 67 #[.string ⟨#[]⟩,.slice none 0 0,(0:Int)]):=KH3.out.same (zz7 _ _ _ _ (by show w.heap.size≠w.heap.size+1;omega))
  have KC4:Hid (Blk (w3.setCell ⟨w.heap.size+1,0,none⟩ (.string parts[0])) (w.heap.size+1) 67 #[.string parts[0],.slice none 0 0,.int .i64 (ix)]):=KC3.out.set_ 0 _
  have hB4:Below w w (w3.setCell ⟨w.heap.size+1,0,none⟩ (.string parts[0])):=hB3.setCell (by show w.heap.size≤w.heap.size+1;omega) _
  have hc4:Chg [w.heap.size+1] w3 (w3.setCell ⟨w.heap.size+1,0,none⟩ (.string parts[0])):=(Chg.refl _ _).set (by simp)
  have HA4:Hid (Arr (w3.setCell ⟨w.heap.size+1,0,none⟩ (.string parts[0])) (StrR (w3.setCell ⟨w.heap.size+1,0,none⟩ (.string parts[0]))) parts (.slice (some ⟨b3,off3,none⟩) parts.length cap3) F3):=ArrStr.mono HA3.out (hc4.kept HU3.out (fun b hb=>by have:=HN3.out b hb;simp;omega))
  have HU4:Hid (Under (w3.setCell ⟨w.heap.size+1,0,none⟩ (.string parts[0])).heap.size F3):=HU3.out.mono hc4.size
  have hsz4:w.heap.size+2≤(w3.setCell ⟨w.heap.size+1,0,none⟩ (.string parts[0])).heap.size:=Nat.le_trans hsz3 hc4.size
  by_cases h1:1<parts.length
  ·have t5:decide ((parts.length:Int)<2)=false:=decide_eq_false (by omega)
   obtain ⟨-,p1⟩:=ArrStr.at HA3.out HU3.out (zy2 _ _) 1 h1
   have hg2:(1:Int)<(parts.length:Int):=by omega
   have hpm1:parts[1].size≤2000000:=Nat.le_trans (HPM.out _ (List.getElem_mem h1)) hsz2
   by_cases hz:parts[1].size=0
   ·have t6:((parts[1].size:Int)==0)=true:=beq_iff_eq.2 (by omega)
    have hf:=jj (HP.out.trans (pbody_empty' HPR.out h1 hz))
    clear hz
    go_wp2
    refine bodyPost_ret (results_cell_row rfl _ _ w.heap.size 67 #[.string parts[0],.slice none 0 0,.int .i64 (ix)] (0,0) _ rfl (KH4.out.triple _ _ _) Tryz.underlying67 rfl rfl) rfl ?_
    exact GivesKt.done (B:=w.heap.size+1) (E:=25) hf.out hB4 rfl KH4.out.lt (Own.nil _ _ _ _ _) (Nat.lt_succ_self _) (by omega) _ _ _
   ·have t6:((parts[1].size:Int)==0)=false:=by rw [beq_eq_false_iff_ne];omega
    have hf:=jj (HP.out.trans (pbody_args' HPR.out h1 hz))
    obtain ⟨q,hq⟩:∃ q,parts[1].size=q+1:=⟨parts[1].size-1,by omega⟩
    have hxq:(parts[1].size:Int)-1=(q:Int):=by omega
    have hwq:IntKind.i64.wrap (q:Int)=(q:Int):=IntWalk.i64_in _ (by omega)
    have hq0:(0:Int)≤(q:Int):=by omega
    have hq1:(q:Int)≤(parts[1].size:Int):=by omega
    have hq2:q≤parts[1].size:=by omega
    have hq3:parts[1].size-1=q:=by omega
    rw [hq3] at hf
    have hsz5:(parts[1].extract 0 q).size≤2000000:=by rw [ByteArray.size_extract];omega
    clear hz hq hq3
    go_wp2_with fail
    obtain ⟨W4,hW4⟩:∃ W4,W4=(w3.setCell ⟨w.heap.size+1,0,none⟩ (.string parts[0])):=⟨_,rfl⟩
    have p14:W4.cell? ⟨b3,off3+1,none⟩=some (.string parts[1]):=by rw [hW4,World.cell?_setCell_far _ _ _ _ (by show w.heap.size+1≠b3;omega)];exact p1
    have hb34:b3<W4.heap.size:=by rw [hW4];simpa [World.setCell] using hb3l
    rw [←hW4] at KH4 KC4 hB4 hc4 HA4 HU4 hsz4 ⊢
    clear hW4 p0 p1 x0 x1 x2 y0 y1 y2 yf0 yf1 yf2 xf hb3l KH3 KC3 HA3 HU3
    have HCUT:Hid (Calls Tryz.prog 36 #[.string (parts[1].extract 0 q),.int .u8 44] W4.drew (MadeStrs W4.drew (cutS 44 (parts[1].extract 0 q)))):=zAB (parts[1].extract 0 q) 44 hsz5 W4.drew
    have hkeep:Kp W4.heap.size (fun U=>U.cell? ⟨b3,off3+1,none⟩=some (.string parts[1])):=fun U U' h hUU hU=>(hUU.cell (zz9 (hb34) hU)).trans h
    have HKeep:=jj hkeep
    clear hkeep
    go_region_held3 (fun w'=>w'.cell? ⟨b3,off3+1,none⟩=some (.string parts[1])) (first | assumption | (exact p14) | (exact HKeep.out W4.drew w5 p14 hb5 (zz8 _))) (first | (go_at_call 36;((with_reducible refine HCUT.out.mono ?_);rintro e w5 ⟨v5,F5,rfl,hb5,ha5,hfr5,hfs5⟩)))
    have hB5:=hB4.drew.trans (hb5.mono hB4.size)
    have KH5:=jj (KH4.out.same (hb5.block _ KH4.out.lt))
    have KC5:=jj (KC4.out.same (hb5.block _ KC4.out.lt))
    have hag:=cutS_len 44 (parts[1].extract 0 q)
    have hagm:=jj (zAM 44 (parts[1].extract 0 q))
    have hFr5:Hid (∀ b∈F5,w.heap.size+2≤b):=fun b hb=>Nat.le_trans hsz4 (hfs5 b hb).1
    have HU5:=jj hfs5.under
    have hsz6:w.heap.size+2≤w5.heap.size:=Nat.le_trans hsz4 hb5.size
    obtain ⟨ags,hags⟩:∃ l,cutS 44 (parts[1].extract 0 q)=l:=⟨_,rfl⟩
    rw [hags] at ha5 hag hagm hf
    clear hags
    obtain ⟨A5,cap5,rfl,hc5,hc6⟩:=ha5.form
    have HA5:=jj ha5
    clear HKeep hb5 ha5 hfr5 hfs5 KH4 KC4 hB4 p14 hb34 hc4 HA4 HU4
    go_wp2
    go_loopw [8] (fun iv wr=>∃ i:Nat,∃ kv:Value,i≤ags.length∧i≤4∧iv=.int .i64 i∧Hid (Blk wr (w.heap.size+1) 67 #[.string parts[0],kv,.int .i64 (ix)])∧Hid (Blk wr w 67 #[.string ⟨#[]⟩,.slice none 0 0,(0:Int)])∧Hid (Own wr w5.heap.size 25 2 TyR (ptysTo names ags i) kv [])∧Hid (Chg [w.heap.size+1] w5 wr)∧Below w w wr∧w5.heap.size≤wr.heap.size) (fun iv _=>4-(intOf iv).toNat)
    case atStart=>exact ⟨0,_,Nat.zero_le _,by omega,rfl,KC5,KH5,(show Own _ _ _ _ _ (ptysTo names ags 0) _ _ from Own.nil _ _ _ _ _),Chg.refl _ _,hB5,zz8 _⟩
    case round =>
     clear hB5 KH5 KC5
     obtain ⟨i,kv,hil,hi4,rfl,KC,KH,HO,HC,hB,hwz⟩:=hrel
     have z0:wr.cell? ⟨w.heap.size+1,0,none⟩=some (.string parts[0]):=(KC.out.cell 0).trans (by simp)
     have z1:wr.cell? ⟨w.heap.size+1,1,none⟩=some kv:=(KC.out.cell 1).trans (by simp)
     have z2:wr.cell? ⟨w.heap.size+1,2,none⟩=some (.int .i64 (ix)):=(KC.out.cell 2).trans (by simp)
     have zf1:=KC.out.frozen 1
     by_cases hlt:i<ags.length∧i≤3
     ·obtain ⟨hl1,hl2⟩:=hlt
      have u1:decide ((i:Int)<(ags.length:Int))=true:=decide_eq_true (by omega)
      have u2:decide ((i:Int)≤3)=true:=decide_eq_true (by omega)
      have g5:(0:Int)≤(i:Int):=by omega
      have g6:(i:Int)<(ags.length:Int):=by omega
      obtain ⟨b5,off5,rfl⟩:=HA5.out.ptr (by omega)
      have HAr:Hid (Arr wr (StrR wr) ags (.slice (some ⟨b5,off5,none⟩) ags.length cap5) F5):=ArrStr.mono HA5.out (HC.out.kept HU5.out (fun b hb=>by have:=hFr5.out b hb;simp;omega))
      obtain ⟨hb5l,c0⟩:=ArrStr.at HAr.out (HU5.out.mono hwz) (zy2 _ _) i hl1
      have hb5w:b5<w5.heap.size:=by
       obtain ⟨b',off',cs',G',e',hb',-⟩:=HA5.out.get (zAA w5) hl1
       cases e'
       exact HU5.out _ hb'
      have hb5n:w.heap.size+1≠b5:=by
       obtain ⟨b',off',cs',G',e',hb',-⟩:=HAr.out.get (zAA wr) hl1
       cases e'
       have:=hFr5.out _ hb'
       omega
      have hm5:ags[i].size≤2000000:=Nat.le_trans (hagm.out _ (List.getElem_mem hl1)) hsz5
      have HF2:=jj (ptysTo_succ names ags i hl1)
      have hkl:(ptysTo names ags i).length≤3:=Nat.le_trans (ptysTo_len names ags i) (by omega)
      have hkz:=KC.out.lt
      have HCALL:=jj (spec_l1ParseType names ags[i] wr.drew _ F (ArrStr.below HX.out hB.drew HF.out) (HF.out.mono hB.drew.size) hm5)
      obtain ⟨kA,kcap,hkv,-,-⟩:=HO.out.form
      subst hkv
      go_wp2_with fail
      generalize hpty:pty names ags[i]=py at HCALL HF2
      clear hpty
      have hmx:(ptysTo names ags i).length+1≤maxLen:=by unfold maxLen;omega
      have hby:((ptysTo names ags i).length+1)*16≤140737488355328:=by omega
      refine zA9 (S:=fun w'=>w'.cell? ⟨b5,off5+i,none⟩=some (.string ags[i])) (T:=fun w'=>w'.cell? ⟨w.heap.size+1,1,none⟩=some (.slice kA (ptysTo names ags i).length kcap)) (d:=9) (by kernel_rfl) ?_
      have hS1:wr.drew.cell? ⟨b5,off5+i,none⟩=some (.string ags[i]):=c0
      have hT1:wr.drew.cell? ⟨w.heap.size+1,1,none⟩=some (.slice kA (ptysTo names ags i).length kcap):=z1
      refine wV 0 rfl hS1 hT1 ?_
      (try simp only [Act.put,zz4,zz5,zz6])
      refine zAG (i:=1) (v:=?_) rfl (by decide) rfl (by kernel_rfl) (by kernel_rfl) (by kernel_rfl) (by kernel_rfl) (fun _ _ _ h=>h) (Or.inl ⟨by rfl,?hy1⟩) (by rfl) hS1 hT1 ?_
      case hy1=>(intro W hSw;(try dsimp only at hSw);go_simp;try with_reducible rfl)
      (try simp only [Act.put,zz4,zz5,zz6])
      refine wV 2 rfl hS1 hT1 ?_
      (try simp only [Act.put,zz4,zz5,zz6])
      refine wV 3 rfl hS1 hT1 ?_
      (try simp only [Act.put,zz4,zz5,zz6])
      refine wV 4 rfl hS1 hT1 ?_
      (try simp only [Act.put,zz4,zz5,zz6])
      refine wV 5 rfl hS1 hT1 ?_
      (try simp only [Act.put,zz4,zz5,zz6])
      refine wV 6 rfl hS1 hT1 ?_
      (try simp only [Act.put,zz4,zz5,zz6])
      refine w1 7 rfl fun K hK=>?_
      go_simp
      go_at_call 89
      with_reducible refine HCALL.out.mono ?_
      rintro e w6 ⟨rfl,hB6⟩
      have hS6:w6.cell? ⟨b5,off5+i,none⟩=some (.string ags[i]):=(hB6.cell hb5l).trans c0
      have z61:w6.cell? ⟨w.heap.size+1,1,none⟩=some (.slice kA (ptysTo names ags i).length kcap):=(hB6.cell hkz).trans z1
      have zf61:w6.frozen? ⟨w.heap.size+1,1,none⟩=false:=(hB6.frozen hkz).trans zf1
      have hkz6:w.heap.size+1<w6.heap.size:=zz9 hkz hB6.size
      have HO6:Hid (Own w6 w5.heap.size 25 2 TyR (ptysTo names ags i) (.slice kA (ptysTo names ags i).length kcap) []):=Own.below (fun x cs G hk h=>TyR_mono' _ _ x cs G hk h) (w:=wr) HO.out (zAJ hB6)
      dsimp only
      refine hK.out _ _ hS6 (fun _=>z61) ?_
      clear hK K
      (try simp only [Act.put,zz4,zz5,zz6])
      refine w1 8 rfl fun K hK=>?_
      go_simp
      refine hK.out _ _ ((World.cell?_alloc_lt _ _ _ (zz9 hb5l hB6.size)).trans hS6) (fun _=>(World.cell?_alloc_lt _ _ _ hkz6).trans z61) ?_
      clear hK K
      (try simp only [Act.put,zz4,zz5,zz6])
      refine w1 9 rfl fun K hK=>?_
      refine zAF (P:=Tryz.prog) rfl _ _ 65 rfl i0 _ 16 Tryz.underlying65 HI.out HZ0.out HZ1.out HZ2.out rfl (by decide) TyR_len' TyR_mono' (by rfl) HO6.out ⟨py.d,py.i⟩ 25 [py.d,py.i] [] _ (by rfl) rfl (by simp [Value.oneCell']) ⟨rfl,rfl⟩ (Under.nil _) (fun _ _ h=>by cases h) hmx hby (Nat.le_trans hwz hB6.size) ?_
      intro g cp w7 hown7 hgr7 hat7
      have hrow7:=HO6.out.row
      have n7:∀ x,x<w5.heap.size→some x≠(Value.slice kA (ptysTo names ags i).length kcap).ownBlock:=fun x hx e=>Nat.lt_irrefl _ (zz9 hx (hrow7 x (zA1.2 e.symm)).1)
      have l7:w6.heap.size≤(w6.alloc (.cells #[py.d,py.i] 25)).heap.size:=by rw [World.size_alloc];exact Nat.le_succ _
      have s7:w7.cell? ⟨b5,off5+i,none⟩=some (.string ags[i]):=(World.grownBy.cell_far hgr7 ⟨b5,off5+i,none⟩ (zz9 (zz9 hb5l hB6.size) l7) (n7 _ hb5w)).trans ((World.cell?_alloc_lt _ _ _ (zz9 hb5l hB6.size)).trans hS6)
      have z71:w7.cell? ⟨w.heap.size+1,1,none⟩=some (.slice kA (ptysTo names ags i).length kcap):=(World.grownBy.cell_far hgr7 ⟨w.heap.size+1,1,none⟩ (zz9 hkz6 l7) (n7 _ hsz6)).trans ((World.cell?_alloc_lt _ _ _ hkz6).trans z61)
      have zf71:w7.frozen? ⟨w.heap.size+1,1,none⟩=false:=(World.grownBy.frozen_far hgr7 ⟨w.heap.size+1,1,none⟩ (zz9 hkz6 l7) (n7 _ hsz6)).trans (Eq.trans (World.frozen?_of_block (Below.heap_alloc _ _ _ hkz6)) zf61)
      refine hK.out _ _ s7 (fun _=>z71) ?_
      clear hK K
      (try simp only [Act.put,zz4,zz5,zz6])
      refine wV 10 rfl s7 z71 ?_
      (try simp only [Act.put,zz4,zz5,zz6])
      refine w1 11 rfl fun K hK=>?_
      go_simp
      refine hK.out _ _ ((World.cell?_setCell_far _ _ _ _ (by show w.heap.size+1≠b5;omega)).trans s7) (fun h=>by cases h) ?_
      clear hK K
      (try simp only [Act.put,zz4,zz5,zz6])
      refine wE (by kernel_rfl) ?_
      all_goals (
       have hx6:wr.heap.size≤w6.heap.size:=hB6.size
       have hB67:Below w5 w6 w7:=((zy2 w5.heap.size w6).alloc (by omega) _).grown hgr7 (by simp;omega) (fun g hg=>(hrow7 g (zA1.2 hg)).1)
       have hC6:Chg [w.heap.size+1] w5 w6:=HC.out.drew.step hB6
       have hC7:Chg [w.heap.size+1] w5 w7:=hC6.under hB67
       have KC6:Blk w6 (w.heap.size+1) 67 _:=KC.out.same (hB6.block _ hkz)
       have KC7:=KC6.same (hB67.block _ hsz6)
       have KH6:Blk w6 w 67 _:=KH.out.same (hB6.block _ KH.out.lt)
       have KH7:=KH6.same (hB67.block _ (by omega))
       have KC8:=jj (KC7.set_ 1 (.slice (some ⟨g,0,none⟩) ((ptysTo names ags i).length+1) cp))
       have KH8:=jj (KH7.same (zz7 w7 ⟨w.heap.size+1,1,none⟩ (.slice (some ⟨g,0,none⟩) ((ptysTo names ags i).length+1) cp) w.heap.size (by show w.heap.size≠w.heap.size+1;omega)))
       have HO8:=jj (Own.set (j:=1) (b:=w.heap.size+1) TyR_mono' hown7 (.slice (some ⟨g,0,none⟩) ((ptysTo names ags i).length+1) cp) (fun h=>by have:=(hown7.row _ h).1;omega) (fun h=>by cases h))
       have HC8:=jj (hC7.set (j:=1) (b:=w.heap.size+1) (u:=.slice (some ⟨g,0,none⟩) ((ptysTo names ags i).length+1) cp) (by simp))
       have hB8:Below w w w7:=(hB.drew.trans (hB6.mono hB.drew.size)).trans (hB67.mono (by omega))
       have hB9:Below w w (w7.setCell ⟨w.heap.size+1,1,none⟩ (.slice (some ⟨g,0,none⟩) ((ptysTo names ags i).length+1) cp)):=hB8.setCell (by show w.heap.size≤w.heap.size+1;omega) _
       have hwz8:w5.heap.size≤(w7.setCell ⟨w.heap.size+1,1,none⟩ (.slice (some ⟨g,0,none⟩) ((ptysTo names ags i).length+1) cp)).heap.size:=HC8.out.size
       clear hS1 hT1 hS6 s7 hx6 hB67 hC6 hC7 KC6 KC7 KH6 KH7 hB8 hown7 hgr7 hat7 hrow7 n7 l7 z61 zf61 z0 z1 z2 zf1 z71 zf71
       go_wp2
       go_roundw
       case rel=>exact ⟨i+1,_,by omega,by omega,by go_num,KC8,KH8,by rw [HF2.out];exact HO8.out,HC8,hB9,hwz8⟩
       case measure=>(simp [intOf] <;> omega))
     ·obtain ⟨kA,kcap,hkv,-,-⟩:=HO.out.form
      subst hkv
      have hfin:pkt names s=⟨parts[0],(ags.take 4).map (pty names),ix⟩:=hf.out
      have htk:(ags.take i)=ags.take 4:=by
       rcases Nat.lt_or_ge i 4 with h | h
       ·rw [List.take_of_length_le (by omega),List.take_of_length_le (by omega)]
       ·congr 1;omega
      have hfin2:Hid (pkt names s=⟨parts[0],ptysTo names ags i,ix⟩):=by unfold ptysTo;rw [htk];exact hfin
      clear hfin htk
      have y0:wr.cell? ⟨w,0,none⟩=some (.string ⟨#[]⟩):=(KH.out.cell 0).trans (by simp)
      have y1:wr.cell? ⟨w,1,none⟩=some (.slice none 0 0):=(KH.out.cell 1).trans (by simp)
      have y2:wr.cell? ⟨w,2,none⟩=some (.int .i64 0):=(KH.out.cell 2).trans (by simp)
      have yf0:=KH.out.frozen 0
      have yf1:=KH.out.frozen 1
      have yf2:=KH.out.frozen 2
      by_cases hl:i<ags.length
      ·have u1:decide ((i:Int)<(ags.length:Int))=true:=decide_eq_true (by omega)
       have u2:decide ((i:Int)≤3)=false:=decide_eq_false (by omega)
       clear hlt
       go_wp2
       refine bodyPost_ret (results_cell_row rfl _ _ w.heap.size 67 #[.string parts[0],.slice kA (ptysTo names ags i).length kcap,.int .i64 (ix)] (0,0) _ rfl (KH.out.triple _ _ _) Tryz.underlying67 rfl rfl) rfl ?_
       exact GivesKt.done (B:=w5.heap.size) (E:=25) hfin2.out hB rfl KH.out.lt HO.out (by omega) (by omega) _ _ _
      ·have u1:decide ((i:Int)<(ags.length:Int))=false:=decide_eq_false (by omega)
       clear hlt
       go_wp2
       refine bodyPost_ret (results_cell_row rfl _ _ w.heap.size 67 #[.string parts[0],.slice kA (ptysTo names ags i).length kcap,.int .i64 (ix)] (0,0) _ rfl (KH.out.triple _ _ _) Tryz.underlying67 rfl rfl) rfl ?_
       exact GivesKt.done (B:=w5.heap.size) (E:=25) hfin2.out hB rfl KH.out.lt HO.out (by omega) (by omega) _ _ _
  ·have t5:decide ((parts.length:Int)<2)=true:=decide_eq_true (by omega)
   have hf:=jj (HP.out.trans (pbody_short' HPR.out hpos (by omega)))
   clear h1
   go_wp2
   refine bodyPost_ret (results_cell_row rfl _ _ w.heap.size 67 #[.string parts[0],.slice none 0 0,.int .i64 (ix)] (0,0) _ rfl (KH4.out.triple _ _ _) Tryz.underlying67 rfl rfl) rfl ?_
   exact GivesKt.done (B:=w.heap.size+1) (E:=25) hf.out hB4 rfl KH4.out.lt (Own.nil _ _ _ _ _) (Nat.lt_succ_self _) (by omega) _ _ _)
theorem conv1 (w:World) (x:Int):(convert 22 9 (.slice (some ⟨w,0,none⟩) 1 1)).run Tryz.prog (w.alloc (.cells #[.int .u8 x] 5))=.ok (.string (strOfNums [x])) (w.alloc (.cells #[.int .u8 x] 5)) :=
 run_convert_bytes_arg _ 22 5 Tryz.underlying22 Tryz.underlying5 w.heap.size 0 1 1 [x] rfl (fun i hi=>by
  obtain rfl:i=0:=by omega
  exact ((Blk.new w 5 #[.int .u8 x]).cell 0).trans (by simp)) 9 Tryz.underlying9
theorem data_append (a b:ByteArray):(a ++ b).data.toList=a.data.toList ++ b.data.toList:=by rw [ByteArray.data_append,Array.toList_append]
theorem zA7 (a b:ByteArray):(a ++ b).size=a.size+b.size:=by show (a ++ b).data.size=_;rw [ByteArray.data_append,Array.size_append];rfl
theorem strOf_dig (n:Int) (h0:0≤n) (h9:n≤9):strOfNums [48+n]=bs (digT n):=by
 apply tl_inj
 rw [zAC]
 show (strOfNums [48+n]).data.toList=_
 rw [strOfNums_data]
 unfold digT
 simp only [List.map_cons,List.map_nil,List.cons.injEq,and_true]
 congr 1
 omega
theorem zAE {a b:ByteArray} (h:a=b):Ending.returned (.string a)=.returned (.string b):=by rw [h]
theorem zA3 (a b:ByteArray):tl (a ++ b)=tl a ++ tl b:=data_append a b
theorem idxT_len (n:Int):(idxT n).length≤1:=by
 unfold idxT
 split
 ·simp
 ·split <;> simp [digT]
theorem dname_len {s:ByteArray} (h:dnameOk (tl s)=true):s.size=1:=by
 rw [←zA6]
 unfold dnameOk at h
 split at h
 ·rename_i e;rw [e];rfl
 ·cases h
theorem nameOk_len {s:ByteArray} (h:nameOk (tl s)=true):s.size≤5:=by
 rcases Nat.lt_or_ge 5 s.size with h5 | h5
 ·have:=zAH s (.inr h5)
  rw [show nameOk (tl s)=nameOk s.data.toList from rfl,this] at h;cases h
 ·exact h5
theorem nameAt_get {xs:List Dt} {d:Nat} (h:d<xs.length):nameAt xs (d:Int)=tl xs[d].name:=by unfold nameAt;rw [Int.toNat_natCast,List.getElem?_eq_getElem h];rfl
theorem nameAt_len {xs:List Dt} (hw:WorldOK xs) (d:Int):(nameAt xs d).length≤1:=by
 unfold nameAt
 split
 ·rename_i x e
  have:=dname_len (hw.all x (List.mem_of_getElem? e)).name
  rw [show x.name.data.toList.length=x.name.size from zA6 _];omega
 ·simp
theorem tyT_len {xs:List Dt} (hw:WorldOK xs) (t:Ty):(tyT xs t).length≤2:=by
 unfold tyT
 split
 ·simp
 ·rw [List.length_append]
  have:=nameAt_len hw t.d
  have:=idxT_len t.i
  omega
theorem argsT_len {xs:List Dt} (hw:WorldOK xs):∀ (l:List Ty) (b:Bool),(argsT xs b l).length≤3*l.length
 |[],_=>by simp [argsT]
 |a :: l,b=>by
  rw [argsT,List.length_cons,List.length_append,List.length_cons]
  have:=tyT_len hw a
  have:=argsT_len hw l false
  omega
theorem closeT_len (c:Kt):(closeT c).length≤1:=by unfold closeT;split <;> simp
theorem endT_len (c:Kt):(endT c).length≤2:=by unfold endT;split <;> simp [digT]
theorem ktT_len {xs:List Dt} (hw:WorldOK xs) {c:Kt} (hc:KtOk xs.length c):(ktT xs c).length≤17:=by
 unfold ktT
 simp only [List.length_append]
 have h1:=nameOk_len hc.name
 rw [←zA6] at h1
 have h2:=argsT_len hw c.args true
 have h3:=hc.args
 have h4:=closeT_len c
 have h5:=endT_len c
 have:(tl c.name).length=c.name.data.toList.length:=rfl
 omega
theorem ktsT_len {xs:List Dt} (hw:WorldOK xs):∀ (l:List Kt) (b:Bool),(∀ c∈l,KtOk xs.length c)→(ktsT xs b l).length≤18*l.length
 |[],_,_=>by simp [ktsT]
 |c :: l,b,h=>by
  rw [ktsT,List.length_append,List.length_append,List.length_cons]
  have:=ktT_len hw (h c (by simp))
  have:=ktsT_len hw l false fun c hc=>h c (by simp [hc])
  have:(if b=true then ([]:List UInt8) else [124]).length≤1:=by split <;> simp
  omega
theorem dtsT_len {xs:List Dt} (hw:WorldOK xs):∀ (l:List Dt) (b:Bool),(∀ x∈l,DtOk xs.length x)→(dtsT xs b l).length≤100*l.length
 |[],_,_=>by simp [dtsT]
 |x :: l,b,h=>by
  rw [dtsT]
  simp only [List.length_append,List.length_cons]
  have hx:=h x (by simp)
  have:=ktsT_len hw x.ctors true hx.all
  have:=hx.hi
  have:=dtsT_len hw l false fun c hc=>h c (by simp [hc])
  have h1:=dname_len hx.name
  rw [←zA6] at h1
  have:(tl x.name).length=x.name.data.toList.length:=rfl
  have:(if b=true then ([]:List UInt8) else [59]).length≤1:=by split <;> simp
  omega
theorem textT_len {xs:List Dt} (hw:WorldOK xs):(textT xs).length≤400:=by
 have:=dtsT_len hw xs true hw.all
 have:=hw.len
 unfold textT
 omega
theorem zAP (a b:List UInt8):bs a ++ bs b=bs (a ++ b):=tl_inj (by rw [zA3,zAC,zAC,zAC])
theorem argsT_step (xs:List Dt) (b:Bool) (l:List Ty) (i:Nat) (h:i<l.length):argsT xs b (l.drop i)=(if b=true then 40 else 44) :: (tyT xs l[i] ++ argsT xs false (l.drop (i+1))):=by rw [List.drop_eq_getElem_cons h,argsT]
theorem ktsT_step (xs:List Dt) (b:Bool) (l:List Kt) (i:Nat) (h:i<l.length):ktsT xs b (l.drop i)=(if b=true then [] else [124]) ++ (ktT xs l[i] ++ ktsT xs false (l.drop (i+1))):=by rw [List.drop_eq_getElem_cons h,ktsT]
theorem dtsT_step (xs:List Dt) (b:Bool) (l:List Dt) (i:Nat) (h:i<l.length):dtsT xs b (l.drop i)=(if b=true then [] else [59]) ++ (l[i].name.data.toList ++ (61 :: (ktsT xs true l[i].ctors ++ dtsT xs false (l.drop (i+1))))):=by rw [List.drop_eq_getElem_cons h,dtsT]
theorem spec_l17Dec (n:Int) (h0:0≤n) (h9:n≤9) (w:World):Calls Tryz.prog 87 #[.int .i64 n] w fun e w'=>e=.returned (.string (bs (digT n)))∧Below w w w':=by
 have t1:decide (n < -9223372036854775807)=false:=by simp;omega
 have t2:decide (n<0)=false:=by simp;omega
 have t3:decide (n>9)=false:=by simp;omega
 have hf:=jj (strOf_dig n h0 h9)
 go_enter Tryz.func87,Tryz.ntmps87
 go_wp2
 go_loopw [0,3] (fun nv ov wr=>nv=.int .i64 n∧ov=.string ⟨#[]⟩∧Below w w wr) (fun _ _ _=>0)
 case atStart=>exact ⟨rfl,rfl,zy2 _ _⟩
 case round =>
  obtain ⟨rfl,rfl,hB⟩:=hrel
  have hcv:=conv1 wr (48+n)
  have hsz:(strOfNums [48+n]).size+0≤9223372036854775807:=by rw [strOfNums_size];simp
  go_wp2
  go_ret
  exact ⟨by rw [←hf.out];rfl,hB.alloc hB.size _⟩
theorem spec_l1Index (n:Int) (h0:-1≤n) (h9:n≤9) (w:World):Calls Tryz.prog 170 #[.int .i64 n] w fun e w'=>e=.returned (.string (bs (idxT n)))∧Below w w w':=by
 cases q0:(n==0) with
 |true =>
  have hf:Hid (bs (idxT n)=⟨#[]⟩):=by rw [beq_iff_eq] at q0;unfold Hid idxT;rw [if_pos q0];rfl
  go_enter Tryz.func170,Tryz.ntmps170
  go_wp2
  go_ret
  exact ⟨zAE hf.out.symm,zy2 _ _⟩
 |false =>
  have n0:n≠0:=by simpa using q0
  cases q1:(n == -1) with
  |true =>
   have hf:Hid (bs (idxT n)=⟨#[42]⟩):=by rw [beq_iff_eq] at q1;unfold Hid idxT;rw [if_neg n0,if_pos q1];rfl
   go_enter Tryz.func170,Tryz.ntmps170
   go_wp2
   go_ret
   exact ⟨zAE hf.out.symm,zy2 _ _⟩
  |false =>
   have n1:n ≠ -1:=by simpa using q1
   have hf:Hid (bs (idxT n)=bs (digT n)):=by unfold Hid idxT;rw [if_neg n0,if_neg n1]
   have HN:Hid (0≤n∧n≤9):=⟨by omega,h9⟩
   clear n0 n1
   go_enter Tryz.func170,Tryz.ntmps170
   go_wp2_with fail
   refine (spec_l17Dec n HN.out.1 HN.out.2 _).mono ?_
   rintro e w' ⟨rfl,hB'⟩
   go_wp2
   go_ret
   exact ⟨zAE hf.out.symm,hB'⟩
theorem spec_l1Type (xs:List Dt) (hw:WorldOK xs) (t:Ty) (ht:argOkB xs.length t=true) (w:World) (v:Value) (F:List Nat) (hx:Arr w (DtR w) xs v F) (hf:Under w F) :
  Calls Tryz.prog 136 #[v,.agg #[t.d,t.i]] w fun e w'=>e=.returned (.string (bs (tyT xs t)))∧Below w w w':=by
 obtain ⟨A,cap,rfl,hc1,hc2⟩:=hx.form
 have hin:=argOkB_in ht
 have HW:=jj hw
 have HX:=jj hx
 have HF:=jj hf
 clear hx hf
 clear hw
 by_cases hd:t.d = -1
 ·have t0:(t.d == -1)=true:=by simp [hd]
  have hf:Hid (bs (tyT xs t)=⟨#[73]⟩):=by unfold Hid tyT;rw [if_pos hd];rfl
  clear ht hin hd
  go_enter Tryz.func136,Tryz.ntmps136
  go_wp2
  go_ret
  exact ⟨zAE hf.out.symm,(zy2 _ _).alloc (zz8 _) _⟩
 ·rcases hin with h | ⟨d,hd2,hdl⟩
  ·exact absurd h hd
  have hi:-1≤t.i∧t.i≤9:=by
   unfold argOkB at ht
   rw [if_neg hd] at ht
   simp [withinB] at ht
   omega
  obtain ⟨t1,i⟩:=t
  simp only at hd2 hi hd
  subst hd2
  have hf:Hid (bs (tyT xs ⟨(d:Int),i⟩)=xs[d].name ++ bs (idxT i)):=by
   unfold Hid tyT
   rw [if_neg hd]
   simp only
   rw [nameAt_get hdl,←zAP,bs_tl]
  have HI:Hid (-1≤i∧i≤9):=hi
  have t0:((d:Int) == -1)=false:=by rw [beq_eq_false_iff_ne];omega
  clear ht hd hi
  obtain ⟨b,off,rfl⟩:=HX.out.ptr (by omega)
  have g1:(0:Int)≤(d:Int):=by omega
  have g2:(d:Int)<(xs.length:Int):=by omega
  have hB0:Below w w (w.alloc (.cells #[(d:Int),.int .i64 i] 25)):=(zy2 _ _).alloc (zz8 _) _
  obtain ⟨A1,cap1,G1,hb,c0,c1,HK,HG,hs,hn1,hn2⟩:=ArrDt.at HX.out HF.out hB0 d hdl
  have hns:xs[d].name.size=1:=dname_len (HW.out.at hdl).name
  have his:(bs (idxT i)).size≤1:=idxT_len i
  have hcat:xs[d].name.size+(bs (idxT i)).size≤9223372036854775807:=by omega
  have hcat2:(xs[d].name.size:Int)+((bs (idxT i)).size:Int)≤9223372036854775807:=by omega
  have hcat3:¬9223372036854775807<(xs[d].name.size:Int)+((bs (idxT i)).size:Int):=by omega
  go_enter Tryz.func136,Tryz.ntmps136
  go_wp2_with fail
  obtain ⟨W2,hW2⟩:∃ W2,W2=w.alloc (.cells #[(d:Int),.int .i64 i] 25):=⟨_,rfl⟩
  have KT:Hid (Blk W2 w 25 #[(d:Int),.int .i64 i]):=by rw [hW2];exact Blk.new w _ _
  rw [←hW2] at hB0 c0 c1 hb ⊢
  clear hW2
  have y0:W2.cell? ⟨w,0,none⟩=(d:Int):=(KT.out.cell 0).trans (by simp)
  have y1:W2.cell? ⟨w,1,none⟩=some (.int .i64 i):=(KT.out.cell 1).trans (by simp)
  have klt:=KT.out.lt
  clear hns his c1
  have HCALL:=jj (spec_l1Index i HI.out.1 HI.out.2 W2.drew)
  go_region_with (go_at_call 170;((with_reducible refine HCALL.out.mono ?_);rintro e w' ⟨rfl,hB'⟩;have y0':w'.cell? ⟨w,0,none⟩=(d:Int):=(hB'.cell klt).trans y0;have y1':w'.cell? ⟨w,1,none⟩=some (.int .i64 i):=(hB'.cell klt).trans y1;have c0':w'.cell? ⟨b,off+d*2,none⟩=some (.string xs[d].name):=(hB'.cell hb).trans c0))
  all_goals (
   have hB3:=hB0.drew.trans (hB'.mono hB0.size)
   go_wp2
   go_ret
   exact ⟨zAE hf.out.symm,hB3⟩)
theorem spec_l1CtorText (xs:List Dt) (hw:WorldOK xs) (c:Kt) (hc:KtOk xs.length c) (w:World) (v:Value) (F:List Nat) (hx:Arr w (DtR w) xs v F) (hf:Under w F) (A1:Option Addr) (cap1:Nat) (G:List Nat) (hk:KtR w c [.string c.name,.slice A1 c.args.length cap1,c.idx] G) (hg:Under w G) :
  Calls Tryz.prog 90 #[v,.agg #[.string c.name,.slice A1 c.args.length cap1,c.idx]] w fun e w'=>e=.returned (.string (bs (ktT xs c)))∧Below w w w':=by
 obtain ⟨A,cap,rfl,hc1,hc2⟩:=hx.form
 obtain ⟨kv,hkv,ha,hs⟩:=id hk
 obtain rfl:kv=.slice A1 c.args.length cap1:=by simpa using (List.cons.inj (List.cons.inj hkv).2).1.symm
 obtain ⟨A',cap',e,hc3,hc4⟩:=ha.form
 cases e
 have hn5:=nameOk_len hc.name
 have ha3:=hc.args
 have hid0:=hc.lo
 have hid3:=hc.hi
 have HALL:=jj hc.all
 have HW:=jj hw
 have HX:=jj hx
 have HF:=jj hf
 have HA:=jj ha
 have HG:=jj hg
 clear hx hf ha hg
 clear hw hc hk hkv
 go_enter Tryz.func90,Tryz.ntmps90
 go_wp2
 have hB0:Below w w (w.alloc (.cells #[.string c.name,.slice A1 c.args.length cap1,c.idx] 67)):=(zy2 _ _).alloc (zz8 _) _
 have K0:Hid (Blk (w.alloc (.cells #[.string c.name,.slice A1 c.args.length cap1,c.idx] 67)) w.heap.size 67 #[.string c.name,.slice A1 c.args.length cap1,c.idx]):=Blk.new _ _ _
 go_loopw [5,6] (fun ov iv wr=>∃ i:Nat,∃ out:ByteArray,i≤c.args.length∧iv=.int .i64 i∧ov=.string out∧out.size≤5+3*i∧Hid (tl c.name ++ argsT xs true c.args=tl out ++ argsT xs (decide (i=0)) (c.args.drop i))∧Hid (Blk wr w 67 #[.string c.name,.slice A1 c.args.length cap1,c.idx])∧Below w w wr) (fun _ iv _=>c.args.length-(intOf iv).toNat)
 case atStart=>exact ⟨0,c.name,Nat.zero_le _,rfl,rfl,by omega,rfl,K0,hB0⟩
 case round =>
  clear hB0 K0
  obtain ⟨i,out,hi,rfl,rfl,hos,HT,KC,hB⟩:=hrel
  have q0:wr.cell? ⟨w,0,none⟩=some (.string c.name):=(KC.out.cell 0).trans (by simp)
  have q1:wr.cell? ⟨w,1,none⟩=some (.slice A1 c.args.length cap1):=(KC.out.cell 1).trans (by simp)
  have q2:wr.cell? ⟨w,2,none⟩=c.idx:=(KC.out.cell 2).trans (by simp)
  have klt:=KC.out.lt
  by_cases hil:i<c.args.length
  ·obtain ⟨b3,off3,rfl⟩:=HA.out.ptr (by omega)
   obtain ⟨hb4,a0,a1⟩:=ArrTy.at HA.out HG.out hB i hil
   have g5:(0:Int)≤(i:Int):=by omega
   have g6:(i:Int)<(c.args.length:Int):=by omega
   have hst:=HT.out
   rw [argsT_step xs _ _ i hil] at hst
   have htl:(bs (tyT xs c.args[i])).size≤2:=tyT_len HW.out _
   have HOK:=jj (HALL.out _ (List.getElem_mem hil))
   have hcat0:out.size+1≤9223372036854775807:=by omega
   have hcat1:out.size+1+(bs (tyT xs c.args[i])).size≤9223372036854775807:=by omega
   cases q3:((i:Int)==0)
   have hi0:decide (i=0)=false:=by rw [beq_eq_false_iff_ne] at q3;exact decide_eq_false (by omega)
   rw [hi0,if_neg (by simp)] at hst
   have hst2:tl c.name ++ argsT xs true c.args=tl (out ++ ⟨#[44]⟩ ++ bs (tyT xs c.args[i])) ++ argsT xs (decide (i+1=0)) (c.args.drop (i+1)):=by
    rw [hst,zA3,zA3,zAC,decide_eq_false (show ¬(i+1=0) by omega)]
    show tl out ++ 44 :: _=_
    simp [tl]
   have HST:=jj hst2
   have hs2:(out ++ ⟨#[44]⟩ ++ bs (tyT xs c.args[i])).size≤5+3*(i+1):=by rw [zA7,zA7];show out.size+1+_≤_;omega
   rotate_left
   have hi0:decide (i=0)=true:=by rw [beq_iff_eq] at q3;exact decide_eq_true (by omega)
   rw [hi0,if_pos rfl] at hst
   have hst2:tl c.name ++ argsT xs true c.args=tl (out ++ ⟨#[40]⟩ ++ bs (tyT xs c.args[i])) ++ argsT xs (decide (i+1=0)) (c.args.drop (i+1)):=by
    rw [hst,zA3,zA3,zAC,decide_eq_false (show ¬(i+1=0) by omega)]
    show tl out ++ 40 :: _=_
    simp [tl]
   have HST:=jj hst2
   have hs2:(out ++ ⟨#[40]⟩ ++ bs (tyT xs c.args[i])).size≤5+3*(i+1):=by rw [zA7,zA7];show out.size+1+_≤_;omega
   rotate_left
   all_goals (
    have HS2:=jj hs2
    clear hst hst2 hs2 hi0
    go_wp2_with fail
    refine (spec_l1Type xs HW.out c.args[i] HOK.out wr _ F (ArrDt.below HX.out hB HF.out) (HF.out.mono hB.size)).mono ?_
    rintro e w' ⟨rfl,hB'⟩
    have hB3:=hB.trans (hB'.mono hB.size)
    have KC3:=jj (KC.out.same (hB'.block _ KC.out.lt))
    clear q0 q1 q2 a0 a1
    go_wp2
    go_roundw
    case rel=>exact ⟨i+1,_,by omega,by go_num,rfl,HS2.out,HST,KC3,hB3⟩
    case measure=>(simp [intOf] <;> omega))
  ·have hte:=HT.out
   rw [List.drop_of_length_le (by omega)] at hte
   have hte2:tl c.name ++ argsT xs true c.args=tl out:=by rw [hte,argsT,List.append_nil]
   have HTE:Hid (tl c.name ++ argsT xs true c.args=tl out):=hte2
   clear hte hte2
   have hos2:out.size≤14:=by omega
   by_cases hp:0<c.args.length
   ·have hcl:Hid (closeT c=[41]):=if_pos hp
    have t5:decide ((c.args.length:Int)>0)=true:=by simp;omega
    by_cases hd:0<c.idx
    ·have hen:Hid (endT c=58 :: digT c.idx):=if_pos hd
     have t6:decide (c.idx>0)=true:=by simpa using hd
     have hcat1:out.size+1≤9223372036854775807:=by omega
     have hcat2:out.size+1+1≤9223372036854775807:=by omega
     have hcat3:out.size+1+1+1≤9223372036854775807:=by omega
     have hbd:(bs (digT c.idx)).size=1:=rfl
     go_wp2_with fail
     refine (spec_l17Dec c.idx hid0 (by omega) wr).mono ?_
     rintro e w' ⟨rfl,hB'⟩
     have hB3:=hB.trans (hB'.mono hB.size)
     have hfin:bs (ktT xs c)=out ++ ⟨#[41]⟩ ++ ⟨#[58]⟩ ++ bs (digT c.idx):=by
      apply tl_inj
      rw [zA3,zA3,zA3,zAC,zAC,←HTE.out]
      unfold ktT
      rw [hcl.out,hen.out]
      simp [tl]
     have HFin:=jj hfin
     clear hfin q0 q1 q2
     go_wp2
     go_ret
     exact ⟨zAE HFin.out.symm,hB3⟩
    ·have hen:Hid (endT c=[]):=if_neg hd
     have t6:decide (c.idx>0)=false:=by simpa using hd
     have hcat1:out.size+1≤9223372036854775807:=by omega
     have hfin:bs (ktT xs c)=out ++ ⟨#[41]⟩:=by
      apply tl_inj
      rw [zA3,zAC,←HTE.out]
      unfold ktT
      rw [hcl.out,hen.out]
      simp [tl]
     have HFin:=jj hfin
     clear hfin
     go_wp2
     go_ret
     exact ⟨zAE HFin.out.symm,hB⟩
   ·have hcl:Hid (closeT c=[]):=if_neg hp
    have t5:decide ((c.args.length:Int)>0)=false:=decide_eq_false (by omega)
    by_cases hd:0<c.idx
    ·have hen:Hid (endT c=58 :: digT c.idx):=if_pos hd
     have t6:decide (c.idx>0)=true:=by simpa using hd
     have hcat1:out.size+1≤9223372036854775807:=by omega
     have hcat2:out.size+1+1≤9223372036854775807:=by omega
     have hbd:(bs (digT c.idx)).size=1:=rfl
     go_wp2_with fail
     refine (spec_l17Dec c.idx hid0 (by omega) wr).mono ?_
     rintro e w' ⟨rfl,hB'⟩
     have hB3:=hB.trans (hB'.mono hB.size)
     have hfin:bs (ktT xs c)=out ++ ⟨#[58]⟩ ++ bs (digT c.idx):=by
      apply tl_inj
      rw [zA3,zA3,zAC,zAC,←HTE.out]
      unfold ktT
      rw [hcl.out,hen.out]
      simp [tl]
     have HFin:=jj hfin
     clear hfin q0 q1 q2
     go_wp2
     go_ret
     exact ⟨zAE HFin.out.symm,hB3⟩
    ·have hen:Hid (endT c=[]):=if_neg hd
     have t6:decide (c.idx>0)=false:=by simpa using hd
     have hfin:bs (ktT xs c)=out:=by
      apply tl_inj
      rw [zAC,←HTE.out]
      unfold ktT
      rw [hcl.out,hen.out]
      simp [tl]
     have HFin:=jj hfin
     clear hfin
     go_wp2
     go_ret
     exact ⟨zAE HFin.out.symm,hB⟩
theorem spec_l1Text (xs:List Dt) (hw:WorldOK xs) (w:World) (v:Value) (F:List Nat) (hx:Arr w (DtR w) xs v F) (hf:Under w F) :
  Calls Tryz.prog 38 #[v] w fun e w'=>e=.returned (.string (bs (textT xs)))∧Below w w w':=by
 obtain ⟨A,cap,rfl,hc1,hc2⟩:=hx.form
 have hxl:=hw.len
 have HW:=jj hw
 have HX:=jj hx
 have HF:=jj hf
 clear hx hf
 clear hw
 go_enter Tryz.func38,Tryz.ntmps38
 go_wp2
 go_loopw [3,4] (fun ov dv wr=>∃ d:Nat,∃ out:ByteArray,d≤xs.length∧dv=.int .i64 d∧ov=.string out∧out.size≤100*d∧Hid (textT xs=tl out ++ dtsT xs (decide (d=0)) (xs.drop d))∧Below w w wr) (fun _ dv _=>xs.length-(intOf dv).toNat)
 case atStart=>exact ⟨0,⟨#[]⟩,Nat.zero_le _,rfl,rfl,Nat.zero_le _,rfl,zy2 _ _⟩
 case round =>
  obtain ⟨d,out,hd,rfl,rfl,hos,HT,hB⟩:=hrel
  by_cases hdl:d<xs.length
  ·obtain ⟨b,off,rfl⟩:=HX.out.ptr (by omega)
   have hd2:=hdl
   have g1:(0:Int)≤(d:Int):=by omega
   have g2:(d:Int)<(xs.length:Int):=by omega
   have t1:decide ((d:Int)<(xs.length:Int))=true:=decide_eq_true g2
   have hcl4:=(HW.out.at hdl).hi
   have hns:xs[d].name.size=1:=dname_len (HW.out.at hdl).name
   obtain ⟨A1,cap1,G1,hb,c0,c1,HK,HG,-,hn1,hn2⟩:=ArrDt.at HX.out HF.out hB d hdl
   have hst:=HT.out
   rw [dtsT_step xs _ _ d hdl] at hst
   by_cases hdp:0<d
   have t2:decide ((d:Int)>0)=true:=decide_eq_true (by omega)
   have hd0:decide (d=0)=false:=by exact decide_eq_false (by omega)
   rw [hd0,if_neg (by simp)] at hst
   have hst2:textT xs=tl (out ++ ⟨#[59]⟩ ++ xs[d].name ++ ⟨#[61]⟩) ++ (ktsT xs true xs[d].ctors ++ dtsT xs false (xs.drop (d+1))):=by
    rw [hst,zA3,zA3,zA3]
    show tl out ++ ([59] ++ (tl _ ++ ([61] ++ _)))=(tl out ++ [59]) ++ tl _ ++ [61] ++ _
    simp only [List.append_assoc,List.nil_append]
    rfl
   have HST:=jj hst2
   have hs2:(out ++ ⟨#[59]⟩ ++ xs[d].name ++ ⟨#[61]⟩).size≤100*d+3:=by rw [zA7,zA7,zA7];show out.size+1+_+1≤_;omega
   rotate_left
   have t2:decide ((d:Int)>0)=false:=decide_eq_false (by omega)
   have hd0:decide (d=0)=true:=by exact decide_eq_true (by omega)
   rw [hd0,if_pos rfl] at hst
   have hst2:textT xs=tl (out ++ xs[d].name ++ ⟨#[61]⟩) ++ (ktsT xs true xs[d].ctors ++ dtsT xs false (xs.drop (d+1))):=by
    rw [hst,zA3,zA3]
    show tl out ++ ([] ++ (tl _ ++ ([61] ++ _)))=tl out ++ tl _ ++ [61] ++ _
    simp only [List.append_assoc,List.nil_append]
    rfl
   have HST:=jj hst2
   have hs2:(out ++ xs[d].name ++ ⟨#[61]⟩).size≤100*d+3:=by rw [zA7,zA7];show out.size+_+1≤_;omega
   rotate_left
   all_goals (
    have HS2:=jj hs2
    have hc1:out.size+1≤9223372036854775807:=by omega
    have hc2:out.size+xs[d].name.size≤9223372036854775807:=by omega
    have hc3:out.size+1+xs[d].name.size≤9223372036854775807:=by omega
    have hc4:out.size+xs[d].name.size+1≤9223372036854775807:=by omega
    have hc5:out.size+1+xs[d].name.size+1≤9223372036854775807:=by omega
    clear hst hst2 hs2 hd0
    go_wp2
    obtain ⟨wo,hwo⟩:∃ wo,wo=wr:=⟨_,rfl⟩
    rw [←hwo] at hB c0 c1 hb ⊢
    clear hwo
    go_loopw [3,5] (fun ov kv wr=>∃ k:Nat,∃ out:ByteArray,k≤xs[d].ctors.length∧kv=.int .i64 k∧ov=.string out∧out.size≤100*d+3+18*k∧Hid (textT xs=tl out ++ (ktsT xs (decide (k=0)) (xs[d].ctors.drop k) ++ dtsT xs false (xs.drop (d+1))))∧Below w w wr) (fun _ kv _=>xs[d].ctors.length-(intOf kv).toNat)
    case atStart=>exact ⟨0,_,Nat.zero_le _,rfl,rfl,HS2.out,HST.out,hB⟩
    case round =>
     clear hB c0 c1 hb HST HS2 hos hns hc1 hc2 hc3 hc4 hc5 t1
     obtain ⟨k,out,hk,rfl,rfl,hos,HT,hB⟩:=hrel
     obtain ⟨A1,cap1,G1,hb,c0,c1,HK,HG,-,hn1,hn2⟩:=ArrDt.at HX.out HF.out hB d hdl
     by_cases hkl:k<xs[d].ctors.length
     ·obtain ⟨b2,off2,rfl⟩:=HK.out.ptr (by omega)
      obtain ⟨A3,cap3,G3,hb3,k0,k1,k2,HK3,HG3,-,hn3,hn4⟩:=ArrKt.rep HK.out HG.out hB k hkl
      have g3:(0:Int)≤(k:Int):=by omega
      have g4:(k:Int)<(xs[d].ctors.length:Int):=by omega
      have hst:=HT.out
      rw [ktsT_step xs _ _ k hkl] at hst
      have HKO:Hid (KtOk xs.length xs[d].ctors[k]):=HW.out.ctor hd2 hkl
      have hkt:(bs (ktT xs xs[d].ctors[k])).size≤17:=ktT_len HW.out HKO.out
      have hc1:out.size+1≤9223372036854775807:=by omega
      have hc2:out.size+(bs (ktT xs xs[d].ctors[k])).size≤9223372036854775807:=by omega
      have hc3:out.size+1+(bs (ktT xs xs[d].ctors[k])).size≤9223372036854775807:=by omega
      by_cases hkp:0<k
      have t3:decide ((k:Int)>0)=true:=decide_eq_true (by omega)
      have hk0:decide (k=0)=false:=by exact decide_eq_false (by omega)
      rw [hk0,if_neg (by simp)] at hst
      have hst2:textT xs=tl (out ++ ⟨#[124]⟩ ++ bs (ktT xs xs[d].ctors[k])) ++ (ktsT xs (decide (k+1=0)) (xs[d].ctors.drop (k+1)) ++ dtsT xs false (xs.drop (d+1))):=by
       rw [hst,zA3,zA3,zAC,decide_eq_false (show ¬(k+1=0) by omega)]
       show tl out ++ (([124] ++ (_ ++ _)) ++ _)=(tl out ++ [124]) ++ _ ++ _
       simp only [List.append_assoc,List.nil_append]
      have HST:=jj hst2
      have hs2:(out ++ ⟨#[124]⟩ ++ bs (ktT xs xs[d].ctors[k])).size≤100*d+3+18*(k+1):=by rw [zA7,zA7];show out.size+1+_≤_;omega
      rotate_left
      have t3:decide ((k:Int)>0)=false:=decide_eq_false (by omega)
      have hk0:decide (k=0)=true:=by exact decide_eq_true (by omega)
      rw [hk0,if_pos rfl] at hst
      have hst2:textT xs=tl (out ++ bs (ktT xs xs[d].ctors[k])) ++ (ktsT xs (decide (k+1=0)) (xs[d].ctors.drop (k+1)) ++ dtsT xs false (xs.drop (d+1))):=by
       rw [hst,zA3,zAC,decide_eq_false (show ¬(k+1=0) by omega)]
       show tl out ++ (([] ++ (_ ++ _)) ++ _)=tl out ++ _ ++ _
       simp only [List.append_assoc,List.nil_append]
      have HST:=jj hst2
      have hs2:(out ++ bs (ktT xs xs[d].ctors[k])).size≤100*d+3+18*(k+1):=by rw [zA7];omega
      rotate_left
      all_goals (
       have HS2:=jj hs2
       clear hst hst2 hs2 hk0
       go_wp2_with fail
       refine (spec_l1CtorText xs HW.out xs[d].ctors[k] HKO.out wr _ F (ArrDt.below HX.out hB HF.out) (HF.out.mono hB.size) _ _ G3 (HK3.out.below hB HG3.out) (HG3.out.mono hB.size)).mono ?_
       rintro e w' ⟨rfl,hB'⟩
       have hB3:=hB.trans (hB'.mono hB.size)
       clear k0 k1 k2 c0 c1
       go_wp2
       go_roundw
       case rel=>exact ⟨k+1,_,by omega,by go_num,rfl,HS2.out,HST,hB3⟩
       case measure=>(simp [intOf] <;> omega))
     ·have hst:=HT.out
      rw [List.drop_of_length_le (by omega),ktsT,List.nil_append] at hst
      have hdn:decide (d+1=0)=false:=decide_eq_false (by omega)
      have HST:Hid (textT xs=tl out ++ dtsT xs (decide (d+1=0)) (xs.drop (d+1))):=by rw [hdn];exact hst
      have hos2:out.size≤100*(d+1):=by omega
      clear hst hdn
      go_wp2
      go_roundw
      case rel=>exact ⟨d+1,out,by omega,by go_num,rfl,hos2,HST,hB⟩
      case measure=>(simp [intOf] <;> omega))
  ·have hst:=HT.out
   rw [List.drop_of_length_le (by omega),dtsT,List.append_nil] at hst
   have hf:Hid (bs (textT xs)=out):=by unfold Hid;rw [hst,bs_tl]
   clear hst
   go_wp2
   go_ret
   exact ⟨zAE hf.out.symm,hB⟩
def splitS:List ByteArray→Option (List (ByteArray×ByteArray))
 |[]=>some []
 |l :: ls=>match cutS 61 l with
  |[a,b]=>match splitS ls with
   |some r=>some ((a,b) :: r)
   |none=>none
  |_=>none
def pdt (names:List ByteArray) (p:ByteArray×ByteArray):Dt:=⟨p.1,((cutS 124 p.2).take 5).map (pkt names)⟩
def buildS (r:List (ByteArray×ByteArray)):List Dt:=r.map (pdt (r.map Prod.fst))
def linesT (text:ByteArray):List ByteArray:=if text.size=0 then [] else (cutS 59 text).take 5
def parseS (text:ByteArray):Option (List Dt):=match splitS (linesT text) with
 |some r=>some (buildS r)
 |none=>none
theorem splitGo_eq:∀ (l:List (List UInt8)),splitGo l=match splitS (l.map bs) with | some r=>some (r.map fun p=>(tl p.1,tl p.2)) | none=>none
 |[]=>rfl
 |x :: l=>by
  have ih:=splitGo_eq l
  have e:cutS 61 (bs x)=(cutL 61 x).map bs:=rfl
  rw [List.map_cons,splitS,splitGo,e,ih]
  match h:cutL 61 x with
  |[]=>rfl
  |[_]=>rfl
  |[a,b] =>
   simp only [List.map_cons,List.map_nil]
   cases splitS (l.map bs) <;> rfl
  |_ :: _ :: _ :: _=>rfl
theorem parseS_eq (text:ByteArray):parseGo (tl text)=parseS text:=by
 unfold parseGo parseS linesT
 by_cases h0:text.size=0
 ·have ht:tl text=[]:=List.eq_nil_of_length_eq_zero (by rw [zA6];exact h0)
  rw [if_pos ht,if_pos h0];rfl
 ·have ht:¬tl text=[]:=fun e=>h0 (by rw [←zA6,e];rfl)
  rw [if_neg ht,if_neg h0,splitGo_eq]
  have e:((cutL 59 (tl text)).take 5).map bs=(cutS 59 text).take 5:=by unfold cutS;rw [List.map_take]
  rw [e]
  cases splitS ((cutS 59 text).take 5) with
  |none=>rfl
  |some r =>
   show some _=some _
   congr 1
   unfold buildS
   rw [List.map_map,List.map_map]
   refine List.map_congr_left fun p _=>?_
   show parseDt (List.map (Prod.fst ∘ fun p=>(tl p.1,tl p.2)) r) (tl p.1) (tl p.2)=pdt (r.map Prod.fst) p
   unfold parseDt pdt
   rw [bs_tl]
   congr 1
   unfold cutS
   rw [←List.map_take,List.map_map]
   refine List.map_congr_left fun x _=>?_
   show parseKt _ x=parseKt _ (tl (bs x))
   rw [zAC,List.map_map]
   rfl
def splitAfter (ps:List (ByteArray×ByteArray)) (ls:List ByteArray):Option (List (ByteArray×ByteArray)):=match splitS ls with
 |some r=>some (ps ++ r)
 |none=>none
theorem splitAfter_nil (ls:List ByteArray):splitAfter [] ls=splitS ls:=by unfold splitAfter;cases splitS ls <;> rfl
theorem splitAfter_bad {ps:List (ByteArray×ByteArray)} {ls:List ByteArray} {i:Nat} (hi:i<ls.length) (h:(cutS 61 ls[i]).length≠2):splitAfter ps (ls.drop i)=none:=by
 unfold splitAfter
 rw [List.drop_eq_getElem_cons hi,splitS]
 match h':cutS 61 ls[i],h with
 |[],_=>rfl
 |[_],_=>rfl
 |[_,_],h=>simp at h
 |_ :: _ :: _ :: _,_=>rfl
theorem splitAfter_good {ps:List (ByteArray×ByteArray)} {ls:List ByteArray} {i:Nat} (hi:i<ls.length) {a b:ByteArray} (h:cutS 61 ls[i]=[a,b]):splitAfter ps (ls.drop i)=splitAfter (ps ++ [(a,b)]) (ls.drop (i+1)):=by
 unfold splitAfter
 rw [List.drop_eq_getElem_cons hi,splitS,h]
 cases splitS (ls.drop (i+1)) with
 |none=>rfl
 |some r=>show some (ps ++ ((a,b) :: r))=some ((ps ++ [(a,b)]) ++ r);rw [List.append_assoc];rfl
theorem splitAfter_end {ps:List (ByteArray×ByteArray)} {ls:List ByteArray} {i:Nat} (h:ls.length≤i):splitAfter ps (ls.drop i)=some ps:=by
 unfold splitAfter
 rw [List.drop_of_length_le h]
 show some (ps ++ [])=_
 rw [List.append_nil]
theorem two_of {l:List ByteArray} (h:l.length=2):∃ a b,l=[a,b]:=by
 match l,h with
 |[a,b],_=>exact ⟨a,b,rfl⟩
def namesOf (ps:List (ByteArray×ByteArray)):List ByteArray:=ps.map Prod.fst
theorem namesOf_len (ps:List (ByteArray×ByteArray)):(namesOf ps).length=ps.length:=List.length_map _
theorem namesOf_snoc (ps:List (ByteArray×ByteArray)) (p:ByteArray×ByteArray):namesOf (ps ++ [p])=namesOf ps ++ [p.1]:=by unfold namesOf;rw [List.map_append];rfl
theorem namesOf_get (ps:List (ByteArray×ByteArray)) (i:Nat) (h:i<ps.length):(namesOf ps)[i]'(by rw [namesOf_len];exact h)=ps[i].1:=by unfold namesOf;rw [List.getElem_map]
def dtsTo (ps:List (ByteArray×ByteArray)) (i:Nat):List Dt:=(ps.take i).map (pdt (namesOf ps))
theorem dtsTo_len (ps:List (ByteArray×ByteArray)) (i:Nat):(dtsTo ps i).length≤i:=by unfold dtsTo;rw [List.length_map,List.length_take];omega
theorem dtsTo_succ (ps:List (ByteArray×ByteArray)) (i:Nat) (h:i<ps.length):dtsTo ps (i+1)=dtsTo ps i ++ [pdt (namesOf ps) ps[i]]:=zAN _ _ _ h
theorem dtsTo_all (ps:List (ByteArray×ByteArray)) {i:Nat} (h:ps.length≤i):dtsTo ps i=buildS ps:=by unfold dtsTo buildS;rw [List.take_of_length_le h];rfl
def ktsTo (names ls:List ByteArray) (k:Nat):List Kt:=(ls.take k).map (pkt names)
theorem ktsTo_len (names ls:List ByteArray) (k:Nat):(ktsTo names ls k).length≤k:=by unfold ktsTo;rw [List.length_map,List.length_take];omega
theorem ktsTo_succ (names ls:List ByteArray) (k:Nat) (h:k<ls.length):ktsTo names ls (k+1)=ktsTo names ls k ++ [pkt names ls[k]]:=zAN _ _ _ h
theorem ktsTo_all (names ls:List ByteArray) {k:Nat} (hk:k≤5) (h:ls.length≤k∨k=5):ktsTo names ls k=(ls.take 5).map (pkt names):=by
 unfold ktsTo
 rcases h with h | h
 ·congr 1
  rw [List.take_of_length_le h]
  rcases Nat.lt_or_ge 5 ls.length with h5 | h5
  ·omega
  ·rw [List.take_of_length_le h5]
 ·rw [h]
theorem Free.append {w:World} {F G:List Nat} (hF:Free w F) (hG:Free w G) (hd:∀ b∈F,b∉G):Free w (F ++ G) :=
 ⟨List.nodup_append.2 ⟨hF.1,hG.1,fun a ha b hb e=>hd a ha (by rw [e];exact hb)⟩,fun b hb i=>by
  rcases List.mem_append.1 hb with h | h
  ·exact hF.2 b h i
  ·exact hG.2 b h i⟩
theorem Chg.trans_new {F:List Nat} {a b c:World} {D:Nat} (h:Chg F a b) (k:Chg [D] b c) (hD:a.heap.size≤D):Chg F a c :=
 ⟨k.os.trans h.os,k.tape.trans h.tape,k.output.trans h.output,Nat.le_trans h.size k.size,fun x hx hn=>(k.block x (zz9 hx h.size) (by simp;omega)).trans (h.block x hx hn)⟩
/-! ### One round: a call, an element that is appended, the slice that is stored into the block D -/
section
variable {α : Type} {R : World → α → List Value → List Nat → Prop} {k D H : Nat} {E T : TypeId} {xs ys : List α} {w w9 wr wA w7 : World} {o : Obj} {nm v v' : Value} {F G : List Nat}
theorem grow_old (HO:Own wr (D+1) E k R xs v F) (hBu:Below wr wr wA) (hgr:(wA.alloc o).grownBy w7 v.ownBlock) {b:Nat} (hb:b<D+1) (hbr:b<wr.heap.size):w7.heap[b]?=wr.heap[b]?:=by
 have hl:b<wA.heap.size:=zz9 hbr hBu.size
 refine ((hgr.block b (by rw [World.size_alloc];omega) (fun e=>?_)).trans (Below.heap_alloc _ _ _ hl)).trans (hBu.block b hbr)
 have:=(HO.row b (zA1.2 e.symm)).1
 omega
theorem grow_round (hRm:∀ w w' x cs G,Kept G w w'→R w x cs G→R w' x cs G) (hw9:w9.heap.size=D+1) (KD:Blk wr D T #[nm,v]) (HO:Own wr (D+1) E k R xs v F) (HF:Free wr F) (HFh:∀ b∈F,D+1≤b) (HC:Chg [D] w9 wr) (hB:Below H w wr) (hHD:H≤D) (hw:H≤w.heap.size)
  (hBu:Below wr wr wA) (hfrA:Free wA G) (hfsA:∀ b∈G,wr.heap.size≤b∧b<wA.heap.size) (hown:Own w7 (D+1) E k R ys v' (F ++ G)) (hgr:(wA.alloc o).grownBy w7 v.ownBlock) :
  Blk (w7.setCell ⟨D,1,none⟩ v') D T #[nm,v']∧Own (w7.setCell ⟨D,1,none⟩ v') (D+1) E k R ys v' (F ++ G)∧Free (w7.setCell ⟨D,1,none⟩ v') (F ++ G)∧(∀ b∈F ++ G,D+1≤b)∧Chg [D] w9 (w7.setCell ⟨D,1,none⟩ v')∧Below H w (w7.setCell ⟨D,1,none⟩ v')∧w9.heap.size≤(w7.setCell ⟨D,1,none⟩ v').heap.size:=by
 have hlt:=KD.lt
 have hA:=hBu.size
 have hFG:∀ b∈F ++ G,D+1≤b:=fun b hb=>by
  rcases List.mem_append.1 hb with h | h
  ·exact HFh b h
  ·have:=(hfsA b h).1;omega
 have hBA7:Below (D+1) wA w7:=((zy2 (D+1) wA).alloc (by omega) o).grown hgr (by rw [World.size_alloc];omega) (fun g hg=>(HO.row g (zA1.2 hg)).1)
 have hC7:Chg [D] w9 w7:=(HC.step hBu).under (by rw [hw9];exact hBA7)
 have hC8:Chg [D] w9 (w7.setCell ⟨D,1,none⟩ v'):=hC7.set (by simp)
 have hne:∀ b∈F ++ G,b≠D:=fun b hb e=>by have:=hFG b hb;omega
 refine ⟨?_,Own.set (j:=1) hRm hown v' (fun h=>by have:=(hown.row _ h).1;omega) (fun h=>hne _ h rfl),?_,hFG,hC8,?_,hC8.size⟩
 ·exact (KD.same (grow_old HO hBu hgr (Nat.lt_succ_self D) hlt)).set_ 1 v'
 ·have hfr:Free wA (F ++ G):=Free.append (HF.kept (.of_below hBu HO.under)) hfrA (fun b hb hG=>by have h1:=HO.under b hb;have h2:=(hfsA b hG).1;omega)
  have hfr7:Free w7 (F ++ G):=hfr.kept fun b hb=>by
   have hbA:b<wA.heap.size:=by
    rcases List.mem_append.1 hb with h | h
    ·exact zz9 (HO.under b h) hA
    ·exact (hfsA b h).2
   refine (hgr.block b (by rw [World.size_alloc];omega) (fun e=>?_)).trans (Below.heap_alloc _ _ _ hbA)
   have hrw:=zA1.2 e.symm
   rcases List.mem_append.1 hb with h | h
   ·exact HO.apart b hrw h
   ·have h1:=(HO.row b hrw).2
    have h2:=(hfsA b h).1
    omega
  exact hfr7.kept fun b hb=>zz7 w7 ⟨D,1,none⟩ v' b (hne b hb)
 ·have h8:Below H w w7:=(hB.trans (hBu.mono (Nat.le_trans hw hB.size))).trans (hBA7.mono (by omega))
  exact h8.setCell hHD _
theorem push_round (HO:Own wr H E k R xs v F) (hFr:Free wr F) (HFr:Free wr G) (hd:∀ b∈rowOf v ++ F,b<D) (hG:∀ b∈G,D+1≤b∧b<wr.heap.size) {w6:World} (HR:∀ g∈rowOf v,g=H∨w6.heap.size≤g) (HC:Chg [H] w6 wr) (hB:Below H w wr) (hw:H≤w.heap.size) (HFh:∀ b∈F,w6.heap.size≤b) (hD:w6.heap.size≤D)
  (hgr:(wr.alloc o).grownBy w7 v.ownBlock) {g n cp:Nat} (hat:v.ownBlock=some g∨g=wr.heap.size+1) :
  Free w7 (F ++ G)∧(∀ b∈F ++ G,w6.heap.size≤b)∧(∀ g'∈rowOf (.slice (some ⟨g,0,none⟩) n cp),g'=H∨w6.heap.size≤g')∧Chg [H] w6 w7∧Below H w w7∧w6.heap.size≤w7.heap.size:=by
 have hb77:Below wr wr (wr.alloc o):=(zy2 _ _).alloc (zz8 _) _
 have h6:=HC.size
 have h1:=HC.step hb77
 have hC7:Chg [H] w6 w7:=by
  refine ⟨hgr.os.trans h1.os,hgr.tape.trans h1.tape,hgr.output.trans h1.output,Nat.le_trans h1.size hgr.size,fun x hx hn=>(hgr.block x (zz9 hx h1.size) (fun e=>?_)).trans (h1.block x hx hn)⟩
  rcases HR x (zA1.2 e.symm) with h | h
  ·exact hn (by simp [h])
  ·omega
 refine ⟨?_,fun b hb=>?_,fun g' hg'=>?_,hC7,?_,hC7.size⟩
 ·refine (Free.append hFr HFr (fun b hb hg=>by have h1:=hd b (List.mem_append.2 (.inr hb));have h2:=(hG b hg).1;omega)).kept (fun b hb=>?_)
  have hbl:b<wr.heap.size:=by
   rcases List.mem_append.1 hb with h | h
   ·exact HO.under b h
   ·exact (hG b h).2
  refine (hgr.block b (zz9 hbl hb77.size) (fun e=>?_)).trans (Below.heap_alloc _ _ _ hbl)
  have hrw:=zA1.2 e.symm
  rcases List.mem_append.1 hb with h | h
  ·exact HO.apart b hrw h
  ·have h1:=hd b (List.mem_append.2 (.inl hrw))
   have h2:=(hG b h).1
   omega
 ·rcases List.mem_append.1 hb with h | h
  ·exact HFh b h
  ·have:=(hG b h).1;omega
 ·rw [zA4,zy1] at hg'
  subst hg'
  rcases hat with h | h
  ·exact HR _ (zA1.2 h)
  ·right;omega
 ·have hs:=hB.size
  exact (hB.alloc (Nat.le_trans hw hs) _).grown hgr (by rw [World.size_alloc];omega) (fun g hg=>(HO.row g (zA1.2 hg)).1)
end
theorem KtR_len' (w:World) (x:Kt) (cs:List Value) (F:List Nat) (h:KtR w x cs F):cs.length=3:=KtR_len x cs F h
theorem KtR_mono' (w w':World) (x:Kt) (cs:List Value) (F:List Nat) (hk:Kept F w w') (h:KtR w x cs F):KtR w' x cs F:=KtR.mono x cs F hk h
theorem DtR_len' (w:World) (x:Dt) (cs:List Value) (F:List Nat) (h:DtR w x cs F):cs.length=2:=DtR_len x cs F h
theorem DtR_mono' (w w':World) (x:Dt) (cs:List Value) (F:List Nat) (hk:Kept F w w') (h:DtR w x cs F):DtR w' x cs F:=DtR.mono x cs F hk h
theorem info_KtE:(Tryz.prog.info? 67).map (fun i=>(i.zero,i.size,i.bytes))=some (some (.agg #[.string ⟨#[]⟩,.slice none 0 0,(0:Int)]),3,48):=by kernel_rfl
theorem info_DtE:(Tryz.prog.info? 64).map (fun i=>(i.zero,i.size,i.bytes))=some (some (.agg #[.string ⟨#[]⟩,.slice none 0 0]),2,40):=by kernel_rfl
def GivesWorld (w:World) (r:Option (List Dt)) (e:Ending) (w':World):Prop :=
 ∃ v F,e=.returned (.tuple #[v,.bool r.isSome])∧Below w w w'∧Arr w' (DtR w') (r.getD []) v F∧Free w' F∧Fresh w w' F
def parseB (text:ByteArray):Option (List Dt):=parseW (tl text)
theorem parseB_bad {text:ByteArray} (h:parseS text=none):parseB text=none:=by unfold parseB parseW;rw [parseS_eq,h]
theorem parseB_no {text:ByteArray} {xs:List Dt} (h:parseS text=some xs) (h2:worldOk xs=false):parseB text=none:=by unfold parseB parseW;rw [parseS_eq,h];simp only;rw [if_neg (by simp [h2])]
theorem parseB_text {text:ByteArray} {xs:List Dt} (h:parseS text=some xs) (h3:¬textT xs=tl text):parseB text=none:=by
 unfold parseB parseW;rw [parseS_eq,h];simp only;rw [if_neg h3];split <;> rfl
theorem parseB_yes {text:ByteArray} {xs:List Dt} (h:parseS text=some xs) (h2:worldOk xs=true) (h3:textT xs=tl text):parseB text=some xs:=by unfold parseB parseW;rw [parseS_eq,h];simp only;rw [if_pos h2,if_pos h3]
def ctorNames (pre:List Dt):List ByteArray:=pre.flatMap fun x=>x.ctors.map Kt.name
def twiceB (pre:List Dt) (cs:List Kt) (s c:ByteArray):Bool:=nameIn (pre.map Dt.name) s || nameIn (ctorNames pre ++ cs.map Kt.name) c
theorem nameIn_snoc (l:List ByteArray) (x s:ByteArray):nameIn (l ++ [x]) s=(nameIn l s || (x.toList==s.toList)):=by simp [nameIn]
theorem nameIn_append (l m:List ByteArray) (s:ByteArray):nameIn (l ++ m) s=(nameIn l s || nameIn m s):=by simp [nameIn]
theorem nameIn_mem {l:List ByteArray} {x s:ByteArray} (h:x∈l) (e:(x.toList==s.toList)=true):nameIn l s=true:=by
 unfold nameIn;rw [List.any_eq_true];exact ⟨x,h,e⟩
theorem ctorNames_snoc (l:List Dt) (x:Dt):ctorNames (l ++ [x])=ctorNames l ++ x.ctors.map Kt.name:=by simp [ctorNames]
def MissD (xs:List Dt) (s c:ByteArray) (i:Nat):Prop:=nameIn ((xs.take i).map Dt.name) s=false∧nameIn (ctorNames (xs.take i)) c=false
theorem MissD.snoc {xs:List Dt} {s c:ByteArray} {i:Nat} (h:MissD xs s c i) (hi:i<xs.length) (h1:(xs[i].name.toList==s.toList)=false) (h2:nameIn (xs[i].ctors.map Kt.name) c=false):MissD xs s c (i+1):=by
 unfold MissD
 rw [take_snoc' xs i hi,List.map_append,List.map_cons,List.map_nil,nameIn_snoc,ctorNames_snoc,nameIn_append,h.1,h.2,h1,h2]
 exact ⟨rfl,rfl⟩
theorem twice_hitD {xs:List Dt} {cs:List Kt} {s c:ByteArray} {i d:Nat} (hi:i<xs.length) (hd:i<d) (h1:(xs[i].name.toList==s.toList)=true):twiceB (xs.take d) cs s c=true:=by
 unfold twiceB
 rw [nameIn_mem (List.mem_map_of_mem (List.mem_take_iff_getElem.2 ⟨i,by omega,rfl⟩)) h1];rfl
theorem twice_hitC {xs:List Dt} {cs:List Kt} {s c:ByteArray} {i j d:Nat} (hi:i<xs.length) (hd:i<d) (hj:j<xs[i].ctors.length) (h1:(xs[i].ctors[j].name.toList==c.toList)=true):twiceB (xs.take d) cs s c=true:=by
 unfold twiceB
 rw [nameIn_append,nameIn_mem (l:=ctorNames (xs.take d)) (x:=xs[i].ctors[j].name) (List.mem_flatMap.2 ⟨xs[i],List.mem_take_iff_getElem.2 ⟨i,by omega,rfl⟩,List.mem_map_of_mem (List.getElem_mem hj)⟩) h1,Bool.true_or,Bool.or_true]
theorem twice_hitK {pre:List Dt} {ks:List Kt} {s c:ByteArray} {j k:Nat} (hj:j<ks.length) (hk:j<k) (h1:(ks[j].name.toList==c.toList)=true):twiceB pre (ks.take k) s c=true:=by
 unfold twiceB
 rw [nameIn_append,nameIn_mem (l:=(ks.take k).map Kt.name) (List.mem_map_of_mem (List.mem_take_iff_getElem.2 ⟨j,by omega,rfl⟩)) h1,Bool.or_true,Bool.or_true]
theorem twice_miss {xs:List Dt} {cs:List Kt} {s c:ByteArray} {d:Nat} (h:MissD xs s c d) (h1:nameIn (cs.map Kt.name) c=false):twiceB (xs.take d) cs s c=false:=by
 unfold twiceB
 rw [nameIn_append,h.1,h.2,h1];rfl
def MissK (ks:List Kt) (c:ByteArray) (j:Nat):Prop:=nameIn ((ks.take j).map Kt.name) c=false
theorem MissK.snoc {ks:List Kt} {c:ByteArray} {j:Nat} (h:MissK ks c j) (hj:j<ks.length) (h1:(ks[j].name.toList==c.toList)=false):MissK ks c (j+1):=by
 unfold MissK
 rw [take_snoc' ks j hj,List.map_append,List.map_cons,List.map_nil,nameIn_snoc,h1,Bool.or_false]
 exact h
theorem MissK.all {ks:List Kt} {c:ByteArray} {j:Nat} (h:MissK ks c j) (hj:ks.length≤j):nameIn (ks.map Kt.name) c=false:=by
 unfold MissK at h
 rwa [List.take_of_length_le hj] at h
theorem spec_l1Twice (xs:List Dt) (d k:Nat) (hd:d<xs.length) (hk:k<xs[d].ctors.length) (w:World) (v:Value) (F:List Nat) (hx:Arr w (DtR w) xs v F) (hf:Under w F) :
  Calls Tryz.prog 52 #[v,.int .i64 d,.int .i64 k] w fun e w'=>e=.returned (.bool (twiceB (xs.take d) (xs[d].ctors.take k) xs[d].name xs[d].ctors[k].name))∧Below w w w':=by
 obtain ⟨A,cap,rfl,hc1,hc2⟩:=hx.form
 obtain ⟨b,off,rfl⟩:=hx.ptr (by omega)
 have HX:=jj hx
 have HF:=jj hf
 clear hx hf
 go_enter Tryz.func52,Tryz.ntmps52
 go_wp2
 go_loopw [7] (fun iv wr=>∃ i:Nat,i≤d+1∧iv=.int .i64 i∧Hid ((i≤d→MissD xs xs[d].name xs[d].ctors[k].name i)∧(i=d+1→twiceB (xs.take d) (xs[d].ctors.take k) xs[d].name xs[d].ctors[k].name=false))∧Below w w wr) (fun iv _=>d+1-(intOf iv).toNat)
 case atStart=>exact ⟨0,Nat.zero_le _,rfl,⟨fun _=>⟨rfl,rfl⟩,fun h=>by omega⟩,zy2 _ _⟩
 case round =>
  obtain ⟨i,hi,rfl,HR,hB⟩:=hrel
  have HBQ:=jj (fun n=>below_drewN hB n)
  by_cases hid:i<d
  ·have hil:i<xs.length:=by omega
   have HM:=jj (HR.out.1 (by omega))
   obtain ⟨Ai,capi,Gi,hbi,i0,i1,HI,HGi,-,-,-⟩:=ArrDt.at HX.out HF.out hB i hil
   obtain ⟨Ad,capd,Gd,hbd,d0,d1,HD,HGd,-,-,-⟩:=ArrDt.at HX.out HF.out hB d hd
   have g5:(0:Int)≤(i:Int):=by omega
   have g6:(i:Int)<(xs.length:Int):=by omega
   have g7:(0:Int)≤(d:Int):=by omega
   have g8:(d:Int)<(xs.length:Int):=by omega
   have hdec:decide (i<d)=true:=by simpa using hid
   cases e0:(xs[i].name.toList==xs[d].name.toList) with
   |true =>
    have hf:=jj (twice_hitD (cs:=xs[d].ctors.take k) (c:=xs[d].ctors[k].name) hil hid e0)
    go_wp2_with fail
    go_quiet (fail)
    go_wp2
    go_ret
    exact ⟨zA0 hf.out.symm,HBQ.out _⟩
   |false =>
    go_wp2_with fail
    go_quiet (fail)
    have HE0:=jj e0
    clear e0 i0 i1 d0 d1 HI HGi HD HGd hbi hbd hB
    go_wp2
    obtain ⟨wo,hwo⟩:∃ wo:World,wo=wr:=⟨_,rfl⟩
    go_loopw [8] (fun jv ws=>∃ j:Nat,j≤xs[i].ctors.length∧jv=.int .i64 j∧Hid (MissK xs[i].ctors xs[d].ctors[k].name j)∧Below w w ws) (fun jv _=>xs[i].ctors.length-(intOf jv).toNat)
    case atStart=>exact ⟨0,Nat.zero_le _,rfl,(show MissK xs[i].ctors xs[d].ctors[k].name 0 from rfl),HBQ.out _⟩
    case round =>
     clear hwo
     obtain ⟨j,hj,rfl,HK,hB2⟩:=hrel
     have HBq2:=jj (fun n=>below_drewN hB2 n)
     obtain ⟨Ai,capi,Gi,hbi,i0,i1,HI,HGi,-,hci1,hci2⟩:=ArrDt.at HX.out HF.out hB2 i hil
     clear i0
     by_cases hlt:j<xs[i].ctors.length
     ·have hjl:j<xs[i].ctors.length:=by omega
      obtain ⟨bi,offi,rfl⟩:=HI.out.ptr (by omega)
      obtain ⟨-,-,-,hbj,j0,-,-,-,-,-,-,-⟩:=ArrKt.at HI.out HGi.out hB2 j hjl
      obtain ⟨Ad,capd,Gd,hbd,d0,d1,HD,HGd,-,hcd1,hcd2⟩:=ArrDt.at HX.out HF.out hB2 d hd
      clear d0
      obtain ⟨bd,offd,rfl⟩:=HD.out.ptr (by omega)
      obtain ⟨-,-,-,hbk,k0,-,-,-,-,-,-,-⟩:=ArrKt.at HD.out HGd.out hB2 k hk
      have g1:(0:Int)≤(j:Int):=by omega
      have g2:(j:Int)<(xs[i].ctors.length:Int):=by omega
      have g3:(0:Int)≤(k:Int):=by omega
      have g4:(k:Int)<(xs[d].ctors.length:Int):=by omega
      have g5:(0:Int)≤(i:Int):=by omega
      have g6:(i:Int)<(xs.length:Int):=by omega
      have g7:(0:Int)≤(d:Int):=by omega
      have g8:(d:Int)<(xs.length:Int):=by omega
      have g9:decide (k<xs[d].ctors.length)=true:=by simpa using hk
      cases e1:(xs[i].ctors[j].name.toList==xs[d].ctors[k].name.toList) with
      |true =>
       have hf:=jj (twice_hitC hil hid hjl e1:twiceB (xs.take d) (xs[d].ctors.take k) xs[d].name xs[d].ctors[k].name=true)
       go_wp2_with fail
       go_quiet (fail)
       go_wp2
       go_ret
       exact ⟨zA0 hf.out.symm,HBq2.out _⟩
      |false =>
       have HK2:=jj (HK.out.snoc hjl e1)
       go_wp2_with fail
       go_quiet (fail)
       go_wp2
       go_roundw
       case rel=>exact ⟨j+1,by omega,by go_num,HK2,HBq2.out _⟩
       case measure=>(simp [intOf] <;> omega)
     ·go_wp2_with fail
      have hm2:MissD xs xs[d].name xs[d].ctors[k].name (i+1):=HM.out.snoc hil HE0.out (HK.out.all (by omega))
      go_roundw
      case rel=>exact ⟨i+1,by omega,by go_num,⟨fun _=>hm2,fun h=>by omega⟩,hB2⟩
      case measure=>(simp [intOf] <;> omega)
  ·by_cases he:i=d
   ·subst he
    have hil:i<xs.length:=by omega
    have HM:=jj (HR.out.1 (by omega))
    have hdec:decide (i<i)=false:=by simp
    go_wp2_with fail
    go_quiet (fail)
    clear hB
    go_wp2
    obtain ⟨wo,hwo⟩:∃ wo:World,wo=wr:=⟨_,rfl⟩
    go_loopw [8] (fun jv ws=>∃ j:Nat,j≤k∧jv=.int .i64 j∧Hid (MissK xs[i].ctors xs[i].ctors[k].name j)∧Below w w ws) (fun jv _=>k-(intOf jv).toNat)
    case atStart=>exact ⟨0,Nat.zero_le _,rfl,(show MissK xs[i].ctors xs[i].ctors[k].name 0 from rfl),HBQ.out _⟩
    case round =>
     clear hwo
     obtain ⟨j,hj,rfl,HK,hB2⟩:=hrel
     have HBq2:=jj (fun n=>below_drewN hB2 n)
     obtain ⟨Ai,capi,Gi,hbi,i0,i1,HI,HGi,-,hci1,hci2⟩:=ArrDt.at HX.out HF.out hB2 i hil
     clear i0
     by_cases hlt:j<k
     ·have hjl:j<xs[i].ctors.length:=by omega
      obtain ⟨bi,offi,rfl⟩:=HI.out.ptr (by omega)
      obtain ⟨-,-,-,hbj,j0,-,-,-,-,-,-,-⟩:=ArrKt.at HI.out HGi.out hB2 j hjl
      obtain ⟨-,-,-,hbk,k0,-,-,-,-,-,-,-⟩:=ArrKt.at HI.out HGi.out hB2 k hk
      have g1:(0:Int)≤(j:Int):=by omega
      have g2:(j:Int)<(xs[i].ctors.length:Int):=by omega
      have g3:(0:Int)≤(k:Int):=by omega
      have g4:(k:Int)<(xs[i].ctors.length:Int):=by omega
      have g5:(0:Int)≤(i:Int):=by omega
      have g6:(i:Int)<(xs.length:Int):=by omega
      have g7:(0:Int)≤(i:Int):=by omega
      have g8:(i:Int)<(xs.length:Int):=by omega
      have g9:decide (k<xs[i].ctors.length)=true:=by simpa using hk
      cases e1:(xs[i].ctors[j].name.toList==xs[i].ctors[k].name.toList) with
      |true =>
       have hf:=jj (twice_hitK hjl hlt e1:twiceB (xs.take i) (xs[i].ctors.take k) xs[i].name xs[i].ctors[k].name=true)
       go_wp2_with fail
       go_quiet (fail)
       go_wp2
       go_ret
       exact ⟨zA0 hf.out.symm,HBq2.out _⟩
      |false =>
       have HK2:=jj (HK.out.snoc hjl e1)
       go_wp2_with fail
       go_quiet (fail)
       go_wp2
       go_roundw
       case rel=>exact ⟨j+1,by omega,by go_num,HK2,HBq2.out _⟩
       case measure=>(simp [intOf] <;> omega)
     ·go_wp2_with fail
      have hm2:twiceB (xs.take i) (xs[i].ctors.take k) xs[i].name xs[i].ctors[k].name=false:=twice_miss HM.out (by have h:=HK.out;have e:j=k:=(by omega);unfold MissK at h;rw [e] at h;exact h)
      go_roundw
      case rel=>exact ⟨i+1,by omega,by go_num,⟨fun h=>by omega,fun _=>hm2⟩,hB2⟩
      case measure=>(simp [intOf] <;> omega)
   ·have hf:=jj (HR.out.2 (by omega))
    go_wp2
    go_ret
    exact ⟨zA0 hf.out.symm,hB⟩
def WInv (xs:List Dt) (d:Nat):Prop:=worldOk xs=worldGo xs.length ((xs.take d).map Dt.name) (ctorNames (xs.take d)) (xs.drop d)
def KInv (xs:List Dt) (d:Nat) (hd:d<xs.length) (k:Nat):Prop :=
 worldOk xs=(ctorsSpec xs.length (nameIn ((xs.take d).map Dt.name) xs[d].name) (ctorNames (xs.take d) ++ (xs[d].ctors.take k).map Kt.name) (xs[d].ctors.drop k) && worldGo xs.length ((xs.take (d+1)).map Dt.name) (ctorNames (xs.take (d+1))) (xs.drop (d+1)))
def KInvI (xs:List Dt) (d:Nat) (hd:d<xs.length) (k:Nat):Prop :=
 worldOk xs=(ctorsGo xs.length (ctorNames (xs.take d) ++ (xs[d].ctors.take k).map Kt.name) (xs[d].ctors.drop k) && worldGo xs.length ((xs.take (d+1)).map Dt.name) (ctorNames (xs.take (d+1))) (xs.drop (d+1)))
theorem WInv.zero {xs:List Dt} (h:xs.length≤4):WInv xs 0:=by
 unfold WInv worldOk
 rw [decide_eq_true (by omega),Bool.true_and];rfl
theorem worldOk_long {xs:List Dt} (h:¬xs.length≤4):worldOk xs=false:=by
 unfold worldOk
 rw [decide_eq_false (by omega),Bool.false_and]
theorem WInv.done {xs:List Dt} {d:Nat} (h:WInv xs d) (hd:xs.length≤d):worldOk xs=true:=by
 unfold WInv at h
 rw [h,List.drop_of_length_le hd];rfl
theorem WInv.step {xs:List Dt} {d:Nat} (h:WInv xs d) (hd:d<xs.length):worldOk xs=(dnameOk xs[d].name.data.toList && (!nameIn ((xs.take d).map Dt.name) xs[d].name && (withinB (xs[d].ctors.length:Int) 1 4 && (ctorsGo xs.length (ctorNames (xs.take d)) xs[d].ctors && worldGo xs.length ((xs.take (d+1)).map Dt.name) (ctorNames (xs.take (d+1))) (xs.drop (d+1)))))):=by
 unfold WInv at h
 rw [h,List.drop_eq_getElem_cons hd,worldGo,take_snoc' xs d hd,List.map_append,ctorNames_snoc];rfl
theorem WInv.bad1 {xs:List Dt} {d:Nat} (h:WInv xs d) (hd:d<xs.length) (e:dnameOk xs[d].name.data.toList=false):worldOk xs=false:=by
 rw [h.step hd,e];rfl
theorem WInv.bad2 {xs:List Dt} {d:Nat} (h:WInv xs d) (hd:d<xs.length) (e:withinB (xs[d].ctors.length:Int) 1 4=false):worldOk xs=false:=by
 rw [h.step hd,e,Bool.false_and,Bool.and_false,Bool.and_false]
theorem WInv.bad3 {xs:List Dt} {d:Nat} (h:WInv xs d) (hd:d<xs.length) (e:nameIn ((xs.take d).map Dt.name) xs[d].name=true):worldOk xs=false:=by
 rw [h.step hd,e,Bool.not_true,Bool.false_and,Bool.and_false]
theorem WInv.go {xs:List Dt} {d:Nat} (h:WInv xs d) (hd:d<xs.length) (e1:dnameOk xs[d].name.data.toList=true) (e2:withinB (xs[d].ctors.length:Int) 1 4=true):KInv xs d hd 0:=by
 unfold KInv
 have hne:xs[d].ctors≠[]:=fun e=>by
  rw [e] at e2
  simp [withinB] at e2
 rw [List.take_zero,List.map_nil,List.append_nil,List.drop_zero,ctorsSpec_eq _ _ _ _ hne,h.step hd,e1,e2,Bool.true_and,Bool.true_and,Bool.and_assoc]
theorem WInv.goI {xs:List Dt} {d:Nat} (h:WInv xs d) (hd:d<xs.length) (e1:dnameOk xs[d].name.data.toList=true) (e2:withinB (xs[d].ctors.length:Int) 1 4=true) (e3:nameIn ((xs.take d).map Dt.name) xs[d].name=false):KInvI xs d hd 0:=by
 unfold KInvI
 rw [List.take_zero,List.map_nil,List.append_nil,List.drop_zero,h.step hd,e1,e2,e3,Bool.not_false,Bool.true_and,Bool.true_and,Bool.true_and]
theorem KInv.step {xs:List Dt} {d k:Nat} {hd:d<xs.length} (h:KInv xs d hd k) (hk:k<xs[d].ctors.length) :
  worldOk xs=((ctorOkB xs.length xs[d].ctors[k] && (!twiceB (xs.take d) (xs[d].ctors.take k) xs[d].name xs[d].ctors[k].name && ctorsSpec xs.length (nameIn ((xs.take d).map Dt.name) xs[d].name) (ctorNames (xs.take d) ++ (xs[d].ctors.take (k+1)).map Kt.name) (xs[d].ctors.drop (k+1)))) && worldGo xs.length ((xs.take (d+1)).map Dt.name) (ctorNames (xs.take (d+1))) (xs.drop (d+1))):=by
 unfold KInv at h
 rw [h,List.drop_eq_getElem_cons hk,ctorsSpec,take_snoc' _ k hk,List.map_append,←List.append_assoc];rfl
theorem KInv.bad1 {xs:List Dt} {d k:Nat} {hd:d<xs.length} (h:KInv xs d hd k) (hk:k<xs[d].ctors.length) (e:ctorOkB xs.length xs[d].ctors[k]=false):worldOk xs=false:=by
 rw [h.step hk,e];rfl
theorem KInv.bad2 {xs:List Dt} {d k:Nat} {hd:d<xs.length} (h:KInv xs d hd k) (hk:k<xs[d].ctors.length) (e:twiceB (xs.take d) (xs[d].ctors.take k) xs[d].name xs[d].ctors[k].name=true):worldOk xs=false:=by
 rw [h.step hk,e,Bool.not_true,Bool.false_and,Bool.and_false,Bool.false_and]
theorem KInv.next {xs:List Dt} {d k:Nat} {hd:d<xs.length} (h:KInv xs d hd k) (hk:k<xs[d].ctors.length) (e1:ctorOkB xs.length xs[d].ctors[k]=true) (e2:twiceB (xs.take d) (xs[d].ctors.take k) xs[d].name xs[d].ctors[k].name=false):KInv xs d hd (k+1):=by
 have h':=h.step hk
 rw [e1,e2,Bool.not_false,Bool.true_and,Bool.true_and] at h'
 exact h'
theorem KInv.done {xs:List Dt} {d k:Nat} {hd:d<xs.length} (h:KInv xs d hd k) (hk:xs[d].ctors.length≤k):WInv xs (d+1):=by
 unfold KInv at h
 rw [List.drop_of_length_le hk,ctorsSpec,Bool.true_and] at h
 exact h
theorem KInvI.step {xs:List Dt} {d k:Nat} {hd:d<xs.length} (h:KInvI xs d hd k) (hk:k<xs[d].ctors.length) :
  worldOk xs=((ctorOkB xs.length xs[d].ctors[k] && (!nameIn (ctorNames (xs.take d) ++ (xs[d].ctors.take k).map Kt.name) xs[d].ctors[k].name && ctorsGo xs.length (ctorNames (xs.take d) ++ (xs[d].ctors.take (k+1)).map Kt.name) (xs[d].ctors.drop (k+1)))) && worldGo xs.length ((xs.take (d+1)).map Dt.name) (ctorNames (xs.take (d+1))) (xs.drop (d+1))):=by
 unfold KInvI at h
 rw [h,List.drop_eq_getElem_cons hk,ctorsGo,take_snoc' _ k hk,List.map_append,←List.append_assoc];rfl
theorem KInvI.bad1 {xs:List Dt} {d k:Nat} {hd:d<xs.length} (h:KInvI xs d hd k) (hk:k<xs[d].ctors.length) (e:ctorOkB xs.length xs[d].ctors[k]=false):worldOk xs=false:=by
 rw [h.step hk,e];rfl
theorem KInvI.bad2 {xs:List Dt} {d k:Nat} {hd:d<xs.length} (h:KInvI xs d hd k) (hk:k<xs[d].ctors.length) (e:nameIn (ctorNames (xs.take d) ++ (xs[d].ctors.take k).map Kt.name) xs[d].ctors[k].name=true):worldOk xs=false:=by
 rw [h.step hk,e,Bool.not_true,Bool.false_and,Bool.and_false,Bool.false_and]
theorem KInvI.next {xs:List Dt} {d k:Nat} {hd:d<xs.length} (h:KInvI xs d hd k) (hk:k<xs[d].ctors.length) (e1:ctorOkB xs.length xs[d].ctors[k]=true) (e2:nameIn (ctorNames (xs.take d) ++ (xs[d].ctors.take k).map Kt.name) xs[d].ctors[k].name=false):KInvI xs d hd (k+1):=by
 have h':=h.step hk
 rw [e1,e2,Bool.not_false,Bool.true_and,Bool.true_and] at h'
 exact h'
theorem KInvI.done {xs:List Dt} {d k:Nat} {hd:d<xs.length} (h:KInvI xs d hd k) (hk:xs[d].ctors.length≤k):WInv xs (d+1):=by
 unfold KInvI at h
 rw [List.drop_of_length_le hk,ctorsGo,Bool.true_and] at h
 exact h
theorem zAL (xs:List Dt) (w:World) (v:Value) (F:List Nat) (hx:Arr w (DtR w) xs v F) (hf:Under w F) :
  Calls Tryz.prog 20 #[v] w fun e w'=>e=.returned (.bool (worldOk xs))∧Below w w w':=by
 obtain ⟨A,cap,rfl,hc1,hc2⟩:=hx.form
 have HX:=jj hx
 have HF:=jj hf
 clear hx hf
 by_cases h4:xs.length≤4
 ·have H0:=jj (WInv.zero h4)
  go_enter Tryz.func20,Tryz.ntmps20
  go_wp2
  go_loopw [3] (fun iv wr=>∃ d:Nat,d≤xs.length∧iv=.int .i64 d∧Hid (WInv xs d)∧Below w w wr) (fun iv _=>xs.length-(intOf iv).toNat)
  case atStart=>exact ⟨0,Nat.zero_le _,rfl,H0,zy2 _ _⟩
  case round =>
   obtain ⟨d,hd,rfl,HW,hB⟩:=hrel
   by_cases hlt:d<xs.length
   ·obtain ⟨b,off,rfl⟩:=HX.out.ptr (by omega)
    obtain ⟨A1,cap1,G1,hb,c0,c1,HK,HG,hs,hn1,hn2⟩:=ArrDt.at HX.out HF.out hB d hlt
    have g1:(0:Int)≤(d:Int):=by omega
    have g2:(d:Int)<(xs.length:Int):=by omega
    have HS:=jj hs
    clear hs
    go_wp2_with fail
    refine (spec_l1Data xs[d].name wr (by unfold maxLen;exact HS.out)).mono ?_
    rintro e w1 ⟨rfl,rfl⟩
    cases e1:dnameOk xs[d].name.data.toList with
    |false =>
     have hf:=jj (HW.out.bad1 hlt e1)
     clear e1
     go_wp2
     go_ret
     exact ⟨zA0 hf.out.symm,hB⟩
    |true =>
     have HE1:=jj e1
     clear e1
     by_cases hl0:xs[d].ctors.length=0
     ·have t0:((xs[d].ctors.length:Int)==0)=true:=by simp [hl0]
      have hf:=jj (HW.out.bad2 hlt (withinB_lo (by simp;omega)))
      clear hl0
      go_wp2
      go_ret
      exact ⟨zA0 hf.out.symm,hB⟩
     ·have t0:((xs[d].ctors.length:Int)==0)=false:=by simp;simpa using hl0
      by_cases hl5:4<xs[d].ctors.length
      ·have t1:decide ((xs[d].ctors.length:Int)>4)=true:=by simp;omega
       have hf:=jj (HW.out.bad2 hlt (by rw [withinB_hi (by simp;omega)];simp;omega))
       clear hl0
       go_wp2
       go_ret
       exact ⟨zA0 hf.out.symm,hB⟩
      ·have t1:decide ((xs[d].ctors.length:Int)>4)=false:=by simp;omega
       have HK0:=jj (HW.out.go hlt HE1.out ((withinB_iff _ _ _).2 ⟨by omega,by omega⟩))
       have hl1:0<xs[d].ctors.length:=by omega
       clear hl0
       go_wp2
       clear t0 t1 c0 c1
       obtain ⟨wo,hwo⟩:∃ wo:World,wo=wr:=⟨_,rfl⟩
       go_loopw [4] (fun jv ws=>∃ k:Nat,k≤xs[d].ctors.length∧jv=.int .i64 k∧Hid (KInv xs d hlt k)∧Below w w ws) (fun jv _=>xs[d].ctors.length-(intOf jv).toNat)
       case atStart=>exact ⟨0,Nat.zero_le _,rfl,HK0,hB⟩
       case round =>
        clear hwo
        obtain ⟨k,hk,rfl,HKI,hB2⟩:=hrel
        obtain ⟨A2,cap2,G2,hb2,c0,c1,HK2,HG2,-,hn3,hn4⟩:=ArrDt.at HX.out HF.out hB2 d hlt
        clear c0
        by_cases hkl:k<xs[d].ctors.length
        ·obtain ⟨b2,off2,rfl⟩:=HK2.out.ptr (by omega)
         obtain ⟨A3,cap3,G3,hb3,k0,k1,k2,HC,HG3,-,-,-⟩:=ArrKt.rep HK2.out HG2.out hB2 k hkl
         have g3:(0:Int)≤(k:Int):=by omega
         have g4:(k:Int)<(xs[d].ctors.length:Int):=by omega
         go_wp2_with fail
         refine (spec_l1Ctor xs.length xs[d].ctors[k] _ _ _ (HC.out.below hB2 HG3.out) (HG3.out.mono hB2.size)).mono ?_
         rintro e w2 ⟨rfl,hb2'⟩
         have hB3:=hB2.trans (hb2'.mono hB2.size)
         cases e2:ctorOkB xs.length xs[d].ctors[k] with
         |false =>
          have hf:=jj (HKI.out.bad1 hkl e2)
          clear e2
          go_wp2
          go_ret
          exact ⟨zA0 hf.out.symm,hB3⟩
         |true =>
          have HE2:=jj e2
          clear e2 k0 k1 k2 c1
          go_wp2_with fail
          refine (spec_l1Twice xs d k hlt hkl _ _ F (ArrDt.below HX.out hB3 HF.out) (HF.out.mono hB3.size)).mono ?_
          rintro e w3 ⟨rfl,hb3'⟩
          have hB4:=hB3.trans (hb3'.mono hB3.size)
          cases e3:twiceB (xs.take d) (xs[d].ctors.take k) xs[d].name xs[d].ctors[k].name with
          |true =>
           have hf:=jj (HKI.out.bad2 hkl e3)
           clear e3
           go_wp2
           go_ret
           exact ⟨zA0 hf.out.symm,hB4⟩
          |false =>
           have HK3:=jj (HKI.out.next hkl HE2.out e3)
           clear e3
           go_wp2
           go_roundw
           case rel=>exact ⟨k+1,by omega,by go_num,HK3,hB4⟩
           case measure=>(simp [intOf] <;> omega)
        ·have HW2:=jj (HKI.out.done (by omega))
         go_wp2
         go_roundw
         case rel=>exact ⟨d+1,by omega,by go_num,HW2,hB2⟩
         case measure=>(simp [intOf] <;> omega)
   ·have hf:=jj (HW.out.done (by omega))
    go_wp2
    go_ret
    exact ⟨zA0 hf.out.symm,hB⟩
 ·have hf:=jj (worldOk_long h4)
  go_enter Tryz.func20,Tryz.ntmps20
  go_wp2
  go_ret
  exact ⟨zA0 hf.out.symm,zy2 _ _⟩
end Go.Proofs.YtjjclcmmfeegfaaGreatDoor
