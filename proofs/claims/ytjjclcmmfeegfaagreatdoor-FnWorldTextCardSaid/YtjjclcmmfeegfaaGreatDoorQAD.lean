/-
  Lemmas, and contracts of functions. Conditions: none.
-/
import Derived.Test.YtjjclcmmfeegfaaGreatDoorQAC
import Derived.Test.YtjjclcmmfeegfaaGreatDoorQAA
import Derived.Deep.RegionWith
import Derived.Test.YtjjclcmmfeegfaaGreatDoorQAB
import Derived.Laws.EntriesVeiled
import Derived.Maps.OwnOps
import Derived.Maps.Views
import Derived.Maps.Own
import Derived.StringKeys
import Derived.Test.YtjjclcmmfeegfaaGreatDoorChecked
import Derived.Shelf.Strings.Builder1
import Derived.Shelf.Strings.Builder2
import Derived.Shelf.Strings.OnBuilder
import Derived.IntWalk

set_option linter.unusedVariables false
set_option linter.unusedSimpArgs false
set_option maxRecDepth 100000
set_option maxHeartbeats 1600000

namespace Go.Proofs.YtjjclcmmfeegfaaGreatDoor
open Go.RowKit
set_option maxHeartbeats 8000000 in
theorem impl_readCtor (names s:ByteArray) (hs:s.size≤2000000) (w:World) (hv:VarsOK w) :
  Calls Tryz.prog 41 #[.string names,.string s] w (GivesKt w (rdK names s)):=by
 obtain ⟨i0,hi,hz0,hz1,hz2⟩:=info_parts info_tyE
 have HI:=jj hi
 have HZ0:=jj hz0
 have HZ1:=jj hz1
 have HZ2:=jj hz2
 clear hi hz0 hz1 hz2
 have hB0:Below w w (w.alloc (.cells #[.string ⟨#[]⟩,.slice none 0 0,(0:Int)] 67)):=(zy2 _ _).alloc (zz8 _) _
 have K0:Hid (Blk (w.alloc (.cells #[.string ⟨#[]⟩,.slice none 0 0,(0:Int)] 67)) w.heap.size 67 #[.string ⟨#[]⟩,.slice none 0 0,(0:Int)]):=Blk.new w _ _
 have HV:=jj hv
 have hl1:=cut1_len 58 (tl s)
 have hl2:=trim1_len 41 (cut1 58 (tl s)).1
 have hl3:=cut1_len 40 (trim1 41 (cut1 58 (tl s)).1)
 have hls:=zA6 s
 clear hv
 go_enter Tryz.func41,Tryz.ntmps41
 go_wp2_with fail
 obtain ⟨w0,hw0⟩:∃ X,X=w.alloc (.cells #[.string ⟨#[]⟩,.slice none 0 0,(0:Int)] 67):=⟨_,rfl⟩
 rw [←hw0] at hB0 K0 ⊢
 clear hw0
 refine (cut_call s 58 w0 hs (HV.out.below hB0)).mono ?_
 rintro e w1 ⟨rfl,hb1⟩
 have hB1:=hB0.trans (hb1.mono hB0.size)
 have K1:=jj (K0.out.same (hb1.block _ K0.out.lt))
 clear hB0 K0 hb1
 go_wp2_with fail
 refine (trim_call (bs (cut1 58 (tl s)).1) 41 w1 (by rw [zAR];omega)).mono ?_
 rintro e w2 ⟨rfl,e2⟩
 subst e2
 rw [zAC]
 go_wp2_with fail
 refine (cut_call (bs (trim1 41 (cut1 58 (tl s)).1)) 40 w2 (by rw [zAR];omega) (HV.out.below hB1)).mono ?_
 rintro e w3 ⟨rfl,hb3⟩
 rw [zAC]
 have hB3:=hB1.trans (hb3.mono hB1.size)
 have K3:=jj (K1.out.same (hb3.block _ K1.out.lt))
 have hag:(agK s).size≤2000000:=by unfold agK;rw [zAR];omega
 have hnm:(nmK s).size≤2000000:=by unfold nmK;rw [zAR];omega
 have hix:(bs (cut1 58 (tl s)).2.1).size≤2000000:=by rw [zAR];omega
 have e1:bs (cut1 40 (trim1 41 (cut1 58 (tl s)).1)).1=nmK s:=rfl
 have e2:bs (cut1 40 (trim1 41 (cut1 58 (tl s)).1)).2.1=agK s:=rfl
 have e3:(cut1 40 (trim1 41 (cut1 58 (tl s)).1)).2.2=hasK s:=rfl
 rw [e1,e2,e3]
 clear e1 e2 e3 hl1 hl2 hl3 hls hB1 K1 hb3
 have hb4:Below w3 w3 (w3.alloc (.cells #[.string (nmK s),.slice none 0 0,(0:Int)] 67)):=(zy2 _ _).alloc (zz8 _) _
 have hB4:Below w w (w3.alloc (.cells #[.string (nmK s),.slice none 0 0,(0:Int)] 67)):=hB3.trans (hb4.mono hB3.size)
 have K4:=jj (K3.out.same (hb4.block _ K3.out.lt))
 have KD4:Hid (Blk (w3.alloc (.cells #[.string (nmK s),.slice none 0 0,(0:Int)] 67)) w3.heap.size 67 #[.string (nmK s),.slice none 0 0,(0:Int)]):=Blk.new _ _ _
 have hRD:w.heap.size<w3.heap.size:=K3.out.lt
 clear hB3 K3 hb4
 go_wp2_with fail
 obtain ⟨w4,hw4⟩:∃ X,X=(w3.alloc (.cells #[.string (nmK s),.slice none 0 0,(0:Int)] 67)):=⟨_,rfl⟩
 rw [←hw4] at hB4 K4 KD4 ⊢
 clear hw4
 obtain ⟨D,hD⟩:∃ X,X=w3.heap.size:=⟨_,rfl⟩
 rw [←hD] at KD4 hRD ⊢
 clear hD
 refine (atoi_call _ w4 hix (HV.out.below hB4)).mono ?_
 rintro e w5 ⟨ev,rfl,hb5⟩
 rw [zAC,show atoiI (cut1 58 (tl s)).2.1=ixK s from rfl]
 have hB5:=hB4.trans (hb5.mono hB4.size)
 have K5:=jj (K4.out.same (hb5.block _ K4.out.lt))
 have KD5:=jj (KD4.out.same (hb5.block _ KD4.out.lt))
 clear hB4 K4 KD4 hb5
 have x0:w5.cell? ⟨D,0,none⟩=some (.string (nmK s)):=(KD5.out.cell 0).trans (by simp)
 have xf0:=KD5.out.frozen 0
 have x1:w5.cell? ⟨D,1,none⟩=some (.slice none 0 0):=(KD5.out.cell 1).trans (by simp)
 have xf1:=KD5.out.frozen 1
 have x2:w5.cell? ⟨D,2,none⟩=some (.int .i64 0):=(KD5.out.cell 2).trans (by simp)
 have xf2:=KD5.out.frozen 2
 have xlt:=KD5.out.lt
 have KDs:Hid (Blk (w5.setCell ⟨D,2,none⟩ (.int .i64 (ixK s))) D 67 #[.string (nmK s),.slice none 0 0,.int .i64 (ixK s)]):=KD5.out.set_ 2 _
 have Ks:Hid (Blk (w5.setCell ⟨D,2,none⟩ (.int .i64 (ixK s))) w.heap.size 67 #[.string ⟨#[]⟩,.slice none 0 0,(0:Int)]):=K5.out.same (zz7 _ _ _ _ (by show w.heap.size≠D;omega))
 have hBs:Below w w (w5.setCell ⟨D,2,none⟩ (.int .i64 (ixK s))):=hB5.setCell (by show w.heap.size≤D;omega) _
 have hDl:D<((w5.setCell ⟨D,2,none⟩ (.int .i64 (ixK s)))).heap.size:=KDs.out.lt
 have hsz5:D<w5.heap.size:=KD5.out.lt
 cases hhas:hasK s with
 |false =>
  have hf:=jj (rdK_no (names:=names) hhas)
  have y0:w5.cell? ⟨w,0,none⟩=some (.string ⟨#[]⟩):=(K5.out.cell 0).trans (by simp)
  have yf0:=K5.out.frozen 0
  have y1:w5.cell? ⟨w,1,none⟩=some (.slice none 0 0):=(K5.out.cell 1).trans (by simp)
  have yf1:=K5.out.frozen 1
  have y2:w5.cell? ⟨w,2,none⟩=some (.int .i64 0):=(K5.out.cell 2).trans (by simp)
  have yf2:=K5.out.frozen 2
  have ylt:=K5.out.lt
  clear K5 KD5 hB5
  go_wp2
  clear y0 yf0 y1 yf1 y2 yf2 ylt
  clear x0 xf0 x1 xf1 x2 xf2 xlt
  refine bodyPost_ret (results_cell_row rfl _ _ w.heap.size 67 #[.string (nmK s),.slice none 0 0,.int .i64 (ixK s)] (0,0) _ rfl (Ks.out.triple _ _ _) Tryz.underlying67 rfl rfl) rfl ?_
  exact GivesKt.done (B:=w.heap.size+1) (E:=25) hf.out hBs rfl Ks.out.lt (Own.nil _ _ _ _ _) (Nat.lt_succ_self _) (by omega) _ _ _
 |true =>
  clear K5 KD5 hB5
  go_wp2_with fail
  clear x0 xf0 x1 xf1 x2 xf2 xlt
  obtain ⟨w6,hw6⟩:∃ X,X=(w5.setCell ⟨D,2,none⟩ (.int .i64 (ixK s))):=⟨_,rfl⟩
  rw [←hw6] at KDs Ks hBs hDl ⊢
  clear hw6
  refine (split_call (agK s) 44 w6 hag (HV.out.below hBs)).mono ?_
  rintro e w7 ⟨v7,F7,rfl,hb7,ha7,hfs7⟩
  have hB7:=hBs.trans (hb7.mono hBs.size)
  have KD7:=jj (KDs.out.same (hb7.block _ KDs.out.lt))
  have K7:=jj (Ks.out.same (hb7.block _ Ks.out.lt))
  have hD7:D<w7.heap.size:=KD7.out.lt
  obtain ⟨ags,hags⟩:∃ l,l=(cutL 44 (tl (agK s))).map bs:=⟨_,rfl⟩
  rw [←hags] at ha7
  have hgl:ags.length≤2000001:=by rw [hags,List.length_map];have h:((cutL 44 (tl (agK s))).map bs).length≤(agK s).size+1:=cutS_len 44 (agK s);rw [List.length_map] at h;omega
  have HAM:Hid (∀ x∈ags,x.size≤2000000):=fun x hx=>by rw [hags] at hx;exact Nat.le_trans (zAM 44 (agK s) x hx) hag
  have HAG:=jj hags
  clear hags
  obtain ⟨A7,cap7,rfl,-,-⟩:=ha7.form
  have HA7:=jj ha7
  have HU7:=jj hfs7.under
  have HN7:Hid (∀ b∈F7,D<b):=fun b hb=>by have:=(hfs7 b hb).1;omega
  clear ha7 hfs7 hb7 hBs KDs Ks
  go_wp2
  go_loopw [39] (fun iv wr=>∃ i:Nat,∃ kv:Value,i≤ags.length∧iv=.int .i64 i∧Hid (Blk wr D 67 #[.string (nmK s),kv,.int .i64 (ixK s)])∧Hid (Blk wr w 67 #[.string ⟨#[]⟩,.slice none 0 0,(0:Int)])∧Hid (Own wr w7.heap.size 25 2 TyR (rdsTo names ags i) kv [])∧Hid (Chg [D] w7 wr)∧Below w w wr∧w7.heap.size≤wr.heap.size) (fun iv _=>ags.length-(intOf iv).toNat)
  case atStart=>exact ⟨0,_,Nat.zero_le _,rfl,KD7,K7,(show Own _ _ _ _ _ (rdsTo names ags 0) _ _ from Own.nil _ _ _ _ _),Chg.refl _ _,hB7,zz8 _⟩
  case round =>
   clear hB7 K7 KD7
   obtain ⟨i,kv,hil,rfl,KC,KH,HO,HC,hB,hwz⟩:=hrel
   obtain ⟨kA,kcap,hkv,-,-⟩:=HO.out.form
   subst hkv
   by_cases hlt:i<ags.length
   ·have g5:(0:Int)≤(i:Int):=by omega
    have g6:(i:Int)<(ags.length:Int):=by omega
    obtain ⟨b7,off7,rfl⟩:=HA7.out.ptr (by omega)
    have HAr:Hid (Arr wr (StrR wr) ags (.slice (some ⟨b7,off7,none⟩) ags.length cap7) F7):=ArrStr.mono HA7.out (HC.out.kept HU7.out (fun b hb=>by have:=HN7.out b hb;simp;omega))
    obtain ⟨hb7l,c0⟩:=ArrStr.at HAr.out (HU7.out.mono hwz) (zy2 _ _) i hlt
    have hm5:ags[i].size≤2000000:=HAM.out _ (List.getElem_mem hlt)
    have HF2:=jj (rdsTo_succ names ags i hlt)
    have hkl:(rdsTo names ags i).length≤2000001:=Nat.le_trans (rdsTo_len names ags i) (by omega)
    have HCALL:=jj (impl_readArg names ags[i] hm5 wr.drew)
    go_wp2_with fail
    generalize hpy:rdA names ags[i]=py at HCALL HF2
    clear hpy c0 hb7l HAr hm5 g5 g6
    have hmx:(rdsTo names ags i).length+1≤maxLen:=by unfold maxLen;omega
    have hby:((rdsTo names ags i).length+1)*16≤140737488355328:=by omega
    have zT:wr.drew.cell? ⟨D,1,none⟩=some (.slice kA (rdsTo names ags i).length kcap):=(KC.out.cell 1).trans (by simp)
    have zfT:wr.drew.frozen? ⟨D,1,none⟩=false:=KC.out.frozen 1
    have hkT:D<wr.drew.heap.size:=KC.out.lt
    have r0:wr.drew.cell? ⟨w,0,none⟩=some (.string ⟨#[]⟩):=(KH.out.cell 0).trans (by simp)
    have hRl:w.heap.size<wr.drew.heap.size:=KH.out.lt
    refine zA9 (S:=fun w'=>w'.cell? ⟨w,0,none⟩=some (.string ⟨#[]⟩)) (T:=fun w'=>w'.cell? ⟨D,1,none⟩=some (.slice kA (rdsTo names ags i).length kcap)) (d:=6) (by kernel_rfl) ?_
    have hS1:wr.drew.cell? ⟨w,0,none⟩=some (.string ⟨#[]⟩):=r0
    have hT1:wr.drew.cell? ⟨D,1,none⟩=some (.slice kA (rdsTo names ags i).length kcap):=zT
    refine wV 0 rfl hS1 hT1 ?_
    (try simp only [Act.put,zz4,zz5,zz6])
    refine zAG (i:=1) (v:=?_) rfl (by decide) rfl (by kernel_rfl) (by kernel_rfl) (by kernel_rfl) (by kernel_rfl) (fun _ _ _ h=>h) (Or.inl ⟨by rfl,?hy1⟩) (by rfl) hS1 hT1 ?_
    case hy1=>(intro W hSw;(try dsimp only at hSw);(obtain ⟨s0,tT⟩:=hSw);go_simp;try with_reducible rfl)
    (try simp only [Act.put,zz4,zz5,zz6])
    refine wV 2 rfl hS1 hT1 ?_
    (try simp only [Act.put,zz4,zz5,zz6])
    refine wV 3 rfl hS1 hT1 ?_
    (try simp only [Act.put,zz4,zz5,zz6])
    refine Go.Proofs.YtjjclcmmfeegfaaGreatDoor.w1 4 rfl fun K hK=>?_
    go_simp
    go_at_call 95
    with_reducible refine HCALL.out.mono ?_
    rintro e wA ⟨rfl,hbA⟩
    have HOA:Hid (Own wA w7.heap.size 25 2 TyR (rdsTo names ags i) (.slice kA (rdsTo names ags i).length kcap) []):=Own.below (fun x cs G hk h=>TyR_mono' _ _ x cs G hk h) (w:=wr) HO.out (zAJ hbA)
    have hSA:wA.cell? ⟨w,0,none⟩=some (.string ⟨#[]⟩):=(hbA.cell (p:=⟨w,0,none⟩) hRl).trans r0
    have zA:wA.cell? ⟨D,1,none⟩=some (.slice kA (rdsTo names ags i).length kcap):=(hbA.cell (p:=⟨D,1,none⟩) hkT).trans zT
    have zfA:wA.frozen? ⟨D,1,none⟩=false:=(hbA.frozen hkT).trans zfT
    have hkA:D<wA.heap.size:=zz9 hkT hbA.size
    have kRl:w.heap.size<wA.heap.size:=zz9 hRl hbA.size
    have hSB:(wA.alloc (.cells #[py.d,py.i] 25)).cell? ⟨w,0,none⟩=some (.string ⟨#[]⟩):=(World.cell?_alloc_lt _ _ _ kRl).trans hSA
    dsimp only
    refine hK.out _ _ hSA (fun _=>zA) ?_
    clear hK K
    (try simp only [Act.put,zz4,zz5,zz6])
    refine Go.Proofs.YtjjclcmmfeegfaaGreatDoor.w1 5 rfl fun K hK=>?_
    go_simp
    refine hK.out _ _ hSB (fun _=>(World.cell?_alloc_lt _ _ _ hkA).trans zA) ?_
    clear hK K
    (try simp only [Act.put,zz4,zz5,zz6])
    refine Go.Proofs.YtjjclcmmfeegfaaGreatDoor.w1 6 rfl fun K hK=>?_
    refine zAF (P:=Tryz.prog) rfl _ _ 65 rfl i0 _ 16 Tryz.underlying65 HI.out HZ0.out HZ1.out HZ2.out rfl (by decide) TyR_len' TyR_mono' (by rfl) HOA.out ⟨py.d,py.i⟩ 25 [py.d,py.i] [] _ (by rfl) rfl (by simp [Value.oneCell']) ⟨rfl,rfl⟩ (Under.nil _) (fun _ _ h=>by cases h) hmx hby (Nat.le_trans hwz hbA.size) ?_
    intro g cp w9 hown7 hgr7 hat7
    have hrow7:=HOA.out.row
    have n7:∀ x,(x<w7.heap.size∨wr.heap.size≤x)→some x≠(Value.ownBlock (.slice kA (rdsTo names ags i).length kcap)):=fun x hx e=>by
     have h1:=(hrow7 x (zA1.2 e.symm)).1
     have h2:=(HO.out.row x (zA1.2 e.symm)).2
     omega
    have l7:wA.heap.size≤(wA.alloc (.cells #[py.d,py.i] 25)).heap.size:=by rw [World.size_alloc];exact Nat.le_succ _
    have s7:w9.cell? ⟨w,0,none⟩=some (.string ⟨#[]⟩):=(World.grownBy.cell_far hgr7 ⟨w,0,none⟩ (zz9 kRl l7) (n7 (w.heap.size) (by omega))).trans hSB
    have z71:w9.cell? ⟨D,1,none⟩=some (.slice kA (rdsTo names ags i).length kcap):=(World.grownBy.cell_far hgr7 ⟨D,1,none⟩ (zz9 hkA l7) (n7 (D) (by omega))).trans ((World.cell?_alloc_lt _ _ _ hkA).trans zA)
    have zf71:w9.frozen? ⟨D,1,none⟩=false:=(World.grownBy.frozen_far hgr7 ⟨D,1,none⟩ (zz9 hkA l7) (n7 (D) (by omega))).trans (Eq.trans (World.frozen?_of_block (Below.heap_alloc _ _ _ hkA)) zfA)
    refine hK.out _ _ s7 (fun h=>by cases h) ?_
    clear hK K
    (try simp only [Act.put,zz4,zz5,zz6])
    refine wU (i:=7) (v:=?_) rfl (Or.inl ⟨by rfl,?hy7⟩) s7 (fun h=>by cases h) ?_
    case hy7=>(intro W hSw;(try dsimp only at hSw);go_simp;try with_reducible rfl)
    (try simp only [Act.put,zz4,zz5,zz6])
    refine Go.Proofs.YtjjclcmmfeegfaaGreatDoor.w1 8 rfl fun K hK=>?_
    go_simp
    refine hK.out _ _ ((World.cell?_setCell_far _ _ _ _ (by show D≠w.heap.size;omega)).trans s7) (fun h=>by cases h) ?_
    clear hK K
    (try simp only [Act.put,zz4,zz5,zz6])
    refine wE (by kernel_rfl) ?_
    have hx6:wr.heap.size≤wA.heap.size:=hbA.size
    have hB67:Below w7 wA w9:=((zy2 w7.heap.size wA).alloc (by omega) _).grown hgr7 (by simp;omega) (fun g hg=>(hrow7 g (zA1.2 hg)).1)
    have hC6:Chg [D] w7 wA:=HC.out.drew.step hbA
    have hC7:Chg [D] w7 w9:=hC6.under hB67
    have KC6:Blk wA D 67 _:=KC.out.same (hbA.block _ hkT)
    have KC7:=KC6.same (hB67.block _ hD7)
    have KH6:Blk wA w 67 _:=KH.out.same (hbA.block _ KH.out.lt)
    have KH7:=KH6.same (hB67.block _ (by omega))
    have KC8:=jj (KC7.set_ 1 (.slice (some ⟨g,0,none⟩) ((rdsTo names ags i).length+1) cp))
    have KH8:=jj (KH7.same (zz7 w9 ⟨D,1,none⟩ (.slice (some ⟨g,0,none⟩) ((rdsTo names ags i).length+1) cp) w.heap.size (by show w.heap.size≠D;omega)))
    have HO8:=jj (Own.set (j:=1) (b:=D) TyR_mono' hown7 (.slice (some ⟨g,0,none⟩) ((rdsTo names ags i).length+1) cp) (fun h=>by have:=(hown7.row _ h).1;omega) (fun h=>by cases h))
    have HC8:=jj (hC7.set (j:=1) (b:=D) (u:=(.slice (some ⟨g,0,none⟩) ((rdsTo names ags i).length+1) cp)) (by simp))
    have hB8:Below w w w9:=(hB.drew.trans (hbA.mono hB.drew.size)).trans (hB67.mono (by omega))
    have hB9:Below w w (w9.setCell ⟨D,1,none⟩ (.slice (some ⟨g,0,none⟩) ((rdsTo names ags i).length+1) cp)):=hB8.setCell (by show w.heap.size≤D;omega) _
    have hwz8:w7.heap.size≤(w9.setCell ⟨D,1,none⟩ (.slice (some ⟨g,0,none⟩) ((rdsTo names ags i).length+1) cp)).heap.size:=HC8.out.size
    clear hS1 hT1 hSA s7 hx6 hB67 hC6 hC7 KC6 KC7 KH6 KH7 hB8 hown7 hgr7 hat7 hrow7 n7 l7 zA zfA hSB z71 zf71 zT zfT hkT r0 hRl hkA kRl HCALL
    go_wp2
    go_roundw
    case rel=>exact ⟨i+1,_,by omega,by go_num,KC8,KH8,by rw [HF2.out];exact HO8.out,HC8,hB9,hwz8⟩
    case measure=>(simp [intOf] <;> omega)
   ·have hf:=jj (rdK_yes (names:=names) hhas HAG.out (i:=i) (by omega))
    have x0:wr.cell? ⟨D,0,none⟩=some (.string (nmK s)):=(KC.out.cell 0).trans (by simp)
    have x1:wr.cell? ⟨D,1,none⟩=some (.slice kA (rdsTo names ags i).length kcap):=(KC.out.cell 1).trans (by simp)
    have x2:wr.cell? ⟨D,2,none⟩=some (.int .i64 (ixK s)):=(KC.out.cell 2).trans (by simp)
    have xlt:=KC.out.lt
    have y0:wr.cell? ⟨w,0,none⟩=some (.string ⟨#[]⟩):=(KH.out.cell 0).trans (by simp)
    have yf0:=KH.out.frozen 0
    have y1:wr.cell? ⟨w,1,none⟩=some (.slice none 0 0):=(KH.out.cell 1).trans (by simp)
    have yf1:=KH.out.frozen 1
    have y2:wr.cell? ⟨w,2,none⟩=some (.int .i64 0):=(KH.out.cell 2).trans (by simp)
    have yf2:=KH.out.frozen 2
    have ylt:=KH.out.lt
    go_wp2
    clear y0 yf0 y1 yf1 y2 yf2 ylt
    clear x0 x1 x2 xlt
    refine bodyPost_ret (results_cell_row rfl _ _ w.heap.size 67 #[.string (nmK s),.slice kA (rdsTo names ags i).length kcap,.int .i64 (ixK s)] (0,0) _ rfl (KH.out.triple _ _ _) Tryz.underlying67 rfl rfl) rfl ?_
    exact GivesKt.done (B:=w7.heap.size) (E:=25) hf.out hB rfl KH.out.lt HO.out (by omega) (by omega) _ _ _
def headS (l:List ByteArray):ByteArray:=bs (l.map fun p=>(tl p).headD 0)
theorem headS_len (l:List ByteArray):(headS l).size=l.length:=by unfold headS;rw [zAR,List.length_map]
theorem headS_snoc (l:List ByteArray) (p:ByteArray) (h:0<p.size):headS (l ++ [p])=headS l ++ p.extract 0 1:=by
 apply tl_inj
 rw [zA3]
 unfold headS
 rw [zAC,zAC,List.map_append,zAI,List.drop_zero]
 congr 1
 have hl:0<(tl p).length:=by rw [zA6];exact h
 obtain ⟨x,l,e⟩:=List.exists_cons_of_ne_nil (List.ne_nil_of_length_pos hl)
 rw [List.map_cons,List.map_nil,e]
 rfl
def pcs (text:ByteArray):List ByteArray:=(cutL 59 (tl text)).map bs
def nmD (p:ByteArray):ByteArray:=bs (cut1 61 (tl p)).1
def rsD (p:ByteArray):ByteArray:=bs (cut1 61 (tl p)).2.1
def ctD (p:ByteArray):List ByteArray:=(cutL 124 (tl (rsD p))).map bs
def rkTo (names:ByteArray) (cl:List ByteArray) (k:Nat):List Kt:=(cl.take k).map (rdK names)
theorem rkTo_succ (names:ByteArray) (cl:List ByteArray) (k:Nat) (h:k<cl.length):rkTo names cl (k+1)=rkTo names cl k ++ [rdK names cl[k]]:=zAN _ _ _ h
theorem rkTo_len (names:ByteArray) (cl:List ByteArray) (k:Nat):(rkTo names cl k).length≤k:=by unfold rkTo;rw [List.length_map,List.length_take];omega
def rdD (names p:ByteArray):Dt:=⟨nmD p,(ctD p).map (rdK names)⟩
def rdTo (names:ByteArray) (pl:List ByteArray) (i:Nat):List Dt:=(pl.take i).map (rdD names)
theorem rdTo_succ (names:ByteArray) (pl:List ByteArray) (i:Nat) (h:i<pl.length):rdTo names pl (i+1)=rdTo names pl i ++ [rdD names pl[i]]:=zAN _ _ _ h
theorem rdTo_len (names:ByteArray) (pl:List ByteArray) (i:Nat):(rdTo names pl i).length≤i:=by unfold rdTo;rw [List.length_map,List.length_take];omega
theorem rdD_at {names p:ByteArray} {cl:List ByteArray} (hc:cl=ctD p) {k:Nat} (hk:cl.length≤k):rdD names p=⟨nmD p,rkTo names cl k⟩:=by
 unfold rdD rkTo
 rw [List.take_of_length_le hk,hc]
theorem atoiI_dig:∀ n:Nat,n<10→atoiI (digT (n:Int))=n:=by
 intro n hn
 have h:∀ m:Fin 10,atoiI (digT ((m.val:Nat):Int))=m.val:=by decide +kernel
 exact h ⟨n,hn⟩
theorem parseB_of {text:ByteArray} {ys:List Dt} (h:parseB text=some ys):parseI atoiI (tl text)=some ys∧worldOk ys=true∧textT ys=tl text:=by
 unfold parseB parseW at h
 split at h
 ·cases h
 ·rename_i xs e
  by_cases h2:worldOk xs=true
  ·rw [if_pos h2] at h
   by_cases h3:textT xs=tl text
   ·rw [if_pos h3] at h
    cases h
    exact ⟨by rw [←h3];exact parseI_text rfl atoiI_dig h2,h2,h3⟩
   ·rw [if_neg h3] at h;cases h
  ·rw [if_neg h2] at h;cases h
theorem parseB_none {text:ByteArray} (h:parseI atoiI (tl text)=none):parseB text=none:=by
 cases e:parseB text with
 |none=>rfl
 |some ys=>rw [(parseB_of e).1] at h;cases h
theorem parseB_no2 {text:ByteArray} {xs:List Dt} (h:parseI atoiI (tl text)=some xs) (h2:worldOk xs=false):parseB text=none:=by
 cases e:parseB text with
 |none=>rfl
 |some ys =>
  obtain ⟨e1,e2,-⟩:=parseB_of e
  rw [h] at e1
  cases e1
  rw [h2] at e2
  cases e2
theorem parseB_text2 {text:ByteArray} {xs:List Dt} (h:parseI atoiI (tl text)=some xs) (h3:¬textT xs=tl text):parseB text=none:=by
 cases e:parseB text with
 |none=>rfl
 |some ys =>
  obtain ⟨e1,-,e3⟩:=parseB_of e
  rw [h] at e1
  cases e1
  exact absurd e3 h3
theorem parseB_yes2 {text:ByteArray} {xs:List Dt} (h2:worldOk xs=true) (h3:textT xs=tl text):parseB text=some xs:=by
 unfold parseB parseW
 rw [←h3,parse_text h2]
 show (if worldOk xs=true then if textT xs=textT xs then some xs else none else none)=some xs
 rw [if_pos h2,if_pos rfl]
theorem parseI_long {text:ByteArray} (h0:¬tl text=[]) (h:4<(pcs text).length):parseI atoiI (tl text)=none:=by
 unfold pcs at h
 rw [List.length_map] at h
 unfold parseI
 rw [if_neg h0,if_pos h]
theorem parseI_blank {text:ByteArray} (h0:¬tl text=[]) {i:Nat} (hi:i<(pcs text).length) (h:(pcs text)[i].size=0):parseI atoiI (tl text)=none:=by
 unfold parseI
 rw [if_neg h0]
 split
 ·rfl
 ·have hb:(cutL 59 (tl text)).any List.isEmpty=true:=by
   rw [List.any_eq_true]
   unfold pcs at hi h
   rw [List.length_map] at hi
   rw [List.getElem_map,zAR] at h
   exact ⟨_,List.getElem_mem hi,by rw [List.isEmpty_iff_length_eq_zero];exact h⟩
  rw [if_pos hb]
theorem mapM_none {α β:Type} {f:α→Option β}:∀ (l:List α) (x:α),x∈l→f x=none→l.mapM f=none
 |a :: l,x,hx,hf=>by
  rw [List.mapM_cons]
  rcases List.mem_cons.1 hx with rfl | hx
  ·rw [hf];rfl
  ·rw [mapM_none l x hx hf]
   cases f a <;> rfl
theorem mapM_all {α β:Type} {f:α→Option β} {g:α→β}:∀ (l:List α),(∀ x∈l,f x=some (g x))→l.mapM f=some (l.map g)
 |[],_=>rfl
 |a :: l,h=>by
  rw [List.mapM_cons,h a (by simp),mapM_all l (fun x hx=>h x (by simp [hx]))]
  rfl
theorem head_names (text:ByteArray):tl (headS (pcs text))=(cutL 59 (tl text)).map fun l=>l.headD 0:=by
 unfold headS pcs
 rw [zAC,List.map_map]
 rfl
theorem parseI_ctors {text:ByteArray} (h0:¬tl text=[]) {i:Nat} (hi:i<(pcs text).length) (h:4<(ctD (pcs text)[i]).length):parseI atoiI (tl text)=none:=by
 unfold parseI
 rw [if_neg h0]
 split
 ·rfl
 ·split
  ·rfl
  ·unfold pcs at hi
   rw [List.length_map] at hi
   refine mapM_none _ _ (List.getElem_mem hi) ?_
   unfold readDtI
   simp only
   rw [if_pos]
   unfold ctD rsD pcs at h
   rw [List.length_map,List.getElem_map,zAC,zAC] at h
   exact h
theorem parseI_some {text:ByteArray} (h0:¬tl text=[]) (h1:¬4<(pcs text).length) (h2:∀ p∈pcs text,¬p.size=0) (h3:∀ p∈pcs text,¬4<(ctD p).length) {i:Nat} (hi:(pcs text).length≤i):parseI atoiI (tl text)=some (rdTo (headS (pcs text)) (pcs text) i):=by
 have h1':¬4<(cutL 59 (tl text)).length:=by unfold pcs at h1;rwa [List.length_map] at h1
 have hb:¬(cutL 59 (tl text)).any List.isEmpty=true:=by
  rw [List.any_eq_true]
  rintro ⟨x,hx,hxe⟩
  refine h2 (bs x) (by unfold pcs;exact List.mem_map.2 ⟨x,hx,rfl⟩) ?_
  rw [zAR]
  exact List.isEmpty_iff_length_eq_zero.1 hxe
 unfold parseI
 rw [if_neg h0,if_neg h1',if_neg hb,←head_names]
 have e:rdTo (headS (pcs text)) (pcs text) i=(cutL 59 (tl text)).map fun l=>rdD (headS (pcs text)) (bs l):=by
  unfold rdTo
  rw [List.take_of_length_le hi]
  conv=>lhs;rw [pcs]
  rw [List.map_map]
  rfl
 rw [e]
 refine mapM_all _ (fun x hx=>?_)
 have h4:=h3 (bs x) (by unfold pcs;exact List.mem_map.2 ⟨x,hx,rfl⟩)
 unfold ctD rsD at h4
 rw [List.length_map,zAC,zAC] at h4
 unfold readDtI
 simp only
 rw [if_neg h4]
 unfold rdD nmD ctD rsD
 rw [zAC,zAC,List.map_map]
 rfl
theorem ctorOk_closure (A:Option Addr) (n cap:Nat) (t:Ty) (w:World) (g:Nat) (hn:n≤9223372036854775807) (hg:w.cell? ⟨g,0,none⟩=some (.slice A n cap)) (hgl:g<w.heap.size) :
  Calls Tryz.prog 105 #[.agg #[t.d,t.i],.pointer (some ⟨g,0,none⟩)] w fun e w'=>e=.returned (.bool (!argOkB n t))∧Below w w w':=by
 have HN:=jj hn
 clear hn
 go_enter Tryz.func105,Tryz.ntmps105
 go_wp2_with fail
 obtain ⟨W2,hW2⟩:∃ W2,W2=w.alloc (.cells #[t.d,t.i] 25):=⟨_,rfl⟩
 have hB2:Below w w W2:=by rw [hW2];exact (zy2 _ _).alloc (zz8 _) _
 rw [←hW2]
 clear hW2
 refine (impl_argOk A n cap t W2 HN.out).mono ?_
 rintro e w' ⟨rfl,hB'⟩
 have hB3:=hB2.trans (hB'.mono hB2.size)
 generalize hbb:argOkB n t=bb
 have HBB:=jj hbb
 clear hbb
 go_wp2
 go_ret
 exact ⟨zA0 (by rw [HBB.out]),hB3⟩
theorem IndexFunc_Ty (A0:Option Addr) (n cap0:Nat) (xs:List Ty) (r:Int) (hr:FirstAt (fun t=>!argOkB n t) xs r) (w:World) (x:Value) (F:List Nat) (g:Nat) (hn:n≤9223372036854775807) (hg:w.cell? ⟨g,0,none⟩=some (.slice A0 n cap0)) (hgl:g<w.heap.size) (hx:Arr w (TyR w) xs x F) (hF:Under w F) :
  Calls Tryz.prog 150 #[x,.func (.func 105) #[] #[.pointer (some ⟨g,0,none⟩)]] w fun e w'=>e=.returned (.int .i64 r)∧Below w w w':=by
 have HX:=jj hx
 obtain ⟨A,cap,rfl,hc1,hc2⟩:=hx.form
 clear hx
 have HF:=jj hF
 clear hF
 have HG0:=jj hg
 have HN:=jj hn
 have HR:=jj hr
 clear hg hn hr
 go_enter Tryz.func150,Tryz.ntmps150
 go_wp2
 go_loopw [8] (fun i wr=>∃ k:Nat,k≤xs.length∧i=.int .i64 k∧Hid (∀ j (hj:j<xs.length),j<k→(!argOkB n xs[j])=false)∧Below w w wr) (fun i _=>xs.length-(intOf i).toNat)
 case atStart=>exact ⟨0,Nat.zero_le _,rfl,fun j hj h=>by omega,zy2 _ _⟩
 case round =>
  obtain ⟨k,hk,rfl,HT,hB⟩:=hrel
  by_cases hlt:k<xs.length
  ·have hi0:(0:Int)≤(k:Int):=by omega
   have hi1:(k:Int)<(xs.length:Int):=by omega
   obtain ⟨b,off,cs,G,rfl,hb,hcs,hv,-⟩:=HX.out.get TyR_len hlt
   have hbl:=HF.out b hb
   have hcs:=hcs.same (hB.block b hbl)
   obtain rfl:=TyR_form hv
   have c0:=hcs 0 _ rfl
   have c1:=hcs 1 _ rfl
   simp only [Nat.add_zero] at c0
   clear hcs hv hb
   have hbw:=zz9 hbl hB.size
   go_wp2_with fail
   refine (ctorOk_closure A0 n cap0 xs[k] wr g HN.out ((hB.cell (p:=⟨g,0,none⟩) hgl).trans HG0.out) (zz9 hgl hB.size)).mono ?_
   rintro e w' ⟨rfl,hB'⟩
   have hB3:=hB.trans (hB'.mono hB.size)
   cases hq:argOkB n xs[k] with
   |false =>
    have hf:Hid (r=(k:Int)):=HR.out.hit hlt (by simp [hq]) (fun j hj h=>HT.out j hj h)
    clear hq
    go_wp2
    go_ret
    exact ⟨ret_int hf.out.symm,hB3⟩
   |true =>
    have hT2:Hid (∀ j (hj:j<xs.length),j<k+1→(!argOkB n xs[j])=false):=fun j hj h=>by
     rcases Nat.lt_or_ge j k with h2 | h2
     ·exact HT.out j hj h2
     ·obtain rfl:j=k:=by omega
      rw [hq];rfl
    clear hq
    go_wp2
    go_roundw
    case rel=>exact ⟨k+1,by omega,by go_num,hT2,hB3⟩
    case measure=>simp [intOf];omega
  ·have hf:Hid (r = -1):=HR.out.miss (fun j hj=>HT.out j hj (by omega))
   go_wp2
   go_ret
   exact ⟨ret_int hf.out.symm,hB⟩
theorem ContainsFunc_Ty (A0:Option Addr) (n cap0:Nat) (xs:List Ty) (w:World) (x:Value) (F:List Nat) (g:Nat) (hn:n≤9223372036854775807) (hg:w.cell? ⟨g,0,none⟩=some (.slice A0 n cap0)) (hgl:g<w.heap.size) (hx:Arr w (TyR w) xs x F) (hF:Under w F) :
  Calls Tryz.prog 104 #[x,.func (.func 105) #[] #[.pointer (some ⟨g,0,none⟩)]] w fun e w'=>e=.returned (.bool (xs.any fun t=>!argOkB n t))∧Below w w w':=by
 obtain ⟨r,hr⟩:=FirstAt.ex (fun t=>!argOkB n t) xs
 have hf:Hid ((xs.any fun t=>!argOkB n t)=decide (0≤r)):=hr.any
 have hcall:=IndexFunc_Ty A0 n cap0 xs r hr w x F g hn hg hgl hx hF
 obtain ⟨A,cap,rfl,hc1,hc2⟩:=hx.form
 have HC:=jj hcall
 clear hcall hr hx hF hn hg
 go_enter Tryz.func104,Tryz.ntmps104
 go_wp2_with fail
 refine HC.out.mono ?_
 rintro e w' ⟨rfl,hB'⟩
 go_wp2
 go_ret
 exact ⟨zA0 hf.out.symm,hB'⟩
theorem any_not_all {α:Type} (p:α→Bool) (l:List α):(!(l.any fun t=>!p t))=l.all p:=by
 induction l with
 |nil=>rfl
 |cons x xs ih=>rw [List.any_cons,List.all_cons,Bool.not_or,ih,Bool.not_not]
theorem impl_ctorOk (A0:Option Addr) (n cap0:Nat) (c:Kt) (w:World) (cs:List Value) (F:List Nat) (hn:n≤9223372036854775807) (hv:KtR w c cs F) (hF:Under w F) :
  Calls Tryz.prog 49 #[.slice A0 n cap0,.agg cs.toArray] w fun e w'=>e=.returned (.bool (ctorOkB n c))∧Below w w w':=by
 obtain ⟨kv,rfl,ha,hs⟩:=hv
 have HX:=jj ha
 obtain ⟨A,cap,rfl,hc1,hc2⟩:=ha.form
 clear ha
 have HF:=jj hF
 have HS:=jj hs
 have HN:=jj hn
 clear hF hs hn
 go_enter Tryz.func49,Tryz.ntmps49
 go_wp2_with fail
 obtain ⟨W2,hW2⟩:∃ W2,W2=(w.alloc (.cells #[.slice A0 n cap0] 23)).alloc (.cells #[.string c.name,.slice A c.args.length cap,c.idx] 67):=⟨_,rfl⟩
 have hB2:Below w w W2:=by rw [hW2];exact ((zy2 _ _).alloc (zz8 _) _).alloc (by simp) _
 have k1:Blk W2 w 23 #[.slice A0 n cap0]:=by rw [hW2];exact (Blk.new w _ _).same (Below.heap_alloc _ _ _ (by simp))
 have k2:Blk W2 (w.heap.size+1) 67 #[.string c.name,.slice A c.args.length cap,c.idx]:=by rw [hW2];have:=Blk.new (w.alloc (.cells #[.slice A0 n cap0] 23)) 67 #[.string c.name,.slice A c.args.length cap,c.idx];simpa using this
 rw [←hW2]
 clear hW2
 have x0:W2.cell? ⟨w,0,none⟩=some (.slice A0 n cap0):=(k1.cell 0).trans (by simp)
 have x1:W2.cell? ⟨w.heap.size+1,1,none⟩=some (.slice A c.args.length cap):=(k2.cell 1).trans (by simp)
 have x2:W2.cell? ⟨w.heap.size+1,2,none⟩=c.idx:=(k2.cell 2).trans (by simp)
 have hlt0:=k1.lt
 clear k1 k2
 refine (impl_NameValid c.name W2 (by have:=HS.out;unfold maxLen;omega)).mono ?_
 rintro e w' ⟨rfl,rfl⟩
 have h0:ctorOkB n c=(nameOk c.name.data.toList && (decide ((c.args.length:Int)≤3) && (withinB c.idx 0 3 && c.args.all (argOkB n)))):=rfl
 cases hn:nameOk c.name.data.toList with
 |false =>
  have hf:Hid (ctorOkB n c=false):=by rw [h0,hn];rfl
  clear hn h0
  go_wp2
  go_ret
  exact ⟨zA0 hf.out.symm,hB2⟩
 |true =>
  rw [hn,Bool.true_and] at h0
  clear hn
  cases hl:decide ((c.args.length:Int)≤3) with
  |false =>
   have hf:Hid (ctorOkB n c=false):=by rw [h0,hl];rfl
   clear h0
   go_wp2
   go_ret
   exact ⟨zA0 hf.out.symm,hB2⟩
  |true =>
   rw [hl,Bool.true_and] at h0
   have H0:=jj h0
   clear h0
   go_wp2_with fail
   refine (zAS c.idx 0 3 W2).mono ?_
   rintro e w' ⟨rfl,rfl⟩
   cases hi:withinB c.idx 0 3 with
   |false =>
    have hf:Hid (ctorOkB n c=false):=by rw [H0.out,hi];rfl
    clear hi
    go_wp2
    go_ret
    exact ⟨zA0 hf.out.symm,hB2⟩
   |true =>
    have hf:Hid (ctorOkB n c=!(c.args.any fun t=>!argOkB n t)):=by rw [H0.out,hi,Bool.true_and,any_not_all];rfl
    clear hi
    go_wp2_with fail
    refine (ContainsFunc_Ty A0 n cap0 c.args W2 _ F w.heap.size HN.out x0 hlt0 (ArrTy.below HX.out hB2 HF.out) (HF.out.mono hB2.size)).mono ?_
    rintro e w' ⟨rfl,hB'⟩
    have hB3:=hB2.trans (hB'.mono hB2.size)
    generalize hbb:(c.args.any fun t=>!argOkB n t)=bb
    have HBB:=jj hbb
    clear hbb
    go_wp2
    go_ret
    exact ⟨zA0 (by rw [hf.out,HBB.out]),hB3⟩
theorem plainElem_bool_inv {H:Type} {P:Program} {e:TypeId} (he:P.underlying e=some .bool) {v:Value} {z:DataW H×List MemPlace} (h:Go.plainElem P e v=some z):∃ a,v=.bool a∧z=(.lit (.bool a),[]):=by
 unfold Go.plainElem at h
 rw [he] at h
 cases v <;> simp at h
 exact ⟨_,rfl,h.symm⟩
theorem lookup_bool {H:Type} {P:Program} {k t e:TypeId} {w:World} {b n:Nat} {D:DataW H} (h:w.ownsMap P k (Go.plainElem P e) b n D) (K:Go.Maps.Keyed P k) (ht:P.underlying t=some (.map k e)) (he:P.underlying e=some .bool) (hz:(zeroValue e).run P w=.ok (.bool false) w)
  {key:Value} {kl:Lit} (hkey:Go.keyOf P k key=some kl):∃ c,(Instr.lookup t (.map (some b)) key false).run P w=.ok (.bool c) w∧D.atKey kl (.lit (.bool false))=.lit (.bool c):=by
 obtain ⟨v,ps,hrun,hv⟩:=h.lookup K ht hz (plainElem_bool he false) hkey
 obtain ⟨c,rfl,hc⟩:=plainElem_bool_inv he hv
 simp only [Prod.mk.injEq] at hc
 exact ⟨c,hrun,hc.1⟩
open Go.Maps
def strLit (s:ByteArray):Lit:=.string s.data.toList
theorem strLit_same (a b:ByteArray):(strLit a).sameKey (strLit b)=(a.toList==b.toList):=by
 rw [ByteArray.toList_eq,ByteArray.toList_eq];rfl
theorem any_same (names:List ByteArray) (s:ByteArray):((names.map strLit).any fun x=>x.sameKey (strLit s))=nameIn names s:=by
 induction names with
 |nil=>rfl
 |cons x xs ih=>rw [List.map_cons,List.any_cons,ih,strLit_same];rfl
theorem isKey_str (s:ByteArray):WideAt.IsKeyLit (strLit s):=trivial
theorem atKey_setOf {H:Type} (u z:DataW H) (k:Lit) (acc:List Lit) (ha:∀ x∈acc,WideAt.IsKeyLit x) (hk:WideAt.IsKeyLit k):(setOf u acc).atKey k z=if acc.any (fun x=>x.sameKey k) then u else z:=by
 cases h:acc.any (fun x=>x.sameKey k) with
 |false =>
  rw [if_neg (by simp)]
  exact atKey_of_not_has ((has_setOf u k acc ha).trans h) z
 |true =>
  rw [if_pos rfl]
  revert h
  have key:∀ n (acc:List Lit),acc.length=n→(∀ x∈acc,WideAt.IsKeyLit x)→acc.any (fun x=>x.sameKey k)=true→(setOf u acc).atKey k z=u:=by
   intro n
   induction n with
   |zero=>intro acc hl _ h;rw [List.length_eq_zero_iff.1 hl] at h;simp at h
   |succ n ih =>
    intro acc hl ha h
    obtain ⟨l,x,rfl⟩:∃ l x,acc=l ++ [x]:=⟨acc.dropLast,acc.getLast (by intro e;rw [e] at hl;simp at hl),(List.dropLast_concat_getLast _).symm⟩
    rw [setOf_snoc]
    have hl':∀ y∈l,WideAt.IsKeyLit y:=fun y hy=>ha y (List.mem_append.2 (.inl hy))
    by_cases e:k=x
    ·subst e
     exact atKey_put_same (tidy_setOf u l hl').isMap hk u z
    ·rw [atKey_put_other e]
     refine ih l (by simpa using hl) hl' ?_
     rw [List.any_append,Bool.or_eq_true] at h
     rcases h with h | h
     ·exact h
     ·simp only [List.any_cons,List.any_nil,Bool.or_false] at h
      exact absurd ((WideAt.sameKey_iff hk).1 h).symm e
  exact key _ acc rfl ha
theorem lawS:Maps.Keyed Tryz.prog 9:=string_keyed Tryz.underlying9
theorem zeroB (w:World):(zeroValue 4).run Tryz.prog w=.ok (.bool false) w:=by kernel_rfl
def OwnsNames (w:World) (b:Nat) (names:List ByteArray):Prop:=w.ownsMap (H:=Unit) Tryz.prog 9 (Go.plainElem Tryz.prog 4) b names.length (setOf (.lit (.bool true)) (names.map strLit))
theorem OwnsNames.made (w:World):OwnsNames (w.alloc (.map #[] 0)) w.heap.size []:=World.ownsMap_made w _ _ _
theorem OwnsNames.kept {w w':World} {b:Nat} {names:List ByteArray} {row:Option Nat} (h:OwnsNames w b names) (hg:w.grownBy w' row) (hne:some b≠row):OwnsNames w' b names:=World.ownsMap.kept h hg hne
theorem OwnsNames.below {w w':World} {b:Nat} {names:List ByteArray} (h:OwnsNames w b names) (hb:Below w w w'):OwnsNames w' b names :=
 h.kept (row:=none) ⟨hb.os,hb.tape,hb.output,hb.size,fun k hk _=>hb.block k hk⟩ (by simp)
theorem OwnsNames.alloc {w:World} {b:Nat} {names:List ByteArray} (h:OwnsNames w b names) (o:Obj):OwnsNames (w.alloc o) b names:=World.ownsMap.alloc h o
theorem OwnsNames.lt {w:World} {b:Nat} {names:List ByteArray} (h:OwnsNames w b names):b<w.heap.size:=World.ownsMap.lt h
theorem keyS (s:ByteArray) (hs:s.size≤maxLen):Go.keyOf Tryz.prog 9 (.string s)=some (strLit s):=Go.WideMaps.keyOf_string_mk Tryz.underlying9 hs
theorem OwnsNames.look {w:World} {b:Nat} {names:List ByteArray} (h:OwnsNames w b names) (s:ByteArray) (hs:s.size≤maxLen):(Instr.lookup 76 (.map (some b)) (.string s) false).run Tryz.prog w=.ok (.bool (nameIn names s)) w:=by
 obtain ⟨c,hr,hc⟩:=lookup_bool h lawS Tryz.underlying76 Tryz.underlying4 (zeroB w) (keyS s hs)
 rw [hr,atKey_setOf _ _ _ _ (fun x hx=>by obtain ⟨y,-,rfl⟩:=List.mem_map.1 hx;exact isKey_str y) (isKey_str s),any_same] at *
 cases hn:nameIn names s <;> rw [hn] at hc
 ·rw [if_neg (by simp)] at hc;cases hc;rfl
 ·rw [if_pos rfl] at hc;cases hc;rfl
theorem OwnsNames.put {w:World} {b:Nat} {names:List ByteArray} (h:OwnsNames w b names) (s:ByteArray) (w':World) (h':w'.ownsMap (H:=Unit) Tryz.prog 9 (Go.plainElem Tryz.prog 4) b (names.length+1) ((setOf (.lit (.bool true)) (names.map strLit)).put (strLit s) (.lit (.bool true)))):OwnsNames w' b (names ++ [s]):=by
 unfold OwnsNames
 rw [List.map_append,List.map_cons,List.map_nil,setOf_snoc,List.length_append]
 exact h'
theorem OwnsNames.add {w:World} {b:Nat} {names:List ByteArray} (h:OwnsNames w b names) (hn:names.length<1000000) (s:ByteArray) (hs:s.size≤maxLen) :
  ∃ w',(Instr.mapUpdate 76 (.map (some b)) (.string s) (.bool true)).run Tryz.prog w=.ok () w'∧OwnsNames w' b (names ++ [s])∧w.grownBy w' (some b):=by
 obtain ⟨w',hr,h1,h2⟩:=World.ownsMap.update h lawS Tryz.underlying76 (by unfold maxLen;omega) (keyS s hs) (plainElem_bool Tryz.underlying4 true)
 exact ⟨w',hr,h.put s w' h1,h2⟩
theorem ctorNames_len (xs:List Dt) (h:∀ x∈xs,x.ctors.length≤4):(ctorNames xs).length≤4*xs.length:=by
 induction xs with
 |nil=>simp [ctorNames]
 |cons x xs ih =>
  have h1:=h x (by simp)
  have h2:=ih fun y hy=>h y (by simp [hy])
  simp only [ctorNames,List.flatMap_cons,List.length_append,List.length_map,List.length_cons] at h2 ⊢
  omega
theorem dname_one {s:ByteArray} (h:s.size=1) (p:0<s.size):dnameOk s.data.toList=(bigB (s[0]'p) && !(s.toList==[73])):=by
 rw [ByteArray.toList_eq,one_byte s h]
 show (bigB (s[0]'p) && !(s[0]==73))=_
 congr 2
 simp
theorem dname_not {s:ByteArray} (h:s.size≠1):dnameOk s.data.toList=false:=by
 have hl:s.data.toList.length≠1:=by simpa using h
 generalize s.data.toList=l at *
 match l,hl with
 |[],_=>rfl
 |[c],hl=>simp at hl
 |_ :: _ :: _,_=>rfl
theorem impl_WorldValid (xs:List Dt) (w:World) (v:Value) (F:List Nat) (hx:Arr w (DtR w) xs v F) (hf:Under w F) :
  Calls Tryz.prog 19 #[v] w fun e w'=>e=.returned (.bool (worldOk xs))∧Below w w w':=by
 obtain ⟨A,cap,rfl,hc1,hc2⟩:=hx.form
 have hn:xs.length≤9223372036854775807:=by omega
 have HX:=jj hx
 have HF:=jj hf
 have HN:=jj hn
 clear hx hf hn
 by_cases h4:xs.length≤4
 ·have H0:=jj (WInv.zero h4)
  have hmm:=@run_makeMap Tryz.prog
  go_enter Tryz.func19,Tryz.ntmps19
  go_wp2
  clear hmm
  have HM0:Hid (OwnsNames ((w.alloc (.map #[] 0)).alloc (.map #[] 0)) w.heap.size (ctorNames (xs.take 0))):=(OwnsNames.made w).alloc _
  have HD0:Hid (OwnsNames ((w.alloc (.map #[] 0)).alloc (.map #[] 0)) (w.heap.size+1) ((xs.take 0).map Dt.name)):=by
   have:=OwnsNames.made (w.alloc (.map #[] 0))
   rwa [World.size_alloc] at this
  go_loopw [16] (fun iv wr=>∃ d:Nat,d≤xs.length∧iv=.int .i64 d∧Hid (WInv xs d)∧Below w w wr∧Hid (OwnsNames wr (w.heap.size+1) ((xs.take d).map Dt.name))∧Hid (OwnsNames wr w.heap.size (ctorNames (xs.take d)))∧Hid (∀ x∈xs.take d,x.ctors.length≤4)∧w.heap.size+1<wr.heap.size) (fun iv _=>xs.length-(intOf iv).toNat)
  case atStart=>exact ⟨0,Nat.zero_le _,rfl,H0,((zy2 _ _).alloc (zz8 _) _).alloc (by simp) _,HD0,HM0,fun x hx=>by simp at hx,by simp⟩
  case round =>
   obtain ⟨d,hd,rfl,HW,hB,HD,HM,H4,hz⟩:=hrel
   by_cases hlt:d<xs.length
   ·obtain ⟨b,off,rfl⟩:=HX.out.ptr (by omega)
    obtain ⟨A1,cap1,G1,hb,c0,c1,HK,HG,hs,hn1,hn2⟩:=ArrDt.at HX.out HF.out hB d hlt
    have g1:(0:Int)≤(d:Int):=by omega
    have g2:(d:Int)<(xs.length:Int):=by omega
    have hsm:xs[d].name.size≤maxLen:=by unfold maxLen;exact hs
    have HS:=jj hsm
    clear hs hsm
    have hlk:=(HD.out.alloc (.cells #[.string xs[d].name,.slice A1 xs[d].ctors.length cap1] 64)).look xs[d].name HS.out
    by_cases h1:xs[d].name.size=1
    ·have t1:((xs[d].name.size:Int) != 1)=false:=by simp [h1]
     have p0:0<xs[d].name.size:=by omega
     have hdn:=dname_one h1 p0
     clear h1
     cases hlo:decide ((65:Int)≤(xs[d].name[0].toNat:Int)) with
     |false =>
      have t2:decide ((xs[d].name[0].toNat:Int)<65)=true:=by simp at hlo ⊢;omega
      have hf:=jj (HW.out.bad1 hlt (by rw [hdn];unfold bigB;rw [hlo];rfl))
      clear hdn hlo hlk
      go_wp2
      go_ret
      exact ⟨zA0 hf.out.symm,hB.alloc hB.size _⟩
     |true =>
      have t2:decide ((xs[d].name[0].toNat:Int)<65)=false:=by simp at hlo ⊢;omega
      cases hhi:decide ((xs[d].name[0].toNat:Int)≤90) with
      |false =>
       have t3:decide ((xs[d].name[0].toNat:Int)>90)=true:=by simp at hhi ⊢;omega
       have hf:=jj (HW.out.bad1 hlt (by rw [hdn];unfold bigB;rw [hlo,hhi];rfl))
       clear hdn hlo hhi hlk
       go_wp2
       go_ret
       exact ⟨zA0 hf.out.symm,hB.alloc hB.size _⟩
      |true =>
       have t3:decide ((xs[d].name[0].toNat:Int)>90)=false:=by simp at hhi ⊢;omega
       have hbig:bigB xs[d].name[0]=true:=by unfold bigB;rw [hlo,hhi];rfl
       clear hlo hhi
       rw [hbig,Bool.true_and] at hdn
       clear hbig
       cases t4:(xs[d].name.toList==[73]) with
       |true =>
        have hf:=jj (HW.out.bad1 hlt (by rw [hdn,t4];rfl))
        clear hdn hlk
        go_wp2
        go_ret
        exact ⟨zA0 hf.out.symm,hB.alloc hB.size _⟩
       |false =>
        rw [t4] at hdn
        have HDN:=jj hdn
        clear hdn
        cases e3:nameIn ((xs.take d).map Dt.name) xs[d].name with
        |true =>
         have hf:=jj (HW.out.bad3 hlt e3)
         rw [e3] at hlk
         clear e3
         go_wp2
         go_ret
         exact ⟨zA0 hf.out.symm,hB.alloc hB.size _⟩
        |false =>
         rw [e3] at hlk
         have HE3:=jj e3
         clear e3
         cases e4:withinB (xs[d].ctors.length:Int) 1 4 with
         |false =>
          have hf:=jj (HW.out.bad2 hlt e4)
          have HE4:=jj e4
          clear e4
          go_wp2_with fail
          refine (zAS (xs[d].ctors.length:Int) 1 4 _).mono ?_
          rintro e w2 ⟨rfl,rfl⟩
          rw [HE4.out]
          go_wp2
          go_ret
          exact ⟨zA0 hf.out.symm,hB.alloc hB.size _⟩
         |true =>
          have HK0:=jj (HW.out.goI hlt HDN.out e4 HE3.out)
          have h5:xs[d].ctors.length≤4:=by have:=(withinB_iff _ _ _).1 e4;omega
          have H5:=jj h5
          have HE4:=jj e4
          clear e4 h5
          obtain ⟨w2,hrun2,hm2,hg2⟩:=(HD.out.alloc (.cells #[.string xs[d].name,.slice A1 xs[d].ctors.length cap1] 64)).add (by rw [List.length_map,List.length_take];omega) xs[d].name HS.out
          have k2:=Blk.new wr 64 #[.string xs[d].name,.slice A1 xs[d].ctors.length cap1]
          have k3:=k2.same (hg2.block _ k2.lt (by have:=HD.out.lt;simp;omega))
          have x1:w2.cell? ⟨wr,1,none⟩=some (.slice A1 xs[d].ctors.length cap1):=(k3.cell 1).trans (by simp)
          have hx1:=k3.lt
          clear k2 k3
          have hBa:Below w w (wr.alloc (.cells #[.string xs[d].name,.slice A1 xs[d].ctors.length cap1] 64)):=hB.alloc hB.size _
          have hB3:=hBa.grown hg2 hBa.size (fun _ h=>by cases h;omega)
          have HM3:Hid (OwnsNames w2 w.heap.size (ctorNames (xs.take d) ++ (xs[d].ctors.take 0).map Kt.name)):=by
           rw [List.take_zero,List.map_nil,List.append_nil]
           exact (HM.out.alloc _).kept hg2 (by simp)
          have HD3:Hid (OwnsNames w2 (w.heap.size+1) ((xs.take (d+1)).map Dt.name)):=by
           rw [take_snoc' xs d hlt,List.map_append];exact hm2
          have hz3:w.heap.size+1<w2.heap.size:=by have:=hg2.size;simp at this;omega
          clear hm2 hg2 hBa HD HM hz
          go_wp2_with fail
          refine (zAS (xs[d].ctors.length:Int) 1 4 _).mono ?_
          rintro e w2' ⟨rfl,rfl⟩
          rw [HE4.out]
          go_wp2
          clear x1 hx1 hrun2 hlk t1 t2 t3 t4 c0 c1
          obtain ⟨wo,hwo⟩:∃ wo:World,wo=w2:=⟨_,rfl⟩
          go_loopw [60] (fun jv ws=>∃ k:Nat,k≤xs[d].ctors.length∧jv=.int .i64 k∧Hid (KInvI xs d hlt k)∧Below w w ws∧Hid (OwnsNames ws (w.heap.size+1) ((xs.take (d+1)).map Dt.name))∧Hid (OwnsNames ws w.heap.size (ctorNames (xs.take d) ++ (xs[d].ctors.take k).map Kt.name))∧w.heap.size+1<ws.heap.size) (fun jv _=>xs[d].ctors.length-(intOf jv).toNat)
          case atStart=>exact ⟨0,Nat.zero_le _,rfl,HK0,hB3,HD3,HM3,hz3⟩
          case round =>
           clear hwo hz3 hB3 hB
           obtain ⟨k,hk,rfl,HKI,hB,HD,HM,hz⟩:=hrel
           by_cases hkl:k<xs[d].ctors.length
           ·obtain ⟨b2,off2,rfl⟩:=HK.out.ptr (by omega)
            obtain ⟨A3,cap3,G3,hb3,k0,k1,k2,HC,HG3,hs3,-,-⟩:=ArrKt.rep HK.out HG.out hB k hkl
            have g3:(0:Int)≤(k:Int):=by omega
            have g4:(k:Int)<(xs[d].ctors.length:Int):=by omega
            have HS3:=jj hs3
            clear hs3
            go_wp2_with fail
            obtain ⟨W4,hW4⟩:∃ W4,W4=wr.alloc (.cells #[.string xs[d].ctors[k].name,.slice A3 xs[d].ctors[k].args.length cap3,xs[d].ctors[k].idx] 67):=⟨_,rfl⟩
            have hb4:Below wr wr W4:=by rw [hW4];exact (zy2 _ _).alloc (zz8 _) _
            have k4:Blk W4 wr 67 #[.string xs[d].ctors[k].name,.slice A3 xs[d].ctors[k].args.length cap3,xs[d].ctors[k].idx]:=by rw [hW4];exact Blk.new _ _ _
            rw [←hW4]
            clear hW4
            have hB4:=hB.trans (hb4.mono hB.size)
            refine (impl_ctorOk _ xs.length cap xs[d].ctors[k] W4 _ _ HN.out (HC.out.below hB4 HG3.out) (HG3.out.mono hB4.size)).mono ?_
            rintro e w5 ⟨rfl,hb5⟩
            have hB5:=hB4.trans (hb5.mono hB4.size)
            have k5:=k4.same (hb5.block _ k4.lt)
            have x0:w5.cell? ⟨wr,0,none⟩=some (.string xs[d].ctors[k].name):=(k5.cell 0).trans (by simp)
            have hx0:=k5.lt
            clear k4 k5 k0 k1 k2
            have HD5:=jj ((HD.out.below hb4).below hb5)
            have HM5:=jj ((HM.out.below hb4).below hb5)
            have hlk:=HM5.out.look xs[d].ctors[k].name (by unfold maxLen;exact HS3.out)
            cases e2:ctorOkB xs.length xs[d].ctors[k] with
            |false =>
             have hf:=jj (HKI.out.bad1 hkl e2)
             clear e2 hlk
             go_wp2
             go_ret
             exact ⟨zA0 hf.out.symm,hB5⟩
            |true =>
             cases e3:nameIn (ctorNames (xs.take d) ++ (xs[d].ctors.take k).map Kt.name) xs[d].ctors[k].name with
             |true =>
              have hf:=jj (HKI.out.bad2 hkl e3)
              rw [e3] at hlk
              clear e2 e3
              go_wp2
              go_ret
              exact ⟨zA0 hf.out.symm,hB5⟩
             |false =>
              have HK3:=jj (HKI.out.next hkl e2 e3)
              rw [e3] at hlk
              clear e2 e3
              obtain ⟨w6,hrun6,hm6,hg6⟩:=HM5.out.add (by
               have h1:=ctorNames_len (xs.take d) (fun x hx=>H4.out x hx)
               have h2:(xs.take d).length≤4:=by rw [List.length_take];omega
               have h3:=H5.out
               simp only [List.length_append,List.length_map,List.length_take]
               omega) xs[d].ctors[k].name (by unfold maxLen;exact HS3.out)
              have hB6:=hB5.grown hg6 hB5.size (fun _ h=>by cases h;exact zz8 _)
              have HD6:=jj (HD5.out.kept hg6 (by simp))
              have HM6:Hid (OwnsNames w6 w.heap.size (ctorNames (xs.take d) ++ (xs[d].ctors.take (k+1)).map Kt.name)):=by
               rw [take_snoc' _ k hkl,List.map_append,←List.append_assoc];exact hm6
              have hz6:w.heap.size+1<w6.heap.size:=zz9 hz (Nat.le_trans hb4.size (Nat.le_trans hb5.size hg6.size))
              clear hm6 hg6 hb5 hb4 HD5 HM5 hB4 hB5 hB
              go_wp2
              go_roundw
              case rel=>exact ⟨k+1,by omega,by go_num,HK3,hB6,HD6,HM6,hz6⟩
              case measure=>(simp [intOf] <;> omega)
           ·have HW2:=jj (HKI.out.done (by omega))
            have HM6:Hid (OwnsNames wr w.heap.size (ctorNames (xs.take (d+1)))):=by
             have h:=HM.out
             rw [List.take_of_length_le (show xs[d].ctors.length≤k by omega),←ctorNames_snoc,←take_snoc' xs d hlt] at h
             exact h
            have H6:Hid (∀ x∈xs.take (d+1),x.ctors.length≤4):=fun x hx=>by
             rw [take_snoc' xs d hlt] at hx
             rcases List.mem_append.1 hx with h | h
             ·exact H4.out x h
             ·rw [List.mem_singleton.1 h];exact H5.out
            go_wp2
            go_roundw
            case rel=>exact ⟨d+1,by omega,by go_num,HW2,hB,HD,HM6,H6,hz⟩
            case measure=>(simp [intOf] <;> omega)
    ·have t1:((xs[d].name.size:Int) != 1)=true:=by simp;omega
     have hf:=jj (HW.out.bad1 hlt (dname_not h1))
     clear h1 hlk
     go_wp2
     go_ret
     exact ⟨zA0 hf.out.symm,hB.alloc hB.size _⟩
   ·have hf:=jj (HW.out.done (by omega))
    go_wp2
    go_ret
    exact ⟨zA0 hf.out.symm,hB⟩
 ·have hf:=jj (worldOk_long h4)
  go_enter Tryz.func19,Tryz.ntmps19
  go_wp2
  go_ret
  exact ⟨zA0 hf.out.symm,zy2 _ _⟩
end Go.Proofs.YtjjclcmmfeegfaaGreatDoor
namespace Go.Proofs.YtjjclcmmfeegfaaGreatDoor
open Go.Shelf Go.RowKit
open Go.Shelf
def Shelflays156_ren:Go.Shelf.Ren:=⟨fun | 156=>98 | 165=>146 | 166=>147 | 169=>148 | 240=>185 | 241=>186 | 276=>215 | 277=>216 | n=>n,fun | 31=>60 | 9=>9 | 3=>3 | 4=>4 | 0=>0 | 20=>20 | 72=>158 | 76=>113 | 70=>156 | 37=>22 | 75=>112 | 127=>193 | 164=>222 | 5=>5 | 80=>160 | n=>n,fun | n=>n⟩
theorem Shelflays156:Go.Proofs.Lays.n156 Tryz.prog Shelflays156_ren:={
 mixed:=by kernel_rfl
 f156:=Tryz.func98.trans (congrArg some (by kernel_rfl))
 f165:=Tryz.func146.trans (congrArg some (by kernel_rfl))
 f166:=Tryz.func147.trans (congrArg some (by kernel_rfl))
 f169:=Tryz.func148.trans (congrArg some (by kernel_rfl))
 f240:=Tryz.func185.trans (congrArg some (by kernel_rfl))
 f241:=Tryz.func186.trans (congrArg some (by kernel_rfl))
 f276:=Tryz.func215.trans (congrArg some (by kernel_rfl))
 f277:=Tryz.func216.trans (congrArg some (by kernel_rfl))
 t0:=Tryz.underlying0
 a0:=Tryz.isAgg0
 z0:=Tryz.sizeOf0
 v0:=Tryz.zeroValue0
 t3:=Tryz.underlying3
 a3:=Tryz.isAgg3
 z3:=Tryz.sizeOf3
 v3:=Tryz.zeroValue3
 t4:=Tryz.underlying4
 a4:=Tryz.isAgg4
 z4:=Tryz.sizeOf4
 v4:=Tryz.zeroValue4
 t9:=Tryz.underlying9
 a9:=Tryz.isAgg9
 z9:=Tryz.sizeOf9
 v9:=Tryz.zeroValue9
 t20:=Tryz.underlying20
 a20:=Tryz.isAgg20
 z20:=Tryz.sizeOf20
 v20:=Tryz.zeroValue20
 t31:=Tryz.underlying60
 a31:=Tryz.isAgg60
 z31:=Tryz.sizeOf60
 v31:=Tryz.zeroValue60
 t37:=Tryz.underlying22
 a37:=Tryz.isAgg22
 z37:=Tryz.sizeOf22
 v37:=Tryz.zeroValue22
 t70:=Tryz.underlying156
 a70:=Tryz.isAgg156
 z70:=Tryz.sizeOf156
 v70:=Tryz.zeroValue156
 t72:=Tryz.underlying158
 a72:=Tryz.isAgg158
 z72:=Tryz.sizeOf158
 v72:=Tryz.zeroValue158
 t75:=Tryz.underlying112
 a75:=Tryz.isAgg112
 z75:=Tryz.sizeOf112
 v75:=Tryz.zeroValue112
 t76:=Tryz.underlying113
 a76:=Tryz.isAgg113
 z76:=Tryz.sizeOf113
 v76:=Tryz.zeroValue113
 t127:=Tryz.underlying193
 a127:=Tryz.isAgg193
 z127:=Tryz.sizeOf193
 v127:=Tryz.zeroValue193
 t164:=Tryz.underlying222
 a164:=Tryz.isAgg222
 z164:=Tryz.sizeOf222
 v164:=Tryz.zeroValue222 }
theorem ShelfBuilder_Extra_156:Builder.Extra Tryz.prog Shelflays156_ren:={
 sizeBuilder:=by kernel_rfl
 liesBuilder:=by kernel_rfl
 t5:=Tryz.underlying5
 a5:=Tryz.isAgg5
 z5:=Tryz.sizeOf5
 v5:=Tryz.zeroValue5
 infoByte:=by kernel_rfl
 cellsByte:=by kernel_rfl
 sizeByte:=by kernel_rfl
 neB5:=by decide }
open Go.RowKit in
theorem Shelfstrings_Join_none (a:Option Addr) (c:Nat) (sep:ByteArray) (w:World) :
  Calls Tryz.prog 98 #[.slice a 0 c,.string sep] w fun e w'=>e=.returned (.string ⟨#[]⟩)∧w'=w:=Any.strings_Join_none Shelflays156 ShelfBuilder_Extra_156 a c sep w
open Go.RowKit in
theorem Shelfstrings_Join (bk o c:Nat) (xs:List ByteArray) (sep:ByteArray) (w:World) (hcells:∀ (j:Nat) x,xs[j]?=some x→w.cell? ⟨bk,o+j,none⟩=some (.string x)) (hbk:bk<w.heap.size) (hN:xs.length≤140737488355328) (hcap:xs.length≤c) (hlen:(Lib.join (xs.map (·.data.toList)) sep.data.toList).length≤140737488355328) :
  Calls Tryz.prog 98 #[.slice (some ⟨bk,o,none⟩) xs.length c,.string sep] w fun e w'=>e=.returned (.string ⟨(Lib.join (xs.map (·.data.toList)) sep.data.toList).toArray⟩)∧Below w w w':=Any.strings_Join Shelflays156 ShelfBuilder_Extra_156 bk o c xs sep w hcells hbk hN hcap hlen
theorem join_call (ss:List ByteArray) (sep:ByteArray) (hl:ss.length≤1000) (hj:(Lib.join (ss.map tl) (tl sep)).length≤1000000) (w:World) (v:Value) (F:List Nat) (hx:Arr w (StrR w) ss v F) (hf:Under w F) :
  Calls Tryz.prog 98 #[v,.string sep] w fun e w'=>e=.returned (.string (bs (Lib.join (ss.map tl) (tl sep))))∧Below w w w':=by
 obtain ⟨A,cap,rfl,hc1,hc2⟩:=hx.form
 rcases Nat.eq_zero_or_pos ss.length with h0 | h0
 ·have h1:ss=[]:=List.length_eq_zero_iff.1 h0
  subst h1
  refine (Shelfstrings_Join_none A cap sep w).mono ?_
  rintro e w' ⟨rfl,rfl⟩
  exact ⟨rfl,zy2 _ _⟩
 ·obtain ⟨b,off,rfl⟩:=hx.ptr h0
  have hat:=ArrStr.at hx hf (zy2 _ _) 0 h0
  refine (Shelfstrings_Join b off cap ss sep w (fun j x hj=>?_) hat.1 (by omega) hc1 (by show (Lib.join (ss.map tl) (tl sep)).length≤_;omega)).mono ?_
  ·obtain ⟨hjl,hje⟩:=List.getElem?_eq_some_iff.1 hj
   rw [←hje]
   exact (ArrStr.at hx hf (zy2 _ _) j hjl).2
  ·rintro e w' ⟨rfl,hb⟩
   exact ⟨rfl,hb⟩
end Go.Proofs.YtjjclcmmfeegfaaGreatDoor
namespace Go.Proofs.YtjjclcmmfeegfaaGreatDoor
open Go.RowKit
theorem impl_listed (ss:List ByteArray) (hl:ss.length≤1000) (hj:(Lib.join (ss.map tl) [44]).length≤1000000) (w:World) (v:Value) (F:List Nat) (hx:Arr w (StrR w) ss v F) (hf:Under w F) :
  Calls Tryz.prog 83 #[v] w fun e w'=>e=.returned (.string (bs (listedT ss)))∧Below w w w':=by
 obtain ⟨A,cap,rfl,hc1,hc2⟩:=hx.form
 have HX:=jj hx
 have HF:=jj hf
 clear hx hf
 by_cases h0:ss=[]
 ·have t0:((ss.length:Int)==0)=true:=by rw [h0];rfl
  have hf:Hid (bs (listedT ss)=⟨#[]⟩):=by unfold Hid listedT;rw [if_pos h0];rfl
  clear h0
  go_enter Tryz.func83,Tryz.ntmps83
  go_wp2
  go_ret
  exact ⟨zAE hf.out.symm,zy2 _ _⟩
 ·have t0:((ss.length:Int)==0)=false:=by
   rw [beq_eq_false_iff_ne];intro h;exact h0 (List.length_eq_zero_iff.1 (by omega))
  have hf0:bs (listedT ss)=(bs [40] ++ bs (Lib.join (ss.map tl) [44])) ++ bs [41]:=by
   unfold listedT;rw [if_neg h0,zAP,zAP];rfl
  have hsz:(bs (Lib.join (ss.map tl) [44])).size≤1000000:=by rw [zAR];exact hj
  have HJ:=jj hj
  clear h0 hj
  obtain ⟨J,hJ⟩:∃ j,bs (Lib.join (ss.map tl) [44])=j:=⟨_,rfl⟩
  rw [hJ] at hf0 hsz
  have HJJ:=jj hJ
  have hf:=jj hf0
  clear hJ hf0
  have hj1:1+J.size≤9223372036854775807:=by omega
  have hj3:¬9223372036854775807<1+J.size:=by omega
  have hj4:1+J.size+1≤9223372036854775807:=by omega
  have hj5:¬9223372036854775807<1+J.size+1:=by omega
  go_enter Tryz.func83,Tryz.ntmps83
  go_wp2_with fail
  refine (join_call ss ⟨#[44]⟩ hl HJ.out w _ F HX.out HF.out).mono ?_
  rintro e w' ⟨rfl,hb'⟩
  rw [show bs (Lib.join (ss.map tl) (tl ⟨#[44]⟩))=J from HJJ.out]
  go_wp2
  go_ret
  exact ⟨zAE hf.out.symm,hb'⟩
theorem tenDigits (k:Nat) (h:k<10):ByteArray.extract ⟨#[48,49,50,51,52,53,54,55,56,57,97,98,99,100,101,102,103,104,105,106,107,108,109,110,111,112,113,114,115,116,117,118,119,120,121,122]⟩ k (k+1)=bs (digT (k:Int)):=by
 have key:∀ j:Fin 10,ByteArray.extract ⟨#[48,49,50,51,52,53,54,55,56,57,97,98,99,100,101,102,103,104,105,106,107,108,109,110,111,112,113,114,115,116,117,118,119,120,121,122]⟩ j.1 (j.1+1)=bs (digT (j.1:Int)):=by decide
 exact key ⟨k,h⟩
theorem strconv_Itoa (k:Nat) (h:k<10) (w:World):Calls Tryz.prog 97 #[(k:Int)] w fun e w'=>e=.returned (.string (bs (digT (k:Int))))∧Below w w w':=by
 have t1:decide (0≤(k:Int))=true:=decide_eq_true (by omega)
 have t2:decide ((k:Int)<100)=true:=decide_eq_true (by omega)
 have t3:decide ((k:Int)<10)=true:=decide_eq_true (by omega)
 have t2':decide (k<100)=true:=decide_eq_true (by omega)
 have t3':decide (k<10)=true:=decide_eq_true (by omega)
 have a1:IntKind.i64.wrap ((k:Int)+1)=(k:Int)+1:=IntWalk.i64_in _ (by omega)
 have g1:(0:Int)≤(k:Int):=by omega
 have g2:(k:Int)+1≤36:=by omega
 have g3:(k:Int)≤(k:Int)+1:=by omega
 have g4:k+1≤36:=by omega
 have hf:=jj (tenDigits k h)
 clear h
 go_enter Tryz.func97,Tryz.ntmps97
 go_wp2
 go_ret
 exact ⟨by rw [←hf.out];rfl,zy2 _ _⟩
theorem bytes_append_empty (a:ByteArray):a ++ bs []=a:=tl_inj (by rw [zA3,zAC,List.append_nil])
theorem impl_typeText (xs:List Dt) (hw:WorldOK xs) (t:Ty) (ht:argOkB xs.length t=true) (w:World) (v:Value) (F:List Nat) (hx:Arr w (DtR w) xs v F) (hf:Under w F) :
  Calls Tryz.prog 96 #[v,.agg #[t.d,t.i]] w fun e w'=>e=.returned (.string (bs (tyT xs t)))∧Below w w w':=by
 obtain ⟨A,cap,rfl,hc1,hc2⟩:=hx.form
 have hin:=argOkB_in ht
 have HW:=jj hw
 have HX:=jj hx
 have HF:=jj hf
 clear hx hf
 clear hw
 by_cases hd:t.d = -1
 ·have t0:(t.d == -1)=true:=by simp [hd]
  have hf:Hid (bs (tyT xs t)=⟨#[73]⟩):=by unfold Hid tyT;rw [if_pos hd];rfl
  clear ht hin hd
  go_enter Tryz.func96,Tryz.ntmps96
  go_wp2
  go_ret
  exact ⟨zAE hf.out.symm,(zy2 _ _).alloc (zz8 _) _⟩
 ·rcases hin with h | ⟨d,hd2,hdl⟩
  ·exact absurd h hd
  have hi:-1≤t.i∧t.i≤9:=by
   unfold argOkB at ht
   rw [if_neg hd] at ht
   simp [withinB] at ht
   omega
  obtain ⟨t1,i⟩:=t
  simp only at hd2 hi hd
  subst hd2
  have hf0:bs (tyT xs ⟨(d:Int),i⟩)=xs[d].name ++ bs (idxT i):=by
   unfold tyT
   rw [if_neg hd]
   simp only
   rw [nameAt_get hdl,←zAP,bs_tl]
  have HI:Hid (-1≤i∧i≤9):=hi
  have t0:((d:Int) == -1)=false:=by rw [beq_eq_false_iff_ne];omega
  clear ht hd hi
  obtain ⟨b,off,rfl⟩:=HX.out.ptr (by omega)
  have g1:(0:Int)≤(d:Int):=by omega
  have g2:(d:Int)<(xs.length:Int):=by omega
  have hB0:Below w w (w.alloc (.cells #[(d:Int),.int .i64 i] 25)):=(zy2 _ _).alloc (zz8 _) _
  obtain ⟨A1,cap1,G1,hb,c0,c1,HK,HG,hs,hn1,hn2⟩:=ArrDt.at HX.out HF.out hB0 d hdl
  have hns:xs[d].name.size=1:=dname_len (HW.out.at hdl).name
  have y0:(w.alloc (.cells #[(d:Int),.int .i64 i] 25)).cell? ⟨w,0,none⟩=(d:Int):=((Blk.new w 25 #[(d:Int),.int .i64 i]).cell 0).trans (by simp)
  have y1:(w.alloc (.cells #[(d:Int),.int .i64 i] 25)).cell? ⟨w,1,none⟩=some (.int .i64 i):=((Blk.new w 25 #[(d:Int),.int .i64 i]).cell 1).trans (by simp)
  have klt:w.heap.size<(w.alloc (.cells #[(d:Int),.int .i64 i] 25)).heap.size:=by simp
  clear c1 HK HG hn1 hn2 hs
  cases q1:decide (i>0) with
  |true =>
   obtain ⟨k,rfl⟩:∃ k:Nat,i=(k:Int):=⟨i.toNat,by have:i>0:=(by simpa using q1);omega⟩
   have hk:k<10:=by have:=HI.out;omega
   have hkp:0<k:=by have:(k:Int)>0:=(by simpa using q1);omega
   have q1':decide (0<k)=true:=decide_eq_true hkp
   have hf:Hid (bs (tyT xs ⟨(d:Int),(k:Int)⟩)=xs[d].name ++ bs (digT (k:Int))):=by
    unfold Hid;rw [hf0];unfold idxT;rw [if_neg (by omega),if_neg (by omega)]
   have hds:(bs (digT (k:Int))).size=1:=by rfl
   clear hf0 hkp
   have hcat:xs[d].name.size+(bs (digT (k:Int))).size≤9223372036854775807:=by omega
   have hcat2:(xs[d].name.size:Int)+((bs (digT (k:Int))).size:Int)≤9223372036854775807:=by omega
   have hcat3:¬9223372036854775807<(xs[d].name.size:Int)+((bs (digT (k:Int))).size:Int):=by omega
   have hcat4:¬9223372036854775807<xs[d].name.size+(bs (digT (k:Int))).size:=by omega
   clear hds hns
   generalize hDD:bs (digT (k:Int))=DD at *
   have HDD:=jj hDD
   clear hDD
   go_enter Tryz.func96,Tryz.ntmps96
   go_wp2_with fail
   refine zA9 (S:=fun w'=>w'.cell? ⟨w,0,none⟩=(d:Int)∧w'.cell? ⟨w,1,none⟩=(k:Int)∧w'.cell? ⟨b,off+d*2,none⟩=some (.string xs[d].name)) (T:=fun _=>True) (d:=99) (by kernel_rfl) ?_
   generalize hWA:(w.alloc (.cells #[(d:Int),(k:Int)] 25))=W2 at *
   clear hWA
   have hS1:W2.drew.cell? ⟨w,0,none⟩=(d:Int)∧W2.drew.cell? ⟨w,1,none⟩=(k:Int)∧W2.drew.cell? ⟨b,off+d*2,none⟩=some (.string xs[d].name):=⟨y0,y1,c0⟩
   have hT1:True:=trivial
   have hb2:b<W2.drew.heap.size:=hb
   have klt2:w.heap.size<W2.drew.heap.size:=klt
   have hB1:Below w w W2.drew:=hB0.drew
   generalize W2.drew=wd at *
   refine wU (i:=0) (v:=?_) rfl (Or.inl ⟨by rfl,?hy0⟩) hS1 (fun _=>hT1) ?_
   case hy0=>(intro W hSw;obtain ⟨hSa,hSb,hSc⟩:=hSw;(try dsimp only at hSa hSb hSc);go_simp;try with_reducible rfl)
   (try simp only [zz])
   refine wU (i:=1) (v:=?_) rfl (Or.inl ⟨by rfl,?hy1⟩) hS1 (fun _=>hT1) ?_
   case hy1=>(intro W hSw;obtain ⟨hSa,hSb,hSc⟩:=hSw;(try dsimp only at hSa hSb hSc);go_simp;try with_reducible rfl)
   (try simp only [zz])
   refine wU (i:=2) (v:=?_) rfl (Or.inl ⟨by rfl,?hy2⟩) hS1 (fun _=>hT1) ?_
   case hy2=>(intro W hSw;obtain ⟨hSa,hSb,hSc⟩:=hSw;(try dsimp only at hSa hSb hSc);go_simp;try with_reducible rfl)
   (try simp only [zz])
   refine wU (i:=3) (v:=?_) rfl (Or.inl ⟨by rfl,?hy3⟩) hS1 (fun _=>hT1) ?_
   case hy3=>(intro W hSw;obtain ⟨hSa,hSb,hSc⟩:=hSw;(try dsimp only at hSa hSb hSc);go_simp;try with_reducible rfl)
   (try simp only [zz])
   refine wU (i:=4) (v:=?_) rfl (Or.inl ⟨by rfl,?hy4⟩) hS1 (fun _=>hT1) ?_
   case hy4=>(intro W hSw;obtain ⟨hSa,hSb,hSc⟩:=hSw;(try dsimp only at hSa hSb hSc);go_simp;try with_reducible rfl)
   (try simp only [zz])
   refine wU (i:=5) (v:=?_) rfl (Or.inl ⟨by rfl,?hy5⟩) hS1 (fun _=>hT1) ?_
   case hy5=>(intro W hSw;obtain ⟨hSa,hSb,hSc⟩:=hSw;(try dsimp only at hSa hSb hSc);go_simp;try with_reducible rfl)
   (try simp only [zz])
   refine wU (i:=6) (v:=?_) rfl (Or.inl ⟨by rfl,?hy6⟩) hS1 (fun _=>hT1) ?_
   case hy6=>(intro W hSw;obtain ⟨hSa,hSb,hSc⟩:=hSw;(try dsimp only at hSa hSb hSc);go_simp;try with_reducible rfl)
   (try simp only [zz])
   refine wU (i:=7) (v:=?_) rfl (Or.inl ⟨by rfl,?hy7⟩) hS1 (fun _=>hT1) ?_
   case hy7=>(intro W hSw;obtain ⟨hSa,hSb,hSc⟩:=hSw;(try dsimp only at hSa hSb hSc);go_simp;try with_reducible rfl)
   (try simp only [zz])
   refine w1 8 rfl fun K hK=>?_
   go_simp
   go_at_call 97
   with_reducible refine (strconv_Itoa k hk wd).mono ?_
   rintro e w' ⟨rfl,hB'⟩
   rw [HDD.out]
   have hS2:w'.cell? ⟨w,0,none⟩=(d:Int)∧w'.cell? ⟨w,1,none⟩=(k:Int)∧w'.cell? ⟨b,off+d*2,none⟩=some (.string xs[d].name):=⟨(hB'.cell klt2).trans hS1.1,(hB'.cell klt2).trans hS1.2.1,(hB'.cell hb2).trans hS1.2.2⟩
   dsimp only
   refine hK.out _ _ hS2 (fun _=>trivial) ?_
   clear hK K
   (try simp only [zz])
   refine w1 9 rfl fun K hK=>?_
   go_simp
   refine hK.out _ _ hS2 (fun _=>trivial) ?_
   clear hK K
   (try simp only [zz])
   refine wU (i:=10) (v:=?_) rfl (Or.inl ⟨by rfl,?hy10⟩) hS2 (fun _=>hT1) ?_
   case hy10=>(intro W hSw;obtain ⟨hSa,hSb,hSc⟩:=hSw;(try dsimp only at hSa hSb hSc);go_simp;try with_reducible rfl)
   (try simp only [zz])
   refine wE (by kernel_rfl) ?_
   have hB3:=hB1.trans (hB'.mono hB1.size)
   clear hS1 hT1 hS2 y0 y1 c0
   go_wp2
   go_ret
   exact ⟨zAE hf.out.symm,hB3⟩
  |false =>
   have hi0:¬i>0:=by simpa using q1
   cases q2:(i == -1) with
   |true =>
    have hi1:i = -1:=beq_iff_eq.1 q2
    have hf:Hid (bs (tyT xs ⟨(d:Int),i⟩)=xs[d].name ++ ⟨#[42]⟩):=by
     unfold Hid;rw [hf0];unfold idxT;rw [if_neg (by omega),if_pos hi1];rfl
    have hcat:xs[d].name.size+1≤9223372036854775807:=by omega
    have hcat2:(xs[d].name.size:Int)+1≤9223372036854775807:=by omega
    have hcat3:¬9223372036854775807<(xs[d].name.size:Int)+1:=by omega
    have hcat4:¬9223372036854775807<xs[d].name.size+1:=by omega
    clear hf0 hi0 hi1 hns
    go_enter Tryz.func96,Tryz.ntmps96
    go_wp2
    go_ret
    exact ⟨zAE hf.out.symm,hB0⟩
   |false =>
    have hi1:i=0:=by rw [beq_eq_false_iff_ne] at q2;have:=HI.out;omega
    have hf:Hid (bs (tyT xs ⟨(d:Int),i⟩)=xs[d].name):=by
     unfold Hid;rw [hf0];unfold idxT;rw [if_pos hi1];exact bytes_append_empty _
    clear hf0 hi0 hi1
    go_enter Tryz.func96,Tryz.ntmps96
    go_wp2
    go_ret
    exact ⟨zAE hf.out.symm,hB0⟩
def fmtTy (xs:List Dt) (t:Ty):ByteArray:=if typeValidB xs t=true then bs (tyT xs t) else ⟨#[]⟩
def tysB (xs:List Dt) (l:List Ty) (i:Nat):List ByteArray:=(l.take i).map (tyB xs)
def ktsB (xs:List Dt) (l:List Kt) (i:Nat):List ByteArray:=(l.take i).map (ktB xs)
def dtsB (xs:List Dt) (i:Nat):List ByteArray:=(xs.take i).map (dtB xs)
theorem tysB_len (xs:List Dt) (l:List Ty) (i:Nat):(tysB xs l i).length≤i:=by unfold tysB;rw [List.length_map,List.length_take];omega
theorem ktsB_len (xs:List Dt) (l:List Kt) (i:Nat):(ktsB xs l i).length≤i:=by unfold ktsB;rw [List.length_map,List.length_take];omega
theorem dtsB_len (xs:List Dt) (i:Nat):(dtsB xs i).length≤i:=by unfold dtsB;rw [List.length_map,List.length_take];omega
theorem tysB_succ (xs:List Dt) (l:List Ty) (i:Nat) (h:i<l.length):tysB xs l (i+1)=tysB xs l i ++ [tyB xs l[i]]:=by unfold tysB;rw [take_snoc' l i h,List.map_append];rfl
theorem ktsB_succ (xs:List Dt) (l:List Kt) (i:Nat) (h:i<l.length):ktsB xs l (i+1)=ktsB xs l i ++ [ktB xs l[i]]:=by unfold ktsB;rw [take_snoc' l i h,List.map_append];rfl
theorem dtsB_succ (xs:List Dt) (i:Nat) (h:i<xs.length):dtsB xs (i+1)=dtsB xs i ++ [dtB xs xs[i]]:=by unfold dtsB;rw [take_snoc' xs i h,List.map_append];rfl
theorem tysB_all (xs:List Dt) (l:List Ty) {i:Nat} (h:l.length≤i):tysB xs l i=l.map (tyB xs):=by unfold tysB;rw [List.take_of_length_le h]
theorem ktsB_all (xs:List Dt) (l:List Kt) {i:Nat} (h:l.length≤i):ktsB xs l i=l.map (ktB xs):=by unfold ktsB;rw [List.take_of_length_le h]
theorem dtsB_all (xs:List Dt) {i:Nat} (h:xs.length≤i):dtsB xs i=xs.map (dtB xs):=by unfold dtsB;rw [List.take_of_length_le h]
theorem listedT_len {xs:List Dt} (hw:WorldOK xs) {c:Kt} (hc:KtOk xs.length c):(listedT (c.args.map (tyB xs))).length≤20:=by
 rw [listedT_args,List.length_append]
 have h1:=argsT_len hw c.args true
 have h2:=closeT_len c
 have h3:=hc.args
 omega
theorem joinArgs_len {xs:List Dt} (hw:WorldOK xs) {c:Kt} (hc:KtOk xs.length c):(Lib.join ((c.args.map (tyB xs)).map tl) [44]).length≤1000000:=by
 have h:=listedT_len hw hc
 unfold listedT at h
 cases hl:c.args with
 |nil=>simp [Lib.join,List.intercalate]
 |cons a l =>
  rw [hl,if_neg (by simp)] at h
  simp only [List.length_cons,List.length_append] at h ⊢
  omega
set_option maxHeartbeats 40000000 in
theorem impl_worldText (xs:List Dt) (hw:WorldOK xs) (w:World) (v:Value) (F:List Nat) (hx:Arr w (DtR w) xs v F) (hf:Under w F) :
  Calls Tryz.prog 42 #[v] w fun e w'=>e=.returned (.string (bs (textT xs)))∧Below w w w':=by
 obtain ⟨A,cap,rfl,hc1,hc2⟩:=hx.form
 have hlen:=hw.len
 have HW:=jj hw
 have HX:=jj hx
 have HF:=jj hf
 clear hx hf hw
 obtain ⟨i0,hi,hz0,hz1,hz2⟩:=info_parts info_strE
 have HI:=jj hi
 have HZ0:=jj hz0
 have HZ1:=jj hz1
 have HZ2:=jj hz2
 clear hi hz0 hz1 hz2
 go_enter Tryz.func42,Tryz.ntmps42
 go_wp2
 go_loopw [3,15] (fun dv iv wr=>∃ d:Nat,d≤xs.length∧iv=.int .i64 d∧Hid (Own wr w.heap.size 9 1 StrR (dtsB xs d) dv [])∧Below w w wr) (fun _ iv _=>xs.length-(intOf iv).toNat)
 case atStart=>exact ⟨0,Nat.zero_le _,rfl,(show Own _ _ _ _ _ (dtsB xs 0) _ _ from Own.nil _ _ _ _ _),zy2 _ _⟩
 case round =>
  obtain ⟨d,hdl,rfl,HOD,hB⟩:=hrel
  by_cases hd:d<xs.length
  ·obtain ⟨b,off,rfl⟩:=HX.out.ptr (by omega)
   obtain ⟨A3,cap3,G3,hb3,n0,n1,HK,HG,-,hk1,hk2⟩:=ArrDt.at HX.out HF.out hB d hd
   have g1:(0:Int)≤(d:Int):=by omega
   have g2:(d:Int)<(xs.length:Int):=by omega
   have e1:decide (d<xs.length)=true:=by simpa using hd
   have hbe:Below wr wr (wr.alloc (.cells #[.string xs[d].name,.slice A3 xs[d].ctors.length cap3] 64)):=(zy2 _ _).alloc (zz8 _) _
   have HODq:Hid (Own (wr.alloc (.cells #[.string xs[d].name,.slice A3 xs[d].ctors.length cap3] 64)) w.heap.size 9 1 StrR (dtsB xs d) u3 []):=HOD.out.below (fun x cs G hk h=>zA8 _ _ x cs G hk h) hbe
   have hBwq:Below w w (wr.alloc (.cells #[.string xs[d].name,.slice A3 xs[d].ctors.length cap3] 64)):=hB.trans (hbe.mono hB.size)
   have KD:Hid (Blk (wr.alloc (.cells #[.string xs[d].name,.slice A3 xs[d].ctors.length cap3] 64)) wr.heap.size 64 #[.string xs[d].name,.slice A3 xs[d].ctors.length cap3]):=Blk.new _ _ _
   have HKN:Hid (wr.heap.size∉rowOf u3):=fun h=>Nat.lt_irrefl _ (HOD.out.row _ h).2
   have hdc:xs[d].ctors.length≤4:=(HW.out.at hd).hi
   go_wp2
   generalize (wr.alloc (.cells #[.string xs[d].name,.slice A3 xs[d].ctors.length cap3] 64))=wq at *
   generalize wr.heap.size=kd at *
   clear n0 n1 hb3 hbe HOD hB
   go_loopw [6,22] (fun cv jv ws=>∃ j:Nat,j≤xs[d].ctors.length∧jv=.int .i64 j∧Hid (Own ws wq.heap.size 9 1 StrR (ktsB xs xs[d].ctors j) cv [])∧Below wq wq ws) (fun _ jv _=>xs[d].ctors.length-(intOf jv).toNat)
   case atStart=>exact ⟨0,Nat.zero_le _,rfl,(show Own _ _ _ _ _ (ktsB xs xs[d].ctors 0) _ _ from Own.nil _ _ _ _ _),zy2 _ _⟩
   case round =>
    obtain ⟨j,hj,rfl,HOK,hB2⟩:=hrel
    have hBw1:Below w w wr:=hBwq.trans (hB2.mono hBwq.size)
    by_cases hjl:j<xs[d].ctors.length
    ·obtain ⟨b3,off3,rfl⟩:=HK.out.ptr (by omega)
     obtain ⟨A4,cap4,G4,hb4,p0,p1,p2,HT,HTG,hnm,hc3,hc4⟩:=ArrKt.at HK.out HG.out hBw1 j hjl
     have HKO:=jj (HW.out.ctor hd hjl)
     have hal4:xs[d].ctors[j].args.length≤3:=HKO.out.args
     have g3:(0:Int)≤(j:Int):=by omega
     have g4:(j:Int)<(xs[d].ctors.length:Int):=by omega
     have e2:decide (j<xs[d].ctors.length)=true:=by simpa using hjl
     have hbe:Below wr wr (wr.alloc (.cells #[.string xs[d].ctors[j].name,.slice A4 xs[d].ctors[j].args.length cap4,xs[d].ctors[j].idx] 67)):=(zy2 _ _).alloc (zz8 _) _
     have HOK2:Hid (Own (wr.alloc (.cells #[.string xs[d].ctors[j].name,.slice A4 xs[d].ctors[j].args.length cap4,xs[d].ctors[j].idx] 67)) wq.heap.size 9 1 StrR (ktsB xs xs[d].ctors j) u6 []):=HOK.out.below (fun x cs G hk h=>zA8 _ _ x cs G hk h) hbe
     have hBq2:Below wq wq (wr.alloc (.cells #[.string xs[d].ctors[j].name,.slice A4 xs[d].ctors[j].args.length cap4,xs[d].ctors[j].idx] 67)):=hB2.trans (hbe.mono hB2.size)
     have hBw2:Below w w (wr.alloc (.cells #[.string xs[d].ctors[j].name,.slice A4 xs[d].ctors[j].args.length cap4,xs[d].ctors[j].idx] 67)):=hBw1.trans (hbe.mono hBw1.size)
     have KC:Hid (Blk (wr.alloc (.cells #[.string xs[d].ctors[j].name,.slice A4 xs[d].ctors[j].args.length cap4,xs[d].ctors[j].idx] 67)) wr.heap.size 67 #[.string xs[d].ctors[j].name,.slice A4 xs[d].ctors[j].args.length cap4,xs[d].ctors[j].idx]):=Blk.new _ _ _
     have HNIL:Hid (Own (wr.alloc (.cells #[.string xs[d].ctors[j].name,.slice A4 xs[d].ctors[j].args.length cap4,xs[d].ctors[j].idx] 67)) (wr.alloc (.cells #[.string xs[d].ctors[j].name,.slice A4 xs[d].ctors[j].args.length cap4,xs[d].ctors[j].idx] 67)).heap.size 9 1 StrR (tysB xs xs[d].ctors[j].args 0) (.slice none 0 0) []):=(show Own _ _ _ _ _ (tysB xs xs[d].ctors[j].args 0) _ _ from Own.nil _ _ _ _ _)
     go_wp2
     generalize (wr.alloc (.cells #[.string xs[d].ctors[j].name,.slice A4 xs[d].ctors[j].args.length cap4,xs[d].ctors[j].idx] 67))=wq2 at *
     generalize wr.heap.size=kc at *
     clear p0 p1 p2 hb4 hbe HOK hB2 hBw1
     go_loopw [9,29] (fun av iv ws=>∃ i:Nat,i≤xs[d].ctors[j].args.length∧iv=.int .i64 i∧Hid (Own ws wq2.heap.size 9 1 StrR (tysB xs xs[d].ctors[j].args i) av [])∧Below wq2 wq2 ws) (fun _ iv _=>xs[d].ctors[j].args.length-(intOf iv).toNat)
     case atStart=>exact ⟨0,Nat.zero_le _,rfl,HNIL,zy2 _ _⟩
     case round =>
      clear HNIL
      obtain ⟨i,hi,rfl,HOA,hB3⟩:=hrel
      have hBw3:Below w w wr:=hBw2.trans (hB3.mono hBw2.size)
      by_cases hil:i<xs[d].ctors[j].args.length
      ·obtain ⟨b4,off4,rfl⟩:=HT.out.ptr (by omega)
       obtain ⟨hbt,y0,y1⟩:=ArrTy.at HT.out HTG.out hBw3 i hil
       have g5:(0:Int)≤(i:Int):=by omega
       have g6:(i:Int)<(xs[d].ctors[j].args.length:Int):=by omega
       have e3:decide (i<xs[d].ctors[j].args.length)=true:=by simpa using hil
       have hlm:=tysB_len xs xs[d].ctors[j].args i
       have hmx:(tysB xs xs[d].ctors[j].args i).length+1≤maxLen:=by unfold maxLen;omega
       have hby:((tysB xs xs[d].ctors[j].args i).length+1)*16≤140737488355328:=by omega
       have HSU:=jj (tysB_succ xs xs[d].ctors[j].args i hil)
       have HAO:Hid (argOkB xs.length xs[d].ctors[j].args[i]=true):=HKO.out.all _ (List.getElem_mem hil)
       have hbe:Below wr wr (wr.alloc (.cells #[xs[d].ctors[j].args[i].d,xs[d].ctors[j].args[i].i] 25)):=(zy2 _ _).alloc (zz8 _) _
       have HO4:Hid (Own (wr.alloc (.cells #[xs[d].ctors[j].args[i].d,xs[d].ctors[j].args[i].i] 25)) wq2.heap.size 9 1 StrR (tysB xs xs[d].ctors[j].args i) u9 []):=HOA.out.below (fun x cs G hk h=>zA8 _ _ x cs G hk h) hbe
       have hB4:Below wq2 wq2 (wr.alloc (.cells #[xs[d].ctors[j].args[i].d,xs[d].ctors[j].args[i].i] 25)):=hB3.trans (hbe.mono hB3.size)
       have hBw4:Below w w (wr.alloc (.cells #[xs[d].ctors[j].args[i].d,xs[d].ctors[j].args[i].i] 25)):=hBw3.trans (hbe.mono hBw3.size)
       obtain ⟨aA,acap,hav,-,-⟩:=HOA.out.form
       subst hav
       go_wp2_with fail
       generalize (wr.alloc (.cells #[xs[d].ctors[j].args[i].d,xs[d].ctors[j].args[i].i] 25))=w3 at *
       refine (impl_typeText xs HW.out xs[d].ctors[j].args[i] HAO.out w3 _ F (ArrDt.below HX.out hBw4 HF.out) (HF.out.mono hBw4.size)).mono ?_
       rintro e w4 ⟨rfl,hb4⟩
       have HO5:Hid (Own w4 wq2.heap.size 9 1 StrR (tysB xs xs[d].ctors[j].args i) (.slice aA (tysB xs xs[d].ctors[j].args i).length acap) []):=HO4.out.below (fun x cs G hk h=>zA8 _ _ x cs G hk h) hb4
       have hB5:Below wq2 wq2 w4:=hB4.trans (hb4.mono hB4.size)
       have hbs5:wq2.heap.size≤w4.heap.size:=hB5.size
       rw [show bs (tyT xs xs[d].ctors[j].args[i])=tyB xs xs[d].ctors[j].args[i] from rfl]
       clear y0 y1 hbt hbe HO4 hB4 hBw4 HOA
       go_wp2_with (at_builtin;refine Halt.mk ?_)
       refine Halt.of (zA5 (P:=Tryz.prog) rfl _ _ 60 rfl i0 _ 16 Tryz.underlying60 HI.out HZ0.out HZ1.out HZ2.out rfl Nat.zero_lt_one zAA zA8 (by rfl) HO5.out (tyB xs xs[d].ctors[j].args[i]) 9 [.string (tyB xs xs[d].ctors[j].args[i])] [] _ (by rfl) rfl (by simp [Value.oneCell']) ⟨rfl,rfl⟩ (Under.nil _) (fun _ _ h=>by cases h) hmx hby hbs5 ?_)
       intro g cp w5 hown5 hgr5 hat5
       have hrow:=HO5.out.row
       have hB6:Below wq2 wq2 w5:=(hB5.alloc hB5.size _).grown hgr5 (by simp;omega) (fun g hg=>(hrow g (zA1.2 hg)).1)
       have HO6:=jj hown5
       clear hown5 hgr5 hat5 hrow HO5 hB5
       go_wp2
       go_roundw
       case rel=>exact ⟨i+1,hil,by go_num,by rw [HSU.out];exact HO6.out,hB6⟩
       case measure=>(simp [intOf] <;> omega)
      ·have e3:decide (i<xs[d].ctors[j].args.length)=false:=by simpa using hil
       have hta:tysB xs xs[d].ctors[j].args i=xs[d].ctors[j].args.map (tyB xs):=tysB_all _ _ (by omega)
       have HAR:Hid (Arr wr (StrR wr) (xs[d].ctors[j].args.map (tyB xs)) u9 (if tysB xs xs[d].ctors[j].args i=[] then [] else rowOf u9 ++ [])):=by rw [←hta];exact HOA.out.arr
       have HRW:=jj HOA.out.row
       have HUA:Hid (Under wr (if tysB xs xs[d].ctors[j].args i=[] then [] else rowOf u9 ++ [])):=fun b hb=>by
        split at hb
        ·cases hb
        ·rw [List.append_nil] at hb;exact (HRW.out b hb).2
       generalize (if tysB xs xs[d].ctors[j].args i=[] then [] else rowOf u9 ++ [])=FA at HAR HUA
       have k0:wr.cell? ⟨kc,0,none⟩=some (.string xs[d].ctors[j].name):=(hB3.cell KC.out.lt).trans ((KC.out.cell 0).trans (by simp))
       have k2:wr.cell? ⟨kc,2,none⟩=xs[d].ctors[j].idx:=(hB3.cell KC.out.lt).trans ((KC.out.cell 2).trans (by simp))
       have klt:kc<wr.heap.size:=zz9 KC.out.lt hB3.size
       have hns:xs[d].ctors[j].name.size≤5:=nameOk_len HKO.out.name
       have hll:(bs (listedT (xs[d].ctors[j].args.map (tyB xs)))).size≤20:=by rw [zAR];exact listedT_len HW.out HKO.out
       have HJL:=jj (joinArgs_len HW.out HKO.out)
       have hal:(xs[d].ctors[j].args.map (tyB xs)).length≤1000:=by rw [List.length_map];have:=HKO.out.args;omega
       obtain ⟨L,hL⟩:∃ l,bs (listedT (xs[d].ctors[j].args.map (tyB xs)))=l:=⟨_,rfl⟩
       rw [hL] at hll
       have HL:=jj hL
       clear hL hta HOA
       have c1:xs[d].ctors[j].name.size+L.size≤9223372036854775807:=by omega
       have c2:(xs[d].ctors[j].name.size:Int)+(L.size:Int)≤9223372036854775807:=by omega
       have c3:¬9223372036854775807<xs[d].ctors[j].name.size+L.size:=by omega
       have hBw5:Below w w wr.drew:=hBw3.drew
       have HUAd:Hid (Under wr.drew.heap.size FA):=HUA.out
       have HARd:Hid (Arr wr.drew (StrR wr.drew) (xs[d].ctors[j].args.map (tyB xs)) u9 FA):=ArrStr.mono HAR.out (fun _ _=>rfl)
       go_wp2_with fail
       refine zA9 (S:=fun w'=>w'.cell? ⟨kc,0,none⟩=some (.string xs[d].ctors[j].name)) (T:=fun _=>True) (d:=99) (by kernel_rfl) ?_
       have hS1:wr.drew.cell? ⟨kc,0,none⟩=some (.string xs[d].ctors[j].name):=k0
       have hT1:True:=trivial
       refine wV 0 rfl hS1 hT1 ?_
       (try simp only [zz])
       refine wV 1 rfl hS1 hT1 ?_
       (try simp only [zz])
       refine wV 2 rfl hS1 hT1 ?_
       (try simp only [zz])
       refine w1 3 rfl fun K hK=>?_
       go_simp
       go_at_call 83
       with_reducible refine (impl_listed (xs[d].ctors[j].args.map (tyB xs)) hal HJL.out wr.drew _ FA HARd.out HUAd.out).mono ?_
       rintro e w' ⟨rfl,hB'⟩
       rw [HL.out]
       have hS2:w'.cell? ⟨kc,0,none⟩=some (.string xs[d].ctors[j].name):=(hB'.cell klt).trans k0
       dsimp only
       refine hK.out _ _ hS2 (fun _=>trivial) ?_
       clear hK K
       (try simp only [zz])
       refine w1 4 rfl fun K hK=>?_
       go_simp
       refine hK.out _ _ hS2 (fun _=>trivial) ?_
       clear hK K
       (try simp only [zz])
       refine wV 5 rfl hS2 hT1 ?_
       (try simp only [zz])
       refine wE (by kernel_rfl) ?_
       have hB7:Below wq2 wq2 w':=hB3.drew.trans (hB'.mono hB3.size)
       have m2:w'.cell? ⟨kc,2,none⟩=xs[d].ctors[j].idx:=(hB'.cell klt).trans k2
       have hBq7:Below wq wq w':=hBq2.trans (hB7.mono hBq2.size)
       have HO7:Hid (Own w' wq.heap.size 9 1 StrR (ktsB xs xs[d].ctors j) u6 []):=HOK2.out.below (fun x cs G hk h=>zA8 _ _ x cs G hk h) hB7
       have hlm:=ktsB_len xs xs[d].ctors j
       have hmx:(ktsB xs xs[d].ctors j).length+1≤maxLen:=by unfold maxLen;omega
       have hby:((ktsB xs xs[d].ctors j).length+1)*16≤140737488355328:=by omega
       have HSU:=jj (ktsB_succ xs xs[d].ctors j hjl)
       obtain ⟨kA,kcap,hkv,-,-⟩:=HO7.out.form
       subst hkv
       have HKT:Hid (ktB xs xs[d].ctors[j]=bs (tl xs[d].ctors[j].name ++ (listedT (xs[d].ctors[j].args.map (tyB xs)) ++ endT xs[d].ctors[j]))):=by unfold Hid ktB;rw [ktT_listed]
       clear hS1 hT1 hS2 k0 k2 hB3 hB' hBw3 hBw5 c1 c2 c3 HAR HARd HUA HUAd HJL HRW
       cases q1:decide (xs[d].ctors[j].idx>0) with
       |false =>
        have hkt:ktB xs xs[d].ctors[j]=xs[d].ctors[j].name ++ L:=by
         rw [HKT.out,←HL.out,show endT xs[d].ctors[j]=[] from if_neg (by simpa using q1),List.append_nil,←zAP,bs_tl]
        have HK2:=jj hkt
        clear hkt
        have hbsq:wq.heap.size≤w'.heap.size:=hBq7.size
        go_wp2_with (at_builtin;refine Halt.mk ?_)
        refine Halt.of (zA5 (P:=Tryz.prog) rfl _ _ 60 rfl i0 _ 16 Tryz.underlying60 HI.out HZ0.out HZ1.out HZ2.out rfl Nat.zero_lt_one zAA zA8 (by rfl) HO7.out (xs[d].ctors[j].name ++ L) 9 [.string (xs[d].ctors[j].name ++ L)] [] _ (by rfl) rfl (by simp [Value.oneCell']) ⟨rfl,rfl⟩ (Under.nil _) (fun _ _ h=>by cases h) hmx hby hbsq ?_)
        intro g cp w8 hown8 hgr8 hat8
        have hrow:=HO7.out.row
        have hB8:Below wq wq w8:=(hBq7.alloc hBq7.size _).grown hgr8 (by simp;omega) (fun g hg=>(hrow g (zA1.2 hg)).1)
        have HO8:=jj hown8
        clear hown8 hgr8 hat8 hrow
        go_wp2
        go_roundw
        case rel=>exact ⟨j+1,hjl,by go_num,by rw [HSU.out,HK2.out];exact HO8.out,hB8⟩
        case measure=>(simp [intOf] <;> omega)
       |true =>
        obtain ⟨n,hn⟩:∃ n:Nat,xs[d].ctors[j].idx=(n:Int):=⟨xs[d].ctors[j].idx.toNat,by have:=HKO.out.lo;omega⟩
        have hn10:n<10:=by have:=HKO.out.hi;omega
        have hkt:ktB xs xs[d].ctors[j]=(xs[d].ctors[j].name ++ L) ++ (bs [58] ++ bs (digT (n:Int))):=by
         rw [HKT.out,←HL.out,show endT xs[d].ctors[j]=58 :: digT xs[d].ctors[j].idx from if_pos (by simpa using q1),hn,zAP,←bs_tl xs[d].ctors[j].name,zAP,zAP,zAC,List.append_assoc]
         rfl
        have HK2:=jj hkt
        have q2:decide ((n:Int)>0)=true:=by rw [←hn];exact q1
        have q3:decide (0<n)=true:=by simpa using q2
        rw [hn] at m2
        clear hkt hn q1
        have hds:(bs (digT (n:Int))).size=1:=by rfl
        have hes:(xs[d].ctors[j].name ++ L).size≤25:=by rw [ByteArray.size_append];omega
        have c4:1+(bs (digT (n:Int))).size≤9223372036854775807:=by omega
        have c5:¬9223372036854775807<1+(bs (digT (n:Int))).size:=by omega
        have c6:xs[d].ctors[j].name.size+L.size+(1+(bs (digT (n:Int))).size)≤9223372036854775807:=by omega
        have c7:¬9223372036854775807<xs[d].ctors[j].name.size+L.size+(1+(bs (digT (n:Int))).size):=by omega
        clear hds hes
        go_wp2_with fail
        refine (strconv_Itoa n hn10 w').mono ?_
        rintro e w9 ⟨rfl,hb9⟩
        have hBq9:Below wq wq w9:=hBq7.trans (hb9.mono hBq7.size)
        have HO9:Hid (Own w9 wq.heap.size 9 1 StrR (ktsB xs xs[d].ctors j) (.slice kA (ktsB xs xs[d].ctors j).length kcap) []):=HO7.out.below (fun x cs G hk h=>zA8 _ _ x cs G hk h) hb9
        have hbsq:wq.heap.size≤w9.heap.size:=hBq9.size
        go_wp2_with (at_builtin;refine Halt.mk ?_)
        refine Halt.of (zA5 (P:=Tryz.prog) rfl _ _ 60 rfl i0 _ 16 Tryz.underlying60 HI.out HZ0.out HZ1.out HZ2.out rfl Nat.zero_lt_one zAA zA8 (by rfl) HO9.out ((xs[d].ctors[j].name ++ L) ++ (bs [58] ++ bs (digT (n:Int)))) 9 [.string ((xs[d].ctors[j].name ++ L) ++ (bs [58] ++ bs (digT (n:Int))))] [] _ (by rfl) rfl (by simp [Value.oneCell']) ⟨rfl,rfl⟩ (Under.nil _) (fun _ _ h=>by cases h) hmx hby hbsq ?_)
        intro g cp w8 hown8 hgr8 hat8
        have hrow:=HO9.out.row
        have hB8:Below wq wq w8:=(hBq9.alloc hBq9.size _).grown hgr8 (by simp;omega) (fun g hg=>(hrow g (zA1.2 hg)).1)
        have HO8:=jj hown8
        clear hown8 hgr8 hat8 hrow
        go_wp2
        go_roundw
        case rel=>exact ⟨j+1,hjl,by go_num,by rw [HSU.out,HK2.out];exact HO8.out,hB8⟩
        case measure=>(simp [intOf] <;> omega)
    ·have e2:decide (j<xs[d].ctors.length)=false:=by simpa using hjl
     have hta:ktsB xs xs[d].ctors j=xs[d].ctors.map (ktB xs):=ktsB_all _ _ (by omega)
     have HAR:Hid (Arr wr (StrR wr) (xs[d].ctors.map (ktB xs)) u6 (if ktsB xs xs[d].ctors j=[] then [] else rowOf u6 ++ [])):=by rw [←hta];exact HOK.out.arr
     have HRW:=jj HOK.out.row
     have HUA:Hid (Under wr (if ktsB xs xs[d].ctors j=[] then [] else rowOf u6 ++ [])):=fun b hb=>by
      split at hb
      ·cases hb
      ·rw [List.append_nil] at hb;exact (HRW.out b hb).2
     generalize (if ktsB xs xs[d].ctors j=[] then [] else rowOf u6 ++ [])=FA at HAR HUA
     have k0:wr.cell? ⟨kd,0,none⟩=some (.string xs[d].name):=(hB2.cell KD.out.lt).trans ((KD.out.cell 0).trans (by simp))
     have klt:kd<wr.heap.size:=zz9 KD.out.lt hB2.size
     have hdo:=HW.out.at hd
     have hns:xs[d].name.size=1:=dname_len hdo.name
     have hjn:(Lib.join ((xs[d].ctors.map (ktB xs)).map tl) [124]).length≤100:=by
      rw [ktsT_join]
      have h1:=ktsT_len HW.out xs[d].ctors true hdo.all
      have h2:=hdo.hi
      omega
     have HJL:Hid ((Lib.join ((xs[d].ctors.map (ktB xs)).map tl) (tl ⟨#[124]⟩)).length≤1000000):=by
      have h:tl ⟨#[124]⟩=[124]:=rfl
      unfold Hid;rw [h];omega
     have hal:(xs[d].ctors.map (ktB xs)).length≤1000:=by rw [List.length_map];have:=hdo.hi;omega
     have hll:(bs (Lib.join ((xs[d].ctors.map (ktB xs)).map tl) [124])).size≤100:=by rw [zAR];exact hjn
     have hdt:dtB xs xs[d]=(xs[d].name ++ bs [61]) ++ bs (Lib.join ((xs[d].ctors.map (ktB xs)).map tl) [124]):=by
      unfold dtB;rw [←dtT_kts,←bs_tl xs[d].name,zAP,zAP,zAC,List.append_assoc];rfl
     obtain ⟨L,hL⟩:∃ l,bs (Lib.join ((xs[d].ctors.map (ktB xs)).map tl) [124])=l:=⟨_,rfl⟩
     rw [hL] at hll hdt
     have HL:=jj hL
     have HDT:=jj hdt
     clear hL hta HOK hdo hjn hdt
     have c1:xs[d].name.size+1≤9223372036854775807:=by omega
     have c2:¬9223372036854775807<xs[d].name.size+1:=by omega
     have c3:xs[d].name.size+1+L.size≤9223372036854775807:=by omega
     have c4:¬9223372036854775807<xs[d].name.size+1+L.size:=by omega
     clear hns
     have hlm:=dtsB_len xs d
     have hmx:(dtsB xs d).length+1≤maxLen:=by unfold maxLen;omega
     have hby:((dtsB xs d).length+1)*16≤140737488355328:=by omega
     have HSU:=jj (dtsB_succ xs d hd)
     have HOD1:Hid (Own wr.drew w.heap.size 9 1 StrR (dtsB xs d) u3 []):=HODq.out.below (fun x cs G hk h=>zA8 _ _ x cs G hk h) hB2.drew
     have hBd:Below w w wr.drew:=hBw1.drew
     have HUAd:Hid (Under wr.drew.heap.size FA):=HUA.out
     have HARd:Hid (Arr wr.drew (StrR wr.drew) (xs[d].ctors.map (ktB xs)) u6 FA):=ArrStr.mono HAR.out (fun _ _=>rfl)
     go_wp2_with fail
     refine zA9 (S:=fun w'=>w'.cell? ⟨kd,0,none⟩=some (.string xs[d].name)) (T:=fun _=>True) (d:=99) (by kernel_rfl) ?_
     have hS1:wr.drew.cell? ⟨kd,0,none⟩=some (.string xs[d].name):=k0
     have hT1:True:=trivial
     refine wV 0 rfl hS1 hT1 ?_
     (try simp only [zz])
     refine wV 1 rfl hS1 hT1 ?_
     (try simp only [zz])
     refine wV 2 rfl hS1 hT1 ?_
     (try simp only [zz])
     refine wV 3 rfl hS1 hT1 ?_
     (try simp only [zz])
     refine wV 4 rfl hS1 hT1 ?_
     (try simp only [zz])
     refine w1 5 rfl fun K hK=>?_
     go_simp
     go_at_call 98
     with_reducible refine (join_call (xs[d].ctors.map (ktB xs)) ⟨#[124]⟩ hal HJL.out wr.drew _ FA HARd.out HUAd.out).mono ?_
     rintro e w' ⟨rfl,hB'⟩
     rw [show bs (Lib.join ((xs[d].ctors.map (ktB xs)).map tl) (tl ⟨#[124]⟩))=L from HL.out]
     have hS2:w'.cell? ⟨kd,0,none⟩=some (.string xs[d].name):=(hB'.cell klt).trans k0
     have HOD2:Hid (Own w' w.heap.size 9 1 StrR (dtsB xs d) u3 []):=HOD1.out.below (fun x cs G hk h=>zA8 _ _ x cs G hk h) hB'
     have hBd2:Below w w w':=hBd.trans (hB'.mono hBd.size)
     have hbsd:w.heap.size≤w'.heap.size:=hBd2.size
     have klt2:kd<w'.heap.size:=zz9 klt hB'.size
     obtain ⟨dA,dcap,hdv,-,-⟩:=HOD2.out.form
     subst hdv
     dsimp only
     refine hK.out _ _ hS2 (fun _=>trivial) ?_
     clear hK K
     (try simp only [zz])
     refine w1 6 rfl fun K hK=>?_
     go_simp
     refine hK.out _ _ hS2 (fun _=>trivial) ?_
     clear hK K
     (try simp only [zz])
     refine w1 7 rfl fun K hK=>?_
     go_simp
     refine hK.out _ _ ((World.cell?_alloc_lt _ _ _ klt2).trans hS2) (fun _=>trivial) ?_
     clear hK K
     (try simp only [zz])
     refine w1 8 rfl fun K hK=>?_
     refine zAF (P:=Tryz.prog) rfl _ _ 60 rfl i0 _ 16 Tryz.underlying60 HI.out HZ0.out HZ1.out HZ2.out rfl Nat.zero_lt_one zAA zA8 (by rfl) HOD2.out ((xs[d].name ++ bs [61]) ++ L) 9 [.string ((xs[d].name ++ bs [61]) ++ L)] [] _ (by rfl) rfl (by simp [Value.oneCell']) ⟨rfl,rfl⟩ (Under.nil _) (fun _ _ h=>by cases h) hmx hby hbsd ?_
     intro g cp w8 hown8 hgr8 hat8
     have hrow:=HOD2.out.row
     have l7:w'.heap.size≤(w'.alloc (.cells #[.string ((xs[d].name ++ bs [61]) ++ L)] 9)).heap.size:=by rw [World.size_alloc];exact Nat.le_succ _
     have hB8:Below w w w8:=(hBd2.alloc hbsd _).grown hgr8 (by simp;omega) (fun g hg=>(hrow g (zA1.2 hg)).1)
     have hkn:some kd≠(Value.slice dA (dtsB xs d).length dcap).ownBlock:=fun e=>HKN.out (zA1.2 e.symm)
     have s8:w8.cell? ⟨kd,0,none⟩=some (.string xs[d].name):=(World.grownBy.cell_far hgr8 ⟨kd,0,none⟩ (zz9 klt2 l7) hkn).trans ((World.cell?_alloc_lt _ _ _ klt2).trans hS2)
     have HO8:=jj hown8
     refine hK.out _ _ s8 (fun _=>trivial) ?_
     clear hK K
     (try simp only [zz])
     refine wV 9 rfl s8 hT1 ?_
     (try simp only [zz])
     refine wE (by kernel_rfl) ?_
     clear hS1 hT1 hS2 s8 k0 hown8 hgr8 hat8 hrow l7 hkn c1 c2 c3 c4 HAR HARd HUA HUAd HJL HRW hB2 hB' hBd hBd2
     go_wp2
     go_roundw
     case rel=>exact ⟨d+1,hd,by go_num,by rw [HSU.out,HDT.out];exact HO8.out,hB8⟩
     case measure=>(simp [intOf] <;> omega)
  ·have e1:decide (d<xs.length)=false:=by simpa using hd
   have hta:dtsB xs d=xs.map (dtB xs):=dtsB_all _ (by omega)
   have HAR:Hid (Arr wr (StrR wr) (xs.map (dtB xs)) u3 (if dtsB xs d=[] then [] else rowOf u3 ++ [])):=by rw [←hta];exact HOD.out.arr
   have HRW:=jj HOD.out.row
   have HUA:Hid (Under wr (if dtsB xs d=[] then [] else rowOf u3 ++ [])):=fun b hb=>by
    split at hb
    ·cases hb
    ·rw [List.append_nil] at hb;exact (HRW.out b hb).2
   generalize (if dtsB xs d=[] then [] else rowOf u3 ++ [])=FA at HAR HUA
   have hal:(xs.map (dtB xs)).length≤1000:=by rw [List.length_map];omega
   have hjn:Lib.join ((xs.map (dtB xs)).map tl) [59]=textT xs:=textT_join xs xs
   have HJN:=jj hjn
   have HJL:Hid ((Lib.join ((xs.map (dtB xs)).map tl) (tl ⟨#[59]⟩)).length≤1000000):=by
    have h:tl ⟨#[59]⟩=[59]:=rfl
    unfold Hid;rw [h,hjn];have:=textT_len HW.out;omega
   clear hta HOD hjn
   go_wp2_with fail
   refine (join_call (xs.map (dtB xs)) ⟨#[59]⟩ hal HJL.out wr _ FA HAR.out HUA.out).mono ?_
   rintro e w' ⟨rfl,hB'⟩
   rw [show Lib.join ((xs.map (dtB xs)).map tl) (tl ⟨#[59]⟩)=textT xs from HJN.out]
   have hB2:=hB.trans (hB'.mono hB.size)
   go_wp2
   go_ret
   exact ⟨rfl,hB2⟩
def fmtW (xs:List Dt):ByteArray:=if worldOk xs=true then bs (textT xs) else ⟨#[]⟩
theorem impl_FormatWorld (xs:List Dt) (w:World) (v:Value) (F:List Nat) (hx:Arr w (DtR w) xs v F) (hf:Under w F) :
  Calls Tryz.prog 17 #[v] w fun e w'=>e=.returned (.string (fmtW xs))∧Below w w w':=by
 obtain ⟨A,cap,rfl,hc1,hc2⟩:=hx.form
 have HX:=jj hx
 have HF:=jj hf
 clear hx hf
 go_enter Tryz.func17,Tryz.ntmps17
 go_wp2_with fail
 refine (impl_WorldValid xs w _ F HX.out HF.out).mono ?_
 rintro e w1 ⟨rfl,hb1⟩
 cases q0:worldOk xs with
 |false =>
  have hf:Hid (fmtW xs=⟨#[]⟩):=if_neg (by simp [q0])
  clear q0
  go_wp2
  go_ret
  exact ⟨zAE hf.out.symm,hb1⟩
 |true =>
  have hf:Hid (fmtW xs=bs (textT xs)):=if_pos q0
  have HW:=jj (worldOK q0)
  clear q0
  go_wp2_with fail
  refine (impl_worldText xs HW.out w1 _ F (ArrDt.below HX.out hb1 HF.out) (HF.out.mono hb1.size)).mono ?_
  rintro e w2 ⟨rfl,hb2⟩
  have hB2:=hb1.trans (hb2.mono hb1.size)
  go_wp2
  go_ret
  exact ⟨zAE hf.out.symm,hB2⟩
section
variable {α : Type} {w w9 wr wA w7 : World} {D H k : Nat} {T E : TypeId} {R : World → α → List Value → List Nat → Prop} {xs ys : List α} {v v' nm : Value} {F G : List Nat} {o : Obj}
theorem push_round2 {w6:World} (HO:Own wr w6.heap.size E k R xs v F) (hFr:Free wr F) (HFr:Free wr G) (hd:∀ b∈rowOf v ++ F,b<D) (hG:∀ b∈G,D+1≤b∧b<wr.heap.size) (HC:Below w6 w6 wr) (HFh:∀ b∈F,w6.heap.size≤b) (hD:w6.heap.size≤D) (hgr:(wr.alloc o).grownBy w7 v.ownBlock) :
  Free w7 (F ++ G)∧(∀ b∈F ++ G,w6.heap.size≤b)∧Below w6 w6 w7∧w6.heap.size≤w7.heap.size:=by
 have h6:=HC.size
 have hB7:Below w6 w6 w7:=(HC.alloc HC.size _).grown hgr (by rw [World.size_alloc];omega) (fun g hg=>(HO.row g (zA1.2 hg)).1)
 refine ⟨?_,fun b hb=>?_,hB7,hB7.size⟩
 ·refine (Free.append hFr HFr (fun b hb hg=>by have h1:=hd b (List.mem_append.2 (.inr hb));have h2:=(hG b hg).1;omega)).kept (fun b hb=>?_)
  have hbl:b<wr.heap.size:=by
   rcases List.mem_append.1 hb with h | h
   ·exact HO.under b h
   ·exact (hG b h).2
  refine (hgr.block b (by rw [World.size_alloc];omega) (fun e=>?_)).trans (Below.heap_alloc _ _ _ hbl)
  have hrw:=zA1.2 e.symm
  rcases List.mem_append.1 hb with h | h
  ·exact HO.apart b hrw h
  ·have h1:=hd b (List.mem_append.2 (.inl hrw))
   have h2:=(hG b h).1
   omega
 ·rcases List.mem_append.1 hb with h | h
  ·exact HFh b h
  ·have:=(hG b h).1;omega
theorem grow_round2 (hRm:∀ w w' x cs G,Kept G w w'→R w x cs G→R w' x cs G) (hD:D<w9.heap.size) (KD:Blk wr D T #[nm,v]) (HO:Own wr w9.heap.size E k R xs v F) (HF:Free wr F) (HFh:∀ b∈F,w9.heap.size≤b) (HC:Chg [D] w9 wr) (hB:Below H w wr) (hHD:H≤D) (hw:H≤w.heap.size)
  (hBu:Below wr wr wA) (hfrA:Free wA G) (hfsA:∀ b∈G,wr.heap.size≤b∧b<wA.heap.size) (hown:Own w7 w9.heap.size E k R ys v' (F ++ G)) (hgr:(wA.alloc o).grownBy w7 v.ownBlock) :
  Blk (w7.setCell ⟨D,1,none⟩ v') D T #[nm,v']∧Own (w7.setCell ⟨D,1,none⟩ v') w9.heap.size E k R ys v' (F ++ G)∧Free (w7.setCell ⟨D,1,none⟩ v') (F ++ G)∧(∀ b∈F ++ G,w9.heap.size≤b)∧Chg [D] w9 (w7.setCell ⟨D,1,none⟩ v')∧Below H w (w7.setCell ⟨D,1,none⟩ v')∧w9.heap.size≤(w7.setCell ⟨D,1,none⟩ v').heap.size:=by
 have hlt:=KD.lt
 have hA:=hBu.size
 have h9:=HC.size
 have hFG:∀ b∈F ++ G,w9.heap.size≤b:=fun b hb=>by
  rcases List.mem_append.1 hb with h | h
  ·exact HFh b h
  ·have:=(hfsA b h).1;omega
 have hBA7:Below w9 wA w7:=((zy2 w9.heap.size wA).alloc (by omega) o).grown hgr (by rw [World.size_alloc];omega) (fun g hg=>(HO.row g (zA1.2 hg)).1)
 have hC7:Chg [D] w9 w7:=(HC.step hBu).under hBA7
 have hC8:Chg [D] w9 (w7.setCell ⟨D,1,none⟩ v'):=hC7.set (by simp)
 have hne:∀ b∈F ++ G,b≠D:=fun b hb e=>by have:=hFG b hb;omega
 have hKD7:w7.heap[D]?=wr.heap[D]?:=(hBA7.block D hD).trans (hBu.block D hlt)
 refine ⟨?_,Own.set (j:=1) hRm hown v' (fun h=>by have:=(hown.row _ h).1;omega) (fun h=>hne _ h rfl),?_,hFG,hC8,?_,hC8.size⟩
 ·exact (KD.same hKD7).set_ 1 v'
 ·have hfr:Free wA (F ++ G):=Free.append (HF.kept (.of_below hBu HO.under)) hfrA (fun b hb hG=>by have h1:=HO.under b hb;have h2:=(hfsA b hG).1;omega)
  have hfr7:Free w7 (F ++ G):=hfr.kept fun b hb=>by
   have hbA:b<wA.heap.size:=by
    rcases List.mem_append.1 hb with h | h
    ·exact zz9 (HO.under b h) hA
    ·exact (hfsA b h).2
   refine (hgr.block b (by rw [World.size_alloc];omega) (fun e=>?_)).trans (Below.heap_alloc _ _ _ hbA)
   have hrw:=zA1.2 e.symm
   rcases List.mem_append.1 hb with h | h
   ·exact HO.apart b hrw h
   ·have h1:=(HO.row b hrw).2
    have h2:=(hfsA b h).1
    omega
  exact hfr7.kept fun b hb=>zz7 w7 ⟨D,1,none⟩ v' b (hne b hb)
 ·have h8:Below H w w7:=(hB.trans (hBu.mono (Nat.le_trans hw hB.size))).trans (hBA7.mono (by omega))
  exact h8.setCell hHD _
end
set_option maxHeartbeats 8000000 in
theorem impl_ParseWorld (text:ByteArray) (hs:text.size≤1048576) (w:World) (hv:VarsOK w) :
  Calls Tryz.prog 12 #[.string text] w (GivesWorld w (parseB text)):=by
 obtain ⟨i0,hi,hz0,hz1,hz2⟩:=info_parts info_KtE
 have HI:=jj hi
 have HZ0:=jj hz0
 have HZ1:=jj hz1
 have HZ2:=jj hz2
 clear hi hz0 hz1 hz2
 obtain ⟨m0,hm,hm0,hm1,hm2⟩:=info_parts info_DtE
 have HM:=jj hm
 have HM0:=jj hm0
 have HM1:=jj hm1
 have HM2:=jj hm2
 clear hm hm0 hm1 hm2
 have HV:=jj hv
 clear hv
 cases q0:(text.toList==[]) with
 |true =>
  have hf:Hid (parseB text=some []):=by
   rw [beq_iff_eq,zA2] at q0
   exact parseB_yes2 (by decide) (by rw [q0];rfl)
  have hfin:GivesWorld w (parseB text) (.returned (.tuple #[.slice none 0 0,.bool true])) w:=by
   rw [hf.out]
   exact ⟨_,[],rfl,zy2 _ _,⟨_,_,rfl,zz8 _,by simp [maxLen],.inl ⟨rfl,rfl⟩⟩,Free.nil _,Fresh.nil _ _⟩
  have HFin:=jj hfin
  clear hfin
  go_enter Tryz.func12,Tryz.ntmps12
  go_wp2
  go_ret2
  exact HFin.out
 |false =>
  have HT0:Hid (¬tl text=[]):=by rw [beq_eq_false_iff_ne,zA2] at q0;exact q0
  go_enter Tryz.func12,Tryz.ntmps12
  go_wp2_with fail
  refine (split_call text 59 w (by omega) HV.out).mono ?_
  rintro e w3 ⟨v3,F3,rfl,hB3,ha3,hfs3⟩
  obtain ⟨pl,hpl⟩:∃ l,l=pcs text:=⟨_,rfl⟩
  rw [show (cutL 59 (tl text)).map bs=pcs text from rfl,←hpl] at ha3
  have HPM:Hid (∀ x∈pl,x.size≤2000000):=fun x hx=>by rw [hpl] at hx;exact Nat.le_trans (zAM 59 text x hx) (by omega)
  have HPL:=jj hpl
  clear hpl
  obtain ⟨A3,cap3,rfl,-,-⟩:=ha3.form
  have HA3:=jj ha3
  have HU3:=jj hfs3.under
  have HN3:Hid (∀ b∈F3,w.heap.size≤b):=fun b hb=>(hfs3 b hb).1
  clear ha3 hfs3
  by_cases hpn:4<pl.length
  ·have t4:decide ((pl.length:Int)>4)=true:=decide_eq_true (by omega)
   have t4':decide ((4:Int)<(pl.length:Int))=true:=decide_eq_true (by omega)
   have HNO:Hid (parseB text=none):=parseB_none (parseI_long HT0.out (by rw [←HPL.out];exact hpn))
   clear hpn
   have hfin:GivesWorld w (parseB text) (.returned (.tuple #[.slice none 0 0,.bool false])) w3:=by
    rw [HNO.out]
    exact ⟨_,[],rfl,hB3,⟨_,_,rfl,zz8 _,by simp [maxLen],.inl ⟨rfl,rfl⟩⟩,Free.nil _,Fresh.nil _ _⟩
   have HFin:=jj hfin
   clear hfin
   go_wp2
   go_ret2
   exact HFin.out
  ·have t4:decide ((pl.length:Int)>4)=false:=decide_eq_false (by omega)
   have t4':decide ((4:Int)<(pl.length:Int))=false:=decide_eq_false (by omega)
   go_wp2
   go_loopw [5,27] (fun nv iv wr=>∃ i:Nat,i≤pl.length∧iv=.int .i64 i∧nv=.string (headS (pl.take i))∧Hid (∀ j (hj:j<pl.length),j<i→¬pl[j].size=0)∧Below w3 w3 wr) (fun _ iv _=>pl.length-(intOf iv).toNat)
   case atStart=>exact ⟨0,Nat.zero_le _,rfl,rfl,(fun j hj h=>by omega),zy2 _ _⟩
   case round =>
    obtain ⟨i,hi,rfl,rfl,HGD,hb⟩:=hrel
    have hB:=hB3.trans (hb.mono hB3.size)
    by_cases hil:i<pl.length
    ·have g1:(0:Int)≤(i:Int):=by omega
     have g2:(i:Int)<(pl.length:Int):=by omega
     obtain ⟨b3,off3,rfl⟩:=HA3.out.ptr (by omega)
     obtain ⟨hbl,c0⟩:=ArrStr.at HA3.out HU3.out hb i hil
     have hps:pl[i].size≤2000000:=HPM.out _ (List.getElem_mem hil)
     have htk:pl.take (i+1)=pl.take i ++ [pl[i]]:=take_snoc' pl i hil
     have htl:(pl.take i).length=i:=by rw [List.length_take];omega
     have hhl:=headS_len (pl.take i)
     obtain ⟨p,hp⟩:∃ p,p=pl[i]:=⟨_,rfl⟩
     rw [←hp] at c0 hps htk
     have HPE:=jj hp
     clear hp
     have HTK:=jj htk
     clear htk
     cases q1:(p.toList==[]) with
     |true =>
      have hz:p.size=0:=by
       rw [beq_iff_eq,zA2] at q1
       have:=zA6 p
       rw [q1] at this
       exact this.symm
      have HNO:Hid (parseB text=none):=parseB_none (by
       have h1:i<(pcs text).length:=by rw [←HPL.out];exact hil
       refine parseI_blank HT0.out h1 ?_
       have e:(pcs text)[i]=p:=by rw [HPE.out];simp only [HPL.out]
       rw [e]
       exact hz)
      clear hz htl hhl
      have hfin:GivesWorld w (parseB text) (.returned (.tuple #[.slice none 0 0,.bool false])) wr:=by
       rw [HNO.out]
       exact ⟨_,[],rfl,hB,⟨_,_,rfl,zz8 _,by simp [maxLen],.inl ⟨rfl,rfl⟩⟩,Free.nil _,Fresh.nil _ _⟩
      have HFin:=jj hfin
      clear hfin
      go_wp2
      go_ret2
      exact HFin.out
     |false =>
      have hz:0<p.size:=by
       rcases Nat.eq_zero_or_pos p.size with h | h
       ·rw [beq_eq_false_iff_ne,zA2] at q1
        exact absurd (List.eq_nil_of_length_eq_zero (by rw [zA6];exact h)) q1
       ·exact h
      have hz1:(1:Int)≤(p.size:Int):=by omega
      have hz2:1≤p.size:=hz
      have HS:=jj (headS_snoc (pl.take i) p hz)
      have hex:(p.extract 0 1).size=1:=by rw [ByteArray.size_extract];omega
      obtain ⟨hd,hhd⟩:∃ x,x=headS (pl.take i):=⟨_,rfl⟩
      obtain ⟨ex,hexx⟩:∃ x,x=p.extract 0 1:=⟨_,rfl⟩
      rw [←hhd] at hhl HS ⊢
      rw [←hexx] at hex HS
      have HHD:=jj hhd
      have HEX:=jj hexx
      have hsum:hd.size+ex.size≤9223372036854775807:=by omega
      have hsum2:¬9223372036854775807<hd.size+ex.size:=by omega
      have HGD2:Hid (∀ j (hj:j<pl.length),j<i+1→¬pl[j].size=0):=fun j hj hji=>by
       rcases Nat.lt_or_ge j i with h | h
       ·exact HGD.out j hj h
       ·have e:j=i:=by omega
        subst e
        rw [←HPE.out]
        omega
      clear hex hhl htl hhd
      rw [hexx] at hsum hsum2
      clear hexx
      go_wp2
      go_roundw
      case rel=>exact ⟨i+1,by omega,by go_num,by rw [HTK.out,HS.out,HEX.out],HGD2,hb⟩
      case measure=>(simp [intOf] <;> omega)
    ·have e:pl.take i=pl:=List.take_of_length_le (by omega)
     rw [e]
     have HNE:Hid (∀ x∈pl,¬x.size=0):=fun x hx=>by
      obtain ⟨j,hj,rfl⟩:=List.getElem_of_mem hx
      exact HGD.out j hj (by omega)
     have HA6:=jj (ArrStr.below HA3.out hb HU3.out)
     have HU6:=jj (HU3.out.mono hb.size)
     have hw3:=hb.size
     have hz3:=hB3.size
     clear e HGD hb hB3 HA3 HU3
     go_wp2
     obtain ⟨w6,hw6⟩:∃ X,X=wr:=⟨_,rfl⟩
     rw [←hw6] at HA6 HU6 hB ⊢
     clear hw6
     have hB6:=jj hB
     clear hB
     go_loopw [8,40] (fun ov iv wr=>∃ i:Nat,∃ Fo:List Nat,i≤pl.length∧iv=.int .i64 i∧Hid (Own wr w6.heap.size 64 2 DtR (rdTo (headS pl) pl i) ov Fo)∧Hid (Free wr Fo)∧Hid (∀ b∈Fo,w6.heap.size≤b)∧Hid (Below w6 w6 wr)∧Below w w wr∧w6.heap.size≤wr.heap.size∧Hid (∀ j (hj:j<pl.length),j<i→¬4<(ctD pl[j]).length)) (fun _ iv _=>pl.length-(intOf iv).toNat)
     case atStart=>exact ⟨0,[],Nat.zero_le _,rfl,(show Own _ _ _ _ _ (rdTo (headS pl) pl 0) _ _ from Own.nil _ _ _ _ _),Free.nil _,(fun b hb=>by cases hb),zy2 _ _,hB6.out,zz8 _,(fun j hj h=>by omega)⟩
     case round =>
      obtain ⟨i,Fo,hi,rfl,HO,HFr,HFh,HC,hB,hw6r,HGD⟩:=hrel
      obtain ⟨oA,ocap,hov,-,-⟩:=HO.out.form
      subst hov
      by_cases hil:i<pl.length
      ·have g1:(0:Int)≤(i:Int):=by omega
       have g2:(i:Int)<(pl.length:Int):=by omega
       have HAr:Hid (Arr wr (StrR wr) pl (.slice A3 pl.length cap3) F3):=ArrStr.below HA6.out HC.out HU6.out
       obtain ⟨bL,offL,rfl⟩:=HAr.out.ptr (by omega)
       obtain ⟨hbL,cL⟩:=ArrStr.at HAr.out (HU6.out.mono hw6r) (zy2 _ _) i hil
       have hps:pl[i].size≤2000000:=HPM.out _ (List.getElem_mem hil)
       obtain ⟨p,hp⟩:∃ p,p=pl[i]:=⟨_,rfl⟩
       rw [←hp] at cL hps
       have HPE:=jj hp
       clear hp
       have hnl:=cut1_len 61 (tl p)
       have htl:=zA6 p
       have hnz:(nmD p).size≤2000000:=by unfold nmD;rw [zAR];omega
       have hrz:(rsD p).size≤2000000:=by unfold rsD;rw [zAR];omega
       clear hnl htl
       go_wp2_with fail
       refine (cut_call p 61 wr hps (HV.out.below hB)).mono ?_
       rintro e w7 ⟨rfl,hb7⟩
       rw [show bs (cut1 61 (tl p)).1=nmD p from rfl,show bs (cut1 61 (tl p)).2.1=rsD p from rfl]
       have hB7:=hB.trans (hb7.mono hB.size)
       have HO7:=jj (HO.out.below (fun x cs G hk h=>DtR_mono' _ _ x cs G hk h) hb7)
       have HFr7:=jj (HFr.out.kept (.of_below hb7 HO.out.under))
       have HC7:=jj (HC.out.trans (hb7.mono HC.out.size))
       have hw67:w6.heap.size≤w7.heap.size:=Nat.le_trans hw6r hb7.size
       have hb8:Below w7 w7 (w7.alloc (.cells #[.string (nmD p),.slice none 0 0] 64)):=(zy2 _ _).alloc (zz8 _) _
       have HB8:Hid (∀ b∈rowOf (.slice oA (rdTo (headS pl) pl i).length ocap) ++ Fo,b<w7.heap.size):=fun b hb=>by
        rcases List.mem_append.1 hb with h | h
        ·exact (HO7.out.row b h).2
        ·exact HO7.out.under b h
       have HO8:=jj (HO7.out.below (fun x cs G hk h=>DtR_mono' _ _ x cs G hk h) hb8)
       have HFr8:=jj (HFr7.out.kept (.of_below hb8 HO7.out.under))
       have HC8:=jj (HC7.out.trans (hb8.mono HC7.out.size))
       have KD8:Hid (Blk (w7.alloc (.cells #[.string (nmD p),.slice none 0 0] 64)) w7.heap.size 64 #[.string (nmD p),.slice none 0 0]):=Blk.new _ _ _
       have hB8:=hB7.trans (hb8.mono hB7.size)
       clear HO HFr HC HO7 HFr7 HC7 hb7 hb8 cL hbL HAr
       go_wp2_with fail
       obtain ⟨w8,hw8⟩:∃ X,X=(w7.alloc (.cells #[.string (nmD p),.slice none 0 0] 64)):=⟨_,rfl⟩
       rw [←hw8] at HO8 HFr8 HC8 KD8 hB8 ⊢
       clear hw8
       obtain ⟨D,hD⟩:∃ X,X=w7.heap.size:=⟨_,rfl⟩
       rw [←hD] at KD8 HB8 hw67 ⊢
       have hw6D:w6.heap.size≤D:=hw67
       have hHD:w.heap.size≤D:=by have:=hB7.size;omega
       clear hD hB7 hw67
       refine (split_call (rsD p) 124 w8 hrz (HV.out.below hB8)).mono ?_
       rintro e w9 ⟨v9,F9,rfl,hb9,ha9,hfs9⟩
       obtain ⟨cl,hcl⟩:∃ l,l=ctD p:=⟨_,rfl⟩
       rw [show (cutL 124 (tl (rsD p))).map bs=ctD p from rfl,←hcl] at ha9
       have HCM:Hid (∀ x∈cl,x.size≤2000000):=fun x hx=>by rw [hcl] at hx;exact Nat.le_trans (zAM 124 (rsD p) x hx) hrz
       have HCL:=jj hcl
       clear hcl
       obtain ⟨A9,cap9,rfl,-,-⟩:=ha9.form
       have hB9:=hB8.trans (hb9.mono hB8.size)
       have hD9:D<w9.heap.size:=zz9 KD8.out.lt hb9.size
       have hd8:=KD8.out.lt
       have HA9:=jj ha9
       have HU9:=jj hfs9.under
       have HN9:Hid (∀ b∈F9,D<b):=fun b hb=>by have:=(hfs9 b hb).1;omega
       have HO9:=jj (HO8.out.below (fun x cs G hk h=>DtR_mono' _ _ x cs G hk h) hb9)
       have HFr9:=jj (HFr8.out.kept (.of_below hb9 HO8.out.under))
       have HC9:=jj (HC8.out.trans (hb9.mono HC8.out.size))
       have KD9:=jj (KD8.out.same (hb9.block _ KD8.out.lt))
       clear ha9 hfs9 hb9 HO8 HFr8 HC8 KD8 hB8 hB hd8
       by_cases hcn:4<cl.length
       ·have t4:decide ((cl.length:Int)>4)=true:=decide_eq_true (by omega)
        have t4':decide ((4:Int)<(cl.length:Int))=true:=decide_eq_true (by omega)
        have HNO:Hid (parseB text=none):=parseB_none (by
         have h1:i<(pcs text).length:=by rw [←HPL.out];exact hil
         refine parseI_ctors HT0.out h1 ?_
         have e:(pcs text)[i]=p:=by rw [HPE.out];simp only [HPL.out]
         rw [e,←HCL.out]
         exact hcn)
        clear hcn
        have hfin:GivesWorld w (parseB text) (.returned (.tuple #[.slice none 0 0,.bool false])) w9:=by
         rw [HNO.out]
         exact ⟨_,[],rfl,hB9,⟨_,_,rfl,zz8 _,by simp [maxLen],.inl ⟨rfl,rfl⟩⟩,Free.nil _,Fresh.nil _ _⟩
        have HFin:=jj hfin
        clear hfin
        go_wp2
        go_ret2
        exact HFin.out
       ·have t4:decide ((cl.length:Int)>4)=false:=decide_eq_false (by omega)
        have t4':decide ((4:Int)<(cl.length:Int))=false:=decide_eq_false (by omega)
        go_wp2
        go_loopw [59] (fun kv' wr=>∃ k:Nat,∃ kv:Value,∃ Fk:List Nat,k≤cl.length∧kv'=.int .i64 k∧Hid (Blk wr D 64 #[.string (nmD p),kv])∧Hid (Own wr w9.heap.size 67 3 KtR (rkTo (headS pl) cl k) kv Fk)∧Hid (Free wr Fk)∧Hid (∀ b∈Fk,w9.heap.size≤b)∧Hid (Chg [D] w9 wr)∧Below w w wr∧w9.heap.size≤wr.heap.size) (fun kv' _=>cl.length-(intOf kv').toNat)
        case atStart=>exact ⟨0,_,[],Nat.zero_le _,rfl,KD9,(show Own _ _ _ _ _ (rkTo (headS pl) cl 0) _ _ from Own.nil _ _ _ _ _),Free.nil _,(fun b hb=>by cases hb),Chg.refl _ _,hB9,zz8 _⟩
        case round =>
         clear hB9 KD9
         obtain ⟨k,kv,Fk,hkl,rfl,KD,HO,HFk,HFkh,HCk,hB,hwz⟩:=hrel
         obtain ⟨kA,kcap,hkv,-,-⟩:=HO.out.form
         subst hkv
         by_cases hlt:k<cl.length
         ·have g5:(0:Int)≤(k:Int):=by omega
          have g6:(k:Int)<(cl.length:Int):=by omega
          obtain ⟨b5,off5,rfl⟩:=HA9.out.ptr (by omega)
          have HAr:Hid (Arr wr (StrR wr) cl (.slice (some ⟨b5,off5,none⟩) cl.length cap9) F9):=ArrStr.mono HA9.out (HCk.out.kept HU9.out (fun b hb=>by have:=HN9.out b hb;simp;omega))
          obtain ⟨hb5l,c0⟩:=ArrStr.at HAr.out (HU9.out.mono hwz) (zy2 _ _) k hlt
          have hm5:cl[k].size≤2000000:=HCM.out _ (List.getElem_mem hlt)
          have HF2:=jj (rkTo_succ (headS pl) cl k hlt)
          have hkl4:(rkTo (headS pl) cl k).length≤4:=Nat.le_trans (rkTo_len _ cl k) (by omega)
          have HCALL:=jj (impl_readCtor (headS pl) cl[k] hm5 wr.drew (HV.out.below hB.drew))
          go_wp2_with fail
          generalize hpk:rdK (headS pl) cl[k]=c at HCALL HF2
          clear hpk c0 hb5l HAr hm5 g5 g6
          have hmx:(rkTo (headS pl) cl k).length+1≤maxLen:=by unfold maxLen;omega
          have hby:((rkTo (headS pl) cl k).length+1)*48≤140737488355328:=by omega
          have zT:wr.drew.cell? ⟨D,1,none⟩=some (.slice kA (rkTo (headS pl) cl k).length kcap):=(KD.out.cell 1).trans (by simp)
          have zfT:wr.drew.frozen? ⟨D,1,none⟩=false:=KD.out.frozen 1
          have hkT:D<wr.drew.heap.size:=KD.out.lt
          have r0:wr.drew.cell? ⟨D,0,none⟩=some (.string (nmD p)):=(KD.out.cell 0).trans (by simp)
          refine zA9 (S:=fun w'=>w'.cell? ⟨D,0,none⟩=some (.string (nmD p))) (T:=fun w'=>w'.cell? ⟨D,1,none⟩=some (.slice kA (rkTo (headS pl) cl k).length kcap)) (d:=6) (by kernel_rfl) ?_
          have hS1:wr.drew.cell? ⟨D,0,none⟩=some (.string (nmD p)):=r0
          have hT1:wr.drew.cell? ⟨D,1,none⟩=some (.slice kA (rkTo (headS pl) cl k).length kcap):=zT
          refine wV 0 rfl hS1 hT1 ?_
          (try simp only [Act.put,zz4,zz5,zz6])
          refine zAG (i:=1) (v:=?_) rfl (by decide) rfl (by kernel_rfl) (by kernel_rfl) (by kernel_rfl) (by kernel_rfl) (fun _ _ _ h=>h) (Or.inl ⟨by rfl,?hy1⟩) (by rfl) hS1 hT1 ?_
          case hy1=>(intro W hSw;(try dsimp only at hSw);(obtain ⟨s0,tT⟩:=hSw);go_simp;try with_reducible rfl)
          (try simp only [Act.put,zz4,zz5,zz6])
          refine wV 2 rfl hS1 hT1 ?_
          (try simp only [Act.put,zz4,zz5,zz6])
          refine wV 3 rfl hS1 hT1 ?_
          (try simp only [Act.put,zz4,zz5,zz6])
          refine w1 4 rfl fun K hK=>?_
          go_simp
          go_at_call 41
          with_reducible refine HCALL.out.mono ?_
          rintro e wA ⟨cs,G,rfl,hbA,hkA1,hfrA,hfsA⟩
          obtain ⟨cA,ccap,rfl⟩:=KtR_form hkA1
          have hBu:=zAJ hbA
          have HOA:Hid (Own wA w9.heap.size 67 3 KtR (rkTo (headS pl) cl k) (.slice kA (rkTo (headS pl) cl k).length kcap) Fk):=HO.out.below (fun x cs G hk h=>KtR_mono' _ _ x cs G hk h) hBu
          have HKA:=jj hkA1
          have HfrA:=jj hfrA
          have HfsA:Hid (∀ b∈G,wr.heap.size≤b∧b<wA.heap.size):=hfsA
          clear hkA1 hfrA hfsA
          have hSA:wA.cell? ⟨D,0,none⟩=some (.string (nmD p)):=(hbA.cell (p:=⟨D,0,none⟩) hkT).trans r0
          have zA:wA.cell? ⟨D,1,none⟩=some (.slice kA (rkTo (headS pl) cl k).length kcap):=(hbA.cell (p:=⟨D,1,none⟩) hkT).trans zT
          have zfA:wA.frozen? ⟨D,1,none⟩=false:=(hbA.frozen hkT).trans zfT
          have hkA:D<wA.heap.size:=zz9 hkT hbA.size
          have hkA0:D<wA.heap.size:=zz9 hkT hbA.size
          have hSB:(wA.alloc (.cells #[.string c.name,.slice cA c.args.length ccap,c.idx] 67)).cell? ⟨D,0,none⟩=some (.string (nmD p)):=(World.cell?_alloc_lt _ _ _ hkA0).trans hSA
          dsimp only
          refine hK.out _ _ hSA (fun _=>zA) ?_
          clear hK K
          (try simp only [Act.put,zz4,zz5,zz6])
          refine w1 5 rfl fun K hK=>?_
          go_simp
          refine hK.out _ _ hSB (fun _=>(World.cell?_alloc_lt _ _ _ hkA).trans zA) ?_
          clear hK K
          (try simp only [Act.put,zz4,zz5,zz6])
          refine w1 6 rfl fun K hK=>?_
          refine zAF (P:=Tryz.prog) rfl _ _ 62 rfl i0 _ 48 Tryz.underlying62 HI.out HZ0.out HZ1.out HZ2.out rfl (by decide) KtR_len' KtR_mono' (by rfl) HOA.out c 67 [.string c.name,.slice cA c.args.length ccap,c.idx] G _ (by rfl) rfl (by simp [Value.oneCell']) HKA.out (fun b hb=>(HfsA.out b hb).2) (fun g hg hG=>Nat.lt_irrefl _ (zz9 (HO.out.row g hg).2 (HfsA.out g hG).1)) hmx hby (Nat.le_trans hwz hbA.size) ?_
          intro g cp w7 hown7 hgr7 hat7
          have hrow7:=HOA.out.row
          have n7:∀ x,(x<w9.heap.size∨wr.heap.size≤x)→some x≠(Value.ownBlock (.slice kA (rkTo (headS pl) cl k).length kcap)):=fun x hx e=>by
           have h1:=(hrow7 x (zA1.2 e.symm)).1
           have h2:=(HO.out.row x (zA1.2 e.symm)).2
           omega
          have l7:wA.heap.size≤(wA.alloc (.cells #[.string c.name,.slice cA c.args.length ccap,c.idx] 67)).heap.size:=by rw [World.size_alloc];exact Nat.le_succ _
          have s7:w7.cell? ⟨D,0,none⟩=some (.string (nmD p)):=(World.grownBy.cell_far hgr7 ⟨D,0,none⟩ (zz9 hkA0 l7) (n7 (D) (by omega))).trans hSB
          have z71:w7.cell? ⟨D,1,none⟩=some (.slice kA (rkTo (headS pl) cl k).length kcap):=(World.grownBy.cell_far hgr7 ⟨D,1,none⟩ (zz9 hkA l7) (n7 (D) (by omega))).trans ((World.cell?_alloc_lt _ _ _ hkA).trans zA)
          have zf71:w7.frozen? ⟨D,1,none⟩=false:=(World.grownBy.frozen_far hgr7 ⟨D,1,none⟩ (zz9 hkA l7) (n7 (D) (by omega))).trans (Eq.trans (World.frozen?_of_block (Below.heap_alloc _ _ _ hkA)) zfA)
          refine hK.out _ _ s7 (fun h=>by cases h) ?_
          clear hK K
          (try simp only [Act.put,zz4,zz5,zz6])
          refine wU (i:=7) (v:=?_) rfl (Or.inl ⟨by rfl,?hy7⟩) s7 (fun h=>by cases h) ?_
          case hy7=>(intro W hSw;(try dsimp only at hSw);go_simp;try with_reducible rfl)
          (try simp only [Act.put,zz4,zz5,zz6])
          refine w1 8 rfl fun K hK=>?_
          go_simp
          refine hK.out _ _ ((World.cell?_setCell_other _ _ _ _ (by simp)).trans s7) (fun h=>by cases h) ?_
          clear hK K
          (try simp only [Act.put,zz4,zz5,zz6])
          refine wE (by kernel_rfl) ?_
          obtain ⟨r1,r2,r3,r4,r5,r6,r7⟩:=grow_round2 KtR_mono' hD9 KD.out HO.out HFk.out HFkh.out HCk.out hB hHD (zz8 _) hBu HfrA.out HfsA.out hown7 hgr7
          have R1:=jj r1
          have R2:=jj r2
          have R3:=jj r3
          have R4:=jj r4
          have R5:=jj r5
          have R6:=jj r6
          clear r1 r2 r3 r4 r5 r6 hown7 hgr7 hat7 hrow7 n7 l7 hS1 hT1 hSA hSB s7 zA zfA z71 zf71 zT zfT hkT r0 HOA HKA HfrA HfsA hBu hbA hkA hkA0 HCALL
          go_wp2
          go_roundw
          case rel=>exact ⟨k+1,_,Fk ++ G,hlt,by go_num,R1,by rw [HF2.out];exact R2.out,R3,R4,R5,R6.out,r7⟩
          case measure=>(simp [intOf] <;> omega)
         ·have hpd:Hid (rdD (headS pl) p=⟨nmD p,rkTo (headS pl) cl k⟩):=rdD_at HCL.out (by omega)
          have HF2:=jj (rdTo_succ (headS pl) pl i hil)
          have hdl:(rdTo (headS pl) pl i).length≤4:=Nat.le_trans (rdTo_len _ pl i) (by omega)
          have hOr:Hid (Own wr w6.heap.size 64 2 DtR (rdTo (headS pl) pl i) (.slice oA (rdTo (headS pl) pl i).length ocap) Fo):=Own.mono (w:=w9) (fun x cs G hk h=>DtR_mono' _ _ x cs G hk h) HO9.out (HCk.out.kept (fun b hb=>by have:=HB8.out b hb;omega) (fun b hb=>by have:=HB8.out b hb;simp;omega)) HCk.out.size
          have hFrr:Hid (Free wr Fo):=HFr9.out.kept (HCk.out.kept (fun b hb=>by have:=HB8.out b (List.mem_append.2 (.inr hb));omega) (fun b hb=>by have:=HB8.out b (List.mem_append.2 (.inr hb));simp;omega))
          have hCr:Hid (Below w6 w6 wr):=HC9.out.trans (HCk.out.below (fun b hb=>by rw [List.mem_singleton.1 hb];exact hw6D) HC9.out.size)
          have harr:=HO.out.arr
          have hfree:=HO.out.free HFk.out
          have hrk:=HO.out.row
          have hff:∀ b∈(if rkTo (headS pl) cl k=[] then [] else rowOf (.slice kA (rkTo (headS pl) cl k).length kcap) ++ Fk),D+1≤b∧b<wr.heap.size:=fun b hb=>by
           split at hb
           ·cases hb
           ·rcases List.mem_append.1 hb with h | h
            ·have:=hrk b h;exact ⟨by omega,this.2⟩
            ·exact ⟨by have:=HFkh.out b h;omega,HO.out.under b h⟩
          generalize (if rkTo (headS pl) cl k=[] then [] else rowOf (.slice kA (rkTo (headS pl) cl k).length kcap) ++ Fk)=FF at harr hfree hff
          have HFF:=jj hff
          have HFREE:=jj hfree
          have HDX:Hid (DtR wr ⟨nmD p,rkTo (headS pl) cl k⟩ [.string (nmD p),.slice kA (rkTo (headS pl) cl k).length kcap] FF):=⟨_,rfl,harr,(show (nmD p).size≤9223372036854775807 by omega)⟩
          clear harr hfree hrk hff HO HFk HFkh HO9 HFr9 HC9 HA9 HU9
          have hbs:w.heap.size≤wr.heap.size:=hB.size
          have z0:wr.cell? ⟨D,0,none⟩=some (.string (nmD p)):=(KD.out.cell 0).trans (by simp)
          have z1:wr.cell? ⟨D,1,none⟩=some (.slice kA (rkTo (headS pl) cl k).length kcap):=(KD.out.cell 1).trans (by simp)
          have zlt:=KD.out.lt
          go_wp2_with (at_builtin;refine Halt.mk ?_)
          refine Halt.of (zA5 (P:=Tryz.prog) rfl _ _ 23 rfl m0 _ 40 Tryz.underlying23 HM.out HM0.out HM1.out HM2.out rfl (by decide) DtR_len' DtR_mono' (by rfl) hOr.out ⟨nmD p,rkTo (headS pl) cl k⟩ 64 [.string (nmD p),.slice kA (rkTo (headS pl) cl k).length kcap] FF _ (by rfl) (by simp) (by simp [Value.oneCell']) HDX.out (fun b hb=>(HFF.out b hb).2) (fun g hg hG=>by have h1:=HB8.out g (List.mem_append.2 (.inl hg));have h2:=(HFF.out g hG).1;omega) (by unfold maxLen;omega) (by omega) hCr.out.size ?_)
          intro g cp w77 hown7 hgr7 hat7
          obtain ⟨r1,r2,r4,r6⟩:=push_round2 hOr.out hFrr.out HFREE.out HB8.out HFF.out hCr.out HFh.out hw6D hgr7
          have HFr7:=jj r1
          have HFh7:=jj r2
          have HC7:=jj r4
          have HB7:Hid (Below w w w77):=hB6.out.trans (r4.mono hB6.out.size)
          clear r1 r2 r4 z0 z1 zlt
          have HO7:=jj hown7
          have HEQ:Hid (rdTo (headS pl) pl (i+1)=rdTo (headS pl) pl i ++ [⟨nmD p,rkTo (headS pl) cl k⟩]):=by unfold Hid;rw [HF2.out,←HPE.out,hpd.out]
          clear hown7 hgr7 hat7
          have HGD2:Hid (∀ j (hj:j<pl.length),j<i+1→¬4<(ctD pl[j]).length):=fun j hj hji=>by
           rcases Nat.lt_or_ge j i with h | h
           ·exact HGD.out j hj h
           ·have e:j=i:=by omega
            subst e
            rw [←HPE.out,←HCL.out]
            omega
          go_wp2
          go_roundw
          case rel=>exact ⟨i+1,Fo ++ FF,by omega,by go_num,by rw [HEQ.out];exact HO7.out,HFr7,HFh7,HC7,HB7.out,r6,HGD2⟩
          case measure=>(simp [intOf] <;> omega)
      ·have HPI:Hid (parseI atoiI (tl text)=some (rdTo (headS pl) pl i)):=by
        unfold Hid
        have h:=HPL.out
        rw [h]
        refine parseI_some HT0.out (by rw [←h];omega) (by rw [←h];exact HNE.out) (fun x hx=>?_) (by rw [←h];omega)
        rw [←h] at hx
        obtain ⟨j,hj,rfl⟩:=List.getElem_of_mem hx
        exact HGD.out j hj (by omega)
       have HFh2:Hid (∀ b∈Fo,w.heap.size≤b):=fun b hb=>by have:=HFh.out b hb;have:=hB6.out.size;omega
       clear HFh HGD
       have HFh:=HFh2
       clear HFh2
       have harr:=HO.out.arr
       have hfree:=HO.out.free HFr.out
       have hfresh:=Own.fresh (w0:=w) HO.out hB6.out.size HFh.out
       generalize (if rdTo (headS pl) pl i=[] then [] else rowOf (.slice oA (rdTo (headS pl) pl i).length ocap) ++ Fo)=FF at harr hfree hfresh
       have HARR:=jj harr
       have HFREE:=jj hfree
       have HFRESH:=jj hfresh
       clear harr hfree hfresh HO HFr HFh
       obtain ⟨xx,hxx⟩:∃ x,x=rdTo (headS pl) pl i:=⟨_,rfl⟩
       rw [←hxx] at HARR HPI ⊢
       clear hxx
       go_wp2_with fail
       refine (impl_WorldValid xx wr _ FF HARR.out HFRESH.out.under).mono ?_
       rintro e w8 ⟨rfl,hb8⟩
       have hB8:=hB.trans (hb8.mono hB.size)
       cases e1:worldOk xx with
       |false =>
        have HNO:=jj (parseB_no2 HPI.out e1)
        clear e1
        have hfin:GivesWorld w (parseB text) (.returned (.tuple #[.slice none 0 0,.bool false])) w8:=by
         rw [HNO.out]
         exact ⟨_,[],rfl,hB8,⟨_,_,rfl,zz8 _,by simp [maxLen],.inl ⟨rfl,rfl⟩⟩,Free.nil _,Fresh.nil _ _⟩
        have HFin:=jj hfin
        clear hfin
        go_wp2
        go_ret2
        exact HFin.out
       |true =>
        have HW:=jj (worldOK e1)
        have HE1:=jj e1
        clear e1
        have HA8:=jj (ArrDt.below HARR.out hb8 HFRESH.out.under)
        have hF8:=jj (HFRESH.out.under.mono hb8.size)
        go_wp2_with fail
        refine (impl_worldText xx HW.out w8 _ FF HA8.out hF8.out).mono ?_
        rintro e w9 ⟨rfl,hb9⟩
        have hB9:=hB8.trans (hb9.mono hB8.size)
        have hb89:=hb8.trans (hb9.mono hb8.size)
        obtain ⟨tt,htt⟩:∃ t,t=bs (textT xx):=⟨_,rfl⟩
        rw [←htt]
        have HTT:=jj htt
        clear htt
        cases e2:(tt.toList==text.toList) with
        |true =>
         have HYES:Hid (parseB text=some xx):=parseB_yes2 HE1.out (by have h:=HTT.out;rw [beq_iff_eq,zA2,zA2,h,zAC] at e2;exact e2)
         have hfin:GivesWorld w (parseB text) (.returned (.tuple #[.slice oA xx.length ocap,.bool true])) w9:=by
          rw [HYES.out]
          exact ⟨_,FF,rfl,hB9,ArrDt.below HARR.out hb89 HFRESH.out.under,HFREE.out.kept (.of_below hb89 HFRESH.out.under),fun b hb=>⟨(HFRESH.out b hb).1,zz9 (HFRESH.out b hb).2 hb89.size⟩⟩
         have HFin:=jj hfin
         clear hfin
         go_wp2
         go_ret2
         exact HFin.out
        |false =>
         have HNO:Hid (parseB text=none):=parseB_text2 HPI.out (fun h=>by have h':=HTT.out;rw [beq_eq_false_iff_ne,zA2,zA2,h',zAC] at e2;exact e2 h)
         have hfin:GivesWorld w (parseB text) (.returned (.tuple #[.slice none 0 0,.bool false])) w9:=by
          rw [HNO.out]
          exact ⟨_,[],rfl,hB9,⟨_,_,rfl,zz8 _,by simp [maxLen],.inl ⟨rfl,rfl⟩⟩,Free.nil _,Fresh.nil _ _⟩
         have HFin:=jj hfin
         clear hfin
         go_wp2
         go_ret2
         exact HFin.out
end Go.Proofs.YtjjclcmmfeegfaaGreatDoor
