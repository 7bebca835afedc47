/-
  Lemmas, and contracts of functions. Conditions: none.
-/
import Derived.Test.YtjjclcmmfeegfaaGreatDoorJAF
import Derived.Test.YtjjclcmmfeegfaaGreatDoorJAG
import Derived.Test.YtjjclcmmfeegfaaGreatDoorJAC
import Derived.Test.YtjjclcmmfeegfaaGreatDoorJAD
import Derived.Deep.RegionWith
import Derived.Test.YtjjclcmmfeegfaaGreatDoorJAB
import Derived.Deep.RegionHeld3
import Derived.Deep.QuietTactic
import Derived.BigQuiet
import Derived.IntWalk

set_option linter.unusedVariables false
set_option linter.unusedSimpArgs false
set_option maxRecDepth 100000
set_option maxHeartbeats 1600000

namespace Go.Proofs.YtjjclcmmfeegfaaGreatDoor
open Go.RowKit
set_option maxHeartbeats 6400000 in
theorem spec_l1Mutate (p g:Nat) (w:World) (h:Rd w g p) (hp:p≤900000) (xs:List Dt) (v:Value) (F:List Nat) (hx:Arr w (DtR w) xs v F) (hf:Under w F) (h0:0<xs.length) (hl:xs.length≤99) (m:Nat) (hm:m≤90) (hs:SmallW m xs) :
  Calls Tryz.prog 77 #[.pointer (some ⟨g,0,none⟩),v] w (Mutd g p m xs w):=by
 have hgl:=h.lt
 have HR0:=jj h
 have HCALL:=jj (spec_l1Copy xs w v F hx hf (by omega) (hs.mono (by omega)))
 have HSM:=jj hs
 have HMM:=jj hm
 clear h hx hf hs hm
 obtain ⟨j0,hj,hj0,hj1,hj2⟩:=info_parts info_tyE
 have HJ:=jj hj
 have HJ0:=jj hj0
 have HJ1:=jj hj1
 have HJ2:=jj hj2
 clear hj hj0 hj1 hj2
 obtain ⟨m0,hm,hm0,hm1,hm2⟩:=info_parts info_DtE
 have HM:=jj hm
 have HM0:=jj hm0
 have HM1:=jj hm1
 have HM2:=jj hm2
 clear hm hm0 hm1 hm2
 go_enter Tryz.func77,Tryz.ntmps77
 go_wp2_with fail
 refine HCALL.out.mono ?_
 rintro e w1 ⟨v1,F1,rfl,hb1,ho1,hfr1,hfs1⟩
 have hCpy:Cpy g p xs v1 F1 w w1:=⟨HR0.out.below hb1,Chg.of_below hb1,ho1,hfr1,fun b hb=>by have:=hfs1 b hb;omega,hgl⟩
 obtain ⟨A1,cap1,rfl,hc1,hc2⟩:=ho1.form
 obtain ⟨FF,ha1,-,-⟩:=hCpy.arr
 obtain ⟨b,off,rfl⟩:=ha1.ptr h0
 have HC1:=jj hCpy
 clear hCpy ho1 ha1 hb1 hfr1 hfs1 HCALL HR0
 go_wp2_with fail
 refine (zBB xs.length p g w1 HC1.out.rd (by omega) h0 (by omega)).mono ?_
 rintro e w2 ⟨d,rfl,hd,hR2,hC2⟩
 have HC2:=jj (HC1.out.step hR2 hC2)
 clear hR2 hC2 HC1
 have g1:(0:Int)≤(d:Int):=by omega
 have g2:(d:Int)<(xs.length:Int):=by omega
 obtain ⟨kA,kcap,F2,n0,k0,z0,hb,hbl,hk1,hk2,hdx,hF2,hname,hctors⟩:=HC2.out.data (p:=p) h0 HSM.out hd
 clear n0 z0 hb hbl hdx hF2 hname hctors
 cases q0:((xs[d].ctors.length:Int)==0) with
 |true =>
  have HFin:=jj (HC2.out.done (p:=p) h0 HSM.out (by omega))
  clear HC2
  go_wp2
  go_ret
  exact HFin.out
 |false =>
  have hk0:0<xs[d].ctors.length:=by rw [beq_eq_false_iff_ne] at q0;omega
  have e0:(0:Int)<(xs[d].ctors.length:Int):=by omega
  go_wp2_with fail
  refine (zBB 30 (p+1) g w2 HC2.out.rd (by omega) (by omega) (by omega)).mono ?_
  rintro e w3 ⟨r,rfl,hr,hR3,hC3⟩
  have HC3:=jj (HC2.out.step hR3 hC3)
  clear hR3 hC3 HC2 k0 hk1 hk2
  cases c0q:((r:Int)==0) with
  |true =>
   go_wp2_with fail
   refine (of_lit [⟨#[73]⟩,⟨#[]⟩,⟨#[97]⟩,⟨#[76,76]⟩,⟨#[90]⟩] (by decide) (by decide) (p+1+1) g w3 HC3.out.rd (by omega)).mono ?_
   rintro e w4 ⟨s,hs,rfl,hR4,hC4⟩
   have hsz:s.size≤1000:=by
    have hall:∀ x∈([⟨#[73]⟩,⟨#[]⟩,⟨#[97]⟩,⟨#[76,76]⟩,⟨#[90]⟩]:List ByteArray),x.size≤1000:=by decide
    exact hall s hs
   have HC4:=jj (HC3.out.step hR4 hC4)
   clear hR4 hC4 HC3 hs
   obtain ⟨kA,kcap,F2,n0,k0,z0,hb,hbl,hk1,hk2,hdx,hF2,hname,hctors⟩:=HC4.out.data (p:=p) h0 HSM.out hd
   have f0:=z0 (off+d*2)
   have HFin:=jj (hname s hsz (by omega))
   clear k0 z0 hb hk1 hk2 hdx hF2 hname hctors HC4
   go_wp2
   go_ret
   exact HFin.out
  |false =>
   cases c1q:((r:Int)==1) with
   |true =>
    obtain ⟨kA,kcap,F2,n0,k0,z0,hb,hbl,hk1,hk2,hdx,hF2,hname,hctors⟩:=HC3.out.data (p:=p) h0 HSM.out hd
    have f0:(w3.alloc (.cells #[] 67)).frozen? ⟨b,off+d*2+1,none⟩=false:=(World.frozen?_of_block (a:=⟨b,off+d*2+1,none⟩) (Below.heap_alloc _ _ _ hbl)).trans (z0 _)
    have y0:(w3.alloc (.cells #[] 67)).cell? ⟨b,off+d*2+1,none⟩=some (.slice kA xs[d].ctors.length kcap):=(World.cell?_alloc_lt _ _ _ hbl).trans k0
    have HFin:=jj (hctors 67 (by omega))
    clear n0 k0 z0 hb hk1 hk2 hdx hF2 hname hctors HC3
    go_wp2
    go_ret
    exact HFin.out
   |false =>
    cases c2q:((r:Int)==2) with
    |true =>
     have hCd:=HC3.out.drew
     clear HC3
     obtain ⟨b2,off2,cap2,aA,acap,kc,hbb,hbg,hb2g,hbl,hb2l,hz2,c0,c1,c2,hown,hrow,hal,H2,H4,H3⟩:=hCd.ctor (p:=p) h0 HSM.out hd hk0
     have HH:=jj H2
     have hR3:=jj hCd.rd
     have f3:=hz2 (off2)
     clear c1 c2 hown hrow hal H2 H4 H3 hCd hz2
     go_wp2_with fail
     refine zA4 (S:=fun w'=>w'.cell? ⟨b,off+d*2+1,none⟩=some (.slice (some ⟨b2,off2,none⟩) xs[d].ctors.length cap2)) (T:=fun _=>True) (d:=10) (by kernel_rfl) ?_
     generalize w3.drew=wd at *
     have hS1:wd.cell? ⟨b,off+d*2+1,none⟩=some (.slice (some ⟨b2,off2,none⟩) xs[d].ctors.length cap2):=kc
     have hT1:True:=trivial
     refine wV 0 rfl hS1 hT1 ?_
     (try simp only [Act.put,zz4,zz5,zz6])
     refine wV 1 rfl hS1 hT1 ?_
     (try simp only [Act.put,zz4,zz5,zz6])
     refine wV 2 rfl hS1 hT1 ?_
     (try simp only [Act.put,zz4,zz5,zz6])
     refine wV 3 rfl hS1 hT1 ?_
     (try simp only [Act.put,zz4,zz5,zz6])
     refine wV 4 rfl hS1 hT1 ?_
     (try simp only [Act.put,zz4,zz5,zz6])
     refine wV 5 rfl hS1 hT1 ?_
     (try simp only [Act.put,zz4,zz5,zz6])
     refine Go.Proofs.YtjjclcmmfeegfaaGreatDoor.w1 6 rfl fun K hK=>?_
     go_simp
     refine hK.out _ _ ((World.cell?_alloc_lt _ _ _ hbl).trans kc) (fun _=>trivial) ?_
     clear hK K
     (try simp only [Act.put,zz4,zz5,zz6])
     refine Go.Proofs.YtjjclcmmfeegfaaGreatDoor.w1 7 rfl fun K hK=>?_
     go_simp
     go_at_call 110
     refine (of_lit [⟨#[]⟩,⟨#[110,105,108]⟩,⟨#[84,111,111,108,111,110,103]⟩,⟨#[88]⟩] (by decide) (by decide) (p+1+1) g wd hR3.out (by omega)).mono ?_
     rintro e w4 ⟨s,hs,rfl,hR4,hC4⟩
     have hC5:=hC4
     have hsz:s.size≤1000:=by
      have hall:∀ x∈([⟨#[]⟩,⟨#[110,105,108]⟩,⟨#[84,111,111,108,111,110,103]⟩,⟨#[88]⟩]:List ByteArray),x.size≤1000:=by decide
      exact hall s hs
     have hS4:w4.cell? ⟨b,off+d*2+1,none⟩=some (.slice (some ⟨b2,off2,none⟩) xs[d].ctors.length cap2):=(hC5.cell hbl hbg).trans kc
     have x4:w4.cell? ⟨b2,off2,none⟩=some (.string xs[d].ctors[0].name):=(hC5.cell hb2l hb2g).trans c0
     have f4:w4.frozen? ⟨b2,off2,none⟩=false:=(World.frozen?_of_block (a:=⟨b2,off2,none⟩) (hC5.block _ hb2l hb2g)).trans f3
     have HFin:=jj (HH.out w4 _ s hR4 hC5 (by omega) hsz)
     dsimp only
     refine hK.out _ _ hS4 (fun _=>trivial) ?_
     clear hK K
     (try simp only [Act.put,zz4,zz5,zz6])
     refine wV 8 rfl hS4 hT1 ?_
     (try simp only [Act.put,zz4,zz5,zz6])
     refine wV 9 rfl hS4 hT1 ?_
     (try simp only [Act.put,zz4,zz5,zz6])
     refine Go.Proofs.YtjjclcmmfeegfaaGreatDoor.w1 10 rfl fun K hK=>?_
     go_simp
     refine hK.out _ _ ((World.cell?_setCell_far _ _ _ _ (by show b2≠b;exact fun e=>hbb e.symm)).trans hS4) (fun _=>trivial) ?_
     clear hK K
     (try simp only [Act.put,zz4,zz5,zz6])
     refine wE (by kernel_rfl) ?_
     clear hS1 hT1 hS4 x4 f4 hC5 hC4 hR4 HH hR3 f3 kc c0
     go_wp2
     go_ret
     exact HFin.out
    |false =>
     cases c3q:((r:Int)==3) with
     |true =>
      have hCd:=HC3.out.drew
      clear HC3
      obtain ⟨b2,off2,cap2,aA,acap,kc,hbb,hbg,hb2g,hbl,hb2l,hz2,c0,c1,c2,hown,hrow,hal,H2,H4,H3⟩:=hCd.ctor (p:=p) h0 HSM.out hd hk0
      have HH:=jj H3
      have HRD:=jj hCd.rd
      have f3:=hz2 (off2+1)
      have HOWN:=jj hown
      have HROW:=jj hrow
      have hm90:=HMM.out
      have hmx:xs[d].ctors[0].args.length+1≤maxLen:=by unfold maxLen;omega
      have hby:(xs[d].ctors[0].args.length+1)*16≤140737488355328:=by omega
      clear hm90
      have hgl3:g<w3.drew.heap.size:=hCd.rd.lt
      have hgs:w3.drew.heap.size≠g:=by omega
      have hgs1:w3.drew.heap.size+1≠g:=by omega
      clear c0 c2 hown hrow H2 H4 H3 hCd hz2
      go_wp2_with fail
      refine zA4 (S:=fun w'=>w'.cell? ⟨b,off+d*2+1,none⟩=some (.slice (some ⟨b2,off2,none⟩) xs[d].ctors.length cap2)) (T:=fun w'=>w'.cell? ⟨b2,off2+1,none⟩=some (.slice aA xs[d].ctors[0].args.length acap)) (d:=21) (by kernel_rfl) ?_
      generalize w3.drew=wd at *
      have hS1:wd.cell? ⟨b,off+d*2+1,none⟩=some (.slice (some ⟨b2,off2,none⟩) xs[d].ctors.length cap2):=kc
      have hT1:wd.cell? ⟨b2,off2+1,none⟩=some (.slice aA xs[d].ctors[0].args.length acap):=c1
      refine wV 0 rfl hS1 hT1 ?_
      (try simp only [Act.put,zz4,zz5,zz6])
      refine wV 1 rfl hS1 hT1 ?_
      (try simp only [Act.put,zz4,zz5,zz6])
      refine wV 2 rfl hS1 hT1 ?_
      (try simp only [Act.put,zz4,zz5,zz6])
      refine wV 3 rfl hS1 hT1 ?_
      (try simp only [Act.put,zz4,zz5,zz6])
      refine wV 4 rfl hS1 hT1 ?_
      (try simp only [Act.put,zz4,zz5,zz6])
      refine wV 5 rfl hS1 hT1 ?_
      (try simp only [Act.put,zz4,zz5,zz6])
      refine wV 6 rfl hS1 hT1 ?_
      (try simp only [Act.put,zz4,zz5,zz6])
      refine wV 7 rfl hS1 hT1 ?_
      (try simp only [Act.put,zz4,zz5,zz6])
      refine wV 8 rfl hS1 hT1 ?_
      (try simp only [Act.put,zz4,zz5,zz6])
      refine wV 9 rfl hS1 hT1 ?_
      (try simp only [Act.put,zz4,zz5,zz6])
      refine wV 10 rfl hS1 hT1 ?_
      (try simp only [Act.put,zz4,zz5,zz6])
      refine wV 11 rfl hS1 hT1 ?_
      (try simp only [Act.put,zz4,zz5,zz6])
      refine zAP (i:=12) (v:=?_) rfl (by decide) rfl (by kernel_rfl) (by kernel_rfl) (by kernel_rfl) (by kernel_rfl) (fun _ _ _ h=>h) (Or.inl ⟨by rfl,?hy12⟩) (by rfl) hS1 hT1 ?_
      case hy12=>(intro W hSw;(try dsimp only at hSw);go_simp;try with_reducible rfl)
      (try simp only [Act.put,zz4,zz5,zz6])
      refine wV 13 rfl hS1 hT1 ?_
      (try simp only [Act.put,zz4,zz5,zz6])
      refine wV 16 rfl hS1 hT1 ?_
      (try simp only [Act.put,zz4,zz5,zz6])
      refine wR (rs:=[14,17]) (by kernel_rfl) (by simp) ?_
      refine AllReadyB.c rfl (fun K hK=>?_) (AllReadyB.c rfl (fun K hK=>?_) AllReadyB.n)
      focus
       go_simp
       refine hK.out _ _ (((Chg.refl [g] wd).alloc _).cell hbl hbg |>.trans kc) (fun _=>((Chg.refl [g] wd).alloc _).cell hb2l hb2g |>.trans c1) ?_
       clear hK K
       (try simp only [Act.put,zz4,zz5,zz6])
       refine wR (rs:=[15,17]) (by kernel_rfl) (by simp) ?_
       refine AllReadyB.c rfl (fun K hK=>?_) (AllReadyB.c rfl (fun K hK=>?_) AllReadyB.n)
       focus
        go_simp
        go_at_call 126
        refine (num_at (LitN.new wd [9,-2,0,-1] (by decide)) (by decide) (by decide) (p+1+1) g (HRD.out.below ((zy2 _ _).alloc (zz8 _) _)) (by omega) hgs).mono ?_
        rintro e w5 ⟨x,rfl,hRw5,hCw5⟩
        have hC5:Chg [g] wd w5:=((Chg.refl [g] wd).alloc _).trans hCw5
        dsimp only
        refine hK.out _ _ (((hC5).cell hbl hbg).trans kc) (fun _=>((hC5).cell hb2l hb2g).trans c1) ?_
        clear hK K
        (try simp only [Act.put,zz4,zz5,zz6])
        refine Go.Proofs.YtjjclcmmfeegfaaGreatDoor.w1 17 rfl fun K hK=>?_
        go_simp
        refine hK.out _ _ (((hC5).alloc _).cell hbl hbg |>.trans kc) (fun _=>((hC5).alloc _).cell hb2l hb2g |>.trans c1) ?_
        clear hK K
        (try simp only [Act.put,zz4,zz5,zz6])
        refine Go.Proofs.YtjjclcmmfeegfaaGreatDoor.w1 18 rfl fun K hK=>?_
        go_simp
        go_at_call 126
        refine (num_at (LitN.new w5 [0,4,-1,-2] (by decide)) (by decide) (by decide) (p+1+1+1) g (hRw5.below ((zy2 _ _).alloc (zz8 _) _)) (by omega) (by have:=hC5.size;omega)).mono ?_
        rintro e w6 ⟨y,rfl,hRw6,hCw6⟩
        have hC6:Chg [g] wd w6:=(hC5.alloc _).trans hCw6
       rotate_left
       focus
        go_simp
        refine hK.out _ _ ((((Chg.refl [g] wd).alloc _).alloc _).cell hbl hbg |>.trans kc) (fun _=>(((Chg.refl [g] wd).alloc _).alloc _).cell hb2l hb2g |>.trans c1) ?_
        clear hK K
        (try simp only [Act.put,zz4,zz5,zz6])
        refine Go.Proofs.YtjjclcmmfeegfaaGreatDoor.w1 15 rfl fun K hK=>?_
        go_simp
        go_at_call 126
        refine (num_at ((LitN.new wd [9,-2,0,-1] (by decide)).alloc _) (by decide) (by decide) (p+1+1) g ((HRD.out.below ((zy2 _ _).alloc (zz8 _) _)).below ((zy2 _ _).alloc (zz8 _) _)) (by omega) hgs).mono ?_
        rintro e w5 ⟨x,rfl,hRw5,hCw5⟩
        have hC5:Chg [g] wd w5:=(((Chg.refl [g] wd).alloc _).alloc _).trans hCw5
        have hLB:LitN w5 (wd.heap.size+1) [0,4,-1,-2]:=(LitN.new2 wd _ [0,4,-1,-2] (by decide)).chg hCw5 (by rw [zy1];exact hgs1)
        dsimp only
        refine hK.out _ _ (((hC5).cell hbl hbg).trans kc) (fun _=>((hC5).cell hb2l hb2g).trans c1) ?_
        clear hK K
        (try simp only [Act.put,zz4,zz5,zz6])
        refine Go.Proofs.YtjjclcmmfeegfaaGreatDoor.w1 18 rfl fun K hK=>?_
        go_simp
        go_at_call 126
        refine (num_at hLB (by decide) (by decide) (p+1+1+1) g hRw5 (by omega) hgs1).mono ?_
        rintro e w6 ⟨y,rfl,hRw6,hCw6⟩
        have hC6:Chg [g] wd w6:=hC5.trans hCw6
       rotate_left
      rotate_left 2
      focus
       go_simp
       refine hK.out _ _ (((Chg.refl [g] wd).alloc _).cell hbl hbg |>.trans kc) (fun _=>((Chg.refl [g] wd).alloc _).cell hb2l hb2g |>.trans c1) ?_
       clear hK K
       (try simp only [Act.put,zz4,zz5,zz6])
       refine Go.Proofs.YtjjclcmmfeegfaaGreatDoor.w1 14 rfl fun K hK=>?_
       go_simp
       refine hK.out _ _ ((((Chg.refl [g] wd).alloc _).alloc _).cell hbl hbg |>.trans kc) (fun _=>(((Chg.refl [g] wd).alloc _).alloc _).cell hb2l hb2g |>.trans c1) ?_
       clear hK K
       (try simp only [Act.put,zz4,zz5,zz6])
       refine Go.Proofs.YtjjclcmmfeegfaaGreatDoor.w1 15 rfl fun K hK=>?_
       go_simp
       go_at_call 126
       refine (num_at (LitN.new2 wd _ [9,-2,0,-1] (by decide)) (by decide) (by decide) (p+1+1) g ((HRD.out.below ((zy2 _ _).alloc (zz8 _) _)).below ((zy2 _ _).alloc (zz8 _) _)) (by omega) hgs1).mono ?_
       rintro e w5 ⟨x,rfl,hRw5,hCw5⟩
       have hC5:Chg [g] wd w5:=(((Chg.refl [g] wd).alloc _).alloc _).trans hCw5
       have hLB:LitN w5 wd.heap.size [0,4,-1,-2]:=((LitN.new wd [0,4,-1,-2] (by decide)).alloc _).chg hCw5 (by rw [zy1];exact hgs)
       dsimp only
       refine hK.out _ _ (((hC5).cell hbl hbg).trans kc) (fun _=>((hC5).cell hb2l hb2g).trans c1) ?_
       clear hK K
       (try simp only [Act.put,zz4,zz5,zz6])
       refine Go.Proofs.YtjjclcmmfeegfaaGreatDoor.w1 18 rfl fun K hK=>?_
       go_simp
       go_at_call 126
       refine (num_at hLB (by decide) (by decide) (p+1+1+1) g hRw5 (by omega) hgs).mono ?_
       rintro e w6 ⟨y,rfl,hRw6,hCw6⟩
       have hC6:Chg [g] wd w6:=hC5.trans hCw6
      rotate_left
      all_goals (
       have hSE:w6.cell? ⟨b,off+d*2+1,none⟩=some (.slice (some ⟨b2,off2,none⟩) xs[d].ctors.length cap2):=((hC6).cell hbl hbg).trans kc
       have hTE:w6.cell? ⟨b2,off2+1,none⟩=some (.slice aA xs[d].ctors[0].args.length acap):=((hC6).cell hb2l hb2g).trans c1
       have HOE:Hid (Own w6 0 25 2 TyR xs[d].ctors[0].args (.slice aA xs[d].ctors[0].args.length acap) []):=HOWN.out.mono0 (w':=w6) (fun x cs G (h:TyR wd x cs G)=>(h:TyR w6 x cs G)) ((hC6).kept (fun x hx=>(HROW.out x hx).2.2.2) (fun x hx=>(HROW.out x hx).1))
       have hzE:wd.heap.size≤w6.heap.size:=(hC6).size
       have hfE:w6.frozen? ⟨b2,off2+1,none⟩=false:=(World.frozen?_of_block (a:=⟨b2,off2+1,none⟩) ((hC6).block _ hb2l hb2g)).trans f3
       have hFinE:=HH.out w6 (p+1+1+1+1) ⟨x,y⟩
       have HFE:=jj (fun g' c' w3' o=>hFinE g' c' w3' o hRw6 (hC6) (by omega))
       clear hFinE
       dsimp only
       refine hK.out _ _ hSE (fun _=>hTE) ?_
       clear hK K
       (try simp only [Act.put,zz4,zz5,zz6])
       refine wV 19 rfl hSE hTE ?_
       (try simp only [Act.put,zz4,zz5,zz6])
       refine Go.Proofs.YtjjclcmmfeegfaaGreatDoor.w1 20 rfl fun K hK=>?_
       go_simp
       refine hK.out _ _ ((World.cell?_alloc_lt _ _ _ (zz9 hbl hzE)).trans hSE) (fun _=>(World.cell?_alloc_lt _ _ _ (zz9 hb2l hzE)).trans hTE) ?_
       clear hK K
       (try simp only [Act.put,zz4,zz5,zz6])
       refine Go.Proofs.YtjjclcmmfeegfaaGreatDoor.w1 21 rfl fun K hK=>?_
       refine zAB (P:=Tryz.prog) rfl _ _ 65 rfl j0 _ 16 Tryz.underlying65 HJ.out HJ0.out HJ1.out HJ2.out rfl (by decide) TyR_len' TyR_mono' (by rfl) HOE.out ⟨x,y⟩ 25 [.int .i64 x,.int .i64 y] [] _ (by rfl) rfl (by simp [Value.oneCell']) ⟨rfl,rfl⟩ (Under.nil _) (fun _ _ h=>by cases h) hmx hby (Nat.zero_le _) ?_
       intro g' cp w7 hown7 hgr7 hat7
       have nb:some b≠(Value.slice aA xs[d].ctors[0].args.length acap).ownBlock:=fun e=>(HROW.out b (zA1.2 e.symm)).2.1 rfl
       have nb2:some b2≠(Value.slice aA xs[d].ctors[0].args.length acap).ownBlock:=fun e=>(HROW.out b2 (zA1.2 e.symm)).2.2.1 rfl
       have l7:w6.heap.size≤(w6.alloc (.cells #[.int .i64 x,.int .i64 y] 25)).heap.size:=by rw [World.size_alloc];exact Nat.le_succ _
       have l8:b<w6.heap.size:=zz9 hbl hzE
       have l9:b2<w6.heap.size:=zz9 hb2l hzE
       have s7:w7.cell? ⟨b,off+d*2+1,none⟩=some (.slice (some ⟨b2,off2,none⟩) xs[d].ctors.length cap2):=(World.grownBy.cell_far hgr7 ⟨b,off+d*2+1,none⟩ (zz9 l8 l7) nb).trans ((World.cell?_alloc_lt _ _ _ l8).trans hSE)
       have t7:w7.cell? ⟨b2,off2+1,none⟩=some (.slice aA xs[d].ctors[0].args.length acap):=(World.grownBy.cell_far hgr7 ⟨b2,off2+1,none⟩ (zz9 l9 l7) nb2).trans ((World.cell?_alloc_lt _ _ _ l9).trans hTE)
       have f7:w7.frozen? ⟨b2,off2+1,none⟩=false:=(World.grownBy.frozen_far hgr7 ⟨b2,off2+1,none⟩ (zz9 l9 l7) nb2).trans (Eq.trans (World.frozen?_of_block (Below.heap_alloc _ _ _ l9)) hfE)
       have HFin:=jj (HFE.out g' cp w7 _ hown7 hgr7 hat7)
       refine hK.out _ _ s7 (fun _=>t7) ?_
       clear hK K
       (try simp only [Act.put,zz4,zz5,zz6])
       refine wV 22 rfl s7 t7 ?_
       (try simp only [Act.put,zz4,zz5,zz6])
       refine wV 23 rfl s7 t7 ?_
       (try simp only [Act.put,zz4,zz5,zz6])
       refine Go.Proofs.YtjjclcmmfeegfaaGreatDoor.w1 24 rfl fun K hK=>?_
       go_simp
       refine hK.out _ _ ((World.cell?_setCell_far _ _ _ _ (by show b2≠b;exact fun e=>hbb e.symm)).trans s7) (fun h=>by cases h) ?_
       clear hK K
       (try simp only [Act.put,zz4,zz5,zz6])
       refine wE (by kernel_rfl) ?_
       clear hS1 hT1 hSE hTE HOE hzE hfE HFE nb nb2 l7 l8 l9 s7 t7 f7 hown7 hgr7 hat7 HH HOWN HROW f3 kc c1 hmx hby
       go_wp2
       go_ret
       exact HFin.out)
     |false =>
      cases c4q:((r:Int)==4) with
      |true =>
       have hCd:=HC3.out.drew
       clear HC3
       obtain ⟨b2,off2,cap2,aA,acap,kc,hbb,hbg,hb2g,hbl,hb2l,hz2,c0,c1,c2,hown,hrow,hal,H2,H4,H3⟩:=hCd.ctor (p:=p) h0 HSM.out hd hk0
       have HH:=jj H4
       have hR3:=jj hCd.rd
       have f3:=hz2 (off2+2)
       clear c0 c1 hown hrow hal H2 H4 H3 hCd hz2
       go_wp2_with fail
       refine zA4 (S:=fun w'=>w'.cell? ⟨b,off+d*2+1,none⟩=some (.slice (some ⟨b2,off2,none⟩) xs[d].ctors.length cap2)) (T:=fun _=>True) (d:=10) (by kernel_rfl) ?_
       generalize w3.drew=wd at *
       have hS1:wd.cell? ⟨b,off+d*2+1,none⟩=some (.slice (some ⟨b2,off2,none⟩) xs[d].ctors.length cap2):=kc
       have hT1:True:=trivial
       refine wV 0 rfl hS1 hT1 ?_
       (try simp only [Act.put,zz4,zz5,zz6])
       refine wV 1 rfl hS1 hT1 ?_
       (try simp only [Act.put,zz4,zz5,zz6])
       refine wV 2 rfl hS1 hT1 ?_
       (try simp only [Act.put,zz4,zz5,zz6])
       refine wV 3 rfl hS1 hT1 ?_
       (try simp only [Act.put,zz4,zz5,zz6])
       refine wV 4 rfl hS1 hT1 ?_
       (try simp only [Act.put,zz4,zz5,zz6])
       refine wV 5 rfl hS1 hT1 ?_
       (try simp only [Act.put,zz4,zz5,zz6])
       refine Go.Proofs.YtjjclcmmfeegfaaGreatDoor.w1 6 rfl fun K hK=>?_
       go_simp
       refine hK.out _ _ ((World.cell?_alloc_lt _ _ _ hbl).trans kc) (fun _=>trivial) ?_
       clear hK K
       (try simp only [Act.put,zz4,zz5,zz6])
       refine Go.Proofs.YtjjclcmmfeegfaaGreatDoor.w1 7 rfl fun K hK=>?_
       go_simp
       go_at_call 126
       refine (num_lit [4,-1,1] (by decide) (by decide) (p+1+1) g wd hR3.out (by omega)).mono ?_
       rintro e w4 ⟨s,hs,rfl,hR4,hC4⟩
       have hC5:=hC4
       have hS4:w4.cell? ⟨b,off+d*2+1,none⟩=some (.slice (some ⟨b2,off2,none⟩) xs[d].ctors.length cap2):=(hC5.cell hbl hbg).trans kc
       have x4:w4.cell? ⟨b2,off2+2,none⟩=xs[d].ctors[0].idx:=(hC5.cell hb2l hb2g).trans c2
       have f4:w4.frozen? ⟨b2,off2+2,none⟩=false:=(World.frozen?_of_block (a:=⟨b2,off2+2,none⟩) (hC5.block _ hb2l hb2g)).trans f3
       have HFin:=jj (HH.out w4 _ s hR4 hC5 (by omega))
       dsimp only
       refine hK.out _ _ hS4 (fun _=>trivial) ?_
       clear hK K
       (try simp only [Act.put,zz4,zz5,zz6])
       refine wV 8 rfl hS4 hT1 ?_
       (try simp only [Act.put,zz4,zz5,zz6])
       refine wV 9 rfl hS4 hT1 ?_
       (try simp only [Act.put,zz4,zz5,zz6])
       refine Go.Proofs.YtjjclcmmfeegfaaGreatDoor.w1 10 rfl fun K hK=>?_
       go_simp
       refine hK.out _ _ ((World.cell?_setCell_far _ _ _ _ (by show b2≠b;exact fun e=>hbb e.symm)).trans hS4) (fun _=>trivial) ?_
       clear hK K
       (try simp only [Act.put,zz4,zz5,zz6])
       refine wE (by kernel_rfl) ?_
       clear hS1 hT1 hS4 x4 f4 hC5 hC4 hR4 HH hR3 f3 kc c2
       go_wp2
       go_ret
       exact HFin.out
      |false =>
       cases c5q:((r:Int)==5) with
       |true =>
        obtain ⟨kA,kcap,F2,n0,k0,z0,hb,hbl,hk1,hk2,hdx,hF2,hname,hctors⟩:=HC3.out.data (p:=p) h0 HSM.out hd
        have HDX:=jj hdx
        have HF2:=jj hF2
        have hbs:w.heap.size≤w3.heap.size:=HC3.out.chg.size
        clear z0 hdx hF2 hname hctors
        go_wp2_with (at_builtin;refine Halt.mk ?_)
        refine Halt.of (zA5 (P:=Tryz.prog) rfl _ _ 23 rfl m0 _ 40 Tryz.underlying23 HM.out HM0.out HM1.out HM2.out rfl (by decide) DtO_len DtO_mono (by rfl) HC3.out.own xs[d] 64 [.string xs[d].name,.slice kA xs[d].ctors.length kcap] F2 _ (by rfl) rfl (by simp [Value.oneCell']) HDX.out (fun x hx=>(HF2.out x hx).2.2) (fun x hx hG=>(HF2.out x hG).1 (by rw [zA3,zy1] at hx;exact hx)) (by unfold maxLen;omega) (by omega) hbs ?_)
        intro g' cp w7 hown7 hgr7 hat7
        have HFin:=jj (HC3.out.twice (p:=p) h0 HSM.out hd (fun x hx=>(HF2.out x hx).2.1) rfl hown7 hgr7 (by omega))
        clear hown7 hgr7 hat7 n0 k0 hk1 hk2 HDX HF2 HC3
        go_wp2
        go_ret
        exact HFin.out
       |false =>
        have HFin:=jj (HC3.out.done (p:=p) h0 HSM.out (by omega))
        clear HC3
        go_wp2
        go_ret
        exact HFin.out
def DrewWTV (w:World) (e:Ending) (w':World):Prop:=∃ (xs:List Dt) (v:Value) (F:List Nat) (t:Ty) (a:V) (cs:List Value) (G:List Nat),e=.returned (.tuple #[v,.agg #[t.d,t.i],.agg cs.toArray])∧Below w w w'∧Arr w' (DtR w') xs v F∧Fresh w w' F∧VR w' a cs G∧Fresh w w' G∧nodes a≤600000
set_option maxHeartbeats 8000000 in
theorem spec_DrawValueValid (bs:List Int) (w:World) (v:Value) (F:List Nat) (hx:Arr w (ByR w) bs v F) (hf:Under w F) :
  Calls Tryz.prog 62 #[v] w (DrewWTV w):=by
 have hB2:Below w w ((w.alloc (.cells #[(0:Int),(0:Int)] 25)).alloc (.cells #[(0:Int),(0:Int),.slice none 0 0] 45)):=((zy2 _ _).alloc (zz8 _) _).alloc (by simp) _
 have K22:Hid (Blk ((w.alloc (.cells #[(0:Int),(0:Int)] 25)).alloc (.cells #[(0:Int),(0:Int),.slice none 0 0] 45)) (w.heap.size) 25 #[(0:Int),(0:Int)]):=(Blk.new w _ _).same (Below.heap_alloc _ _ _ (by simp))
 have K32:Hid (Blk ((w.alloc (.cells #[(0:Int),(0:Int)] 25)).alloc (.cells #[(0:Int),(0:Int),.slice none 0 0] 45)) (w.heap.size+1) 45 #[(0:Int),(0:Int),.slice none 0 0]):=zAG w _ 45 _
 have hs2:(((w.alloc (.cells #[(0:Int),(0:Int)] 25)).alloc (.cells #[(0:Int),(0:Int),.slice none 0 0] 45))).heap.size=w.heap.size+2:=by simp
 have HX2:Hid (Arr ((w.alloc (.cells #[(0:Int),(0:Int)] 25)).alloc (.cells #[(0:Int),(0:Int),.slice none 0 0] 45)) (ByR ((w.alloc (.cells #[(0:Int),(0:Int)] 25)).alloc (.cells #[(0:Int),(0:Int),.slice none 0 0] 45))) bs v F):=ArrBy.mono hx (.of_below hB2 hf)
 have HU2:Hid (Under (((w.alloc (.cells #[(0:Int),(0:Int)] 25)).alloc (.cells #[(0:Int),(0:Int),.slice none 0 0] 45))).heap.size F):=hf.mono hB2.size
 clear hx hf
 go_enter Tryz.func62,Tryz.ntmps62
 go_wp2_with fail
 obtain ⟨w2,hw2⟩:∃ X,X=((w.alloc (.cells #[(0:Int),(0:Int)] 25)).alloc (.cells #[(0:Int),(0:Int),.slice none 0 0] 45)):=⟨_,rfl⟩
 rw [←hw2] at hB2 K22 K32 hs2 HX2 HU2 ⊢
 clear hw2
 refine (spec_l17Open bs w2 v F HX2.out HU2.out).mono ?_
 rintro e w3 ⟨g,rfl,hge,hb3,hR3⟩
 have HR3:=jj hR3
 have hg3:g<w3.heap.size:=hR3.lt
 have hB3:Below w w w3:=hB2.trans (hb3.mono hB2.size)
 have K23:=jj (K22.out.same (hb3.block _ K22.out.lt))
 have K33:=jj (K32.out.same (hb3.block _ K32.out.lt))
 clear hR3 hb3 K22 K32 HX2 HU2 hB2
 go_wp2_with fail
 refine (spec_l2Typed 0 g w3 HR3.out (by omega)).mono ?_
 rintro e w4 ⟨xs,v4,FW,t,a,csa,Fa,q4,rfl,htok,ha4,hfs4,hp4,hf4,hn4,hr4,hq4,hc4⟩
 obtain ⟨kva,rfl,haa⟩:=(zA6 _ _ _).1 hp4
 obtain ⟨pA,pcap,rfl,-,-⟩:=haa.form
 obtain ⟨A1,cap1,rfl,-,-⟩:=ha4.form
 have hz4:=hc4.size
 have hB4:Below w w w4:=hB3.trans (hc4.below (fun b hb=>by rw [zy1] at hb;omega) hB3.size)
 have K24:=jj (K23.out.same (hc4.block _ K23.out.lt (by rw [zy1];omega)))
 have K34:=jj (K33.out.same (hc4.block _ K33.out.lt (by rw [zy1];omega)))
 have HTOK:=jj htok
 have HFW:Hid (∀ b∈FW,w3.heap.size≤b):=fun b hb=>(hfs4 b hb).1
 have HFA:Hid (∀ b∈Fa,w3.heap.size≤b∧b≠g):=fun b hb=>⟨(hf4 b hb).1,by have:=(hf4 b hb).1;omega⟩
 have hfwk:=fun b hb=>(hfs4 b hb).2
 have hfak:=fun b hb=>(hf4 b hb).2
 have HNA:Hid (nodes a≤600000):=by unfold Hid;omega
 have hna:nodes a≤256:=hn4
 have hb5:Below w4 w4 ((w4.alloc (.cells #[t.d,t.i] 25)).alloc (.cells #[a.c,a.n,.slice pA a.ks.length pcap] 45)):=((zy2 _ _).alloc (zz8 _) _).alloc (by simp) _
 have KB5:Hid (Blk ((w4.alloc (.cells #[t.d,t.i] 25)).alloc (.cells #[a.c,a.n,.slice pA a.ks.length pcap] 45)) w4.heap.size 25 #[t.d,t.i]):=(Blk.new w4 _ _).same (Below.heap_alloc _ _ _ (by simp))
 have KC5:Hid (Blk ((w4.alloc (.cells #[t.d,t.i] 25)).alloc (.cells #[a.c,a.n,.slice pA a.ks.length pcap] 45)) (w4.heap.size+1) 45 #[a.c,a.n,.slice pA a.ks.length pcap]):=zAG w4 _ 45 _
 have HA5:=jj (ArrDt.below ha4 hb5 (Fresh.under hfs4))
 have HUW5:Hid (Under (((w4.alloc (.cells #[t.d,t.i] 25)).alloc (.cells #[a.c,a.n,.slice pA a.ks.length pcap] 45))).heap.size FW):=(Fresh.under hfs4).mono hb5.size
 have HP5:=jj (VR.below hp4 hb5 (fun b hb=>(hf4 b hb).2))
 have HUa5:Hid (Under (((w4.alloc (.cells #[t.d,t.i] 25)).alloc (.cells #[a.c,a.n,.slice pA a.ks.length pcap] 45))).heap.size Fa):=fun b hb=>zz9 (hf4 b hb).2 hb5.size
 have HR5:=jj (hr4.below hb5)
 have HB5:Hid (Below w w ((w4.alloc (.cells #[t.d,t.i] 25)).alloc (.cells #[a.c,a.n,.slice pA a.ks.length pcap] 45))):=hB4.trans (hb5.mono hB4.size)
 have K25:=jj (K24.out.same (hb5.block _ K24.out.lt))
 have K35:=jj (K34.out.same (hb5.block _ K34.out.lt))
 clear htok ha4 hfs4 hp4 hf4 hn4 hr4 hc4 haa hb5 K23 K33 K24 K34 HR3 hB3 hB4
 go_wp2_with fail
 obtain ⟨w5,hw5⟩:∃ X,X=((w4.alloc (.cells #[t.d,t.i] 25)).alloc (.cells #[a.c,a.n,.slice pA a.ks.length pcap] 45)):=⟨_,rfl⟩
 rw [←hw5] at KB5 KC5 HA5 HUW5 HP5 HUa5 HR5 HB5 K25 K35 ⊢
 clear hw5
 obtain ⟨k,hk⟩:∃ X,X=w4.heap.size:=⟨_,rfl⟩
 obtain ⟨kp,hkp⟩:∃ X,X=k+1:=⟨_,rfl⟩
 rw [←hk] at KB5 KC5 hz4 hfwk hfak ⊢
 have HKW:=jj hfwk
 have HKA:=jj hfak
 clear hfwk hfak
 rw [←hkp] at KC5
 first | rw [←hkp] | skip
 have hkn:k<kp:=by omega
 have HKH:=jj (And.intro hk hkp)
 clear hk hkp
 refine (zBB 8 q4 g w5 HR5.out (by omega) (by omega) (by omega)).mono ?_
 rintro e w6 ⟨r,rfl,hr2,hR6,hc6⟩
 have HR6:=jj hR6
 have HB6:Hid (Below w w w6):=HB5.out.trans (hc6.below (fun b hb=>by rw [zy1] at hb;omega) HB5.out.size)
 have hn1:∀ b,b<g∨w3.heap.size≤b→b∉[g]:=fun b hb h=>by rw [zy1] at h;omega
 have K26:=jj (K25.out.same (hc6.block _ K25.out.lt (hn1 _ (.inl (by omega)))))
 have K36:=jj (K35.out.same (hc6.block _ K35.out.lt (hn1 _ (.inl (by omega)))))
 have KB6:=jj (KB5.out.same (hc6.block _ KB5.out.lt (hn1 _ (.inr (by omega)))))
 have KC6:=jj (KC5.out.same (hc6.block _ KC5.out.lt (hn1 _ (.inr (by omega)))))
 have HA6:=jj (ArrDt.mono HA5.out (hc6.kept HUW5.out (fun b hb=>hn1 b (.inr (HFW.out b hb)))))
 have HUW6:Hid (Under w6 FW):=HUW5.out.mono hc6.size
 have HP6:=jj (VR.mono _ _ _ (hc6.kept HUa5.out (fun b hb=>hn1 b (.inr (HFA.out b hb).1))) HP5.out)
 have HUa6:Hid (Under w6 Fa):=HUa5.out.mono hc6.size
 have hk6:kp<w6.heap.size:=KC6.out.lt
 obtain ⟨zs,hzs⟩:=HR6.out.bytes
 obtain ⟨B,hB1,hB2',hB3⟩:=pot_big zs hzs.le hzs.len (q4+1) (by omega)
 have HRB6:=jj hzs
 have HB3:=jj hB3
 clear hzs hB3
 clear hR6 hc6 K25 K35 KB5 KC5 HA5 HUW5 HP5 HUa5 HR5 HB5 hn1
 cases q0:((r:Int)==0) with
 |true =>
  go_wp2_with fail
  refine (spec_l1Some (q4+1) g w6 HR6.out (by omega) A1 xs.length cap1 HTOK.out.pos (by have:=(worldOK HTOK.out.ok).len;omega)).mono ?_
  rintro e w7 ⟨t2,q5,rfl,hR7,hq7,hc7⟩
  have hn7:∀ b,b<g∨w3.heap.size≤b→b∉[g]:=fun b hb h=>by rw [zy1] at h;omega
  have K27:=jj (K26.out.same (hc7.block _ K26.out.lt (hn7 _ (.inl (by omega)))))
  have K37:=jj (K36.out.same (hc7.block _ K36.out.lt (hn7 _ (.inl (by omega)))))
  have KB7:=jj (KB6.out.same (hc7.block _ KB6.out.lt (hn7 _ (.inr (by omega)))))
  have KC7:=jj (KC6.out.same (hc7.block _ KC6.out.lt (hn7 _ (.inr (by omega)))))
  have HA7:=jj (ArrDt.mono HA6.out (hc7.kept HUW6.out (fun b hb=>hn7 b (.inr (HFW.out b hb)))))
  have HUW7:Hid (Under w7 FW):=HUW6.out.mono hc7.size
  have HP7:=jj (VR.mono _ _ _ (hc7.kept HUa6.out (fun b hb=>hn7 b (.inr (HFA.out b hb).1))) HP6.out)
  have HUa7:Hid (Under w7 Fa):=HUa6.out.mono hc7.size
  have HB7:Hid (Below w w w7):=HB6.out.trans (hc7.below (fun b hb=>by rw [zy1] at hb;omega) HB6.out.size)
  have HR7:=jj hR7
  obtain ⟨y0,y1,ylt,f0,f1⟩:=KB7.out.q2
  clear hR7 hc7 K26 K36 KB6 KC6 HA6 HUW6 HP6 HUa6 HB6 HR6 hn7
  go_wp2_with fail
  clear y0 y1 f0 f1 ylt
  obtain ⟨wb,hwb⟩:∃ X,X=((w7.setCell ⟨k,0,none⟩ (.int .i64 t2.d)).setCell ⟨k,1,none⟩ (.int .i64 t2.i)):=⟨_,rfl⟩
  have hfar:∀ b,b≠k→wb.heap[b]?=w7.heap[b]?:=fun b hb=>by rw [hwb,zz7 _ _ _ _ hb,zz7 _ _ _ _ hb]
  have KBb:Hid (Blk wb k 25 #[t2.d,t2.i]):=by rw [hwb];exact (KB7.out.set_ 0 _).set_ 1 _
  have hzb:wb.heap.size=w7.heap.size:=by rw [hwb];simp [World.setCell]
  have HBb:Hid (Below w w wb):=by rw [hwb];exact (HB7.out.setCell (by show w.heap.size≤k;omega) _).setCell (by show w.heap.size≤k;omega) _
  rw [←hwb]
  clear hwb
  have K2b:=jj (K27.out.same (hfar _ (by omega)))
  have K3b:=jj (K37.out.same (hfar _ (by omega)))
  have KCb:=jj (KC7.out.same (hfar _ (by omega)))
  have hkW:∀ b∈FW,b≠k:=fun b hb e=>by have:=HKW.out b hb;omega
  have hkA:∀ b∈Fa,b≠k:=fun b hb e=>by have:=HKA.out b hb;omega
  have HAb:=jj (ArrDt.mono HA7.out (w':=wb) (fun b hb=>hfar b (hkW b hb)))
  have HUWb:Hid (Under wb FW):=by rw [hzb];exact HUW7.out
  have HPb:=jj (VR.mono (w':=wb) _ _ _ (fun b hb=>hfar b (hkA b hb)) HP7.out)
  have HUab:Hid (Under wb Fa):=by rw [hzb];exact HUa7.out
  have HRb:Hid (Rd wb g q5):=HR7.out.keep fun b hb=>hfar b (by omega)
  obtain ⟨qb,hqb⟩:∃ X,X=q5:=⟨_,rfl⟩
  rw [←hqb] at HRb
  have hqb4:qb≤3000:=by omega
  have hkb:kp<wb.heap.size:=KCb.out.lt
  clear hqb hfar hkW hkA hzb K27 K37 KC7 HA7 HUW7 HP7 HUa7 HR7 HB7 KB7 q0
  go_wp2_with fail
  have HS:Hid (∀ C:World,Chg [g,w.heap.size,w.heap.size+1] wb C→(C.cell? ⟨k,0,none⟩=t2.d∧C.cell? ⟨k,1,none⟩=t2.i∧C.cell? ⟨kp,0,none⟩=a.c∧C.cell? ⟨kp,1,none⟩=a.n∧C.cell? ⟨kp,2,none⟩=some (.slice pA a.ks.length pcap))):=fun C hC=>⟨(hC.cell (Nat.lt_trans hkn hkb) (by simp;omega)).trans ((KBb.out.cell 0).trans (by simp)),(hC.cell (Nat.lt_trans hkn hkb) (by simp;omega)).trans ((KBb.out.cell 1).trans (by simp)),(hC.cell hkb (by simp;omega)).trans ((KCb.out.cell 0).trans (by simp)),(hC.cell hkb (by simp;omega)).trans ((KCb.out.cell 1).trans (by simp)),(hC.cell hkb (by simp;omega)).trans ((KCb.out.cell 2).trans (by simp))⟩
  have hC0:Chg [g,w.heap.size,w.heap.size+1] wb wb.drew:=(Chg.refl _ _).drew
  have K2d:Hid (Blk wb.drew (w.heap.size) 25 #[(0:Int),(0:Int)]):=K2b.out
  have K3d:Hid (Blk wb.drew (w.heap.size+1) 45 #[(0:Int),(0:Int),.slice none 0 0]):=K3b.out
  have HPd:Hid (VR wb.drew a [a.c,a.n,.slice pA a.ks.length pcap] Fa):=VR.drew HPb.out
  have HUd:Hid (Under wb.drew.heap.size Fa):=HUab.out
  have HRd:Hid (Rd wb.drew g qb):=HRb.out.keep (fun b hb=>rfl)
  have HAd:Hid (Arr wb.drew (DtR wb.drew) xs (.slice A1 xs.length cap1) FW):=ArrDt.drew HAb.out
  have HWd:Hid (Under wb.drew.heap.size FW):=HUWb.out
  refine zA4 (S:=fun w'=>w'.cell? ⟨k,0,none⟩=t2.d∧w'.cell? ⟨k,1,none⟩=t2.i∧w'.cell? ⟨kp,0,none⟩=a.c∧w'.cell? ⟨kp,1,none⟩=a.n∧w'.cell? ⟨kp,2,none⟩=some (.slice pA a.ks.length pcap)) (T:=fun _=>True) (d:=99) (by kernel_rfl) ?_
  obtain ⟨wd,hwd⟩:∃ X,X=wb.drew:=⟨_,rfl⟩
  have hzd:wb.heap.size≤wd.heap.size:=by rw [hwd];exact zz8 _
  rw [←hwd] at hC0 K2d K3d HPd HUd HRd HAd HWd ⊢
  clear hwd
  have hS0:=HS.out _ hC0
  have hT0:True:=trivial
  refine wV 0 rfl hS0 hT0 ?_
  (try simp only [zz])
  refine wV 1 rfl hS0 hT0 ?_
  (try simp only [zz])
  refine wV 3 rfl hS0 hT0 ?_
  (try simp only [zz])
  refine wV 4 rfl hS0 hT0 ?_
  (try simp only [zz])
  refine wV 5 rfl hS0 hT0 ?_
  (try simp only [zz])
  refine w1 2 rfl fun K hK=>?_
  go_simp
  go_at_call 77
  refine (spec_l1Mutate qb g wd HRd.out (by omega) xs _ FW HAd.out HWd.out HTOK.out.pos (by have:=(worldOK HTOK.out.ok).len;omega) 4 (by omega) (SmallW.of (worldOK HTOK.out.ok))).mono ?_
  rintro e C1 ⟨ys,v6,F6,q6,rfl,-,ha6,hfs6,hr6,hq6,hc1⟩
  have hC1:Chg [g,w.heap.size,w.heap.size+1] wb C1:=hC0.trans (hc1.mono (by simp))
  have K21:=jj (K2d.out.same (hc1.block _ K2d.out.lt (by rw [zy1];omega)))
  have K31:=jj (K3d.out.same (hc1.block _ K3d.out.lt (by rw [zy1];omega)))
  have HP1:=jj (VR.mono _ _ _ (hc1.kept HUd.out (fun b hb h=>by rw [zy1] at h;exact (HFA.out b hb).2 h)) HPd.out)
  have HU1:Hid (Under C1 Fa):=HUd.out.mono hc1.size
  have HA1:=jj ha6
  have HR1:=jj hr6
  have HF6:Hid (∀ b∈F6,wd.heap.size≤b∧b<C1.heap.size):=hfs6
  have hz1:=hc1.size
  have hwdk:w.heap.size+2≤wd.heap.size∧g<wd.heap.size:=by have:=HRd.out.lt;have:=K3d.out.lt;omega
  clear ha6 hfs6 hr6 hc1 K2d K3d HPd HUd HRd HAd HWd
  (try dsimp only)
  refine hK.out _ _ (HS.out _ hC1) (fun _=>trivial) ?_
  clear hK K
  (try simp only [zz])
  refine w1 6 rfl fun K hK=>?_
  go_simp
  go_at_call 112
  obtain ⟨zs,hzs⟩:=HR1.out.bytes
  obtain ⟨B,hB1,hB2',hB3⟩:=pot_big zs hzs.le hzs.len q6 (by omega)
  refine (spec_l2Mutate_all zs B (by omega) (B+2) a C1 q6 g hzs (by omega) (by omega) (by omega) (by omega) _ Fa HP1.out HU1.out (fun b hb=>(HFA.out b hb).2)).mono ?_
  rintro e C2 ⟨b,cs2,Fb,q8,rfl,hp2,hf2,hn2,-,hl2,hq2,-,hc2⟩
  obtain ⟨kvb,rfl,hbb⟩:=(zA6 _ _ _).1 hp2
  obtain ⟨qA,qcap,rfl,-,-⟩:=hbb.form
  have hC2:Chg [g,w.heap.size,w.heap.size+1] wb C2:=hC1.trans (hc2.mono (by simp))
  have K22:=jj (K21.out.same (hc2.block _ K21.out.lt (by rw [zy1];omega)))
  have K32:=jj (K31.out.same (hc2.block _ K31.out.lt (by rw [zy1];omega)))
  have HA2:=jj (ArrDt.mono HA1.out (hc2.kept (fun b hb=>(HF6.out b hb).2) (fun b hb h=>by rw [zy1] at h;have:=(HF6.out b hb).1;omega)))
  have HU2:Hid (Under C2 F6):=fun b hb=>zz9 (HF6.out b hb).2 hc2.size
  have HPB:=jj hp2
  have HUB:Hid (Under C2 Fb):=fun x hx=>(hf2 x hx).1
  have HFB:Hid (∀ x∈Fb,w3.heap.size≤x∧x≠g):=fun x hx=>⟨by
   rcases (hf2 x hx).2.2 with h | h
   ·exact (HFA.out x h).1
   ·omega,(hf2 x hx).2.1⟩
  have HNB:Hid (nodes b≤600000):=by unfold Hid;omega
  clear hp2 hf2 hc2 hbb HA1 HR1 hzs hB3
  (try dsimp only)
  refine hK.out _ _ (HS.out _ hC2) (fun _=>trivial) ?_
  clear hK K
  (try simp only [zz])
  refine w1 7 rfl fun K hK=>?_
  go_simp
  (try dsimp only)
  refine hK.out _ _ (HS.out _ hC2) (fun _=>trivial) ?_
  clear hK K
  (try simp only [zz])
  refine w1 8 rfl fun K hK=>?_
  have yy0:C2.cell? ⟨w,0,none⟩=some (.int .i64 0):=(K22.out.cell 0).trans (by simp)
  have ff0:=K22.out.frozen 0
  have yy1:C2.cell? ⟨w,1,none⟩=some (.int .i64 0):=(K22.out.cell 1).trans (by simp)
  have ff1:=K22.out.frozen 1
  have yylt:=K22.out.lt
  have hC12:Chg [g,w.heap.size,w.heap.size+1] wb ((C2.setCell ⟨w,0,none⟩ (.int .i64 t2.d)).setCell ⟨w,1,none⟩ (.int .i64 t2.i)):=((hC2.set (by simp)).set (by simp))
  have KK12:Hid (Blk ((C2.setCell ⟨w,0,none⟩ (.int .i64 t2.d)).setCell ⟨w,1,none⟩ (.int .i64 t2.i)) (w.heap.size) 25 #[t2.d,t2.i]):=((K22.out.set_ 0 _).set_ 1 _)
  have K3212:Hid (Blk ((C2.setCell ⟨w,0,none⟩ (.int .i64 t2.d)).setCell ⟨w,1,none⟩ (.int .i64 t2.i)) (w.heap.size+1) 45 #[(0:Int),(0:Int),.slice none 0 0]):=((K32.out.same (zz7 _ _ _ _ (by show w.heap.size+1≠w.heap.size;omega))).same (zz7 _ _ _ _ (by show w.heap.size+1≠w.heap.size;omega)))
  have hz12:(((C2.setCell ⟨w,0,none⟩ (.int .i64 t2.d)).setCell ⟨w,1,none⟩ (.int .i64 t2.i))).heap.size=C2.heap.size:=by simp [World.setCell]
  have hkA12:Kept F6 C2 ((C2.setCell ⟨w,0,none⟩ (.int .i64 t2.d)).setCell ⟨w,1,none⟩ (.int .i64 t2.i)):=fun x hx=>by rw [zz7 _ _ _ _ (by show x≠w.heap.size;have:=HF6.out x hx;omega),zz7 _ _ _ _ (by show x≠w.heap.size;have:=HF6.out x hx;omega)]
  have hkB12:Kept Fb C2 ((C2.setCell ⟨w,0,none⟩ (.int .i64 t2.d)).setCell ⟨w,1,none⟩ (.int .i64 t2.i)):=fun x hx=>by rw [zz7 _ _ _ _ (by show x≠w.heap.size;have:=HFB.out x hx;omega),zz7 _ _ _ _ (by show x≠w.heap.size;have:=HFB.out x hx;omega)]
  go_simp
  refine hK.out _ _ (HS.out _ hC12) (fun _=>trivial) ?_
  clear hK K
  (try simp only [zz])
  clear yy0 ff0 yy1 ff1 yylt
  obtain ⟨D2,hX⟩:∃ X,X=((C2.setCell ⟨w,0,none⟩ (.int .i64 t2.d)).setCell ⟨w,1,none⟩ (.int .i64 t2.i)):=⟨_,rfl⟩
  rw [←hX] at hC12 KK12 K3212 hz12 hkA12 hkB12 ⊢
  clear hX
  refine w1 9 rfl fun K hK=>?_
  have yy0:D2.cell? ⟨w.heap.size+1,0,none⟩=some (.int .i64 0):=(K3212.out.cell 0).trans (by simp)
  have ff0:=K3212.out.frozen 0
  have yy1:D2.cell? ⟨w.heap.size+1,1,none⟩=some (.int .i64 0):=(K3212.out.cell 1).trans (by simp)
  have ff1:=K3212.out.frozen 1
  have yy2:D2.cell? ⟨w.heap.size+1,2,none⟩=some (.slice none 0 0):=(K3212.out.cell 2).trans (by simp)
  have ff2:=K3212.out.frozen 2
  have yylt:=K3212.out.lt
  have hC13:Chg [g,w.heap.size,w.heap.size+1] wb (((D2.setCell ⟨w.heap.size+1,0,none⟩ (.int .i64 b.c)).setCell ⟨w.heap.size+1,1,none⟩ (.int .i64 b.n)).setCell ⟨w.heap.size+1,2,none⟩ (.slice qA b.ks.length qcap)):=(((hC12.set (by simp)).set (by simp)).set (by simp))
  have KK13:Hid (Blk (((D2.setCell ⟨w.heap.size+1,0,none⟩ (.int .i64 b.c)).setCell ⟨w.heap.size+1,1,none⟩ (.int .i64 b.n)).setCell ⟨w.heap.size+1,2,none⟩ (.slice qA b.ks.length qcap)) (w.heap.size+1) 45 #[b.c,b.n,.slice qA b.ks.length qcap]):=(((K3212.out.set_ 0 _).set_ 1 _).set_ 2 _)
  have KK1213:Hid (Blk (((D2.setCell ⟨w.heap.size+1,0,none⟩ (.int .i64 b.c)).setCell ⟨w.heap.size+1,1,none⟩ (.int .i64 b.n)).setCell ⟨w.heap.size+1,2,none⟩ (.slice qA b.ks.length qcap)) (w.heap.size) 25 #[t2.d,t2.i]):=(((KK12.out.same (zz7 _ _ _ _ (by show w.heap.size≠w.heap.size+1;omega))).same (zz7 _ _ _ _ (by show w.heap.size≠w.heap.size+1;omega))).same (zz7 _ _ _ _ (by show w.heap.size≠w.heap.size+1;omega)))
  have hz13:((((D2.setCell ⟨w.heap.size+1,0,none⟩ (.int .i64 b.c)).setCell ⟨w.heap.size+1,1,none⟩ (.int .i64 b.n)).setCell ⟨w.heap.size+1,2,none⟩ (.slice qA b.ks.length qcap))).heap.size=D2.heap.size:=by simp [World.setCell]
  have hkA13:Kept F6 D2 (((D2.setCell ⟨w.heap.size+1,0,none⟩ (.int .i64 b.c)).setCell ⟨w.heap.size+1,1,none⟩ (.int .i64 b.n)).setCell ⟨w.heap.size+1,2,none⟩ (.slice qA b.ks.length qcap)):=fun x hx=>by rw [zz7 _ _ _ _ (by show x≠w.heap.size+1;have:=HF6.out x hx;omega),zz7 _ _ _ _ (by show x≠w.heap.size+1;have:=HF6.out x hx;omega),zz7 _ _ _ _ (by show x≠w.heap.size+1;have:=HF6.out x hx;omega)]
  have hkB13:Kept Fb D2 (((D2.setCell ⟨w.heap.size+1,0,none⟩ (.int .i64 b.c)).setCell ⟨w.heap.size+1,1,none⟩ (.int .i64 b.n)).setCell ⟨w.heap.size+1,2,none⟩ (.slice qA b.ks.length qcap)):=fun x hx=>by rw [zz7 _ _ _ _ (by show x≠w.heap.size+1;have:=HFB.out x hx;omega),zz7 _ _ _ _ (by show x≠w.heap.size+1;have:=HFB.out x hx;omega),zz7 _ _ _ _ (by show x≠w.heap.size+1;have:=HFB.out x hx;omega)]
  go_simp
  refine hK.out _ _ (HS.out _ hC13) (fun _=>trivial) ?_
  clear hK K
  (try simp only [zz])
  clear yy0 ff0 yy1 ff1 yy2 ff2 yylt
  obtain ⟨D3,hX⟩:∃ X,X=(((D2.setCell ⟨w.heap.size+1,0,none⟩ (.int .i64 b.c)).setCell ⟨w.heap.size+1,1,none⟩ (.int .i64 b.n)).setCell ⟨w.heap.size+1,2,none⟩ (.slice qA b.ks.length qcap)):=⟨_,rfl⟩
  rw [←hX] at hC13 KK13 KK1213 hz13 hkA13 hkB13 ⊢
  clear hX
  refine wE (by kernel_rfl) ?_
  clear hS0 hT0
  have HFin:Hid (DrewWTV w (.returned (.tuple #[v6,.agg #[t2.d,t2.i],.agg #[b.c,b.n,.slice qA b.ks.length qcap]])) D3):=by
   have hz:D3.heap.size=C2.heap.size:=by rw [hz13,hz12]
   refine ⟨ys,v6,F6,t2,b,[b.c,b.n,.slice qA b.ks.length qcap],Fb,rfl,HBb.out.trans (hC13.below (by intro x hx;simp at hx;omega) HBb.out.size),ArrDt.mono (ArrDt.mono HA2.out hkA12) hkA13,?_,VR.mono _ _ _ hkB13 (VR.mono _ _ _ hkB12 HPB.out),?_,HNB.out⟩
   ·intro x hx;rw [hz];exact ⟨by have:=(HF6.out x hx).1;omega,HU2.out x hx⟩
   ·intro x hx;rw [hz];exact ⟨by have:=(HFB.out x hx).1;omega,HUB.out x hx⟩
  clear hkA12 hkA13 hkB12 hkB13 hC12 hC13 hC2 hC1 hC0
  go_wp2
  refine bodyPost_ret (zAJ rfl _ _ (w.heap.size) (w.heap.size+1) 25 45 #[t2.d,t2.i] #[b.c,b.n,.slice qA b.ks.length qcap] (0,0) (0,0) _ _ rfl KK1213.out Tryz.underlying25 rfl rfl rfl KK13.out Tryz.underlying45 rfl rfl) rfl ?_
  exact HFin.out
 |false =>
  go_wp2_with fail
  obtain ⟨wb,hwb⟩:∃ X,X=w6:=⟨_,rfl⟩
  obtain ⟨qb,hqb⟩:∃ X,X=q4+1:=⟨_,rfl⟩
  have hqb4:qb≤3000:=by omega
  rw [←hwb] at K26 K36 KB6 KC6 HA6 HUW6 HP6 HUa6 HB6 HR6 hk6 ⊢
  rw [←hqb] at HR6
  clear hwb hqb
  have K2b:=K26
  have K3b:=K36
  have KBb:=KB6
  have KCb:=KC6
  have HAb:=HA6
  have HUWb:=HUW6
  have HPb:=HP6
  have HUab:=HUa6
  have HRb:=HR6
  have HBb:=HB6
  have hkb:=hk6
  clear K26 K36 KB6 KC6 HA6 HUW6 HP6 HUa6 HB6 HR6 hk6 q0
  have HS:Hid (∀ C:World,Chg [g,w.heap.size,w.heap.size+1] wb C→(C.cell? ⟨k,0,none⟩=t.d∧C.cell? ⟨k,1,none⟩=t.i∧C.cell? ⟨kp,0,none⟩=a.c∧C.cell? ⟨kp,1,none⟩=a.n∧C.cell? ⟨kp,2,none⟩=some (.slice pA a.ks.length pcap))):=fun C hC=>⟨(hC.cell (Nat.lt_trans hkn hkb) (by simp;omega)).trans ((KBb.out.cell 0).trans (by simp)),(hC.cell (Nat.lt_trans hkn hkb) (by simp;omega)).trans ((KBb.out.cell 1).trans (by simp)),(hC.cell hkb (by simp;omega)).trans ((KCb.out.cell 0).trans (by simp)),(hC.cell hkb (by simp;omega)).trans ((KCb.out.cell 1).trans (by simp)),(hC.cell hkb (by simp;omega)).trans ((KCb.out.cell 2).trans (by simp))⟩
  have hC0:Chg [g,w.heap.size,w.heap.size+1] wb wb.drew:=(Chg.refl _ _).drew
  have K2d:Hid (Blk wb.drew (w.heap.size) 25 #[(0:Int),(0:Int)]):=K2b.out
  have K3d:Hid (Blk wb.drew (w.heap.size+1) 45 #[(0:Int),(0:Int),.slice none 0 0]):=K3b.out
  have HPd:Hid (VR wb.drew a [a.c,a.n,.slice pA a.ks.length pcap] Fa):=VR.drew HPb.out
  have HUd:Hid (Under wb.drew.heap.size Fa):=HUab.out
  have HRd:Hid (Rd wb.drew g qb):=HRb.out.keep (fun b hb=>rfl)
  have HAd:Hid (Arr wb.drew (DtR wb.drew) xs (.slice A1 xs.length cap1) FW):=ArrDt.drew HAb.out
  have HWd:Hid (Under wb.drew.heap.size FW):=HUWb.out
  refine zA4 (S:=fun w'=>w'.cell? ⟨k,0,none⟩=t.d∧w'.cell? ⟨k,1,none⟩=t.i∧w'.cell? ⟨kp,0,none⟩=a.c∧w'.cell? ⟨kp,1,none⟩=a.n∧w'.cell? ⟨kp,2,none⟩=some (.slice pA a.ks.length pcap)) (T:=fun _=>True) (d:=99) (by kernel_rfl) ?_
  obtain ⟨wd,hwd⟩:∃ X,X=wb.drew:=⟨_,rfl⟩
  have hzd:wb.heap.size≤wd.heap.size:=by rw [hwd];exact zz8 _
  rw [←hwd] at hC0 K2d K3d HPd HUd HRd HAd HWd ⊢
  clear hwd
  have hS0:=HS.out _ hC0
  have hT0:True:=trivial
  refine wV 0 rfl hS0 hT0 ?_
  (try simp only [zz])
  refine wV 1 rfl hS0 hT0 ?_
  (try simp only [zz])
  refine wV 3 rfl hS0 hT0 ?_
  (try simp only [zz])
  refine wV 4 rfl hS0 hT0 ?_
  (try simp only [zz])
  refine wV 5 rfl hS0 hT0 ?_
  (try simp only [zz])
  refine w1 2 rfl fun K hK=>?_
  go_simp
  go_at_call 77
  refine (spec_l1Mutate qb g wd HRd.out (by omega) xs _ FW HAd.out HWd.out HTOK.out.pos (by have:=(worldOK HTOK.out.ok).len;omega) 4 (by omega) (SmallW.of (worldOK HTOK.out.ok))).mono ?_
  rintro e C1 ⟨ys,v6,F6,q6,rfl,-,ha6,hfs6,hr6,hq6,hc1⟩
  have hC1:Chg [g,w.heap.size,w.heap.size+1] wb C1:=hC0.trans (hc1.mono (by simp))
  have K21:=jj (K2d.out.same (hc1.block _ K2d.out.lt (by rw [zy1];omega)))
  have K31:=jj (K3d.out.same (hc1.block _ K3d.out.lt (by rw [zy1];omega)))
  have HP1:=jj (VR.mono _ _ _ (hc1.kept HUd.out (fun b hb h=>by rw [zy1] at h;exact (HFA.out b hb).2 h)) HPd.out)
  have HU1:Hid (Under C1 Fa):=HUd.out.mono hc1.size
  have HA1:=jj ha6
  have HR1:=jj hr6
  have HF6:Hid (∀ b∈F6,wd.heap.size≤b∧b<C1.heap.size):=hfs6
  have hz1:=hc1.size
  have hwdk:w.heap.size+2≤wd.heap.size∧g<wd.heap.size:=by have:=HRd.out.lt;have:=K3d.out.lt;omega
  clear ha6 hfs6 hr6 hc1 K2d K3d HPd HUd HRd HAd HWd
  (try dsimp only)
  refine hK.out _ _ (HS.out _ hC1) (fun _=>trivial) ?_
  clear hK K
  (try simp only [zz])
  refine w1 6 rfl fun K hK=>?_
  go_simp
  go_at_call 112
  obtain ⟨zs,hzs⟩:=HR1.out.bytes
  obtain ⟨B,hB1,hB2',hB3⟩:=pot_big zs hzs.le hzs.len q6 (by omega)
  refine (spec_l2Mutate_all zs B (by omega) (B+2) a C1 q6 g hzs (by omega) (by omega) (by omega) (by omega) _ Fa HP1.out HU1.out (fun b hb=>(HFA.out b hb).2)).mono ?_
  rintro e C2 ⟨b,cs2,Fb,q8,rfl,hp2,hf2,hn2,-,hl2,hq2,-,hc2⟩
  obtain ⟨kvb,rfl,hbb⟩:=(zA6 _ _ _).1 hp2
  obtain ⟨qA,qcap,rfl,-,-⟩:=hbb.form
  have hC2:Chg [g,w.heap.size,w.heap.size+1] wb C2:=hC1.trans (hc2.mono (by simp))
  have K22:=jj (K21.out.same (hc2.block _ K21.out.lt (by rw [zy1];omega)))
  have K32:=jj (K31.out.same (hc2.block _ K31.out.lt (by rw [zy1];omega)))
  have HA2:=jj (ArrDt.mono HA1.out (hc2.kept (fun b hb=>(HF6.out b hb).2) (fun b hb h=>by rw [zy1] at h;have:=(HF6.out b hb).1;omega)))
  have HU2:Hid (Under C2 F6):=fun b hb=>zz9 (HF6.out b hb).2 hc2.size
  have HPB:=jj hp2
  have HUB:Hid (Under C2 Fb):=fun x hx=>(hf2 x hx).1
  have HFB:Hid (∀ x∈Fb,w3.heap.size≤x∧x≠g):=fun x hx=>⟨by
   rcases (hf2 x hx).2.2 with h | h
   ·exact (HFA.out x h).1
   ·omega,(hf2 x hx).2.1⟩
  have HNB:Hid (nodes b≤600000):=by unfold Hid;omega
  clear hp2 hf2 hc2 hbb HA1 HR1 hzs hB3
  (try dsimp only)
  refine hK.out _ _ (HS.out _ hC2) (fun _=>trivial) ?_
  clear hK K
  (try simp only [zz])
  refine w1 7 rfl fun K hK=>?_
  go_simp
  (try dsimp only)
  refine hK.out _ _ (HS.out _ hC2) (fun _=>trivial) ?_
  clear hK K
  (try simp only [zz])
  refine w1 8 rfl fun K hK=>?_
  have yy0:C2.cell? ⟨w,0,none⟩=some (.int .i64 0):=(K22.out.cell 0).trans (by simp)
  have ff0:=K22.out.frozen 0
  have yy1:C2.cell? ⟨w,1,none⟩=some (.int .i64 0):=(K22.out.cell 1).trans (by simp)
  have ff1:=K22.out.frozen 1
  have yylt:=K22.out.lt
  have hC12:Chg [g,w.heap.size,w.heap.size+1] wb ((C2.setCell ⟨w,0,none⟩ (.int .i64 t.d)).setCell ⟨w,1,none⟩ (.int .i64 t.i)):=((hC2.set (by simp)).set (by simp))
  have KK12:Hid (Blk ((C2.setCell ⟨w,0,none⟩ (.int .i64 t.d)).setCell ⟨w,1,none⟩ (.int .i64 t.i)) (w.heap.size) 25 #[t.d,t.i]):=((K22.out.set_ 0 _).set_ 1 _)
  have K3212:Hid (Blk ((C2.setCell ⟨w,0,none⟩ (.int .i64 t.d)).setCell ⟨w,1,none⟩ (.int .i64 t.i)) (w.heap.size+1) 45 #[(0:Int),(0:Int),.slice none 0 0]):=((K32.out.same (zz7 _ _ _ _ (by show w.heap.size+1≠w.heap.size;omega))).same (zz7 _ _ _ _ (by show w.heap.size+1≠w.heap.size;omega)))
  have hz12:(((C2.setCell ⟨w,0,none⟩ (.int .i64 t.d)).setCell ⟨w,1,none⟩ (.int .i64 t.i))).heap.size=C2.heap.size:=by simp [World.setCell]
  have hkA12:Kept F6 C2 ((C2.setCell ⟨w,0,none⟩ (.int .i64 t.d)).setCell ⟨w,1,none⟩ (.int .i64 t.i)):=fun x hx=>by rw [zz7 _ _ _ _ (by show x≠w.heap.size;have:=HF6.out x hx;omega),zz7 _ _ _ _ (by show x≠w.heap.size;have:=HF6.out x hx;omega)]
  have hkB12:Kept Fb C2 ((C2.setCell ⟨w,0,none⟩ (.int .i64 t.d)).setCell ⟨w,1,none⟩ (.int .i64 t.i)):=fun x hx=>by rw [zz7 _ _ _ _ (by show x≠w.heap.size;have:=HFB.out x hx;omega),zz7 _ _ _ _ (by show x≠w.heap.size;have:=HFB.out x hx;omega)]
  go_simp
  refine hK.out _ _ (HS.out _ hC12) (fun _=>trivial) ?_
  clear hK K
  (try simp only [zz])
  clear yy0 ff0 yy1 ff1 yylt
  obtain ⟨D2,hX⟩:∃ X,X=((C2.setCell ⟨w,0,none⟩ (.int .i64 t.d)).setCell ⟨w,1,none⟩ (.int .i64 t.i)):=⟨_,rfl⟩
  rw [←hX] at hC12 KK12 K3212 hz12 hkA12 hkB12 ⊢
  clear hX
  refine w1 9 rfl fun K hK=>?_
  have yy0:D2.cell? ⟨w.heap.size+1,0,none⟩=some (.int .i64 0):=(K3212.out.cell 0).trans (by simp)
  have ff0:=K3212.out.frozen 0
  have yy1:D2.cell? ⟨w.heap.size+1,1,none⟩=some (.int .i64 0):=(K3212.out.cell 1).trans (by simp)
  have ff1:=K3212.out.frozen 1
  have yy2:D2.cell? ⟨w.heap.size+1,2,none⟩=some (.slice none 0 0):=(K3212.out.cell 2).trans (by simp)
  have ff2:=K3212.out.frozen 2
  have yylt:=K3212.out.lt
  have hC13:Chg [g,w.heap.size,w.heap.size+1] wb (((D2.setCell ⟨w.heap.size+1,0,none⟩ (.int .i64 b.c)).setCell ⟨w.heap.size+1,1,none⟩ (.int .i64 b.n)).setCell ⟨w.heap.size+1,2,none⟩ (.slice qA b.ks.length qcap)):=(((hC12.set (by simp)).set (by simp)).set (by simp))
  have KK13:Hid (Blk (((D2.setCell ⟨w.heap.size+1,0,none⟩ (.int .i64 b.c)).setCell ⟨w.heap.size+1,1,none⟩ (.int .i64 b.n)).setCell ⟨w.heap.size+1,2,none⟩ (.slice qA b.ks.length qcap)) (w.heap.size+1) 45 #[b.c,b.n,.slice qA b.ks.length qcap]):=(((K3212.out.set_ 0 _).set_ 1 _).set_ 2 _)
  have KK1213:Hid (Blk (((D2.setCell ⟨w.heap.size+1,0,none⟩ (.int .i64 b.c)).setCell ⟨w.heap.size+1,1,none⟩ (.int .i64 b.n)).setCell ⟨w.heap.size+1,2,none⟩ (.slice qA b.ks.length qcap)) (w.heap.size) 25 #[t.d,t.i]):=(((KK12.out.same (zz7 _ _ _ _ (by show w.heap.size≠w.heap.size+1;omega))).same (zz7 _ _ _ _ (by show w.heap.size≠w.heap.size+1;omega))).same (zz7 _ _ _ _ (by show w.heap.size≠w.heap.size+1;omega)))
  have hz13:((((D2.setCell ⟨w.heap.size+1,0,none⟩ (.int .i64 b.c)).setCell ⟨w.heap.size+1,1,none⟩ (.int .i64 b.n)).setCell ⟨w.heap.size+1,2,none⟩ (.slice qA b.ks.length qcap))).heap.size=D2.heap.size:=by simp [World.setCell]
  have hkA13:Kept F6 D2 (((D2.setCell ⟨w.heap.size+1,0,none⟩ (.int .i64 b.c)).setCell ⟨w.heap.size+1,1,none⟩ (.int .i64 b.n)).setCell ⟨w.heap.size+1,2,none⟩ (.slice qA b.ks.length qcap)):=fun x hx=>by rw [zz7 _ _ _ _ (by show x≠w.heap.size+1;have:=HF6.out x hx;omega),zz7 _ _ _ _ (by show x≠w.heap.size+1;have:=HF6.out x hx;omega),zz7 _ _ _ _ (by show x≠w.heap.size+1;have:=HF6.out x hx;omega)]
  have hkB13:Kept Fb D2 (((D2.setCell ⟨w.heap.size+1,0,none⟩ (.int .i64 b.c)).setCell ⟨w.heap.size+1,1,none⟩ (.int .i64 b.n)).setCell ⟨w.heap.size+1,2,none⟩ (.slice qA b.ks.length qcap)):=fun x hx=>by rw [zz7 _ _ _ _ (by show x≠w.heap.size+1;have:=HFB.out x hx;omega),zz7 _ _ _ _ (by show x≠w.heap.size+1;have:=HFB.out x hx;omega),zz7 _ _ _ _ (by show x≠w.heap.size+1;have:=HFB.out x hx;omega)]
  go_simp
  refine hK.out _ _ (HS.out _ hC13) (fun _=>trivial) ?_
  clear hK K
  (try simp only [zz])
  clear yy0 ff0 yy1 ff1 yy2 ff2 yylt
  obtain ⟨D3,hX⟩:∃ X,X=(((D2.setCell ⟨w.heap.size+1,0,none⟩ (.int .i64 b.c)).setCell ⟨w.heap.size+1,1,none⟩ (.int .i64 b.n)).setCell ⟨w.heap.size+1,2,none⟩ (.slice qA b.ks.length qcap)):=⟨_,rfl⟩
  rw [←hX] at hC13 KK13 KK1213 hz13 hkA13 hkB13 ⊢
  clear hX
  refine wE (by kernel_rfl) ?_
  clear hS0 hT0
  have HFin:Hid (DrewWTV w (.returned (.tuple #[v6,.agg #[t.d,t.i],.agg #[b.c,b.n,.slice qA b.ks.length qcap]])) D3):=by
   have hz:D3.heap.size=C2.heap.size:=by rw [hz13,hz12]
   refine ⟨ys,v6,F6,t,b,[b.c,b.n,.slice qA b.ks.length qcap],Fb,rfl,HBb.out.trans (hC13.below (by intro x hx;simp at hx;omega) HBb.out.size),ArrDt.mono (ArrDt.mono HA2.out hkA12) hkA13,?_,VR.mono _ _ _ hkB13 (VR.mono _ _ _ hkB12 HPB.out),?_,HNB.out⟩
   ·intro x hx;rw [hz];exact ⟨by have:=(HF6.out x hx).1;omega,HU2.out x hx⟩
   ·intro x hx;rw [hz];exact ⟨by have:=(HFB.out x hx).1;omega,HUB.out x hx⟩
  clear hkA12 hkA13 hkB12 hkB13 hC12 hC13 hC2 hC1 hC0
  go_wp2
  refine bodyPost_ret (zAJ rfl _ _ (w.heap.size) (w.heap.size+1) 25 45 #[t.d,t.i] #[b.c,b.n,.slice qA b.ks.length qcap] (0,0) (0,0) _ _ rfl KK1213.out Tryz.underlying25 rfl rfl rfl KK13.out Tryz.underlying45 rfl rfl) rfl ?_
  exact HFin.out
theorem spec_DrawPatternOf (bs:List Int) (w:World) (v:Value) (F:List Nat) (hx:Arr w (ByR w) bs v F) (hf:Under w F) :
  Calls Tryz.prog 23 #[v] w (DrewWTV w):=by
 have hB1:Below w w ((w.alloc (.cells #[(0:Int),(0:Int)] 25)).alloc (.cells #[(0:Int),(0:Int),.slice none 0 0] 45)):=((zy2 _ _).alloc (zz8 _) _).alloc (by simp) _
 have K1:Hid (Blk ((w.alloc (.cells #[(0:Int),(0:Int)] 25)).alloc (.cells #[(0:Int),(0:Int),.slice none 0 0] 45)) w.heap.size 25 #[(0:Int),(0:Int)]):=(Blk.new w _ _).same (Below.heap_alloc _ _ _ (by simp))
 have J1:Hid (Blk ((w.alloc (.cells #[(0:Int),(0:Int)] 25)).alloc (.cells #[(0:Int),(0:Int),.slice none 0 0] 45)) (w.heap.size+1) 45 #[(0:Int),(0:Int),.slice none 0 0]):=zAG w _ 45 _
 have HX:Hid (Arr ((w.alloc (.cells #[(0:Int),(0:Int)] 25)).alloc (.cells #[(0:Int),(0:Int),.slice none 0 0] 45)) (ByR ((w.alloc (.cells #[(0:Int),(0:Int)] 25)).alloc (.cells #[(0:Int),(0:Int),.slice none 0 0] 45))) bs v F):=ArrBy.mono hx (.of_below hB1 hf)
 have HU:Hid (Under (((w.alloc (.cells #[(0:Int),(0:Int)] 25)).alloc (.cells #[(0:Int),(0:Int),.slice none 0 0] 45))).heap.size F):=hf.mono hB1.size
 have hs1:(((w.alloc (.cells #[(0:Int),(0:Int)] 25)).alloc (.cells #[(0:Int),(0:Int),.slice none 0 0] 45))).heap.size=w.heap.size+2:=by simp
 clear hx hf
 go_enter Tryz.func23,Tryz.ntmps23
 go_wp2_with fail
 obtain ⟨w1,hw1⟩:∃ X,X=((w.alloc (.cells #[(0:Int),(0:Int)] 25)).alloc (.cells #[(0:Int),(0:Int),.slice none 0 0] 45)):=⟨_,rfl⟩
 rw [←hw1] at hB1 K1 J1 HX HU hs1 ⊢
 clear hw1
 refine (spec_DrawValueValid bs w1 v F HX.out HU.out).mono ?_
 rintro e w3 ⟨xs,v4,FW,t,a,csa,Fa,rfl,hb3,hx3,hfx3,hp3,hf3,hn3⟩
 obtain ⟨kva,rfl,haa⟩:=(zA6 _ _ _).1 hp3
 obtain ⟨pA,pcap,rfl,-,-⟩:=haa.form
 have K3:Hid (Blk w3 w 25 #[(0:Int),(0:Int)]):=K1.out.same (hb3.block _ (by omega))
 have J3:Hid (Blk w3 (w.heap.size+1) 45 #[(0:Int),(0:Int),.slice none 0 0]):=J1.out.same (hb3.block _ (by omega))
 have HP3:=jj hp3
 have HX3:=jj hx3
 have hz3:=hb3.size
 have HF3:Hid (∀ x∈Fa,w.heap.size+1<x∧x<w3.heap.size):=fun x hx=>⟨by have:=(hf3 x hx).1;omega,(hf3 x hx).2⟩
 have HG3:Hid (∀ x∈FW,w.heap.size+1<x∧x<w3.heap.size):=fun x hx=>⟨by have:=(hfx3 x hx).1;omega,(hfx3 x hx).2⟩
 have HB3:Hid (Below w w w3):=hB1.trans (hb3.mono hB1.size)
 have HN:=jj hn3
 have r0:w3.cell? ⟨w,0,none⟩=some (.int .i64 0):=(K3.out.cell 0).trans (by simp)
 have r1:w3.cell? ⟨w,1,none⟩=some (.int .i64 0):=(K3.out.cell 1).trans (by simp)
 have rf0:=K3.out.frozen 0
 have rf1:=K3.out.frozen 1
 have rlt:=K3.out.lt
 have s0:w3.cell? ⟨w.heap.size+1,0,none⟩=some (.int .i64 0):=(J3.out.cell 0).trans (by simp)
 have sf0:=J3.out.frozen 0
 have s1:w3.cell? ⟨w.heap.size+1,1,none⟩=some (.int .i64 0):=(J3.out.cell 1).trans (by simp)
 have sf1:=J3.out.frozen 1
 have s2:w3.cell? ⟨w.heap.size+1,2,none⟩=some (.slice none 0 0):=(J3.out.cell 2).trans (by simp)
 have sf2:=J3.out.frozen 2
 have slt:=J3.out.lt
 clear hb3 hp3 hf3 haa hx3 hfx3 hn3
 go_wp2
 clear r0 r1 rf0 rf1 rlt s0 sf0 s1 sf1 s2 sf2 slt
 have K7:Blk (((((w3.setCell ⟨w,0,none⟩ (.int .i64 t.d)).setCell ⟨w,1,none⟩ (.int .i64 t.i)).setCell ⟨w.heap.size+1,0,none⟩ (.int .i64 a.c)).setCell ⟨w.heap.size+1,1,none⟩ (.int .i64 a.n)).setCell ⟨w.heap.size+1,2,none⟩ (.slice pA a.ks.length pcap)) w.heap.size 25 #[t.d,t.i]:=(((((K3.out.set_ 0 _).set_ 1 _)).same (zz7 _ _ _ _ (by show w.heap.size≠w.heap.size+1;omega))).same (zz7 _ _ _ _ (by show w.heap.size≠w.heap.size+1;omega))).same (zz7 _ _ _ _ (by show w.heap.size≠w.heap.size+1;omega))
 have J6:Blk ((w3.setCell ⟨w,0,none⟩ (.int .i64 t.d)).setCell ⟨w,1,none⟩ (.int .i64 t.i)) (w.heap.size+1) 45 #[(0:Int),(0:Int),.slice none 0 0]:=((J3.out).same (zz7 _ _ _ _ (by show w.heap.size+1≠w.heap.size;omega))).same (zz7 _ _ _ _ (by show w.heap.size+1≠w.heap.size;omega))
 have J7:Blk (((((w3.setCell ⟨w,0,none⟩ (.int .i64 t.d)).setCell ⟨w,1,none⟩ (.int .i64 t.i)).setCell ⟨w.heap.size+1,0,none⟩ (.int .i64 a.c)).setCell ⟨w.heap.size+1,1,none⟩ (.int .i64 a.n)).setCell ⟨w.heap.size+1,2,none⟩ (.slice pA a.ks.length pcap)) (w.heap.size+1) 45 #[a.c,a.n,.slice pA a.ks.length pcap]:=J6.three _ _ _
 refine bodyPost_ret (zAJ rfl _ _ w.heap.size (w.heap.size+1) 25 45 #[t.d,t.i] #[a.c,a.n,.slice pA a.ks.length pcap] (0,0) (0,0) _ _ rfl K7 Tryz.underlying25 rfl rfl rfl J7 Tryz.underlying45 rfl rfl) rfl ?_
 have hk2:∀ (G:List Nat),(∀ x∈G,w.heap.size+1<x∧x<w3.heap.size)→Kept G w3 (((((w3.setCell ⟨w,0,none⟩ (.int .i64 t.d)).setCell ⟨w,1,none⟩ (.int .i64 t.i)).setCell ⟨w.heap.size+1,0,none⟩ (.int .i64 a.c)).setCell ⟨w.heap.size+1,1,none⟩ (.int .i64 a.n)).setCell ⟨w.heap.size+1,2,none⟩ (.slice pA a.ks.length pcap)):=fun G hG x hx=>by
  have h:=(hG x hx).1
  rw [zz7 _ _ _ _ (by show x≠w.heap.size+1;omega),zz7 _ _ _ _ (by show x≠w.heap.size+1;omega),zz7 _ _ _ _ (by show x≠w.heap.size+1;omega),zz7 _ _ _ _ (by show x≠w.heap.size;omega),zz7 _ _ _ _ (by show x≠w.heap.size;omega)]
 have hsz:((((((w3.setCell ⟨w,0,none⟩ (.int .i64 t.d)).setCell ⟨w,1,none⟩ (.int .i64 t.i)).setCell ⟨w.heap.size+1,0,none⟩ (.int .i64 a.c)).setCell ⟨w.heap.size+1,1,none⟩ (.int .i64 a.n)).setCell ⟨w.heap.size+1,2,none⟩ (.slice pA a.ks.length pcap))).heap.size=w3.heap.size:=by simp [World.setCell]
 refine ⟨xs,v4,FW,t,a,[a.c,a.n,.slice pA a.ks.length pcap],Fa,rfl,below_three ((HB3.out.setCell (zz8 _) _).setCell (zz8 _) _) (Nat.le_succ _) _ _ _,ArrDt.mono HX3.out (hk2 FW HG3.out),fun x hx=>⟨by have:=(HG3.out x hx).1;omega,by rw [hsz];exact (HG3.out x hx).2⟩,VR.mono _ _ _ (hk2 Fa HF3.out) HP3.out,fun x hx=>⟨by have:=(HF3.out x hx).1;omega,by rw [hsz];exact (HF3.out x hx).2⟩,HN.out⟩
structure Upto (v:V) (most:Int) (c:Int):Prop where
 lo:1≤c
 hi:c≤nodes v
 yes:(nodes v:Int)≤most→c=nodes v
 no:most<nodes v→most<c
def CountPost (v:V) (most:Int) (w:World) (e:Ending) (w':World):Prop:=∃ c:Int,e=.returned (.int .i64 c)∧Upto v most c∧Below w w w'
def CountS (v:V):Prop:=∀ (most:Int) (_:0≤most) (_:most≤1000) (w:World) (cs:List Value) (G:List Nat),VR w v cs G→Under w G→nodes v≤2000000 →
 Calls Tryz.prog 155 #[.agg cs.toArray,.int .i64 most] w (CountPost v most w)
theorem l2Count_of (v:V) (ih:∀ k∈v.ks,CountS k):CountS v:=by
 intro most hm0 hm1 w cs G hv hg hz
 obtain ⟨kv,rfl,ha⟩:=(zA6 _ _ _).1 hv
 obtain ⟨A4,cap4,rfl,hc3,hc4⟩:=ha.form
 have IH:=jj ih
 have HZ:=jj hz
 have HA:=jj ha
 have HG:=jj hg
 clear ha hg
 clear ih hv hz
 have hkl:v.ks.length≤2000000:=by have:=HZ.out;rw [zAI,V.sizes_eq] at this;omega
 go_enter Tryz.func155,Tryz.ntmps155
 go_wp2
 have hB0:Below w w (w.alloc (.cells #[v.c,v.n,.slice A4 v.ks.length cap4] 45)):=(zy2 _ _).alloc (zz8 _) _
 have K0:Hid (Blk (w.alloc (.cells #[v.c,v.n,.slice A4 v.ks.length cap4] 45)) w.heap.size 45 #[v.c,v.n,.slice A4 v.ks.length cap4]):=Blk.new _ _ _
 go_loopw [5,6] (fun nv iv wr=>∃ i:Nat,∃ n:Int,i≤v.ks.length∧iv=.int .i64 i∧nv=.int .i64 n∧1≤n∧n≤2000000∧Hid (n≤1+(V.sizes (v.ks.take i):Nat)∧(1+((V.sizes (v.ks.take i):Nat):Int)≤most→n=1+(V.sizes (v.ks.take i):Nat))∧(most<1+((V.sizes (v.ks.take i):Nat):Int)→most<n))∧Hid (Blk wr w 45 #[v.c,v.n,.slice A4 v.ks.length cap4])∧Below w w wr) (fun _ iv _=>v.ks.length-(intOf iv).toNat)
 case atStart=>exact ⟨0,1,Nat.zero_le _,rfl,rfl,by omega,by omega,⟨by simp [V.sizes],fun _=>by simp [V.sizes],fun h=>by simpa [V.sizes] using h⟩,K0,hB0⟩
 case round =>
  clear hB0 K0
  obtain ⟨i,n,hi,rfl,rfl,hn1,hn2,HN,KV,hB⟩:=hrel
  have z2:wr.cell? ⟨w,2,none⟩=some (.slice A4 v.ks.length cap4):=(KV.out.cell 2).trans (by simp)
  have klt:=KV.out.lt
  have hend:(¬(i<v.ks.length∧n≤most))→CountPost v most w (.returned (.int .i64 n)) wr:=fun h=>by
   have h1:=HN.out
   have h2:=sizes_take_le v.ks i
   have h3:=zAI v
   refine ⟨n,rfl,⟨hn1,by omega,fun hy=>?_,fun hno=>?_⟩,hB⟩
   ·by_cases hil:i<v.ks.length
    ·have:¬n≤most:=fun hnm=>h ⟨hil,hnm⟩
     have:=h1.2.1 (by omega)
     omega
    ·rw [List.take_of_length_le (by omega)] at h1
     have:=h1.2.1 (by omega)
     omega
   ·by_cases hil:i<v.ks.length
    ·have:¬n≤most:=fun hnm=>h ⟨hil,hnm⟩
     omega
    ·rw [List.take_of_length_le (by omega)] at h1
     exact h1.2.2 (by omega)
  have HEnd:=jj hend
  clear hend
  by_cases hil:i<v.ks.length
  ·have t1:decide ((i:Int)<(v.ks.length:Int))=true:=by simp;omega
   by_cases hnm:n≤most
   ·have t2:decide (n≤most)=true:=by simpa using hnm
    obtain ⟨b4,off4,rfl⟩:=HA.out.ptr (by omega)
    obtain ⟨A7,cap7,G7,hb7,k0,k1,k2,HV7,HG7,-,-,-⟩:=ArrV.at HA.out HG.out hB i hil
    have g1:(0:Int)≤(i:Int):=by omega
    have g2:(i:Int)<(v.ks.length:Int):=by omega
    have hst:=sizes_step hil
    have hsl:=sizes_take_le v.ks (i+1)
    have hnk:=zAI v
    have hz:=HZ.out
    have hkz:nodes v.ks[i]≤2000000:=by omega
    have HKZ:=jj hkz
    have HST:=jj (And.intro hst (And.intro hsl hnk))
    clear hst hsl hnk hz hkz
    go_wp2_with fail
    refine (IH.out v.ks[i] (List.getElem_mem hil) (most-n) (by omega) (by omega) wr _ G7 (HV7.out.below hB HG7.out) (HG7.out.mono hB.size) HKZ.out).mono ?_
    rintro e w' ⟨c,rfl,hu,hB'⟩
    have hB3:=hB.trans (hB'.mono hB.size)
    have KV3:=jj (KV.out.same (hB'.block _ KV.out.lt))
    have hc1:=hu.lo
    have hN2:Hid (n+c≤1+(V.sizes (v.ks.take (i+1)):Nat)∧(1+((V.sizes (v.ks.take (i+1)):Nat):Int)≤most→n+c=1+(V.sizes (v.ks.take (i+1)):Nat))∧(most<1+((V.sizes (v.ks.take (i+1)):Nat):Int)→most<n+c)):=by
     have h1:=HN.out
     obtain ⟨h2,h3,h4⟩:=HST.out
     have h5:=hu.hi
     have h6:=hu.yes
     have h7:=hu.no
     have h8:n=1+((V.sizes (v.ks.take i):Nat):Int):=by
      rcases Int.lt_or_le most (1+((V.sizes (v.ks.take i):Nat):Int)) with h | h
      ·have:=h1.2.2 h;omega
      ·exact h1.2.1 h
     refine ⟨by omega,fun hy=>?_,fun hno=>?_⟩
     ·have:=h6 (by omega);omega
     ·have:=h7 (by omega);omega
    have hn3:n+c≤2000000:=by
     have h1:=hN2.out.1
     obtain ⟨h2,h3,h4⟩:=HST.out
     have:=HZ.out
     omega
    clear hu t1 t2 z2 klt k0 k1 k2 hB'
    go_wp2
    go_roundw
    case rel=>exact ⟨i+1,n+c,by omega,by go_num,rfl,by omega,hn3,hN2,KV3,hB3⟩
    case measure=>(simp [intOf] <;> omega)
   ·have t2:decide (n≤most)=false:=by simpa using hnm
    have HFin:=jj (HEnd.out (fun h=>hnm h.2))
    go_wp2
    go_ret
    exact HFin.out
  ·have t1:decide ((i:Int)<(v.ks.length:Int))=false:=by simp;omega
   have HFin:=jj (HEnd.out (fun h=>hil h.1))
   go_wp2
   go_ret
   exact HFin.out
theorem spec_l2Count:∀ v,CountS v:=V.indv l2Count_of
def scanB (xs:List Dt) (d:Nat) (t:Ty) (v:V) (c:Int):Bool:=fitsV xs d t v && decide (c+nodes v≤60)
def ScanPost (xs:List Dt) (d:Nat) (t:Ty) (v:V) (c:Int) (g:Nat) (w:World) (e:Ending) (w':World):Prop :=
 ∃ c':Int,e=.returned (.bool (scanB xs d t v c))∧Chg [g] w w'∧Blk w' g 3 #[.int .i64 c']∧(scanB xs d t v c=true→c'=c+nodes v)∧0≤c'
def ScanI (v:V):Prop:=∀ (xs:List Dt) (_:WorldOK xs) (d deep:Nat) (_:d+deep=11) (_:1≤deep) (t:Ty) (_:TyIn xs.length t) (w:World) (x:Value) (F:List Nat) (cs:List Value) (G:List Nat) (g:Nat) (c:Int),Arr w (DtR w) xs x F→Under w F→VR w v cs G→Under w G →
 Blk w g 3 #[.int .i64 c]→g∉F→g∉G→0≤c→c≤60 →
 Calls Tryz.prog 120 #[x,.agg #[t.d,t.i],.agg cs.toArray,(deep:Int),.bool false,.pointer (some ⟨g,0,none⟩)] w (ScanPost xs d t v c g w)
theorem isNum_nodes {v:V} (h:isNum v=true):nodes v=1:=by
 unfold isNum at h
 simp only [Bool.and_eq_true,decide_eq_true_eq] at h
 rw [zAI,List.length_eq_zero_iff.1 h.2.2];rfl
theorem valueScan_of (v:V) (ih:∀ k∈v.ks,ScanI k):ScanI v:=by
 intro xs hw d deep hdd hdp t ht w x F cs G g c hx hf hv hg hgb hgF hgG hc0 hc60
 obtain ⟨kv,rfl,ha⟩:=(zA6 _ _ _).1 hv
 obtain ⟨A,cap,rfl,hc1,hc2⟩:=hx.form
 obtain ⟨A4,cap4,rfl,hc3,hc4⟩:=ha.form
 have HW:=jj hw
 have IH:=jj ih
 have HGF:=jj hgF
 have HGG:=jj hgG
 have hgl:=hgb.lt
 have gx:w.cell? ⟨g,0,none⟩=some (.int .i64 c):=(hgb.cell 0).trans (by simp)
 have gf:=hgb.frozen 0
 have HGB:=jj hgb
 have HNP:Hid (1≤nodes v):=by unfold nodes;exact Nat.le_add_right _ _
 have HX:=jj hx
 have HF:=jj hf
 have HA:=jj ha
 have HG:=jj hg
 clear hx hf ha hg
 clear hw ih hv hgF hgG hgb
 by_cases hcc:60<c+1
 ·have t9:decide (c+1>60)=true:=by simpa using hcc
  have HT:Hid (scanB xs d t v c=false):=by
   have:=HNP.out
   unfold Hid scanB;rw [decide_eq_false (by omega),Bool.and_false]
  have KG:Hid (Blk (((w.setCell ⟨g,0,none⟩ (.int .i64 (c+1))).alloc (.cells #[t.d,t.i] 25)).alloc (.cells #[v.c,v.n,.slice A4 v.ks.length cap4] 45)) g 3 #[.int .i64 (c+1)]):=by
   have h1:Blk (w.setCell ⟨g,0,none⟩ (.int .i64 (c+1))) g 3 #[.int .i64 (c+1)]:=HGB.out.set_ 0 (.int .i64 (c+1))
   exact (h1.same (Below.heap_alloc _ _ _ h1.lt)).same (Below.heap_alloc _ _ _ (by have:=h1.lt;simp;omega))
  have HCG:Hid (Chg [g] w (((w.setCell ⟨g,0,none⟩ (.int .i64 (c+1))).alloc (.cells #[t.d,t.i] 25)).alloc (.cells #[v.c,v.n,.slice A4 v.ks.length cap4] 45))):=(((Chg.refl [g] w).set (by simp)).step ((zy2 _ _).alloc (zz8 _) _)).step ((zy2 _ _).alloc (zz8 _) _)
  have hfin:ScanPost xs d t v c g w (.returned (.bool false)) (((w.setCell ⟨g,0,none⟩ (.int .i64 (c+1))).alloc (.cells #[t.d,t.i] 25)).alloc (.cells #[v.c,v.n,.slice A4 v.ks.length cap4] 45)):=⟨c+1,by rw [HT.out],HCG.out,KG.out,(fun h=>by rw [HT.out] at h;cases h),by omega⟩
  have HFin:=jj hfin
  clear hfin
  go_enter Tryz.func120,Tryz.ntmps120
  go_wp2
  go_ret
  exact HFin.out
 ·have t9:decide (c+1>60)=false:=by simp;omega
  cases d with
  |zero =>
   have t8:decide ((deep:Int)>10)=true:=by simp;omega
   have HT:Hid (scanB xs 0 t v c=false):=rfl
   have KG:Hid (Blk (((w.setCell ⟨g,0,none⟩ (.int .i64 (c+1))).alloc (.cells #[t.d,t.i] 25)).alloc (.cells #[v.c,v.n,.slice A4 v.ks.length cap4] 45)) g 3 #[.int .i64 (c+1)]):=by
    have h1:Blk (w.setCell ⟨g,0,none⟩ (.int .i64 (c+1))) g 3 #[.int .i64 (c+1)]:=HGB.out.set_ 0 (.int .i64 (c+1))
    exact (h1.same (Below.heap_alloc _ _ _ h1.lt)).same (Below.heap_alloc _ _ _ (by have:=h1.lt;simp;omega))
   have HCG:Hid (Chg [g] w (((w.setCell ⟨g,0,none⟩ (.int .i64 (c+1))).alloc (.cells #[t.d,t.i] 25)).alloc (.cells #[v.c,v.n,.slice A4 v.ks.length cap4] 45))):=(((Chg.refl [g] w).set (by simp)).step ((zy2 _ _).alloc (zz8 _) _)).step ((zy2 _ _).alloc (zz8 _) _)
   have hfin:ScanPost xs 0 t v c g w (.returned (.bool false)) (((w.setCell ⟨g,0,none⟩ (.int .i64 (c+1))).alloc (.cells #[t.d,t.i] 25)).alloc (.cells #[v.c,v.n,.slice A4 v.ks.length cap4] 45)):=⟨c+1,by rw [HT.out],HCG.out,KG.out,(fun h=>by rw [HT.out] at h;cases h),by omega⟩
   have HFin:=jj hfin
   clear hfin
   go_enter Tryz.func120,Tryz.ntmps120
   go_wp2
   go_ret
   exact HFin.out
  |succ d =>
  have t8:decide ((deep:Int)>10)=false:=by simp;omega
  obtain ⟨W3,hW3⟩:∃ W3,W3=(((w.setCell ⟨g,0,none⟩ (.int .i64 (c+1))).alloc (.cells #[t.d,t.i] 25)).alloc (.cells #[v.c,v.n,.slice A4 v.ks.length cap4] 45)):=⟨_,rfl⟩
  have KT:Hid (Blk W3 w 25 #[t.d,t.i]):=by
   rw [hW3]
   have h:=Blk.new (w.setCell ⟨g,0,none⟩ (.int .i64 (c+1))) 25 #[t.d,t.i]
   rw [show ((w.setCell ⟨g,0,none⟩ (.int .i64 (c+1)))).heap.size=w.heap.size from by simp [World.setCell]] at h
   exact h.same (Below.heap_alloc _ _ _ (by simp [World.setCell]))
  have KV:Hid (Blk W3 (w.heap.size+1) 45 #[v.c,v.n,.slice A4 v.ks.length cap4]):=by
   rw [hW3]
   have h:=Blk.new ((w.setCell ⟨g,0,none⟩ (.int .i64 (c+1))).alloc (.cells #[t.d,t.i] 25)) 45 #[v.c,v.n,.slice A4 v.ks.length cap4]
   rw [World.size_alloc,show ((w.setCell ⟨g,0,none⟩ (.int .i64 (c+1)))).heap.size=w.heap.size from by simp [World.setCell]] at h
   exact h
  have KG:Hid (Blk W3 g 3 #[.int .i64 (c+1)]):=by
   rw [hW3]
   have h1:Blk (w.setCell ⟨g,0,none⟩ (.int .i64 (c+1))) g 3 #[.int .i64 (c+1)]:=HGB.out.set_ 0 (.int .i64 (c+1))
   exact (h1.same (Below.heap_alloc _ _ _ h1.lt)).same (Below.heap_alloc _ _ _ (by have:=h1.lt;simp;omega))
  have HCG:Hid (Chg [g] w W3):=by
   rw [hW3];exact (((Chg.refl [g] w).set (by simp)).step ((zy2 _ _).alloc (zz8 _) _)).step ((zy2 _ _).alloc (zz8 _) _)
  have HX3:Hid (Arr W3 (DtR W3) xs (.slice A xs.length cap) F):=ArrDt.mono HX.out (HCG.out.kept HF.out (fun b hb h=>HGF.out (by rw [←List.mem_singleton.1 h];exact hb)))
  have HF3:=jj (HF.out.mono HCG.out.size)
  have HA3:Hid (Arr W3 (VR W3) v.ks (.slice A4 v.ks.length cap4) G):=ArrV.mono HA.out (HCG.out.kept HG.out (fun b hb h=>HGG.out (by rw [←List.mem_singleton.1 h];exact hb)))
  have HG3:=jj (HG.out.mono HCG.out.size)
  obtain ⟨y0,y1,-⟩:=KT.out.c2
  obtain ⟨z0,z1,z2,-⟩:=KV.out.c3
  have klt:=KT.out.lt
  have klt2:=KV.out.lt
  have hgl3:=KG.out.lt
  rcases ht with ht | ⟨q,r,rfl,hql,hrl⟩
  ·have t0:(t.d == -1)=true:=by simp [ht]
   have hfi:=zB9 (xs:=xs) (d:=d) (v:=v) ht
   have hEnd:∀ r:Bool,isNum v=r→ScanPost xs (d+1) t v c g w (.returned (.bool r)) W3:=fun r hr=>by
    have hT:scanB xs (d+1) t v c=r:=by
     unfold scanB
     rw [hfi,hr]
     cases r with
     |false=>rfl
     |true=>rw [isNum_nodes hr,Bool.true_and];exact decide_eq_true (by omega)
    exact ⟨c+1,by rw [hT],HCG.out,KG.out,(fun h=>by rw [hT] at h;rw [isNum_nodes (hr.trans h)];rfl),by omega⟩
   have HEnd:=jj hEnd
   clear hEnd hfi ht
   cases q0:(v.c == -1) with
   |false =>
    have HFin:=jj (HEnd.out false (by unfold isNum;rw [q0];rfl))
    go_enter Tryz.func120,Tryz.ntmps120
    go_wp2_with fail
    rw [←hW3]
    clear hW3
    go_wp2
    go_ret
    exact HFin.out
   |true =>
    cases q1:withinB v.n 0 9 with
    |false =>
     have HFin:=jj (HEnd.out false (by unfold isNum;rw [q0,q1];rfl))
     have HQ1:=jj q1
     clear q1
     go_enter Tryz.func120,Tryz.ntmps120
     go_wp2_with fail
     rw [←hW3]
     clear hW3
     refine (zAC v.n 0 9 W3).mono ?_
     rintro e w5 ⟨rfl,rfl⟩
     rw [HQ1.out]
     go_wp2
     go_ret
     exact HFin.out
    |true =>
     by_cases q2:v.ks.length=0
     ·have HFin:=jj (HEnd.out true (by unfold isNum;rw [q0,q1,decide_eq_true q2];rfl))
      have t3:((v.ks.length:Int)==0)=true:=by simp [q2]
      have HQ1:=jj q1
      clear q1 q2
      go_enter Tryz.func120,Tryz.ntmps120
      go_wp2_with fail
      rw [←hW3]
      clear hW3
      refine (zAC v.n 0 9 W3).mono ?_
      rintro e w5 ⟨rfl,rfl⟩
      rw [HQ1.out]
      go_wp2
      go_ret
      exact HFin.out
     ·have HFin:=jj (HEnd.out false (by unfold isNum;rw [q0,q1,decide_eq_false q2];rfl))
      have t3:((v.ks.length:Int)==0)=false:=by simp;simpa using q2
      have HQ1:=jj q1
      clear q1 q2
      go_enter Tryz.func120,Tryz.ntmps120
      go_wp2_with fail
      rw [←hW3]
      clear hW3
      refine (zAC v.n 0 9 W3).mono ?_
      rintro e w5 ⟨rfl,rfl⟩
      rw [HQ1.out]
      go_wp2
      go_ret
      exact HFin.out
  ·have t0:((q:Int) == -1)=false:=by rw [beq_eq_false_iff_ne];omega
   have hfd:=zB1 (xs:=xs) (d:=d) (v:=v) (t:=⟨(q:Int),(r:Int)⟩) (by show ¬((q:Int) = -1);omega)
   have HFD:=jj hfd
   clear hfd
   have HBad:Hid (∀ W c',fitsV xs (d+1) ⟨(q:Int),(r:Int)⟩ v=false∨(60:Int)<c+nodes v→Chg [g] w W→Blk W g 3 #[.int .i64 c']→0≤c'→ScanPost xs (d+1) ⟨(q:Int),(r:Int)⟩ v c g w (.returned (.bool false)) W):=fun W c' h hC hK hc'=>by
    have hT:scanB xs (d+1) ⟨(q:Int),(r:Int)⟩ v c=false:=by
     unfold scanB
     rcases h with h | h
     ·rw [h];rfl
     ·rw [decide_eq_false (by omega),Bool.and_false]
    exact ⟨c',by rw [hT],hC,hK,(fun h=>by rw [hT] at h;cases h),hc'⟩
   go_enter Tryz.func120,Tryz.ntmps120
   go_wp2_with fail
   rw [←hW3]
   clear hW3
   cases q0:(v.n==0) with
   |false =>
    have t1:(v.n != 0)=true:=by rw [bne,q0];rfl
    have HFin:Hid (∀ n,ScanPost xs (d+1) ⟨(q:Int),(r:Int)⟩ v c g w (.returned (.bool false)) (W3.drewN n)):=fun n=>HBad.out _ (c+1) (.inl (by rw [HFD.out,q0];rfl)) (HCG.out.drewN n) KG.out (by omega)
    clear q0
    go_quiet (fail)
    go_wp2
    go_ret
    exact HFin.out _
   |true =>
    have t1:(v.n != 0)=false:=by rw [bne,q0];rfl
    have h1:fitsV xs (d+1) ⟨(q:Int),(r:Int)⟩ v=(hasB (ctorsL xs ⟨(q:Int),(r:Int)⟩) v.c && (decide (v.ks.length=(argsOf xs ⟨(q:Int),(r:Int)⟩ v.c).length) && zipAll (fitsV xs d) (argsOf xs ⟨(q:Int),(r:Int)⟩ v.c) v.ks)):=by rw [HFD.out,q0,Bool.true_and]
    have H1:=jj h1
    have HIW:Hid (InWorld xs.length ⟨(q:Int),(r:Int)⟩):=.inr ⟨q,rfl,hql⟩
    clear h1 q0
    have hBr:=zy2 W3.heap.size W3
    have hkeep:Kp W3.heap.size (fun U=>U.cell? ⟨w,0,none⟩=(q:Int)∧U.cell? ⟨w,1,none⟩=(r:Int)∧U.cell? ⟨w.heap.size+1,0,none⟩=v.c∧U.cell? ⟨w.heap.size+1,1,none⟩=v.n∧U.cell? ⟨w.heap.size+1,2,none⟩=some (.slice A4 v.ks.length cap4)):=fun U U' h hUU hU=>⟨(hUU.cell (zz9 (klt) hU)).trans h.1,(hUU.cell (zz9 (klt) hU)).trans h.2.1,(hUU.cell (zz9 (klt2) hU)).trans h.2.2.1,(hUU.cell (zz9 (klt2) hU)).trans h.2.2.2.1,(hUU.cell (zz9 (klt2) hU)).trans h.2.2.2.2⟩
    have HKeep:=jj hkeep
    clear hkeep
    go_region_held3 (fun w'=>w'.cell? ⟨w,0,none⟩=(q:Int)∧w'.cell? ⟨w,1,none⟩=(r:Int)∧w'.cell? ⟨w.heap.size+1,0,none⟩=v.c∧w'.cell? ⟨w.heap.size+1,1,none⟩=v.n∧w'.cell? ⟨w.heap.size+1,2,none⟩=some (.slice A4 v.ks.length cap4)) (first | assumption | (exact ⟨y0,y1,z0,z1,z2⟩) | (exact HKeep.out W3.drew w4 ⟨y0,y1,z0,z1,z2⟩ hb4 (zz8 _)) | (exact HKeep.out w4 w5 (by assumption) hb5 hlew4)) (first | (go_at_call 115;((with_reducible refine (impl_ctorsOf xs ⟨(q:Int),(r:Int)⟩ _ _ F (ArrDt.below HX3.out hBr.drew HF3.out) (HF3.out.mono hBr.drew.size) HW.out HIW.out).mono ?_);rintro e w4 ⟨v4,F4,rfl,hb4,ha4,-,hfs4⟩);have hlew4:W3.heap.size≤w4.heap.size:=hb4.size) | (go_at_call 156;((with_reducible refine (impl_has (ctorsL xs ⟨(q:Int),(r:Int)⟩) v.c _ _ F4 ha4 hfs4.under).mono ?_);rintro e w5 ⟨rfl,hb5⟩)))
    have hBa:=hBr.drew.trans (hb4.mono hBr.drew.size)
    have hB5:=hBa.trans (hb5.mono hBa.size)
    have KT5:=jj (KT.out.same (hB5.block _ KT.out.lt))
    have KV5:=jj (KV.out.same (hB5.block _ KV.out.lt))
    have KG5:=jj (KG.out.same (hB5.block _ KG.out.lt))
    have HCG5:=jj (HCG.out.step hB5)
    have HX5:=jj (ArrDt.below HX3.out hB5 HF3.out)
    have HF5:=jj (HF3.out.mono hB5.size)
    have HA5:=jj (ArrV.below HA3.out hB5 HG3.out)
    have HG5:=jj (HG3.out.mono hB5.size)
    clear HKeep KT KV KG HCG HX3 HF3 HA3 HG3 y0 y1 z0 z1 z2 klt klt2 hBa hb4 hb5 ha4 hfs4 hBr t1 hgl3 gx gf
    cases e1:hasB (ctorsL xs ⟨(q:Int),(r:Int)⟩) v.c with
    |false =>
     have HFin:=jj (HBad.out w5 (c+1) (.inl (by rw [H1.out,e1];rfl)) HCG5.out KG5.out (by omega))
     clear e1
     go_wp2
     go_ret
     exact HFin.out
    |true =>
     obtain ⟨q',k,e2,hvc,hq',hkl⟩:=zAT (xs:=xs) (t:=⟨(q:Int),(r:Int)⟩) (.inr ⟨q,rfl,hql⟩) ((hasB_iff _ _).1 e1)
     obtain rfl:q=q':=Int.ofNat.inj e2
     have h2:=H1.out
     rw [e1,Bool.true_and,hvc,zAF hql hkl] at h2
     have H2:=jj h2
     clear h2 e1 e2
     have HAI:=jj (fun a ha=>argTy_in (HW.out.ctor hql hkl) (i:=(r:Int)) (by omega) (by omega) (a:=a) ha)
     have HLA:=jj (HW.out.ctor hql hkl).args
     obtain ⟨y0,y1,-⟩:=KT5.out.c2
     have z0:w5.cell? ⟨w.heap.size+1,0,none⟩=v.c:=(KV5.out.cell 0).trans (by simp)
     have klt:=KT5.out.lt
     have klt2:=KV5.out.lt
     have HVC:=jj hvc
     clear hvc
     go_wp2_with fail
     rw [HVC.out]
     refine (impl_argTypes xs q k (r:Int) hql hkl w5 _ F HX5.out HF5.out HLA.out).mono ?_
     rintro e w6 ⟨v6,F6,rfl,hb6,ha6,-,hfs6⟩
     have KV6:=jj (KV5.out.same (hb6.block _ KV5.out.lt))
     have KG6:=jj (KG5.out.same (hb6.block _ KG5.out.lt))
     have HCG6:=jj (HCG5.out.step hb6)
     generalize hass:argsL xs[q].ctors[k] (r:Int)=ls at *
     clear hass
     obtain ⟨A6,cap6,rfl,hd3,hd4⟩:=ha6.form
     have HA6:Hid (Arr w6 (TyR w6) ls (.slice A6 ls.length cap6) F6∧Under w6 F6):=⟨ha6,hfs6.under⟩
     have HN6:Hid (∀ b∈F6,b∉[g]):=fun b hb h=>by
      have h1:=(hfs6 b hb).1
      rw [List.mem_singleton.1 h] at h1
      have:=KG5.out.lt
      omega
     clear ha6 hfs6 KT5 KV5 KG5 HCG5 HX5 HF5 HA5 HG5 y0 y1 z0 klt klt2 hB5 hb6
     have z2:w6.cell? ⟨w.heap.size+1,2,none⟩=some (.slice A4 v.ks.length cap4):=(KV6.out.cell 2).trans (by simp)
     have klt2:=KV6.out.lt
     by_cases hln:v.ks.length=ls.length
     ·have t2:((ls.length:Int) != (v.ks.length:Int))=false:=by simp [hln]
      have h3:fitsV xs (d+1) ⟨(q:Int),(r:Int)⟩ v=zipAll (fitsV xs d) ls v.ks:=by rw [H2.out,decide_eq_true hln,Bool.true_and]
      have H3:=jj h3
      have HLN:=jj hln
      clear h3 hln
      go_wp2
      clear z2 klt2 t2
      go_loopw [90] (fun iv wr=>∃ i:Nat,∃ ci:Int,i≤v.ks.length∧iv=.int .i64 i∧0≤ci∧ci≤60∧Hid (ci=c+1+(V.sizes (v.ks.take i):Nat))∧Hid (fitsV xs (d+1) ⟨(q:Int),(r:Int)⟩ v=zipAll (fitsV xs d) (ls.drop i) (v.ks.drop i))∧Hid (Blk wr g 3 #[.int .i64 ci])∧Hid (Chg [g] w wr)∧Hid (Arr wr (TyR wr) ls (.slice A6 ls.length cap6) F6∧Under wr F6)) (fun iv _=>v.ks.length-(intOf iv).toNat)
      case atStart=>exact ⟨0,c+1,Nat.zero_le _,rfl,by omega,by omega,(by show c+1=c+1+((0:Nat):Int);omega),H3,KG6,HCG6,HA6⟩
      case round =>
       clear KG6 HCG6 HA6 KV6
       obtain ⟨i,ci,hi,rfl,hci0,hci1,HCI,HR,KG,HCG,HA6⟩:=hrel
       by_cases hik:i<v.ks.length
       ·have hil:i<ls.length:=by rw [←HLN.out];exact hik
        obtain ⟨b6,off6,rfl⟩:=HA6.out.1.ptr (by omega)
        have HAw:=jj (ArrV.mono HA.out (HCG.out.kept HG.out (fun b hb h=>HGG.out (by rw [←List.mem_singleton.1 h];exact hb))))
        have HGw:=jj (HG.out.mono HCG.out.size)
        have HXw:=jj (ArrDt.mono HX.out (HCG.out.kept HF.out (fun b hb h=>HGF.out (by rw [←List.mem_singleton.1 h];exact hb))))
        have HFw:=jj (HF.out.mono HCG.out.size)
        obtain ⟨b4,off4,rfl⟩:=HAw.out.ptr (by omega)
        obtain ⟨A7,cap7,G7,hb7,k0,k1,k2,HV7,HG7,hG7G,-,-⟩:=ArrV.at HAw.out HGw.out (zy2 _ _) i hik
        have HN7:Hid (g∉G7):=fun h=>HGG.out (hG7G _ h)
        clear hG7G
        have g1:(0:Int)≤(i:Int):=by omega
        have g2:(i:Int)<(ls.length:Int):=by omega
        have g3:(i:Int)<(v.ks.length:Int):=by omega
        have hstep:=HR.out
        rw [zipAll_step hil hik] at hstep
        have HST:=jj hstep
        clear hstep
        have hwr:IntKind.i64.wrap ((deep:Int)+1)=(deep:Int)+1:=IntWalk.i64_in _ (by omega)
        obtain ⟨W7,hW7⟩:∃ W7,W7=wr.alloc (.cells #[v.ks[i].c,v.ks[i].n,.slice A7 v.ks[i].ks.length cap7] 45):=⟨_,rfl⟩
        have hb77:Below wr wr W7:=by rw [hW7];exact (zy2 _ _).alloc (zz8 _) _
        have KX:Hid (Blk W7 wr 45 #[v.ks[i].c,v.ks[i].n,.slice A7 v.ks[i].ks.length cap7]):=by rw [hW7];exact Blk.new _ _ _
        have KG7:=jj (KG.out.same (hb77.block _ KG.out.lt))
        have HCG7:=jj (HCG.out.step hb77)
        have HX7:=jj (ArrDt.below HXw.out hb77 HFw.out)
        have HF7:=jj (HFw.out.mono hb77.size)
        have HV77:=jj (HV7.out.below hb77 HG7.out)
        have HG77:=jj (HG7.out.mono hb77.size)
        have HA67:Hid (Arr W7 (TyR W7) ls (.slice (some ⟨b6,off6,none⟩) ls.length cap6) F6∧Under W7 F6):=⟨ArrTy.below HA6.out.1 hb77 HA6.out.2,HA6.out.2.mono hb77.size⟩
        have hgw:g<wr.heap.size:=KG.out.lt
        have hne7:wr.heap.size≠g:=by omega
        go_wp2_with fail
        rw [←hW7]
        clear hW7 k0 k1 k2 hb7 HAw HGw HXw HFw HV7 HG7 KG HCG HA6
        obtain ⟨hb6,a0,a1⟩:=ArrTy.at HA67.out.1 HA67.out.2 (zy2 _ _) i hil
        have hb6n:b6≠g:=by
         obtain ⟨b',off',cs',G',e',hb',-⟩:=HA67.out.1.get TyR_len hil
         cases e'
         exact fun e=>HN6.out _ hb' (by rw [e];exact List.mem_singleton.2 rfl)
        obtain ⟨k0,k1,k2,kxl⟩:=KX.out.c3
        have HNE:=jj (show b6∉[g] from fun h=>hb6n (List.mem_singleton.1 h))
        have HNE7:=jj (show wr.heap.size∉[g] from fun h=>hne7 (List.mem_singleton.1 h))
        clear hb6n hne7 hgw
        have HCALL:=jj (IH.out v.ks[i] (List.getElem_mem hik) xs HW.out d (deep+1) (by omega) (by omega) ls[i] (HAI.out _ (List.getElem_mem hil)) W7.drew _ F _ G7 g ci (ArrDt.drew HX7.out) HF7.out HV77.out.drew HG77.out KG7.out HGF.out HN7.out hci0 hci1)
        rw [show ((deep+1:Nat):Int)=(deep:Int)+1 by omega] at HCALL
        go_region_held3 (fun w'=>w'.cell? ⟨b6,off6+i*2,none⟩=ls[i].d∧w'.cell? ⟨b6,off6+i*2+1,none⟩=ls[i].i∧w'.cell? ⟨wr,0,none⟩=v.ks[i].c∧w'.cell? ⟨wr,1,none⟩=v.ks[i].n∧w'.cell? ⟨wr,2,none⟩=some (.slice A7 v.ks[i].ks.length cap7)) (first | assumption | (exact ⟨a0,a1,k0,k1,k2⟩) | (exact ⟨(hC'.cell hb6 HNE.out).trans a0,(hC'.cell hb6 HNE.out).trans a1,(hC'.cell kxl HNE7.out).trans k0,(hC'.cell kxl HNE7.out).trans k1,(hC'.cell kxl HNE7.out).trans k2⟩)) (first | (go_at_call 120;((with_reducible refine HCALL.out.mono ?_);rintro e w' ⟨c',rfl,hC',hK',hy',hp'⟩)))
        have hC2:=hC'.undrew
        have HCG8:=jj (HCG7.out.trans hC2)
        have HK8:=jj hK'
        have HA68:Hid (Arr w' (TyR w') ls (.slice (some ⟨b6,off6,none⟩) ls.length cap6) F6∧Under w'.heap.size F6):=⟨ArrTy.mono HA67.out.1 (hC2.kept HA67.out.2 HN6.out),HA67.out.2.mono hC2.size⟩
        clear hwr hC' hC2 hK' a0 a1 k0 k1 k2
        cases e3:scanB xs d ls[i] v.ks[i] ci with
        |false =>
         have HFin:=jj (HBad.out w' c' (by
          unfold scanB at e3
          rw [Bool.and_eq_false_iff] at e3
          rcases e3 with h | h
          ·left;rw [HST.out,h];rfl
          ·right
           have h1:=of_decide_eq_false h
           have h2:=HCI.out
           have h3:=sizes_step hik
           have h4:=sizes_take_le v.ks (i+1)
           have h5:=zAI v
           omega) HCG8.out HK8.out hp')
         clear e3 hy'
         go_wp2
         go_ret
         exact HFin.out
        |true =>
         have hcc2:=hy' e3
         unfold scanB at e3
         rw [Bool.and_eq_true] at e3
         have h60:=of_decide_eq_true e3.2
         have hR2:Hid (fitsV xs (d+1) ⟨(q:Int),(r:Int)⟩ v=zipAll (fitsV xs d) (ls.drop (i+1)) (v.ks.drop (i+1))):=by rw [HST.out,e3.1,Bool.true_and];rfl
         have hCI2:Hid (c'=c+1+(V.sizes (v.ks.take (i+1)):Nat)):=by
          have h2:=HCI.out
          have h3:=sizes_step hik
          unfold Hid
          omega
         have hc60':c'≤60:=by omega
         clear e3 hy' hcc2 h60
         go_wp2
         go_roundw
         case rel=>exact ⟨i+1,c',by omega,by go_num,hp',hc60',hCI2,hR2,HK8,HCG8,HA68⟩
         case measure=>(simp [intOf] <;> omega)
       ·have hT:scanB xs (d+1) ⟨(q:Int),(r:Int)⟩ v c=true:=by
         unfold scanB
         have h1:=HCI.out
         have h5:=zAI v
         rw [List.take_of_length_le (by omega)] at h1
         rw [HR.out,zipAll_end (by have:=HLN.out;omega),Bool.true_and]
         exact decide_eq_true (by omega)
        have hfin:ScanPost xs (d+1) ⟨(q:Int),(r:Int)⟩ v c g w (.returned (.bool true)) wr:=⟨ci,by rw [hT],HCG.out,KG.out,fun _=>by
         have h1:=HCI.out
         have h5:=zAI v
         rw [List.take_of_length_le (by omega)] at h1
         omega,hci0⟩
        have HFin:=jj hfin
        clear hfin hT
        go_wp2
        go_ret
        exact HFin.out
     ·have t2:((ls.length:Int) != (v.ks.length:Int))=true:=by rw [bne_iff_ne];omega
      have HFin:=jj (HBad.out w6 (c+1) (.inl (by rw [H2.out,decide_eq_false hln];rfl)) HCG6.out KG6.out (by omega))
      clear hln
      go_wp2
      go_ret
      exact HFin.out
theorem impl_valueScan:∀ v,ScanI v:=V.indv valueScan_of
theorem spec_l2Is (xs:List Dt) (t:Ty) (v:V) (w:World) (x:Value) (F:List Nat) (cs:List Value) (G:List Nat) (hx:Arr w (DtR w) xs x F) (hf:Under w F) (hv:VR w v cs G) (hg:Under w G) (hw:WorldOK xs) (ht:TyIn xs.length t) (hz:v.size≤1048576) :
  Calls Tryz.prog 113 #[x,.agg #[t.d,t.i],.agg cs.toArray] w fun e w'=>e=.returned (.bool (valueOkB xs t v))∧Below w w w':=by
 obtain ⟨kv,rfl,ha⟩:=(zA6 _ _ _).1 hv
 obtain ⟨A,cap,rfl,hc1,hc2⟩:=hx.form
 obtain ⟨A4,cap4,rfl,hc3,hc4⟩:=ha.form
 have HV:=jj hv
 have HX:=jj hx
 have HF:=jj hf
 have HG:=jj hg
 clear hx hf hg
 clear ha hv
 go_enter Tryz.func113,Tryz.ntmps113
 go_wp2_with fail
 obtain ⟨W2,hW2⟩:∃ W2,W2=((w.alloc (.cells #[t.d,t.i] 25)).alloc (.cells #[v.c,v.n,.slice A4 v.ks.length cap4] 45)):=⟨_,rfl⟩
 have hB0:Below w w W2:=by rw [hW2];exact ((zy2 _ _).alloc (zz8 _) _).alloc (by simp) _
 have KT:Hid (Blk W2 w 25 #[t.d,t.i]):=by rw [hW2];exact (Blk.new w _ _).same (Below.heap_alloc _ _ _ (by simp))
 have KV:Hid (Blk W2 (w.heap.size+1) 45 #[v.c,v.n,.slice A4 v.ks.length cap4]):=by rw [hW2];have h:=Blk.new (w.alloc (.cells #[t.d,t.i] 25)) 45 #[v.c,v.n,.slice A4 v.ks.length cap4];rw [World.size_alloc] at h;exact h
 rw [←hW2]
 clear hW2
 refine (spec_l2Fits v xs hw 10 (zz8 _) t ht W2 _ F _ G (ArrDt.below HX.out hB0 HF.out) (HF.out.mono hB0.size) (HV.out.below hB0 HG.out) (HG.out.mono hB0.size)).mono ?_
 rintro e w3 ⟨rfl,hb3⟩
 have hB3:=hB0.trans (hb3.mono hB0.size)
 have KV3:=jj (KV.out.same (hb3.block _ KV.out.lt))
 have KT3:=jj (KT.out.same (hb3.block _ KT.out.lt))
 obtain ⟨y0,y1,-⟩:=KT3.out.c2
 obtain ⟨z0,z1,z2,-⟩:=KV3.out.c3
 have klt:=KT3.out.lt
 have klt2:=KV3.out.lt
 clear hb3 KT KV
 cases e1:fitsV xs 10 t v with
 |false =>
  have hf:Hid (valueOkB xs t v=false):=by unfold Hid valueOkB;rw [e1];rfl
  clear e1
  go_wp2
  go_ret
  exact ⟨zA0 hf.out.symm,hB3⟩
 |true =>
  have hf:Hid (valueOkB xs t v=decide (nodes v≤60)):=by unfold Hid valueOkB;rw [e1];rfl
  clear e1
  go_wp2_with fail
  refine (spec_l2Count v 60 (by omega) (by omega) w3 _ G (HV.out.below hB3 HG.out) (HG.out.mono hB3.size) (by unfold nodes;omega)).mono ?_
  rintro e w4 ⟨c,rfl,hu,hb4⟩
  have hB4:=hB3.trans (hb4.mono hB3.size)
  have hcd:decide (c≤60)=decide (nodes v≤60):=by
   have h1:=hu.yes
   have h2:=hu.no
   by_cases h:nodes v≤60
   ·rw [decide_eq_true h];exact decide_eq_true (by have:=h1 (by omega);omega)
   ·rw [decide_eq_false h];exact decide_eq_false (by have:=h2 (by omega);omega)
  have HCD:=jj hcd
  clear hu hcd hb4
  go_wp2
  go_ret
  exact ⟨zA0 (hf.out.trans HCD.out.symm).symm,hB4⟩
theorem impl_valueOk (xs:List Dt) (t:Ty) (v:V) (w:World) (x:Value) (F:List Nat) (cs:List Value) (G:List Nat) (hx:Arr w (DtR w) xs x F) (hf:Under w F) (hv:VR w v cs G) (hg:Under w G) (hw:WorldOK xs) (ht:TyIn xs.length t) (hz:v.size≤1048576) :
  Calls Tryz.prog 71 #[x,.agg #[t.d,t.i],.agg cs.toArray] w fun e w'=>e=.returned (.bool (valueOkB xs t v))∧Below w w w':=by
 obtain ⟨kv,rfl,ha⟩:=(zA6 _ _ _).1 hv
 obtain ⟨A,cap,rfl,hc1,hc2⟩:=hx.form
 obtain ⟨A4,cap4,rfl,hc3,hc4⟩:=ha.form
 have HV:=jj hv
 have HX:=jj hx
 have HF:=jj hf
 have HG:=jj hg
 clear hx hf hg
 clear ha hv
 go_enter Tryz.func71,Tryz.ntmps71
 go_wp2_with fail
 obtain ⟨W2,hW2⟩:∃ W2,W2=(((w.alloc (.cells #[t.d,t.i] 25)).alloc (.cells #[v.c,v.n,.slice A4 v.ks.length cap4] 45)).alloc (.cells #[(0:Int)] 3)):=⟨_,rfl⟩
 have hB0:Below w w W2:=by rw [hW2];exact (((zy2 _ _).alloc (zz8 _) _).alloc (by simp) _).alloc (by simp;omega) _
 have KG:Hid (Blk W2 (w.heap.size+2) 3 #[(0:Int)]):=by
  rw [hW2]
  have h:=Blk.new ((w.alloc (.cells #[t.d,t.i] 25)).alloc (.cells #[v.c,v.n,.slice A4 v.ks.length cap4] 45)) 3 #[(0:Int)]
  rw [show (((w.alloc (.cells #[t.d,t.i] 25)).alloc (.cells #[v.c,v.n,.slice A4 v.ks.length cap4] 45))).heap.size=w.heap.size+2 from by simp] at h
  exact h
 rw [←hW2]
 clear hW2
 refine (impl_valueScan v xs hw 10 1 rfl (zz8 _) t ht W2 _ F _ G (w.heap.size+2) 0 (ArrDt.below HX.out hB0 HF.out) (HF.out.mono hB0.size) (HV.out.below hB0 HG.out) (HG.out.mono hB0.size) KG.out (fun h=>by have:=HF.out _ h;omega) (fun h=>by have:=HG.out _ h;omega) (by omega) (by omega)).mono ?_
 rintro e w3 ⟨c',rfl,hC,-,-,-⟩
 have hB3:=hB0.trans (hC.below (B:=w.heap.size) (fun b hb=>by rw [List.mem_singleton.1 hb];omega) hB0.size)
 have hf:Hid (valueOkB xs t v=scanB xs 10 t v 0):=by
  unfold Hid valueOkB scanB
  congr 1
  exact decide_eq_decide.2 (by omega)
 generalize hbb:scanB xs 10 t v 0=bb at *
 clear hbb hC
 go_wp2
 go_ret
 exact ⟨zA0 hf.out.symm,hB3⟩
theorem spec_ValueValid (xs:List Dt) (t:Ty) (v:V) (w:World) (x:Value) (F:List Nat) (cs:List Value) (G:List Nat) (hx:Arr w (DtR w) xs x F) (hf:Under w F) (hv:VR w v cs G) (hg:Under w G) (hz:v.size≤1048576) :
  Calls Tryz.prog 65 #[x,.agg #[t.d,t.i],.agg cs.toArray] w fun e w'=>e=.returned (.bool (valueValidB xs t v))∧Below w w w':=by
 obtain ⟨kv,rfl,ha⟩:=(zA6 _ _ _).1 hv
 obtain ⟨A,cap,rfl,hc1,hc2⟩:=hx.form
 obtain ⟨A4,cap4,rfl,hc3,hc4⟩:=ha.form
 have HV:=jj hv
 have HX:=jj hx
 have HF:=jj hf
 have HG:=jj hg
 clear hx hf hg
 clear ha hv
 go_enter Tryz.func65,Tryz.ntmps65
 go_wp2_with fail
 obtain ⟨W2,hW2⟩:∃ W2,W2=((w.alloc (.cells #[t.d,t.i] 25)).alloc (.cells #[v.c,v.n,.slice A4 v.ks.length cap4] 45)):=⟨_,rfl⟩
 have hB0:Below w w W2:=by rw [hW2];exact ((zy2 _ _).alloc (zz8 _) _).alloc (by simp) _
 have KT:Hid (Blk W2 w 25 #[t.d,t.i]):=by rw [hW2];exact (Blk.new w _ _).same (Below.heap_alloc _ _ _ (by simp))
 have KV:Hid (Blk W2 (w.heap.size+1) 45 #[v.c,v.n,.slice A4 v.ks.length cap4]):=by rw [hW2];have h:=Blk.new (w.alloc (.cells #[t.d,t.i] 25)) 45 #[v.c,v.n,.slice A4 v.ks.length cap4];rw [World.size_alloc] at h;exact h
 rw [←hW2]
 clear hW2
 obtain ⟨y0,-,-⟩:=KT.out.c2
 refine (spec_TypeValid xs t W2 _ F (ArrDt.below HX.out hB0 HF.out) (HF.out.mono hB0.size)).mono ?_
 rintro e w3 ⟨rfl,hb3⟩
 have hB3:=hB0.trans (hb3.mono hB0.size)
 have KV3:=jj (KV.out.same (hb3.block _ KV.out.lt))
 have KT3:=jj (KT.out.same (hb3.block _ KT.out.lt))
 clear y0
 obtain ⟨y0,y1,-⟩:=KT3.out.c2
 obtain ⟨z0,z1,z2,-⟩:=KV3.out.c3
 have klt:=KT3.out.lt
 have klt2:=KV3.out.lt
 clear hb3 KT KV
 cases e1:typeValidB xs t with
 |false =>
  have hf:Hid (valueValidB xs t v=false):=by unfold Hid valueValidB;rw [e1];rfl
  clear e1
  go_wp2
  go_ret
  exact ⟨zA0 hf.out.symm,hB3⟩
 |true =>
  have hf:Hid (valueValidB xs t v=valueOkB xs t v):=by unfold Hid valueValidB;rw [e1];rfl
  obtain ⟨hw,hto⟩:=zAL e1
  have HW:=jj hw
  have HT:=jj (zAO hto)
  clear e1 hw hto
  go_wp2_with fail
  refine (spec_l2Is xs t v w3 _ F _ G (ArrDt.below HX.out hB3 HF.out) (HF.out.mono hB3.size) (HV.out.below hB3 HG.out) (HG.out.mono hB3.size) HW.out HT.out hz).mono ?_
  rintro e w4 ⟨rfl,hb4⟩
  have hB4:=hB3.trans (hb4.mono hB3.size)
  generalize hbb:valueOkB xs t v=bb
  have HBB:=jj hbb
  clear hbb
  go_wp2
  go_ret
  exact ⟨zA0 (hf.out.trans HBB.out).symm,hB4⟩
theorem impl_ValueValid (xs:List Dt) (t:Ty) (v:V) (w:World) (x:Value) (F:List Nat) (cs:List Value) (G:List Nat) (hx:Arr w (DtR w) xs x F) (hf:Under w F) (hv:VR w v cs G) (hg:Under w G) (hz:v.size≤1048576) :
  Calls Tryz.prog 63 #[x,.agg #[t.d,t.i],.agg cs.toArray] w fun e w'=>e=.returned (.bool (valueValidB xs t v))∧Below w w w':=by
 obtain ⟨kv,rfl,ha⟩:=(zA6 _ _ _).1 hv
 obtain ⟨A,cap,rfl,hc1,hc2⟩:=hx.form
 obtain ⟨A4,cap4,rfl,hc3,hc4⟩:=ha.form
 have HV:=jj hv
 have HX:=jj hx
 have HF:=jj hf
 have HG:=jj hg
 clear hx hf hg
 clear ha hv
 go_enter Tryz.func63,Tryz.ntmps63
 go_wp2_with fail
 obtain ⟨W2,hW2⟩:∃ W2,W2=((w.alloc (.cells #[t.d,t.i] 25)).alloc (.cells #[v.c,v.n,.slice A4 v.ks.length cap4] 45)):=⟨_,rfl⟩
 have hB0:Below w w W2:=by rw [hW2];exact ((zy2 _ _).alloc (zz8 _) _).alloc (by simp) _
 have KT:Hid (Blk W2 w 25 #[t.d,t.i]):=by rw [hW2];exact (Blk.new w _ _).same (Below.heap_alloc _ _ _ (by simp))
 have KV:Hid (Blk W2 (w.heap.size+1) 45 #[v.c,v.n,.slice A4 v.ks.length cap4]):=by rw [hW2];have h:=Blk.new (w.alloc (.cells #[t.d,t.i] 25)) 45 #[v.c,v.n,.slice A4 v.ks.length cap4];rw [World.size_alloc] at h;exact h
 rw [←hW2]
 clear hW2
 obtain ⟨y0,-,-⟩:=KT.out.c2
 refine (impl_TypeValid xs t W2 _ F (ArrDt.below HX.out hB0 HF.out) (HF.out.mono hB0.size)).mono ?_
 rintro e w3 ⟨rfl,hb3⟩
 have hB3:=hB0.trans (hb3.mono hB0.size)
 have KV3:=jj (KV.out.same (hb3.block _ KV.out.lt))
 have KT3:=jj (KT.out.same (hb3.block _ KT.out.lt))
 clear y0
 obtain ⟨y0,y1,-⟩:=KT3.out.c2
 obtain ⟨z0,z1,z2,-⟩:=KV3.out.c3
 have klt:=KT3.out.lt
 have klt2:=KV3.out.lt
 clear hb3 KT KV
 cases e1:typeValidB xs t with
 |false =>
  have hf:Hid (valueValidB xs t v=false):=by unfold Hid valueValidB;rw [e1];rfl
  clear e1
  go_wp2
  go_ret
  exact ⟨zA0 hf.out.symm,hB3⟩
 |true =>
  have hf:Hid (valueValidB xs t v=valueOkB xs t v):=by unfold Hid valueValidB;rw [e1];rfl
  obtain ⟨hw,hto⟩:=zAL e1
  have HW:=jj hw
  have HT:=jj (zAO hto)
  clear e1 hw hto
  go_wp2_with fail
  refine (impl_valueOk xs t v w3 _ F _ G (ArrDt.below HX.out hB3 HF.out) (HF.out.mono hB3.size) (HV.out.below hB3 HG.out) (HG.out.mono hB3.size) HW.out HT.out hz).mono ?_
  rintro e w4 ⟨rfl,hb4⟩
  have hB4:=hB3.trans (hb4.mono hB3.size)
  generalize hbb:valueOkB xs t v=bb
  have HBB:=jj hbb
  clear hbb
  go_wp2
  go_ret
  exact ⟨zA0 (hf.out.trans HBB.out).symm,hB4⟩
end Go.Proofs.YtjjclcmmfeegfaaGreatDoor
