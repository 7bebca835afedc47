/-
  Lemmas, and contracts of functions. Conditions: none.
-/
import Derived.Test.YtjjclcmmfeegfaaGreatDoorJAF
import Derived.Test.YtjjclcmmfeegfaaGreatDoorJAI
import Derived.Test.YtjjclcmmfeegfaaGreatDoorJAB
import Derived.Test.YtjjclcmmfeegfaaGreatDoorJAC
import Derived.Deep.RegionWith
import Derived.Test.YtjjclcmmfeegfaaGreatDoorJAH
import Derived.Test.YtjjclcmmfeegfaaGreatDoorJAE
import Derived.Lib.Join
import Derived.Test.YtjjclcmmfeegfaaGreatDoorJAG
import Derived.Test.YtjjclcmmfeegfaaGreatDoorJAA
import Derived.IntWalk

set_option linter.unusedVariables false
set_option linter.unusedSimpArgs false
set_option maxRecDepth 100000
set_option maxHeartbeats 1600000

namespace Go.Proofs.YtjjclcmmfeegfaaGreatDoor
open Go.RowKit
set_option maxHeartbeats 6400000 in
theorem spec_l1Mutate (p g:Nat) (w:World) (h:Rd w g p) (hp:p≤900000) (xs:List Dt) (v:Value) (F:List Nat) (hx:Arr w (DtR w) xs v F) (hf:Under w F) (h0:0<xs.length) (hl:xs.length≤99) (m:Nat) (hm:m≤90) (hs:SmallW m xs) :
  Calls Tryz.prog 77 #[.pointer (some ⟨g,0,none⟩),v] w (Mutd g p m xs w):=by
 have hgl:=h.lt
 have HR0:=jj h
 have HCALL:=jj (spec_l1Copy xs w v F hx hf (by omega) (hs.mono (by omega)))
 have HSM:=jj hs
 have HMM:=jj hm
 clear h hx hf hs hm
 obtain ⟨j0,hj,hj0,hj1,hj2⟩:=info_parts info_tyE
 have HJ:=jj hj
 have HJ0:=jj hj0
 have HJ1:=jj hj1
 have HJ2:=jj hj2
 clear hj hj0 hj1 hj2
 obtain ⟨m0,hm,hm0,hm1,hm2⟩:=info_parts info_DtE
 have HM:=jj hm
 have HM0:=jj hm0
 have HM1:=jj hm1
 have HM2:=jj hm2
 clear hm hm0 hm1 hm2
 go_enter Tryz.func77,Tryz.ntmps77
 go_wp2_with fail
 refine HCALL.out.mono ?_
 rintro e w1 ⟨v1,F1,rfl,hb1,ho1,hfr1,hfs1⟩
 have hCpy:Cpy g p xs v1 F1 w w1:=⟨HR0.out.below hb1,Chg.of_below hb1,ho1,hfr1,fun b hb=>by have:=hfs1 b hb;omega,hgl⟩
 obtain ⟨A1,cap1,rfl,hc1,hc2⟩:=ho1.form
 obtain ⟨FF,ha1,-,-⟩:=hCpy.arr
 obtain ⟨b,off,rfl⟩:=ha1.ptr h0
 have HC1:=jj hCpy
 clear hCpy ho1 ha1 hb1 hfr1 hfs1 HCALL HR0
 go_wp2_with fail
 refine (zAJ xs.length p g w1 HC1.out.rd (by omega) h0 (by omega)).mono ?_
 rintro e w2 ⟨d,rfl,hd,hR2,hC2⟩
 have HC2:=jj (HC1.out.step hR2 hC2)
 clear hR2 hC2 HC1
 have g1:(0:Int)≤(d:Int):=by omega
 have g2:(d:Int)<(xs.length:Int):=by omega
 obtain ⟨kA,kcap,F2,n0,k0,z0,hb,hbl,hk1,hk2,hdx,hF2,hname,hctors⟩:=HC2.out.data (p:=p) h0 HSM.out hd
 clear n0 z0 hb hbl hdx hF2 hname hctors
 cases q0:((xs[d].ctors.length:Int)==0) with
 |true =>
  have HFin:=jj (HC2.out.done (p:=p) h0 HSM.out (by omega))
  clear HC2
  go_wp2
  go_ret
  exact HFin.out
 |false =>
  have hk0:0<xs[d].ctors.length:=by rw [beq_eq_false_iff_ne] at q0;omega
  have e0:(0:Int)<(xs[d].ctors.length:Int):=by omega
  go_wp2_with fail
  refine (zAJ 30 (p+1) g w2 HC2.out.rd (by omega) (by omega) (by omega)).mono ?_
  rintro e w3 ⟨r,rfl,hr,hR3,hC3⟩
  have HC3:=jj (HC2.out.step hR3 hC3)
  clear hR3 hC3 HC2 k0 hk1 hk2
  cases c0q:((r:Int)==0) with
  |true =>
   go_wp2_with fail
   refine (of_lit [⟨#[73]⟩,⟨#[]⟩,⟨#[97]⟩,⟨#[76,76]⟩,⟨#[90]⟩] (by decide) (by decide) (p+1+1) g w3 HC3.out.rd (by omega)).mono ?_
   rintro e w4 ⟨s,hs,rfl,hR4,hC4⟩
   have hsz:s.size≤1000:=by
    have hall:∀ x∈([⟨#[73]⟩,⟨#[]⟩,⟨#[97]⟩,⟨#[76,76]⟩,⟨#[90]⟩]:List ByteArray),x.size≤1000:=by decide
    exact hall s hs
   have HC4:=jj (HC3.out.step hR4 hC4)
   clear hR4 hC4 HC3 hs
   obtain ⟨kA,kcap,F2,n0,k0,z0,hb,hbl,hk1,hk2,hdx,hF2,hname,hctors⟩:=HC4.out.data (p:=p) h0 HSM.out hd
   have f0:=z0 (off+d*2)
   have HFin:=jj (hname s hsz (by omega))
   clear k0 z0 hb hk1 hk2 hdx hF2 hname hctors HC4
   go_wp2
   go_ret
   exact HFin.out
  |false =>
   cases c1q:((r:Int)==1) with
   |true =>
    obtain ⟨kA,kcap,F2,n0,k0,z0,hb,hbl,hk1,hk2,hdx,hF2,hname,hctors⟩:=HC3.out.data (p:=p) h0 HSM.out hd
    have f0:(w3.alloc (.cells #[] 67)).frozen? ⟨b,off+d*2+1,none⟩=false:=(World.frozen?_of_block (a:=⟨b,off+d*2+1,none⟩) (Below.heap_alloc _ _ _ hbl)).trans (z0 _)
    have y0:(w3.alloc (.cells #[] 67)).cell? ⟨b,off+d*2+1,none⟩=some (.slice kA xs[d].ctors.length kcap):=(World.cell?_alloc_lt _ _ _ hbl).trans k0
    have HFin:=jj (hctors 67 (by omega))
    clear n0 k0 z0 hb hk1 hk2 hdx hF2 hname hctors HC3
    go_wp2
    go_ret
    exact HFin.out
   |false =>
    cases c2q:((r:Int)==2) with
    |true =>
     have hCd:=HC3.out.drew
     clear HC3
     obtain ⟨b2,off2,cap2,aA,acap,kc,hbb,hbg,hb2g,hbl,hb2l,hz2,c0,c1,c2,hown,hrow,hal,H2,H4,H3⟩:=hCd.ctor (p:=p) h0 HSM.out hd hk0
     have HH:=jj H2
     have hR3:=jj hCd.rd
     have f3:=hz2 (off2)
     clear c1 c2 hown hrow hal H2 H4 H3 hCd hz2
     go_wp2_with fail
     refine zA5 (S:=fun w'=>w'.cell? ⟨b,off+d*2+1,none⟩=some (.slice (some ⟨b2,off2,none⟩) xs[d].ctors.length cap2)) (T:=fun _=>True) (d:=10) (by kernel_rfl) ?_
     generalize w3.drew=wd at *
     have hS1:wd.cell? ⟨b,off+d*2+1,none⟩=some (.slice (some ⟨b2,off2,none⟩) xs[d].ctors.length cap2):=kc
     have hT1:True:=trivial
     refine wV 0 rfl hS1 hT1 ?_
     (try simp only [Act.put,zz4,zz5,zz6])
     refine wV 1 rfl hS1 hT1 ?_
     (try simp only [Act.put,zz4,zz5,zz6])
     refine wV 2 rfl hS1 hT1 ?_
     (try simp only [Act.put,zz4,zz5,zz6])
     refine wV 3 rfl hS1 hT1 ?_
     (try simp only [Act.put,zz4,zz5,zz6])
     refine wV 4 rfl hS1 hT1 ?_
     (try simp only [Act.put,zz4,zz5,zz6])
     refine wV 5 rfl hS1 hT1 ?_
     (try simp only [Act.put,zz4,zz5,zz6])
     refine Go.Proofs.YtjjclcmmfeegfaaGreatDoor.w1 6 rfl fun K hK=>?_
     go_simp
     refine hK.out _ _ ((World.cell?_alloc_lt _ _ _ hbl).trans kc) (fun _=>trivial) ?_
     clear hK K
     (try simp only [Act.put,zz4,zz5,zz6])
     refine Go.Proofs.YtjjclcmmfeegfaaGreatDoor.w1 7 rfl fun K hK=>?_
     go_simp
     go_at_call 110
     refine (of_lit [⟨#[]⟩,⟨#[110,105,108]⟩,⟨#[84,111,111,108,111,110,103]⟩,⟨#[88]⟩] (by decide) (by decide) (p+1+1) g wd hR3.out (by omega)).mono ?_
     rintro e w4 ⟨s,hs,rfl,hR4,hC4⟩
     have hC5:=hC4
     have hsz:s.size≤1000:=by
      have hall:∀ x∈([⟨#[]⟩,⟨#[110,105,108]⟩,⟨#[84,111,111,108,111,110,103]⟩,⟨#[88]⟩]:List ByteArray),x.size≤1000:=by decide
      exact hall s hs
     have hS4:w4.cell? ⟨b,off+d*2+1,none⟩=some (.slice (some ⟨b2,off2,none⟩) xs[d].ctors.length cap2):=(hC5.cell hbl hbg).trans kc
     have x4:w4.cell? ⟨b2,off2,none⟩=some (.string xs[d].ctors[0].name):=(hC5.cell hb2l hb2g).trans c0
     have f4:w4.frozen? ⟨b2,off2,none⟩=false:=(World.frozen?_of_block (a:=⟨b2,off2,none⟩) (hC5.block _ hb2l hb2g)).trans f3
     have HFin:=jj (HH.out w4 _ s hR4 hC5 (by omega) hsz)
     dsimp only
     refine hK.out _ _ hS4 (fun _=>trivial) ?_
     clear hK K
     (try simp only [Act.put,zz4,zz5,zz6])
     refine wV 8 rfl hS4 hT1 ?_
     (try simp only [Act.put,zz4,zz5,zz6])
     refine wV 9 rfl hS4 hT1 ?_
     (try simp only [Act.put,zz4,zz5,zz6])
     refine Go.Proofs.YtjjclcmmfeegfaaGreatDoor.w1 10 rfl fun K hK=>?_
     go_simp
     refine hK.out _ _ ((World.cell?_setCell_far _ _ _ _ (by show b2≠b;exact fun e=>hbb e.symm)).trans hS4) (fun _=>trivial) ?_
     clear hK K
     (try simp only [Act.put,zz4,zz5,zz6])
     refine wE (by kernel_rfl) ?_
     clear hS1 hT1 hS4 x4 f4 hC5 hC4 hR4 HH hR3 f3 kc c0
     go_wp2
     go_ret
     exact HFin.out
    |false =>
     cases c3q:((r:Int)==3) with
     |true =>
      have hCd:=HC3.out.drew
      clear HC3
      obtain ⟨b2,off2,cap2,aA,acap,kc,hbb,hbg,hb2g,hbl,hb2l,hz2,c0,c1,c2,hown,hrow,hal,H2,H4,H3⟩:=hCd.ctor (p:=p) h0 HSM.out hd hk0
      have HH:=jj H3
      have HRD:=jj hCd.rd
      have f3:=hz2 (off2+1)
      have HOWN:=jj hown
      have HROW:=jj hrow
      have hm90:=HMM.out
      have hmx:xs[d].ctors[0].args.length+1≤maxLen:=by unfold maxLen;omega
      have hby:(xs[d].ctors[0].args.length+1)*16≤140737488355328:=by omega
      clear hm90
      have hgl3:g<w3.drew.heap.size:=hCd.rd.lt
      have hgs:w3.drew.heap.size≠g:=by omega
      have hgs1:w3.drew.heap.size+1≠g:=by omega
      clear c0 c2 hown hrow H2 H4 H3 hCd hz2
      go_wp2_with fail
      refine zA5 (S:=fun w'=>w'.cell? ⟨b,off+d*2+1,none⟩=some (.slice (some ⟨b2,off2,none⟩) xs[d].ctors.length cap2)) (T:=fun w'=>w'.cell? ⟨b2,off2+1,none⟩=some (.slice aA xs[d].ctors[0].args.length acap)) (d:=21) (by kernel_rfl) ?_
      generalize w3.drew=wd at *
      have hS1:wd.cell? ⟨b,off+d*2+1,none⟩=some (.slice (some ⟨b2,off2,none⟩) xs[d].ctors.length cap2):=kc
      have hT1:wd.cell? ⟨b2,off2+1,none⟩=some (.slice aA xs[d].ctors[0].args.length acap):=c1
      refine wV 0 rfl hS1 hT1 ?_
      (try simp only [Act.put,zz4,zz5,zz6])
      refine wV 1 rfl hS1 hT1 ?_
      (try simp only [Act.put,zz4,zz5,zz6])
      refine wV 2 rfl hS1 hT1 ?_
      (try simp only [Act.put,zz4,zz5,zz6])
      refine wV 3 rfl hS1 hT1 ?_
      (try simp only [Act.put,zz4,zz5,zz6])
      refine wV 4 rfl hS1 hT1 ?_
      (try simp only [Act.put,zz4,zz5,zz6])
      refine wV 5 rfl hS1 hT1 ?_
      (try simp only [Act.put,zz4,zz5,zz6])
      refine wV 6 rfl hS1 hT1 ?_
      (try simp only [Act.put,zz4,zz5,zz6])
      refine wV 7 rfl hS1 hT1 ?_
      (try simp only [Act.put,zz4,zz5,zz6])
      refine wV 8 rfl hS1 hT1 ?_
      (try simp only [Act.put,zz4,zz5,zz6])
      refine wV 9 rfl hS1 hT1 ?_
      (try simp only [Act.put,zz4,zz5,zz6])
      refine wV 10 rfl hS1 hT1 ?_
      (try simp only [Act.put,zz4,zz5,zz6])
      refine wV 11 rfl hS1 hT1 ?_
      (try simp only [Act.put,zz4,zz5,zz6])
      refine zB2 (i:=12) (v:=?_) rfl (by decide) rfl (by kernel_rfl) (by kernel_rfl) (by kernel_rfl) (by kernel_rfl) (fun _ _ _ h=>h) (Or.inl ⟨by rfl,?hy12⟩) (by rfl) hS1 hT1 ?_
      case hy12=>(intro W hSw;(try dsimp only at hSw);go_simp;try with_reducible rfl)
      (try simp only [Act.put,zz4,zz5,zz6])
      refine wV 13 rfl hS1 hT1 ?_
      (try simp only [Act.put,zz4,zz5,zz6])
      refine wV 16 rfl hS1 hT1 ?_
      (try simp only [Act.put,zz4,zz5,zz6])
      refine wR (rs:=[14,17]) (by kernel_rfl) (by simp) ?_
      refine AllReadyB.c rfl (fun K hK=>?_) (AllReadyB.c rfl (fun K hK=>?_) AllReadyB.n)
      focus
       go_simp
       refine hK.out _ _ (((Chg.refl [g] wd).alloc _).cell hbl hbg |>.trans kc) (fun _=>((Chg.refl [g] wd).alloc _).cell hb2l hb2g |>.trans c1) ?_
       clear hK K
       (try simp only [Act.put,zz4,zz5,zz6])
       refine wR (rs:=[15,17]) (by kernel_rfl) (by simp) ?_
       refine AllReadyB.c rfl (fun K hK=>?_) (AllReadyB.c rfl (fun K hK=>?_) AllReadyB.n)
       focus
        go_simp
        go_at_call 126
        refine (num_at (LitN.new wd [9,-2,0,-1] (by decide)) (by decide) (by decide) (p+1+1) g (HRD.out.below ((zy2 _ _).alloc (zz8 _) _)) (by omega) hgs).mono ?_
        rintro e w5 ⟨x,rfl,hRw5,hCw5⟩
        have hC5:Chg [g] wd w5:=((Chg.refl [g] wd).alloc _).trans hCw5
        dsimp only
        refine hK.out _ _ (((hC5).cell hbl hbg).trans kc) (fun _=>((hC5).cell hb2l hb2g).trans c1) ?_
        clear hK K
        (try simp only [Act.put,zz4,zz5,zz6])
        refine Go.Proofs.YtjjclcmmfeegfaaGreatDoor.w1 17 rfl fun K hK=>?_
        go_simp
        refine hK.out _ _ (((hC5).alloc _).cell hbl hbg |>.trans kc) (fun _=>((hC5).alloc _).cell hb2l hb2g |>.trans c1) ?_
        clear hK K
        (try simp only [Act.put,zz4,zz5,zz6])
        refine Go.Proofs.YtjjclcmmfeegfaaGreatDoor.w1 18 rfl fun K hK=>?_
        go_simp
        go_at_call 126
        refine (num_at (LitN.new w5 [0,4,-1,-2] (by decide)) (by decide) (by decide) (p+1+1+1) g (hRw5.below ((zy2 _ _).alloc (zz8 _) _)) (by omega) (by have:=hC5.size;omega)).mono ?_
        rintro e w6 ⟨y,rfl,hRw6,hCw6⟩
        have hC6:Chg [g] wd w6:=(hC5.alloc _).trans hCw6
       rotate_left
       focus
        go_simp
        refine hK.out _ _ ((((Chg.refl [g] wd).alloc _).alloc _).cell hbl hbg |>.trans kc) (fun _=>(((Chg.refl [g] wd).alloc _).alloc _).cell hb2l hb2g |>.trans c1) ?_
        clear hK K
        (try simp only [Act.put,zz4,zz5,zz6])
        refine Go.Proofs.YtjjclcmmfeegfaaGreatDoor.w1 15 rfl fun K hK=>?_
        go_simp
        go_at_call 126
        refine (num_at ((LitN.new wd [9,-2,0,-1] (by decide)).alloc _) (by decide) (by decide) (p+1+1) g ((HRD.out.below ((zy2 _ _).alloc (zz8 _) _)).below ((zy2 _ _).alloc (zz8 _) _)) (by omega) hgs).mono ?_
        rintro e w5 ⟨x,rfl,hRw5,hCw5⟩
        have hC5:Chg [g] wd w5:=(((Chg.refl [g] wd).alloc _).alloc _).trans hCw5
        have hLB:LitN w5 (wd.heap.size+1) [0,4,-1,-2]:=(LitN.new2 wd _ [0,4,-1,-2] (by decide)).chg hCw5 (by rw [zy1];exact hgs1)
        dsimp only
        refine hK.out _ _ (((hC5).cell hbl hbg).trans kc) (fun _=>((hC5).cell hb2l hb2g).trans c1) ?_
        clear hK K
        (try simp only [Act.put,zz4,zz5,zz6])
        refine Go.Proofs.YtjjclcmmfeegfaaGreatDoor.w1 18 rfl fun K hK=>?_
        go_simp
        go_at_call 126
        refine (num_at hLB (by decide) (by decide) (p+1+1+1) g hRw5 (by omega) hgs1).mono ?_
        rintro e w6 ⟨y,rfl,hRw6,hCw6⟩
        have hC6:Chg [g] wd w6:=hC5.trans hCw6
       rotate_left
      rotate_left 2
      focus
       go_simp
       refine hK.out _ _ (((Chg.refl [g] wd).alloc _).cell hbl hbg |>.trans kc) (fun _=>((Chg.refl [g] wd).alloc _).cell hb2l hb2g |>.trans c1) ?_
       clear hK K
       (try simp only [Act.put,zz4,zz5,zz6])
       refine Go.Proofs.YtjjclcmmfeegfaaGreatDoor.w1 14 rfl fun K hK=>?_
       go_simp
       refine hK.out _ _ ((((Chg.refl [g] wd).alloc _).alloc _).cell hbl hbg |>.trans kc) (fun _=>(((Chg.refl [g] wd).alloc _).alloc _).cell hb2l hb2g |>.trans c1) ?_
       clear hK K
       (try simp only [Act.put,zz4,zz5,zz6])
       refine Go.Proofs.YtjjclcmmfeegfaaGreatDoor.w1 15 rfl fun K hK=>?_
       go_simp
       go_at_call 126
       refine (num_at (LitN.new2 wd _ [9,-2,0,-1] (by decide)) (by decide) (by decide) (p+1+1) g ((HRD.out.below ((zy2 _ _).alloc (zz8 _) _)).below ((zy2 _ _).alloc (zz8 _) _)) (by omega) hgs1).mono ?_
       rintro e w5 ⟨x,rfl,hRw5,hCw5⟩
       have hC5:Chg [g] wd w5:=(((Chg.refl [g] wd).alloc _).alloc _).trans hCw5
       have hLB:LitN w5 wd.heap.size [0,4,-1,-2]:=((LitN.new wd [0,4,-1,-2] (by decide)).alloc _).chg hCw5 (by rw [zy1];exact hgs)
       dsimp only
       refine hK.out _ _ (((hC5).cell hbl hbg).trans kc) (fun _=>((hC5).cell hb2l hb2g).trans c1) ?_
       clear hK K
       (try simp only [Act.put,zz4,zz5,zz6])
       refine Go.Proofs.YtjjclcmmfeegfaaGreatDoor.w1 18 rfl fun K hK=>?_
       go_simp
       go_at_call 126
       refine (num_at hLB (by decide) (by decide) (p+1+1+1) g hRw5 (by omega) hgs).mono ?_
       rintro e w6 ⟨y,rfl,hRw6,hCw6⟩
       have hC6:Chg [g] wd w6:=hC5.trans hCw6
      rotate_left
      all_goals (
       have hSE:w6.cell? ⟨b,off+d*2+1,none⟩=some (.slice (some ⟨b2,off2,none⟩) xs[d].ctors.length cap2):=((hC6).cell hbl hbg).trans kc
       have hTE:w6.cell? ⟨b2,off2+1,none⟩=some (.slice aA xs[d].ctors[0].args.length acap):=((hC6).cell hb2l hb2g).trans c1
       have HOE:Hid (Own w6 0 25 2 TyR xs[d].ctors[0].args (.slice aA xs[d].ctors[0].args.length acap) []):=HOWN.out.mono0 (w':=w6) (fun x cs G (h:TyR wd x cs G)=>(h:TyR w6 x cs G)) ((hC6).kept (fun x hx=>(HROW.out x hx).2.2.2) (fun x hx=>(HROW.out x hx).1))
       have hzE:wd.heap.size≤w6.heap.size:=(hC6).size
       have hfE:w6.frozen? ⟨b2,off2+1,none⟩=false:=(World.frozen?_of_block (a:=⟨b2,off2+1,none⟩) ((hC6).block _ hb2l hb2g)).trans f3
       have hFinE:=HH.out w6 (p+1+1+1+1) ⟨x,y⟩
       have HFE:=jj (fun g' c' w3' o=>hFinE g' c' w3' o hRw6 (hC6) (by omega))
       clear hFinE
       dsimp only
       refine hK.out _ _ hSE (fun _=>hTE) ?_
       clear hK K
       (try simp only [Act.put,zz4,zz5,zz6])
       refine wV 19 rfl hSE hTE ?_
       (try simp only [Act.put,zz4,zz5,zz6])
       refine Go.Proofs.YtjjclcmmfeegfaaGreatDoor.w1 20 rfl fun K hK=>?_
       go_simp
       refine hK.out _ _ ((World.cell?_alloc_lt _ _ _ (zz9 hbl hzE)).trans hSE) (fun _=>(World.cell?_alloc_lt _ _ _ (zz9 hb2l hzE)).trans hTE) ?_
       clear hK K
       (try simp only [Act.put,zz4,zz5,zz6])
       refine Go.Proofs.YtjjclcmmfeegfaaGreatDoor.w1 21 rfl fun K hK=>?_
       refine zAH (P:=Tryz.prog) rfl _ _ 65 rfl j0 _ 16 Tryz.underlying65 HJ.out HJ0.out HJ1.out HJ2.out rfl (by decide) TyR_len' TyR_mono' (by rfl) HOE.out ⟨x,y⟩ 25 [.int .i64 x,.int .i64 y] [] _ (by rfl) rfl (by simp [Value.oneCell']) ⟨rfl,rfl⟩ (Under.nil _) (fun _ _ h=>by cases h) hmx hby (Nat.zero_le _) ?_
       intro g' cp w7 hown7 hgr7 hat7
       have nb:some b≠(Value.slice aA xs[d].ctors[0].args.length acap).ownBlock:=fun e=>(HROW.out b (zA1.2 e.symm)).2.1 rfl
       have nb2:some b2≠(Value.slice aA xs[d].ctors[0].args.length acap).ownBlock:=fun e=>(HROW.out b2 (zA1.2 e.symm)).2.2.1 rfl
       have l7:w6.heap.size≤(w6.alloc (.cells #[.int .i64 x,.int .i64 y] 25)).heap.size:=by rw [World.size_alloc];exact Nat.le_succ _
       have l8:b<w6.heap.size:=zz9 hbl hzE
       have l9:b2<w6.heap.size:=zz9 hb2l hzE
       have s7:w7.cell? ⟨b,off+d*2+1,none⟩=some (.slice (some ⟨b2,off2,none⟩) xs[d].ctors.length cap2):=(World.grownBy.cell_far hgr7 ⟨b,off+d*2+1,none⟩ (zz9 l8 l7) nb).trans ((World.cell?_alloc_lt _ _ _ l8).trans hSE)
       have t7:w7.cell? ⟨b2,off2+1,none⟩=some (.slice aA xs[d].ctors[0].args.length acap):=(World.grownBy.cell_far hgr7 ⟨b2,off2+1,none⟩ (zz9 l9 l7) nb2).trans ((World.cell?_alloc_lt _ _ _ l9).trans hTE)
       have f7:w7.frozen? ⟨b2,off2+1,none⟩=false:=(World.grownBy.frozen_far hgr7 ⟨b2,off2+1,none⟩ (zz9 l9 l7) nb2).trans (Eq.trans (World.frozen?_of_block (Below.heap_alloc _ _ _ l9)) hfE)
       have HFin:=jj (HFE.out g' cp w7 _ hown7 hgr7 hat7)
       refine hK.out _ _ s7 (fun _=>t7) ?_
       clear hK K
       (try simp only [Act.put,zz4,zz5,zz6])
       refine wV 22 rfl s7 t7 ?_
       (try simp only [Act.put,zz4,zz5,zz6])
       refine wV 23 rfl s7 t7 ?_
       (try simp only [Act.put,zz4,zz5,zz6])
       refine Go.Proofs.YtjjclcmmfeegfaaGreatDoor.w1 24 rfl fun K hK=>?_
       go_simp
       refine hK.out _ _ ((World.cell?_setCell_far _ _ _ _ (by show b2≠b;exact fun e=>hbb e.symm)).trans s7) (fun h=>by cases h) ?_
       clear hK K
       (try simp only [Act.put,zz4,zz5,zz6])
       refine wE (by kernel_rfl) ?_
       clear hS1 hT1 hSE hTE HOE hzE hfE HFE nb nb2 l7 l8 l9 s7 t7 f7 hown7 hgr7 hat7 HH HOWN HROW f3 kc c1 hmx hby
       go_wp2
       go_ret
       exact HFin.out)
     |false =>
      cases c4q:((r:Int)==4) with
      |true =>
       have hCd:=HC3.out.drew
       clear HC3
       obtain ⟨b2,off2,cap2,aA,acap,kc,hbb,hbg,hb2g,hbl,hb2l,hz2,c0,c1,c2,hown,hrow,hal,H2,H4,H3⟩:=hCd.ctor (p:=p) h0 HSM.out hd hk0
       have HH:=jj H4
       have hR3:=jj hCd.rd
       have f3:=hz2 (off2+2)
       clear c0 c1 hown hrow hal H2 H4 H3 hCd hz2
       go_wp2_with fail
       refine zA5 (S:=fun w'=>w'.cell? ⟨b,off+d*2+1,none⟩=some (.slice (some ⟨b2,off2,none⟩) xs[d].ctors.length cap2)) (T:=fun _=>True) (d:=10) (by kernel_rfl) ?_
       generalize w3.drew=wd at *
       have hS1:wd.cell? ⟨b,off+d*2+1,none⟩=some (.slice (some ⟨b2,off2,none⟩) xs[d].ctors.length cap2):=kc
       have hT1:True:=trivial
       refine wV 0 rfl hS1 hT1 ?_
       (try simp only [Act.put,zz4,zz5,zz6])
       refine wV 1 rfl hS1 hT1 ?_
       (try simp only [Act.put,zz4,zz5,zz6])
       refine wV 2 rfl hS1 hT1 ?_
       (try simp only [Act.put,zz4,zz5,zz6])
       refine wV 3 rfl hS1 hT1 ?_
       (try simp only [Act.put,zz4,zz5,zz6])
       refine wV 4 rfl hS1 hT1 ?_
       (try simp only [Act.put,zz4,zz5,zz6])
       refine wV 5 rfl hS1 hT1 ?_
       (try simp only [Act.put,zz4,zz5,zz6])
       refine Go.Proofs.YtjjclcmmfeegfaaGreatDoor.w1 6 rfl fun K hK=>?_
       go_simp
       refine hK.out _ _ ((World.cell?_alloc_lt _ _ _ hbl).trans kc) (fun _=>trivial) ?_
       clear hK K
       (try simp only [Act.put,zz4,zz5,zz6])
       refine Go.Proofs.YtjjclcmmfeegfaaGreatDoor.w1 7 rfl fun K hK=>?_
       go_simp
       go_at_call 126
       refine (num_lit [4,-1,1] (by decide) (by decide) (p+1+1) g wd hR3.out (by omega)).mono ?_
       rintro e w4 ⟨s,hs,rfl,hR4,hC4⟩
       have hC5:=hC4
       have hS4:w4.cell? ⟨b,off+d*2+1,none⟩=some (.slice (some ⟨b2,off2,none⟩) xs[d].ctors.length cap2):=(hC5.cell hbl hbg).trans kc
       have x4:w4.cell? ⟨b2,off2+2,none⟩=xs[d].ctors[0].idx:=(hC5.cell hb2l hb2g).trans c2
       have f4:w4.frozen? ⟨b2,off2+2,none⟩=false:=(World.frozen?_of_block (a:=⟨b2,off2+2,none⟩) (hC5.block _ hb2l hb2g)).trans f3
       have HFin:=jj (HH.out w4 _ s hR4 hC5 (by omega))
       dsimp only
       refine hK.out _ _ hS4 (fun _=>trivial) ?_
       clear hK K
       (try simp only [Act.put,zz4,zz5,zz6])
       refine wV 8 rfl hS4 hT1 ?_
       (try simp only [Act.put,zz4,zz5,zz6])
       refine wV 9 rfl hS4 hT1 ?_
       (try simp only [Act.put,zz4,zz5,zz6])
       refine Go.Proofs.YtjjclcmmfeegfaaGreatDoor.w1 10 rfl fun K hK=>?_
       go_simp
       refine hK.out _ _ ((World.cell?_setCell_far _ _ _ _ (by show b2≠b;exact fun e=>hbb e.symm)).trans hS4) (fun _=>trivial) ?_
       clear hK K
       (try simp only [Act.put,zz4,zz5,zz6])
       refine wE (by kernel_rfl) ?_
       clear hS1 hT1 hS4 x4 f4 hC5 hC4 hR4 HH hR3 f3 kc c2
       go_wp2
       go_ret
       exact HFin.out
      |false =>
       cases c5q:((r:Int)==5) with
       |true =>
        obtain ⟨kA,kcap,F2,n0,k0,z0,hb,hbl,hk1,hk2,hdx,hF2,hname,hctors⟩:=HC3.out.data (p:=p) h0 HSM.out hd
        have HDX:=jj hdx
        have HF2:=jj hF2
        have hbs:w.heap.size≤w3.heap.size:=HC3.out.chg.size
        clear z0 hdx hF2 hname hctors
        go_wp2_with (at_builtin;refine Halt.mk ?_)
        refine Halt.of (zA4 (P:=Tryz.prog) rfl _ _ 23 rfl m0 _ 40 Tryz.underlying23 HM.out HM0.out HM1.out HM2.out rfl (by decide) DtO_len DtO_mono (by rfl) HC3.out.own xs[d] 64 [.string xs[d].name,.slice kA xs[d].ctors.length kcap] F2 _ (by rfl) rfl (by simp [Value.oneCell']) HDX.out (fun x hx=>(HF2.out x hx).2.2) (fun x hx hG=>(HF2.out x hG).1 (by rw [zA8,zy1] at hx;exact hx)) (by unfold maxLen;omega) (by omega) hbs ?_)
        intro g' cp w7 hown7 hgr7 hat7
        have HFin:=jj (HC3.out.twice (p:=p) h0 HSM.out hd (fun x hx=>(HF2.out x hx).2.1) rfl hown7 hgr7 (by omega))
        clear hown7 hgr7 hat7 n0 k0 hk1 hk2 HDX HF2 HC3
        go_wp2
        go_ret
        exact HFin.out
       |false =>
        have HFin:=jj (HC3.out.done (p:=p) h0 HSM.out (by omega))
        clear HC3
        go_wp2
        go_ret
        exact HFin.out
def DrewWTPF (w:World) (e:Ending) (w':World):Prop:=∃ (xs:List Dt) (v:Value) (F:List Nat) (t:Ty) (a:P) (cs:List Value) (G:List Nat),e=.returned (.tuple #[v,.agg #[t.d,t.i],.agg cs.toArray])∧Below w w w'∧Arr w' (DtR w') xs v F∧Fresh w w' F∧PR w' a cs G∧Fresh w w' G∧nodesP a≤2000
set_option maxHeartbeats 8000000 in
theorem spec_DrawPatternValidF (bs:List Int) (w:World) (v:Value) (F:List Nat) (hx:Arr w (ByR w) bs v F) (hf:Under w F) :
  Calls Tryz.prog 30 #[v] w (DrewWTPF w):=by
 have hB2:Below w w ((w.alloc (.cells #[(0:Int),(0:Int)] 25)).alloc (.cells #[(0:Int),(0:Int),(0:Int),(0:Int),(0:Int),.slice none 0 0] 28)):=((zy2 _ _).alloc (zz8 _) _).alloc (by simp) _
 have K22:Hid (Blk ((w.alloc (.cells #[(0:Int),(0:Int)] 25)).alloc (.cells #[(0:Int),(0:Int),(0:Int),(0:Int),(0:Int),.slice none 0 0] 28)) (w.heap.size) 25 #[(0:Int),(0:Int)]):=(Blk.new w _ _).same (Below.heap_alloc _ _ _ (by simp))
 have K32:Hid (Blk ((w.alloc (.cells #[(0:Int),(0:Int)] 25)).alloc (.cells #[(0:Int),(0:Int),(0:Int),(0:Int),(0:Int),.slice none 0 0] 28)) (w.heap.size+1) 28 #[(0:Int),(0:Int),(0:Int),(0:Int),(0:Int),.slice none 0 0]):=zA9 w _ 28 _
 have hs2:(((w.alloc (.cells #[(0:Int),(0:Int)] 25)).alloc (.cells #[(0:Int),(0:Int),(0:Int),(0:Int),(0:Int),.slice none 0 0] 28))).heap.size=w.heap.size+2:=by simp
 have HX2:Hid (Arr ((w.alloc (.cells #[(0:Int),(0:Int)] 25)).alloc (.cells #[(0:Int),(0:Int),(0:Int),(0:Int),(0:Int),.slice none 0 0] 28)) (ByR ((w.alloc (.cells #[(0:Int),(0:Int)] 25)).alloc (.cells #[(0:Int),(0:Int),(0:Int),(0:Int),(0:Int),.slice none 0 0] 28))) bs v F):=ArrBy.mono hx (.of_below hB2 hf)
 have HU2:Hid (Under (((w.alloc (.cells #[(0:Int),(0:Int)] 25)).alloc (.cells #[(0:Int),(0:Int),(0:Int),(0:Int),(0:Int),.slice none 0 0] 28))).heap.size F):=hf.mono hB2.size
 clear hx hf
 go_enter Tryz.func30,Tryz.ntmps30
 go_wp2_with fail
 obtain ⟨w2,hw2⟩:∃ X,X=((w.alloc (.cells #[(0:Int),(0:Int)] 25)).alloc (.cells #[(0:Int),(0:Int),(0:Int),(0:Int),(0:Int),.slice none 0 0] 28)):=⟨_,rfl⟩
 rw [←hw2] at hB2 K22 K32 hs2 HX2 HU2 ⊢
 clear hw2
 refine (spec_l17Open bs w2 v F HX2.out HU2.out).mono ?_
 rintro e w3 ⟨g,rfl,hge,hb3,hR3⟩
 have HR3:=jj hR3
 have hg3:g<w3.heap.size:=hR3.lt
 have hB3:Below w w w3:=hB2.trans (hb3.mono hB2.size)
 have K23:=jj (K22.out.same (hb3.block _ K22.out.lt))
 have K33:=jj (K32.out.same (hb3.block _ K32.out.lt))
 clear hR3 hb3 K22 K32 HX2 HU2 hB2
 go_wp2_with fail
 refine (spec_l3Typed 0 g w3 HR3.out (by omega)).mono ?_
 rintro e w4 ⟨xs,v4,FW,t,a,csa,Fa,va,vA,vcap,q4,rfl,htok,ha4,hfs4,hp4,hf4,hn4,hr4,hq4,hc4⟩
 obtain ⟨kva,rfl,haa⟩:=(zA3 _ _ _).1 hp4
 obtain ⟨pA,pcap,rfl,-,-⟩:=haa.form
 obtain ⟨A1,cap1,rfl,-,-⟩:=ha4.form
 have hz4:=hc4.size
 have hB4:Below w w w4:=hB3.trans (hc4.below (fun b hb=>by rw [zy1] at hb;omega) hB3.size)
 have K24:=jj (K23.out.same (hc4.block _ K23.out.lt (by rw [zy1];omega)))
 have K34:=jj (K33.out.same (hc4.block _ K33.out.lt (by rw [zy1];omega)))
 have HTOK:=jj htok
 have HFW:Hid (∀ b∈FW,w3.heap.size≤b):=fun b hb=>(hfs4 b hb).1
 have HFA:Hid (∀ b∈Fa,w3.heap.size≤b∧b≠g):=fun b hb=>⟨(hf4 b hb).2.2,(hf4 b hb).2.1⟩
 have hfwk:=fun b hb=>(hfs4 b hb).2
 have hfak:=fun b hb=>(hf4 b hb).1
 have HNA:Hid (nodesP a≤2000):=by unfold Hid;omega
 have hna:nodesP a≤512:=hn4
 have hb5:Below w4 w4 (((w4.alloc (.cells #[t.d,t.i] 25)).alloc (.cells #[a.op,a.ct,a.n,a.m,a.va,.slice pA a.ks.length pcap] 28)).alloc (.cells #[va.c,va.n,.slice vA va.ks.length vcap] 45)):=(((zy2 _ _).alloc (zz8 _) _).alloc (by simp) _).alloc (by simp;omega) _
 have KB5:Hid (Blk (((w4.alloc (.cells #[t.d,t.i] 25)).alloc (.cells #[a.op,a.ct,a.n,a.m,a.va,.slice pA a.ks.length pcap] 28)).alloc (.cells #[va.c,va.n,.slice vA va.ks.length vcap] 45)) w4.heap.size 25 #[t.d,t.i]):=((Blk.new w4 _ _).same (Below.heap_alloc _ _ _ (by simp))).same (Below.heap_alloc _ _ _ (by simp;omega))
 have KC5:Hid (Blk (((w4.alloc (.cells #[t.d,t.i] 25)).alloc (.cells #[a.op,a.ct,a.n,a.m,a.va,.slice pA a.ks.length pcap] 28)).alloc (.cells #[va.c,va.n,.slice vA va.ks.length vcap] 45)) (w4.heap.size+1) 28 #[a.op,a.ct,a.n,a.m,a.va,.slice pA a.ks.length pcap]):=(zA9 w4 _ 28 _).same (Below.heap_alloc _ _ _ (by simp))
 have HA5:=jj (ArrDt.below ha4 hb5 (Fresh.under hfs4))
 have HUW5:Hid (Under ((((w4.alloc (.cells #[t.d,t.i] 25)).alloc (.cells #[a.op,a.ct,a.n,a.m,a.va,.slice pA a.ks.length pcap] 28)).alloc (.cells #[va.c,va.n,.slice vA va.ks.length vcap] 45))).heap.size FW):=(Fresh.under hfs4).mono hb5.size
 have HP5:=jj (PR.below hp4 hb5 (fun b hb=>(hf4 b hb).1))
 have HUa5:Hid (Under ((((w4.alloc (.cells #[t.d,t.i] 25)).alloc (.cells #[a.op,a.ct,a.n,a.m,a.va,.slice pA a.ks.length pcap] 28)).alloc (.cells #[va.c,va.n,.slice vA va.ks.length vcap] 45))).heap.size Fa):=fun b hb=>zz9 (hf4 b hb).1 hb5.size
 have HR5:=jj (hr4.below hb5)
 have HB5:Hid (Below w w (((w4.alloc (.cells #[t.d,t.i] 25)).alloc (.cells #[a.op,a.ct,a.n,a.m,a.va,.slice pA a.ks.length pcap] 28)).alloc (.cells #[va.c,va.n,.slice vA va.ks.length vcap] 45))):=hB4.trans (hb5.mono hB4.size)
 have K25:=jj (K24.out.same (hb5.block _ K24.out.lt))
 have K35:=jj (K34.out.same (hb5.block _ K34.out.lt))
 clear htok ha4 hfs4 hp4 hf4 hn4 hr4 hc4 haa hb5 K23 K33 K24 K34 HR3 hB3 hB4
 go_wp2_with fail
 obtain ⟨w5,hw5⟩:∃ X,X=(((w4.alloc (.cells #[t.d,t.i] 25)).alloc (.cells #[a.op,a.ct,a.n,a.m,a.va,.slice pA a.ks.length pcap] 28)).alloc (.cells #[va.c,va.n,.slice vA va.ks.length vcap] 45)):=⟨_,rfl⟩
 rw [←hw5] at KB5 KC5 HA5 HUW5 HP5 HUa5 HR5 HB5 K25 K35 ⊢
 clear hw5
 obtain ⟨k,hk⟩:∃ X,X=w4.heap.size:=⟨_,rfl⟩
 obtain ⟨kp,hkp⟩:∃ X,X=k+1:=⟨_,rfl⟩
 rw [←hk] at KB5 KC5 hz4 hfwk hfak ⊢
 have HKW:=jj hfwk
 have HKA:=jj hfak
 clear hfwk hfak
 rw [←hkp] at KC5
 first | rw [←hkp] | skip
 have hkn:k<kp:=by omega
 have HKH:=jj (And.intro hk hkp)
 clear hk hkp
 refine (zAJ 10 q4 g w5 HR5.out (by omega) (by omega) (by omega)).mono ?_
 rintro e w6 ⟨r,rfl,hr2,hR6,hc6⟩
 have HR6:=jj hR6
 have HB6:Hid (Below w w w6):=HB5.out.trans (hc6.below (fun b hb=>by rw [zy1] at hb;omega) HB5.out.size)
 have hn1:∀ b,b<g∨w3.heap.size≤b→b∉[g]:=fun b hb h=>by rw [zy1] at h;omega
 have K26:=jj (K25.out.same (hc6.block _ K25.out.lt (hn1 _ (.inl (by omega)))))
 have K36:=jj (K35.out.same (hc6.block _ K35.out.lt (hn1 _ (.inl (by omega)))))
 have KB6:=jj (KB5.out.same (hc6.block _ KB5.out.lt (hn1 _ (.inr (by omega)))))
 have KC6:=jj (KC5.out.same (hc6.block _ KC5.out.lt (hn1 _ (.inr (by omega)))))
 have HA6:=jj (ArrDt.mono HA5.out (hc6.kept HUW5.out (fun b hb=>hn1 b (.inr (HFW.out b hb)))))
 have HUW6:Hid (Under w6 FW):=HUW5.out.mono hc6.size
 have HP6:=jj (PR.mono _ _ _ (hc6.kept HUa5.out (fun b hb=>hn1 b (.inr (HFA.out b hb).1))) HP5.out)
 have HUa6:Hid (Under w6 Fa):=HUa5.out.mono hc6.size
 have hk6:kp<w6.heap.size:=KC6.out.lt
 clear hR6 hc6 K25 K35 KB5 KC5 HA5 HUW5 HP5 HUa5 HR5 HB5 hn1
 cases q0:((r:Int)==0) with
 |true =>
  go_wp2_with fail
  refine (spec_l1Some (q4+1) g w6 HR6.out (by omega) A1 xs.length cap1 HTOK.out.pos (by have:=(worldOK HTOK.out.ok).len;omega)).mono ?_
  rintro e w7 ⟨t2,q5,rfl,hR7,hq7,hc7⟩
  have hn7:∀ b,b<g∨w3.heap.size≤b→b∉[g]:=fun b hb h=>by rw [zy1] at h;omega
  have K27:=jj (K26.out.same (hc7.block _ K26.out.lt (hn7 _ (.inl (by omega)))))
  have K37:=jj (K36.out.same (hc7.block _ K36.out.lt (hn7 _ (.inl (by omega)))))
  have KB7:=jj (KB6.out.same (hc7.block _ KB6.out.lt (hn7 _ (.inr (by omega)))))
  have KC7:=jj (KC6.out.same (hc7.block _ KC6.out.lt (hn7 _ (.inr (by omega)))))
  have HA7:=jj (ArrDt.mono HA6.out (hc7.kept HUW6.out (fun b hb=>hn7 b (.inr (HFW.out b hb)))))
  have HUW7:Hid (Under w7 FW):=HUW6.out.mono hc7.size
  have HP7:=jj (PR.mono _ _ _ (hc7.kept HUa6.out (fun b hb=>hn7 b (.inr (HFA.out b hb).1))) HP6.out)
  have HUa7:Hid (Under w7 Fa):=HUa6.out.mono hc7.size
  have HB7:Hid (Below w w w7):=HB6.out.trans (hc7.below (fun b hb=>by rw [zy1] at hb;omega) HB6.out.size)
  have HR7:=jj hR7
  obtain ⟨y0,y1,ylt,f0,f1⟩:=KB7.out.q2
  clear hR7 hc7 K26 K36 KB6 KC6 HA6 HUW6 HP6 HUa6 HB6 HR6 hn7
  go_wp2_with fail
  clear y0 y1 f0 f1 ylt
  obtain ⟨wb,hwb⟩:∃ X,X=((w7.setCell ⟨k,0,none⟩ (.int .i64 t2.d)).setCell ⟨k,1,none⟩ (.int .i64 t2.i)):=⟨_,rfl⟩
  have hfar:∀ b,b≠k→wb.heap[b]?=w7.heap[b]?:=fun b hb=>by rw [hwb,zz7 _ _ _ _ hb,zz7 _ _ _ _ hb]
  have KBb:Hid (Blk wb k 25 #[t2.d,t2.i]):=by rw [hwb];exact (KB7.out.set_ 0 _).set_ 1 _
  have hzb:wb.heap.size=w7.heap.size:=by rw [hwb];simp [World.setCell]
  have HBb:Hid (Below w w wb):=by rw [hwb];exact (HB7.out.setCell (by show w.heap.size≤k;omega) _).setCell (by show w.heap.size≤k;omega) _
  rw [←hwb]
  clear hwb
  have K2b:=jj (K27.out.same (hfar _ (by omega)))
  have K3b:=jj (K37.out.same (hfar _ (by omega)))
  have KCb:=jj (KC7.out.same (hfar _ (by omega)))
  have hkW:∀ b∈FW,b≠k:=fun b hb e=>by have:=HKW.out b hb;omega
  have hkA:∀ b∈Fa,b≠k:=fun b hb e=>by have:=HKA.out b hb;omega
  have HAb:=jj (ArrDt.mono HA7.out (w':=wb) (fun b hb=>hfar b (hkW b hb)))
  have HUWb:Hid (Under wb FW):=by rw [hzb];exact HUW7.out
  have HPb:=jj (PR.mono (w':=wb) _ _ _ (fun b hb=>hfar b (hkA b hb)) HP7.out)
  have HUab:Hid (Under wb Fa):=by rw [hzb];exact HUa7.out
  have HRb:Hid (Rd wb g q5):=HR7.out.keep fun b hb=>hfar b (by omega)
  obtain ⟨qb,hqb⟩:∃ X,X=q5:=⟨_,rfl⟩
  rw [←hqb] at HRb
  have hqb4:qb≤3000:=by omega
  have hkb:kp<wb.heap.size:=KCb.out.lt
  clear hqb hfar hkW hkA hzb K27 K37 KC7 HA7 HUW7 HP7 HUa7 HR7 HB7 KB7 q0
  go_wp2_with fail
  have HS:Hid (∀ C:World,Chg [g,w.heap.size,w.heap.size+1] wb C→(C.cell? ⟨k,0,none⟩=t2.d∧C.cell? ⟨k,1,none⟩=t2.i∧C.cell? ⟨kp,0,none⟩=a.op∧C.cell? ⟨kp,1,none⟩=a.ct∧C.cell? ⟨kp,2,none⟩=a.n∧C.cell? ⟨kp,3,none⟩=a.m∧C.cell? ⟨kp,4,none⟩=a.va∧C.cell? ⟨kp,5,none⟩=some (.slice pA a.ks.length pcap))):=fun C hC=>⟨(hC.cell (Nat.lt_trans hkn hkb) (by simp;omega)).trans ((KBb.out.cell 0).trans (by simp)),(hC.cell (Nat.lt_trans hkn hkb) (by simp;omega)).trans ((KBb.out.cell 1).trans (by simp)),(hC.cell hkb (by simp;omega)).trans ((KCb.out.cell 0).trans (by simp)),(hC.cell hkb (by simp;omega)).trans ((KCb.out.cell 1).trans (by simp)),(hC.cell hkb (by simp;omega)).trans ((KCb.out.cell 2).trans (by simp)),(hC.cell hkb (by simp;omega)).trans ((KCb.out.cell 3).trans (by simp)),(hC.cell hkb (by simp;omega)).trans ((KCb.out.cell 4).trans (by simp)),(hC.cell hkb (by simp;omega)).trans ((KCb.out.cell 5).trans (by simp))⟩
  have hC0:Chg [g,w.heap.size,w.heap.size+1] wb wb.drew:=(Chg.refl _ _).drew
  have K2d:Hid (Blk wb.drew (w.heap.size) 25 #[(0:Int),(0:Int)]):=K2b.out
  have K3d:Hid (Blk wb.drew (w.heap.size+1) 28 #[(0:Int),(0:Int),(0:Int),(0:Int),(0:Int),.slice none 0 0]):=K3b.out
  have HPd:Hid (PR wb.drew a [a.op,a.ct,a.n,a.m,a.va,.slice pA a.ks.length pcap] Fa):=PR.drew HPb.out
  have HUd:Hid (Under wb.drew.heap.size Fa):=HUab.out
  have HRd:Hid (Rd wb.drew g qb):=HRb.out.keep (fun b hb=>rfl)
  have HAd:Hid (Arr wb.drew (DtR wb.drew) xs (.slice A1 xs.length cap1) FW):=ArrDt.drew HAb.out
  have HWd:Hid (Under wb.drew.heap.size FW):=HUWb.out
  refine zA5 (S:=fun w'=>w'.cell? ⟨k,0,none⟩=t2.d∧w'.cell? ⟨k,1,none⟩=t2.i∧w'.cell? ⟨kp,0,none⟩=a.op∧w'.cell? ⟨kp,1,none⟩=a.ct∧w'.cell? ⟨kp,2,none⟩=a.n∧w'.cell? ⟨kp,3,none⟩=a.m∧w'.cell? ⟨kp,4,none⟩=a.va∧w'.cell? ⟨kp,5,none⟩=some (.slice pA a.ks.length pcap)) (T:=fun _=>True) (d:=99) (by kernel_rfl) ?_
  obtain ⟨wd,hwd⟩:∃ X,X=wb.drew:=⟨_,rfl⟩
  have hzd:wb.heap.size≤wd.heap.size:=by rw [hwd];exact zz8 _
  rw [←hwd] at hC0 K2d K3d HPd HUd HRd HAd HWd ⊢
  clear hwd
  have hS0:=HS.out _ hC0
  have hT0:True:=trivial
  refine wV 0 rfl hS0 hT0 ?_
  (try simp only [zz])
  refine wV 1 rfl hS0 hT0 ?_
  (try simp only [zz])
  refine wV 3 rfl hS0 hT0 ?_
  (try simp only [zz])
  refine wV 4 rfl hS0 hT0 ?_
  (try simp only [zz])
  refine wV 5 rfl hS0 hT0 ?_
  (try simp only [zz])
  refine w1 2 rfl fun K hK=>?_
  go_simp
  go_at_call 77
  refine (spec_l1Mutate qb g wd HRd.out (by omega) xs _ FW HAd.out HWd.out HTOK.out.pos (by have:=(worldOK HTOK.out.ok).len;omega) 4 (by omega) (SmallW.of (worldOK HTOK.out.ok))).mono ?_
  rintro e C1 ⟨ys,v6,F6,q6,rfl,-,ha6,hfs6,hr6,hq6,hc1⟩
  have hC1:Chg [g,w.heap.size,w.heap.size+1] wb C1:=hC0.trans (hc1.mono (by simp))
  have K21:=jj (K2d.out.same (hc1.block _ K2d.out.lt (by rw [zy1];omega)))
  have K31:=jj (K3d.out.same (hc1.block _ K3d.out.lt (by rw [zy1];omega)))
  have HP1:=jj (PR.mono _ _ _ (hc1.kept HUd.out (fun b hb h=>by rw [zy1] at h;exact (HFA.out b hb).2 h)) HPd.out)
  have HU1:Hid (Under C1 Fa):=HUd.out.mono hc1.size
  have HA1:=jj ha6
  have HR1:=jj hr6
  have HF6:Hid (∀ b∈F6,wd.heap.size≤b∧b<C1.heap.size):=hfs6
  have hz1:=hc1.size
  have hwdk:w.heap.size+2≤wd.heap.size∧g<wd.heap.size:=by have:=HRd.out.lt;have:=K3d.out.lt;omega
  clear ha6 hfs6 hr6 hc1 K2d K3d HPd HUd HRd HAd HWd
  (try dsimp only)
  refine hK.out _ _ (HS.out _ hC1) (fun _=>trivial) ?_
  clear hK K
  (try simp only [zz])
  refine w1 6 rfl fun K hK=>?_
  go_simp
  go_at_call 78
  refine (spec_l3Mutate a HNA.out C1 q6 g HR1.out (by omega) _ Fa HP1.out HU1.out (fun b hb=>(HFA.out b hb).2)).mono ?_
  rintro e C2 ⟨b,cs2,Fb,q8,rfl,hp2,hf2,hn2,-,-,hc2⟩
  obtain ⟨kvb,rfl,hbb⟩:=(zA3 _ _ _).1 hp2
  obtain ⟨qA,qcap,rfl,-,-⟩:=hbb.form
  have hC2:Chg [g,w.heap.size,w.heap.size+1] wb C2:=hC1.trans (hc2.mono (by simp))
  have K22:=jj (K21.out.same (hc2.block _ K21.out.lt (by rw [zy1];omega)))
  have K32:=jj (K31.out.same (hc2.block _ K31.out.lt (by rw [zy1];omega)))
  have HA2:=jj (ArrDt.mono HA1.out (hc2.kept (fun b hb=>(HF6.out b hb).2) (fun b hb h=>by rw [zy1] at h;have:=(HF6.out b hb).1;omega)))
  have HU2:Hid (Under C2 F6):=fun b hb=>zz9 (HF6.out b hb).2 hc2.size
  have HPB:=jj hp2
  have HUB:Hid (Under C2 Fb):=fun x hx=>(hf2 x hx).1
  have HFB:Hid (∀ x∈Fb,w3.heap.size≤x∧x≠g):=fun x hx=>⟨by
   rcases (hf2 x hx).2.2 with h | h
   ·exact (HFA.out x h).1
   ·omega,(hf2 x hx).2.1⟩
  have HNB:Hid (nodesP b≤2000):=by unfold Hid;omega
  clear hp2 hf2 hc2 hbb HA1 HR1
  (try dsimp only)
  refine hK.out _ _ (HS.out _ hC2) (fun _=>trivial) ?_
  clear hK K
  (try simp only [zz])
  refine w1 7 rfl fun K hK=>?_
  go_simp
  (try dsimp only)
  refine hK.out _ _ (HS.out _ hC2) (fun _=>trivial) ?_
  clear hK K
  (try simp only [zz])
  refine w1 8 rfl fun K hK=>?_
  have yy0:C2.cell? ⟨w,0,none⟩=some (.int .i64 0):=(K22.out.cell 0).trans (by simp)
  have ff0:=K22.out.frozen 0
  have yy1:C2.cell? ⟨w,1,none⟩=some (.int .i64 0):=(K22.out.cell 1).trans (by simp)
  have ff1:=K22.out.frozen 1
  have yylt:=K22.out.lt
  have hC12:Chg [g,w.heap.size,w.heap.size+1] wb ((C2.setCell ⟨w,0,none⟩ (.int .i64 t2.d)).setCell ⟨w,1,none⟩ (.int .i64 t2.i)):=((hC2.set (by simp)).set (by simp))
  have KK12:Hid (Blk ((C2.setCell ⟨w,0,none⟩ (.int .i64 t2.d)).setCell ⟨w,1,none⟩ (.int .i64 t2.i)) (w.heap.size) 25 #[t2.d,t2.i]):=((K22.out.set_ 0 _).set_ 1 _)
  have K3212:Hid (Blk ((C2.setCell ⟨w,0,none⟩ (.int .i64 t2.d)).setCell ⟨w,1,none⟩ (.int .i64 t2.i)) (w.heap.size+1) 28 #[(0:Int),(0:Int),(0:Int),(0:Int),(0:Int),.slice none 0 0]):=((K32.out.same (zz7 _ _ _ _ (by show w.heap.size+1≠w.heap.size;omega))).same (zz7 _ _ _ _ (by show w.heap.size+1≠w.heap.size;omega)))
  have hz12:(((C2.setCell ⟨w,0,none⟩ (.int .i64 t2.d)).setCell ⟨w,1,none⟩ (.int .i64 t2.i))).heap.size=C2.heap.size:=by simp [World.setCell]
  have hkA12:Kept F6 C2 ((C2.setCell ⟨w,0,none⟩ (.int .i64 t2.d)).setCell ⟨w,1,none⟩ (.int .i64 t2.i)):=fun x hx=>by rw [zz7 _ _ _ _ (by show x≠w.heap.size;have:=HF6.out x hx;omega),zz7 _ _ _ _ (by show x≠w.heap.size;have:=HF6.out x hx;omega)]
  have hkB12:Kept Fb C2 ((C2.setCell ⟨w,0,none⟩ (.int .i64 t2.d)).setCell ⟨w,1,none⟩ (.int .i64 t2.i)):=fun x hx=>by rw [zz7 _ _ _ _ (by show x≠w.heap.size;have:=HFB.out x hx;omega),zz7 _ _ _ _ (by show x≠w.heap.size;have:=HFB.out x hx;omega)]
  go_simp
  refine hK.out _ _ (HS.out _ hC12) (fun _=>trivial) ?_
  clear hK K
  (try simp only [zz])
  clear yy0 ff0 yy1 ff1 yylt
  obtain ⟨D2,hX⟩:∃ X,X=((C2.setCell ⟨w,0,none⟩ (.int .i64 t2.d)).setCell ⟨w,1,none⟩ (.int .i64 t2.i)):=⟨_,rfl⟩
  rw [←hX] at hC12 KK12 K3212 hz12 hkA12 hkB12 ⊢
  clear hX
  refine w1 9 rfl fun K hK=>?_
  obtain ⟨yy0,yy1,yy2,yy3,yy4,yy5,yylt,ff0,ff1,ff2,ff3,ff4,ff5⟩:=K3212.out.q6
  have hC13:Chg [g,w.heap.size,w.heap.size+1] wb ((((((D2.setCell ⟨w.heap.size+1,0,none⟩ (.int .i64 b.op)).setCell ⟨w.heap.size+1,1,none⟩ (.int .i64 b.ct)).setCell ⟨w.heap.size+1,2,none⟩ (.int .i64 b.n)).setCell ⟨w.heap.size+1,3,none⟩ (.int .i64 b.m)).setCell ⟨w.heap.size+1,4,none⟩ (.int .i64 b.va)).setCell ⟨w.heap.size+1,5,none⟩ (.slice qA b.ks.length qcap)):=((((((hC12.set (by simp)).set (by simp)).set (by simp)).set (by simp)).set (by simp)).set (by simp))
  have KK13:Hid (Blk ((((((D2.setCell ⟨w.heap.size+1,0,none⟩ (.int .i64 b.op)).setCell ⟨w.heap.size+1,1,none⟩ (.int .i64 b.ct)).setCell ⟨w.heap.size+1,2,none⟩ (.int .i64 b.n)).setCell ⟨w.heap.size+1,3,none⟩ (.int .i64 b.m)).setCell ⟨w.heap.size+1,4,none⟩ (.int .i64 b.va)).setCell ⟨w.heap.size+1,5,none⟩ (.slice qA b.ks.length qcap)) (w.heap.size+1) 28 #[b.op,b.ct,b.n,b.m,b.va,.slice qA b.ks.length qcap]):=((((((K3212.out.set_ 0 _).set_ 1 _).set_ 2 _).set_ 3 _).set_ 4 _).set_ 5 _)
  have KK1213:Hid (Blk ((((((D2.setCell ⟨w.heap.size+1,0,none⟩ (.int .i64 b.op)).setCell ⟨w.heap.size+1,1,none⟩ (.int .i64 b.ct)).setCell ⟨w.heap.size+1,2,none⟩ (.int .i64 b.n)).setCell ⟨w.heap.size+1,3,none⟩ (.int .i64 b.m)).setCell ⟨w.heap.size+1,4,none⟩ (.int .i64 b.va)).setCell ⟨w.heap.size+1,5,none⟩ (.slice qA b.ks.length qcap)) (w.heap.size) 25 #[t2.d,t2.i]):=((((((KK12.out.same (zz7 _ _ _ _ (by show w.heap.size≠w.heap.size+1;omega))).same (zz7 _ _ _ _ (by show w.heap.size≠w.heap.size+1;omega))).same (zz7 _ _ _ _ (by show w.heap.size≠w.heap.size+1;omega))).same (zz7 _ _ _ _ (by show w.heap.size≠w.heap.size+1;omega))).same (zz7 _ _ _ _ (by show w.heap.size≠w.heap.size+1;omega))).same (zz7 _ _ _ _ (by show w.heap.size≠w.heap.size+1;omega)))
  have hz13:(((((((D2.setCell ⟨w.heap.size+1,0,none⟩ (.int .i64 b.op)).setCell ⟨w.heap.size+1,1,none⟩ (.int .i64 b.ct)).setCell ⟨w.heap.size+1,2,none⟩ (.int .i64 b.n)).setCell ⟨w.heap.size+1,3,none⟩ (.int .i64 b.m)).setCell ⟨w.heap.size+1,4,none⟩ (.int .i64 b.va)).setCell ⟨w.heap.size+1,5,none⟩ (.slice qA b.ks.length qcap))).heap.size=D2.heap.size:=by simp [World.setCell]
  have hkA13:Kept F6 D2 ((((((D2.setCell ⟨w.heap.size+1,0,none⟩ (.int .i64 b.op)).setCell ⟨w.heap.size+1,1,none⟩ (.int .i64 b.ct)).setCell ⟨w.heap.size+1,2,none⟩ (.int .i64 b.n)).setCell ⟨w.heap.size+1,3,none⟩ (.int .i64 b.m)).setCell ⟨w.heap.size+1,4,none⟩ (.int .i64 b.va)).setCell ⟨w.heap.size+1,5,none⟩ (.slice qA b.ks.length qcap)):=fun x hx=>by rw [zz7 _ _ _ _ (by show x≠w.heap.size+1;have:=HF6.out x hx;omega),zz7 _ _ _ _ (by show x≠w.heap.size+1;have:=HF6.out x hx;omega),zz7 _ _ _ _ (by show x≠w.heap.size+1;have:=HF6.out x hx;omega),zz7 _ _ _ _ (by show x≠w.heap.size+1;have:=HF6.out x hx;omega),zz7 _ _ _ _ (by show x≠w.heap.size+1;have:=HF6.out x hx;omega),zz7 _ _ _ _ (by show x≠w.heap.size+1;have:=HF6.out x hx;omega)]
  have hkB13:Kept Fb D2 ((((((D2.setCell ⟨w.heap.size+1,0,none⟩ (.int .i64 b.op)).setCell ⟨w.heap.size+1,1,none⟩ (.int .i64 b.ct)).setCell ⟨w.heap.size+1,2,none⟩ (.int .i64 b.n)).setCell ⟨w.heap.size+1,3,none⟩ (.int .i64 b.m)).setCell ⟨w.heap.size+1,4,none⟩ (.int .i64 b.va)).setCell ⟨w.heap.size+1,5,none⟩ (.slice qA b.ks.length qcap)):=fun x hx=>by rw [zz7 _ _ _ _ (by show x≠w.heap.size+1;have:=HFB.out x hx;omega),zz7 _ _ _ _ (by show x≠w.heap.size+1;have:=HFB.out x hx;omega),zz7 _ _ _ _ (by show x≠w.heap.size+1;have:=HFB.out x hx;omega),zz7 _ _ _ _ (by show x≠w.heap.size+1;have:=HFB.out x hx;omega),zz7 _ _ _ _ (by show x≠w.heap.size+1;have:=HFB.out x hx;omega),zz7 _ _ _ _ (by show x≠w.heap.size+1;have:=HFB.out x hx;omega)]
  go_simp
  refine hK.out _ _ (HS.out _ hC13) (fun _=>trivial) ?_
  clear hK K
  (try simp only [zz])
  clear yy0 ff0 yy1 ff1 yy2 ff2 yy3 ff3 yy4 ff4 yy5 ff5 yylt
  obtain ⟨D3,hX⟩:∃ X,X=((((((D2.setCell ⟨w.heap.size+1,0,none⟩ (.int .i64 b.op)).setCell ⟨w.heap.size+1,1,none⟩ (.int .i64 b.ct)).setCell ⟨w.heap.size+1,2,none⟩ (.int .i64 b.n)).setCell ⟨w.heap.size+1,3,none⟩ (.int .i64 b.m)).setCell ⟨w.heap.size+1,4,none⟩ (.int .i64 b.va)).setCell ⟨w.heap.size+1,5,none⟩ (.slice qA b.ks.length qcap)):=⟨_,rfl⟩
  rw [←hX] at hC13 KK13 KK1213 hz13 hkA13 hkB13 ⊢
  clear hX
  refine wE (by kernel_rfl) ?_
  clear hS0 hT0
  have HFin:Hid (DrewWTPF w (.returned (.tuple #[v6,.agg #[t2.d,t2.i],.agg #[b.op,b.ct,b.n,b.m,b.va,.slice qA b.ks.length qcap]])) D3):=by
   have hz:D3.heap.size=C2.heap.size:=by rw [hz13,hz12]
   refine ⟨ys,v6,F6,t2,b,[b.op,b.ct,b.n,b.m,b.va,.slice qA b.ks.length qcap],Fb,rfl,HBb.out.trans (hC13.below (by intro x hx;simp at hx;omega) HBb.out.size),ArrDt.mono (ArrDt.mono HA2.out hkA12) hkA13,?_,PR.mono _ _ _ hkB13 (PR.mono _ _ _ hkB12 HPB.out),?_,HNB.out⟩
   ·intro x hx;rw [hz];exact ⟨by have:=(HF6.out x hx).1;omega,HU2.out x hx⟩
   ·intro x hx;rw [hz];exact ⟨by have:=(HFB.out x hx).1;omega,HUB.out x hx⟩
  clear hkA12 hkA13 hkB12 hkB13 hC12 hC13 hC2 hC1 hC0
  go_wp2
  refine bodyPost_ret (zAN rfl _ _ (w.heap.size) (w.heap.size+1) 25 28 #[t2.d,t2.i] #[b.op,b.ct,b.n,b.m,b.va,.slice qA b.ks.length qcap] (0,0) (0,0) _ _ rfl KK1213.out Tryz.underlying25 rfl rfl rfl KK13.out Tryz.underlying28 rfl rfl) rfl ?_
  exact HFin.out
 |false =>
  go_wp2_with fail
  obtain ⟨wb,hwb⟩:∃ X,X=w6:=⟨_,rfl⟩
  obtain ⟨qb,hqb⟩:∃ X,X=q4+1:=⟨_,rfl⟩
  have hqb4:qb≤3000:=by omega
  rw [←hwb] at K26 K36 KB6 KC6 HA6 HUW6 HP6 HUa6 HB6 HR6 hk6 ⊢
  rw [←hqb] at HR6
  clear hwb hqb
  have K2b:=K26
  have K3b:=K36
  have KBb:=KB6
  have KCb:=KC6
  have HAb:=HA6
  have HUWb:=HUW6
  have HPb:=HP6
  have HUab:=HUa6
  have HRb:=HR6
  have HBb:=HB6
  have hkb:=hk6
  clear K26 K36 KB6 KC6 HA6 HUW6 HP6 HUa6 HB6 HR6 hk6 q0
  have HS:Hid (∀ C:World,Chg [g,w.heap.size,w.heap.size+1] wb C→(C.cell? ⟨k,0,none⟩=t.d∧C.cell? ⟨k,1,none⟩=t.i∧C.cell? ⟨kp,0,none⟩=a.op∧C.cell? ⟨kp,1,none⟩=a.ct∧C.cell? ⟨kp,2,none⟩=a.n∧C.cell? ⟨kp,3,none⟩=a.m∧C.cell? ⟨kp,4,none⟩=a.va∧C.cell? ⟨kp,5,none⟩=some (.slice pA a.ks.length pcap))):=fun C hC=>⟨(hC.cell (Nat.lt_trans hkn hkb) (by simp;omega)).trans ((KBb.out.cell 0).trans (by simp)),(hC.cell (Nat.lt_trans hkn hkb) (by simp;omega)).trans ((KBb.out.cell 1).trans (by simp)),(hC.cell hkb (by simp;omega)).trans ((KCb.out.cell 0).trans (by simp)),(hC.cell hkb (by simp;omega)).trans ((KCb.out.cell 1).trans (by simp)),(hC.cell hkb (by simp;omega)).trans ((KCb.out.cell 2).trans (by simp)),(hC.cell hkb (by simp;omega)).trans ((KCb.out.cell 3).trans (by simp)),(hC.cell hkb (by simp;omega)).trans ((KCb.out.cell 4).trans (by simp)),(hC.cell hkb (by simp;omega)).trans ((KCb.out.cell 5).trans (by simp))⟩
  have hC0:Chg [g,w.heap.size,w.heap.size+1] wb wb.drew:=(Chg.refl _ _).drew
  have K2d:Hid (Blk wb.drew (w.heap.size) 25 #[(0:Int),(0:Int)]):=K2b.out
  have K3d:Hid (Blk wb.drew (w.heap.size+1) 28 #[(0:Int),(0:Int),(0:Int),(0:Int),(0:Int),.slice none 0 0]):=K3b.out
  have HPd:Hid (PR wb.drew a [a.op,a.ct,a.n,a.m,a.va,.slice pA a.ks.length pcap] Fa):=PR.drew HPb.out
  have HUd:Hid (Under wb.drew.heap.size Fa):=HUab.out
  have HRd:Hid (Rd wb.drew g qb):=HRb.out.keep (fun b hb=>rfl)
  have HAd:Hid (Arr wb.drew (DtR wb.drew) xs (.slice A1 xs.length cap1) FW):=ArrDt.drew HAb.out
  have HWd:Hid (Under wb.drew.heap.size FW):=HUWb.out
  refine zA5 (S:=fun w'=>w'.cell? ⟨k,0,none⟩=t.d∧w'.cell? ⟨k,1,none⟩=t.i∧w'.cell? ⟨kp,0,none⟩=a.op∧w'.cell? ⟨kp,1,none⟩=a.ct∧w'.cell? ⟨kp,2,none⟩=a.n∧w'.cell? ⟨kp,3,none⟩=a.m∧w'.cell? ⟨kp,4,none⟩=a.va∧w'.cell? ⟨kp,5,none⟩=some (.slice pA a.ks.length pcap)) (T:=fun _=>True) (d:=99) (by kernel_rfl) ?_
  obtain ⟨wd,hwd⟩:∃ X,X=wb.drew:=⟨_,rfl⟩
  have hzd:wb.heap.size≤wd.heap.size:=by rw [hwd];exact zz8 _
  rw [←hwd] at hC0 K2d K3d HPd HUd HRd HAd HWd ⊢
  clear hwd
  have hS0:=HS.out _ hC0
  have hT0:True:=trivial
  refine wV 0 rfl hS0 hT0 ?_
  (try simp only [zz])
  refine wV 1 rfl hS0 hT0 ?_
  (try simp only [zz])
  refine wV 3 rfl hS0 hT0 ?_
  (try simp only [zz])
  refine wV 4 rfl hS0 hT0 ?_
  (try simp only [zz])
  refine wV 5 rfl hS0 hT0 ?_
  (try simp only [zz])
  refine w1 2 rfl fun K hK=>?_
  go_simp
  go_at_call 77
  refine (spec_l1Mutate qb g wd HRd.out (by omega) xs _ FW HAd.out HWd.out HTOK.out.pos (by have:=(worldOK HTOK.out.ok).len;omega) 4 (by omega) (SmallW.of (worldOK HTOK.out.ok))).mono ?_
  rintro e C1 ⟨ys,v6,F6,q6,rfl,-,ha6,hfs6,hr6,hq6,hc1⟩
  have hC1:Chg [g,w.heap.size,w.heap.size+1] wb C1:=hC0.trans (hc1.mono (by simp))
  have K21:=jj (K2d.out.same (hc1.block _ K2d.out.lt (by rw [zy1];omega)))
  have K31:=jj (K3d.out.same (hc1.block _ K3d.out.lt (by rw [zy1];omega)))
  have HP1:=jj (PR.mono _ _ _ (hc1.kept HUd.out (fun b hb h=>by rw [zy1] at h;exact (HFA.out b hb).2 h)) HPd.out)
  have HU1:Hid (Under C1 Fa):=HUd.out.mono hc1.size
  have HA1:=jj ha6
  have HR1:=jj hr6
  have HF6:Hid (∀ b∈F6,wd.heap.size≤b∧b<C1.heap.size):=hfs6
  have hz1:=hc1.size
  have hwdk:w.heap.size+2≤wd.heap.size∧g<wd.heap.size:=by have:=HRd.out.lt;have:=K3d.out.lt;omega
  clear ha6 hfs6 hr6 hc1 K2d K3d HPd HUd HRd HAd HWd
  (try dsimp only)
  refine hK.out _ _ (HS.out _ hC1) (fun _=>trivial) ?_
  clear hK K
  (try simp only [zz])
  refine w1 6 rfl fun K hK=>?_
  go_simp
  go_at_call 78
  refine (spec_l3Mutate a HNA.out C1 q6 g HR1.out (by omega) _ Fa HP1.out HU1.out (fun b hb=>(HFA.out b hb).2)).mono ?_
  rintro e C2 ⟨b,cs2,Fb,q8,rfl,hp2,hf2,hn2,-,-,hc2⟩
  obtain ⟨kvb,rfl,hbb⟩:=(zA3 _ _ _).1 hp2
  obtain ⟨qA,qcap,rfl,-,-⟩:=hbb.form
  have hC2:Chg [g,w.heap.size,w.heap.size+1] wb C2:=hC1.trans (hc2.mono (by simp))
  have K22:=jj (K21.out.same (hc2.block _ K21.out.lt (by rw [zy1];omega)))
  have K32:=jj (K31.out.same (hc2.block _ K31.out.lt (by rw [zy1];omega)))
  have HA2:=jj (ArrDt.mono HA1.out (hc2.kept (fun b hb=>(HF6.out b hb).2) (fun b hb h=>by rw [zy1] at h;have:=(HF6.out b hb).1;omega)))
  have HU2:Hid (Under C2 F6):=fun b hb=>zz9 (HF6.out b hb).2 hc2.size
  have HPB:=jj hp2
  have HUB:Hid (Under C2 Fb):=fun x hx=>(hf2 x hx).1
  have HFB:Hid (∀ x∈Fb,w3.heap.size≤x∧x≠g):=fun x hx=>⟨by
   rcases (hf2 x hx).2.2 with h | h
   ·exact (HFA.out x h).1
   ·omega,(hf2 x hx).2.1⟩
  have HNB:Hid (nodesP b≤2000):=by unfold Hid;omega
  clear hp2 hf2 hc2 hbb HA1 HR1
  (try dsimp only)
  refine hK.out _ _ (HS.out _ hC2) (fun _=>trivial) ?_
  clear hK K
  (try simp only [zz])
  refine w1 7 rfl fun K hK=>?_
  go_simp
  (try dsimp only)
  refine hK.out _ _ (HS.out _ hC2) (fun _=>trivial) ?_
  clear hK K
  (try simp only [zz])
  refine w1 8 rfl fun K hK=>?_
  have yy0:C2.cell? ⟨w,0,none⟩=some (.int .i64 0):=(K22.out.cell 0).trans (by simp)
  have ff0:=K22.out.frozen 0
  have yy1:C2.cell? ⟨w,1,none⟩=some (.int .i64 0):=(K22.out.cell 1).trans (by simp)
  have ff1:=K22.out.frozen 1
  have yylt:=K22.out.lt
  have hC12:Chg [g,w.heap.size,w.heap.size+1] wb ((C2.setCell ⟨w,0,none⟩ (.int .i64 t.d)).setCell ⟨w,1,none⟩ (.int .i64 t.i)):=((hC2.set (by simp)).set (by simp))
  have KK12:Hid (Blk ((C2.setCell ⟨w,0,none⟩ (.int .i64 t.d)).setCell ⟨w,1,none⟩ (.int .i64 t.i)) (w.heap.size) 25 #[t.d,t.i]):=((K22.out.set_ 0 _).set_ 1 _)
  have K3212:Hid (Blk ((C2.setCell ⟨w,0,none⟩ (.int .i64 t.d)).setCell ⟨w,1,none⟩ (.int .i64 t.i)) (w.heap.size+1) 28 #[(0:Int),(0:Int),(0:Int),(0:Int),(0:Int),.slice none 0 0]):=((K32.out.same (zz7 _ _ _ _ (by show w.heap.size+1≠w.heap.size;omega))).same (zz7 _ _ _ _ (by show w.heap.size+1≠w.heap.size;omega)))
  have hz12:(((C2.setCell ⟨w,0,none⟩ (.int .i64 t.d)).setCell ⟨w,1,none⟩ (.int .i64 t.i))).heap.size=C2.heap.size:=by simp [World.setCell]
  have hkA12:Kept F6 C2 ((C2.setCell ⟨w,0,none⟩ (.int .i64 t.d)).setCell ⟨w,1,none⟩ (.int .i64 t.i)):=fun x hx=>by rw [zz7 _ _ _ _ (by show x≠w.heap.size;have:=HF6.out x hx;omega),zz7 _ _ _ _ (by show x≠w.heap.size;have:=HF6.out x hx;omega)]
  have hkB12:Kept Fb C2 ((C2.setCell ⟨w,0,none⟩ (.int .i64 t.d)).setCell ⟨w,1,none⟩ (.int .i64 t.i)):=fun x hx=>by rw [zz7 _ _ _ _ (by show x≠w.heap.size;have:=HFB.out x hx;omega),zz7 _ _ _ _ (by show x≠w.heap.size;have:=HFB.out x hx;omega)]
  go_simp
  refine hK.out _ _ (HS.out _ hC12) (fun _=>trivial) ?_
  clear hK K
  (try simp only [zz])
  clear yy0 ff0 yy1 ff1 yylt
  obtain ⟨D2,hX⟩:∃ X,X=((C2.setCell ⟨w,0,none⟩ (.int .i64 t.d)).setCell ⟨w,1,none⟩ (.int .i64 t.i)):=⟨_,rfl⟩
  rw [←hX] at hC12 KK12 K3212 hz12 hkA12 hkB12 ⊢
  clear hX
  refine w1 9 rfl fun K hK=>?_
  obtain ⟨yy0,yy1,yy2,yy3,yy4,yy5,yylt,ff0,ff1,ff2,ff3,ff4,ff5⟩:=K3212.out.q6
  have hC13:Chg [g,w.heap.size,w.heap.size+1] wb ((((((D2.setCell ⟨w.heap.size+1,0,none⟩ (.int .i64 b.op)).setCell ⟨w.heap.size+1,1,none⟩ (.int .i64 b.ct)).setCell ⟨w.heap.size+1,2,none⟩ (.int .i64 b.n)).setCell ⟨w.heap.size+1,3,none⟩ (.int .i64 b.m)).setCell ⟨w.heap.size+1,4,none⟩ (.int .i64 b.va)).setCell ⟨w.heap.size+1,5,none⟩ (.slice qA b.ks.length qcap)):=((((((hC12.set (by simp)).set (by simp)).set (by simp)).set (by simp)).set (by simp)).set (by simp))
  have KK13:Hid (Blk ((((((D2.setCell ⟨w.heap.size+1,0,none⟩ (.int .i64 b.op)).setCell ⟨w.heap.size+1,1,none⟩ (.int .i64 b.ct)).setCell ⟨w.heap.size+1,2,none⟩ (.int .i64 b.n)).setCell ⟨w.heap.size+1,3,none⟩ (.int .i64 b.m)).setCell ⟨w.heap.size+1,4,none⟩ (.int .i64 b.va)).setCell ⟨w.heap.size+1,5,none⟩ (.slice qA b.ks.length qcap)) (w.heap.size+1) 28 #[b.op,b.ct,b.n,b.m,b.va,.slice qA b.ks.length qcap]):=((((((K3212.out.set_ 0 _).set_ 1 _).set_ 2 _).set_ 3 _).set_ 4 _).set_ 5 _)
  have KK1213:Hid (Blk ((((((D2.setCell ⟨w.heap.size+1,0,none⟩ (.int .i64 b.op)).setCell ⟨w.heap.size+1,1,none⟩ (.int .i64 b.ct)).setCell ⟨w.heap.size+1,2,none⟩ (.int .i64 b.n)).setCell ⟨w.heap.size+1,3,none⟩ (.int .i64 b.m)).setCell ⟨w.heap.size+1,4,none⟩ (.int .i64 b.va)).setCell ⟨w.heap.size+1,5,none⟩ (.slice qA b.ks.length qcap)) (w.heap.size) 25 #[t.d,t.i]):=((((((KK12.out.same (zz7 _ _ _ _ (by show w.heap.size≠w.heap.size+1;omega))).same (zz7 _ _ _ _ (by show w.heap.size≠w.heap.size+1;omega))).same (zz7 _ _ _ _ (by show w.heap.size≠w.heap.size+1;omega))).same (zz7 _ _ _ _ (by show w.heap.size≠w.heap.size+1;omega))).same (zz7 _ _ _ _ (by show w.heap.size≠w.heap.size+1;omega))).same (zz7 _ _ _ _ (by show w.heap.size≠w.heap.size+1;omega)))
  have hz13:(((((((D2.setCell ⟨w.heap.size+1,0,none⟩ (.int .i64 b.op)).setCell ⟨w.heap.size+1,1,none⟩ (.int .i64 b.ct)).setCell ⟨w.heap.size+1,2,none⟩ (.int .i64 b.n)).setCell ⟨w.heap.size+1,3,none⟩ (.int .i64 b.m)).setCell ⟨w.heap.size+1,4,none⟩ (.int .i64 b.va)).setCell ⟨w.heap.size+1,5,none⟩ (.slice qA b.ks.length qcap))).heap.size=D2.heap.size:=by simp [World.setCell]
  have hkA13:Kept F6 D2 ((((((D2.setCell ⟨w.heap.size+1,0,none⟩ (.int .i64 b.op)).setCell ⟨w.heap.size+1,1,none⟩ (.int .i64 b.ct)).setCell ⟨w.heap.size+1,2,none⟩ (.int .i64 b.n)).setCell ⟨w.heap.size+1,3,none⟩ (.int .i64 b.m)).setCell ⟨w.heap.size+1,4,none⟩ (.int .i64 b.va)).setCell ⟨w.heap.size+1,5,none⟩ (.slice qA b.ks.length qcap)):=fun x hx=>by rw [zz7 _ _ _ _ (by show x≠w.heap.size+1;have:=HF6.out x hx;omega),zz7 _ _ _ _ (by show x≠w.heap.size+1;have:=HF6.out x hx;omega),zz7 _ _ _ _ (by show x≠w.heap.size+1;have:=HF6.out x hx;omega),zz7 _ _ _ _ (by show x≠w.heap.size+1;have:=HF6.out x hx;omega),zz7 _ _ _ _ (by show x≠w.heap.size+1;have:=HF6.out x hx;omega),zz7 _ _ _ _ (by show x≠w.heap.size+1;have:=HF6.out x hx;omega)]
  have hkB13:Kept Fb D2 ((((((D2.setCell ⟨w.heap.size+1,0,none⟩ (.int .i64 b.op)).setCell ⟨w.heap.size+1,1,none⟩ (.int .i64 b.ct)).setCell ⟨w.heap.size+1,2,none⟩ (.int .i64 b.n)).setCell ⟨w.heap.size+1,3,none⟩ (.int .i64 b.m)).setCell ⟨w.heap.size+1,4,none⟩ (.int .i64 b.va)).setCell ⟨w.heap.size+1,5,none⟩ (.slice qA b.ks.length qcap)):=fun x hx=>by rw [zz7 _ _ _ _ (by show x≠w.heap.size+1;have:=HFB.out x hx;omega),zz7 _ _ _ _ (by show x≠w.heap.size+1;have:=HFB.out x hx;omega),zz7 _ _ _ _ (by show x≠w.heap.size+1;have:=HFB.out x hx;omega),zz7 _ _ _ _ (by show x≠w.heap.size+1;have:=HFB.out x hx;omega),zz7 _ _ _ _ (by show x≠w.heap.size+1;have:=HFB.out x hx;omega),zz7 _ _ _ _ (by show x≠w.heap.size+1;have:=HFB.out x hx;omega)]
  go_simp
  refine hK.out _ _ (HS.out _ hC13) (fun _=>trivial) ?_
  clear hK K
  (try simp only [zz])
  clear yy0 ff0 yy1 ff1 yy2 ff2 yy3 ff3 yy4 ff4 yy5 ff5 yylt
  obtain ⟨D3,hX⟩:∃ X,X=((((((D2.setCell ⟨w.heap.size+1,0,none⟩ (.int .i64 b.op)).setCell ⟨w.heap.size+1,1,none⟩ (.int .i64 b.ct)).setCell ⟨w.heap.size+1,2,none⟩ (.int .i64 b.n)).setCell ⟨w.heap.size+1,3,none⟩ (.int .i64 b.m)).setCell ⟨w.heap.size+1,4,none⟩ (.int .i64 b.va)).setCell ⟨w.heap.size+1,5,none⟩ (.slice qA b.ks.length qcap)):=⟨_,rfl⟩
  rw [←hX] at hC13 KK13 KK1213 hz13 hkA13 hkB13 ⊢
  clear hX
  refine wE (by kernel_rfl) ?_
  clear hS0 hT0
  have HFin:Hid (DrewWTPF w (.returned (.tuple #[v6,.agg #[t.d,t.i],.agg #[b.op,b.ct,b.n,b.m,b.va,.slice qA b.ks.length qcap]])) D3):=by
   have hz:D3.heap.size=C2.heap.size:=by rw [hz13,hz12]
   refine ⟨ys,v6,F6,t,b,[b.op,b.ct,b.n,b.m,b.va,.slice qA b.ks.length qcap],Fb,rfl,HBb.out.trans (hC13.below (by intro x hx;simp at hx;omega) HBb.out.size),ArrDt.mono (ArrDt.mono HA2.out hkA12) hkA13,?_,PR.mono _ _ _ hkB13 (PR.mono _ _ _ hkB12 HPB.out),?_,HNB.out⟩
   ·intro x hx;rw [hz];exact ⟨by have:=(HF6.out x hx).1;omega,HU2.out x hx⟩
   ·intro x hx;rw [hz];exact ⟨by have:=(HFB.out x hx).1;omega,HUB.out x hx⟩
  clear hkA12 hkA13 hkB12 hkB13 hC12 hC13 hC2 hC1 hC0
  go_wp2
  refine bodyPost_ret (zAN rfl _ _ (w.heap.size) (w.heap.size+1) 25 28 #[t.d,t.i] #[b.op,b.ct,b.n,b.m,b.va,.slice qA b.ks.length qcap] (0,0) (0,0) _ _ rfl KK1213.out Tryz.underlying25 rfl rfl rfl KK13.out Tryz.underlying28 rfl rfl) rfl ?_
  exact HFin.out
set_option maxHeartbeats 6400000 in
theorem spec_DrawFormatPattern (bs:List Int) (w:World) (v:Value) (F:List Nat) (hx:Arr w (ByR w) bs v F) (hf:Under w F) :
  Calls Tryz.prog 7 #[v] w (DrewWTPF w):=by
 have hB1:Below w w ((w.alloc (.cells #[(0:Int),(0:Int)] 25)).alloc (.cells #[(0:Int),(0:Int),(0:Int),(0:Int),(0:Int),.slice none 0 0] 28)):=((zy2 _ _).alloc (zz8 _) _).alloc (by simp) _
 have K1:Hid (Blk ((w.alloc (.cells #[(0:Int),(0:Int)] 25)).alloc (.cells #[(0:Int),(0:Int),(0:Int),(0:Int),(0:Int),.slice none 0 0] 28)) w.heap.size 25 #[(0:Int),(0:Int)]):=(Blk.new w _ _).same (Below.heap_alloc _ _ _ (by simp))
 have J1:Hid (Blk ((w.alloc (.cells #[(0:Int),(0:Int)] 25)).alloc (.cells #[(0:Int),(0:Int),(0:Int),(0:Int),(0:Int),.slice none 0 0] 28)) (w.heap.size+1) 28 #[(0:Int),(0:Int),(0:Int),(0:Int),(0:Int),.slice none 0 0]):=zA9 w _ 28 _
 have HX:Hid (Arr ((w.alloc (.cells #[(0:Int),(0:Int)] 25)).alloc (.cells #[(0:Int),(0:Int),(0:Int),(0:Int),(0:Int),.slice none 0 0] 28)) (ByR ((w.alloc (.cells #[(0:Int),(0:Int)] 25)).alloc (.cells #[(0:Int),(0:Int),(0:Int),(0:Int),(0:Int),.slice none 0 0] 28))) bs v F):=ArrBy.mono hx (.of_below hB1 hf)
 have HU:Hid (Under (((w.alloc (.cells #[(0:Int),(0:Int)] 25)).alloc (.cells #[(0:Int),(0:Int),(0:Int),(0:Int),(0:Int),.slice none 0 0] 28))).heap.size F):=hf.mono hB1.size
 have hs1:(((w.alloc (.cells #[(0:Int),(0:Int)] 25)).alloc (.cells #[(0:Int),(0:Int),(0:Int),(0:Int),(0:Int),.slice none 0 0] 28))).heap.size=w.heap.size+2:=by simp
 clear hx hf
 go_enter Tryz.func7,Tryz.ntmps7
 go_wp2_with fail
 obtain ⟨w1,hw1⟩:∃ X,X=((w.alloc (.cells #[(0:Int),(0:Int)] 25)).alloc (.cells #[(0:Int),(0:Int),(0:Int),(0:Int),(0:Int),.slice none 0 0] 28)):=⟨_,rfl⟩
 rw [←hw1] at hB1 K1 J1 HX HU hs1 ⊢
 clear hw1
 refine (spec_DrawPatternValidF bs w1 v F HX.out HU.out).mono ?_
 rintro e w3 ⟨xs,v4,FW,t,a,csa,Fa,rfl,hb3,hx3,hfx3,hp3,hf3,hn3⟩
 obtain ⟨kva,rfl,haa⟩:=(zA3 _ _ _).1 hp3
 obtain ⟨pA,pcap,rfl,-,-⟩:=haa.form
 have K3:Hid (Blk w3 w 25 #[(0:Int),(0:Int)]):=K1.out.same (hb3.block _ (by omega))
 have J3:Hid (Blk w3 (w.heap.size+1) 28 #[(0:Int),(0:Int),(0:Int),(0:Int),(0:Int),.slice none 0 0]):=J1.out.same (hb3.block _ (by omega))
 have HP3:=jj hp3
 have HX3:=jj hx3
 have hz3:=hb3.size
 have HF3:Hid (∀ x∈Fa,w.heap.size+1<x∧x<w3.heap.size):=fun x hx=>⟨by have:=(hf3 x hx).1;omega,(hf3 x hx).2⟩
 have HG3:Hid (∀ x∈FW,w.heap.size+1<x∧x<w3.heap.size):=fun x hx=>⟨by have:=(hfx3 x hx).1;omega,(hfx3 x hx).2⟩
 have HB3:Hid (Below w w w3):=hB1.trans (hb3.mono hB1.size)
 have HN:=jj hn3
 have r0:w3.cell? ⟨w,0,none⟩=some (.int .i64 0):=(K3.out.cell 0).trans (by simp)
 have rf0:=K3.out.frozen 0
 have r1:w3.cell? ⟨w,1,none⟩=some (.int .i64 0):=(K3.out.cell 1).trans (by simp)
 have rf1:=K3.out.frozen 1
 have rlt:=K3.out.lt
 obtain ⟨s0,s1,s2,s3,s4,s5,slt,sf0,sf1,sf2,sf3,sf4,sf5⟩:=J3.out.q6
 clear hb3 hp3 hf3 haa hx3 hfx3 hn3
 go_wp2
 clear r0 rf0 r1 rf1 rlt s0 sf0 s1 sf1 s2 sf2 s3 sf3 s4 sf4 s5 sf5 slt
 have K7:Blk ((((((((w3.setCell ⟨w,0,none⟩ (.int .i64 t.d)).setCell ⟨w,1,none⟩ (.int .i64 t.i)).setCell ⟨w.heap.size+1,0,none⟩ (.int .i64 a.op)).setCell ⟨w.heap.size+1,1,none⟩ (.int .i64 a.ct)).setCell ⟨w.heap.size+1,2,none⟩ (.int .i64 a.n)).setCell ⟨w.heap.size+1,3,none⟩ (.int .i64 a.m)).setCell ⟨w.heap.size+1,4,none⟩ (.int .i64 a.va)).setCell ⟨w.heap.size+1,5,none⟩ (.slice pA a.ks.length pcap)) w.heap.size 25 #[t.d,t.i]:=(((((((((((((K3.out.set_ 0 _).set_ 1 _).same (zz7 _ _ _ _ (by show w.heap.size≠w.heap.size+1;omega)))).same (zz7 _ _ _ _ (by show w.heap.size≠w.heap.size+1;omega)))).same (zz7 _ _ _ _ (by show w.heap.size≠w.heap.size+1;omega)))).same (zz7 _ _ _ _ (by show w.heap.size≠w.heap.size+1;omega)))).same (zz7 _ _ _ _ (by show w.heap.size≠w.heap.size+1;omega)))).same (zz7 _ _ _ _ (by show w.heap.size≠w.heap.size+1;omega)))
 have J6:Blk ((w3.setCell ⟨w,0,none⟩ (.int .i64 t.d)).setCell ⟨w,1,none⟩ (.int .i64 t.i)) (w.heap.size+1) 28 #[(0:Int),(0:Int),(0:Int),(0:Int),(0:Int),.slice none 0 0]:=((J3.out.same (zz7 _ _ _ _ (by show w.heap.size+1≠w.heap.size;omega))).same (zz7 _ _ _ _ (by show w.heap.size+1≠w.heap.size;omega)))
 have J7:Blk ((((((((w3.setCell ⟨w,0,none⟩ (.int .i64 t.d)).setCell ⟨w,1,none⟩ (.int .i64 t.i)).setCell ⟨w.heap.size+1,0,none⟩ (.int .i64 a.op)).setCell ⟨w.heap.size+1,1,none⟩ (.int .i64 a.ct)).setCell ⟨w.heap.size+1,2,none⟩ (.int .i64 a.n)).setCell ⟨w.heap.size+1,3,none⟩ (.int .i64 a.m)).setCell ⟨w.heap.size+1,4,none⟩ (.int .i64 a.va)).setCell ⟨w.heap.size+1,5,none⟩ (.slice pA a.ks.length pcap)) (w.heap.size+1) 28 #[a.op,a.ct,a.n,a.m,a.va,.slice pA a.ks.length pcap]:=J6.six _ _ _ _ _ _
 refine bodyPost_ret (zAN rfl _ _ (w.heap.size) (w.heap.size+1) 25 28 #[t.d,t.i] #[a.op,a.ct,a.n,a.m,a.va,.slice pA a.ks.length pcap] (0,0) (0,0) _ _ rfl K7 Tryz.underlying25 rfl rfl rfl J7 Tryz.underlying28 rfl rfl) rfl ?_
 have hk2:∀ (G:List Nat),(∀ x∈G,w.heap.size+1<x∧x<w3.heap.size)→Kept G w3 ((((((((w3.setCell ⟨w,0,none⟩ (.int .i64 t.d)).setCell ⟨w,1,none⟩ (.int .i64 t.i)).setCell ⟨w.heap.size+1,0,none⟩ (.int .i64 a.op)).setCell ⟨w.heap.size+1,1,none⟩ (.int .i64 a.ct)).setCell ⟨w.heap.size+1,2,none⟩ (.int .i64 a.n)).setCell ⟨w.heap.size+1,3,none⟩ (.int .i64 a.m)).setCell ⟨w.heap.size+1,4,none⟩ (.int .i64 a.va)).setCell ⟨w.heap.size+1,5,none⟩ (.slice pA a.ks.length pcap)):=fun G hG x hx=>by
  have h:=(hG x hx).1
  rw [zz7 _ _ _ _ (by show x≠w.heap.size+1;omega),zz7 _ _ _ _ (by show x≠w.heap.size+1;omega),zz7 _ _ _ _ (by show x≠w.heap.size+1;omega),zz7 _ _ _ _ (by show x≠w.heap.size+1;omega),zz7 _ _ _ _ (by show x≠w.heap.size+1;omega),zz7 _ _ _ _ (by show x≠w.heap.size+1;omega),zz7 _ _ _ _ (by show x≠w.heap.size;omega),zz7 _ _ _ _ (by show x≠w.heap.size;omega)]
 have hsz:(((((((((w3.setCell ⟨w,0,none⟩ (.int .i64 t.d)).setCell ⟨w,1,none⟩ (.int .i64 t.i)).setCell ⟨w.heap.size+1,0,none⟩ (.int .i64 a.op)).setCell ⟨w.heap.size+1,1,none⟩ (.int .i64 a.ct)).setCell ⟨w.heap.size+1,2,none⟩ (.int .i64 a.n)).setCell ⟨w.heap.size+1,3,none⟩ (.int .i64 a.m)).setCell ⟨w.heap.size+1,4,none⟩ (.int .i64 a.va)).setCell ⟨w.heap.size+1,5,none⟩ (.slice pA a.ks.length pcap))).heap.size=w3.heap.size:=by simp [World.setCell]
 refine ⟨xs,v4,FW,t,a,[a.op,a.ct,a.n,a.m,a.va,.slice pA a.ks.length pcap],Fa,rfl,((((((((HB3.out.setCell (zz8 _) _).setCell (zz8 _) _).setCell (Nat.le_succ _) _).setCell (Nat.le_succ _) _).setCell (Nat.le_succ _) _).setCell (Nat.le_succ _) _).setCell (Nat.le_succ _) _).setCell (Nat.le_succ _) _),ArrDt.mono HX3.out (hk2 FW HG3.out),fun x hx=>⟨by have:=(HG3.out x hx).1;omega,by rw [hsz];exact (HG3.out x hx).2⟩,PR.mono _ _ _ (hk2 Fa HF3.out) HP3.out,fun x hx=>⟨by have:=(HF3.out x hx).1;omega,by rw [hsz];exact (HF3.out x hx).2⟩,HN.out⟩
theorem joinTail_cons (sep x:List UInt8) (r:List (List UInt8)):Lib.joinTail sep (x :: r)=sep ++ x ++ Lib.joinTail sep r:=by simp [Lib.joinTail]
theorem join_of {α:Type} (f:α→List UInt8) (g:Bool→List α→List UInt8) (s:UInt8) (h0:∀ b,g b []=[]) (h1:∀ x l,g true (x :: l)=f x ++ g false l) (h2:∀ x l,g false (x :: l)=s :: (f x ++ g false l)) (l:List α):Lib.join (l.map f) [s]=g true l:=by
 have key:∀ l:List α,Lib.joinTail [s] (l.map f)=g false l:=by
  intro l
  induction l with
  |nil=>rw [h0];rfl
  |cons x l ih=>rw [List.map_cons,joinTail_cons,ih,h2];rfl
 cases l with
 |nil=>rw [h0];rfl
 |cons x l=>rw [List.map_cons,Lib.join_cons,key,h1]
def listedT (ls:List ByteArray):List UInt8:=if ls=[] then [] else 40 :: (Lib.join (ls.map tl) [44] ++ [41])
def tyB (xs:List Dt) (t:Ty):ByteArray:=bs (tyT xs t)
def ktB (xs:List Dt) (c:Kt):ByteArray:=bs (ktT xs c)
def dtT (xs:List Dt) (x:Dt):List UInt8:=tl x.name ++ (61 :: ktsT xs true x.ctors)
def dtB (xs:List Dt) (x:Dt):ByteArray:=bs (dtT xs x)
def ctorN (xs:List Dt) (t:Ty) (k:Int):List UInt8:=match ctorAt xs t k with | some c=>tl c.name | none=>[]
theorem ctorN_get {xs:List Dt} {d k:Nat} {i:Int} (hd:d<xs.length) (hk:k<xs[d].ctors.length):ctorN xs ⟨(d:Int),i⟩ (k:Int)=tl xs[d].ctors[k].name:=by
 unfold ctorN ctorAt
 simp only
 rw [ctorsAt_get hd,Int.toNat_natCast,List.getElem?_eq_getElem hk]
def lst:Bool→List (List UInt8)→List UInt8
 |_,[]=>[]
 |b,a :: l=>(if b=true then 40 else 44) :: (a ++ lst false l)
def closeL (n:Nat):List UInt8:=if 0<n then [41] else []
theorem lst_join (a:List UInt8) (l:List (List UInt8)):lst true (a :: l)=40 :: Lib.join (a :: l) [44]:=by
 have h:=join_of id (fun b l=>if b=true then (match l with | []=>[] | x :: l=>x ++ lst false l) else lst false l) 44 (fun b=>by cases b <;> rfl) (fun x l=>rfl) (fun x l=>rfl) (a :: l)
 rw [List.map_id] at h
 rw [h];rfl
theorem listedT_lst (l:List (List UInt8)):listedT (l.map bs)=lst true l ++ closeL l.length:=by
 unfold listedT closeL
 cases hl:l with
 |nil=>rfl
 |cons a l =>
  have e:((a :: l).map bs).map tl=a :: l:=by rw [List.map_map];exact (List.map_congr_left (fun x _=>zB9 x)).trans (List.map_id _)
  rw [if_neg (by simp),if_pos (by simp),e,lst_join]
  rfl
theorem closeL_len (n:Nat):(closeL n).length≤1:=by unfold closeL;split <;> simp
def letT (v:Int):List UInt8:=[UInt8.ofNat (97+v.toNat)]
def nodeT (xs:List Dt) (t:Ty) (p:P) (l:List (List UInt8)):List UInt8 :=
 if p.op=1 then [95] else if p.op=2 then letT p.va else if p.op=3 then (if p.n=p.m then digT p.n else digT p.n ++ (45 :: digT p.m))
 else if p.op=5 then 40 :: (l.getD 0 [] ++ 124 :: (l.getD 1 [] ++ [41])) else if p.op=6 then letT p.va ++ 64 :: l.getD 0 []
 else ctorN xs t p.ct ++ (lst true l ++ closeL l.length)
def pT (xs:List Dt):Nat→Ty→P→List UInt8
 |0,_,_=>[]
 |d+1,t,p=>nodeT xs t p (List.zipWith (pT xs d) (typesP xs t p) p.ks)
theorem zBH (xs:List Dt) (d:Nat) (t:Ty) (p:P):pT xs (d+1) t p=nodeT xs t p (List.zipWith (pT xs d) (typesP xs t p) p.ks):=rfl
theorem nodeT_1 {xs:List Dt} {t:Ty} {p:P} {l:List (List UInt8)} (h:p.op=1):nodeT xs t p l=[95]:=if_pos h
theorem nodeT_2 {xs:List Dt} {t:Ty} {p:P} {l:List (List UInt8)} (h:p.op=2):nodeT xs t p l=letT p.va:=by unfold nodeT;rw [if_neg (by omega),if_pos h]
theorem nodeT_3 {xs:List Dt} {t:Ty} {p:P} {l:List (List UInt8)} (h:p.op=3):nodeT xs t p l=(if p.n=p.m then digT p.n else digT p.n ++ (45 :: digT p.m)):=by unfold nodeT;rw [if_neg (by omega),if_neg (by omega),if_pos h]
theorem nodeT_5 {xs:List Dt} {t:Ty} {p:P} {l:List (List UInt8)} (h:p.op=5):nodeT xs t p l=40 :: (l.getD 0 [] ++ 124 :: (l.getD 1 [] ++ [41])):=by unfold nodeT;rw [if_neg (by omega),if_neg (by omega),if_neg (by omega),if_pos h]
theorem nodeT_6 {xs:List Dt} {t:Ty} {p:P} {l:List (List UInt8)} (h:p.op=6):nodeT xs t p l=letT p.va ++ 64 :: l.getD 0 []:=by unfold nodeT;rw [if_neg (by omega),if_neg (by omega),if_neg (by omega),if_neg (by omega),if_pos h]
theorem nodeT_4 {xs:List Dt} {t:Ty} {p:P} {l:List (List UInt8)} (h:p.op=4):nodeT xs t p l=ctorN xs t p.ct ++ (lst true l ++ closeL l.length):=by unfold nodeT;rw [if_neg (by omega),if_neg (by omega),if_neg (by omega),if_neg (by omega),if_neg (by omega)]
theorem lstP_step {f:Ty→P→List UInt8} {ls:List Ty} {ks:List P} {i:Nat} (b:Bool) (h1:i<ls.length) (h2:i<ks.length):lst b (List.zipWith f (ls.drop i) (ks.drop i))=(if b=true then 40 else 44) :: (f ls[i] ks[i] ++ lst false (List.zipWith f (ls.drop (i+1)) (ks.drop (i+1)))):=by
 rw [List.drop_eq_getElem_cons h1,List.drop_eq_getElem_cons h2,List.zipWith_cons_cons,lst]
theorem zAL {f:Ty→P→Bool}:∀ {ls:List Ty} {ks:List P},allP f ls ks=true→∀ (i:Nat) (h1:i<ls.length) (h2:i<ks.length),f ls[i] ks[i]=true:=fun {ls ks} h i h1 h2=>by
 unfold allP at h
 rw [List.all_eq_true] at h
 have hz:i<(ls.zip ks).length:=by rw [List.length_zip];omega
 have:=h _ (List.getElem_mem hz)
 rwa [List.getElem_zip] at this
theorem sizesP_cons (k:P) (ks:List P):P.sizes (k :: ks)=nodesP k+P.sizes ks:=by simp only [P.sizes,nodesP];omega
theorem lstP_len {f:Ty→P→List UInt8} {g:Ty→P→Bool} (m:Nat):∀ (ls:List Ty) (ks:List P) (b:Bool),(∀ a∈ls,∀ k,g a k=true→(f a k).length+1≤m*nodesP k)→allP g ls ks=true→(lst b (List.zipWith f ls ks)).length≤m*P.sizes ks
 |[],ks,b,_,_=>by simp [lst]
 |_ :: _,[],b,_,_=>by simp [lst]
 |a :: ls,k :: ks,b,h,hz=>by
  have hz0:=hz
  unfold allP at hz
  rw [List.zip_cons_cons,List.all_cons,Bool.and_eq_true] at hz
  have h1:=h a (by simp) k hz.1
  have h2:=lstP_len m ls ks false (fun x hx=>h x (by simp [hx])) hz.2
  rw [sizesP_cons,Nat.mul_add,List.zipWith_cons_cons,lst,List.length_cons,List.length_append]
  omega
theorem ops_of {xs:List Dt} {t:Ty} {p:P} (h:ownB xs t p=true):p.op=1∨p.op=2∨p.op=3∨p.op=4∨p.op=5∨p.op=6:=by
 unfold ownB kindB at h
 by_cases h3:p.op=3
 ·exact .inr (.inr (.inl h3))
 ·by_cases h4:p.op=4
  ·exact .inr (.inr (.inr (.inl h4)))
  ·rw [if_neg h3,if_neg h4] at h
   simp only [Bool.and_eq_true,Bool.or_eq_true,beq_iff_eq] at h
   rcases h.2.2.2 with h | h | h | h
   ·exact .inl h
   ·exact .inr (.inl h)
   ·exact .inr (.inr (.inr (.inr (.inl h))))
   ·exact .inr (.inr (.inr (.inr (.inr h))))
theorem own_ctor {xs:List Dt} {t:Ty} {p:P} (h:ownB xs t p=true) (h4:p.op=4):hasB (ctorsL xs t) p.ct=true:=by
 unfold ownB kindB at h
 rw [if_neg (show ¬p.op=3 by omega),if_pos h4] at h
 simp only [Bool.and_eq_true] at h
 exact h.2.2.2
theorem own_int {xs:List Dt} {t:Ty} {p:P} (h:ownB xs t p=true) (h3:p.op=3):0≤p.n∧p.n≤p.m∧p.m≤9:=by
 unfold ownB kindB at h
 rw [if_pos h3] at h
 simp only [Bool.and_eq_true,decide_eq_true_eq] at h
 exact h.2.2.2.2
theorem own_var {xs:List Dt} {t:Ty} {p:P} (h:ownB xs t p=true) (h2:namedB p=true):0≤p.va∧p.va≤5:=by
 unfold ownB at h
 rw [if_pos h2] at h
 simp only [Bool.and_eq_true,decide_eq_true_eq] at h
 exact h.1
theorem zAC {xs:List Dt} {d:Nat} {t:Ty} {p:P} (h:shapeB xs (d+1) t p=true):ownB xs t p=true∧p.ks.length=(typesP xs t p).length∧allP (shapeB xs d) (typesP xs t p) p.ks=true:=by
 rw [shapeB_succ,Bool.and_eq_true,Bool.and_eq_true] at h
 exact ⟨h.1,eq_of_beq h.2.1,h.2.2⟩
theorem ctor_parts {xs:List Dt} {q r:Nat} {p:P} (hq:q<xs.length) (h:ownB xs ⟨(q:Int),(r:Int)⟩ p=true) (h4:p.op=4) :
  ∃ k:Nat,p.ct=(k:Int)∧∃ hk:k<xs[q].ctors.length,typesP xs ⟨(q:Int),(r:Int)⟩ p=argsL xs[q].ctors[k] (r:Int):=by
 have h1:=own_ctor h h4
 obtain ⟨q',k,e2,hvc,hq',hkl⟩:=zBE (xs:=xs) (t:=⟨(q:Int),(r:Int)⟩) (.inr ⟨q,rfl,hq⟩) ((hasB_iff _ _).1 h1)
 obtain rfl:q=q':=Int.ofNat.inj e2
 exact ⟨k,hvc,hkl,by unfold typesP;rw [if_pos h4,hvc,zBI hq hkl]⟩
theorem ctor_data {xs:List Dt} {t:Ty} (ht:TyIn xs.length t) {p:P} (h:ownB xs t p=true) (h4:p.op=4):∃ q r:Nat,t=⟨(q:Int),(r:Int)⟩∧q<xs.length∧r<4:=by
 rcases ht with ht | ht
 ·have h1:=own_ctor h h4
  rw [ctorsL_int ht] at h1
  simp [hasB] at h1
 ·exact ht
theorem letT_len (v:Int):(letT v).length=1:=rfl
theorem zBJ {xs:List Dt} (hw:WorldOK xs):∀ (d:Nat) (t:Ty) (p:P),TyIn xs.length t→shapeB xs d t p=true→(pT xs d t p).length+1≤8*nodesP p
 |0,t,p,_,h=>by rw [shapeB] at h;cases h
 |d+1,t,p,ht,h=>by
  obtain ⟨ho,hl,ha⟩:=zAC h
  have hn:1≤nodesP p:=by unfold nodesP;omega
  have hk:∀ a∈typesP xs t p,∀ k,shapeB xs d a k=true→(pT xs d a k).length+1≤8*nodesP k:=fun a ha k hk=>zBJ hw d a k (zAK hw ht ho a ha) hk
  rw [zBH]
  rcases ops_of ho with h1 | h1 | h1 | h1 | h1 | h1
  ·rw [nodeT_1 h1];simp;omega
  ·rw [nodeT_2 h1,letT_len];omega
  ·rw [nodeT_3 h1];split
   ·rw [digT_len];omega
   ·rw [List.length_append,List.length_cons,digT_len,digT_len];omega
  ·obtain ⟨q,r,rfl,hql,hrl⟩:=ctor_data ht ho h1
   obtain ⟨k,hvc,hkl,hty⟩:=ctor_parts hql ho h1
   have h4:=lstP_len 8 (typesP xs ⟨(q:Int),(r:Int)⟩ p) p.ks true hk ha
   have h5:=nameOk_len (hw.ctor hql hkl).name
   have h6:(tl xs[q].ctors[k].name).length=xs[q].ctors[k].name.size:=rfl
   have h7:=closeL_len (List.zipWith (pT xs d) (typesP xs ⟨(q:Int),(r:Int)⟩ p) p.ks).length
   rw [nodeT_4 h1,hvc,ctorN_get hql hkl,zA6,List.length_append,List.length_append]
   omega
  ·have hty:=zB6 (xs:=xs) (t:=t) h1
   rw [hty] at hl ha hk ⊢
   obtain ⟨k0,k1,hks⟩:=kids_two hl
   rw [hks] at ha ⊢
   have a0:=hk t (by simp) k0 (zAL ha 0 (by simp) (by simp))
   have a1:=hk t (by simp) k1 (zAL ha 1 (by simp) (by simp))
   rw [nodeT_5 h1,zA6,hks,sizesP_cons,sizesP_cons]
   simp only [List.zipWith_cons_cons,List.getD_cons_zero,List.getD_cons_succ,List.length_cons,List.length_append,List.length_nil]
   omega
  ·have hty:=typesP_as (xs:=xs) (t:=t) h1
   rw [hty] at hl ha hk ⊢
   obtain ⟨k0,hks⟩:∃ k0,p.ks=[k0]:=List.length_eq_one_iff.1 hl
   rw [hks] at ha ⊢
   have a0:=hk t (by simp) k0 (zAL ha 0 (by simp) (by simp))
   rw [nodeT_6 h1,zA6,hks,sizesP_cons]
   simp only [List.zipWith_cons_cons,List.getD_cons_zero,List.length_cons,List.length_append,letT_len]
   omega
def fmtP (xs:List Dt) (t:Ty) (p:P):ByteArray:=if patternValidB xs t p=true then bs (pT xs 10 t p) else ⟨#[]⟩
theorem ctorsGo_apart (n:Int):∀ (cs:List Kt) (met:List ByteArray),ctorsGo n met cs=true→(∀ c∈cs,nameIn met c.name=false)∧cs.Pairwise fun a b=>a.name≠b.name
 |[],_,_=>⟨fun c h=>(by cases h),List.Pairwise.nil⟩
 |c :: cs,met,h=>by
  rw [ctorsGo,Bool.and_eq_true,Bool.and_eq_true,Bool.not_eq_true'] at h
  obtain ⟨-,h1,h2⟩:=h
  obtain ⟨h3,h4⟩:=ctorsGo_apart n cs _ h2
  have h5:∀ x∈cs,nameIn met x.name=false∧c.name≠x.name:=fun x hx=>by
   have h6:=h3 x hx
   rw [nameIn_snoc,Bool.or_eq_false_iff] at h6
   refine ⟨h6.1,fun e=>?_⟩
   rw [e] at h6
   simp at h6
  exact ⟨fun x hx=>by
   rcases List.mem_cons.1 hx with e | e
   ·rw [e];exact h1
   ·exact (h5 x e).1,List.pairwise_cons.2 ⟨fun x hx=>(h5 x hx).2,h4⟩⟩
theorem worldGo_ctors (n:Int):∀ (ds:List Dt) (datas met:List ByteArray),worldGo n datas met ds=true→∀ x∈ds,x.ctors.Pairwise fun a b=>a.name≠b.name
 |[],_,_,_,x,hx=>by cases hx
 |d :: ds,datas,met,h,x,hx=>by
  rw [worldGo] at h
  simp only [Bool.and_eq_true] at h
  obtain ⟨-,-,-,h1,h2⟩:=h
  rcases List.mem_cons.1 hx with e | e
  ·rw [e];exact (ctorsGo_apart n _ _ h1).2
  ·exact worldGo_ctors n ds _ _ h2 x e
theorem ctor_inj {xs:List Dt} (h:worldOk xs=true) {d i j:Nat} (hd:d<xs.length) (hi:i<xs[d].ctors.length) (hj:j<xs[d].ctors.length) (e:tl xs[d].ctors[i].name=tl xs[d].ctors[j].name):i=j:=by
 unfold worldOk at h
 rw [Bool.and_eq_true] at h
 have hp:=List.pairwise_iff_getElem.1 (worldGo_ctors _ _ _ _ h.2 xs[d] (List.getElem_mem hd))
 have e2:=tl_inj e
 rcases Nat.lt_trichotomy i j with g | g | g
 ·exact absurd e2 (hp i j hi hj g)
 ·exact g
 ·exact absurd e2.symm (hp j i hj hi g)
def Dl (r:List UInt8):Prop:=∀ x l,r=x :: l→x=44∨x=41∨x=124
theorem Dl.nil:Dl []:=fun x l h=>by cases h
theorem Dl.c44 (r:List UInt8):Dl (44 :: r):=fun x l h=>by cases h;exact .inl rfl
theorem Dl.c41 (r:List UInt8):Dl (41 :: r):=fun x l h=>by cases h;exact .inr (.inl rfl)
theorem Dl.c124 (r:List UInt8):Dl (124 :: r):=fun x l h=>by cases h;exact .inr (.inr rfl)
def Ltr (b:UInt8):Prop:=65≤b.toNat∧b.toNat≤122
theorem Dl.not_ltr {r:List UInt8} (h:Dl r):∀ x l,r=x :: l→¬Ltr x:=fun x l e=>by
 rcases h x l e with rfl | rfl | rfl <;> (unfold Ltr;decide)
theorem Dl.ne {r:List UInt8} (h:Dl r) (x:UInt8) (l:List UInt8) (e:r=x :: l) (hx:x=64∨x=45∨x=40):False:=by
 rcases h x l e with rfl | rfl | rfl <;> (rcases hx with h | h | h <;> exact absurd h (by decide))
theorem blkQ (p:UInt8→Prop):∀ (a b x y:List UInt8),(∀ c∈a,p c)→(∀ c∈b,p c)→(∀ z l,x=z :: l→¬p z)→(∀ z l,y=z :: l→¬p z)→a ++ x=b ++ y→a=b∧x=y
 |[],[],x,y,_,_,_,_,h=>⟨rfl,h⟩
 |[],c :: b,x,y,_,hb,hx,_,h=>absurd (hb c (by simp)) (hx c (b ++ y) (by simpa using h))
 |c :: a,[],x,y,ha,_,_,hy,h=>absurd (ha c (by simp)) (hy c (a ++ x) (by simpa using h.symm))
 |c :: a,e :: b,x,y,ha,hb,hx,hy,h=>by
  rw [List.cons_append,List.cons_append,List.cons.injEq] at h
  obtain ⟨h1,h2⟩:=blkQ p a b x y (fun z hz=>ha z (by simp [hz])) (fun z hz=>hb z (by simp [hz])) hx hy h.2
  exact ⟨by rw [h.1,h1],h2⟩
theorem nameOk_Ltr {l:List UInt8} (h:nameOk l=true):(∃ c m,l=c :: m∧65≤c.toNat∧c.toNat≤90)∧∀ b∈l,Ltr b:=by
 cases l with
 |nil=>cases h
 |cons c m =>
  unfold nameOk at h
  simp only [Bool.and_eq_true,decide_eq_true_eq] at h
  obtain ⟨⟨-,h1,h2⟩,h3⟩:=h
  have h1':65≤c.toNat:=by simpa [UInt8.le_iff_toNat_le] using h1
  have h2':c.toNat≤90:=by simpa [UInt8.le_iff_toNat_le] using h2
  refine ⟨⟨c,m,rfl,h1',h2'⟩,fun b hb=>?_⟩
  unfold Ltr
  rcases List.mem_cons.1 hb with rfl | hb
  ·omega
  ·unfold lowerAll at h3
   have h4:=List.all_eq_true.1 h3 b hb
   simp only [Bool.and_eq_true,decide_eq_true_eq] at h4
   have h5:97≤b.toNat:=by simpa [UInt8.le_iff_toNat_le] using h4.1
   have h6:b.toNat≤122:=by simpa [UInt8.le_iff_toNat_le] using h4.2
   omega
def bc (x:UInt8):Nat:=if x=95 then 0 else if 97≤x.toNat∧x.toNat≤122 then 1 else if 48≤x.toNat∧x.toNat≤57 then 2 else if x=40 then 3 else 4
def cls (op:Int):Nat:=if op=1 then 0 else if op=2 then 1 else if op=6 then 1 else if op=3 then 2 else if op=5 then 3 else 4
theorem bc_let:∀ m,m<6→bc (UInt8.ofNat (97+m))=1:=by decide
theorem bc_dig:∀ m,m<10→bc (UInt8.ofNat (48+m))=2:=by decide
theorem let_inj:∀ a,a<6→∀ b,b<6→UInt8.ofNat (97+a)=UInt8.ofNat (97+b)→a=b:=by decide
theorem dig_inj:∀ a,a<10→∀ b,b<10→UInt8.ofNat (48+a)=UInt8.ofNat (48+b)→a=b:=by decide
theorem bc_up {c:UInt8} (h1:65≤c.toNat) (h2:c.toNat≤90):bc c=4:=by
 unfold bc
 rw [if_neg (fun e=>by rw [e] at h2;exact absurd h2 (by decide)),if_neg (by omega),if_neg (by omega),if_neg (fun e=>by rw [e] at h1;exact absurd h1 (by decide))]
theorem ctor_name {xs:List Dt} (hw:WorldOK xs) {q k:Nat} (hq:q<xs.length) (hk:k<xs[q].ctors.length):(∃ c m,tl xs[q].ctors[k].name=c :: m∧65≤c.toNat∧c.toNat≤90)∧∀ b∈tl xs[q].ctors[k].name,Ltr b:=nameOk_Ltr (hw.ctor hq hk).name
theorem pT_head {xs:List Dt} (hw:WorldOK xs) {d:Nat} {t:Ty} {p:P} (ht:TyIn xs.length t) (h:shapeB xs (d+1) t p=true):∃ x l,pT xs (d+1) t p=x :: l∧bc x=cls p.op:=by
 obtain ⟨ho,hl,ha⟩:=zAC h
 rw [zBH]
 rcases ops_of ho with h1 | h1 | h1 | h1 | h1 | h1
 ·rw [nodeT_1 h1,h1];exact ⟨95,[],rfl,by decide⟩
 ·have hv:=own_var ho (by unfold namedB;rw [h1];rfl)
  rw [nodeT_2 h1,h1]
  exact ⟨_,[],rfl,bc_let p.va.toNat (by omega)⟩
 ·have hn:=own_int ho h1
  rw [nodeT_3 h1,h1]
  split
  ·exact ⟨_,[],rfl,bc_dig p.n.toNat (by omega)⟩
  ·exact ⟨_,_,rfl,bc_dig p.n.toNat (by omega)⟩
 ·obtain ⟨q,r,rfl,hql,hrl⟩:=ctor_data ht ho h1
  obtain ⟨k,hvc,hkl,hty⟩:=ctor_parts hql ho h1
  obtain ⟨⟨c,m,e,h65,h90⟩,-⟩:=ctor_name hw hql hkl
  rw [nodeT_4 h1,hvc,ctorN_get hql hkl,e,h1]
  exact ⟨c,_,rfl,by rw [bc_up h65 h90];rfl⟩
 ·rw [nodeT_5 h1,h1];exact ⟨40,_,rfl,by decide⟩
 ·have hv:=own_var ho (by unfold namedB;rw [h1];rfl)
  rw [nodeT_6 h1,h1]
  exact ⟨_,_,rfl,bc_let p.va.toNat (by omega)⟩
theorem own_zero {xs:List Dt} {t:Ty} {p:P} (h:ownB xs t p=true):(namedB p=false→p.va=0)∧(¬p.op=3→p.n=0∧p.m=0)∧(¬p.op=4→p.ct=0):=by
 unfold ownB at h
 simp only [Bool.and_eq_true,Bool.or_eq_true,beq_iff_eq] at h
 obtain ⟨h1,h2,h3,-⟩:=h
 refine ⟨fun hn=>?_,fun h=>?_,fun h=>?_⟩
 ·rw [if_neg (by simp [hn])] at h1
  simpa using h1
 ·rcases h2 with h2 | h2
  ·exact absurd h2 h
  ·exact h2
 ·rcases h3 with h3 | h3
  ·exact absurd h3 h
  ·exact h3
theorem lst_dl (l:List (List UInt8)) (r:List UInt8):Dl (lst false l ++ 41 :: r):=by
 cases l with
 |nil=>exact Dl.c41 r
 |cons a l=>exact Dl.c44 _
theorem lst_inj {f:Ty→P→List UInt8} {g:Ty→P→Bool} {n:Nat} (H:∀ a,TyIn n a→∀ (k k':P) (r r':List UInt8),g a k=true→g a k'=true→Dl r→Dl r'→f a k ++ r=f a k' ++ r'→k=k'∧r=r') :
  ∀ (ls:List Ty) (ks ks':List P) (b:Bool) (r r':List UInt8),(∀ a∈ls,TyIn n a)→ks.length=ls.length→ks'.length=ls.length→allP g ls ks=true→allP g ls ks'=true→lst b (List.zipWith f ls ks) ++ 41 :: r=lst b (List.zipWith f ls ks') ++ 41 :: r'→ks=ks'∧r=r'
 |[],[],[],b,r,r',_,_,_,_,_,h=>by
  simp only [List.zipWith_nil_left,lst,List.nil_append,List.cons.injEq] at h
  exact ⟨rfl,h.2⟩
 |a :: ls,k :: ks,k' :: ks',b,r,r',ht,h1,h2,z1,z2,h=>by
  rw [List.zipWith_cons_cons,List.zipWith_cons_cons,lst,lst,List.cons_append,List.cons_append,List.cons.injEq,List.append_assoc,List.append_assoc] at h
  unfold allP at z1 z2
  rw [List.zip_cons_cons,List.all_cons,Bool.and_eq_true] at z1 z2
  obtain ⟨e1,e2⟩:=H a (ht a (by simp)) k k' _ _ z1.1 z2.1 (lst_dl _ _) (lst_dl _ _) h.2
  obtain ⟨e3,e4⟩:=lst_inj H ls ks ks' false r r' (fun x hx=>ht x (by simp [hx])) (by simpa using h1) (by simpa using h2) z1.2 z2.2 e2
  exact ⟨by rw [e1,e3],e4⟩
 |[],_ :: _,_,_,_,_,_,h1,_,_,_,_=>by simp at h1
 |[],[],_ :: _,_,_,_,_,_,h2,_,_,_=>by simp at h2
 |_ :: _,[],_,_,_,_,_,h1,_,_,_,_=>by simp at h1
 |_ :: _,_ :: _,[],_,_,_,_,_,h2,_,_,_=>by simp at h2
theorem P.ext6 {p q:P} (h1:p.op=q.op) (h2:p.ct=q.ct) (h3:p.n=q.n) (h4:p.m=q.m) (h5:p.va=q.va) (h6:p.ks=q.ks):p=q:=by
 obtain ⟨a,b,c,d,e,f⟩:=p
 obtain ⟨a',b',c',d',e',f'⟩:=q
 simp only at h1 h2 h3 h4 h5 h6
 subst h1 h2 h3 h4 h5 h6
 rfl
theorem named_no {p:P} (h2:¬p.op=2) (h6:¬p.op=6):namedB p=false:=by
 unfold namedB
 rw [Bool.or_eq_false_iff,beq_eq_false_iff_ne,beq_eq_false_iff_ne]
 exact ⟨h2,h6⟩
theorem leaf_ks {xs:List Dt} {t:Ty} {p:P} (h4:¬p.op=4) (h5:¬p.op=5) (h6:¬p.op=6) (hl:p.ks.length=(typesP xs t p).length):p.ks=[]:=by
 unfold typesP kidsN at hl
 rw [if_neg h4,if_neg h5,if_neg h6] at hl
 exact List.length_eq_zero_iff.1 hl
theorem pT_inj {xs:List Dt} (hw0:worldOk xs=true) (hw:WorldOK xs):∀ (d:Nat) (t:Ty) (_:TyIn xs.length t) (p q:P) (r r':List UInt8),shapeB xs d t p=true→shapeB xs d t q=true→Dl r→Dl r'→pT xs d t p ++ r=pT xs d t q ++ r'→p=q∧r=r'
 |0,_,_,p,q,r,r',h,_,_,_,_=>by rw [shapeB] at h;cases h
 |d+1,t,ht,p,q,r,r',hp,hq,hr,hr',h=>by
  obtain ⟨x,l,e1,c1⟩:=pT_head hw ht hp
  obtain ⟨y,m,e2,c2⟩:=pT_head hw ht hq
  have hxy:x=y:=by
   rw [e1,e2,List.cons_append,List.cons_append,List.cons.injEq] at h
   exact h.1
  have hc:cls p.op=cls q.op:=by rw [←c1,←c2,hxy]
  clear e1 e2 c1 c2 hxy
  obtain ⟨hop,hlp,hap⟩:=zAC hp
  obtain ⟨hoq,hlq,haq⟩:=zAC hq
  obtain ⟨zp1,zp2,zp3⟩:=own_zero hop
  obtain ⟨zq1,zq2,zq3⟩:=own_zero hoq
  have ih:=fun a (ha:TyIn xs.length a) (k k':P) (r r':List UInt8) g1 g2 d1 d2 e=>pT_inj hw0 hw d a ha k k' r r' g1 g2 d1 d2 e
  rw [zBH,zBH] at h
  rcases ops_of hop with o | o | o | o | o | o <;> rcases ops_of hoq with o' | o' | o' | o' | o' | o' <;> (first | (rw [o,o'] at hc;exact absurd hc (by decide)) | skip)
  ·rw [nodeT_1 o,nodeT_1 o'] at h
   obtain ⟨a1,a2⟩:=zp2 (by omega)
   obtain ⟨b1,b2⟩:=zq2 (by omega)
   exact ⟨P.ext6 (by rw [o,o']) (by rw [zp3 (by omega),zq3 (by omega)]) (by rw [a1,b1]) (by rw [a2,b2]) (by rw [zp1 (named_no (by omega) (by omega)),zq1 (named_no (by omega) (by omega))]) (by rw [leaf_ks (by omega) (by omega) (by omega) hlp,leaf_ks (by omega) (by omega) (by omega) hlq]),(List.cons.inj h).2⟩
  ·rw [nodeT_2 o,nodeT_2 o'] at h
   have v1:=own_var hop (by unfold namedB;rw [o];rfl)
   have v2:=own_var hoq (by unfold namedB;rw [o'];rfl)
   have hv:=let_inj p.va.toNat (by omega) q.va.toNat (by omega) (List.cons.inj h).1
   obtain ⟨a1,a2⟩:=zp2 (by omega)
   obtain ⟨b1,b2⟩:=zq2 (by omega)
   exact ⟨P.ext6 (by rw [o,o']) (by rw [zp3 (by omega),zq3 (by omega)]) (by rw [a1,b1]) (by rw [a2,b2]) (by omega) (by rw [leaf_ks (by omega) (by omega) (by omega) hlp,leaf_ks (by omega) (by omega) (by omega) hlq]),(List.cons.inj h).2⟩
  ·rw [nodeT_2 o,nodeT_6 o'] at h
   exact (hr.ne _ _ (List.cons.inj h).2 (.inl rfl)).elim
  ·rw [nodeT_3 o,nodeT_3 o'] at h
   have v1:=own_int hop o
   have v2:=own_int hoq o'
   have hks:p.ks=q.ks:=by rw [leaf_ks (by omega) (by omega) (by omega) hlp,leaf_ks (by omega) (by omega) (by omega) hlq]
   have hct:p.ct=q.ct:=by rw [zp3 (by omega),zq3 (by omega)]
   have hva:p.va=q.va:=by rw [zp1 (named_no (by omega) (by omega)),zq1 (named_no (by omega) (by omega))]
   split at h
   ·rename_i s1
    split at h
    ·rename_i s2
     have hn:=dig_inj p.n.toNat (by omega) q.n.toNat (by omega) (List.cons.inj h).1
     exact ⟨P.ext6 (by rw [o,o']) hct (by omega) (by omega) hva hks,(List.cons.inj h).2⟩
    ·exact (hr.ne _ _ (List.cons.inj h).2 (.inr (.inl rfl))).elim
   ·rename_i s1
    split at h
    ·rename_i s2
     exact (hr'.ne _ _ (List.cons.inj h).2.symm (.inr (.inl rfl))).elim
    ·rename_i s2
     have hn:=dig_inj p.n.toNat (by omega) q.n.toNat (by omega) (List.cons.inj h).1
     have h2:=(List.cons.inj (List.cons.inj h).2).2
     have hm:=dig_inj p.m.toNat (by omega) q.m.toNat (by omega) (List.cons.inj h2).1
     exact ⟨P.ext6 (by rw [o,o']) hct (by omega) (by omega) hva hks,(List.cons.inj h2).2⟩
  ·have hti:∀ a∈typesP xs t p,TyIn xs.length a:=fun a ha=>zAK hw ht hop a ha
   obtain ⟨u,s,rfl,hul,hsl⟩:=ctor_data ht hop o
   obtain ⟨k,hk1,hk2,hk3⟩:=ctor_parts hul hop o
   obtain ⟨k',hk1',hk2',hk3'⟩:=ctor_parts hul hoq o'
   rw [nodeT_4 o,nodeT_4 o',hk1,hk1',ctorN_get hul hk2,ctorN_get hul hk2',List.append_assoc (tl xs[u].ctors[k].name),List.append_assoc (tl xs[u].ctors[k'].name)] at h
   have hnl:∀ (p:P) (r:List UInt8),Dl r→∀ z l,(lst true (List.zipWith (pT xs d) (typesP xs ⟨(u:Int),(s:Int)⟩ p) p.ks) ++ closeL (List.zipWith (pT xs d) (typesP xs ⟨(u:Int),(s:Int)⟩ p) p.ks).length) ++ r=z :: l→¬Ltr z:=by
    intro p r hr z l e
    cases hz:List.zipWith (pT xs d) (typesP xs ⟨(u:Int),(s:Int)⟩ p) p.ks with
    |nil =>
     rw [hz] at e
     exact hr.not_ltr z l e
    |cons a b =>
     rw [hz] at e
     have:z=40:=by
      have e2:=(List.cons.inj e).1
      exact e2.symm
     rw [this]
     unfold Ltr
     decide
   obtain ⟨n1,n2⟩:=blkQ Ltr _ _ _ _ (ctor_name hw hul hk2).2 (ctor_name hw hul hk2').2 (hnl p r hr) (hnl q r' hr') h
   have hkk:=ctor_inj hw0 hul hk2 hk2' n1
   subst hkk
   have hty:typesP xs ⟨(u:Int),(s:Int)⟩ p=typesP xs ⟨(u:Int),(s:Int)⟩ q:=by rw [hk3,hk3']
   have hl2:q.ks.length=(typesP xs ⟨(u:Int),(s:Int)⟩ p).length:=by rw [hlq,hty]
   have haq2:allP (shapeB xs d) (typesP xs ⟨(u:Int),(s:Int)⟩ p) q.ks=true:=by rw [hty];exact haq
   rw [←hty,List.length_zipWith,List.length_zipWith,hlp,hl2,Nat.min_self] at n2
   obtain ⟨a1,a2⟩:=zp2 (by omega)
   obtain ⟨b1,b2⟩:=zq2 (by omega)
   have fin:p.ks=q.ks∧r=r':=by
    by_cases h0:0<(typesP xs ⟨(u:Int),(s:Int)⟩ p).length
    ·unfold closeL at n2
     rw [if_pos h0,List.append_assoc,List.append_assoc] at n2
     exact lst_inj ih _ _ _ true r r' hti hlp hl2 hap haq2 n2
    ·have z1:p.ks=[]:=List.length_eq_zero_iff.1 (by omega)
     have z2:q.ks=[]:=List.length_eq_zero_iff.1 (by omega)
     unfold closeL at n2
     rw [if_neg h0,z1,z2,List.zipWith_nil_right] at n2
     exact ⟨by rw [z1,z2],n2⟩
   exact ⟨P.ext6 (by rw [o,o']) (by rw [hk1,hk1']) (by rw [a1,b1]) (by rw [a2,b2]) (by rw [zp1 (named_no (by omega) (by omega)),zq1 (named_no (by omega) (by omega))]) fin.1,fin.2⟩
  ·have hty:=zB6 (xs:=xs) (t:=t) o
   have hty':=zB6 (xs:=xs) (t:=t) o'
   rw [hty] at hlp hap h
   rw [hty'] at hlq haq h
   obtain ⟨k0,k1,hks⟩:=kids_two hlp
   obtain ⟨j0,j1,hjs⟩:=kids_two hlq
   rw [hks] at hap h
   rw [hjs] at haq h
   rw [nodeT_5 o,nodeT_5 o'] at h
   simp only [List.zipWith_cons_cons,List.getD_cons_zero,List.getD_cons_succ,List.cons_append,List.append_assoc,List.cons.injEq,true_and,List.nil_append] at h
   obtain ⟨x1,x2⟩:=ih t ht k0 j0 _ _ (zAL hap 0 (by simp) (by simp)) (zAL haq 0 (by simp) (by simp)) (Dl.c124 _) (Dl.c124 _) h
   obtain ⟨y1,y2⟩:=ih t ht k1 j1 _ _ (zAL hap 1 (by simp) (by simp)) (zAL haq 1 (by simp) (by simp)) (Dl.c41 _) (Dl.c41 _) (List.cons.inj x2).2
   obtain ⟨a1,a2⟩:=zp2 (by omega)
   obtain ⟨b1,b2⟩:=zq2 (by omega)
   exact ⟨P.ext6 (by rw [o,o']) (by rw [zp3 (by omega),zq3 (by omega)]) (by rw [a1,b1]) (by rw [a2,b2]) (by rw [zp1 (named_no (by omega) (by omega)),zq1 (named_no (by omega) (by omega))]) (by rw [hks,hjs,x1,y1]),(List.cons.inj y2).2⟩
  ·rw [nodeT_6 o,nodeT_2 o'] at h
   exact (hr'.ne _ _ (List.cons.inj h).2.symm (.inl rfl)).elim
  ·have hty:=typesP_as (xs:=xs) (t:=t) o
   have hty':=typesP_as (xs:=xs) (t:=t) o'
   rw [hty] at hlp hap h
   rw [hty'] at hlq haq h
   obtain ⟨k0,hks⟩:∃ k0,p.ks=[k0]:=List.length_eq_one_iff.1 hlp
   obtain ⟨j0,hjs⟩:∃ j0,q.ks=[j0]:=List.length_eq_one_iff.1 hlq
   rw [hks] at hap h
   rw [hjs] at haq h
   rw [nodeT_6 o,nodeT_6 o'] at h
   have v1:=own_var hop (by unfold namedB;rw [o];rfl)
   have v2:=own_var hoq (by unfold namedB;rw [o'];rfl)
   have hv:=let_inj p.va.toNat (by omega) q.va.toNat (by omega) (List.cons.inj h).1
   have h2:=(List.cons.inj (List.cons.inj h).2).2
   obtain ⟨x1,x2⟩:=ih t ht k0 j0 r r' (zAL hap 0 (by simp) (by simp)) (zAL haq 0 (by simp) (by simp)) hr hr' h2
   obtain ⟨a1,a2⟩:=zp2 (by omega)
   obtain ⟨b1,b2⟩:=zq2 (by omega)
   exact ⟨P.ext6 (by rw [o,o']) (by rw [zp3 (by omega),zq3 (by omega)]) (by rw [a1,b1]) (by rw [a2,b2]) (by omega) (by rw [hks,hjs,x1]),x2⟩
theorem fmtP_inj {xs:List Dt} {t:Ty} {p q:P} (hp:patternValidB xs t p=true) (hq:patternValidB xs t q=true) (h:fmtP xs t p=fmtP xs t q):p=q:=by
 unfold fmtP at h
 rw [if_pos hp,if_pos hq] at h
 unfold patternValidB patOkB at hp hq
 simp only [Bool.and_eq_true] at hp hq
 obtain ⟨hv,hs,-⟩:=hp
 have hw0:worldOk xs=true:=by unfold typeValidB at hv;rw [Bool.and_eq_true] at hv;exact hv.1
 obtain ⟨hw,hto⟩:=typeValid_split hv
 have h2:pT xs 10 t p=pT xs 10 t q:=by
  have:=congrArg tl h
  rwa [zB9,zB9] at this
 exact (pT_inj hw0 hw 10 t (zBC hto) p q [] [] hs hq.2.1 Dl.nil Dl.nil (by rw [h2])).1
theorem fmtP_no {xs:List Dt} {t:Ty} {p:P} (h:patternValidB xs t p=false):fmtP xs t p=⟨#[]⟩:=if_neg (by simp [h])
theorem tenDigits (k:Nat) (h:k<10):ByteArray.extract ⟨#[48,49,50,51,52,53,54,55,56,57,97,98,99,100,101,102,103,104,105,106,107,108,109,110,111,112,113,114,115,116,117,118,119,120,121,122]⟩ k (k+1)=bs (digT (k:Int)):=by
 have key:∀ j:Fin 10,ByteArray.extract ⟨#[48,49,50,51,52,53,54,55,56,57,97,98,99,100,101,102,103,104,105,106,107,108,109,110,111,112,113,114,115,116,117,118,119,120,121,122]⟩ j.1 (j.1+1)=bs (digT (j.1:Int)):=by decide
 exact key ⟨k,h⟩
theorem strconv_Itoa (k:Nat) (h:k<10) (w:World):Calls Tryz.prog 97 #[(k:Int)] w fun e w'=>e=.returned (.string (bs (digT (k:Int))))∧Below w w w':=by
 have t1:decide (0≤(k:Int))=true:=decide_eq_true (by omega)
 have t2:decide ((k:Int)<100)=true:=decide_eq_true (by omega)
 have t3:decide ((k:Int)<10)=true:=decide_eq_true (by omega)
 have t2':decide (k<100)=true:=decide_eq_true (by omega)
 have t3':decide (k<10)=true:=decide_eq_true (by omega)
 have a1:IntKind.i64.wrap ((k:Int)+1)=(k:Int)+1:=IntWalk.i64_in _ (by omega)
 have g1:(0:Int)≤(k:Int):=by omega
 have g2:(k:Int)+1≤36:=by omega
 have g3:(k:Int)≤(k:Int)+1:=by omega
 have g4:k+1≤36:=by omega
 have hf:=jj (tenDigits k h)
 clear h
 go_enter Tryz.func97,Tryz.ntmps97
 go_wp2
 go_ret
 exact ⟨by rw [←hf.out];rfl,zy2 _ _⟩
theorem strOf_let (n:Int) (h0:0≤n) (h5:n≤5):strOfNums [97+n]=bs (letT n):=by
 apply tl_inj
 rw [zB9]
 show (strOfNums [97+n]).data.toList=_
 rw [strOfNums_data]
 unfold letT
 simp only [List.map_cons,List.map_nil,List.cons.injEq,and_true]
 congr 1
 omega
theorem impl_letter (n:Int) (h0:0≤n) (h5:n≤5) (w:World):Calls Tryz.prog 81 #[.int .i64 n] w fun e w'=>e=.returned (.string (bs (letT n)))∧Below w w w':=by
 have hf:=jj (strOf_let n h0 h5)
 have a1:IntKind.i64.wrap (97+n)=97+n:=IntWalk.i64_in _ (by omega)
 have a2:IntKind.u8.wrap n=n:=IntWalk.u8_in _ (by omega)
 have a3:IntKind.u8.wrap (97+n)=97+n:=IntWalk.u8_in _ (by omega)
 have hcv:=conv1 w (97+n)
 clear h0 h5
 go_enter Tryz.func81,Tryz.ntmps81
 go_wp2
 go_ret
 exact ⟨by rw [←hf.out];rfl,(zy2 _ _).alloc (zz8 _) _⟩
theorem spec_l3Letter (n:Int) (h0:0≤n) (h5:n≤5) (w:World):Calls Tryz.prog 86 #[.int .i64 n] w fun e w'=>e=.returned (.string (bs (letT n)))∧Below w w w':=by
 have hf:=jj (strOf_let n h0 h5)
 have a1:IntKind.i64.wrap (97+n)=97+n:=IntWalk.i64_in _ (by omega)
 have a2:IntKind.u8.wrap n=n:=IntWalk.u8_in _ (by omega)
 have a3:IntKind.u8.wrap (97+n)=97+n:=IntWalk.u8_in _ (by omega)
 have hcv:=conv1 w (97+n)
 clear h0 h5
 go_enter Tryz.func86,Tryz.ntmps86
 go_wp2
 go_ret
 exact ⟨by rw [←hf.out];rfl,(zy2 _ _).alloc (zz8 _) _⟩
theorem impl_rangeText (a b:Nat) (ha:a<10) (hb:b<10) (w:World):Calls Tryz.prog 82 #[(a:Int),(b:Int)] w fun e w'=>e=.returned (.string (bs (if (a:Int)=(b:Int) then digT (a:Int) else digT (a:Int) ++ (45 :: digT (b:Int)))))∧Below w w w':=by
 obtain ⟨Z,hZ⟩:∃ z,bs (if (a:Int)=(b:Int) then digT (a:Int) else digT (a:Int) ++ (45 :: digT (b:Int)))=z:=⟨_,rfl⟩
 rw [hZ]
 by_cases hab:(a:Int)=(b:Int)
 ·have t0:((a:Int)==(b:Int))=true:=by rw [hab];simp
  have hf:Hid (Z=bs (digT (a:Int))):=by unfold Hid;rw [←hZ,if_pos hab]
  clear hab hZ
  go_enter Tryz.func82,Tryz.ntmps82
  go_wp2_with fail
  refine (strconv_Itoa a ha _).mono ?_
  rintro e w1 ⟨rfl,hb1⟩
  go_wp2
  go_ret
  exact ⟨zAF hf.out.symm,hb1⟩
 ·have t0:((a:Int)==(b:Int))=false:=by rw [beq_eq_false_iff_ne];exact hab
  obtain ⟨X,hX⟩:∃ x,bs (digT (a:Int))=x:=⟨_,rfl⟩
  obtain ⟨Y,hY⟩:∃ x,bs (digT (b:Int))=x:=⟨_,rfl⟩
  have hx1:X.size=1:=by rw [←hX];rfl
  have hy1:Y.size=1:=by rw [←hY];rfl
  have hf:Hid (Z=(X ++ ⟨#[45]⟩) ++ Y):=by
   unfold Hid;rw [←hZ,if_neg hab,←hX,←hY]
   apply tl_inj;simp only [zA7,zB9];simp [tl]
  have HX:=jj hX
  have HY:=jj hY
  have c1:X.size+1≤9223372036854775807:=by omega
  have c2:¬9223372036854775807<X.size+1:=by omega
  have c3:X.size+1+Y.size≤9223372036854775807:=by omega
  have c4:¬9223372036854775807<X.size+1+Y.size:=by omega
  clear hab hX hY hx1 hy1 hZ
  go_enter Tryz.func82,Tryz.ntmps82
  go_wp2_with fail
  refine (strconv_Itoa a ha _).mono ?_
  rintro e w1 ⟨rfl,hb1⟩
  rw [HX.out]
  go_wp2_with fail
  refine (strconv_Itoa b hb _).mono ?_
  rintro e w2 ⟨rfl,hb2⟩
  rw [HY.out]
  have hB:=hb1.trans (hb2.mono hb1.size)
  go_wp2
  go_ret
  exact ⟨zAF hf.out.symm,hB⟩
end Go.Proofs.YtjjclcmmfeegfaaGreatDoor
