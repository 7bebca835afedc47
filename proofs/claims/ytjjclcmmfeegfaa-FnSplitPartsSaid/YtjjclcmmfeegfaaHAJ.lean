/-
  Lemmas, and contracts of functions. Conditions: none.
-/
import Derived.Test.YtjjclcmmfeegfaaHAF
import Derived.Test.YtjjclcmmfeegfaaHAI
import Derived.Test.YtjjclcmmfeegfaaHAB
import Derived.Test.YtjjclcmmfeegfaaHAC
import Derived.Deep.RegionWith
import Derived.Test.YtjjclcmmfeegfaaHAH
import Derived.Test.YtjjclcmmfeegfaaHAE

set_option linter.unusedVariables false
set_option linter.unusedSimpArgs false
set_option maxRecDepth 100000
set_option maxHeartbeats 1600000

namespace Go.Proofs.Ytjjclcmmfeegfaa
open Go.RowKit
set_option maxHeartbeats 6400000 in
theorem spec_l1Mutate (p g:Nat) (w:World) (h:Rd w g p) (hp:p≤900000) (xs:List Dt) (v:Value) (F:List Nat) (hx:Arr w (DtR w) xs v F) (hf:Under w F) (h0:0<xs.length) (hl:xs.length≤99) (m:Nat) (hm:m≤90) (hs:SmallW m xs) :
  Calls Try.prog 54 #[.pointer (some ⟨g,0,none⟩),v] w (Mutd g p m xs w):=by
 have hgl:=h.lt
 have HR0:=jj h
 have HCALL:=jj (spec_l1Copy xs w v F hx hf (by omega) (hs.mono (by omega)))
 have HSM:=jj hs
 have HMM:=jj hm
 clear h hx hf hs hm
 obtain ⟨j0,hj,hj0,hj1,hj2⟩:=info_parts info_tyE
 have HJ:=jj hj
 have HJ0:=jj hj0
 have HJ1:=jj hj1
 have HJ2:=jj hj2
 clear hj hj0 hj1 hj2
 obtain ⟨m0,hm,hm0,hm1,hm2⟩:=info_parts info_DtE
 have HM:=jj hm
 have HM0:=jj hm0
 have HM1:=jj hm1
 have HM2:=jj hm2
 clear hm hm0 hm1 hm2
 go_enter Try.func54,Try.ntmps54
 go_wp2_with fail
 refine HCALL.out.mono ?_
 rintro e w1 ⟨v1,F1,rfl,hb1,ho1,hfr1,hfs1⟩
 have hCpy:Cpy g p xs v1 F1 w w1:=⟨HR0.out.below hb1,Chg.of_below hb1,ho1,hfr1,fun b hb=>by have:=hfs1 b hb;omega,hgl⟩
 obtain ⟨A1,cap1,rfl,hc1,hc2⟩:=ho1.form
 obtain ⟨FF,ha1,-,-⟩:=hCpy.arr
 obtain ⟨b,off,rfl⟩:=ha1.ptr h0
 have HC1:=jj hCpy
 clear hCpy ho1 ha1 hb1 hfr1 hfs1 HCALL HR0
 go_wp2_with fail
 refine (zAE xs.length p g w1 HC1.out.rd (by omega) h0 (by omega)).mono ?_
 rintro e w2 ⟨d,rfl,hd,hR2,hC2⟩
 have HC2:=jj (HC1.out.step hR2 hC2)
 clear hR2 hC2 HC1
 have g1:(0:Int)≤(d:Int):=by omega
 have g2:(d:Int)<(xs.length:Int):=by omega
 obtain ⟨kA,kcap,F2,n0,k0,z0,hb,hbl,hk1,hk2,hdx,hF2,hname,hctors⟩:=HC2.out.data (p:=p) h0 HSM.out hd
 clear n0 z0 hb hbl hdx hF2 hname hctors
 cases q0:((xs[d].ctors.length:Int)==0) with
 |true =>
  have HFin:=jj (HC2.out.done (p:=p) h0 HSM.out (by omega))
  clear HC2
  go_wp2
  go_ret
  exact HFin.out
 |false =>
  have hk0:0<xs[d].ctors.length:=by rw [beq_eq_false_iff_ne] at q0;omega
  have e0:(0:Int)<(xs[d].ctors.length:Int):=by omega
  go_wp2_with fail
  refine (zAE 30 (p+1) g w2 HC2.out.rd (by omega) (by omega) (by omega)).mono ?_
  rintro e w3 ⟨r,rfl,hr,hR3,hC3⟩
  have HC3:=jj (HC2.out.step hR3 hC3)
  clear hR3 hC3 HC2 k0 hk1 hk2
  cases c0q:((r:Int)==0) with
  |true =>
   go_wp2_with fail
   refine (of_lit [⟨#[73]⟩,⟨#[]⟩,⟨#[97]⟩,⟨#[76,76]⟩,⟨#[90]⟩] (by decide) (by decide) (p+1+1) g w3 HC3.out.rd (by omega)).mono ?_
   rintro e w4 ⟨s,hs,rfl,hR4,hC4⟩
   have hsz:s.size≤1000:=by
    have hall:∀ x∈([⟨#[73]⟩,⟨#[]⟩,⟨#[97]⟩,⟨#[76,76]⟩,⟨#[90]⟩]:List ByteArray),x.size≤1000:=by decide
    exact hall s hs
   have HC4:=jj (HC3.out.step hR4 hC4)
   clear hR4 hC4 HC3 hs
   obtain ⟨kA,kcap,F2,n0,k0,z0,hb,hbl,hk1,hk2,hdx,hF2,hname,hctors⟩:=HC4.out.data (p:=p) h0 HSM.out hd
   have f0:=z0 (off+d*2)
   have HFin:=jj (hname s hsz (by omega))
   clear k0 z0 hb hk1 hk2 hdx hF2 hname hctors HC4
   go_wp2
   go_ret
   exact HFin.out
  |false =>
   cases c1q:((r:Int)==1) with
   |true =>
    obtain ⟨kA,kcap,F2,n0,k0,z0,hb,hbl,hk1,hk2,hdx,hF2,hname,hctors⟩:=HC3.out.data (p:=p) h0 HSM.out hd
    have f0:(w3.alloc (.cells #[] 118)).frozen? ⟨b,off+d*2+1,none⟩=false:=(World.frozen?_of_block (a:=⟨b,off+d*2+1,none⟩) (Below.heap_alloc _ _ _ hbl)).trans (z0 _)
    have y0:(w3.alloc (.cells #[] 118)).cell? ⟨b,off+d*2+1,none⟩=some (.slice kA xs[d].ctors.length kcap):=(World.cell?_alloc_lt _ _ _ hbl).trans k0
    have HFin:=jj (hctors 118 (by omega))
    clear n0 k0 z0 hb hk1 hk2 hdx hF2 hname hctors HC3
    go_wp2
    go_ret
    exact HFin.out
   |false =>
    cases c2q:((r:Int)==2) with
    |true =>
     have hCd:=HC3.out.drew
     clear HC3
     obtain ⟨b2,off2,cap2,aA,acap,kc,hbb,hbg,hb2g,hbl,hb2l,hz2,c0,c1,c2,hown,hrow,hal,H2,H4,H3⟩:=hCd.ctor (p:=p) h0 HSM.out hd hk0
     have HH:=jj H2
     have hR3:=jj hCd.rd
     have f3:=hz2 (off2)
     clear c1 c2 hown hrow hal H2 H4 H3 hCd hz2
     go_wp2_with fail
     refine zA6 (S:=fun w'=>w'.cell? ⟨b,off+d*2+1,none⟩=some (.slice (some ⟨b2,off2,none⟩) xs[d].ctors.length cap2)) (T:=fun _=>True) (d:=10) (by kernel_rfl) ?_
     generalize w3.drew=wd at *
     have hS1:wd.cell? ⟨b,off+d*2+1,none⟩=some (.slice (some ⟨b2,off2,none⟩) xs[d].ctors.length cap2):=kc
     have hT1:True:=trivial
     refine wV 0 rfl hS1 hT1 ?_
     (try simp only [Act.put,zz4,zz5,zz6])
     refine wV 1 rfl hS1 hT1 ?_
     (try simp only [Act.put,zz4,zz5,zz6])
     refine wV 2 rfl hS1 hT1 ?_
     (try simp only [Act.put,zz4,zz5,zz6])
     refine wV 3 rfl hS1 hT1 ?_
     (try simp only [Act.put,zz4,zz5,zz6])
     refine wV 4 rfl hS1 hT1 ?_
     (try simp only [Act.put,zz4,zz5,zz6])
     refine wV 5 rfl hS1 hT1 ?_
     (try simp only [Act.put,zz4,zz5,zz6])
     refine Go.Proofs.Ytjjclcmmfeegfaa.w1 6 rfl fun K hK=>?_
     go_simp
     refine hK.out _ _ ((World.cell?_alloc_lt _ _ _ hbl).trans kc) (fun _=>trivial) ?_
     clear hK K
     (try simp only [Act.put,zz4,zz5,zz6])
     refine Go.Proofs.Ytjjclcmmfeegfaa.w1 7 rfl fun K hK=>?_
     go_simp
     go_at_call 76
     refine (of_lit [⟨#[]⟩,⟨#[110,105,108]⟩,⟨#[84,111,111,108,111,110,103]⟩,⟨#[88]⟩] (by decide) (by decide) (p+1+1) g wd hR3.out (by omega)).mono ?_
     rintro e w4 ⟨s,hs,rfl,hR4,hC4⟩
     have hC5:=hC4
     have hsz:s.size≤1000:=by
      have hall:∀ x∈([⟨#[]⟩,⟨#[110,105,108]⟩,⟨#[84,111,111,108,111,110,103]⟩,⟨#[88]⟩]:List ByteArray),x.size≤1000:=by decide
      exact hall s hs
     have hS4:w4.cell? ⟨b,off+d*2+1,none⟩=some (.slice (some ⟨b2,off2,none⟩) xs[d].ctors.length cap2):=(hC5.cell hbl hbg).trans kc
     have x4:w4.cell? ⟨b2,off2,none⟩=some (.string xs[d].ctors[0].name):=(hC5.cell hb2l hb2g).trans c0
     have f4:w4.frozen? ⟨b2,off2,none⟩=false:=(World.frozen?_of_block (a:=⟨b2,off2,none⟩) (hC5.block _ hb2l hb2g)).trans f3
     have HFin:=jj (HH.out w4 _ s hR4 hC5 (by omega) hsz)
     dsimp only
     refine hK.out _ _ hS4 (fun _=>trivial) ?_
     clear hK K
     (try simp only [Act.put,zz4,zz5,zz6])
     refine wV 8 rfl hS4 hT1 ?_
     (try simp only [Act.put,zz4,zz5,zz6])
     refine wV 9 rfl hS4 hT1 ?_
     (try simp only [Act.put,zz4,zz5,zz6])
     refine Go.Proofs.Ytjjclcmmfeegfaa.w1 10 rfl fun K hK=>?_
     go_simp
     refine hK.out _ _ ((World.cell?_setCell_far _ _ _ _ (by show b2≠b;exact fun e=>hbb e.symm)).trans hS4) (fun _=>trivial) ?_
     clear hK K
     (try simp only [Act.put,zz4,zz5,zz6])
     refine wE (by kernel_rfl) ?_
     clear hS1 hT1 hS4 x4 f4 hC5 hC4 hR4 HH hR3 f3 kc c0
     go_wp2
     go_ret
     exact HFin.out
    |false =>
     cases c3q:((r:Int)==3) with
     |true =>
      have hCd:=HC3.out.drew
      clear HC3
      obtain ⟨b2,off2,cap2,aA,acap,kc,hbb,hbg,hb2g,hbl,hb2l,hz2,c0,c1,c2,hown,hrow,hal,H2,H4,H3⟩:=hCd.ctor (p:=p) h0 HSM.out hd hk0
      have HH:=jj H3
      have HRD:=jj hCd.rd
      have f3:=hz2 (off2+1)
      have HOWN:=jj hown
      have HROW:=jj hrow
      have hm90:=HMM.out
      have hmx:xs[d].ctors[0].args.length+1≤maxLen:=by unfold maxLen;omega
      have hby:(xs[d].ctors[0].args.length+1)*16≤140737488355328:=by omega
      clear hm90
      have hgl3:g<w3.drew.heap.size:=hCd.rd.lt
      have hgs:w3.drew.heap.size≠g:=by omega
      have hgs1:w3.drew.heap.size+1≠g:=by omega
      clear c0 c2 hown hrow H2 H4 H3 hCd hz2
      go_wp2_with fail
      refine zA6 (S:=fun w'=>w'.cell? ⟨b,off+d*2+1,none⟩=some (.slice (some ⟨b2,off2,none⟩) xs[d].ctors.length cap2)) (T:=fun w'=>w'.cell? ⟨b2,off2+1,none⟩=some (.slice aA xs[d].ctors[0].args.length acap)) (d:=21) (by kernel_rfl) ?_
      generalize w3.drew=wd at *
      have hS1:wd.cell? ⟨b,off+d*2+1,none⟩=some (.slice (some ⟨b2,off2,none⟩) xs[d].ctors.length cap2):=kc
      have hT1:wd.cell? ⟨b2,off2+1,none⟩=some (.slice aA xs[d].ctors[0].args.length acap):=c1
      refine wV 0 rfl hS1 hT1 ?_
      (try simp only [Act.put,zz4,zz5,zz6])
      refine wV 1 rfl hS1 hT1 ?_
      (try simp only [Act.put,zz4,zz5,zz6])
      refine wV 2 rfl hS1 hT1 ?_
      (try simp only [Act.put,zz4,zz5,zz6])
      refine wV 3 rfl hS1 hT1 ?_
      (try simp only [Act.put,zz4,zz5,zz6])
      refine wV 4 rfl hS1 hT1 ?_
      (try simp only [Act.put,zz4,zz5,zz6])
      refine wV 5 rfl hS1 hT1 ?_
      (try simp only [Act.put,zz4,zz5,zz6])
      refine wV 6 rfl hS1 hT1 ?_
      (try simp only [Act.put,zz4,zz5,zz6])
      refine wV 7 rfl hS1 hT1 ?_
      (try simp only [Act.put,zz4,zz5,zz6])
      refine wV 8 rfl hS1 hT1 ?_
      (try simp only [Act.put,zz4,zz5,zz6])
      refine wV 9 rfl hS1 hT1 ?_
      (try simp only [Act.put,zz4,zz5,zz6])
      refine wV 10 rfl hS1 hT1 ?_
      (try simp only [Act.put,zz4,zz5,zz6])
      refine wV 11 rfl hS1 hT1 ?_
      (try simp only [Act.put,zz4,zz5,zz6])
      refine zAM (i:=12) (v:=?_) rfl (by decide) rfl (by kernel_rfl) (by kernel_rfl) (by kernel_rfl) (by kernel_rfl) (fun _ _ _ h=>h) (Or.inl ⟨by rfl,?hy12⟩) (by rfl) hS1 hT1 ?_
      case hy12=>(intro W hSw;(try dsimp only at hSw);go_simp;try with_reducible rfl)
      (try simp only [Act.put,zz4,zz5,zz6])
      refine wV 13 rfl hS1 hT1 ?_
      (try simp only [Act.put,zz4,zz5,zz6])
      refine wV 16 rfl hS1 hT1 ?_
      (try simp only [Act.put,zz4,zz5,zz6])
      refine wR (rs:=[14,17]) (by kernel_rfl) (by simp) ?_
      refine AllReadyB.c rfl (fun K hK=>?_) (AllReadyB.c rfl (fun K hK=>?_) AllReadyB.n)
      focus
       go_simp
       refine hK.out _ _ (((Chg.refl [g] wd).alloc _).cell hbl hbg |>.trans kc) (fun _=>((Chg.refl [g] wd).alloc _).cell hb2l hb2g |>.trans c1) ?_
       clear hK K
       (try simp only [Act.put,zz4,zz5,zz6])
       refine wR (rs:=[15,17]) (by kernel_rfl) (by simp) ?_
       refine AllReadyB.c rfl (fun K hK=>?_) (AllReadyB.c rfl (fun K hK=>?_) AllReadyB.n)
       focus
        go_simp
        go_at_call 35
        refine (num_at (LitN.new wd [9,-2,0,-1] (by decide)) (by decide) (by decide) (p+1+1) g (HRD.out.below ((zy2 _ _).alloc (zz8 _) _)) (by omega) hgs).mono ?_
        rintro e w5 ⟨x,rfl,hRw5,hCw5⟩
        have hC5:Chg [g] wd w5:=((Chg.refl [g] wd).alloc _).trans hCw5
        dsimp only
        refine hK.out _ _ (((hC5).cell hbl hbg).trans kc) (fun _=>((hC5).cell hb2l hb2g).trans c1) ?_
        clear hK K
        (try simp only [Act.put,zz4,zz5,zz6])
        refine Go.Proofs.Ytjjclcmmfeegfaa.w1 17 rfl fun K hK=>?_
        go_simp
        refine hK.out _ _ (((hC5).alloc _).cell hbl hbg |>.trans kc) (fun _=>((hC5).alloc _).cell hb2l hb2g |>.trans c1) ?_
        clear hK K
        (try simp only [Act.put,zz4,zz5,zz6])
        refine Go.Proofs.Ytjjclcmmfeegfaa.w1 18 rfl fun K hK=>?_
        go_simp
        go_at_call 35
        refine (num_at (LitN.new w5 [0,4,-1,-2] (by decide)) (by decide) (by decide) (p+1+1+1) g (hRw5.below ((zy2 _ _).alloc (zz8 _) _)) (by omega) (by have:=hC5.size;omega)).mono ?_
        rintro e w6 ⟨y,rfl,hRw6,hCw6⟩
        have hC6:Chg [g] wd w6:=(hC5.alloc _).trans hCw6
       rotate_left
       focus
        go_simp
        refine hK.out _ _ ((((Chg.refl [g] wd).alloc _).alloc _).cell hbl hbg |>.trans kc) (fun _=>(((Chg.refl [g] wd).alloc _).alloc _).cell hb2l hb2g |>.trans c1) ?_
        clear hK K
        (try simp only [Act.put,zz4,zz5,zz6])
        refine Go.Proofs.Ytjjclcmmfeegfaa.w1 15 rfl fun K hK=>?_
        go_simp
        go_at_call 35
        refine (num_at ((LitN.new wd [9,-2,0,-1] (by decide)).alloc _) (by decide) (by decide) (p+1+1) g ((HRD.out.below ((zy2 _ _).alloc (zz8 _) _)).below ((zy2 _ _).alloc (zz8 _) _)) (by omega) hgs).mono ?_
        rintro e w5 ⟨x,rfl,hRw5,hCw5⟩
        have hC5:Chg [g] wd w5:=(((Chg.refl [g] wd).alloc _).alloc _).trans hCw5
        have hLB:LitN w5 (wd.heap.size+1) [0,4,-1,-2]:=(LitN.new2 wd _ [0,4,-1,-2] (by decide)).chg hCw5 (by rw [zy1];exact hgs1)
        dsimp only
        refine hK.out _ _ (((hC5).cell hbl hbg).trans kc) (fun _=>((hC5).cell hb2l hb2g).trans c1) ?_
        clear hK K
        (try simp only [Act.put,zz4,zz5,zz6])
        refine Go.Proofs.Ytjjclcmmfeegfaa.w1 18 rfl fun K hK=>?_
        go_simp
        go_at_call 35
        refine (num_at hLB (by decide) (by decide) (p+1+1+1) g hRw5 (by omega) hgs1).mono ?_
        rintro e w6 ⟨y,rfl,hRw6,hCw6⟩
        have hC6:Chg [g] wd w6:=hC5.trans hCw6
       rotate_left
      rotate_left 2
      focus
       go_simp
       refine hK.out _ _ (((Chg.refl [g] wd).alloc _).cell hbl hbg |>.trans kc) (fun _=>((Chg.refl [g] wd).alloc _).cell hb2l hb2g |>.trans c1) ?_
       clear hK K
       (try simp only [Act.put,zz4,zz5,zz6])
       refine Go.Proofs.Ytjjclcmmfeegfaa.w1 14 rfl fun K hK=>?_
       go_simp
       refine hK.out _ _ ((((Chg.refl [g] wd).alloc _).alloc _).cell hbl hbg |>.trans kc) (fun _=>(((Chg.refl [g] wd).alloc _).alloc _).cell hb2l hb2g |>.trans c1) ?_
       clear hK K
       (try simp only [Act.put,zz4,zz5,zz6])
       refine Go.Proofs.Ytjjclcmmfeegfaa.w1 15 rfl fun K hK=>?_
       go_simp
       go_at_call 35
       refine (num_at (LitN.new2 wd _ [9,-2,0,-1] (by decide)) (by decide) (by decide) (p+1+1) g ((HRD.out.below ((zy2 _ _).alloc (zz8 _) _)).below ((zy2 _ _).alloc (zz8 _) _)) (by omega) hgs1).mono ?_
       rintro e w5 ⟨x,rfl,hRw5,hCw5⟩
       have hC5:Chg [g] wd w5:=(((Chg.refl [g] wd).alloc _).alloc _).trans hCw5
       have hLB:LitN w5 wd.heap.size [0,4,-1,-2]:=((LitN.new wd [0,4,-1,-2] (by decide)).alloc _).chg hCw5 (by rw [zy1];exact hgs)
       dsimp only
       refine hK.out _ _ (((hC5).cell hbl hbg).trans kc) (fun _=>((hC5).cell hb2l hb2g).trans c1) ?_
       clear hK K
       (try simp only [Act.put,zz4,zz5,zz6])
       refine Go.Proofs.Ytjjclcmmfeegfaa.w1 18 rfl fun K hK=>?_
       go_simp
       go_at_call 35
       refine (num_at hLB (by decide) (by decide) (p+1+1+1) g hRw5 (by omega) hgs).mono ?_
       rintro e w6 ⟨y,rfl,hRw6,hCw6⟩
       have hC6:Chg [g] wd w6:=hC5.trans hCw6
      rotate_left
      all_goals (
       have hSE:w6.cell? ⟨b,off+d*2+1,none⟩=some (.slice (some ⟨b2,off2,none⟩) xs[d].ctors.length cap2):=((hC6).cell hbl hbg).trans kc
       have hTE:w6.cell? ⟨b2,off2+1,none⟩=some (.slice aA xs[d].ctors[0].args.length acap):=((hC6).cell hb2l hb2g).trans c1
       have HOE:Hid (Own w6 0 25 2 TyR xs[d].ctors[0].args (.slice aA xs[d].ctors[0].args.length acap) []):=HOWN.out.mono0 (w':=w6) (fun x cs G (h:TyR wd x cs G)=>(h:TyR w6 x cs G)) ((hC6).kept (fun x hx=>(HROW.out x hx).2.2.2) (fun x hx=>(HROW.out x hx).1))
       have hzE:wd.heap.size≤w6.heap.size:=(hC6).size
       have hfE:w6.frozen? ⟨b2,off2+1,none⟩=false:=(World.frozen?_of_block (a:=⟨b2,off2+1,none⟩) ((hC6).block _ hb2l hb2g)).trans f3
       have hFinE:=HH.out w6 (p+1+1+1+1) ⟨x,y⟩
       have HFE:=jj (fun g' c' w3' o=>hFinE g' c' w3' o hRw6 (hC6) (by omega))
       clear hFinE
       dsimp only
       refine hK.out _ _ hSE (fun _=>hTE) ?_
       clear hK K
       (try simp only [Act.put,zz4,zz5,zz6])
       refine wV 19 rfl hSE hTE ?_
       (try simp only [Act.put,zz4,zz5,zz6])
       refine Go.Proofs.Ytjjclcmmfeegfaa.w1 20 rfl fun K hK=>?_
       go_simp
       refine hK.out _ _ ((World.cell?_alloc_lt _ _ _ (zz9 hbl hzE)).trans hSE) (fun _=>(World.cell?_alloc_lt _ _ _ (zz9 hb2l hzE)).trans hTE) ?_
       clear hK K
       (try simp only [Act.put,zz4,zz5,zz6])
       refine Go.Proofs.Ytjjclcmmfeegfaa.w1 21 rfl fun K hK=>?_
       refine zAF (P:=Try.prog) rfl _ _ 116 rfl j0 _ 16 Try.underlying116 HJ.out HJ0.out HJ1.out HJ2.out rfl (by decide) TyR_len' TyR_mono' (by rfl) HOE.out ⟨x,y⟩ 25 [.int .i64 x,.int .i64 y] [] _ (by rfl) rfl (by simp [Value.oneCell']) ⟨rfl,rfl⟩ (Under.nil _) (fun _ _ h=>by cases h) hmx hby (Nat.zero_le _) ?_
       intro g' cp w7 hown7 hgr7 hat7
       have nb:some b≠(Value.slice aA xs[d].ctors[0].args.length acap).ownBlock:=fun e=>(HROW.out b (zA1.2 e.symm)).2.1 rfl
       have nb2:some b2≠(Value.slice aA xs[d].ctors[0].args.length acap).ownBlock:=fun e=>(HROW.out b2 (zA1.2 e.symm)).2.2.1 rfl
       have l7:w6.heap.size≤(w6.alloc (.cells #[.int .i64 x,.int .i64 y] 25)).heap.size:=by rw [World.size_alloc];exact Nat.le_succ _
       have l8:b<w6.heap.size:=zz9 hbl hzE
       have l9:b2<w6.heap.size:=zz9 hb2l hzE
       have s7:w7.cell? ⟨b,off+d*2+1,none⟩=some (.slice (some ⟨b2,off2,none⟩) xs[d].ctors.length cap2):=(World.grownBy.cell_far hgr7 ⟨b,off+d*2+1,none⟩ (zz9 l8 l7) nb).trans ((World.cell?_alloc_lt _ _ _ l8).trans hSE)
       have t7:w7.cell? ⟨b2,off2+1,none⟩=some (.slice aA xs[d].ctors[0].args.length acap):=(World.grownBy.cell_far hgr7 ⟨b2,off2+1,none⟩ (zz9 l9 l7) nb2).trans ((World.cell?_alloc_lt _ _ _ l9).trans hTE)
       have f7:w7.frozen? ⟨b2,off2+1,none⟩=false:=(World.grownBy.frozen_far hgr7 ⟨b2,off2+1,none⟩ (zz9 l9 l7) nb2).trans (Eq.trans (World.frozen?_of_block (Below.heap_alloc _ _ _ l9)) hfE)
       have HFin:=jj (HFE.out g' cp w7 _ hown7 hgr7 hat7)
       refine hK.out _ _ s7 (fun _=>t7) ?_
       clear hK K
       (try simp only [Act.put,zz4,zz5,zz6])
       refine wV 22 rfl s7 t7 ?_
       (try simp only [Act.put,zz4,zz5,zz6])
       refine wV 23 rfl s7 t7 ?_
       (try simp only [Act.put,zz4,zz5,zz6])
       refine Go.Proofs.Ytjjclcmmfeegfaa.w1 24 rfl fun K hK=>?_
       go_simp
       refine hK.out _ _ ((World.cell?_setCell_far _ _ _ _ (by show b2≠b;exact fun e=>hbb e.symm)).trans s7) (fun h=>by cases h) ?_
       clear hK K
       (try simp only [Act.put,zz4,zz5,zz6])
       refine wE (by kernel_rfl) ?_
       clear hS1 hT1 hSE hTE HOE hzE hfE HFE nb nb2 l7 l8 l9 s7 t7 f7 hown7 hgr7 hat7 HH HOWN HROW f3 kc c1 hmx hby
       go_wp2
       go_ret
       exact HFin.out)
     |false =>
      cases c4q:((r:Int)==4) with
      |true =>
       have hCd:=HC3.out.drew
       clear HC3
       obtain ⟨b2,off2,cap2,aA,acap,kc,hbb,hbg,hb2g,hbl,hb2l,hz2,c0,c1,c2,hown,hrow,hal,H2,H4,H3⟩:=hCd.ctor (p:=p) h0 HSM.out hd hk0
       have HH:=jj H4
       have hR3:=jj hCd.rd
       have f3:=hz2 (off2+2)
       clear c0 c1 hown hrow hal H2 H4 H3 hCd hz2
       go_wp2_with fail
       refine zA6 (S:=fun w'=>w'.cell? ⟨b,off+d*2+1,none⟩=some (.slice (some ⟨b2,off2,none⟩) xs[d].ctors.length cap2)) (T:=fun _=>True) (d:=10) (by kernel_rfl) ?_
       generalize w3.drew=wd at *
       have hS1:wd.cell? ⟨b,off+d*2+1,none⟩=some (.slice (some ⟨b2,off2,none⟩) xs[d].ctors.length cap2):=kc
       have hT1:True:=trivial
       refine wV 0 rfl hS1 hT1 ?_
       (try simp only [Act.put,zz4,zz5,zz6])
       refine wV 1 rfl hS1 hT1 ?_
       (try simp only [Act.put,zz4,zz5,zz6])
       refine wV 2 rfl hS1 hT1 ?_
       (try simp only [Act.put,zz4,zz5,zz6])
       refine wV 3 rfl hS1 hT1 ?_
       (try simp only [Act.put,zz4,zz5,zz6])
       refine wV 4 rfl hS1 hT1 ?_
       (try simp only [Act.put,zz4,zz5,zz6])
       refine wV 5 rfl hS1 hT1 ?_
       (try simp only [Act.put,zz4,zz5,zz6])
       refine Go.Proofs.Ytjjclcmmfeegfaa.w1 6 rfl fun K hK=>?_
       go_simp
       refine hK.out _ _ ((World.cell?_alloc_lt _ _ _ hbl).trans kc) (fun _=>trivial) ?_
       clear hK K
       (try simp only [Act.put,zz4,zz5,zz6])
       refine Go.Proofs.Ytjjclcmmfeegfaa.w1 7 rfl fun K hK=>?_
       go_simp
       go_at_call 35
       refine (num_lit [4,-1,1] (by decide) (by decide) (p+1+1) g wd hR3.out (by omega)).mono ?_
       rintro e w4 ⟨s,hs,rfl,hR4,hC4⟩
       have hC5:=hC4
       have hS4:w4.cell? ⟨b,off+d*2+1,none⟩=some (.slice (some ⟨b2,off2,none⟩) xs[d].ctors.length cap2):=(hC5.cell hbl hbg).trans kc
       have x4:w4.cell? ⟨b2,off2+2,none⟩=xs[d].ctors[0].idx:=(hC5.cell hb2l hb2g).trans c2
       have f4:w4.frozen? ⟨b2,off2+2,none⟩=false:=(World.frozen?_of_block (a:=⟨b2,off2+2,none⟩) (hC5.block _ hb2l hb2g)).trans f3
       have HFin:=jj (HH.out w4 _ s hR4 hC5 (by omega))
       dsimp only
       refine hK.out _ _ hS4 (fun _=>trivial) ?_
       clear hK K
       (try simp only [Act.put,zz4,zz5,zz6])
       refine wV 8 rfl hS4 hT1 ?_
       (try simp only [Act.put,zz4,zz5,zz6])
       refine wV 9 rfl hS4 hT1 ?_
       (try simp only [Act.put,zz4,zz5,zz6])
       refine Go.Proofs.Ytjjclcmmfeegfaa.w1 10 rfl fun K hK=>?_
       go_simp
       refine hK.out _ _ ((World.cell?_setCell_far _ _ _ _ (by show b2≠b;exact fun e=>hbb e.symm)).trans hS4) (fun _=>trivial) ?_
       clear hK K
       (try simp only [Act.put,zz4,zz5,zz6])
       refine wE (by kernel_rfl) ?_
       clear hS1 hT1 hS4 x4 f4 hC5 hC4 hR4 HH hR3 f3 kc c2
       go_wp2
       go_ret
       exact HFin.out
      |false =>
       cases c5q:((r:Int)==5) with
       |true =>
        obtain ⟨kA,kcap,F2,n0,k0,z0,hb,hbl,hk1,hk2,hdx,hF2,hname,hctors⟩:=HC3.out.data (p:=p) h0 HSM.out hd
        have HDX:=jj hdx
        have HF2:=jj hF2
        have hbs:w.heap.size≤w3.heap.size:=HC3.out.chg.size
        clear z0 hdx hF2 hname hctors
        go_wp2_with (at_builtin;refine Halt.mk ?_)
        refine Halt.of (zA3 (P:=Try.prog) rfl _ _ 23 rfl m0 _ 40 Try.underlying23 HM.out HM0.out HM1.out HM2.out rfl (by decide) DtO_len DtO_mono (by rfl) HC3.out.own xs[d] 113 [.string xs[d].name,.slice kA xs[d].ctors.length kcap] F2 _ (by rfl) rfl (by simp [Value.oneCell']) HDX.out (fun x hx=>(HF2.out x hx).2.2) (fun x hx hG=>(HF2.out x hG).1 (by rw [zA5,zy1] at hx;exact hx)) (by unfold maxLen;omega) (by omega) hbs ?_)
        intro g' cp w7 hown7 hgr7 hat7
        have HFin:=jj (HC3.out.twice (p:=p) h0 HSM.out hd (fun x hx=>(HF2.out x hx).2.1) rfl hown7 hgr7 (by omega))
        clear hown7 hgr7 hat7 n0 k0 hk1 hk2 HDX HF2 HC3
        go_wp2
        go_ret
        exact HFin.out
       |false =>
        have HFin:=jj (HC3.out.done (p:=p) h0 HSM.out (by omega))
        clear HC3
        go_wp2
        go_ret
        exact HFin.out
def DrewWTPF (w:World) (e:Ending) (w':World):Prop:=∃ (xs:List Dt) (v:Value) (F:List Nat) (t:Ty) (a:P) (cs:List Value) (G:List Nat),e=.returned (.tuple #[v,.agg #[t.d,t.i],.agg cs.toArray])∧Below w w w'∧Arr w' (DtR w') xs v F∧Fresh w w' F∧PR w' a cs G∧Fresh w w' G∧nodesP a≤2000
set_option maxHeartbeats 8000000 in
theorem spec_DrawPatternValidF (bs:List Int) (w:World) (v:Value) (F:List Nat) (hx:Arr w (ByR w) bs v F) (hf:Under w F) :
  Calls Try.prog 22 #[v] w (DrewWTPF w):=by
 have hB2:Below w w ((w.alloc (.cells #[(0:Int),(0:Int)] 25)).alloc (.cells #[(0:Int),(0:Int),(0:Int),(0:Int),(0:Int),.slice none 0 0] 28)):=((zy2 _ _).alloc (zz8 _) _).alloc (by simp) _
 have K22:Hid (Blk ((w.alloc (.cells #[(0:Int),(0:Int)] 25)).alloc (.cells #[(0:Int),(0:Int),(0:Int),(0:Int),(0:Int),.slice none 0 0] 28)) (w.heap.size) 25 #[(0:Int),(0:Int)]):=(Blk.new w _ _).same (Below.heap_alloc _ _ _ (by simp))
 have K32:Hid (Blk ((w.alloc (.cells #[(0:Int),(0:Int)] 25)).alloc (.cells #[(0:Int),(0:Int),(0:Int),(0:Int),(0:Int),.slice none 0 0] 28)) (w.heap.size+1) 28 #[(0:Int),(0:Int),(0:Int),(0:Int),(0:Int),.slice none 0 0]):=zA8 w _ 28 _
 have hs2:(((w.alloc (.cells #[(0:Int),(0:Int)] 25)).alloc (.cells #[(0:Int),(0:Int),(0:Int),(0:Int),(0:Int),.slice none 0 0] 28))).heap.size=w.heap.size+2:=by simp
 have HX2:Hid (Arr ((w.alloc (.cells #[(0:Int),(0:Int)] 25)).alloc (.cells #[(0:Int),(0:Int),(0:Int),(0:Int),(0:Int),.slice none 0 0] 28)) (ByR ((w.alloc (.cells #[(0:Int),(0:Int)] 25)).alloc (.cells #[(0:Int),(0:Int),(0:Int),(0:Int),(0:Int),.slice none 0 0] 28))) bs v F):=ArrBy.mono hx (.of_below hB2 hf)
 have HU2:Hid (Under (((w.alloc (.cells #[(0:Int),(0:Int)] 25)).alloc (.cells #[(0:Int),(0:Int),(0:Int),(0:Int),(0:Int),.slice none 0 0] 28))).heap.size F):=hf.mono hB2.size
 clear hx hf
 go_enter Try.func22,Try.ntmps22
 go_wp2_with fail
 obtain ⟨w2,hw2⟩:∃ X,X=((w.alloc (.cells #[(0:Int),(0:Int)] 25)).alloc (.cells #[(0:Int),(0:Int),(0:Int),(0:Int),(0:Int),.slice none 0 0] 28)):=⟨_,rfl⟩
 rw [←hw2] at hB2 K22 K32 hs2 HX2 HU2 ⊢
 clear hw2
 refine (spec_l17Open bs w2 v F HX2.out HU2.out).mono ?_
 rintro e w3 ⟨g,rfl,hge,hb3,hR3⟩
 have HR3:=jj hR3
 have hg3:g<w3.heap.size:=hR3.lt
 have hB3:Below w w w3:=hB2.trans (hb3.mono hB2.size)
 have K23:=jj (K22.out.same (hb3.block _ K22.out.lt))
 have K33:=jj (K32.out.same (hb3.block _ K32.out.lt))
 clear hR3 hb3 K22 K32 HX2 HU2 hB2
 go_wp2_with fail
 refine (spec_l3Typed 0 g w3 HR3.out (by omega)).mono ?_
 rintro e w4 ⟨xs,v4,FW,t,a,csa,Fa,va,vA,vcap,q4,rfl,htok,ha4,hfs4,hp4,hf4,hn4,hr4,hq4,hc4⟩
 obtain ⟨kva,rfl,haa⟩:=(zA4 _ _ _).1 hp4
 obtain ⟨pA,pcap,rfl,-,-⟩:=haa.form
 obtain ⟨A1,cap1,rfl,-,-⟩:=ha4.form
 have hz4:=hc4.size
 have hB4:Below w w w4:=hB3.trans (hc4.below (fun b hb=>by rw [zy1] at hb;omega) hB3.size)
 have K24:=jj (K23.out.same (hc4.block _ K23.out.lt (by rw [zy1];omega)))
 have K34:=jj (K33.out.same (hc4.block _ K33.out.lt (by rw [zy1];omega)))
 have HTOK:=jj htok
 have HFW:Hid (∀ b∈FW,w3.heap.size≤b):=fun b hb=>(hfs4 b hb).1
 have HFA:Hid (∀ b∈Fa,w3.heap.size≤b∧b≠g):=fun b hb=>⟨(hf4 b hb).2.2,(hf4 b hb).2.1⟩
 have hfwk:=fun b hb=>(hfs4 b hb).2
 have hfak:=fun b hb=>(hf4 b hb).1
 have HNA:Hid (nodesP a≤2000):=by unfold Hid;omega
 have hna:nodesP a≤512:=hn4
 have hb5:Below w4 w4 (((w4.alloc (.cells #[t.d,t.i] 25)).alloc (.cells #[a.op,a.ct,a.n,a.m,a.va,.slice pA a.ks.length pcap] 28)).alloc (.cells #[va.c,va.n,.slice vA va.ks.length vcap] 46)):=(((zy2 _ _).alloc (zz8 _) _).alloc (by simp) _).alloc (by simp;omega) _
 have KB5:Hid (Blk (((w4.alloc (.cells #[t.d,t.i] 25)).alloc (.cells #[a.op,a.ct,a.n,a.m,a.va,.slice pA a.ks.length pcap] 28)).alloc (.cells #[va.c,va.n,.slice vA va.ks.length vcap] 46)) w4.heap.size 25 #[t.d,t.i]):=((Blk.new w4 _ _).same (Below.heap_alloc _ _ _ (by simp))).same (Below.heap_alloc _ _ _ (by simp;omega))
 have KC5:Hid (Blk (((w4.alloc (.cells #[t.d,t.i] 25)).alloc (.cells #[a.op,a.ct,a.n,a.m,a.va,.slice pA a.ks.length pcap] 28)).alloc (.cells #[va.c,va.n,.slice vA va.ks.length vcap] 46)) (w4.heap.size+1) 28 #[a.op,a.ct,a.n,a.m,a.va,.slice pA a.ks.length pcap]):=(zA8 w4 _ 28 _).same (Below.heap_alloc _ _ _ (by simp))
 have HA5:=jj (ArrDt.below ha4 hb5 (Fresh.under hfs4))
 have HUW5:Hid (Under ((((w4.alloc (.cells #[t.d,t.i] 25)).alloc (.cells #[a.op,a.ct,a.n,a.m,a.va,.slice pA a.ks.length pcap] 28)).alloc (.cells #[va.c,va.n,.slice vA va.ks.length vcap] 46))).heap.size FW):=(Fresh.under hfs4).mono hb5.size
 have HP5:=jj (PR.below hp4 hb5 (fun b hb=>(hf4 b hb).1))
 have HUa5:Hid (Under ((((w4.alloc (.cells #[t.d,t.i] 25)).alloc (.cells #[a.op,a.ct,a.n,a.m,a.va,.slice pA a.ks.length pcap] 28)).alloc (.cells #[va.c,va.n,.slice vA va.ks.length vcap] 46))).heap.size Fa):=fun b hb=>zz9 (hf4 b hb).1 hb5.size
 have HR5:=jj (hr4.below hb5)
 have HB5:Hid (Below w w (((w4.alloc (.cells #[t.d,t.i] 25)).alloc (.cells #[a.op,a.ct,a.n,a.m,a.va,.slice pA a.ks.length pcap] 28)).alloc (.cells #[va.c,va.n,.slice vA va.ks.length vcap] 46))):=hB4.trans (hb5.mono hB4.size)
 have K25:=jj (K24.out.same (hb5.block _ K24.out.lt))
 have K35:=jj (K34.out.same (hb5.block _ K34.out.lt))
 clear htok ha4 hfs4 hp4 hf4 hn4 hr4 hc4 haa hb5 K23 K33 K24 K34 HR3 hB3 hB4
 go_wp2_with fail
 obtain ⟨w5,hw5⟩:∃ X,X=(((w4.alloc (.cells #[t.d,t.i] 25)).alloc (.cells #[a.op,a.ct,a.n,a.m,a.va,.slice pA a.ks.length pcap] 28)).alloc (.cells #[va.c,va.n,.slice vA va.ks.length vcap] 46)):=⟨_,rfl⟩
 rw [←hw5] at KB5 KC5 HA5 HUW5 HP5 HUa5 HR5 HB5 K25 K35 ⊢
 clear hw5
 obtain ⟨k,hk⟩:∃ X,X=w4.heap.size:=⟨_,rfl⟩
 obtain ⟨kp,hkp⟩:∃ X,X=k+1:=⟨_,rfl⟩
 rw [←hk] at KB5 KC5 hz4 hfwk hfak ⊢
 have HKW:=jj hfwk
 have HKA:=jj hfak
 clear hfwk hfak
 rw [←hkp] at KC5
 first | rw [←hkp] | skip
 have hkn:k<kp:=by omega
 have HKH:=jj (And.intro hk hkp)
 clear hk hkp
 refine (zAE 10 q4 g w5 HR5.out (by omega) (by omega) (by omega)).mono ?_
 rintro e w6 ⟨r,rfl,hr2,hR6,hc6⟩
 have HR6:=jj hR6
 have HB6:Hid (Below w w w6):=HB5.out.trans (hc6.below (fun b hb=>by rw [zy1] at hb;omega) HB5.out.size)
 have hn1:∀ b,b<g∨w3.heap.size≤b→b∉[g]:=fun b hb h=>by rw [zy1] at h;omega
 have K26:=jj (K25.out.same (hc6.block _ K25.out.lt (hn1 _ (.inl (by omega)))))
 have K36:=jj (K35.out.same (hc6.block _ K35.out.lt (hn1 _ (.inl (by omega)))))
 have KB6:=jj (KB5.out.same (hc6.block _ KB5.out.lt (hn1 _ (.inr (by omega)))))
 have KC6:=jj (KC5.out.same (hc6.block _ KC5.out.lt (hn1 _ (.inr (by omega)))))
 have HA6:=jj (ArrDt.mono HA5.out (hc6.kept HUW5.out (fun b hb=>hn1 b (.inr (HFW.out b hb)))))
 have HUW6:Hid (Under w6 FW):=HUW5.out.mono hc6.size
 have HP6:=jj (PR.mono _ _ _ (hc6.kept HUa5.out (fun b hb=>hn1 b (.inr (HFA.out b hb).1))) HP5.out)
 have HUa6:Hid (Under w6 Fa):=HUa5.out.mono hc6.size
 have hk6:kp<w6.heap.size:=KC6.out.lt
 clear hR6 hc6 K25 K35 KB5 KC5 HA5 HUW5 HP5 HUa5 HR5 HB5 hn1
 cases q0:((r:Int)==0) with
 |true =>
  go_wp2_with fail
  refine (spec_l1Some (q4+1) g w6 HR6.out (by omega) A1 xs.length cap1 HTOK.out.pos (by have:=(worldOK HTOK.out.ok).len;omega)).mono ?_
  rintro e w7 ⟨t2,q5,rfl,hR7,hq7,hc7⟩
  have hn7:∀ b,b<g∨w3.heap.size≤b→b∉[g]:=fun b hb h=>by rw [zy1] at h;omega
  have K27:=jj (K26.out.same (hc7.block _ K26.out.lt (hn7 _ (.inl (by omega)))))
  have K37:=jj (K36.out.same (hc7.block _ K36.out.lt (hn7 _ (.inl (by omega)))))
  have KB7:=jj (KB6.out.same (hc7.block _ KB6.out.lt (hn7 _ (.inr (by omega)))))
  have KC7:=jj (KC6.out.same (hc7.block _ KC6.out.lt (hn7 _ (.inr (by omega)))))
  have HA7:=jj (ArrDt.mono HA6.out (hc7.kept HUW6.out (fun b hb=>hn7 b (.inr (HFW.out b hb)))))
  have HUW7:Hid (Under w7 FW):=HUW6.out.mono hc7.size
  have HP7:=jj (PR.mono _ _ _ (hc7.kept HUa6.out (fun b hb=>hn7 b (.inr (HFA.out b hb).1))) HP6.out)
  have HUa7:Hid (Under w7 Fa):=HUa6.out.mono hc7.size
  have HB7:Hid (Below w w w7):=HB6.out.trans (hc7.below (fun b hb=>by rw [zy1] at hb;omega) HB6.out.size)
  have HR7:=jj hR7
  obtain ⟨y0,y1,ylt,f0,f1⟩:=KB7.out.q2
  clear hR7 hc7 K26 K36 KB6 KC6 HA6 HUW6 HP6 HUa6 HB6 HR6 hn7
  go_wp2_with fail
  clear y0 y1 f0 f1 ylt
  obtain ⟨wb,hwb⟩:∃ X,X=((w7.setCell ⟨k,0,none⟩ (.int .i64 t2.d)).setCell ⟨k,1,none⟩ (.int .i64 t2.i)):=⟨_,rfl⟩
  have hfar:∀ b,b≠k→wb.heap[b]?=w7.heap[b]?:=fun b hb=>by rw [hwb,zz7 _ _ _ _ hb,zz7 _ _ _ _ hb]
  have KBb:Hid (Blk wb k 25 #[t2.d,t2.i]):=by rw [hwb];exact (KB7.out.set_ 0 _).set_ 1 _
  have hzb:wb.heap.size=w7.heap.size:=by rw [hwb];simp [World.setCell]
  have HBb:Hid (Below w w wb):=by rw [hwb];exact (HB7.out.setCell (by show w.heap.size≤k;omega) _).setCell (by show w.heap.size≤k;omega) _
  rw [←hwb]
  clear hwb
  have K2b:=jj (K27.out.same (hfar _ (by omega)))
  have K3b:=jj (K37.out.same (hfar _ (by omega)))
  have KCb:=jj (KC7.out.same (hfar _ (by omega)))
  have hkW:∀ b∈FW,b≠k:=fun b hb e=>by have:=HKW.out b hb;omega
  have hkA:∀ b∈Fa,b≠k:=fun b hb e=>by have:=HKA.out b hb;omega
  have HAb:=jj (ArrDt.mono HA7.out (w':=wb) (fun b hb=>hfar b (hkW b hb)))
  have HUWb:Hid (Under wb FW):=by rw [hzb];exact HUW7.out
  have HPb:=jj (PR.mono (w':=wb) _ _ _ (fun b hb=>hfar b (hkA b hb)) HP7.out)
  have HUab:Hid (Under wb Fa):=by rw [hzb];exact HUa7.out
  have HRb:Hid (Rd wb g q5):=HR7.out.keep fun b hb=>hfar b (by omega)
  obtain ⟨qb,hqb⟩:∃ X,X=q5:=⟨_,rfl⟩
  rw [←hqb] at HRb
  have hqb4:qb≤3000:=by omega
  have hkb:kp<wb.heap.size:=KCb.out.lt
  clear hqb hfar hkW hkA hzb K27 K37 KC7 HA7 HUW7 HP7 HUa7 HR7 HB7 KB7 q0
  go_wp2_with fail
  have HS:Hid (∀ C:World,Chg [g,w.heap.size,w.heap.size+1] wb C→(C.cell? ⟨k,0,none⟩=t2.d∧C.cell? ⟨k,1,none⟩=t2.i∧C.cell? ⟨kp,0,none⟩=a.op∧C.cell? ⟨kp,1,none⟩=a.ct∧C.cell? ⟨kp,2,none⟩=a.n∧C.cell? ⟨kp,3,none⟩=a.m∧C.cell? ⟨kp,4,none⟩=a.va∧C.cell? ⟨kp,5,none⟩=some (.slice pA a.ks.length pcap))):=fun C hC=>⟨(hC.cell (Nat.lt_trans hkn hkb) (by simp;omega)).trans ((KBb.out.cell 0).trans (by simp)),(hC.cell (Nat.lt_trans hkn hkb) (by simp;omega)).trans ((KBb.out.cell 1).trans (by simp)),(hC.cell hkb (by simp;omega)).trans ((KCb.out.cell 0).trans (by simp)),(hC.cell hkb (by simp;omega)).trans ((KCb.out.cell 1).trans (by simp)),(hC.cell hkb (by simp;omega)).trans ((KCb.out.cell 2).trans (by simp)),(hC.cell hkb (by simp;omega)).trans ((KCb.out.cell 3).trans (by simp)),(hC.cell hkb (by simp;omega)).trans ((KCb.out.cell 4).trans (by simp)),(hC.cell hkb (by simp;omega)).trans ((KCb.out.cell 5).trans (by simp))⟩
  have hC0:Chg [g,w.heap.size,w.heap.size+1] wb wb.drew:=(Chg.refl _ _).drew
  have K2d:Hid (Blk wb.drew (w.heap.size) 25 #[(0:Int),(0:Int)]):=K2b.out
  have K3d:Hid (Blk wb.drew (w.heap.size+1) 28 #[(0:Int),(0:Int),(0:Int),(0:Int),(0:Int),.slice none 0 0]):=K3b.out
  have HPd:Hid (PR wb.drew a [a.op,a.ct,a.n,a.m,a.va,.slice pA a.ks.length pcap] Fa):=PR.drew HPb.out
  have HUd:Hid (Under wb.drew.heap.size Fa):=HUab.out
  have HRd:Hid (Rd wb.drew g qb):=HRb.out.keep (fun b hb=>rfl)
  have HAd:Hid (Arr wb.drew (DtR wb.drew) xs (.slice A1 xs.length cap1) FW):=ArrDt.drew HAb.out
  have HWd:Hid (Under wb.drew.heap.size FW):=HUWb.out
  refine zA6 (S:=fun w'=>w'.cell? ⟨k,0,none⟩=t2.d∧w'.cell? ⟨k,1,none⟩=t2.i∧w'.cell? ⟨kp,0,none⟩=a.op∧w'.cell? ⟨kp,1,none⟩=a.ct∧w'.cell? ⟨kp,2,none⟩=a.n∧w'.cell? ⟨kp,3,none⟩=a.m∧w'.cell? ⟨kp,4,none⟩=a.va∧w'.cell? ⟨kp,5,none⟩=some (.slice pA a.ks.length pcap)) (T:=fun _=>True) (d:=99) (by kernel_rfl) ?_
  obtain ⟨wd,hwd⟩:∃ X,X=wb.drew:=⟨_,rfl⟩
  have hzd:wb.heap.size≤wd.heap.size:=by rw [hwd];exact zz8 _
  rw [←hwd] at hC0 K2d K3d HPd HUd HRd HAd HWd ⊢
  clear hwd
  have hS0:=HS.out _ hC0
  have hT0:True:=trivial
  refine wV 0 rfl hS0 hT0 ?_
  (try simp only [zz])
  refine wV 1 rfl hS0 hT0 ?_
  (try simp only [zz])
  refine wV 3 rfl hS0 hT0 ?_
  (try simp only [zz])
  refine wV 4 rfl hS0 hT0 ?_
  (try simp only [zz])
  refine wV 5 rfl hS0 hT0 ?_
  (try simp only [zz])
  refine w1 2 rfl fun K hK=>?_
  go_simp
  go_at_call 54
  refine (spec_l1Mutate qb g wd HRd.out (by omega) xs _ FW HAd.out HWd.out HTOK.out.pos (by have:=(worldOK HTOK.out.ok).len;omega) 4 (by omega) (SmallW.of (worldOK HTOK.out.ok))).mono ?_
  rintro e C1 ⟨ys,v6,F6,q6,rfl,-,ha6,hfs6,hr6,hq6,hc1⟩
  have hC1:Chg [g,w.heap.size,w.heap.size+1] wb C1:=hC0.trans (hc1.mono (by simp))
  have K21:=jj (K2d.out.same (hc1.block _ K2d.out.lt (by rw [zy1];omega)))
  have K31:=jj (K3d.out.same (hc1.block _ K3d.out.lt (by rw [zy1];omega)))
  have HP1:=jj (PR.mono _ _ _ (hc1.kept HUd.out (fun b hb h=>by rw [zy1] at h;exact (HFA.out b hb).2 h)) HPd.out)
  have HU1:Hid (Under C1 Fa):=HUd.out.mono hc1.size
  have HA1:=jj ha6
  have HR1:=jj hr6
  have HF6:Hid (∀ b∈F6,wd.heap.size≤b∧b<C1.heap.size):=hfs6
  have hz1:=hc1.size
  have hwdk:w.heap.size+2≤wd.heap.size∧g<wd.heap.size:=by have:=HRd.out.lt;have:=K3d.out.lt;omega
  clear ha6 hfs6 hr6 hc1 K2d K3d HPd HUd HRd HAd HWd
  (try dsimp only)
  refine hK.out _ _ (HS.out _ hC1) (fun _=>trivial) ?_
  clear hK K
  (try simp only [zz])
  refine w1 6 rfl fun K hK=>?_
  go_simp
  go_at_call 55
  refine (spec_l3Mutate a HNA.out C1 q6 g HR1.out (by omega) _ Fa HP1.out HU1.out (fun b hb=>(HFA.out b hb).2)).mono ?_
  rintro e C2 ⟨b,cs2,Fb,q8,rfl,hp2,hf2,hn2,-,-,hc2⟩
  obtain ⟨kvb,rfl,hbb⟩:=(zA4 _ _ _).1 hp2
  obtain ⟨qA,qcap,rfl,-,-⟩:=hbb.form
  have hC2:Chg [g,w.heap.size,w.heap.size+1] wb C2:=hC1.trans (hc2.mono (by simp))
  have K22:=jj (K21.out.same (hc2.block _ K21.out.lt (by rw [zy1];omega)))
  have K32:=jj (K31.out.same (hc2.block _ K31.out.lt (by rw [zy1];omega)))
  have HA2:=jj (ArrDt.mono HA1.out (hc2.kept (fun b hb=>(HF6.out b hb).2) (fun b hb h=>by rw [zy1] at h;have:=(HF6.out b hb).1;omega)))
  have HU2:Hid (Under C2 F6):=fun b hb=>zz9 (HF6.out b hb).2 hc2.size
  have HPB:=jj hp2
  have HUB:Hid (Under C2 Fb):=fun x hx=>(hf2 x hx).1
  have HFB:Hid (∀ x∈Fb,w3.heap.size≤x∧x≠g):=fun x hx=>⟨by
   rcases (hf2 x hx).2.2 with h | h
   ·exact (HFA.out x h).1
   ·omega,(hf2 x hx).2.1⟩
  have HNB:Hid (nodesP b≤2000):=by unfold Hid;omega
  clear hp2 hf2 hc2 hbb HA1 HR1
  (try dsimp only)
  refine hK.out _ _ (HS.out _ hC2) (fun _=>trivial) ?_
  clear hK K
  (try simp only [zz])
  refine w1 7 rfl fun K hK=>?_
  go_simp
  (try dsimp only)
  refine hK.out _ _ (HS.out _ hC2) (fun _=>trivial) ?_
  clear hK K
  (try simp only [zz])
  refine w1 8 rfl fun K hK=>?_
  have yy0:C2.cell? ⟨w,0,none⟩=some (.int .i64 0):=(K22.out.cell 0).trans (by simp)
  have ff0:=K22.out.frozen 0
  have yy1:C2.cell? ⟨w,1,none⟩=some (.int .i64 0):=(K22.out.cell 1).trans (by simp)
  have ff1:=K22.out.frozen 1
  have yylt:=K22.out.lt
  have hC12:Chg [g,w.heap.size,w.heap.size+1] wb ((C2.setCell ⟨w,0,none⟩ (.int .i64 t2.d)).setCell ⟨w,1,none⟩ (.int .i64 t2.i)):=((hC2.set (by simp)).set (by simp))
  have KK12:Hid (Blk ((C2.setCell ⟨w,0,none⟩ (.int .i64 t2.d)).setCell ⟨w,1,none⟩ (.int .i64 t2.i)) (w.heap.size) 25 #[t2.d,t2.i]):=((K22.out.set_ 0 _).set_ 1 _)
  have K3212:Hid (Blk ((C2.setCell ⟨w,0,none⟩ (.int .i64 t2.d)).setCell ⟨w,1,none⟩ (.int .i64 t2.i)) (w.heap.size+1) 28 #[(0:Int),(0:Int),(0:Int),(0:Int),(0:Int),.slice none 0 0]):=((K32.out.same (zz7 _ _ _ _ (by show w.heap.size+1≠w.heap.size;omega))).same (zz7 _ _ _ _ (by show w.heap.size+1≠w.heap.size;omega)))
  have hz12:(((C2.setCell ⟨w,0,none⟩ (.int .i64 t2.d)).setCell ⟨w,1,none⟩ (.int .i64 t2.i))).heap.size=C2.heap.size:=by simp [World.setCell]
  have hkA12:Kept F6 C2 ((C2.setCell ⟨w,0,none⟩ (.int .i64 t2.d)).setCell ⟨w,1,none⟩ (.int .i64 t2.i)):=fun x hx=>by rw [zz7 _ _ _ _ (by show x≠w.heap.size;have:=HF6.out x hx;omega),zz7 _ _ _ _ (by show x≠w.heap.size;have:=HF6.out x hx;omega)]
  have hkB12:Kept Fb C2 ((C2.setCell ⟨w,0,none⟩ (.int .i64 t2.d)).setCell ⟨w,1,none⟩ (.int .i64 t2.i)):=fun x hx=>by rw [zz7 _ _ _ _ (by show x≠w.heap.size;have:=HFB.out x hx;omega),zz7 _ _ _ _ (by show x≠w.heap.size;have:=HFB.out x hx;omega)]
  go_simp
  refine hK.out _ _ (HS.out _ hC12) (fun _=>trivial) ?_
  clear hK K
  (try simp only [zz])
  clear yy0 ff0 yy1 ff1 yylt
  obtain ⟨D2,hX⟩:∃ X,X=((C2.setCell ⟨w,0,none⟩ (.int .i64 t2.d)).setCell ⟨w,1,none⟩ (.int .i64 t2.i)):=⟨_,rfl⟩
  rw [←hX] at hC12 KK12 K3212 hz12 hkA12 hkB12 ⊢
  clear hX
  refine w1 9 rfl fun K hK=>?_
  obtain ⟨yy0,yy1,yy2,yy3,yy4,yy5,yylt,ff0,ff1,ff2,ff3,ff4,ff5⟩:=K3212.out.q6
  have hC13:Chg [g,w.heap.size,w.heap.size+1] wb ((((((D2.setCell ⟨w.heap.size+1,0,none⟩ (.int .i64 b.op)).setCell ⟨w.heap.size+1,1,none⟩ (.int .i64 b.ct)).setCell ⟨w.heap.size+1,2,none⟩ (.int .i64 b.n)).setCell ⟨w.heap.size+1,3,none⟩ (.int .i64 b.m)).setCell ⟨w.heap.size+1,4,none⟩ (.int .i64 b.va)).setCell ⟨w.heap.size+1,5,none⟩ (.slice qA b.ks.length qcap)):=((((((hC12.set (by simp)).set (by simp)).set (by simp)).set (by simp)).set (by simp)).set (by simp))
  have KK13:Hid (Blk ((((((D2.setCell ⟨w.heap.size+1,0,none⟩ (.int .i64 b.op)).setCell ⟨w.heap.size+1,1,none⟩ (.int .i64 b.ct)).setCell ⟨w.heap.size+1,2,none⟩ (.int .i64 b.n)).setCell ⟨w.heap.size+1,3,none⟩ (.int .i64 b.m)).setCell ⟨w.heap.size+1,4,none⟩ (.int .i64 b.va)).setCell ⟨w.heap.size+1,5,none⟩ (.slice qA b.ks.length qcap)) (w.heap.size+1) 28 #[b.op,b.ct,b.n,b.m,b.va,.slice qA b.ks.length qcap]):=((((((K3212.out.set_ 0 _).set_ 1 _).set_ 2 _).set_ 3 _).set_ 4 _).set_ 5 _)
  have KK1213:Hid (Blk ((((((D2.setCell ⟨w.heap.size+1,0,none⟩ (.int .i64 b.op)).setCell ⟨w.heap.size+1,1,none⟩ (.int .i64 b.ct)).setCell ⟨w.heap.size+1,2,none⟩ (.int .i64 b.n)).setCell ⟨w.heap.size+1,3,none⟩ (.int .i64 b.m)).setCell ⟨w.heap.size+1,4,none⟩ (.int .i64 b.va)).setCell ⟨w.heap.size+1,5,none⟩ (.slice qA b.ks.length qcap)) (w.heap.size) 25 #[t2.d,t2.i]):=((((((KK12.out.same (zz7 _ _ _ _ (by show w.heap.size≠w.heap.size+1;omega))).same (zz7 _ _ _ _ (by show w.heap.size≠w.heap.size+1;omega))).same (zz7 _ _ _ _ (by show w.heap.size≠w.heap.size+1;omega))).same (zz7 _ _ _ _ (by show w.heap.size≠w.heap.size+1;omega))).same (zz7 _ _ _ _ (by show w.heap.size≠w.heap.size+1;omega))).same (zz7 _ _ _ _ (by show w.heap.size≠w.heap.size+1;omega)))
  have hz13:(((((((D2.setCell ⟨w.heap.size+1,0,none⟩ (.int .i64 b.op)).setCell ⟨w.heap.size+1,1,none⟩ (.int .i64 b.ct)).setCell ⟨w.heap.size+1,2,none⟩ (.int .i64 b.n)).setCell ⟨w.heap.size+1,3,none⟩ (.int .i64 b.m)).setCell ⟨w.heap.size+1,4,none⟩ (.int .i64 b.va)).setCell ⟨w.heap.size+1,5,none⟩ (.slice qA b.ks.length qcap))).heap.size=D2.heap.size:=by simp [World.setCell]
  have hkA13:Kept F6 D2 ((((((D2.setCell ⟨w.heap.size+1,0,none⟩ (.int .i64 b.op)).setCell ⟨w.heap.size+1,1,none⟩ (.int .i64 b.ct)).setCell ⟨w.heap.size+1,2,none⟩ (.int .i64 b.n)).setCell ⟨w.heap.size+1,3,none⟩ (.int .i64 b.m)).setCell ⟨w.heap.size+1,4,none⟩ (.int .i64 b.va)).setCell ⟨w.heap.size+1,5,none⟩ (.slice qA b.ks.length qcap)):=fun x hx=>by rw [zz7 _ _ _ _ (by show x≠w.heap.size+1;have:=HF6.out x hx;omega),zz7 _ _ _ _ (by show x≠w.heap.size+1;have:=HF6.out x hx;omega),zz7 _ _ _ _ (by show x≠w.heap.size+1;have:=HF6.out x hx;omega),zz7 _ _ _ _ (by show x≠w.heap.size+1;have:=HF6.out x hx;omega),zz7 _ _ _ _ (by show x≠w.heap.size+1;have:=HF6.out x hx;omega),zz7 _ _ _ _ (by show x≠w.heap.size+1;have:=HF6.out x hx;omega)]
  have hkB13:Kept Fb D2 ((((((D2.setCell ⟨w.heap.size+1,0,none⟩ (.int .i64 b.op)).setCell ⟨w.heap.size+1,1,none⟩ (.int .i64 b.ct)).setCell ⟨w.heap.size+1,2,none⟩ (.int .i64 b.n)).setCell ⟨w.heap.size+1,3,none⟩ (.int .i64 b.m)).setCell ⟨w.heap.size+1,4,none⟩ (.int .i64 b.va)).setCell ⟨w.heap.size+1,5,none⟩ (.slice qA b.ks.length qcap)):=fun x hx=>by rw [zz7 _ _ _ _ (by show x≠w.heap.size+1;have:=HFB.out x hx;omega),zz7 _ _ _ _ (by show x≠w.heap.size+1;have:=HFB.out x hx;omega),zz7 _ _ _ _ (by show x≠w.heap.size+1;have:=HFB.out x hx;omega),zz7 _ _ _ _ (by show x≠w.heap.size+1;have:=HFB.out x hx;omega),zz7 _ _ _ _ (by show x≠w.heap.size+1;have:=HFB.out x hx;omega),zz7 _ _ _ _ (by show x≠w.heap.size+1;have:=HFB.out x hx;omega)]
  go_simp
  refine hK.out _ _ (HS.out _ hC13) (fun _=>trivial) ?_
  clear hK K
  (try simp only [zz])
  clear yy0 ff0 yy1 ff1 yy2 ff2 yy3 ff3 yy4 ff4 yy5 ff5 yylt
  obtain ⟨D3,hX⟩:∃ X,X=((((((D2.setCell ⟨w.heap.size+1,0,none⟩ (.int .i64 b.op)).setCell ⟨w.heap.size+1,1,none⟩ (.int .i64 b.ct)).setCell ⟨w.heap.size+1,2,none⟩ (.int .i64 b.n)).setCell ⟨w.heap.size+1,3,none⟩ (.int .i64 b.m)).setCell ⟨w.heap.size+1,4,none⟩ (.int .i64 b.va)).setCell ⟨w.heap.size+1,5,none⟩ (.slice qA b.ks.length qcap)):=⟨_,rfl⟩
  rw [←hX] at hC13 KK13 KK1213 hz13 hkA13 hkB13 ⊢
  clear hX
  refine wE (by kernel_rfl) ?_
  clear hS0 hT0
  have HFin:Hid (DrewWTPF w (.returned (.tuple #[v6,.agg #[t2.d,t2.i],.agg #[b.op,b.ct,b.n,b.m,b.va,.slice qA b.ks.length qcap]])) D3):=by
   have hz:D3.heap.size=C2.heap.size:=by rw [hz13,hz12]
   refine ⟨ys,v6,F6,t2,b,[b.op,b.ct,b.n,b.m,b.va,.slice qA b.ks.length qcap],Fb,rfl,HBb.out.trans (hC13.below (by intro x hx;simp at hx;omega) HBb.out.size),ArrDt.mono (ArrDt.mono HA2.out hkA12) hkA13,?_,PR.mono _ _ _ hkB13 (PR.mono _ _ _ hkB12 HPB.out),?_,HNB.out⟩
   ·intro x hx;rw [hz];exact ⟨by have:=(HF6.out x hx).1;omega,HU2.out x hx⟩
   ·intro x hx;rw [hz];exact ⟨by have:=(HFB.out x hx).1;omega,HUB.out x hx⟩
  clear hkA12 hkA13 hkB12 hkB13 hC12 hC13 hC2 hC1 hC0
  go_wp2
  refine bodyPost_ret (zAH rfl _ _ (w.heap.size) (w.heap.size+1) 25 28 #[t2.d,t2.i] #[b.op,b.ct,b.n,b.m,b.va,.slice qA b.ks.length qcap] (0,0) (0,0) _ _ rfl KK1213.out Try.underlying25 rfl rfl rfl KK13.out Try.underlying28 rfl rfl) rfl ?_
  exact HFin.out
 |false =>
  go_wp2_with fail
  obtain ⟨wb,hwb⟩:∃ X,X=w6:=⟨_,rfl⟩
  obtain ⟨qb,hqb⟩:∃ X,X=q4+1:=⟨_,rfl⟩
  have hqb4:qb≤3000:=by omega
  rw [←hwb] at K26 K36 KB6 KC6 HA6 HUW6 HP6 HUa6 HB6 HR6 hk6 ⊢
  rw [←hqb] at HR6
  clear hwb hqb
  have K2b:=K26
  have K3b:=K36
  have KBb:=KB6
  have KCb:=KC6
  have HAb:=HA6
  have HUWb:=HUW6
  have HPb:=HP6
  have HUab:=HUa6
  have HRb:=HR6
  have HBb:=HB6
  have hkb:=hk6
  clear K26 K36 KB6 KC6 HA6 HUW6 HP6 HUa6 HB6 HR6 hk6 q0
  have HS:Hid (∀ C:World,Chg [g,w.heap.size,w.heap.size+1] wb C→(C.cell? ⟨k,0,none⟩=t.d∧C.cell? ⟨k,1,none⟩=t.i∧C.cell? ⟨kp,0,none⟩=a.op∧C.cell? ⟨kp,1,none⟩=a.ct∧C.cell? ⟨kp,2,none⟩=a.n∧C.cell? ⟨kp,3,none⟩=a.m∧C.cell? ⟨kp,4,none⟩=a.va∧C.cell? ⟨kp,5,none⟩=some (.slice pA a.ks.length pcap))):=fun C hC=>⟨(hC.cell (Nat.lt_trans hkn hkb) (by simp;omega)).trans ((KBb.out.cell 0).trans (by simp)),(hC.cell (Nat.lt_trans hkn hkb) (by simp;omega)).trans ((KBb.out.cell 1).trans (by simp)),(hC.cell hkb (by simp;omega)).trans ((KCb.out.cell 0).trans (by simp)),(hC.cell hkb (by simp;omega)).trans ((KCb.out.cell 1).trans (by simp)),(hC.cell hkb (by simp;omega)).trans ((KCb.out.cell 2).trans (by simp)),(hC.cell hkb (by simp;omega)).trans ((KCb.out.cell 3).trans (by simp)),(hC.cell hkb (by simp;omega)).trans ((KCb.out.cell 4).trans (by simp)),(hC.cell hkb (by simp;omega)).trans ((KCb.out.cell 5).trans (by simp))⟩
  have hC0:Chg [g,w.heap.size,w.heap.size+1] wb wb.drew:=(Chg.refl _ _).drew
  have K2d:Hid (Blk wb.drew (w.heap.size) 25 #[(0:Int),(0:Int)]):=K2b.out
  have K3d:Hid (Blk wb.drew (w.heap.size+1) 28 #[(0:Int),(0:Int),(0:Int),(0:Int),(0:Int),.slice none 0 0]):=K3b.out
  have HPd:Hid (PR wb.drew a [a.op,a.ct,a.n,a.m,a.va,.slice pA a.ks.length pcap] Fa):=PR.drew HPb.out
  have HUd:Hid (Under wb.drew.heap.size Fa):=HUab.out
  have HRd:Hid (Rd wb.drew g qb):=HRb.out.keep (fun b hb=>rfl)
  have HAd:Hid (Arr wb.drew (DtR wb.drew) xs (.slice A1 xs.length cap1) FW):=ArrDt.drew HAb.out
  have HWd:Hid (Under wb.drew.heap.size FW):=HUWb.out
  refine zA6 (S:=fun w'=>w'.cell? ⟨k,0,none⟩=t.d∧w'.cell? ⟨k,1,none⟩=t.i∧w'.cell? ⟨kp,0,none⟩=a.op∧w'.cell? ⟨kp,1,none⟩=a.ct∧w'.cell? ⟨kp,2,none⟩=a.n∧w'.cell? ⟨kp,3,none⟩=a.m∧w'.cell? ⟨kp,4,none⟩=a.va∧w'.cell? ⟨kp,5,none⟩=some (.slice pA a.ks.length pcap)) (T:=fun _=>True) (d:=99) (by kernel_rfl) ?_
  obtain ⟨wd,hwd⟩:∃ X,X=wb.drew:=⟨_,rfl⟩
  have hzd:wb.heap.size≤wd.heap.size:=by rw [hwd];exact zz8 _
  rw [←hwd] at hC0 K2d K3d HPd HUd HRd HAd HWd ⊢
  clear hwd
  have hS0:=HS.out _ hC0
  have hT0:True:=trivial
  refine wV 0 rfl hS0 hT0 ?_
  (try simp only [zz])
  refine wV 1 rfl hS0 hT0 ?_
  (try simp only [zz])
  refine wV 3 rfl hS0 hT0 ?_
  (try simp only [zz])
  refine wV 4 rfl hS0 hT0 ?_
  (try simp only [zz])
  refine wV 5 rfl hS0 hT0 ?_
  (try simp only [zz])
  refine w1 2 rfl fun K hK=>?_
  go_simp
  go_at_call 54
  refine (spec_l1Mutate qb g wd HRd.out (by omega) xs _ FW HAd.out HWd.out HTOK.out.pos (by have:=(worldOK HTOK.out.ok).len;omega) 4 (by omega) (SmallW.of (worldOK HTOK.out.ok))).mono ?_
  rintro e C1 ⟨ys,v6,F6,q6,rfl,-,ha6,hfs6,hr6,hq6,hc1⟩
  have hC1:Chg [g,w.heap.size,w.heap.size+1] wb C1:=hC0.trans (hc1.mono (by simp))
  have K21:=jj (K2d.out.same (hc1.block _ K2d.out.lt (by rw [zy1];omega)))
  have K31:=jj (K3d.out.same (hc1.block _ K3d.out.lt (by rw [zy1];omega)))
  have HP1:=jj (PR.mono _ _ _ (hc1.kept HUd.out (fun b hb h=>by rw [zy1] at h;exact (HFA.out b hb).2 h)) HPd.out)
  have HU1:Hid (Under C1 Fa):=HUd.out.mono hc1.size
  have HA1:=jj ha6
  have HR1:=jj hr6
  have HF6:Hid (∀ b∈F6,wd.heap.size≤b∧b<C1.heap.size):=hfs6
  have hz1:=hc1.size
  have hwdk:w.heap.size+2≤wd.heap.size∧g<wd.heap.size:=by have:=HRd.out.lt;have:=K3d.out.lt;omega
  clear ha6 hfs6 hr6 hc1 K2d K3d HPd HUd HRd HAd HWd
  (try dsimp only)
  refine hK.out _ _ (HS.out _ hC1) (fun _=>trivial) ?_
  clear hK K
  (try simp only [zz])
  refine w1 6 rfl fun K hK=>?_
  go_simp
  go_at_call 55
  refine (spec_l3Mutate a HNA.out C1 q6 g HR1.out (by omega) _ Fa HP1.out HU1.out (fun b hb=>(HFA.out b hb).2)).mono ?_
  rintro e C2 ⟨b,cs2,Fb,q8,rfl,hp2,hf2,hn2,-,-,hc2⟩
  obtain ⟨kvb,rfl,hbb⟩:=(zA4 _ _ _).1 hp2
  obtain ⟨qA,qcap,rfl,-,-⟩:=hbb.form
  have hC2:Chg [g,w.heap.size,w.heap.size+1] wb C2:=hC1.trans (hc2.mono (by simp))
  have K22:=jj (K21.out.same (hc2.block _ K21.out.lt (by rw [zy1];omega)))
  have K32:=jj (K31.out.same (hc2.block _ K31.out.lt (by rw [zy1];omega)))
  have HA2:=jj (ArrDt.mono HA1.out (hc2.kept (fun b hb=>(HF6.out b hb).2) (fun b hb h=>by rw [zy1] at h;have:=(HF6.out b hb).1;omega)))
  have HU2:Hid (Under C2 F6):=fun b hb=>zz9 (HF6.out b hb).2 hc2.size
  have HPB:=jj hp2
  have HUB:Hid (Under C2 Fb):=fun x hx=>(hf2 x hx).1
  have HFB:Hid (∀ x∈Fb,w3.heap.size≤x∧x≠g):=fun x hx=>⟨by
   rcases (hf2 x hx).2.2 with h | h
   ·exact (HFA.out x h).1
   ·omega,(hf2 x hx).2.1⟩
  have HNB:Hid (nodesP b≤2000):=by unfold Hid;omega
  clear hp2 hf2 hc2 hbb HA1 HR1
  (try dsimp only)
  refine hK.out _ _ (HS.out _ hC2) (fun _=>trivial) ?_
  clear hK K
  (try simp only [zz])
  refine w1 7 rfl fun K hK=>?_
  go_simp
  (try dsimp only)
  refine hK.out _ _ (HS.out _ hC2) (fun _=>trivial) ?_
  clear hK K
  (try simp only [zz])
  refine w1 8 rfl fun K hK=>?_
  have yy0:C2.cell? ⟨w,0,none⟩=some (.int .i64 0):=(K22.out.cell 0).trans (by simp)
  have ff0:=K22.out.frozen 0
  have yy1:C2.cell? ⟨w,1,none⟩=some (.int .i64 0):=(K22.out.cell 1).trans (by simp)
  have ff1:=K22.out.frozen 1
  have yylt:=K22.out.lt
  have hC12:Chg [g,w.heap.size,w.heap.size+1] wb ((C2.setCell ⟨w,0,none⟩ (.int .i64 t.d)).setCell ⟨w,1,none⟩ (.int .i64 t.i)):=((hC2.set (by simp)).set (by simp))
  have KK12:Hid (Blk ((C2.setCell ⟨w,0,none⟩ (.int .i64 t.d)).setCell ⟨w,1,none⟩ (.int .i64 t.i)) (w.heap.size) 25 #[t.d,t.i]):=((K22.out.set_ 0 _).set_ 1 _)
  have K3212:Hid (Blk ((C2.setCell ⟨w,0,none⟩ (.int .i64 t.d)).setCell ⟨w,1,none⟩ (.int .i64 t.i)) (w.heap.size+1) 28 #[(0:Int),(0:Int),(0:Int),(0:Int),(0:Int),.slice none 0 0]):=((K32.out.same (zz7 _ _ _ _ (by show w.heap.size+1≠w.heap.size;omega))).same (zz7 _ _ _ _ (by show w.heap.size+1≠w.heap.size;omega)))
  have hz12:(((C2.setCell ⟨w,0,none⟩ (.int .i64 t.d)).setCell ⟨w,1,none⟩ (.int .i64 t.i))).heap.size=C2.heap.size:=by simp [World.setCell]
  have hkA12:Kept F6 C2 ((C2.setCell ⟨w,0,none⟩ (.int .i64 t.d)).setCell ⟨w,1,none⟩ (.int .i64 t.i)):=fun x hx=>by rw [zz7 _ _ _ _ (by show x≠w.heap.size;have:=HF6.out x hx;omega),zz7 _ _ _ _ (by show x≠w.heap.size;have:=HF6.out x hx;omega)]
  have hkB12:Kept Fb C2 ((C2.setCell ⟨w,0,none⟩ (.int .i64 t.d)).setCell ⟨w,1,none⟩ (.int .i64 t.i)):=fun x hx=>by rw [zz7 _ _ _ _ (by show x≠w.heap.size;have:=HFB.out x hx;omega),zz7 _ _ _ _ (by show x≠w.heap.size;have:=HFB.out x hx;omega)]
  go_simp
  refine hK.out _ _ (HS.out _ hC12) (fun _=>trivial) ?_
  clear hK K
  (try simp only [zz])
  clear yy0 ff0 yy1 ff1 yylt
  obtain ⟨D2,hX⟩:∃ X,X=((C2.setCell ⟨w,0,none⟩ (.int .i64 t.d)).setCell ⟨w,1,none⟩ (.int .i64 t.i)):=⟨_,rfl⟩
  rw [←hX] at hC12 KK12 K3212 hz12 hkA12 hkB12 ⊢
  clear hX
  refine w1 9 rfl fun K hK=>?_
  obtain ⟨yy0,yy1,yy2,yy3,yy4,yy5,yylt,ff0,ff1,ff2,ff3,ff4,ff5⟩:=K3212.out.q6
  have hC13:Chg [g,w.heap.size,w.heap.size+1] wb ((((((D2.setCell ⟨w.heap.size+1,0,none⟩ (.int .i64 b.op)).setCell ⟨w.heap.size+1,1,none⟩ (.int .i64 b.ct)).setCell ⟨w.heap.size+1,2,none⟩ (.int .i64 b.n)).setCell ⟨w.heap.size+1,3,none⟩ (.int .i64 b.m)).setCell ⟨w.heap.size+1,4,none⟩ (.int .i64 b.va)).setCell ⟨w.heap.size+1,5,none⟩ (.slice qA b.ks.length qcap)):=((((((hC12.set (by simp)).set (by simp)).set (by simp)).set (by simp)).set (by simp)).set (by simp))
  have KK13:Hid (Blk ((((((D2.setCell ⟨w.heap.size+1,0,none⟩ (.int .i64 b.op)).setCell ⟨w.heap.size+1,1,none⟩ (.int .i64 b.ct)).setCell ⟨w.heap.size+1,2,none⟩ (.int .i64 b.n)).setCell ⟨w.heap.size+1,3,none⟩ (.int .i64 b.m)).setCell ⟨w.heap.size+1,4,none⟩ (.int .i64 b.va)).setCell ⟨w.heap.size+1,5,none⟩ (.slice qA b.ks.length qcap)) (w.heap.size+1) 28 #[b.op,b.ct,b.n,b.m,b.va,.slice qA b.ks.length qcap]):=((((((K3212.out.set_ 0 _).set_ 1 _).set_ 2 _).set_ 3 _).set_ 4 _).set_ 5 _)
  have KK1213:Hid (Blk ((((((D2.setCell ⟨w.heap.size+1,0,none⟩ (.int .i64 b.op)).setCell ⟨w.heap.size+1,1,none⟩ (.int .i64 b.ct)).setCell ⟨w.heap.size+1,2,none⟩ (.int .i64 b.n)).setCell ⟨w.heap.size+1,3,none⟩ (.int .i64 b.m)).setCell ⟨w.heap.size+1,4,none⟩ (.int .i64 b.va)).setCell ⟨w.heap.size+1,5,none⟩ (.slice qA b.ks.length qcap)) (w.heap.size) 25 #[t.d,t.i]):=((((((KK12.out.same (zz7 _ _ _ _ (by show w.heap.size≠w.heap.size+1;omega))).same (zz7 _ _ _ _ (by show w.heap.size≠w.heap.size+1;omega))).same (zz7 _ _ _ _ (by show w.heap.size≠w.heap.size+1;omega))).same (zz7 _ _ _ _ (by show w.heap.size≠w.heap.size+1;omega))).same (zz7 _ _ _ _ (by show w.heap.size≠w.heap.size+1;omega))).same (zz7 _ _ _ _ (by show w.heap.size≠w.heap.size+1;omega)))
  have hz13:(((((((D2.setCell ⟨w.heap.size+1,0,none⟩ (.int .i64 b.op)).setCell ⟨w.heap.size+1,1,none⟩ (.int .i64 b.ct)).setCell ⟨w.heap.size+1,2,none⟩ (.int .i64 b.n)).setCell ⟨w.heap.size+1,3,none⟩ (.int .i64 b.m)).setCell ⟨w.heap.size+1,4,none⟩ (.int .i64 b.va)).setCell ⟨w.heap.size+1,5,none⟩ (.slice qA b.ks.length qcap))).heap.size=D2.heap.size:=by simp [World.setCell]
  have hkA13:Kept F6 D2 ((((((D2.setCell ⟨w.heap.size+1,0,none⟩ (.int .i64 b.op)).setCell ⟨w.heap.size+1,1,none⟩ (.int .i64 b.ct)).setCell ⟨w.heap.size+1,2,none⟩ (.int .i64 b.n)).setCell ⟨w.heap.size+1,3,none⟩ (.int .i64 b.m)).setCell ⟨w.heap.size+1,4,none⟩ (.int .i64 b.va)).setCell ⟨w.heap.size+1,5,none⟩ (.slice qA b.ks.length qcap)):=fun x hx=>by rw [zz7 _ _ _ _ (by show x≠w.heap.size+1;have:=HF6.out x hx;omega),zz7 _ _ _ _ (by show x≠w.heap.size+1;have:=HF6.out x hx;omega),zz7 _ _ _ _ (by show x≠w.heap.size+1;have:=HF6.out x hx;omega),zz7 _ _ _ _ (by show x≠w.heap.size+1;have:=HF6.out x hx;omega),zz7 _ _ _ _ (by show x≠w.heap.size+1;have:=HF6.out x hx;omega),zz7 _ _ _ _ (by show x≠w.heap.size+1;have:=HF6.out x hx;omega)]
  have hkB13:Kept Fb D2 ((((((D2.setCell ⟨w.heap.size+1,0,none⟩ (.int .i64 b.op)).setCell ⟨w.heap.size+1,1,none⟩ (.int .i64 b.ct)).setCell ⟨w.heap.size+1,2,none⟩ (.int .i64 b.n)).setCell ⟨w.heap.size+1,3,none⟩ (.int .i64 b.m)).setCell ⟨w.heap.size+1,4,none⟩ (.int .i64 b.va)).setCell ⟨w.heap.size+1,5,none⟩ (.slice qA b.ks.length qcap)):=fun x hx=>by rw [zz7 _ _ _ _ (by show x≠w.heap.size+1;have:=HFB.out x hx;omega),zz7 _ _ _ _ (by show x≠w.heap.size+1;have:=HFB.out x hx;omega),zz7 _ _ _ _ (by show x≠w.heap.size+1;have:=HFB.out x hx;omega),zz7 _ _ _ _ (by show x≠w.heap.size+1;have:=HFB.out x hx;omega),zz7 _ _ _ _ (by show x≠w.heap.size+1;have:=HFB.out x hx;omega),zz7 _ _ _ _ (by show x≠w.heap.size+1;have:=HFB.out x hx;omega)]
  go_simp
  refine hK.out _ _ (HS.out _ hC13) (fun _=>trivial) ?_
  clear hK K
  (try simp only [zz])
  clear yy0 ff0 yy1 ff1 yy2 ff2 yy3 ff3 yy4 ff4 yy5 ff5 yylt
  obtain ⟨D3,hX⟩:∃ X,X=((((((D2.setCell ⟨w.heap.size+1,0,none⟩ (.int .i64 b.op)).setCell ⟨w.heap.size+1,1,none⟩ (.int .i64 b.ct)).setCell ⟨w.heap.size+1,2,none⟩ (.int .i64 b.n)).setCell ⟨w.heap.size+1,3,none⟩ (.int .i64 b.m)).setCell ⟨w.heap.size+1,4,none⟩ (.int .i64 b.va)).setCell ⟨w.heap.size+1,5,none⟩ (.slice qA b.ks.length qcap)):=⟨_,rfl⟩
  rw [←hX] at hC13 KK13 KK1213 hz13 hkA13 hkB13 ⊢
  clear hX
  refine wE (by kernel_rfl) ?_
  clear hS0 hT0
  have HFin:Hid (DrewWTPF w (.returned (.tuple #[v6,.agg #[t.d,t.i],.agg #[b.op,b.ct,b.n,b.m,b.va,.slice qA b.ks.length qcap]])) D3):=by
   have hz:D3.heap.size=C2.heap.size:=by rw [hz13,hz12]
   refine ⟨ys,v6,F6,t,b,[b.op,b.ct,b.n,b.m,b.va,.slice qA b.ks.length qcap],Fb,rfl,HBb.out.trans (hC13.below (by intro x hx;simp at hx;omega) HBb.out.size),ArrDt.mono (ArrDt.mono HA2.out hkA12) hkA13,?_,PR.mono _ _ _ hkB13 (PR.mono _ _ _ hkB12 HPB.out),?_,HNB.out⟩
   ·intro x hx;rw [hz];exact ⟨by have:=(HF6.out x hx).1;omega,HU2.out x hx⟩
   ·intro x hx;rw [hz];exact ⟨by have:=(HFB.out x hx).1;omega,HUB.out x hx⟩
  clear hkA12 hkA13 hkB12 hkB13 hC12 hC13 hC2 hC1 hC0
  go_wp2
  refine bodyPost_ret (zAH rfl _ _ (w.heap.size) (w.heap.size+1) 25 28 #[t.d,t.i] #[b.op,b.ct,b.n,b.m,b.va,.slice qA b.ks.length qcap] (0,0) (0,0) _ _ rfl KK1213.out Try.underlying25 rfl rfl rfl KK13.out Try.underlying28 rfl rfl) rfl ?_
  exact HFin.out
set_option maxHeartbeats 6400000 in
theorem spec_DrawSplitOr (bs:List Int) (w:World) (v:Value) (F:List Nat) (hx:Arr w (ByR w) bs v F) (hf:Under w F) :
  Calls Try.prog 6 #[v] w (DrewWTPF w):=by
 have hB1:Below w w ((w.alloc (.cells #[(0:Int),(0:Int)] 25)).alloc (.cells #[(0:Int),(0:Int),(0:Int),(0:Int),(0:Int),.slice none 0 0] 28)):=((zy2 _ _).alloc (zz8 _) _).alloc (by simp) _
 have K1:Hid (Blk ((w.alloc (.cells #[(0:Int),(0:Int)] 25)).alloc (.cells #[(0:Int),(0:Int),(0:Int),(0:Int),(0:Int),.slice none 0 0] 28)) w.heap.size 25 #[(0:Int),(0:Int)]):=(Blk.new w _ _).same (Below.heap_alloc _ _ _ (by simp))
 have J1:Hid (Blk ((w.alloc (.cells #[(0:Int),(0:Int)] 25)).alloc (.cells #[(0:Int),(0:Int),(0:Int),(0:Int),(0:Int),.slice none 0 0] 28)) (w.heap.size+1) 28 #[(0:Int),(0:Int),(0:Int),(0:Int),(0:Int),.slice none 0 0]):=zA8 w _ 28 _
 have HX:Hid (Arr ((w.alloc (.cells #[(0:Int),(0:Int)] 25)).alloc (.cells #[(0:Int),(0:Int),(0:Int),(0:Int),(0:Int),.slice none 0 0] 28)) (ByR ((w.alloc (.cells #[(0:Int),(0:Int)] 25)).alloc (.cells #[(0:Int),(0:Int),(0:Int),(0:Int),(0:Int),.slice none 0 0] 28))) bs v F):=ArrBy.mono hx (.of_below hB1 hf)
 have HU:Hid (Under (((w.alloc (.cells #[(0:Int),(0:Int)] 25)).alloc (.cells #[(0:Int),(0:Int),(0:Int),(0:Int),(0:Int),.slice none 0 0] 28))).heap.size F):=hf.mono hB1.size
 have hs1:(((w.alloc (.cells #[(0:Int),(0:Int)] 25)).alloc (.cells #[(0:Int),(0:Int),(0:Int),(0:Int),(0:Int),.slice none 0 0] 28))).heap.size=w.heap.size+2:=by simp
 clear hx hf
 go_enter Try.func6,Try.ntmps6
 go_wp2_with fail
 obtain ⟨w1,hw1⟩:∃ X,X=((w.alloc (.cells #[(0:Int),(0:Int)] 25)).alloc (.cells #[(0:Int),(0:Int),(0:Int),(0:Int),(0:Int),.slice none 0 0] 28)):=⟨_,rfl⟩
 rw [←hw1] at hB1 K1 J1 HX HU hs1 ⊢
 clear hw1
 refine (spec_DrawPatternValidF bs w1 v F HX.out HU.out).mono ?_
 rintro e w3 ⟨xs,v4,FW,t,a,csa,Fa,rfl,hb3,hx3,hfx3,hp3,hf3,hn3⟩
 obtain ⟨kva,rfl,haa⟩:=(zA4 _ _ _).1 hp3
 obtain ⟨pA,pcap,rfl,-,-⟩:=haa.form
 have K3:Hid (Blk w3 w 25 #[(0:Int),(0:Int)]):=K1.out.same (hb3.block _ (by omega))
 have J3:Hid (Blk w3 (w.heap.size+1) 28 #[(0:Int),(0:Int),(0:Int),(0:Int),(0:Int),.slice none 0 0]):=J1.out.same (hb3.block _ (by omega))
 have HP3:=jj hp3
 have HX3:=jj hx3
 have hz3:=hb3.size
 have HF3:Hid (∀ x∈Fa,w.heap.size+1<x∧x<w3.heap.size):=fun x hx=>⟨by have:=(hf3 x hx).1;omega,(hf3 x hx).2⟩
 have HG3:Hid (∀ x∈FW,w.heap.size+1<x∧x<w3.heap.size):=fun x hx=>⟨by have:=(hfx3 x hx).1;omega,(hfx3 x hx).2⟩
 have HB3:Hid (Below w w w3):=hB1.trans (hb3.mono hB1.size)
 have HN:=jj hn3
 have r0:w3.cell? ⟨w,0,none⟩=some (.int .i64 0):=(K3.out.cell 0).trans (by simp)
 have rf0:=K3.out.frozen 0
 have r1:w3.cell? ⟨w,1,none⟩=some (.int .i64 0):=(K3.out.cell 1).trans (by simp)
 have rf1:=K3.out.frozen 1
 have rlt:=K3.out.lt
 obtain ⟨s0,s1,s2,s3,s4,s5,slt,sf0,sf1,sf2,sf3,sf4,sf5⟩:=J3.out.q6
 clear hb3 hp3 hf3 haa hx3 hfx3 hn3
 go_wp2
 clear r0 rf0 r1 rf1 rlt s0 sf0 s1 sf1 s2 sf2 s3 sf3 s4 sf4 s5 sf5 slt
 have K7:Blk ((((((((w3.setCell ⟨w,0,none⟩ (.int .i64 t.d)).setCell ⟨w,1,none⟩ (.int .i64 t.i)).setCell ⟨w.heap.size+1,0,none⟩ (.int .i64 a.op)).setCell ⟨w.heap.size+1,1,none⟩ (.int .i64 a.ct)).setCell ⟨w.heap.size+1,2,none⟩ (.int .i64 a.n)).setCell ⟨w.heap.size+1,3,none⟩ (.int .i64 a.m)).setCell ⟨w.heap.size+1,4,none⟩ (.int .i64 a.va)).setCell ⟨w.heap.size+1,5,none⟩ (.slice pA a.ks.length pcap)) w.heap.size 25 #[t.d,t.i]:=(((((((((((((K3.out.set_ 0 _).set_ 1 _).same (zz7 _ _ _ _ (by show w.heap.size≠w.heap.size+1;omega)))).same (zz7 _ _ _ _ (by show w.heap.size≠w.heap.size+1;omega)))).same (zz7 _ _ _ _ (by show w.heap.size≠w.heap.size+1;omega)))).same (zz7 _ _ _ _ (by show w.heap.size≠w.heap.size+1;omega)))).same (zz7 _ _ _ _ (by show w.heap.size≠w.heap.size+1;omega)))).same (zz7 _ _ _ _ (by show w.heap.size≠w.heap.size+1;omega)))
 have J6:Blk ((w3.setCell ⟨w,0,none⟩ (.int .i64 t.d)).setCell ⟨w,1,none⟩ (.int .i64 t.i)) (w.heap.size+1) 28 #[(0:Int),(0:Int),(0:Int),(0:Int),(0:Int),.slice none 0 0]:=((J3.out.same (zz7 _ _ _ _ (by show w.heap.size+1≠w.heap.size;omega))).same (zz7 _ _ _ _ (by show w.heap.size+1≠w.heap.size;omega)))
 have J7:Blk ((((((((w3.setCell ⟨w,0,none⟩ (.int .i64 t.d)).setCell ⟨w,1,none⟩ (.int .i64 t.i)).setCell ⟨w.heap.size+1,0,none⟩ (.int .i64 a.op)).setCell ⟨w.heap.size+1,1,none⟩ (.int .i64 a.ct)).setCell ⟨w.heap.size+1,2,none⟩ (.int .i64 a.n)).setCell ⟨w.heap.size+1,3,none⟩ (.int .i64 a.m)).setCell ⟨w.heap.size+1,4,none⟩ (.int .i64 a.va)).setCell ⟨w.heap.size+1,5,none⟩ (.slice pA a.ks.length pcap)) (w.heap.size+1) 28 #[a.op,a.ct,a.n,a.m,a.va,.slice pA a.ks.length pcap]:=J6.six _ _ _ _ _ _
 refine bodyPost_ret (zAH rfl _ _ (w.heap.size) (w.heap.size+1) 25 28 #[t.d,t.i] #[a.op,a.ct,a.n,a.m,a.va,.slice pA a.ks.length pcap] (0,0) (0,0) _ _ rfl K7 Try.underlying25 rfl rfl rfl J7 Try.underlying28 rfl rfl) rfl ?_
 have hk2:∀ (G:List Nat),(∀ x∈G,w.heap.size+1<x∧x<w3.heap.size)→Kept G w3 ((((((((w3.setCell ⟨w,0,none⟩ (.int .i64 t.d)).setCell ⟨w,1,none⟩ (.int .i64 t.i)).setCell ⟨w.heap.size+1,0,none⟩ (.int .i64 a.op)).setCell ⟨w.heap.size+1,1,none⟩ (.int .i64 a.ct)).setCell ⟨w.heap.size+1,2,none⟩ (.int .i64 a.n)).setCell ⟨w.heap.size+1,3,none⟩ (.int .i64 a.m)).setCell ⟨w.heap.size+1,4,none⟩ (.int .i64 a.va)).setCell ⟨w.heap.size+1,5,none⟩ (.slice pA a.ks.length pcap)):=fun G hG x hx=>by
  have h:=(hG x hx).1
  rw [zz7 _ _ _ _ (by show x≠w.heap.size+1;omega),zz7 _ _ _ _ (by show x≠w.heap.size+1;omega),zz7 _ _ _ _ (by show x≠w.heap.size+1;omega),zz7 _ _ _ _ (by show x≠w.heap.size+1;omega),zz7 _ _ _ _ (by show x≠w.heap.size+1;omega),zz7 _ _ _ _ (by show x≠w.heap.size+1;omega),zz7 _ _ _ _ (by show x≠w.heap.size;omega),zz7 _ _ _ _ (by show x≠w.heap.size;omega)]
 have hsz:(((((((((w3.setCell ⟨w,0,none⟩ (.int .i64 t.d)).setCell ⟨w,1,none⟩ (.int .i64 t.i)).setCell ⟨w.heap.size+1,0,none⟩ (.int .i64 a.op)).setCell ⟨w.heap.size+1,1,none⟩ (.int .i64 a.ct)).setCell ⟨w.heap.size+1,2,none⟩ (.int .i64 a.n)).setCell ⟨w.heap.size+1,3,none⟩ (.int .i64 a.m)).setCell ⟨w.heap.size+1,4,none⟩ (.int .i64 a.va)).setCell ⟨w.heap.size+1,5,none⟩ (.slice pA a.ks.length pcap))).heap.size=w3.heap.size:=by simp [World.setCell]
 refine ⟨xs,v4,FW,t,a,[a.op,a.ct,a.n,a.m,a.va,.slice pA a.ks.length pcap],Fa,rfl,((((((((HB3.out.setCell (zz8 _) _).setCell (zz8 _) _).setCell (Nat.le_succ _) _).setCell (Nat.le_succ _) _).setCell (Nat.le_succ _) _).setCell (Nat.le_succ _) _).setCell (Nat.le_succ _) _).setCell (Nat.le_succ _) _),ArrDt.mono HX3.out (hk2 FW HG3.out),fun x hx=>⟨by have:=(HG3.out x hx).1;omega,by rw [hsz];exact (HG3.out x hx).2⟩,PR.mono _ _ _ (hk2 Fa HF3.out) HP3.out,fun x hx=>⟨by have:=(HF3.out x hx).1;omega,by rw [hsz];exact (HF3.out x hx).2⟩,HN.out⟩
def cutVP {α:Type} (l:List α):List α:=l.take 401
theorem cutVP_len {α:Type} (l:List α):(cutVP l).length≤401:=by unfold cutVP;rw [List.length_take];omega
theorem cutVP_short {α:Type} {l:List α} (h:l.length≤401):cutVP l=l:=List.take_of_length_le h
theorem cutVP_not {α:Type} {l:List α} (h:(cutVP l).length≤400):cutVP l=l:=by
 unfold cutVP at h ⊢
 rw [List.length_take] at h
 exact List.take_of_length_le (by omega)
theorem cutVP_snoc {α:Type} {l:List α} (h:(cutVP l).length≤400) (x:α):cutVP l ++ [x]=cutVP (l ++ [x]):=by
 have h1:=cutVP_not h
 rw [h1] at h ⊢
 rw [cutVP_short (by rw [List.length_append,List.length_singleton];omega)]
theorem cutVP_full {α:Type} {l:List α} (h:¬(cutVP l).length≤400) (m:List α):cutVP l=cutVP (l ++ m):=by
 unfold cutVP at h ⊢
 rw [List.length_take] at h
 rw [List.take_append_of_le_length (by omega)]
theorem takeP_app_left {α:Type} (n:Nat) (X Y:List α):(X.take n ++ Y).take n=(X ++ Y).take n:=by
 rw [List.take_append,List.take_append,List.take_take,Nat.min_self,List.length_take]
 rcases Nat.lt_or_ge n X.length with h | h
 ·rw [Nat.min_eq_left (by omega),show n-n=0 by omega,show n-X.length=0 by omega]
 ·rw [Nat.min_eq_right h]
theorem takeP_app_right {α:Type} (n:Nat) (X Y:List α):(X ++ Y.take n).take n=(X ++ Y).take n:=by
 rw [List.take_append,List.take_append,List.take_take,Nat.min_eq_left (by omega)]
theorem takeP_flatMap_each {α β:Type} (n:Nat) (g:α→List β):∀ A:List α,(A.flatMap fun o=>(g o).take n).take n=(A.flatMap g).take n
 |[]=>rfl
 |a :: A=>by
  rw [List.flatMap_cons,List.flatMap_cons,takeP_app_left,←takeP_app_right,takeP_flatMap_each n g A,takeP_app_right]
theorem takeP_flatMap_few {α β:Type} (g:α→List β) (hg:∀ o,g o≠[]):∀ (A:List α) (n m:Nat),n≤m→((A.take m).flatMap g).take n=(A.flatMap g).take n
 |[],n,m,_=>by simp
 |a :: A,n,m,h=>by
  cases m with
  |zero =>
   obtain rfl:n=0:=by omega
   simp
  |succ m =>
   have h1:0<(g a).length:=List.length_pos_iff.2 (hg a)
   rw [List.take_succ_cons,List.flatMap_cons,List.flatMap_cons,List.take_append,List.take_append]
   congr 1
   exact takeP_flatMap_few g hg A _ _ (by omega)
def pairKP {α:Type} (o:List α) (l:List α):List (List α):=l.map fun k=>o ++ [k]
def pairLP {α:Type} (A:List (List α)) (l:List α):List (List α):=A.flatMap fun o=>pairKP o l
def pairAllP {α:Type} (ls:List (List α)):List (List α):=ls.foldl pairLP [[]]
theorem pairP_cut {α:Type} (A:List (List α)) (l:List α):cutVP (pairLP (cutVP A) (cutVP l))=cutVP (pairLP A l):=by
 have h1:cutVP (pairLP (cutVP A) (cutVP l))=cutVP (pairLP (cutVP A) l):=by
  have:=takeP_flatMap_each 401 (fun o=>pairKP o l) (cutVP A)
  unfold cutVP pairLP
  unfold cutVP at this
  rw [←this]
  congr 2
  funext o
  unfold pairKP
  rw [List.map_take]
 rw [h1]
 by_cases hl:l=[]
 ·subst hl
  have h0:∀ A:List (List α),pairLP A []=[]:=fun A=>by unfold pairLP pairKP;simp
  rw [h0,h0]
 ·exact takeP_flatMap_few (fun o=>pairKP o l) (fun o e=>hl (by unfold pairKP at e;simpa using e)) A 401 401 (zz8 _)
theorem pairFoldP_cut {α:Type}:∀ (ls:List (List α)) (A:List (List α)),cutVP ((ls.map cutVP).foldl pairLP A)=cutVP (ls.foldl pairLP A)∧∀ B,cutVP A=cutVP B→cutVP (ls.foldl pairLP A)=cutVP (ls.foldl pairLP B)
 |[],A=>⟨rfl,fun B h=>h⟩
 |l :: ls,A=>by
  have hcong:∀ A B,cutVP A=cutVP B→cutVP (pairLP A l)=cutVP (pairLP B l):=fun A B h=>by rw [←pairP_cut A,h,pairP_cut B]
  have hc2:cutVP (pairLP A (cutVP l))=cutVP (pairLP A l):=by
   rw [←pairP_cut A (cutVP l),←pairP_cut A l]
   congr 2
   unfold cutVP
   rw [List.take_take]
   rfl
  refine ⟨?_,fun B h=>?_⟩
  ·rw [List.map_cons,List.foldl_cons,List.foldl_cons,(pairFoldP_cut ls _).1]
   exact (pairFoldP_cut ls _).2 _ hc2
  ·rw [List.foldl_cons,List.foldl_cons]
   exact (pairFoldP_cut ls _).2 _ (hcong A B h)
theorem pairAllP_cut {α:Type} (ls:List (List α)):cutVP (pairAllP (ls.map cutVP))=cutVP (pairAllP ls):=(pairFoldP_cut ls [[]]).1
def pairToP {α:Type} (ls:List (List α)) (i:Nat):List (List α):=cutVP (pairAllP (ls.take i))
theorem pairToP_zero {α:Type} (ls:List (List α)):pairToP ls 0=[[]]:=rfl
theorem pairToP_len {α:Type} (ls:List (List α)) (i:Nat):(pairToP ls i).length≤401:=cutVP_len _
theorem pairToP_all {α:Type} (ls:List (List α)) {i:Nat} (h:ls.length≤i):pairToP ls i=cutVP (pairAllP ls):=by unfold pairToP;rw [List.take_of_length_le h]
theorem pairP_cut_left {α:Type} (A:List (List α)) (l:List α):cutVP (pairLP (cutVP A) l)=cutVP (pairLP A l):=by
 rw [←pairP_cut (cutVP A) l,←pairP_cut A l]
 congr 2
 unfold cutVP
 rw [List.take_take]
 rfl
theorem pairToP_succ {α:Type} (ls:List (List α)) (i:Nat) (h:i<ls.length):pairToP ls (i+1)=cutVP (pairLP (pairToP ls i) ls[i]):=by
 unfold pairToP
 rw [pairP_cut_left,take_snoc' ls i h]
 unfold pairAllP
 rw [List.foldl_append]
 rfl
def preLP {α:Type} (A:List (List α)) (l:List α) (k:Nat):List (List α):=(A.take k).flatMap fun o=>pairKP o l
def nextLP {α:Type} (A:List (List α)) (l:List α) (k:Nat):List (List α):=cutVP (preLP A l k)
def nextRP {α:Type} (pre:List (List α)) (o:List α) (l:List α) (j:Nat):List (List α):=cutVP (pre ++ pairKP o (l.take j))
theorem preLP_succ {α:Type} (A:List (List α)) (l:List α) (k:Nat) (h:k<A.length):preLP A l (k+1)=preLP A l k ++ pairKP A[k] l:=by
 unfold preLP
 rw [take_snoc' A k h,List.flatMap_append]
 simp
theorem nextRP_zero {α:Type} (pre:List (List α)) (o l:List α):nextRP pre o l 0=cutVP pre:=by unfold nextRP pairKP;simp
theorem nextRP_len {α:Type} (pre:List (List α)) (o l:List α) (j:Nat):(nextRP pre o l j).length≤401:=cutVP_len _
theorem nextLP_len {α:Type} (A:List (List α)) (l:List α) (k:Nat):(nextLP A l k).length≤401:=cutVP_len _
theorem pairKP_succ {α:Type} (o l:List α) (j:Nat) (h:j<l.length):pairKP o (l.take (j+1))=pairKP o (l.take j) ++ [o ++ [l[j]]]:=by
 unfold pairKP
 rw [take_snoc' l j h,List.map_append]
 rfl
theorem nextRP_succ {α:Type} {pre:List (List α)} {o l:List α} {j:Nat} (h:j<l.length) (h4:(nextRP pre o l j).length≤400):nextRP pre o l (j+1)=nextRP pre o l j ++ [o ++ [l[j]]]:=by
 unfold nextRP at h4 ⊢
 rw [cutVP_snoc h4,pairKP_succ _ _ _ h,List.append_assoc]
theorem nextRP_end {α:Type} {A:List (List α)} {l:List α} {k j:Nat} (hk:k<A.length) (h:¬(j<l.length∧(nextRP (preLP A l k) A[k] l j).length≤400)):nextRP (preLP A l k) A[k] l j=nextLP A l (k+1):=by
 unfold nextLP
 rw [preLP_succ A l k hk]
 by_cases hj:j<l.length
 ·have h4:¬(nextRP (preLP A l k) A[k] l j).length≤400:=fun h4=>h ⟨hj,h4⟩
  have h5:pairKP A[k] l=pairKP A[k] (l.take j) ++ pairKP A[k] (l.drop j):=by unfold pairKP;rw [←List.map_append,List.take_append_drop]
  unfold nextRP at h4 ⊢
  rw [h5,←List.append_assoc]
  exact cutVP_full h4 _
 ·unfold nextRP
  rw [List.take_of_length_le (by omega)]
theorem nextLP_end {α:Type} {A:List (List α)} {l:List α} {k:Nat} (h:¬(k<A.length∧(nextLP A l k).length≤400)):nextLP A l k=cutVP (pairLP A l):=by
 by_cases hk:k<A.length
 ·have h4:¬(nextLP A l k).length≤400:=fun h4=>h ⟨hk,h4⟩
  have h5:pairLP A l=preLP A l k ++ (A.drop k).flatMap fun o=>pairKP o l:=by unfold pairLP preLP;rw [←List.flatMap_append,List.take_append_drop]
  unfold nextLP at h4 ⊢
  rw [h5]
  exact cutVP_full h4 _
 ·unfold nextLP preLP pairLP
  rw [List.take_of_length_le (by omega)]
theorem pairAllP_each {α:Type} (ls:List (List α)):∀ o∈pairAllP ls,o.length=ls.length:=by
 have h:∀ (ls:List (List α)) (A:List (List α)) (n:Nat),(∀ o∈A,o.length=n)→∀ o∈ls.foldl pairLP A,o.length=n+ls.length:=by
  intro ls
  induction ls with
  |nil=>intro A n h o ho;exact h o ho
  |cons l ls ih =>
   intro A n h o ho
   rw [List.foldl_cons] at ho
   have:=ih (pairLP A l) (n+1) (fun o ho=>by
    obtain ⟨o',h1,h2⟩:=List.mem_flatMap.1 ho
    obtain ⟨k,-,rfl⟩:=List.mem_map.1 h2
    rw [List.length_append,h o' h1];rfl) o ho
   rw [this,List.length_cons];omega
 intro o ho
 have:=h ls [[]] 0 (by simp) o ho
 omega
theorem pairToP_each {α:Type} (ls:List (List α)) (i:Nat) (o:List α) (h:o∈pairToP ls i):o.length≤i:=by
 have h1:=pairAllP_each (ls.take i) o (List.mem_of_mem_take h)
 rw [List.length_take] at h1
 omega
theorem pairLP_len {α:Type} (A:List (List α)) (l:List α):(pairLP A l).length=A.length*l.length:=by
 unfold pairLP
 induction A with
 |nil=>simp
 |cons a A ih=>rw [List.flatMap_cons,List.length_append,ih,List.length_cons,Nat.succ_mul];unfold pairKP;rw [List.length_map];omega
theorem pairAllP_snoc {α:Type} (ls:List (List α)) (l:List α):pairAllP (ls ++ [l])=pairLP (pairAllP ls) l:=by unfold pairAllP;rw [List.foldl_append];rfl
theorem pairAllP_step {α:Type} (ls:List (List α)) (j:Nat) (h:j<ls.length):pairAllP (ls.take (j+1))=pairLP (pairAllP (ls.take j)) ls[j]:=by rw [take_snoc' ls j h,pairAllP_snoc]
theorem pairAllP_mono {α:Type} {ls:List (List α)} (h:∀ l∈ls,0<l.length):∀ (k j:Nat),(pairAllP (ls.take j)).length≤(pairAllP (ls.take (j+k))).length:=by
 intro k
 induction k with
 |zero=>intro j;exact zz8 _
 |succ k ih =>
  intro j
  refine Nat.le_trans (ih j) ?_
  rcases Nat.lt_or_ge (j+k) ls.length with hj | hj
  ·rw [show j+(k+1)=j+k+1 from rfl,pairAllP_step ls _ hj,pairLP_len]
   exact Nat.le_mul_of_pos_right _ (h _ (List.getElem_mem hj))
  ·rw [List.take_of_length_le hj,List.take_of_length_le (show ls.length≤j+(k+1) by omega)]
   exact zz8 _
theorem pairAllP_le {α:Type} {ls:List (List α)} (h:∀ l∈ls,0<l.length) (j:Nat):(pairAllP (ls.take j)).length≤(pairAllP ls).length:=by
 have h1:=pairAllP_mono h ls.length j
 rw [List.take_of_length_le (show ls.length≤j+ls.length by omega)] at h1
 exact h1
theorem pairAllP_pos {α:Type} {ls:List (List α)} (h:∀ l∈ls,0<l.length):0<(pairAllP ls).length:=by
 have h1:=pairAllP_le h 0
 exact h1
theorem pairAllP_kid {α:Type} {ls:List (List α)} (h:∀ l∈ls,0<l.length) (j:Nat) (hj:j<ls.length):ls[j].length≤(pairAllP ls).length:=by
 have h1:=pairAllP_le h (j+1)
 rw [pairAllP_step ls j hj,pairLP_len] at h1
 have h2:=pairAllP_pos (ls:=ls.take j) (fun l hl=>h l (List.mem_of_mem_take hl))
 exact Nat.le_trans (Nat.le_mul_of_pos_left _ h2) h1
def EachIn {α:Type}:List α→List (List α)→Prop
 |[],[]=>True
 |k :: ks,l :: ls=>k∈l∧EachIn ks ls
 |_,_=>False
theorem eachIn_snoc {α:Type}:∀ (o:List α) (ls:List (List α)) (k:α) (l:List α),EachIn o ls→k∈l→EachIn (o ++ [k]) (ls ++ [l])
 |[],[],k,l,_,hk=>⟨hk,trivial⟩
 |a :: o,m :: ls,k,l,h,hk=>⟨h.1,eachIn_snoc o ls k l h.2 hk⟩
 |[],_ :: _,_,_,h,_=>h.elim
 |_ :: _,[],_,_,h,_=>h.elim
theorem mem_pairAllP {α:Type} (ls:List (List α)):∀ (j:Nat),∀ o∈pairAllP (ls.take j),EachIn o (ls.take j):=by
 intro j
 induction j with
 |zero=>intro o ho;rw [List.take_zero] at ho ⊢;unfold pairAllP at ho;rw [List.foldl_nil,zy1] at ho;subst ho;trivial
 |succ j ih =>
  intro o ho
  rcases Nat.lt_or_ge j ls.length with hj | hj
  ·rw [pairAllP_step ls j hj] at ho
   obtain ⟨o',h1,h2⟩:=List.mem_flatMap.1 ho
   obtain ⟨k,h3,rfl⟩:=List.mem_map.1 h2
   rw [take_snoc' ls j hj]
   exact eachIn_snoc _ _ _ _ (ih o' h1) h3
  ·rw [List.take_of_length_le (show ls.length≤j+1 by omega)] at ho ⊢
   rw [List.take_of_length_le hj] at ih
   exact ih o ho
def P.re (p:P) (ks:List P):P:=⟨p.op,p.ct,p.n,p.m,p.va,ks⟩
mutual
def P.spl:P→List P
 |⟨op,ct,n,m,va,ks⟩=>if op=5 then P.splo ks else (pairAllP (P.spla ks)).map (P.re ⟨op,ct,n,m,va,[]⟩)
def P.spla:List P→List (List P)
 |[]=>[]
 |k :: ks=>P.spl k :: P.spla ks
def P.splo:List P→List P
 |[]=>[]
 |k :: ks=>P.spl k ++ P.splo ks
end
theorem spla_map:∀ ks,P.spla ks=ks.map P.spl
 |[]=>rfl
 |k :: ks=>by rw [P.spla,spla_map ks,List.map_cons]
theorem splo_flat:∀ ks,P.splo ks=ks.flatMap P.spl
 |[]=>rfl
 |k :: ks=>by rw [P.splo,splo_flat ks,List.flatMap_cons]
theorem spl_or {p:P} (h:p.op=5):P.spl p=p.ks.flatMap P.spl:=by
 obtain ⟨op,ct,n,m,va,ks⟩:=p
 rw [P.spl,if_pos h,splo_flat]
theorem spl_no {p:P} (h:¬p.op=5):P.spl p=(pairAllP (p.ks.map P.spl)).map p.re:=by
 obtain ⟨op,ct,n,m,va,ks⟩:=p
 rw [P.spl,if_neg h,spla_map]
 rfl
def lenTo (p:P) (i:Nat):Nat:=if p.op=5 then ((p.ks.take i).flatMap P.spl).length else (pairAllP ((p.ks.map P.spl).take i)).length
theorem lenTo_or {p:P} (h:p.op=5):lenTo p 0=0:=by unfold lenTo;rw [if_pos h];rfl
theorem lenTo_no {p:P} (h:¬p.op=5):lenTo p 0=1:=by unfold lenTo;rw [if_neg h];rfl
theorem lenTo_add {p:P} (h:p.op=5) (i:Nat) (hi:i<p.ks.length):lenTo p (i+1)=lenTo p i+(P.spl p.ks[i]).length:=by
 unfold lenTo
 rw [if_pos h,if_pos h,take_snoc' p.ks i hi,List.flatMap_append,List.length_append]
 simp
theorem lenTo_mul {p:P} (h:¬p.op=5) (i:Nat) (hi:i<p.ks.length):lenTo p (i+1)=lenTo p i*(P.spl p.ks[i]).length:=by
 unfold lenTo
 rw [if_neg h,if_neg h,pairAllP_step _ _ (by simpa using hi),pairLP_len]
 simp
theorem lenTo_all {p:P} {i:Nat} (hi:p.ks.length≤i):lenTo p i=(P.spl p).length:=by
 unfold lenTo
 by_cases h:p.op=5
 ·rw [if_pos h,spl_or h,List.take_of_length_le hi]
 ·rw [if_neg h,spl_no h,List.length_map,List.take_of_length_le (by simpa using hi)]
def cut4 (n:Nat):Nat:=min n 401
theorem cut4_le (n:Nat):cut4 n≤401:=by unfold cut4;omega
theorem cut4_add (a b:Nat):min (cut4 a+cut4 b) 401=cut4 (a+b):=by unfold cut4;omega
theorem cut4_mul (a b:Nat):min (cut4 a*cut4 b) 401=cut4 (a*b):=by
 unfold cut4
 rcases Nat.lt_or_ge 401 a with ha | ha
 ·rcases Nat.eq_zero_or_pos b with rfl | hb
  ·simp
  ·have h1:401*1≤min a 401*min b 401:=Nat.mul_le_mul (by omega) (by omega)
   have h2:a*1≤a*b:=Nat.mul_le_mul (zz8 _) hb
   omega
 ·rcases Nat.lt_or_ge 401 b with hb | hb
  ·rcases Nat.eq_zero_or_pos a with rfl | ha
   ·simp
   ·have h1:1*401≤min a 401*min b 401:=Nat.mul_le_mul (by omega) (by omega)
    have h2:1*b≤a*b:=Nat.mul_le_mul ha (zz8 _)
    omega
  ·rw [Nat.min_eq_left ha,Nat.min_eq_left hb]
theorem cut4_big (n:Nat):(400:Int)<(cut4 n:Nat)↔¬n≤400:=by unfold cut4;omega
theorem min4_mul (a b:Nat):(if (401:Int)<(a:Int)*(b:Int) then (401:Int) else (a:Int)*(b:Int))=((min (a*b) 401:Nat):Int):=by
 rw [←Int.natCast_mul]
 split <;> omega
theorem min4_add (a b:Nat):(if (401:Int)<(a:Int)+(b:Int) then (401:Int) else (a:Int)+(b:Int))=((min (a+b) 401:Nat):Int):=by split <;> omega
theorem shape_kids {xs:List Dt} {d:Nat} {t:Ty} {p:P} (h:shapeB xs (d+1) t p=true):(typesP xs t p).length=p.ks.length∧∀ (i:Nat) (h1:i<(typesP xs t p).length) (h2:i<p.ks.length),shapeB xs d (typesP xs t p)[i] p.ks[i]=true:=by
 rw [shapeB,Bool.and_eq_true,Bool.and_eq_true,beq_iff_eq] at h
 obtain ⟨-,h1,h2⟩:=h
 refine ⟨h1.symm,fun i h3 h4=>?_⟩
 rw [List.all_eq_true] at h2
 exact h2 ((typesP xs t p)[i],p.ks[i]) (List.mem_iff_getElem.2 ⟨i,by simp;omega,by simp⟩)
theorem shape_kid {xs:List Dt} {d:Nat} {t:Ty} {p:P} (h:shapeB xs (d+1) t p=true) {k:P} (hk:k∈p.ks):∃ u,shapeB xs d u k=true:=by
 obtain ⟨i,hi,rfl⟩:=List.getElem_of_mem hk
 obtain ⟨h1,h2⟩:=shape_kids h
 exact ⟨_,h2 i (by omega) hi⟩
theorem shape_or {xs:List Dt} {d:Nat} {t:Ty} {p:P} (h:shapeB xs (d+1) t p=true) (h5:p.op=5):∃ a b,p.ks=[a,b]∧shapeB xs d t a=true∧shapeB xs d t b=true:=by
 obtain ⟨h1,h2⟩:=shape_kids h
 have h3:=zB0 (xs:=xs) (t:=t) h5
 rw [h3] at h1
 obtain ⟨a,b,hk⟩:=kids_two h1.symm
 refine ⟨a,b,hk,?_,?_⟩
 ·have:=h2 0 (by rw [h3];simp) (by rw [hk];simp)
  simpa [h3,hk] using this
 ·have:=h2 1 (by rw [h3];simp) (by rw [hk];simp)
  simpa [h3,hk] using this
theorem spl_pos (xs:List Dt):∀ (d:Nat) (t:Ty) (p:P),shapeB xs d t p=true→0<(P.spl p).length
 |0,_,_,h=>by simp [shapeB] at h
 |d+1,t,p,h=>by
  by_cases h5:p.op=5
  ·obtain ⟨a,b,hk,ha,-⟩:=shape_or h h5
   rw [spl_or h5,hk,List.flatMap_cons,List.length_append]
   have:=spl_pos xs d t a ha
   omega
  ·rw [spl_no h5,List.length_map]
   refine pairAllP_pos fun l hl=>?_
   obtain ⟨k,hk,rfl⟩:=List.mem_map.1 hl
   obtain ⟨u,hu⟩:=shape_kid h hk
   exact spl_pos xs d u k hu
structure SplOk (p:P):Prop where
 two:p.op=5→∃ a b,p.ks=[a,b]
 pos:∀ k∈p.ks,0<(P.spl k).length
theorem splOk_of {xs:List Dt} {d:Nat} {t:Ty} {p:P} (h:shapeB xs (d+1) t p=true):SplOk p:=⟨fun h5=>by obtain ⟨a,b,hk,-,-⟩:=shape_or h h5;exact ⟨a,b,hk⟩,fun k hk=>by obtain ⟨u,hu⟩:=shape_kid h hk;exact spl_pos xs d u k hu⟩
theorem cutVP_app {α:Type} (a b:List α):cutVP (cutVP a ++ cutVP b)=cutVP (a ++ b):=by unfold cutVP;rw [takeP_app_right,takeP_app_left]
theorem cutVP_map {α β:Type} (f:α→β) (a:List α):(cutVP a).map f=cutVP (a.map f):=by unfold cutVP;rw [List.map_take]
theorem cutVP_or {p:P} (h:p.op=5) {a b:P} (hk:p.ks=[a,b]):cutVP (cutVP (P.spl a) ++ cutVP (P.spl b))=cutVP (P.spl p):=by rw [cutVP_app,spl_or h,hk];simp
theorem cutVP_no {p:P} (h:¬p.op=5):(cutVP (pairAllP (p.ks.map fun k=>cutVP (P.spl k)))).map p.re=cutVP (P.spl p):=by
 rw [cutVP_map,spl_no h,←cutVP_map,←cutVP_map]
 congr 1
 rw [←pairAllP_cut (p.ks.map P.spl),List.map_map]
 rfl
theorem cutVP_big {α:Type} (l:List α):400<(cutVP l).length↔¬l.length≤400:=by unfold cutVP;rw [List.length_take];omega
theorem sizes_each:∀ (o:List P) (ks:List P),EachIn o (ks.map P.spl)→(∀ k∈ks,∀ q∈P.spl k,q.size≤k.size)→P.sizes o≤P.sizes ks
 |[],[],_,_=>zz8 _
 |q :: o,k :: ks,h,hs=>by
  have h1:=hs k (by simp) q h.1
  have h2:=sizes_each o ks h.2 (fun k' hk'=>hs k' (by simp [hk']))
  simp only [P.sizes]
  omega
 |[],_ :: _,h,_=>h.elim
 |_ :: _,[],h,_=>h.elim
theorem size_kid {p k:P} (h:k∈p.ks):k.size<p.size:=by
 obtain ⟨op,ct,n,m,va,ks⟩:=p
 obtain ⟨i,hi,rfl⟩:=List.getElem_of_mem h
 have:=P.size_lt ks i hi
 simp only at hi
 show ks[i].size<P.sizes ks
 omega
theorem spl_size:∀ (p:P),∀ q∈P.spl p,q.size≤p.size:=P.ind fun op ct n m va ks ih q hq=>by
 by_cases h5:op=5
 ·rw [spl_or h5] at hq
  obtain ⟨k,hk,hq⟩:=List.mem_flatMap.1 hq
  exact Nat.le_trans (ih k hk q hq) (Nat.le_of_lt (size_kid (p:=⟨op,ct,n,m,va,ks⟩) hk))
 ·rw [spl_no h5] at hq
  obtain ⟨o,ho,rfl⟩:=List.mem_map.1 hq
  have h1:=mem_pairAllP (ks.map P.spl) (ks.map P.spl).length
  rw [List.take_length] at h1
  show P.sizes o≤P.sizes ks
  exact sizes_each o ks (h1 o ho) ih
def splTo (p:P) (j:Nat):List P:=(pairAllP ((p.ks.map P.spl).take j)).map p.re
theorem splTo_zero (p:P):splTo p 0=[p.re []]:=rfl
theorem splTo_all {p:P} (h:¬p.op=5) {j:Nat} (hj:p.ks.length≤j):splTo p j=P.spl p:=by
 unfold splTo
 rw [List.take_of_length_le (by simpa using hj),spl_no h]
theorem splTo_each (p:P) (j:Nat):∀ q∈splTo p j,q.ks.length≤j:=fun q hq=>by
 obtain ⟨o,ho,rfl⟩:=List.mem_map.1 hq
 have h1:=pairAllP_each _ o ho
 rw [List.length_take] at h1
 show o.length≤j
 omega
def growKR (q:P) (kids:List P):List P:=kids.map fun k=>q.re (q.ks ++ [k])
def growR (list kids:List P):List P:=list.flatMap fun q=>growKR q kids
def growRTo (list kids:List P) (a:Nat):List P:=growR (list.take a) kids
theorem growKR_len (q:P) (kids:List P):(growKR q kids).length=kids.length:=List.length_map _
theorem growR_len (list kids:List P):(growR list kids).length=list.length*kids.length:=by
 unfold growR
 induction list with
 |nil=>simp
 |cons v l ih=>rw [List.flatMap_cons,List.length_append,ih,growKR_len,List.length_cons,Nat.succ_mul];omega
theorem growRTo_all (list kids:List P) {a:Nat} (h:list.length≤a):growRTo list kids a=growR list kids:=by unfold growRTo;rw [List.take_of_length_le h]
theorem growRTo_succ (list kids:List P) (a:Nat) (h:a<list.length):growRTo list kids (a+1)=growRTo list kids a ++ growKR list[a] kids:=by
 unfold growRTo growR
 rw [take_snoc' list a h,List.flatMap_append]
 simp
theorem growRTo_len (list kids:List P) (a:Nat) (h:a≤list.length):(growRTo list kids a).length=a*kids.length:=by
 unfold growRTo
 rw [growR_len,List.length_take,Nat.min_eq_left h]
def moreR (pre:List P) (q:P) (kids:List P) (s:Nat):List P:=pre ++ growKR q (kids.take s)
theorem moreR_zero (pre:List P) (q:P) (kids:List P):moreR pre q kids 0=pre:=by unfold moreR growKR;simp
theorem moreR_succ (pre:List P) (q:P) (kids:List P) (s:Nat) (h:s<kids.length):moreR pre q kids (s+1)=moreR pre q kids s ++ [q.re (q.ks ++ [kids[s]])]:=by
 unfold moreR growKR
 rw [take_snoc' kids s h,List.map_append,List.append_assoc]
 rfl
theorem moreR_len (pre:List P) (q:P) (kids:List P) (s:Nat):(moreR pre q kids s).length≤pre.length+s:=by unfold moreR;rw [List.length_append,growKR_len,List.length_take];omega
theorem moreR_all (pre:List P) (q:P) (kids:List P) {s:Nat} (h:kids.length≤s):moreR pre q kids s=pre ++ growKR q kids:=by unfold moreR;rw [List.take_of_length_le h]
theorem splTo_succ (p:P) (j:Nat) (h:j<p.ks.length):splTo p (j+1)=growR (splTo p j) (P.spl p.ks[j]):=by
 unfold splTo growR
 rw [pairAllP_step _ _ (by simpa using h),List.flatMap_map]
 unfold pairLP
 rw [List.map_flatMap]
 congr 1
 funext o
 unfold pairKP growKR
 rw [List.map_map,List.getElem_map]
 rfl
theorem splTo_len_succ (p:P) (j:Nat) (h:j<p.ks.length):(splTo p (j+1)).length=(splTo p j).length*(P.spl p.ks[j]).length:=by rw [splTo_succ p j h,growR_len]
theorem splTo_le {p:P} (h:¬p.op=5) (hp:∀ k∈p.ks,0<(P.spl k).length) (j:Nat):(splTo p j).length≤(P.spl p).length:=by
 rw [spl_no h,List.length_map]
 unfold splTo
 rw [List.length_map]
 exact pairAllP_le (fun l hl=>by obtain ⟨k,hk,rfl⟩:=List.mem_map.1 hl;exact hp k hk) j
theorem spl_kid_le {p:P} (h:¬p.op=5) (hp:∀ k∈p.ks,0<(P.spl k).length) (j:Nat) (hj:j<p.ks.length):(P.spl p.ks[j]).length≤(P.spl p).length:=by
 rw [spl_no h,List.length_map]
 have:=pairAllP_kid (ls:=p.ks.map P.spl) (fun l hl=>by obtain ⟨k,hk,rfl⟩:=List.mem_map.1 hl;exact hp k hk) j (by simpa using hj)
 simpa using this
def Shp (p:P):Prop:=∃ xs d t,shapeB xs d t p=true
theorem Shp.kid {p k:P} (h:Shp p) (hk:k∈p.ks):Shp k:=by
 obtain ⟨xs,d,t,h⟩:=h
 cases d with
 |zero=>simp [shapeB] at h
 |succ d=>obtain ⟨u,hu⟩:=shape_kid h hk;exact ⟨xs,d,u,hu⟩
theorem Shp.ok {p:P} (h:Shp p):SplOk p:=by
 obtain ⟨xs,d,t,h⟩:=h
 cases d with
 |zero=>simp [shapeB] at h
 |succ d=>exact splOk_of h
theorem Shp.or {p:P} (h:Shp p) (h5:p.op=5):∃ hl:p.ks.length=2,P.spl p=P.spl (p.ks[0]'(by omega)) ++ P.spl (p.ks[1]'(by omega)):=by
 obtain ⟨a,b,hk⟩:=h.ok.two h5
 refine ⟨by rw [hk];rfl,?_⟩
 rw [spl_or h5]
 simp [hk]
theorem Shp.or2 {p:P} (h:Shp p) (h5:p.op=5):∃ hl:p.ks.length=2,cutVP (cutVP (P.spl (p.ks[0]'(by omega))) ++ cutVP (P.spl (p.ks[1]'(by omega))))=cutVP (P.spl p):=by
 obtain ⟨a,b,hk⟩:=h.ok.two h5
 refine ⟨by rw [hk];rfl,?_⟩
 rw [←cutVP_or h5 hk]
 simp [hk]
def splitB (xs:List Dt) (t:Ty) (p:P):Bool:=patternValidB xs t p && decide ((P.spl p).length≤400)
def splitV (xs:List Dt) (t:Ty) (p:P):List P:=if splitB xs t p=true then P.spl p else []
theorem splitV_no {xs:List Dt} {t:Ty} {p:P} (h:splitB xs t p=false):splitV xs t p=[]:=by unfold splitV;rw [h];rfl
theorem splitV_yes {xs:List Dt} {t:Ty} {p:P} (h:splitB xs t p=true):splitV xs t p=P.spl p:=by unfold splitV;rw [h];rfl
def MadeSps (vs:List P) (b:Bool) (w:World) (e:Ending) (w':World):Prop:=∃ v F,e=.returned (.tuple #[v,.bool b])∧Below w w w'∧Arr w' (PR w') vs v F∧Free w' F∧Fresh w w' F
theorem valid_shp {xs:List Dt} {t:Ty} {p:P} (h:patternValidB xs t p=true):Shp p∧p.size≤59:=by
 unfold patternValidB patOkB at h
 simp only [Bool.and_eq_true,decide_eq_true_iff] at h
 exact ⟨⟨xs,10,t,h.2.1⟩,by have:=h.2.2.1;unfold nodesP at this;omega⟩
def kipTo (ks:List P) (i:Nat):List P:=ks.take i
theorem kipTo_len (ks:List P) (i:Nat):(kipTo ks i).length≤i:=by unfold kipTo;rw [List.length_take];omega
theorem kipTo_succ (ks:List P) (i:Nat) (h:i<ks.length):kipTo ks (i+1)=kipTo ks i ++ [ks[i]]:=take_snoc' ks i h
theorem kipTo_all (ks:List P) {i:Nat} (h:ks.length≤i):kipTo ks i=ks:=List.take_of_length_le h
theorem P.sizes_mem2 (l:List P) (k:Nat) (h:k<l.length):l[k].size≤P.sizes l:=by
 have:=P.size_lt l k h
 omega
def CopyP (fn:FuncId) (p:P):Prop:=∀ (w:World) (cs:List Value) (G:List Nat),PR w p cs G→Under w G→p.size≤1048576 →
 Calls Try.prog fn #[.agg cs.toArray] w (MadePt p w)
end Go.Proofs.Ytjjclcmmfeegfaa
