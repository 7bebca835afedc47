/-
  FnGuardHolds: for every argument the law returns true. Conditions: none.
-/
import Derived.Test.YtjjclcmmfeegfaaJAJ
import Derived.Deep.RegionWith
import Derived.Deep.RegionHeld3
import Derived.BigQuiet
import Derived.Test.YtjjclcmmfeegfaaRows
import Derived.ProofKit
import Derived.OpenShut
import Derived.ShutString
import Derived.ChangeOld
import Derived.Below

set_option linter.unusedVariables false
set_option linter.unusedSimpArgs false
set_option maxRecDepth 100000
set_option maxHeartbeats 1600000

namespace Go.Proofs.Ytjjclcmmfeegfaa.fnGuardHolds
open Go.RowKit
theorem one_less (va n:Int) (k:Int):guardHolds ⟨1,va,n⟩ [⟨va,⟨-1,k,[]⟩⟩]=decide (k<n):=by
 unfold guardHolds gtest
 simp
theorem one_same (va n:Int) (k:Int):guardHolds ⟨2,va,n⟩ [⟨va,⟨-1,k,[]⟩⟩]=(k==n):=by
 unfold guardHolds gtest
 simp
set_option maxHeartbeats 8000000 in
theorem walk {W:World} (x0:List Int) (v0:Value) (F0:List Nat) (hR0:Arr W (ByR W) x0 v0 F0) (hU0:Under W F0) (x1:List Int) (v1:Value) (F1:List Nat) (hR1:Arr W (ByR W) x1 v1 F1) (hU1:Under W F1) (w:World) (hw:w=W) :
  Calls Try.prog 4 #[v0,v1] w fun e w'=>e=.returned (.bool true)∧Below w w w':=by
 subst hw
 obtain ⟨A0,cap0,rfl,-,-⟩:=hR0.form
 have HR0:=jj hR0
 have HU0:=jj hU0
 clear hR0 hU0
 obtain ⟨A1,cap1,rfl,-,-⟩:=hR1.form
 have HR1:=jj hR1
 have HU1:=jj hU1
 clear hR1 hU1
 by_cases hlen:1048576<x0.length
 ·have t0:decide ((x0.length:Int)>1048576)=true:=decide_eq_true (by omega)
  go_enter Try.func4,Try.ntmps4
  go_wp2
  go_ret
  exact ⟨rfl,zy2 _ _⟩
 have t0:decide ((x0.length:Int)>1048576)=false:=decide_eq_false (by omega)
 by_cases hlen1:1048576<x1.length
 ·have t1:decide ((x1.length:Int)>1048576)=true:=decide_eq_true (by omega)
  go_enter Try.func4,Try.ntmps4
  go_wp2
  go_ret
  exact ⟨rfl,zy2 _ _⟩
 have t1:decide ((x1.length:Int)>1048576)=false:=decide_eq_false (by omega)
 go_enter Try.func4,Try.ntmps4
 go_wp2_with fail
 refine (spec_DrawGuardHolds x0 w _ F0 HR0.out HU0.out).mono ?_
 rintro e w1 ⟨gd,bs,bv,FB,rfl,hb1,hbs,hub⟩
 obtain ⟨bA,bcap,rfl,-,-⟩:=hbs.form
 have hb2:Below w1 w1 (w1.alloc (.cells #[gd.op,gd.va,gd.n] 39)):=(zy2 _ _).alloc (zz8 _) _
 have hB2:Below w w (w1.alloc (.cells #[gd.op,gd.va,gd.n] 39)):=hb1.trans (hb2.mono hb1.size)
 have KG2:Hid (Blk (w1.alloc (.cells #[gd.op,gd.va,gd.n] 39)) w1.heap.size 39 #[gd.op,gd.va,gd.n]):=Blk.new w1 _ _
 have HB2:Hid (Arr (w1.alloc (.cells #[gd.op,gd.va,gd.n] 39)) (BdR (w1.alloc (.cells #[gd.op,gd.va,gd.n] 39))) bs (.slice bA bs.length bcap) FB):=hbs.mono (.of_below hb2 hub) (fun x _ cs G hk h=>zA3 _ _ x cs G hk h)
 have UB2:Hid (Under ((w1.alloc (.cells #[gd.op,gd.va,gd.n] 39))).heap.size FB):=hub.mono hb2.size
 clear hbs hub hb1 hb2 HR0 HU0 HR1 HU1
 go_wp2_with fail
 obtain ⟨w2,hw2⟩:∃ X,X=(w1.alloc (.cells #[gd.op,gd.va,gd.n] 39)):=⟨_,rfl⟩
 rw [←hw2] at hB2 KG2 HB2 UB2 ⊢
 clear hw2
 refine (impl_GuardHolds gd bs w2 FB _ HB2.out UB2.out).mono ?_
 rintro e w3 ⟨rfl,hb3⟩
 have hB3:=hB2.trans (hb3.mono hB2.size)
 have KG3:=jj (KG2.out.same (hb3.block _ KG2.out.lt))
 have HB3:Hid (Arr w3 (BdR w3) bs (.slice bA bs.length bcap) FB):=(HB2.out.mono (.of_below hb3 UB2.out) (fun x _ cs G hk h=>zA3 _ _ x cs G hk h))
 have UB3:=jj (UB2.out.mono hb3.size)
 clear hB2 hb3 KG2 HB2 UB2
 obtain ⟨n,hn⟩:∃ k:Nat,k=x1.length % 10:=⟨_,rfl⟩
 have hn1:(x1.length:Int).tmod 10=(n:Int):=by rw [hn,Int.tmod_eq_emod_of_nonneg (by omega)];omega
 have hn2:IntKind.i64.wrap (n:Int)=(n:Int):=IntWalk.i64_in _ (by omega)
 have hn9:n≤9:=by omega
 clear hn
 have cG0:w3.cell? ⟨w1,0,none⟩=gd.op:=(KG3.out.cell 0).trans (by simp)
 have cG1:w3.cell? ⟨w1,1,none⟩=gd.va:=(KG3.out.cell 1).trans (by simp)
 have cG2:w3.cell? ⟨w1,2,none⟩=gd.n:=(KG3.out.cell 2).trans (by simp)
 have lG:=KG3.out.lt
 go_wp2_with fail
 clear cG0 cG1 cG2 lG
 have hb4:Below w3 w3 (w3.alloc (.cells #[gd.va,.int .i64 (-1),(n:Int),.slice none 0 0] 48)):=(zy2 _ _).alloc (zz8 _) _
 have KO4:Hid (Blk (w3.alloc (.cells #[gd.va,.int .i64 (-1),(n:Int),.slice none 0 0] 48)) w3.heap.size 48 #[gd.va,.int .i64 (-1),(n:Int),.slice none 0 0]):=Blk.new w3 _ _
 have hB4:=hB3.trans (hb4.mono hB3.size)
 have KG4:=jj (KG3.out.same (hb4.block _ KG3.out.lt))
 have HB4:=jj (HB3.out.mono (.of_below hb4 UB3.out) (fun x _ cs G hk h=>zA3 _ _ x cs G hk h))
 have UB4:=jj (UB3.out.mono hb4.size)
 clear hB3 KG3 HB3 UB3 hb4
 obtain ⟨w4,hw4⟩:∃ X,X=(w3.alloc (.cells #[gd.va,.int .i64 (-1),(n:Int),.slice none 0 0] 48)):=⟨_,rfl⟩
 rw [←hw4] at hB4 KG4 HB4 UB4 KO4 ⊢
 clear hw4
 obtain ⟨ko,hko⟩:∃ X,X=w3.heap.size:=⟨_,rfl⟩
 rw [←hko] at KO4 ⊢
 clear hko
 refine (impl_GuardHolds ⟨1,gd.va,gd.n⟩ [⟨gd.va,⟨-1,(n:Int),[]⟩⟩] w4 [ko] _ (arr_bd1 KO4.out) (fun b hb=>by rw [List.mem_singleton.1 hb];exact KO4.out.lt)).mono ?_
 rintro e w5 ⟨rfl,hb5⟩
 have hB5:=hB4.trans (hb5.mono hB4.size)
 have KG5:=jj (KG4.out.same (hb5.block _ KG4.out.lt))
 have KO5:=jj (KO4.out.same (hb5.block _ KO4.out.lt))
 have HB5:Hid (Arr w5 (BdR w5) bs (.slice bA bs.length bcap) FB):=(HB4.out.mono (.of_below hb5 UB4.out) (fun x _ cs G hk h=>zA3 _ _ x cs G hk h))
 have UB5:=jj (UB4.out.mono hb5.size)
 clear hB4 hb5 KG4 KO4 HB4 UB4
 have cG0:w5.cell? ⟨w1,0,none⟩=gd.op:=(KG5.out.cell 0).trans (by simp)
 have cG1:w5.cell? ⟨w1,1,none⟩=gd.va:=(KG5.out.cell 1).trans (by simp)
 have cG2:w5.cell? ⟨w1,2,none⟩=gd.n:=(KG5.out.cell 2).trans (by simp)
 have lG:=KG5.out.lt
 go_wp2_with fail
 clear cG0 cG1 cG2 lG
 refine (impl_GuardHolds ⟨2,gd.va,gd.n⟩ [⟨gd.va,⟨-1,(n:Int),[]⟩⟩] w5 [ko] _ (arr_bd1 KO5.out) (fun b hb=>by rw [List.mem_singleton.1 hb];exact KO5.out.lt)).mono ?_
 rintro e w6 ⟨rfl,hb6⟩
 have hB6:=hB5.trans (hb6.mono hB5.size)
 have KG6:=jj (KG5.out.same (hb6.block _ KG5.out.lt))
 have KO6:=jj (KO5.out.same (hb6.block _ KO5.out.lt))
 have HB6:Hid (Arr w6 (BdR w6) bs (.slice bA bs.length bcap) FB):=(HB5.out.mono (.of_below hb6 UB5.out) (fun x _ cs G hk h=>zA3 _ _ x cs G hk h))
 have UB6:=jj (UB5.out.mono hb6.size)
 clear hB5 hb6 KG5 KO5 HB5 UB5
 have cG0:w6.cell? ⟨w1,0,none⟩=gd.op:=(KG6.out.cell 0).trans (by simp)
 have cG1:w6.cell? ⟨w1,1,none⟩=gd.va:=(KG6.out.cell 1).trans (by simp)
 have cG2:w6.cell? ⟨w1,2,none⟩=gd.n:=(KG6.out.cell 2).trans (by simp)
 have lG:=KG6.out.lt
 go_wp2_with fail
 clear cG0 cG1 cG2 lG
 refine (spec_GuardHolds gd bs w6 FB _ HB6.out UB6.out).mono ?_
 rintro e w7 ⟨rfl,hb7⟩
 have hB7:=hB6.trans (hb7.mono hB6.size)
 have KG7:=jj (KG6.out.same (hb7.block _ KG6.out.lt))
 have KO7:=jj (KO6.out.same (hb7.block _ KO6.out.lt))
 have HB7:Hid (Arr w7 (BdR w7) bs (.slice bA bs.length bcap) FB):=(HB6.out.mono (.of_below hb7 UB6.out) (fun x _ cs G hk h=>zA3 _ _ x cs G hk h))
 have UB7:=jj (UB6.out.mono hb7.size)
 clear hB6 hb7 KG6 KO6 HB6 UB6
 rw [one_less,one_same]
 have hgg:(guardHolds gd bs==guardHolds gd bs)=true:=beq_self_eq_true _
 have hll:(decide ((n:Int)<gd.n)==decide ((n:Int)<gd.n))=true:=beq_self_eq_true _
 have hee:(((n:Int)==gd.n)==((n:Int)==gd.n))=true:=beq_self_eq_true _
 obtain ⟨q1,hq1⟩:∃ q,q=guardHolds gd bs:=⟨_,rfl⟩
 rw [←hq1] at hgg ⊢
 clear hq1
 have cG0:w7.cell? ⟨w1,0,none⟩=gd.op:=(KG7.out.cell 0).trans (by simp)
 have cG1:w7.cell? ⟨w1,1,none⟩=gd.va:=(KG7.out.cell 1).trans (by simp)
 have cG2:w7.cell? ⟨w1,2,none⟩=gd.n:=(KG7.out.cell 2).trans (by simp)
 have lG:=KG7.out.lt
 go_wp2_with fail
 clear cG0 cG1 cG2 lG
 refine (impl_GuardHolds ⟨0,0,0⟩ bs w7 FB _ HB7.out UB7.out).mono ?_
 rintro e w8 ⟨rfl,hb8⟩
 have hB8:=hB7.trans (hb8.mono hB7.size)
 have KG8:=jj (KG7.out.same (hb8.block _ KG7.out.lt))
 have KO8:=jj (KO7.out.same (hb8.block _ KO7.out.lt))
 have HB8:Hid (Arr w8 (BdR w8) bs (.slice bA bs.length bcap) FB):=(HB7.out.mono (.of_below hb8 UB7.out) (fun x _ cs G hk h=>zA3 _ _ x cs G hk h))
 have UB8:=jj (UB7.out.mono hb8.size)
 clear hB7 hb8 KG7 KO7 HB7 UB7
 rw [guardHolds_none rfl]
 go_wp2
 go_ret
 exact ⟨rfl,hB8⟩
end Go.Proofs.Ytjjclcmmfeegfaa.fnGuardHolds
namespace Go.Proofs.Ytjjclcmmfeegfaa.fnGuardHolds
open Go.ChangeShapes Go.WideShapes Go.ChangeAt Go.RowKit
open Go.ChangeMaps (open_string shut_string)
set_option linter.unusedVariables false

theorem own : ownKnob Try.prog.godebug = none := by kernel_rfl
theorem laidOut : laidOutB Try.prog = true := by kernel_rfl

set_option maxRecDepth 100000 in
theorem lifted (os : Os) (started : os.Started) (H : Type) (enc : TypeId × Value → H) :
    ReturnsInHanded {} Try.checked os 4 .any (Rows.fnGuardHoldsSpec.pre6 enc Try.prog Try.f4 Rows.fnGuardHoldsRow.domain false) (Rows.fnGuardHoldsSpec.post enc Try.prog Try.f4 false true false false) := by
  refine returnsInHanded_of_change (C := Try.checked) own started (by kernel_rfl) Try.func4
    (ChangeSpec.witness6 (enc := enc) (C := Try.checked) false ⟨#[], #[.slice none 0 0, .slice none 0 0], []⟩ 8 (by kernel_rfl) (by kernel_rfl) (by kernel_rfl) (by kernel_rfl)) ?_
  intro W base args ds gs before hval0 hW hcnd _
  have hval : ∀ (j : Nat) t v, Try.f4.params[j]? = some t → args[j]? = some v → Value.okWide Try.prog W .any base t v := hval0
  have hW' := hW
  obtain ⟨p, q, hA0, hV, rfl, hfz, hnd⟩ := hW
  have hA : DataW.TrodAll enc Try.prog W 0 (fun _ => true) true Try.f4.params.toList args.toList ds p := hA0
  rw [Try.params4] at hA hval
  obtain ⟨v0, vs0, d0, ds0, p0, q0, hargs, rfl, rfl, h0, r0⟩ := trodAll_cons hA
  obtain ⟨v1, vs1, d1, ds1, p1, q1, rfl, rfl, rfl, h1, r1⟩ := trodAll_cons r0
  obtain ⟨rfl, rfl, rfl⟩ := trodAll_nil r1
  obtain rfl : args = #[v0, v1] := by cases args; simp_all
  obtain ⟨rfl, rfl⟩ := trodVars_none hV
  have k0 := h0
  have lt0 : ∀ x ∈ p0, x.block < W.heap.size := by obtain ⟨m, hm⟩ := k0; exact DataW.trod_lt m _ _ _ hm
  have k1 := h1
  have lt1 : ∀ x ∈ p1, x.block < W.heap.size := by obtain ⟨m, hm⟩ := k1; exact DataW.trod_lt m _ _ _ hm
  obtain ⟨x0, F0, hR0, hU0⟩ := open_Bytes (hval 0 22 v0 rfl rfl) h0
  obtain ⟨x1, F1, hR1, hU1⟩ := open_Bytes (hval 1 22 v1 rfl rfl) h1
  clear hA0 hval0
  refine (walk x0 v0 F0 hR0 hU0 x1 v1 F1 hR1 hU1 W rfl).mono fun e W' ⟨he, bel⟩ => ?_
  subst he
  exact ⟨_, rfl, _, _, _, [], _, [], hW', trodAll_mk1 (shut_bool Try.underlying4 _), (trodAll_cons_mk (Below.trod laidOut (by kernel_rfl) (of_decide_eq_true (by kernel_rfl)) k0 bel lt0) (trodAll_cons_mk (Below.trod laidOut (by kernel_rfl) (of_decide_eq_true (by kernel_rfl)) k1 bel lt1) trodAll_mk0)), rfl, bel.frame _, fun h => by cases h⟩

set_option maxHeartbeats 4000000 in
theorem closed : joinedFacts Try.pinned.checked.prog 4 Try.f4 Rows.fnGuardHoldsSpec Rows.fnGuardHoldsRow = true := by
  unfold joinedFacts
  have key : ∀ a b : Bool, a = true → b = true → (a && b) = true := fun a b h1 h2 => by rw [h1, h2]; rfl
  repeat' (with_reducible refine key _ _ ?_ ?_)
  all_goals as_aux_lemma => kernel_rfl

theorem over : Rows.fnGuardHoldsRow.holds Try.pinned (OpenSpec.ofChange Rows.fnGuardHoldsSpec) :=
  OpenClaim.holds_of_wide 4 Try.f4 rfl rfl rfl rfl rfl rfl rfl ⟨rfl, rfl, rfl, rfl, rfl⟩ rfl rfl rfl rfl rfl (by kernel_rfl) Try.func4 closed
    (of_decide_eq_true (by kernel_rfl)) (by unfold Func.isWrapper; first | (rw [if_pos (by decide +kernel)]; kernel_rfl) | (rw [if_neg (by decide +kernel)]; exact ⟨rfl, rfl⟩))
    (fun os started H enc _ => lifted os started H enc)

theorem proved : Rows.FnGuardHoldsSaid := over
end Go.Proofs.Ytjjclcmmfeegfaa.fnGuardHolds
