/-
  Lemmas, and contracts of functions. Conditions: none.
-/
import Derived.Test.YtjjclcmmfeegfaaJAA
import Derived.Deep.RegionWith
import Derived.Deep.RegionHeld3
import Derived.Laws.OwnMore
import Derived.Deep.QuietTactic
import Derived.BigQuiet
import Derived.IntWalk
import Derived.Test.YtjjclcmmfeegfaaChecked
import Derived.Laws.BitsAllLaws

set_option linter.unusedVariables false
set_option linter.unusedSimpArgs false
set_option maxRecDepth 100000
set_option maxHeartbeats 1600000

namespace Go.Proofs.Ytjjclcmmfeegfaa
open Go.RowKit
def isLeast (xs:List Dt) (t:Ty) (k:Int):Bool:=mostIn xs (tableL xs) t k==depthIn (tableL xs) t
def leastV (xs:List Dt):Nat→Ty→V
 |0,_=>⟨0,0,[]⟩
 |n+1,t=>if t.d = -1 then ⟨-1,0,[]⟩ else match (ctorsL xs t).find? (isLeast xs t) with
  |none=>⟨0,0,[]⟩
  |some k=>⟨k,0,(argsOf xs t k).map (leastV xs n)⟩
theorem find_step {p:Int→Bool} {l:List Int} {i:Nat} (h:i<l.length):(l.drop i).find? p=if p l[i]=true then some l[i] else (l.drop (i+1)).find? p:=by
 rw [List.drop_eq_getElem_cons h,List.find?_cons]
 cases p l[i] <;> simp
theorem find_end {p:Int→Bool} {l:List Int} {i:Nat} (h:l.length≤i):(l.drop i).find? p=none:=by
 rw [List.drop_of_length_le h];rfl
theorem argsOf_len3 {xs:List Dt} (hw:WorldOK xs) {t:Ty} (ht:TyIn xs.length t) {k:Int} (hk:k∈ctorsL xs t):(argsOf xs t k).length≤3:=by
 rcases ht with h | ⟨d,i,rfl,h1,h2⟩
 ·rw [ctorsL_int h] at hk;cases hk
 ·obtain ⟨d',m,e1,rfl,hd,hm⟩:=mem_ctorsL (.inr ⟨d,rfl,h1⟩) hk
  obtain rfl:d=d':=Int.ofNat.inj e1
  rw [argsOf_get hd hm,argsL_len]
  exact (hw.ctor hd hm).args
def leastTo (xs:List Dt) (n:Nat) (as':List Ty) (i:Nat):List V:=(as'.take i).map (leastV xs n)
def leastFine (xs:List Dt) (t:Ty):Bool:=typeValidB xs t && (withinB (depthIn (tableL xs) t) 1 10 && valueOkB xs t (leastV xs 10 t))
def leastR (xs:List Dt) (t:Ty):V:=if leastFine xs t=true then leastV xs 10 t else ⟨0,0,[]⟩
structure Small (n:Nat) (tab:List Int):Prop where
 len:tab.length=n*4
 pos:∀ s,0≤tab.getD s 0
 max:∀ s,tab.getD s 0≤100000
theorem Small.dep {n:Nat} {tab:List Int} (h:Small n tab) (t:Ty):0≤depthIn tab t∧depthIn tab t≤100000:=by
 unfold depthIn
 split
 ·omega
 ·exact ⟨h.pos _,h.max _⟩
theorem depthIn_int {tab:List Int} {t:Ty} (h:t.d = -1):depthIn tab t=1:=if_pos h
theorem depthIn_data {tab:List Int} {d i:Nat} (h:d*4+i<tab.length):depthIn tab ⟨(d:Int),(i:Int)⟩=tab[d*4+i]:=by
 unfold depthIn
 rw [if_neg (by show ¬((d:Int) = -1);omega),slotOf_mk]
 simp [List.getD,List.getElem?_eq_getElem h]
theorem mostGo_step {tab:List Int} {ls:List Ty} {m:Int} {i:Nat} (h:i<ls.length):mostGo tab m (ls.drop i)=if depthIn tab ls[i]=0 then 0 else mostGo tab (max m (depthIn tab ls[i])) (ls.drop (i+1)):=by
 rw [List.drop_eq_getElem_cons h,mostGo]
theorem spec_l1Slot (d i:Nat) (hd:d<4) (hi:i<4) (w:World):Calls Try.prog 88 #[.agg #[(d:Int),(i:Int)]] w fun e w'=>e=.returned (.int .i64 ((d*4+i:Nat):Int))∧Below w w w':=by
 have g1:(0:Int)≤(d:Int):=by omega
 have g2:(d:Int)≤3:=by omega
 have g3:(0:Int)≤(i:Int):=by omega
 have g4:(i:Int)≤3:=by omega
 go_enter Try.func88,Try.ntmps88
 go_wp2
 go_ret
 exact ⟨zAP (by omega),(zy2 _ _).alloc (zz8 _) _⟩
theorem spec_l1Depth (n:Nat) (hn:n≤4) (tab:List Int) (htab:Small n tab) (t:Ty) (ht:TyIn n t) (w:World) (v:Value) (F:List Nat) (hx:Arr w (NatR w) tab v F) (hf:Under w F) :
  Calls Try.prog 66 #[v,.agg #[t.d,t.i]] w fun e w'=>e=.returned (.int .i64 (depthIn tab t))∧Below w w w':=by
 obtain ⟨A,cap,rfl,hc1,hc2⟩:=hx.form
 have HX:=jj hx
 have HF:=jj hf
 clear hx hf
 rcases ht with ht | ⟨d,i,rfl,hd,hi⟩
 ·have hf:=jj (depthIn_int (tab:=tab) ht)
  have t0:(t.d == -1)=true:=by simp [ht]
  clear ht
  go_enter Try.func66,Try.ntmps66
  go_wp2
  go_ret
  exact ⟨zAP hf.out.symm,(zy2 _ _).alloc (zz8 _) _⟩
 ·have hsl:d*4+i<tab.length:=by rw [htab.len];omega
  have hf:=jj (depthIn_data hsl)
  have t0:((d:Int) == -1)=false:=by rw [beq_eq_false_iff_ne];omega
  go_enter Try.func66,Try.ntmps66
  go_wp2_with fail
  refine (spec_l1Slot d i (by omega) hi _).mono ?_
  rintro e w' ⟨rfl,hB'⟩
  have hB0:Below w w (w.alloc (.cells #[(d:Int),(i:Int)] 25)):=(zy2 _ _).alloc (zz8 _) _
  have hB:=hB0.trans (hB'.mono hB0.size)
  obtain ⟨b,off,rfl⟩:=HX.out.ptr (by omega)
  obtain ⟨hb,c0⟩:=ArrNat.at HX.out HF.out hB (d*4+i) hsl
  have g5:(0:Int)≤((d*4+i:Nat):Int):=by omega
  have g6:((d*4+i:Nat):Int)<(tab.length:Int):=by omega
  generalize hq:d*4+i=q at *
  clear hq hB'
  go_wp2
  go_ret
  exact ⟨zAP hf.out.symm,hB⟩
theorem spec_l1Most (xs:List Dt) (hw:WorldOK xs) (tab:List Int) (htab:Small xs.length tab) (d i k:Nat) (hd:d<xs.length) (hi:i<4) (hk:k<xs[d].ctors.length) (w:World) (v u:Value) (F G:List Nat) (hx:Arr w (DtR w) xs v F) (hf:Under w F) (hy:Arr w (NatR w) tab u G) (hg:Under w G) :
  Calls Try.prog 87 #[v,u,.agg #[(d:Int),(i:Int)],(k:Int)] w fun e w'=>e=.returned (.int .i64 (mostIn xs tab ⟨(d:Int),(i:Int)⟩ (k:Int)))∧Below w w w':=by
 have hmi:mostIn xs tab ⟨(d:Int),(i:Int)⟩ (k:Int)=mostGo tab 0 (argsL xs[d].ctors[k] (i:Int)):=by unfold mostIn;rw [argsOf_get hd hk]
 rw [hmi]
 clear hmi
 have hin:∀ a∈argsL xs[d].ctors[k] (i:Int),TyIn xs.length a:=fun a ha=>argTy_in (hw.ctor hd hk) (by omega) (by omega) ha
 have hlen:(argsL xs[d].ctors[k] (i:Int)).length≤3:=by rw [argsL_len];exact (hw.ctor hd hk).args
 have HL:=jj (hw.ctor hd hk).args
 have hn4:=hw.len
 obtain ⟨A,cap,rfl,hc1,hc2⟩:=hx.form
 obtain ⟨A',cap',rfl,hc3,hc4⟩:=hy.form
 have HIN:=jj hin
 have HX:=jj hx
 have HF:=jj hf
 have HY:=jj hy
 have HG:=jj hg
 clear hx hf hy hg
 have HT:=jj htab
 clear hin htab hw
 go_enter Try.func87,Try.ntmps87
 go_wp2_with fail
 have hB0:Below w w (w.alloc (.cells #[(d:Int),(i:Int)] 25)):=(zy2 _ _).alloc (zz8 _) _
 refine (spec_l1Args xs d k (i:Int) hd hk _ _ F (ArrDt.below HX.out hB0 HF.out) (HF.out.mono hB0.size) HL.out).mono ?_
 rintro e w3 ⟨v3,F3,rfl,hb3,ha3,-,hfs3⟩
 have hB3:=hB0.trans (hb3.mono hB0.size)
 generalize hass:argsL xs[d].ctors[k] (i:Int)=ls at *
 have HASS:=jj hass
 clear hass
 obtain ⟨A3,cap3,rfl,hd1,hd2⟩:=ha3.form
 have HA:=jj ha3
 have HUA:=jj hfs3.under
 clear ha3 hfs3 hb3 hB0
 go_wp2
 go_loopw [10,11] (fun mv jv wr=>∃ j:Nat,∃ m:Int,j≤ls.length∧jv=.int .i64 j∧mv=.int .i64 m∧0≤m∧m≤100000∧Hid (mostGo tab 0 ls=mostGo tab m (ls.drop j))∧Below w w wr∧Hid (Below w3 w3 wr)) (fun _ jv _=>ls.length-(intOf jv).toNat)
 case atStart=>exact ⟨0,0,Nat.zero_le _,rfl,rfl,by omega,by omega,(show mostGo tab 0 ls=mostGo tab 0 ls from rfl),hB3,zy2 _ _⟩
 case round =>
  obtain ⟨j,m,hj,rfl,rfl,hm0,hm1,HM,hB,HB3⟩:=hrel
  by_cases hjl:j<ls.length
  ·obtain ⟨b3,off3,rfl⟩:=HA.out.ptr (by omega)
   obtain ⟨hb4,a0,a1⟩:=ArrTy.at HA.out HUA.out HB3.out j hjl
   have g5:(0:Int)≤(j:Int):=by omega
   have g6:(j:Int)<(ls.length:Int):=by omega
   have hstep:=HM.out.trans (mostGo_step hjl)
   have HST:=jj hstep
   clear hstep
   go_wp2_with fail
   refine (spec_l1Depth xs.length hn4 tab HT.out ls[j] (HIN.out _ (List.getElem_mem hjl)) wr _ G (ArrNat.below HY.out hB HG.out) (HG.out.mono hB.size)).mono ?_
   rintro e w5 ⟨rfl,hb5⟩
   have hB5:=hB.trans (hb5.mono hB.size)
   have HB5:=jj (HB3.out.trans (hb5.mono HB3.out.size))
   have hdp:=HT.out.dep ls[j]
   generalize hdd:depthIn tab ls[j]=q at *
   by_cases hq:q=0
   ·have t0:(q==0)=true:=by simp [hq]
    have hf:Hid (mostGo tab 0 ls=0):=by have h:=HST.out;rw [if_pos hq] at h;exact h
    clear hdd hq
    go_wp2
    go_ret
    exact ⟨zAP (by rw [HASS.out];exact hf.out.symm),hB5⟩
   ·have t0:(q==0)=false:=by simpa using hq
    have h2:mostGo tab 0 ls=mostGo tab (max m q) (ls.drop (j+1)):=by have h:=HST.out;rw [if_neg hq] at h;exact h
    clear hdd hq
    by_cases hgt:m<q
    ·have t1:decide (q>m)=true:=by simpa using hgt
     rw [show max m q=q by omega] at h2
     have HM2:=jj h2
     clear h2 hgt
     go_wp2
     go_roundw
     case rel=>exact ⟨j+1,q,by omega,by go_num,rfl,by omega,by omega,HM2,hB5,HB5⟩
     case measure=>(simp [intOf] <;> omega)
    ·have t1:decide (q>m)=false:=by simp;omega
     rw [show max m q=m by omega] at h2
     have HM2:=jj h2
     clear h2 hgt
     go_wp2
     go_roundw
     case rel=>exact ⟨j+1,m,by omega,by go_num,rfl,by omega,by omega,HM2,hB5,HB5⟩
     case measure=>(simp [intOf] <;> omega)
  ·have hf:Hid (mostGo tab 0 ls=m+1):=by
    have h:=HM.out
    rw [List.drop_of_length_le (by omega)] at h
    exact h
   go_wp2
   go_ret
   exact ⟨zAP (by rw [HASS.out];exact hf.out.symm),hB⟩
def cellsOf (l:List Int):Array Value:=(l.map (Value.int .i64)).toArray
theorem cellsOf_get {l:List Int} {s:Nat} (h:s<l.length):(cellsOf l)[s]?=some (.int .i64 l[s]):=by
 unfold cellsOf
 simp [List.getElem?_map,List.getElem?_eq_getElem h]
theorem cellsOf_set (l:List Int) (s:Nat) (n:Int):(cellsOf l).setIfInBounds s (.int .i64 n)=cellsOf (l.set s n):=by
 unfold cellsOf
 rw [zz4,List.map_set]
theorem Kept.refl (F:List Nat) (w:World):Kept F w w:=fun _ _=>rfl
theorem Kept.set {F:List Nat} {w w':World} {b j:Nat} {u:Value} (h:Kept F w w') (hb:b∉F):Kept F w (w'.setCell ⟨b,j,none⟩ u):=fun c hc =>
 (zz7 _ _ _ _ (fun e=>hb (by rw [←show c=b from e];exact hc))).trans (h c hc)
structure Chg (F:List Nat) (w w':World):Prop where
 os:w'.os=w.os
 tape:w'.tape=w.tape
 output:w'.output=w.output
 size:w.heap.size≤w'.heap.size
 block:∀ b,b<w.heap.size→b∉F→w'.heap[b]?=w.heap[b]?
theorem Chg.refl (F:List Nat) (w:World):Chg F w w:=⟨rfl,rfl,rfl,zz8 _,fun _ _ _=>rfl⟩
theorem Chg.trans {F:List Nat} {a b c:World} (h:Chg F a b) (k:Chg F b c):Chg F a c :=
 ⟨k.os.trans h.os,k.tape.trans h.tape,k.output.trans h.output,Nat.le_trans h.size k.size,fun i hi hF=>(k.block i (zz9 hi h.size) hF).trans (h.block i hi hF)⟩
theorem Chg.mono {F G:List Nat} {w w':World} (h:Chg F w w') (hs:∀ b∈F,b∈G):Chg G w w':=⟨h.os,h.tape,h.output,h.size,fun b hb hG=>h.block b hb fun hf=>hG (hs b hf)⟩
theorem Chg.of_below {F:List Nat} {w w':World} (h:Below w w w'):Chg F w w':=⟨h.os,h.tape,h.output,h.size,fun b hb _=>h.block b hb⟩
theorem Chg.kept {F G:List Nat} {w w':World} (h:Chg F w w') (hG:Under w G) (hd:∀ b∈G,b∉F):Kept G w w':=fun b hb=>h.block b (hG b hb) (hd b hb)
theorem Chg.below {F:List Nat} {w w':World} {B:Nat} (h:Chg F w w') (hF:∀ b∈F,B≤b) (hB:B≤w.heap.size):Below B w w' :=
 ⟨h.os,h.tape,h.output,h.size,fun b hb=>h.block b (zz9 hb hB) fun hf=>Nat.lt_irrefl _ (zz9 hb (hF b hf))⟩
theorem Chg.set {F:List Nat} {w w':World} {b j:Nat} {u:Value} (h:Chg F w w') (hb:b∈F):Chg F w (w'.setCell ⟨b,j,none⟩ u) :=
 ⟨h.os,h.tape,h.output,Nat.le_trans h.size (by simp [World.setCell]),fun c hc hF=>(zz7 _ _ _ _ (fun e=>hF (by rw [show c=b from e];exact hb))).trans (h.block c hc hF)⟩
theorem Chg.step {F:List Nat} {w w' w'':World} (h:Chg F w w') (hb:Below w'.heap.size w' w''):Chg F w w'':=h.trans (.of_below hb)
theorem Chg.drew {F:List Nat} {w w':World} (h:Chg F w w'):Chg F w w'.drew:=⟨h.os,h.tape,h.output,h.size,h.block⟩
theorem Chg.drewN {F:List Nat} {w w':World} (h:Chg F w w') (n:Nat):Chg F w (w'.drewN n):=⟨h.os,h.tape,h.output,h.size,h.block⟩
theorem Chg.cell {F:List Nat} {w w':World} (h:Chg F w w') {p:Addr} (hp:p.block<w.heap.size) (hn:p.block∉F):w'.cell? p=w.cell? p:=World.cell?_of_block (w:=w) (h.block p.block hp hn)
theorem Chg.undrew {F:List Nat} {w w':World} (h:Chg F w.drew w'):Chg F w w':=⟨h.os,h.tape,h.output,h.size,h.block⟩
structure Upd (b lo n:Nat) (F:List Nat) (w w':World):Prop extends Chg (b :: F) w w' where
 cells:∀ j,j<lo∨lo+n≤j→w'.cell? ⟨b,j,none⟩=w.cell? ⟨b,j,none⟩
 froz:∀ j,w'.frozen? ⟨b,j,none⟩=w.frozen? ⟨b,j,none⟩
section
variable {α : Type} {R : World → α → List Value → List Nat → Prop} {k : Nat}
end
/-! ### What marking makes of a list -/
def mkS {α:Type} (mk:Int→α→α) (cnt:α→Nat):Int→List α→List α
 |_,[]=>[]
 |k,x :: xs=>mk k x :: mkS mk cnt (k+cnt x) xs
section
variable {α : Type} {mk : Int → α → α} {cnt : α → Nat}
def mkTo (mk:Int→α→α) (cnt:α→Nat) (k:Int) (xs:List α) (i:Nat):List α:=mkS mk cnt k (xs.take i) ++ xs.drop i
end
def St (xs:List Dt) (n s i:Nat):List Int:=slotGo xs s (sweepTo xs (sweeps xs n) s) ((ctorsL xs (tyAt s)).take i)
theorem St_step {xs:List Dt} {n s i:Nat} (h:i<(ctorsL xs (tyAt s)).length):St xs n s (i+1)=putIf (St xs n s i) s (mostIn xs (St xs n s i) (tyAt s) (ctorsL xs (tyAt s))[i]):=by
 unfold St;rw [take_snoc' _ i h,slotGo_snoc]
theorem St_all {xs:List Dt} {n s i:Nat} (h:(ctorsL xs (tyAt s)).length≤i):St xs n s i=sweepTo xs (sweeps xs n) (s+1):=by
 unfold St;rw [List.take_of_length_le h,zAN]
theorem St_sound {xs:List Dt} (hw:WorldOK xs) {n s i:Nat} (hs:s<xs.length*4):Sound xs (St xs n s i) :=
 Sound.slot hw hs (fun k hk=>List.mem_of_mem_take hk) ((sound_sweeps hw n).to hw (by omega))
def MaxB (tab:List Int) (B:Int):Prop:=∀ s,tab.getD s 0≤B
theorem mostGo_max {tab:List Int} {B:Int} (h:MaxB tab B) (hB:1≤B):∀ {ls:List Ty} {m:Int},m≤B→mostGo tab m ls≤B+1
 |[],m,hm=>by simp only [mostGo];omega
 |a :: ls,m,hm=>by
  simp only [mostGo]
  split
  ·omega
  ·refine mostGo_max h hB ?_
   have:depthIn tab a≤B:=by
    unfold depthIn
    split
    ·omega
    ·exact h _
   omega
theorem put_max {xs:List Dt} {tab:List Int} {B:Int} (h:MaxB tab B) (hB:1≤B) (s:Nat) (k:Int):MaxB (putIf tab s (mostIn xs tab (tyAt s) k)) (B+1):=by
 intro r
 unfold putIf
 split
 ·by_cases hs:s<tab.length
  ·rw [getD_set _ _ _ _ hs]
   split
   ·exact mostGo_max h hB (by omega)
   ·have:=h r;omega
  ·rw [List.set_eq_of_length_le (by omega)];have:=h r;omega
 ·have:=h r;omega
theorem slot_max {xs:List Dt} (s:Nat):∀ (ks:List Int) {tab:List Int} {B:Int},MaxB tab B→1≤B→MaxB (slotGo xs s tab ks) (B+ks.length)
 |[],tab,B,h,_=>fun r=>by have:=h r;simpa [slotGo_nil] using this
 |k :: ks,tab,B,h,hB=>by
  rw [slotGo_cons]
  have:=slot_max (xs:=xs) s ks (put_max (xs:=xs) h hB s k) (by omega)
  intro r
  have:=this r
  simp only [List.length_cons]
  omega
theorem ctorsL_len {xs:List Dt} (hw:WorldOK xs) {s:Nat} (hs:s<xs.length*4):(ctorsL xs (tyAt s)).length≤4:=by
 have hd:s / 4<xs.length:=by omega
 have e:ctorsL xs (tyAt s)=fitTo xs[s / 4].ctors ((s % 4:Nat):Int) xs[s / 4].ctors.length:=ctorsL_data hd
 rw [e]
 exact Nat.le_trans (fitTo_len _ _ _) (hw.at hd).hi
theorem to_max {xs:List Dt} (hw:WorldOK xs) {tab:List Int} {B:Int} (h:MaxB tab B) (hB:1≤B):∀ {s:Nat},s≤xs.length*4→MaxB (sweepTo xs tab s) (B+4*s)
 |0,_=>fun r=>by have:=h r;simpa [sweepTo_zero] using this
 |s+1,hs=>by
  rw [zAN]
  have h1:=slot_max (xs:=xs) s (ctorsL xs (tyAt s)) (to_max hw h hB (s:=s) (by omega)) (by omega)
  have h2:=ctorsL_len hw (s:=s) (by omega)
  intro r
  have:=h1 r
  omega
theorem sweeps_max {xs:List Dt} (hw:WorldOK xs):∀ n,MaxB (sweeps xs n) (1+64*n)
 |0=>fun r=>by
  simp only [sweeps,List.getD]
  rcases Nat.lt_or_ge r (xs.length*4) with h | h <;> simp [h]
 |n+1=>fun r=>by
  have h:=to_max hw (sweeps_max hw n) (by omega) (zz8 (xs.length*4)) r
  have hl:=hw.len
  show (sweepTo xs (sweeps xs n) (xs.length*4)).getD r 0≤_
  omega
theorem St_small {xs:List Dt} (hw:WorldOK xs) {n s i:Nat} (hs:s<xs.length*4) (hn:n≤100):Small xs.length (St xs n s i):=by
 have h1:=St_sound hw (n:=n) (i:=i) hs
 refine ⟨h1.len,h1.pos,fun r=>?_⟩
 have h2:=slot_max (xs:=xs) s ((ctorsL xs (tyAt s)).take i) (to_max hw (sweeps_max hw n) (by omega) (s:=s) (by omega)) (by omega) r
 have h3:=ctorsL_len hw hs
 have h4:((ctorsL xs (tyAt s)).take i).length≤4:=by rw [List.length_take];omega
 have hl:=hw.len
 unfold St
 omega
theorem table_small {xs:List Dt} (hw:WorldOK xs) {n:Nat} (hn:n≤100):Small xs.length (sweeps xs n):=by
 have h1:=sound_sweeps hw n
 refine ⟨h1.len,h1.pos,fun r=>?_⟩
 have:=sweeps_max hw n r
 omega
theorem getD_get {tab:List Int} {s:Nat} (h:s<tab.length):tab.getD s 0=tab[s]:=by simp [List.getD,List.getElem?_eq_getElem h]
theorem Blk.nats {w:World} {g:Nat} {tab:List Int} (h:Blk w g 3 (cellsOf tab)) (hm:tab.length≤maxLen):Arr w (NatR w) tab (.slice (some ⟨g,0,none⟩) tab.length tab.length) [g]∨tab=[]:=by
 by_cases he:tab=[]
 ·exact .inr he
 refine .inl ⟨_,_,rfl,zz8 _,hm,.inr ⟨g,0,tab.map (Value.int .i64),[],rfl,fun j u hj=>?_,?_,rfl⟩⟩
 ·have hjl:j<tab.length:=by have:=(List.getElem?_eq_some_iff.1 hj).1;simpa using this
  rw [Nat.zero_add,h.cell,cellsOf_get hjl]
  rw [List.getElem?_map,List.getElem?_eq_getElem hjl] at hj
  simpa using hj
 ·have:∀ l:List Int,Flat (NatR w) l (l.map (Value.int .i64)) []:=by
   intro l
   induction l with
   |nil=>exact ⟨rfl,rfl⟩
   |cons x l ih=>exact ⟨[.int .i64 x],_,[],[],rfl,rfl,⟨rfl,rfl⟩,ih⟩
  exact this tab
theorem spec_l1Table (xs:List Dt) (hw:WorldOK xs) (w:World) (v:Value) (F:List Nat) (hx:Arr w (DtR w) xs v F) (hf:Under w F) :
  Calls Try.prog 65 #[v] w (MadeNats w (tableL xs)):=by
 obtain ⟨A,cap,rfl,hc1,hc2⟩:=hx.form
 have hn4:=hw.len
 have HW:=jj hw
 have HX:=jj hx
 have HF:=jj hf
 clear hx hf
 clear hw
 obtain ⟨i0,hi,hz0,hz1,hz2⟩:=info_parts info_int
 have hmk:∀ W:World,(Instr.makeSlice 72 (.int .i64 ((xs.length:Int)*4)) (.int .i64 ((xs.length:Int)*4))).run Try.prog W=.ok (.slice (some ⟨W,0,none⟩) (xs.length*4) (xs.length*4)) (W.alloc (.cells (cellsOf (sweeps xs 0)) 3)):=fun W=>by
  have h:=run_make_rowN (P:=Try.prog) 72 3 i0 _ Try.underlying72 hi hz0 .i64 .i64 (xs.length*4) (xs.length*4) (zz8 _) (by rw [hz2];omega) (by omega) W
  rw [hz1,show ((xs.length*4:Nat):Int)=(xs.length:Int)*4 by omega] at h
  rw [h]
  congr 2
  have e:(madeCells #[Value.int .i64 0] (xs.length*4)).toList=(cellsOf (sweeps xs 0)).toList:=by
   rw [toList_madeCells_one]
   unfold cellsOf
   simp [sweeps]
  show Obj.cells (madeCells #[Value.int .i64 0] (xs.length*4*1)) _ _=_
  rw [Nat.mul_one]
  congr 1
  exact Array.toList_inj.1 e
 clear hi hz0 hz1 hz2
 go_enter Try.func65,Try.ntmps65
 go_wp2
 clear hmk
 have hB0:Below w w (w.alloc (.cells (cellsOf (sweeps xs 0)) 3)):=(zy2 _ _).alloc (zz8 _) _
 have HT0:Hid (Blk (w.alloc (.cells (cellsOf (sweeps xs 0)) 3)) w.heap.size 3 (cellsOf (sweeps xs 0))):=Blk.new _ _ _
 go_loopw [4] (fun nv wr=>∃ n:Nat,n≤xs.length*4+1∧nv=.int .i64 n∧Hid (Blk wr w 3 (cellsOf (sweeps xs n)))∧Below w w wr) (fun nv _=>xs.length*4+1-(intOf nv).toNat)
 case atStart=>exact ⟨0,Nat.zero_le _,rfl,HT0,hB0⟩
 case round =>
  clear hB0 HT0
  obtain ⟨n,hn,rfl,HT,hB⟩:=hrel
  by_cases hnl:n≤xs.length*4
  ·have t9:decide ((n:Int)≤(xs.length:Int)*4)=true:=by simp;omega
   go_wp2
   clear t9
   obtain ⟨wo,hwo⟩:∃ wo:World,wo=wr:=⟨_,rfl⟩
   go_loopw [5] (fun sv ws=>∃ s:Nat,s≤xs.length*4∧sv=.int .i64 s∧Hid (Blk ws w 3 (cellsOf (sweepTo xs (sweeps xs n) s)))∧Below w w ws) (fun sv _=>xs.length*4-(intOf sv).toNat)
   case atStart=>exact ⟨0,Nat.zero_le _,rfl,HT,hB⟩
   case round =>
    clear hwo HT hB
    obtain ⟨s,hs,rfl,HT,hB⟩:=hrel
    by_cases hsl:s<xs.length*4
    ·obtain ⟨q,hq⟩:∃ q:Nat,q=s / 4:=⟨_,rfl⟩
     obtain ⟨r,hr⟩:∃ r:Nat,r=s % 4:=⟨_,rfl⟩
     have hsq:s=q*4+r:=by omega
     have hql:q<xs.length:=by omega
     have hrl:r<4:=by omega
     have eq:(s:Int) / 4=(q:Int):=by omega
     have er:(s:Int) % 4=(r:Int):=by omega
     have hty:tyAt s=⟨(q:Int),(r:Int)⟩:=by rw [hsq];exact tyAt_mk hrl
     have HTY:=jj hty
     have HSQ:=jj hsq
     clear hq hr hty hsq
     have hgl:=HT.out.lt
     have hbx:Below wr wr (wr.alloc (.cells #[(q:Int),(r:Int)] 25)):=(zy2 _ _).alloc (zz8 _) _
     have hBx:=hB.trans (hbx.mono hB.size)
     have HTx:Hid (Blk (wr.alloc (.cells #[(q:Int),(r:Int)] 25)) w.heap.size 3 (cellsOf (sweepTo xs (sweeps xs n) s))):=HT.out.same (hbx.block _ hgl)
     have KXx:Hid (Blk (wr.alloc (.cells #[(q:Int),(r:Int)] 25)) wr.heap.size 25 #[(q:Int),(r:Int)]):=Blk.new _ _ _
     go_wp2_with fail
     clear eq er
     refine (spec_l1Ctors xs ⟨(q:Int),(r:Int)⟩ _ _ F (ArrDt.below HX.out hBx HF.out) (HF.out.mono hBx.size) HW.out (.inr ⟨q,rfl,hql⟩)).mono ?_
     rintro e w3 ⟨v3,F3,rfl,hb3,ha3,-,hfs3⟩
     have hB3:=hBx.trans (hb3.mono hBx.size)
     have HT3:=jj (HTx.out.same (hb3.block _ HTx.out.lt))
     have KX3:=jj (KXx.out.same (hb3.block _ KXx.out.lt))
     rw [←HTY.out] at ha3
     obtain ⟨A3,cap3,rfl,hd1,hd2⟩:=ha3.form
     have HA3:=jj ha3
     have HU3:=jj hfs3.under
     have hgx:wr.heap.size<(wr.alloc (.cells #[(q:Int),(r:Int)] 25)).heap.size:=by simp
     have HN3:Hid (w.heap.size∉F3):=fun h=>by have:=(hfs3 _ h).1;omega
     have HS0:Hid (Blk w3 w 3 (cellsOf (St xs n s 0))):=HT3
     have hne:w.heap.size≠wr.heap.size:=by omega
     have hbt:=wr.heap.size
     generalize hbte:wr.heap.size=bt at *
     have HNE:=jj hne
     clear hbt hbte ha3 hfs3 hb3 hgx HT3 HTx KXx hbx hBx hB HT hne hgl
     go_wp2
     obtain ⟨wo,hwo⟩:∃ wo:World,wo=w3:=⟨_,rfl⟩
     go_loopw [8] (fun iv ws=>∃ i:Nat,i≤(ctorsL xs (tyAt s)).length∧iv=.int .i64 i∧Hid (Blk ws w 3 (cellsOf (St xs n s i)))∧Hid (Blk ws bt 25 #[(q:Int),(r:Int)])∧Hid (Arr ws (NatR ws) (ctorsL xs (tyAt s)) (.slice A3 (ctorsL xs (tyAt s)).length cap3) F3∧Under ws F3)∧Below w w ws) (fun iv _=>(ctorsL xs (tyAt s)).length-(intOf iv).toNat)
     case atStart=>exact ⟨0,Nat.zero_le _,rfl,HS0,KX3,⟨HA3.out,HU3.out⟩,hB3⟩
     case round =>
      clear hwo HS0 KX3 HA3 HU3 hB3
      obtain ⟨i,hi,rfl,HS,KX,HA,hB⟩:=hrel
      have hgl:=HS.out.lt
      have hbl:=KX.out.lt
      by_cases hil:i<(ctorsL xs (tyAt s)).length
      ·obtain ⟨b7,off7,rfl⟩:=HA.out.1.ptr (by omega)
       obtain ⟨hb7,c7⟩:=ArrNat.at HA.out.1 HA.out.2 (zy2 _ _) i hil
       obtain ⟨d',k,e1,hki,hd',hk'⟩:=mem_ctorsL (xs:=xs) (t:=tyAt s) (by rw [HTY.out];exact .inr ⟨q,rfl,hql⟩) (List.getElem_mem hil)
       rw [HTY.out] at e1
       obtain rfl:q=d':=Int.ofNat.inj e1
       rw [hki] at c7
       have hstep:=St_step (n:=n) hil
       have hmo:mostIn xs (St xs n s i) (tyAt s) (ctorsL xs (tyAt s))[i]=mostIn xs (St xs n s i) ⟨(q:Int),(r:Int)⟩ (k:Int):=by rw [hki];exact congrArg (fun t=>mostIn xs (St xs n s i) t (k:Int)) HTY.out
       rw [hmo] at hstep
       have HST:=jj hstep
       clear hstep hmo e1 hki
       have hsm:=St_small HW.out (n:=n) (i:=i) hsl (by omega)
       have hsll:s<(St xs n s i).length:=by rw [hsm.len];exact hsl
       have hnat:=(HS.out.nats (by rw [hsm.len];unfold maxLen;omega)).resolve_right (fun e=>by rw [e] at hsll;simp at hsll)
       rw [hsm.len] at hnat
       have HNAT:=jj hnat
       have HSM:=jj hsm
       have HUG:Hid (Under wr.drew.heap.size [w.heap.size]):=fun b hb=>by rw [zy1] at hb;rw [hb];exact hgl
       clear hnat hsm
       obtain ⟨y0,y1,-⟩:=KX.out.c2
       have g1:(0:Int)≤(i:Int):=by omega
       have g2:(i:Int)<((ctorsL xs (tyAt s)).length:Int):=by omega
       go_wp2_with fail
       have hkeep:Kp wr.heap.size (fun U=>U.cell? ⟨bt,0,none⟩=(q:Int)∧U.cell? ⟨bt,1,none⟩=(r:Int)∧U.cell? ⟨b7,off7+i,none⟩=(k:Int)):=fun U U' h hUU hU=>⟨(hUU.cell (zz9 (hbl) hU)).trans h.1,(hUU.cell (zz9 (hbl) hU)).trans h.2.1,(hUU.cell (zz9 (hb7) hU)).trans h.2.2⟩
       have HKeep:=jj hkeep
       clear hkeep
       go_region_held3 (fun w'=>w'.cell? ⟨bt,0,none⟩=(q:Int)∧w'.cell? ⟨bt,1,none⟩=(r:Int)∧w'.cell? ⟨b7,off7+i,none⟩=(k:Int)) (first | assumption | (exact ⟨y0,y1,c7⟩) | (exact HKeep.out wr.drew w' ⟨y0,y1,c7⟩ hB' (zz8 _))) (first | (go_at_call 87;((with_reducible refine (spec_l1Most xs HW.out (St xs n s i) HSM.out q r k hql hrl hk' _ _ _ F [w.heap.size] (ArrDt.below HX.out hB.drew HF.out) (HF.out.mono hB.drew.size) (ArrNat.drew HNAT.out) HUG.out).mono ?_);rintro e w' ⟨rfl,hB'⟩)))
       have hB5:=hB.drew.trans (hB'.mono hB.size)
       have HS5:=jj (HS.out.same (hB'.block _ hgl))
       have KX5:=jj (KX.out.same (hB'.block _ hbl))
       have HA5:Hid (Arr w' (NatR w') (ctorsL xs (tyAt s)) (.slice (some ⟨b7,off7,none⟩) (ctorsL xs (tyAt s)).length cap3) F3∧Under w'.heap.size F3):=⟨ArrNat.below (w:=wr) HA.out.1 (zAK hB') HA.out.2,HA.out.2.mono hB'.size⟩
       clear HKeep HNAT c7 y0 y1
       have z0:w'.cell? ⟨w.heap.size,s,none⟩=some (.int .i64 (St xs n s i)[s]):=(HS5.out.cell s).trans (cellsOf_get hsll)
       have zf:=HS5.out.frozen s
       have hgl5:=HS5.out.lt
       have g3:(0:Int)≤(s:Int):=by omega
       have g4:(s:Int)<(xs.length:Int)*4:=by omega
       have hbet:better (St xs n s i) s (mostIn xs (St xs n s i) ⟨(q:Int),(r:Int)⟩ (k:Int))=(decide (0<mostIn xs (St xs n s i) ⟨(q:Int),(r:Int)⟩ (k:Int)) && (decide ((St xs n s i)[s]=0) || decide (mostIn xs (St xs n s i) ⟨(q:Int),(r:Int)⟩ (k:Int)<(St xs n s i)[s]))):=by
        unfold better;rw [getD_get hsll]
       generalize hm:mostIn xs (St xs n s i) ⟨(q:Int),(r:Int)⟩ (k:Int)=m at *
       have HMM:=jj hm
       generalize hold:(St xs n s i)[s]=old at *
       have HOLD:=jj hold
       clear hm hold
       by_cases h0:0<m
       ·have t0:decide (m>0)=true:=by simpa using h0
        by_cases h1:old=0
        ·have t1:(old==0)=true:=by simp [h1]
         have hb1:better (St xs n s i) s m=true:=by rw [hbet,decide_eq_true h0,decide_eq_true h1];rfl
         clear hbet h1
         have HS6:Hid (Blk (w'.setCell ⟨w.heap.size,s,none⟩ (.int .i64 m)) w.heap.size 3 (cellsOf (St xs n s (i+1)))):=by
          have h:=HS5.out.set_ s (.int .i64 m)
          rw [cellsOf_set,←putIf_yes hb1,←HST.out] at h
          exact h
         have KX6:Hid (Blk (w'.setCell ⟨w.heap.size,s,none⟩ (.int .i64 m)) bt 25 #[(q:Int),(r:Int)]):=KX5.out.same (zz7 _ _ _ _ (fun e=>HNE.out e.symm))
         have HA6:Hid (Arr (w'.setCell ⟨w.heap.size,s,none⟩ (.int .i64 m)) (NatR (w'.setCell ⟨w.heap.size,s,none⟩ (.int .i64 m))) (ctorsL xs (tyAt s)) (.slice (some ⟨b7,off7,none⟩) (ctorsL xs (tyAt s)).length cap3) F3∧Under (w'.setCell ⟨w.heap.size,s,none⟩ (.int .i64 m)).heap.size F3):=⟨ArrNat.kept HA5.out.1 (Kept.set (Kept.refl _ _) HN3.out),HA5.out.2.mono (by simp [World.setCell])⟩
         have hB6:Below w w (w'.setCell ⟨w.heap.size,s,none⟩ (.int .i64 m)):=hB5.setCell (zz8 _) _
         clear hb1
         go_wp2
         go_roundw
         case rel=>exact ⟨i+1,by omega,by go_num,HS6,KX6,HA6,hB6⟩
         case measure=>(simp [intOf] <;> omega)
        ·have t1:(old==0)=false:=by simpa using h1
         by_cases h2:m<old
         ·have hb1:better (St xs n s i) s m=true:=by rw [hbet,decide_eq_true h0,decide_eq_true h2,Bool.or_true];rfl
          clear hbet h1
          have HS6:Hid (Blk (w'.setCell ⟨w.heap.size,s,none⟩ (.int .i64 m)) w.heap.size 3 (cellsOf (St xs n s (i+1)))):=by
           have h:=HS5.out.set_ s (.int .i64 m)
           rw [cellsOf_set,←putIf_yes hb1,←HST.out] at h
           exact h
          have KX6:Hid (Blk (w'.setCell ⟨w.heap.size,s,none⟩ (.int .i64 m)) bt 25 #[(q:Int),(r:Int)]):=KX5.out.same (zz7 _ _ _ _ (fun e=>HNE.out e.symm))
          have HA6:Hid (Arr (w'.setCell ⟨w.heap.size,s,none⟩ (.int .i64 m)) (NatR (w'.setCell ⟨w.heap.size,s,none⟩ (.int .i64 m))) (ctorsL xs (tyAt s)) (.slice (some ⟨b7,off7,none⟩) (ctorsL xs (tyAt s)).length cap3) F3∧Under (w'.setCell ⟨w.heap.size,s,none⟩ (.int .i64 m)).heap.size F3):=⟨ArrNat.kept HA5.out.1 (Kept.set (Kept.refl _ _) HN3.out),HA5.out.2.mono (by simp [World.setCell])⟩
          have hB6:Below w w (w'.setCell ⟨w.heap.size,s,none⟩ (.int .i64 m)):=hB5.setCell (zz8 _) _
          clear hb1
          go_wp2
          go_roundw
          case rel=>exact ⟨i+1,by omega,by go_num,HS6,KX6,HA6,hB6⟩
          case measure=>(simp [intOf] <;> omega)
         ·have hb1:better (St xs n s i) s m=false:=by rw [hbet,decide_eq_false h1,decide_eq_false h2];simp
          clear hbet h1
          have HS6:Hid (Blk w' w.heap.size 3 (cellsOf (St xs n s (i+1)))):=by
           have h:=HS5.out
           rw [←movedB_not hb1,←HST.out] at h
           exact h
          clear hb1
          go_wp2
          go_roundw
          case rel=>exact ⟨i+1,by omega,by go_num,HS6,KX5,HA5,hB5⟩
          case measure=>(simp [intOf] <;> omega)
       ·have t0:decide (m>0)=false:=by simp;omega
        have hb1:better (St xs n s i) s m=false:=by rw [hbet,decide_eq_false h0];rfl
        clear hbet
        have HS6:Hid (Blk w' w.heap.size 3 (cellsOf (St xs n s (i+1)))):=by
         have h:=HS5.out
         rw [←movedB_not hb1,←HST.out] at h
         exact h
        clear hb1
        go_wp2
        go_roundw
        case rel=>exact ⟨i+1,by omega,by go_num,HS6,KX5,HA5,hB5⟩
        case measure=>(simp [intOf] <;> omega)
      ·have HT2:Hid (Blk wr w 3 (cellsOf (sweepTo xs (sweeps xs n) (s+1)))):=by
        have h:=HS.out
        rw [St_all (by omega)] at h
        exact h
       go_wp2
       go_roundw
       case rel=>exact ⟨s+1,by omega,by go_num,HT2,hB⟩
       case measure=>(simp [intOf] <;> omega)
    ·have HT2:Hid (Blk wr w 3 (cellsOf (sweeps xs (n+1)))):=by
      have h:=HT.out
      rw [show s=xs.length*4 by omega] at h
      exact h
     go_wp2
     go_roundw
     case rel=>exact ⟨n+1,by omega,by go_num,HT2,hB⟩
     case measure=>(simp [intOf] <;> omega)
  ·have hfin:MadeNats w (tableL xs) (.returned (.slice (some ⟨w,0,none⟩) (xs.length*4) (xs.length*4))) wr:=by
    have h:=HT.out
    rw [show n=xs.length*4+1 by omega] at h
    have hl:(tableL xs).length=xs.length*4:=sweeps_length xs _
    rcases Blk.nats (tab:=tableL xs) h (by rw [hl];unfold maxLen;omega) with h1 | h1
    ·rw [hl] at h1
     exact ⟨_,[w.heap.size],rfl,hB,h1,⟨by simp,fun b hb i=>by rw [zy1] at hb;rw [hb];exact h.frozen i⟩,fun b hb=>by rw [zy1] at hb;rw [hb];exact ⟨zz8 _,h.lt⟩⟩
    ·rw [h1] at hl
     refine ⟨_,[],rfl,hB,⟨some ⟨w,0,none⟩,xs.length*4,?_,?_,?_,.inl ⟨h1,rfl⟩⟩,Free.nil _,Fresh.nil _ _⟩
     ·rw [h1,←hl]
     ·rw [h1];simp
     ·unfold maxLen;omega
   have HFin:=jj hfin
   clear hfin
   go_wp2
   go_ret
   exact HFin.out
theorem tableL_small {xs:List Dt} (hw:WorldOK xs):Small xs.length (tableL xs):=table_small hw (by have:=hw.len;omega)
theorem least_find {xs:List Dt} (hw:WorldOK xs) {t:Ty} (ht:TyIn xs.length t) (hd:¬t.d = -1) (h:depthIn (tableL xs) t≠0):∃ k,(ctorsL xs t).find? (isLeast xs t)=some k:=by
 obtain ⟨k,hk,h1,h2⟩:=least_ex hw ht hd h
 have h3:=(least_le hw ht hk h1).2
 have hl:isLeast xs t k=true:=by unfold isLeast;rw [beq_iff_eq];omega
 cases hf:(ctorsL xs t).find? (isLeast xs t) with
 |some k'=>exact ⟨k',rfl⟩
 |none =>
  rw [List.find?_eq_none] at hf
  exact absurd hl (hf k hk)
theorem chg_under {F:List Nat} {a b c:World} (h:Chg F a b) (k:Below a b c):Chg F a c :=
 ⟨k.os.trans h.os,k.tape.trans h.tape,k.output.trans h.output,Nat.le_trans h.size k.size,fun i hi hF=>(k.block i hi).trans (h.block i hi hF)⟩
section
variable {α : Type} {w w9 wr wA w7 : World} {D H k : Nat} {T E : TypeId} {cells : Array Value} {R : World → α → List Value → List Nat → Prop} {xs ys : List α} {v v' : Value} {F G : List Nat} {o : Obj}
end
section
variable {α : Type} {w w' : World} {B k : Nat} {E : TypeId} {R : World → α → List Value → List Nat → Prop} {xs : List α} {v : Value} {F : List Nat}
variable {P : Program}
theorem step_push {ops:Array Oper} {o:Oper} {a:Act} {K:Act→World→Prop} {Q:Exit→Act→World→Prop} {EE:Prop} (hgd:o.guard=none) (s x:Operand) (t:TypeId)
  (ho:o.op=.call { callee:=.builtin .append,args:=#[s,x],argTypes:=#[t,t] })
  (i:TypeInfo) (z:Value) (bytes:Nat) (ht:P.underlying t=some (.slice E)) (hi:P.info? E=some i) (hz:i.zero=some z)
  (hsize:i.size=k) (hby:i.bytes=bytes) (hzs:z.cells.size=k) (hk:0<k)
  (hRl:∀ x cs G,R w x cs G→cs.length=k) (hRm:∀ w' x cs G,Kept G w w'→R w x cs G→R w' x cs G)
  (hs:a.eval s=v) (hown:Own w B E k R xs v F) (ys:List α) (ad:Addr) (c:Nat) (news:List Value) (G:List Nat)
  (hx:a.eval x=.slice (some ad) ys.length c) (hnews:∀ j u,news[j]?=some u→w.cell? (ad.add j)=some u) (h1:∀ u∈news,u.oneCell'=true)
  (hys:Flat (R w) ys news G) (hG:Under w G) (hvG:∀ g∈rowOf v,g∉G)
  (hm:0<ys.length) (h63:xs.length+ys.length≤maxLen) (hbytes:(xs.length+ys.length)*bytes≤140737488355328) (hbase:B≤w.heap.size)
  (h:∀ g cap w',Own w' B E k R (xs ++ ys) (.slice (some ⟨g,0,none⟩) (xs.length+ys.length) cap) (F ++ G)→w.grownBy w' v.ownBlock→(v.ownBlock=some g∨g=w.heap.size) →
   K (a.put o.dst (.slice (some ⟨g,0,none⟩) (xs.length+ys.length) cap)) w'):if Region.wanted o (yielded ops a.tmps)=true then Oper.wp P o a w K Q else EE:=by
 obtain ⟨cs,h2,h3,h4,h5⟩:=id hown
 refine step_append_lies w hgd s x t ho B E i z k bytes ht hi hz hsize hby hzs hk v xs.length cs hs h2 ad ys.length c news hx (hys.length hRl) hnews h1 hm h63 hbytes hbase w.heap.size rfl
  fun g cap w1 hr hgr hat hlt=>h g cap w1 ⟨cs ++ news,by rw [List.length_append];exact hr,?_,?_,?_⟩ hgr hat
 ·exact (h3.mono fun x _ ds H hH hr=>hRm w1 x ds H (grown_kept hgr (h4.sub hH) fun g hg hn=>h5 g hg (hH g hn)) hr).append (hys.mono fun x _ ds H hH hr=>hRm w1 x ds H (grown_kept hgr (hG.sub hH) fun g hg hn=>hvG g hg (hH g hn)) hr)
 ·intro b hb
  rcases List.mem_append.1 hb with hb | hb
  ·exact zz9 (h4 b hb) hgr.size
  ·exact zz9 (hG b hb) hgr.size
 ·intro b hb hbF
  rw [zA4,zy1] at hb
  subst hb
  rcases hat with hat | rfl
  ·rcases List.mem_append.1 hbF with hb | hb
   ·exact h5 b (zA2.2 hat) hb
   ·exact hvG b (zA2.2 hat) hb
  ·rcases List.mem_append.1 hbF with hb | hb
   ·exact Nat.lt_irrefl _ (h4 _ hb)
   ·exact Nat.lt_irrefl _ (hG _ hb)
theorem step_push1 {ops:Array Oper} {o:Oper} {a:Act} {K:Act→World→Prop} {Q:Exit→Act→World→Prop} {EE:Prop} (hgd:o.guard=none) (s x:Operand) (t:TypeId)
  (ho:o.op=.call { callee:=.builtin .append,args:=#[s,x],argTypes:=#[t,t] })
  (i:TypeInfo) (z:Value) (bytes:Nat) (ht:P.underlying t=some (.slice E)) (hi:P.info? E=some i) (hz:i.zero=some z)
  (hsize:i.size=k) (hby:i.bytes=bytes) (hzs:z.cells.size=k) (hk:0<k)
  (hRl:∀ w x cs G,R w x cs G→cs.length=k) (hRm:∀ w w' x cs G,Kept G w w'→R w x cs G→R w' x cs G)
  (hs:a.eval s=v) (hown:Own w B E k R xs v F) (y:α) (T:TypeId) (news:List Value) (G:List Nat)
  (H:Nat) (hx:a.eval x=.slice (some ⟨H,0,none⟩) 1 1) (hH:w.heap.size=H) (h1:∀ u∈news,u.oneCell'=true)
  (hy:R w y news G) (hG:Under w G) (hvG:∀ g∈rowOf v,g∉G)
  (h63:xs.length+1≤maxLen) (hbytes:(xs.length+1)*bytes≤140737488355328) (hbase:B≤w.heap.size)
  (h:∀ g cap w',Own w' B E k R (xs ++ [y]) (.slice (some ⟨g,0,none⟩) (xs.length+1) cap) (F ++ G)→(w.alloc (.cells news.toArray T)).grownBy w' v.ownBlock→(v.ownBlock=some g∨g=w.heap.size+1) →
   K (a.put o.dst (.slice (some ⟨g,0,none⟩) (xs.length+1) cap)) w'):if Region.wanted o (yielded ops a.tmps)=true then Oper.wp P o a (w.alloc (.cells news.toArray T)) K Q else EE:=by
 subst hH
 have hb:=(zy2 w.heap.size w).alloc (zz8 _) (.cells news.toArray T)
 have hk1:Kept G w (w.alloc (.cells news.toArray T)):=.of_below hb hG
 refine step_push hgd s x t ho i z bytes ht hi hz hsize hby hzs hk (hRl _) (fun w'=>hRm _ w') hs (hown.below (fun x cs G hk h=>hRm _ _ x cs G hk h) hb) [y] ⟨w,0,none⟩ 1 news G hx ?_ h1 (Flat.one (hRm _ _ _ _ _ hk1 hy)) (hG.mono hb.size) hvG Nat.zero_lt_one h63 hbytes (Nat.le_trans hbase hb.size)
  (fun g cap w' h2 h3 h4=>h g cap w' h2 h3 (by simpa using h4))
 intro j u hj
 exact World.news_of_block (heap_alloc_new w (.cells news.toArray T)) j u (by simpa using hj)
end
section
variable {α : Type} {w w9 wr wA w7 : World} {D Bz H k : Nat} {T E : TypeId} {cells : Array Value} {R : World → α → List Value → List Nat → Prop} {xs ys : List α} {v v' : Value} {F G : List Nat} {o : Obj}
end
section
variable {w w0 : World} {H B : Nat} {T : TypeId} {F : List Nat}
theorem Blk.three {b0 b1 b2:Value} (h:Blk w H T #[b0,b1,b2]) (a0 a1 a2:Value):Blk (((w.setCell ⟨H,0,none⟩ a0).setCell ⟨H,1,none⟩ a1).setCell ⟨H,2,none⟩ a2) H T #[a0,a1,a2]:=((h.set_ 0 a0).set_ 1 a1).set_ 2 a2
theorem kept_three (hF:∀ b∈F,b≠H) (a0 a1 a2:Value):Kept F w (((w.setCell ⟨H,0,none⟩ a0).setCell ⟨H,1,none⟩ a1).setCell ⟨H,2,none⟩ a2):=fun b hb=>by
 have:=hF b hb
 rw [zz7 _ _ _ _ this,zz7 _ _ _ _ this,zz7 _ _ _ _ this]
theorem size_three (a0 a1 a2:Value):(((w.setCell ⟨H,0,none⟩ a0).setCell ⟨H,1,none⟩ a1).setCell ⟨H,2,none⟩ a2).heap.size=w.heap.size:=by simp [World.setCell]
end
theorem info_VE:(Try.prog.info? 46).map (fun i=>(i.zero,i.size,i.bytes))=some (some (.agg #[(0:Int),(0:Int),.slice none 0 0]),3,40):=by kernel_rfl
theorem VR_mono' (w w':World) (x:V) (cs:List Value) (G:List Nat) (hk:Kept G w w') (h:VR w x cs G):VR w' x cs G:=VR.mono x cs G hk h
theorem VR_len' (w:World) (x:V) (cs:List Value) (G:List Nat) (h:VR w x cs G):cs.length=3:=VR_len x cs G h
def MadeVt (v:V) (w:World) (e:Ending) (w':World):Prop:=∃ cs F,e=.returned (.agg cs.toArray)∧Below w w w'∧VR w' v cs F∧Free w' F∧Fresh w w' F
structure P where
 op:Int
 ct:Int
 n:Int
 m:Int
 va:Int
 ks:List P
theorem P.ind {p:P→Prop} (h:∀ op ct n m va ks,(∀ k∈ks,p k)→p ⟨op,ct,n,m,va,ks⟩):∀ v,p v
 |⟨op,ct,n,m,va,ks⟩=>h op ct n m va ks fun k hk=>P.ind h k
termination_by v=>SizeOf.sizeOf v
decreasing_by
 have:=List.sizeOf_lt_of_mem hk
 simp
 omega
mutual
def P.size:P→Nat
 |⟨_,_,_,_,_,ks⟩=>P.sizes ks
def P.sizes:List P→Nat
 |[]=>0
 |k :: ks=>1+P.size k+P.sizes ks
end
def P.subs:List P→Nat
 |[]=>0
 |k :: ks=>k.size+P.subs ks
theorem P.subs_snoc (l:List P) (x:P):P.subs (l ++ [x])=P.subs l+x.size:=by
 induction l with
 |nil=>simp [P.subs]
 |cons k l ih=>simp only [List.cons_append,P.subs,ih];omega
theorem P.sizes_eq (l:List P):P.sizes l=l.length+P.subs l:=by
 induction l with
 |nil=>rfl
 |cons k l ih=>simp only [P.sizes,P.subs,List.length_cons,ih];omega
theorem P.subs_take_le (l:List P) (k:Nat):P.subs (l.take k)≤P.subs l:=by
 induction l generalizing k with
 |nil=>simp [P.subs]
 |cons x l ih =>
  cases k with
  |zero=>simp [P.subs]
  |succ k=>simp only [List.take_succ_cons,P.subs];have:=ih k;omega
theorem P.subs_take_succ (l:List P) (k:Nat) (h:k<l.length):P.subs (l.take (k+1))=P.subs (l.take k)+l[k].size:=by
 rw [take_snoc' l k h,P.subs_snoc]
mutual
def PR (w:World):P→List Value→List Nat→Prop
 |⟨op,ct,n,m,va,ks⟩,cs,F=>∃ A cap,cs=[.int .i64 op,.int .i64 ct,.int .i64 n,.int .i64 m,.int .i64 va,.slice A ks.length cap]∧ks.length≤cap∧cap≤maxLen∧((ks=[]∧F=[])∨∃ b off ds G,A=some ⟨b,off,none⟩∧CellsAt w b off ds∧PRs w ks ds G∧F=b :: G)
def PRs (w:World):List P→List Value→List Nat→Prop
 |[],cs,F=>cs=[]∧F=[]
 |x :: xs,cs,F=>∃ c1 c2 F1 F2,cs=c1 ++ c2∧F=F1 ++ F2∧PR w x c1 F1∧PRs w xs c2 F2
end
theorem PRs_eq (w:World) (ks:List P):∀ cs F,PRs w ks cs F↔Flat (PR w) ks cs F:=by
 induction ks with
 |nil=>intro cs F;simp [PRs,Flat]
 |cons k ks ih =>
  intro cs F
  simp only [PRs,Flat,ih]
theorem zAA {w:World} (v:P) (cs:List Value) (F:List Nat):PR w v cs F↔∃ kv,cs=[.int .i64 v.op,.int .i64 v.ct,.int .i64 v.n,.int .i64 v.m,.int .i64 v.va,kv]∧Arr w (PR w) v.ks kv F:=by
 obtain ⟨op,ct,n,m,va,ks⟩:=v
 simp only [PR,Arr,PRs_eq]
 constructor
 ·rintro ⟨A,cap,rfl,h1,h2,h3⟩
  exact ⟨_,rfl,A,cap,rfl,h1,h2,h3⟩
 ·rintro ⟨kv,rfl,A,cap,rfl,h1,h2,h3⟩
  exact ⟨A,cap,rfl,h1,h2,h3⟩
theorem PR_len {w:World} (v:P) (cs:List Value) (F:List Nat) (h:PR w v cs F):cs.length=6:=by
 obtain ⟨kv,rfl,-⟩:=(zAA _ _ _).1 h
 rfl
theorem PR.mono {w w':World}:∀ v cs F,Kept F w w'→PR w v cs F→PR w' v cs F:=by
 refine P.ind fun op ct n m va ks ih cs F hF h=>?_
 rw [zAA] at h ⊢
 obtain ⟨kv,rfl,h⟩:=h
 exact ⟨kv,rfl,h.mono hF ih⟩
theorem PR.below {w w':World} {B:Nat} {v:P} {cs:List Value} {F:List Nat} (h:PR w v cs F) (hb:Below B w w') (hF:Under B F):PR w' v cs F:=PR.mono v cs F (.of_below hb hF) h
theorem PR.drew {w:World} {v:P} {cs:List Value} {F:List Nat} (h:PR w v cs F):PR w.drew v cs F:=PR.mono (w:=w) v cs F (fun _ _=>rfl) h
theorem ArrP.mono {w w':World} {vs:List P} {x:Value} {F:List Nat} (h:Arr w (PR w) vs x F) (hF:Kept F w w'):Arr w' (PR w') vs x F:=h.mono hF fun v _=>PR.mono v
theorem ArrP.below {w w':World} {B:Nat} {vs:List P} {x:Value} {F:List Nat} (h:Arr w (PR w) vs x F) (hb:Below B w w') (hF:Under B F):Arr w' (PR w') vs x F:=ArrP.mono h (.of_below hb hF)
theorem zA1 {P:Program} {fn:Func} {p:Tmp} {ty:TypeId} (h:fn.results=#[.cell p ty]) (tmps:Array Value) (w:World) (g:Nat) (t:TypeId) (cs:Array Value) (fr:Nat×Nat) (d:TypeDesc)
  (hp:tmps.getD p undef=.pointer (some ⟨g,0,none⟩)) (hg:w.heap[g]?=some (.cells cs t fr))
  (hu:P.underlying ty=some d) (hd:(match d with | .struct _ | .array _ _=>true | _=>false)=true) (hi:(P.info? ty).map (·.size)=some cs.size) :
  (results fn tmps).run P w=.ok (.agg cs) w:=by
 have hp':tmps[p]?.getD undef=.pointer (some ⟨g,0,none⟩):=by simpa using hp
 simp [results,h,hp',asAddr,run_loadVar_row w g t ty cs fr d hg hu hd hi]
theorem zAC {P:Program} {fn:Func} {p v:Tmp} {ty:TypeId} (h:fn.results=#[.cell p ty,.tmp v]) (tmps:Array Value) (w:World) (g:Nat) (t:TypeId) (cs:Array Value) (fr:Nat×Nat) (d:TypeDesc)
  (hp:tmps.getD p undef=.pointer (some ⟨g,0,none⟩)) (hg:w.heap[g]?=some (.cells cs t fr))
  (hu:P.underlying ty=some d) (hd:(match d with | .struct _ | .array _ _=>true | _=>false)=true) (hi:(P.info? ty).map (·.size)=some cs.size) :
  (results fn tmps).run P w=.ok (.tuple #[.agg cs,tmps.getD v undef]) w:=by
 have hp':tmps[p]?.getD undef=.pointer (some ⟨g,0,none⟩):=by simpa using hp
 simp [results,h,hp',asAddr,run_loadVar_row w g t ty cs fr d hg hu hd hi]
theorem zA9 (w:World) (o:Obj) (T:TypeId) (C:Array Value):Blk ((w.alloc o).alloc (.cells C T)) (w.heap.size+1) T C:=by
 have h:=Blk.new (w.alloc o) T C
 rw [World.size_alloc] at h
 exact h
section
variable {w w0 : World} {H B : Nat} {T : TypeId} {F : List Nat}
theorem Blk.six {b0 b1 b2 b3 b4 b5:Value} (h:Blk w H T #[b0,b1,b2,b3,b4,b5]) (a0 a1 a2 a3 a4 a5:Value):Blk ((((((w.setCell ⟨H,0,none⟩ a0).setCell ⟨H,1,none⟩ a1).setCell ⟨H,2,none⟩ a2).setCell ⟨H,3,none⟩ a3).setCell ⟨H,4,none⟩ a4).setCell ⟨H,5,none⟩ a5) H T #[a0,a1,a2,a3,a4,a5]:=(((((h.set_ 0 a0).set_ 1 a1).set_ 2 a2).set_ 3 a3).set_ 4 a4).set_ 5 a5
theorem kept_six (hF:∀ b∈F,b≠H) (a0 a1 a2 a3 a4 a5:Value):Kept F w ((((((w.setCell ⟨H,0,none⟩ a0).setCell ⟨H,1,none⟩ a1).setCell ⟨H,2,none⟩ a2).setCell ⟨H,3,none⟩ a3).setCell ⟨H,4,none⟩ a4).setCell ⟨H,5,none⟩ a5):=fun b hb=>by
 have:=hF b hb
 rw [zz7 _ _ _ _ this,zz7 _ _ _ _ this,zz7 _ _ _ _ this,zz7 _ _ _ _ this,zz7 _ _ _ _ this,zz7 _ _ _ _ this]
theorem size_six (a0 a1 a2 a3 a4 a5:Value):((((((w.setCell ⟨H,0,none⟩ a0).setCell ⟨H,1,none⟩ a1).setCell ⟨H,2,none⟩ a2).setCell ⟨H,3,none⟩ a3).setCell ⟨H,4,none⟩ a4).setCell ⟨H,5,none⟩ a5).heap.size=w.heap.size:=by simp [World.setCell]
end
theorem info_PE:(Try.prog.info? 28).map (fun i=>(i.zero,i.size,i.bytes))=some (some (.agg #[(0:Int),(0:Int),(0:Int),(0:Int),(0:Int),.slice none 0 0]),6,64):=by kernel_rfl
theorem PR_mono' (w w':World) (x:P) (cs:List Value) (G:List Nat) (hk:Kept G w w') (h:PR w x cs G):PR w' x cs G:=PR.mono x cs G hk h
theorem PR_len' (w:World) (x:P) (cs:List Value) (G:List Nat) (h:PR w x cs G):cs.length=6:=PR_len x cs G h
def MadePt (p:P) (w:World) (e:Ending) (w':World):Prop:=∃ cs F,e=.returned (.agg cs.toArray)∧Below w w w'∧PR w' p cs F∧Free w' F∧Fresh w w' F
mutual
def patOf:V→P
 |⟨c,n,ks⟩=>if c = -1 then ⟨3,0,n,n,0,[]⟩ else ⟨4,c,0,0,0,patOfs ks⟩
def patOfs:List V→List P
 |[]=>[]
 |k :: ks=>patOf k :: patOfs ks
end
def patTo (ks:List V) (i:Nat):List P:=(ks.take i).map patOf
end Go.Proofs.Ytjjclcmmfeegfaa
namespace Go.Proofs.Ytjjclcmmfeegfaa
open Go
section
variable {P : Program} {ops : Array Oper} {Q : Exit → Act → World → Prop} {md : Region.Mode} {S T : World → Prop} {d : Nat}
def wpAnyB (P:Program) (md:Region.Mode) (ops:Array Oper) (Q:Exit→Act→World→Prop) (S T:World→Prop) (d:Nat):Nat→Array Bool→Act→World→Prop
 |0,listed,a,w=>Region.ready md ops listed=[]∧Q .normal a w
 |fuel+1,listed,a,w =>
  (Region.ready md ops listed=[]→Q .normal a w) ∧
  ∀ i∈Region.ready md ops listed,wpOp P ops Q i (fun a' w'=>(S w'∧((listed.setIfInBounds i true).getD d false=false→T w'))∧wpAnyB P md ops Q S T d fuel (listed.setIfInBounds i true) a' w') a w
theorem wpAny_of_B:∀ (fuel:Nat) (listed:Array Bool) (a:Act) (w:World),wpAnyB P md ops Q S T d fuel listed a w→wpAny P md ops Q fuel listed a w
 |0,_,_,_,h=>h
 |fuel+1,_,_,_,h=>⟨h.1,fun i hi=>wpOp_mono (fun _ _ h'=>wpAny_of_B fuel _ _ _ h'.2) (h.2 i hi)⟩
theorem wpAnyB_first {i:Nat} {oi:Oper} {v:Value} (hi:ops[i]?=some oi) (hid:i≠d) (hsel:∀ (j:Nat) (o:Oper) cs b,ops[j]?=some o→o.op≠.select cs b)
  (hQ:∀ c a w,Q (.panic c) (a.put oi.dst v) w→Q (.panic c) a w) :
  ∀ (fuel:Nat) (listed:Array Bool) (a:Act) (w:World),
   (∀ j oj,ops[j]?=some oj→j≠i→listed.getD j true=false→(∀ e∈oj.after,Region.binds md e=true→e.on≠i)→oi.apart ops oj=true) →
   i∈Region.ready md ops listed→YieldsIf P ops S oi v a→S w→(listed.getD d false=false→T w) →
   wpAnyB P md ops Q S T d fuel (listed.setIfInBounds i true) (a.put oi.dst v) w→wpAnyB P md ops Q S T d (fuel+1) listed a w:=by
 intro fuel
 induction fuel with
 |zero =>
  intro listed a w _ hr hy hS hT H
  refine ⟨fun h=>(by rw [h] at hr;cases hr),fun j hj=>?_⟩
  by_cases hji:j=i
  ·subst hji;exact hy.wpOp hi hS ⟨⟨hS,fun h=>hT (by rwa [getD_set_ne false hid] at h)⟩,H⟩
  ·have:=ready_mono hj hji
   rw [H.1] at this
   cases this
 |succ fuel ih =>
  intro listed a w hfree hr hy hS hT H
  refine ⟨fun h=>(by rw [h] at hr;cases hr),fun j hj=>?_⟩
  by_cases hji:j=i
  ·subst hji;exact hy.wpOp hi hS ⟨⟨hS,fun h=>hT (by rwa [getD_set_ne false hid] at h)⟩,H⟩
  ·have h1:=H.2 j (ready_mono hj hji)
   obtain ⟨hjun,oj,hoj,hall⟩:=mem_ready.1 hj
   have hnot:∀ e∈oj.after,Region.binds md e=true→e.on≠i:=fun e he hb heq=>by
    have h1:=hall e he hb
    have h0:=(mem_ready.1 hr).1
    rw [heq] at h1
    rcases Nat.lt_or_ge i listed.size with h' | h'
    ·simp [h'] at h0 h1;rw [h0] at h1;cases h1
    ·simp [Array.getElem?_eq_none h'] at h1
   have h2:=wpOp_putIf hoj (hfree j oj hoj hji hjun hnot) (fun cs b=>hsel i oi cs b hi) (fun cs b=>hsel j oj cs b hoj) hQ hy h1
   have hfree':∀ k ok,ops[k]?=some ok→k≠i→(listed.setIfInBounds j true).getD k true=false →
     (∀ e∈ok.after,Region.binds md e=true→e.on≠i)→oi.apart ops ok=true:=fun k ok hk hki hun hno=>by
    refine hfree k ok hk hki ?_ hno
    by_cases hjk:j=k
    ·subst hjk;exact hjun
    ·rw [getD_set_ne true hjk] at hun;exact hun
   have hbit:((listed.setIfInBounds i true).setIfInBounds j true).getD d false=(listed.setIfInBounds j true).getD d false:=by
    rw [Array.setIfInBounds_comm _ _ (Ne.symm hji),getD_set_ne false hid]
   refine wpOp_mono (fun a' w' h3=>⟨⟨h3.2.1.1,fun h=>h3.2.1.2 (hbit.trans h)⟩,ih (listed.setIfInBounds j true) a' w' hfree' (ready_mono hr (Ne.symm hji)) h3.1 h3.2.1.1 (fun h=>h3.2.1.2 (hbit.trans h)) ?_⟩) h2
   rw [Array.setIfInBounds_comm _ _ hji]
   exact h3.2.2
theorem wpAnyB_firstT {i:Nat} {oi od:Oper} {v:Value} (hi:ops[i]?=some oi) (hid:i≠d) (hd:ops[d]?=some od) (hdi:∃ e∈od.after,Region.binds md e=true∧e.on=i) (hsel:∀ (j:Nat) (o:Oper) cs b,ops[j]?=some o→o.op≠.select cs b)
  (hQ:∀ c a w,Q (.panic c) (a.put oi.dst v) w→Q (.panic c) a w) :
  ∀ (fuel:Nat) (listed:Array Bool) (a:Act) (w:World),
   (∀ j oj,ops[j]?=some oj→j≠i→listed.getD j true=false→(∀ e∈oj.after,Region.binds md e=true→e.on≠i)→oi.apart ops oj=true) →
   i∈Region.ready md ops listed→YieldsIf P ops (fun w=>S w∧T w) oi v a→listed.getD d false=false→S w→T w →
   wpAnyB P md ops Q S T d fuel (listed.setIfInBounds i true) (a.put oi.dst v) w→wpAnyB P md ops Q S T d (fuel+1) listed a w:=by
 intro fuel
 induction fuel with
 |zero =>
  intro listed a w _ hr hy hdf hS hT H
  refine ⟨fun h=>(by rw [h] at hr;cases hr),fun j hj=>?_⟩
  by_cases hji:j=i
  ·subst hji;exact hy.wpOp hi ⟨hS,hT⟩ ⟨⟨hS,fun _=>hT⟩,H⟩
  ·have:=ready_mono hj hji
   rw [H.1] at this
   cases this
 |succ fuel ih =>
  intro listed a w hfree hr hy hdf hS hT H
  refine ⟨fun h=>(by rw [h] at hr;cases hr),fun j hj=>?_⟩
  by_cases hji:j=i
  ·subst hji;exact hy.wpOp hi ⟨hS,hT⟩ ⟨⟨hS,fun _=>hT⟩,H⟩
  ·have h1:=H.2 j (ready_mono hj hji)
   obtain ⟨hjun,oj,hoj,hall⟩:=mem_ready.1 hj
   have hnot:∀ e∈oj.after,Region.binds md e=true→e.on≠i:=fun e he hb heq=>by
    have h1:=hall e he hb
    have h0:=(mem_ready.1 hr).1
    rw [heq] at h1
    rcases Nat.lt_or_ge i listed.size with h' | h'
    ·simp [h'] at h0 h1;rw [h0] at h1;cases h1
    ·simp [Array.getElem?_eq_none h'] at h1
   have hjd:j≠d:=fun e=>by
    subst e
    rw [hoj] at hd
    cases hd
    obtain ⟨e,he,hb,ho⟩:=hdi
    exact hnot e he hb ho
   have h2:=wpOp_putIf hoj (hfree j oj hoj hji hjun hnot) (fun cs b=>hsel i oi cs b hi) (fun cs b=>hsel j oj cs b hoj) hQ hy h1
   have hfree':∀ k ok,ops[k]?=some ok→k≠i→(listed.setIfInBounds j true).getD k true=false →
     (∀ e∈ok.after,Region.binds md e=true→e.on≠i)→oi.apart ops ok=true:=fun k ok hk hki hun hno=>by
    refine hfree k ok hk hki ?_ hno
    by_cases hjk:j=k
    ·subst hjk;exact hjun
    ·rw [getD_set_ne true hjk] at hun;exact hun
   have hdf2:(listed.setIfInBounds j true).getD d false=false:=by rw [getD_set_ne false hjd];exact hdf
   have hdf3:((listed.setIfInBounds i true).setIfInBounds j true).getD d false=false:=by rw [getD_set_ne false hjd,getD_set_ne false hid];exact hdf
   refine wpOp_mono (fun a' w' h3=>⟨⟨h3.2.1.1,fun _=>h3.2.1.2 hdf3⟩,ih (listed.setIfInBounds j true) a' w' hfree' (ready_mono hr (Ne.symm hji)) h3.1 hdf2 h3.2.1.1 (h3.2.1.2 hdf3) ?_⟩) h2
   rw [Array.setIfInBounds_comm _ _ hji]
   exact h3.2.2
theorem wT {i:Nat} {oi:Oper} {v:Value} {fuel:Nat} {listed:Array Bool} {a:Act} {w:World} (hi:ops[i]?=some oi) (hid:i≠d)
  (hs:Region.noSelect ops=true) (hf:Region.free md ops listed i=true) (hr:(Region.ready md ops listed).contains i=true)
  (hQ:∀ c a w,Q (.panic c) (a.put oi.dst v) w→Q (.panic c) a w) (hy:YieldsIf P ops S oi v a) (hS:S w) (hT:listed.getD d false=false→T w)
  (h:wpAnyB P md ops Q S T d fuel (listed.setIfInBounds i true) (a.put oi.dst v) w):wpAnyB P md ops Q S T d (fuel+1) listed a w :=
 wpAnyB_first hi hid (Region.noSelect_spec hs) hQ fuel listed a w (Region.free_spec hi hf) (by simpa using hr) hy hS hT h
theorem wU {i : Nat} {oi : Oper} {v : Value} {fuel : Nat} {listed : Array Bool} {a : Act} {w : World} (hi : ops[i]? = some oi) (hy : YieldsIf P ops S oi v a) (hS : S w) (hT : listed.getD d false = false → T w)
  (h : wpAnyB P md ops Q S T d fuel (listed.setIfInBounds i true) (a.put oi.dst v) w) (hid : i ≠ d := by decide)
  (hs : Region.noSelect ops = true := by kernel_rfl) (hf : Region.free md ops listed i = true := by kernel_rfl) (hr : (Region.ready md ops listed).contains i = true := by kernel_rfl)
  (hQ : ∀ c a w, Q (.panic c) (a.put oi.dst v) w → Q (.panic c) a w := by exact fun _ _ _ h => h) : wpAnyB P md ops Q S T d (fuel + 1) listed a w :=
 wT hi hid hs hf hr hQ hy hS hT h
theorem wV (i : Nat) {oi : Oper} {v : Value} {fuel : Nat} {listed : Array Bool} {a : Act} {w : World} (hi : ops[i]? = some oi) (hS : S w) (hT : T w)
  (h : wpAnyB P md ops Q S T d fuel (listed.setIfInBounds i true) (a.put oi.dst v) w) (hg : Region.wanted oi (yielded ops a.tmps) = true := by rfl)
  (hy : ∀ w, S w → (execOp a.eval oi).run P w = .ok (.value v) w := by (intro W hSw; (try dsimp only at hSw); (repeat obtain ⟨_, hSw⟩ := hSw); go_simp; try with_reducible rfl)) (hid : i ≠ d := by decide)
  (hs : Region.noSelect ops = true := by kernel_rfl) (hf : Region.free md ops listed i = true := by kernel_rfl) (hr : (Region.ready md ops listed).contains i = true := by kernel_rfl)
  (hQ : ∀ c a w, Q (.panic c) (a.put oi.dst v) w → Q (.panic c) a w := by exact fun _ _ _ h => h) : wpAnyB P md ops Q S T d (fuel + 1) listed a w :=
 wT hi hid hs hf hr hQ (Or.inl ⟨hg, hy⟩) hS (fun _ => hT) h
theorem wN (i : Nat) {oi : Oper} {fuel : Nat} {listed : Array Bool} {a : Act} {w : World} (hi : ops[i]? = some oi) (hS : S w) (hT : T w)
  (h : wpAnyB P md ops Q S T d fuel (listed.setIfInBounds i true) (a.put oi.dst undef) w) (hg : Region.wanted oi (yielded ops a.tmps) = false := by rfl) (hid : i ≠ d := by decide)
  (hs : Region.noSelect ops = true := by kernel_rfl) (hf : Region.free md ops listed i = true := by kernel_rfl) (hr : (Region.ready md ops listed).contains i = true := by kernel_rfl)
  (hQ : ∀ c a w, Q (.panic c) (a.put oi.dst undef) w → Q (.panic c) a w := by exact fun _ _ _ h => h) : wpAnyB P md ops Q S T d (fuel + 1) listed a w :=
 wT hi hid hs hf hr hQ (Or.inr ⟨hg, rfl⟩) hS (fun _ => hT) h
theorem wpAnyB_takeT {i:Nat} {oi od:Oper} {v:Value} {fuel:Nat} {listed:Array Bool} {a:Act} {w:World} (hi:ops[i]?=some oi) (hid:i≠d) (hd:ops[d]?=some od) (hdi:∃ e∈od.after,Region.binds md e=true∧e.on=i)
  (hs:Region.noSelect ops=true) (hf:Region.free md ops listed i=true) (hr:(Region.ready md ops listed).contains i=true)
  (hQ:∀ c a w,Q (.panic c) (a.put oi.dst v) w→Q (.panic c) a w) (hy:YieldsIf P ops (fun w=>S w∧T w) oi v a) (hdf:listed.getD d false=false) (hS:S w) (hT:T w)
  (h:wpAnyB P md ops Q S T d fuel (listed.setIfInBounds i true) (a.put oi.dst v) w):wpAnyB P md ops Q S T d (fuel+1) listed a w :=
 wpAnyB_firstT hi hid hd hdi (Region.noSelect_spec hs) hQ fuel listed a w (Region.free_spec hi hf) (by simpa using hr) hy hdf hS hT h
theorem zAO {i:Nat} {oi od:Oper} {v:Value} {fuel:Nat} {listed:Array Bool} {a:Act} {w:World} (hi:ops[i]?=some oi) (hid:i≠d) (hd:ops[d]?=some od) (hdi:(od.after.any fun e=>Region.binds md e && e.on==i)=true)
  (hs:Region.noSelect ops=true) (hf:Region.free md ops listed i=true) (hr:(Region.ready md ops listed).contains i=true)
  (hQ:∀ c a w,Q (.panic c) (a.put oi.dst v) w→Q (.panic c) a w) (hy:YieldsIf P ops (fun w=>S w∧T w) oi v a) (hdf:listed.getD d false=false) (hS:S w) (hT:T w)
  (h:wpAnyB P md ops Q S T d fuel (listed.setIfInBounds i true) (a.put oi.dst v) w):wpAnyB P md ops Q S T d (fuel+1) listed a w :=
 wpAnyB_takeT hi hid hd (by
  obtain ⟨k,hk,hb⟩:=Array.any_eq_true.1 hdi
  rw [Bool.and_eq_true,beq_iff_eq] at hb
  exact ⟨_,Array.getElem_mem hk,hb.1,hb.2⟩) hs hf hr hQ hy hdf hS hT h
theorem wpAnyB_all {rs:List Nat} {fuel:Nat} {listed:Array Bool} {a:Act} {w:World} (hr:Region.ready md ops listed=rs) (hne:rs≠[])
  (h:∀ i∈rs,wpOp P ops Q i (fun a' w'=>(S w'∧((listed.setIfInBounds i true).getD d false=false→T w'))∧wpAnyB P md ops Q S T d fuel (listed.setIfInBounds i true) a' w') a w):wpAnyB P md ops Q S T d (fuel+1) listed a w :=
 ⟨fun h0=>absurd (hr▸h0) hne,hr▸h⟩
theorem wpAnyB_done {listed:Array Bool} {a:Act} {w:World} (hr:Region.ready md ops listed=[]) (h:Q .normal a w):∀ fuel,wpAnyB P md ops Q S T d fuel listed a w
 |0=>⟨hr,h⟩
 |_+1=>⟨fun _=>h,by rw [hr];simp⟩
theorem zA5 {id:Nat} {a:Act} {w:World} (hm:P.follows .mixedOrders=true)
  (h:wpAnyB P .any ops Q S T d ops.size (Array.replicate ops.size false) a w.drew):(Code.region id ops true).wp P Q a w :=
 wp_region_any hm (wpAny_of_B _ _ _ _ h)
def AllReadyB (P:Program) (md:Region.Mode) (ops:Array Oper) (Q:Exit→Act→World→Prop) (S T:World→Prop) (d fuel:Nat) (listed:Array Bool) (a:Act) (w:World) (rs:List Nat):Prop :=
 ∀ i∈rs,wpOp P ops Q i (fun a' w'=>(S w'∧((listed.setIfInBounds i true).getD d false=false→T w'))∧wpAnyB P md ops Q S T d fuel (listed.setIfInBounds i true) a' w') a w
theorem wpBS {R : World → Prop} {id : Nat} {a : Act} {w : World} (HS : ∀ C : World, R C → S C) (hm : P.follows .mixedOrders = true) (h : wpAnyB P .any ops Q S T d ops.size (Array.replicate ops.size false) a w.drew) : (Code.region id ops true).wp P Q a w := zA5 hm h
theorem AllReadyB.n {fuel:Nat} {listed:Array Bool} {a:Act} {w:World}:AllReadyB P md ops Q S T d fuel listed a w []:=fun _ h=>by cases h
theorem AllReadyB.c {fuel:Nat} {listed:Array Bool} {a:Act} {w:World} {i:Nat} {o:Oper} {rs:List Nat} (ho:ops[i]?=some o)
  (h:∀ K':Act→World→Prop,Shut (∀ a w,S w→((listed.setIfInBounds i true).getD d false=false→T w)→wpAnyB P md ops Q S T d fuel (listed.setIfInBounds i true) a w→K' a w)→if Region.wanted o (yielded ops a.tmps)=true then Oper.wp P o a w K' Q else K' (a.put o.dst undef) w)
  (hs:AllReadyB P md ops Q S T d fuel listed a w rs):AllReadyB P md ops Q S T d fuel listed a w (i :: rs):=fun j hj=>by
 rcases List.mem_cons.1 hj with rfl | hj
 ·exact wpOp_step ho (fun K' hK=>h K' (fun a w h1 h2 h3=>hK a w ⟨⟨h1,h2⟩,h3⟩))
 ·exact hs j hj
theorem wR {rs:List Nat} {fuel:Nat} {listed:Array Bool} {a:Act} {w:World} (hr:Region.ready md ops listed=rs) (hne:rs≠[])
  (h:AllReadyB P md ops Q S T d fuel listed a w rs):wpAnyB P md ops Q S T d (fuel+1) listed a w:=wpAnyB_all hr hne h
theorem w1 (i : Nat) {o : Oper} {fuel : Nat} {listed : Array Bool} {a : Act} {w : World} (ho : ops[i]? = some o)
  (h : ∀ K' : Act → World → Prop, Shut (∀ a w, S w → ((listed.setIfInBounds i true).getD d false = false → T w) → wpAnyB P md ops Q S T d fuel (listed.setIfInBounds i true) a w → K' a w) → if Region.wanted o (yielded ops a.tmps) = true then Oper.wp P o a w K' Q else K' (a.put o.dst undef) w)
  (hr : Region.ready md ops listed = [i] := by kernel_rfl) : wpAnyB P md ops Q S T d (fuel + 1) listed a w :=
 wR hr (by simp) (.c ho h .n)
theorem wE {fuel:Nat} {listed:Array Bool} {a:Act} {w:World} (hr:(Region.ready md ops listed).isEmpty=true) (h:Q .normal a w):wpAnyB P md ops Q S T d fuel listed a w :=
 wpAnyB_done (List.isEmpty_iff.1 hr) h fuel
end
end Go.Proofs.Ytjjclcmmfeegfaa
namespace Go.Proofs.Ytjjclcmmfeegfaa
open Go.RowKit
def PatOfP (fn:FuncId) (v:V):Prop:=∀ (w:World) (cs:List Value) (G:List Nat),VR w v cs G→Under w G→v.size≤1048576 →
 Calls Try.prog fn #[.agg cs.toArray] w (MadePt (patOf v) w)
def ByR (_:World) (x:Int) (cs:List Value) (F:List Nat):Prop:=cs=[.int .u8 x]∧F=[]∧0≤x∧x≤255
theorem ByR_len (w:World) (x:Int) (cs:List Value) (F:List Nat) (h:ByR w x cs F):cs.length=1:=by rw [h.1];rfl
theorem ArrBy.mono {w w':World} {vs:List Int} {x:Value} {F:List Nat} (h:Arr w (ByR w) vs x F) (hF:Kept F w w'):Arr w' (ByR w') vs x F:=h.mono hF fun v _ cs G _ h=>h
theorem ArrBy.at {w:World} {b off n cap:Nat} {F:List Nat} {xs:List Int} (h:Arr w (ByR w) xs (.slice (some ⟨b,off,none⟩) n cap) F) (hF:Under w F) (i:Nat) (hi:i<xs.length) :
  b<w.heap.size∧b∈F∧w.cell? ⟨b,off+i,none⟩=some (.int .u8 xs[i])∧0≤xs[i]∧xs[i]≤255:=by
 obtain ⟨b',off',cs,G,e,hb,hcs,hv,hG⟩:=h.get (ByR_len w) hi
 cases e
 obtain ⟨rfl,-,h0,h1⟩:=hv
 have:=hcs 0 _ rfl
 simp only [Nat.mul_one,Nat.add_zero] at this
 exact ⟨hF _ hb,hb,this,h0,h1⟩
theorem Arr.take {α:Type} {w:World} {R:α→List Value→List Nat→Prop} {xs:List α} {A:Option Addr} {n cap:Nat} {F:List Nat} (h:Arr w R xs (.slice A n cap) F) (m:Nat) (hm:m≤xs.length) (hm0:0<m):∃ G,Arr w R (xs.take m) (.slice A m cap) G∧∀ b∈G,b∈F:=by
 obtain ⟨A',cap',hv,h1,h2,h3⟩:=h
 cases hv
 have hl:(xs.take m).length=m:=by rw [List.length_take];omega
 rcases h3 with ⟨rfl,-⟩ | ⟨b,off,cs,G,rfl,hc,hf,rfl⟩
 ·simp at hm;omega
 ·have hxs:xs=xs.take m ++ xs.drop m:=(List.take_append_drop m xs).symm
  rw [hxs] at hf
  obtain ⟨c1,c2,F1,F2,rfl,rfl,g1,g2⟩:=Flat.split (xs.take m) hf
  exact ⟨b :: F1,⟨_,cap,by rw [hl],by rw [hl];omega,h2,.inr ⟨b,off,c1,F1,rfl,hc.left,g1,rfl⟩⟩,fun x hx=>by
   rcases List.mem_cons.1 hx with h | h
   ·simp [h]
   ·simp [h]⟩
def Rd (w:World) (g p:Nat):Prop:=∃ A cap bs F,Blk w g 99 #[.slice A bs.length cap,(p:Int)]∧Arr w (ByR w) bs (.slice A bs.length cap) F∧Under g F∧bs.length≤2000
theorem Rd.lt {w:World} {g p:Nat} (h:Rd w g p):g<w.heap.size:=by obtain ⟨A,cap,bs,F,h1,-⟩:=h;exact h1.lt
theorem Rd.below {w w':World} {g p:Nat} (h:Rd w g p) (hb:Below w w w'):Rd w' g p:=by
 obtain ⟨A,cap,bs,F,h1,h2,h3,h5⟩:=h
 exact ⟨A,cap,bs,F,h1.same (hb.block _ h1.lt),ArrBy.mono h2 (.of_below hb (h3.mono (Nat.le_of_lt h1.lt))),h3,h5⟩
theorem Rd.set {w:World} {g p b j:Nat} {u:Value} (h:Rd w g p) (hb:g<b):Rd (w.setCell ⟨b,j,none⟩ u) g p:=by
 obtain ⟨A,cap,bs,F,h1,h2,h3,h5⟩:=h
 exact ⟨A,cap,bs,F,h1.same (zz7 _ _ _ _ (by show g≠b;omega)),ArrBy.mono h2 (fun c hc=>zz7 _ _ _ _ (by have:=h3 c hc;show c≠b;omega)),h3,h5⟩
theorem Rd.drew {w:World} {g p:Nat} (h:Rd w g p):Rd w.drew g p:=h
theorem Rd.drewN {w:World} {g p:Nat} (h:Rd w g p) (n:Nat):Rd (w.drewN n) g p:=h
theorem i64_xor_nat (a b:Nat) (ha:a<9223372036854775808) (hb:b<9223372036854775808):bits .xor .i64 (a:Int) (b:Int)=((a ^^^ b:Nat):Int):=by
 have hx:a ^^^ b<2 ^ 63:=Nat.xor_lt_two_pow (by omega) (by omega)
 show IntKind.i64.wrap ((BitVec.ofInt 64 (a:Int) ^^^ BitVec.ofInt 64 (b:Int)).toNat:Int)=_
 rw [BitVec.toNat_xor,ofInt_u64 a (by omega),ofInt_u64 b (by omega)]
 exact IntWalk.i64_in _ (by omega)
theorem zAG (n p g:Nat) (w:World) (h:Rd w g p) (hp:p≤1000000) (hn:1≤n) (hn2:n≤1000000) :
  Calls Try.prog 36 #[.pointer (some ⟨g,0,none⟩),(n:Int)] w fun e w'=>∃ r:Nat,e=.returned (.int .i64 (r:Int))∧r<n∧Rd w' g (p+1)∧Chg [g] w w':=by
 obtain ⟨A,cap,bs,F,hk,ha,hu,hbl⟩:=h
 have hf:Under w F:=hu.mono (Nat.le_of_lt hk.lt)
 have hg:g∉F:=fun h=>Nat.lt_irrefl _ (hu g h)
 have HU:=jj hu
 clear hu
 have c0:w.cell? ⟨g,0,none⟩=some (.slice A bs.length cap):=(hk.cell 0).trans (by simp)
 have c1:w.cell? ⟨g,1,none⟩=(p:Int):=(hk.cell 1).trans (by simp)
 have f1:=hk.frozen 1
 have hlt:=hk.lt
 have HK:=jj hk
 have HA:=jj ha
 have HF:=jj hf
 have HG:=jj hg
 clear hk ha hf hg
 have t0:decide ((n:Int)<1)=false:=decide_eq_false (by omega)
 have KR:Blk (w.setCell ⟨g,1,none⟩ (.int .i64 ((p:Int)+1))) g 99 #[.slice A bs.length cap,.int .i64 ((p:Int)+1)]:=HK.out.set_ 1 _
 have hCG:Chg [g] w (w.setCell ⟨g,1,none⟩ (.int .i64 ((p:Int)+1))):=(Chg.refl _ _).set (by simp)
 have hRd:Hid (Rd (w.setCell ⟨g,1,none⟩ (.int .i64 ((p:Int)+1))) g (p+1)):=⟨A,cap,bs,F,KR,ArrBy.mono HA.out (hCG.kept HF.out (fun b hb=>by simp;intro e;exact HG.out (e▸hb))),HU.out,hbl⟩
 have HCG:=jj hCG
 clear KR hCG
 by_cases hb0:bs.length=0
 ·have t1:((bs.length:Int)==0)=true:=beq_iff_eq.2 (by omega)
  go_enter Try.func36,Try.ntmps36
  go_wp2
  go_ret
  exact ⟨0,rfl,by omega,hRd.out,HCG.out⟩
 ·have t1:((bs.length:Int)==0)=false:=by rw [beq_eq_false_iff_ne];omega
  obtain ⟨b,off,rfl⟩:=HA.out.ptr (by omega)
  by_cases hpl:p<bs.length
  ·have t2:decide ((p:Int)<(bs.length:Int))=true:=decide_eq_true (by omega)
   have g1:(0:Int)≤(p:Int):=by omega
   obtain ⟨hbw,hbF,x0,hx0,hx1⟩:=ArrBy.at HA.out HF.out p hpl
   have hbg:g≠b:=fun e=>HG.out (e▸hbF)
   generalize hX:bs[p]=X at *
   obtain ⟨Xn,rfl⟩:=Int.eq_ofNat_of_zero_le hx0
   have hw1:IntKind.i64.wrap (Xn:Int)=(Xn:Int):=IntWalk.i64_in _ (by omega)
   clear hX
   go_enter Try.func36,Try.ntmps36
   go_wp2
   go_ret
   exact ⟨Xn % n,rfl,Nat.mod_lt _ (by omega),hRd.out,HCG.out⟩
  ·have t2:decide ((p:Int)<(bs.length:Int))=false:=decide_eq_false (by omega)
   obtain ⟨q1,hq1⟩:∃ q,q=p % bs.length:=⟨_,rfl⟩
   obtain ⟨q2,hq2⟩:∃ q,q=(p*7+3) % bs.length:=⟨_,rfl⟩
   obtain ⟨q3,hq3⟩:∃ q,q=p / bs.length:=⟨_,rfl⟩
   have l1:q1<bs.length:=by rw [hq1];exact Nat.mod_lt _ (by omega)
   have l2:q2<bs.length:=by rw [hq2];exact Nat.mod_lt _ (by omega)
   have l3:q3≤1000000:=by rw [hq3];exact Nat.le_trans (Nat.div_le_self _ _) hp
   obtain ⟨hbw,hbF,x1,hx0,hx1⟩:=ArrBy.at HA.out HF.out q1 l1
   obtain ⟨-,-,x2,hy0,hy1⟩:=ArrBy.at HA.out HF.out q2 l2
   have hbg:g≠b:=fun e=>HG.out (e▸hbF)
   generalize hX:bs[q1]=X at *
   generalize hY:bs[q2]=Y at *
   obtain ⟨Xn,rfl⟩:=Int.eq_ofNat_of_zero_le hx0
   obtain ⟨Yn,rfl⟩:=Int.eq_ofNat_of_zero_le hy0
   have m1:(p:Int).tmod (bs.length:Int)=(q1:Int):=by rw [Int.tmod_eq_emod_of_nonneg (by omega),hq1];rfl
   have m1':(p:Int) % (bs.length:Int)=(q1:Int):=by rw [hq1];rfl
   have m2:((p:Int)*7+3).tmod (bs.length:Int)=(q2:Int):=by rw [Int.tmod_eq_emod_of_nonneg (by omega),hq2];push_cast;rfl
   have m2':((p:Int)*7+3) % (bs.length:Int)=(q2:Int):=by rw [hq2];push_cast;rfl
   have m3:(p:Int).tdiv (bs.length:Int)=(q3:Int):=by rw [hq3];rfl
   have m3':(p:Int) / (bs.length:Int)=(q3:Int):=by rw [hq3];rfl
   have n1:(0:Int)≤(q1:Int):=by omega
   have n2:(q1:Int)<(bs.length:Int):=by omega
   have n3:(0:Int)≤(q2:Int):=by omega
   have n4:(q2:Int)<(bs.length:Int):=by omega
   have n5:(bs.length:Int)≠0:=by omega
   have a1:IntKind.i64.wrap ((Xn:Int)*131)=(Xn:Int)*131:=IntWalk.i64_in _ (by omega)
   have a2:IntKind.i64.wrap ((p:Int)*7)=(p:Int)*7:=IntWalk.i64_in _ (by omega)
   have a3:IntKind.i64.wrap ((p:Int)*7+3)=(p:Int)*7+3:=IntWalk.i64_in _ (by omega)
   have a4:IntKind.i64.wrap ((Yn:Int)*1117)=(Yn:Int)*1117:=IntWalk.i64_in _ (by omega)
   have a5:IntKind.i64.wrap ((Xn:Int)*131+(Yn:Int)*1117)=(Xn:Int)*131+(Yn:Int)*1117:=IntWalk.i64_in _ (by omega)
   have a6:IntKind.i64.wrap ((p:Int)*29)=(p:Int)*29:=IntWalk.i64_in _ (by omega)
   have a7:IntKind.i64.wrap ((Xn:Int)*131+(Yn:Int)*1117+(p:Int)*29)=(Xn:Int)*131+(Yn:Int)*1117+(p:Int)*29:=IntWalk.i64_in _ (by omega)
   have a8:IntKind.i64.wrap (q3:Int)=(q3:Int):=IntWalk.i64_in _ (by omega)
   have a9:IntKind.i64.wrap ((q3:Int)*53)=(q3:Int)*53:=IntWalk.i64_in _ (by omega)
   have aa:IntKind.i64.wrap ((Xn:Int)*131+(Yn:Int)*1117+(p:Int)*29+(q3:Int)*53)=(Xn:Int)*131+(Yn:Int)*1117+(p:Int)*29+(q3:Int)*53:=IntWalk.i64_in _ (by omega)
   have ab:IntKind.i64.wrap (Xn:Int)=(Xn:Int):=IntWalk.i64_in _ (by omega)
   have ac:IntKind.i64.wrap (Yn:Int)=(Yn:Int):=IntWalk.i64_in _ (by omega)
   obtain ⟨T,hT⟩:∃ T:Nat,(Xn:Int)*131+(Yn:Int)*1117+(p:Int)*29+(q3:Int)*53=(T:Int):=⟨Xn*131+Yn*1117+p*29+q3*53,by push_cast;rfl⟩
   have hTl:T≤1000000000:=by omega
   have hd:(T:Int).tdiv 64=((T / 64:Nat):Int):=rfl
   have hd':(T:Int) / 64=((T / 64:Nat):Int):=rfl
   have hxr:=i64_xor_nat T (T / 64) (by omega) (by omega)
   have hxw:IntKind.i64.wrap ((T / 64:Nat):Int)=((T / 64:Nat):Int):=IntWalk.i64_in _ (by omega)
   clear hX hY hq1 hq2 hq3 hb0
   go_enter Try.func36,Try.ntmps36
   go_wp2_with fail
   have hxr2:bits .xor .i64 (T:Int) ((T:Int) / 64)=((T ^^^ (T / 64):Nat):Int):=hxr
   have hXl:T ^^^ (T / 64)<2 ^ 40:=Nat.xor_lt_two_pow (by omega) (by omega)
   generalize hXe:T ^^^ (T / 64)=X at hxr hxr2 hXl
   have hXm:(X:Int).tmod (n:Int)=((X % n:Nat):Int):=rfl
   have hXw:IntKind.i64.wrap (X:Int)=(X:Int):=IntWalk.i64_in _ (by omega)
   clear hXe hxr hd hd' hxw
   go_quiet (fail)
   clear x1 x2 m1 m1' m2 m2' m3 m3' n1 n2 n3 n4 n5 a1 a2 a3 a4 a5 a6 a7 a8 a9 aa ab ac
   go_wp2
   go_ret
   exact ⟨X % n,rfl,Nat.mod_lt _ (by omega),hRd.out.drewN _,HCG.out.drewN _⟩
theorem spec_l17Open (bs:List Int) (w:World) (v:Value) (F:List Nat) (hx:Arr w (ByR w) bs v F) (hf:Under w F) :
  Calls Try.prog 33 #[v] w fun e w'=>∃ g:Nat,e=.returned (.pointer (some ⟨g,0,none⟩))∧w.heap.size≤g∧Below w w w'∧Rd w' g 0:=by
 obtain ⟨A,cap,rfl,hc1,hc2⟩:=hx.form
 have hbl:∀ (A:Option Addr) (cap:Nat) (bs:List Int) (F:List Nat),Arr w (ByR w) bs (.slice A bs.length cap) F→Under w F→bs.length≤2000→Rd (w.alloc (.cells #[.slice A bs.length cap,(0:Int)] 99)) w.heap.size 0:=fun A cap bs F h1 h2 h3 =>
  ⟨A,cap,bs,F,Blk.new _ _ _,ArrBy.mono h1 (.of_below ((zy2 _ _).alloc (zz8 _) _) h2),h2,h3⟩
 have HBL:=jj hbl
 have HX:=jj hx
 have HF:=jj hf
 clear hx hf
 clear hbl
 by_cases hl:2000<bs.length
 ·have t0:decide ((bs.length:Int)>2000)=true:=decide_eq_true (by omega)
  obtain ⟨b,off,rfl⟩:=HX.out.ptr (by omega)
  obtain ⟨G,hG,hGF⟩:=HX.out.take 2000 (by omega) (by omega)
  have hlt:(bs.take 2000).length=2000:=by rw [List.length_take];omega
  have hr:=HBL.out (some ⟨b,off,none⟩) cap (bs.take 2000) G (by rw [hlt];exact hG) (HF.out.sub hGF) (by rw [hlt];exact zz8 _)
  rw [hlt] at hr
  have HRD:=jj hr
  have g1:(2000:Int)≤(bs.length:Int):=by omega
  have g2:2000≤cap:=by omega
  clear hr hG hlt
  go_enter Try.func33,Try.ntmps33
  go_wp2
  go_ret
  exact ⟨w.heap.size,rfl,zz8 _,(zy2 _ _).alloc (zz8 _) _,HRD.out⟩
 ·have t0:decide ((bs.length:Int)>2000)=false:=decide_eq_false (by omega)
  have HRD:=jj (HBL.out _ _ _ F HX.out HF.out (by omega))
  go_enter Try.func33,Try.ntmps33
  go_wp2
  go_ret
  exact ⟨w.heap.size,rfl,zz8 _,(zy2 _ _).alloc (zz8 _) _,HRD.out⟩
def bs (l:List UInt8):ByteArray:=⟨l.toArray⟩
theorem bs_toList (l:List UInt8):(bs l).data.toList=l:=rfl
theorem bs_size (l:List UInt8):(bs l).size=l.length:=rfl
def cutGo (c:UInt8):List UInt8→List UInt8→List (List UInt8)
 |cur,[]=>[cur]
 |cur,x :: xs=>if x=c then cur :: cutGo c [] xs else cutGo c (cur ++ [x]) xs
def cutL (c:UInt8) (l:List UInt8):List (List UInt8):=cutGo c [] l
def findGo (s:List UInt8):Nat→List (List UInt8)→Int
 |_,[] => -2
 |i,x :: xs=>if x=s then (i:Int) else findGo s (i+1) xs
def findL (names:List (List UInt8)) (s:List UInt8):Int:=if s=[73] then -1 else findGo s 0 names
def idxOf (rest:List UInt8):Int:=if rest=[42] then -1 else match rest with
  |[x]=>if 48≤x.toNat∧x.toNat≤57 then (x.toNat:Int)-48 else 0
  |_=>0
def parseTy (names:List (List UInt8)):List UInt8→Ty
 |[]=>⟨-2,0⟩
 |c :: rest=>⟨findL names [c],idxOf rest⟩
def headL (l:List (List UInt8)):List UInt8:=match l with | []=>[] | x :: _=>x
def parseArgs (names:List (List UInt8)) (parts:List (List UInt8)):List Ty :=
 match parts with
 |_ :: p :: _=>if p=[] then [] else ((cutL 44 (p.take (p.length-1))).take 4).map (parseTy names)
 |_=>[]
def parseBody (names:List (List UInt8)) (idx:Int) (s:List UInt8):Kt:=⟨bs (headL (cutL 40 s)),parseArgs names (cutL 40 s),idx⟩
def hasIdx (s:List UInt8):Bool:=decide (2<s.length) && decide (s.getD (s.length-2) 0=58)
def parseKt (names:List (List UInt8)) (s:List UInt8):Kt :=
 if hasIdx s=true then parseBody names (((s.getD (s.length-1) 0).toNat:Int)-48) (s.take (s.length-2)) else parseBody names 0 s
def parseDt (names:List (List UInt8)) (name:List UInt8) (rest:List UInt8):Dt:=⟨bs name,((cutL 124 rest).take 5).map (parseKt names)⟩
def splitGo:List (List UInt8)→Option (List (List UInt8×List UInt8))
 |[]=>some []
 |l :: ls=>match cutL 61 l with
  |[a,b]=>match splitGo ls with
   |some r=>some ((a,b) :: r)
   |none=>none
  |_=>none
def parseGo (text:List UInt8):Option (List Dt) :=
 if text=[] then some [] else
 match splitGo ((cutL 59 text).take 5) with
 |none=>none
 |some r=>some (r.map fun p=>parseDt (r.map Prod.fst) p.1 p.2)
def digT (i:Int):List UInt8:=[UInt8.ofNat (48+i.toNat)]
def idxT (i:Int):List UInt8:=if i=0 then [] else if i = -1 then [42] else digT i
def nameAt (xs:List Dt) (d:Int):List UInt8:=match xs[d.toNat]? with | some x=>x.name.data.toList | none=>[]
def tyT (xs:List Dt) (t:Ty):List UInt8:=if t.d = -1 then [73] else nameAt xs t.d ++ idxT t.i
def argsT (xs:List Dt):Bool→List Ty→List UInt8
 |_,[]=>[]
 |b,a :: l=>(if b=true then 40 else 44) :: (tyT xs a ++ argsT xs false l)
def endT (c:Kt):List UInt8:=if 0<c.idx then 58 :: digT c.idx else []
def closeT (c:Kt):List UInt8:=if 0<c.args.length then [41] else []
def ktT (xs:List Dt) (c:Kt):List UInt8:=c.name.data.toList ++ (argsT xs true c.args ++ (closeT c ++ endT c))
def ktsT (xs:List Dt):Bool→List Kt→List UInt8
 |_,[]=>[]
 |b,c :: l=>(if b=true then [] else [124]) ++ (ktT xs c ++ ktsT xs false l)
def dtsT (xs:List Dt):Bool→List Dt→List UInt8
 |_,[]=>[]
 |b,x :: l=>(if b=true then [] else [59]) ++ (x.name.data.toList ++ (61 :: (ktsT xs true x.ctors ++ dtsT xs false l)))
def textT (xs:List Dt):List UInt8:=dtsT xs true xs
def parseW (text:List UInt8):Option (List Dt):=match parseGo text with
 |none=>none
 |some xs=>if worldOk xs=true then if textT xs=text then some xs else none else none
def fineW (text:List UInt8):Bool:=match parseW text with
 |some (_ :: _)=>true
 |_=>false
theorem fineW_ex {text:List UInt8} (h:fineW text=true):∃ xs,parseW text=some xs∧worldOk xs=true∧0<xs.length:=by
 unfold fineW at h
 split at h
 ·rename_i x l e
  refine ⟨_,e,?_,by simp⟩
  unfold parseW at e
  split at e
  ·cases e
  ·split at e
   ·rename_i hw
    split at e
    ·cases e;exact hw
    ·cases e
   ·cases e
 ·cases h
def sevenT:List (List UInt8):=[
 [76,61,78,105,108,124,67,111,110,115,40,73,44,76,41],
 [66,61,84,114,117,124,70,108,115,59,84,61,76,101,97,102,124,78,111,100,101,40,84,44,66,44,84,41],
 [69,61,78,117,109,40,73,41,58,49,124,66,111,108,40,66,41,58,50,124,65,100,100,40,69,49,44,69,49,41,58,49,124,73,102,40,69,50,44,69,42,44,69,42,41,59,66,61,84,114,117,124,70,108,115],
 [79,61,78,111,110,124,83,111,109,40,73,41,59,80,61,80,97,105,114,40,79,44,79,41],
 [86,61,69,110,100,58,49,124,83,111,109,101,40,73,44,86,49,41,58,50,124,84,119,111,40,86,42,41],
 [78,61,78,101,118,101,114,40,78,41,59,66,61,84,114,117,124,70,108,115,124,77,97,121,40,78,41],
 [83,61,82,101,100,124,71,114,101,101,110,124,66,108,117,101,124,77,105,120,40,83,44,83,41]]
theorem sevenT_fine:sevenT.all fineW=true:=by decide +kernel
def tl (s:ByteArray):List UInt8:=s.data.toList
theorem zAJ (s:ByteArray):(tl s).length=s.size:=by unfold tl;simp
theorem tl_extract (s:ByteArray) (a b:Nat):tl (s.extract a b)=((tl s).take b).drop a:=by
 unfold tl
 rw [ByteArray.data_extract,Array.toList_extract,List.extract_eq_take_drop,List.drop_take]
theorem tl_at (s:ByteArray) (i:Nat) (h:i<s.size):(tl s)[i]'(by rw [zAJ];exact h)=s[i]:=rfl
theorem bs_tl (s:ByteArray):bs (tl s)=s:=rfl
theorem tl_bs (l:List UInt8):tl (bs l)=l:=rfl
theorem tl_inj {a b:ByteArray} (h:tl a=tl b):a=b:=by rw [←bs_tl a,←bs_tl b,h]
def cutS (c:UInt8) (s:ByteArray):List ByteArray:=(cutL c (tl s)).map bs
theorem info_strE:(Try.prog.info? 9).map (fun i=>(i.zero,i.size,i.bytes))=some (some (.string ⟨#[]⟩),1,16):=by kernel_rfl
def cutRest (c:UInt8) (s:ByteArray) (frm i:Nat):List ByteArray:=if i≤s.size then (cutGo c (((tl s).take i).drop frm) ((tl s).drop i)).map bs else []
theorem cutRest_start (c:UInt8) (s:ByteArray):cutRest c s 0 0=cutS c s:=by
 unfold cutRest cutS cutL
 rw [if_pos (Nat.zero_le _)]
 rfl
theorem cutRest_end (c:UInt8) (s:ByteArray) (frm:Nat):cutRest c s frm s.size=s.extract frm s.size :: cutRest c s (s.size+1) (s.size+1):=by
 unfold cutRest
 have hd:(tl s).drop s.size=[]:=List.drop_of_length_le (by rw [zAJ];exact zz8 _)
 rw [if_pos (zz8 _),if_neg (by omega),hd,cutGo,List.map_cons,List.map_nil,←tl_extract,bs_tl]
theorem cutRest_hit (c:UInt8) (s:ByteArray) (frm i:Nat) (hi:i<s.size) (h:s[i]=c):cutRest c s frm i=s.extract frm i :: cutRest c s (i+1) (i+1):=by
 unfold cutRest
 rw [if_pos (by omega),if_pos (by omega),List.drop_eq_getElem_cons (i:=i) (by rw [zAJ];exact hi),cutGo,if_pos (by rw [tl_at s i hi];exact h),List.map_cons,←tl_extract,bs_tl]
 congr 3
 rw [List.drop_of_length_le (by simp;omega)]
theorem cutRest_miss (c:UInt8) (s:ByteArray) (frm i:Nat) (hi:i<s.size) (hf:frm≤i) (h:s[i]≠c):cutRest c s frm i=cutRest c s frm (i+1):=by
 unfold cutRest
 rw [if_pos (by omega),if_pos (by omega),List.drop_eq_getElem_cons (i:=i) (by rw [zAJ];exact hi),cutGo,if_neg (by rw [tl_at s i hi];exact h)]
 congr 3
 rw [List.take_succ_eq_append_getElem (by rw [zAJ];exact hi),List.drop_append_of_le_length (by rw [List.length_take,zAJ];omega)]
theorem cutRest_over (c:UInt8) (s:ByteArray) (frm:Nat) {i:Nat} (h:s.size<i):cutRest c s frm i=[]:=if_neg (by omega)
theorem cutRest_len (c:UInt8) (s:ByteArray) (frm i:Nat):(cutRest c s frm i).length≤s.size+1-i:=by
 have key:∀ (l cur:List UInt8),(cutGo c cur l).length≤l.length+1:=by
  intro l
  induction l with
  |nil=>intro cur;simp [cutGo]
  |cons x xs ih =>
   intro cur
   rw [cutGo]
   split
   ·have:=ih [];simp;omega
   ·have:=ih (cur ++ [x]);simp;omega
 unfold cutRest
 split
 ·rw [List.length_map]
  have:=key ((tl s).drop i) (((tl s).take i).drop frm)
  rw [List.length_drop,zAJ] at this
  omega
 ·simp
theorem cutS_len (c:UInt8) (s:ByteArray):(cutS c s).length≤s.size+1:=by rw [←cutRest_start];exact cutRest_len c s 0 0
theorem cutS_mem (c:UInt8) (s:ByteArray):∀ x∈cutS c s,x.size≤s.size:=by
 have key:∀ (l cur:List UInt8),∀ x∈cutGo c cur l,x.length≤cur.length+l.length:=by
  intro l
  induction l with
  |nil=>intro cur x hx;rw [cutGo,zy1] at hx;subst hx;simp
  |cons y ys ih =>
   intro cur x hx
   rw [cutGo] at hx
   split at hx
   ·rcases List.mem_cons.1 hx with rfl | hx
    ·omega
    ·have:=ih [] x hx;simp at this ⊢;omega
   ·have:=ih _ x hx;simp at this ⊢;omega
 intro x hx
 unfold cutS at hx
 obtain ⟨l,hl,rfl⟩:=List.mem_map.1 hx
 have:=key _ _ l hl
 rw [zAJ] at this
 rw [bs_size]
 simpa using this
def MadeStrs (w:World) (xs:List ByteArray) (e:Ending) (w':World):Prop:=MadeArr StrR w xs e w'
theorem Own.strs {w0 w:World} {B:Nat} {E:TypeId} {xs:List ByteArray} {v:Value} (h:Own w B E 1 StrR xs v []) (hb:Below w0 w0 w) (hB:w0.heap.size≤B):MadeStrs w0 xs (.returned v) w :=
 h.gives hb hB (fun b hb=>by cases hb) (Free.nil _)
theorem ArrStr.at {w0 w:World} {b off n cap:Nat} {F:List Nat} {xs:List ByteArray} (h:Arr w0 (StrR w0) xs (.slice (some ⟨b,off,none⟩) n cap) F) (hF:Under w0 F) (hB:Below w0 w0 w) (i:Nat) (hi:i<xs.length) :
  b<w.heap.size∧w.cell? ⟨b,off+i,none⟩=some (.string xs[i]):=by
 obtain ⟨b',off',cs,G,e,hb,hcs,hv,hG⟩:=h.get (zAL w0) hi
 cases e
 have hbl:=hF _ hb
 have hc:=hcs.same (hB.block _ hbl)
 obtain ⟨rfl,-⟩:=hv
 have:=hc 0 _ rfl
 simp only [Nat.mul_one,Nat.add_zero] at this
 exact ⟨zz9 hbl hB.size,this⟩
theorem ArrStr.mono {w w':World} {vs:List ByteArray} {x:Value} {F:List Nat} (h:Arr w (StrR w) vs x F) (hF:Kept F w w'):Arr w' (StrR w') vs x F:=h.mono hF fun v _ cs G hk h=>StrR_mono _ _ v cs G hk h
theorem ArrStr.below {w w':World} {B:Nat} {vs:List ByteArray} {x:Value} {F:List Nat} (h:Arr w (StrR w) vs x F) (hb:Below B w w') (hF:Under B F):Arr w' (StrR w') vs x F:=ArrStr.mono h (.of_below hb hF)
theorem zAI (s:ByteArray) (c:UInt8) (hs:s.size≤1000000) (w:World) :
  Calls Try.prog 112 #[.string s,.int .u8 (c.toNat:Int)] w (MadeStrs w (cutS c s)):=by
 obtain ⟨i0,hi,hz0,hz1,hz2⟩:=info_parts info_strE
 have HI:=jj hi
 have HZ0:=jj hz0
 have HZ1:=jj hz1
 have HZ2:=jj hz2
 clear hi hz0 hz1 hz2
 have HO0:Hid (Own (w.alloc (.cells #[] 9)) w.heap.size 9 1 StrR ([]:List ByteArray) (.slice (some ⟨w,0,none⟩) 0 0) []):=Own.made w w.heap.size 9 1 StrR #[] 0 (zz8 _) (by simp [maxLen]) rfl
 have hB0:Below w w (w.alloc (.cells #[] 9)):=(zy2 _ _).alloc (zz8 _) _
 go_enter Try.func112,Try.ntmps112
 go_wp2
 go_loopw [5,6,7] (fun ov fv iv wr=>∃ frm i:Nat,∃ outs:List ByteArray,frm≤i∧i≤s.size+1∧iv=.int .i64 i∧fv=.int .i64 frm∧Hid (cutS c s=outs ++ cutRest c s frm i)∧Hid (Own wr w.heap.size 9 1 StrR outs ov [])∧Below w w wr∧outs.length≤i∧True) (fun _ _ iv _=>s.size+1-(intOf iv).toNat)
 case atStart=>exact ⟨0,0,[],zz8 _,Nat.zero_le _,rfl,rfl,(by rw [cutRest_start];rfl),HO0,hB0,zz8 _,trivial⟩
 case round =>
  clear hB0 HO0
  obtain ⟨frm,i,outs,hfi,his,rfl,rfl,HC,HO,hB,hol,-⟩:=hrel
  have g1:(0:Int)≤(i:Int):=by omega
  have g0:(0:Int)≤(frm:Int):=by omega
  by_cases hil:i≤s.size
  ·have hB1:=hB
   have HO1:=HO
   have hbs:=hB.size
   by_cases hie:i=s.size
   ·subst hie
    have q0:((s.size:Int)==(s.size:Int))=true:=by simp
    have HF:Hid (cutS c s=(outs ++ [s.extract frm s.size]) ++ cutRest c s (s.size+1) (s.size+1)):=by
     have:=HC.out
     rw [cutRest_end] at this
     rw [List.append_assoc];exact this
    go_wp2_with (at_builtin;refine Halt.mk ?_)
    refine Halt.of (zA6 (P:=Try.prog) rfl _ _ 115 rfl i0 _ 16 Try.underlying115 HI.out HZ0.out HZ1.out HZ2.out rfl Nat.zero_lt_one zAL StrR_mono (by rfl) HO1.out (s.extract frm s.size) 9 [.string (s.extract frm s.size)] [] _ (by rfl) (by simp) (by simp [Value.oneCell']) ⟨rfl,rfl⟩ (Under.nil _) (fun _ _ h=>by cases h) (by unfold maxLen;omega) (by omega) hbs ?_)
    intro g cp w3 hown3 hgr3 hat3
    have hrow:=HO1.out.row
    have hB3:Below w w w3:=(hB1.alloc hB1.size _).grown hgr3 (by have:=hB1.size;simp;omega) (fun g hg=>by have:=hrow g (zA2.2 hg);omega)
    have HO3:=jj hown3
    clear hown3 hgr3 hat3 hrow
    go_wp2
    go_roundw
    case rel=>exact ⟨s.size+1,s.size+1,outs ++ [s.extract frm s.size],by omega,by omega,by go_num,by go_num,HF,HO3,hB3,(by simp;omega),trivial⟩
    case measure=>(simp [intOf] <;> omega)
   ·have hlt:i<s.size:=by omega
    have q0:((i:Int)==(s.size:Int))=false:=by rw [beq_eq_false_iff_ne];omega
    have g2:(i:Int)<(s.size:Int):=by omega
    cases q1:((s[i].toNat:Int)==(c.toNat:Int)) with
    |true =>
     have hc:s[i]=c:=by rw [beq_iff_eq] at q1;exact UInt8.toNat_inj.1 (by omega)
     have HF:Hid (cutS c s=(outs ++ [s.extract frm i]) ++ cutRest c s (i+1) (i+1)):=by
      have:=HC.out
      rw [cutRest_hit c s frm i hlt hc] at this
      rw [List.append_assoc];exact this
     clear hc
     go_wp2_with (at_builtin;refine Halt.mk ?_)
     refine Halt.of (zA6 (P:=Try.prog) rfl _ _ 115 rfl i0 _ 16 Try.underlying115 HI.out HZ0.out HZ1.out HZ2.out rfl Nat.zero_lt_one zAL StrR_mono (by rfl) HO1.out (s.extract frm i) 9 [.string (s.extract frm i)] [] _ (by rfl) (by simp) (by simp [Value.oneCell']) ⟨rfl,rfl⟩ (Under.nil _) (fun _ _ h=>by cases h) (by unfold maxLen;omega) (by omega) hbs ?_)
     intro g cp w3 hown3 hgr3 hat3
     have hrow:=HO1.out.row
     have hB3:Below w w w3:=(hB1.alloc hB1.size _).grown hgr3 (by have:=hB1.size;simp;omega) (fun g hg=>by have:=hrow g (zA2.2 hg);omega)
     have HO3:=jj hown3
     clear hown3 hgr3 hat3 hrow
     go_wp2
     go_roundw
     case rel=>exact ⟨i+1,i+1,outs ++ [s.extract frm i],by omega,by omega,by go_num,by go_num,HF,HO3,hB3,(by simp;omega),trivial⟩
     case measure=>(simp [intOf] <;> omega)
    |false =>
     have hc:s[i]≠c:=fun e=>by rw [e] at q1;simp at q1
     have HF:Hid (cutS c s=outs ++ cutRest c s frm (i+1)):=by
      have:=HC.out
      rw [cutRest_miss c s frm i hlt hfi hc] at this
      exact this
     clear hc
     go_wp2
     go_roundw
     case rel=>exact ⟨frm,i+1,outs,by omega,by omega,by go_num,rfl,HF,HO,hB,by omega,trivial⟩
     case measure=>(simp [intOf] <;> omega)
  ·have hfin:MadeStrs w (cutS c s) (.returned u5) wr:=by
    have h:=HC.out
    rw [cutRest_over c s frm (by omega),List.append_nil] at h
    rw [h]
    exact HO.out.strs hB (zz8 _)
   have HFin:=jj hfin
   clear hfin
   go_wp2
   go_ret
   exact HFin.out
theorem num_any (ls:List Int) (hl1:1≤ls.length) (hl2:ls.length≤1000) (p g:Nat) (w:World) (h:Rd w g p) (hp:p≤1000000) (v:Value) (F:List Nat) (hx:Arr w (NatR w) ls v F) (hf:Under w F) (hg:g∉F) :
  Calls Try.prog 35 #[.pointer (some ⟨g,0,none⟩),v] w fun e w'=>∃ x,x∈ls∧e=.returned (.int .i64 x)∧Rd w' g (p+1)∧Chg [g] w w':=by
 obtain ⟨A,cap,rfl,hc1,hc2⟩:=hx.form
 obtain ⟨b,off,rfl⟩:=hx.ptr (by omega)
 have HX:=jj hx
 have HF:=jj hf
 have HG:=jj hg
 have HCALL:=jj (zAG ls.length p g w h hp hl1 (by omega))
 clear hx hf hg h
 go_enter Try.func35,Try.ntmps35
 go_wp2_with fail
 refine HCALL.out.mono ?_
 rintro e w' ⟨r,rfl,hr,hR,hC⟩
 obtain ⟨hb,c0⟩:=ArrNat.at HX.out HF.out (zy2 _ _) r hr
 have hbF:b∉[g]:=by
  obtain ⟨b',off',cs',G',e',hb',-⟩:=HX.out.get (NatR_len w) hr
  cases e'
  exact fun h=>HG.out (by rw [←List.mem_singleton.1 h];exact hb')
 have c1:w'.cell? ⟨b,off+r,none⟩=some (.int .i64 ls[r]):=(hC.cell hb hbF).trans c0
 have g1:(0:Int)≤(r:Int):=by omega
 have g2:(r:Int)<(ls.length:Int):=by omega
 have HR:=jj hR
 have HC:=jj hC
 have HM:=jj (List.getElem_mem hr)
 clear hR hC c0 HCALL
 go_wp2
 go_ret
 exact ⟨ls[r],HM.out,rfl,HR.out,HC.out⟩
theorem lit_nums (w:World) (ls:List Int) (hl:ls.length≤1000):Arr (w.alloc (.cells (ls.map (Value.int .i64)).toArray 3)) (NatR (w.alloc (.cells (ls.map (Value.int .i64)).toArray 3))) ls (.slice (some ⟨w,0,none⟩) ls.length ls.length) [w.heap.size]:=by
 refine ⟨_,_,rfl,zz8 _,by unfold maxLen;omega,.inr ⟨w.heap.size,0,ls.map (Value.int .i64),[],rfl,fun j u hj=>?_,?_,rfl⟩⟩
 ·rw [Nat.zero_add]
  refine ((Blk.new w 3 (ls.map (Value.int .i64)).toArray).cell j).trans ?_
  simpa using hj
 ·clear hl
  induction ls with
  |nil=>exact ⟨rfl,rfl⟩
  |cons x xs ih=>exact ⟨[.int .i64 x],xs.map (Value.int .i64),[],[],rfl,rfl,⟨rfl,rfl⟩,ih⟩
theorem num_lit (ls:List Int) (hl1:1≤ls.length) (hl2:ls.length≤1000) (p g:Nat) (w:World) (h:Rd w g p) (hp:p≤1000000) :
  Calls Try.prog 35 #[.pointer (some ⟨g,0,none⟩),.slice (some ⟨w,0,none⟩) ls.length ls.length] (w.alloc (.cells (ls.map (Value.int .i64)).toArray 3)) fun e w'=>∃ x,x∈ls∧e=.returned (.int .i64 x)∧Rd w' g (p+1)∧Chg [g] w w':=by
 have hb:Below w w (w.alloc (.cells (ls.map (Value.int .i64)).toArray 3)):=(zy2 _ _).alloc (zz8 _) _
 have hlt:=h.lt
 refine (num_any ls hl1 hl2 p g _ (h.below hb) hp _ _ (lit_nums w ls hl2) (fun b hb=>by rw [List.mem_singleton.1 hb];simp) (fun e=>by rw [zy1] at e;omega)).mono ?_
 rintro e w' ⟨x,hx,rfl,hR,hC⟩
 exact ⟨x,hx,rfl,hR,(Chg.of_below hb).trans hC⟩
theorem Chg.set_new {F:List Nat} {w w2:World} {b j:Nat} {u:Value} (h:Chg F w w2) (hb:w.heap.size≤b):Chg F w (w2.setCell ⟨b,j,none⟩ u) :=
 ⟨h.os,h.tape,h.output,Nat.le_trans h.size (by simp [World.setCell]),fun c hc hF=>(zz7 _ _ _ _ (by show c≠b;omega)).trans (h.block c hc hF)⟩
def DrewTy (g p n:Nat) (w:World) (e:Ending) (w':World):Prop:=∃ (t:Ty) (q:Nat),e=.returned (.agg #[t.d,t.i])∧Rd w' g q∧q≤p+n∧Chg [g] w w'
theorem Chg.frozen {F:List Nat} {w w':World} (h:Chg F w w') {p:Addr} (hp:p.block<w.heap.size) (hn:p.block∉F):w'.frozen? p=w.frozen? p:=World.frozen?_of_block (w:=w) (h.block p.block hp hn)
theorem Rd.keep {w w':World} {g p:Nat} (h:Rd w g p) (hk:∀ b,b≤g→w'.heap[b]?=w.heap[b]?):Rd w' g p:=by
 obtain ⟨A,cap,bs,F,h1,h2,h3,h5⟩:=h
 exact ⟨A,cap,bs,F,h1.same (hk g (zz8 _)),ArrBy.mono h2 (fun b hb=>hk b (Nat.le_of_lt (h3 b hb))),h3,h5⟩
theorem Own.chg {α:Type} {R:World→α→List Value→List Nat→Prop} {w w':World} {B k:Nat} {E:TypeId} {xs:List α} {v:Value} {F L:List Nat} (hRm:∀ w w' x cs G,Kept G w w'→R w x cs G→R w' x cs G) (h:Own w B E k R xs v F) (hc:Chg L w w') (hL:∀ b∈L,b<B) (hF:∀ b∈F,B≤b):Own w' B E k R xs v F :=
 h.mono (fun x cs G hk h=>hRm _ _ x cs G hk h) (hc.kept (fun b hb=>by
  rcases List.mem_append.1 hb with h1 | h1
  ·exact (h.row b h1).2
  ·exact h.under b h1) (fun b hb hl=>by
  have h2:=hL b hl
  rcases List.mem_append.1 hb with h1 | h1
  ·have:=(h.row b h1).1;omega
  ·have:=hF b h1;omega)) hc.size
section
variable {α : Type} {w w9 wr wA w7 : World} {D Bz H k g : Nat} {T E : TypeId} {cells : Array Value} {R : World → α → List Value → List Nat → Prop} {xs ys : List α} {v v' : Value} {F G : List Nat} {o : Obj}
theorem kid_round3 (j:Nat) (hRm:∀ w w' x cs G,Kept G w w'→R w x cs G→R w' x cs G) (hw9:w9.heap.size=Bz) (hDB:D<Bz) (hgw:g<w.heap.size) (hwD:w.heap.size≤D) (KD:Blk wr D T cells) (HO:Own wr Bz E k R xs v F) (HFh:∀ b∈F,Bz≤b) (HC:Chg [D,g] w9 wr) (hB:Chg [g] w wr)
  (hBu:Chg [g] wr wA) (hfsA:∀ b∈G,wr.heap.size≤b∧b<wA.heap.size) (hown:Own w7 Bz E k R ys v' (F ++ G)) (hgr:(wA.alloc o).grownBy w7 v.ownBlock) {p:Nat} (hR:Rd wA g p) :
  Blk (w7.setCell ⟨D,j,none⟩ v') D T (cells.setIfInBounds j v')∧Own (w7.setCell ⟨D,j,none⟩ v') Bz E k R ys v' (F ++ G)∧(∀ b∈F ++ G,Bz≤b)∧Chg [D,g] w9 (w7.setCell ⟨D,j,none⟩ v')∧Chg [g] w (w7.setCell ⟨D,j,none⟩ v')∧w9.heap.size≤(w7.setCell ⟨D,j,none⟩ v').heap.size∧Rd (w7.setCell ⟨D,j,none⟩ v') g p:=by
 have hlt:=KD.lt
 have hA:=hBu.size
 have hz:=HC.size
 rw [hw9] at hz
 have hws:=hB.size
 have hFG:∀ b∈F ++ G,Bz≤b:=fun b hb=>by
  rcases List.mem_append.1 hb with h | h
  ·exact HFh b h
  ·have:=(hfsA b h).1;omega
 have hBA7:Below Bz wA w7:=((zy2 Bz wA).alloc (by omega) o).grown hgr (by rw [World.size_alloc];omega) (fun g hg=>(HO.row g (zA2.2 hg)).1)
 have hC7:Chg [D,g] w9 w7:=chg_under (HC.trans (hBu.mono (by simp))) (by rw [hw9];exact hBA7)
 have hC8:Chg [D,g] w9 (w7.setCell ⟨D,j,none⟩ v'):=hC7.set (by simp)
 have hne:∀ b∈F ++ G,b≠D:=fun b hb e=>by have:=hFG b hb;omega
 have hD7:w7.heap[D]?=wr.heap[D]?:=(hBA7.block D (by omega)).trans (hBu.block D hlt (by rw [zy1];omega))
 refine ⟨(KD.same hD7).set_ j v',Own.set (j:=j) hRm hown v' (fun h=>by have:=(hown.row _ h).1;omega) (fun h=>hne _ h rfl),hFG,hC8,?_,hC8.size,hR.keep fun b hb=>?_⟩
 ·exact (chg_under (hB.trans hBu) (hBA7.mono (by omega))).set_new hwD
 ·exact (zz7 w7 ⟨D,j,none⟩ v' b (by show b≠D;omega)).trans (hBA7.block b (by omega))
theorem kid_done3 (HO:Own wr D E k R xs v F) (HFh:∀ b∈F,D≤b) (hHD:H≤D):∃ FF,Arr wr (R wr) xs v FF∧∀ b∈FF,H≤b∧b<wr.heap.size :=
 ⟨_,HO.arr,fun b hb=>by
  split at hb
  ·cases hb
  ·rcases List.mem_append.1 hb with h | h
   ·have:=HO.row b h;omega
   ·have:=HFh b h;have:=HO.under b h;omega⟩
end
def findS (names:List ByteArray) (s:ByteArray):Int:=findL (names.map tl) (tl s)
def findR (names:List ByteArray) (s:ByteArray) (k:Nat):Int:=findGo (tl s) k ((names.drop k).map tl)
theorem findR_hit {names:List ByteArray} {s:ByteArray} {k:Nat} (hk:k<names.length) (h:tl names[k]=tl s):findR names s k=(k:Int):=by
 unfold findR
 rw [List.drop_eq_getElem_cons hk,List.map_cons,findGo,if_pos h]
theorem findR_miss {names:List ByteArray} {s:ByteArray} {k:Nat} (hk:k<names.length) (h:¬tl names[k]=tl s):findR names s k=findR names s (k+1):=by
 unfold findR
 rw [List.drop_eq_getElem_cons hk,List.map_cons,findGo,if_neg h]
theorem findR_end {names:List ByteArray} {s:ByteArray} {k:Nat} (hk:names.length≤k):findR names s k = -2:=by
 unfold findR
 rw [List.drop_of_length_le hk];rfl
theorem zA8 (s:ByteArray):s.toList=tl s:=ByteArray.toList_eq s
theorem Blk.pair {w:World} {H:Nat} {T:TypeId} {a b:Value} (h:Blk w H T #[a,b]) (x y:Value) (o:Obj):Blk (((w.setCell ⟨H,0,none⟩ x).setCell ⟨H,1,none⟩ y).alloc o) H T #[x,y]:=by
 have h2:Blk ((w.setCell ⟨H,0,none⟩ x).setCell ⟨H,1,none⟩ y) H T #[x,y]:=(h.set_ 0 x).set_ 1 y
 exact h2.same (Below.heap_alloc _ _ _ h2.lt)
theorem below_pair {w w2:World} {B H:Nat} (h:Below B w w2) (hw:B≤w.heap.size) (hH:B≤H) (x y:Value) (o:Obj):Below B w (((w2.setCell ⟨H,0,none⟩ x).setCell ⟨H,1,none⟩ y).alloc o):=by
 have h2:Below B w ((w2.setCell ⟨H,0,none⟩ x).setCell ⟨H,1,none⟩ y):=(h.setCell hH _).setCell hH _
 exact h2.alloc (by have:=h.size;simp [World.setCell];omega) _
theorem ret_ty {t:Ty} {a b:Int} (h:t=⟨a,b⟩):Ending.returned (.agg #[.int .i64 a,.int .i64 b])=.returned (.agg #[t.d,t.i]):=by rw [h]
def pty (names:List ByteArray) (s:ByteArray):Ty:=parseTy (names.map tl) (tl s)
theorem pty_cons (names:List ByteArray) (s:ByteArray) (h:1≤s.size):pty names s=⟨findS names (s.extract 0 1),idxOf (tl (s.extract 1 s.size))⟩:=by
 have e1:tl (s.extract 0 1)=[s[0]]:=by
  rw [tl_extract,List.drop_zero]
  have:(tl s).take 1=[(tl s)[0]'(by rw [zAJ];omega)]:=by
   rw [List.take_one]
   rw [List.head?_eq_getElem?,List.getElem?_eq_getElem (by rw [zAJ];omega)];rfl
  exact this
 have e2:tl s=s[0] :: tl (s.extract 1 s.size):=by
  rw [tl_extract,List.take_of_length_le (by rw [zAJ];exact zz8 _)]
  exact bytes_cons s (by omega)
 unfold pty
 rw [e2,parseTy]
 unfold findS
 rw [e1]
theorem idxOf_star {l:List UInt8} (h:l=[42]):idxOf l = -1:=if_pos h
theorem idxOf_not {s:ByteArray} (h:¬tl (s.extract 1 s.size)=[42]) (h2:s.size≠2):idxOf (tl (s.extract 1 s.size))=0:=by
 unfold idxOf
 rw [if_neg h]
 split
 ·rename_i x e
  have:=zAJ (s.extract 1 s.size)
  rw [e,ByteArray.size_extract] at this
  simp at this
  omega
 ·rfl
theorem idxOf_two {s:ByteArray} (h:¬tl (s.extract 1 s.size)=[42]) (h2:s.size=2) (p2:1<s.size):idxOf (tl (s.extract 1 s.size))=if 48≤s[1].toNat∧s[1].toNat≤57 then (s[1].toNat:Int)-48 else 0:=by
 have e:tl (s.extract 1 s.size)=[s[1]]:=by
  rw [tl_extract,List.take_of_length_le (by rw [zAJ];exact zz8 _),List.drop_eq_getElem_cons (by rw [zAJ];omega),List.drop_of_length_le (by rw [zAJ];omega)]
  rfl
 rw [e] at h ⊢
 unfold idxOf
 rw [if_neg h]
theorem spec_l1Find (names:List ByteArray) (s:ByteArray) (w:World) (v:Value) (F:List Nat) (hx:Arr w (StrR w) names v F) (hf:Under w F) :
  Calls Try.prog 127 #[v,.string s] w fun e w'=>e=.returned (.int .i64 (findS names s))∧Below w w w':=by
 obtain ⟨A,cap,rfl,hc1,hc2⟩:=hx.form
 have HX:=jj hx
 have HF:=jj hf
 clear hx hf
 cases q0:(s.toList==[73]) with
 |true =>
  have hf:Hid (findS names s = -1):=by
   rw [beq_iff_eq,zA8] at q0
   unfold Hid findS findL;rw [if_pos q0]
  go_enter Try.func127,Try.ntmps127
  go_wp2
  go_ret
  exact ⟨zAP hf.out.symm,zy2 _ _⟩
 |false =>
  have hf:Hid (findS names s=findR names s 0):=by
   rw [beq_eq_false_iff_ne,zA8] at q0
   unfold Hid findS findL;rw [if_neg q0];rfl
  go_enter Try.func127,Try.ntmps127
  go_wp2
  go_loopw [5] (fun iv wr=>∃ k:Nat,k≤names.length∧iv=.int .i64 k∧Hid (findS names s=findR names s k)∧Below w w wr) (fun iv _=>names.length-(intOf iv).toNat)
  case atStart=>exact ⟨0,Nat.zero_le _,rfl,hf,zy2 _ _⟩
  case round =>
   obtain ⟨k,hk,rfl,HT,hB⟩:=hrel
   by_cases hlt:k<names.length
   ·have g1:(0:Int)≤(k:Int):=by omega
    have g2:(k:Int)<(names.length:Int):=by omega
    obtain ⟨b,off,rfl⟩:=HX.out.ptr (by omega)
    obtain ⟨hb,c0⟩:=ArrStr.at HX.out HF.out hB k hlt
    cases q1:(names[k].toList==s.toList) with
    |true =>
     have hf:Hid (findS names s=(k:Int)):=by
      rw [beq_iff_eq,zA8,zA8] at q1
      exact HT.out.trans (findR_hit hlt q1)
     go_wp2
     go_ret
     exact ⟨zAP hf.out.symm,hB⟩
    |false =>
     have hf:Hid (findS names s=findR names s (k+1)):=by
      rw [beq_eq_false_iff_ne,zA8,zA8] at q1
      exact HT.out.trans (findR_miss hlt q1)
     go_wp2
     go_roundw
     case rel=>exact ⟨k+1,by omega,by go_num,hf,hB⟩
     case measure=>(simp [intOf] <;> omega)
   ·have hf:Hid (findS names s = -2):=HT.out.trans (findR_end (by omega))
    go_wp2
    go_ret
    exact ⟨zAP hf.out.symm,hB⟩
theorem spec_l1ParseType (names:List ByteArray) (s:ByteArray) (w:World) (v:Value) (F:List Nat) (hx:Arr w (StrR w) names v F) (hf:Under w F) (hs:s.size≤1000000) :
  Calls Try.prog 125 #[v,.string s] w fun e w'=>e=.returned (.agg #[.int .i64 ((pty names s).d),.int .i64 ((pty names s).i)])∧Below w w w':=by
 obtain ⟨A,cap,rfl,hc1,hc2⟩:=hx.form
 have HX:=jj hx
 have HF:=jj hf
 clear hx hf
 by_cases h0:s.size=0
 ·have q0:(s.toList==[])=true:=by
   rw [beq_iff_eq,zA8];exact List.eq_nil_of_length_eq_zero (by rw [zAJ];exact h0)
  have hf:Hid (pty names s=⟨-2,0⟩):=by
   rw [beq_iff_eq,zA8] at q0
   unfold Hid pty;rw [q0];rfl
  go_enter Try.func125,Try.ntmps125
  go_wp2
  refine bodyPost_ret (zA1 rfl _ _ w.heap.size 25 #[.int .i64 (-2),(0:Int)] (0,0) _ rfl (Blk.new w _ _) Try.underlying25 rfl rfl) rfl ?_
  exact ⟨ret_ty hf.out,(zy2 _ _).alloc (zz8 _) _⟩
 ·have q0:(s.toList==[])=false:=by
   rw [beq_eq_false_iff_ne,zA8];intro e;have:=zAJ s;rw [e] at this;simp at this;omega
  have g1:(1:Int)≤(s.size:Int):=by omega
  have p1:1≤s.size:=by omega
  go_enter Try.func125,Try.ntmps125
  go_wp2_with fail
  obtain ⟨W1,hW1⟩:∃ W1,W1=w.alloc (.cells #[(0:Int),(0:Int)] 25):=⟨_,rfl⟩
  have hB1:Below w w W1:=by rw [hW1];exact (zy2 _ _).alloc (zz8 _) _
  have K1:Hid (Blk W1 w 25 #[(0:Int),(0:Int)]):=by rw [hW1];exact Blk.new w _ _
  rw [←hW1]
  clear hW1
  refine (spec_l1Find names (s.extract 0 1) W1 _ F (ArrStr.below HX.out hB1 HF.out) (HF.out.mono hB1.size)).mono ?_
  rintro e w2 ⟨rfl,hb2⟩
  have hB2:=hB1.trans (hb2.mono hB1.size)
  have K2:=jj (K1.out.same (hb2.block _ K1.out.lt))
  clear hb2 hB1 K1
  have k0:w2.cell? ⟨w,0,none⟩=some (.int .i64 0):=(K2.out.cell 0).trans (by simp)
  have k1:w2.cell? ⟨w,1,none⟩=some (.int .i64 0):=(K2.out.cell 1).trans (by simp)
  have f0:=K2.out.frozen 0
  have f1:=K2.out.frozen 1
  have klt:=K2.out.lt
  generalize hdd:findS names (s.extract 0 1)=dd
  have HDD:=jj hdd
  clear hdd
  have HP:=jj (pty_cons names s p1)
  cases q1:((s.extract 1 s.size).toList==[42]) with
  |true =>
   have hf:Hid (pty names s=⟨dd,-1⟩):=by
    rw [beq_iff_eq,zA8] at q1
    unfold Hid;rw [HP.out,HDD.out,idxOf_star q1]
   go_wp2
   refine bodyPost_ret (zA1 rfl _ _ w.heap.size 25 #[.int .i64 dd,.int .i64 (-1)] (0,0) _ rfl (K2.out.pair _ _ _) Try.underlying25 rfl rfl) rfl ?_
   exact ⟨ret_ty hf.out,below_pair hB2 (zz8 _) (zz8 _) _ _ _⟩
  |false =>
   have HN:Hid (¬tl (s.extract 1 s.size)=[42]):=by
    rw [beq_eq_false_iff_ne,zA8] at q1
    exact q1
   by_cases h2:s.size=2
   ·have q2:((s.size:Int)==2)=true:=by simp;omega
    have p2:1<s.size:=by omega
    have p3:(1:Int)<(s.size:Int):=by omega
    have HI:=jj (idxOf_two HN.out h2 p2)
    clear h2
    by_cases ha:48≤s[1].toNat
    ·have q3:decide ((s[1].toNat:Int)≥48)=true:=decide_eq_true (by omega)
     by_cases hz:s[1].toNat≤57
     ·have q4:decide ((s[1].toNat:Int)≤57)=true:=decide_eq_true (by omega)
      have hf:Hid (pty names s=⟨dd,(s[1].toNat:Int)-48⟩):=by unfold Hid;rw [HP.out,HDD.out,HI.out,if_pos ⟨ha,hz⟩]
      have b1:48≤(s[1].toNat:Int):=by omega
      have b2:(s[1].toNat:Int)≤57:=by omega
      go_wp2
      refine bodyPost_ret (zA1 rfl _ _ w.heap.size 25 #[.int .i64 dd,.int .i64 ((s[1].toNat:Int)-48)] (0,0) _ rfl (K2.out.pair _ _ _) Try.underlying25 rfl rfl) rfl ?_
      exact ⟨ret_ty hf.out,below_pair hB2 (zz8 _) (zz8 _) _ _ _⟩
     ·have q4:decide ((s[1].toNat:Int)≤57)=false:=decide_eq_false (by omega)
      have hf:Hid (pty names s=⟨dd,0⟩):=by unfold Hid;rw [HP.out,HDD.out,HI.out,if_neg (fun h=>hz h.2)]
      go_wp2
      refine bodyPost_ret (zA1 rfl _ _ w.heap.size 25 #[.int .i64 dd,.int .i64 (0)] (0,0) _ rfl (K2.out.pair _ _ _) Try.underlying25 rfl rfl) rfl ?_
      exact ⟨ret_ty hf.out,below_pair hB2 (zz8 _) (zz8 _) _ _ _⟩
    ·have q3:decide ((s[1].toNat:Int)≥48)=false:=decide_eq_false (by omega)
     have hf:Hid (pty names s=⟨dd,0⟩):=by unfold Hid;rw [HP.out,HDD.out,HI.out,if_neg (fun h=>ha h.1)]
     go_wp2
     refine bodyPost_ret (zA1 rfl _ _ w.heap.size 25 #[.int .i64 dd,.int .i64 (0)] (0,0) _ rfl (K2.out.pair _ _ _) Try.underlying25 rfl rfl) rfl ?_
     exact ⟨ret_ty hf.out,below_pair hB2 (zz8 _) (zz8 _) _ _ _⟩
   ·have q2:((s.size:Int)==2)=false:=by rw [beq_eq_false_iff_ne];omega
    have hf:Hid (pty names s=⟨dd,0⟩):=by unfold Hid;rw [HP.out,HDD.out,idxOf_not HN.out h2]
    go_wp2
    refine bodyPost_ret (zA1 rfl _ _ w.heap.size 25 #[.int .i64 dd,.int .i64 (0)] (0,0) _ rfl (K2.out.pair _ _ _) Try.underlying25 rfl rfl) rfl ?_
    exact ⟨ret_ty hf.out,below_pair hB2 (zz8 _) (zz8 _) _ _ _⟩
def pkt (names:List ByteArray) (s:ByteArray):Kt:=parseKt (names.map tl) (tl s)
def pbody (names:List ByteArray) (idx:Int) (s:ByteArray):Kt:=parseBody (names.map tl) idx (tl s)
theorem cutL_pos (c:UInt8) (l:List UInt8):0<(cutL c l).length:=by
 have key:∀ (l cur:List UInt8),0<(cutGo c cur l).length:=by
  intro l
  induction l with
  |nil=>intro cur;simp [cutGo]
  |cons x xs ih=>intro cur;rw [cutGo];split <;> simp [ih]
 exact key l []
theorem cutS_pos (c:UInt8) (s:ByteArray):0<(cutS c s).length:=by unfold cutS;rw [List.length_map];exact cutL_pos c _
theorem pbody_short {names:List ByteArray} {idx:Int} {s:ByteArray} (h:(cutS 40 s).length<2):pbody names idx s=⟨(cutS 40 s)[0]'(cutS_pos 40 s),[],idx⟩:=by
 have hp:=cutL_pos 40 (tl s)
 unfold pbody parseBody
 have key:∀ (L:List (List UInt8)) (hp:0<L.length),(L.map bs).length<2→(⟨bs (headL L),parseArgs (names.map tl) L,idx⟩:Kt)=⟨(L.map bs)[0]'(by simpa using hp),[],idx⟩:=by
  intro L hp hl
  match L,hp,hl with
  |[x],_,_=>rfl
  |_ :: _ :: _,_,hl=>simp at hl;omega
 exact key _ hp h
theorem pbody_empty {names:List ByteArray} {idx:Int} {s:ByteArray} (h:1<(cutS 40 s).length) (h0:(cutS 40 s)[1].size=0):pbody names idx s=⟨(cutS 40 s)[0]'(cutS_pos 40 s),[],idx⟩:=by
 have hp:=cutL_pos 40 (tl s)
 unfold pbody parseBody
 have key:∀ (L:List (List UInt8)) (hp:0<L.length) (h:1<(L.map bs).length),(L.map bs)[1].size=0→(⟨bs (headL L),parseArgs (names.map tl) L,idx⟩:Kt)=⟨(L.map bs)[0]'(by simpa using hp),[],idx⟩:=by
  intro L hp h hz
  match L,hp,h,hz with
  |x :: p :: l,_,_,hz =>
   have hpe:p=[]:=List.eq_nil_of_length_eq_zero hz
   subst hpe
   rfl
  |[_],_,h,_=>simp at h
 exact key _ hp h h0
theorem pbody_args {names:List ByteArray} {idx:Int} {s:ByteArray} (h:1<(cutS 40 s).length) (h0:(cutS 40 s)[1].size≠0):pbody names idx s=⟨(cutS 40 s)[0]'(cutS_pos 40 s),((cutS 44 ((cutS 40 s)[1].extract 0 ((cutS 40 s)[1].size-1))).take 4).map (pty names),idx⟩:=by
 have hp:=cutL_pos 40 (tl s)
 unfold pbody parseBody
 have key:∀ (L:List (List UInt8)) (hp:0<L.length) (h:1<(L.map bs).length),(L.map bs)[1].size≠0→(⟨bs (headL L),parseArgs (names.map tl) L,idx⟩:Kt)=⟨(L.map bs)[0]'(by simpa using hp),((cutS 44 ((L.map bs)[1].extract 0 ((L.map bs)[1].size-1))).take 4).map (pty names),idx⟩:=by
  intro L hp h hz
  match L,hp,h,hz with
  |x :: p :: l,_,_,hz =>
   have hpe:¬p=[]:=fun e=>hz (by subst e;rfl)
   have e1:tl ((bs p).extract 0 ((bs p).size-1))=p.take (p.length-1):=by rw [tl_extract,tl_bs,List.drop_zero];rfl
   have e2:parseArgs (names.map tl) (x :: p :: l)=((cutL 44 (p.take (p.length-1))).take 4).map (parseTy (names.map tl)):=by
    show (if p=[] then [] else _)=_
    rw [if_neg hpe]
   have e3:((cutS 44 ((bs p).extract 0 ((bs p).size-1))).take 4).map (pty names)=((cutL 44 (p.take (p.length-1))).take 4).map (parseTy (names.map tl)):=by
    unfold cutS
    rw [e1,←List.map_take,List.map_map]
    rfl
   rw [e2,←e3]
   rfl
  |[_],_,h,_=>simp at h
 exact key _ hp h h0
theorem hasIdx_no {s:ByteArray} (h:¬2<s.size):hasIdx (tl s)=false:=by unfold hasIdx;rw [zAJ,decide_eq_false h];rfl
theorem hasIdx_at {s:ByteArray} (h:2<s.size):hasIdx (tl s)=(s[s.size-2]==58):=by
 unfold hasIdx
 rw [zAJ,decide_eq_true h,Bool.true_and,Bool.eq_iff_iff]
 have:(tl s).getD (s.size-2) 0=s[s.size-2]:=by
  rw [List.getD_eq_getElem?_getD,List.getElem?_eq_getElem (by rw [zAJ];omega)];rfl
 rw [this]
 simp
theorem pkt_no {names:List ByteArray} {s:ByteArray} (h:hasIdx (tl s)=false):pkt names s=pbody names 0 s:=by unfold pkt parseKt;rw [if_neg (by simp [h])];rfl
theorem pkt_yes {names:List ByteArray} {s:ByteArray} (h:hasIdx (tl s)=true) (h2:2<s.size):pkt names s=pbody names ((s[s.size-1].toNat:Int)-48) (s.extract 0 (s.size-2)):=by
 have h3:(tl s).getD ((tl s).length-1) 0=s[s.size-1]:=by
  rw [List.getD_eq_getElem?_getD,zAJ,List.getElem?_eq_getElem (by rw [zAJ];omega)];rfl
 unfold pkt parseKt pbody
 rw [if_pos h,h3,tl_extract,List.drop_zero,zAJ]
theorem pbody_short' {names:List ByteArray} {idx:Int} {s:ByteArray} {parts:List ByteArray} (e:cutS 40 s=parts) (hp:0<parts.length) (h:parts.length<2):pbody names idx s=⟨parts[0],[],idx⟩:=by subst e;exact pbody_short h
theorem pbody_empty' {names:List ByteArray} {idx:Int} {s:ByteArray} {parts:List ByteArray} (e:cutS 40 s=parts) (h:1<parts.length) (h0:parts[1].size=0):pbody names idx s=⟨parts[0],[],idx⟩:=by subst e;exact pbody_empty h h0
theorem pbody_args' {names:List ByteArray} {idx:Int} {s:ByteArray} {parts:List ByteArray} (e:cutS 40 s=parts) (h:1<parts.length) (h0:parts[1].size≠0):pbody names idx s=⟨parts[0],((cutS 44 (parts[1].extract 0 (parts[1].size-1))).take 4).map (pty names),idx⟩:=by subst e;exact pbody_args h h0
theorem map_take_snoc {α β:Type} (f:α→β) (l:List α) (j:Nat) (h:j<l.length):(l.take (j+1)).map f=(l.take j).map f ++ [f l[j]]:=by rw [take_snoc' l j h,List.map_append];rfl
def ptysTo (names ags:List ByteArray) (i:Nat):List Ty:=(ags.take i).map (pty names)
theorem ptysTo_succ (names ags:List ByteArray) (i:Nat) (h:i<ags.length):ptysTo names ags (i+1)=ptysTo names ags i ++ [pty names ags[i]]:=map_take_snoc _ _ _ h
theorem ptysTo_len (names ags:List ByteArray) (i:Nat):(ptysTo names ags i).length≤i:=by unfold ptysTo;rw [List.length_map,List.length_take];omega
def GivesKt (w:World) (c:Kt) (e:Ending) (w':World):Prop:=∃ cs F,e=.returned (.agg cs.toArray)∧Below w w w'∧KtR w' c cs F∧Free w' F∧Fresh w w' F
theorem Blk.triple {w:World} {H:Nat} {T:TypeId} {a b c:Value} (h:Blk w H T #[a,b,c]) (x y z:Value):Blk (((w.setCell ⟨H,0,none⟩ x).setCell ⟨H,1,none⟩ y).setCell ⟨H,2,none⟩ z) H T #[x,y,z]:=((h.set_ 0 x).set_ 1 y).set_ 2 z
theorem below_triple {w w2:World} {B H:Nat} (h:Below B w w2) (hH:B≤H) (x y z:Value):Below B w (((w2.setCell ⟨H,0,none⟩ x).setCell ⟨H,1,none⟩ y).setCell ⟨H,2,none⟩ z):=((h.setCell hH _).setCell hH _).setCell hH _
theorem GivesKt.done {w W:World} {H B:Nat} {c:Kt} {E:TypeId} {nm:ByteArray} {idx:Int} {kv:Value} {xs:List Ty} (hc:c=⟨nm,xs,idx⟩) (hB:Below w w W) (hH:w.heap.size=H) (hlt:H<W.heap.size) (ho:Own W B E 2 TyR xs kv []) (hB1:H<B) (hn:nm.size≤9223372036854775807) (x y z:Value) :
  GivesKt w c (.returned (.agg #[.string nm,kv,.int .i64 idx])) (((W.setCell ⟨H,0,none⟩ x).setCell ⟨H,1,none⟩ y).setCell ⟨H,2,none⟩ z):=by
 subst hc hH
 have hr:w.heap.size∉rowOf kv:=fun h=>by have:=(ho.row _ h).1;omega
 have h0:=Own.set (j:=0) TyR_mono' ho x hr (fun h=>by cases h)
 have h1:=Own.set (j:=1) TyR_mono' h0 y hr (fun h=>by cases h)
 have h2:=Own.set (j:=2) TyR_mono' h1 z hr (fun h=>by cases h)
 exact ⟨[.string nm,kv,.int .i64 idx],_,rfl,below_triple hB (zz8 _) _ _ _,⟨kv,rfl,h2.arr,hn⟩,h2.free (Free.nil _),h2.fresh (Nat.le_of_lt hB1) (fun b hb=>by cases hb)⟩
theorem Chg.under {F:List Nat} {a b c:World} (h:Chg F a b) (k:Below a b c):Chg F a c :=
 ⟨k.os.trans h.os,k.tape.trans h.tape,k.output.trans h.output,Nat.le_trans h.size k.size,fun i hi hF=>(k.block i hi).trans (h.block i hi hF)⟩
end Go.Proofs.Ytjjclcmmfeegfaa
