/-
  Lemmas, and contracts of functions. Conditions: none.
-/
import Derived.Test.YtjjclcmmfeegfaaGreatDoorQAA
import Derived.Test.YtjjclcmmfeegfaaGreatDoorChecked
import Derived.Laws.BitsAllLaws
import Derived.IntWalk
import Derived.Deep.RegionWith
import Derived.Deep.QuietTactic
import Derived.BigQuiet
import Derived.Test.YtjjclcmmfeegfaaGreatDoorQAC
import Derived.Test.YtjjclcmmfeegfaaGreatDoorQAB
import Derived.Deep.RegionHeld3

set_option linter.unusedVariables false
set_option linter.unusedSimpArgs false
set_option maxRecDepth 100000
set_option maxHeartbeats 1600000

namespace Go.Proofs.YtjjclcmmfeegfaaGreatDoor
open Go.RowKit
def ByR (_:World) (x:Int) (cs:List Value) (F:List Nat):Prop:=cs=[.int .u8 x]∧F=[]∧0≤x∧x≤255
theorem ByR_len (w:World) (x:Int) (cs:List Value) (F:List Nat) (h:ByR w x cs F):cs.length=1:=by rw [h.1];rfl
theorem ArrBy.mono {w w':World} {vs:List Int} {x:Value} {F:List Nat} (h:Arr w (ByR w) vs x F) (hF:Kept F w w'):Arr w' (ByR w') vs x F:=h.mono hF fun v _ cs G _ h=>h
theorem ArrBy.at {w:World} {b off n cap:Nat} {F:List Nat} {xs:List Int} (h:Arr w (ByR w) xs (.slice (some ⟨b,off,none⟩) n cap) F) (hF:Under w F) (i:Nat) (hi:i<xs.length) :
  b<w.heap.size∧b∈F∧w.cell? ⟨b,off+i,none⟩=some (.int .u8 xs[i])∧0≤xs[i]∧xs[i]≤255:=by
 obtain ⟨b',off',cs,G,e,hb,hcs,hv,hG⟩:=h.get (ByR_len w) hi
 cases e
 obtain ⟨rfl,-,h0,h1⟩:=hv
 have:=hcs 0 _ rfl
 simp only [Nat.mul_one,Nat.add_zero] at this
 exact ⟨hF _ hb,hb,this,h0,h1⟩
theorem Arr.take {α:Type} {w:World} {R:α→List Value→List Nat→Prop} {xs:List α} {A:Option Addr} {n cap:Nat} {F:List Nat} (h:Arr w R xs (.slice A n cap) F) (m:Nat) (hm:m≤xs.length) (hm0:0<m):∃ G,Arr w R (xs.take m) (.slice A m cap) G∧∀ b∈G,b∈F:=by
 obtain ⟨A',cap',hv,h1,h2,h3⟩:=h
 cases hv
 have hl:(xs.take m).length=m:=by rw [List.length_take];omega
 rcases h3 with ⟨rfl,-⟩ | ⟨b,off,cs,G,rfl,hc,hf,rfl⟩
 ·simp at hm;omega
 ·have hxs:xs=xs.take m ++ xs.drop m:=(List.take_append_drop m xs).symm
  rw [hxs] at hf
  obtain ⟨c1,c2,F1,F2,rfl,rfl,g1,g2⟩:=Flat.split (xs.take m) hf
  exact ⟨b :: F1,⟨_,cap,by rw [hl],by rw [hl];omega,h2,.inr ⟨b,off,c1,F1,rfl,hc.left,g1,rfl⟩⟩,fun x hx=>by
   rcases List.mem_cons.1 hx with h | h
   ·simp [h]
   ·simp [h]⟩
def Rd (w:World) (g p:Nat):Prop:=∃ A cap bs F,Blk w g 126 #[.slice A bs.length cap,(p:Int)]∧Arr w (ByR w) bs (.slice A bs.length cap) F∧Under g F∧bs.length≤2000
theorem Rd.lt {w:World} {g p:Nat} (h:Rd w g p):g<w.heap.size:=by obtain ⟨A,cap,bs,F,h1,-⟩:=h;exact h1.lt
theorem Rd.below {w w':World} {g p:Nat} (h:Rd w g p) (hb:Below w w w'):Rd w' g p:=by
 obtain ⟨A,cap,bs,F,h1,h2,h3,h5⟩:=h
 exact ⟨A,cap,bs,F,h1.same (hb.block _ h1.lt),ArrBy.mono h2 (.of_below hb (h3.mono (Nat.le_of_lt h1.lt))),h3,h5⟩
theorem Rd.set {w:World} {g p b j:Nat} {u:Value} (h:Rd w g p) (hb:g<b):Rd (w.setCell ⟨b,j,none⟩ u) g p:=by
 obtain ⟨A,cap,bs,F,h1,h2,h3,h5⟩:=h
 exact ⟨A,cap,bs,F,h1.same (zz7 _ _ _ _ (by show g≠b;omega)),ArrBy.mono h2 (fun c hc=>zz7 _ _ _ _ (by have:=h3 c hc;show c≠b;omega)),h3,h5⟩
theorem Rd.drewN {w:World} {g p:Nat} (h:Rd w g p) (n:Nat):Rd (w.drewN n) g p:=h
theorem i64_xor_nat (a b:Nat) (ha:a<9223372036854775808) (hb:b<9223372036854775808):bits .xor .i64 (a:Int) (b:Int)=((a ^^^ b:Nat):Int):=by
 have hx:a ^^^ b<2 ^ 63:=Nat.xor_lt_two_pow (by omega) (by omega)
 show IntKind.i64.wrap ((BitVec.ofInt 64 (a:Int) ^^^ BitVec.ofInt 64 (b:Int)).toNat:Int)=_
 rw [BitVec.toNat_xor,ofInt_u64 a (by omega),ofInt_u64 b (by omega)]
 exact IntWalk.i64_in _ (by omega)
theorem pick_any (n p g:Nat) (w:World) (h:Rd w g p) (hp:p≤1000000) (hn:1≤n) (hn2:n≤1000000) :
  Calls Tryz.prog 61 #[.pointer (some ⟨g,0,none⟩),(n:Int)] w fun e w'=>∃ r:Nat,e=.returned (.int .i64 (r:Int))∧r<n∧Rd w' g (p+1)∧Chg [g] w w':=by
 obtain ⟨A,cap,bs,F,hk,ha,hu,hbl⟩:=h
 have hf:Under w F:=hu.mono (Nat.le_of_lt hk.lt)
 have hg:g∉F:=fun h=>Nat.lt_irrefl _ (hu g h)
 have HU:=jj hu
 clear hu
 have c0:w.cell? ⟨g,0,none⟩=some (.slice A bs.length cap):=(hk.cell 0).trans (by simp)
 have c1:w.cell? ⟨g,1,none⟩=(p:Int):=(hk.cell 1).trans (by simp)
 have f1:=hk.frozen 1
 have hlt:=hk.lt
 have HK:=jj hk
 have HA:=jj ha
 have HF:=jj hf
 have HG:=jj hg
 clear hk ha hf hg
 have t0:decide ((n:Int)<1)=false:=decide_eq_false (by omega)
 have KR:Blk (w.setCell ⟨g,1,none⟩ (.int .i64 ((p:Int)+1))) g 126 #[.slice A bs.length cap,.int .i64 ((p:Int)+1)]:=HK.out.set_ 1 _
 have hCG:Chg [g] w (w.setCell ⟨g,1,none⟩ (.int .i64 ((p:Int)+1))):=(Chg.refl _ _).set (by simp)
 have hRd:Hid (Rd (w.setCell ⟨g,1,none⟩ (.int .i64 ((p:Int)+1))) g (p+1)):=⟨A,cap,bs,F,KR,ArrBy.mono HA.out (hCG.kept HF.out (fun b hb=>by simp;intro e;exact HG.out (e▸hb))),HU.out,hbl⟩
 have HCG:=jj hCG
 clear KR hCG
 by_cases hb0:bs.length=0
 ·have t1:((bs.length:Int)==0)=true:=beq_iff_eq.2 (by omega)
  go_enter Tryz.func61,Tryz.ntmps61
  go_wp2
  go_ret
  exact ⟨0,rfl,by omega,hRd.out,HCG.out⟩
 ·have t1:((bs.length:Int)==0)=false:=by rw [beq_eq_false_iff_ne];omega
  obtain ⟨b,off,rfl⟩:=HA.out.ptr (by omega)
  by_cases hpl:p<bs.length
  ·have t2:decide ((p:Int)<(bs.length:Int))=true:=decide_eq_true (by omega)
   have g1:(0:Int)≤(p:Int):=by omega
   obtain ⟨hbw,hbF,x0,hx0,hx1⟩:=ArrBy.at HA.out HF.out p hpl
   have hbg:g≠b:=fun e=>HG.out (e▸hbF)
   generalize hX:bs[p]=X at *
   obtain ⟨Xn,rfl⟩:=Int.eq_ofNat_of_zero_le hx0
   have hw1:IntKind.i64.wrap (Xn:Int)=(Xn:Int):=IntWalk.i64_in _ (by omega)
   clear hX
   go_enter Tryz.func61,Tryz.ntmps61
   go_wp2
   go_ret
   exact ⟨Xn % n,rfl,Nat.mod_lt _ (by omega),hRd.out,HCG.out⟩
  ·have t2:decide ((p:Int)<(bs.length:Int))=false:=decide_eq_false (by omega)
   obtain ⟨q1,hq1⟩:∃ q,q=p % bs.length:=⟨_,rfl⟩
   obtain ⟨q2,hq2⟩:∃ q,q=(p*7+3) % bs.length:=⟨_,rfl⟩
   obtain ⟨q3,hq3⟩:∃ q,q=p / bs.length:=⟨_,rfl⟩
   have l1:q1<bs.length:=by rw [hq1];exact Nat.mod_lt _ (by omega)
   have l2:q2<bs.length:=by rw [hq2];exact Nat.mod_lt _ (by omega)
   have l3:q3≤1000000:=by rw [hq3];exact Nat.le_trans (Nat.div_le_self _ _) hp
   obtain ⟨hbw,hbF,x1,hx0,hx1⟩:=ArrBy.at HA.out HF.out q1 l1
   obtain ⟨-,-,x2,hy0,hy1⟩:=ArrBy.at HA.out HF.out q2 l2
   have hbg:g≠b:=fun e=>HG.out (e▸hbF)
   generalize hX:bs[q1]=X at *
   generalize hY:bs[q2]=Y at *
   obtain ⟨Xn,rfl⟩:=Int.eq_ofNat_of_zero_le hx0
   obtain ⟨Yn,rfl⟩:=Int.eq_ofNat_of_zero_le hy0
   have m1:(p:Int).tmod (bs.length:Int)=(q1:Int):=by rw [Int.tmod_eq_emod_of_nonneg (by omega),hq1];rfl
   have m1':(p:Int) % (bs.length:Int)=(q1:Int):=by rw [hq1];rfl
   have m2:((p:Int)*7+3).tmod (bs.length:Int)=(q2:Int):=by rw [Int.tmod_eq_emod_of_nonneg (by omega),hq2];push_cast;rfl
   have m2':((p:Int)*7+3) % (bs.length:Int)=(q2:Int):=by rw [hq2];push_cast;rfl
   have m3:(p:Int).tdiv (bs.length:Int)=(q3:Int):=by rw [hq3];rfl
   have m3':(p:Int) / (bs.length:Int)=(q3:Int):=by rw [hq3];rfl
   have n1:(0:Int)≤(q1:Int):=by omega
   have n2:(q1:Int)<(bs.length:Int):=by omega
   have n3:(0:Int)≤(q2:Int):=by omega
   have n4:(q2:Int)<(bs.length:Int):=by omega
   have n5:(bs.length:Int)≠0:=by omega
   have a1:IntKind.i64.wrap ((Xn:Int)*131)=(Xn:Int)*131:=IntWalk.i64_in _ (by omega)
   have a2:IntKind.i64.wrap ((p:Int)*7)=(p:Int)*7:=IntWalk.i64_in _ (by omega)
   have a3:IntKind.i64.wrap ((p:Int)*7+3)=(p:Int)*7+3:=IntWalk.i64_in _ (by omega)
   have a4:IntKind.i64.wrap ((Yn:Int)*1117)=(Yn:Int)*1117:=IntWalk.i64_in _ (by omega)
   have a5:IntKind.i64.wrap ((Xn:Int)*131+(Yn:Int)*1117)=(Xn:Int)*131+(Yn:Int)*1117:=IntWalk.i64_in _ (by omega)
   have a6:IntKind.i64.wrap ((p:Int)*29)=(p:Int)*29:=IntWalk.i64_in _ (by omega)
   have a7:IntKind.i64.wrap ((Xn:Int)*131+(Yn:Int)*1117+(p:Int)*29)=(Xn:Int)*131+(Yn:Int)*1117+(p:Int)*29:=IntWalk.i64_in _ (by omega)
   have a8:IntKind.i64.wrap (q3:Int)=(q3:Int):=IntWalk.i64_in _ (by omega)
   have a9:IntKind.i64.wrap ((q3:Int)*53)=(q3:Int)*53:=IntWalk.i64_in _ (by omega)
   have aa:IntKind.i64.wrap ((Xn:Int)*131+(Yn:Int)*1117+(p:Int)*29+(q3:Int)*53)=(Xn:Int)*131+(Yn:Int)*1117+(p:Int)*29+(q3:Int)*53:=IntWalk.i64_in _ (by omega)
   have ab:IntKind.i64.wrap (Xn:Int)=(Xn:Int):=IntWalk.i64_in _ (by omega)
   have ac:IntKind.i64.wrap (Yn:Int)=(Yn:Int):=IntWalk.i64_in _ (by omega)
   obtain ⟨T,hT⟩:∃ T:Nat,(Xn:Int)*131+(Yn:Int)*1117+(p:Int)*29+(q3:Int)*53=(T:Int):=⟨Xn*131+Yn*1117+p*29+q3*53,by push_cast;rfl⟩
   have hTl:T≤1000000000:=by omega
   have hd:(T:Int).tdiv 64=((T / 64:Nat):Int):=rfl
   have hd':(T:Int) / 64=((T / 64:Nat):Int):=rfl
   have hxr:=i64_xor_nat T (T / 64) (by omega) (by omega)
   have hxw:IntKind.i64.wrap ((T / 64:Nat):Int)=((T / 64:Nat):Int):=IntWalk.i64_in _ (by omega)
   clear hX hY hq1 hq2 hq3 hb0
   go_enter Tryz.func61,Tryz.ntmps61
   go_wp2_with fail
   have hxr2:bits .xor .i64 (T:Int) ((T:Int) / 64)=((T ^^^ (T / 64):Nat):Int):=hxr
   have hXl:T ^^^ (T / 64)<2 ^ 40:=Nat.xor_lt_two_pow (by omega) (by omega)
   generalize hXe:T ^^^ (T / 64)=X at hxr hxr2 hXl
   have hXm:(X:Int).tmod (n:Int)=((X % n:Nat):Int):=rfl
   have hXw:IntKind.i64.wrap (X:Int)=(X:Int):=IntWalk.i64_in _ (by omega)
   clear hXe hxr hd hd' hxw
   go_quiet (fail)
   clear x1 x2 m1 m1' m2 m2' m3 m3' n1 n2 n3 n4 n5 a1 a2 a3 a4 a5 a6 a7 a8 a9 aa ab ac
   go_wp2
   go_ret
   exact ⟨X % n,rfl,Nat.mod_lt _ (by omega),hRd.out.drewN _,HCG.out.drewN _⟩
theorem spec_l17Open (bs:List Int) (w:World) (v:Value) (F:List Nat) (hx:Arr w (ByR w) bs v F) (hf:Under w F) :
  Calls Tryz.prog 58 #[v] w fun e w'=>∃ g:Nat,e=.returned (.pointer (some ⟨g,0,none⟩))∧w.heap.size≤g∧Below w w w'∧Rd w' g 0:=by
 obtain ⟨A,cap,rfl,hc1,hc2⟩:=hx.form
 have hbl:∀ (A:Option Addr) (cap:Nat) (bs:List Int) (F:List Nat),Arr w (ByR w) bs (.slice A bs.length cap) F→Under w F→bs.length≤2000→Rd (w.alloc (.cells #[.slice A bs.length cap,(0:Int)] 126)) w.heap.size 0:=fun A cap bs F h1 h2 h3 =>
  ⟨A,cap,bs,F,Blk.new _ _ _,ArrBy.mono h1 (.of_below ((zy2 _ _).alloc (zz8 _) _) h2),h2,h3⟩
 have HBL:=jj hbl
 have HX:=jj hx
 have HF:=jj hf
 clear hx hf
 clear hbl
 by_cases hl:2000<bs.length
 ·have t0:decide ((bs.length:Int)>2000)=true:=decide_eq_true (by omega)
  obtain ⟨b,off,rfl⟩:=HX.out.ptr (by omega)
  obtain ⟨G,hG,hGF⟩:=HX.out.take 2000 (by omega) (by omega)
  have hlt:(bs.take 2000).length=2000:=by rw [List.length_take];omega
  have hr:=HBL.out (some ⟨b,off,none⟩) cap (bs.take 2000) G (by rw [hlt];exact hG) (HF.out.sub hGF) (by rw [hlt];exact zz8 _)
  rw [hlt] at hr
  have HRD:=jj hr
  have g1:(2000:Int)≤(bs.length:Int):=by omega
  have g2:2000≤cap:=by omega
  clear hr hG hlt
  go_enter Tryz.func58,Tryz.ntmps58
  go_wp2
  go_ret
  exact ⟨w.heap.size,rfl,zz8 _,(zy2 _ _).alloc (zz8 _) _,HRD.out⟩
 ·have t0:decide ((bs.length:Int)>2000)=false:=decide_eq_false (by omega)
  have HRD:=jj (HBL.out _ _ _ F HX.out HF.out (by omega))
  go_enter Tryz.func58,Tryz.ntmps58
  go_wp2
  go_ret
  exact ⟨w.heap.size,rfl,zz8 _,(zy2 _ _).alloc (zz8 _) _,HRD.out⟩
theorem ArrNat.at {w0 w:World} {b off n cap:Nat} {F:List Nat} {xs:List Int} (h:Arr w0 (NatR w0) xs (.slice (some ⟨b,off,none⟩) n cap) F) (hF:Under w0 F) (hB:Below w0 w0 w) (i:Nat) (hi:i<xs.length) :
  b<w.heap.size∧w.cell? ⟨b,off+i,none⟩=some (.int .i64 xs[i]):=by
 obtain ⟨b',off',cs,G,e,hb,hcs,hv,hG⟩:=h.get (NatR_len _) hi
 cases e
 have hbl:=hF _ hb
 have hc:=hcs.same (hB.block _ hbl)
 obtain ⟨rfl,-⟩:=hv
 have:=hc 0 _ rfl
 rw [Nat.mul_one] at this
 exact ⟨zz9 hbl hB.size,this⟩
theorem num_any (ls:List Int) (hl1:1≤ls.length) (hl2:ls.length≤1000) (p g:Nat) (w:World) (h:Rd w g p) (hp:p≤1000000) (v:Value) (F:List Nat) (hx:Arr w (NatR w) ls v F) (hf:Under w F) (hg:g∉F) :
  Calls Tryz.prog 126 #[.pointer (some ⟨g,0,none⟩),v] w fun e w'=>∃ x,x∈ls∧e=.returned (.int .i64 x)∧Rd w' g (p+1)∧Chg [g] w w':=by
 obtain ⟨A,cap,rfl,hc1,hc2⟩:=hx.form
 obtain ⟨b,off,rfl⟩:=hx.ptr (by omega)
 have HX:=jj hx
 have HF:=jj hf
 have HG:=jj hg
 have HCALL:=jj (pick_any ls.length p g w h hp hl1 (by omega))
 clear hx hf hg h
 go_enter Tryz.func126,Tryz.ntmps126
 go_wp2_with fail
 refine HCALL.out.mono ?_
 rintro e w' ⟨r,rfl,hr,hR,hC⟩
 obtain ⟨hb,c0⟩:=ArrNat.at HX.out HF.out (zy2 _ _) r hr
 have hbF:b∉[g]:=by
  obtain ⟨b',off',cs',G',e',hb',-⟩:=HX.out.get (NatR_len w) hr
  cases e'
  exact fun h=>HG.out (by rw [←List.mem_singleton.1 h];exact hb')
 have c1:w'.cell? ⟨b,off+r,none⟩=some (.int .i64 ls[r]):=(hC.cell hb hbF).trans c0
 have g1:(0:Int)≤(r:Int):=by omega
 have g2:(r:Int)<(ls.length:Int):=by omega
 have HR:=jj hR
 have HC:=jj hC
 have HM:=jj (List.getElem_mem hr)
 clear hR hC c0 HCALL
 go_wp2
 go_ret
 exact ⟨ls[r],HM.out,rfl,HR.out,HC.out⟩
theorem of_any (ls:List ByteArray) (hl1:1≤ls.length) (hl2:ls.length≤1000) (p g:Nat) (w:World) (h:Rd w g p) (hp:p≤1000000) (v:Value) (F:List Nat) (hx:Arr w (StrR w) ls v F) (hf:Under w F) (hg:g∉F) :
  Calls Tryz.prog 110 #[.pointer (some ⟨g,0,none⟩),v] w fun e w'=>∃ x,x∈ls∧e=.returned (.string x)∧Rd w' g (p+1)∧Chg [g] w w':=by
 obtain ⟨A,cap,rfl,hc1,hc2⟩:=hx.form
 obtain ⟨b,off,rfl⟩:=hx.ptr (by omega)
 have HX:=jj hx
 have HF:=jj hf
 have HG:=jj hg
 have HCALL:=jj (pick_any ls.length p g w h hp hl1 (by omega))
 clear hx hf hg h
 go_enter Tryz.func110,Tryz.ntmps110
 go_wp2_with fail
 refine HCALL.out.mono ?_
 rintro e w' ⟨r,rfl,hr,hR,hC⟩
 obtain ⟨hb,c0⟩:=ArrStr.at HX.out HF.out (zy2 _ _) r hr
 have hbF:b∉[g]:=by
  obtain ⟨b',off',cs',G',e',hb',-⟩:=HX.out.get (zAA w) hr
  cases e'
  exact fun h=>HG.out (by rw [←List.mem_singleton.1 h];exact hb')
 have c1:w'.cell? ⟨b,off+r,none⟩=some (.string ls[r]):=(hC.cell hb hbF).trans c0
 have g1:(0:Int)≤(r:Int):=by omega
 have g2:(r:Int)<(ls.length:Int):=by omega
 have HR:=jj hR
 have HC:=jj hC
 have HM:=jj (List.getElem_mem hr)
 clear hR hC c0 HCALL
 go_wp2
 go_ret
 exact ⟨ls[r],HM.out,rfl,HR.out,HC.out⟩
theorem lit_nums (w:World) (ls:List Int) (hl:ls.length≤1000):Arr (w.alloc (.cells (ls.map (Value.int .i64)).toArray 3)) (NatR (w.alloc (.cells (ls.map (Value.int .i64)).toArray 3))) ls (.slice (some ⟨w,0,none⟩) ls.length ls.length) [w.heap.size]:=by
 refine ⟨_,_,rfl,zz8 _,by unfold maxLen;omega,.inr ⟨w.heap.size,0,ls.map (Value.int .i64),[],rfl,fun j u hj=>?_,?_,rfl⟩⟩
 ·rw [Nat.zero_add]
  refine ((Blk.new w 3 (ls.map (Value.int .i64)).toArray).cell j).trans ?_
  simpa using hj
 ·clear hl
  induction ls with
  |nil=>exact ⟨rfl,rfl⟩
  |cons x xs ih=>exact ⟨[.int .i64 x],xs.map (Value.int .i64),[],[],rfl,rfl,⟨rfl,rfl⟩,ih⟩
theorem lit_strs (w:World) (ls:List ByteArray) (hl:ls.length≤1000):Arr (w.alloc (.cells (ls.map Value.string).toArray 9)) (StrR (w.alloc (.cells (ls.map Value.string).toArray 9))) ls (.slice (some ⟨w,0,none⟩) ls.length ls.length) [w.heap.size]:=by
 refine ⟨_,_,rfl,zz8 _,by unfold maxLen;omega,.inr ⟨w.heap.size,0,ls.map Value.string,[],rfl,fun j u hj=>?_,?_,rfl⟩⟩
 ·rw [Nat.zero_add]
  refine ((Blk.new w 9 (ls.map Value.string).toArray).cell j).trans ?_
  simpa using hj
 ·clear hl
  induction ls with
  |nil=>exact ⟨rfl,rfl⟩
  |cons x xs ih=>exact ⟨[.string x],xs.map Value.string,[],[],rfl,rfl,⟨rfl,rfl⟩,ih⟩
theorem num_lit (ls:List Int) (hl1:1≤ls.length) (hl2:ls.length≤1000) (p g:Nat) (w:World) (h:Rd w g p) (hp:p≤1000000) :
  Calls Tryz.prog 126 #[.pointer (some ⟨g,0,none⟩),.slice (some ⟨w,0,none⟩) ls.length ls.length] (w.alloc (.cells (ls.map (Value.int .i64)).toArray 3)) fun e w'=>∃ x,x∈ls∧e=.returned (.int .i64 x)∧Rd w' g (p+1)∧Chg [g] w w':=by
 have hb:Below w w (w.alloc (.cells (ls.map (Value.int .i64)).toArray 3)):=(zy2 _ _).alloc (zz8 _) _
 have hlt:=h.lt
 refine (num_any ls hl1 hl2 p g _ (h.below hb) hp _ _ (lit_nums w ls hl2) (fun b hb=>by rw [List.mem_singleton.1 hb];simp) (fun e=>by rw [zy1] at e;omega)).mono ?_
 rintro e w' ⟨x,hx,rfl,hR,hC⟩
 exact ⟨x,hx,rfl,hR,(Chg.of_below hb).trans hC⟩
theorem of_lit (ls:List ByteArray) (hl1:1≤ls.length) (hl2:ls.length≤1000) (p g:Nat) (w:World) (h:Rd w g p) (hp:p≤1000000) :
  Calls Tryz.prog 110 #[.pointer (some ⟨g,0,none⟩),.slice (some ⟨w,0,none⟩) ls.length ls.length] (w.alloc (.cells (ls.map Value.string).toArray 9)) fun e w'=>∃ x,x∈ls∧e=.returned (.string x)∧Rd w' g (p+1)∧Chg [g] w w':=by
 have hb:Below w w (w.alloc (.cells (ls.map Value.string).toArray 9)):=(zy2 _ _).alloc (zz8 _) _
 have hlt:=h.lt
 refine (of_any ls hl1 hl2 p g _ (h.below hb) hp _ _ (lit_strs w ls hl2) (fun b hb=>by rw [List.mem_singleton.1 hb];simp) (fun e=>by rw [zy1] at e;omega)).mono ?_
 rintro e w' ⟨x,hx,rfl,hR,hC⟩
 exact ⟨x,hx,rfl,hR,(Chg.of_below hb).trans hC⟩
def eightT:List ByteArray:=(sevenT ++ [[]]).map bs
theorem spec_l1Texts (w:World):Calls Tryz.prog 59 #[] w fun e w'=>e=.returned (.slice (some ⟨w,0,none⟩) 8 8)∧w'=w.alloc (.cells (eightT.map Value.string).toArray 9):=by
 go_enter Tryz.func59,Tryz.ntmps59
 go_wp2
 go_ret
 exact ⟨rfl,rfl⟩
theorem seven_at {r:Nat} (h:r<7):∃ t,eightT[r]?=some (bs t)∧t∈sevenT∧(bs t).size≤100:=by
 have key:∀ r:Fin 7,∃ t,eightT[r.1]?=some (bs t)∧t∈sevenT∧(bs t).size≤100:=by
  intro ⟨r,hr⟩
  have h7:sevenT.length=7:=rfl
  have hr7:r<sevenT.length:=by omega
  refine ⟨sevenT[r],?_,List.getElem_mem hr7,?_⟩
  ·unfold eightT
   rw [List.getElem?_map,List.getElem?_append_left hr7,List.getElem?_eq_getElem hr7];rfl
  ·have hall:∀ t∈sevenT,t.length≤100:=by decide
   exact hall _ (List.getElem_mem hr7)
 exact key ⟨r,h⟩
theorem seven_parse {t:List UInt8} (h:t∈sevenT):∃ xs,parseB (bs t)=some xs∧worldOk xs=true∧0<xs.length:=by
 have:=List.all_eq_true.1 sevenT_fine t h
 exact fineW_ex this
def DrewWorld (g p n:Nat) (w:World) (Q:List Dt→Prop) (e:Ending) (w':World):Prop:=∃ xs v F q,e=.returned v∧Q xs∧Arr w' (DtR w') xs v F∧Fresh w w' F∧Rd w' g q∧q≤p+n∧Chg [g] w w'
theorem spec_l1WorldQ (Q:List Dt→Prop) (hQ:∀ t∈sevenT,∃ xs,parseB (bs t)=some xs∧Q xs) (p g:Nat) (w:World) (h:Rd w g p) (hp:p≤900000):Calls Tryz.prog 102 #[.pointer (some ⟨g,0,none⟩)] w (DrewWorld g p 1 w Q):=by
 have HR0:=jj h
 have hgl:=h.lt
 clear h
 go_enter Tryz.func102,Tryz.ntmps102
 go_wp2_with fail
 refine (spec_l1Texts w).mono ?_
 rintro e w1 ⟨rfl,hw1⟩
 have hb1:Below w w w1:=by rw [hw1];exact (zy2 _ _).alloc (zz8 _) _
 have hk1:Blk w1 w 9 (eightT.map Value.string).toArray:=by rw [hw1];exact Blk.new _ _ _
 have HR1:=jj (HR0.out.below hb1)
 have HK1:=jj hk1
 clear hw1 hk1
 go_wp2_with fail
 refine (pick_any 7 p g w1 HR1.out (by omega) (by omega) (by omega)).mono ?_
 rintro e w2 ⟨r,rfl,hr,hR2,hC2⟩
 obtain ⟨t,ht,htm,htl⟩:=seven_at hr
 have hlt1:=HK1.out.lt
 have c1:w1.cell? ⟨w.heap.size,r,none⟩=some (.string (bs t)):=(HK1.out.cell r).trans (by simp [ht])
 have c2:w2.cell? ⟨w.heap.size,r,none⟩=some (.string (bs t)):=(hC2.cell hlt1 (by simp;omega)).trans c1
 obtain ⟨xs,hxp,hxo⟩:=hQ t htm
 have HXP:=jj hxp
 have HXO:=jj hxo
 have HR2:=jj hR2
 have HC2:=jj hC2
 have g1:(0:Int)≤(r:Int):=by omega
 have g2:(r:Int)<8:=by omega
 have hsz2:=hC2.size
 clear hxp hxo hR2 hC2 c1 ht htm
 generalize hT:bs t=T at *
 clear hT
 go_wp2_with fail
 refine (spec_ParseWorld T (by omega) w2).mono ?_
 rintro e w3 ⟨v3,F3,rfl,hb3,ha3,-,hfs3⟩
 rw [HXP.out] at ha3 ⊢
 have hfin:DrewWorld g p 1 w Q (.returned v3) w3 :=
  ⟨xs,v3,F3,p+1,rfl,HXO.out,ha3,fun b hb=>⟨Nat.le_trans (Nat.le_trans hb1.size hsz2) (hfs3 b hb).1,(hfs3 b hb).2⟩,HR2.out.below hb3,zz8 _,((Chg.of_below hb1).trans HC2.out).step hb3⟩
 have HFin:=jj hfin
 clear hfin ha3 hfs3 hb3
 go_wp2
 go_ret
 exact HFin.out
theorem spec_l1World (p g:Nat) (w:World) (h:Rd w g p) (hp:p≤900000):Calls Tryz.prog 102 #[.pointer (some ⟨g,0,none⟩)] w (DrewWorld g p 1 w (fun xs=>worldOk xs=true∧0<xs.length)) :=
 spec_l1WorldQ _ (fun _ ht=>by obtain ⟨xs,h1,h2,h3⟩:=seven_parse ht;exact ⟨xs,h1,h2,h3⟩) p g w h hp
def LitN (w:World) (b:Nat) (ls:List Int):Prop:=b<w.heap.size∧Arr w (NatR w) ls (.slice (some ⟨b,0,none⟩) ls.length ls.length) [b]
theorem LitN.new (w:World) (ls:List Int) (hl:ls.length≤1000):LitN (w.alloc (.cells (ls.map (Value.int .i64)).toArray 3)) w.heap.size ls:=⟨by simp,lit_nums w ls hl⟩
theorem LitN.chg {w w':World} {b:Nat} {ls:List Int} {F:List Nat} (h:LitN w b ls) (hc:Chg F w w') (hb:b∉F):LitN w' b ls :=
 ⟨zz9 h.1 hc.size,h.2.mono (hc.kept (fun x hx=>by rw [List.mem_singleton.1 hx];exact h.1) (fun x hx=>by rw [List.mem_singleton.1 hx];exact hb)) fun _ _ _ _ _ h=>h⟩
theorem LitN.alloc {w:World} {b:Nat} {ls:List Int} (h:LitN w b ls) (o:Obj):LitN (w.alloc o) b ls:=h.chg (F:=[]) (.of_below ((zy2 _ _).alloc (zz8 _) _)) (by simp)
theorem LitN.new2 (w:World) (o:Obj) (ls:List Int) (hl:ls.length≤1000):LitN ((w.alloc o).alloc (.cells (ls.map (Value.int .i64)).toArray 3)) (w.heap.size+1) ls:=by
 have h:=LitN.new (w.alloc o) ls hl
 rwa [World.size_alloc] at h
theorem Chg.alloc {F:List Nat} {w w':World} (h:Chg F w w') (o:Obj):Chg F w (w'.alloc o):=h.step ((zy2 _ _).alloc (zz8 _) _)
theorem num_at {w:World} {b:Nat} {ls:List Int} (hb:LitN w b ls) (hl1:1≤ls.length) (hl2:ls.length≤1000) (p g:Nat) (h:Rd w g p) (hp:p≤1000000) (hg:b≠g) :
  Calls Tryz.prog 126 #[.pointer (some ⟨g,0,none⟩),.slice (some ⟨b,0,none⟩) ls.length ls.length] w fun e w'=>∃ x,e=.returned (.int .i64 x)∧Rd w' g (p+1)∧Chg [g] w w':=by
 refine (num_any ls hl1 hl2 p g w h hp _ _ hb.2 (fun x hx=>by rw [List.mem_singleton.1 hx];exact hb.1) (fun e=>hg (List.mem_singleton.1 e).symm)).mono ?_
 rintro e w' ⟨x,-,rfl,hR,hC⟩
 exact ⟨x,rfl,hR,hC⟩
theorem Flat.ones {α:Type} {R:α→List Value→List Nat→Prop} (hR:∀ x cs G,R x cs G→∀ u∈cs,u.oneCell'=true):∀ {xs:List α} {cs:List Value} {F:List Nat},Flat R xs cs F→∀ u∈cs,u.oneCell'=true
 |[],cs,F,h,u,hu=>by obtain ⟨rfl,-⟩:=h;cases hu
 |x :: xs,cs,F,h,u,hu=>by
  obtain ⟨c1,c2,F1,F2,rfl,rfl,h1,h2⟩:=h
  rcases List.mem_append.1 hu with h | h
  ·exact hR _ _ _ h1 u h
  ·exact Flat.ones hR h2 u h
theorem Flat.bare {α:Type} {R R':α→List Value→List Nat→Prop} (hR:∀ x cs G,R x cs G→R' x cs []):∀ {xs:List α} {cs:List Value} {F:List Nat},Flat R xs cs F→Flat R' xs cs []
 |[],cs,F,h=>⟨h.1,rfl⟩
 |x :: xs,cs,F,h=>by
  obtain ⟨c1,c2,F1,F2,rfl,rfl,h1,h2⟩:=h
  exact ⟨c1,c2,[],[],rfl,rfl,hR _ _ _ h1,Flat.bare hR h2⟩
/-! ### append of a whole slice that came in -/
section
variable {P : Program} {w : World}
theorem run_append_void (t ty e:TypeId) (i:TypeInfo) (ht:P.underlying t=some (.slice e)) (hi:P.info? e=some i) (g cap c:Nat) (A:Option Addr) (hA:A=none) :
  (Builtin.append_ #[t,t] ty #[.slice (some ⟨g,0,none⟩) 0 cap,.slice A 0 c]).run P w=.ok (.slice (some ⟨g,0,none⟩) 0 cap) w:=by
 subst hA
 simp [Builtin.append_,run_underlying ht,sizeOf,typeInfo,hi,Builtin.lenOf,Builtin.firstCells,storeCells]
theorem run_append_whole {α:Type} {R:α→List Value→List Nat→Prop} {RR:World→α→List Value→List Nat→Prop} {B k:Nat} {E:TypeId} (t ty:TypeId) (i:TypeInfo) (z:Value) (bytes:Nat) (ht:P.underlying t=some (.slice E)) (hi:P.info? E=some i) (hz:i.zero=some z)
  (hsize:i.size=k) (hby:i.bytes=bytes) (hzs:z.cells.size=k) (hk:0<k) (hRl:∀ x cs G,R x cs G→cs.length=k) (hR1:∀ x cs G,R x cs G→∀ u∈cs,u.oneCell'=true) (hRR:∀ w' x cs G,R x cs G→RR w' x cs [])
  {g:Nat} (hown:Own w B E k RR ([]:List α) (.slice (some ⟨g,0,none⟩) 0 0) []) {ys:List α} {A:Option Addr} {n c:Nat} {F:List Nat} (hy:Arr w R ys (.slice A n c) F)
  (h63:ys.length≤1000000) (hbytes:ys.length*bytes≤140737488355328) (hbase:B≤w.heap.size) :
  ∃ v' w',(Builtin.append_ #[t,t] ty #[.slice (some ⟨g,0,none⟩) 0 0,.slice A n c]).run P w=.ok v' w'∧Own w' B E k RR ys v' []∧w.grownBy w' (some g)∧∀ b∈rowOf v',b=g∨b=w.heap.size:=by
 obtain ⟨A',c',hv,h1,h2,h3⟩:=hy
 cases hv
 rcases h3 with ⟨rfl,-⟩ | ⟨b,off,cs,G,rfl,hc,hf,-⟩
 ·cases A with
  |none=>exact ⟨_,w,run_append_void t ty E i ht hi g 0 c none rfl,hown,⟨rfl,rfl,rfl,zz8 _,fun _ _ _=>rfl⟩,fun b hb=>by rw [zA4,zy1] at hb;exact .inl hb⟩
  |some a =>
   obtain ⟨cs,o1,o2,o3,o4⟩:=hown
   obtain ⟨v',w',hr,q1,q2,q3,q4⟩:=run_append_own_at (P:=P) w B t ty E i z k bytes ht hi hz hsize hby hzs hk _ 0 cs o1 a 0 c [] (by simp) (fun j u h=>by simp at h) (fun u h=>by cases h) (by simp [maxLen]) (by simp) hbase
   obtain ⟨rfl,-⟩:=o2
   refine ⟨v',w',hr,⟨[],q1,⟨rfl,rfl⟩,Under.nil _,fun g _ h=>by cases h⟩,q2,fun b hb=>?_⟩
   have hb:=zA1.1 hb
   rcases q4 with q4 | q4
   ·left;rw [q4] at hb;exact (Option.some.inj hb).symm
   ·right;rw [q4] at hb;exact (Option.some.inj hb).symm
 ·obtain ⟨cs0,o1,o2,o3,o4⟩:=hown
  obtain ⟨rfl,-⟩:=o2
  have hl:cs.length=ys.length*k:=hf.length hRl
  have hone:=hf.ones hR1
  obtain ⟨v',w',hr,q1,q2,q3,q4⟩:=run_append_own_at (P:=P) w B t ty E i z k bytes ht hi hz hsize hby hzs hk _ 0 [] o1 ⟨b,off,none⟩ ys.length c cs hl (fun j u hj=>by rw [Addr.add_lit];exact hc j u hj) hone (by unfold maxLen;omega) (by simpa using hbytes) hbase
  refine ⟨v',w',hr,⟨cs,by simpa using q1,?_,Under.nil _,fun g _ h=>by cases h⟩,q2,fun x hx=>?_⟩
  ·exact hf.bare (hRR w')
  ·have hb:=zA1.1 hx
   rcases q4 with q4 | q4
   ·left;rw [q4] at hb;exact (Option.some.inj hb).symm
   ·right;rw [q4] at hb;exact (Option.some.inj hb).symm
end
theorem wpList_append_run {P:Program} {w:World} {ops:Array Oper} {rest:List Oper} {o:Oper} {a:Act} {Q:Exit→Act→World→Prop} (hgd:o.guard=none) (s x:Operand) (t:TypeId)
  (ho:o.op=.call { callee:=.builtin .append,args:=#[s,x],argTypes:=#[t,t] }) {sv xv v':Value} {w':World} (hs:a.eval s=sv) (hx:a.eval x=xv)
  (hr:(Builtin.append_ #[t,t] o.type #[sv,xv]).run P w=.ok v' w') (h:wpList P ops Q rest (a.put o.dst v') w'):wpList P ops Q (o :: rest) a w:=by
 refine wpList_plain hgd fun K hK=>?_
 unfold Oper.wp execOp
 simp only [ho,resolve,invoke,builtin,Sem.run_bind,Sem.run_pure,Result.andThen_ok,List.map_toArray,List.map_cons,List.map_nil,hs,hx,hr]
 exact hK _ _ h
theorem Own.mono0 {α:Type} {w w':World} {B k:Nat} {E:TypeId} {R:World→α→List Value→List Nat→Prop} {xs:List α} {v:Value} (hR:∀ x cs G,R w x cs G→R w' x cs G) (h:Own w B E k R xs v []) (hk:Kept (rowOf v) w w'):Own w' B E k R xs v []:=by
 obtain ⟨cs,h1,h2,h3,h4⟩:=h
 refine ⟨cs,⟨h1.1,?_⟩,h2.mono fun x _ cs G _ hr=>hR x cs G hr,Under.nil _,h4⟩
 rcases h1.2 with hn | ⟨g,cap,cur,rfl,hb,hg,rest⟩
 ·exact .inl hn
 ·exact .inr ⟨g,cap,cur,rfl,hb,(hk g (by simp [zA4])).trans hg,rest⟩
def KtO (w:World) (c:Kt) (cs:List Value) (F:List Nat):Prop:=∃ kv,cs=[.string c.name,kv,.int .i64 c.idx]∧Own w 0 25 2 TyR c.args kv []∧F=rowOf kv∧c.name.size≤9223372036854775807
theorem KtO_len (w:World) (c:Kt) (cs:List Value) (F:List Nat) (h:KtO w c cs F):cs.length=3:=by obtain ⟨kv,rfl,-⟩:=h;rfl
theorem KtO_mono (w w':World) (c:Kt) (cs:List Value) (F:List Nat) (hk:Kept F w w') (h:KtO w c cs F):KtO w' c cs F:=by
 obtain ⟨kv,e,ho,rfl,hs⟩:=h
 exact ⟨kv,e,Own.mono0 (w:=w) (w':=w') (fun x cs G (h:TyR w x cs G)=>(h:TyR w' x cs G)) ho hk,rfl,hs⟩
theorem KtO.toR {w:World} {c:Kt} {cs:List Value} {F:List Nat} (h:KtO w c cs F):∃ G,(∀ b∈G,b∈F)∧KtR w c cs G:=by
 obtain ⟨kv,rfl,ho,rfl,hs⟩:=h
 refine ⟨_,fun b hb=>?_,kv,rfl,ho.arr,hs⟩
 split at hb
 ·cases hb
 ·rwa [List.append_nil] at hb
def DtO (w:World) (x:Dt) (cs:List Value) (F:List Nat):Prop:=∃ kv,cs=[.string x.name,kv]∧Arr w (KtO w) x.ctors kv F∧x.name.size≤9223372036854775807
theorem DtO_len (w:World) (x:Dt) (cs:List Value) (F:List Nat) (h:DtO w x cs F):cs.length=2:=by obtain ⟨kv,rfl,-⟩:=h;rfl
theorem DtO_mono (w w':World) (x:Dt) (cs:List Value) (F:List Nat) (hk:Kept F w w') (h:DtO w x cs F):DtO w' x cs F:=by
 obtain ⟨kv,e,ha,hs⟩:=h
 exact ⟨kv,e,ha.mono hk fun y _ cs G hk h=>KtO_mono _ _ y cs G hk h,hs⟩
theorem Flat.weaken {α:Type} {R R':α→List Value→List Nat→Prop} (hR:∀ x cs G,R x cs G→∃ G',(∀ b∈G',b∈G)∧R' x cs G'):∀ {xs:List α} {cs:List Value} {F:List Nat},Flat R xs cs F→∃ F',(∀ b∈F',b∈F)∧Flat R' xs cs F'
 |[],cs,F,h=>⟨[],(fun b hb=>by cases hb),h.1,rfl⟩
 |x :: xs,cs,F,h=>by
  obtain ⟨c1,c2,F1,F2,rfl,rfl,h1,h2⟩:=h
  obtain ⟨G1,g1,r1⟩:=hR _ _ _ h1
  obtain ⟨G2,g2,r2⟩:=Flat.weaken hR h2
  exact ⟨G1 ++ G2,fun b hb=>by
   rcases List.mem_append.1 hb with h | h
   ·exact List.mem_append.2 (.inl (g1 b h))
   ·exact List.mem_append.2 (.inr (g2 b h)),c1,c2,G1,G2,rfl,rfl,r1,r2⟩
theorem Arr.weaken {α:Type} {w:World} {R R':α→List Value→List Nat→Prop} (hR:∀ x cs G,R x cs G→∃ G',(∀ b∈G',b∈G)∧R' x cs G') {xs:List α} {v:Value} {F:List Nat} (h:Arr w R xs v F):∃ F',(∀ b∈F',b∈F)∧Arr w R' xs v F':=by
 obtain ⟨A,cap,rfl,h1,h2,h3⟩:=h
 rcases h3 with ⟨h3,-⟩ | ⟨b,off,cs,G,rfl,hc,hf,rfl⟩
 ·exact ⟨[],fun b hb=>(by cases hb),A,cap,rfl,h1,h2,.inl ⟨h3,rfl⟩⟩
 ·obtain ⟨G',hg,hf'⟩:=Flat.weaken hR hf
  exact ⟨b :: G',fun x hx=>by
   rcases List.mem_cons.1 hx with rfl | h
   ·simp
   ·simp [hg x h],_,cap,rfl,h1,h2,.inr ⟨b,off,cs,G',rfl,hc,hf',rfl⟩⟩
theorem DtO.toR {w:World} {x:Dt} {cs:List Value} {F:List Nat} (h:DtO w x cs F):∃ G,(∀ b∈G,b∈F)∧DtR w x cs G:=by
 obtain ⟨kv,rfl,ha,hs⟩:=h
 obtain ⟨G,hg,ha'⟩:=ha.weaken fun _ _ _ h=>KtO.toR h
 exact ⟨G,hg,kv,rfl,ha',hs⟩
theorem ArrDtO.toR {w:World} {xs:List Dt} {v:Value} {F:List Nat} (h:Arr w (DtO w) xs v F):∃ G,(∀ b∈G,b∈F)∧Arr w (DtR w) xs v G:=h.weaken fun _ _ _ h=>DtO.toR h
def SmallW (n:Nat) (xs:List Dt):Prop:=∀ x∈xs,x.ctors.length≤n∧∀ c∈x.ctors,c.args.length≤n
theorem SmallW.of {xs:List Dt} (h:WorldOK xs):SmallW 4 xs:=fun x hx=>⟨(h.all x hx).hi,fun c hc=>by have:=((h.all x hx).all c hc).args;omega⟩
theorem Arr.put {α:Type} {R R':World→α→List Value→List Nat→Prop} {k:Nat} (hRl:∀ w x cs G,R w x cs G→cs.length=k) (hRl':∀ w x cs G,R' w x cs G→cs.length=k)
  (hconv:∀ w w' x cs G,Kept G w w'→R w x cs G→∃ G',(∀ b∈G',b∈G)∧R' w' x cs G') {w:World} {xs:List α} {v:Value} {F:List Nat}
  (h:Arr w (R w) xs v F) (hfr:Free w F) {i:Nat} (hi:i<xs.length) :
  ∃ b off c F2 cap,v=.slice (some ⟨b,off,none⟩) xs.length cap∧CellsAt w b (off+i*k) c∧R w xs[i] c F2∧Free w F2∧b∉F2∧b∈F∧(∀ x∈F2,x∈F)∧(∀ j,w.frozen? ⟨b,j,none⟩=false) ∧
   ∀ w' y c' G2,(∀ j,j<off+i*k∨off+i*k+k≤j→w'.cell? ⟨b,j,none⟩=w.cell? ⟨b,j,none⟩)→(∀ x∈F,x≠b→x∉F2→w'.heap[x]?=w.heap[x]?)→CellsAt w' b (off+i*k) c'→R' w' y c' G2 →
    ∃ F',(∀ x∈F',x∈F∨x∈G2)∧Arr w' (R' w') (xs.set i y) v F':=by
 obtain ⟨A,cap,rfl,h1,h2,h3⟩:=h
 rcases h3 with ⟨rfl,-⟩ | ⟨b,off,cs,G,rfl,hc,hf,rfl⟩
 ·simp at hi
 have hxs:xs=xs.take i ++ (xs[i] :: xs.drop (i+1)):=by rw [←List.drop_eq_getElem_cons hi,List.take_append_drop]
 have hf':=hf
 rw [hxs] at hf'
 obtain ⟨c1,c23,F1,F23,rfl,rfl,g1,g23⟩:=Flat.split (xs.take i) hf'
 obtain ⟨c2,c3,F2,F3,rfl,rfl,g2,g3⟩:=g23
 have l1:c1.length=i*k:=by rw [g1.length (hRl w),List.length_take];congr 1;omega
 have hc2:=hc.right
 rw [l1] at hc2
 have l2:=hRl _ _ _ _ g2
 have nd:=List.nodup_cons.1 hfr.1
 have nd1:=List.nodup_append.1 nd.2
 have nd2:=List.nodup_append.1 nd1.2.1
 have hbF2:b∉F2:=fun hb=>nd.1 (List.mem_append.2 (.inr (List.mem_append.2 (.inl hb))))
 refine ⟨b,off,c2,F2,cap,rfl,hc2.left,g2,⟨nd2.1,fun x hx j=>hfr.2 x (by simp [hx]) j⟩,hbF2,by simp,fun x hx=>by simp [hx],fun j=>hfr.2 b (by simp) j,?_⟩
 intro w' y c' G2 hcell hblk hc' hy
 have k1:Kept F1 w w':=fun x hx=>hblk x (by simp [hx]) (fun e=>nd.1 (by simp [←e,hx])) (fun hm=>nd1.2.2 x hx x (by simp [hm]) rfl)
 have k3:Kept F3 w w':=fun x hx=>hblk x (by simp [hx]) (fun e=>nd.1 (by simp [←e,hx])) (fun hm=>nd2.2.2 x hm x hx rfl)
 have lc':=hRl' _ _ _ _ hy
 have hxs':xs.set i y=xs.take i ++ (y :: xs.drop (i+1)):=by rw [List.set_eq_take_append_cons_drop,if_pos hi]
 obtain ⟨F1',s1,e1⟩:=Flat.weaken (R:=fun x cs H=>∃ G',(∀ b∈G',b∈H)∧R' w' x cs G') (R':=R' w') (fun _ _ _ h=>h) (g1.mono fun x _ cs H hH hr=>hconv _ _ x cs H (fun z hz=>k1 z (hH z hz)) hr)
 obtain ⟨F3',s3,e3⟩:=Flat.weaken (R:=fun x cs H=>∃ G',(∀ b∈G',b∈H)∧R' w' x cs G') (R':=R' w') (fun _ _ _ h=>h) (g3.mono fun x _ cs H hH hr=>hconv _ _ x cs H (fun z hz=>k3 z (hH z hz)) hr)
 refine ⟨b :: (F1' ++ (G2 ++ F3')),fun x hx=>?_,?_⟩
 ·rcases List.mem_cons.1 hx with rfl | hx
  ·simp
  ·rcases List.mem_append.1 hx with hx | hx
   ·left;simp [s1 x hx]
   ·rcases List.mem_append.1 hx with hx | hx
    ·right;exact hx
    ·left;simp [s3 x hx]
 ·rw [hxs']
  refine ⟨_,cap,by rw [←hxs',List.length_set],by rw [←hxs',List.length_set];exact h1,h2,.inr ⟨b,off,c1 ++ (c' ++ c3),F1' ++ (G2 ++ F3'),rfl,?_,?_,rfl⟩⟩
  ·refine CellsAt.append (fun j u hj=>?_) (CellsAt.append ?_ (fun j u hj=>?_))
   ·have hjl:=(List.getElem?_eq_some_iff.1 hj).1
    rw [hcell _ (.inl (by omega))]
    exact hc.left j u hj
   ·rw [l1];exact hc'
   ·rw [l1,hcell _ (.inr (by omega))]
    have:=hc2.right j u hj
    rw [l2] at this
    rwa [lc']
  ·exact e1.append ⟨c',c3,G2,F3',rfl,rfl,hy,e3⟩
theorem KtO.toR' {w w':World} {c:Kt} {cs:List Value} {F:List Nat} (hk:Kept F w w') (h:KtO w c cs F):∃ G,(∀ b∈G,b∈F)∧KtR w' c cs G:=KtO.toR (KtO_mono _ _ _ _ _ hk h)
theorem DtO.toR' {w w':World} {c:Dt} {cs:List Value} {F:List Nat} (hk:Kept F w w') (h:DtO w c cs F):∃ G,(∀ b∈G,b∈F)∧DtR w' c cs G:=DtO.toR (DtO_mono _ _ _ _ _ hk h)
theorem KtR_len0 (w:World) (c:Kt) (cs:List Value) (F:List Nat) (h:KtR w c cs F):cs.length=3:=by obtain ⟨kv,rfl,-⟩:=h;rfl
theorem DtR_len0 (w:World) (c:Dt) (cs:List Value) (F:List Nat) (h:DtR w c cs F):cs.length=2:=by obtain ⟨kv,rfl,-⟩:=h;rfl
theorem put1 {w:World} {xs:List Dt} {v:Value} {F:List Nat} (h:Arr w (DtO w) xs v F) (hfr:Free w F) {d:Nat} (hd:d<xs.length) :
  ∃ b off cap kv F2,v=.slice (some ⟨b,off,none⟩) xs.length cap∧b∈F∧(∀ x∈F2,x∈F∧x≠b)∧(∀ j,w.frozen? ⟨b,j,none⟩=false)∧w.cell? ⟨b,off+d*2,none⟩=some (.string xs[d].name)∧w.cell? ⟨b,off+d*2+1,none⟩=some kv ∧
   Arr w (KtO w) xs[d].ctors kv F2∧xs[d].name.size≤9223372036854775807 ∧
   ∀ w' nm ks kv' G2,(∀ j,j<off+d*2∨off+d*2+2≤j→w'.cell? ⟨b,j,none⟩=w.cell? ⟨b,j,none⟩)→(∀ x∈F,x≠b→w'.heap[x]?=w.heap[x]?)→w'.cell? ⟨b,off+d*2,none⟩=some (.string nm)→w'.cell? ⟨b,off+d*2+1,none⟩=some kv' →
    Arr w' (KtR w') ks kv' G2→nm.size≤9223372036854775807→∃ F',(∀ x∈F',x∈F∨x∈G2)∧Arr w' (DtR w') (xs.set d ⟨nm,ks⟩) v F':=by
 obtain ⟨b,off,c,F2,cap,e,hc,⟨kv,rfl,ha,hs⟩,hf2,hb2,hbF,hsub,hz,H⟩:=Arr.put (R:=DtO) (R':=DtR) DtO_len DtR_len0 (fun _ _ _ _ _ hk h=>DtO.toR' hk h) h hfr hd
 refine ⟨b,off,cap,kv,F2,e,hbF,fun x hx=>⟨hsub x hx,fun e=>hb2 (e▸hx)⟩,hz,by simpa using hc 0 _ rfl,hc 1 _ rfl,ha,hs,?_⟩
 intro w' nm ks kv' G2 h1 h2 h3 h4 h5 h6
 exact H w' ⟨nm,ks⟩ [.string nm,kv'] G2 h1 (fun x hx hxb _=>h2 x hx hxb) (CellsAt.cons h3 (CellsAt.cons h4 (CellsAt.nil _ _ _))) ⟨kv',rfl,h5,h6⟩
theorem put2 {w:World} {xs:List Dt} {v:Value} {F:List Nat} (h:Arr w (DtO w) xs v F) (hfr:Free w F) {d:Nat} (hd:d<xs.length) (hk:0<xs[d].ctors.length) :
  ∃ b off cap b2 off2 cap2 av,v=.slice (some ⟨b,off,none⟩) xs.length cap∧b∈F∧b2∈F∧b2≠b∧(∀ j,w.frozen? ⟨b,j,none⟩=false)∧(∀ j,w.frozen? ⟨b2,j,none⟩=false) ∧
   w.cell? ⟨b,off+d*2+1,none⟩=some (.slice (some ⟨b2,off2,none⟩) xs[d].ctors.length cap2) ∧
   w.cell? ⟨b2,off2,none⟩=some (.string xs[d].ctors[0].name)∧w.cell? ⟨b2,off2+1,none⟩=some av∧w.cell? ⟨b2,off2+2,none⟩=xs[d].ctors[0].idx ∧
   Own w 0 25 2 TyR xs[d].ctors[0].args av []∧(∀ x∈rowOf av,x∈F∧x≠b∧x≠b2)∧xs[d].ctors[0].name.size≤9223372036854775807 ∧
   ∀ w' nm ags ix av' G2,(∀ j,j<off2∨off2+3≤j→w'.cell? ⟨b2,j,none⟩=w.cell? ⟨b2,j,none⟩)→(∀ x∈F,x≠b2→x∉rowOf av→w'.heap[x]?=w.heap[x]?) →
    w'.cell? ⟨b2,off2,none⟩=some (.string nm)→w'.cell? ⟨b2,off2+1,none⟩=some av'→w'.cell? ⟨b2,off2+2,none⟩=some (.int .i64 ix) →
    Arr w' (TyR w') ags av' G2→nm.size≤9223372036854775807→∃ F',(∀ x∈F',x∈F∨x∈G2)∧Arr w' (DtR w') (xs.set d ⟨xs[d].name,xs[d].ctors.set 0 ⟨nm,ags,ix⟩⟩) v F':=by
 obtain ⟨b,off,c,F2,cap,e,hc,⟨kv,rfl,ha,hs⟩,hf2,hb2,hbF,hsub,hz,H⟩:=Arr.put (R:=DtO) (R':=DtR) DtO_len DtR_len0 (fun _ _ _ _ _ hk h=>DtO.toR' hk h) h hfr hd
 obtain ⟨b2,off2,c2,F3,cap2,rfl,hc2,⟨av,rfl,hown,rfl,hs2⟩,hf3,hb3,hbF2,hsub2,hz2,H2⟩:=Arr.put (R:=KtO) (R':=KtR) KtO_len KtR_len0 (fun _ _ _ _ _ hk h=>KtO.toR' hk h) ha hf2 hk
 simp only [Nat.zero_mul,Nat.add_zero] at hc2 H2
 refine ⟨b,off,cap,b2,off2,cap2,av,e,hbF,hsub _ hbF2,fun e=>hb2 (e▸hbF2),hz,hz2,hc 1 _ rfl,by simpa using hc2 0 _ rfl,hc2 1 _ rfl,hc2 2 _ rfl,hown,fun x hx=>⟨hsub _ (hsub2 x hx),fun e=>hb2 (e▸hsub2 x hx),fun e=>hb3 (e▸hx)⟩,hs2,?_⟩
 intro w' nm ags ix av' G2 h1 h2 h3 h4 h5 h6 h7
 obtain ⟨F2',s2,ha2⟩:=H2 w' ⟨nm,ags,ix⟩ [.string nm,av',.int .i64 ix] G2 h1 (fun x hx hxb hxa=>h2 x (hsub x hx) hxb hxa) (CellsAt.cons h3 (CellsAt.cons h4 (CellsAt.cons h5 (CellsAt.nil _ _ _)))) ⟨av',rfl,h6,h7⟩
 have hbb:w'.heap[b]?=w.heap[b]?:=h2 b hbF (fun e=>hb2 (e▸hbF2)) (fun hx=>hb2 (hsub2 _ hx))
 obtain ⟨F',s,ha'⟩:=H w' ⟨xs[d].name,xs[d].ctors.set 0 ⟨nm,ags,ix⟩⟩ [.string xs[d].name,.slice (some ⟨b2,off2,none⟩) xs[d].ctors.length cap2] F2' (fun j _=>World.cell?_of_block (a:=⟨b,j,none⟩) hbb)
  (fun x hx hxb hx2=>h2 x hx (fun e=>hx2 (e▸hbF2)) (fun hxa=>hx2 (hsub2 _ hxa))) (fun j u hj=>(World.cell?_of_block (a:=⟨b,off+d*2+j,none⟩) hbb).trans (hc j u hj)) ⟨_,rfl,ha2,hs⟩
 exact ⟨F',fun x hx=>by
  rcases s x hx with h | h
  ·exact .inl h
  ·rcases s2 x h with h | h
   ·exact .inl (hsub x h)
   ·exact .inr h,ha'⟩
theorem Chg.set_new {F:List Nat} {w w2:World} {b j:Nat} {u:Value} (h:Chg F w w2) (hb:w.heap.size≤b):Chg F w (w2.setCell ⟨b,j,none⟩ u) :=
 ⟨h.os,h.tape,h.output,Nat.le_trans h.size (by simp [World.setCell]),fun c hc hF=>(zz7 _ _ _ _ (by show c≠b;omega)).trans (h.block c hc hF)⟩
def DrewTy (g p n:Nat) (w:World) (e:Ending) (w':World):Prop:=∃ (t:Ty) (q:Nat),e=.returned (.agg #[t.d,t.i])∧Rd w' g q∧q≤p+n∧Chg [g] w w'
theorem Rd.same {w w':World} {g p:Nat} (h:Rd w g p) (hk:∀ b,b≤g→w'.heap[b]?=w.heap[b]?):Rd w' g p:=by
 obtain ⟨A,cap,bs,F,h1,h2,h3,h5⟩:=h
 exact ⟨A,cap,bs,F,h1.same (hk g (zz8 _)),ArrBy.mono h2 (fun c hc=>hk c (Nat.le_of_lt (h3 c hc))),h3,h5⟩
theorem Rd.low {w w':World} {g p B:Nat} (h:Rd w g p) (hb:Below B w w') (hg:g<B):Rd w' g p:=h.same fun b hb'=>hb.block b (by omega)
theorem SmallW.set {n:Nat} {xs:List Dt} {d:Nat} {y:Dt} (h:SmallW n xs) (h1:y.ctors.length≤n) (h2:∀ c∈y.ctors,c.args.length≤n):SmallW n (xs.set d y):=fun x hx=>by
 rcases List.mem_or_eq_of_mem_set hx with hx | rfl
 ·exact h x hx
 ·exact ⟨h1,h2⟩
theorem SmallW.mono {n m:Nat} {xs:List Dt} (h:SmallW n xs) (hm:n≤m):SmallW m xs:=fun x hx=>⟨Nat.le_trans (h x hx).1 hm,fun c hc=>Nat.le_trans ((h x hx).2 c hc) hm⟩
structure Cpy (g q:Nat) (xs:List Dt) (v:Value) (F:List Nat) (w w1:World):Prop where
 rd:Rd w1 g q
 chg:Chg [g] w w1
 own:Own w1 w.heap.size 64 2 DtO xs v F
 free:Free w1 F
 fresh:∀ b∈F,w.heap.size≤b
 lt:g<w.heap.size
def Mutd (g p m:Nat) (xs:List Dt) (w:World) (e:Ending) (w':World):Prop:=DrewWorld g p 10 w (fun ys=>0<ys.length∧ys.length≤xs.length+1∧SmallW (m+1) ys) e w'
section
variable {g q p m : Nat} {xs : List Dt} {v : Value} {F : List Nat} {w w1 w2 : World}
theorem Cpy.step {q':Nat} (h:Cpy g q xs v F w w1) (hr:Rd w2 g q') (hc:Chg [g] w1 w2):Cpy g q' xs v F w w2:=by
 have hu:=h.own.under
 have hro:=h.own.row
 have hlt:=h.lt
 refine ⟨hr,h.chg.trans hc,h.own.mono (fun x cs G hk h=>DtO_mono _ _ x cs G hk h) (hc.kept (fun b hb=>?_) (fun b hb=>?_)) hc.size,h.free.kept (hc.kept hu (fun b hb=>?_)),h.fresh,hlt⟩
 ·rcases List.mem_append.1 hb with h1 | h1
  ·exact (hro b h1).2
  ·exact hu b h1
 ·rw [zy1]
  rcases List.mem_append.1 hb with h1 | h1
  ·have:=(hro b h1).1;omega
  ·have:=h.fresh b h1;omega
 ·rw [zy1]
  have:=h.fresh b hb;omega
theorem Cpy.drew (h:Cpy g q xs v F w w1):Cpy g q xs v F w w1.drew:=h.step h.rd (Chg.refl _ _).drew
theorem Cpy.arr (h:Cpy g q xs v F w w1):∃ FF,Arr w1 (DtO w1) xs v FF∧Free w1 FF∧∀ b∈FF,w.heap.size≤b∧b<w1.heap.size:=by
 refine ⟨_,h.own.arr,h.own.free h.free,fun b hb=>?_⟩
 split at hb
 ·cases hb
 ·rcases List.mem_append.1 hb with h1 | h1
  ·exact h.own.row b h1
  ·exact ⟨h.fresh b h1,h.own.under b h1⟩
theorem Mutd.of {ys:List Dt} {q':Nat} {G:List Nat} (h:Arr w1 (DtR w1) ys v G) (hG:∀ b∈G,w.heap.size≤b∧b<w1.heap.size) (hr:Rd w1 g q') (hq:q'≤p+10) (hc:Chg [g] w w1) (h0:0<ys.length) (hl:ys.length≤xs.length+1) (hs:SmallW (m+1) ys):Mutd g p m xs w (.returned v) w1 :=
 ⟨ys,v,G,q',rfl,⟨h0,hl,hs⟩,h,hG,hr,hq,hc⟩
theorem Cpy.done (h:Cpy g q xs v F w w1) (h0:0<xs.length) (hs:SmallW m xs) (hq:q≤p+10):Mutd g p m xs w (.returned v) w1:=by
 obtain ⟨FF,ha,-,hF⟩:=h.arr
 obtain ⟨G,hG,ha'⟩:=ArrDtO.toR ha
 exact Mutd.of ha' (fun b hb=>hF b (hG b hb)) h.rd hq h.chg h0 (Nat.le_succ _) (hs.mono (by omega))
theorem Cpy.data {b off n cap d:Nat} (h:Cpy g q xs (.slice (some ⟨b,off,none⟩) n cap) F w w1) (h0:0<xs.length) (hs:SmallW m xs) (hd:d<xs.length) :
  ∃ kA kcap F2,w1.cell? ⟨b,off+d*2,none⟩=some (.string xs[d].name)∧w1.cell? ⟨b,off+d*2+1,none⟩=some (.slice kA xs[d].ctors.length kcap)∧(∀ j,w1.frozen? ⟨b,j,none⟩=false)∧w.heap.size≤b∧b<w1.heap.size∧xs[d].ctors.length≤kcap∧kcap≤9223372036854775807 ∧
   DtO w1 xs[d] [.string xs[d].name,.slice kA xs[d].ctors.length kcap] F2∧(∀ x∈F2,x≠b∧w.heap.size≤x∧x<w1.heap.size) ∧
   (∀ s:ByteArray,s.size≤1000→q≤p+10→Mutd g p m xs w (.returned (.slice (some ⟨b,off,none⟩) n cap)) (w1.setCell ⟨b,off+d*2,none⟩ (.string s))) ∧
   (∀ E,q≤p+10→Mutd g p m xs w (.returned (.slice (some ⟨b,off,none⟩) n cap)) ((w1.setCell ⟨b,off+d*2+1,none⟩ (.slice (some ⟨w1,0,none⟩) 0 0)).alloc (.cells #[] E))):=by
 obtain ⟨FF,ha,hfr,hF⟩:=h.arr
 obtain ⟨b',off',cap',kv,F2,e,hbF,hF2,hz,hn,hk,hkv,hns,H⟩:=put1 ha hfr hd
 cases e
 obtain ⟨kA,kcap,rfl,hc1,hc2⟩:=hkv.form
 have hb:=hF _ hbF
 have hg:=h.lt
 have hsd:=hs _ (List.getElem_mem hd)
 refine ⟨kA,kcap,F2,hn,hk,hz,hb.1,hb.2,hc1,hc2,⟨_,rfl,hkv,hns⟩,fun x hx=>⟨(hF2 x hx).2,hF x (hF2 x hx).1⟩,fun s hss hq=>?_,fun E hq=>?_⟩
 ·obtain ⟨G,hG,hka⟩:=(hkv.mono (w':=w1.setCell ⟨b,off+d*2,none⟩ (.string s)) (R':=KtO (w1.setCell ⟨b,off+d*2,none⟩ (.string s))) (fun c hc=>zz7 _ _ _ _ (hF2 c hc).2) (fun y _ cs G hk h=>KtO_mono _ _ y cs G hk h)).weaken fun _ _ _ h=>KtO.toR h
  obtain ⟨F',hF',har⟩:=H _ s xs[d].ctors (.slice kA xs[d].ctors.length kcap) G (fun j hj=>World.cell?_setCell_other _ _ _ _ (by intro e;injection e;omega)) (fun x hx hxb=>zz7 _ _ _ _ hxb)
   (World.cell?_setCell_same _ _ _ hn) ((World.cell?_setCell_other _ _ _ _ (by intro e;injection e;omega)).trans hk) hka (by omega)
  refine Mutd.of har (fun x hx=>?_) (h.rd.set (by omega)) hq (h.chg.set_new hb.1) (by rw [List.length_set];exact h0) (by rw [List.length_set];exact Nat.le_succ _) ((hs.mono (by omega)).set (by simpa using Nat.le_trans hsd.1 (by omega)) (fun c hc=>Nat.le_trans (hsd.2 c hc) (by omega)))
  have hsz:(w1.setCell ⟨b,off+d*2,none⟩ (.string s)).heap.size=w1.heap.size:=by simp [World.setCell]
  rw [hsz]
  rcases hF' x hx with h1 | h1
  ·exact hF x h1
  ·exact hF x (hF2 x (hG x h1)).1
 ·rw [←World.setCell_alloc_past _ _ _ _ hb.2]
  have hblk:∀ x,x<w1.heap.size→x≠b→((w1.alloc (.cells #[] E)).setCell ⟨b,off+d*2+1,none⟩ (.slice (some ⟨w1,0,none⟩) 0 0)).heap[x]?=w1.heap[x]?:=fun x hx hxb=>(zz7 _ _ _ _ hxb).trans (Below.heap_alloc _ _ _ hx)
  have hce:∀ j,(w1.alloc (.cells #[] E)).cell? ⟨b,j,none⟩=w1.cell? ⟨b,j,none⟩:=fun j=>World.cell?_alloc_lt _ _ _ hb.2
  obtain ⟨F',hF',har⟩:=H _ xs[d].name [] (.slice (some ⟨w1,0,none⟩) 0 0) [] (fun j hj=>(World.cell?_setCell_other _ _ _ _ (by intro e;injection e;omega)).trans (hce j)) (fun x hx hxb=>hblk x (hF x hx).2 hxb)
   ((World.cell?_setCell_other _ _ _ _ (by intro e;injection e;omega)).trans ((hce _).trans hn)) (World.cell?_setCell_same _ _ _ ((hce _).trans hk)) ⟨_,_,rfl,by simp,by simp [maxLen],.inl ⟨rfl,rfl⟩⟩ hns
  have hsz:((w1.alloc (.cells #[] E)).setCell ⟨b,off+d*2+1,none⟩ (.slice (some ⟨w1,0,none⟩) 0 0)).heap.size=w1.heap.size+1:=by simp [World.setCell]
  have hbel:Below w1 w1 (w1.alloc (.cells #[] E)):=(zy2 _ _).alloc (zz8 _) _
  refine Mutd.of har (fun x hx=>?_) ((h.rd.below hbel).set (by omega)) hq ((h.chg.step hbel).set_new hb.1) (by rw [List.length_set];exact h0) (by rw [List.length_set];exact Nat.le_succ _) ((hs.mono (by omega)).set (by simp) (fun c hc=>by cases hc))
  rw [hsz]
  rcases hF' x hx with h1 | h1
  ·have:=hF x h1;omega
  ·cases h1
theorem Cpy.ctor {b off n cap d:Nat} (h:Cpy g q xs (.slice (some ⟨b,off,none⟩) n cap) F w w1) (h0:0<xs.length) (hs:SmallW m xs) (hd:d<xs.length) (hk:0<xs[d].ctors.length) :
  ∃ b2 off2 cap2 aA acap,w1.cell? ⟨b,off+d*2+1,none⟩=some (.slice (some ⟨b2,off2,none⟩) xs[d].ctors.length cap2)∧b≠b2∧b∉[g]∧b2∉[g]∧b<w1.heap.size∧b2<w1.heap.size∧(∀ j,w1.frozen? ⟨b2,j,none⟩=false) ∧
   w1.cell? ⟨b2,off2,none⟩=some (.string xs[d].ctors[0].name)∧w1.cell? ⟨b2,off2+1,none⟩=some (.slice aA xs[d].ctors[0].args.length acap)∧w1.cell? ⟨b2,off2+2,none⟩=xs[d].ctors[0].idx ∧
   Own w1 0 25 2 TyR xs[d].ctors[0].args (.slice aA xs[d].ctors[0].args.length acap) []∧(∀ x∈rowOf (.slice aA xs[d].ctors[0].args.length acap),x∉[g]∧x≠b∧x≠b2∧x<w1.heap.size)∧xs[d].ctors[0].args.length≤m ∧
   (∀ (w2:World) (q':Nat) (s:ByteArray),Rd w2 g q'→Chg [g] w1 w2→q'≤p+10→s.size≤1000→Mutd g p m xs w (.returned (.slice (some ⟨b,off,none⟩) n cap)) (w2.setCell ⟨b2,off2,none⟩ (.string s))) ∧
   (∀ (w2:World) (q':Nat) (i:Int),Rd w2 g q'→Chg [g] w1 w2→q'≤p+10→Mutd g p m xs w (.returned (.slice (some ⟨b,off,none⟩) n cap)) (w2.setCell ⟨b2,off2+2,none⟩ (.int .i64 i))) ∧
   (∀ (w2:World) (q':Nat) (y:Ty) (g' c':Nat) (w3:World) (o:Obj),Rd w2 g q'→Chg [g] w1 w2→q'≤p+10→Own w3 0 25 2 TyR (xs[d].ctors[0].args ++ [y]) (.slice (some ⟨g',0,none⟩) (xs[d].ctors[0].args.length+1) c') [] →
    (w2.alloc o).grownBy w3 (Value.slice aA xs[d].ctors[0].args.length acap).ownBlock→((Value.slice aA xs[d].ctors[0].args.length acap).ownBlock=some g'∨g'=w2.heap.size+1) →
    Mutd g p m xs w (.returned (.slice (some ⟨b,off,none⟩) n cap)) (w3.setCell ⟨b2,off2+1,none⟩ (.slice (some ⟨g',0,none⟩) (xs[d].ctors[0].args.length+1) c'))):=by
 obtain ⟨FF,ha,hfr,hF⟩:=h.arr
 obtain ⟨b',off',cap',b2,off2,cap2,av,e,hbF,hb2F,hbb,hz,hz2,hkc,c0,c1,c2,hown,hrow,hns,H⟩:=put2 ha hfr hd hk
 cases e
 obtain ⟨aA,acap,rfl,-,-⟩:=hown.form
 have hb:=hF _ hbF
 have hb2:=hF _ hb2F
 have hg:=h.lt
 have hsd:=hs _ (List.getElem_mem hd)
 have hsa:=hsd.2 _ (List.getElem_mem hk)
 have hFg:∀ x∈FF,x∉[g]:=fun x hx=>by have:=(hF x hx).1;rw [zy1];omega
 have small:∀ c:Kt,c.args.length≤m+1→SmallW (m+1) (xs.set d ⟨xs[d].name,xs[d].ctors.set 0 c⟩):=fun c hc=>(hs.mono (by omega)).set (by simp only [List.length_set];omega) (fun k hk'=>by
  rcases List.mem_or_eq_of_mem_set hk' with h1 | rfl
  ·exact Nat.le_trans (hsd.2 _ h1) (by omega)
  ·exact hc)
 refine ⟨b2,off2,cap2,aA,acap,hkc,fun e=>hbb e.symm,hFg _ hbF,hFg _ hb2F,hb.2,hb2.2,hz2,c0,c1,c2,hown,fun x hx=>⟨hFg _ (hrow x hx).1,(hrow x hx).2.1,(hrow x hx).2.2,(hF _ (hrow x hx).1).2⟩,hsa,fun w2 q' s hr hc hq hss=>?_,fun w2 q' i hr hc hq=>?_,fun w2 q' y g' c' w3 o hr hc hq ho3 hg3 hat=>?_⟩
 ·have hcl:∀ j,w2.cell? ⟨b2,j,none⟩=w1.cell? ⟨b2,j,none⟩:=fun j=>hc.cell hb2.2 (hFg _ hb2F)
  have hkp:∀ x∈FF,x≠b2→(w2.setCell ⟨b2,off2,none⟩ (.string s)).heap[x]?=w1.heap[x]?:=fun x hx hxb=>(zz7 _ _ _ _ hxb).trans (hc.block x (hF x hx).2 (hFg x hx))
  have ho2:=(hown.mono0 (w':=w2.setCell ⟨b2,off2,none⟩ (.string s)) (fun x cs G (h:TyR w1 x cs G)=>(h:TyR _ x cs G)) (fun x hx=>hkp x (hrow x hx).1 (hrow x hx).2.2)).arr
  obtain ⟨F',hF',har⟩:=H (w2.setCell ⟨b2,off2,none⟩ (.string s)) s _ xs[d].ctors[0].idx _ _ (fun j hj=>(World.cell?_setCell_other _ _ _ _ (by intro e;injection e;omega)).trans (hcl j)) (fun x hx hxb _=>hkp x hx hxb)
   (World.cell?_setCell_same _ _ _ ((hcl _).trans c0)) ((World.cell?_setCell_other _ _ _ _ (by intro e;injection e;omega)).trans ((hcl _).trans c1)) ((World.cell?_setCell_other _ _ _ _ (by intro e;injection e;omega)).trans ((hcl _).trans c2)) ho2 (by omega)
  have hsz:(w2.setCell ⟨b2,off2,none⟩ (.string s)).heap.size=w2.heap.size:=by simp [World.setCell]
  refine Mutd.of har (fun x hx=>?_) (hr.set (by omega)) hq ((h.chg.trans hc).set_new hb2.1) (by rw [List.length_set];exact h0) (by rw [List.length_set];exact Nat.le_succ _) (small _ (by simp only;omega))
  rw [hsz]
  have hz2:=hc.size
  rcases hF' x hx with h1 | h1
  ·have:=hF x h1;omega
  ·split at h1
   ·cases h1
   ·rw [List.append_nil] at h1
    have:=hF x (hrow x h1).1;omega
 ·have hcl:∀ j,w2.cell? ⟨b2,j,none⟩=w1.cell? ⟨b2,j,none⟩:=fun j=>hc.cell hb2.2 (hFg _ hb2F)
  have hkp:∀ x∈FF,x≠b2→(w2.setCell ⟨b2,off2+2,none⟩ (.int .i64 i)).heap[x]?=w1.heap[x]?:=fun x hx hxb=>(zz7 _ _ _ _ hxb).trans (hc.block x (hF x hx).2 (hFg x hx))
  have ho2:=(hown.mono0 (w':=w2.setCell ⟨b2,off2+2,none⟩ (.int .i64 i)) (fun x cs G (h:TyR w1 x cs G)=>(h:TyR _ x cs G)) (fun x hx=>hkp x (hrow x hx).1 (hrow x hx).2.2)).arr
  obtain ⟨F',hF',har⟩:=H (w2.setCell ⟨b2,off2+2,none⟩ (.int .i64 i)) xs[d].ctors[0].name _ i _ _ (fun j hj=>(World.cell?_setCell_other _ _ _ _ (by intro e;injection e;omega)).trans (hcl j)) (fun x hx hxb _=>hkp x hx hxb)
   ((World.cell?_setCell_other _ _ _ _ (by intro e;injection e;omega)).trans ((hcl _).trans c0)) ((World.cell?_setCell_other _ _ _ _ (by intro e;injection e;omega)).trans ((hcl _).trans c1)) (World.cell?_setCell_same _ _ _ ((hcl _).trans c2)) ho2 hns
  have hsz:(w2.setCell ⟨b2,off2+2,none⟩ (.int .i64 i)).heap.size=w2.heap.size:=by simp [World.setCell]
  refine Mutd.of har (fun x hx=>?_) (hr.set (by omega)) hq ((h.chg.trans hc).set_new hb2.1) (by rw [List.length_set];exact h0) (by rw [List.length_set];exact Nat.le_succ _) (small _ (by simp only;omega))
  rw [hsz]
  have hz2:=hc.size
  rcases hF' x hx with h1 | h1
  ·have:=hF x h1;omega
  ·split at h1
   ·cases h1
   ·rw [List.append_nil] at h1
    have:=hF x (hrow x h1).1;omega
 ·have hrw:∀ x,(Value.slice aA xs[d].ctors[0].args.length acap).ownBlock=some x→w.heap.size≤x∧x≠b2:=fun x hx=>⟨(hF x (hrow x (zA1.2 hx)).1).1,(hrow x (zA1.2 hx)).2.2⟩
  have hwz:w.heap.size≤w1.heap.size:=h.chg.size
  have hw2:w1.heap.size≤w2.heap.size:=hc.size
  have hB3:Below w w2 w3:=((zy2 w.heap.size w2).alloc (by omega) o).grown hg3 (by simp;omega) (fun x hx=>(hrw x hx).1)
  have hblk:∀ x,x<w2.heap.size→x∉rowOf (Value.slice aA xs[d].ctors[0].args.length acap)→w3.heap[x]?=w2.heap[x]?:=fun x hx hxr=>(hg3.block x (by simp;omega) (fun e=>hxr (zA1.2 e.symm))).trans (Below.heap_alloc _ _ _ hx)
  have hb2r:b2∉rowOf (Value.slice aA xs[d].ctors[0].args.length acap):=fun hx=>(hrow _ hx).2.2 rfl
  have hb3:w3.heap[b2]?=w1.heap[b2]?:=(hblk b2 (by omega) hb2r).trans (hc.block _ hb2.2 (hFg _ hb2F))
  have hcl:∀ j,w3.cell? ⟨b2,j,none⟩=w1.cell? ⟨b2,j,none⟩:=fun j=>World.cell?_of_block (a:=⟨b2,j,none⟩) hb3
  have hgn:g'≠b2:=by
   rcases hat with h1 | h1
   ·exact (hrw _ h1).2
   ·omega
  have ho2:=(Own.set (j:=off2+1) (b:=b2) TyR_mono' ho3 (.slice (some ⟨g',0,none⟩) (xs[d].ctors[0].args.length+1) c') (fun h=>hgn (by rw [zA4,zy1] at h;exact h.symm)) (fun h=>by cases h))
  have hro2:=ho2.row
  have har2:=ho2.arr
  obtain ⟨F',hF',har⟩:=H (w3.setCell ⟨b2,off2+1,none⟩ (.slice (some ⟨g',0,none⟩) (xs[d].ctors[0].args.length+1) c')) xs[d].ctors[0].name _ xs[d].ctors[0].idx _ _ (fun j hj=>(World.cell?_setCell_other _ _ _ _ (by intro e;injection e;omega)).trans (hcl j))
   (fun x hx hxb hxr=>(zz7 _ _ _ _ hxb).trans ((hblk x (by have:=hF x hx;omega) hxr).trans (hc.block x (hF x hx).2 (hFg x hx))))
   ((World.cell?_setCell_other _ _ _ _ (by intro e;injection e;omega)).trans ((hcl _).trans c0)) (World.cell?_setCell_same _ _ _ ((hcl _).trans c1)) ((World.cell?_setCell_other _ _ _ _ (by intro e;injection e;omega)).trans ((hcl _).trans c2)) har2 hns
  have hsz:(w3.setCell ⟨b2,off2+1,none⟩ (.slice (some ⟨g',0,none⟩) (xs[d].ctors[0].args.length+1) c')).heap.size=w3.heap.size:=by simp [World.setCell]
  have hz3:w2.heap.size≤w3.heap.size:=hB3.size
  have hgw:w.heap.size≤g':=by
   rcases hat with h1 | h1
   ·exact (hrw _ h1).1
   ·omega
  refine Mutd.of har (fun x hx=>?_) ((hr.low hB3 hg).set (by omega)) hq (((h.chg.trans hc).under hB3).set_new hb2.1) (by rw [List.length_set];exact h0) (by rw [List.length_set];exact Nat.le_succ _) (small _ (by simp only [List.length_append,List.length_cons,List.length_nil];omega))
  rcases hF' x hx with h1 | h1
  ·rw [hsz];have:=hF x h1;omega
  ·split at h1
   ·cases h1
   ·rw [List.append_nil] at h1
    have h2:=hro2 x h1
    rw [zA4,zy1] at h1
    exact ⟨by omega,h2.2⟩
theorem Cpy.twice {d:Nat} {o:Obj} {vB:Option Nat} {w3:World} {v3:Value} {F2:List Nat} (h:Cpy g q xs v F w w1) (h0:0<xs.length) (hs:SmallW m xs) (hd:d<xs.length) (hF2:∀ x∈F2,w.heap.size≤x) (hv:vB=v.ownBlock)
  (ho:Own w3 w.heap.size 64 2 DtO (xs ++ [xs[d]]) v3 (F ++ F2)) (hg:(w1.alloc o).grownBy w3 vB) (hq:q≤p+10):Mutd g p m xs w (.returned v3) w3:=by
 subst hv
 have hro:=h.own.row
 have hwz:w.heap.size≤w1.heap.size:=h.chg.size
 have hB3:Below w w1 w3:=((zy2 w.heap.size w1).alloc hwz o).grown hg (by simp;omega) (fun x hx=>(hro x (zA1.2 hx)).1)
 have hr3:=ho.row
 have hu3:=ho.under
 obtain ⟨G,hG,ha'⟩:=ArrDtO.toR ho.arr
 refine Mutd.of ha' (fun x hx=>?_) (h.rd.low hB3 h.lt) hq (h.chg.under hB3) (by simp) (by simp) (fun x hx=>?_)
 ·have h1:=hG x hx
  split at h1
  ·cases h1
  ·rcases List.mem_append.1 h1 with h1 | h1
   ·exact hr3 x h1
   ·refine ⟨?_,hu3 x h1⟩
    rcases List.mem_append.1 h1 with h1 | h1
    ·exact h.fresh x h1
    ·exact hF2 x h1
 ·rcases List.mem_append.1 hx with h1 | h1
  ·exact (hs.mono (by omega:m≤m+1)) x h1
  ·rw [zy1] at h1
   subst h1
   exact (hs.mono (by omega:m≤m+1)) _ (List.getElem_mem hd)
end
def dtk (xs:List Dt) (d:Nat):List Dt:=xs.take d
def ktk (cs:List Kt) (k:Nat):List Kt:=cs.take k
theorem dtk_len (xs:List Dt) (d:Nat):(dtk xs d).length≤d:=by unfold dtk;rw [List.length_take];omega
theorem ktk_len (cs:List Kt) (k:Nat):(ktk cs k).length≤k:=by unfold ktk;rw [List.length_take];omega
theorem dtk_succ (xs:List Dt) (d:Nat) (h:d<xs.length):dtk xs (d+1)=dtk xs d ++ [xs[d]]:=take_snoc' xs d h
theorem ktk_succ (cs:List Kt) (k:Nat) (h:k<cs.length):ktk cs (k+1)=ktk cs k ++ [cs[k]]:=take_snoc' cs k h
theorem dtk_all (xs:List Dt) {d:Nat} (h:xs.length≤d):dtk xs d=xs:=List.take_of_length_le h
theorem ktk_all (cs:List Kt) {k:Nat} (h:cs.length≤k):ktk cs k=cs:=List.take_of_length_le h
theorem Own.free_row {α:Type} {w:World} {B k:Nat} {E:TypeId} {R:World→α→List Value→List Nat→Prop} {xs:List α} {v:Value} {F:List Nat} (h:Own w B E k R xs v F):Free w (rowOf v):=by
 obtain ⟨cs,h1,-⟩:=h
 rcases h1.2 with ⟨rfl,-⟩ | ⟨g,cap,cur,rfl,hb,hg,-⟩
 ·exact Free.nil _
 ·rw [zA4]
  exact ⟨by simp,fun b hb' i=>by rw [zy1] at hb';subst hb';simp [World.frozen?,hg]⟩
theorem TyR_one (w:World) (x:Ty) (cs:List Value) (G:List Nat) (h:TyR w x cs G):∀ u∈cs,u.oneCell'=true:=by
 obtain ⟨rfl,-⟩:=h
 simp [Value.oneCell']
set_option maxHeartbeats 6400000 in
theorem spec_l1Copy (xs:List Dt) (w:World) (v:Value) (F:List Nat) (hx:Arr w (DtR w) xs v F) (hf:Under w F) (hl:xs.length≤100) (hsm:SmallW 100 xs) :
  Calls Tryz.prog 127 #[v] w fun e w'=>∃ v' F',e=.returned v'∧Below w w w'∧Own w' w.heap.size 64 2 DtO xs v' F'∧Free w' F'∧(∀ b∈F',w.heap.size+1≤b):=by
 obtain ⟨A,cap,rfl,hc1,hc2⟩:=hx.form
 obtain ⟨i0,hi,hz0,hz1,hz2⟩:=info_parts info_KtE
 have HI:=jj hi
 have HZ0:=jj hz0
 have HZ1:=jj hz1
 have HZ2:=jj hz2
 clear hi hz0 hz1 hz2
 obtain ⟨j0,hj,hj0,hj1,hj2⟩:=info_parts info_tyE
 have HJ:=jj hj
 have HJ0:=jj hj0
 have HJ1:=jj hj1
 have HJ2:=jj hj2
 clear hj hj0 hj1 hj2
 obtain ⟨m0,hm,hm0,hm1,hm2⟩:=info_parts info_DtE
 have HM:=jj hm
 have HM0:=jj hm0
 have HM1:=jj hm1
 have HM2:=jj hm2
 clear hm hm0 hm1 hm2
 have HSM:=jj hsm
 have HX:=jj hx
 have HF:=jj hf
 clear hx hf
 clear hsm
 go_enter Tryz.func127,Tryz.ntmps127
 go_wp2
 have hB1:Below w w (w.alloc (.cells #[] 64)):=(zy2 _ _).alloc (zz8 _) _
 have HO1:Hid (Own (w.alloc (.cells #[] 64)) w.heap.size 64 2 DtO (dtk xs 0) (.slice (some ⟨w,0,none⟩) 0 0) []):=Own.made w w.heap.size 64 2 DtO #[] 0 (zz8 _) (by simp [maxLen]) rfl
 have hw1:(w.alloc (.cells #[] 64)).heap.size=w.heap.size+1:=World.size_alloc _ _
 obtain ⟨w1,hw1e⟩:∃ w1,w1=w.alloc (.cells #[] 64):=⟨_,rfl⟩
 rw [←hw1e] at hB1 HO1 hw1 ⊢
 clear hw1e
 go_loopw [3,4] (fun ov dv wr=>∃ d:Nat,∃ Fo:List Nat,d≤xs.length∧dv=.int .i64 d∧Hid (Own wr w.heap.size 64 2 DtO (dtk xs d) ov Fo)∧Hid (Free wr Fo)∧Hid (∀ b∈Fo,w1.heap.size≤b)∧Hid (Chg [w.heap.size] w1 wr)∧Below w w wr∧w1.heap.size≤wr.heap.size) (fun _ dv _=>xs.length-(intOf dv).toNat)
 case atStart=>exact ⟨0,[],Nat.zero_le _,rfl,HO1,Free.nil _,(fun b hb=>by cases hb),Chg.refl _ _,hB1,zz8 _⟩
 case round =>
  clear hB1 HO1
  obtain ⟨d,Fo,hd,rfl,HO,HFr,HFh,HC,hB,hwr⟩:=hrel
  by_cases hdl:d<xs.length
  ·obtain ⟨b,off,rfl⟩:=HX.out.ptr (by omega)
   have g1:(0:Int)≤(d:Int):=by omega
   have g2:(d:Int)<(xs.length:Int):=by omega
   obtain ⟨A1,cap1,G1,hbw,c0w,c1w,HK,HG,hns,hn1,hn2⟩:=ArrDt.at HX.out HF.out (zy2 _ _) d hdl
   have c0:=(hB.cell (p:=⟨b,off+d*2,none⟩) hbw).trans c0w
   have hb:b<wr.heap.size:=zz9 hbw hB.size
   have hcl:xs[d].ctors.length≤100:=(HSM.out _ (List.getElem_mem hdl)).1
   have hdk:=dtk_len xs d
   have HB8:Hid (∀ b∈rowOf u3 ++ Fo,b<wr.heap.size):=fun b hb=>by
    rcases List.mem_append.1 hb with h | h
    ·exact (HO.out.row b h).2
    ·exact HO.out.under b h
   obtain ⟨w8,hw8⟩:∃ w8,w8=wr:=⟨_,rfl⟩
   rw [←hw8] at HO HFr HC hB hwr c0 hb HB8 ⊢
   clear hw8
   have hw9:Below w8 w8 (w8.alloc (.cells #[.string xs[d].name,.slice none 0 0] 64)):=(zy2 _ _).alloc (zz8 _) _
   have HO9:Hid (Own (w8.alloc (.cells #[.string xs[d].name,.slice none 0 0] 64)) w.heap.size 64 2 DtO (dtk xs d) u3 Fo):=HO.out.below (fun x cs G hk h=>DtO_mono _ _ x cs G hk h) hw9
   have HFr9:Hid (Free (w8.alloc (.cells #[.string xs[d].name,.slice none 0 0] 64)) Fo):=HFr.out.kept (.of_below hw9 HO.out.under)
   have HC9:Hid (Chg [w.heap.size] w1 (w8.alloc (.cells #[.string xs[d].name,.slice none 0 0] 64))):=HC.out.step hw9
   have KD9:Hid (Blk (w8.alloc (.cells #[.string xs[d].name,.slice none 0 0] 64)) w8.heap.size 64 #[.string xs[d].name,.slice none 0 0]):=Blk.new _ _ _
   have hB9:=hB.trans (hw9.mono hB.size)
   have hw9s:(w8.alloc (.cells #[.string xs[d].name,.slice none 0 0] 64)).heap.size=w8.heap.size+1:=World.size_alloc _ _
   have hHD8:w.heap.size≤w8.heap.size:=hB.size
   have HR:Hid (∀ g∈rowOf u3,g=w.heap.size∨w1.heap.size≤g):=fun g hg=>by have:=(HO.out.row g hg).1;omega
   go_wp2
   obtain ⟨w9,hw9e⟩:∃ w9,w9=w8.alloc (.cells #[.string xs[d].name,.slice none 0 0] 64):=⟨_,rfl⟩
   rw [←hw9e] at HO9 HFr9 HC9 KD9 hB9 hw9s ⊢
   clear hw9 hw9e HO HFr HC hB c0 hb
   go_loopw [6] (fun kv' wr=>∃ k:Nat,∃ kv:Value,∃ Fk:List Nat,k≤xs[d].ctors.length∧kv'=.int .i64 k∧Hid (Blk wr w8 64 #[.string xs[d].name,kv])∧Hid (Own wr (w8.heap.size+1) 67 3 KtO (ktk xs[d].ctors k) kv Fk)∧Hid (Free wr Fk)∧Hid (∀ b∈Fk,w8.heap.size+1≤b)∧Hid (Chg [w8.heap.size] w9 wr)∧Below w w wr∧w9.heap.size≤wr.heap.size) (fun kv' _=>xs[d].ctors.length-(intOf kv').toNat)
   case atStart=>exact ⟨0,_,[],Nat.zero_le _,rfl,KD9,(show Own _ _ _ _ _ (ktk xs[d].ctors 0) _ _ from Own.nil _ _ _ _ _),Free.nil _,(fun b hb=>by cases hb),Chg.refl _ _,hB9,zz8 _⟩
   case round =>
    clear hB9 KD9
    obtain ⟨k,kv,Fk,hkl,rfl,KD,HOk,HFk,HFkh,HCk,hB,hw9r⟩:=hrel
    obtain ⟨kA,kcap,hkv,hkc1,hkc2⟩:=HOk.out.form
    subst hkv
    have z0:wr.cell? ⟨w8,0,none⟩=some (.string xs[d].name):=(KD.out.cell 0).trans (by simp)
    have z1:wr.cell? ⟨w8,1,none⟩=some (.slice kA (ktk xs[d].ctors k).length kcap):=(KD.out.cell 1).trans (by simp)
    have zf1:=KD.out.frozen 1
    have hkz:=KD.out.lt
    have c1:=(hB.cell (p:=⟨b,off+d*2+1,none⟩) hbw).trans c1w
    have hbr:b<wr.heap.size:=zz9 hbw hB.size
    by_cases hlt:k<xs[d].ctors.length
    ·obtain ⟨b2,off2,rfl⟩:=HK.out.ptr (by omega)
     obtain ⟨A3,cap3,G3,hb3,k0,k1,k2,HKT,HG3,hks,hn3,hn4⟩:=ArrKt.rep HK.out HG.out hB k hlt
     have g3:(0:Int)≤(k:Int):=by omega
     have g4:(k:Int)<(xs[d].ctors.length:Int):=by omega
     have hal:xs[d].ctors[k].args.length≤100:=(HSM.out _ (List.getElem_mem hdl)).2 _ (List.getElem_mem hlt)
     have hkk:=ktk_len xs[d].ctors k
     have harg:Arr w (TyR w) xs[d].ctors[k].args (.slice A3 xs[d].ctors[k].args.length cap3) G3:=by
      obtain ⟨kv,hkv,ha,-⟩:=HKT.out
      have:kv=.slice A3 xs[d].ctors[k].args.length cap3:=by simpa using (List.cons.inj (List.cons.inj hkv).2).1.symm
      rw [←this];exact ha
     have ha1:Below wr wr (wr.alloc (.cells #[.string xs[d].ctors[k].name,.slice A3 xs[d].ctors[k].args.length cap3,xs[d].ctors[k].idx] 67)):=(zy2 _ _).alloc (zz8 _) _
     have ha2:Below wr wr ((wr.alloc (.cells #[.string xs[d].ctors[k].name,.slice A3 xs[d].ctors[k].args.length cap3,xs[d].ctors[k].idx] 67)).alloc (.cells #[] 25)):=ha1.alloc ha1.size _
     have hos:Own ((wr.alloc (.cells #[.string xs[d].ctors[k].name,.slice A3 xs[d].ctors[k].args.length cap3,xs[d].ctors[k].idx] 67)).alloc (.cells #[] 25)) 0 25 2 TyR ([]:List Ty) (.slice (some ⟨wr.heap.size+1,0,none⟩) 0 0) []:=by
      have h:=Own.made (wr.alloc (.cells #[.string xs[d].ctors[k].name,.slice A3 xs[d].ctors[k].args.length cap3,xs[d].ctors[k].idx] 67)) 0 25 2 TyR #[] 0 (Nat.zero_le _) (by simp [maxLen]) rfl
      rwa [World.size_alloc] at h
     have hKC:Blk ((wr.alloc (.cells #[.string xs[d].ctors[k].name,.slice A3 xs[d].ctors[k].args.length cap3,xs[d].ctors[k].idx] 67)).alloc (.cells #[] 25)) wr.heap.size 67 #[.string xs[d].ctors[k].name,.slice A3 xs[d].ctors[k].args.length cap3,xs[d].ctors[k].idx]:=(Blk.new wr _ _).same (Below.heap_alloc _ _ _ (by simp))
     have hsz2:((wr.alloc (.cells #[.string xs[d].ctors[k].name,.slice A3 xs[d].ctors[k].args.length cap3,xs[d].ctors[k].idx] 67)).alloc (.cells #[] 25)).heap.size=wr.heap.size+2:=by simp
     have hAB:=ArrTy.below harg (hB.trans (ha2.mono hB.size)) HG3.out
     obtain ⟨v',wc,hrun,hoc,hgc,hrc⟩:=run_append_whole (P:=Tryz.prog) (R:=TyR ((wr.alloc (.cells #[.string xs[d].ctors[k].name,.slice A3 xs[d].ctors[k].args.length cap3,xs[d].ctors[k].idx] 67)).alloc (.cells #[] 25))) (RR:=TyR) (B:=0) (k:=2) (E:=25) 65 65 j0 _ 16 Tryz.underlying65 HJ.out HJ0.out HJ1.out HJ2.out rfl (by decide) (fun x cs G h=>TyR_len x cs G h) (fun x cs G h=>TyR_one _ x cs G h) (fun w' x cs G h=>⟨h.1,rfl⟩) hos hAB (by omega) (by omega) (Nat.zero_le _)
     obtain ⟨vA,vcap,hv',hvc1,hvc2⟩:=hoc.form
     subst hv'
     generalize hwb:((wr.alloc (.cells #[.string xs[d].ctors[k].name,.slice A3 xs[d].ctors[k].args.length cap3,xs[d].ctors[k].idx] 67)).alloc (.cells #[] 25))=wb at *
     have kb1:wb.cell? ⟨wr,1,none⟩=some (.slice A3 xs[d].ctors[k].args.length cap3):=(hKC.cell 1).trans (by simp)
     have hKCc:Blk wc wr 67 #[.string xs[d].ctors[k].name,.slice A3 xs[d].ctors[k].args.length cap3,xs[d].ctors[k].idx]:=hKC.same (hgc.block _ (by omega) (fun e=>by injection e;omega))
     have hbc:Below wr wr wc:=ha2.grown hgc (by omega) (fun g hg=>by injection hg;omega)
     have hcz:wb.heap.size≤wc.heap.size:=hgc.size
     have hrw:∀ x∈rowOf (.slice vA xs[d].ctors[k].args.length vcap),wr.heap.size+1≤x:=fun x hx=>by rcases hrc x hx with h | h <;> omega
     have hx1:wc.cell? ⟨w8,1,none⟩=some (.slice kA (ktk xs[d].ctors k).length kcap):=(hbc.cell hkz).trans z1
     have hxf:wc.frozen? ⟨w8,1,none⟩=false:=(hbc.frozen hkz).trans zf1
     have y0:wc.cell? ⟨wr,0,none⟩=some (.string xs[d].ctors[k].name):=(hKCc.cell 0).trans (by simp)
     have y1:wc.cell? ⟨wr,1,none⟩=some (.slice A3 xs[d].ctors[k].args.length cap3):=(hKCc.cell 1).trans (by simp)
     have y2:wc.cell? ⟨wr,2,none⟩=xs[d].ctors[k].idx:=(hKCc.cell 2).trans (by simp)
     have yf1:=hKCc.frozen 1
     have hne:wr.heap.size≠w8.heap.size:=by omega
     have hcs:wr.heap.size<wc.heap.size:=hKCc.lt
     have hBu:Hid (Below wr wr (wc.setCell ⟨wr,1,none⟩ (.slice vA xs[d].ctors[k].args.length vcap))):=hbc.setCell (zz8 _) _
     have hod:=Own.set (j:=1) (b:=wr.heap.size) TyR_mono' hoc (.slice vA xs[d].ctors[k].args.length vcap) (fun h=>by have:=hrw _ h;omega) (fun h=>by cases h)
     have hrd:=hod.row
     have HKO:Hid (KtO (wc.setCell ⟨wr,1,none⟩ (.slice vA xs[d].ctors[k].args.length vcap)) xs[d].ctors[k] [.string xs[d].ctors[k].name,.slice vA xs[d].ctors[k].args.length vcap,xs[d].ctors[k].idx] (rowOf (.slice vA xs[d].ctors[k].args.length vcap))):=⟨_,rfl,hod,rfl,hks⟩
     have HfrA:=jj hod.free_row
     have HfsA:Hid (∀ b∈rowOf (.slice vA xs[d].ctors[k].args.length vcap),wr.heap.size≤b∧b<(wc.setCell ⟨wr,1,none⟩ (.slice vA xs[d].ctors[k].args.length vcap)).heap.size):=fun b hb=>⟨by have:=hrw b hb;omega,(hrd b hb).2⟩
     have HOA:Hid (Own (wc.setCell ⟨wr,1,none⟩ (.slice vA xs[d].ctors[k].args.length vcap)) (w8.heap.size+1) 67 3 KtO (ktk xs[d].ctors k) (.slice kA (ktk xs[d].ctors k).length kcap) Fk):=HOk.out.below (fun x cs G hk h=>KtO_mono _ _ x cs G hk h) hBu.out
     have HF2:=jj (ktk_succ xs[d].ctors k hlt)
     have HRUN:=jj hrun
     have hbs2:w8.heap.size+1≤(wc.setCell ⟨wr,1,none⟩ (.slice vA xs[d].ctors[k].args.length vcap)).heap.size:=by have:=hBu.out.size;omega
     clear hrun hod hrd hrw hrc hoc hgc hbc hKC hKCc ha1 ha2 hos hAB harg
     go_wp2_with (at_builtin;refine Halt.mk ?_)
     try rw [hwb]
     refine Halt.of (wpList_append_run rfl _ _ 65 rfl (by rfl) (by rfl) HRUN.out ?_)
     go_wp2_with (at_builtin;refine Halt.mk ?_)
     refine Halt.of (zA5 (P:=Tryz.prog) rfl _ _ 62 rfl i0 _ 48 Tryz.underlying62 HI.out HZ0.out HZ1.out HZ2.out rfl (by decide) KtO_len KtO_mono (by rfl) HOA.out xs[d].ctors[k] 67 [.string xs[d].ctors[k].name,.slice vA xs[d].ctors[k].args.length vcap,xs[d].ctors[k].idx] (rowOf (.slice vA xs[d].ctors[k].args.length vcap)) wc.heap.size (by rfl) (by simp [World.setCell]) (by simp [Value.oneCell']) HKO.out (fun b hb=>(HfsA.out b hb).2) (fun g hg hG=>Nat.lt_irrefl _ (zz9 (HOk.out.row g hg).2 (HfsA.out g hG).1)) (by unfold maxLen;omega) (by omega) hbs2 ?_)
     intro g cp w7 hown7 hgr7 hat7
     have z71:w7.cell? ⟨w8,1,none⟩=some (.slice kA (ktk xs[d].ctors k).length kcap):=(World.cell?_of_block (a:=⟨w8,1,none⟩) (grow_old HOk.out hBu.out hgr7 (Nat.lt_succ_self _) hkz)).trans z1
     have zf71:w7.frozen? ⟨w8,1,none⟩=false:=(World.frozen?_of_block (a:=⟨w8,1,none⟩) (grow_old HOk.out hBu.out hgr7 (Nat.lt_succ_self _) hkz)).trans zf1
     obtain ⟨r1,r2,r3,r4,r5,r6,r7⟩:=grow_round KtO_mono hw9s KD.out HOk.out HFk.out HFkh.out HCk.out hB hHD8 (zz8 _) hBu.out HfrA.out HfsA.out hown7 hgr7
     have R1:=jj r1
     have R2:=jj r2
     have R3:=jj r3
     have R4:=jj r4
     have R5:=jj r5
     have R6:=jj r6
     clear r1 r2 r3 r4 r5 r6 hown7 hgr7 hat7
     go_wp2
     go_roundw
     case rel=>exact ⟨k+1,_,_,hlt,by go_num,R1,by rw [HF2.out];exact R2.out,R3,R4,R5,R6.out,r7⟩
     case measure=>(simp [intOf] <;> omega)
    ·have HF2:=jj (dtk_succ xs d hdl)
     have hOr:Hid (Own wr w.heap.size 64 2 DtO (dtk xs d) u3 Fo):=Own.mono (w:=w9) (fun x cs G hk h=>DtO_mono _ _ x cs G hk h) HO9.out (HCk.out.kept (fun b hb=>by have:=HB8.out b hb;omega) (fun b hb=>by have:=HB8.out b hb;simp;omega)) HCk.out.size
     have hFrr:Hid (Free wr Fo):=HFr9.out.kept (HCk.out.kept (fun b hb=>by have:=HB8.out b (List.mem_append.2 (.inr hb));omega) (fun b hb=>by have:=HB8.out b (List.mem_append.2 (.inr hb));simp;omega))
     have hw18:w1.heap.size≤w8.heap.size:=hwr
     have hCr:Hid (Chg [w.heap.size] w1 wr):=HC9.out.trans_new HCk.out hw18
     have hka:ktk xs[d].ctors k=xs[d].ctors:=ktk_all _ (by omega)
     have harr:=HOk.out.arr
     have hfree:=HOk.out.free HFk.out
     have hrk:=HOk.out.row
     have hff:∀ b∈(if ktk xs[d].ctors k=[] then [] else rowOf (.slice kA (ktk xs[d].ctors k).length kcap) ++ Fk),w8.heap.size+1≤b∧b<wr.heap.size:=fun b hb=>by
      split at hb
      ·cases hb
      ·rcases List.mem_append.1 hb with h | h
       ·exact hrk b h
       ·exact ⟨HFkh.out b h,HOk.out.under b h⟩
     generalize (if ktk xs[d].ctors k=[] then [] else rowOf (.slice kA (ktk xs[d].ctors k).length kcap) ++ Fk)=FF at harr hfree hff
     have HFF:=jj hff
     have HFREE:=jj hfree
     have HDX:Hid (DtO wr xs[d] [.string xs[d].name,.slice kA (ktk xs[d].ctors k).length kcap] FF):=⟨_,rfl,by rw [hka] at harr ⊢;exact harr,hns⟩
     have hbs:w.heap.size≤wr.heap.size:=hB.size
     clear harr hfree hrk hff HOk HFk HFkh HO9 HFr9 HC9 hka
     go_wp2_with (at_builtin;refine Halt.mk ?_)
     refine Halt.of (zA5 (P:=Tryz.prog) rfl _ _ 23 rfl m0 _ 40 Tryz.underlying23 HM.out HM0.out HM1.out HM2.out rfl (by decide) DtO_len DtO_mono (by rfl) hOr.out xs[d] 64 [.string xs[d].name,.slice kA (ktk xs[d].ctors k).length kcap] FF _ (by rfl) rfl (by simp [Value.oneCell']) HDX.out (fun b hb=>(HFF.out b hb).2) (fun g hg hG=>by have h1:=HB8.out g (List.mem_append.2 (.inl hg));have h2:=(HFF.out g hG).1;omega) (by unfold maxLen;omega) (by omega) hbs ?_)
     intro g cp w7 hown7 hgr7 hat7
     obtain ⟨r1,r2,r3,r4,r5,r6⟩:=push_round (n:=(dtk xs d).length+1) (cp:=cp) hOr.out hFrr.out HFREE.out HB8.out HFF.out HR.out hCr.out hB (zz8 _) HFh.out hw18 hgr7 hat7
     have R1:=jj r1
     have R2:=jj r2
     have R4:=jj r4
     have R5:=jj r5
     have HO7:=jj hown7
     clear r1 r2 r3 r4 r5 hown7 hgr7 hat7
     go_wp2
     go_roundw
     case rel=>exact ⟨d+1,Fo ++ FF,hdl,by go_num,by rw [HF2.out];exact HO7.out,R1,R2,R4,R5.out,r6⟩
     case measure=>(simp [intOf] <;> omega)
  ·have hfin:Own wr w.heap.size 64 2 DtO xs u3 Fo:=by
    have h:=HO.out
    rw [dtk_all xs (by omega)] at h
    exact h
   have HFin:=jj hfin
   clear hfin HO
   go_wp2
   go_ret
   exact ⟨_,Fo,rfl,hB,HFin.out,HFr.out,fun b hb=>by have:=HFh.out b hb;omega⟩
set_option maxHeartbeats 6400000 in
theorem spec_l1Mutate (p g:Nat) (w:World) (h:Rd w g p) (hp:p≤900000) (xs:List Dt) (v:Value) (F:List Nat) (hx:Arr w (DtR w) xs v F) (hf:Under w F) (h0:0<xs.length) (hl:xs.length≤99) (m:Nat) (hm:m≤90) (hs:SmallW m xs) :
  Calls Tryz.prog 77 #[.pointer (some ⟨g,0,none⟩),v] w (Mutd g p m xs w):=by
 have hgl:=h.lt
 have HR0:=jj h
 have HCALL:=jj (spec_l1Copy xs w v F hx hf (by omega) (hs.mono (by omega)))
 have HSM:=jj hs
 have HMM:=jj hm
 clear h hx hf hs hm
 obtain ⟨j0,hj,hj0,hj1,hj2⟩:=info_parts info_tyE
 have HJ:=jj hj
 have HJ0:=jj hj0
 have HJ1:=jj hj1
 have HJ2:=jj hj2
 clear hj hj0 hj1 hj2
 obtain ⟨m0,hm,hm0,hm1,hm2⟩:=info_parts info_DtE
 have HM:=jj hm
 have HM0:=jj hm0
 have HM1:=jj hm1
 have HM2:=jj hm2
 clear hm hm0 hm1 hm2
 go_enter Tryz.func77,Tryz.ntmps77
 go_wp2_with fail
 refine HCALL.out.mono ?_
 rintro e w1 ⟨v1,F1,rfl,hb1,ho1,hfr1,hfs1⟩
 have hCpy:Cpy g p xs v1 F1 w w1:=⟨HR0.out.below hb1,Chg.of_below hb1,ho1,hfr1,fun b hb=>by have:=hfs1 b hb;omega,hgl⟩
 obtain ⟨A1,cap1,rfl,hc1,hc2⟩:=ho1.form
 obtain ⟨FF,ha1,-,-⟩:=hCpy.arr
 obtain ⟨b,off,rfl⟩:=ha1.ptr h0
 have HC1:=jj hCpy
 clear hCpy ho1 ha1 hb1 hfr1 hfs1 HCALL HR0
 go_wp2_with fail
 refine (pick_any xs.length p g w1 HC1.out.rd (by omega) h0 (by omega)).mono ?_
 rintro e w2 ⟨d,rfl,hd,hR2,hC2⟩
 have HC2:=jj (HC1.out.step hR2 hC2)
 clear hR2 hC2 HC1
 have g1:(0:Int)≤(d:Int):=by omega
 have g2:(d:Int)<(xs.length:Int):=by omega
 obtain ⟨kA,kcap,F2,n0,k0,z0,hb,hbl,hk1,hk2,hdx,hF2,hname,hctors⟩:=HC2.out.data (p:=p) h0 HSM.out hd
 clear n0 z0 hb hbl hdx hF2 hname hctors
 cases q0:((xs[d].ctors.length:Int)==0) with
 |true =>
  have HFin:=jj (HC2.out.done (p:=p) h0 HSM.out (by omega))
  clear HC2
  go_wp2
  go_ret
  exact HFin.out
 |false =>
  have hk0:0<xs[d].ctors.length:=by rw [beq_eq_false_iff_ne] at q0;omega
  have e0:(0:Int)<(xs[d].ctors.length:Int):=by omega
  go_wp2_with fail
  refine (pick_any 30 (p+1) g w2 HC2.out.rd (by omega) (by omega) (by omega)).mono ?_
  rintro e w3 ⟨r,rfl,hr,hR3,hC3⟩
  have HC3:=jj (HC2.out.step hR3 hC3)
  clear hR3 hC3 HC2 k0 hk1 hk2
  cases c0q:((r:Int)==0) with
  |true =>
   go_wp2_with fail
   refine (of_lit [⟨#[73]⟩,⟨#[]⟩,⟨#[97]⟩,⟨#[76,76]⟩,⟨#[90]⟩] (by decide) (by decide) (p+1+1) g w3 HC3.out.rd (by omega)).mono ?_
   rintro e w4 ⟨s,hs,rfl,hR4,hC4⟩
   have hsz:s.size≤1000:=by
    have hall:∀ x∈([⟨#[73]⟩,⟨#[]⟩,⟨#[97]⟩,⟨#[76,76]⟩,⟨#[90]⟩]:List ByteArray),x.size≤1000:=by decide
    exact hall s hs
   have HC4:=jj (HC3.out.step hR4 hC4)
   clear hR4 hC4 HC3 hs
   obtain ⟨kA,kcap,F2,n0,k0,z0,hb,hbl,hk1,hk2,hdx,hF2,hname,hctors⟩:=HC4.out.data (p:=p) h0 HSM.out hd
   have f0:=z0 (off+d*2)
   have HFin:=jj (hname s hsz (by omega))
   clear k0 z0 hb hk1 hk2 hdx hF2 hname hctors HC4
   go_wp2
   go_ret
   exact HFin.out
  |false =>
   cases c1q:((r:Int)==1) with
   |true =>
    obtain ⟨kA,kcap,F2,n0,k0,z0,hb,hbl,hk1,hk2,hdx,hF2,hname,hctors⟩:=HC3.out.data (p:=p) h0 HSM.out hd
    have f0:(w3.alloc (.cells #[] 67)).frozen? ⟨b,off+d*2+1,none⟩=false:=(World.frozen?_of_block (a:=⟨b,off+d*2+1,none⟩) (Below.heap_alloc _ _ _ hbl)).trans (z0 _)
    have y0:(w3.alloc (.cells #[] 67)).cell? ⟨b,off+d*2+1,none⟩=some (.slice kA xs[d].ctors.length kcap):=(World.cell?_alloc_lt _ _ _ hbl).trans k0
    have HFin:=jj (hctors 67 (by omega))
    clear n0 k0 z0 hb hk1 hk2 hdx hF2 hname hctors HC3
    go_wp2
    go_ret
    exact HFin.out
   |false =>
    cases c2q:((r:Int)==2) with
    |true =>
     have hCd:=HC3.out.drew
     clear HC3
     obtain ⟨b2,off2,cap2,aA,acap,kc,hbb,hbg,hb2g,hbl,hb2l,hz2,c0,c1,c2,hown,hrow,hal,H2,H4,H3⟩:=hCd.ctor (p:=p) h0 HSM.out hd hk0
     have HH:=jj H2
     have hR3:=jj hCd.rd
     have f3:=hz2 (off2)
     clear c1 c2 hown hrow hal H2 H4 H3 hCd hz2
     go_wp2_with fail
     refine zA9 (S:=fun w'=>w'.cell? ⟨b,off+d*2+1,none⟩=some (.slice (some ⟨b2,off2,none⟩) xs[d].ctors.length cap2)) (T:=fun _=>True) (d:=10) (by kernel_rfl) ?_
     generalize w3.drew=wd at *
     have hS1:wd.cell? ⟨b,off+d*2+1,none⟩=some (.slice (some ⟨b2,off2,none⟩) xs[d].ctors.length cap2):=kc
     have hT1:True:=trivial
     refine wV 0 rfl hS1 hT1 ?_
     (try simp only [Act.put,zz4,zz5,zz6])
     refine wV 1 rfl hS1 hT1 ?_
     (try simp only [Act.put,zz4,zz5,zz6])
     refine wV 2 rfl hS1 hT1 ?_
     (try simp only [Act.put,zz4,zz5,zz6])
     refine wV 3 rfl hS1 hT1 ?_
     (try simp only [Act.put,zz4,zz5,zz6])
     refine wV 4 rfl hS1 hT1 ?_
     (try simp only [Act.put,zz4,zz5,zz6])
     refine wV 5 rfl hS1 hT1 ?_
     (try simp only [Act.put,zz4,zz5,zz6])
     refine Go.Proofs.YtjjclcmmfeegfaaGreatDoor.w1 6 rfl fun K hK=>?_
     go_simp
     refine hK.out _ _ ((World.cell?_alloc_lt _ _ _ hbl).trans kc) (fun _=>trivial) ?_
     clear hK K
     (try simp only [Act.put,zz4,zz5,zz6])
     refine Go.Proofs.YtjjclcmmfeegfaaGreatDoor.w1 7 rfl fun K hK=>?_
     go_simp
     go_at_call 110
     refine (of_lit [⟨#[]⟩,⟨#[110,105,108]⟩,⟨#[84,111,111,108,111,110,103]⟩,⟨#[88]⟩] (by decide) (by decide) (p+1+1) g wd hR3.out (by omega)).mono ?_
     rintro e w4 ⟨s,hs,rfl,hR4,hC4⟩
     have hC5:=hC4
     have hsz:s.size≤1000:=by
      have hall:∀ x∈([⟨#[]⟩,⟨#[110,105,108]⟩,⟨#[84,111,111,108,111,110,103]⟩,⟨#[88]⟩]:List ByteArray),x.size≤1000:=by decide
      exact hall s hs
     have hS4:w4.cell? ⟨b,off+d*2+1,none⟩=some (.slice (some ⟨b2,off2,none⟩) xs[d].ctors.length cap2):=(hC5.cell hbl hbg).trans kc
     have x4:w4.cell? ⟨b2,off2,none⟩=some (.string xs[d].ctors[0].name):=(hC5.cell hb2l hb2g).trans c0
     have f4:w4.frozen? ⟨b2,off2,none⟩=false:=(World.frozen?_of_block (a:=⟨b2,off2,none⟩) (hC5.block _ hb2l hb2g)).trans f3
     have HFin:=jj (HH.out w4 _ s hR4 hC5 (by omega) hsz)
     dsimp only
     refine hK.out _ _ hS4 (fun _=>trivial) ?_
     clear hK K
     (try simp only [Act.put,zz4,zz5,zz6])
     refine wV 8 rfl hS4 hT1 ?_
     (try simp only [Act.put,zz4,zz5,zz6])
     refine wV 9 rfl hS4 hT1 ?_
     (try simp only [Act.put,zz4,zz5,zz6])
     refine Go.Proofs.YtjjclcmmfeegfaaGreatDoor.w1 10 rfl fun K hK=>?_
     go_simp
     refine hK.out _ _ ((World.cell?_setCell_far _ _ _ _ (by show b2≠b;exact fun e=>hbb e.symm)).trans hS4) (fun _=>trivial) ?_
     clear hK K
     (try simp only [Act.put,zz4,zz5,zz6])
     refine wE (by kernel_rfl) ?_
     clear hS1 hT1 hS4 x4 f4 hC5 hC4 hR4 HH hR3 f3 kc c0
     go_wp2
     go_ret
     exact HFin.out
    |false =>
     cases c3q:((r:Int)==3) with
     |true =>
      have hCd:=HC3.out.drew
      clear HC3
      obtain ⟨b2,off2,cap2,aA,acap,kc,hbb,hbg,hb2g,hbl,hb2l,hz2,c0,c1,c2,hown,hrow,hal,H2,H4,H3⟩:=hCd.ctor (p:=p) h0 HSM.out hd hk0
      have HH:=jj H3
      have HRD:=jj hCd.rd
      have f3:=hz2 (off2+1)
      have HOWN:=jj hown
      have HROW:=jj hrow
      have hm90:=HMM.out
      have hmx:xs[d].ctors[0].args.length+1≤maxLen:=by unfold maxLen;omega
      have hby:(xs[d].ctors[0].args.length+1)*16≤140737488355328:=by omega
      clear hm90
      have hgl3:g<w3.drew.heap.size:=hCd.rd.lt
      have hgs:w3.drew.heap.size≠g:=by omega
      have hgs1:w3.drew.heap.size+1≠g:=by omega
      clear c0 c2 hown hrow H2 H4 H3 hCd hz2
      go_wp2_with fail
      refine zA9 (S:=fun w'=>w'.cell? ⟨b,off+d*2+1,none⟩=some (.slice (some ⟨b2,off2,none⟩) xs[d].ctors.length cap2)) (T:=fun w'=>w'.cell? ⟨b2,off2+1,none⟩=some (.slice aA xs[d].ctors[0].args.length acap)) (d:=21) (by kernel_rfl) ?_
      generalize w3.drew=wd at *
      have hS1:wd.cell? ⟨b,off+d*2+1,none⟩=some (.slice (some ⟨b2,off2,none⟩) xs[d].ctors.length cap2):=kc
      have hT1:wd.cell? ⟨b2,off2+1,none⟩=some (.slice aA xs[d].ctors[0].args.length acap):=c1
      refine wV 0 rfl hS1 hT1 ?_
      (try simp only [Act.put,zz4,zz5,zz6])
      refine wV 1 rfl hS1 hT1 ?_
      (try simp only [Act.put,zz4,zz5,zz6])
      refine wV 2 rfl hS1 hT1 ?_
      (try simp only [Act.put,zz4,zz5,zz6])
      refine wV 3 rfl hS1 hT1 ?_
      (try simp only [Act.put,zz4,zz5,zz6])
      refine wV 4 rfl hS1 hT1 ?_
      (try simp only [Act.put,zz4,zz5,zz6])
      refine wV 5 rfl hS1 hT1 ?_
      (try simp only [Act.put,zz4,zz5,zz6])
      refine wV 6 rfl hS1 hT1 ?_
      (try simp only [Act.put,zz4,zz5,zz6])
      refine wV 7 rfl hS1 hT1 ?_
      (try simp only [Act.put,zz4,zz5,zz6])
      refine wV 8 rfl hS1 hT1 ?_
      (try simp only [Act.put,zz4,zz5,zz6])
      refine wV 9 rfl hS1 hT1 ?_
      (try simp only [Act.put,zz4,zz5,zz6])
      refine wV 10 rfl hS1 hT1 ?_
      (try simp only [Act.put,zz4,zz5,zz6])
      refine wV 11 rfl hS1 hT1 ?_
      (try simp only [Act.put,zz4,zz5,zz6])
      refine zAG (i:=12) (v:=?_) rfl (by decide) rfl (by kernel_rfl) (by kernel_rfl) (by kernel_rfl) (by kernel_rfl) (fun _ _ _ h=>h) (Or.inl ⟨by rfl,?hy12⟩) (by rfl) hS1 hT1 ?_
      case hy12=>(intro W hSw;(try dsimp only at hSw);go_simp;try with_reducible rfl)
      (try simp only [Act.put,zz4,zz5,zz6])
      refine wV 13 rfl hS1 hT1 ?_
      (try simp only [Act.put,zz4,zz5,zz6])
      refine wV 16 rfl hS1 hT1 ?_
      (try simp only [Act.put,zz4,zz5,zz6])
      refine wR (rs:=[14,17]) (by kernel_rfl) (by simp) ?_
      refine AllReadyB.c rfl (fun K hK=>?_) (AllReadyB.c rfl (fun K hK=>?_) AllReadyB.n)
      focus
       go_simp
       refine hK.out _ _ (((Chg.refl [g] wd).alloc _).cell hbl hbg |>.trans kc) (fun _=>((Chg.refl [g] wd).alloc _).cell hb2l hb2g |>.trans c1) ?_
       clear hK K
       (try simp only [Act.put,zz4,zz5,zz6])
       refine wR (rs:=[15,17]) (by kernel_rfl) (by simp) ?_
       refine AllReadyB.c rfl (fun K hK=>?_) (AllReadyB.c rfl (fun K hK=>?_) AllReadyB.n)
       focus
        go_simp
        go_at_call 126
        refine (num_at (LitN.new wd [9,-2,0,-1] (by decide)) (by decide) (by decide) (p+1+1) g (HRD.out.below ((zy2 _ _).alloc (zz8 _) _)) (by omega) hgs).mono ?_
        rintro e w5 ⟨x,rfl,hRw5,hCw5⟩
        have hC5:Chg [g] wd w5:=((Chg.refl [g] wd).alloc _).trans hCw5
        dsimp only
        refine hK.out _ _ (((hC5).cell hbl hbg).trans kc) (fun _=>((hC5).cell hb2l hb2g).trans c1) ?_
        clear hK K
        (try simp only [Act.put,zz4,zz5,zz6])
        refine Go.Proofs.YtjjclcmmfeegfaaGreatDoor.w1 17 rfl fun K hK=>?_
        go_simp
        refine hK.out _ _ (((hC5).alloc _).cell hbl hbg |>.trans kc) (fun _=>((hC5).alloc _).cell hb2l hb2g |>.trans c1) ?_
        clear hK K
        (try simp only [Act.put,zz4,zz5,zz6])
        refine Go.Proofs.YtjjclcmmfeegfaaGreatDoor.w1 18 rfl fun K hK=>?_
        go_simp
        go_at_call 126
        refine (num_at (LitN.new w5 [0,4,-1,-2] (by decide)) (by decide) (by decide) (p+1+1+1) g (hRw5.below ((zy2 _ _).alloc (zz8 _) _)) (by omega) (by have:=hC5.size;omega)).mono ?_
        rintro e w6 ⟨y,rfl,hRw6,hCw6⟩
        have hC6:Chg [g] wd w6:=(hC5.alloc _).trans hCw6
       rotate_left
       focus
        go_simp
        refine hK.out _ _ ((((Chg.refl [g] wd).alloc _).alloc _).cell hbl hbg |>.trans kc) (fun _=>(((Chg.refl [g] wd).alloc _).alloc _).cell hb2l hb2g |>.trans c1) ?_
        clear hK K
        (try simp only [Act.put,zz4,zz5,zz6])
        refine Go.Proofs.YtjjclcmmfeegfaaGreatDoor.w1 15 rfl fun K hK=>?_
        go_simp
        go_at_call 126
        refine (num_at ((LitN.new wd [9,-2,0,-1] (by decide)).alloc _) (by decide) (by decide) (p+1+1) g ((HRD.out.below ((zy2 _ _).alloc (zz8 _) _)).below ((zy2 _ _).alloc (zz8 _) _)) (by omega) hgs).mono ?_
        rintro e w5 ⟨x,rfl,hRw5,hCw5⟩
        have hC5:Chg [g] wd w5:=(((Chg.refl [g] wd).alloc _).alloc _).trans hCw5
        have hLB:LitN w5 (wd.heap.size+1) [0,4,-1,-2]:=(LitN.new2 wd _ [0,4,-1,-2] (by decide)).chg hCw5 (by rw [zy1];exact hgs1)
        dsimp only
        refine hK.out _ _ (((hC5).cell hbl hbg).trans kc) (fun _=>((hC5).cell hb2l hb2g).trans c1) ?_
        clear hK K
        (try simp only [Act.put,zz4,zz5,zz6])
        refine Go.Proofs.YtjjclcmmfeegfaaGreatDoor.w1 18 rfl fun K hK=>?_
        go_simp
        go_at_call 126
        refine (num_at hLB (by decide) (by decide) (p+1+1+1) g hRw5 (by omega) hgs1).mono ?_
        rintro e w6 ⟨y,rfl,hRw6,hCw6⟩
        have hC6:Chg [g] wd w6:=hC5.trans hCw6
       rotate_left
      rotate_left 2
      focus
       go_simp
       refine hK.out _ _ (((Chg.refl [g] wd).alloc _).cell hbl hbg |>.trans kc) (fun _=>((Chg.refl [g] wd).alloc _).cell hb2l hb2g |>.trans c1) ?_
       clear hK K
       (try simp only [Act.put,zz4,zz5,zz6])
       refine Go.Proofs.YtjjclcmmfeegfaaGreatDoor.w1 14 rfl fun K hK=>?_
       go_simp
       refine hK.out _ _ ((((Chg.refl [g] wd).alloc _).alloc _).cell hbl hbg |>.trans kc) (fun _=>(((Chg.refl [g] wd).alloc _).alloc _).cell hb2l hb2g |>.trans c1) ?_
       clear hK K
       (try simp only [Act.put,zz4,zz5,zz6])
       refine Go.Proofs.YtjjclcmmfeegfaaGreatDoor.w1 15 rfl fun K hK=>?_
       go_simp
       go_at_call 126
       refine (num_at (LitN.new2 wd _ [9,-2,0,-1] (by decide)) (by decide) (by decide) (p+1+1) g ((HRD.out.below ((zy2 _ _).alloc (zz8 _) _)).below ((zy2 _ _).alloc (zz8 _) _)) (by omega) hgs1).mono ?_
       rintro e w5 ⟨x,rfl,hRw5,hCw5⟩
       have hC5:Chg [g] wd w5:=(((Chg.refl [g] wd).alloc _).alloc _).trans hCw5
       have hLB:LitN w5 wd.heap.size [0,4,-1,-2]:=((LitN.new wd [0,4,-1,-2] (by decide)).alloc _).chg hCw5 (by rw [zy1];exact hgs)
       dsimp only
       refine hK.out _ _ (((hC5).cell hbl hbg).trans kc) (fun _=>((hC5).cell hb2l hb2g).trans c1) ?_
       clear hK K
       (try simp only [Act.put,zz4,zz5,zz6])
       refine Go.Proofs.YtjjclcmmfeegfaaGreatDoor.w1 18 rfl fun K hK=>?_
       go_simp
       go_at_call 126
       refine (num_at hLB (by decide) (by decide) (p+1+1+1) g hRw5 (by omega) hgs).mono ?_
       rintro e w6 ⟨y,rfl,hRw6,hCw6⟩
       have hC6:Chg [g] wd w6:=hC5.trans hCw6
      rotate_left
      all_goals (
       have hSE:w6.cell? ⟨b,off+d*2+1,none⟩=some (.slice (some ⟨b2,off2,none⟩) xs[d].ctors.length cap2):=((hC6).cell hbl hbg).trans kc
       have hTE:w6.cell? ⟨b2,off2+1,none⟩=some (.slice aA xs[d].ctors[0].args.length acap):=((hC6).cell hb2l hb2g).trans c1
       have HOE:Hid (Own w6 0 25 2 TyR xs[d].ctors[0].args (.slice aA xs[d].ctors[0].args.length acap) []):=HOWN.out.mono0 (w':=w6) (fun x cs G (h:TyR wd x cs G)=>(h:TyR w6 x cs G)) ((hC6).kept (fun x hx=>(HROW.out x hx).2.2.2) (fun x hx=>(HROW.out x hx).1))
       have hzE:wd.heap.size≤w6.heap.size:=(hC6).size
       have hfE:w6.frozen? ⟨b2,off2+1,none⟩=false:=(World.frozen?_of_block (a:=⟨b2,off2+1,none⟩) ((hC6).block _ hb2l hb2g)).trans f3
       have hFinE:=HH.out w6 (p+1+1+1+1) ⟨x,y⟩
       have HFE:=jj (fun g' c' w3' o=>hFinE g' c' w3' o hRw6 (hC6) (by omega))
       clear hFinE
       dsimp only
       refine hK.out _ _ hSE (fun _=>hTE) ?_
       clear hK K
       (try simp only [Act.put,zz4,zz5,zz6])
       refine wV 19 rfl hSE hTE ?_
       (try simp only [Act.put,zz4,zz5,zz6])
       refine Go.Proofs.YtjjclcmmfeegfaaGreatDoor.w1 20 rfl fun K hK=>?_
       go_simp
       refine hK.out _ _ ((World.cell?_alloc_lt _ _ _ (zz9 hbl hzE)).trans hSE) (fun _=>(World.cell?_alloc_lt _ _ _ (zz9 hb2l hzE)).trans hTE) ?_
       clear hK K
       (try simp only [Act.put,zz4,zz5,zz6])
       refine Go.Proofs.YtjjclcmmfeegfaaGreatDoor.w1 21 rfl fun K hK=>?_
       refine zAF (P:=Tryz.prog) rfl _ _ 65 rfl j0 _ 16 Tryz.underlying65 HJ.out HJ0.out HJ1.out HJ2.out rfl (by decide) TyR_len' TyR_mono' (by rfl) HOE.out ⟨x,y⟩ 25 [.int .i64 x,.int .i64 y] [] _ (by rfl) rfl (by simp [Value.oneCell']) ⟨rfl,rfl⟩ (Under.nil _) (fun _ _ h=>by cases h) hmx hby (Nat.zero_le _) ?_
       intro g' cp w7 hown7 hgr7 hat7
       have nb:some b≠(Value.slice aA xs[d].ctors[0].args.length acap).ownBlock:=fun e=>(HROW.out b (zA1.2 e.symm)).2.1 rfl
       have nb2:some b2≠(Value.slice aA xs[d].ctors[0].args.length acap).ownBlock:=fun e=>(HROW.out b2 (zA1.2 e.symm)).2.2.1 rfl
       have l7:w6.heap.size≤(w6.alloc (.cells #[.int .i64 x,.int .i64 y] 25)).heap.size:=by rw [World.size_alloc];exact Nat.le_succ _
       have l8:b<w6.heap.size:=zz9 hbl hzE
       have l9:b2<w6.heap.size:=zz9 hb2l hzE
       have s7:w7.cell? ⟨b,off+d*2+1,none⟩=some (.slice (some ⟨b2,off2,none⟩) xs[d].ctors.length cap2):=(World.grownBy.cell_far hgr7 ⟨b,off+d*2+1,none⟩ (zz9 l8 l7) nb).trans ((World.cell?_alloc_lt _ _ _ l8).trans hSE)
       have t7:w7.cell? ⟨b2,off2+1,none⟩=some (.slice aA xs[d].ctors[0].args.length acap):=(World.grownBy.cell_far hgr7 ⟨b2,off2+1,none⟩ (zz9 l9 l7) nb2).trans ((World.cell?_alloc_lt _ _ _ l9).trans hTE)
       have f7:w7.frozen? ⟨b2,off2+1,none⟩=false:=(World.grownBy.frozen_far hgr7 ⟨b2,off2+1,none⟩ (zz9 l9 l7) nb2).trans (Eq.trans (World.frozen?_of_block (Below.heap_alloc _ _ _ l9)) hfE)
       have HFin:=jj (HFE.out g' cp w7 _ hown7 hgr7 hat7)
       refine hK.out _ _ s7 (fun _=>t7) ?_
       clear hK K
       (try simp only [Act.put,zz4,zz5,zz6])
       refine wV 22 rfl s7 t7 ?_
       (try simp only [Act.put,zz4,zz5,zz6])
       refine wV 23 rfl s7 t7 ?_
       (try simp only [Act.put,zz4,zz5,zz6])
       refine Go.Proofs.YtjjclcmmfeegfaaGreatDoor.w1 24 rfl fun K hK=>?_
       go_simp
       refine hK.out _ _ ((World.cell?_setCell_far _ _ _ _ (by show b2≠b;exact fun e=>hbb e.symm)).trans s7) (fun h=>by cases h) ?_
       clear hK K
       (try simp only [Act.put,zz4,zz5,zz6])
       refine wE (by kernel_rfl) ?_
       clear hS1 hT1 hSE hTE HOE hzE hfE HFE nb nb2 l7 l8 l9 s7 t7 f7 hown7 hgr7 hat7 HH HOWN HROW f3 kc c1 hmx hby
       go_wp2
       go_ret
       exact HFin.out)
     |false =>
      cases c4q:((r:Int)==4) with
      |true =>
       have hCd:=HC3.out.drew
       clear HC3
       obtain ⟨b2,off2,cap2,aA,acap,kc,hbb,hbg,hb2g,hbl,hb2l,hz2,c0,c1,c2,hown,hrow,hal,H2,H4,H3⟩:=hCd.ctor (p:=p) h0 HSM.out hd hk0
       have HH:=jj H4
       have hR3:=jj hCd.rd
       have f3:=hz2 (off2+2)
       clear c0 c1 hown hrow hal H2 H4 H3 hCd hz2
       go_wp2_with fail
       refine zA9 (S:=fun w'=>w'.cell? ⟨b,off+d*2+1,none⟩=some (.slice (some ⟨b2,off2,none⟩) xs[d].ctors.length cap2)) (T:=fun _=>True) (d:=10) (by kernel_rfl) ?_
       generalize w3.drew=wd at *
       have hS1:wd.cell? ⟨b,off+d*2+1,none⟩=some (.slice (some ⟨b2,off2,none⟩) xs[d].ctors.length cap2):=kc
       have hT1:True:=trivial
       refine wV 0 rfl hS1 hT1 ?_
       (try simp only [Act.put,zz4,zz5,zz6])
       refine wV 1 rfl hS1 hT1 ?_
       (try simp only [Act.put,zz4,zz5,zz6])
       refine wV 2 rfl hS1 hT1 ?_
       (try simp only [Act.put,zz4,zz5,zz6])
       refine wV 3 rfl hS1 hT1 ?_
       (try simp only [Act.put,zz4,zz5,zz6])
       refine wV 4 rfl hS1 hT1 ?_
       (try simp only [Act.put,zz4,zz5,zz6])
       refine wV 5 rfl hS1 hT1 ?_
       (try simp only [Act.put,zz4,zz5,zz6])
       refine Go.Proofs.YtjjclcmmfeegfaaGreatDoor.w1 6 rfl fun K hK=>?_
       go_simp
       refine hK.out _ _ ((World.cell?_alloc_lt _ _ _ hbl).trans kc) (fun _=>trivial) ?_
       clear hK K
       (try simp only [Act.put,zz4,zz5,zz6])
       refine Go.Proofs.YtjjclcmmfeegfaaGreatDoor.w1 7 rfl fun K hK=>?_
       go_simp
       go_at_call 126
       refine (num_lit [4,-1,1] (by decide) (by decide) (p+1+1) g wd hR3.out (by omega)).mono ?_
       rintro e w4 ⟨s,hs,rfl,hR4,hC4⟩
       have hC5:=hC4
       have hS4:w4.cell? ⟨b,off+d*2+1,none⟩=some (.slice (some ⟨b2,off2,none⟩) xs[d].ctors.length cap2):=(hC5.cell hbl hbg).trans kc
       have x4:w4.cell? ⟨b2,off2+2,none⟩=xs[d].ctors[0].idx:=(hC5.cell hb2l hb2g).trans c2
       have f4:w4.frozen? ⟨b2,off2+2,none⟩=false:=(World.frozen?_of_block (a:=⟨b2,off2+2,none⟩) (hC5.block _ hb2l hb2g)).trans f3
       have HFin:=jj (HH.out w4 _ s hR4 hC5 (by omega))
       dsimp only
       refine hK.out _ _ hS4 (fun _=>trivial) ?_
       clear hK K
       (try simp only [Act.put,zz4,zz5,zz6])
       refine wV 8 rfl hS4 hT1 ?_
       (try simp only [Act.put,zz4,zz5,zz6])
       refine wV 9 rfl hS4 hT1 ?_
       (try simp only [Act.put,zz4,zz5,zz6])
       refine Go.Proofs.YtjjclcmmfeegfaaGreatDoor.w1 10 rfl fun K hK=>?_
       go_simp
       refine hK.out _ _ ((World.cell?_setCell_far _ _ _ _ (by show b2≠b;exact fun e=>hbb e.symm)).trans hS4) (fun _=>trivial) ?_
       clear hK K
       (try simp only [Act.put,zz4,zz5,zz6])
       refine wE (by kernel_rfl) ?_
       clear hS1 hT1 hS4 x4 f4 hC5 hC4 hR4 HH hR3 f3 kc c2
       go_wp2
       go_ret
       exact HFin.out
      |false =>
       cases c5q:((r:Int)==5) with
       |true =>
        obtain ⟨kA,kcap,F2,n0,k0,z0,hb,hbl,hk1,hk2,hdx,hF2,hname,hctors⟩:=HC3.out.data (p:=p) h0 HSM.out hd
        have HDX:=jj hdx
        have HF2:=jj hF2
        have hbs:w.heap.size≤w3.heap.size:=HC3.out.chg.size
        clear z0 hdx hF2 hname hctors
        go_wp2_with (at_builtin;refine Halt.mk ?_)
        refine Halt.of (zA5 (P:=Tryz.prog) rfl _ _ 23 rfl m0 _ 40 Tryz.underlying23 HM.out HM0.out HM1.out HM2.out rfl (by decide) DtO_len DtO_mono (by rfl) HC3.out.own xs[d] 64 [.string xs[d].name,.slice kA xs[d].ctors.length kcap] F2 _ (by rfl) rfl (by simp [Value.oneCell']) HDX.out (fun x hx=>(HF2.out x hx).2.2) (fun x hx hG=>(HF2.out x hG).1 (by rw [zA4,zy1] at hx;exact hx)) (by unfold maxLen;omega) (by omega) hbs ?_)
        intro g' cp w7 hown7 hgr7 hat7
        have HFin:=jj (HC3.out.twice (p:=p) h0 HSM.out hd (fun x hx=>(HF2.out x hx).2.1) rfl hown7 hgr7 (by omega))
        clear hown7 hgr7 hat7 n0 k0 hk1 hk2 HDX HF2 HC3
        go_wp2
        go_ret
        exact HFin.out
       |false =>
        have HFin:=jj (HC3.out.done (p:=p) h0 HSM.out (by omega))
        clear HC3
        go_wp2
        go_ret
        exact HFin.out
def DrewW (w:World) (e:Ending) (w':World):Prop:=∃ xs v F,e=.returned v∧Below w w w'∧Arr w' (DtR w') xs v F∧Fresh w w' F
def DrewWT (w:World) (e:Ending) (w':World):Prop:=∃ xs v F,∃ t:Ty,e=.returned (.tuple #[v,.agg #[t.d,t.i]])∧Below w w w'∧Arr w' (DtR w') xs v F∧Fresh w w' F
def DrewWTN (w:World) (e:Ending) (w':World):Prop:=∃ xs v F,∃ t:Ty,∃ n:Int,e=.returned (.tuple #[v,.agg #[t.d,t.i],.int .i64 n])∧Below w w w'∧Arr w' (DtR w') xs v F∧Fresh w w' F
theorem Chg.low {g B:Nat} {w w':World} (h:Chg [g] w w') (hg:B≤g) (hB:B≤w.heap.size):Below B w w':=h.below (fun b hb=>by rw [zy1] at hb;omega) hB
def DrewWW (w:World) (e:Ending) (w':World):Prop:=∃ xs v F ys v2 F2,e=.returned (.tuple #[v,v2])∧Below w w w'∧Arr w' (DtR w') xs v F∧Under w'.heap.size F∧Arr w' (DtR w') ys v2 F2∧Under w'.heap.size F2
theorem spec_DrawWorldValid (bs:List Int) (w:World) (v:Value) (F:List Nat) (hx:Arr w (ByR w) bs v F) (hf:Under w F) :
  Calls Tryz.prog 47 #[v] w (DrewW w):=by
 have HX:=jj hx
 have HU:=jj hf
 clear hx hf
 go_enter Tryz.func47,Tryz.ntmps47
 go_wp2_with fail
 refine (spec_l17Open bs w v F HX.out HU.out).mono ?_
 rintro e w2 ⟨g,rfl,hge,hb2,hR2⟩
 have HR2:=jj hR2
 have hgl:=hR2.lt
 clear hR2 HX HU
 go_wp2_with fail
 refine (spec_l1World 0 g w2 HR2.out (by omega)).mono ?_
 rintro e w3 ⟨xs,v3,F3,q3,rfl,⟨hok,h0⟩,ha3,hfs3,hR3,hq3,hC3⟩
 have hW:=worldOK hok
 have hlen:=hW.len
 have HSM:=jj (SmallW.of hW)
 have HR3:=jj hR3
 have HA3:=jj ha3
 have HF3:=jj hfs3
 have hB3:Below w w w3:=hb2.trans (hC3.low (by omega) hb2.size)
 clear hR3 ha3 hfs3 hC3 hok hW HR2
 go_wp2_with fail
 refine (spec_l1Mutate q3 g w3 HR3.out (by omega) xs _ F3 HA3.out HF3.out.under h0 (by omega) 4 (by omega) HSM.out).mono ?_
 rintro e w6 ⟨ys,v6,F6,q6,rfl,-,ha6,hfs6,-,-,hC6⟩
 have HFin:Hid (DrewW w (.returned v6) w6):=⟨ys,v6,F6,rfl,hB3.trans (hC6.low (by omega) hB3.size),ha6,fun b hb=>⟨Nat.le_trans hB3.size (hfs6 b hb).1,(hfs6 b hb).2⟩⟩
 clear ha6 hfs6 hC6
 go_wp2
 go_ret
 exact HFin.out
theorem spec_l1Bend (ls:List ByteArray) (hl1:1≤ls.length) (hl2:ls.length≤1000) (hm:∀ x∈ls,x.size≤10) (s:ByteArray) (hs:s.size≤1000) (p g:Nat) (w:World) (h:Rd w g p) (hp:p≤900000) (v:Value) (F:List Nat) (hx:Arr w (StrR w) ls v F) (hf:Under w F) (hg:g∉F) :
  Calls Tryz.prog 60 #[.pointer (some ⟨g,0,none⟩),.string s,v] w fun e w'=>∃ t:ByteArray,e=.returned (.string t)∧t.size≤3000∧Chg [g] w w':=by
 have HR:=jj h
 have HX:=jj hx
 have HU:=jj hf
 have HG:=jj hg
 have HM:=jj hm
 have hgl:=h.lt
 clear h hx hf hg hm
 go_enter Tryz.func60,Tryz.ntmps60
 by_cases h0:s.size=0
 ·have q0:(((s.size:Nat):Int)==0)=true:=by simp [h0]
  have hfin:∃ t:ByteArray,Ending.returned (.string s)=.returned (.string t)∧t.size≤3000∧Chg [g] w w:=⟨s,rfl,by omega,Chg.refl _ _⟩
  have HFin:=jj hfin
  clear hfin
  go_wp2
  go_ret
  exact HFin.out
 ·have q0:(((s.size:Nat):Int)==0)=false:=by rw [beq_eq_false_iff_ne];omega
  go_wp2_with fail
  refine (pick_any 2 p g w HR.out (by omega) (by omega) (by omega)).mono ?_
  rintro e w1 ⟨r,rfl,hr,hR1,hC1⟩
  have HR1:=jj hR1
  have HC1:=jj hC1
  clear hR1 hC1
  by_cases hr0:r=0
  ·have q1:(((r:Nat):Int)==0)=true:=by simp [hr0]
   have hfin:∃ t:ByteArray,Ending.returned (.string s)=.returned (.string t)∧t.size≤3000∧Chg [g] w w1:=⟨s,rfl,by omega,HC1.out⟩
   have HFin:=jj hfin
   clear hfin
   go_wp2
   go_ret
   exact HFin.out
  ·have q1:(((r:Nat):Int)==0)=false:=by rw [beq_eq_false_iff_ne];omega
   go_wp2_with fail
   refine (pick_any s.size (p+1) g w1 HR1.out (by omega) (by omega) (by omega)).mono ?_
   rintro e w2 ⟨k,rfl,hk,hR2,hC2⟩
   have HR2:=jj hR2
   have HC2:Hid (Chg [g] w w2):=HC1.out.trans hC2
   have g1:(0:Int)≤(k:Int):=by omega
   have g2:(k:Int)≤(s.size:Int):=by omega
   have HX2:Hid (Arr w2 (StrR w2) ls v F):=Arr.mono HX.out (HC2.out.kept HU.out (fun b hb e=>by rw [zy1] at e;exact HG.out (by rw [←e];exact hb))) (fun x _ cs G hk h=>h)
   have HU2:=jj (HU.out.mono HC2.out.size)
   clear hR2 hC2
   have HX3:Hid (Arr w2.drew (StrR w2.drew) ls v F):=HX2.out
   have HU3:Hid (Under w2.drew.heap.size F):=HU2.out
   have HR3:Hid (Rd w2.drew g (p+1+1)):=HR2.out
   have HP2:Hid (∀ (W:World) (q:Nat),Rd W g q→q≤1000000→Calls Tryz.prog 61 #[.pointer (some ⟨g,0,none⟩),(2:Int)] W fun e w'=>∃ r:Nat,e=.returned (.int .i64 (r:Int))∧r<2∧Rd w' g (q+1)∧Chg [g] W w'):=fun W q h hq=>pick_any 2 q g W h hq (by omega) (by omega)
   go_wp2_with fail
   go_region_held3 (fun _=>True) (first | trivial) (first | (go_at_call 110;((with_reducible refine (of_any ls hl1 hl2 (p+1+1) g _ HR3.out (by omega) _ _ HX3.out HU3.out HG.out).mono ?_);rintro e w3 ⟨x,hx3,rfl,hR3,hC3⟩);have hxs:x.size≤10:=HM.out x hx3;have n1:¬9223372036854775807<min k s.size+x.size:=(by omega)) | (go_at_call 61;((with_reducible refine (HP2.out _ _ hR3 (by omega)).mono ?_);rintro e w4 ⟨r4,rfl,hr4,hR4,hC4⟩);have gw:IntKind.i64.wrap ((k:Int)+(r4:Int))=(k:Int)+(r4:Int):=(IntWalk.i64_in _ (by omega));have g3:(0:Int)≤(k:Int)+(r4:Int):=(by omega);have g4:(k:Int)+(r4:Int)≤(s.size:Int):=(by omega);have n2:¬9223372036854775807<min k s.size+x.size+(s.size-((k:Int)+(r4:Int)).toNat):=(by omega)))
   all_goals (
    have hC5:Chg [g] w w4:=(HC2.out.drew.trans hC3).trans hC4
    have hs3:(s.extract 0 k).size≤1000:=by rw [ByteArray.size_extract];omega
    have hs4:(s.extract (k+r4) s.size).size≤1000:=by rw [ByteArray.size_extract];omega
    have hfin:∃ t:ByteArray,Ending.returned (.string (s.extract 0 k ++ x ++ s.extract (k+r4) s.size))=.returned (.string t)∧t.size≤3000∧Chg [g] w w4:=⟨_,rfl,by rw [ByteArray.size_append,ByteArray.size_append];omega,hC5⟩
    have HFin:=jj hfin
    clear hfin hC5
    go_wp2
    go_ret
    exact HFin.out)
def bendL:List ByteArray:=[⟨#[]⟩,⟨#[40]⟩,⟨#[41]⟩,⟨#[124]⟩,⟨#[59]⟩,⟨#[61]⟩,⟨#[73]⟩,⟨#[58,49]⟩,⟨#[42]⟩,⟨#[76]⟩]
theorem eight_at {r:Nat} (h:r<8):∃ s:ByteArray,eightT[r]?=some s∧s.size≤100:=by
 have key:∀ r:Fin 8,∃ s:ByteArray,eightT[r.1]?=some s∧s.size≤100:=by
  intro ⟨r,hr⟩
  have h8:eightT.length=8:=rfl
  have hall:∀ t∈eightT,t.size≤100:=by decide +kernel
  exact ⟨eightT[r]'(by omega),List.getElem?_eq_getElem _,hall _ (List.getElem_mem _)⟩
 exact key ⟨r,h⟩
def DrewText (w:World) (e:Ending) (w':World):Prop:=∃ s:ByteArray,e=.returned (.string s)∧s.size≤3000∧Below w w w'
theorem spec_DrawParseWorld (bs:List Int) (w:World) (v:Value) (F:List Nat) (hx:Arr w (ByR w) bs v F) (hf:Under w F) :
  Calls Tryz.prog 22 #[v] w (DrewText w):=by
 have HX:=jj hx
 have HU:=jj hf
 clear hx hf
 go_enter Tryz.func22,Tryz.ntmps22
 go_wp2_with fail
 refine (spec_l17Open bs w v F HX.out HU.out).mono ?_
 rintro e w2 ⟨g,rfl,hge,hb2,hR2⟩
 have HR2:=jj hR2
 have hgl:=hR2.lt
 clear hR2 HX HU
 go_wp2_with fail
 refine (spec_l1Texts w2).mono ?_
 rintro e w3 ⟨rfl,hw3⟩
 have hb3:Below w2 w2 w3:=by rw [hw3];exact (zy2 _ _).alloc (zz8 _) _
 have hk3:Blk w3 w2 9 (eightT.map Value.string).toArray:=by rw [hw3];exact Blk.new _ _ _
 have HR3:=jj (HR2.out.below hb3)
 have HK3:=jj hk3
 clear hw3 hk3
 go_wp2_with fail
 refine (pick_any 8 0 g w3 HR3.out (by omega) (by omega) (by omega)).mono ?_
 rintro e w4 ⟨r,rfl,hr,hR4,hC4⟩
 obtain ⟨s,hs,hsl⟩:=eight_at hr
 have hlt3:=HK3.out.lt
 have c3:w3.cell? ⟨w2.heap.size,r,none⟩=some (.string s):=(HK3.out.cell r).trans (by simp [hs])
 have c4:w4.cell? ⟨w2.heap.size,r,none⟩=some (.string s):=(hC4.cell hlt3 (by simp;omega)).trans c3
 have HR4:=jj hR4
 have HC4:=jj hC4
 have g1:(0:Int)≤(r:Int):=by omega
 have g2:(r:Int)<8:=by omega
 have hsz4:=hC4.size
 clear hR4 hC4 c3 hs
 go_wp2_with fail
 have ha5:=lit_strs w4 bendL (by decide)
 have hb5:Below w4 w4 (w4.alloc (.cells (bendL.map Value.string).toArray 9)):=(zy2 _ _).alloc (zz8 _) _
 refine (spec_l1Bend bendL (by decide) (by decide) (by decide +kernel) s (by omega) 1 g _ (HR4.out.below hb5) (by omega) _ _ ha5 (fun b hb=>by rw [List.mem_singleton.1 hb,World.size_alloc];exact Nat.lt_succ_self _) (fun e=>by rw [zy1] at e;omega)).mono ?_
 rintro e w6 ⟨t,rfl,ht,hC6⟩
 have HFin:Hid (DrewText w (.returned (.string t)) w6):=⟨t,rfl,ht,by
  have hB3:Below w w w3:=hb2.trans (hb3.mono hb2.size)
  have hB4:Below w w w4:=hB3.trans (HC4.out.low hge hB3.size)
  have hB5:=hB4.trans (hb5.mono hB4.size)
  exact hB5.trans (hC6.low hge hB5.size)⟩
 clear hC6
 go_wp2
 go_ret
 exact HFin.out
theorem spec_DrawFormatWorld (bs:List Int) (w:World) (v:Value) (F:List Nat) (hx:Arr w (ByR w) bs v F) (hf:Under w F) :
  Calls Tryz.prog 16 #[v] w (DrewW w):=by
 have HX:=jj hx
 have HU:=jj hf
 clear hx hf
 go_enter Tryz.func16,Tryz.ntmps16
 go_wp2_with fail
 refine (spec_DrawWorldValid bs w v F HX.out HU.out).mono ?_
 rintro e w2 ⟨xs,v2,F2,rfl,hb2,ha2,hfs2⟩
 have HFin:Hid (DrewW w (.returned v2) w2):=⟨xs,v2,F2,rfl,hb2,ha2,hfs2⟩
 clear ha2 hfs2
 go_wp2
 go_ret
 exact HFin.out
def Ty.same (a b:Ty):Bool:=a.d==b.d && a.i==b.i
theorem Ty.same_iff (a b:Ty):Ty.same a b=true↔a=b:=by
 unfold Ty.same
 rw [Bool.and_eq_true,beq_iff_eq,beq_iff_eq]
 constructor
 ·rintro ⟨h1,h2⟩;exact Ty.ext h1 h2
 ·rintro rfl;exact ⟨rfl,rfl⟩
set_option maxHeartbeats 800000 in
theorem Equal_Ty (xs ys:List Ty) (w:World) (F G:List Nat) (x y:Value) (hx:Arr w (TyR w) xs x F) (hy:Arr w (TyR w) ys y G) :
  Calls Tryz.prog 54 #[x,y] w fun e w'=>e=.returned (.bool (sameBy Ty.same xs ys))∧∃ n,w'=w.drewN n:=by
 have HX:=jj hx
 have HY:=jj hy
 obtain ⟨A,cap,rfl,hl,hm⟩:=hx.form
 obtain ⟨A',cap',rfl,hl',hm'⟩:=hy.form
 clear hx hy
 by_cases hlen:xs.length=ys.length
 ·have tl:((xs.length:Int) != (ys.length:Int))=false:=by rw [hlen];simp
  have h1:xs.length≤ys.length:=by omega
  have h2:ys.length≤xs.length:=by omega
  clear hlen
  go_enter Tryz.func54,Tryz.ntmps54
  go_wp2
  go_loopw [13] (fun i wr=>∃ k q:Nat,k≤xs.length∧i=.int .i64 k∧Hid (sameBy Ty.same xs ys=sameBy Ty.same (xs.drop k) (ys.drop k))∧wr=w.drewN q) (fun i _=>xs.length-(intOf i).toNat)
  case atStart=>exact ⟨0,0,Nat.zero_le _,rfl,rfl,rfl⟩
  case round =>
   obtain ⟨k,q,hk,rfl,HT,rfl⟩:=hrel
   by_cases hlt:k<xs.length
   ·have hlt':k<ys.length:=by omega
    have hi0:(0:Int)≤(k:Int):=by omega
    have hi1:(k:Int)<(xs.length:Int):=by omega
    have hi2:(k:Int)<(ys.length:Int):=by omega
    obtain ⟨b,off,cs,F1,rfl,hb,hcs,hv,-⟩:=HX.out.get TyR_len hlt
    obtain ⟨b',off',ds,G1,rfl,hb',hds,hv',-⟩:=HY.out.get TyR_len hlt'
    obtain rfl:=TyR_form hv
    obtain rfl:=TyR_form hv'
    have c0:=hcs 0 _ rfl
    have c1:=hcs 1 _ rfl
    have d0:=hds 0 _ rfl
    have d1:=hds 1 _ rfl
    simp only [Nat.add_zero] at c0 d0
    clear hcs hds hv hv' hb hb'
    have hd:=sameBy_drop (f:=Ty.same) xs ys k hlt hlt'
    cases hs:Ty.same xs[k] ys[k] with
    |true =>
     rw [hs,Bool.true_and] at hd
     have HT2:Hid (sameBy Ty.same xs ys=sameBy Ty.same (xs.drop (k+1)) (ys.drop (k+1))):=HT.out.trans hd
     have he:=(Ty.same_iff _ _).1 hs
     have e0:(xs[k].d==ys[k].d)=true:=by rw [he];simp
     have e1:(xs[k].i==ys[k].i)=true:=by rw [he];simp
     clear hd hs he
     go_wp2_with fail
     go_quiet (fail)
     go_wp2
     go_roundw
     case rel=>exact ⟨k+1,_,by omega,by go_num,HT2,rfl⟩
     case measure=>simp [intOf];omega
    |false =>
     rw [hs,Bool.false_and] at hd
     have hf:=jj (HT.out.trans hd)
     clear hd
     unfold Ty.same at hs
     cases e0:(xs[k].d==ys[k].d) with
     |true =>
      have e1:(xs[k].i==ys[k].i)=false:=by rw [e0,Bool.true_and] at hs;exact hs
      clear hs
      go_wp2_with fail
      go_quiet (fail)
      go_wp2
      go_ret
      exact ⟨zA0 hf.out.symm,_,World.drewN_drewN _ _ _⟩
     |false =>
      clear hs
      go_wp2_with fail
      go_quiet (fail)
      go_wp2
      go_ret
      exact ⟨zA0 hf.out.symm,_,World.drewN_drewN _ _ _⟩
   ·have hT:=HT.out
    rw [List.drop_of_length_le (by omega),List.drop_of_length_le (by omega)] at hT
    have hf:Hid (sameBy Ty.same xs ys=true):=hT
    clear hT
    go_wp2
    go_ret
    exact ⟨zA0 hf.out.symm,_,rfl⟩
 ·have tl:((xs.length:Int) != (ys.length:Int))=true:=by rw [bne_iff_ne];omega
  have hf:=jj (sameBy_len_false (f:=Ty.same) hlen)
  clear hlen
  go_enter Tryz.func54,Tryz.ntmps54
  go_wp2
  go_ret
  exact ⟨zA0 hf.out.symm,0,rfl⟩
def Kt.same (a b:Kt):Bool:=(a.name.toList==b.name.toList) && (a.idx==b.idx && sameBy Ty.same a.args b.args)
theorem Kt.same_iff (a b:Kt):Kt.same a b=true↔a=b:=by
 unfold Kt.same
 rw [Bool.and_eq_true,Bool.and_eq_true,bytes_beq_iff,beq_iff_eq,sameBy_iff Ty.same_iff]
 constructor
 ·rintro ⟨h1,h2,h3⟩;exact Kt.ext h1 h3 h2
 ·rintro rfl;exact ⟨rfl,rfl,rfl⟩
theorem sameCtor_closure (a b:Kt) (w:World) (cs ds:List Value) (F G:List Nat) (hv:KtR w a cs F) (hv':KtR w b ds G) (hF:Under w F) (hG:Under w G) :
  Calls Tryz.prog 53 #[.agg cs.toArray,.agg ds.toArray] w fun e w'=>e=.returned (.bool (Kt.same a b))∧Below w w w':=by
 obtain ⟨kv,rfl,ha,hs⟩:=hv
 obtain ⟨kv',rfl,ha',hs'⟩:=hv'
 have HX:=jj ha
 have HY:=jj ha'
 obtain ⟨A,cap,rfl,hc1,hc2⟩:=ha.form
 obtain ⟨A',cap',rfl,hc3,hc4⟩:=ha'.form
 clear ha ha'
 cases e0:(a.name.toList==b.name.toList) with
 |false =>
  have hf:Hid (Kt.same a b=false):=by unfold Kt.same;rw [e0];rfl
  go_enter Tryz.func53,Tryz.ntmps53
  go_wp2
  go_ret
  exact ⟨zA0 hf.out.symm,((zy2 _ _).alloc (zz8 _) _).alloc (by simp) _⟩
 |true =>
  have hsame:Kt.same a b=(sameBy Ty.same a.args b.args && (a.idx==b.idx)):=by unfold Kt.same;rw [e0,Bool.true_and,Bool.and_comm]
  have HSame:=jj hsame
  clear hsame
  have HF:=jj hF
  have HG:=jj hG
  clear hF hG
  go_enter Tryz.func53,Tryz.ntmps53
  go_wp2_with fail
  obtain ⟨W2,hW2⟩:∃ W2,W2=(w.alloc (.cells #[.string a.name,.slice A a.args.length cap,a.idx] 67)).alloc (.cells #[.string b.name,.slice A' b.args.length cap',b.idx] 67):=⟨_,rfl⟩
  have hB2:Below w w W2:=by rw [hW2];exact ((zy2 _ _).alloc (zz8 _) _).alloc (by simp) _
  have k1:Blk W2 w 67 #[.string a.name,.slice A a.args.length cap,a.idx]:=by rw [hW2];exact (Blk.new w _ _).same (Below.heap_alloc _ _ _ (by simp))
  have k2:Blk W2 (w.heap.size+1) 67 #[.string b.name,.slice A' b.args.length cap',b.idx]:=by rw [hW2];have:=Blk.new (w.alloc (.cells #[.string a.name,.slice A a.args.length cap,a.idx] 67)) 67 #[.string b.name,.slice A' b.args.length cap',b.idx];simpa using this
  rw [←hW2]
  clear hW2
  have x2:W2.cell? ⟨w,2,none⟩=a.idx:=(k1.cell 2).trans (by simp)
  have y2:W2.cell? ⟨w.heap.size+1,2,none⟩=b.idx:=(k2.cell 2).trans (by simp)
  clear k1 k2
  refine (Equal_Ty a.args b.args W2 F G _ _ (ArrTy.below HX.out hB2 HF.out) (ArrTy.below HY.out hB2 HG.out)).mono ?_
  rintro e w' ⟨rfl,q,rfl⟩
  have hB3:=jj (below_drewN hB2 q)
  cases e2:sameBy Ty.same a.args b.args with
  |false =>
   have hf:Hid (Kt.same a b=false):=by rw [HSame.out,e2];rfl
   go_wp2
   go_ret
   exact ⟨zA0 hf.out.symm,hB3.out⟩
  |true =>
   have hf:Hid (Kt.same a b=(a.idx==b.idx)):=by rw [HSame.out,e2];rfl
   go_wp2
   go_ret
   exact ⟨zA0 hf.out.symm,hB3.out⟩
end Go.Proofs.YtjjclcmmfeegfaaGreatDoor
