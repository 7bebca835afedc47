/-
  Lemmas, and contracts of functions. Conditions: none.
-/
import Derived.Test.YtjjclcmmfeegfaaGAA
import Derived.Test.YtjjclcmmfeegfaaGAB
import Derived.Test.YtjjclcmmfeegfaaChecked
import Derived.Laws.BitsAllLaws
import Derived.IntWalk
import Derived.Deep.RegionWith
import Derived.Deep.QuietTactic
import Derived.BigQuiet
import Derived.Deep.RegionHeld3
import Derived.Laws.BytesArg

set_option linter.unusedVariables false
set_option linter.unusedSimpArgs false
set_option maxRecDepth 100000
set_option maxHeartbeats 1600000

namespace Go.Proofs.Ytjjclcmmfeegfaa
open Go.RowKit
def ByR (_:World) (x:Int) (cs:List Value) (F:List Nat):Prop:=cs=[.int .u8 x]∧F=[]∧0≤x∧x≤255
theorem ByR_len (w:World) (x:Int) (cs:List Value) (F:List Nat) (h:ByR w x cs F):cs.length=1:=by rw [h.1];rfl
theorem ArrBy.mono {w w':World} {vs:List Int} {x:Value} {F:List Nat} (h:Arr w (ByR w) vs x F) (hF:Kept F w w'):Arr w' (ByR w') vs x F:=h.mono hF fun v _ cs G _ h=>h
theorem ArrBy.at {w:World} {b off n cap:Nat} {F:List Nat} {xs:List Int} (h:Arr w (ByR w) xs (.slice (some ⟨b,off,none⟩) n cap) F) (hF:Under w F) (i:Nat) (hi:i<xs.length) :
  b<w.heap.size∧b∈F∧w.cell? ⟨b,off+i,none⟩=some (.int .u8 xs[i])∧0≤xs[i]∧xs[i]≤255:=by
 obtain ⟨b',off',cs,G,e,hb,hcs,hv,hG⟩:=h.get (ByR_len w) hi
 cases e
 obtain ⟨rfl,-,h0,h1⟩:=hv
 have:=hcs 0 _ rfl
 simp only [Nat.mul_one,Nat.add_zero] at this
 exact ⟨hF _ hb,hb,this,h0,h1⟩
theorem Arr.take {α:Type} {w:World} {R:α→List Value→List Nat→Prop} {xs:List α} {A:Option Addr} {n cap:Nat} {F:List Nat} (h:Arr w R xs (.slice A n cap) F) (m:Nat) (hm:m≤xs.length) (hm0:0<m):∃ G,Arr w R (xs.take m) (.slice A m cap) G∧∀ b∈G,b∈F:=by
 obtain ⟨A',cap',hv,h1,h2,h3⟩:=h
 cases hv
 have hl:(xs.take m).length=m:=by rw [List.length_take];omega
 rcases h3 with ⟨rfl,-⟩ | ⟨b,off,cs,G,rfl,hc,hf,rfl⟩
 ·simp at hm;omega
 ·have hxs:xs=xs.take m ++ xs.drop m:=(List.take_append_drop m xs).symm
  rw [hxs] at hf
  obtain ⟨c1,c2,F1,F2,rfl,rfl,g1,g2⟩:=Flat.split (xs.take m) hf
  exact ⟨b :: F1,⟨_,cap,by rw [hl],by rw [hl];omega,h2,.inr ⟨b,off,c1,F1,rfl,hc.left,g1,rfl⟩⟩,fun x hx=>by
   rcases List.mem_cons.1 hx with h | h
   ·simp [h]
   ·simp [h]⟩
def Rd (w:World) (g p:Nat):Prop:=∃ A cap bs F,Blk w g 99 #[.slice A bs.length cap,(p:Int)]∧Arr w (ByR w) bs (.slice A bs.length cap) F∧Under g F∧bs.length≤2000
theorem Rd.lt {w:World} {g p:Nat} (h:Rd w g p):g<w.heap.size:=by obtain ⟨A,cap,bs,F,h1,-⟩:=h;exact h1.lt
theorem Rd.below {w w':World} {g p:Nat} (h:Rd w g p) (hb:Below w w w'):Rd w' g p:=by
 obtain ⟨A,cap,bs,F,h1,h2,h3,h5⟩:=h
 exact ⟨A,cap,bs,F,h1.same (hb.block _ h1.lt),ArrBy.mono h2 (.of_below hb (h3.mono (Nat.le_of_lt h1.lt))),h3,h5⟩
theorem Rd.set {w:World} {g p b j:Nat} {u:Value} (h:Rd w g p) (hb:g<b):Rd (w.setCell ⟨b,j,none⟩ u) g p:=by
 obtain ⟨A,cap,bs,F,h1,h2,h3,h5⟩:=h
 exact ⟨A,cap,bs,F,h1.same (zz7 _ _ _ _ (by show g≠b;omega)),ArrBy.mono h2 (fun c hc=>zz7 _ _ _ _ (by have:=h3 c hc;show c≠b;omega)),h3,h5⟩
theorem Rd.drew {w:World} {g p:Nat} (h:Rd w g p):Rd w.drew g p:=h
theorem Rd.drewN {w:World} {g p:Nat} (h:Rd w g p) (n:Nat):Rd (w.drewN n) g p:=h
theorem i64_xor_nat (a b:Nat) (ha:a<9223372036854775808) (hb:b<9223372036854775808):bits .xor .i64 (a:Int) (b:Int)=((a ^^^ b:Nat):Int):=by
 have hx:a ^^^ b<2 ^ 63:=Nat.xor_lt_two_pow (by omega) (by omega)
 show IntKind.i64.wrap ((BitVec.ofInt 64 (a:Int) ^^^ BitVec.ofInt 64 (b:Int)).toNat:Int)=_
 rw [BitVec.toNat_xor,ofInt_u64 a (by omega),ofInt_u64 b (by omega)]
 exact IntWalk.i64_in _ (by omega)
theorem zAH (n p g:Nat) (w:World) (h:Rd w g p) (hp:p≤1000000) (hn:1≤n) (hn2:n≤1000000) :
  Calls Try.prog 36 #[.pointer (some ⟨g,0,none⟩),(n:Int)] w fun e w'=>∃ r:Nat,e=.returned (.int .i64 (r:Int))∧r<n∧Rd w' g (p+1)∧Chg [g] w w':=by
 obtain ⟨A,cap,bs,F,hk,ha,hu,hbl⟩:=h
 have hf:Under w F:=hu.mono (Nat.le_of_lt hk.lt)
 have hg:g∉F:=fun h=>Nat.lt_irrefl _ (hu g h)
 have HU:=jj hu
 clear hu
 have c0:w.cell? ⟨g,0,none⟩=some (.slice A bs.length cap):=(hk.cell 0).trans (by simp)
 have c1:w.cell? ⟨g,1,none⟩=(p:Int):=(hk.cell 1).trans (by simp)
 have f1:=hk.frozen 1
 have hlt:=hk.lt
 have HK:=jj hk
 have HA:=jj ha
 have HF:=jj hf
 have HG:=jj hg
 clear hk ha hf hg
 have t0:decide ((n:Int)<1)=false:=decide_eq_false (by omega)
 have KR:Blk (w.setCell ⟨g,1,none⟩ (.int .i64 ((p:Int)+1))) g 99 #[.slice A bs.length cap,.int .i64 ((p:Int)+1)]:=HK.out.set_ 1 _
 have hCG:Chg [g] w (w.setCell ⟨g,1,none⟩ (.int .i64 ((p:Int)+1))):=(Chg.refl _ _).set (by simp)
 have hRd:Hid (Rd (w.setCell ⟨g,1,none⟩ (.int .i64 ((p:Int)+1))) g (p+1)):=⟨A,cap,bs,F,KR,ArrBy.mono HA.out (hCG.kept HF.out (fun b hb=>by simp;intro e;exact HG.out (e▸hb))),HU.out,hbl⟩
 have HCG:=jj hCG
 clear KR hCG
 by_cases hb0:bs.length=0
 ·have t1:((bs.length:Int)==0)=true:=beq_iff_eq.2 (by omega)
  go_enter Try.func36,Try.ntmps36
  go_wp2
  go_ret
  exact ⟨0,rfl,by omega,hRd.out,HCG.out⟩
 ·have t1:((bs.length:Int)==0)=false:=by rw [beq_eq_false_iff_ne];omega
  obtain ⟨b,off,rfl⟩:=HA.out.ptr (by omega)
  by_cases hpl:p<bs.length
  ·have t2:decide ((p:Int)<(bs.length:Int))=true:=decide_eq_true (by omega)
   have g1:(0:Int)≤(p:Int):=by omega
   obtain ⟨hbw,hbF,x0,hx0,hx1⟩:=ArrBy.at HA.out HF.out p hpl
   have hbg:g≠b:=fun e=>HG.out (e▸hbF)
   generalize hX:bs[p]=X at *
   obtain ⟨Xn,rfl⟩:=Int.eq_ofNat_of_zero_le hx0
   have hw1:IntKind.i64.wrap (Xn:Int)=(Xn:Int):=IntWalk.i64_in _ (by omega)
   clear hX
   go_enter Try.func36,Try.ntmps36
   go_wp2
   go_ret
   exact ⟨Xn % n,rfl,Nat.mod_lt _ (by omega),hRd.out,HCG.out⟩
  ·have t2:decide ((p:Int)<(bs.length:Int))=false:=decide_eq_false (by omega)
   obtain ⟨q1,hq1⟩:∃ q,q=p % bs.length:=⟨_,rfl⟩
   obtain ⟨q2,hq2⟩:∃ q,q=(p*7+3) % bs.length:=⟨_,rfl⟩
   obtain ⟨q3,hq3⟩:∃ q,q=p / bs.length:=⟨_,rfl⟩
   have l1:q1<bs.length:=by rw [hq1];exact Nat.mod_lt _ (by omega)
   have l2:q2<bs.length:=by rw [hq2];exact Nat.mod_lt _ (by omega)
   have l3:q3≤1000000:=by rw [hq3];exact Nat.le_trans (Nat.div_le_self _ _) hp
   obtain ⟨hbw,hbF,x1,hx0,hx1⟩:=ArrBy.at HA.out HF.out q1 l1
   obtain ⟨-,-,x2,hy0,hy1⟩:=ArrBy.at HA.out HF.out q2 l2
   have hbg:g≠b:=fun e=>HG.out (e▸hbF)
   generalize hX:bs[q1]=X at *
   generalize hY:bs[q2]=Y at *
   obtain ⟨Xn,rfl⟩:=Int.eq_ofNat_of_zero_le hx0
   obtain ⟨Yn,rfl⟩:=Int.eq_ofNat_of_zero_le hy0
   have m1:(p:Int).tmod (bs.length:Int)=(q1:Int):=by rw [Int.tmod_eq_emod_of_nonneg (by omega),hq1];rfl
   have m1':(p:Int) % (bs.length:Int)=(q1:Int):=by rw [hq1];rfl
   have m2:((p:Int)*7+3).tmod (bs.length:Int)=(q2:Int):=by rw [Int.tmod_eq_emod_of_nonneg (by omega),hq2];push_cast;rfl
   have m2':((p:Int)*7+3) % (bs.length:Int)=(q2:Int):=by rw [hq2];push_cast;rfl
   have m3:(p:Int).tdiv (bs.length:Int)=(q3:Int):=by rw [hq3];rfl
   have m3':(p:Int) / (bs.length:Int)=(q3:Int):=by rw [hq3];rfl
   have n1:(0:Int)≤(q1:Int):=by omega
   have n2:(q1:Int)<(bs.length:Int):=by omega
   have n3:(0:Int)≤(q2:Int):=by omega
   have n4:(q2:Int)<(bs.length:Int):=by omega
   have n5:(bs.length:Int)≠0:=by omega
   have a1:IntKind.i64.wrap ((Xn:Int)*131)=(Xn:Int)*131:=IntWalk.i64_in _ (by omega)
   have a2:IntKind.i64.wrap ((p:Int)*7)=(p:Int)*7:=IntWalk.i64_in _ (by omega)
   have a3:IntKind.i64.wrap ((p:Int)*7+3)=(p:Int)*7+3:=IntWalk.i64_in _ (by omega)
   have a4:IntKind.i64.wrap ((Yn:Int)*1117)=(Yn:Int)*1117:=IntWalk.i64_in _ (by omega)
   have a5:IntKind.i64.wrap ((Xn:Int)*131+(Yn:Int)*1117)=(Xn:Int)*131+(Yn:Int)*1117:=IntWalk.i64_in _ (by omega)
   have a6:IntKind.i64.wrap ((p:Int)*29)=(p:Int)*29:=IntWalk.i64_in _ (by omega)
   have a7:IntKind.i64.wrap ((Xn:Int)*131+(Yn:Int)*1117+(p:Int)*29)=(Xn:Int)*131+(Yn:Int)*1117+(p:Int)*29:=IntWalk.i64_in _ (by omega)
   have a8:IntKind.i64.wrap (q3:Int)=(q3:Int):=IntWalk.i64_in _ (by omega)
   have a9:IntKind.i64.wrap ((q3:Int)*53)=(q3:Int)*53:=IntWalk.i64_in _ (by omega)
   have aa:IntKind.i64.wrap ((Xn:Int)*131+(Yn:Int)*1117+(p:Int)*29+(q3:Int)*53)=(Xn:Int)*131+(Yn:Int)*1117+(p:Int)*29+(q3:Int)*53:=IntWalk.i64_in _ (by omega)
   have ab:IntKind.i64.wrap (Xn:Int)=(Xn:Int):=IntWalk.i64_in _ (by omega)
   have ac:IntKind.i64.wrap (Yn:Int)=(Yn:Int):=IntWalk.i64_in _ (by omega)
   obtain ⟨T,hT⟩:∃ T:Nat,(Xn:Int)*131+(Yn:Int)*1117+(p:Int)*29+(q3:Int)*53=(T:Int):=⟨Xn*131+Yn*1117+p*29+q3*53,by push_cast;rfl⟩
   have hTl:T≤1000000000:=by omega
   have hd:(T:Int).tdiv 64=((T / 64:Nat):Int):=rfl
   have hd':(T:Int) / 64=((T / 64:Nat):Int):=rfl
   have hxr:=i64_xor_nat T (T / 64) (by omega) (by omega)
   have hxw:IntKind.i64.wrap ((T / 64:Nat):Int)=((T / 64:Nat):Int):=IntWalk.i64_in _ (by omega)
   clear hX hY hq1 hq2 hq3 hb0
   go_enter Try.func36,Try.ntmps36
   go_wp2_with fail
   have hxr2:bits .xor .i64 (T:Int) ((T:Int) / 64)=((T ^^^ (T / 64):Nat):Int):=hxr
   have hXl:T ^^^ (T / 64)<2 ^ 40:=Nat.xor_lt_two_pow (by omega) (by omega)
   generalize hXe:T ^^^ (T / 64)=X at hxr hxr2 hXl
   have hXm:(X:Int).tmod (n:Int)=((X % n:Nat):Int):=rfl
   have hXw:IntKind.i64.wrap (X:Int)=(X:Int):=IntWalk.i64_in _ (by omega)
   clear hXe hxr hd hd' hxw
   go_quiet (fail)
   clear x1 x2 m1 m1' m2 m2' m3 m3' n1 n2 n3 n4 n5 a1 a2 a3 a4 a5 a6 a7 a8 a9 aa ab ac
   go_wp2
   go_ret
   exact ⟨X % n,rfl,Nat.mod_lt _ (by omega),hRd.out.drewN _,HCG.out.drewN _⟩
theorem spec_l17Open (bs:List Int) (w:World) (v:Value) (F:List Nat) (hx:Arr w (ByR w) bs v F) (hf:Under w F) :
  Calls Try.prog 33 #[v] w fun e w'=>∃ g:Nat,e=.returned (.pointer (some ⟨g,0,none⟩))∧w.heap.size≤g∧Below w w w'∧Rd w' g 0:=by
 obtain ⟨A,cap,rfl,hc1,hc2⟩:=hx.form
 have hbl:∀ (A:Option Addr) (cap:Nat) (bs:List Int) (F:List Nat),Arr w (ByR w) bs (.slice A bs.length cap) F→Under w F→bs.length≤2000→Rd (w.alloc (.cells #[.slice A bs.length cap,(0:Int)] 99)) w.heap.size 0:=fun A cap bs F h1 h2 h3 =>
  ⟨A,cap,bs,F,Blk.new _ _ _,ArrBy.mono h1 (.of_below ((zy2 _ _).alloc (zz8 _) _) h2),h2,h3⟩
 have HBL:=jj hbl
 have HX:=jj hx
 have HF:=jj hf
 clear hx hf
 clear hbl
 by_cases hl:2000<bs.length
 ·have t0:decide ((bs.length:Int)>2000)=true:=decide_eq_true (by omega)
  obtain ⟨b,off,rfl⟩:=HX.out.ptr (by omega)
  obtain ⟨G,hG,hGF⟩:=HX.out.take 2000 (by omega) (by omega)
  have hlt:(bs.take 2000).length=2000:=by rw [List.length_take];omega
  have hr:=HBL.out (some ⟨b,off,none⟩) cap (bs.take 2000) G (by rw [hlt];exact hG) (HF.out.sub hGF) (by rw [hlt];exact zz8 _)
  rw [hlt] at hr
  have HRD:=jj hr
  have g1:(2000:Int)≤(bs.length:Int):=by omega
  have g2:2000≤cap:=by omega
  clear hr hG hlt
  go_enter Try.func33,Try.ntmps33
  go_wp2
  go_ret
  exact ⟨w.heap.size,rfl,zz8 _,(zy2 _ _).alloc (zz8 _) _,HRD.out⟩
 ·have t0:decide ((bs.length:Int)>2000)=false:=decide_eq_false (by omega)
  have HRD:=jj (HBL.out _ _ _ F HX.out HF.out (by omega))
  go_enter Try.func33,Try.ntmps33
  go_wp2
  go_ret
  exact ⟨w.heap.size,rfl,zz8 _,(zy2 _ _).alloc (zz8 _) _,HRD.out⟩
def bs (l:List UInt8):ByteArray:=⟨l.toArray⟩
theorem bs_toList (l:List UInt8):(bs l).data.toList=l:=rfl
theorem bs_size (l:List UInt8):(bs l).size=l.length:=rfl
def cutGo (c:UInt8):List UInt8→List UInt8→List (List UInt8)
 |cur,[]=>[cur]
 |cur,x :: xs=>if x=c then cur :: cutGo c [] xs else cutGo c (cur ++ [x]) xs
def cutL (c:UInt8) (l:List UInt8):List (List UInt8):=cutGo c [] l
def findGo (s:List UInt8):Nat→List (List UInt8)→Int
 |_,[] => -2
 |i,x :: xs=>if x=s then (i:Int) else findGo s (i+1) xs
def findL (names:List (List UInt8)) (s:List UInt8):Int:=if s=[73] then -1 else findGo s 0 names
def idxOf (rest:List UInt8):Int:=if rest=[42] then -1 else match rest with
  |[x]=>if 48≤x.toNat∧x.toNat≤57 then (x.toNat:Int)-48 else 0
  |_=>0
def parseTy (names:List (List UInt8)):List UInt8→Ty
 |[]=>⟨-2,0⟩
 |c :: rest=>⟨findL names [c],idxOf rest⟩
def headL (l:List (List UInt8)):List UInt8:=match l with | []=>[] | x :: _=>x
def parseArgs (names:List (List UInt8)) (parts:List (List UInt8)):List Ty :=
 match parts with
 |_ :: p :: _=>if p=[] then [] else ((cutL 44 (p.take (p.length-1))).take 4).map (parseTy names)
 |_=>[]
def parseBody (names:List (List UInt8)) (idx:Int) (s:List UInt8):Kt:=⟨bs (headL (cutL 40 s)),parseArgs names (cutL 40 s),idx⟩
def hasIdx (s:List UInt8):Bool:=decide (2<s.length) && decide (s.getD (s.length-2) 0=58)
def parseKt (names:List (List UInt8)) (s:List UInt8):Kt :=
 if hasIdx s=true then parseBody names (((s.getD (s.length-1) 0).toNat:Int)-48) (s.take (s.length-2)) else parseBody names 0 s
def parseDt (names:List (List UInt8)) (name:List UInt8) (rest:List UInt8):Dt:=⟨bs name,((cutL 124 rest).take 5).map (parseKt names)⟩
def splitGo:List (List UInt8)→Option (List (List UInt8×List UInt8))
 |[]=>some []
 |l :: ls=>match cutL 61 l with
  |[a,b]=>match splitGo ls with
   |some r=>some ((a,b) :: r)
   |none=>none
  |_=>none
def parseGo (text:List UInt8):Option (List Dt) :=
 if text=[] then some [] else
 match splitGo ((cutL 59 text).take 5) with
 |none=>none
 |some r=>some (r.map fun p=>parseDt (r.map Prod.fst) p.1 p.2)
def digT (i:Int):List UInt8:=[UInt8.ofNat (48+i.toNat)]
def idxT (i:Int):List UInt8:=if i=0 then [] else if i = -1 then [42] else digT i
def nameAt (xs:List Dt) (d:Int):List UInt8:=match xs[d.toNat]? with | some x=>x.name.data.toList | none=>[]
def tyT (xs:List Dt) (t:Ty):List UInt8:=if t.d = -1 then [73] else nameAt xs t.d ++ idxT t.i
def argsT (xs:List Dt):Bool→List Ty→List UInt8
 |_,[]=>[]
 |b,a :: l=>(if b=true then 40 else 44) :: (tyT xs a ++ argsT xs false l)
def endT (c:Kt):List UInt8:=if 0<c.idx then 58 :: digT c.idx else []
def closeT (c:Kt):List UInt8:=if 0<c.args.length then [41] else []
def ktT (xs:List Dt) (c:Kt):List UInt8:=c.name.data.toList ++ (argsT xs true c.args ++ (closeT c ++ endT c))
def ktsT (xs:List Dt):Bool→List Kt→List UInt8
 |_,[]=>[]
 |b,c :: l=>(if b=true then [] else [124]) ++ (ktT xs c ++ ktsT xs false l)
def dtsT (xs:List Dt):Bool→List Dt→List UInt8
 |_,[]=>[]
 |b,x :: l=>(if b=true then [] else [59]) ++ (x.name.data.toList ++ (61 :: (ktsT xs true x.ctors ++ dtsT xs false l)))
def textT (xs:List Dt):List UInt8:=dtsT xs true xs
def parseW (text:List UInt8):Option (List Dt):=match parseGo text with
 |none=>none
 |some xs=>if worldOk xs=true then if textT xs=text then some xs else none else none
def fineW (text:List UInt8):Bool:=match parseW text with
 |some (_ :: _)=>true
 |_=>false
theorem fineW_ex {text:List UInt8} (h:fineW text=true):∃ xs,parseW text=some xs∧worldOk xs=true∧0<xs.length:=by
 unfold fineW at h
 split at h
 ·rename_i x l e
  refine ⟨_,e,?_,by simp⟩
  unfold parseW at e
  split at e
  ·cases e
  ·split at e
   ·rename_i hw
    split at e
    ·cases e;exact hw
    ·cases e
   ·cases e
 ·cases h
def sevenT:List (List UInt8):=[
 [76,61,78,105,108,124,67,111,110,115,40,73,44,76,41],
 [66,61,84,114,117,124,70,108,115,59,84,61,76,101,97,102,124,78,111,100,101,40,84,44,66,44,84,41],
 [69,61,78,117,109,40,73,41,58,49,124,66,111,108,40,66,41,58,50,124,65,100,100,40,69,49,44,69,49,41,58,49,124,73,102,40,69,50,44,69,42,44,69,42,41,59,66,61,84,114,117,124,70,108,115],
 [79,61,78,111,110,124,83,111,109,40,73,41,59,80,61,80,97,105,114,40,79,44,79,41],
 [86,61,69,110,100,58,49,124,83,111,109,101,40,73,44,86,49,41,58,50,124,84,119,111,40,86,42,41],
 [78,61,78,101,118,101,114,40,78,41,59,66,61,84,114,117,124,70,108,115,124,77,97,121,40,78,41],
 [83,61,82,101,100,124,71,114,101,101,110,124,66,108,117,101,124,77,105,120,40,83,44,83,41]]
theorem sevenT_fine:sevenT.all fineW=true:=by decide +kernel
def tl (s:ByteArray):List UInt8:=s.data.toList
theorem zAO (s:ByteArray):(tl s).length=s.size:=by unfold tl;simp
theorem tl_extract (s:ByteArray) (a b:Nat):tl (s.extract a b)=((tl s).take b).drop a:=by
 unfold tl
 rw [ByteArray.data_extract,Array.toList_extract,List.extract_eq_take_drop,List.drop_take]
theorem tl_at (s:ByteArray) (i:Nat) (h:i<s.size):(tl s)[i]'(by rw [zAO];exact h)=s[i]:=rfl
theorem bs_tl (s:ByteArray):bs (tl s)=s:=rfl
theorem tl_bs (l:List UInt8):tl (bs l)=l:=rfl
theorem tl_inj {a b:ByteArray} (h:tl a=tl b):a=b:=by rw [←bs_tl a,←bs_tl b,h]
def cutS (c:UInt8) (s:ByteArray):List ByteArray:=(cutL c (tl s)).map bs
theorem info_strE:(Try.prog.info? 9).map (fun i=>(i.zero,i.size,i.bytes))=some (some (.string ⟨#[]⟩),1,16):=by kernel_rfl
def cutRest (c:UInt8) (s:ByteArray) (frm i:Nat):List ByteArray:=if i≤s.size then (cutGo c (((tl s).take i).drop frm) ((tl s).drop i)).map bs else []
theorem cutRest_start (c:UInt8) (s:ByteArray):cutRest c s 0 0=cutS c s:=by
 unfold cutRest cutS cutL
 rw [if_pos (Nat.zero_le _)]
 rfl
theorem cutRest_end (c:UInt8) (s:ByteArray) (frm:Nat):cutRest c s frm s.size=s.extract frm s.size :: cutRest c s (s.size+1) (s.size+1):=by
 unfold cutRest
 have hd:(tl s).drop s.size=[]:=List.drop_of_length_le (by rw [zAO];exact zz8 _)
 rw [if_pos (zz8 _),if_neg (by omega),hd,cutGo,List.map_cons,List.map_nil,←tl_extract,bs_tl]
theorem cutRest_hit (c:UInt8) (s:ByteArray) (frm i:Nat) (hi:i<s.size) (h:s[i]=c):cutRest c s frm i=s.extract frm i :: cutRest c s (i+1) (i+1):=by
 unfold cutRest
 rw [if_pos (by omega),if_pos (by omega),List.drop_eq_getElem_cons (i:=i) (by rw [zAO];exact hi),cutGo,if_pos (by rw [tl_at s i hi];exact h),List.map_cons,←tl_extract,bs_tl]
 congr 3
 rw [List.drop_of_length_le (by simp;omega)]
theorem cutRest_miss (c:UInt8) (s:ByteArray) (frm i:Nat) (hi:i<s.size) (hf:frm≤i) (h:s[i]≠c):cutRest c s frm i=cutRest c s frm (i+1):=by
 unfold cutRest
 rw [if_pos (by omega),if_pos (by omega),List.drop_eq_getElem_cons (i:=i) (by rw [zAO];exact hi),cutGo,if_neg (by rw [tl_at s i hi];exact h)]
 congr 3
 rw [List.take_succ_eq_append_getElem (by rw [zAO];exact hi),List.drop_append_of_le_length (by rw [List.length_take,zAO];omega)]
theorem cutRest_over (c:UInt8) (s:ByteArray) (frm:Nat) {i:Nat} (h:s.size<i):cutRest c s frm i=[]:=if_neg (by omega)
theorem cutRest_len (c:UInt8) (s:ByteArray) (frm i:Nat):(cutRest c s frm i).length≤s.size+1-i:=by
 have key:∀ (l cur:List UInt8),(cutGo c cur l).length≤l.length+1:=by
  intro l
  induction l with
  |nil=>intro cur;simp [cutGo]
  |cons x xs ih =>
   intro cur
   rw [cutGo]
   split
   ·have:=ih [];simp;omega
   ·have:=ih (cur ++ [x]);simp;omega
 unfold cutRest
 split
 ·rw [List.length_map]
  have:=key ((tl s).drop i) (((tl s).take i).drop frm)
  rw [List.length_drop,zAO] at this
  omega
 ·simp
theorem cutS_len (c:UInt8) (s:ByteArray):(cutS c s).length≤s.size+1:=by rw [←cutRest_start];exact cutRest_len c s 0 0
theorem cutS_mem (c:UInt8) (s:ByteArray):∀ x∈cutS c s,x.size≤s.size:=by
 have key:∀ (l cur:List UInt8),∀ x∈cutGo c cur l,x.length≤cur.length+l.length:=by
  intro l
  induction l with
  |nil=>intro cur x hx;rw [cutGo,zy1] at hx;subst hx;simp
  |cons y ys ih =>
   intro cur x hx
   rw [cutGo] at hx
   split at hx
   ·rcases List.mem_cons.1 hx with rfl | hx
    ·omega
    ·have:=ih [] x hx;simp at this ⊢;omega
   ·have:=ih _ x hx;simp at this ⊢;omega
 intro x hx
 unfold cutS at hx
 obtain ⟨l,hl,rfl⟩:=List.mem_map.1 hx
 have:=key _ _ l hl
 rw [zAO] at this
 rw [bs_size]
 simpa using this
def MadeStrs (w:World) (xs:List ByteArray) (e:Ending) (w':World):Prop:=MadeArr StrR w xs e w'
theorem Own.strs {w0 w:World} {B:Nat} {E:TypeId} {xs:List ByteArray} {v:Value} (h:Own w B E 1 StrR xs v []) (hb:Below w0 w0 w) (hB:w0.heap.size≤B):MadeStrs w0 xs (.returned v) w :=
 h.gives hb hB (fun b hb=>by cases hb) (Free.nil _)
theorem ArrStr.at {w0 w:World} {b off n cap:Nat} {F:List Nat} {xs:List ByteArray} (h:Arr w0 (StrR w0) xs (.slice (some ⟨b,off,none⟩) n cap) F) (hF:Under w0 F) (hB:Below w0 w0 w) (i:Nat) (hi:i<xs.length) :
  b<w.heap.size∧w.cell? ⟨b,off+i,none⟩=some (.string xs[i]):=by
 obtain ⟨b',off',cs,G,e,hb,hcs,hv,hG⟩:=h.get (zAW w0) hi
 cases e
 have hbl:=hF _ hb
 have hc:=hcs.same (hB.block _ hbl)
 obtain ⟨rfl,-⟩:=hv
 have:=hc 0 _ rfl
 simp only [Nat.mul_one,Nat.add_zero] at this
 exact ⟨zz9 hbl hB.size,this⟩
theorem ArrStr.mono {w w':World} {vs:List ByteArray} {x:Value} {F:List Nat} (h:Arr w (StrR w) vs x F) (hF:Kept F w w'):Arr w' (StrR w') vs x F:=h.mono hF fun v _ cs G hk h=>StrR_mono _ _ v cs G hk h
theorem ArrStr.below {w w':World} {B:Nat} {vs:List ByteArray} {x:Value} {F:List Nat} (h:Arr w (StrR w) vs x F) (hb:Below B w w') (hF:Under B F):Arr w' (StrR w') vs x F:=ArrStr.mono h (.of_below hb hF)
theorem zAI (s:ByteArray) (c:UInt8) (hs:s.size≤1000000) (w:World) :
  Calls Try.prog 112 #[.string s,.int .u8 (c.toNat:Int)] w (MadeStrs w (cutS c s)):=by
 obtain ⟨i0,hi,hz0,hz1,hz2⟩:=info_parts info_strE
 have HI:=jj hi
 have HZ0:=jj hz0
 have HZ1:=jj hz1
 have HZ2:=jj hz2
 clear hi hz0 hz1 hz2
 have HO0:Hid (Own (w.alloc (.cells #[] 9)) w.heap.size 9 1 StrR ([]:List ByteArray) (.slice (some ⟨w,0,none⟩) 0 0) []):=Own.made w w.heap.size 9 1 StrR #[] 0 (zz8 _) (by simp [maxLen]) rfl
 have hB0:Below w w (w.alloc (.cells #[] 9)):=(zy2 _ _).alloc (zz8 _) _
 go_enter Try.func112,Try.ntmps112
 go_wp2
 go_loopw [5,6,7] (fun ov fv iv wr=>∃ frm i:Nat,∃ outs:List ByteArray,frm≤i∧i≤s.size+1∧iv=.int .i64 i∧fv=.int .i64 frm∧Hid (cutS c s=outs ++ cutRest c s frm i)∧Hid (Own wr w.heap.size 9 1 StrR outs ov [])∧Below w w wr∧outs.length≤i∧True) (fun _ _ iv _=>s.size+1-(intOf iv).toNat)
 case atStart=>exact ⟨0,0,[],zz8 _,Nat.zero_le _,rfl,rfl,(by rw [cutRest_start];rfl),HO0,hB0,zz8 _,trivial⟩
 case round =>
  clear hB0 HO0
  obtain ⟨frm,i,outs,hfi,his,rfl,rfl,HC,HO,hB,hol,-⟩:=hrel
  have g1:(0:Int)≤(i:Int):=by omega
  have g0:(0:Int)≤(frm:Int):=by omega
  by_cases hil:i≤s.size
  ·have hB1:=hB
   have HO1:=HO
   have hbs:=hB.size
   by_cases hie:i=s.size
   ·subst hie
    have q0:((s.size:Int)==(s.size:Int))=true:=by simp
    have HF:Hid (cutS c s=(outs ++ [s.extract frm s.size]) ++ cutRest c s (s.size+1) (s.size+1)):=by
     have:=HC.out
     rw [cutRest_end] at this
     rw [List.append_assoc];exact this
    go_wp2_with (at_builtin;refine Halt.mk ?_)
    refine Halt.of (zA3 (P:=Try.prog) rfl _ _ 115 rfl i0 _ 16 Try.underlying115 HI.out HZ0.out HZ1.out HZ2.out rfl Nat.zero_lt_one zAW StrR_mono (by rfl) HO1.out (s.extract frm s.size) 9 [.string (s.extract frm s.size)] [] _ (by rfl) (by simp) (by simp [Value.oneCell']) ⟨rfl,rfl⟩ (Under.nil _) (fun _ _ h=>by cases h) (by unfold maxLen;omega) (by omega) hbs ?_)
    intro g cp w3 hown3 hgr3 hat3
    have hrow:=HO1.out.row
    have hB3:Below w w w3:=(hB1.alloc hB1.size _).grown hgr3 (by have:=hB1.size;simp;omega) (fun g hg=>by have:=hrow g (zA2.2 hg);omega)
    have HO3:=jj hown3
    clear hown3 hgr3 hat3 hrow
    go_wp2
    go_roundw
    case rel=>exact ⟨s.size+1,s.size+1,outs ++ [s.extract frm s.size],by omega,by omega,by go_num,by go_num,HF,HO3,hB3,(by simp;omega),trivial⟩
    case measure=>(simp [intOf] <;> omega)
   ·have hlt:i<s.size:=by omega
    have q0:((i:Int)==(s.size:Int))=false:=by rw [beq_eq_false_iff_ne];omega
    have g2:(i:Int)<(s.size:Int):=by omega
    cases q1:((s[i].toNat:Int)==(c.toNat:Int)) with
    |true =>
     have hc:s[i]=c:=by rw [beq_iff_eq] at q1;exact UInt8.toNat_inj.1 (by omega)
     have HF:Hid (cutS c s=(outs ++ [s.extract frm i]) ++ cutRest c s (i+1) (i+1)):=by
      have:=HC.out
      rw [cutRest_hit c s frm i hlt hc] at this
      rw [List.append_assoc];exact this
     clear hc
     go_wp2_with (at_builtin;refine Halt.mk ?_)
     refine Halt.of (zA3 (P:=Try.prog) rfl _ _ 115 rfl i0 _ 16 Try.underlying115 HI.out HZ0.out HZ1.out HZ2.out rfl Nat.zero_lt_one zAW StrR_mono (by rfl) HO1.out (s.extract frm i) 9 [.string (s.extract frm i)] [] _ (by rfl) (by simp) (by simp [Value.oneCell']) ⟨rfl,rfl⟩ (Under.nil _) (fun _ _ h=>by cases h) (by unfold maxLen;omega) (by omega) hbs ?_)
     intro g cp w3 hown3 hgr3 hat3
     have hrow:=HO1.out.row
     have hB3:Below w w w3:=(hB1.alloc hB1.size _).grown hgr3 (by have:=hB1.size;simp;omega) (fun g hg=>by have:=hrow g (zA2.2 hg);omega)
     have HO3:=jj hown3
     clear hown3 hgr3 hat3 hrow
     go_wp2
     go_roundw
     case rel=>exact ⟨i+1,i+1,outs ++ [s.extract frm i],by omega,by omega,by go_num,by go_num,HF,HO3,hB3,(by simp;omega),trivial⟩
     case measure=>(simp [intOf] <;> omega)
    |false =>
     have hc:s[i]≠c:=fun e=>by rw [e] at q1;simp at q1
     have HF:Hid (cutS c s=outs ++ cutRest c s frm (i+1)):=by
      have:=HC.out
      rw [cutRest_miss c s frm i hlt hfi hc] at this
      exact this
     clear hc
     go_wp2
     go_roundw
     case rel=>exact ⟨frm,i+1,outs,by omega,by omega,by go_num,rfl,HF,HO,hB,by omega,trivial⟩
     case measure=>(simp [intOf] <;> omega)
  ·have hfin:MadeStrs w (cutS c s) (.returned u5) wr:=by
    have h:=HC.out
    rw [cutRest_over c s frm (by omega),List.append_nil] at h
    rw [h]
    exact HO.out.strs hB (zz8 _)
   have HFin:=jj hfin
   clear hfin
   go_wp2
   go_ret
   exact HFin.out
theorem num_any (ls:List Int) (hl1:1≤ls.length) (hl2:ls.length≤1000) (p g:Nat) (w:World) (h:Rd w g p) (hp:p≤1000000) (v:Value) (F:List Nat) (hx:Arr w (NatR w) ls v F) (hf:Under w F) (hg:g∉F) :
  Calls Try.prog 35 #[.pointer (some ⟨g,0,none⟩),v] w fun e w'=>∃ x,x∈ls∧e=.returned (.int .i64 x)∧Rd w' g (p+1)∧Chg [g] w w':=by
 obtain ⟨A,cap,rfl,hc1,hc2⟩:=hx.form
 obtain ⟨b,off,rfl⟩:=hx.ptr (by omega)
 have HX:=jj hx
 have HF:=jj hf
 have HG:=jj hg
 have HCALL:=jj (zAH ls.length p g w h hp hl1 (by omega))
 clear hx hf hg h
 go_enter Try.func35,Try.ntmps35
 go_wp2_with fail
 refine HCALL.out.mono ?_
 rintro e w' ⟨r,rfl,hr,hR,hC⟩
 obtain ⟨hb,c0⟩:=ArrNat.at HX.out HF.out (zy2 _ _) r hr
 have hbF:b∉[g]:=by
  obtain ⟨b',off',cs',G',e',hb',-⟩:=HX.out.get (NatR_len w) hr
  cases e'
  exact fun h=>HG.out (by rw [←List.mem_singleton.1 h];exact hb')
 have c1:w'.cell? ⟨b,off+r,none⟩=some (.int .i64 ls[r]):=(hC.cell hb hbF).trans c0
 have g1:(0:Int)≤(r:Int):=by omega
 have g2:(r:Int)<(ls.length:Int):=by omega
 have HR:=jj hR
 have HC:=jj hC
 have HM:=jj (List.getElem_mem hr)
 clear hR hC c0 HCALL
 go_wp2
 go_ret
 exact ⟨ls[r],HM.out,rfl,HR.out,HC.out⟩
theorem lit_nums (w:World) (ls:List Int) (hl:ls.length≤1000):Arr (w.alloc (.cells (ls.map (Value.int .i64)).toArray 3)) (NatR (w.alloc (.cells (ls.map (Value.int .i64)).toArray 3))) ls (.slice (some ⟨w,0,none⟩) ls.length ls.length) [w.heap.size]:=by
 refine ⟨_,_,rfl,zz8 _,by unfold maxLen;omega,.inr ⟨w.heap.size,0,ls.map (Value.int .i64),[],rfl,fun j u hj=>?_,?_,rfl⟩⟩
 ·rw [Nat.zero_add]
  refine ((Blk.new w 3 (ls.map (Value.int .i64)).toArray).cell j).trans ?_
  simpa using hj
 ·clear hl
  induction ls with
  |nil=>exact ⟨rfl,rfl⟩
  |cons x xs ih=>exact ⟨[.int .i64 x],xs.map (Value.int .i64),[],[],rfl,rfl,⟨rfl,rfl⟩,ih⟩
theorem num_lit (ls:List Int) (hl1:1≤ls.length) (hl2:ls.length≤1000) (p g:Nat) (w:World) (h:Rd w g p) (hp:p≤1000000) :
  Calls Try.prog 35 #[.pointer (some ⟨g,0,none⟩),.slice (some ⟨w,0,none⟩) ls.length ls.length] (w.alloc (.cells (ls.map (Value.int .i64)).toArray 3)) fun e w'=>∃ x,x∈ls∧e=.returned (.int .i64 x)∧Rd w' g (p+1)∧Chg [g] w w':=by
 have hb:Below w w (w.alloc (.cells (ls.map (Value.int .i64)).toArray 3)):=(zy2 _ _).alloc (zz8 _) _
 have hlt:=h.lt
 refine (num_any ls hl1 hl2 p g _ (h.below hb) hp _ _ (lit_nums w ls hl2) (fun b hb=>by rw [List.mem_singleton.1 hb];simp) (fun e=>by rw [zy1] at e;omega)).mono ?_
 rintro e w' ⟨x,hx,rfl,hR,hC⟩
 exact ⟨x,hx,rfl,hR,(Chg.of_below hb).trans hC⟩
theorem Chg.set_new {F:List Nat} {w w2:World} {b j:Nat} {u:Value} (h:Chg F w w2) (hb:w.heap.size≤b):Chg F w (w2.setCell ⟨b,j,none⟩ u) :=
 ⟨h.os,h.tape,h.output,Nat.le_trans h.size (by simp [World.setCell]),fun c hc hF=>(zz7 _ _ _ _ (by show c≠b;omega)).trans (h.block c hc hF)⟩
def DrewTy (g p n:Nat) (w:World) (e:Ending) (w':World):Prop:=∃ (t:Ty) (q:Nat),e=.returned (.agg #[t.d,t.i])∧Rd w' g q∧q≤p+n∧Chg [g] w w'
theorem Chg.frozen {F:List Nat} {w w':World} (h:Chg F w w') {p:Addr} (hp:p.block<w.heap.size) (hn:p.block∉F):w'.frozen? p=w.frozen? p:=World.frozen?_of_block (w:=w) (h.block p.block hp hn)
theorem Rd.keep {w w':World} {g p:Nat} (h:Rd w g p) (hk:∀ b,b≤g→w'.heap[b]?=w.heap[b]?):Rd w' g p:=by
 obtain ⟨A,cap,bs,F,h1,h2,h3,h5⟩:=h
 exact ⟨A,cap,bs,F,h1.same (hk g (zz8 _)),ArrBy.mono h2 (fun b hb=>hk b (Nat.le_of_lt (h3 b hb))),h3,h5⟩
theorem Own.chg {α:Type} {R:World→α→List Value→List Nat→Prop} {w w':World} {B k:Nat} {E:TypeId} {xs:List α} {v:Value} {F L:List Nat} (hRm:∀ w w' x cs G,Kept G w w'→R w x cs G→R w' x cs G) (h:Own w B E k R xs v F) (hc:Chg L w w') (hL:∀ b∈L,b<B) (hF:∀ b∈F,B≤b):Own w' B E k R xs v F :=
 h.mono (fun x cs G hk h=>hRm _ _ x cs G hk h) (hc.kept (fun b hb=>by
  rcases List.mem_append.1 hb with h1 | h1
  ·exact (h.row b h1).2
  ·exact h.under b h1) (fun b hb hl=>by
  have h2:=hL b hl
  rcases List.mem_append.1 hb with h1 | h1
  ·have:=(h.row b h1).1;omega
  ·have:=hF b h1;omega)) hc.size
section
variable {α : Type} {w w9 wr wA w7 : World} {D Bz H k g : Nat} {T E : TypeId} {cells : Array Value} {R : World → α → List Value → List Nat → Prop} {xs ys : List α} {v v' : Value} {F G : List Nat} {o : Obj}
theorem kid_round3 (j:Nat) (hRm:∀ w w' x cs G,Kept G w w'→R w x cs G→R w' x cs G) (hw9:w9.heap.size=Bz) (hDB:D<Bz) (hgw:g<w.heap.size) (hwD:w.heap.size≤D) (KD:Blk wr D T cells) (HO:Own wr Bz E k R xs v F) (HFh:∀ b∈F,Bz≤b) (HC:Chg [D,g] w9 wr) (hB:Chg [g] w wr)
  (hBu:Chg [g] wr wA) (hfsA:∀ b∈G,wr.heap.size≤b∧b<wA.heap.size) (hown:Own w7 Bz E k R ys v' (F ++ G)) (hgr:(wA.alloc o).grownBy w7 v.ownBlock) {p:Nat} (hR:Rd wA g p) :
  Blk (w7.setCell ⟨D,j,none⟩ v') D T (cells.setIfInBounds j v')∧Own (w7.setCell ⟨D,j,none⟩ v') Bz E k R ys v' (F ++ G)∧(∀ b∈F ++ G,Bz≤b)∧Chg [D,g] w9 (w7.setCell ⟨D,j,none⟩ v')∧Chg [g] w (w7.setCell ⟨D,j,none⟩ v')∧w9.heap.size≤(w7.setCell ⟨D,j,none⟩ v').heap.size∧Rd (w7.setCell ⟨D,j,none⟩ v') g p:=by
 have hlt:=KD.lt
 have hA:=hBu.size
 have hz:=HC.size
 rw [hw9] at hz
 have hws:=hB.size
 have hFG:∀ b∈F ++ G,Bz≤b:=fun b hb=>by
  rcases List.mem_append.1 hb with h | h
  ·exact HFh b h
  ·have:=(hfsA b h).1;omega
 have hBA7:Below Bz wA w7:=((zy2 Bz wA).alloc (by omega) o).grown hgr (by rw [World.size_alloc];omega) (fun g hg=>(HO.row g (zA2.2 hg)).1)
 have hC7:Chg [D,g] w9 w7:=chg_under (HC.trans (hBu.mono (by simp))) (by rw [hw9];exact hBA7)
 have hC8:Chg [D,g] w9 (w7.setCell ⟨D,j,none⟩ v'):=hC7.set (by simp)
 have hne:∀ b∈F ++ G,b≠D:=fun b hb e=>by have:=hFG b hb;omega
 have hD7:w7.heap[D]?=wr.heap[D]?:=(hBA7.block D (by omega)).trans (hBu.block D hlt (by rw [zy1];omega))
 refine ⟨(KD.same hD7).set_ j v',Own.set (j:=j) hRm hown v' (fun h=>by have:=(hown.row _ h).1;omega) (fun h=>hne _ h rfl),hFG,hC8,?_,hC8.size,hR.keep fun b hb=>?_⟩
 ·exact (chg_under (hB.trans hBu) (hBA7.mono (by omega))).set_new hwD
 ·exact (zz7 w7 ⟨D,j,none⟩ v' b (by show b≠D;omega)).trans (hBA7.block b (by omega))
theorem kid_done3 (HO:Own wr D E k R xs v F) (HFh:∀ b∈F,D≤b) (hHD:H≤D):∃ FF,Arr wr (R wr) xs v FF∧∀ b∈FF,H≤b∧b<wr.heap.size :=
 ⟨_,HO.arr,fun b hb=>by
  split at hb
  ·cases hb
  ·rcases List.mem_append.1 hb with h | h
   ·have:=HO.row b h;omega
   ·have:=HFh b h;have:=HO.under b h;omega⟩
end
def findS (names:List ByteArray) (s:ByteArray):Int:=findL (names.map tl) (tl s)
def findR (names:List ByteArray) (s:ByteArray) (k:Nat):Int:=findGo (tl s) k ((names.drop k).map tl)
theorem findR_hit {names:List ByteArray} {s:ByteArray} {k:Nat} (hk:k<names.length) (h:tl names[k]=tl s):findR names s k=(k:Int):=by
 unfold findR
 rw [List.drop_eq_getElem_cons hk,List.map_cons,findGo,if_pos h]
theorem findR_miss {names:List ByteArray} {s:ByteArray} {k:Nat} (hk:k<names.length) (h:¬tl names[k]=tl s):findR names s k=findR names s (k+1):=by
 unfold findR
 rw [List.drop_eq_getElem_cons hk,List.map_cons,findGo,if_neg h]
theorem findR_end {names:List ByteArray} {s:ByteArray} {k:Nat} (hk:names.length≤k):findR names s k = -2:=by
 unfold findR
 rw [List.drop_of_length_le hk];rfl
theorem zAA (s:ByteArray):s.toList=tl s:=ByteArray.toList_eq s
theorem Blk.pair {w:World} {H:Nat} {T:TypeId} {a b:Value} (h:Blk w H T #[a,b]) (x y:Value) (o:Obj):Blk (((w.setCell ⟨H,0,none⟩ x).setCell ⟨H,1,none⟩ y).alloc o) H T #[x,y]:=by
 have h2:Blk ((w.setCell ⟨H,0,none⟩ x).setCell ⟨H,1,none⟩ y) H T #[x,y]:=(h.set_ 0 x).set_ 1 y
 exact h2.same (Below.heap_alloc _ _ _ h2.lt)
theorem below_pair {w w2:World} {B H:Nat} (h:Below B w w2) (hw:B≤w.heap.size) (hH:B≤H) (x y:Value) (o:Obj):Below B w (((w2.setCell ⟨H,0,none⟩ x).setCell ⟨H,1,none⟩ y).alloc o):=by
 have h2:Below B w ((w2.setCell ⟨H,0,none⟩ x).setCell ⟨H,1,none⟩ y):=(h.setCell hH _).setCell hH _
 exact h2.alloc (by have:=h.size;simp [World.setCell];omega) _
theorem ret_ty {t:Ty} {a b:Int} (h:t=⟨a,b⟩):Ending.returned (.agg #[.int .i64 a,.int .i64 b])=.returned (.agg #[t.d,t.i]):=by rw [h]
def pty (names:List ByteArray) (s:ByteArray):Ty:=parseTy (names.map tl) (tl s)
theorem pty_cons (names:List ByteArray) (s:ByteArray) (h:1≤s.size):pty names s=⟨findS names (s.extract 0 1),idxOf (tl (s.extract 1 s.size))⟩:=by
 have e1:tl (s.extract 0 1)=[s[0]]:=by
  rw [tl_extract,List.drop_zero]
  have:(tl s).take 1=[(tl s)[0]'(by rw [zAO];omega)]:=by
   rw [List.take_one]
   rw [List.head?_eq_getElem?,List.getElem?_eq_getElem (by rw [zAO];omega)];rfl
  exact this
 have e2:tl s=s[0] :: tl (s.extract 1 s.size):=by
  rw [tl_extract,List.take_of_length_le (by rw [zAO];exact zz8 _)]
  exact bytes_cons s (by omega)
 unfold pty
 rw [e2,parseTy]
 unfold findS
 rw [e1]
theorem idxOf_star {l:List UInt8} (h:l=[42]):idxOf l = -1:=if_pos h
theorem idxOf_not {s:ByteArray} (h:¬tl (s.extract 1 s.size)=[42]) (h2:s.size≠2):idxOf (tl (s.extract 1 s.size))=0:=by
 unfold idxOf
 rw [if_neg h]
 split
 ·rename_i x e
  have:=zAO (s.extract 1 s.size)
  rw [e,ByteArray.size_extract] at this
  simp at this
  omega
 ·rfl
theorem idxOf_two {s:ByteArray} (h:¬tl (s.extract 1 s.size)=[42]) (h2:s.size=2) (p2:1<s.size):idxOf (tl (s.extract 1 s.size))=if 48≤s[1].toNat∧s[1].toNat≤57 then (s[1].toNat:Int)-48 else 0:=by
 have e:tl (s.extract 1 s.size)=[s[1]]:=by
  rw [tl_extract,List.take_of_length_le (by rw [zAO];exact zz8 _),List.drop_eq_getElem_cons (by rw [zAO];omega),List.drop_of_length_le (by rw [zAO];omega)]
  rfl
 rw [e] at h ⊢
 unfold idxOf
 rw [if_neg h]
theorem spec_l1Find (names:List ByteArray) (s:ByteArray) (w:World) (v:Value) (F:List Nat) (hx:Arr w (StrR w) names v F) (hf:Under w F) :
  Calls Try.prog 127 #[v,.string s] w fun e w'=>e=.returned (.int .i64 (findS names s))∧Below w w w':=by
 obtain ⟨A,cap,rfl,hc1,hc2⟩:=hx.form
 have HX:=jj hx
 have HF:=jj hf
 clear hx hf
 cases q0:(s.toList==[73]) with
 |true =>
  have hf:Hid (findS names s = -1):=by
   rw [beq_iff_eq,zAA] at q0
   unfold Hid findS findL;rw [if_pos q0]
  go_enter Try.func127,Try.ntmps127
  go_wp2
  go_ret
  exact ⟨zAP hf.out.symm,zy2 _ _⟩
 |false =>
  have hf:Hid (findS names s=findR names s 0):=by
   rw [beq_eq_false_iff_ne,zAA] at q0
   unfold Hid findS findL;rw [if_neg q0];rfl
  go_enter Try.func127,Try.ntmps127
  go_wp2
  go_loopw [5] (fun iv wr=>∃ k:Nat,k≤names.length∧iv=.int .i64 k∧Hid (findS names s=findR names s k)∧Below w w wr) (fun iv _=>names.length-(intOf iv).toNat)
  case atStart=>exact ⟨0,Nat.zero_le _,rfl,hf,zy2 _ _⟩
  case round =>
   obtain ⟨k,hk,rfl,HT,hB⟩:=hrel
   by_cases hlt:k<names.length
   ·have g1:(0:Int)≤(k:Int):=by omega
    have g2:(k:Int)<(names.length:Int):=by omega
    obtain ⟨b,off,rfl⟩:=HX.out.ptr (by omega)
    obtain ⟨hb,c0⟩:=ArrStr.at HX.out HF.out hB k hlt
    cases q1:(names[k].toList==s.toList) with
    |true =>
     have hf:Hid (findS names s=(k:Int)):=by
      rw [beq_iff_eq,zAA,zAA] at q1
      exact HT.out.trans (findR_hit hlt q1)
     go_wp2
     go_ret
     exact ⟨zAP hf.out.symm,hB⟩
    |false =>
     have hf:Hid (findS names s=findR names s (k+1)):=by
      rw [beq_eq_false_iff_ne,zAA,zAA] at q1
      exact HT.out.trans (findR_miss hlt q1)
     go_wp2
     go_roundw
     case rel=>exact ⟨k+1,by omega,by go_num,hf,hB⟩
     case measure=>(simp [intOf] <;> omega)
   ·have hf:Hid (findS names s = -2):=HT.out.trans (findR_end (by omega))
    go_wp2
    go_ret
    exact ⟨zAP hf.out.symm,hB⟩
theorem spec_l1ParseType (names:List ByteArray) (s:ByteArray) (w:World) (v:Value) (F:List Nat) (hx:Arr w (StrR w) names v F) (hf:Under w F) (hs:s.size≤1000000) :
  Calls Try.prog 125 #[v,.string s] w fun e w'=>e=.returned (.agg #[.int .i64 ((pty names s).d),.int .i64 ((pty names s).i)])∧Below w w w':=by
 obtain ⟨A,cap,rfl,hc1,hc2⟩:=hx.form
 have HX:=jj hx
 have HF:=jj hf
 clear hx hf
 by_cases h0:s.size=0
 ·have q0:(s.toList==[])=true:=by
   rw [beq_iff_eq,zAA];exact List.eq_nil_of_length_eq_zero (by rw [zAO];exact h0)
  have hf:Hid (pty names s=⟨-2,0⟩):=by
   rw [beq_iff_eq,zAA] at q0
   unfold Hid pty;rw [q0];rfl
  go_enter Try.func125,Try.ntmps125
  go_wp2
  refine bodyPost_ret (zA1 rfl _ _ w.heap.size 25 #[.int .i64 (-2),(0:Int)] (0,0) _ rfl (Blk.new w _ _) Try.underlying25 rfl rfl) rfl ?_
  exact ⟨ret_ty hf.out,(zy2 _ _).alloc (zz8 _) _⟩
 ·have q0:(s.toList==[])=false:=by
   rw [beq_eq_false_iff_ne,zAA];intro e;have:=zAO s;rw [e] at this;simp at this;omega
  have g1:(1:Int)≤(s.size:Int):=by omega
  have p1:1≤s.size:=by omega
  go_enter Try.func125,Try.ntmps125
  go_wp2_with fail
  obtain ⟨W1,hW1⟩:∃ W1,W1=w.alloc (.cells #[(0:Int),(0:Int)] 25):=⟨_,rfl⟩
  have hB1:Below w w W1:=by rw [hW1];exact (zy2 _ _).alloc (zz8 _) _
  have K1:Hid (Blk W1 w 25 #[(0:Int),(0:Int)]):=by rw [hW1];exact Blk.new w _ _
  rw [←hW1]
  clear hW1
  refine (spec_l1Find names (s.extract 0 1) W1 _ F (ArrStr.below HX.out hB1 HF.out) (HF.out.mono hB1.size)).mono ?_
  rintro e w2 ⟨rfl,hb2⟩
  have hB2:=hB1.trans (hb2.mono hB1.size)
  have K2:=jj (K1.out.same (hb2.block _ K1.out.lt))
  clear hb2 hB1 K1
  have k0:w2.cell? ⟨w,0,none⟩=some (.int .i64 0):=(K2.out.cell 0).trans (by simp)
  have k1:w2.cell? ⟨w,1,none⟩=some (.int .i64 0):=(K2.out.cell 1).trans (by simp)
  have f0:=K2.out.frozen 0
  have f1:=K2.out.frozen 1
  have klt:=K2.out.lt
  generalize hdd:findS names (s.extract 0 1)=dd
  have HDD:=jj hdd
  clear hdd
  have HP:=jj (pty_cons names s p1)
  cases q1:((s.extract 1 s.size).toList==[42]) with
  |true =>
   have hf:Hid (pty names s=⟨dd,-1⟩):=by
    rw [beq_iff_eq,zAA] at q1
    unfold Hid;rw [HP.out,HDD.out,idxOf_star q1]
   go_wp2
   refine bodyPost_ret (zA1 rfl _ _ w.heap.size 25 #[.int .i64 dd,.int .i64 (-1)] (0,0) _ rfl (K2.out.pair _ _ _) Try.underlying25 rfl rfl) rfl ?_
   exact ⟨ret_ty hf.out,below_pair hB2 (zz8 _) (zz8 _) _ _ _⟩
  |false =>
   have HN:Hid (¬tl (s.extract 1 s.size)=[42]):=by
    rw [beq_eq_false_iff_ne,zAA] at q1
    exact q1
   by_cases h2:s.size=2
   ·have q2:((s.size:Int)==2)=true:=by simp;omega
    have p2:1<s.size:=by omega
    have p3:(1:Int)<(s.size:Int):=by omega
    have HI:=jj (idxOf_two HN.out h2 p2)
    clear h2
    by_cases ha:48≤s[1].toNat
    ·have q3:decide ((s[1].toNat:Int)≥48)=true:=decide_eq_true (by omega)
     by_cases hz:s[1].toNat≤57
     ·have q4:decide ((s[1].toNat:Int)≤57)=true:=decide_eq_true (by omega)
      have hf:Hid (pty names s=⟨dd,(s[1].toNat:Int)-48⟩):=by unfold Hid;rw [HP.out,HDD.out,HI.out,if_pos ⟨ha,hz⟩]
      have b1:48≤(s[1].toNat:Int):=by omega
      have b2:(s[1].toNat:Int)≤57:=by omega
      go_wp2
      refine bodyPost_ret (zA1 rfl _ _ w.heap.size 25 #[.int .i64 dd,.int .i64 ((s[1].toNat:Int)-48)] (0,0) _ rfl (K2.out.pair _ _ _) Try.underlying25 rfl rfl) rfl ?_
      exact ⟨ret_ty hf.out,below_pair hB2 (zz8 _) (zz8 _) _ _ _⟩
     ·have q4:decide ((s[1].toNat:Int)≤57)=false:=decide_eq_false (by omega)
      have hf:Hid (pty names s=⟨dd,0⟩):=by unfold Hid;rw [HP.out,HDD.out,HI.out,if_neg (fun h=>hz h.2)]
      go_wp2
      refine bodyPost_ret (zA1 rfl _ _ w.heap.size 25 #[.int .i64 dd,.int .i64 (0)] (0,0) _ rfl (K2.out.pair _ _ _) Try.underlying25 rfl rfl) rfl ?_
      exact ⟨ret_ty hf.out,below_pair hB2 (zz8 _) (zz8 _) _ _ _⟩
    ·have q3:decide ((s[1].toNat:Int)≥48)=false:=decide_eq_false (by omega)
     have hf:Hid (pty names s=⟨dd,0⟩):=by unfold Hid;rw [HP.out,HDD.out,HI.out,if_neg (fun h=>ha h.1)]
     go_wp2
     refine bodyPost_ret (zA1 rfl _ _ w.heap.size 25 #[.int .i64 dd,.int .i64 (0)] (0,0) _ rfl (K2.out.pair _ _ _) Try.underlying25 rfl rfl) rfl ?_
     exact ⟨ret_ty hf.out,below_pair hB2 (zz8 _) (zz8 _) _ _ _⟩
   ·have q2:((s.size:Int)==2)=false:=by rw [beq_eq_false_iff_ne];omega
    have hf:Hid (pty names s=⟨dd,0⟩):=by unfold Hid;rw [HP.out,HDD.out,idxOf_not HN.out h2]
    go_wp2
    refine bodyPost_ret (zA1 rfl _ _ w.heap.size 25 #[.int .i64 dd,.int .i64 (0)] (0,0) _ rfl (K2.out.pair _ _ _) Try.underlying25 rfl rfl) rfl ?_
    exact ⟨ret_ty hf.out,below_pair hB2 (zz8 _) (zz8 _) _ _ _⟩
def pkt (names:List ByteArray) (s:ByteArray):Kt:=parseKt (names.map tl) (tl s)
def pbody (names:List ByteArray) (idx:Int) (s:ByteArray):Kt:=parseBody (names.map tl) idx (tl s)
theorem cutL_pos (c:UInt8) (l:List UInt8):0<(cutL c l).length:=by
 have key:∀ (l cur:List UInt8),0<(cutGo c cur l).length:=by
  intro l
  induction l with
  |nil=>intro cur;simp [cutGo]
  |cons x xs ih=>intro cur;rw [cutGo];split <;> simp [ih]
 exact key l []
theorem cutS_pos (c:UInt8) (s:ByteArray):0<(cutS c s).length:=by unfold cutS;rw [List.length_map];exact cutL_pos c _
theorem pbody_short {names:List ByteArray} {idx:Int} {s:ByteArray} (h:(cutS 40 s).length<2):pbody names idx s=⟨(cutS 40 s)[0]'(cutS_pos 40 s),[],idx⟩:=by
 have hp:=cutL_pos 40 (tl s)
 unfold pbody parseBody
 have key:∀ (L:List (List UInt8)) (hp:0<L.length),(L.map bs).length<2→(⟨bs (headL L),parseArgs (names.map tl) L,idx⟩:Kt)=⟨(L.map bs)[0]'(by simpa using hp),[],idx⟩:=by
  intro L hp hl
  match L,hp,hl with
  |[x],_,_=>rfl
  |_ :: _ :: _,_,hl=>simp at hl;omega
 exact key _ hp h
theorem pbody_empty {names:List ByteArray} {idx:Int} {s:ByteArray} (h:1<(cutS 40 s).length) (h0:(cutS 40 s)[1].size=0):pbody names idx s=⟨(cutS 40 s)[0]'(cutS_pos 40 s),[],idx⟩:=by
 have hp:=cutL_pos 40 (tl s)
 unfold pbody parseBody
 have key:∀ (L:List (List UInt8)) (hp:0<L.length) (h:1<(L.map bs).length),(L.map bs)[1].size=0→(⟨bs (headL L),parseArgs (names.map tl) L,idx⟩:Kt)=⟨(L.map bs)[0]'(by simpa using hp),[],idx⟩:=by
  intro L hp h hz
  match L,hp,h,hz with
  |x :: p :: l,_,_,hz =>
   have hpe:p=[]:=List.eq_nil_of_length_eq_zero hz
   subst hpe
   rfl
  |[_],_,h,_=>simp at h
 exact key _ hp h h0
theorem pbody_args {names:List ByteArray} {idx:Int} {s:ByteArray} (h:1<(cutS 40 s).length) (h0:(cutS 40 s)[1].size≠0):pbody names idx s=⟨(cutS 40 s)[0]'(cutS_pos 40 s),((cutS 44 ((cutS 40 s)[1].extract 0 ((cutS 40 s)[1].size-1))).take 4).map (pty names),idx⟩:=by
 have hp:=cutL_pos 40 (tl s)
 unfold pbody parseBody
 have key:∀ (L:List (List UInt8)) (hp:0<L.length) (h:1<(L.map bs).length),(L.map bs)[1].size≠0→(⟨bs (headL L),parseArgs (names.map tl) L,idx⟩:Kt)=⟨(L.map bs)[0]'(by simpa using hp),((cutS 44 ((L.map bs)[1].extract 0 ((L.map bs)[1].size-1))).take 4).map (pty names),idx⟩:=by
  intro L hp h hz
  match L,hp,h,hz with
  |x :: p :: l,_,_,hz =>
   have hpe:¬p=[]:=fun e=>hz (by subst e;rfl)
   have e1:tl ((bs p).extract 0 ((bs p).size-1))=p.take (p.length-1):=by rw [tl_extract,tl_bs,List.drop_zero];rfl
   have e2:parseArgs (names.map tl) (x :: p :: l)=((cutL 44 (p.take (p.length-1))).take 4).map (parseTy (names.map tl)):=by
    show (if p=[] then [] else _)=_
    rw [if_neg hpe]
   have e3:((cutS 44 ((bs p).extract 0 ((bs p).size-1))).take 4).map (pty names)=((cutL 44 (p.take (p.length-1))).take 4).map (parseTy (names.map tl)):=by
    unfold cutS
    rw [e1,←List.map_take,List.map_map]
    rfl
   rw [e2,←e3]
   rfl
  |[_],_,h,_=>simp at h
 exact key _ hp h h0
theorem hasIdx_no {s:ByteArray} (h:¬2<s.size):hasIdx (tl s)=false:=by unfold hasIdx;rw [zAO,decide_eq_false h];rfl
theorem hasIdx_at {s:ByteArray} (h:2<s.size):hasIdx (tl s)=(s[s.size-2]==58):=by
 unfold hasIdx
 rw [zAO,decide_eq_true h,Bool.true_and,Bool.eq_iff_iff]
 have:(tl s).getD (s.size-2) 0=s[s.size-2]:=by
  rw [List.getD_eq_getElem?_getD,List.getElem?_eq_getElem (by rw [zAO];omega)];rfl
 rw [this]
 simp
theorem pkt_no {names:List ByteArray} {s:ByteArray} (h:hasIdx (tl s)=false):pkt names s=pbody names 0 s:=by unfold pkt parseKt;rw [if_neg (by simp [h])];rfl
theorem pkt_yes {names:List ByteArray} {s:ByteArray} (h:hasIdx (tl s)=true) (h2:2<s.size):pkt names s=pbody names ((s[s.size-1].toNat:Int)-48) (s.extract 0 (s.size-2)):=by
 have h3:(tl s).getD ((tl s).length-1) 0=s[s.size-1]:=by
  rw [List.getD_eq_getElem?_getD,zAO,List.getElem?_eq_getElem (by rw [zAO];omega)];rfl
 unfold pkt parseKt pbody
 rw [if_pos h,h3,tl_extract,List.drop_zero,zAO]
theorem pbody_short' {names:List ByteArray} {idx:Int} {s:ByteArray} {parts:List ByteArray} (e:cutS 40 s=parts) (hp:0<parts.length) (h:parts.length<2):pbody names idx s=⟨parts[0],[],idx⟩:=by subst e;exact pbody_short h
theorem pbody_empty' {names:List ByteArray} {idx:Int} {s:ByteArray} {parts:List ByteArray} (e:cutS 40 s=parts) (h:1<parts.length) (h0:parts[1].size=0):pbody names idx s=⟨parts[0],[],idx⟩:=by subst e;exact pbody_empty h h0
theorem pbody_args' {names:List ByteArray} {idx:Int} {s:ByteArray} {parts:List ByteArray} (e:cutS 40 s=parts) (h:1<parts.length) (h0:parts[1].size≠0):pbody names idx s=⟨parts[0],((cutS 44 (parts[1].extract 0 (parts[1].size-1))).take 4).map (pty names),idx⟩:=by subst e;exact pbody_args h h0
theorem map_take_snoc {α β:Type} (f:α→β) (l:List α) (j:Nat) (h:j<l.length):(l.take (j+1)).map f=(l.take j).map f ++ [f l[j]]:=by rw [take_snoc' l j h,List.map_append];rfl
def ptysTo (names ags:List ByteArray) (i:Nat):List Ty:=(ags.take i).map (pty names)
theorem ptysTo_succ (names ags:List ByteArray) (i:Nat) (h:i<ags.length):ptysTo names ags (i+1)=ptysTo names ags i ++ [pty names ags[i]]:=map_take_snoc _ _ _ h
theorem ptysTo_len (names ags:List ByteArray) (i:Nat):(ptysTo names ags i).length≤i:=by unfold ptysTo;rw [List.length_map,List.length_take];omega
def GivesKt (w:World) (c:Kt) (e:Ending) (w':World):Prop:=∃ cs F,e=.returned (.agg cs.toArray)∧Below w w w'∧KtR w' c cs F∧Free w' F∧Fresh w w' F
theorem Blk.triple {w:World} {H:Nat} {T:TypeId} {a b c:Value} (h:Blk w H T #[a,b,c]) (x y z:Value):Blk (((w.setCell ⟨H,0,none⟩ x).setCell ⟨H,1,none⟩ y).setCell ⟨H,2,none⟩ z) H T #[x,y,z]:=((h.set_ 0 x).set_ 1 y).set_ 2 z
theorem below_triple {w w2:World} {B H:Nat} (h:Below B w w2) (hH:B≤H) (x y z:Value):Below B w (((w2.setCell ⟨H,0,none⟩ x).setCell ⟨H,1,none⟩ y).setCell ⟨H,2,none⟩ z):=((h.setCell hH _).setCell hH _).setCell hH _
theorem GivesKt.done {w W:World} {H B:Nat} {c:Kt} {E:TypeId} {nm:ByteArray} {idx:Int} {kv:Value} {xs:List Ty} (hc:c=⟨nm,xs,idx⟩) (hB:Below w w W) (hH:w.heap.size=H) (hlt:H<W.heap.size) (ho:Own W B E 2 TyR xs kv []) (hB1:H<B) (hn:nm.size≤9223372036854775807) (x y z:Value) :
  GivesKt w c (.returned (.agg #[.string nm,kv,.int .i64 idx])) (((W.setCell ⟨H,0,none⟩ x).setCell ⟨H,1,none⟩ y).setCell ⟨H,2,none⟩ z):=by
 subst hc hH
 have hr:w.heap.size∉rowOf kv:=fun h=>by have:=(ho.row _ h).1;omega
 have h0:=Own.set (j:=0) TyR_mono' ho x hr (fun h=>by cases h)
 have h1:=Own.set (j:=1) TyR_mono' h0 y hr (fun h=>by cases h)
 have h2:=Own.set (j:=2) TyR_mono' h1 z hr (fun h=>by cases h)
 exact ⟨[.string nm,kv,.int .i64 idx],_,rfl,below_triple hB (zz8 _) _ _ _,⟨kv,rfl,h2.arr,hn⟩,h2.free (Free.nil _),h2.fresh (Nat.le_of_lt hB1) (fun b hb=>by cases hb)⟩
theorem Chg.under {F:List Nat} {a b c:World} (h:Chg F a b) (k:Below a b c):Chg F a c :=
 ⟨k.os.trans h.os,k.tape.trans h.tape,k.output.trans h.output,Nat.le_trans h.size k.size,fun i hi hF=>(k.block i hi).trans (h.block i hi hF)⟩
theorem spec_l1ParseCtor (names:List ByteArray) (s:ByteArray) (w:World) (v:Value) (F:List Nat) (hx:Arr w (StrR w) names v F) (hf:Under w F) (hs:s.size≤1000000) :
  Calls Try.prog 113 #[v,.string s] w (GivesKt w (pkt names s)):=by
 obtain ⟨A,cap,rfl,hc1,hc2⟩:=hx.form
 have HX:=jj hx
 have HF:=jj hf
 clear hx hf
 obtain ⟨i0,hi,hz0,hz1,hz2⟩:=info_parts info_tyE
 have HI:=jj hi
 have HZ0:=jj hz0
 have HZ1:=jj hz1
 have HZ2:=jj hz2
 clear hi hz0 hz1 hz2
 by_cases h2:2<s.size
 focus
  obtain ⟨k2,hk2⟩:∃ k,s.size=k+2:=⟨s.size-2,by omega⟩
  have t0:decide ((s.size:Int)>2)=true:=decide_eq_true (by omega)
  have g0:(0:Int)≤(k2:Int):=by omega
  have g1:(k2:Int)<(s.size:Int):=by omega
  have g2:k2<s.size:=by omega
  have g3:k2+1<s.size:=by omega
  have hi1:=hasIdx_at h2
  have e2:s[s.size-2]=s[k2]:=by congr 1;omega
  have e1:s[s.size-1]=s[k2+1]:=by congr 1;omega
  have hx2:(s.size:Int)-2=(k2:Int):=by omega
  have hx1:(s.size:Int)-1=((k2+1:Nat):Int):=by omega
  cases q0:((s[k2].toNat:Int)==58)
  focus
   have hno:hasIdx (tl s)=false:=by
    rw [hi1,e2]
    rw [beq_eq_false_iff_ne] at q0 ⊢
    intro e
    exact q0 (by rw [e];rfl)
   have HP:Hid (pkt names s=pbody names 0 s):=pkt_no hno
   have hsz2:=hs
   clear hi1 e1 e2 hno h2 hk2
   go_enter Try.func113,Try.ntmps113
   go_wp2_with fail
   have hB0:Below w w ((w.alloc (.cells #[.string ⟨#[]⟩,.slice none 0 0,(0:Int)] 118)).alloc (.cells #[.string ⟨#[]⟩,.slice none 0 0,.int .i64 (0)] 118)):=((zy2 _ _).alloc (zz8 _) _).alloc (by simp) _
   have KH:Hid (Blk ((w.alloc (.cells #[.string ⟨#[]⟩,.slice none 0 0,(0:Int)] 118)).alloc (.cells #[.string ⟨#[]⟩,.slice none 0 0,.int .i64 (0)] 118)) w.heap.size 118 #[.string ⟨#[]⟩,.slice none 0 0,(0:Int)]):=(Blk.new w _ _).same (Below.heap_alloc _ _ _ (by simp))
   have KC:Hid (Blk ((w.alloc (.cells #[.string ⟨#[]⟩,.slice none 0 0,(0:Int)] 118)).alloc (.cells #[.string ⟨#[]⟩,.slice none 0 0,.int .i64 (0)] 118)) (w.heap.size+1) 118 #[.string ⟨#[]⟩,.slice none 0 0,.int .i64 (0)]):=by
    have h:=Blk.new (w.alloc (.cells #[.string ⟨#[]⟩,.slice none 0 0,(0:Int)] 118)) 118 #[.string ⟨#[]⟩,.slice none 0 0,.int .i64 (0)]
    rw [World.size_alloc] at h;exact h
   have hsz0:=KC.out.lt
   obtain ⟨W0,hW0⟩:∃ W0,W0=((w.alloc (.cells #[.string ⟨#[]⟩,.slice none 0 0,(0:Int)] 118)).alloc (.cells #[.string ⟨#[]⟩,.slice none 0 0,.int .i64 (0)] 118)):=⟨_,rfl⟩
   rw [←hW0] at hB0 KH KC hsz0 ⊢
   clear hW0
   refine (zAI (s) 40 hsz2 W0).mono ?_
   rintro e w3 ⟨v3,F3,rfl,hb3,ha3,hfr3,hfs3⟩
   obtain ⟨ss,hss⟩:∃ ss,ss=s:=⟨_,rfl⟩
   obtain ⟨ix,hix⟩:∃ ix:Int,ix=0:=⟨_,rfl⟩
  rotate_left
  focus
   have hyes:hasIdx (tl s)=true:=by
    rw [hi1,e2]
    rw [beq_iff_eq] at q0 ⊢
    exact UInt8.toNat_inj.1 (by show s[k2].toNat=58;omega)
   have HP:Hid (pkt names s=pbody names ((s[k2+1].toNat:Int)-48) (s.extract 0 k2)):=by
    unfold Hid
    rw [pkt_yes hyes h2,e1,show s.size-2=k2 by omega]
   have hw0:0≤(s[k2+1].toNat:Int)∧(s[k2+1].toNat:Int)≤255:=⟨by omega,by have:=s[k2+1].toNat_lt;omega⟩
   have hw1:IntKind.i64.wrap (s[k2+1].toNat:Int)=(s[k2+1].toNat:Int):=IntWalk.i64_in _ (by omega)
   have hw2:IntKind.i64.wrap ((s[k2+1].toNat:Int)-48)=(s[k2+1].toNat:Int)-48:=IntWalk.i64_in _ (by omega)
   have hsz2:(s.extract 0 k2).size≤1000000:=by rw [ByteArray.size_extract];omega
   clear hi1 e1 e2 hyes h2 hk2
   go_enter Try.func113,Try.ntmps113
   go_wp2_with fail
   have hB0:Below w w ((w.alloc (.cells #[.string ⟨#[]⟩,.slice none 0 0,(0:Int)] 118)).alloc (.cells #[.string ⟨#[]⟩,.slice none 0 0,.int .i64 ((s[k2+1].toNat:Int)-48)] 118)):=((zy2 _ _).alloc (zz8 _) _).alloc (by simp) _
   have KH:Hid (Blk ((w.alloc (.cells #[.string ⟨#[]⟩,.slice none 0 0,(0:Int)] 118)).alloc (.cells #[.string ⟨#[]⟩,.slice none 0 0,.int .i64 ((s[k2+1].toNat:Int)-48)] 118)) w.heap.size 118 #[.string ⟨#[]⟩,.slice none 0 0,(0:Int)]):=(Blk.new w _ _).same (Below.heap_alloc _ _ _ (by simp))
   have KC:Hid (Blk ((w.alloc (.cells #[.string ⟨#[]⟩,.slice none 0 0,(0:Int)] 118)).alloc (.cells #[.string ⟨#[]⟩,.slice none 0 0,.int .i64 ((s[k2+1].toNat:Int)-48)] 118)) (w.heap.size+1) 118 #[.string ⟨#[]⟩,.slice none 0 0,.int .i64 ((s[k2+1].toNat:Int)-48)]):=by
    have h:=Blk.new (w.alloc (.cells #[.string ⟨#[]⟩,.slice none 0 0,(0:Int)] 118)) 118 #[.string ⟨#[]⟩,.slice none 0 0,.int .i64 ((s[k2+1].toNat:Int)-48)]
    rw [World.size_alloc] at h;exact h
   have hsz0:=KC.out.lt
   obtain ⟨W0,hW0⟩:∃ W0,W0=((w.alloc (.cells #[.string ⟨#[]⟩,.slice none 0 0,(0:Int)] 118)).alloc (.cells #[.string ⟨#[]⟩,.slice none 0 0,.int .i64 ((s[k2+1].toNat:Int)-48)] 118)):=⟨_,rfl⟩
   rw [←hW0] at hB0 KH KC hsz0 ⊢
   clear hW0
   refine (zAI (s.extract 0 k2) 40 hsz2 W0).mono ?_
   rintro e w3 ⟨v3,F3,rfl,hb3,ha3,hfr3,hfs3⟩
   obtain ⟨ss,hss⟩:∃ ss,ss=s.extract 0 k2:=⟨_,rfl⟩
   obtain ⟨ix,hix⟩:∃ ix:Int,ix=(s[k2+1].toNat:Int)-48:=⟨_,rfl⟩
  rotate_left
 rotate_left 2
 focus
  have t0:decide ((s.size:Int)>2)=false:=decide_eq_false (by omega)
  have HP:Hid (pkt names s=pbody names 0 s):=pkt_no (hasIdx_no h2)
  clear h2
  go_enter Try.func113,Try.ntmps113
  go_wp2_with fail
  have hsz2:=hs
  have hB0:Below w w ((w.alloc (.cells #[.string ⟨#[]⟩,.slice none 0 0,(0:Int)] 118)).alloc (.cells #[.string ⟨#[]⟩,.slice none 0 0,.int .i64 (0)] 118)):=((zy2 _ _).alloc (zz8 _) _).alloc (by simp) _
  have KH:Hid (Blk ((w.alloc (.cells #[.string ⟨#[]⟩,.slice none 0 0,(0:Int)] 118)).alloc (.cells #[.string ⟨#[]⟩,.slice none 0 0,.int .i64 (0)] 118)) w.heap.size 118 #[.string ⟨#[]⟩,.slice none 0 0,(0:Int)]):=(Blk.new w _ _).same (Below.heap_alloc _ _ _ (by simp))
  have KC:Hid (Blk ((w.alloc (.cells #[.string ⟨#[]⟩,.slice none 0 0,(0:Int)] 118)).alloc (.cells #[.string ⟨#[]⟩,.slice none 0 0,.int .i64 (0)] 118)) (w.heap.size+1) 118 #[.string ⟨#[]⟩,.slice none 0 0,.int .i64 (0)]):=by
   have h:=Blk.new (w.alloc (.cells #[.string ⟨#[]⟩,.slice none 0 0,(0:Int)] 118)) 118 #[.string ⟨#[]⟩,.slice none 0 0,.int .i64 (0)]
   rw [World.size_alloc] at h;exact h
  have hsz0:=KC.out.lt
  obtain ⟨W0,hW0⟩:∃ W0,W0=((w.alloc (.cells #[.string ⟨#[]⟩,.slice none 0 0,(0:Int)] 118)).alloc (.cells #[.string ⟨#[]⟩,.slice none 0 0,.int .i64 (0)] 118)):=⟨_,rfl⟩
  rw [←hW0] at hB0 KH KC hsz0 ⊢
  clear hW0
  refine (zAI (s) 40 hsz2 W0).mono ?_
  rintro e w3 ⟨v3,F3,rfl,hb3,ha3,hfr3,hfs3⟩
  obtain ⟨ss,hss⟩:∃ ss,ss=s:=⟨_,rfl⟩
  obtain ⟨ix,hix⟩:∃ ix:Int,ix=0:=⟨_,rfl⟩
 rotate_left
 all_goals (
  have HP:Hid (pkt names s=pbody names ix ss):=by rw [hss,hix];exact HP
  rw [←hss] at hsz2 ha3
  rw [←hix] at KC
  clear hss hix
  have hB3:=hB0.trans (hb3.mono hB0.size)
  have KH3:=jj (KH.out.same (hb3.block _ KH.out.lt))
  have KC3:=jj (KC.out.same (hb3.block _ KC.out.lt))
  have hpos:=cutS_pos 40 ss
  have hpl:=cutS_len 40 ss
  have hpm:=cutS_mem 40 ss
  obtain ⟨parts,hparts⟩:∃ l,cutS 40 ss=l:=⟨_,rfl⟩
  rw [hparts] at ha3 hpos hpl hpm
  have HPR:=jj hparts
  clear hparts
  obtain ⟨A3,cap3,rfl,hc3,hc4⟩:=ha3.form
  obtain ⟨b3,off3,rfl⟩:=ha3.ptr hpos
  have HA3:=jj ha3
  have HU3:=jj hfs3.under
  have HN3:Hid (∀ b∈F3,w.heap.size+2≤b):=fun b hb=>by have:=(hfs3 b hb).1;omega
  obtain ⟨hb3l,p0⟩:=ArrStr.at HA3.out HU3.out (zy2 _ _) 0 hpos
  rw [Nat.add_zero] at p0
  have hsz3:w.heap.size+2≤w3.heap.size:=by have:=hb3.size;omega
  have x0:w3.cell? ⟨w.heap.size+1,0,none⟩=some (.string ⟨#[]⟩):=(KC3.out.cell 0).trans (by simp)
  have x1:w3.cell? ⟨w.heap.size+1,1,none⟩=some (.slice none 0 0):=(KC3.out.cell 1).trans (by simp)
  have x2:w3.cell? ⟨w.heap.size+1,2,none⟩=some (.int .i64 (ix)):=(KC3.out.cell 2).trans (by simp)
  have y0:w3.cell? ⟨w,0,none⟩=some (.string ⟨#[]⟩):=(KH3.out.cell 0).trans (by simp)
  have y1:w3.cell? ⟨w,1,none⟩=some (.slice none 0 0):=(KH3.out.cell 1).trans (by simp)
  have y2:w3.cell? ⟨w,2,none⟩=some (.int .i64 0):=(KH3.out.cell 2).trans (by simp)
  have yf0:=KH3.out.frozen 0
  have yf1:=KH3.out.frozen 1
  have yf2:=KH3.out.frozen 2
  have xf:=KC3.out.frozen 0
  clear hb3 ha3 hfr3 hfs3 KH KC hB0 hsz0
  have hnm:parts[0].size≤1000000:=Nat.le_trans (hpm _ (List.getElem_mem hpos)) hsz2
  have HPM:=jj hpm
  clear hpm
  have hg1:(0:Int)<(parts.length:Int):=by omega
  have hb3n:b3≠w.heap.size+1:=by
   obtain ⟨b',off',cs',G',e',hb',-⟩:=HA3.out.get (zAW w3) hpos
   cases e'
   have:=HN3.out _ hb'
   omega
  have KH4:Hid (Blk (w3.setCell ⟨w.heap.size+1,0,none⟩ (.string parts[0])) w.heap.size 118 #[.string ⟨#[]⟩,.slice none 0 0,(0:Int)]):=KH3.out.same (zz7 _ _ _ _ (by show w.heap.size≠w.heap.size+1;omega))
  have KC4:Hid (Blk (w3.setCell ⟨w.heap.size+1,0,none⟩ (.string parts[0])) (w.heap.size+1) 118 #[.string parts[0],.slice none 0 0,.int .i64 (ix)]):=KC3.out.set_ 0 _
  have hB4:Below w w (w3.setCell ⟨w.heap.size+1,0,none⟩ (.string parts[0])):=hB3.setCell (by show w.heap.size≤w.heap.size+1;omega) _
  have hc4:Chg [w.heap.size+1] w3 (w3.setCell ⟨w.heap.size+1,0,none⟩ (.string parts[0])):=(Chg.refl _ _).set (by simp)
  have HA4:Hid (Arr (w3.setCell ⟨w.heap.size+1,0,none⟩ (.string parts[0])) (StrR (w3.setCell ⟨w.heap.size+1,0,none⟩ (.string parts[0]))) parts (.slice (some ⟨b3,off3,none⟩) parts.length cap3) F3):=ArrStr.mono HA3.out (hc4.kept HU3.out (fun b hb=>by have:=HN3.out b hb;simp;omega))
  have HU4:Hid (Under (w3.setCell ⟨w.heap.size+1,0,none⟩ (.string parts[0])).heap.size F3):=HU3.out.mono hc4.size
  have hsz4:w.heap.size+2≤(w3.setCell ⟨w.heap.size+1,0,none⟩ (.string parts[0])).heap.size:=Nat.le_trans hsz3 hc4.size
  by_cases h1:1<parts.length
  ·have t5:decide ((parts.length:Int)<2)=false:=decide_eq_false (by omega)
   obtain ⟨-,p1⟩:=ArrStr.at HA3.out HU3.out (zy2 _ _) 1 h1
   have hg2:(1:Int)<(parts.length:Int):=by omega
   have hpm1:parts[1].size≤1000000:=Nat.le_trans (HPM.out _ (List.getElem_mem h1)) hsz2
   by_cases hz:parts[1].size=0
   ·have t6:((parts[1].size:Int)==0)=true:=beq_iff_eq.2 (by omega)
    have hf:=jj (HP.out.trans (pbody_empty' HPR.out h1 hz))
    clear hz
    go_wp2
    refine bodyPost_ret (zA1 rfl _ _ w.heap.size 118 #[.string parts[0],.slice none 0 0,.int .i64 (ix)] (0,0) _ rfl (KH4.out.triple _ _ _) Try.underlying118 rfl rfl) rfl ?_
    exact GivesKt.done (B:=w.heap.size+1) (E:=25) hf.out hB4 rfl KH4.out.lt (Own.nil _ _ _ _ _) (Nat.lt_succ_self _) (by omega) _ _ _
   ·have t6:((parts[1].size:Int)==0)=false:=by rw [beq_eq_false_iff_ne];omega
    have hf:=jj (HP.out.trans (pbody_args' HPR.out h1 hz))
    obtain ⟨q,hq⟩:∃ q,parts[1].size=q+1:=⟨parts[1].size-1,by omega⟩
    have hxq:(parts[1].size:Int)-1=(q:Int):=by omega
    have hwq:IntKind.i64.wrap (q:Int)=(q:Int):=IntWalk.i64_in _ (by omega)
    have hq0:(0:Int)≤(q:Int):=by omega
    have hq1:(q:Int)≤(parts[1].size:Int):=by omega
    have hq2:q≤parts[1].size:=by omega
    have hq3:parts[1].size-1=q:=by omega
    rw [hq3] at hf
    have hsz5:(parts[1].extract 0 q).size≤1000000:=by rw [ByteArray.size_extract];omega
    clear hz hq hq3
    go_wp2_with fail
    obtain ⟨W4,hW4⟩:∃ W4,W4=(w3.setCell ⟨w.heap.size+1,0,none⟩ (.string parts[0])):=⟨_,rfl⟩
    have p14:W4.cell? ⟨b3,off3+1,none⟩=some (.string parts[1]):=by rw [hW4,World.cell?_setCell_far _ _ _ _ (by show w.heap.size+1≠b3;omega)];exact p1
    have hb34:b3<W4.heap.size:=by rw [hW4];simpa [World.setCell] using hb3l
    rw [←hW4] at KH4 KC4 hB4 hc4 HA4 HU4 hsz4 ⊢
    clear hW4 p0 p1 x0 x1 x2 y0 y1 y2 yf0 yf1 yf2 xf hb3l KH3 KC3 HA3 HU3
    have HCUT:Hid (Calls Try.prog 112 #[.string (parts[1].extract 0 q),.int .u8 44] W4.drew (MadeStrs W4.drew (cutS 44 (parts[1].extract 0 q)))):=zAI (parts[1].extract 0 q) 44 hsz5 W4.drew
    have hkeep:Kp W4.heap.size (fun U=>U.cell? ⟨b3,off3+1,none⟩=some (.string parts[1])):=fun U U' h hUU hU=>(hUU.cell (zz9 (hb34) hU)).trans h
    have HKeep:=jj hkeep
    clear hkeep
    go_region_held3 (fun w'=>w'.cell? ⟨b3,off3+1,none⟩=some (.string parts[1])) (first | assumption | (exact p14) | (exact HKeep.out W4.drew w5 p14 hb5 (zz8 _))) (first | (go_at_call 112;((with_reducible refine HCUT.out.mono ?_);rintro e w5 ⟨v5,F5,rfl,hb5,ha5,hfr5,hfs5⟩)))
    have hB5:=hB4.drew.trans (hb5.mono hB4.size)
    have KH5:=jj (KH4.out.same (hb5.block _ KH4.out.lt))
    have KC5:=jj (KC4.out.same (hb5.block _ KC4.out.lt))
    have hag:=cutS_len 44 (parts[1].extract 0 q)
    have hagm:=jj (cutS_mem 44 (parts[1].extract 0 q))
    have hFr5:Hid (∀ b∈F5,w.heap.size+2≤b):=fun b hb=>Nat.le_trans hsz4 (hfs5 b hb).1
    have HU5:=jj hfs5.under
    have hsz6:w.heap.size+2≤w5.heap.size:=Nat.le_trans hsz4 hb5.size
    obtain ⟨ags,hags⟩:∃ l,cutS 44 (parts[1].extract 0 q)=l:=⟨_,rfl⟩
    rw [hags] at ha5 hag hagm hf
    clear hags
    obtain ⟨A5,cap5,rfl,hc5,hc6⟩:=ha5.form
    have HA5:=jj ha5
    clear HKeep hb5 ha5 hfr5 hfs5 KH4 KC4 hB4 p14 hb34 hc4 HA4 HU4
    go_wp2
    go_loopw [8] (fun iv wr=>∃ i:Nat,∃ kv:Value,i≤ags.length∧i≤4∧iv=.int .i64 i∧Hid (Blk wr (w.heap.size+1) 118 #[.string parts[0],kv,.int .i64 (ix)])∧Hid (Blk wr w 118 #[.string ⟨#[]⟩,.slice none 0 0,(0:Int)])∧Hid (Own wr w5.heap.size 25 2 TyR (ptysTo names ags i) kv [])∧Hid (Chg [w.heap.size+1] w5 wr)∧Below w w wr∧w5.heap.size≤wr.heap.size) (fun iv _=>4-(intOf iv).toNat)
    case atStart=>exact ⟨0,_,Nat.zero_le _,by omega,rfl,KC5,KH5,(show Own _ _ _ _ _ (ptysTo names ags 0) _ _ from Own.nil _ _ _ _ _),Chg.refl _ _,hB5,zz8 _⟩
    case round =>
     clear hB5 KH5 KC5
     obtain ⟨i,kv,hil,hi4,rfl,KC,KH,HO,HC,hB,hwz⟩:=hrel
     have z0:wr.cell? ⟨w.heap.size+1,0,none⟩=some (.string parts[0]):=(KC.out.cell 0).trans (by simp)
     have z1:wr.cell? ⟨w.heap.size+1,1,none⟩=some kv:=(KC.out.cell 1).trans (by simp)
     have z2:wr.cell? ⟨w.heap.size+1,2,none⟩=some (.int .i64 (ix)):=(KC.out.cell 2).trans (by simp)
     have zf1:=KC.out.frozen 1
     by_cases hlt:i<ags.length∧i≤3
     ·obtain ⟨hl1,hl2⟩:=hlt
      have u1:decide ((i:Int)<(ags.length:Int))=true:=decide_eq_true (by omega)
      have u2:decide ((i:Int)≤3)=true:=decide_eq_true (by omega)
      have g5:(0:Int)≤(i:Int):=by omega
      have g6:(i:Int)<(ags.length:Int):=by omega
      obtain ⟨b5,off5,rfl⟩:=HA5.out.ptr (by omega)
      have HAr:Hid (Arr wr (StrR wr) ags (.slice (some ⟨b5,off5,none⟩) ags.length cap5) F5):=ArrStr.mono HA5.out (HC.out.kept HU5.out (fun b hb=>by have:=hFr5.out b hb;simp;omega))
      obtain ⟨hb5l,c0⟩:=ArrStr.at HAr.out (HU5.out.mono hwz) (zy2 _ _) i hl1
      have hb5w:b5<w5.heap.size:=by
       obtain ⟨b',off',cs',G',e',hb',-⟩:=HA5.out.get (zAW w5) hl1
       cases e'
       exact HU5.out _ hb'
      have hb5n:w.heap.size+1≠b5:=by
       obtain ⟨b',off',cs',G',e',hb',-⟩:=HAr.out.get (zAW wr) hl1
       cases e'
       have:=hFr5.out _ hb'
       omega
      have hm5:ags[i].size≤1000000:=Nat.le_trans (hagm.out _ (List.getElem_mem hl1)) hsz5
      have HF2:=jj (ptysTo_succ names ags i hl1)
      have hkl:(ptysTo names ags i).length≤3:=Nat.le_trans (ptysTo_len names ags i) (by omega)
      have hkz:=KC.out.lt
      have HCALL:=jj (spec_l1ParseType names ags[i] wr.drew _ F (ArrStr.below HX.out hB.drew HF.out) (HF.out.mono hB.drew.size) hm5)
      obtain ⟨kA,kcap,hkv,-,-⟩:=HO.out.form
      subst hkv
      go_wp2_with fail
      generalize hpty:pty names ags[i]=py at HCALL HF2
      clear hpty
      have hmx:(ptysTo names ags i).length+1≤maxLen:=by unfold maxLen;omega
      have hby:((ptysTo names ags i).length+1)*16≤140737488355328:=by omega
      refine zA9 (S:=fun w'=>w'.cell? ⟨b5,off5+i,none⟩=some (.string ags[i])) (T:=fun w'=>w'.cell? ⟨w.heap.size+1,1,none⟩=some (.slice kA (ptysTo names ags i).length kcap)) (d:=9) (by kernel_rfl) ?_
      have hS1:wr.drew.cell? ⟨b5,off5+i,none⟩=some (.string ags[i]):=c0
      have hT1:wr.drew.cell? ⟨w.heap.size+1,1,none⟩=some (.slice kA (ptysTo names ags i).length kcap):=z1
      refine wV 0 rfl hS1 hT1 ?_
      (try simp only [Act.put,zz4,zz5,zz6])
      refine zB5 (i:=1) (v:=?_) rfl (by decide) rfl (by kernel_rfl) (by kernel_rfl) (by kernel_rfl) (by kernel_rfl) (fun _ _ _ h=>h) (Or.inl ⟨by rfl,?hy1⟩) (by rfl) hS1 hT1 ?_
      case hy1=>(intro W hSw;(try dsimp only at hSw);go_simp;try with_reducible rfl)
      (try simp only [Act.put,zz4,zz5,zz6])
      refine wV 2 rfl hS1 hT1 ?_
      (try simp only [Act.put,zz4,zz5,zz6])
      refine wV 3 rfl hS1 hT1 ?_
      (try simp only [Act.put,zz4,zz5,zz6])
      refine wV 4 rfl hS1 hT1 ?_
      (try simp only [Act.put,zz4,zz5,zz6])
      refine wV 5 rfl hS1 hT1 ?_
      (try simp only [Act.put,zz4,zz5,zz6])
      refine wV 6 rfl hS1 hT1 ?_
      (try simp only [Act.put,zz4,zz5,zz6])
      refine w1 7 rfl fun K hK=>?_
      go_simp
      go_at_call 125
      with_reducible refine HCALL.out.mono ?_
      rintro e w6 ⟨rfl,hB6⟩
      have hS6:w6.cell? ⟨b5,off5+i,none⟩=some (.string ags[i]):=(hB6.cell hb5l).trans c0
      have z61:w6.cell? ⟨w.heap.size+1,1,none⟩=some (.slice kA (ptysTo names ags i).length kcap):=(hB6.cell hkz).trans z1
      have zf61:w6.frozen? ⟨w.heap.size+1,1,none⟩=false:=(hB6.frozen hkz).trans zf1
      have hkz6:w.heap.size+1<w6.heap.size:=zz9 hkz hB6.size
      have HO6:Hid (Own w6 w5.heap.size 25 2 TyR (ptysTo names ags i) (.slice kA (ptysTo names ags i).length kcap) []):=Own.below (fun x cs G hk h=>TyR_mono' _ _ x cs G hk h) (w:=wr) HO.out (zAU hB6)
      dsimp only
      refine hK.out _ _ hS6 (fun _=>z61) ?_
      clear hK K
      (try simp only [Act.put,zz4,zz5,zz6])
      refine w1 8 rfl fun K hK=>?_
      go_simp
      refine hK.out _ _ ((World.cell?_alloc_lt _ _ _ (zz9 hb5l hB6.size)).trans hS6) (fun _=>(World.cell?_alloc_lt _ _ _ hkz6).trans z61) ?_
      clear hK K
      (try simp only [Act.put,zz4,zz5,zz6])
      refine w1 9 rfl fun K hK=>?_
      refine step_push1 (P:=Try.prog) rfl _ _ 116 rfl i0 _ 16 Try.underlying116 HI.out HZ0.out HZ1.out HZ2.out rfl (by decide) TyR_len' TyR_mono' (by rfl) HO6.out ⟨py.d,py.i⟩ 25 [py.d,py.i] [] _ (by rfl) rfl (by simp [Value.oneCell']) ⟨rfl,rfl⟩ (Under.nil _) (fun _ _ h=>by cases h) hmx hby (Nat.le_trans hwz hB6.size) ?_
      intro g cp w7 hown7 hgr7 hat7
      have hrow7:=HO6.out.row
      have n7:∀ x,x<w5.heap.size→some x≠(Value.slice kA (ptysTo names ags i).length kcap).ownBlock:=fun x hx e=>Nat.lt_irrefl _ (zz9 hx (hrow7 x (zA2.2 e.symm)).1)
      have l7:w6.heap.size≤(w6.alloc (.cells #[py.d,py.i] 25)).heap.size:=by rw [World.size_alloc];exact Nat.le_succ _
      have s7:w7.cell? ⟨b5,off5+i,none⟩=some (.string ags[i]):=(World.grownBy.cell_far hgr7 ⟨b5,off5+i,none⟩ (zz9 (zz9 hb5l hB6.size) l7) (n7 _ hb5w)).trans ((World.cell?_alloc_lt _ _ _ (zz9 hb5l hB6.size)).trans hS6)
      have z71:w7.cell? ⟨w.heap.size+1,1,none⟩=some (.slice kA (ptysTo names ags i).length kcap):=(World.grownBy.cell_far hgr7 ⟨w.heap.size+1,1,none⟩ (zz9 hkz6 l7) (n7 _ hsz6)).trans ((World.cell?_alloc_lt _ _ _ hkz6).trans z61)
      have zf71:w7.frozen? ⟨w.heap.size+1,1,none⟩=false:=(World.grownBy.frozen_far hgr7 ⟨w.heap.size+1,1,none⟩ (zz9 hkz6 l7) (n7 _ hsz6)).trans (Eq.trans (World.frozen?_of_block (Below.heap_alloc _ _ _ hkz6)) zf61)
      refine hK.out _ _ s7 (fun _=>z71) ?_
      clear hK K
      (try simp only [Act.put,zz4,zz5,zz6])
      refine wV 10 rfl s7 z71 ?_
      (try simp only [Act.put,zz4,zz5,zz6])
      refine w1 11 rfl fun K hK=>?_
      go_simp
      refine hK.out _ _ ((World.cell?_setCell_far _ _ _ _ (by show w.heap.size+1≠b5;omega)).trans s7) (fun h=>by cases h) ?_
      clear hK K
      (try simp only [Act.put,zz4,zz5,zz6])
      refine wE (by kernel_rfl) ?_
      all_goals (
       have hx6:wr.heap.size≤w6.heap.size:=hB6.size
       have hB67:Below w5 w6 w7:=((zy2 w5.heap.size w6).alloc (by omega) _).grown hgr7 (by simp;omega) (fun g hg=>(hrow7 g (zA2.2 hg)).1)
       have hC6:Chg [w.heap.size+1] w5 w6:=HC.out.drew.step hB6
       have hC7:Chg [w.heap.size+1] w5 w7:=hC6.under hB67
       have KC6:Blk w6 (w.heap.size+1) 118 _:=KC.out.same (hB6.block _ hkz)
       have KC7:=KC6.same (hB67.block _ hsz6)
       have KH6:Blk w6 w 118 _:=KH.out.same (hB6.block _ KH.out.lt)
       have KH7:=KH6.same (hB67.block _ (by omega))
       have KC8:=jj (KC7.set_ 1 (.slice (some ⟨g,0,none⟩) ((ptysTo names ags i).length+1) cp))
       have KH8:=jj (KH7.same (zz7 w7 ⟨w.heap.size+1,1,none⟩ (.slice (some ⟨g,0,none⟩) ((ptysTo names ags i).length+1) cp) w.heap.size (by show w.heap.size≠w.heap.size+1;omega)))
       have HO8:=jj (Own.set (j:=1) (b:=w.heap.size+1) TyR_mono' hown7 (.slice (some ⟨g,0,none⟩) ((ptysTo names ags i).length+1) cp) (fun h=>by have:=(hown7.row _ h).1;omega) (fun h=>by cases h))
       have HC8:=jj (hC7.set (j:=1) (b:=w.heap.size+1) (u:=.slice (some ⟨g,0,none⟩) ((ptysTo names ags i).length+1) cp) (by simp))
       have hB8:Below w w w7:=(hB.drew.trans (hB6.mono hB.drew.size)).trans (hB67.mono (by omega))
       have hB9:Below w w (w7.setCell ⟨w.heap.size+1,1,none⟩ (.slice (some ⟨g,0,none⟩) ((ptysTo names ags i).length+1) cp)):=hB8.setCell (by show w.heap.size≤w.heap.size+1;omega) _
       have hwz8:w5.heap.size≤(w7.setCell ⟨w.heap.size+1,1,none⟩ (.slice (some ⟨g,0,none⟩) ((ptysTo names ags i).length+1) cp)).heap.size:=HC8.out.size
       clear hS1 hT1 hS6 s7 hx6 hB67 hC6 hC7 KC6 KC7 KH6 KH7 hB8 hown7 hgr7 hat7 hrow7 n7 l7 z61 zf61 z0 z1 z2 zf1 z71 zf71
       go_wp2
       go_roundw
       case rel=>exact ⟨i+1,_,by omega,by omega,by go_num,KC8,KH8,by rw [HF2.out];exact HO8.out,HC8,hB9,hwz8⟩
       case measure=>(simp [intOf] <;> omega))
     ·obtain ⟨kA,kcap,hkv,-,-⟩:=HO.out.form
      subst hkv
      have hfin:pkt names s=⟨parts[0],(ags.take 4).map (pty names),ix⟩:=hf.out
      have htk:(ags.take i)=ags.take 4:=by
       rcases Nat.lt_or_ge i 4 with h | h
       ·rw [List.take_of_length_le (by omega),List.take_of_length_le (by omega)]
       ·congr 1;omega
      have hfin2:Hid (pkt names s=⟨parts[0],ptysTo names ags i,ix⟩):=by unfold ptysTo;rw [htk];exact hfin
      clear hfin htk
      have y0:wr.cell? ⟨w,0,none⟩=some (.string ⟨#[]⟩):=(KH.out.cell 0).trans (by simp)
      have y1:wr.cell? ⟨w,1,none⟩=some (.slice none 0 0):=(KH.out.cell 1).trans (by simp)
      have y2:wr.cell? ⟨w,2,none⟩=some (.int .i64 0):=(KH.out.cell 2).trans (by simp)
      have yf0:=KH.out.frozen 0
      have yf1:=KH.out.frozen 1
      have yf2:=KH.out.frozen 2
      by_cases hl:i<ags.length
      ·have u1:decide ((i:Int)<(ags.length:Int))=true:=decide_eq_true (by omega)
       have u2:decide ((i:Int)≤3)=false:=decide_eq_false (by omega)
       clear hlt
       go_wp2
       refine bodyPost_ret (zA1 rfl _ _ w.heap.size 118 #[.string parts[0],.slice kA (ptysTo names ags i).length kcap,.int .i64 (ix)] (0,0) _ rfl (KH.out.triple _ _ _) Try.underlying118 rfl rfl) rfl ?_
       exact GivesKt.done (B:=w5.heap.size) (E:=25) hfin2.out hB rfl KH.out.lt HO.out (by omega) (by omega) _ _ _
      ·have u1:decide ((i:Int)<(ags.length:Int))=false:=decide_eq_false (by omega)
       clear hlt
       go_wp2
       refine bodyPost_ret (zA1 rfl _ _ w.heap.size 118 #[.string parts[0],.slice kA (ptysTo names ags i).length kcap,.int .i64 (ix)] (0,0) _ rfl (KH.out.triple _ _ _) Try.underlying118 rfl rfl) rfl ?_
       exact GivesKt.done (B:=w5.heap.size) (E:=25) hfin2.out hB rfl KH.out.lt HO.out (by omega) (by omega) _ _ _
  ·have t5:decide ((parts.length:Int)<2)=true:=decide_eq_true (by omega)
   have hf:=jj (HP.out.trans (pbody_short' HPR.out hpos (by omega)))
   clear h1
   go_wp2
   refine bodyPost_ret (zA1 rfl _ _ w.heap.size 118 #[.string parts[0],.slice none 0 0,.int .i64 (ix)] (0,0) _ rfl (KH4.out.triple _ _ _) Try.underlying118 rfl rfl) rfl ?_
   exact GivesKt.done (B:=w.heap.size+1) (E:=25) hf.out hB4 rfl KH4.out.lt (Own.nil _ _ _ _ _) (Nat.lt_succ_self _) (by omega) _ _ _)
theorem conv1 (w:World) (x:Int):(convert 22 9 (.slice (some ⟨w,0,none⟩) 1 1)).run Try.prog (w.alloc (.cells #[.int .u8 x] 5))=.ok (.string (strOfNums [x])) (w.alloc (.cells #[.int .u8 x] 5)) :=
 run_convert_bytes_arg _ 22 5 Try.underlying22 Try.underlying5 w.heap.size 0 1 1 [x] rfl (fun i hi=>by
  obtain rfl:i=0:=by omega
  exact ((Blk.new w 5 #[.int .u8 x]).cell 0).trans (by simp)) 9 Try.underlying9
theorem data_append (a b:ByteArray):(a ++ b).data.toList=a.data.toList ++ b.data.toList:=by rw [ByteArray.data_append,Array.toList_append]
theorem zAD (a b:ByteArray):(a ++ b).size=a.size+b.size:=by show (a ++ b).data.size=_;rw [ByteArray.data_append,Array.size_append];rfl
theorem strOf_dig (n:Int) (h0:0≤n) (h9:n≤9):strOfNums [48+n]=bs (digT n):=by
 apply tl_inj
 rw [tl_bs]
 show (strOfNums [48+n]).data.toList=_
 rw [strOfNums_data]
 unfold digT
 simp only [List.map_cons,List.map_nil,List.cons.injEq,and_true]
 congr 1
 omega
theorem ret_str {a b:ByteArray} (h:a=b):Ending.returned (.string a)=.returned (.string b):=by rw [h]
theorem zAC (a b:ByteArray):tl (a ++ b)=tl a ++ tl b:=data_append a b
theorem idxT_len (n:Int):(idxT n).length≤1:=by
 unfold idxT
 split
 ·simp
 ·split <;> simp [digT]
theorem dname_len {s:ByteArray} (h:dnameOk (tl s)=true):s.size=1:=by
 rw [←zAO]
 unfold dnameOk at h
 split at h
 ·rename_i e;rw [e];rfl
 ·cases h
theorem nameOk_len {s:ByteArray} (h:nameOk (tl s)=true):s.size≤5:=by
 rcases Nat.lt_or_ge 5 s.size with h5 | h5
 ·have:=zAY s (.inr h5)
  rw [show nameOk (tl s)=nameOk s.data.toList from rfl,this] at h;cases h
 ·exact h5
theorem nameAt_get {xs:List Dt} {d:Nat} (h:d<xs.length):nameAt xs (d:Int)=tl xs[d].name:=by unfold nameAt;rw [Int.toNat_natCast,List.getElem?_eq_getElem h];rfl
theorem nameAt_len {xs:List Dt} (hw:WorldOK xs) (d:Int):(nameAt xs d).length≤1:=by
 unfold nameAt
 split
 ·rename_i x e
  have:=dname_len (hw.all x (List.mem_of_getElem? e)).name
  rw [show x.name.data.toList.length=x.name.size from zAO _];omega
 ·simp
theorem tyT_len {xs:List Dt} (hw:WorldOK xs) (t:Ty):(tyT xs t).length≤2:=by
 unfold tyT
 split
 ·simp
 ·rw [List.length_append]
  have:=nameAt_len hw t.d
  have:=idxT_len t.i
  omega
theorem argsT_len {xs:List Dt} (hw:WorldOK xs):∀ (l:List Ty) (b:Bool),(argsT xs b l).length≤3*l.length
 |[],_=>by simp [argsT]
 |a :: l,b=>by
  rw [argsT,List.length_cons,List.length_append,List.length_cons]
  have:=tyT_len hw a
  have:=argsT_len hw l false
  omega
theorem closeT_len (c:Kt):(closeT c).length≤1:=by unfold closeT;split <;> simp
theorem endT_len (c:Kt):(endT c).length≤2:=by unfold endT;split <;> simp [digT]
theorem ktT_len {xs:List Dt} (hw:WorldOK xs) {c:Kt} (hc:KtOk xs.length c):(ktT xs c).length≤17:=by
 unfold ktT
 simp only [List.length_append]
 have h1:=nameOk_len hc.name
 rw [←zAO] at h1
 have h2:=argsT_len hw c.args true
 have h3:=hc.args
 have h4:=closeT_len c
 have h5:=endT_len c
 have:(tl c.name).length=c.name.data.toList.length:=rfl
 omega
theorem bs_append (a b:List UInt8):bs a ++ bs b=bs (a ++ b):=tl_inj (by rw [zAC,tl_bs,tl_bs,tl_bs])
theorem argsT_step (xs:List Dt) (b:Bool) (l:List Ty) (i:Nat) (h:i<l.length):argsT xs b (l.drop i)=(if b=true then 40 else 44) :: (tyT xs l[i] ++ argsT xs false (l.drop (i+1))):=by rw [List.drop_eq_getElem_cons h,argsT]
theorem ktsT_step (xs:List Dt) (b:Bool) (l:List Kt) (i:Nat) (h:i<l.length):ktsT xs b (l.drop i)=(if b=true then [] else [124]) ++ (ktT xs l[i] ++ ktsT xs false (l.drop (i+1))):=by rw [List.drop_eq_getElem_cons h,ktsT]
theorem dtsT_step (xs:List Dt) (b:Bool) (l:List Dt) (i:Nat) (h:i<l.length):dtsT xs b (l.drop i)=(if b=true then [] else [59]) ++ (l[i].name.data.toList ++ (61 :: (ktsT xs true l[i].ctors ++ dtsT xs false (l.drop (i+1))))):=by rw [List.drop_eq_getElem_cons h,dtsT]
theorem spec_l17Dec (n:Int) (h0:0≤n) (h9:n≤9) (w:World):Calls Try.prog 129 #[.int .i64 n] w fun e w'=>e=.returned (.string (bs (digT n)))∧Below w w w':=by
 have t1:decide (n < -9223372036854775807)=false:=by simp;omega
 have t2:decide (n<0)=false:=by simp;omega
 have t3:decide (n>9)=false:=by simp;omega
 have hf:=jj (strOf_dig n h0 h9)
 go_enter Try.func129,Try.ntmps129
 go_wp2
 go_loopw [0,3] (fun nv ov wr=>nv=.int .i64 n∧ov=.string ⟨#[]⟩∧Below w w wr) (fun _ _ _=>0)
 case atStart=>exact ⟨rfl,rfl,zy2 _ _⟩
 case round =>
  obtain ⟨rfl,rfl,hB⟩:=hrel
  have hcv:=conv1 wr (48+n)
  have hsz:(strOfNums [48+n]).size+0≤9223372036854775807:=by rw [strOfNums_size];simp
  go_wp2
  go_ret
  exact ⟨by rw [←hf.out];rfl,hB.alloc hB.size _⟩
theorem spec_l1Index (n:Int) (h0:-1≤n) (h9:n≤9) (w:World):Calls Try.prog 130 #[.int .i64 n] w fun e w'=>e=.returned (.string (bs (idxT n)))∧Below w w w':=by
 cases q0:(n==0) with
 |true =>
  have hf:Hid (bs (idxT n)=⟨#[]⟩):=by rw [beq_iff_eq] at q0;unfold Hid idxT;rw [if_pos q0];rfl
  go_enter Try.func130,Try.ntmps130
  go_wp2
  go_ret
  exact ⟨ret_str hf.out.symm,zy2 _ _⟩
 |false =>
  have n0:n≠0:=by simpa using q0
  cases q1:(n == -1) with
  |true =>
   have hf:Hid (bs (idxT n)=⟨#[42]⟩):=by rw [beq_iff_eq] at q1;unfold Hid idxT;rw [if_neg n0,if_pos q1];rfl
   go_enter Try.func130,Try.ntmps130
   go_wp2
   go_ret
   exact ⟨ret_str hf.out.symm,zy2 _ _⟩
  |false =>
   have n1:n ≠ -1:=by simpa using q1
   have hf:Hid (bs (idxT n)=bs (digT n)):=by unfold Hid idxT;rw [if_neg n0,if_neg n1]
   have HN:Hid (0≤n∧n≤9):=⟨by omega,h9⟩
   clear n0 n1
   go_enter Try.func130,Try.ntmps130
   go_wp2_with fail
   refine (spec_l17Dec n HN.out.1 HN.out.2 _).mono ?_
   rintro e w' ⟨rfl,hB'⟩
   go_wp2
   go_ret
   exact ⟨ret_str hf.out.symm,hB'⟩
theorem spec_l1Type (xs:List Dt) (hw:WorldOK xs) (t:Ty) (ht:argOkB xs.length t=true) (w:World) (v:Value) (F:List Nat) (hx:Arr w (DtR w) xs v F) (hf:Under w F) :
  Calls Try.prog 128 #[v,.agg #[t.d,t.i]] w fun e w'=>e=.returned (.string (bs (tyT xs t)))∧Below w w w':=by
 obtain ⟨A,cap,rfl,hc1,hc2⟩:=hx.form
 have hin:=argOkB_in ht
 have HW:=jj hw
 have HX:=jj hx
 have HF:=jj hf
 clear hx hf
 clear hw
 by_cases hd:t.d = -1
 ·have t0:(t.d == -1)=true:=by simp [hd]
  have hf:Hid (bs (tyT xs t)=⟨#[73]⟩):=by unfold Hid tyT;rw [if_pos hd];rfl
  clear ht hin hd
  go_enter Try.func128,Try.ntmps128
  go_wp2
  go_ret
  exact ⟨ret_str hf.out.symm,(zy2 _ _).alloc (zz8 _) _⟩
 ·rcases hin with h | ⟨d,hd2,hdl⟩
  ·exact absurd h hd
  have hi:-1≤t.i∧t.i≤9:=by
   unfold argOkB at ht
   rw [if_neg hd] at ht
   simp [withinB] at ht
   omega
  obtain ⟨t1,i⟩:=t
  simp only at hd2 hi hd
  subst hd2
  have hf:Hid (bs (tyT xs ⟨(d:Int),i⟩)=xs[d].name ++ bs (idxT i)):=by
   unfold Hid tyT
   rw [if_neg hd]
   simp only
   rw [nameAt_get hdl,←bs_append,bs_tl]
  have HI:Hid (-1≤i∧i≤9):=hi
  have t0:((d:Int) == -1)=false:=by rw [beq_eq_false_iff_ne];omega
  clear ht hd hi
  obtain ⟨b,off,rfl⟩:=HX.out.ptr (by omega)
  have g1:(0:Int)≤(d:Int):=by omega
  have g2:(d:Int)<(xs.length:Int):=by omega
  have hB0:Below w w (w.alloc (.cells #[(d:Int),.int .i64 i] 25)):=(zy2 _ _).alloc (zz8 _) _
  obtain ⟨A1,cap1,G1,hb,c0,c1,HK,HG,hs,hn1,hn2⟩:=ArrDt.at HX.out HF.out hB0 d hdl
  have hns:xs[d].name.size=1:=dname_len (HW.out.at hdl).name
  have his:(bs (idxT i)).size≤1:=idxT_len i
  have hcat:xs[d].name.size+(bs (idxT i)).size≤9223372036854775807:=by omega
  have hcat2:(xs[d].name.size:Int)+((bs (idxT i)).size:Int)≤9223372036854775807:=by omega
  have hcat3:¬9223372036854775807<(xs[d].name.size:Int)+((bs (idxT i)).size:Int):=by omega
  go_enter Try.func128,Try.ntmps128
  go_wp2_with fail
  obtain ⟨W2,hW2⟩:∃ W2,W2=w.alloc (.cells #[(d:Int),.int .i64 i] 25):=⟨_,rfl⟩
  have KT:Hid (Blk W2 w 25 #[(d:Int),.int .i64 i]):=by rw [hW2];exact Blk.new w _ _
  rw [←hW2] at hB0 c0 c1 hb ⊢
  clear hW2
  have y0:W2.cell? ⟨w,0,none⟩=(d:Int):=(KT.out.cell 0).trans (by simp)
  have y1:W2.cell? ⟨w,1,none⟩=some (.int .i64 i):=(KT.out.cell 1).trans (by simp)
  have klt:=KT.out.lt
  clear hns his c1
  have HCALL:=jj (spec_l1Index i HI.out.1 HI.out.2 W2.drew)
  go_region_with (go_at_call 130;((with_reducible refine HCALL.out.mono ?_);rintro e w' ⟨rfl,hB'⟩;have y0':w'.cell? ⟨w,0,none⟩=(d:Int):=(hB'.cell klt).trans y0;have y1':w'.cell? ⟨w,1,none⟩=some (.int .i64 i):=(hB'.cell klt).trans y1;have c0':w'.cell? ⟨b,off+d*2,none⟩=some (.string xs[d].name):=(hB'.cell hb).trans c0))
  all_goals (
   have hB3:=hB0.drew.trans (hB'.mono hB0.size)
   go_wp2
   go_ret
   exact ⟨ret_str hf.out.symm,hB3⟩)
theorem spec_l1CtorText (xs:List Dt) (hw:WorldOK xs) (c:Kt) (hc:KtOk xs.length c) (w:World) (v:Value) (F:List Nat) (hx:Arr w (DtR w) xs v F) (hf:Under w F) (A1:Option Addr) (cap1:Nat) (G:List Nat) (hk:KtR w c [.string c.name,.slice A1 c.args.length cap1,c.idx] G) (hg:Under w G) :
  Calls Try.prog 126 #[v,.agg #[.string c.name,.slice A1 c.args.length cap1,c.idx]] w fun e w'=>e=.returned (.string (bs (ktT xs c)))∧Below w w w':=by
 obtain ⟨A,cap,rfl,hc1,hc2⟩:=hx.form
 obtain ⟨kv,hkv,ha,hs⟩:=id hk
 obtain rfl:kv=.slice A1 c.args.length cap1:=by simpa using (List.cons.inj (List.cons.inj hkv).2).1.symm
 obtain ⟨A',cap',e,hc3,hc4⟩:=ha.form
 cases e
 have hn5:=nameOk_len hc.name
 have ha3:=hc.args
 have hid0:=hc.lo
 have hid3:=hc.hi
 have HALL:=jj hc.all
 have HW:=jj hw
 have HX:=jj hx
 have HF:=jj hf
 have HA:=jj ha
 have HG:=jj hg
 clear hx hf ha hg
 clear hw hc hk hkv
 go_enter Try.func126,Try.ntmps126
 go_wp2
 have hB0:Below w w (w.alloc (.cells #[.string c.name,.slice A1 c.args.length cap1,c.idx] 118)):=(zy2 _ _).alloc (zz8 _) _
 have K0:Hid (Blk (w.alloc (.cells #[.string c.name,.slice A1 c.args.length cap1,c.idx] 118)) w.heap.size 118 #[.string c.name,.slice A1 c.args.length cap1,c.idx]):=Blk.new _ _ _
 go_loopw [5,6] (fun ov iv wr=>∃ i:Nat,∃ out:ByteArray,i≤c.args.length∧iv=.int .i64 i∧ov=.string out∧out.size≤5+3*i∧Hid (tl c.name ++ argsT xs true c.args=tl out ++ argsT xs (decide (i=0)) (c.args.drop i))∧Hid (Blk wr w 118 #[.string c.name,.slice A1 c.args.length cap1,c.idx])∧Below w w wr) (fun _ iv _=>c.args.length-(intOf iv).toNat)
 case atStart=>exact ⟨0,c.name,Nat.zero_le _,rfl,rfl,by omega,rfl,K0,hB0⟩
 case round =>
  clear hB0 K0
  obtain ⟨i,out,hi,rfl,rfl,hos,HT,KC,hB⟩:=hrel
  have q0:wr.cell? ⟨w,0,none⟩=some (.string c.name):=(KC.out.cell 0).trans (by simp)
  have q1:wr.cell? ⟨w,1,none⟩=some (.slice A1 c.args.length cap1):=(KC.out.cell 1).trans (by simp)
  have q2:wr.cell? ⟨w,2,none⟩=c.idx:=(KC.out.cell 2).trans (by simp)
  have klt:=KC.out.lt
  by_cases hil:i<c.args.length
  ·obtain ⟨b3,off3,rfl⟩:=HA.out.ptr (by omega)
   obtain ⟨hb4,a0,a1⟩:=ArrTy.at HA.out HG.out hB i hil
   have g5:(0:Int)≤(i:Int):=by omega
   have g6:(i:Int)<(c.args.length:Int):=by omega
   have hst:=HT.out
   rw [argsT_step xs _ _ i hil] at hst
   have htl:(bs (tyT xs c.args[i])).size≤2:=tyT_len HW.out _
   have HOK:=jj (HALL.out _ (List.getElem_mem hil))
   have hcat0:out.size+1≤9223372036854775807:=by omega
   have hcat1:out.size+1+(bs (tyT xs c.args[i])).size≤9223372036854775807:=by omega
   cases q3:((i:Int)==0)
   have hi0:decide (i=0)=false:=by rw [beq_eq_false_iff_ne] at q3;exact decide_eq_false (by omega)
   rw [hi0,if_neg (by simp)] at hst
   have hst2:tl c.name ++ argsT xs true c.args=tl (out ++ ⟨#[44]⟩ ++ bs (tyT xs c.args[i])) ++ argsT xs (decide (i+1=0)) (c.args.drop (i+1)):=by
    rw [hst,zAC,zAC,tl_bs,decide_eq_false (show ¬(i+1=0) by omega)]
    show tl out ++ 44 :: _=_
    simp [tl]
   have HST:=jj hst2
   have hs2:(out ++ ⟨#[44]⟩ ++ bs (tyT xs c.args[i])).size≤5+3*(i+1):=by rw [zAD,zAD];show out.size+1+_≤_;omega
   rotate_left
   have hi0:decide (i=0)=true:=by rw [beq_iff_eq] at q3;exact decide_eq_true (by omega)
   rw [hi0,if_pos rfl] at hst
   have hst2:tl c.name ++ argsT xs true c.args=tl (out ++ ⟨#[40]⟩ ++ bs (tyT xs c.args[i])) ++ argsT xs (decide (i+1=0)) (c.args.drop (i+1)):=by
    rw [hst,zAC,zAC,tl_bs,decide_eq_false (show ¬(i+1=0) by omega)]
    show tl out ++ 40 :: _=_
    simp [tl]
   have HST:=jj hst2
   have hs2:(out ++ ⟨#[40]⟩ ++ bs (tyT xs c.args[i])).size≤5+3*(i+1):=by rw [zAD,zAD];show out.size+1+_≤_;omega
   rotate_left
   all_goals (
    have HS2:=jj hs2
    clear hst hst2 hs2 hi0
    go_wp2_with fail
    refine (spec_l1Type xs HW.out c.args[i] HOK.out wr _ F (ArrDt.below HX.out hB HF.out) (HF.out.mono hB.size)).mono ?_
    rintro e w' ⟨rfl,hB'⟩
    have hB3:=hB.trans (hB'.mono hB.size)
    have KC3:=jj (KC.out.same (hB'.block _ KC.out.lt))
    clear q0 q1 q2 a0 a1
    go_wp2
    go_roundw
    case rel=>exact ⟨i+1,_,by omega,by go_num,rfl,HS2.out,HST,KC3,hB3⟩
    case measure=>(simp [intOf] <;> omega))
  ·have hte:=HT.out
   rw [List.drop_of_length_le (by omega)] at hte
   have hte2:tl c.name ++ argsT xs true c.args=tl out:=by rw [hte,argsT,List.append_nil]
   have HTE:Hid (tl c.name ++ argsT xs true c.args=tl out):=hte2
   clear hte hte2
   have hos2:out.size≤14:=by omega
   by_cases hp:0<c.args.length
   ·have hcl:Hid (closeT c=[41]):=if_pos hp
    have t5:decide ((c.args.length:Int)>0)=true:=by simp;omega
    by_cases hd:0<c.idx
    ·have hen:Hid (endT c=58 :: digT c.idx):=if_pos hd
     have t6:decide (c.idx>0)=true:=by simpa using hd
     have hcat1:out.size+1≤9223372036854775807:=by omega
     have hcat2:out.size+1+1≤9223372036854775807:=by omega
     have hcat3:out.size+1+1+1≤9223372036854775807:=by omega
     have hbd:(bs (digT c.idx)).size=1:=rfl
     go_wp2_with fail
     refine (spec_l17Dec c.idx hid0 (by omega) wr).mono ?_
     rintro e w' ⟨rfl,hB'⟩
     have hB3:=hB.trans (hB'.mono hB.size)
     have hfin:bs (ktT xs c)=out ++ ⟨#[41]⟩ ++ ⟨#[58]⟩ ++ bs (digT c.idx):=by
      apply tl_inj
      rw [zAC,zAC,zAC,tl_bs,tl_bs,←HTE.out]
      unfold ktT
      rw [hcl.out,hen.out]
      simp [tl]
     have HFin:=jj hfin
     clear hfin q0 q1 q2
     go_wp2
     go_ret
     exact ⟨ret_str HFin.out.symm,hB3⟩
    ·have hen:Hid (endT c=[]):=if_neg hd
     have t6:decide (c.idx>0)=false:=by simpa using hd
     have hcat1:out.size+1≤9223372036854775807:=by omega
     have hfin:bs (ktT xs c)=out ++ ⟨#[41]⟩:=by
      apply tl_inj
      rw [zAC,tl_bs,←HTE.out]
      unfold ktT
      rw [hcl.out,hen.out]
      simp [tl]
     have HFin:=jj hfin
     clear hfin
     go_wp2
     go_ret
     exact ⟨ret_str HFin.out.symm,hB⟩
   ·have hcl:Hid (closeT c=[]):=if_neg hp
    have t5:decide ((c.args.length:Int)>0)=false:=decide_eq_false (by omega)
    by_cases hd:0<c.idx
    ·have hen:Hid (endT c=58 :: digT c.idx):=if_pos hd
     have t6:decide (c.idx>0)=true:=by simpa using hd
     have hcat1:out.size+1≤9223372036854775807:=by omega
     have hcat2:out.size+1+1≤9223372036854775807:=by omega
     have hbd:(bs (digT c.idx)).size=1:=rfl
     go_wp2_with fail
     refine (spec_l17Dec c.idx hid0 (by omega) wr).mono ?_
     rintro e w' ⟨rfl,hB'⟩
     have hB3:=hB.trans (hB'.mono hB.size)
     have hfin:bs (ktT xs c)=out ++ ⟨#[58]⟩ ++ bs (digT c.idx):=by
      apply tl_inj
      rw [zAC,zAC,tl_bs,tl_bs,←HTE.out]
      unfold ktT
      rw [hcl.out,hen.out]
      simp [tl]
     have HFin:=jj hfin
     clear hfin q0 q1 q2
     go_wp2
     go_ret
     exact ⟨ret_str HFin.out.symm,hB3⟩
    ·have hen:Hid (endT c=[]):=if_neg hd
     have t6:decide (c.idx>0)=false:=by simpa using hd
     have hfin:bs (ktT xs c)=out:=by
      apply tl_inj
      rw [tl_bs,←HTE.out]
      unfold ktT
      rw [hcl.out,hen.out]
      simp [tl]
     have HFin:=jj hfin
     clear hfin
     go_wp2
     go_ret
     exact ⟨ret_str HFin.out.symm,hB⟩
end Go.Proofs.Ytjjclcmmfeegfaa
