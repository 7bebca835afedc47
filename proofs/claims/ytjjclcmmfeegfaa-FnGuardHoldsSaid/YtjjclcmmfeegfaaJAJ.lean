/-
  Lemmas, and contracts of functions. Conditions: none.
-/
import Derived.Test.YtjjclcmmfeegfaaJAH
import Derived.Test.YtjjclcmmfeegfaaJAC
import Derived.Test.YtjjclcmmfeegfaaJAB
import Derived.Test.YtjjclcmmfeegfaaJAD
import Derived.Deep.RegionWith
import Derived.Test.YtjjclcmmfeegfaaJAE
import Derived.Test.YtjjclcmmfeegfaaJAI
import Derived.Test.YtjjclcmmfeegfaaJAG
import Derived.Test.YtjjclcmmfeegfaaChecked
import Derived.BigQuiet
import Derived.Deep.QuietTactic
import Derived.Test.YtjjclcmmfeegfaaJAA
import Derived.ProofKit
import Derived.ChangeArms
import Derived.Deep.Fields

set_option linter.unusedVariables false
set_option linter.unusedSimpArgs false
set_option maxRecDepth 100000
set_option maxHeartbeats 1600000

namespace Go.Proofs.Ytjjclcmmfeegfaa
open Go.RowKit
def KtO (w:World) (c:Kt) (cs:List Value) (F:List Nat):Prop:=∃ kv,cs=[.string c.name,kv,.int .i64 c.idx]∧Own w 0 25 2 TyR c.args kv []∧F=rowOf kv∧c.name.size≤9223372036854775807
def DtO (w:World) (x:Dt) (cs:List Value) (F:List Nat):Prop:=∃ kv,cs=[.string x.name,kv]∧Arr w (KtO w) x.ctors kv F∧x.name.size≤9223372036854775807
def SmallW (n:Nat) (xs:List Dt):Prop:=∀ x∈xs,x.ctors.length≤n∧∀ c∈x.ctors,c.args.length≤n
structure Cpy (g q:Nat) (xs:List Dt) (v:Value) (F:List Nat) (w w1:World):Prop where
 rd:Rd w1 g q
 chg:Chg [g] w w1
 own:Own w1 w.heap.size 113 2 DtO xs v F
 free:Free w1 F
 fresh:∀ b∈F,w.heap.size≤b
 lt:g<w.heap.size
def Mutd (g p m:Nat) (xs:List Dt) (w:World) (e:Ending) (w':World):Prop:=DrewWorld g p 10 w (fun ys=>0<ys.length∧ys.length≤xs.length+1∧SmallW (m+1) ys) e w'
section
variable {g q p m : Nat} {xs : List Dt} {v : Value} {F : List Nat} {w w1 w2 : World}
end
def dtk (xs:List Dt) (d:Nat):List Dt:=xs.take d
def ktk (cs:List Kt) (k:Nat):List Kt:=cs.take k
def DrewW (w:World) (e:Ending) (w':World):Prop:=∃ xs v F,e=.returned v∧Below w w w'∧Arr w' (DtR w') xs v F∧Fresh w w' F
def DrewWT (w:World) (e:Ending) (w':World):Prop:=∃ xs v F,∃ t:Ty,e=.returned (.tuple #[v,.agg #[t.d,t.i]])∧Below w w w'∧Arr w' (DtR w') xs v F∧Fresh w w' F
def DrewWTN (w:World) (e:Ending) (w':World):Prop:=∃ xs v F,∃ t:Ty,∃ n:Int,e=.returned (.tuple #[v,.agg #[t.d,t.i],.int .i64 n])∧Below w w w'∧Arr w' (DtR w') xs v F∧Fresh w w' F
def DrewWW (w:World) (e:Ending) (w':World):Prop:=∃ xs v F ys v2 F2,e=.returned (.tuple #[v,v2])∧Below w w w'∧Arr w' (DtR w') xs v F∧Under w'.heap.size F∧Arr w' (DtR w') ys v2 F2∧Under w'.heap.size F2
def DrewGB (w:World) (e:Ending) (w':World):Prop:=∃ (gd:Gd) (bs:List Bd) (v:Value) (F:List Nat),e=.returned (.tuple #[.agg #[gd.op,gd.va,gd.n],v])∧Below w w w'∧Arr w' (BdR w') bs v F∧Under w'.heap.size F
theorem ArrCl.first {w:World} {b off n cap:Nat} {F:List Nat} {l:List Cl} (h:Arr w (ClR w) l (.slice (some ⟨b,off,none⟩) n cap) F) (hF:Under w F) (hi:0<l.length) :
  ∃ A7 cap7 G,b<w.heap.size∧w.cell? ⟨b,off,none⟩=l[0].pat.op∧w.cell? ⟨b,off+1,none⟩=l[0].pat.ct∧w.cell? ⟨b,off+2,none⟩=l[0].pat.n∧w.cell? ⟨b,off+3,none⟩=l[0].pat.m∧w.cell? ⟨b,off+4,none⟩=l[0].pat.va∧w.cell? ⟨b,off+5,none⟩=some (.slice A7 l[0].pat.ks.length cap7)∧PR w l[0].pat [l[0].pat.op,l[0].pat.ct,l[0].pat.n,l[0].pat.m,l[0].pat.va,.slice A7 l[0].pat.ks.length cap7] G∧Under w G:=by
 obtain ⟨b',off',cs,G,e,hb,hcs,hv,hG⟩:=h.get ClR_len hi
 cases e
 have hbl:=hF _ hb
 obtain ⟨ds,rfl,hp⟩:=hv
 obtain ⟨kv,rfl,ha⟩:=(zAA _ _ _).1 hp
 obtain ⟨A7,cap7,rfl,-,-⟩:=ha.form
 rw [Nat.zero_mul,Nat.add_zero] at hcs
 exact ⟨A7,cap7,G,hbl,hcs 0 _ rfl,hcs 1 _ rfl,hcs 2 _ rfl,hcs 3 _ rfl,hcs 4 _ rfl,hcs 5 _ rfl,hp,hF.sub hG⟩
theorem results_ct {P:Program} {fn:Func} {u p1:Tmp} {ty1:TypeId} (h:fn.results=#[.cell p1 ty1,.tmp u]) (tmps:Array Value) (w:World) (g1:Nat) (t1:TypeId) (cs1:Array Value) (fr1:Nat×Nat) (d1:TypeDesc)
  (hp1:tmps.getD p1 undef=.pointer (some ⟨g1,0,none⟩)) (hg1:w.heap[g1]?=some (.cells cs1 t1 fr1)) (hu1:P.underlying ty1=some d1) (hd1:(match d1 with | .struct _ | .array _ _=>true | _=>false)=true) (hi1:(P.info? ty1).map (·.size)=some cs1.size) :
  (results fn tmps).run P w=.ok (.tuple #[.agg cs1,tmps.getD u undef]) w:=by
 have hp1':tmps[p1]?.getD undef=.pointer (some ⟨g1,0,none⟩):=by simpa using hp1
 simp [results,h,hp1',asAddr,run_loadVar_row w g1 t1 ty1 cs1 fr1 d1 hg1 hu1 hd1 hi1]
def Sl (w:World) (b:Nat):Prop:=∃ i A n c,w.cell? ⟨b,i,none⟩=some (Value.slice A n c)
theorem flat_thin {α:Type} {w:World} {R:α→List Value→List Nat→Prop}:∀ {xs:List α} {cs:List Value} {G:List Nat},(∀ x∈xs,∀ cs G,R x cs G→∃ G',R x cs G'∧∀ b∈G',b∈G∧Sl w b)→Flat R xs cs G→∃ G',Flat R xs cs G'∧∀ b∈G',b∈G∧Sl w b
 |[],_,_,_,h=>⟨[],⟨h.1,rfl⟩,fun b hb=>by cases hb⟩
 |x :: xs,_,_,hx,h=>by
  obtain ⟨c1,c2,F1,F2,rfl,rfl,k1,k2⟩:=h
  obtain ⟨G1,h1,h2⟩:=hx x (by simp) _ _ k1
  obtain ⟨G2,h3,h4⟩:=flat_thin (fun y hy=>hx y (by simp [hy])) k2
  exact ⟨G1 ++ G2,⟨c1,c2,G1,G2,rfl,rfl,h1,h3⟩,fun b hb=>by
   rcases List.mem_append.1 hb with hb | hb
   ·exact ⟨List.mem_append.2 (.inl (h2 b hb).1),(h2 b hb).2⟩
   ·exact ⟨List.mem_append.2 (.inr (h4 b hb).1),(h4 b hb).2⟩⟩
theorem arr_thin {α:Type} {w:World} {R:α→List Value→List Nat→Prop} {xs:List α} {v:Value} {F:List Nat} (hx:∀ x∈xs,∀ (cs:List Value) (G:List Nat),R x cs G→(∃ (j:Nat) (A:Option Addr) (n c:Nat),cs[j]?=some (Value.slice A n c))∧∃ G',R x cs G'∧∀ b∈G',b∈G∧Sl w b) (h:Arr w R xs v F):∃ F',Arr w R xs v F'∧∀ b∈F',b∈F∧Sl w b:=by
 obtain ⟨A,cap,rfl,h1,h2,h3⟩:=h
 cases xs with
 |nil=>exact ⟨[],⟨A,cap,rfl,h1,h2,.inl ⟨rfl,rfl⟩⟩,fun b hb=>by cases hb⟩
 |cons y ys =>
  rcases h3 with ⟨e,-⟩ | ⟨b,off,cs,G,rfl,hc,hf,rfl⟩
  ·cases e
  ·obtain ⟨G',g1,g2⟩:=flat_thin (fun y hy cs G hr=>(hx y hy cs G hr).2) hf
   refine ⟨b :: G',⟨_,cap,rfl,h1,h2,.inr ⟨b,off,cs,G',rfl,hc,g1,rfl⟩⟩,fun x hb=>?_⟩
   rcases List.mem_cons.1 hb with rfl | hb
   ·obtain ⟨c1,c2,F1,F2,rfl,rfl,k1,k2⟩:=hf
    obtain ⟨j,A,n,c,hj⟩:=(hx y (by simp) _ _ k1).1
    obtain ⟨hjl,-⟩:=List.getElem?_eq_some_iff.1 hj
    exact ⟨by simp,_,A,n,c,(hc j (.slice A n c) (by rw [List.getElem?_append_left hjl];exact hj))⟩
   ·exact ⟨List.mem_cons_of_mem _ (g2 x hb).1,(g2 x hb).2⟩
theorem VR_thin {w:World}:∀ (v:V) (cs:List Value) (F:List Nat),VR w v cs F→(∃ (j:Nat) (A:Option Addr) (n c:Nat),cs[j]?=some (Value.slice A n c))∧∃ F',VR w v cs F'∧∀ b∈F',b∈F∧Sl w b:=V.ind fun c n ks ih cs F h=>by
 obtain ⟨kv,rfl,ha⟩:=(VR_iff _ _ _).1 h
 obtain ⟨F',f1,f2⟩:=arr_thin (fun x hx cs G hr=>ih x hx cs G hr) ha
 obtain ⟨A,cap,rfl,-,-⟩:=ha.form
 exact ⟨⟨2,_,_,_,rfl⟩,F',(VR_iff _ _ _).2 ⟨_,rfl,f1⟩,f2⟩
theorem BdR_thin {w:World} (x:Bd) (cs:List Value) (F:List Nat) (h:BdR w x cs F):(∃ (j:Nat) (A:Option Addr) (n c:Nat),cs[j]?=some (Value.slice A n c))∧∃ F',BdR w x cs F'∧∀ b∈F',b∈F∧Sl w b:=by
 obtain ⟨ds,rfl,ha⟩:=h
 obtain ⟨⟨j,A,n,c,hj⟩,F',h1,h2⟩:=VR_thin _ _ _ ha
 exact ⟨⟨j+1,A,n,c,by simpa using hj⟩,F',⟨ds,rfl,h1⟩,h2⟩
theorem arr_bd1 {w:World} {a b:Int} {H:Nat} {T:TypeId} (hk:Blk w H T #[.int .i64 a,.int .i64 (-1),.int .i64 b,.slice none 0 0]):Arr w (BdR w) [⟨a,⟨-1,b,[]⟩⟩] (.slice (some ⟨H,0,none⟩) 1 1) [H] :=
 ⟨_,_,rfl,zz8 _,by simp [maxLen],.inr ⟨H,0,[.int .i64 a,.int .i64 (-1),.int .i64 b,.slice none 0 0],[],rfl,(fun j u hj=>by rw [Nat.zero_add,hk.cell];simpa using hj),Flat.one ⟨_,rfl,(VR_iff _ _ _).2 ⟨_,rfl,Arr.nil⟩⟩,rfl⟩⟩
set_option maxHeartbeats 8000000 in
theorem spec_DrawGuardHolds (bs0:List Int) (w:World) (v:Value) (F:List Nat) (hx:Arr w (ByR w) bs0 v F) (hf:Under w F) :
  Calls Try.prog 12 #[v] w (DrewGB w):=by
 have hB0:Below w w (w.alloc (.cells #[(0:Int),(0:Int),(0:Int)] 39)):=(zy2 _ _).alloc (zz8 _) _
 have KR1:Hid (Blk (w.alloc (.cells #[(0:Int),(0:Int),(0:Int)] 39)) w.heap.size 39 #[(0:Int),(0:Int),(0:Int)]):=Blk.new w _ _
 have HX1:Hid (Arr (w.alloc (.cells #[(0:Int),(0:Int),(0:Int)] 39)) (ByR (w.alloc (.cells #[(0:Int),(0:Int),(0:Int)] 39))) bs0 v F):=ArrBy.mono hx (.of_below hB0 hf)
 have HU1:Hid (Under ((w.alloc (.cells #[(0:Int),(0:Int),(0:Int)] 39))).heap.size F):=hf.mono hB0.size
 have hs1:((w.alloc (.cells #[(0:Int),(0:Int),(0:Int)] 39))).heap.size=w.heap.size+1:=by simp
 clear hx hf
 go_enter Try.func12,Try.ntmps12
 go_wp2_with fail
 obtain ⟨w1,hw1⟩:∃ X,X=(w.alloc (.cells #[(0:Int),(0:Int),(0:Int)] 39)):=⟨_,rfl⟩
 rw [←hw1] at hB0 KR1 HX1 HU1 hs1 ⊢
 clear hw1
 refine (spec_l17Open bs0 w1 v F HX1.out HU1.out).mono ?_
 rintro e w3 ⟨g,rfl,hge,hb3,hR3⟩
 have HR3:=jj hR3
 have KR3:=jj (KR1.out.same (hb3.block _ KR1.out.lt))
 have HB3:Hid (Below w w w3):=hB0.trans (hb3.mono hB0.size)
 have hg1:w.heap.size<g:=by omega
 clear hR3 hb3 hB0 KR1 HX1 HU1
 go_wp2_with fail
 refine (spec_l4Typed 0 g w3 HR3.out (by omega)).mono ?_
 rintro e w4 ⟨xs,xv,FX,t,cls,lv,Fl,va,vA,vcap,Fv,q4,rfl,-,hx4,-,hl4,hfl4,hn4,hcl4,hv4,hfv4,hfit4,hnv4,hr4,hq4,hc4⟩
 obtain ⟨lA,lcap,rfl,-,-⟩:=hl4.form
 obtain ⟨xA,xcap,rfl,-,-⟩:=hx4.form
 have hg4:g<w4.heap.size:=hr4.lt
 have NHL:Hid (∀ b∈Fl,b≠g):=fun b hb=>(hfl4 b hb).2.1
 have NHV:Hid (∀ b∈Fv,b≠g):=fun b hb=>(hfv4 b hb).2.1
 have UHL4:Hid (Under w4 Fl):=fun b hb=>(hfl4 b hb).1
 have UHV4:Hid (Under w4 Fv):=fun b hb=>(hfv4 b hb).1
 have HL4:=jj hl4
 have HV4:=jj hv4
 have HCL:=jj hcl4
 have HFIT:=jj hfit4
 have HNV:=jj hnv4
 clear hx4 hl4 hfl4 hcl4 hv4 hfv4 hfit4 hnv4
 have KR4:=jj (KR3.out.same (hc4.block _ KR3.out.lt (by rw [zy1];omega)))
 have HR4:=jj hr4
 have HB4:=jj (HB3.out.trans (hc4.below (fun b hb=>by rw [zy1] at hb;omega) HB3.out.size))
 clear hc4 hr4 HR3 HB3 KR3
 have hb6:Below w4 w4 (((w4.alloc (.cells #[t.d,t.i] 25)).alloc (.cells #[va.c,va.n,.slice vA va.ks.length vcap] 46)).alloc (.cells #[(1:Int),(2:Int),(0:Int),(3:Int)] 3)):=(((zy2 _ _).alloc (zz8 _) _).alloc (by simp) _).alloc (by simp;omega) _
 have KV6:Hid (Blk (((w4.alloc (.cells #[t.d,t.i] 25)).alloc (.cells #[va.c,va.n,.slice vA va.ks.length vcap] 46)).alloc (.cells #[(1:Int),(2:Int),(0:Int),(3:Int)] 3)) (w4.heap.size+1) 46 #[va.c,va.n,.slice vA va.ks.length vcap]):=(zA9 w4 _ 46 _).same (Below.heap_alloc _ _ _ (by simp))
 have HLT:Hid (LitN (((w4.alloc (.cells #[t.d,t.i] 25)).alloc (.cells #[va.c,va.n,.slice vA va.ks.length vcap] 46)).alloc (.cells #[(1:Int),(2:Int),(0:Int),(3:Int)] 3)) (w4.heap.size+1+1) [1,2,0,3]):=by
  have h:=LitN.new ((w4.alloc (.cells #[t.d,t.i] 25)).alloc (.cells #[va.c,va.n,.slice vA va.ks.length vcap] 46)) [1,2,0,3] (by decide)
  have e:(((w4.alloc (.cells #[t.d,t.i] 25)).alloc (.cells #[va.c,va.n,.slice vA va.ks.length vcap] 46))).heap.size=w4.heap.size+1+1:=by simp
  rw [e] at h
  exact h
 have KR6:=jj (KR4.out.same (hb6.block _ KR4.out.lt))
 have HL6:=jj (ArrCl.mono HL4.out (.of_below hb6 UHL4.out))
 have UHL6:=jj (UHL4.out.mono hb6.size)
 have HV6:=jj (VR.mono _ _ _ (.of_below hb6 UHV4.out) HV4.out)
 have UHV6:=jj (UHV4.out.mono hb6.size)
 have HR6:=jj (HR4.out.below hb6)
 have HB6:=jj (HB4.out.trans (hb6.mono HB4.out.size))
 clear hb6 HR4 HB4 KR4 HL4 UHL4 HV4 UHV4
 go_wp2_with fail
 obtain ⟨w6,hw6⟩:∃ X,X=(((w4.alloc (.cells #[t.d,t.i] 25)).alloc (.cells #[va.c,va.n,.slice vA va.ks.length vcap] 46)).alloc (.cells #[(1:Int),(2:Int),(0:Int),(3:Int)] 3)):=⟨_,rfl⟩
 rw [←hw6] at HR6 HB6 KR6 HL6 UHL6 HV6 UHV6 KV6 HLT ⊢
 clear hw6
 obtain ⟨kv,hkv⟩:∃ X,X=w4.heap.size+1:=⟨_,rfl⟩
 rw [←hkv] at KV6 HLT ⊢
 obtain ⟨kl,hkl⟩:∃ X,X=kv+1:=⟨_,rfl⟩
 rw [←hkl] at HLT ⊢
 have hkg:g<kv:=by omega
 have hklg:kl≠g:=by omega
 clear hkv hkl
 refine (num_any [1,2,0,3] (by decide) (by decide) q4 g w6 HR6.out (by omega) _ _ HLT.out.2 (fun x hx=>by rw [List.mem_singleton.1 hx];exact HLT.out.1) (fun e=>hklg (List.mem_singleton.1 e).symm)).mono ?_
 rintro e w7 ⟨nx,-,rfl,hr7,hc7⟩
 clear HLT
 have KR7:=jj (KR6.out.same (hc7.block _ KR6.out.lt (by rw [zy1];omega)))
 have KV7:=jj (KV6.out.same (hc7.block _ KV6.out.lt (by rw [zy1];omega)))
 have HL7:=jj (ArrCl.mono HL6.out (hc7.kept UHL6.out (fun b hb h=>NHL.out b hb (List.mem_singleton.1 h))))
 have UHL7:=jj (UHL6.out.mono hc7.size)
 have HV7:=jj (VR.mono _ _ _ (hc7.kept UHV6.out (fun b hb h=>NHV.out b hb (List.mem_singleton.1 h))) HV6.out)
 have UHV7:=jj (UHV6.out.mono hc7.size)
 have HR7:=jj hr7
 have HB7:=jj (HB6.out.trans (hc7.below (fun b hb=>by rw [zy1] at hb;omega) HB6.out.size))
 clear hc7 hr7 HR6 HB6 KR6 KV6 HL6 UHL6 HV6 UHV6
 go_wp2_with fail
 refine (zAG 3 (q4+1) g w7 HR7.out (by omega) (by omega) (by omega)).mono ?_
 rintro e w8 ⟨rv,rfl,hrv,hr8,hc8⟩
 have KR8:=jj (KR7.out.same (hc8.block _ KR7.out.lt (by rw [zy1];omega)))
 have KV8:=jj (KV7.out.same (hc8.block _ KV7.out.lt (by rw [zy1];omega)))
 have HL8:=jj (ArrCl.mono HL7.out (hc8.kept UHL7.out (fun b hb h=>NHL.out b hb (List.mem_singleton.1 h))))
 have UHL8:=jj (UHL7.out.mono hc8.size)
 have HV8:=jj (VR.mono _ _ _ (hc8.kept UHV7.out (fun b hb h=>NHV.out b hb (List.mem_singleton.1 h))) HV7.out)
 have UHV8:=jj (UHV7.out.mono hc8.size)
 have HR8:=jj hr8
 have HB8:=jj (HB7.out.trans (hc8.below (fun b hb=>by rw [zy1] at hb;omega) HB7.out.size))
 clear hc8 hr8 HR7 HB7 KR7 KV7 HL7 UHL7 HV7 UHV7
 go_wp2_with fail
 refine (zAG 10 (q4+1+1) g w8 HR8.out (by omega) (by omega) (by omega)).mono ?_
 rintro e w9 ⟨rn,rfl,hrn,hr9,hc9⟩
 have KR9:=jj (KR8.out.same (hc9.block _ KR8.out.lt (by rw [zy1];omega)))
 have KV9:=jj (KV8.out.same (hc9.block _ KV8.out.lt (by rw [zy1];omega)))
 have HL9:=jj (ArrCl.mono HL8.out (hc9.kept UHL8.out (fun b hb h=>NHL.out b hb (List.mem_singleton.1 h))))
 have UHL9:=jj (UHL8.out.mono hc9.size)
 have HV9:=jj (VR.mono _ _ _ (hc9.kept UHV8.out (fun b hb h=>NHV.out b hb (List.mem_singleton.1 h))) HV8.out)
 have UHV9:=jj (UHV8.out.mono hc9.size)
 have HR9:=jj hr9
 have HB9:=jj (HB8.out.trans (hc9.below (fun b hb=>by rw [zy1] at hb;omega) HB8.out.size))
 clear hc9 hr9 HR8 HB8 KR8 KV8 HL8 UHL8 HV8 UHV8
 have hb10:Below w9 w9 (w9.alloc (.cells #[.int .i64 nx,(rv:Int),(rn:Int)] 39)):=(zy2 _ _).alloc (zz8 _) _
 have KG10:Hid (Blk (w9.alloc (.cells #[.int .i64 nx,(rv:Int),(rn:Int)] 39)) w9.heap.size 39 #[.int .i64 nx,(rv:Int),(rn:Int)]):=Blk.new _ _ _
 have hgk9:g<w9.heap.size:=HR9.out.lt
 have KR10:=jj (KR9.out.same (hb10.block _ KR9.out.lt))
 have KV10:=jj (KV9.out.same (hb10.block _ KV9.out.lt))
 have HL10:=jj (ArrCl.mono HL9.out (.of_below hb10 UHL9.out))
 have UHL10:=jj (UHL9.out.mono hb10.size)
 have HV10:=jj (VR.mono _ _ _ (.of_below hb10 UHV9.out) HV9.out)
 have UHV10:=jj (UHV9.out.mono hb10.size)
 have HR10:=jj (HR9.out.below hb10)
 have HB10:=jj (HB9.out.trans (hb10.mono HB9.out.size))
 clear hb10 HR9 HB9 KR9 KV9 HL9 UHL9 HV9 UHV9
 go_wp2_with fail
 obtain ⟨w10,hw10⟩:∃ X,X=(w9.alloc (.cells #[.int .i64 nx,(rv:Int),(rn:Int)] 39)):=⟨_,rfl⟩
 rw [←hw10] at HR10 HB10 KR10 KV10 HL10 UHL10 HV10 UHV10 KG10 ⊢
 clear hw10
 obtain ⟨kg,hkg9⟩:∃ X,X=w9.heap.size:=⟨_,rfl⟩
 first | rw [←hkg9] at KG10 hgk9 ⊢ | rw [←hkg9] at KG10 hgk9
 clear hkg9
 refine (zAG 2 (q4+1+1+1) g w10 HR10.out (by omega) (by omega) (by omega)).mono ?_
 rintro e w11 ⟨bv,rfl,hbv,hr11,hc11⟩
 have KR11:=jj (KR10.out.same (hc11.block _ KR10.out.lt (by rw [zy1];omega)))
 have KV11:=jj (KV10.out.same (hc11.block _ KV10.out.lt (by rw [zy1];omega)))
 have KG11:=jj (KG10.out.same (hc11.block _ KG10.out.lt (by rw [zy1];omega)))
 have HL11:=jj (ArrCl.mono HL10.out (hc11.kept UHL10.out (fun b hb h=>NHL.out b hb (List.mem_singleton.1 h))))
 have UHL11:=jj (UHL10.out.mono hc11.size)
 have HV11:=jj (VR.mono _ _ _ (hc11.kept UHV10.out (fun b hb h=>NHV.out b hb (List.mem_singleton.1 h))) HV10.out)
 have UHV11:=jj (UHV10.out.mono hc11.size)
 have HR11:=jj hr11
 have HB11:=jj (HB10.out.trans (hc11.below (fun b hb=>by rw [zy1] at hb;omega) HB10.out.size))
 clear hc11 hr11 HR10 HB10 KR10 KV10 KG10 HL10 UHL10 HV10 UHV10
 go_wp2_with fail
 refine (zAG 10 (q4+1+1+1+1) g w11 HR11.out (by omega) (by omega) (by omega)).mono ?_
 rintro e w12 ⟨bn,rfl,hbn,hr12,hc12⟩
 have KR12:=jj (KR11.out.same (hc12.block _ KR11.out.lt (by rw [zy1];omega)))
 have KV12:=jj (KV11.out.same (hc12.block _ KV11.out.lt (by rw [zy1];omega)))
 have KG12:=jj (KG11.out.same (hc12.block _ KG11.out.lt (by rw [zy1];omega)))
 have HL12:=jj (ArrCl.mono HL11.out (hc12.kept UHL11.out (fun b hb h=>NHL.out b hb (List.mem_singleton.1 h))))
 have UHL12:=jj (UHL11.out.mono hc12.size)
 have HV12:=jj (VR.mono _ _ _ (hc12.kept UHV11.out (fun b hb h=>NHV.out b hb (List.mem_singleton.1 h))) HV11.out)
 have UHV12:=jj (UHV11.out.mono hc12.size)
 have HR12:=jj hr12
 have HB12:=jj (HB11.out.trans (hc12.below (fun b hb=>by rw [zy1] at hb;omega) HB11.out.size))
 clear hc12 hr12 HR11 HB11 KR11 KV11 KG11 HL11 UHL11 HV11 UHV11
 by_cases hnz:0<cls.length
 ·have g1:decide ((cls.length:Int)>0)=true:=decide_eq_true (by omega)
  have g2:decide ((0:Int)<(cls.length:Int))=true:=decide_eq_true (by omega)
  have hb13:Below w12 w12 (w12.alloc (.cells #[(bv:Int),.int .i64 (-1),(bn:Int),.slice none 0 0] 48)):=(zy2 _ _).alloc (zz8 _) _
  have KB13:Hid (Blk (w12.alloc (.cells #[(bv:Int),.int .i64 (-1),(bn:Int),.slice none 0 0] 48)) w12.heap.size 48 #[(bv:Int),.int .i64 (-1),(bn:Int),.slice none 0 0]):=Blk.new _ _ _
  have hgk12:g<w12.heap.size:=HR12.out.lt
  have KR13:=jj (KR12.out.same (hb13.block _ KR12.out.lt))
  have KV13:=jj (KV12.out.same (hb13.block _ KV12.out.lt))
  have KG13:=jj (KG12.out.same (hb13.block _ KG12.out.lt))
  have HL13:=jj (ArrCl.mono HL12.out (.of_below hb13 UHL12.out))
  have UHL13:=jj (UHL12.out.mono hb13.size)
  have HV13:=jj (VR.mono _ _ _ (.of_below hb13 UHV12.out) HV12.out)
  have UHV13:=jj (UHV12.out.mono hb13.size)
  have HR13:=jj (HR12.out.below hb13)
  have HB13:=jj (HB12.out.trans (hb13.mono HB12.out.size))
  clear hb13 HR12 HB12 KR12 KV12 KG12 HL12 UHL12 HV12 UHV12
  go_wp2_with fail
  obtain ⟨w13,hw13⟩:∃ X,X=(w12.alloc (.cells #[(bv:Int),.int .i64 (-1),(bn:Int),.slice none 0 0] 48)):=⟨_,rfl⟩
  rw [←hw13] at HR13 HB13 KR13 KV13 KG13 HL13 UHL13 HV13 UHV13 KB13 ⊢
  clear hw13
  obtain ⟨kb,hkb⟩:∃ X,X=w12.heap.size:=⟨_,rfl⟩
  first | rw [←hkb] at KB13 hgk12 ⊢ | rw [←hkb] at KB13 hgk12
  clear hkb
  refine (zAG 2 (q4+1+1+1+1+1) g w13 HR13.out (by omega) (by omega) (by omega)).mono ?_
  rintro e w14 ⟨rp,rfl,-,hr14,hc14⟩
  have KR14:=jj (KR13.out.same (hc14.block _ KR13.out.lt (by rw [zy1];omega)))
  have KV14:=jj (KV13.out.same (hc14.block _ KV13.out.lt (by rw [zy1];omega)))
  have KG14:=jj (KG13.out.same (hc14.block _ KG13.out.lt (by rw [zy1];omega)))
  have KB14:=jj (KB13.out.same (hc14.block _ KB13.out.lt (by rw [zy1];omega)))
  have HL14:=jj (ArrCl.mono HL13.out (hc14.kept UHL13.out (fun b hb h=>NHL.out b hb (List.mem_singleton.1 h))))
  have UHL14:=jj (UHL13.out.mono hc14.size)
  have HV14:=jj (VR.mono _ _ _ (hc14.kept UHV13.out (fun b hb h=>NHV.out b hb (List.mem_singleton.1 h))) HV13.out)
  have UHV14:=jj (UHV13.out.mono hc14.size)
  have HR14:=jj hr14
  have HB14:=jj (HB13.out.trans (hc14.below (fun b hb=>by rw [zy1] at hb;omega) HB13.out.size))
  clear hc14 hr14 HR13 HB13 KR13 KV13 KG13 KB13 HL13 UHL13 HV13 UHV13
  cases hrp:((rp:Int)==0) with
  |false =>
   have HBD:Hid (Arr w14 (BdR w14) [⟨(bv:Int),⟨-1,(bn:Int),[]⟩⟩] (.slice (some ⟨kb,0,none⟩) 1 1) [kb]):=arr_bd1 KB14.out
   have hkbl:kb<w14.heap.size:=KB14.out.lt
   have HKN:Hid (∀ b∈[kb],b≠w.heap.size):=fun b hb=>by rw [List.mem_singleton.1 hb];omega
   have HKU:Hid (∀ b∈[kb],b<w14.heap.size):=fun b hb=>by rw [List.mem_singleton.1 hb];exact hkbl
   have z0:w14.cell? ⟨kg,0,none⟩=some (.int .i64 nx):=(KG14.out.cell 0).trans (by simp)
   have z1:w14.cell? ⟨kg,1,none⟩=(rv:Int):=(KG14.out.cell 1).trans (by simp)
   have z2:w14.cell? ⟨kg,2,none⟩=(rn:Int):=(KG14.out.cell 2).trans (by simp)
   have zlt:=KG14.out.lt
   have rc0:w14.cell? ⟨w,0,none⟩=some (.int .i64 0):=(KR14.out.cell 0).trans (by simp)
   have rf0:=KR14.out.frozen 0
   have rc1:w14.cell? ⟨w,1,none⟩=some (.int .i64 0):=(KR14.out.cell 1).trans (by simp)
   have rf1:=KR14.out.frozen 1
   have rc2:w14.cell? ⟨w,2,none⟩=some (.int .i64 0):=(KR14.out.cell 2).trans (by simp)
   have rf2:=KR14.out.frozen 2
   have rlt:=KR14.out.lt
   have KE:Hid (((((w14.setCell ⟨w,0,none⟩ (.int .i64 nx)).setCell ⟨w,1,none⟩ (.int .i64 (rv:Int))).setCell ⟨w,2,none⟩ (.int .i64 (rn:Int)))).heap[w.heap.size]?=some (.cells #[.int .i64 nx,(rv:Int),(rn:Int)] 39 (0,0))):=((KR14.out.set_ 0 _).set_ 1 _).set_ 2 _
   have HFin:Hid (DrewGB w (.returned (.tuple #[.agg #[.int .i64 nx,(rv:Int),(rn:Int)],.slice (some ⟨kb,0,none⟩) 1 1])) (((w14.setCell ⟨w,0,none⟩ (.int .i64 nx)).setCell ⟨w,1,none⟩ (.int .i64 (rv:Int))).setCell ⟨w,2,none⟩ (.int .i64 (rn:Int)))):=by
    have hzz:((((w14.setCell ⟨w,0,none⟩ (.int .i64 nx)).setCell ⟨w,1,none⟩ (.int .i64 (rv:Int))).setCell ⟨w,2,none⟩ (.int .i64 (rn:Int)))).heap.size=(w14).heap.size:=by simp [World.setCell]
    exact ⟨⟨nx,rv,rn⟩,_,_,_,rfl,((HB14.out.setCell (zz8 _) _).setCell (zz8 _) _).setCell (zz8 _) _,HBD.out.mono (fun b hb=>by rw [zz7 _ _ _ _ (by show b≠w.heap.size;exact HKN.out b hb),zz7 _ _ _ _ (by show b≠w.heap.size;exact HKN.out b hb),zz7 _ _ _ _ (by show b≠w.heap.size;exact HKN.out b hb)]) (fun x _ cs G hk h=>zA3 _ _ x cs G hk h),fun b hb=>by rw [hzz];exact HKU.out b hb⟩
   go_wp2
   clear z0 z1 z2 zlt rc0 rf0 rc1 rf1 rc2 rf2 rlt
   refine bodyPost_ret (results_ct rfl _ _ (w.heap.size) 39 #[.int .i64 nx,(rv:Int),(rn:Int)] (0,0) _ rfl KE.out Try.underlying39 rfl rfl) rfl ?_
   exact HFin.out
  |true =>
   obtain ⟨lb,loff,rfl⟩:=HL14.out.ptr (by omega)
   obtain ⟨pA,pcap,GP,hlb,p0,p1,p2,p3,p4,p5,hpp,hpu⟩:=ArrCl.first HL14.out UHL14.out hnz
   have hok0:=HCL.out cls[0] (List.getElem_mem hnz)
   have hn0:=(patOk_parts hok0.2).2
   have hsh0:=(patOk_parts hok0.2).1
   generalize cls[0]=c0 at p0 p1 p2 p3 p4 p5 hpp hok0 hn0 hsh0
   have HPP:=jj hpp
   have HPU:=jj hpu
   have HOK:=jj hsh0
   have HN0:=jj hn0
   have g3:(0:Int)<(cls.length:Int):=by omega
   clear hpp hpu hok0 hn0 hsh0
   go_wp2_with fail
   clear hrp
   have HS:Hid (∀ C:World,Below w14 w14 C→(C.cell? ⟨lb,loff,none⟩=c0.pat.op∧C.cell? ⟨lb,loff+1,none⟩=c0.pat.ct∧C.cell? ⟨lb,loff+2,none⟩=c0.pat.n∧C.cell? ⟨lb,loff+3,none⟩=c0.pat.m∧C.cell? ⟨lb,loff+4,none⟩=c0.pat.va∧C.cell? ⟨lb,loff+5,none⟩=some (.slice pA c0.pat.ks.length pcap)∧C.cell? ⟨kv,0,none⟩=va.c∧C.cell? ⟨kv,1,none⟩=va.n∧C.cell? ⟨kv,2,none⟩=some (.slice vA va.ks.length vcap))):=fun C hb=>⟨(hb.cell (hlb)).trans p0,(hb.cell (hlb)).trans p1,(hb.cell (hlb)).trans p2,(hb.cell (hlb)).trans p3,(hb.cell (hlb)).trans p4,(hb.cell (hlb)).trans p5,(hb.cell (KV14.out.lt)).trans ((KV14.out.cell 0).trans (by simp)),(hb.cell (KV14.out.lt)).trans ((KV14.out.cell 1).trans (by simp)),(hb.cell (KV14.out.lt)).trans ((KV14.out.cell 2).trans (by simp))⟩
   have hC0:Below w14 w14 w14.drew:=(zy2 _ _).drew
   refine wpBS HS.out (T:=fun _=>True) (d:=99) (by kernel_rfl) ?_
   obtain ⟨wd,hwd⟩:∃ X,X=w14.drew:=⟨_,rfl⟩
   rw [←hwd] at hC0  ⊢
   clear hwd
   have hS0:=HS.out _ hC0
   have hT0:True:=trivial
   refine wV 0 rfl hS0 hT0 ?_
   (try simp only [zz])
   refine wV 1 rfl hS0 hT0 ?_
   (try simp only [zz])
   refine wV 2 rfl hS0 hT0 ?_
   (try simp only [zz])
   refine wV 3 rfl hS0 hT0 ?_
   (try simp only [zz])
   refine wV 4 rfl hS0 hT0 ?_
   (try simp only [zz])
   refine Go.Proofs.Ytjjclcmmfeegfaa.w1 5 rfl fun K hK=>?_
   go_simp
   go_at_call 37
   refine (spec_l3Match c0.pat 10 4 xs t va HOK.out HFIT.out wd _ [] [] _ GP _ Fv ⟨_,_,rfl,zz8 _,by simp [maxLen],.inl ⟨rfl,rfl⟩⟩ (Under.nil _) (HPP.out.below hC0 HPU.out) (HPU.out.mono hC0.size) (HV14.out.below hC0 UHV14.out) (UHV14.out.mono hC0.size) (by have:=HN0.out;simp;omega)).mono ?_
   rintro e C1 ⟨x5,ok5,F5,rfl,hb5,-,ha5,-⟩
   have hC1:Below w14 w14 C1:=hC0.trans (hb5.mono hC0.size)
   have hS1:=HS.out _ hC1
   obtain ⟨bs5,hx5,hu5⟩:=ha5
   have HX5:=jj hx5
   have HU5:=jj hu5
   clear hx5 hu5
   (try dsimp only)
   refine hK.out _ _ hS1 (fun _=>trivial) ?_
   clear hK K
   (try simp only [zz])
   refine wV 6 rfl hS1 hT0 ?_
   (try simp only [zz])
   refine wV 7 rfl hS1 hT0 ?_
   (try simp only [zz])
   refine wV 8 rfl hS1 hT0 ?_
   (try simp only [zz])
   refine wV 9 rfl hS1 hT0 ?_
   (try simp only [zz])
   refine wV 10 rfl hS1 hT0 ?_
   (try simp only [zz])
   refine wE (by kernel_rfl) ?_
   clear hS0 hS1 hT0
   clear p0 p1 p2 p3 p4 p5 hlb
   have KR15:=jj (KR14.out.same (hC1.block _ KR14.out.lt))
   have KG15:=jj (KG14.out.same (hC1.block _ KG14.out.lt))
   have HB15:Hid (Below w w C1):=HB14.out.trans (hC1.mono HB14.out.size)
   obtain ⟨w15,hw15⟩:∃ X,X=C1:=⟨_,rfl⟩
   rw [←hw15] at KR15 KG15 HB15 HX5 HU5 ⊢
   clear hw15 hb5 hC0 hC1
   obtain ⟨F6,hx6,hf6⟩:=arr_thin (fun x _ cs G h=>BdR_thin x cs G h) HX5.out
   have HX6:=jj hx6
   have HN6:Hid (∀ b∈F6,b≠w.heap.size):=fun b hb e=>by
    obtain ⟨i,A,n,c,hc⟩:=(hf6 b hb).2
    rw [e,KR15.out.cell i] at hc
    rcases i with _ | _ | _ | i <;> simp at hc
   have HU6:Hid (∀ b∈F6,b<w15.heap.size):=fun b hb=>HU5.out b (hf6 b hb).1
   clear hx6 hf6
   have z0:w15.cell? ⟨kg,0,none⟩=some (.int .i64 nx):=(KG15.out.cell 0).trans (by simp)
   have z1:w15.cell? ⟨kg,1,none⟩=(rv:Int):=(KG15.out.cell 1).trans (by simp)
   have z2:w15.cell? ⟨kg,2,none⟩=(rn:Int):=(KG15.out.cell 2).trans (by simp)
   have zlt:=KG15.out.lt
   have rc0:w15.cell? ⟨w,0,none⟩=some (.int .i64 0):=(KR15.out.cell 0).trans (by simp)
   have rf0:=KR15.out.frozen 0
   have rc1:w15.cell? ⟨w,1,none⟩=some (.int .i64 0):=(KR15.out.cell 1).trans (by simp)
   have rf1:=KR15.out.frozen 1
   have rc2:w15.cell? ⟨w,2,none⟩=some (.int .i64 0):=(KR15.out.cell 2).trans (by simp)
   have rf2:=KR15.out.frozen 2
   have rlt:=KR15.out.lt
   have KE:Hid (((((w15.setCell ⟨w,0,none⟩ (.int .i64 nx)).setCell ⟨w,1,none⟩ (.int .i64 (rv:Int))).setCell ⟨w,2,none⟩ (.int .i64 (rn:Int)))).heap[w.heap.size]?=some (.cells #[.int .i64 nx,(rv:Int),(rn:Int)] 39 (0,0))):=((KR15.out.set_ 0 _).set_ 1 _).set_ 2 _
   have HFin:Hid (DrewGB w (.returned (.tuple #[.agg #[.int .i64 nx,(rv:Int),(rn:Int)],x5])) (((w15.setCell ⟨w,0,none⟩ (.int .i64 nx)).setCell ⟨w,1,none⟩ (.int .i64 (rv:Int))).setCell ⟨w,2,none⟩ (.int .i64 (rn:Int)))):=by
    have hzz:((((w15.setCell ⟨w,0,none⟩ (.int .i64 nx)).setCell ⟨w,1,none⟩ (.int .i64 (rv:Int))).setCell ⟨w,2,none⟩ (.int .i64 (rn:Int)))).heap.size=(w15).heap.size:=by simp [World.setCell]
    exact ⟨⟨nx,rv,rn⟩,bs5,_,_,rfl,((HB15.out.setCell (zz8 _) _).setCell (zz8 _) _).setCell (zz8 _) _,HX6.out.mono (fun b hb=>by rw [zz7 _ _ _ _ (by show b≠w.heap.size;exact HN6.out b hb),zz7 _ _ _ _ (by show b≠w.heap.size;exact HN6.out b hb),zz7 _ _ _ _ (by show b≠w.heap.size;exact HN6.out b hb)]) (fun x _ cs G hk h=>zA3 _ _ x cs G hk h),fun b hb=>by rw [hzz];exact HU6.out b hb⟩
   go_wp2
   clear z0 z1 z2 zlt rc0 rf0 rc1 rf1 rc2 rf2 rlt
   refine bodyPost_ret (results_ct rfl _ _ (w.heap.size) 39 #[.int .i64 nx,(rv:Int),(rn:Int)] (0,0) _ rfl KE.out Try.underlying39 rfl rfl) rfl ?_
   exact HFin.out
 ·have g1:decide ((cls.length:Int)>0)=false:=decide_eq_false (by omega)
  have g2:decide ((0:Int)<(cls.length:Int))=false:=decide_eq_false (by omega)
  have z0:w12.cell? ⟨kg,0,none⟩=some (.int .i64 nx):=(KG12.out.cell 0).trans (by simp)
  have z1:w12.cell? ⟨kg,1,none⟩=(rv:Int):=(KG12.out.cell 1).trans (by simp)
  have z2:w12.cell? ⟨kg,2,none⟩=(rn:Int):=(KG12.out.cell 2).trans (by simp)
  have zlt:=KG12.out.lt
  have rc0:w12.cell? ⟨w,0,none⟩=some (.int .i64 0):=(KR12.out.cell 0).trans (by simp)
  have rf0:=KR12.out.frozen 0
  have rc1:w12.cell? ⟨w,1,none⟩=some (.int .i64 0):=(KR12.out.cell 1).trans (by simp)
  have rf1:=KR12.out.frozen 1
  have rc2:w12.cell? ⟨w,2,none⟩=some (.int .i64 0):=(KR12.out.cell 2).trans (by simp)
  have rf2:=KR12.out.frozen 2
  have rlt:=KR12.out.lt
  have hzs:((((w12.setCell ⟨w,0,none⟩ (.int .i64 nx)).setCell ⟨w,1,none⟩ (.int .i64 (rv:Int))).setCell ⟨w,2,none⟩ (.int .i64 (rn:Int)))).heap.size=w12.heap.size:=by simp [World.setCell]
  have hwl:w.heap.size<w12.heap.size:=by have:=HR12.out.lt;omega
  have hbx:Blk ((((w12.setCell ⟨w,0,none⟩ (.int .i64 nx)).setCell ⟨w,1,none⟩ (.int .i64 (rv:Int))).setCell ⟨w,2,none⟩ (.int .i64 (rn:Int))).alloc (.cells #[(bv:Int),.int .i64 (-1),(bn:Int),.slice none 0 0] 48)) w12.heap.size 48 #[(bv:Int),.int .i64 (-1),(bn:Int),.slice none 0 0]:=by
   have h:=Blk.new ((((w12.setCell ⟨w,0,none⟩ (.int .i64 nx)).setCell ⟨w,1,none⟩ (.int .i64 (rv:Int))).setCell ⟨w,2,none⟩ (.int .i64 (rn:Int)))) 48 #[(bv:Int),.int .i64 (-1),(bn:Int),.slice none 0 0]
   rw [hzs] at h
   exact h
  have KE:Hid ((((((w12.setCell ⟨w,0,none⟩ (.int .i64 nx)).setCell ⟨w,1,none⟩ (.int .i64 (rv:Int))).setCell ⟨w,2,none⟩ (.int .i64 (rn:Int))).alloc (.cells #[(bv:Int),.int .i64 (-1),(bn:Int),.slice none 0 0] 48))).heap[w.heap.size]?=some (.cells #[.int .i64 nx,(rv:Int),(rn:Int)] 39 (0,0))):=(((KR12.out.set_ 0 _).set_ 1 _).set_ 2 _).same (Below.heap_alloc _ _ _ (by rw [hzs];exact hwl))
  have HFin:Hid (DrewGB w (.returned (.tuple #[.agg #[.int .i64 nx,(rv:Int),(rn:Int)],.slice (some ⟨w12,0,none⟩) 1 1])) ((((w12.setCell ⟨w,0,none⟩ (.int .i64 nx)).setCell ⟨w,1,none⟩ (.int .i64 (rv:Int))).setCell ⟨w,2,none⟩ (.int .i64 (rn:Int))).alloc (.cells #[(bv:Int),.int .i64 (-1),(bn:Int),.slice none 0 0] 48))):=⟨⟨nx,rv,rn⟩,_,_,[w12.heap.size],rfl,((((HB12.out.setCell (zz8 _) _).setCell (zz8 _) _).setCell (zz8 _) _).alloc (by rw [hzs];exact HB12.out.size) _),arr_bd1 hbx,fun b hb=>by rw [List.mem_singleton.1 hb];exact hbx.lt⟩
  clear hzs hwl hbx
  go_wp2
  clear z0 z1 z2 zlt rc0 rf0 rc1 rf1 rc2 rf2 rlt
  refine bodyPost_ret (results_ct rfl _ _ (w.heap.size) 39 #[.int .i64 nx,(rv:Int),(rn:Int)] (0,0) _ rfl KE.out Try.underlying39 rfl rfl) rfl ?_
  exact HFin.out
def gtest (g:Gd) (v:V):Bool:=(v.c == -1) && ((g.op==1 && decide (v.n<g.n)) || (g.op==2 && v.n==g.n))
def guardHolds (g:Gd) (xs:List Bd):Bool:=if g.op=0 then true else match xs.find? fun b=>b.var==g.va with
 |some b=>gtest g b.val
 |none=>false
theorem gtest_ways (g:Gd) (v:V):(gtest g v=false∧(v.c == -1)=false∧(v.c != -1)=true)∨(gtest g v=true∧(v.c == -1)=true∧(v.c != -1)=false∧(g.op==1)=true∧decide (v.n<g.n)=true∧(g.op==2)=false)∨(gtest g v=false∧(v.c == -1)=true∧(v.c != -1)=false∧(g.op==1)=true∧decide (v.n<g.n)=false∧(g.op==2)=false)∨(gtest g v=true∧(v.c == -1)=true∧(v.c != -1)=false∧(g.op==1)=false∧(g.op==2)=true∧(v.n==g.n)=true)∨(gtest g v=false∧(v.c == -1)=true∧(v.c != -1)=false∧(g.op==1)=false∧(g.op==2)=true∧(v.n==g.n)=false)∨(gtest g v=false∧(v.c == -1)=true∧(v.c != -1)=false∧(g.op==1)=false∧(g.op==2)=false):=by
 unfold gtest
 by_cases hc:v.c = -1
 ·by_cases h1:g.op=1
  ·have h2:(g.op==2)=false:=by rw [h1];rfl
   by_cases hl:v.n<g.n
   ·refine .inr (.inl ?_);simp [hc,h1,hl]
   ·refine .inr (.inr (.inl ?_));simp [hc,h1,hl]
  ·by_cases h2:g.op=2
   ·by_cases he:v.n=g.n
    ·refine .inr (.inr (.inr (.inl ?_)));simp [hc,h2,he]
    ·refine .inr (.inr (.inr (.inr (.inl ?_))));simp [hc,h2,he]
   ·refine .inr (.inr (.inr (.inr (.inr ?_))));simp [hc,h1,h2]
 ·refine .inl ?_;simp [hc]
theorem guardHolds_hit {g:Gd} {xs:List Bd} {k:Nat} (h0:(g.op==0)=false) (h:FirstAt (fun b:Bd=>b.var==g.va) xs k):∃ hk:k<xs.length,guardHolds g xs=gtest g xs[k].val:=by
 obtain ⟨hk,hf⟩:=h.find
 exact ⟨hk,by unfold guardHolds;rw [if_neg (by simpa using h0),hf]⟩
theorem guardHolds_miss {g:Gd} {xs:List Bd} (h0:(g.op==0)=false) (h:FirstAt (fun b:Bd=>b.var==g.va) xs (-1)):guardHolds g xs=false:=by
 unfold guardHolds;rw [if_neg (by simpa using h0),h.find_none]
theorem guardHolds_none {g:Gd} {xs:List Bd} (h0:g.op=0):guardHolds g xs=true:=by
 unfold guardHolds;rw [if_pos h0]
theorem spec_GuardHolds (g:Gd) (xs:List Bd) (w:World) (F:List Nat) (x:Value) (hx:Arr w (BdR w) xs x F) (hF:Under w F) :
  Calls Try.prog 14 #[.agg #[g.op,g.va,g.n],x] w fun e w'=>e=.returned (.bool (guardHolds g xs))∧Below w w w':=by
 have HX:=jj hx
 obtain ⟨A,cap,rfl,hl,hm⟩:=hx.form
 clear hx
 have HF:=jj hF
 clear hF
 by_cases h0:g.op=0
 ·have h0':(g.op==0)=true:=by simpa using h0
  have hf:=jj (guardHolds_none (xs:=xs) h0)
  clear h0
  go_enter Try.func14,Try.ntmps14
  go_wp2
  go_ret
  exact ⟨zA0 hf.out.symm,(zy2 _ _).alloc (zz8 _) _⟩
 ·have h0':(g.op==0)=false:=by simpa using h0
  clear h0
  obtain ⟨r,hr⟩:=FirstAt.ex (fun b:Bd=>b.var==g.va) xs
  have HR:=jj hr
  clear hr
  go_enter Try.func14,Try.ntmps14
  go_wp2
  obtain ⟨W1,hW⟩:∃ X,X=w.alloc (.cells #[g.op,g.va,g.n] 39):=⟨_,rfl⟩
  have hB1:Below w w W1:=by rw [hW];exact (zy2 _ _).alloc (zz8 _) _
  have bx:Hid (Blk W1 w 39 #[g.op,g.va,g.n]):=by rw [hW];exact Blk.new _ _ _
  rw [←hW]
  clear hW
  go_loopw [5] (fun i wr=>∃ k:Nat,k≤xs.length∧i=.int .i64 k∧Hid (∀ j (hj:j<xs.length),j<k→(xs[j].var==g.va)=false)∧Below W1 W1 wr) (fun i _=>xs.length-(intOf i).toNat)
  case atStart=>exact ⟨0,Nat.zero_le _,rfl,fun j _ h=>by omega,zy2 _ _⟩
  case round =>
   obtain ⟨k,hk,rfl,HM,hb1⟩:=hrel
   have hB:=hB1.trans (hb1.mono hB1.size)
   have bw:=bx.out.same (hb1.block _ bx.out.lt)
   have x0:wr.cell? ⟨w,0,none⟩=g.op:=(bw.cell 0).trans (by simp)
   have x1:wr.cell? ⟨w,1,none⟩=g.va:=(bw.cell 1).trans (by simp)
   have x2:wr.cell? ⟨w,2,none⟩=g.n:=(bw.cell 2).trans (by simp)
   clear bw
   by_cases hlt:k<xs.length
   ·have hi0:(0:Int)≤(k:Int):=by omega
    have hi1:(k:Int)<(xs.length:Int):=by omega
    obtain ⟨b,off,cs,G,rfl,hb,hcs,hv,hG⟩:=HX.out.get BdR_len hlt
    have hbl:=HF.out b hb
    have hGF:=HF.out.sub hG
    have hv1:=hv.below hB hGF
    have hcs1:=hcs.same (hB.block b hbl)
    obtain ⟨A1,cap1,rfl⟩:=BdR_form hv
    have c0:=hcs1 0 _ rfl
    have c1:=hcs1 1 _ rfl
    have c2:=hcs1 2 _ rfl
    have c3:=hcs1 3 _ rfl
    simp only [Nat.add_zero] at c0
    clear hcs hcs1 hv hG
    have HV:=jj hv1
    clear hv1
    have HG:=jj hGF
    clear hGF
    cases hva:(xs[k].var==g.va) with
    |false =>
     have hne:(xs[k].var != g.va)=true:=by rw [bne,hva];rfl
     have hM2:Hid (∀ j (hj:j<xs.length),j<k+1→(xs[j].var==g.va)=false):=fun j hj h=>by
      rcases Nat.lt_or_ge j k with h1 | h1
      ·exact HM.out j hj h1
      ·obtain rfl:j=k:=by omega
       exact hva
     go_wp2_with fail
     go_quiet (fail)
     go_wp2
     go_roundw
     case rel=>exact ⟨k+1,by omega,by go_num,hM2,zAR hb1 _⟩
     case measure=>simp [intOf];omega
    |true =>
     have hne:(xs[k].var != g.va)=false:=by rw [bne,hva];rfl
     have hrk:=HR.out.hit hlt hva HM.out
     have hr2:=HR.out
     rw [hrk] at hr2
     obtain ⟨hk0,hgh⟩:=guardHolds_hit h0' hr2
     clear hr2 hrk
     have HGH:=jj hgh
     clear hgh
     have hBd:=fun n=>zAR hB n
     have HBd:=jj hBd
     clear hBd
     rcases gtest_ways g xs[k].val with ⟨HGT,hc0,hc1⟩ | ⟨HGT,hc0,hc1,ho1,hl,ho2⟩ | ⟨HGT,hc0,hc1,ho1,hl,ho2⟩ | ⟨HGT,hc0,hc1,ho1,ho2,he⟩ | ⟨HGT,hc0,hc1,ho1,ho2,he⟩ | ⟨HGT,hc0,hc1,ho1,ho2⟩
     all_goals
      have hf:=jj (HGH.out.trans HGT)
      clear HGT
      go_wp2_with fail
      go_quiet (fail)
      go_wp2
      go_ret
      exact ⟨zA0 hf.out.symm,HBd.out _⟩
   ·have hr2:=HR.out
    rw [hr2.miss (fun j hj=>HM.out j hj (by omega))] at hr2
    have hf:=jj (guardHolds_miss h0' hr2)
    clear hr2
    go_wp2
    go_ret
    exact ⟨zA0 hf.out.symm,hB⟩
set_option maxHeartbeats 400000 in
theorem guard_closure (x:Bd) (w:World) (cs:List Value) (F:List Nat) (gb:Nat) (va:Int) (hv:BdR w x cs F) (hg:w.cell? ⟨gb,1,none⟩=some (.int .i64 va)) (hlt:gb<w.heap.size) :
  Calls Try.prog 39 #[.agg cs.toArray,.pointer (some ⟨gb,0,none⟩)] w fun e w'=>e=.returned (.bool (x.var==va))∧Below w w w':=by
 obtain ⟨A,cap,rfl⟩:=BdR_form hv
 clear hv
 cases hva:(x.var==va) with
 |false =>
  go_enter Try.func39,Try.ntmps39
  go_wp2
  go_ret
  exact ⟨rfl,(zy2 _ _).alloc (zz8 _) _⟩
 |true =>
  go_enter Try.func39,Try.ntmps39
  go_wp2
  go_ret
  exact ⟨rfl,(zy2 _ _).alloc (zz8 _) _⟩
set_option maxHeartbeats 800000 in
theorem IndexFunc_Bd (xs:List Bd) (w:World) (F:List Nat) (x:Value) (gb:Nat) (va r:Int) (hx:Arr w (BdR w) xs x F) (hF:Under w F) (hg:w.cell? ⟨gb,1,none⟩=some (.int .i64 va)) (hgl:gb<w.heap.size)
  (hr:FirstAt (fun b:Bd=>b.var==va) xs r) :
  Calls Try.prog 38 #[x,.func (.func 39) #[] #[.pointer (some ⟨gb,0,none⟩)]] w fun e w'=>e=.returned (.int .i64 r)∧Below w w w':=by
 have HX:=jj hx
 obtain ⟨A,cap,rfl,hl,hm⟩:=hx.form
 clear hx
 have HF:=jj hF
 clear hF
 have HR:=jj hr
 clear hr
 have HG0:=jj hg
 clear hg
 go_enter Try.func38,Try.ntmps38
 go_wp2
 go_loopw [8] (fun i wr=>∃ k:Nat,k≤xs.length∧i=.int .i64 k∧Hid (∀ j (hj:j<xs.length),j<k→(xs[j].var==va)=false)∧Below w w wr) (fun i _=>xs.length-(intOf i).toNat)
 case atStart=>exact ⟨0,Nat.zero_le _,rfl,fun j _ h=>by omega,zy2 _ _⟩
 case round =>
  obtain ⟨k,hk,rfl,HM,hB⟩:=hrel
  by_cases hlt:k<xs.length
  ·have hi0:(0:Int)≤(k:Int):=by omega
   have hi1:(k:Int)<(xs.length:Int):=by omega
   obtain ⟨b,off,cs,G,rfl,hb,hcs,hv,hG⟩:=HX.out.get BdR_len hlt
   have hbl:=HF.out b hb
   have hGF:=HF.out.sub hG
   have hv1:=hv.below hB hGF
   have hcs1:=hcs.same (hB.block b hbl)
   obtain ⟨A1,cap1,rfl⟩:=BdR_form hv
   have c0:=hcs1 0 _ rfl
   have c1:=hcs1 1 _ rfl
   have c2:=hcs1 2 _ rfl
   have c3:=hcs1 3 _ rfl
   simp only [Nat.add_zero] at c0
   clear hcs hcs1 hv hG
   have HV:=jj hv1
   clear hv1
   have HG:=jj hGF
   clear hGF
   go_wp2_with fail
   refine (guard_closure xs[k] wr _ G gb va HV.out ((hB.cell (p:=⟨gb,1,none⟩) hgl).trans HG0.out) (zz9 hgl hB.size)).mono ?_
   rintro e w' ⟨rfl,hB'⟩
   have hB2:=hB.trans (hB'.mono hB.size)
   cases hva:(xs[k].var==va) with
   |false =>
    have hM2:Hid (∀ j (hj:j<xs.length),j<k+1→(xs[j].var==va)=false):=fun j hj h=>by
     rcases Nat.lt_or_ge j k with h1 | h1
     ·exact HM.out j hj h1
     ·obtain rfl:j=k:=by omega
      exact hva
    go_wp2
    go_roundw
    case rel=>exact ⟨k+1,by omega,by go_num,hM2,hB2⟩
    case measure=>simp [intOf];omega
   |true =>
    have hrk:=jj (HR.out.hit hlt hva HM.out)
    go_wp2
    go_ret
    exact ⟨zAP hrk.out.symm,hB2⟩
  ·have hrk:=jj (HR.out.miss (fun j hj=>HM.out j hj (by omega)))
   go_wp2
   go_ret
   exact ⟨zAP hrk.out.symm,hB⟩
theorem impl_GuardHolds (g:Gd) (xs:List Bd) (w:World) (F:List Nat) (x:Value) (hx:Arr w (BdR w) xs x F) (hF:Under w F) :
  Calls Try.prog 13 #[.agg #[g.op,g.va,g.n],x] w fun e w'=>e=.returned (.bool (guardHolds g xs))∧Below w w w':=by
 have HX:=jj hx
 obtain ⟨A,cap,rfl,hl,hm⟩:=hx.form
 clear hx
 have HF:=jj hF
 clear hF
 by_cases h0:g.op=0
 ·have h0':(g.op==0)=true:=by simpa using h0
  have hf:=jj (guardHolds_none (xs:=xs) h0)
  clear h0
  go_enter Try.func13,Try.ntmps13
  go_wp2
  go_ret
  exact ⟨zA0 hf.out.symm,(zy2 _ _).alloc (zz8 _) _⟩
 ·have h0':(g.op==0)=false:=by simpa using h0
  clear h0
  obtain ⟨r,hr⟩:=FirstAt.ex (fun b:Bd=>b.var==g.va) xs
  have hrr:=hr.range
  have HR:=jj hr
  clear hr
  go_enter Try.func13,Try.ntmps13
  go_wp2_with fail
  obtain ⟨W1,hW⟩:∃ X,X=w.alloc (.cells #[g.op,g.va,g.n] 39):=⟨_,rfl⟩
  have hB1:Below w w W1:=by rw [hW];exact (zy2 _ _).alloc (zz8 _) _
  have bx:Hid (Blk W1 w 39 #[g.op,g.va,g.n]):=by rw [hW];exact Blk.new _ _ _
  rw [←hW]
  clear hW
  refine (IndexFunc_Bd xs W1 F _ w.heap.size g.va r (ArrBd.below HX.out hB1 HF.out) (HF.out.mono hB1.size) ((bx.out.cell 1).trans (by simp)) bx.out.lt HR.out).mono ?_
  rintro e wr ⟨rfl,hb1⟩
  have hB:=hB1.trans (hb1.mono hB1.size)
  have bw:=bx.out.same (hb1.block _ bx.out.lt)
  have x0:wr.cell? ⟨w,0,none⟩=g.op:=(bw.cell 0).trans (by simp)
  have x1:wr.cell? ⟨w,1,none⟩=g.va:=(bw.cell 1).trans (by simp)
  have x2:wr.cell? ⟨w,2,none⟩=g.n:=(bw.cell 2).trans (by simp)
  clear bw
  by_cases hneg:r<0
  ·obtain rfl:r = -1:=by omega
   have hf:=jj (guardHolds_miss h0' HR.out)
   clear hneg hrr
   go_wp2
   go_ret
   exact ⟨zA0 hf.out.symm,hB⟩
  ·obtain ⟨k,rfl⟩:=Int.eq_ofNat_of_zero_le (show 0≤r by omega)
   obtain ⟨hlt,hgh⟩:=guardHolds_hit h0' HR.out
   have HGH:=jj hgh
   clear hgh hneg hrr
   have hneg:¬(k:Int)<0:=by omega
   have hi0:(0:Int)≤(k:Int):=by omega
   have hi1:(k:Int)<(xs.length:Int):=by omega
   obtain ⟨b,off,cs,G,rfl,hb,hcs,hv,hG⟩:=HX.out.get BdR_len hlt
   have hbl:=HF.out b hb
   have hGF:=HF.out.sub hG
   have hv1:=hv.below hB hGF
   have hcs1:=hcs.same (hB.block b hbl)
   obtain ⟨A1,cap1,rfl⟩:=BdR_form hv
   have c0:=hcs1 0 _ rfl
   have c1:=hcs1 1 _ rfl
   have c2:=hcs1 2 _ rfl
   have c3:=hcs1 3 _ rfl
   simp only [Nat.add_zero] at c0
   clear hcs hcs1 hv hG
   have HV:=jj hv1
   clear hv1
   have HG:=jj hGF
   clear hGF
   rcases gtest_ways g xs[k].val with ⟨HGT,hc0,hc1⟩ | ⟨HGT,hc0,hc1,ho1,hl,ho2⟩ | ⟨HGT,hc0,hc1,ho1,hl,ho2⟩ | ⟨HGT,hc0,hc1,ho1,ho2,he⟩ | ⟨HGT,hc0,hc1,ho1,ho2,he⟩ | ⟨HGT,hc0,hc1,ho1,ho2⟩
   all_goals
    have hf:=jj (HGH.out.trans HGT)
    clear HGT
    go_wp2
    go_ret
    exact ⟨zA0 hf.out.symm,hB⟩
end Go.Proofs.Ytjjclcmmfeegfaa
namespace Go.Proofs.Ytjjclcmmfeegfaa
open Go.ChangeShapes Go.WideShapes Go.ChangeAt Go.RowKit
section
variable {H : Type} {enc : TypeId × Value → H} {P : Program} {w : World} {base : Nat} {spare : Nat → Bool} {held : Bool}
theorem cell_lt {w:World} {a:Addr} {v:Value} (h:w.cell? a=some v):a.block<w.heap.size:=by
 rcases Nat.lt_or_ge a.block w.heap.size with hl | hl
 ·exact hl
 ·unfold World.cell? at h
  rw [Array.getElem?_eq_none hl] at h
  cases h
theorem open_Arr {α:Type} (R:α→List Value→List Nat→Prop) {t e:TypeId} {k n fuel:Nat} {cs:List Value} {x:DataW H×List MemPlace} (ht:P.underlying t=some (.slice e)) (hk:P.cellsOf e=k) (hk0:0<k) (hf:fuel=n+1)
  (hR:∀ ds y,DataW.trod enc P w base spare held n e ds=some y→ds.length=k→∃ a F,R a ds F∧Under w F)
  (h:DataW.trod enc P w base spare held fuel t cs=some x):∃ xs v F,cs=[v]∧Arr w R xs v F∧Under w F:=by
 subst hf
 rcases DataW.trod_slice ht h with ⟨rfl,-⟩ | ⟨a,len,cap,elems,rest,m,hm,rfl,-,-,hl,hmax,hlen,hel,-,-⟩
 ·exact ⟨[],_,[],rfl,Arr.nil,Under.nil _⟩
 ·obtain rfl:n=m:=by omega
  by_cases h0:len=0
  ·subst h0
   exact ⟨[],_,[],rfl,⟨_,_,rfl,hl,hmax,.inl ⟨rfl,rfl⟩⟩,Under.nil _⟩
  ·have get:∀ i,i<len→∃ ds y,(∀ j,j<k→w.cell? (a.add (i*k+j))=ds[j]?)∧ds.length=k∧DataW.trod enc P w base spare held n e ds=some y:=fun i hi=>by
    have h1:=hel i hi
    rw [List.getElem?_eq_getElem (by omega),Option.bind_eq_some_iff] at h1
    obtain ⟨ds,h2,h3⟩:=h1
    obtain ⟨-,h4,h5⟩:=World.cells?_some h2
    rw [hk] at h4 h5
    refine ⟨ds,_,fun j hj=>?_,h4,h3⟩
    rw [←h5 j hj]
    congr 1
    unfold Addr.add
    by_cases e1:i*k=0 <;> by_cases e2:j=0 <;> simp [e1,e2,Nat.add_assoc]
   obtain ⟨b,off,spot⟩:=a
   obtain ⟨ds0,y0,g1,g2,-⟩:=get 0 (by omega)
   have hc0:w.cell? ⟨b,off,spot⟩=some (ds0[0]'(by omega)):=by
    have:=g1 0 hk0
    simpa [Addr.add,List.getElem?_eq_getElem (show 0<ds0.length by omega)] using this
   have hspot:spot=none:=by simpa using World.cell?_spot hc0
   subst hspot
   have hb:b<w.heap.size:=cell_lt hc0
   have key:∀ m,m≤len→∃ (xs:List α) (cs:List Value) (F:List Nat),xs.length=m∧cs.length=m*k∧CellsAt w b off cs∧Flat R xs cs F∧Under w F:=by
    intro m
    induction m with
    |zero=>intro _;exact ⟨[],[],[],rfl,by simp,fun j u hj=>by simp at hj,⟨rfl,rfl⟩,Under.nil _⟩
    |succ m ih =>
     intro hm
     obtain ⟨xs,cs,F,h1,h2,h3,h4,h5⟩:=ih (by omega)
     obtain ⟨ds,y,g1,g2,g3⟩:=get m (by omega)
     obtain ⟨z,G,r1,r2⟩:=hR ds y g3 g2
     refine ⟨xs ++ [z],cs ++ ds,F ++ G,by simp [h1],by simp [h2,g2,Nat.add_mul],h3.append (fun j u hj=>?_),h4.append (Flat.one r1),fun c hc=>?_⟩
     ·have hjk:j<k:=by rw [←g2];exact (List.getElem?_eq_some_iff.1 hj).1
      have:=g1 j hjk
      rw [hj,Addr.add_lit] at this
      rw [h2,←this]
      congr 2
      omega
     ·rcases List.mem_append.1 hc with hc | hc
      ·exact h5 c hc
      ·exact r2 c hc
   obtain ⟨xs,cs,F,h1,h2,h3,h4,h5⟩:=key len (zz8 _)
   refine ⟨xs,_,b :: F,rfl,⟨_,_,by rw [h1],by omega,hmax,.inr ⟨b,off,cs,F,rfl,h3,h4,rfl⟩⟩,fun c hc=>?_⟩
   rcases List.mem_cons.1 hc with rfl | hc
   ·exact hb
   ·exact h5 c hc
theorem open_slice_arg {α:Type} (R:α→List Value→List Nat→Prop) {t e:TypeId} {k:Nat} {r:Reach} {b0:Nat} {v:Value} {d:DataW H} {ps:List MemPlace} (ht:P.underlying t=some (.slice e)) (hk:P.cellsOf e=k) (hk0:0<k)
  (hR:∀ n ds y,DataW.trod enc P w base spare held n e ds=some y→∃ a F,R a ds F∧Under w F)
  (hval:Value.okWide P w r b0 t v) (h:DataW.Trod enc P w base spare held t v d ps):∃ xs F,Arr w R xs v F∧Under w F:=by
 obtain ⟨a,len,cap,rfl⟩:=okWide_slice ht hval
 obtain ⟨fuel,hf⟩:=h
 cases fuel with
 |zero=>simp [DataW.trod] at hf
 |succ n =>
  obtain ⟨xs,v,F,hv,ha,hF⟩:=open_Arr R ht hk hk0 rfl (fun ds y hd _=>hR n ds y hd) hf
  have:v=.slice a len cap:=by simpa [Value.cells] using hv.symm
  subst this
  exact ⟨xs,F,ha,hF⟩
end
end Go.Proofs.Ytjjclcmmfeegfaa
namespace Go.Proofs.Ytjjclcmmfeegfaa
open Go.ChangeShapes Go.WideShapes Go.ChangeAt Go.RowKit
set_option maxRecDepth 100000
theorem cellsOf_u8:Try.prog.cellsOf 5=1:=by kernel_rfl
theorem open_By_cells {H:Type} {enc:TypeId×Value→H} {w:World} {base:Nat} {spare:Nat→Bool} {held:Bool} (fuel:Nat) (cs:List Value) (x:DataW H×List MemPlace)
  (h:DataW.trod enc Try.prog w base spare held fuel 5 cs=some x):∃ v F,ByR w v cs F∧Under w F:=by
 cases fuel with
 |zero=>simp [DataW.trod] at h
 |succ n =>
 obtain ⟨i0,e0,-,e2⟩:=DataW.trod_int Try.underlying5 h
 have hw:IntKind.u8.min≤i0∧i0≤IntKind.u8.max:=by simpa [Lit.wf] using e2
 have h0:IntKind.u8.min=0:=rfl
 have h1:IntKind.u8.max=255:=rfl
 exact ⟨i0,[],⟨e0,rfl,by omega,by omega⟩,Under.nil _⟩
theorem open_Bytes {H:Type} {enc:TypeId×Value→H} {w:World} {base:Nat} {spare:Nat→Bool} {held:Bool} {r:Reach} {b0:Nat} {v:Value} {d:DataW H} {ps:List MemPlace} (hval:Value.okWide Try.prog w r b0 22 v)
  (h:DataW.Trod enc Try.prog w base spare held 22 v d ps):∃ (x:List Int) (F:List Nat),Arr w (ByR w) x v F∧Under w F :=
 open_slice_arg (ByR w) Try.underlying22 cellsOf_u8 (by decide) (fun n ds y hd=>open_By_cells n ds y hd) hval h
end Go.Proofs.Ytjjclcmmfeegfaa
