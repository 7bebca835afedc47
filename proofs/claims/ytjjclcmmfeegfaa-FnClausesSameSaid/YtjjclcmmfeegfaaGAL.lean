/-
  Lemmas, and contracts of functions. Conditions: none.
-/
import Derived.Test.YtjjclcmmfeegfaaGAE
import Derived.Test.YtjjclcmmfeegfaaGAF
import Derived.Test.YtjjclcmmfeegfaaGAD
import Derived.Test.YtjjclcmmfeegfaaGAA
import Derived.Maps.AppendAt
import Derived.Test.YtjjclcmmfeegfaaGAK
import Derived.Test.YtjjclcmmfeegfaaGAJ
import Derived.Deep.RegionHeld3
import Derived.Deep.RegionWith
import Derived.Deep.QuietTactic
import Derived.BigQuiet
import Derived.IntWalk
import Derived.Test.YtjjclcmmfeegfaaGAB
import Derived.Laws.EntriesVeiled
import Derived.ProofKit
import Derived.ChangeArms
import Derived.Deep.Fields
import Derived.Test.YtjjclcmmfeegfaaGAC
import Derived.Test.YtjjclcmmfeegfaaChecked

set_option linter.unusedVariables false
set_option linter.unusedSimpArgs false
set_option maxRecDepth 100000
set_option maxHeartbeats 1600000

namespace Go.Proofs.Ytjjclcmmfeegfaa
open Go.RowKit
def accI (xs:List Dt) (d:Nat) (t:Ty) (p:P) (i:Nat):List Vt:=accP [] xs d t p (if p.op=5 then min i 1 else i)
theorem accI_zero (xs:List Dt) (d:Nat) (t:Ty) (p:P):accI xs d t p 0=accP [] xs d t p 0:=by unfold accI;split <;> rfl
theorem accI_next {xs:List Dt} {d:Nat} {t:Ty} {p:P} {i:Nat} (hn:¬(p.op=5∧i=1)) (h2:p.op=5→p.ks.length=2) (h1:i<(typesP xs t p).length) (hi:i<p.ks.length):accI xs d t p (i+1)=accI xs d t p i ++ varsN xs d (typesP xs t p)[i] p.ks[i]:=by
 unfold accI
 by_cases h5:p.op=5
 ·have:=h2 h5
  have h0:i=0:=by
   rcases Nat.lt_or_ge i 1 with h | h
   ·omega
   ·exact absurd ⟨h5,by omega⟩ hn
  subst h0
  rw [if_pos h5,if_pos h5]
  exact accP_succ [] d h1 hi
 ·rw [if_neg h5,if_neg h5]
  exact accP_succ [] d h1 hi
theorem accI_or {xs:List Dt} {d:Nat} {t:Ty} {p:P} (h5:p.op=5) {i:Nat} (h:1≤i):accI xs d t p i=accI xs d t p 1:=by
 unfold accI
 rw [if_pos h5,if_pos h5]
 congr 1
 omega
theorem accI_done {xs:List Dt} {d:Nat} {t:Ty} {p:P} (h2:p.op=5→p.ks.length=2):accI xs d t p p.ks.length=varsN xs (d+1) t p:=by
 unfold accI
 rw [accP_done]
 ·rfl
 ·split
  ·rename_i h5
   rw [h2 h5];rfl
  ·rfl
theorem vars_or {xs:List Dt} {d:Nat} {t:Ty} {p:P} {k0 k1:P} (h5:p.op=5) (hk:p.ks=[k0,k1]):varsN xs (d+1) t p=varsN xs d t k0:=by
 have e:varsN xs (d+1) t p=(if namedB p=true then [⟨p.va,t⟩] else []) ++ (kidsV xs t p).flatMap fun x=>varsN xs d x.1 x.2:=rfl
 have kv:kidsV xs t p=[(t,k0)]:=by unfold kidsV;rw [typesP_or h5,hk,h5];rfl
 have nb:namedB p=false:=by unfold namedB;rw [h5];rfl
 rw [e,kv,nb]
 simp
theorem accI_one {xs:List Dt} {d:Nat} {t:Ty} {p:P} {k0 k1:P} (h5:p.op=5) (hk:p.ks=[k0,k1]):accI xs d t p 1=varsN xs d t k0:=by
 rw [←vars_or (xs:=xs) (d:=d) (t:=t) h5 hk,←accI_done (fun _=>by rw [hk];rfl),accI_or h5 (i:=p.ks.length) (by rw [hk];exact Nat.le_succ 1)]
def orOk (xs:List Dt) (d:Nat) (t:Ty) (p:P):Bool:=match p.ks with | [k0,k1]=>sameV (varsN xs d t k0) (varsN xs d t k1) | _=>true
section
variable {xs : List Dt} {d c : Nat} {t : Ty} {p : P}
theorem KidsOk.two (h:KidsOk xs d t p c p.ks.length) (h5:p.op=5):∃ k0 k1,p.ks=[k0,k1]∧dupFree (varsN xs d t k0)=true∧dupFree (varsN xs d t k1)=true:=by
 have hl:=h.len
 have hty:=typesP_or (xs:=xs) (t:=t) h5
 rw [hty] at hl
 obtain ⟨k0,k1,hk⟩:=kids_two (show p.ks.length=2 from hl)
 have a0:=h.all 0 (by rw [hl];exact Nat.zero_lt_two) (by rw [hty];exact Nat.zero_lt_two) (by rw [hl];exact Nat.zero_lt_two)
 have a1:=h.all 1 (by rw [hl];exact Nat.one_lt_two) (by rw [hty];exact Nat.one_lt_two) (by rw [hl];exact Nat.one_lt_two)
 simp only [hty,hk,zz2,zz3] at a0 a1
 exact ⟨k0,k1,hk,lin_dup xs d t k0 a0.1 a0.2,lin_dup xs d t k1 a1.1 a1.2⟩
theorem KidsOk.or_no (h:KidsOk xs d t p c p.ks.length) (h5:p.op=5) (ho:orOk xs d t p=false):scanPB xs (d+1) t p c=false:=by
 obtain ⟨k0,k1,hk,-,d1⟩:=h.two h5
 rw [h.done,if_pos h5,hk]
 unfold orOk at ho
 rw [hk] at ho
 simp only at ho ⊢
 rw [alike_same d1];exact ho
theorem KidsOk.fin (h:KidsOk xs d t p c p.ks.length) (ho:p.op=5→orOk xs d t p=true):scanPB xs (d+1) t p c=dupFree (varsN xs (d+1) t p):=by
 rw [h.done]
 by_cases h5:p.op=5
 ·obtain ⟨k0,k1,hk,d0,d1⟩:=h.two h5
  have ho:=ho h5
  unfold orOk at ho
  rw [hk] at ho
  rw [if_pos h5,vars_or h5 hk,d0,hk]
  simp only at ho ⊢
  rw [alike_same d1];exact ho
 ·rw [if_neg h5]
end
theorem kidSum_sizes (p:P) (i:Nat):kidSum p i=P.sizes (p.ks.take i):=by
 unfold kidSum
 rw [foldl_nodes,P.sizes_eq];omega
theorem accI_len (xs:List Dt) (d:Nat) (t:Ty) (p:P) (i:Nat):(accI xs d t p i).length≤1+kidSum p i:=by
 have key:∀ j,j≤i→(accP [] xs d t p j).length≤1+kidSum p i:=fun j hj=>by
  have h1:=accP_len [] xs d t p j
  have h2:=zAG (p.ks.take i) j
  rw [List.take_take,Nat.min_eq_left hj] at h2
  rw [kidSum_sizes]
  simp only [List.length_nil] at h1
  omega
 unfold accI
 split
 ·exact key _ (Nat.min_le_left _ _)
 ·exact key _ (zz8 _)
theorem same_or {xs:List Dt} {d:Nat} {t:Ty} {p:P} {i:Nat} (h5:p.op=5) (hl:p.ks.length=2) (hi:i<p.ks.length) (hil:i<(typesP xs t p).length) (h1:i=1):sameV (accI xs d t p i) (varsN xs d (typesP xs t p)[i] p.ks[i])=orOk xs d t p:=by
 subst h1
 obtain ⟨k0,k1,hk⟩:=kids_two hl
 have hty:=typesP_or (xs:=xs) (t:=t) h5
 rw [accI_one h5 hk]
 unfold orOk
 simp only [hty,hk,zz3,zz2]
theorem grown_chg' {w w7:World} {v:Value} (hgr:w.grownBy w7 v.ownBlock):Chg (rowOf v) w w7 :=
 ⟨hgr.os,hgr.tape,hgr.output,hgr.size,fun b hb hF=>hgr.block b hb (fun e=>hF (zA2.2 e.symm))⟩
theorem vars_range (xs:List Dt):∀ (d:Nat) (t:Ty) (p:P),shapeB xs d t p=true→∀ v∈varsN xs d t p,0≤v.var∧v.var≤5
 |0,_,_,h,_,_=>by cases h
 |d+1,t,p,h,v,hv=>by
  rw [shapeB_succ] at h
  simp only [Bool.and_eq_true,beq_iff_eq] at h
  obtain ⟨ho,hl,ha⟩:=h
  have e:varsN xs (d+1) t p=(if namedB p=true then [⟨p.va,t⟩] else []) ++ (kidsV xs t p).flatMap fun x=>varsN xs d x.1 x.2:=rfl
  rw [e] at hv
  rcases List.mem_append.1 hv with h | h
  ·split at h
   ·rename_i hn
    rw [zy1] at h
    subst h
    unfold ownB at ho
    rw [if_pos hn] at ho
    simp only [Bool.and_eq_true,decide_eq_true_eq] at ho
    exact ho.1
   ·cases h
  ·obtain ⟨x,hx,hv⟩:=List.mem_flatMap.1 h
   have hx:=List.mem_of_mem_take hx
   obtain ⟨j,hj,rfl⟩:=List.mem_iff_getElem.1 hx
   rw [List.length_zip] at hj
   rw [List.getElem_zip] at hv
   exact vars_range xs d _ _ (allP_at ha (by omega) (by omega)) v hv
/-! the row of marks -/
def metB (l:List Vt) (j:Nat):Bool:=l.any fun v=>v.var==(j:Int)
def metRow (l:List Vt):Array Value:=#[.bool (metB l 0),.bool (metB l 1),.bool (metB l 2),.bool (metB l 3),.bool (metB l 4),.bool (metB l 5)]
theorem metB_snoc (l:List Vt) (v:Vt) (j:Nat):metB (l ++ [v]) j=(metB l j || v.var==(j:Int)):=by unfold metB;rw [List.any_append];simp
theorem metRow_get (l:List Vt) {j:Nat} (h:j<6):(metRow l)[j]?=some (.bool (metB l j)):=by
 rcases j with _ | _ | _ | _ | _ | _ | j
 all_goals first | rfl | omega
theorem metRow_set (l:List Vt) (v:Vt) {j:Nat} (hj:j<6) (hv:v.var=(j:Int)):(metRow l).setIfInBounds j (.bool true)=metRow (l ++ [v]):=by
 unfold metRow
 simp only [metB_snoc,hv]
 rcases j with _ | _ | _ | _ | _ | _ | j
 all_goals first | omega | simp
def metTo (l:List Vt) (i:Nat):Array Value:=metRow (l.take i)
theorem metTo_succ (l:List Vt) {i:Nat} (h:i<l.length) {j:Nat} (hj:j<6) (hv:l[i].var=(j:Int)):(metTo l i).setIfInBounds j (.bool true)=metTo l (i+1):=by
 unfold metTo
 rw [take_snoc' l i h,metRow_set _ _ hj hv]
theorem met_no {l:List Vt} {i j:Nat} (h:i<l.length) (hv:l[i].var=(j:Int)) (hm:metB (l.take i) j=true):dupFree l=false:=by
 unfold metB at hm
 rw [List.any_eq_true] at hm
 obtain ⟨x,hx,he⟩:=hm
 obtain ⟨k,hk,rfl⟩:=List.mem_iff_getElem.1 hx
 rw [List.length_take] at hk
 rw [List.getElem_take,beq_iff_eq] at he
 exact dup_no (i:=k) (j:=i) (by omega) h (by omega) (by rw [he,hv])
theorem met_yes {l:List Vt} {i j:Nat} (h:i<l.length) (hv:l[i].var=(j:Int)) (hm:metB (l.take i) j=false):∀ k (hk:k<l.length),k<i→l[k].var≠l[i].var:=fun k hk hki e=>by
 unfold metB at hm
 rw [List.any_eq_false] at hm
 have:=hm l[k] (List.mem_iff_getElem.2 ⟨k,by rw [List.length_take];omega,by rw [List.getElem_take]⟩)
 rw [e,hv] at this
 simp at this
theorem run_app_void {P:Program} {w:World} (t ty e:TypeId) (i:TypeInfo) (ht:P.underlying t=some (.slice e)) (hi:P.info? e=some i) (A0:Option Addr) (n cap c:Nat) (hle:n≤cap) :
  (Builtin.append_ #[t,t] ty #[.slice A0 n cap,.slice none 0 c]).run P w=.ok (.slice A0 n cap) w:=by
 cases A0 <;> simp [Builtin.append_,run_underlying ht,sizeOf,typeInfo,hi,Builtin.lenOf,Builtin.firstCells,storeCells,hle]
theorem VtR_ones {w:World}:∀ {ys:List Vt} {cs:List Value} {G:List Nat},Flat (VtR w) ys cs G→∀ u∈cs,u.oneCell'=true
 |[],cs,G,h=>by rw [h.1];intro u hu;cases hu
 |y :: ys,cs,G,h=>by
  obtain ⟨c1,c2,F1,F2,rfl,rfl,h1,h2⟩:=h
  obtain ⟨rfl,rfl⟩:=h1
  intro u hu
  rcases List.mem_append.1 hu with h | h
  ·simp at h
   rcases h with rfl | rfl | rfl <;> rfl
  ·exact VtR_ones h2 u h
theorem run_append_vars {P:Program} {w:World} {B:Nat} {E:TypeId} (t ty:TypeId) (i:TypeInfo) (z:Value) (bytes:Nat) (ht:P.underlying t=some (.slice E)) (hi:P.info? E=some i) (hz:i.zero=some z)
  (hsize:i.size=3) (hby:i.bytes=bytes) (hzs:z.cells.size=3) {xs:List Vt} {v:Value}
  (hown:Own w B E 3 VtR xs v []) {ys:List Vt} {A:Option Addr} {n c:Nat} {F:List Nat} (hy:Arr w (VtR w) ys (.slice A n c) F)
  (h63:xs.length+ys.length≤maxLen) (hbytes:(xs.length+ys.length)*bytes≤140737488355328) (hbase:B≤w.heap.size) :
  ∃ v' w',(Builtin.append_ #[t,t] ty #[v,.slice A n c]).run P w=.ok v' w'∧Own w' B E 3 VtR (xs ++ ys) v' []∧w.grownBy w' v.ownBlock∧∀ b∈rowOf v',b∈rowOf v∨w.heap.size≤b:=by
 obtain ⟨A',c',hv,h1,h2,h3⟩:=hy
 cases hv
 have hrow:∀ {v':Value},(v'.ownBlock=v.ownBlock∨v'.ownBlock=some w.heap.size)→∀ b∈rowOf v',b∈rowOf v∨w.heap.size≤b:=fun {v'} h b hb=>by
  have hb:=zA2.1 hb
  rcases h with h | h
  ·left;rw [h] at hb;exact zA2.2 hb
  ·right;rw [h] at hb;have:=Option.some.inj hb;omega
 rcases h3 with ⟨rfl,-⟩ | ⟨b,off,cs,G,rfl,hc,hf,-⟩
 ·cases A with
  |none =>
   obtain ⟨A0,cap,rfl,hc1,hc2⟩:=hown.form
   exact ⟨_,w,run_app_void t ty E i ht hi A0 _ cap c hc1,by rw [List.append_nil];exact hown,⟨rfl,rfl,rfl,zz8 _,fun _ _ _=>rfl⟩,fun b hb=>.inl hb⟩
  |some a =>
   obtain ⟨cs,o1,o2,o3,o4⟩:=hown
   obtain ⟨v',w',hr,q1,q2,q3,q4⟩:=run_append_own_at (P:=P) w B t ty E i z 3 bytes ht hi hz hsize hby hzs (by decide) _ xs.length cs o1 a 0 c [] (by simp) (fun j u h=>by simp at h) (fun u h=>by cases h) (by simpa using h63) (by simpa using hbytes) hbase
   exact ⟨v',w',hr,⟨cs,by simpa using q1,by rw [List.append_nil];exact o2,Under.nil _,fun g _ h=>by cases h⟩,q2,hrow q4⟩
 ·obtain ⟨cs0,o1,o2,o3,o4⟩:=hown
  have hl:cs.length=ys.length*3:=hf.length (VtR_len w)
  have hG:=hf.nilF (fun x cs G h=>h.2)
  subst hG
  obtain ⟨v',w',hr,q1,q2,q3,q4⟩:=run_append_own_at (P:=P) w B t ty E i z 3 bytes ht hi hz hsize hby hzs (by decide) _ xs.length cs0 o1 ⟨b,off,none⟩ ys.length c cs hl (fun j u hj=>by rw [Addr.add_lit];exact hc j u hj) (VtR_ones hf) h63 hbytes hbase
  refine ⟨v',w',hr,⟨cs0 ++ cs,by rw [List.length_append];exact q1,?_,Under.nil _,fun g _ h=>by cases h⟩,q2,hrow q4⟩
  have h:=Flat.append o2 hf
  exact h
theorem zAZ {P:Program} {w:World} {ops:Array Oper} {rest:List Oper} {o:Oper} {a:Act} {Q:Exit→Act→World→Prop} (hgd:o.guard=none) (s x:Operand) (t:TypeId)
  (ho:o.op=.call { callee:=.builtin .append,args:=#[s,x],argTypes:=#[t,t] }) {sv xv v':Value} {w':World} (hs:a.eval s=sv) (hx:a.eval x=xv)
  (hr:(Builtin.append_ #[t,t] o.type #[sv,xv]).run P w=.ok v' w') (h:wpList P ops Q rest (a.put o.dst v') w'):wpList P ops Q (o :: rest) a w:=by
 refine wpList_plain hgd fun K hK=>?_
 unfold Oper.wp execOp
 simp only [ho,resolve,invoke,builtin,Sem.run_bind,Sem.run_pure,Result.andThen_ok,List.map_toArray,List.map_cons,List.map_nil,hs,hx,hr]
 exact hK _ _ h
def ScanPP (xs:List Dt) (d:Nat) (t:Ty) (p:P) (c:Nat) (g:Nat) (w:World) (e:Ending) (w':World):Prop :=
 ∃ (v:Value) (F:List Nat) (c':Nat),e=.returned (.tuple #[v,.bool (scanPB xs d t p c)])∧Chg [g] w w'∧Blk w' g 3 #[.int .i64 (c':Int)]∧(scanPB xs d t p c=true→c'=c+nodesP p∧Arr w' (VtR w') (varsN xs d t p) v F∧Free w' F∧Fresh w w' F)∧(scanPB xs d t p c=false→v=.slice none 0 0)
def ScanIP (p:P):Prop:=∀ (xs:List Dt) (_:WorldOK xs) (d deep:Nat) (_:d+deep=11) (_:1≤deep) (t:Ty) (_:TyIn xs.length t) (w:World) (x:Value) (F:List Nat) (cs:List Value) (G:List Nat) (g:Nat) (c:Nat),Arr w (DtR w) xs x F→Under w F→PR w p cs G→Under w G →
 Blk w g 3 #[(c:Int)]→g∉F→g∉G→c≤60 →
 Calls Try.prog 63 #[x,.agg #[t.d,t.i],.agg cs.toArray,(deep:Int),.pointer (some ⟨g,0,none⟩)] w (ScanPP xs d t p c g w)
set_option maxHeartbeats 6400000 in
theorem patternScan_of (p:P) (ih:∀ k∈p.ks,ScanIP k):ScanIP p:=by
 intro xs hw d deep hdd hd1 t ht w x F cs G g c hx hf hv hg hgb hgF hgG hc60
 have IH:=jj ih
 clear ih
 obtain ⟨kv,rfl,ha⟩:=(zA4 _ _ _).1 hv
 obtain ⟨A,cap,rfl,hc1,hc2⟩:=hx.form
 obtain ⟨A4,cap4,rfl,hc3,hc4⟩:=ha.form
 have HV:=jj hv
 have HX:=jj hx
 have HF:=jj hf
 have HA:=jj ha
 have HG:=jj hg
 clear hx hf ha hg
 clear hv
 have HW:=jj hw
 have HT:=jj ht
 have HGF:=jj hgF
 have HGG:=jj hgG
 have hgl:=hgb.lt
 have gx:w.cell? ⟨g,0,none⟩=(c:Int):=(hgb.cell 0).trans (by simp)
 have gf:=hgb.frozen 0
 have HGB:=jj hgb
 have HGL:=jj hgl
 clear hw ht hgF hgG hgb
 have HBad:Hid (∀ W c',scanPB xs d t p c=false→Chg [g] w W→Blk W g 3 #[.int .i64 ((c':Nat):Int)]→ScanPP xs d t p c g w (.returned (.tuple #[.slice none 0 0,.bool false])) W):=fun W c' hT hC hK =>
  ⟨_,[],c',by rw [hT],hC,hK,(fun h=>by rw [hT] at h;cases h),fun _=>rfl⟩
 obtain ⟨W3,hW3⟩:∃ W3,W3=(((w.setCell ⟨g,0,none⟩ (.int .i64 ((c:Int)+1))).alloc (.cells #[t.d,t.i] 25)).alloc (.cells #[p.op,p.ct,p.n,p.m,p.va,.slice A4 p.ks.length cap4] 28)):=⟨_,rfl⟩
 have KG:Hid (Blk W3 g 3 #[.int .i64 ((c+1:Nat):Int)]):=by
  rw [hW3,←(show ((c:Int)+1)=((c+1:Nat):Int) from by omega)]
  have h1:Blk (w.setCell ⟨g,0,none⟩ (.int .i64 ((c:Int)+1))) g 3 #[.int .i64 ((c:Int)+1)]:=HGB.out.set_ 0 (.int .i64 ((c:Int)+1))
  exact (h1.same (Below.heap_alloc _ _ _ h1.lt)).same (Below.heap_alloc _ _ _ (by have:=h1.lt;simp;omega))
 have HCG:Hid (Chg [g] w W3):=by
  rw [hW3];exact (((Chg.refl [g] w).set (by simp)).step ((zy2 _ _).alloc (zz8 _) _)).step ((zy2 _ _).alloc (zz8 _) _)
 by_cases hcc:60<c+1
 ·have t9:decide ((c:Int)+1>60)=true:=by simp;omega
  have HFin:Hid (ScanPP xs d t p c g w (.returned (.tuple #[.slice none 0 0,.bool false])) W3):=HBad.out W3 (c+1) (scanPB_many hcc) HCG.out KG.out
  rw [hW3] at HFin
  clear hcc
  go_enter Try.func63,Try.ntmps63
  go_wp2
  go_ret2
  exact HFin.out
 ·have t9:decide ((c:Int)+1>60)=false:=by simp;omega
  cases d with
  |zero =>
   have t8:decide ((deep:Int)>10)=true:=by simp;omega
   have HFin:Hid (ScanPP xs 0 t p c g w (.returned (.tuple #[.slice none 0 0,.bool false])) W3):=HBad.out W3 (c+1) scanPB_deep HCG.out KG.out
   rw [hW3] at HFin
   go_enter Try.func63,Try.ntmps63
   go_wp2
   go_ret2
   exact HFin.out
  |succ d =>
  have t8:decide ((deep:Int)>10)=false:=by simp;omega
  have KT:Hid (Blk W3 w 25 #[t.d,t.i]):=by
   rw [hW3]
   have h:=Blk.new (w.setCell ⟨g,0,none⟩ (.int .i64 ((c:Int)+1))) 25 #[t.d,t.i]
   rw [show ((w.setCell ⟨g,0,none⟩ (.int .i64 ((c:Int)+1)))).heap.size=w.heap.size from by simp [World.setCell]] at h
   exact h.same (Below.heap_alloc _ _ _ (by simp [World.setCell]))
  have KP:Hid (Blk W3 (w.heap.size+1) 28 #[p.op,p.ct,p.n,p.m,p.va,.slice A4 p.ks.length cap4]):=by
   rw [hW3]
   have h:=Blk.new ((w.setCell ⟨g,0,none⟩ (.int .i64 ((c:Int)+1))).alloc (.cells #[t.d,t.i] 25)) 28 #[p.op,p.ct,p.n,p.m,p.va,.slice A4 p.ks.length cap4]
   rw [World.size_alloc,show ((w.setCell ⟨g,0,none⟩ (.int .i64 ((c:Int)+1)))).heap.size=w.heap.size from by simp [World.setCell]] at h
   exact h
  have hsz3:w.heap.size+2≤W3.heap.size:=by rw [hW3];simp [World.setCell]
  have HX3:Hid (Arr W3 (DtR W3) xs (.slice A xs.length cap) F):=ArrDt.mono HX.out (HCG.out.kept HF.out (fun b hb h=>HGF.out (by rw [←List.mem_singleton.1 h];exact hb)))
  have HF3:=jj (HF.out.mono HCG.out.size)
  have HV3:=jj (PR.mono _ _ _ (HCG.out.kept HG.out (fun b hb h=>HGG.out (by rw [←List.mem_singleton.1 h];exact hb))) HV.out)
  have HG3:=jj (HG.out.mono HCG.out.size)
  go_enter Try.func63,Try.ntmps63
  go_wp2_with fail
  rw [←hW3]
  clear hW3
  refine (impl_shape xs HW.out t HT.out p W3 _ F _ G HX3.out HF3.out HV3.out HG3.out).mono ?_
  rintro e w6 ⟨v6,F6,rfl,hb6,hfs6,hty6⟩
  have KT6:=jj (KT.out.same (hb6.block _ KT.out.lt))
  have KP6:=jj (KP.out.same (hb6.block _ KP.out.lt))
  have KG6:=jj (KG.out.same (hb6.block _ KG.out.lt))
  have HC6:=jj (HCG.out.step hb6)
  have hsz6:=Nat.le_trans hsz3 hb6.size
  have HN6:Hid (∀ b∈F6,b∉[g]):=fun b hb h=>by
   have h1:=(hfs6 b hb).1
   rw [List.mem_singleton.1 h] at h1
   have:=KG.out.lt
   omega
  have HU6:=jj hfs6.under
  clear hb6 hfs6 KT KP KG HCG HX3 HF3 HV3 HG3 hsz3
  cases e1:nodeB xs t p with
  |false =>
   have HFin:=jj (HBad.out w6 (c+1) (scanPB_node e1) HC6.out KG6.out)
   clear e1 hty6
   go_wp2
   go_ret2
   exact HFin.out
  |true =>
   have ha6:=hty6 e1
   have hown1:ownB xs t p=true:=by unfold nodeB at e1;rw [Bool.and_eq_true] at e1;exact e1.1
   have HK0:=jj (KidsOk.zero (d:=d) (c:=c) e1 (by omega))
   have HLN:=jj HK0.out.len
   have HAI:=jj (typesP_in HW.out HT.out hown1)
   have HL5:=jj (fun (h5:p.op=5)=>(show p.ks.length=2 by rw [HLN.out,typesP_or h5];rfl))
   have HNext:=jj (fun (i:Nat) (hi:i<p.ks.length) (hil:i<(typesP xs t p).length) (h:KidsOk xs d t p c i) (hs:scanPB xs d (typesP xs t p)[i] p.ks[i] (c+1+kidSum p i)=true)=>h.next hi hil hs)
   have HFail:=jj (fun (i:Nat) (hi:i<p.ks.length) (hil:i<(typesP xs t p).length) (h:KidsOk xs d t p c i) (hs:scanPB xs d (typesP xs t p)[i] p.ks[i] (c+1+kidSum p i)=false)=>h.fail hi hil hs)
   have HAcc:=jj (fun (i:Nat) (hi:i<p.ks.length) (hil:i<(typesP xs t p).length) (hn:¬(p.op=5∧i=1))=>accI_next (d:=d) hn HL5.out hil hi)
   have HSame:=jj (fun (i:Nat) (hi:i<p.ks.length) (hil:i<(typesP xs t p).length) (h5:p.op=5) (h1:i=1)=>same_or (d:=d) h5 (HL5.out h5) hi hil h1)
   have HOrNo:Hid (∀ (i:Nat) (hi:i<p.ks.length) (h5:p.op=5) (h1:i=1) (h:KidsOk xs d t p c (i+1)) (ho:orOk xs d t p=false),scanPB xs (d+1) t p c=false):=fun i hi h5 h1 h ho=>by
    have h2:KidsOk xs d t p c p.ks.length:=by rwa [show i+1=p.ks.length by have:=HL5.out h5;omega] at h
    exact h2.or_no h5 ho
   clear hty6 e1 hown1
   generalize hass:typesP xs t p=ls at *
   clear hass
   obtain ⟨A6,cap6,rfl,hd3,hd4⟩:=ha6.form
   have HA6:Hid (Arr w6 (TyR w6) ls (.slice A6 ls.length cap6) F6∧Under w6 F6):=⟨ha6,HU6.out⟩
   clear ha6 HU6
   by_cases hnm:namedB p=true
   ·have hn2:p.op=2∨p.op=6:=by unfold namedB at hnm;simpa using hnm
    obtain ⟨i0,hi,hz0,hz1,hz2⟩:=info_parts info_VtE
    have HI:=jj hi
    have HZ0:=jj hz0
    have HZ1:=jj hz1
    have HZ2:=jj hz2
    clear hi hz0 hz1 hz2
    have HAC:=jj ((accI_zero xs d t p).trans (accP_named (ys:=[]) (xs:=xs) (d:=d) (t:=t) hnm))
    clear hnm
    rcases hn2 with h2 | h2
    have t2:(p.op==2)=true:=by simp [h2]
    rotate_left
    have t2:(p.op==2)=false:=by simp [h2]
    have t6:(p.op==6)=true:=by simp [h2]
    rotate_left
    all_goals (
     clear h2
     obtain ⟨y0,y1,klt⟩:=KT6.out.c2
     obtain ⟨z0,-,-,-,z4,z5,klt2⟩:=KP6.out.c6
     go_wp2_with (at_builtin;refine Halt.mk ?_)
     have HOB:Hid (Own w6 (w.heap.size+2) 107 3 VtR ([]:List Vt) (.slice none 0 0) []):=Own.nil _ _ _ _ _
     refine Halt.of (zA3 (P:=Try.prog) rfl _ _ 33 rfl i0 _ 24 Try.underlying33 HI.out HZ0.out HZ1.out HZ2.out rfl (by decide) VtR_len zA6 (by rfl) HOB.out ⟨p.va,t⟩ 107 [p.va,t.d,t.i] [] _ (by rfl) rfl (by simp [Value.oneCell']) ⟨rfl,rfl⟩ (Under.nil _) (fun _ _ h=>by cases h) (by simp [maxLen]) (by simp) hsz6 ?_)
     intro gr cp w5 hown5 hgr5 hat5
     have hC25:=grown_chg hgr5
     have KP5:=jj (KP6.out.same (hC25.block _ KP6.out.lt (by simp [zAT])))
     have KG5:=jj (KG6.out.same (hC25.block _ KG6.out.lt (by simp [zAT])))
     have HC5:Hid (Chg [g] w w5):=zB0 HC6.out hC25 (fun b hb=>by simp [zAT] at hb)
     have HA5:Hid (Arr w5 (TyR w5) ls (.slice A6 ls.length cap6) F6∧Under w5 F6):=⟨ArrTy.mono HA6.out.1 (hC25.kept HA6.out.2 (fun b _ h=>by simp [zAT] at h)),HA6.out.2.mono hC25.size⟩
     have HR5:Hid (∀ g'∈rowOf (.slice (some ⟨gr,0,none⟩) (([]:List Vt).length+1) cp),g'∉F6):=fun g' hg' hF=>by
      rcases grown_rows hat5 g' hg' with h | h
      ·simp [zAT] at h
      ·have:=HA6.out.2 g' hF;omega
     have HO5:Hid (Own w5 (w.heap.size+2) 107 3 VtR (accI xs d t p 0) (.slice (some ⟨gr,0,none⟩) (([]:List Vt).length+1) cp) []):=by rw [HAC.out];exact hown5
     have hsz5:=Nat.le_trans hsz6 hC25.size
     clear y0 y1 klt z0 z4 z5 klt2
     obtain ⟨-,-,-,-,-,z5,klt2⟩:=KP5.out.c6
     clear hown5 hgr5 hat5 hC25 HOB KG6 HC6 HA6 KP6 KT6 hsz6 gx gf hgl
     go_wp2
     go_loopw [14,62] (fun vv iv wr=>∃ i:Nat,i≤p.ks.length∧iv=.int .i64 i∧Hid (KidsOk xs d t p c i)∧Hid (p.op=5→1<i→orOk xs d t p=true)∧Hid (Own wr (w.heap.size+2) 107 3 VtR (accI xs d t p i) vv [])∧Hid (∀ g'∈rowOf vv,g'∉F6)∧Hid (Blk wr g 3 #[.int .i64 ((c+1+kidSum p i:Nat):Int)])∧Hid (Chg [g] w wr)∧Hid (Arr wr (TyR wr) ls (.slice A6 ls.length cap6) F6∧Under wr F6)∧Hid (Blk wr (w.heap.size+1) 28 #[p.op,p.ct,p.n,p.m,p.va,.slice A4 p.ks.length cap4])∧w.heap.size+2≤wr.heap.size) (fun _ iv _=>p.ks.length-(intOf iv).toNat)
     case atStart=>exact ⟨0,Nat.zero_le _,rfl,HK0,(fun _ h=>by omega),HO5,HR5,(show Blk _ _ _ #[.int .i64 ((c+1+0:Nat):Int)] from KG5.out),HC5,HA5,KP5,hsz5⟩
     case round =>
      clear hsz5
      obtain ⟨i,hi,rfl,HKI,HOR,HO,HRW,KG,HCG,HA6,KP,hsz⟩:=hrel
      have hrow0:=fun b hb=>(HO.out.row b hb).1
      have HGR:=jj (show g∉rowOf u14 from fun h=>by have:=hrow0 _ h;have:=HGL.out;omega)
      clear hrow0
      by_cases hik:i<p.ks.length
      ·have hil:i<ls.length:=by rw [←HLN.out];exact hik
       obtain ⟨b6,off6,rfl⟩:=HA6.out.1.ptr (by omega)
       have HAw:=jj (ArrP.mono HA.out (HCG.out.kept HG.out (fun b hb h=>HGG.out (by rw [←List.mem_singleton.1 h];exact hb))))
       have HGw:=jj (HG.out.mono HCG.out.size)
       have HXw:=jj (ArrDt.mono HX.out (HCG.out.kept HF.out (fun b hb h=>HGF.out (by rw [←List.mem_singleton.1 h];exact hb))))
       have HFw:=jj (HF.out.mono HCG.out.size)
       obtain ⟨b4,off4,rfl⟩:=HAw.out.ptr (by omega)
       obtain ⟨A7,cap7,G7,hb7,k0,k1,k2,k3,k4,k5,HV7,HG7,hG7G,-,-⟩:=ArrP.at HAw.out HGw.out (zy2 _ _) i hik
       have HN7:Hid (g∉G7):=fun h=>HGG.out (hG7G _ h)
       clear hG7G
       have g1:(0:Int)≤(i:Int):=by omega
       have g2:(i:Int)<(ls.length:Int):=by omega
       have g3:(i:Int)<(p.ks.length:Int):=by omega
       have hwr:IntKind.i64.wrap ((deep:Int)+1)=(deep:Int)+1:=IntWalk.i64_in _ (by omega)
       obtain ⟨W7,hW7⟩:∃ W7,W7=wr.alloc (.cells #[p.ks[i].op,p.ks[i].ct,p.ks[i].n,p.ks[i].m,p.ks[i].va,.slice A7 p.ks[i].ks.length cap7] 28):=⟨_,rfl⟩
       have hb77:Below wr wr W7:=by rw [hW7];exact (zy2 _ _).alloc (zz8 _) _
       have KX:Hid (Blk W7 wr 28 #[p.ks[i].op,p.ks[i].ct,p.ks[i].n,p.ks[i].m,p.ks[i].va,.slice A7 p.ks[i].ks.length cap7]):=by rw [hW7];exact Blk.new _ _ _
       have KG7:=jj (KG.out.same (hb77.block _ KG.out.lt))
       have KP7:=jj (KP.out.same (hb77.block _ KP.out.lt))
       have HCG7:=jj (HCG.out.step hb77)
       have HX7:=jj (ArrDt.below HXw.out hb77 HFw.out)
       have HF7:=jj (HFw.out.mono hb77.size)
       have HV77:=jj (HV7.out.below hb77 HG7.out)
       have HG77:=jj (HG7.out.mono hb77.size)
       have HA67:Hid (Arr W7 (TyR W7) ls (.slice (some ⟨b6,off6,none⟩) ls.length cap6) F6∧Under W7 F6):=⟨ArrTy.below HA6.out.1 hb77 HA6.out.2,HA6.out.2.mono hb77.size⟩
       have HO7:Hid (Own W7 (w.heap.size+2) 107 3 VtR (accI xs d t p i) u14 []):=HO.out.below (fun x cs G hk h=>zA6 _ _ x cs G hk h) hb77
       have hgw:g<wr.heap.size:=KG.out.lt
       have hne7:wr.heap.size≠g:=by omega
       have hsz7:=Nat.le_trans hsz hb77.size
       have hci:c+1+kidSum p i≤60:=HKI.out.fit
       go_wp2_with fail
       rw [←hW7]
       clear hW7 k0 k1 k2 k3 k4 k5 hb7 HAw HGw HXw HFw HV7 HG7 KG HCG HA6 KP HO
       obtain ⟨hb6,a0,a1⟩:=ArrTy.at HA67.out.1 HA67.out.2 (zy2 _ _) i hil
       have hb6n:b6≠g:=by
        obtain ⟨b',off',cs',G',e',hb',-⟩:=HA67.out.1.get TyR_len hil
        cases e'
        exact fun e=>HN6.out _ hb' (by rw [e];exact List.mem_singleton.2 rfl)
       obtain ⟨k0,k1,k2,k3,k4,k5,kxl⟩:=KX.out.c6
       have HNE:=jj (show b6∉[g] from fun h=>hb6n (List.mem_singleton.1 h))
       have HNE7:=jj (show wr.heap.size∉[g] from fun h=>hne7 (List.mem_singleton.1 h))
       clear hb6n hne7 hgw
       have HCALL:=jj (IH.out p.ks[i] (List.getElem_mem hik) xs HW.out d (deep+1) (by omega) (by omega) ls[i] (HAI.out _ (List.getElem_mem hil)) W7.drew _ F _ G7 g (c+1+kidSum p i) (ArrDt.drew HX7.out) HF7.out HV77.out.drew HG77.out KG7.out HGF.out HN7.out hci)
       rw [show ((deep+1:Nat):Int)=(deep:Int)+1 by omega] at HCALL
       go_region_held3 (fun w'=>w'.cell? ⟨b6,off6+i*2,none⟩=ls[i].d∧w'.cell? ⟨b6,off6+i*2+1,none⟩=ls[i].i∧w'.cell? ⟨wr,0,none⟩=p.ks[i].op∧w'.cell? ⟨wr,1,none⟩=p.ks[i].ct∧w'.cell? ⟨wr,2,none⟩=p.ks[i].n∧w'.cell? ⟨wr,3,none⟩=p.ks[i].m∧w'.cell? ⟨wr,4,none⟩=p.ks[i].va∧w'.cell? ⟨wr,5,none⟩=some (.slice A7 p.ks[i].ks.length cap7)) (first | assumption | (exact ⟨a0,a1,k0,k1,k2,k3,k4,k5⟩) | (exact ⟨(hC'.cell hb6 HNE.out).trans a0,(hC'.cell hb6 HNE.out).trans a1,(hC'.cell kxl HNE7.out).trans k0,(hC'.cell kxl HNE7.out).trans k1,(hC'.cell kxl HNE7.out).trans k2,(hC'.cell kxl HNE7.out).trans k3,(hC'.cell kxl HNE7.out).trans k4,(hC'.cell kxl HNE7.out).trans k5⟩)) (first | (go_at_call 63;((with_reducible refine HCALL.out.mono ?_);rintro e w' ⟨v',F',c',rfl,hC',hK',hy',-⟩)))
       have hC2:=hC'.undrew
       have HCG8:=jj (HCG7.out.trans hC2)
       have HK8:=jj hK'
       have HA68:Hid (Arr w' (TyR w') ls (.slice (some ⟨b6,off6,none⟩) ls.length cap6) F6∧Under w'.heap.size F6):=⟨ArrTy.mono HA67.out.1 (hC2.kept HA67.out.2 HN6.out),HA67.out.2.mono hC2.size⟩
       have KP8:=jj (KP7.out.same (hC2.block _ KP7.out.lt (fun h=>by have:=List.mem_singleton.1 h;have:=HGL.out;omega)))
       have HO8:Hid (Own w' (w.heap.size+2) 107 3 VtR (accI xs d t p i) u14 []):=HO7.out.mono (fun x cs G hk h=>zA6 _ _ x cs G hk h) (hC2.kept (fun b hb=>(HO7.out.row b (by simpa using hb)).2) (fun b hb h=>HGR.out (by rw [←List.mem_singleton.1 h];simpa using hb))) hC2.size
       have hsz8:=Nat.le_trans hsz7 hC2.size
       have HY:=jj hy'
       have HSW:=jj (show w.heap.size≤W7.heap.size from by omega)
       clear hwr hC' hC2 hK' hy' a0 a1 k0 k1 k2 k3 k4 k5 kxl hb6 HCALL KG7 HCG7 HX7 HF7 HV77 HG77 HA67 HO7 hsz7 hb77 KX
       cases e3:scanPB xs d ls[i] p.ks[i] (c+1+kidSum p i) with
       |false =>
        have HFin:=jj (HBad.out w' c' (HFail.out i hik hil HKI.out e3) HCG8.out HK8.out)
        clear e3
        go_wp2
        go_ret2
        exact HFin.out
       |true =>
        obtain ⟨hcc,hav,hfrv,hfsv⟩:=HY.out e3
        have HKN:=jj (HNext.out i hik hil HKI.out e3)
        have hks:=zAS p i hik
        obtain rfl:c'=c+1+kidSum p (i+1):=by omega
        have HAV:=jj hav
        have HUV:=jj hfsv.under
        have HLY:=jj (varsN_len xs d ls[i] p.ks[i])
        have HNK:=jj (nodesP_mem hik)
        clear hav hfrv hfsv hks e3 HY hcc
        obtain ⟨z0,-,-,-,-,-,klt2⟩:=KP8.out.c6
        by_cases hor:p.op=5∧i=1
        ·have t5:(p.op==5)=true:=by simp [hor.1]
         have t6:((i:Int)==1)=true:=by simp [hor.2]
         have HOR1:=jj hor.1
         have HOR2:=jj hor.2
         clear hor
         go_wp2_with fail
         refine (impl_sameVars (accI xs d t p i) (varsN xs d ls[i] p.ks[i]) w' _ _ _ F' HO8.out.arr (fun b hb=>by
          split at hb
          ·cases hb
          ·exact (HO8.out.row b (by simpa using hb)).2) HAV.out HUV.out).mono ?_
         rintro e w9 ⟨rfl,hb9⟩
         have hok:sameV (accI xs d t p i) (varsN xs d ls[i] p.ks[i])=orOk xs d t p:=HSame.out i hik hil HOR1.out HOR2.out
         rw [hok]
         have KP9:=jj (KP8.out.same (hb9.block _ KP8.out.lt))
         have KG9:=jj (HK8.out.same (hb9.block _ HK8.out.lt))
         have HC9:=jj (HCG8.out.step hb9)
         have HA9:Hid (Arr w9 (TyR w9) ls (.slice (some ⟨b6,off6,none⟩) ls.length cap6) F6∧Under w9 F6):=⟨ArrTy.below HA68.out.1 hb9 HA68.out.2,HA68.out.2.mono hb9.size⟩
         have HO9:Hid (Own w9 (w.heap.size+2) 107 3 VtR (accI xs d t p (i+1)) u14 []):=by
          have h:=HO8.out.below (fun x cs G hk h=>zA6 _ _ x cs G hk h) hb9
          rw [accI_or HOR1.out (by omega)]
          rw [HOR2.out] at h
          exact h
         have hsz9:=Nat.le_trans hsz8 hb9.size
         clear hok hb9 z0 klt2
         cases e4:orOk xs d t p with
         |false =>
          have HFin:=jj (HBad.out w9 _ (HOrNo.out i hik HOR1.out HOR2.out HKN.out e4) HC9.out KG9.out)
          clear e4
          go_wp2
          go_ret2
          exact HFin.out
         |true =>
          have HE4:=jj e4
          clear e4
          go_wp2
          go_roundw
          case rel=>exact ⟨i+1,by omega,by go_num,HKN,(fun _ _=>HE4.out),HO9,HRW,KG9,HC9,HA9,KP9,hsz9⟩
          case measure=>(simp [intOf] <;> omega)
        ·obtain ⟨A9,cap9,rfl,h91,h92⟩:=HAV.out.form
         obtain ⟨i0,hi0,hz0,hz1,hz2⟩:=info_parts info_VtE
         have hn60:=HKN.out.fit
         have HL60:=jj (accI_len xs d t p i)
         have hpl:(accI xs d t p i).length+(varsN xs d ls[i] p.ks[i]).length≤200:=by
          have h1:=HL60.out
          have h2:=HLY.out
          have h3:=zAS p i hik
          omega
         obtain ⟨v8,w8,hrun,ho8,hg8,hr8⟩:=run_append_vars (P:=Try.prog) 33 33 i0 _ 24 Try.underlying33 hi0 hz0 hz1 hz2 rfl HO8.out HAV.out (by unfold maxLen;omega) (by omega) hsz8
         have HRUN:=jj hrun
         have hC8:=grown_chg' hg8
         have hgr8:g∉rowOf u14:=HGR.out
         have HO9:Hid (Own w8 (w.heap.size+2) 107 3 VtR (accI xs d t p (i+1)) v8 []):=by rw [HAcc.out i hik hil hor];exact ho8
         have HRW9:Hid (∀ g'∈rowOf v8,g'∉F6):=fun g' hg' hF=>by
          rcases hr8 g' hg' with h | h
          ·exact HRW.out g' h hF
          ·have:=HA68.out.2 g' hF;omega
         have KG9:=jj (HK8.out.same (hC8.block _ HK8.out.lt hgr8))
         have KP9:=jj (KP8.out.same (hC8.block _ KP8.out.lt (fun h=>by have:=(HO8.out.row _ h).1;omega)))
         have HC9:Hid (Chg [g] w w8):=zB0 HCG8.out hC8 (fun b hb=>.inr (by have:=(HO8.out.row _ hb).1;omega))
         have HA9:Hid (Arr w8 (TyR w8) ls (.slice (some ⟨b6,off6,none⟩) ls.length cap6) F6∧Under w8 F6):=⟨ArrTy.mono HA68.out.1 (hC8.kept HA68.out.2 (fun b hb h=>HRW.out b h hb)),HA68.out.2.mono hC8.size⟩
         have hsz9:=Nat.le_trans hsz8 hC8.size
         have HORn:Hid (p.op=5→1<i+1→orOk xs d t p=true):=fun h5 h1=>by
          have:=HL5.out h5
          exact absurd ⟨h5,by omega⟩ hor
         clear hrun ho8 hg8 hr8 hC8 hgr8 hi0 hz0 hz1 hz2 HAV HUV hpl hn60
         by_cases h5:p.op=5
         ·have t5:(p.op==5)=true:=by simp [h5]
          have t6:((i:Int)==1)=false:=by rw [beq_eq_false_iff_ne];intro h;exact hor ⟨h5,by omega⟩
          clear h5 hor
          go_wp2_with (at_builtin;refine Halt.mk ?_)
          refine Halt.of (zAZ rfl _ _ 33 rfl (by rfl) (by rfl) HRUN.out ?_)
          clear HRUN z0 klt2 t5
          go_wp2
          go_roundw
          case rel=>exact ⟨i+1,by omega,by go_num,HKN,HORn,HO9,HRW9,KG9,HC9,HA9,KP9,hsz9⟩
          case measure=>(simp [intOf] <;> omega)
         ·have t5:(p.op==5)=false:=by simpa using h5
          clear h5 hor
          go_wp2_with (at_builtin;refine Halt.mk ?_)
          refine Halt.of (zAZ rfl _ _ 33 rfl (by rfl) (by rfl) HRUN.out ?_)
          clear HRUN z0 klt2 t5
          go_wp2
          go_roundw
          case rel=>exact ⟨i+1,by omega,by go_num,HKN,HORn,HO9,HRW9,KG9,HC9,HA9,KP9,hsz9⟩
          case measure=>(simp [intOf] <;> omega)
      ·obtain ⟨wo,hwo⟩:∃ wo,wo=wr:=⟨_,rfl⟩
       subst hwo
       have HKE:Hid (KidsOk xs d t p c p.ks.length):=by have h:=HKI.out;rwa [show i=p.ks.length by omega] at h
       have HOE:Hid (Own wo (w.heap.size+2) 107 3 VtR (accI xs d t p p.ks.length) u14 []):=by have h:=HO.out;rwa [show i=p.ks.length by omega] at h
       have KGE:Hid (Blk wo g 3 #[.int .i64 ((c+nodesP p:Nat):Int)]):=by have h:=KG.out;rw [show i=p.ks.length by omega] at h;rwa [zAK p (zz8 _),←Nat.add_assoc]
       have HFS:=jj (HKE.out.fin (fun h5=>HOR.out h5 (by have:=HL5.out h5;omega)))
       have HRG:=jj (vars_range xs (d+1) t p HKE.out.shape)
       have HLL:=jj (varsN_len xs (d+1) t p)
       have hln60:(varsN xs (d+1) t p).length≤60:=by have h1:=HLL.out;have h2:=HKE.out.fit;have h3:=zAK p (zz8 p.ks.length);omega
       have hacc:=accI_done (xs:=xs) (d:=d) (t:=t) (p:=p) HL5.out
       rw [hacc] at HOE
       have hfinT:Hid (dupFree (varsN xs (d+1) t p)=true→∀ W,Below wo wo W→ScanPP xs (d+1) t p c g w (.returned (.tuple #[u14,.bool true])) W):=fun hd W hW=>by
        have hT:=HFS.out.trans hd
        have hO:=HOE.out.below (fun x cs G hk h=>zA6 _ _ x cs G hk h) hW
        exact ⟨u14,_,c+nodesP p,by rw [hT],HCG.out.step hW,KGE.out.same (hW.block _ KGE.out.lt),fun _=>⟨rfl,hO.arr,hO.free (Free.nil _),hO.fresh (by omega) (fun b hb=>by cases hb)⟩,fun h=>by rw [hT] at h;cases h⟩
       have hfinF:Hid (dupFree (varsN xs (d+1) t p)=false→∀ W,Below wo wo W→ScanPP xs (d+1) t p c g w (.returned (.tuple #[.slice none 0 0,.bool false])) W):=fun hd W hW=>HBad.out W _ (HFS.out.trans hd) (HCG.out.step hW) (KGE.out.same (hW.block _ KGE.out.lt))
       clear hacc HFS HLL
       generalize varsN xs (d+1) t p=L at *
       obtain ⟨oA,ocap,hov,ho1,ho2⟩:=HOE.out.form
       subst hov
       have HAL:=jj HOE.out.arr
       have HUL:Hid (Under wo (if L=[] then [] else rowOf (.slice oA L.length ocap) ++ [])):=fun b hb=>by
        split at hb
        ·cases hb
        ·exact (HOE.out.row b (by simpa using hb)).2
       generalize (if L=[] then [] else rowOf (.slice oA L.length ocap) ++ [])=FL at *
       have hbm:Below wo wo (wo.alloc (.cells #[.bool false,.bool false,.bool false,.bool false,.bool false,.bool false] 127)):=(zy2 _ _).alloc (zz8 _) _
       have KM:Hid (Blk (wo.alloc (.cells #[.bool false,.bool false,.bool false,.bool false,.bool false,.bool false] 127)) wo.heap.size 127 (metTo L 0)):=Blk.new _ _ _
       clear HO KG HRW HA6 KP HKI HOR HGR HKE HOE KGE HCG
       go_wp2
       go_loopw [101] (fun iv ws=>∃ i:Nat,i≤L.length∧iv=.int .i64 i∧Hid (∀ j (hj:j<L.length),j<i→∀ k (hk:k<L.length),k<j→L[k].var≠L[j].var)∧Hid (Blk ws wo 127 (metTo L i))∧Hid (Below wo wo ws)) (fun iv _=>L.length-(intOf iv).toNat)
       case atStart=>exact ⟨0,Nat.zero_le _,rfl,(fun j hj h=>by omega),KM,hbm⟩
       case round =>
        clear KM hbm
        obtain ⟨i,hi,rfl,HN,KM,HB⟩:=hrel
        by_cases hil:i<L.length
        ·obtain ⟨bL,offL,rfl⟩:=HAL.out.ptr (by omega)
         obtain ⟨hbL,c0,c1,c2⟩:=ArrVt.at HAL.out HUL.out HB.out i hil
         have hrg:=HRG.out L[i] (List.getElem_mem hil)
         obtain ⟨k,hk⟩:∃ k:Nat,L[i].var=(k:Int):=⟨L[i].var.toNat,by omega⟩
         have hk6:k<6:=by omega
         have HNY:=jj (fun (h:metB (L.take i) k=false)=>met_yes hil hk h)
         have HNN:=jj (fun (h:metB (L.take i) k=true)=>met_no hil hk h)
         have HMS:=jj (metTo_succ L hil hk6 hk)
         have g1:(0:Int)≤(i:Int):=by omega
         have g2:(i:Int)<(L.length:Int):=by omega
         have g3:(0:Int)≤(k:Int):=by omega
         have g4:(k:Int)<6:=by omega
         rw [hk] at c0
         have hml:=KM.out.lt
         have hBv:Below wr wr (wr.alloc (.cells #[(k:Int),L[i].ty.d,L[i].ty.i] 107)):=(zy2 _ _).alloc (zz8 _) _
         have KMv:Blk (wr.alloc (.cells #[(k:Int),L[i].ty.d,L[i].ty.i] 107)) wo.heap.size 127 (metTo L i):=KM.out.same (hBv.block _ hml)
         have m0:(wr.alloc (.cells #[(k:Int),L[i].ty.d,L[i].ty.i] 107)).cell? ⟨wo.heap.size,k,none⟩=some (.bool (metB (L.take i) k)):=(KMv.cell k).trans (metRow_get _ hk6)
         have mf0:(wr.alloc (.cells #[(k:Int),L[i].ty.d,L[i].ty.i] 107)).frozen? ⟨wo.heap.size,k,none⟩=false:=KMv.frozen k
         have n0:wr.cell? ⟨wo.heap.size,k,none⟩=some (.bool (metB (L.take i) k)):=(KM.out.cell k).trans (metRow_get _ hk6)
         have nf0:wr.frozen? ⟨wo.heap.size,k,none⟩=false:=KM.out.frozen k
         have hmlv:=KMv.lt
         have HBv:=jj (HB.out.trans (hBv.mono HB.out.size))
         have HKMv:=jj KMv
         clear hrg hk KMv
         cases hm:metB (L.take i) k with
         |true =>
          rw [hm] at m0 n0
          have HFin:=jj (hfinF.out (HNN.out hm) _ HBv.out)
          clear hm
          go_wp2
          go_ret2
          exact HFin.out
         |false =>
          rw [hm] at m0 n0
          have hny:=HNY.out hm
          have HN2:Hid (∀ j (hj:j<L.length),j<i+1→∀ k (hk:k<L.length),k<j→L[k].var≠L[j].var):=fun j hj hji=>by
           rcases Nat.lt_or_ge j i with h | h
           ·exact HN.out j hj h
           ·obtain rfl:j=i:=by omega
            exact hny
          have KM1:Blk (wr.setCell ⟨wo.heap.size,k,none⟩ (.bool true)) wo.heap.size 127 (metTo L (i+1)):=by rw [←HMS.out];exact KM.out.set_ k (.bool true)
          have KM2:Hid (Blk ((wr.setCell ⟨wo.heap.size,k,none⟩ (.bool true)).alloc (.cells #[(k:Int),L[i].ty.d,L[i].ty.i] 107)) wo.heap.size 127 (metTo L (i+1))):=KM1.same (Below.heap_alloc _ _ _ KM1.lt)
          have HB2:Hid (Below wo wo ((wr.setCell ⟨wo.heap.size,k,none⟩ (.bool true)).alloc (.cells #[(k:Int),L[i].ty.d,L[i].ty.i] 107))):=(HB.out.setCell (zz8 _) _).alloc (by have:=HB.out.size;simpa [World.setCell] using this) _
          clear KM1
          clear hm hny
          go_wp2
          go_roundw
          case rel=>exact ⟨i+1,by omega,by go_num,HN2,KM2,HB2⟩
          case measure=>(simp [intOf] <;> omega)
        ·have HFin:=jj (hfinT.out (dup_yes (fun j hj=>HN.out j hj (by omega))) _ HB.out)
         go_wp2
         go_ret2
         exact HFin.out)
   ·have hn2:¬p.op=2:=fun h=>hnm (by unfold namedB;simp [h])
    have hn6:¬p.op=6:=fun h=>hnm (by unfold namedB;simp [h])
    have t2:(p.op==2)=false:=by simpa using hn2
    have t6:(p.op==6)=false:=by simpa using hn6
    have HAC:=jj ((accI_zero xs d t p).trans (accP_bare (ys:=[]) (xs:=xs) (d:=d) (t:=t) (Bool.eq_false_iff.2 hnm)))
    clear hnm
    have HO5:Hid (Own w6 (w.heap.size+2) 107 3 VtR (accI xs d t p 0) (.slice none 0 0) []):=by rw [HAC.out];exact Own.nil _ _ _ _ _
    have HR5:Hid (∀ g'∈rowOf (.slice none 0 0),g'∉F6):=fun g' hg'=>by simp [zAT] at hg'
    obtain ⟨z0,-,-,-,-,z5,klt2⟩:=KP6.out.c6
    have KG5:=KG6
    have HC5:=HC6
    have HA5:=HA6
    have KP5:=KP6
    have hsz5:=hsz6
    clear KG6 HC6 HA6 KP6 KT6 hsz6 gx gf hgl
    clear hn2 hn6
    go_wp2
    go_loopw [14,62] (fun vv iv wr=>∃ i:Nat,i≤p.ks.length∧iv=.int .i64 i∧Hid (KidsOk xs d t p c i)∧Hid (p.op=5→1<i→orOk xs d t p=true)∧Hid (Own wr (w.heap.size+2) 107 3 VtR (accI xs d t p i) vv [])∧Hid (∀ g'∈rowOf vv,g'∉F6)∧Hid (Blk wr g 3 #[.int .i64 ((c+1+kidSum p i:Nat):Int)])∧Hid (Chg [g] w wr)∧Hid (Arr wr (TyR wr) ls (.slice A6 ls.length cap6) F6∧Under wr F6)∧Hid (Blk wr (w.heap.size+1) 28 #[p.op,p.ct,p.n,p.m,p.va,.slice A4 p.ks.length cap4])∧w.heap.size+2≤wr.heap.size) (fun _ iv _=>p.ks.length-(intOf iv).toNat)
    case atStart=>exact ⟨0,Nat.zero_le _,rfl,HK0,(fun _ h=>by omega),HO5,HR5,(show Blk _ _ _ #[.int .i64 ((c+1+0:Nat):Int)] from KG5.out),HC5,HA5,KP5,hsz5⟩
    case round =>
     clear hsz5
     obtain ⟨i,hi,rfl,HKI,HOR,HO,HRW,KG,HCG,HA6,KP,hsz⟩:=hrel
     have hrow0:=fun b hb=>(HO.out.row b hb).1
     have HGR:=jj (show g∉rowOf u14 from fun h=>by have:=hrow0 _ h;have:=HGL.out;omega)
     clear hrow0
     by_cases hik:i<p.ks.length
     ·have hil:i<ls.length:=by rw [←HLN.out];exact hik
      obtain ⟨b6,off6,rfl⟩:=HA6.out.1.ptr (by omega)
      have HAw:=jj (ArrP.mono HA.out (HCG.out.kept HG.out (fun b hb h=>HGG.out (by rw [←List.mem_singleton.1 h];exact hb))))
      have HGw:=jj (HG.out.mono HCG.out.size)
      have HXw:=jj (ArrDt.mono HX.out (HCG.out.kept HF.out (fun b hb h=>HGF.out (by rw [←List.mem_singleton.1 h];exact hb))))
      have HFw:=jj (HF.out.mono HCG.out.size)
      obtain ⟨b4,off4,rfl⟩:=HAw.out.ptr (by omega)
      obtain ⟨A7,cap7,G7,hb7,k0,k1,k2,k3,k4,k5,HV7,HG7,hG7G,-,-⟩:=ArrP.at HAw.out HGw.out (zy2 _ _) i hik
      have HN7:Hid (g∉G7):=fun h=>HGG.out (hG7G _ h)
      clear hG7G
      have g1:(0:Int)≤(i:Int):=by omega
      have g2:(i:Int)<(ls.length:Int):=by omega
      have g3:(i:Int)<(p.ks.length:Int):=by omega
      have hwr:IntKind.i64.wrap ((deep:Int)+1)=(deep:Int)+1:=IntWalk.i64_in _ (by omega)
      obtain ⟨W7,hW7⟩:∃ W7,W7=wr.alloc (.cells #[p.ks[i].op,p.ks[i].ct,p.ks[i].n,p.ks[i].m,p.ks[i].va,.slice A7 p.ks[i].ks.length cap7] 28):=⟨_,rfl⟩
      have hb77:Below wr wr W7:=by rw [hW7];exact (zy2 _ _).alloc (zz8 _) _
      have KX:Hid (Blk W7 wr 28 #[p.ks[i].op,p.ks[i].ct,p.ks[i].n,p.ks[i].m,p.ks[i].va,.slice A7 p.ks[i].ks.length cap7]):=by rw [hW7];exact Blk.new _ _ _
      have KG7:=jj (KG.out.same (hb77.block _ KG.out.lt))
      have KP7:=jj (KP.out.same (hb77.block _ KP.out.lt))
      have HCG7:=jj (HCG.out.step hb77)
      have HX7:=jj (ArrDt.below HXw.out hb77 HFw.out)
      have HF7:=jj (HFw.out.mono hb77.size)
      have HV77:=jj (HV7.out.below hb77 HG7.out)
      have HG77:=jj (HG7.out.mono hb77.size)
      have HA67:Hid (Arr W7 (TyR W7) ls (.slice (some ⟨b6,off6,none⟩) ls.length cap6) F6∧Under W7 F6):=⟨ArrTy.below HA6.out.1 hb77 HA6.out.2,HA6.out.2.mono hb77.size⟩
      have HO7:Hid (Own W7 (w.heap.size+2) 107 3 VtR (accI xs d t p i) u14 []):=HO.out.below (fun x cs G hk h=>zA6 _ _ x cs G hk h) hb77
      have hgw:g<wr.heap.size:=KG.out.lt
      have hne7:wr.heap.size≠g:=by omega
      have hsz7:=Nat.le_trans hsz hb77.size
      have hci:c+1+kidSum p i≤60:=HKI.out.fit
      go_wp2_with fail
      rw [←hW7]
      clear hW7 k0 k1 k2 k3 k4 k5 hb7 HAw HGw HXw HFw HV7 HG7 KG HCG HA6 KP HO
      obtain ⟨hb6,a0,a1⟩:=ArrTy.at HA67.out.1 HA67.out.2 (zy2 _ _) i hil
      have hb6n:b6≠g:=by
       obtain ⟨b',off',cs',G',e',hb',-⟩:=HA67.out.1.get TyR_len hil
       cases e'
       exact fun e=>HN6.out _ hb' (by rw [e];exact List.mem_singleton.2 rfl)
      obtain ⟨k0,k1,k2,k3,k4,k5,kxl⟩:=KX.out.c6
      have HNE:=jj (show b6∉[g] from fun h=>hb6n (List.mem_singleton.1 h))
      have HNE7:=jj (show wr.heap.size∉[g] from fun h=>hne7 (List.mem_singleton.1 h))
      clear hb6n hne7 hgw
      have HCALL:=jj (IH.out p.ks[i] (List.getElem_mem hik) xs HW.out d (deep+1) (by omega) (by omega) ls[i] (HAI.out _ (List.getElem_mem hil)) W7.drew _ F _ G7 g (c+1+kidSum p i) (ArrDt.drew HX7.out) HF7.out HV77.out.drew HG77.out KG7.out HGF.out HN7.out hci)
      rw [show ((deep+1:Nat):Int)=(deep:Int)+1 by omega] at HCALL
      go_region_held3 (fun w'=>w'.cell? ⟨b6,off6+i*2,none⟩=ls[i].d∧w'.cell? ⟨b6,off6+i*2+1,none⟩=ls[i].i∧w'.cell? ⟨wr,0,none⟩=p.ks[i].op∧w'.cell? ⟨wr,1,none⟩=p.ks[i].ct∧w'.cell? ⟨wr,2,none⟩=p.ks[i].n∧w'.cell? ⟨wr,3,none⟩=p.ks[i].m∧w'.cell? ⟨wr,4,none⟩=p.ks[i].va∧w'.cell? ⟨wr,5,none⟩=some (.slice A7 p.ks[i].ks.length cap7)) (first | assumption | (exact ⟨a0,a1,k0,k1,k2,k3,k4,k5⟩) | (exact ⟨(hC'.cell hb6 HNE.out).trans a0,(hC'.cell hb6 HNE.out).trans a1,(hC'.cell kxl HNE7.out).trans k0,(hC'.cell kxl HNE7.out).trans k1,(hC'.cell kxl HNE7.out).trans k2,(hC'.cell kxl HNE7.out).trans k3,(hC'.cell kxl HNE7.out).trans k4,(hC'.cell kxl HNE7.out).trans k5⟩)) (first | (go_at_call 63;((with_reducible refine HCALL.out.mono ?_);rintro e w' ⟨v',F',c',rfl,hC',hK',hy',-⟩)))
      have hC2:=hC'.undrew
      have HCG8:=jj (HCG7.out.trans hC2)
      have HK8:=jj hK'
      have HA68:Hid (Arr w' (TyR w') ls (.slice (some ⟨b6,off6,none⟩) ls.length cap6) F6∧Under w'.heap.size F6):=⟨ArrTy.mono HA67.out.1 (hC2.kept HA67.out.2 HN6.out),HA67.out.2.mono hC2.size⟩
      have KP8:=jj (KP7.out.same (hC2.block _ KP7.out.lt (fun h=>by have:=List.mem_singleton.1 h;have:=HGL.out;omega)))
      have HO8:Hid (Own w' (w.heap.size+2) 107 3 VtR (accI xs d t p i) u14 []):=HO7.out.mono (fun x cs G hk h=>zA6 _ _ x cs G hk h) (hC2.kept (fun b hb=>(HO7.out.row b (by simpa using hb)).2) (fun b hb h=>HGR.out (by rw [←List.mem_singleton.1 h];simpa using hb))) hC2.size
      have hsz8:=Nat.le_trans hsz7 hC2.size
      have HY:=jj hy'
      have HSW:=jj (show w.heap.size≤W7.heap.size from by omega)
      clear hwr hC' hC2 hK' hy' a0 a1 k0 k1 k2 k3 k4 k5 kxl hb6 HCALL KG7 HCG7 HX7 HF7 HV77 HG77 HA67 HO7 hsz7 hb77 KX
      cases e3:scanPB xs d ls[i] p.ks[i] (c+1+kidSum p i) with
      |false =>
       have HFin:=jj (HBad.out w' c' (HFail.out i hik hil HKI.out e3) HCG8.out HK8.out)
       clear e3
       go_wp2
       go_ret2
       exact HFin.out
      |true =>
       obtain ⟨hcc,hav,hfrv,hfsv⟩:=HY.out e3
       have HKN:=jj (HNext.out i hik hil HKI.out e3)
       have hks:=zAS p i hik
       obtain rfl:c'=c+1+kidSum p (i+1):=by omega
       have HAV:=jj hav
       have HUV:=jj hfsv.under
       have HLY:=jj (varsN_len xs d ls[i] p.ks[i])
       have HNK:=jj (nodesP_mem hik)
       clear hav hfrv hfsv hks e3 HY hcc
       obtain ⟨z0,-,-,-,-,-,klt2⟩:=KP8.out.c6
       by_cases hor:p.op=5∧i=1
       ·have t5:(p.op==5)=true:=by simp [hor.1]
        have t6:((i:Int)==1)=true:=by simp [hor.2]
        have HOR1:=jj hor.1
        have HOR2:=jj hor.2
        clear hor
        go_wp2_with fail
        refine (impl_sameVars (accI xs d t p i) (varsN xs d ls[i] p.ks[i]) w' _ _ _ F' HO8.out.arr (fun b hb=>by
         split at hb
         ·cases hb
         ·exact (HO8.out.row b (by simpa using hb)).2) HAV.out HUV.out).mono ?_
        rintro e w9 ⟨rfl,hb9⟩
        have hok:sameV (accI xs d t p i) (varsN xs d ls[i] p.ks[i])=orOk xs d t p:=HSame.out i hik hil HOR1.out HOR2.out
        rw [hok]
        have KP9:=jj (KP8.out.same (hb9.block _ KP8.out.lt))
        have KG9:=jj (HK8.out.same (hb9.block _ HK8.out.lt))
        have HC9:=jj (HCG8.out.step hb9)
        have HA9:Hid (Arr w9 (TyR w9) ls (.slice (some ⟨b6,off6,none⟩) ls.length cap6) F6∧Under w9 F6):=⟨ArrTy.below HA68.out.1 hb9 HA68.out.2,HA68.out.2.mono hb9.size⟩
        have HO9:Hid (Own w9 (w.heap.size+2) 107 3 VtR (accI xs d t p (i+1)) u14 []):=by
         have h:=HO8.out.below (fun x cs G hk h=>zA6 _ _ x cs G hk h) hb9
         rw [accI_or HOR1.out (by omega)]
         rw [HOR2.out] at h
         exact h
        have hsz9:=Nat.le_trans hsz8 hb9.size
        clear hok hb9 z0 klt2
        cases e4:orOk xs d t p with
        |false =>
         have HFin:=jj (HBad.out w9 _ (HOrNo.out i hik HOR1.out HOR2.out HKN.out e4) HC9.out KG9.out)
         clear e4
         go_wp2
         go_ret2
         exact HFin.out
        |true =>
         have HE4:=jj e4
         clear e4
         go_wp2
         go_roundw
         case rel=>exact ⟨i+1,by omega,by go_num,HKN,(fun _ _=>HE4.out),HO9,HRW,KG9,HC9,HA9,KP9,hsz9⟩
         case measure=>(simp [intOf] <;> omega)
       ·obtain ⟨A9,cap9,rfl,h91,h92⟩:=HAV.out.form
        obtain ⟨i0,hi0,hz0,hz1,hz2⟩:=info_parts info_VtE
        have hn60:=HKN.out.fit
        have HL60:=jj (accI_len xs d t p i)
        have hpl:(accI xs d t p i).length+(varsN xs d ls[i] p.ks[i]).length≤200:=by
         have h1:=HL60.out
         have h2:=HLY.out
         have h3:=zAS p i hik
         omega
        obtain ⟨v8,w8,hrun,ho8,hg8,hr8⟩:=run_append_vars (P:=Try.prog) 33 33 i0 _ 24 Try.underlying33 hi0 hz0 hz1 hz2 rfl HO8.out HAV.out (by unfold maxLen;omega) (by omega) hsz8
        have HRUN:=jj hrun
        have hC8:=grown_chg' hg8
        have hgr8:g∉rowOf u14:=HGR.out
        have HO9:Hid (Own w8 (w.heap.size+2) 107 3 VtR (accI xs d t p (i+1)) v8 []):=by rw [HAcc.out i hik hil hor];exact ho8
        have HRW9:Hid (∀ g'∈rowOf v8,g'∉F6):=fun g' hg' hF=>by
         rcases hr8 g' hg' with h | h
         ·exact HRW.out g' h hF
         ·have:=HA68.out.2 g' hF;omega
        have KG9:=jj (HK8.out.same (hC8.block _ HK8.out.lt hgr8))
        have KP9:=jj (KP8.out.same (hC8.block _ KP8.out.lt (fun h=>by have:=(HO8.out.row _ h).1;omega)))
        have HC9:Hid (Chg [g] w w8):=zB0 HCG8.out hC8 (fun b hb=>.inr (by have:=(HO8.out.row _ hb).1;omega))
        have HA9:Hid (Arr w8 (TyR w8) ls (.slice (some ⟨b6,off6,none⟩) ls.length cap6) F6∧Under w8 F6):=⟨ArrTy.mono HA68.out.1 (hC8.kept HA68.out.2 (fun b hb h=>HRW.out b h hb)),HA68.out.2.mono hC8.size⟩
        have hsz9:=Nat.le_trans hsz8 hC8.size
        have HORn:Hid (p.op=5→1<i+1→orOk xs d t p=true):=fun h5 h1=>by
         have:=HL5.out h5
         exact absurd ⟨h5,by omega⟩ hor
        clear hrun ho8 hg8 hr8 hC8 hgr8 hi0 hz0 hz1 hz2 HAV HUV hpl hn60
        by_cases h5:p.op=5
        ·have t5:(p.op==5)=true:=by simp [h5]
         have t6:((i:Int)==1)=false:=by rw [beq_eq_false_iff_ne];intro h;exact hor ⟨h5,by omega⟩
         clear h5 hor
         go_wp2_with (at_builtin;refine Halt.mk ?_)
         refine Halt.of (zAZ rfl _ _ 33 rfl (by rfl) (by rfl) HRUN.out ?_)
         clear HRUN z0 klt2 t5
         go_wp2
         go_roundw
         case rel=>exact ⟨i+1,by omega,by go_num,HKN,HORn,HO9,HRW9,KG9,HC9,HA9,KP9,hsz9⟩
         case measure=>(simp [intOf] <;> omega)
        ·have t5:(p.op==5)=false:=by simpa using h5
         clear h5 hor
         go_wp2_with (at_builtin;refine Halt.mk ?_)
         refine Halt.of (zAZ rfl _ _ 33 rfl (by rfl) (by rfl) HRUN.out ?_)
         clear HRUN z0 klt2 t5
         go_wp2
         go_roundw
         case rel=>exact ⟨i+1,by omega,by go_num,HKN,HORn,HO9,HRW9,KG9,HC9,HA9,KP9,hsz9⟩
         case measure=>(simp [intOf] <;> omega)
     ·obtain ⟨wo,hwo⟩:∃ wo,wo=wr:=⟨_,rfl⟩
      subst hwo
      have HKE:Hid (KidsOk xs d t p c p.ks.length):=by have h:=HKI.out;rwa [show i=p.ks.length by omega] at h
      have HOE:Hid (Own wo (w.heap.size+2) 107 3 VtR (accI xs d t p p.ks.length) u14 []):=by have h:=HO.out;rwa [show i=p.ks.length by omega] at h
      have KGE:Hid (Blk wo g 3 #[.int .i64 ((c+nodesP p:Nat):Int)]):=by have h:=KG.out;rw [show i=p.ks.length by omega] at h;rwa [zAK p (zz8 _),←Nat.add_assoc]
      have HFS:=jj (HKE.out.fin (fun h5=>HOR.out h5 (by have:=HL5.out h5;omega)))
      have HRG:=jj (vars_range xs (d+1) t p HKE.out.shape)
      have HLL:=jj (varsN_len xs (d+1) t p)
      have hln60:(varsN xs (d+1) t p).length≤60:=by have h1:=HLL.out;have h2:=HKE.out.fit;have h3:=zAK p (zz8 p.ks.length);omega
      have hacc:=accI_done (xs:=xs) (d:=d) (t:=t) (p:=p) HL5.out
      rw [hacc] at HOE
      have hfinT:Hid (dupFree (varsN xs (d+1) t p)=true→∀ W,Below wo wo W→ScanPP xs (d+1) t p c g w (.returned (.tuple #[u14,.bool true])) W):=fun hd W hW=>by
       have hT:=HFS.out.trans hd
       have hO:=HOE.out.below (fun x cs G hk h=>zA6 _ _ x cs G hk h) hW
       exact ⟨u14,_,c+nodesP p,by rw [hT],HCG.out.step hW,KGE.out.same (hW.block _ KGE.out.lt),fun _=>⟨rfl,hO.arr,hO.free (Free.nil _),hO.fresh (by omega) (fun b hb=>by cases hb)⟩,fun h=>by rw [hT] at h;cases h⟩
      have hfinF:Hid (dupFree (varsN xs (d+1) t p)=false→∀ W,Below wo wo W→ScanPP xs (d+1) t p c g w (.returned (.tuple #[.slice none 0 0,.bool false])) W):=fun hd W hW=>HBad.out W _ (HFS.out.trans hd) (HCG.out.step hW) (KGE.out.same (hW.block _ KGE.out.lt))
      clear hacc HFS HLL
      generalize varsN xs (d+1) t p=L at *
      obtain ⟨oA,ocap,hov,ho1,ho2⟩:=HOE.out.form
      subst hov
      have HAL:=jj HOE.out.arr
      have HUL:Hid (Under wo (if L=[] then [] else rowOf (.slice oA L.length ocap) ++ [])):=fun b hb=>by
       split at hb
       ·cases hb
       ·exact (HOE.out.row b (by simpa using hb)).2
      generalize (if L=[] then [] else rowOf (.slice oA L.length ocap) ++ [])=FL at *
      have hbm:Below wo wo (wo.alloc (.cells #[.bool false,.bool false,.bool false,.bool false,.bool false,.bool false] 127)):=(zy2 _ _).alloc (zz8 _) _
      have KM:Hid (Blk (wo.alloc (.cells #[.bool false,.bool false,.bool false,.bool false,.bool false,.bool false] 127)) wo.heap.size 127 (metTo L 0)):=Blk.new _ _ _
      clear HO KG HRW HA6 KP HKI HOR HGR HKE HOE KGE HCG
      go_wp2
      go_loopw [101] (fun iv ws=>∃ i:Nat,i≤L.length∧iv=.int .i64 i∧Hid (∀ j (hj:j<L.length),j<i→∀ k (hk:k<L.length),k<j→L[k].var≠L[j].var)∧Hid (Blk ws wo 127 (metTo L i))∧Hid (Below wo wo ws)) (fun iv _=>L.length-(intOf iv).toNat)
      case atStart=>exact ⟨0,Nat.zero_le _,rfl,(fun j hj h=>by omega),KM,hbm⟩
      case round =>
       clear KM hbm
       obtain ⟨i,hi,rfl,HN,KM,HB⟩:=hrel
       by_cases hil:i<L.length
       ·obtain ⟨bL,offL,rfl⟩:=HAL.out.ptr (by omega)
        obtain ⟨hbL,c0,c1,c2⟩:=ArrVt.at HAL.out HUL.out HB.out i hil
        have hrg:=HRG.out L[i] (List.getElem_mem hil)
        obtain ⟨k,hk⟩:∃ k:Nat,L[i].var=(k:Int):=⟨L[i].var.toNat,by omega⟩
        have hk6:k<6:=by omega
        have HNY:=jj (fun (h:metB (L.take i) k=false)=>met_yes hil hk h)
        have HNN:=jj (fun (h:metB (L.take i) k=true)=>met_no hil hk h)
        have HMS:=jj (metTo_succ L hil hk6 hk)
        have g1:(0:Int)≤(i:Int):=by omega
        have g2:(i:Int)<(L.length:Int):=by omega
        have g3:(0:Int)≤(k:Int):=by omega
        have g4:(k:Int)<6:=by omega
        rw [hk] at c0
        have hml:=KM.out.lt
        have hBv:Below wr wr (wr.alloc (.cells #[(k:Int),L[i].ty.d,L[i].ty.i] 107)):=(zy2 _ _).alloc (zz8 _) _
        have KMv:Blk (wr.alloc (.cells #[(k:Int),L[i].ty.d,L[i].ty.i] 107)) wo.heap.size 127 (metTo L i):=KM.out.same (hBv.block _ hml)
        have m0:(wr.alloc (.cells #[(k:Int),L[i].ty.d,L[i].ty.i] 107)).cell? ⟨wo.heap.size,k,none⟩=some (.bool (metB (L.take i) k)):=(KMv.cell k).trans (metRow_get _ hk6)
        have mf0:(wr.alloc (.cells #[(k:Int),L[i].ty.d,L[i].ty.i] 107)).frozen? ⟨wo.heap.size,k,none⟩=false:=KMv.frozen k
        have n0:wr.cell? ⟨wo.heap.size,k,none⟩=some (.bool (metB (L.take i) k)):=(KM.out.cell k).trans (metRow_get _ hk6)
        have nf0:wr.frozen? ⟨wo.heap.size,k,none⟩=false:=KM.out.frozen k
        have hmlv:=KMv.lt
        have HBv:=jj (HB.out.trans (hBv.mono HB.out.size))
        have HKMv:=jj KMv
        clear hrg hk KMv
        cases hm:metB (L.take i) k with
        |true =>
         rw [hm] at m0 n0
         have HFin:=jj (hfinF.out (HNN.out hm) _ HBv.out)
         clear hm
         go_wp2
         go_ret2
         exact HFin.out
        |false =>
         rw [hm] at m0 n0
         have hny:=HNY.out hm
         have HN2:Hid (∀ j (hj:j<L.length),j<i+1→∀ k (hk:k<L.length),k<j→L[k].var≠L[j].var):=fun j hj hji=>by
          rcases Nat.lt_or_ge j i with h | h
          ·exact HN.out j hj h
          ·obtain rfl:j=i:=by omega
           exact hny
         have KM1:Blk (wr.setCell ⟨wo.heap.size,k,none⟩ (.bool true)) wo.heap.size 127 (metTo L (i+1)):=by rw [←HMS.out];exact KM.out.set_ k (.bool true)
         have KM2:Hid (Blk ((wr.setCell ⟨wo.heap.size,k,none⟩ (.bool true)).alloc (.cells #[(k:Int),L[i].ty.d,L[i].ty.i] 107)) wo.heap.size 127 (metTo L (i+1))):=KM1.same (Below.heap_alloc _ _ _ KM1.lt)
         have HB2:Hid (Below wo wo ((wr.setCell ⟨wo.heap.size,k,none⟩ (.bool true)).alloc (.cells #[(k:Int),L[i].ty.d,L[i].ty.i] 107))):=(HB.out.setCell (zz8 _) _).alloc (by have:=HB.out.size;simpa [World.setCell] using this) _
         clear KM1
         clear hm hny
         go_wp2
         go_roundw
         case rel=>exact ⟨i+1,by omega,by go_num,HN2,KM2,HB2⟩
         case measure=>(simp [intOf] <;> omega)
       ·have HFin:=jj (hfinT.out (dup_yes (fun j hj=>HN.out j hj (by omega))) _ HB.out)
        go_wp2
        go_ret2
        exact HFin.out
theorem impl_patternScan:∀ p,ScanIP p:=P.indv patternScan_of
def VarsIP (xs:List Dt) (t:Ty) (p:P) (w:World) (e:Ending) (w':World):Prop :=
 ∃ (v:Value) (F:List Nat),e=.returned (.tuple #[v,.bool (patOkB xs t p)])∧Below w w w'∧(patOkB xs t p=true→Arr w' (VtR w') (varsN xs 10 t p) v F∧Free w' F∧Fresh w w' F)∧(patOkB xs t p=false→v=.slice none 0 0)
theorem patOk_scan (xs:List Dt) (t:Ty) (p:P):scanPB xs 10 t p 0=patOkB xs t p:=by unfold scanPB patOkB;rw [Nat.zero_add]
theorem impl_patternVars (xs:List Dt) (hw:WorldOK xs) (t:Ty) (ht:TyIn xs.length t) (p:P) (w:World) (x:Value) (F:List Nat) (cs:List Value) (G:List Nat):Arr w (DtR w) xs x F→Under w F→PR w p cs G→Under w G →
  Calls Try.prog 30 #[x,.agg #[t.d,t.i],.agg cs.toArray] w (VarsIP xs t p w):=by
 intro hx hf hv hg
 obtain ⟨kv,rfl,ha⟩:=(zA4 _ _ _).1 hv
 obtain ⟨A,cap,rfl,hc1,hc2⟩:=hx.form
 obtain ⟨A4,cap4,rfl,hc3,hc4⟩:=ha.form
 have HV:=jj hv
 have HX:=jj hx
 have HF:=jj hf
 have HA:=jj ha
 have HG:=jj hg
 clear hx hf ha hg
 clear hv
 have HW:=jj hw
 have HT:=jj ht
 clear hw ht
 go_enter Try.func30,Try.ntmps30
 go_wp2_with fail
 obtain ⟨W2,hW2⟩:∃ W2,W2=(((w.alloc (.cells #[t.d,t.i] 25)).alloc (.cells #[p.op,p.ct,p.n,p.m,p.va,.slice A4 p.ks.length cap4] 28)).alloc (.cells #[(0:Int)] 3)):=⟨_,rfl⟩
 have hB0:Below w w W2:=by rw [hW2];exact (((zy2 _ _).alloc (zz8 _) _).alloc (by simp) _).alloc (by simp;omega) _
 have KG:Hid (Blk W2 (w.heap.size+2) 3 #[.int .i64 ((0:Nat):Int)]):=by
  rw [hW2]
  have h:=Blk.new ((w.alloc (.cells #[t.d,t.i] 25)).alloc (.cells #[p.op,p.ct,p.n,p.m,p.va,.slice A4 p.ks.length cap4] 28)) 3 #[(0:Int)]
  rw [show (((w.alloc (.cells #[t.d,t.i] 25)).alloc (.cells #[p.op,p.ct,p.n,p.m,p.va,.slice A4 p.ks.length cap4] 28))).heap.size=w.heap.size+2 from by simp] at h
  exact h
 rw [←hW2]
 clear hW2
 refine (impl_patternScan p xs HW.out 10 1 rfl (zz8 _) t HT.out W2 _ F _ G (w.heap.size+2) 0 (ArrDt.below HX.out hB0 HF.out) (HF.out.mono hB0.size) (HV.out.below hB0 HG.out) (HG.out.mono hB0.size) KG.out (fun h=>by have:=HF.out _ h;omega) (fun h=>by have:=HG.out _ h;omega) (by omega)).mono ?_
 rintro e w3 ⟨v3,F3,c',rfl,hC,-,hy,hn⟩
 rw [patOk_scan] at hy hn
 have hB3:=hB0.trans (hC.below (B:=w.heap.size) (fun b hb=>by rw [List.mem_singleton.1 hb];omega) hB0.size)
 have HFin:Hid (VarsIP xs t p w (.returned (.tuple #[v3,.bool (patOkB xs t p)])) w3):=⟨v3,F3,rfl,hB3,fun h=>⟨(hy h).2.1,(hy h).2.2.1,fun b hb=>⟨Nat.le_trans hB0.size ((hy h).2.2.2 b hb).1,((hy h).2.2.2 b hb).2⟩⟩,hn⟩
 rw [patOk_scan]
 generalize patOkB xs t p=bb at *
 clear hC hy hn
 go_wp2
 go_ret2
 exact HFin.out
theorem spec_l4Is (xs:List Dt) (t:Ty) (hty:typeValidB xs t=true) (c:Cl) (hz:c.pat.size≤1048576) (w:World) (x:Value) (F:List Nat) (cs:List Value) (G:List Nat) (hx:Arr w (DtR w) xs x F) (hf:Under w F) (hv:ClR w c cs G) (hg:Under w G) :
  Calls Try.prog 49 #[x,.agg #[t.d,t.i],.agg cs.toArray] w fun e w'=>e=.returned (.bool (clauseB xs t c))∧Below w w w':=by
 obtain ⟨ds,rfl,hp⟩:=id hv
 obtain ⟨kv,rfl,ha⟩:=(zA4 _ _ _).1 hp
 obtain ⟨A,cap,rfl,hc1,hc2⟩:=hx.form
 obtain ⟨A4,cap4,rfl,hc3,hc4⟩:=ha.form
 have HV:=jj hv
 have HP:=jj hp
 have HX:=jj hx
 have HF:=jj hf
 have HG:=jj hg
 clear hx hf hg
 clear hv hp ha
 simp only [List.cons_append,List.nil_append] at HV ⊢
 obtain ⟨hw,hto⟩:=typeValid_split hty
 have HW:=jj hw
 have HT:=jj (zB4 hto)
 have HTY:=jj hty
 clear hty hw hto
 go_enter Try.func49,Try.ntmps49
 go_wp2_with fail
 obtain ⟨W2,hW2⟩:∃ W2,W2=((w.alloc (.cells #[t.d,t.i] 25)).alloc (.cells #[c.pat.op,c.pat.ct,c.pat.n,c.pat.m,c.pat.va,.slice A4 c.pat.ks.length cap4,c.gd.op,c.gd.va,c.gd.n] 55)):=⟨_,rfl⟩
 have hB0:Below w w W2:=by rw [hW2];exact ((zy2 _ _).alloc (zz8 _) _).alloc (by simp) _
 have KT:Hid (Blk W2 w 25 #[t.d,t.i]):=by rw [hW2];exact (Blk.new w _ _).same (Below.heap_alloc _ _ _ (by simp))
 have KP:Hid (Blk W2 (w.heap.size+1) 55 #[c.pat.op,c.pat.ct,c.pat.n,c.pat.m,c.pat.va,.slice A4 c.pat.ks.length cap4,c.gd.op,c.gd.va,c.gd.n]):=by rw [hW2];have h:=Blk.new (w.alloc (.cells #[t.d,t.i] 25)) 55 #[c.pat.op,c.pat.ct,c.pat.n,c.pat.m,c.pat.va,.slice A4 c.pat.ks.length cap4,c.gd.op,c.gd.va,c.gd.n];rw [World.size_alloc] at h;exact h
 rw [←hW2]
 clear hW2
 have y0:W2.cell? ⟨w,0,none⟩=t.d:=(KT.out.cell 0).trans (by simp)
 have y1:W2.cell? ⟨w,1,none⟩=t.i:=(KT.out.cell 1).trans (by simp)
 have klt:=KT.out.lt
 have z0:W2.cell? ⟨w.heap.size+1,0,none⟩=c.pat.op:=(KP.out.cell 0).trans (by simp)
 have z1:W2.cell? ⟨w.heap.size+1,1,none⟩=c.pat.ct:=(KP.out.cell 1).trans (by simp)
 have z2:W2.cell? ⟨w.heap.size+1,2,none⟩=c.pat.n:=(KP.out.cell 2).trans (by simp)
 have z3:W2.cell? ⟨w.heap.size+1,3,none⟩=c.pat.m:=(KP.out.cell 3).trans (by simp)
 have z4:W2.cell? ⟨w.heap.size+1,4,none⟩=c.pat.va:=(KP.out.cell 4).trans (by simp)
 have z5:W2.cell? ⟨w.heap.size+1,5,none⟩=some (.slice A4 c.pat.ks.length cap4):=(KP.out.cell 5).trans (by simp)
 have z6:W2.cell? ⟨w.heap.size+1,6,none⟩=c.gd.op:=(KP.out.cell 6).trans (by simp)
 have z7:W2.cell? ⟨w.heap.size+1,7,none⟩=c.gd.va:=(KP.out.cell 7).trans (by simp)
 have z8:W2.cell? ⟨w.heap.size+1,8,none⟩=c.gd.n:=(KP.out.cell 8).trans (by simp)
 have klt2:=KP.out.lt
 have h1:=spec_l3Is xs HW.out t HT.out c.pat hz W2.drew _ F _ G (ArrDt.below HX.out hB0.drew HF.out) (HF.out.mono hB0.drew.size) (HP.out.below hB0.drew HG.out) (HG.out.mono hB0.drew.size)
 cases e1:patOkB xs t c.pat with
 |false =>
  rw [e1] at h1
  have H1:=jj h1
  have hf:Hid (clauseB xs t c=false):=by unfold Hid clauseB;rw [e1];rfl
  clear h1 e1
  have HS:Hid (∀ C:World,Below W2 W2 C→(C.cell? ⟨w,0,none⟩=t.d∧C.cell? ⟨w,1,none⟩=t.i∧C.cell? ⟨w.heap.size+1,0,none⟩=c.pat.op∧C.cell? ⟨w.heap.size+1,1,none⟩=c.pat.ct∧C.cell? ⟨w.heap.size+1,2,none⟩=c.pat.n∧C.cell? ⟨w.heap.size+1,3,none⟩=c.pat.m∧C.cell? ⟨w.heap.size+1,4,none⟩=c.pat.va∧C.cell? ⟨w.heap.size+1,5,none⟩=some (.slice A4 c.pat.ks.length cap4)∧C.cell? ⟨w.heap.size+1,6,none⟩=c.gd.op∧C.cell? ⟨w.heap.size+1,7,none⟩=c.gd.va∧C.cell? ⟨w.heap.size+1,8,none⟩=c.gd.n)):=fun C hb=>⟨(hb.cell (klt)).trans y0,(hb.cell (klt)).trans y1,(hb.cell (klt2)).trans z0,(hb.cell (klt2)).trans z1,(hb.cell (klt2)).trans z2,(hb.cell (klt2)).trans z3,(hb.cell (klt2)).trans z4,(hb.cell (klt2)).trans z5,(hb.cell (klt2)).trans z6,(hb.cell (klt2)).trans z7,(hb.cell (klt2)).trans z8⟩
  have hC0:Below W2 W2 W2.drew:=(zy2 _ _).drew
  refine zA9 (S:=fun w'=>w'.cell? ⟨w,0,none⟩=t.d∧w'.cell? ⟨w,1,none⟩=t.i∧w'.cell? ⟨w.heap.size+1,0,none⟩=c.pat.op∧w'.cell? ⟨w.heap.size+1,1,none⟩=c.pat.ct∧w'.cell? ⟨w.heap.size+1,2,none⟩=c.pat.n∧w'.cell? ⟨w.heap.size+1,3,none⟩=c.pat.m∧w'.cell? ⟨w.heap.size+1,4,none⟩=c.pat.va∧w'.cell? ⟨w.heap.size+1,5,none⟩=some (.slice A4 c.pat.ks.length cap4)∧w'.cell? ⟨w.heap.size+1,6,none⟩=c.gd.op∧w'.cell? ⟨w.heap.size+1,7,none⟩=c.gd.va∧w'.cell? ⟨w.heap.size+1,8,none⟩=c.gd.n) (T:=fun _=>True) (d:=15) (by kernel_rfl) ?_
  obtain ⟨wd,hwd⟩:∃ X,X=W2.drew:=⟨_,rfl⟩
  rw [←hwd] at hC0 H1 ⊢
  clear hwd
  have hS0:=HS.out _ hC0
  have hT0:True:=trivial
  refine wV 0 rfl hS0 hT0 ?_
  (try simp only [zz])
  refine wV 1 rfl hS0 hT0 ?_
  (try simp only [zz])
  refine wV 2 rfl hS0 hT0 ?_
  (try simp only [zz])
  refine wV 3 rfl hS0 hT0 ?_
  (try simp only [zz])
  refine w1 4 rfl fun K hK=>?_
  go_simp
  go_at_call 58
  refine (H1.out).mono ?_
  rintro e w3 ⟨rfl,hb3⟩
  have hC1:Below W2 W2 w3:=hC0.trans (hb3.mono hC0.size)
  have hS1:=HS.out _ hC1
  (try dsimp only)
  refine hK.out _ _ hS1 (fun _=>trivial) ?_
  clear hK K
  (try simp only [zz])
  refine wV 5 rfl hS1 hT0 ?_
  (try simp only [zz])
  refine wN 6 rfl hS1 hT0 ?_
  (try simp only [zz])
  refine wN 7 rfl hS1 hT0 ?_
  (try simp only [zz])
  refine wN 8 rfl hS1 hT0 ?_
  (try simp only [zz])
  refine wN 9 rfl hS1 hT0 ?_
  (try simp only [zz])
  refine wN 10 rfl hS1 hT0 ?_
  (try simp only [zz])
  refine wN 11 rfl hS1 hT0 ?_
  (try simp only [zz])
  refine wN 12 rfl hS1 hT0 ?_
  (try simp only [zz])
  refine wN 13 rfl hS1 hT0 ?_
  (try simp only [zz])
  refine wV 14 rfl hS1 hT0 ?_
  (try simp only [zz])
  refine w1 15 rfl fun K hK=>?_
  go_simp
  refine hK.out _ _ hS1 (fun _=>trivial) ?_
  clear hK K
  (try simp only [zz])
  refine wE (by kernel_rfl) ?_
  clear hS0 hS1 hT0
  clear y0 y1 z0 z1 z2 z3 z4 z5 z6 z7 z8 klt klt2
  clear hb3
  have hB3:=hB0.trans (hC1.mono hB0.size)
  go_wp2
  go_ret
  exact ⟨zA0 hf.out.symm,hB3⟩
 |true =>
  rw [e1] at h1
  have H1:=jj h1
  have hf:Hid (clauseB xs t c=guardSB c.gd (varsN xs 10 t c.pat)):=by unfold Hid clauseB;rw [guard_pat HTY.out e1,e1];rfl
  have hsh:shapeB xs 10 t c.pat=true∧nodesP c.pat≤4000000:=by
   have h:=e1
   unfold patOkB at h
   simp only [Bool.and_eq_true,decide_eq_true_eq] at h
   exact ⟨h.1,by omega⟩
  have HSH:=jj hsh
  have HB0:=jj hB0
  clear h1 e1 hsh hB0
  have hkeep:Kp W2.heap.size (fun U=>U.cell? ⟨w,0,none⟩=t.d∧U.cell? ⟨w,1,none⟩=t.i∧U.cell? ⟨w.heap.size+1,0,none⟩=c.pat.op∧U.cell? ⟨w.heap.size+1,1,none⟩=c.pat.ct∧U.cell? ⟨w.heap.size+1,2,none⟩=c.pat.n∧U.cell? ⟨w.heap.size+1,3,none⟩=c.pat.m∧U.cell? ⟨w.heap.size+1,4,none⟩=c.pat.va∧U.cell? ⟨w.heap.size+1,5,none⟩=some (.slice A4 c.pat.ks.length cap4)∧U.cell? ⟨w.heap.size+1,6,none⟩=c.gd.op∧U.cell? ⟨w.heap.size+1,7,none⟩=c.gd.va∧U.cell? ⟨w.heap.size+1,8,none⟩=c.gd.n):=fun U U' h hUU hU=>⟨(hUU.cell (zz9 (klt) hU)).trans h.1,(hUU.cell (zz9 (klt) hU)).trans h.2.1,(hUU.cell (zz9 (klt2) hU)).trans h.2.2.1,(hUU.cell (zz9 (klt2) hU)).trans h.2.2.2.1,(hUU.cell (zz9 (klt2) hU)).trans h.2.2.2.2.1,(hUU.cell (zz9 (klt2) hU)).trans h.2.2.2.2.2.1,(hUU.cell (zz9 (klt2) hU)).trans h.2.2.2.2.2.2.1,(hUU.cell (zz9 (klt2) hU)).trans h.2.2.2.2.2.2.2.1,(hUU.cell (zz9 (klt2) hU)).trans h.2.2.2.2.2.2.2.2.1,(hUU.cell (zz9 (klt2) hU)).trans h.2.2.2.2.2.2.2.2.2.1,(hUU.cell (zz9 (klt2) hU)).trans h.2.2.2.2.2.2.2.2.2.2⟩
  have HKeep:=jj hkeep
  clear hkeep
  go_region_held3 (fun w'=>w'.cell? ⟨w,0,none⟩=t.d∧w'.cell? ⟨w,1,none⟩=t.i∧w'.cell? ⟨w.heap.size+1,0,none⟩=c.pat.op∧w'.cell? ⟨w.heap.size+1,1,none⟩=c.pat.ct∧w'.cell? ⟨w.heap.size+1,2,none⟩=c.pat.n∧w'.cell? ⟨w.heap.size+1,3,none⟩=c.pat.m∧w'.cell? ⟨w.heap.size+1,4,none⟩=c.pat.va∧w'.cell? ⟨w.heap.size+1,5,none⟩=some (.slice A4 c.pat.ks.length cap4)∧w'.cell? ⟨w.heap.size+1,6,none⟩=c.gd.op∧w'.cell? ⟨w.heap.size+1,7,none⟩=c.gd.va∧w'.cell? ⟨w.heap.size+1,8,none⟩=c.gd.n) (first | assumption | (exact ⟨y0,y1,z0,z1,z2,z3,z4,z5,z6,z7,z8⟩) | (exact HKeep.out W2.drew w3 ⟨y0,y1,z0,z1,z2,z3,z4,z5,z6,z7,z8⟩ hb3 (zz8 _)) | (exact HKeep.out w3 w4 (by assumption) hb4 hlew3) | (exact HKeep.out w4 w5 (by assumption) hb5 hlew4)) (first | (go_at_call 58;((with_reducible refine (H1.out).mono ?_);rintro e w3 ⟨rfl,hb3⟩);have hB3:=HB0.out.drew.trans (hb3.mono HB0.out.size);have hlew3:W2.heap.size≤w3.heap.size:=hb3.size) | (go_at_call 69;((with_reducible refine (zB8 HW.out HT.out HSH.out.1 HSH.out.2 (ArrDt.below HX.out hB3 HF.out) (HF.out.mono hB3.size) (HP.out.below hB3 HG.out) (HG.out.mono hB3.size)).mono ?_);rintro e w4 ⟨v4,F4,rfl,hb4,ha4,hfr4,hfs4⟩);have hB4:=hB3.trans (hb4.mono hB3.size);have hlew4:W2.heap.size≤w4.heap.size:=Nat.le_trans hlew3 hb4.size) | (go_at_call 73;((with_reducible refine (spec_l4Guard c.gd _ _ _ F4 ha4 hfs4.under).mono ?_);rintro e w5 ⟨rfl,hb5⟩)))
  have hB5:=hB4.trans (hb5.mono hB4.size)
  generalize guardSB c.gd (varsN xs 10 t c.pat)=bb at *
  clear y0 y1 z0 z1 z2 z3 z4 z5 z6 z7 z8 klt klt2
  clear hb3 hb4 hb5 ha4 hfr4 hfs4 hB3 hB4
  go_wp2
  go_ret
  exact ⟨zA0 hf.out.symm,hB5⟩
theorem impl_clauseOk (xs:List Dt) (t:Ty) (hty:typeValidB xs t=true) (c:Cl) (_:c.pat.size≤1048576) (w:World) (x:Value) (F:List Nat) (cs:List Value) (G:List Nat) (hx:Arr w (DtR w) xs x F) (hf:Under w F) (hv:ClR w c cs G) (hg:Under w G) :
  Calls Try.prog 46 #[x,.agg #[t.d,t.i],.agg cs.toArray] w fun e w'=>e=.returned (.bool (clauseB xs t c))∧Below w w w':=by
 obtain ⟨ds,rfl,hp⟩:=id hv
 obtain ⟨kv,rfl,ha⟩:=(zA4 _ _ _).1 hp
 obtain ⟨A,cap,rfl,hc1,hc2⟩:=hx.form
 obtain ⟨A4,cap4,rfl,hc3,hc4⟩:=ha.form
 have HV:=jj hv
 have HP:=jj hp
 have HX:=jj hx
 have HF:=jj hf
 have HG:=jj hg
 clear hx hf hg
 clear hv hp ha
 simp only [List.cons_append,List.nil_append] at HV ⊢
 obtain ⟨hw,hto⟩:=typeValid_split hty
 have HW:=jj hw
 have HT:=jj (zB4 hto)
 clear hty hw hto
 go_enter Try.func46,Try.ntmps46
 go_wp2_with fail
 obtain ⟨W2,hW2⟩:∃ W2,W2=((w.alloc (.cells #[t.d,t.i] 25)).alloc (.cells #[c.pat.op,c.pat.ct,c.pat.n,c.pat.m,c.pat.va,.slice A4 c.pat.ks.length cap4,c.gd.op,c.gd.va,c.gd.n] 55)):=⟨_,rfl⟩
 have hB0:Below w w W2:=by rw [hW2];exact ((zy2 _ _).alloc (zz8 _) _).alloc (by simp) _
 have KT:Hid (Blk W2 w 25 #[t.d,t.i]):=by rw [hW2];exact (Blk.new w _ _).same (Below.heap_alloc _ _ _ (by simp))
 have KP:Hid (Blk W2 (w.heap.size+1) 55 #[c.pat.op,c.pat.ct,c.pat.n,c.pat.m,c.pat.va,.slice A4 c.pat.ks.length cap4,c.gd.op,c.gd.va,c.gd.n]):=by rw [hW2];have h:=Blk.new (w.alloc (.cells #[t.d,t.i] 25)) 55 #[c.pat.op,c.pat.ct,c.pat.n,c.pat.m,c.pat.va,.slice A4 c.pat.ks.length cap4,c.gd.op,c.gd.va,c.gd.n];rw [World.size_alloc] at h;exact h
 rw [←hW2]
 clear hW2
 have y0:W2.cell? ⟨w,0,none⟩=t.d:=(KT.out.cell 0).trans (by simp)
 have y1:W2.cell? ⟨w,1,none⟩=t.i:=(KT.out.cell 1).trans (by simp)
 have klt:=KT.out.lt
 have z0:W2.cell? ⟨w.heap.size+1,0,none⟩=c.pat.op:=(KP.out.cell 0).trans (by simp)
 have z1:W2.cell? ⟨w.heap.size+1,1,none⟩=c.pat.ct:=(KP.out.cell 1).trans (by simp)
 have z2:W2.cell? ⟨w.heap.size+1,2,none⟩=c.pat.n:=(KP.out.cell 2).trans (by simp)
 have z3:W2.cell? ⟨w.heap.size+1,3,none⟩=c.pat.m:=(KP.out.cell 3).trans (by simp)
 have z4:W2.cell? ⟨w.heap.size+1,4,none⟩=c.pat.va:=(KP.out.cell 4).trans (by simp)
 have z5:W2.cell? ⟨w.heap.size+1,5,none⟩=some (.slice A4 c.pat.ks.length cap4):=(KP.out.cell 5).trans (by simp)
 have z6:W2.cell? ⟨w.heap.size+1,6,none⟩=c.gd.op:=(KP.out.cell 6).trans (by simp)
 have z7:W2.cell? ⟨w.heap.size+1,7,none⟩=c.gd.va:=(KP.out.cell 7).trans (by simp)
 have z8:W2.cell? ⟨w.heap.size+1,8,none⟩=c.gd.n:=(KP.out.cell 8).trans (by simp)
 have klt2:=KP.out.lt
 go_wp2_with fail
 refine (impl_patternVars xs HW.out t HT.out c.pat W2 _ F _ G (ArrDt.below HX.out hB0 HF.out) (HF.out.mono hB0.size) (HP.out.below hB0 HG.out) (HG.out.mono hB0.size)).mono ?_
 rintro e w3 ⟨v3,F3,rfl,hb3,hy,hn⟩
 have hB3:=hB0.trans (hb3.mono hB0.size)
 have KT3:=jj (KT.out.same (hb3.block _ KT.out.lt))
 have KP3:=jj (KP.out.same (hb3.block _ KP.out.lt))
 clear y0 y1 z0 z1 z2 z3 z4 z5 z6 z7 z8 klt klt2
 have y0:w3.cell? ⟨w,0,none⟩=t.d:=(KT3.out.cell 0).trans (by simp)
 have y1:w3.cell? ⟨w,1,none⟩=t.i:=(KT3.out.cell 1).trans (by simp)
 have klt:=KT3.out.lt
 have z0:w3.cell? ⟨w.heap.size+1,0,none⟩=c.pat.op:=(KP3.out.cell 0).trans (by simp)
 have z1:w3.cell? ⟨w.heap.size+1,1,none⟩=c.pat.ct:=(KP3.out.cell 1).trans (by simp)
 have z2:w3.cell? ⟨w.heap.size+1,2,none⟩=c.pat.n:=(KP3.out.cell 2).trans (by simp)
 have z3:w3.cell? ⟨w.heap.size+1,3,none⟩=c.pat.m:=(KP3.out.cell 3).trans (by simp)
 have z4:w3.cell? ⟨w.heap.size+1,4,none⟩=c.pat.va:=(KP3.out.cell 4).trans (by simp)
 have z5:w3.cell? ⟨w.heap.size+1,5,none⟩=some (.slice A4 c.pat.ks.length cap4):=(KP3.out.cell 5).trans (by simp)
 have z6:w3.cell? ⟨w.heap.size+1,6,none⟩=c.gd.op:=(KP3.out.cell 6).trans (by simp)
 have z7:w3.cell? ⟨w.heap.size+1,7,none⟩=c.gd.va:=(KP3.out.cell 7).trans (by simp)
 have z8:w3.cell? ⟨w.heap.size+1,8,none⟩=c.gd.n:=(KP3.out.cell 8).trans (by simp)
 have klt2:=KP3.out.lt
 clear hb3 KT KP hB0
 cases e1:patOkB xs t c.pat with
 |false =>
  have hf:Hid (clauseB xs t c=false):=by unfold Hid clauseB;rw [e1];rfl
  clear e1 hy hn
  go_wp2
  go_ret
  exact ⟨zA0 hf.out.symm,hB3⟩
 |true =>
  have hf:Hid (clauseB xs t c=guardB c.gd (varsN xs 10 t c.pat)):=by unfold Hid clauseB;rw [e1];rfl
  have hy3:=hy e1
  have HA3:=jj hy3.1
  have HU3:=jj hy3.2.2.under
  clear e1 hy hn hy3
  go_wp2_with fail
  refine (impl_guardOk c.gd _ w3 _ F3 HA3.out HU3.out).mono ?_
  rintro e w4 ⟨rfl,hb4⟩
  have hB4:=hB3.trans (hb4.mono hB3.size)
  generalize guardB c.gd (varsN xs 10 t c.pat)=bb at *
  clear y0 y1 z0 z1 z2 z3 z4 z5 z6 z7 z8 klt klt2
  clear hb4
  go_wp2
  go_ret
  exact ⟨zA0 hf.out.symm,hB4⟩
theorem spec_ClauseValid (xs:List Dt) (t:Ty) (c:Cl) (hz0:c.size≤1048576) (w:World) (x:Value) (F:List Nat) (cs:List Value) (G:List Nat) (hx:Arr w (DtR w) xs x F) (hf:Under w F) (hv:ClR w c cs G) (hg:Under w G) :
  Calls Try.prog 20 #[x,.agg #[t.d,t.i],.agg cs.toArray] w fun e w'=>e=.returned (.bool (clauseValidB xs t c))∧Below w w w':=by
 have hz:c.pat.size≤1048576:=hz0
 clear hz0
 obtain ⟨ds,rfl,hp⟩:=id hv
 obtain ⟨kv,rfl,ha⟩:=(zA4 _ _ _).1 hp
 obtain ⟨A,cap,rfl,hc1,hc2⟩:=hx.form
 obtain ⟨A4,cap4,rfl,hc3,hc4⟩:=ha.form
 have HV:=jj hv
 have HP:=jj hp
 have HX:=jj hx
 have HF:=jj hf
 have HG:=jj hg
 clear hx hf hg
 clear hv hp ha
 simp only [List.cons_append,List.nil_append] at HV ⊢
 go_enter Try.func20,Try.ntmps20
 go_wp2_with fail
 obtain ⟨W2,hW2⟩:∃ W2,W2=((w.alloc (.cells #[t.d,t.i] 25)).alloc (.cells #[c.pat.op,c.pat.ct,c.pat.n,c.pat.m,c.pat.va,.slice A4 c.pat.ks.length cap4,c.gd.op,c.gd.va,c.gd.n] 55)):=⟨_,rfl⟩
 have hB0:Below w w W2:=by rw [hW2];exact ((zy2 _ _).alloc (zz8 _) _).alloc (by simp) _
 have KT:Hid (Blk W2 w 25 #[t.d,t.i]):=by rw [hW2];exact (Blk.new w _ _).same (Below.heap_alloc _ _ _ (by simp))
 have KP:Hid (Blk W2 (w.heap.size+1) 55 #[c.pat.op,c.pat.ct,c.pat.n,c.pat.m,c.pat.va,.slice A4 c.pat.ks.length cap4,c.gd.op,c.gd.va,c.gd.n]):=by rw [hW2];have h:=Blk.new (w.alloc (.cells #[t.d,t.i] 25)) 55 #[c.pat.op,c.pat.ct,c.pat.n,c.pat.m,c.pat.va,.slice A4 c.pat.ks.length cap4,c.gd.op,c.gd.va,c.gd.n];rw [World.size_alloc] at h;exact h
 rw [←hW2]
 clear hW2
 have y0:W2.cell? ⟨w,0,none⟩=t.d:=(KT.out.cell 0).trans (by simp)
 have y1:W2.cell? ⟨w,1,none⟩=t.i:=(KT.out.cell 1).trans (by simp)
 have klt:=KT.out.lt
 have z0:W2.cell? ⟨w.heap.size+1,0,none⟩=c.pat.op:=(KP.out.cell 0).trans (by simp)
 have z1:W2.cell? ⟨w.heap.size+1,1,none⟩=c.pat.ct:=(KP.out.cell 1).trans (by simp)
 have z2:W2.cell? ⟨w.heap.size+1,2,none⟩=c.pat.n:=(KP.out.cell 2).trans (by simp)
 have z3:W2.cell? ⟨w.heap.size+1,3,none⟩=c.pat.m:=(KP.out.cell 3).trans (by simp)
 have z4:W2.cell? ⟨w.heap.size+1,4,none⟩=c.pat.va:=(KP.out.cell 4).trans (by simp)
 have z5:W2.cell? ⟨w.heap.size+1,5,none⟩=some (.slice A4 c.pat.ks.length cap4):=(KP.out.cell 5).trans (by simp)
 have z6:W2.cell? ⟨w.heap.size+1,6,none⟩=c.gd.op:=(KP.out.cell 6).trans (by simp)
 have z7:W2.cell? ⟨w.heap.size+1,7,none⟩=c.gd.va:=(KP.out.cell 7).trans (by simp)
 have z8:W2.cell? ⟨w.heap.size+1,8,none⟩=c.gd.n:=(KP.out.cell 8).trans (by simp)
 have klt2:=KP.out.lt
 go_wp2_with fail
 refine (spec_TypeValid xs t W2 _ F (ArrDt.below HX.out hB0 HF.out) (HF.out.mono hB0.size)).mono ?_
 rintro e w3 ⟨rfl,hb3⟩
 have hB3:=hB0.trans (hb3.mono hB0.size)
 have KT3:=jj (KT.out.same (hb3.block _ KT.out.lt))
 have KP3:=jj (KP.out.same (hb3.block _ KP.out.lt))
 clear y0 y1 z0 z1 z2 z3 z4 z5 z6 z7 z8 klt klt2
 have y0:w3.cell? ⟨w,0,none⟩=t.d:=(KT3.out.cell 0).trans (by simp)
 have y1:w3.cell? ⟨w,1,none⟩=t.i:=(KT3.out.cell 1).trans (by simp)
 have klt:=KT3.out.lt
 have z0:w3.cell? ⟨w.heap.size+1,0,none⟩=c.pat.op:=(KP3.out.cell 0).trans (by simp)
 have z1:w3.cell? ⟨w.heap.size+1,1,none⟩=c.pat.ct:=(KP3.out.cell 1).trans (by simp)
 have z2:w3.cell? ⟨w.heap.size+1,2,none⟩=c.pat.n:=(KP3.out.cell 2).trans (by simp)
 have z3:w3.cell? ⟨w.heap.size+1,3,none⟩=c.pat.m:=(KP3.out.cell 3).trans (by simp)
 have z4:w3.cell? ⟨w.heap.size+1,4,none⟩=c.pat.va:=(KP3.out.cell 4).trans (by simp)
 have z5:w3.cell? ⟨w.heap.size+1,5,none⟩=some (.slice A4 c.pat.ks.length cap4):=(KP3.out.cell 5).trans (by simp)
 have z6:w3.cell? ⟨w.heap.size+1,6,none⟩=c.gd.op:=(KP3.out.cell 6).trans (by simp)
 have z7:w3.cell? ⟨w.heap.size+1,7,none⟩=c.gd.va:=(KP3.out.cell 7).trans (by simp)
 have z8:w3.cell? ⟨w.heap.size+1,8,none⟩=c.gd.n:=(KP3.out.cell 8).trans (by simp)
 have klt2:=KP3.out.lt
 clear hb3 KT KP
 cases e1:typeValidB xs t with
 |false =>
  have hf:Hid (clauseValidB xs t c=false):=by unfold Hid clauseValidB;rw [e1];rfl
  clear e1
  go_wp2
  go_ret
  exact ⟨zA0 hf.out.symm,hB3⟩
 |true =>
  have hf:Hid (clauseValidB xs t c=clauseB xs t c):=by unfold Hid clauseValidB;rw [e1];rfl
  have HE:=jj e1
  clear e1
  go_wp2_with fail
  refine (spec_l4Is xs t HE.out c hz w3 _ F _ G (ArrDt.below HX.out hB3 HF.out) (HF.out.mono hB3.size) (HV.out.below hB3 HG.out) (HG.out.mono hB3.size)).mono ?_
  rintro e w4 ⟨rfl,hb4⟩
  have hB4:=hB3.trans (hb4.mono hB3.size)
  generalize clauseB xs t c=bb at *
  clear y0 y1 z0 z1 z2 z3 z4 z5 z6 z7 z8 klt klt2
  clear hb4
  go_wp2
  go_ret
  exact ⟨zA0 hf.out.symm,hB4⟩
theorem impl_ClauseValid (xs:List Dt) (t:Ty) (c:Cl) (hz0:c.size≤1048576) (w:World) (x:Value) (F:List Nat) (cs:List Value) (G:List Nat) (hx:Arr w (DtR w) xs x F) (hf:Under w F) (hv:ClR w c cs G) (hg:Under w G) :
  Calls Try.prog 18 #[x,.agg #[t.d,t.i],.agg cs.toArray] w fun e w'=>e=.returned (.bool (clauseValidB xs t c))∧Below w w w':=by
 have hz:c.pat.size≤1048576:=hz0
 clear hz0
 obtain ⟨ds,rfl,hp⟩:=id hv
 obtain ⟨kv,rfl,ha⟩:=(zA4 _ _ _).1 hp
 obtain ⟨A,cap,rfl,hc1,hc2⟩:=hx.form
 obtain ⟨A4,cap4,rfl,hc3,hc4⟩:=ha.form
 have HV:=jj hv
 have HP:=jj hp
 have HX:=jj hx
 have HF:=jj hf
 have HG:=jj hg
 clear hx hf hg
 clear hv hp ha
 simp only [List.cons_append,List.nil_append] at HV ⊢
 go_enter Try.func18,Try.ntmps18
 go_wp2_with fail
 obtain ⟨W2,hW2⟩:∃ W2,W2=((w.alloc (.cells #[t.d,t.i] 25)).alloc (.cells #[c.pat.op,c.pat.ct,c.pat.n,c.pat.m,c.pat.va,.slice A4 c.pat.ks.length cap4,c.gd.op,c.gd.va,c.gd.n] 55)):=⟨_,rfl⟩
 have hB0:Below w w W2:=by rw [hW2];exact ((zy2 _ _).alloc (zz8 _) _).alloc (by simp) _
 have KT:Hid (Blk W2 w 25 #[t.d,t.i]):=by rw [hW2];exact (Blk.new w _ _).same (Below.heap_alloc _ _ _ (by simp))
 have KP:Hid (Blk W2 (w.heap.size+1) 55 #[c.pat.op,c.pat.ct,c.pat.n,c.pat.m,c.pat.va,.slice A4 c.pat.ks.length cap4,c.gd.op,c.gd.va,c.gd.n]):=by rw [hW2];have h:=Blk.new (w.alloc (.cells #[t.d,t.i] 25)) 55 #[c.pat.op,c.pat.ct,c.pat.n,c.pat.m,c.pat.va,.slice A4 c.pat.ks.length cap4,c.gd.op,c.gd.va,c.gd.n];rw [World.size_alloc] at h;exact h
 rw [←hW2]
 clear hW2
 have y0:W2.cell? ⟨w,0,none⟩=t.d:=(KT.out.cell 0).trans (by simp)
 have y1:W2.cell? ⟨w,1,none⟩=t.i:=(KT.out.cell 1).trans (by simp)
 have klt:=KT.out.lt
 have z0:W2.cell? ⟨w.heap.size+1,0,none⟩=c.pat.op:=(KP.out.cell 0).trans (by simp)
 have z1:W2.cell? ⟨w.heap.size+1,1,none⟩=c.pat.ct:=(KP.out.cell 1).trans (by simp)
 have z2:W2.cell? ⟨w.heap.size+1,2,none⟩=c.pat.n:=(KP.out.cell 2).trans (by simp)
 have z3:W2.cell? ⟨w.heap.size+1,3,none⟩=c.pat.m:=(KP.out.cell 3).trans (by simp)
 have z4:W2.cell? ⟨w.heap.size+1,4,none⟩=c.pat.va:=(KP.out.cell 4).trans (by simp)
 have z5:W2.cell? ⟨w.heap.size+1,5,none⟩=some (.slice A4 c.pat.ks.length cap4):=(KP.out.cell 5).trans (by simp)
 have z6:W2.cell? ⟨w.heap.size+1,6,none⟩=c.gd.op:=(KP.out.cell 6).trans (by simp)
 have z7:W2.cell? ⟨w.heap.size+1,7,none⟩=c.gd.va:=(KP.out.cell 7).trans (by simp)
 have z8:W2.cell? ⟨w.heap.size+1,8,none⟩=c.gd.n:=(KP.out.cell 8).trans (by simp)
 have klt2:=KP.out.lt
 go_wp2_with fail
 refine (impl_TypeValid xs t W2 _ F (ArrDt.below HX.out hB0 HF.out) (HF.out.mono hB0.size)).mono ?_
 rintro e w3 ⟨rfl,hb3⟩
 have hB3:=hB0.trans (hb3.mono hB0.size)
 have KT3:=jj (KT.out.same (hb3.block _ KT.out.lt))
 have KP3:=jj (KP.out.same (hb3.block _ KP.out.lt))
 clear y0 y1 z0 z1 z2 z3 z4 z5 z6 z7 z8 klt klt2
 have y0:w3.cell? ⟨w,0,none⟩=t.d:=(KT3.out.cell 0).trans (by simp)
 have y1:w3.cell? ⟨w,1,none⟩=t.i:=(KT3.out.cell 1).trans (by simp)
 have klt:=KT3.out.lt
 have z0:w3.cell? ⟨w.heap.size+1,0,none⟩=c.pat.op:=(KP3.out.cell 0).trans (by simp)
 have z1:w3.cell? ⟨w.heap.size+1,1,none⟩=c.pat.ct:=(KP3.out.cell 1).trans (by simp)
 have z2:w3.cell? ⟨w.heap.size+1,2,none⟩=c.pat.n:=(KP3.out.cell 2).trans (by simp)
 have z3:w3.cell? ⟨w.heap.size+1,3,none⟩=c.pat.m:=(KP3.out.cell 3).trans (by simp)
 have z4:w3.cell? ⟨w.heap.size+1,4,none⟩=c.pat.va:=(KP3.out.cell 4).trans (by simp)
 have z5:w3.cell? ⟨w.heap.size+1,5,none⟩=some (.slice A4 c.pat.ks.length cap4):=(KP3.out.cell 5).trans (by simp)
 have z6:w3.cell? ⟨w.heap.size+1,6,none⟩=c.gd.op:=(KP3.out.cell 6).trans (by simp)
 have z7:w3.cell? ⟨w.heap.size+1,7,none⟩=c.gd.va:=(KP3.out.cell 7).trans (by simp)
 have z8:w3.cell? ⟨w.heap.size+1,8,none⟩=c.gd.n:=(KP3.out.cell 8).trans (by simp)
 have klt2:=KP3.out.lt
 clear hb3 KT KP
 cases e1:typeValidB xs t with
 |false =>
  have hf:Hid (clauseValidB xs t c=false):=by unfold Hid clauseValidB;rw [e1];rfl
  clear e1
  go_wp2
  go_ret
  exact ⟨zA0 hf.out.symm,hB3⟩
 |true =>
  have hf:Hid (clauseValidB xs t c=clauseB xs t c):=by unfold Hid clauseValidB;rw [e1];rfl
  have HE:=jj e1
  clear e1
  go_wp2_with fail
  refine (impl_clauseOk xs t HE.out c hz w3 _ F _ G (ArrDt.below HX.out hB3 HF.out) (HF.out.mono hB3.size) (HV.out.below hB3 HG.out) (HG.out.mono hB3.size)).mono ?_
  rintro e w4 ⟨rfl,hb4⟩
  have hB4:=hB3.trans (hb4.mono hB3.size)
  generalize clauseB xs t c=bb at *
  clear y0 y1 z0 z1 z2 z3 z4 z5 z6 z7 z8 klt klt2
  clear hb4
  go_wp2
  go_ret
  exact ⟨zA0 hf.out.symm,hB4⟩
theorem ArrCl.at {w0 w:World} {b off n cap:Nat} {F:List Nat} {l:List Cl} (h:Arr w0 (ClR w0) l (.slice (some ⟨b,off,none⟩) n cap) F) (hF:Under w0 F) (hB:Below w0 w0 w) (i:Nat) (hi:i<l.length) :
  ∃ A7 cap7 G,b<w.heap.size∧w.cell? ⟨b,off+i*9,none⟩=l[i].pat.op∧w.cell? ⟨b,off+i*9+1,none⟩=l[i].pat.ct∧w.cell? ⟨b,off+i*9+2,none⟩=l[i].pat.n∧w.cell? ⟨b,off+i*9+3,none⟩=l[i].pat.m∧w.cell? ⟨b,off+i*9+4,none⟩=l[i].pat.va∧w.cell? ⟨b,off+i*9+5,none⟩=some (.slice A7 l[i].pat.ks.length cap7)∧w.cell? ⟨b,off+i*9+6,none⟩=l[i].gd.op∧w.cell? ⟨b,off+i*9+7,none⟩=l[i].gd.va∧w.cell? ⟨b,off+i*9+8,none⟩=l[i].gd.n∧Hid (ClR w0 l[i] [l[i].pat.op,l[i].pat.ct,l[i].pat.n,l[i].pat.m,l[i].pat.va,.slice A7 l[i].pat.ks.length cap7,l[i].gd.op,l[i].gd.va,l[i].gd.n] G)∧Hid (Under w0 G):=by
 obtain ⟨b',off',cs,G,e,hb,hcs,hv,hG⟩:=h.get ClR_len hi
 cases e
 have hbl:=hF _ hb
 have hc:=hcs.same (hB.block _ hbl)
 obtain ⟨A7,cap7,rfl⟩:=zAV hv
 exact ⟨A7,cap7,G,zz9 hbl hB.size,hc 0 _ rfl,hc 1 _ rfl,hc 2 _ rfl,hc 3 _ rfl,hc 4 _ rfl,hc 5 _ rfl,hc 6 _ rfl,hc 7 _ rfl,hc 8 _ rfl,hv,hF.sub hG⟩
theorem Cl.sizes_mem {l:List Cl} {i:Nat} (hi:i<l.length):l[i].pat.size≤Cl.sizes l:=by
 have h:=sumBy_mem_le Cl.size l i hi
 unfold Cl.sizes
 have:Cl.size l[i]=l[i].pat.size:=rfl
 omega
theorem clausesValid_closure (xs:List Dt) (t:Ty) (hty:typeValidB xs t=true) (c:Cl) (hz:c.pat.size≤1048576) (A:Option Addr) (cap:Nat) (g1 g2:Nat) (w:World) (F:List Nat) (cs:List Value) (G:List Nat) (hx:Arr w (DtR w) xs (.slice A xs.length cap) F) (hf:Under w F) (hv:ClR w c cs G) (hg:Under w G) (hg1:w.cell? ⟨g1,0,none⟩=some (.slice A xs.length cap)) (hl1:g1<w.heap.size) (hg2:w.cell? ⟨g2,0,none⟩=t.d) (hg3:w.cell? ⟨g2,1,none⟩=t.i) (hl2:g2<w.heap.size) :
  Calls Try.prog 51 #[.agg cs.toArray,.pointer (some ⟨g1,0,none⟩),.pointer (some ⟨g2,0,none⟩)] w fun e w'=>e=.returned (.bool (!clauseB xs t c))∧Below w w w':=by
 obtain ⟨A4,cap4,rfl⟩:=zAV hv
 have HV:=jj hv
 have HX:=jj hx
 have HF:=jj hf
 have HG:=jj hg
 clear hx hf hg
 clear hv
 go_enter Try.func51,Try.ntmps51
 go_wp2_with fail
 obtain ⟨W2,hW2⟩:∃ W2,W2=(w.alloc (.cells #[c.pat.op,c.pat.ct,c.pat.n,c.pat.m,c.pat.va,.slice A4 c.pat.ks.length cap4,c.gd.op,c.gd.va,c.gd.n] 55)):=⟨_,rfl⟩
 have hB:Below w w W2:=by rw [hW2];exact (zy2 _ _).alloc (zz8 _) _
 have KP:Blk W2 w 55 #[c.pat.op,c.pat.ct,c.pat.n,c.pat.m,c.pat.va,.slice A4 c.pat.ks.length cap4,c.gd.op,c.gd.va,c.gd.n]:=by rw [hW2];exact Blk.new _ _ _
 have z0:W2.cell? ⟨w,0,none⟩=c.pat.op:=(KP.cell 0).trans (by simp)
 have z1:W2.cell? ⟨w,1,none⟩=c.pat.ct:=(KP.cell 1).trans (by simp)
 have z2:W2.cell? ⟨w,2,none⟩=c.pat.n:=(KP.cell 2).trans (by simp)
 have z3:W2.cell? ⟨w,3,none⟩=c.pat.m:=(KP.cell 3).trans (by simp)
 have z4:W2.cell? ⟨w,4,none⟩=c.pat.va:=(KP.cell 4).trans (by simp)
 have z5:W2.cell? ⟨w,5,none⟩=some (.slice A4 c.pat.ks.length cap4):=(KP.cell 5).trans (by simp)
 have z6:W2.cell? ⟨w,6,none⟩=c.gd.op:=(KP.cell 6).trans (by simp)
 have z7:W2.cell? ⟨w,7,none⟩=c.gd.va:=(KP.cell 7).trans (by simp)
 have z8:W2.cell? ⟨w,8,none⟩=c.gd.n:=(KP.cell 8).trans (by simp)
 have klt:=KP.lt
 have y0:W2.cell? ⟨g1,0,none⟩=some (.slice A xs.length cap):=(hB.cell (p:=⟨g1,0,none⟩) hl1).trans hg1
 have y1:W2.cell? ⟨g2,0,none⟩=t.d:=(hB.cell (p:=⟨g2,0,none⟩) hl2).trans hg2
 have y2:W2.cell? ⟨g2,1,none⟩=t.i:=(hB.cell (p:=⟨g2,1,none⟩) hl2).trans hg3
 have l1:=zz9 hl1 hB.size
 have l2:=zz9 hl2 hB.size
 rw [←hW2]
 clear hW2 KP hg1 hg2 hg3 hl1 hl2
 go_wp2_with fail
 refine (impl_clauseOk xs t hty c hz W2 _ F _ G (ArrDt.below HX.out hB HF.out) (HF.out.mono hB.size) (HV.out.below hB HG.out) (HG.out.mono hB.size)).mono ?_
 rintro e w' ⟨rfl,hB'⟩
 have hB3:=hB.trans (hB'.mono hB.size)
 generalize hbb:clauseB xs t c=bb
 have HBB:=jj hbb
 clear hbb hB' y0 y1 y2 z0 z1 z2 z3 z4 z5 z6 z7 z8
 go_wp2
 go_ret
 exact ⟨zA0 (by rw [HBB.out]),hB3⟩
theorem IndexFunc_Cl (xs:List Dt) (t:Ty) (hty:typeValidB xs t=true) (A:Option Addr) (cap:Nat) (g1 g2:Nat) (l:List Cl) (hz:Cl.sizes l≤1048576) (r:Int) (hr:FirstAt (fun c=>!clauseB xs t c) l r) (w:World) (y:Value) (F G:List Nat) (hx:Arr w (DtR w) xs (.slice A xs.length cap) F) (hf:Under w F) (hy:Arr w (ClR w) l y G) (hh:Under w G) (hg1:w.cell? ⟨g1,0,none⟩=some (.slice A xs.length cap)) (hl1:g1<w.heap.size) (hg2:w.cell? ⟨g2,0,none⟩=t.d) (hg3:w.cell? ⟨g2,1,none⟩=t.i) (hl2:g2<w.heap.size) :
  Calls Try.prog 74 #[y,.func (.func 51) #[] #[.pointer (some ⟨g1,0,none⟩),.pointer (some ⟨g2,0,none⟩)]] w fun e w'=>e=.returned (.int .i64 r)∧Below w w w':=by
 obtain ⟨B,bap,rfl,hc1,hc2⟩:=hy.form
 have HX:=jj hx
 have HF:=jj hf
 have HR:=jj hr
 have HY:=jj hy
 have HH:=jj hh
 have HG1:=jj hg1
 have HG2:=jj hg2
 have HG3:=jj hg3
 clear hx hf hr hy hh hg1 hg2 hg3
 go_enter Try.func74,Try.ntmps74
 go_wp2
 go_loopw [8] (fun iv wr=>∃ i:Nat,i≤l.length∧iv=.int .i64 i∧Hid (∀ j (hj:j<l.length),j<i→(!clauseB xs t l[j])=false)∧Below w w wr) (fun iv _=>l.length-(intOf iv).toNat)
 case atStart=>exact ⟨0,Nat.zero_le _,rfl,fun j hj h=>by omega,zy2 _ _⟩
 case round =>
  obtain ⟨i,hk,rfl,HT,hB⟩:=hrel
  by_cases hlt:i<l.length
  ·have hi0:(0:Int)≤(i:Int):=by omega
   have hi1:(i:Int)<(l.length:Int):=by omega
   obtain ⟨b,off,rfl⟩:=HY.out.ptr (by omega)
   obtain ⟨A7,cap7,G7,hb,c0,c1,c2,c3,c4,c5,c6,c7,c8,HV7,HG7⟩:=ArrCl.at HY.out HH.out hB i hlt
   go_wp2_with fail
   refine (clausesValid_closure xs t hty l[i] (Nat.le_trans (Cl.sizes_mem hlt) hz) A cap g1 g2 wr F _ G7 (ArrDt.below HX.out hB HF.out) (HF.out.mono hB.size) (HV7.out.below hB HG7.out) (HG7.out.mono hB.size) ((hB.cell (p:=⟨g1,0,none⟩) hl1).trans HG1.out) (zz9 hl1 hB.size) ((hB.cell (p:=⟨g2,0,none⟩) hl2).trans HG2.out) ((hB.cell (p:=⟨g2,1,none⟩) hl2).trans HG3.out) (zz9 hl2 hB.size)).mono ?_
   rintro e w' ⟨rfl,hB'⟩
   have hB3:=hB.trans (hB'.mono hB.size)
   cases hq:clauseB xs t l[i] with
   |false =>
    have hf:Hid (r=(i:Int)):=HR.out.hit hlt (by simp [hq]) (fun j hj h=>HT.out j hj h)
    clear hq c0 c1 c2 c3 c4 c5 c6 c7 c8
    go_wp2
    go_ret
    exact ⟨zAP hf.out.symm,hB3⟩
   |true =>
    have hT2:Hid (∀ j (hj:j<l.length),j<i+1→(!clauseB xs t l[j])=false):=fun j hj h=>by
     rcases Nat.lt_or_ge j i with h2 | h2
     ·exact HT.out j hj h2
     ·obtain rfl:j=i:=by omega
      rw [hq];rfl
    clear hq c0 c1 c2 c3 c4 c5 c6 c7 c8
    go_wp2
    go_roundw
    case rel=>exact ⟨i+1,by omega,by go_num,hT2,hB3⟩
    case measure=>simp [intOf];omega
  ·have hf:Hid (r = -1):=HR.out.miss (fun j hj=>HT.out j hj (by omega))
   go_wp2
   go_ret
   exact ⟨zAP hf.out.symm,hB⟩
theorem ContainsFunc_Cl (xs:List Dt) (t:Ty) (hty:typeValidB xs t=true) (A:Option Addr) (cap:Nat) (g1 g2:Nat) (l:List Cl) (hz:Cl.sizes l≤1048576) (w:World) (y:Value) (F G:List Nat) (hx:Arr w (DtR w) xs (.slice A xs.length cap) F) (hf:Under w F) (hy:Arr w (ClR w) l y G) (hh:Under w G) (hg1:w.cell? ⟨g1,0,none⟩=some (.slice A xs.length cap)) (hl1:g1<w.heap.size) (hg2:w.cell? ⟨g2,0,none⟩=t.d) (hg3:w.cell? ⟨g2,1,none⟩=t.i) (hl2:g2<w.heap.size) :
  Calls Try.prog 50 #[y,.func (.func 51) #[] #[.pointer (some ⟨g1,0,none⟩),.pointer (some ⟨g2,0,none⟩)]] w fun e w'=>e=.returned (.bool (l.any fun c=>!clauseB xs t c))∧Below w w w':=by
 obtain ⟨r,hr⟩:=FirstAt.ex (fun c=>!clauseB xs t c) l
 have hres:Hid ((l.any fun c=>!clauseB xs t c)=decide (0≤r)):=hr.any
 have hcall:=IndexFunc_Cl xs t hty A cap g1 g2 l hz r hr w y F G hx hf hy hh hg1 hl1 hg2 hg3 hl2
 obtain ⟨B,bap,rfl,hc1,hc2⟩:=hy.form
 have HC:=jj hcall
 clear hcall hr hx hf hy hh hg1 hg2 hg3
 go_enter Try.func50,Try.ntmps50
 go_wp2_with fail
 refine HC.out.mono ?_
 rintro e w' ⟨rfl,hB'⟩
 go_wp2
 go_ret
 exact ⟨zA0 hres.out.symm,hB'⟩
theorem all_any (xs:List Dt) (t:Ty) (l:List Cl):l.all (clauseB xs t)=!(l.any fun c=>!clauseB xs t c):=by
 induction l with
 |nil=>rfl
 |cons a l ih=>rw [List.all_cons,List.any_cons,ih];cases clauseB xs t a <;> rfl
theorem impl_ClausesValid (xs:List Dt) (t:Ty) (l:List Cl) (hz:Cl.sizes l≤1048576) (w:World) (x y:Value) (F G:List Nat) (hx:Arr w (DtR w) xs x F) (hf:Under w F) (hy:Arr w (ClR w) l y G) (hh:Under w G) :
  Calls Try.prog 21 #[x,.agg #[t.d,t.i],y] w fun e w'=>e=.returned (.bool (clausesValidB xs t l))∧Below w w w':=by
 obtain ⟨A,cap,rfl,hc1,hc2⟩:=hx.form
 obtain ⟨B,bap,rfl,hc3,hc4⟩:=hy.form
 have HALL:=jj (all_any xs t l)
 have HX:=jj hx
 have HF:=jj hf
 have HY:=jj hy
 have HH:=jj hh
 clear hx hf hy hh
 go_enter Try.func21,Try.ntmps21
 go_wp2_with fail
 obtain ⟨W2,hW2⟩:∃ W2,W2=((w.alloc (.cells #[.slice A xs.length cap] 23)).alloc (.cells #[t.d,t.i] 25)):=⟨_,rfl⟩
 have hB0:Below w w W2:=by rw [hW2];exact ((zy2 _ _).alloc (zz8 _) _).alloc (by simp) _
 have KX:Hid (Blk W2 w 23 #[.slice A xs.length cap]):=by rw [hW2];exact (Blk.new w _ _).same (Below.heap_alloc _ _ _ (by simp))
 have KT:Hid (Blk W2 (w.heap.size+1) 25 #[t.d,t.i]):=by rw [hW2];have h:=Blk.new (w.alloc (.cells #[.slice A xs.length cap] 23)) 25 #[t.d,t.i];rw [World.size_alloc] at h;exact h
 rw [←hW2]
 clear hW2
 have q0:W2.cell? ⟨w,0,none⟩=some (.slice A xs.length cap):=(KX.out.cell 0).trans (by simp)
 have q1:W2.cell? ⟨w.heap.size+1,0,none⟩=t.d:=(KT.out.cell 0).trans (by simp)
 have q2:W2.cell? ⟨w.heap.size+1,1,none⟩=t.i:=(KT.out.cell 1).trans (by simp)
 have klt:=KX.out.lt
 have klt2:=KT.out.lt
 go_wp2_with fail
 refine (impl_TypeValid xs t W2 _ F (ArrDt.below HX.out hB0 HF.out) (HF.out.mono hB0.size)).mono ?_
 rintro e w3 ⟨rfl,hb3⟩
 have hB3:=hB0.trans (hb3.mono hB0.size)
 have KX3:=jj (KX.out.same (hb3.block _ KX.out.lt))
 have KT3:=jj (KT.out.same (hb3.block _ KT.out.lt))
 clear q0 q1 q2 klt klt2
 have q0:w3.cell? ⟨w,0,none⟩=some (.slice A xs.length cap):=(KX3.out.cell 0).trans (by simp)
 have q1:w3.cell? ⟨w.heap.size+1,0,none⟩=t.d:=(KT3.out.cell 0).trans (by simp)
 have q2:w3.cell? ⟨w.heap.size+1,1,none⟩=t.i:=(KT3.out.cell 1).trans (by simp)
 have klt:=KX3.out.lt
 have klt2:=KT3.out.lt
 clear hb3 KT KX
 cases e1:typeValidB xs t with
 |false =>
  have hf:Hid (clausesValidB xs t l=false):=by unfold Hid clausesValidB;rw [e1];rfl
  clear e1
  go_wp2
  go_ret
  exact ⟨zA0 hf.out.symm,hB3⟩
 |true =>
  have HE:=jj e1
  by_cases hl8:l.length≤8
  ·have d0:decide ((l.length:Int)≤8)=true:=decide_eq_true (by omega)
   have hf:Hid (clausesValidB xs t l=!(l.any fun c=>!clauseB xs t c)):=by unfold Hid clausesValidB;rw [e1,decide_eq_true hl8,HALL.out];rfl
   clear e1
   go_wp2_with fail
   refine (ContainsFunc_Cl xs t HE.out A cap w.heap.size (w.heap.size+1) l hz w3 _ F G (ArrDt.below HX.out hB3 HF.out) (HF.out.mono hB3.size) (ArrCl.below HY.out hB3 HH.out) (HH.out.mono hB3.size) q0 klt q1 q2 klt2).mono ?_
   rintro e w4 ⟨rfl,hb4⟩
   have hB4:=hB3.trans (hb4.mono hB3.size)
   generalize (l.any fun c=>!clauseB xs t c)=bb at *
   clear hb4 q0 q1 q2
   go_wp2
   go_ret
   exact ⟨zA0 hf.out.symm,hB4⟩
  ·have d0:decide ((l.length:Int)≤8)=false:=decide_eq_false (by omega)
   have hf:Hid (clausesValidB xs t l=false):=by unfold Hid clausesValidB;rw [e1,decide_eq_false hl8];rfl
   clear e1
   go_wp2
   go_ret
   exact ⟨zA0 hf.out.symm,hB3⟩
end Go.Proofs.Ytjjclcmmfeegfaa
namespace Go.Proofs.Ytjjclcmmfeegfaa
open Go.ChangeShapes Go.WideShapes Go.ChangeAt Go.RowKit
section
variable {H : Type} {enc : TypeId × Value → H} {P : Program} {w : World} {base : Nat} {spare : Nat → Bool} {held : Bool}
theorem cell_lt {w:World} {a:Addr} {v:Value} (h:w.cell? a=some v):a.block<w.heap.size:=by
 rcases Nat.lt_or_ge a.block w.heap.size with hl | hl
 ·exact hl
 ·unfold World.cell? at h
  rw [Array.getElem?_eq_none hl] at h
  cases h
theorem open_Arr {α:Type} (R:α→List Value→List Nat→Prop) {t e:TypeId} {k n fuel:Nat} {cs:List Value} {x:DataW H×List MemPlace} (ht:P.underlying t=some (.slice e)) (hk:P.cellsOf e=k) (hk0:0<k) (hf:fuel=n+1)
  (hR:∀ ds y,DataW.trod enc P w base spare held n e ds=some y→ds.length=k→∃ a F,R a ds F∧Under w F)
  (h:DataW.trod enc P w base spare held fuel t cs=some x):∃ xs v F,cs=[v]∧Arr w R xs v F∧Under w F:=by
 subst hf
 rcases DataW.trod_slice ht h with ⟨rfl,-⟩ | ⟨a,len,cap,elems,rest,m,hm,rfl,-,-,hl,hmax,hlen,hel,-,-⟩
 ·exact ⟨[],_,[],rfl,Arr.nil,Under.nil _⟩
 ·obtain rfl:n=m:=by omega
  by_cases h0:len=0
  ·subst h0
   exact ⟨[],_,[],rfl,⟨_,_,rfl,hl,hmax,.inl ⟨rfl,rfl⟩⟩,Under.nil _⟩
  ·have get:∀ i,i<len→∃ ds y,(∀ j,j<k→w.cell? (a.add (i*k+j))=ds[j]?)∧ds.length=k∧DataW.trod enc P w base spare held n e ds=some y:=fun i hi=>by
    have h1:=hel i hi
    rw [List.getElem?_eq_getElem (by omega),Option.bind_eq_some_iff] at h1
    obtain ⟨ds,h2,h3⟩:=h1
    obtain ⟨-,h4,h5⟩:=World.cells?_some h2
    rw [hk] at h4 h5
    refine ⟨ds,_,fun j hj=>?_,h4,h3⟩
    rw [←h5 j hj]
    congr 1
    unfold Addr.add
    by_cases e1:i*k=0 <;> by_cases e2:j=0 <;> simp [e1,e2,Nat.add_assoc]
   obtain ⟨b,off,spot⟩:=a
   obtain ⟨ds0,y0,g1,g2,-⟩:=get 0 (by omega)
   have hc0:w.cell? ⟨b,off,spot⟩=some (ds0[0]'(by omega)):=by
    have:=g1 0 hk0
    simpa [Addr.add,List.getElem?_eq_getElem (show 0<ds0.length by omega)] using this
   have hspot:spot=none:=by simpa using World.cell?_spot hc0
   subst hspot
   have hb:b<w.heap.size:=cell_lt hc0
   have key:∀ m,m≤len→∃ (xs:List α) (cs:List Value) (F:List Nat),xs.length=m∧cs.length=m*k∧CellsAt w b off cs∧Flat R xs cs F∧Under w F:=by
    intro m
    induction m with
    |zero=>intro _;exact ⟨[],[],[],rfl,by simp,fun j u hj=>by simp at hj,⟨rfl,rfl⟩,Under.nil _⟩
    |succ m ih =>
     intro hm
     obtain ⟨xs,cs,F,h1,h2,h3,h4,h5⟩:=ih (by omega)
     obtain ⟨ds,y,g1,g2,g3⟩:=get m (by omega)
     obtain ⟨z,G,r1,r2⟩:=hR ds y g3 g2
     refine ⟨xs ++ [z],cs ++ ds,F ++ G,by simp [h1],by simp [h2,g2,Nat.add_mul],h3.append (fun j u hj=>?_),h4.append (Flat.one r1),fun c hc=>?_⟩
     ·have hjk:j<k:=by rw [←g2];exact (List.getElem?_eq_some_iff.1 hj).1
      have:=g1 j hjk
      rw [hj,Addr.add_lit] at this
      rw [h2,←this]
      congr 2
      omega
     ·rcases List.mem_append.1 hc with hc | hc
      ·exact h5 c hc
      ·exact r2 c hc
   obtain ⟨xs,cs,F,h1,h2,h3,h4,h5⟩:=key len (zz8 _)
   refine ⟨xs,_,b :: F,rfl,⟨_,_,by rw [h1],by omega,hmax,.inr ⟨b,off,cs,F,rfl,h3,h4,rfl⟩⟩,fun c hc=>?_⟩
   rcases List.mem_cons.1 hc with rfl | hc
   ·exact hb
   ·exact h5 c hc
theorem open_slice_arg {α:Type} (R:α→List Value→List Nat→Prop) {t e:TypeId} {k:Nat} {r:Reach} {b0:Nat} {v:Value} {d:DataW H} {ps:List MemPlace} (ht:P.underlying t=some (.slice e)) (hk:P.cellsOf e=k) (hk0:0<k)
  (hR:∀ n ds y,DataW.trod enc P w base spare held n e ds=some y→∃ a F,R a ds F∧Under w F)
  (hval:Value.okWide P w r b0 t v) (h:DataW.Trod enc P w base spare held t v d ps):∃ xs F,Arr w R xs v F∧Under w F:=by
 obtain ⟨a,len,cap,rfl⟩:=okWide_slice ht hval
 obtain ⟨fuel,hf⟩:=h
 cases fuel with
 |zero=>simp [DataW.trod] at hf
 |succ n =>
  obtain ⟨xs,v,F,hv,ha,hF⟩:=open_Arr R ht hk hk0 rfl (fun ds y hd _=>hR n ds y hd) hf
  have:v=.slice a len cap:=by simpa [Value.cells] using hv.symm
  subst this
  exact ⟨xs,F,ha,hF⟩
end
end Go.Proofs.Ytjjclcmmfeegfaa
namespace Go.Proofs.Ytjjclcmmfeegfaa
open Go.ChangeShapes Go.WideShapes Go.ChangeAt Go.RowKit
set_option maxRecDepth 100000
theorem cellsOf_u8:Try.prog.cellsOf 5=1:=by kernel_rfl
theorem open_By_cells {H:Type} {enc:TypeId×Value→H} {w:World} {base:Nat} {spare:Nat→Bool} {held:Bool} (fuel:Nat) (cs:List Value) (x:DataW H×List MemPlace)
  (h:DataW.trod enc Try.prog w base spare held fuel 5 cs=some x):∃ v F,ByR w v cs F∧Under w F:=by
 cases fuel with
 |zero=>simp [DataW.trod] at h
 |succ n =>
 obtain ⟨i0,e0,-,e2⟩:=DataW.trod_int Try.underlying5 h
 have hw:IntKind.u8.min≤i0∧i0≤IntKind.u8.max:=by simpa [Lit.wf] using e2
 have h0:IntKind.u8.min=0:=rfl
 have h1:IntKind.u8.max=255:=rfl
 exact ⟨i0,[],⟨e0,rfl,by omega,by omega⟩,Under.nil _⟩
theorem open_Bytes {H:Type} {enc:TypeId×Value→H} {w:World} {base:Nat} {spare:Nat→Bool} {held:Bool} {r:Reach} {b0:Nat} {v:Value} {d:DataW H} {ps:List MemPlace} (hval:Value.okWide Try.prog w r b0 22 v)
  (h:DataW.Trod enc Try.prog w base spare held 22 v d ps):∃ (x:List Int) (F:List Nat),Arr w (ByR w) x v F∧Under w F :=
 open_slice_arg (ByR w) Try.underlying22 cellsOf_u8 (by decide) (fun n ds y hd=>open_By_cells n ds y hd) hval h
end Go.Proofs.Ytjjclcmmfeegfaa
