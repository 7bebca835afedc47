/-
  Lemmas, and contracts of functions. Conditions: none.
-/
import Derived.Test.YtjjclcmmfeegfaaGreatDoorJAB
import Derived.Test.YtjjclcmmfeegfaaGreatDoorJAA
import Derived.Test.YtjjclcmmfeegfaaGreatDoorChecked
import Derived.Deep.RegionHeld3
import Derived.Deep.RegionWith
import Derived.Laws.BitsAllLaws
import Derived.IntWalk
import Derived.Deep.QuietTactic
import Derived.BigQuiet

set_option linter.unusedVariables false
set_option linter.unusedSimpArgs false
set_option maxRecDepth 100000
set_option maxHeartbeats 1600000

namespace Go.Proofs.YtjjclcmmfeegfaaGreatDoor
open Go.RowKit
theorem zA2 {P:Program} {fn:Func} {p:Tmp} {ty:TypeId} (h:fn.results=#[.cell p ty]) (tmps:Array Value) (w:World) (g:Nat) (t:TypeId) (cs:Array Value) (fr:Nat×Nat) (d:TypeDesc)
  (hp:tmps.getD p undef=.pointer (some ⟨g,0,none⟩)) (hg:w.heap[g]?=some (.cells cs t fr))
  (hu:P.underlying ty=some d) (hd:(match d with | .struct _ | .array _ _=>true | _=>false)=true) (hi:(P.info? ty).map (·.size)=some cs.size) :
  (results fn tmps).run P w=.ok (.agg cs) w:=by
 have hp':tmps[p]?.getD undef=.pointer (some ⟨g,0,none⟩):=by simpa using hp
 simp [results,h,hp',asAddr,run_loadVar_row w g t ty cs fr d hg hu hd hi]
theorem zBC {P:Program} {fn:Func} {p v:Tmp} {ty:TypeId} (h:fn.results=#[.cell p ty,.tmp v]) (tmps:Array Value) (w:World) (g:Nat) (t:TypeId) (cs:Array Value) (fr:Nat×Nat) (d:TypeDesc)
  (hp:tmps.getD p undef=.pointer (some ⟨g,0,none⟩)) (hg:w.heap[g]?=some (.cells cs t fr))
  (hu:P.underlying ty=some d) (hd:(match d with | .struct _ | .array _ _=>true | _=>false)=true) (hi:(P.info? ty).map (·.size)=some cs.size) :
  (results fn tmps).run P w=.ok (.tuple #[.agg cs,tmps.getD v undef]) w:=by
 have hp':tmps[p]?.getD undef=.pointer (some ⟨g,0,none⟩):=by simpa using hp
 simp [results,h,hp',asAddr,run_loadVar_row w g t ty cs fr d hg hu hd hi]
theorem zAG (w:World) (o:Obj) (T:TypeId) (C:Array Value):Blk ((w.alloc o).alloc (.cells C T)) (w.heap.size+1) T C:=by
 have h:=Blk.new (w.alloc o) T C
 rw [World.size_alloc] at h
 exact h
section
variable {w w0 : World} {H B : Nat} {T : TypeId} {F : List Nat}
theorem Blk.six {b0 b1 b2 b3 b4 b5:Value} (h:Blk w H T #[b0,b1,b2,b3,b4,b5]) (a0 a1 a2 a3 a4 a5:Value):Blk ((((((w.setCell ⟨H,0,none⟩ a0).setCell ⟨H,1,none⟩ a1).setCell ⟨H,2,none⟩ a2).setCell ⟨H,3,none⟩ a3).setCell ⟨H,4,none⟩ a4).setCell ⟨H,5,none⟩ a5) H T #[a0,a1,a2,a3,a4,a5]:=(((((h.set_ 0 a0).set_ 1 a1).set_ 2 a2).set_ 3 a3).set_ 4 a4).set_ 5 a5
theorem below_six (h:Below B w0 w) (hH:B≤H) (a0 a1 a2 a3 a4 a5:Value):Below B w0 ((((((w.setCell ⟨H,0,none⟩ a0).setCell ⟨H,1,none⟩ a1).setCell ⟨H,2,none⟩ a2).setCell ⟨H,3,none⟩ a3).setCell ⟨H,4,none⟩ a4).setCell ⟨H,5,none⟩ a5):=(((((h.setCell hH _).setCell hH _).setCell hH _).setCell hH _).setCell hH _).setCell hH _
theorem kept_six (hF:∀ b∈F,b≠H) (a0 a1 a2 a3 a4 a5:Value):Kept F w ((((((w.setCell ⟨H,0,none⟩ a0).setCell ⟨H,1,none⟩ a1).setCell ⟨H,2,none⟩ a2).setCell ⟨H,3,none⟩ a3).setCell ⟨H,4,none⟩ a4).setCell ⟨H,5,none⟩ a5):=fun b hb=>by
 have:=hF b hb
 rw [zz7 _ _ _ _ this,zz7 _ _ _ _ this,zz7 _ _ _ _ this,zz7 _ _ _ _ this,zz7 _ _ _ _ this,zz7 _ _ _ _ this]
theorem size_six (a0 a1 a2 a3 a4 a5:Value):((((((w.setCell ⟨H,0,none⟩ a0).setCell ⟨H,1,none⟩ a1).setCell ⟨H,2,none⟩ a2).setCell ⟨H,3,none⟩ a3).setCell ⟨H,4,none⟩ a4).setCell ⟨H,5,none⟩ a5).heap.size=w.heap.size:=by simp [World.setCell]
end
theorem info_PE:(Tryz.prog.info? 28).map (fun i=>(i.zero,i.size,i.bytes))=some (some (.agg #[(0:Int),(0:Int),(0:Int),(0:Int),(0:Int),.slice none 0 0]),6,64):=by kernel_rfl
theorem PR_mono' (w w':World) (x:P) (cs:List Value) (G:List Nat) (hk:Kept G w w') (h:PR w x cs G):PR w' x cs G:=PR.mono x cs G hk h
theorem PR_len' (w:World) (x:P) (cs:List Value) (G:List Nat) (h:PR w x cs G):cs.length=6:=PR_len x cs G h
def MadePt (p:P) (w:World) (e:Ending) (w':World):Prop:=∃ cs F,e=.returned (.agg cs.toArray)∧Below w w w'∧PR w' p cs F∧Free w' F∧Fresh w w' F
mutual
def patOf:V→P
 |⟨c,n,ks⟩=>if c = -1 then ⟨3,0,n,n,0,[]⟩ else ⟨4,c,0,0,0,patOfs ks⟩
def patOfs:List V→List P
 |[]=>[]
 |k :: ks=>patOf k :: patOfs ks
end
theorem patOfs_eq (l:List V):patOfs l=l.map patOf:=by
 induction l with
 |nil=>rfl
 |cons k l ih=>rw [patOfs,ih];rfl
theorem patOf_num {v:V} (h:v.c = -1):patOf v=⟨3,0,v.n,v.n,0,[]⟩:=by
 obtain ⟨c,n,ks⟩:=v
 rw [patOf];exact if_pos h
theorem patOf_ctor {v:V} (h:¬v.c = -1):patOf v=⟨4,v.c,0,0,0,v.ks.map patOf⟩:=by
 obtain ⟨c,n,ks⟩:=v
 rw [patOf,patOfs_eq];exact if_neg h
def patTo (ks:List V) (i:Nat):List P:=(ks.take i).map patOf
theorem patTo_succ (ks:List V) (i:Nat) (h:i<ks.length):patTo ks (i+1)=patTo ks i ++ [patOf ks[i]]:=by
 unfold patTo
 rw [take_snoc' ks i h,List.map_append];rfl
theorem patTo_all (ks:List V) {i:Nat} (h:ks.length≤i):patTo ks i=ks.map patOf:=by unfold patTo;rw [List.take_of_length_le h]
theorem patTo_len (ks:List V) (i:Nat):(patTo ks i).length≤i:=by unfold patTo;rw [List.length_map,List.length_take];omega
end Go.Proofs.YtjjclcmmfeegfaaGreatDoor
namespace Go.Proofs.YtjjclcmmfeegfaaGreatDoor
open Go
section
variable {P : Program} {ops : Array Oper} {Q : Exit → Act → World → Prop} {md : Region.Mode} {S T : World → Prop} {d : Nat}
def wpAnyB (P:Program) (md:Region.Mode) (ops:Array Oper) (Q:Exit→Act→World→Prop) (S T:World→Prop) (d:Nat):Nat→Array Bool→Act→World→Prop
 |0,listed,a,w=>Region.ready md ops listed=[]∧Q .normal a w
 |fuel+1,listed,a,w =>
  (Region.ready md ops listed=[]→Q .normal a w) ∧
  ∀ i∈Region.ready md ops listed,wpOp P ops Q i (fun a' w'=>(S w'∧((listed.setIfInBounds i true).getD d false=false→T w'))∧wpAnyB P md ops Q S T d fuel (listed.setIfInBounds i true) a' w') a w
theorem wpAny_of_B:∀ (fuel:Nat) (listed:Array Bool) (a:Act) (w:World),wpAnyB P md ops Q S T d fuel listed a w→wpAny P md ops Q fuel listed a w
 |0,_,_,_,h=>h
 |fuel+1,_,_,_,h=>⟨h.1,fun i hi=>wpOp_mono (fun _ _ h'=>wpAny_of_B fuel _ _ _ h'.2) (h.2 i hi)⟩
theorem wpAnyB_first {i:Nat} {oi:Oper} {v:Value} (hi:ops[i]?=some oi) (hid:i≠d) (hsel:∀ (j:Nat) (o:Oper) cs b,ops[j]?=some o→o.op≠.select cs b)
  (hQ:∀ c a w,Q (.panic c) (a.put oi.dst v) w→Q (.panic c) a w) :
  ∀ (fuel:Nat) (listed:Array Bool) (a:Act) (w:World),
   (∀ j oj,ops[j]?=some oj→j≠i→listed.getD j true=false→(∀ e∈oj.after,Region.binds md e=true→e.on≠i)→oi.apart ops oj=true) →
   i∈Region.ready md ops listed→YieldsIf P ops S oi v a→S w→(listed.getD d false=false→T w) →
   wpAnyB P md ops Q S T d fuel (listed.setIfInBounds i true) (a.put oi.dst v) w→wpAnyB P md ops Q S T d (fuel+1) listed a w:=by
 intro fuel
 induction fuel with
 |zero =>
  intro listed a w _ hr hy hS hT H
  refine ⟨fun h=>(by rw [h] at hr;cases hr),fun j hj=>?_⟩
  by_cases hji:j=i
  ·subst hji;exact hy.wpOp hi hS ⟨⟨hS,fun h=>hT (by rwa [getD_set_ne false hid] at h)⟩,H⟩
  ·have:=ready_mono hj hji
   rw [H.1] at this
   cases this
 |succ fuel ih =>
  intro listed a w hfree hr hy hS hT H
  refine ⟨fun h=>(by rw [h] at hr;cases hr),fun j hj=>?_⟩
  by_cases hji:j=i
  ·subst hji;exact hy.wpOp hi hS ⟨⟨hS,fun h=>hT (by rwa [getD_set_ne false hid] at h)⟩,H⟩
  ·have h1:=H.2 j (ready_mono hj hji)
   obtain ⟨hjun,oj,hoj,hall⟩:=mem_ready.1 hj
   have hnot:∀ e∈oj.after,Region.binds md e=true→e.on≠i:=fun e he hb heq=>by
    have h1:=hall e he hb
    have h0:=(mem_ready.1 hr).1
    rw [heq] at h1
    rcases Nat.lt_or_ge i listed.size with h' | h'
    ·simp [h'] at h0 h1;rw [h0] at h1;cases h1
    ·simp [Array.getElem?_eq_none h'] at h1
   have h2:=wpOp_putIf hoj (hfree j oj hoj hji hjun hnot) (fun cs b=>hsel i oi cs b hi) (fun cs b=>hsel j oj cs b hoj) hQ hy h1
   have hfree':∀ k ok,ops[k]?=some ok→k≠i→(listed.setIfInBounds j true).getD k true=false →
     (∀ e∈ok.after,Region.binds md e=true→e.on≠i)→oi.apart ops ok=true:=fun k ok hk hki hun hno=>by
    refine hfree k ok hk hki ?_ hno
    by_cases hjk:j=k
    ·subst hjk;exact hjun
    ·rw [getD_set_ne true hjk] at hun;exact hun
   have hbit:((listed.setIfInBounds i true).setIfInBounds j true).getD d false=(listed.setIfInBounds j true).getD d false:=by
    rw [Array.setIfInBounds_comm _ _ (Ne.symm hji),getD_set_ne false hid]
   refine wpOp_mono (fun a' w' h3=>⟨⟨h3.2.1.1,fun h=>h3.2.1.2 (hbit.trans h)⟩,ih (listed.setIfInBounds j true) a' w' hfree' (ready_mono hr (Ne.symm hji)) h3.1 h3.2.1.1 (fun h=>h3.2.1.2 (hbit.trans h)) ?_⟩) h2
   rw [Array.setIfInBounds_comm _ _ hji]
   exact h3.2.2
theorem wpAnyB_firstT {i:Nat} {oi od:Oper} {v:Value} (hi:ops[i]?=some oi) (hid:i≠d) (hd:ops[d]?=some od) (hdi:∃ e∈od.after,Region.binds md e=true∧e.on=i) (hsel:∀ (j:Nat) (o:Oper) cs b,ops[j]?=some o→o.op≠.select cs b)
  (hQ:∀ c a w,Q (.panic c) (a.put oi.dst v) w→Q (.panic c) a w) :
  ∀ (fuel:Nat) (listed:Array Bool) (a:Act) (w:World),
   (∀ j oj,ops[j]?=some oj→j≠i→listed.getD j true=false→(∀ e∈oj.after,Region.binds md e=true→e.on≠i)→oi.apart ops oj=true) →
   i∈Region.ready md ops listed→YieldsIf P ops (fun w=>S w∧T w) oi v a→listed.getD d false=false→S w→T w →
   wpAnyB P md ops Q S T d fuel (listed.setIfInBounds i true) (a.put oi.dst v) w→wpAnyB P md ops Q S T d (fuel+1) listed a w:=by
 intro fuel
 induction fuel with
 |zero =>
  intro listed a w _ hr hy hdf hS hT H
  refine ⟨fun h=>(by rw [h] at hr;cases hr),fun j hj=>?_⟩
  by_cases hji:j=i
  ·subst hji;exact hy.wpOp hi ⟨hS,hT⟩ ⟨⟨hS,fun _=>hT⟩,H⟩
  ·have:=ready_mono hj hji
   rw [H.1] at this
   cases this
 |succ fuel ih =>
  intro listed a w hfree hr hy hdf hS hT H
  refine ⟨fun h=>(by rw [h] at hr;cases hr),fun j hj=>?_⟩
  by_cases hji:j=i
  ·subst hji;exact hy.wpOp hi ⟨hS,hT⟩ ⟨⟨hS,fun _=>hT⟩,H⟩
  ·have h1:=H.2 j (ready_mono hj hji)
   obtain ⟨hjun,oj,hoj,hall⟩:=mem_ready.1 hj
   have hnot:∀ e∈oj.after,Region.binds md e=true→e.on≠i:=fun e he hb heq=>by
    have h1:=hall e he hb
    have h0:=(mem_ready.1 hr).1
    rw [heq] at h1
    rcases Nat.lt_or_ge i listed.size with h' | h'
    ·simp [h'] at h0 h1;rw [h0] at h1;cases h1
    ·simp [Array.getElem?_eq_none h'] at h1
   have hjd:j≠d:=fun e=>by
    subst e
    rw [hoj] at hd
    cases hd
    obtain ⟨e,he,hb,ho⟩:=hdi
    exact hnot e he hb ho
   have h2:=wpOp_putIf hoj (hfree j oj hoj hji hjun hnot) (fun cs b=>hsel i oi cs b hi) (fun cs b=>hsel j oj cs b hoj) hQ hy h1
   have hfree':∀ k ok,ops[k]?=some ok→k≠i→(listed.setIfInBounds j true).getD k true=false →
     (∀ e∈ok.after,Region.binds md e=true→e.on≠i)→oi.apart ops ok=true:=fun k ok hk hki hun hno=>by
    refine hfree k ok hk hki ?_ hno
    by_cases hjk:j=k
    ·subst hjk;exact hjun
    ·rw [getD_set_ne true hjk] at hun;exact hun
   have hdf2:(listed.setIfInBounds j true).getD d false=false:=by rw [getD_set_ne false hjd];exact hdf
   have hdf3:((listed.setIfInBounds i true).setIfInBounds j true).getD d false=false:=by rw [getD_set_ne false hjd,getD_set_ne false hid];exact hdf
   refine wpOp_mono (fun a' w' h3=>⟨⟨h3.2.1.1,fun _=>h3.2.1.2 hdf3⟩,ih (listed.setIfInBounds j true) a' w' hfree' (ready_mono hr (Ne.symm hji)) h3.1 hdf2 h3.2.1.1 (h3.2.1.2 hdf3) ?_⟩) h2
   rw [Array.setIfInBounds_comm _ _ hji]
   exact h3.2.2
theorem wT {i:Nat} {oi:Oper} {v:Value} {fuel:Nat} {listed:Array Bool} {a:Act} {w:World} (hi:ops[i]?=some oi) (hid:i≠d)
  (hs:Region.noSelect ops=true) (hf:Region.free md ops listed i=true) (hr:(Region.ready md ops listed).contains i=true)
  (hQ:∀ c a w,Q (.panic c) (a.put oi.dst v) w→Q (.panic c) a w) (hy:YieldsIf P ops S oi v a) (hS:S w) (hT:listed.getD d false=false→T w)
  (h:wpAnyB P md ops Q S T d fuel (listed.setIfInBounds i true) (a.put oi.dst v) w):wpAnyB P md ops Q S T d (fuel+1) listed a w :=
 wpAnyB_first hi hid (Region.noSelect_spec hs) hQ fuel listed a w (Region.free_spec hi hf) (by simpa using hr) hy hS hT h
theorem wU {i : Nat} {oi : Oper} {v : Value} {fuel : Nat} {listed : Array Bool} {a : Act} {w : World} (hi : ops[i]? = some oi) (hy : YieldsIf P ops S oi v a) (hS : S w) (hT : listed.getD d false = false → T w)
  (h : wpAnyB P md ops Q S T d fuel (listed.setIfInBounds i true) (a.put oi.dst v) w) (hid : i ≠ d := by decide)
  (hs : Region.noSelect ops = true := by kernel_rfl) (hf : Region.free md ops listed i = true := by kernel_rfl) (hr : (Region.ready md ops listed).contains i = true := by kernel_rfl)
  (hQ : ∀ c a w, Q (.panic c) (a.put oi.dst v) w → Q (.panic c) a w := by exact fun _ _ _ h => h) : wpAnyB P md ops Q S T d (fuel + 1) listed a w :=
 wT hi hid hs hf hr hQ hy hS hT h
theorem wV (i : Nat) {oi : Oper} {v : Value} {fuel : Nat} {listed : Array Bool} {a : Act} {w : World} (hi : ops[i]? = some oi) (hS : S w) (hT : T w)
  (h : wpAnyB P md ops Q S T d fuel (listed.setIfInBounds i true) (a.put oi.dst v) w) (hg : Region.wanted oi (yielded ops a.tmps) = true := by rfl)
  (hy : ∀ w, S w → (execOp a.eval oi).run P w = .ok (.value v) w := by (intro W hSw; (try dsimp only at hSw); (repeat obtain ⟨_, hSw⟩ := hSw); go_simp; try with_reducible rfl)) (hid : i ≠ d := by decide)
  (hs : Region.noSelect ops = true := by kernel_rfl) (hf : Region.free md ops listed i = true := by kernel_rfl) (hr : (Region.ready md ops listed).contains i = true := by kernel_rfl)
  (hQ : ∀ c a w, Q (.panic c) (a.put oi.dst v) w → Q (.panic c) a w := by exact fun _ _ _ h => h) : wpAnyB P md ops Q S T d (fuel + 1) listed a w :=
 wT hi hid hs hf hr hQ (Or.inl ⟨hg, hy⟩) hS (fun _ => hT) h
theorem wN (i : Nat) {oi : Oper} {fuel : Nat} {listed : Array Bool} {a : Act} {w : World} (hi : ops[i]? = some oi) (hS : S w) (hT : T w)
  (h : wpAnyB P md ops Q S T d fuel (listed.setIfInBounds i true) (a.put oi.dst undef) w) (hg : Region.wanted oi (yielded ops a.tmps) = false := by rfl) (hid : i ≠ d := by decide)
  (hs : Region.noSelect ops = true := by kernel_rfl) (hf : Region.free md ops listed i = true := by kernel_rfl) (hr : (Region.ready md ops listed).contains i = true := by kernel_rfl)
  (hQ : ∀ c a w, Q (.panic c) (a.put oi.dst undef) w → Q (.panic c) a w := by exact fun _ _ _ h => h) : wpAnyB P md ops Q S T d (fuel + 1) listed a w :=
 wT hi hid hs hf hr hQ (Or.inr ⟨hg, rfl⟩) hS (fun _ => hT) h
theorem wpAnyB_takeT {i:Nat} {oi od:Oper} {v:Value} {fuel:Nat} {listed:Array Bool} {a:Act} {w:World} (hi:ops[i]?=some oi) (hid:i≠d) (hd:ops[d]?=some od) (hdi:∃ e∈od.after,Region.binds md e=true∧e.on=i)
  (hs:Region.noSelect ops=true) (hf:Region.free md ops listed i=true) (hr:(Region.ready md ops listed).contains i=true)
  (hQ:∀ c a w,Q (.panic c) (a.put oi.dst v) w→Q (.panic c) a w) (hy:YieldsIf P ops (fun w=>S w∧T w) oi v a) (hdf:listed.getD d false=false) (hS:S w) (hT:T w)
  (h:wpAnyB P md ops Q S T d fuel (listed.setIfInBounds i true) (a.put oi.dst v) w):wpAnyB P md ops Q S T d (fuel+1) listed a w :=
 wpAnyB_firstT hi hid hd hdi (Region.noSelect_spec hs) hQ fuel listed a w (Region.free_spec hi hf) (by simpa using hr) hy hdf hS hT h
theorem zAP {i:Nat} {oi od:Oper} {v:Value} {fuel:Nat} {listed:Array Bool} {a:Act} {w:World} (hi:ops[i]?=some oi) (hid:i≠d) (hd:ops[d]?=some od) (hdi:(od.after.any fun e=>Region.binds md e && e.on==i)=true)
  (hs:Region.noSelect ops=true) (hf:Region.free md ops listed i=true) (hr:(Region.ready md ops listed).contains i=true)
  (hQ:∀ c a w,Q (.panic c) (a.put oi.dst v) w→Q (.panic c) a w) (hy:YieldsIf P ops (fun w=>S w∧T w) oi v a) (hdf:listed.getD d false=false) (hS:S w) (hT:T w)
  (h:wpAnyB P md ops Q S T d fuel (listed.setIfInBounds i true) (a.put oi.dst v) w):wpAnyB P md ops Q S T d (fuel+1) listed a w :=
 wpAnyB_takeT hi hid hd (by
  obtain ⟨k,hk,hb⟩:=Array.any_eq_true.1 hdi
  rw [Bool.and_eq_true,beq_iff_eq] at hb
  exact ⟨_,Array.getElem_mem hk,hb.1,hb.2⟩) hs hf hr hQ hy hdf hS hT h
theorem wpAnyB_all {rs:List Nat} {fuel:Nat} {listed:Array Bool} {a:Act} {w:World} (hr:Region.ready md ops listed=rs) (hne:rs≠[])
  (h:∀ i∈rs,wpOp P ops Q i (fun a' w'=>(S w'∧((listed.setIfInBounds i true).getD d false=false→T w'))∧wpAnyB P md ops Q S T d fuel (listed.setIfInBounds i true) a' w') a w):wpAnyB P md ops Q S T d (fuel+1) listed a w :=
 ⟨fun h0=>absurd (hr▸h0) hne,hr▸h⟩
theorem wpAnyB_done {listed:Array Bool} {a:Act} {w:World} (hr:Region.ready md ops listed=[]) (h:Q .normal a w):∀ fuel,wpAnyB P md ops Q S T d fuel listed a w
 |0=>⟨hr,h⟩
 |_+1=>⟨fun _=>h,by rw [hr];simp⟩
theorem zA4 {id:Nat} {a:Act} {w:World} (hm:P.follows .mixedOrders=true)
  (h:wpAnyB P .any ops Q S T d ops.size (Array.replicate ops.size false) a w.drew):(Code.region id ops true).wp P Q a w :=
 wp_region_any hm (wpAny_of_B _ _ _ _ h)
def AllReadyB (P:Program) (md:Region.Mode) (ops:Array Oper) (Q:Exit→Act→World→Prop) (S T:World→Prop) (d fuel:Nat) (listed:Array Bool) (a:Act) (w:World) (rs:List Nat):Prop :=
 ∀ i∈rs,wpOp P ops Q i (fun a' w'=>(S w'∧((listed.setIfInBounds i true).getD d false=false→T w'))∧wpAnyB P md ops Q S T d fuel (listed.setIfInBounds i true) a' w') a w
theorem wpBS {R : World → Prop} {id : Nat} {a : Act} {w : World} (HS : ∀ C : World, R C → S C) (hm : P.follows .mixedOrders = true) (h : wpAnyB P .any ops Q S T d ops.size (Array.replicate ops.size false) a w.drew) : (Code.region id ops true).wp P Q a w := zA4 hm h
theorem AllReadyB.n {fuel:Nat} {listed:Array Bool} {a:Act} {w:World}:AllReadyB P md ops Q S T d fuel listed a w []:=fun _ h=>by cases h
theorem AllReadyB.c {fuel:Nat} {listed:Array Bool} {a:Act} {w:World} {i:Nat} {o:Oper} {rs:List Nat} (ho:ops[i]?=some o)
  (h:∀ K':Act→World→Prop,Shut (∀ a w,S w→((listed.setIfInBounds i true).getD d false=false→T w)→wpAnyB P md ops Q S T d fuel (listed.setIfInBounds i true) a w→K' a w)→if Region.wanted o (yielded ops a.tmps)=true then Oper.wp P o a w K' Q else K' (a.put o.dst undef) w)
  (hs:AllReadyB P md ops Q S T d fuel listed a w rs):AllReadyB P md ops Q S T d fuel listed a w (i :: rs):=fun j hj=>by
 rcases List.mem_cons.1 hj with rfl | hj
 ·exact wpOp_step ho (fun K' hK=>h K' (fun a w h1 h2 h3=>hK a w ⟨⟨h1,h2⟩,h3⟩))
 ·exact hs j hj
theorem wR {rs:List Nat} {fuel:Nat} {listed:Array Bool} {a:Act} {w:World} (hr:Region.ready md ops listed=rs) (hne:rs≠[])
  (h:AllReadyB P md ops Q S T d fuel listed a w rs):wpAnyB P md ops Q S T d (fuel+1) listed a w:=wpAnyB_all hr hne h
theorem w1 (i : Nat) {o : Oper} {fuel : Nat} {listed : Array Bool} {a : Act} {w : World} (ho : ops[i]? = some o)
  (h : ∀ K' : Act → World → Prop, Shut (∀ a w, S w → ((listed.setIfInBounds i true).getD d false = false → T w) → wpAnyB P md ops Q S T d fuel (listed.setIfInBounds i true) a w → K' a w) → if Region.wanted o (yielded ops a.tmps) = true then Oper.wp P o a w K' Q else K' (a.put o.dst undef) w)
  (hr : Region.ready md ops listed = [i] := by kernel_rfl) : wpAnyB P md ops Q S T d (fuel + 1) listed a w :=
 wR hr (by simp) (.c ho h .n)
theorem wE {fuel:Nat} {listed:Array Bool} {a:Act} {w:World} (hr:(Region.ready md ops listed).isEmpty=true) (h:Q .normal a w):wpAnyB P md ops Q S T d fuel listed a w :=
 wpAnyB_done (List.isEmpty_iff.1 hr) h fuel
end
end Go.Proofs.YtjjclcmmfeegfaaGreatDoor
namespace Go.Proofs.YtjjclcmmfeegfaaGreatDoor
open Go.RowKit
def PatOfP (fn:FuncId) (v:V):Prop:=∀ (w:World) (cs:List Value) (G:List Nat),VR w v cs G→Under w G→v.size≤1048576 →
 Calls Tryz.prog fn #[.agg cs.toArray] w (MadePt (patOf v) w)
theorem V.sizes_mem' (l:List V) (k:Nat) (h:k<l.length):l[k].size≤V.sizes l:=by
 have:=V.size_lt l k h
 omega
theorem impl_patternOf_of (v:V) (ih:∀ k∈v.ks,PatOfP 64 k):PatOfP 64 v:=by
 intro w cs G hv hg hz
 obtain ⟨kv,rfl,ha⟩:=(zA6 _ _ _).1 hv
 obtain ⟨A4,cap4,rfl,hc3,hc4⟩:=ha.form
 obtain ⟨i0,hi,hz0,hz1,hz2⟩:=info_parts info_PE
 have IH:=jj ih
 have HI:=jj hi
 have HZ0:=jj hz0
 have HZ1:=jj hz1
 have HZ2:=jj hz2
 have HA:=jj ha
 have HG:=jj hg
 clear hi hz0 hz1 hz2 ha hg
 have hzk:V.sizes v.ks≤1048576:=by obtain ⟨c,n,ks⟩:=v;exact hz
 have hkl:v.ks.length≤1048576:=by rw [V.sizes_eq] at hzk;omega
 have HZ:=jj hzk
 clear ih hv hz hzk
 by_cases hn:v.c = -1
 ·have t0:(v.c == -1)=true:=by simp [hn]
  have HP:=jj (patOf_num hn)
  go_enter Tryz.func64,Tryz.ntmps64
  go_wp2
  refine bodyPost_ret (zA2 rfl _ _ (w.heap.size+1) 28 #[(3:Int),(0:Int),v.n,v.n,(0:Int),.slice none 0 0] (0,0) _ rfl (zAG _ _ _ _) Tryz.underlying28 rfl rfl) rfl ?_
  exact ⟨[(3:Int),(0:Int),v.n,v.n,(0:Int),.slice none 0 0],[],rfl,((zy2 _ _).alloc (zz8 _) _).alloc (by simp) _,by rw [HP.out];exact (zAE _ _ _).2 ⟨_,rfl,Arr.nil⟩,Free.nil _,Fresh.nil _ _⟩
 ·have t0:(v.c == -1)=false:=by simpa using hn
  have HP:=jj (patOf_ctor hn)
  have HN:=jj hn
  clear hn
  have hB0:Below w w (((w.alloc (.cells #[v.c,v.n,.slice A4 v.ks.length cap4] 45)).alloc (.cells #[(0:Int),(0:Int),(0:Int),(0:Int),(0:Int),.slice none 0 0] 28)).alloc (.cells #[(4:Int),v.c,(0:Int),(0:Int),(0:Int),.slice none 0 0] 28)):=(((zy2 _ _).alloc (zz8 _) _).alloc (by simp) _).alloc (by simp;omega) _
  have K0:Hid (Blk (((w.alloc (.cells #[v.c,v.n,.slice A4 v.ks.length cap4] 45)).alloc (.cells #[(0:Int),(0:Int),(0:Int),(0:Int),(0:Int),.slice none 0 0] 28)).alloc (.cells #[(4:Int),v.c,(0:Int),(0:Int),(0:Int),.slice none 0 0] 28)) (w.heap.size+2) 28 #[(4:Int),v.c,(0:Int),(0:Int),(0:Int),.slice none 0 0]):=by
   have h:=Blk.new ((w.alloc (.cells #[v.c,v.n,.slice A4 v.ks.length cap4] 45)).alloc (.cells #[(0:Int),(0:Int),(0:Int),(0:Int),(0:Int),.slice none 0 0] 28)) 28 #[(4:Int),v.c,(0:Int),(0:Int),(0:Int),.slice none 0 0]
   rw [show ((w.alloc (.cells #[v.c,v.n,.slice A4 v.ks.length cap4] 45)).alloc (.cells #[(0:Int),(0:Int),(0:Int),(0:Int),(0:Int),.slice none 0 0] 28)).heap.size=w.heap.size+2 from by simp] at h
   exact h
  have R0:Hid (Blk (((w.alloc (.cells #[v.c,v.n,.slice A4 v.ks.length cap4] 45)).alloc (.cells #[(0:Int),(0:Int),(0:Int),(0:Int),(0:Int),.slice none 0 0] 28)).alloc (.cells #[(4:Int),v.c,(0:Int),(0:Int),(0:Int),.slice none 0 0] 28)) (w.heap.size+1) 28 #[(0:Int),(0:Int),(0:Int),(0:Int),(0:Int),.slice none 0 0]):=by
   have h:=Blk.new (w.alloc (.cells #[v.c,v.n,.slice A4 v.ks.length cap4] 45)) 28 #[(0:Int),(0:Int),(0:Int),(0:Int),(0:Int),.slice none 0 0]
   rw [World.size_alloc] at h
   exact h.same (Below.heap_alloc _ _ _ (by simp))
  have V0:Hid (Blk (((w.alloc (.cells #[v.c,v.n,.slice A4 v.ks.length cap4] 45)).alloc (.cells #[(0:Int),(0:Int),(0:Int),(0:Int),(0:Int),.slice none 0 0] 28)).alloc (.cells #[(4:Int),v.c,(0:Int),(0:Int),(0:Int),.slice none 0 0] 28)) w.heap.size 45 #[v.c,v.n,.slice A4 v.ks.length cap4]):=((Blk.new w _ _).same (Below.heap_alloc _ _ _ (by simp))).same (Below.heap_alloc _ _ _ (by simp;omega))
  have hs0:(((w.alloc (.cells #[v.c,v.n,.slice A4 v.ks.length cap4] 45)).alloc (.cells #[(0:Int),(0:Int),(0:Int),(0:Int),(0:Int),.slice none 0 0] 28)).alloc (.cells #[(4:Int),v.c,(0:Int),(0:Int),(0:Int),.slice none 0 0] 28)).heap.size=w.heap.size+2+1:=by simp
  go_enter Tryz.func64,Tryz.ntmps64
  go_wp2
  obtain ⟨w9,hw9⟩:∃ w9,w9=(((w.alloc (.cells #[v.c,v.n,.slice A4 v.ks.length cap4] 45)).alloc (.cells #[(0:Int),(0:Int),(0:Int),(0:Int),(0:Int),.slice none 0 0] 28)).alloc (.cells #[(4:Int),v.c,(0:Int),(0:Int),(0:Int),.slice none 0 0] 28)):=⟨_,rfl⟩
  rw [←hw9] at hB0 K0 V0 R0 hs0 ⊢
  clear hw9
  go_loopw [20] (fun iv wr=>∃ i:Nat,∃ kv:Value,∃ Fk:List Nat,i≤v.ks.length∧iv=.int .i64 i∧Hid (Blk wr (w.heap.size+2) 28 #[(4:Int),v.c,(0:Int),(0:Int),(0:Int),kv])∧Hid (Own wr (w.heap.size+2+1) 28 6 PR (patTo v.ks i) kv Fk)∧Hid (Free wr Fk)∧Hid (∀ b∈Fk,w.heap.size+2+1≤b)∧Hid (Chg [w.heap.size+2] w9 wr)∧Below w w wr∧w9.heap.size≤wr.heap.size) (fun iv _=>v.ks.length-(intOf iv).toNat)
  case atStart=>exact ⟨0,_,[],Nat.zero_le _,rfl,K0,(show Own _ _ _ _ _ (patTo v.ks 0) _ _ from Own.nil _ _ _ _ _),Free.nil _,(fun b hb=>by cases hb),Chg.refl _ _,hB0,zz8 _⟩
  case round =>
   clear hB0 K0
   obtain ⟨i,kv,Fk,hi,rfl,KD,HO,HFk,HFh,HC,hB,hws⟩:=hrel
   obtain ⟨kA,kcap,hkv,hkc1,hkc2⟩:=HO.out.form
   subst hkv
   have klt:=KD.out.lt
   by_cases hil:i<v.ks.length
   ·obtain ⟨b4,off4,rfl⟩:=HA.out.ptr (by omega)
    have hb4w:b4<w.heap.size:=by obtain ⟨_,_,_,_,e,hb,-⟩:=HA.out.get VR_len hil;cases e;exact HG.out _ hb
    obtain ⟨A7,cap7,G7,hb7,k0,k1,k2,HV7,HG7,-,-,-⟩:=ArrV.at HA.out HG.out hB i hil
    have g1:(0:Int)≤(i:Int):=by omega
    have g2:(i:Int)<(v.ks.length:Int):=by omega
    have hkk:=patTo_len v.ks i
    have HKS:Hid (v.ks[i].size≤1048576):=by have h1:=V.sizes_mem' v.ks i hil;have h2:=HZ.out;unfold Hid;omega
    have hmx:(patTo v.ks i).length+1≤maxLen:=by unfold maxLen;omega
    have hby:((patTo v.ks i).length+1)*64≤140737488355328:=by omega
    go_wp2_with fail
    obtain ⟨wk,hwk⟩:∃ wk,wk=wr.alloc (.cells #[v.ks[i].c,v.ks[i].n,.slice A7 v.ks[i].ks.length cap7] 45):=⟨_,rfl⟩
    have hBk:Below wr wr wk:=by rw [hwk];exact (zy2 _ _).alloc (zz8 _) _
    have KK:Blk wk wr 45 #[v.ks[i].c,v.ks[i].n,.slice A7 v.ks[i].ks.length cap7]:=by rw [hwk];exact Blk.new _ _ _
    have hwks:wk.heap.size=wr.heap.size+1:=by rw [hwk];simp
    rw [←hwk]
    clear hwk
    obtain ⟨z0,z1,z2,-⟩:=KK.c3
    have KDk:=KD.out.same (hBk.block _ KD.out.lt)
    have zT:wk.drew.cell? ⟨w.heap.size+2,5,none⟩=some (.slice kA (patTo v.ks i).length kcap):=(KDk.cell 5).trans (by simp)
    have zfT:wk.drew.frozen? ⟨w.heap.size+2,5,none⟩=false:=KDk.frozen 5
    have kklt:wr.heap.size<wk.drew.heap.size:=KK.lt
    have hkT:w.heap.size+2<wk.drew.heap.size:=KDk.lt
    clear KK KDk k0 k1 k2
    have HBk:=jj hBk.drew
    clear hBk
    have HCALL:=jj (IH.out v.ks[i] (List.getElem_mem hil) wk.drew _ G7 ((HV7.out.below hB HG7.out).below HBk.out (HG7.out.mono hB.size)) (HG7.out.mono (Nat.le_trans hB.size HBk.out.size)) HKS.out)
    refine zA4 (S:=fun w'=>w'.cell? ⟨wr,0,none⟩=v.ks[i].c∧w'.cell? ⟨wr,1,none⟩=v.ks[i].n∧w'.cell? ⟨wr,2,none⟩=some (.slice A7 v.ks[i].ks.length cap7)) (T:=fun w'=>w'.cell? ⟨w.heap.size+2,5,none⟩=some (.slice kA (patTo v.ks i).length kcap)) (d:=5) (by kernel_rfl) ?_
    have hS1:wk.drew.cell? ⟨wr,0,none⟩=v.ks[i].c∧wk.drew.cell? ⟨wr,1,none⟩=v.ks[i].n∧wk.drew.cell? ⟨wr,2,none⟩=some (.slice A7 v.ks[i].ks.length cap7):=⟨z0,z1,z2⟩
    have hT1:wk.drew.cell? ⟨w.heap.size+2,5,none⟩=some (.slice kA (patTo v.ks i).length kcap):=zT
    refine wV 0 rfl hS1 hT1 ?_
    (try simp only [Act.put,zz4,zz5,zz6])
    refine zAP (i:=1) (v:=?_) rfl (by decide) rfl (by kernel_rfl) (by kernel_rfl) (by kernel_rfl) (by kernel_rfl) (fun _ _ _ h=>h) (Or.inl ⟨by rfl,?hy1⟩) (by rfl) hS1 hT1 ?_
    case hy1=>(intro W hSw;(try dsimp only at hSw);(obtain ⟨⟨s0,s1,s2⟩,tT⟩:=hSw);go_simp;try with_reducible rfl)
    (try simp only [Act.put,zz4,zz5,zz6])
    refine wV 2 rfl hS1 hT1 ?_
    (try simp only [Act.put,zz4,zz5,zz6])
    refine w1 3 rfl fun K hK=>?_
    go_simp
    go_at_call 64
    with_reducible refine HCALL.out.mono ?_
    rintro e wA ⟨csA,FA,rfl,hbA,hpA,hfrA,hfsA⟩
    obtain ⟨kvA,rfl,haA⟩:=(zAE _ _ _).1 hpA
    obtain ⟨A8,cap8,rfl,-,-⟩:=haA.form
    clear haA
    have HBu:=jj (HBk.out.trans (hbA.mono HBk.out.size))
    have HPA:=jj hpA
    have HFrA:=jj hfrA
    have HFsA:Hid (∀ b∈FA,wr.heap.size≤b∧b<wA.heap.size):=fun b hb=>⟨Nat.le_trans HBk.out.size (hfsA b hb).1,(hfsA b hb).2⟩
    have HOA:Hid (Own wA (w.heap.size+2+1) 28 6 PR (patTo v.ks i) (.slice kA (patTo v.ks i).length kcap) Fk):=HO.out.below (fun x cs G hk h=>PR_mono' _ _ x cs G hk h) HBu.out
    have hbs:w.heap.size+2+1≤wA.heap.size:=by have:=HBu.out.size;omega
    have hSA:wA.cell? ⟨wr,0,none⟩=v.ks[i].c∧wA.cell? ⟨wr,1,none⟩=v.ks[i].n∧wA.cell? ⟨wr,2,none⟩=some (.slice A7 v.ks[i].ks.length cap7):=⟨(hbA.cell (p:=⟨wr,0,none⟩) kklt).trans z0,(hbA.cell (p:=⟨wr,1,none⟩) kklt).trans z1,(hbA.cell (p:=⟨wr,2,none⟩) kklt).trans z2⟩
    have zA:wA.cell? ⟨w.heap.size+2,5,none⟩=some (.slice kA (patTo v.ks i).length kcap):=(hbA.cell (p:=⟨w.heap.size+2,5,none⟩) hkT).trans zT
    have zfA:wA.frozen? ⟨w.heap.size+2,5,none⟩=false:=(hbA.frozen hkT).trans zfT
    have hkA:w.heap.size+2<wA.heap.size:=zz9 hkT hbA.size
    have kl0:wr.heap.size<wA.heap.size:=zz9 kklt hbA.size
    have kl1:wr.heap.size<wA.heap.size:=zz9 kklt hbA.size
    have kl2:wr.heap.size<wA.heap.size:=zz9 kklt hbA.size
    have hSB:(wA.alloc (.cells [.int .i64 (patOf v.ks[i]).op,.int .i64 (patOf v.ks[i]).ct,.int .i64 (patOf v.ks[i]).n,.int .i64 (patOf v.ks[i]).m,.int .i64 (patOf v.ks[i]).va,.slice A8 (patOf v.ks[i]).ks.length cap8].toArray 28)).cell? ⟨wr,0,none⟩=v.ks[i].c∧(wA.alloc (.cells [.int .i64 (patOf v.ks[i]).op,.int .i64 (patOf v.ks[i]).ct,.int .i64 (patOf v.ks[i]).n,.int .i64 (patOf v.ks[i]).m,.int .i64 (patOf v.ks[i]).va,.slice A8 (patOf v.ks[i]).ks.length cap8].toArray 28)).cell? ⟨wr,1,none⟩=v.ks[i].n∧(wA.alloc (.cells [.int .i64 (patOf v.ks[i]).op,.int .i64 (patOf v.ks[i]).ct,.int .i64 (patOf v.ks[i]).n,.int .i64 (patOf v.ks[i]).m,.int .i64 (patOf v.ks[i]).va,.slice A8 (patOf v.ks[i]).ks.length cap8].toArray 28)).cell? ⟨wr,2,none⟩=some (.slice A7 v.ks[i].ks.length cap7):=⟨(World.cell?_alloc_lt _ _ _ kl0).trans hSA.1,(World.cell?_alloc_lt _ _ _ kl1).trans hSA.2.1,(World.cell?_alloc_lt _ _ _ kl2).trans hSA.2.2⟩
    dsimp only
    refine hK.out _ _ hSA (fun _=>zA) ?_
    clear hK K
    (try simp only [Act.put,zz4,zz5,zz6])
    refine w1 4 rfl fun K hK=>?_
    go_simp
    refine hK.out _ _ hSB (fun _=>(World.cell?_alloc_lt _ _ _ hkA).trans zA) ?_
    clear hK K
    (try simp only [Act.put,zz4,zz5,zz6])
    refine w1 5 rfl fun K hK=>?_
    refine zAB (P:=Tryz.prog) rfl _ _ 26 rfl i0 _ 64 Tryz.underlying26 HI.out HZ0.out HZ1.out HZ2.out rfl (by decide) PR_len' PR_mono' (by rfl) HOA.out (patOf v.ks[i]) 28 [.int .i64 (patOf v.ks[i]).op,.int .i64 (patOf v.ks[i]).ct,.int .i64 (patOf v.ks[i]).n,.int .i64 (patOf v.ks[i]).m,.int .i64 (patOf v.ks[i]).va,.slice A8 (patOf v.ks[i]).ks.length cap8] FA wA.heap.size (by rfl) rfl (by simp [Value.oneCell']) HPA.out (fun b hb=>(HFsA.out b hb).2) (fun g hg hG=>Nat.lt_irrefl _ (zz9 (HO.out.row g hg).2 (HFsA.out g hG).1)) hmx hby hbs ?_
    intro g cp w7 hown7 hgr7 hat7
    have hrow7:=HOA.out.row
    have n7:∀ x,(x<w.heap.size+2+1∨wr.heap.size≤x)→some x≠(Value.ownBlock (.slice kA (patTo v.ks i).length kcap)):=fun x hx e=>by
     have h1:=(hrow7 x (zA1.2 e.symm)).1
     have h2:=(HO.out.row x (zA1.2 e.symm)).2
     omega
    have l7:wA.heap.size≤(wA.alloc (.cells [.int .i64 (patOf v.ks[i]).op,.int .i64 (patOf v.ks[i]).ct,.int .i64 (patOf v.ks[i]).n,.int .i64 (patOf v.ks[i]).m,.int .i64 (patOf v.ks[i]).va,.slice A8 (patOf v.ks[i]).ks.length cap8].toArray 28)).heap.size:=by rw [World.size_alloc];exact Nat.le_succ _
    have s7:w7.cell? ⟨wr,0,none⟩=v.ks[i].c∧w7.cell? ⟨wr,1,none⟩=v.ks[i].n∧w7.cell? ⟨wr,2,none⟩=some (.slice A7 v.ks[i].ks.length cap7):=⟨(World.grownBy.cell_far hgr7 ⟨wr,0,none⟩ (zz9 kl0 l7) (n7 (wr.heap.size) (by omega))).trans hSB.1,(World.grownBy.cell_far hgr7 ⟨wr,1,none⟩ (zz9 kl1 l7) (n7 (wr.heap.size) (by omega))).trans hSB.2.1,(World.grownBy.cell_far hgr7 ⟨wr,2,none⟩ (zz9 kl2 l7) (n7 (wr.heap.size) (by omega))).trans hSB.2.2⟩
    have z71:w7.cell? ⟨w.heap.size+2,5,none⟩=some (.slice kA (patTo v.ks i).length kcap):=(World.grownBy.cell_far hgr7 ⟨w.heap.size+2,5,none⟩ (zz9 hkA l7) (n7 (w.heap.size+2) (by omega))).trans ((World.cell?_alloc_lt _ _ _ hkA).trans zA)
    have zf71:w7.frozen? ⟨w.heap.size+2,5,none⟩=false:=(World.grownBy.frozen_far hgr7 ⟨w.heap.size+2,5,none⟩ (zz9 hkA l7) (n7 (w.heap.size+2) (by omega))).trans (Eq.trans (World.frozen?_of_block (Below.heap_alloc _ _ _ hkA)) zfA)
    refine hK.out _ _ s7 (fun h=>by cases h) ?_
    clear hK K
    (try simp only [Act.put,zz4,zz5,zz6])
    refine wU (i:=6) (v:=?_) rfl (Or.inl ⟨by rfl,?hy6⟩) s7 (fun h=>by cases h) ?_
    case hy6=>(intro W hSw;(try dsimp only at hSw);(obtain ⟨s0,s1,s2⟩:=hSw);go_simp;try with_reducible rfl)
    (try simp only [Act.put,zz4,zz5,zz6])
    refine w1 7 rfl fun K hK=>?_
    go_simp
    refine hK.out _ _ ⟨(World.cell?_setCell_far _ _ _ _ (by show w.heap.size+2≠wr.heap.size;omega)).trans s7.1,(World.cell?_setCell_far _ _ _ _ (by show w.heap.size+2≠wr.heap.size;omega)).trans s7.2.1,(World.cell?_setCell_far _ _ _ _ (by show w.heap.size+2≠wr.heap.size;omega)).trans s7.2.2⟩ (fun h=>by cases h) ?_
    clear hK K
    (try simp only [Act.put,zz4,zz5,zz6])
    refine wE (by kernel_rfl) ?_
    have HF2:=jj (patTo_succ v.ks i hil)
    obtain ⟨r1,r2,r3,r4,r5,r6,r7⟩:=kid_round 5 PR_mono' hs0 KD.out HO.out HFk.out HFh.out HC.out hB (by omega) (zz8 _) HBu.out HFrA.out HFsA.out hown7 hgr7
    have R1:=jj r1
    have R2:=jj r2
    have R3:=jj r3
    have R4:=jj r4
    have R5:=jj r5
    have R6:=jj r6
    clear r1 r2 r3 r4 r5 r6 hown7 hgr7 hat7 hrow7 n7 l7 s7 z71 zf71 hSA zA zfA hkA hSB hS1 hT1 zT zfT hkT HCALL
    go_wp2
    go_roundw
    case rel=>exact ⟨i+1,_,_,hil,by go_num,R1,by rw [HF2.out];exact R2.out,R3,R4,R5,R6.out,r7⟩
    case measure=>(simp [intOf] <;> omega)
   ·have HO2:=HO.out
    rw [patTo_all v.ks (by omega)] at HO2
    have hln:=congrArg List.length (patTo_all v.ks (i:=i) (by omega))
    obtain ⟨FF,hf1,hf2,hf3⟩:=kid_done (H:=w.heap.size+2+1) HO2 HFk.out HFh.out (zz8 _)
    have HF1:=jj hf1
    have HF2:=jj hf2
    have HF3:=jj hf3
    have e0:=(KD.out.cell 0).trans (show _=some (.int .i64 4) from by simp)
    have e1:=(KD.out.cell 1).trans (show _=some (.int .i64 v.c) from by simp)
    have e2:=(KD.out.cell 2).trans (show _=some (.int .i64 0) from by simp)
    have e3:=(KD.out.cell 3).trans (show _=some (.int .i64 0) from by simp)
    have e4:=(KD.out.cell 4).trans (show _=some (.int .i64 0) from by simp)
    have e5:=(KD.out.cell 5).trans (show _=some (.slice kA (patTo v.ks i).length kcap) from by simp)
    have HLN:=jj hln
    have RR:=jj (R0.out.same (HC.out.block _ R0.out.lt (by simp)))
    have rlt:=RR.out.lt
    have rc0:=(RR.out.cell 0).trans (show _=some (.int .i64 0) from by simp)
    have rf0:=RR.out.frozen 0
    have rc1:=(RR.out.cell 1).trans (show _=some (.int .i64 0) from by simp)
    have rf1:=RR.out.frozen 1
    have rc2:=(RR.out.cell 2).trans (show _=some (.int .i64 0) from by simp)
    have rf2:=RR.out.frozen 2
    have rc3:=(RR.out.cell 3).trans (show _=some (.int .i64 0) from by simp)
    have rf3:=RR.out.frozen 3
    have rc4:=(RR.out.cell 4).trans (show _=some (.int .i64 0) from by simp)
    have rf4:=RR.out.frozen 4
    have rc5:=(RR.out.cell 5).trans (show _=some (.slice none 0 0) from by simp)
    have rf5:=RR.out.frozen 5
    clear hf1 hf2 hf3 HO2 hln
    go_wp2
    clear e0 e1 e2 e3 e4 e5 rc0 rf0 rc1 rf1 rc2 rf2 rc3 rf3 rc4 rf4 rc5 rf5
    refine bodyPost_ret (zA2 rfl _ _ (w.heap.size+1) 28 #[(4:Int),v.c,(0:Int),(0:Int),(0:Int),.slice kA (patTo v.ks i).length kcap] (0,0) _ rfl (RR.out.six _ _ _ _ _ _) Tryz.underlying28 rfl rfl) rfl ?_
    have hkp:Kept FF wr _:=kept_six (w:=wr) (H:=w.heap.size+1) (fun b hb=>by have:=(HF3.out b hb).1;omega) (.int .i64 4) (.int .i64 v.c) (.int .i64 0) (.int .i64 0) (.int .i64 0) (.slice kA (patTo v.ks i).length kcap)
    refine ⟨[(4:Int),v.c,(0:Int),(0:Int),(0:Int),.slice kA (patTo v.ks i).length kcap],FF,rfl,below_six hB (by omega) _ _ _ _ _ _,?_,HF2.out.kept hkp,fun b hb=>⟨by have:=(HF3.out b hb).1;omega,?_⟩⟩
    ·rw [HP.out]
     exact (zAE _ _ _).2 ⟨_,rfl,ArrP.mono (by rw [HLN.out];exact HF1.out) hkp⟩
    ·rw [size_six];exact (HF3.out b hb).2
theorem impl_patternOf:∀ v,PatOfP 64 v:=V.indv impl_patternOf_of
theorem spec_l3Of_of (v:V) (ih:∀ k∈v.ks,PatOfP 66 k):PatOfP 66 v:=by
 intro w cs G hv hg hz
 obtain ⟨kv,rfl,ha⟩:=(zA6 _ _ _).1 hv
 obtain ⟨A4,cap4,rfl,hc3,hc4⟩:=ha.form
 obtain ⟨i0,hi,hz0,hz1,hz2⟩:=info_parts info_PE
 have IH:=jj ih
 have HI:=jj hi
 have HZ0:=jj hz0
 have HZ1:=jj hz1
 have HZ2:=jj hz2
 have HA:=jj ha
 have HG:=jj hg
 clear hi hz0 hz1 hz2 ha hg
 have hzk:V.sizes v.ks≤1048576:=by obtain ⟨c,n,ks⟩:=v;exact hz
 have hkl:v.ks.length≤1048576:=by rw [V.sizes_eq] at hzk;omega
 have HZ:=jj hzk
 clear ih hv hz hzk
 by_cases hn:v.c = -1
 ·have t0:(v.c == -1)=true:=by simp [hn]
  have HP:=jj (patOf_num hn)
  go_enter Tryz.func66,Tryz.ntmps66
  go_wp2
  refine bodyPost_ret (zA2 rfl _ _ (w.heap.size+1) 28 #[(3:Int),(0:Int),v.n,v.n,(0:Int),.slice none 0 0] (0,0) _ rfl (zAG _ _ _ _) Tryz.underlying28 rfl rfl) rfl ?_
  exact ⟨[(3:Int),(0:Int),v.n,v.n,(0:Int),.slice none 0 0],[],rfl,((zy2 _ _).alloc (zz8 _) _).alloc (by simp) _,by rw [HP.out];exact (zAE _ _ _).2 ⟨_,rfl,Arr.nil⟩,Free.nil _,Fresh.nil _ _⟩
 ·have t0:(v.c == -1)=false:=by simpa using hn
  have HP:=jj (patOf_ctor hn)
  have HN:=jj hn
  clear hn
  have hB0:Below w w (((w.alloc (.cells #[v.c,v.n,.slice A4 v.ks.length cap4] 45)).alloc (.cells #[(0:Int),(0:Int),(0:Int),(0:Int),(0:Int),.slice none 0 0] 28)).alloc (.cells #[(4:Int),v.c,(0:Int),(0:Int),(0:Int),.slice none 0 0] 28)):=(((zy2 _ _).alloc (zz8 _) _).alloc (by simp) _).alloc (by simp;omega) _
  have K0:Hid (Blk (((w.alloc (.cells #[v.c,v.n,.slice A4 v.ks.length cap4] 45)).alloc (.cells #[(0:Int),(0:Int),(0:Int),(0:Int),(0:Int),.slice none 0 0] 28)).alloc (.cells #[(4:Int),v.c,(0:Int),(0:Int),(0:Int),.slice none 0 0] 28)) (w.heap.size+2) 28 #[(4:Int),v.c,(0:Int),(0:Int),(0:Int),.slice none 0 0]):=by
   have h:=Blk.new ((w.alloc (.cells #[v.c,v.n,.slice A4 v.ks.length cap4] 45)).alloc (.cells #[(0:Int),(0:Int),(0:Int),(0:Int),(0:Int),.slice none 0 0] 28)) 28 #[(4:Int),v.c,(0:Int),(0:Int),(0:Int),.slice none 0 0]
   rw [show ((w.alloc (.cells #[v.c,v.n,.slice A4 v.ks.length cap4] 45)).alloc (.cells #[(0:Int),(0:Int),(0:Int),(0:Int),(0:Int),.slice none 0 0] 28)).heap.size=w.heap.size+2 from by simp] at h
   exact h
  have R0:Hid (Blk (((w.alloc (.cells #[v.c,v.n,.slice A4 v.ks.length cap4] 45)).alloc (.cells #[(0:Int),(0:Int),(0:Int),(0:Int),(0:Int),.slice none 0 0] 28)).alloc (.cells #[(4:Int),v.c,(0:Int),(0:Int),(0:Int),.slice none 0 0] 28)) (w.heap.size+1) 28 #[(0:Int),(0:Int),(0:Int),(0:Int),(0:Int),.slice none 0 0]):=by
   have h:=Blk.new (w.alloc (.cells #[v.c,v.n,.slice A4 v.ks.length cap4] 45)) 28 #[(0:Int),(0:Int),(0:Int),(0:Int),(0:Int),.slice none 0 0]
   rw [World.size_alloc] at h
   exact h.same (Below.heap_alloc _ _ _ (by simp))
  have V0:Hid (Blk (((w.alloc (.cells #[v.c,v.n,.slice A4 v.ks.length cap4] 45)).alloc (.cells #[(0:Int),(0:Int),(0:Int),(0:Int),(0:Int),.slice none 0 0] 28)).alloc (.cells #[(4:Int),v.c,(0:Int),(0:Int),(0:Int),.slice none 0 0] 28)) w.heap.size 45 #[v.c,v.n,.slice A4 v.ks.length cap4]):=((Blk.new w _ _).same (Below.heap_alloc _ _ _ (by simp))).same (Below.heap_alloc _ _ _ (by simp;omega))
  have hs0:(((w.alloc (.cells #[v.c,v.n,.slice A4 v.ks.length cap4] 45)).alloc (.cells #[(0:Int),(0:Int),(0:Int),(0:Int),(0:Int),.slice none 0 0] 28)).alloc (.cells #[(4:Int),v.c,(0:Int),(0:Int),(0:Int),.slice none 0 0] 28)).heap.size=w.heap.size+2+1:=by simp
  go_enter Tryz.func66,Tryz.ntmps66
  go_wp2
  obtain ⟨w9,hw9⟩:∃ w9,w9=(((w.alloc (.cells #[v.c,v.n,.slice A4 v.ks.length cap4] 45)).alloc (.cells #[(0:Int),(0:Int),(0:Int),(0:Int),(0:Int),.slice none 0 0] 28)).alloc (.cells #[(4:Int),v.c,(0:Int),(0:Int),(0:Int),.slice none 0 0] 28)):=⟨_,rfl⟩
  rw [←hw9] at hB0 K0 V0 R0 hs0 ⊢
  clear hw9
  go_loopw [4] (fun iv wr=>∃ i:Nat,∃ kv:Value,∃ Fk:List Nat,i≤v.ks.length∧iv=.int .i64 i∧Hid (Blk wr (w.heap.size+2) 28 #[(4:Int),v.c,(0:Int),(0:Int),(0:Int),kv])∧Hid (Own wr (w.heap.size+2+1) 28 6 PR (patTo v.ks i) kv Fk)∧Hid (Free wr Fk)∧Hid (∀ b∈Fk,w.heap.size+2+1≤b)∧Hid (Chg [w.heap.size+2] w9 wr)∧Below w w wr∧w9.heap.size≤wr.heap.size) (fun iv _=>v.ks.length-(intOf iv).toNat)
  case atStart=>exact ⟨0,_,[],Nat.zero_le _,rfl,K0,(show Own _ _ _ _ _ (patTo v.ks 0) _ _ from Own.nil _ _ _ _ _),Free.nil _,(fun b hb=>by cases hb),Chg.refl _ _,hB0,zz8 _⟩
  case round =>
   clear hB0 K0
   obtain ⟨i,kv,Fk,hi,rfl,KD,HO,HFk,HFh,HC,hB,hws⟩:=hrel
   obtain ⟨kA,kcap,hkv,hkc1,hkc2⟩:=HO.out.form
   subst hkv
   have klt:=KD.out.lt
   have V9:=jj (V0.out.same (HC.out.block _ V0.out.lt (by simp)))
   have y2:wr.cell? ⟨w,2,none⟩=some (.slice A4 v.ks.length cap4):=(V9.out.cell 2).trans (by simp)
   have vlt:w.heap.size<wr.drew.heap.size:=V9.out.lt
   by_cases hil:i<v.ks.length
   ·obtain ⟨b4,off4,rfl⟩:=HA.out.ptr (by omega)
    have hb4w:b4<w.heap.size:=by obtain ⟨_,_,_,_,e,hb,-⟩:=HA.out.get VR_len hil;cases e;exact HG.out _ hb
    obtain ⟨A7,cap7,G7,hb7,k0,k1,k2,HV7,HG7,-,-,-⟩:=ArrV.at HA.out HG.out hB i hil
    have g1:(0:Int)≤(i:Int):=by omega
    have g2:(i:Int)<(v.ks.length:Int):=by omega
    have hkk:=patTo_len v.ks i
    have HKS:Hid (v.ks[i].size≤1048576):=by have h1:=V.sizes_mem' v.ks i hil;have h2:=HZ.out;unfold Hid;omega
    have hmx:(patTo v.ks i).length+1≤maxLen:=by unfold maxLen;omega
    have hby:((patTo v.ks i).length+1)*64≤140737488355328:=by omega
    have zT:wr.drew.cell? ⟨w.heap.size+2,5,none⟩=some (.slice kA (patTo v.ks i).length kcap):=(KD.out.cell 5).trans (by simp)
    have zfT:wr.drew.frozen? ⟨w.heap.size+2,5,none⟩=false:=KD.out.frozen 5
    have hkT:w.heap.size+2<wr.drew.heap.size:=klt
    have hb7':b4<wr.drew.heap.size:=hb7
    have HBk:Hid (Below wr wr wr.drew):=(zy2 _ _).drew
    have HCALL:=jj (IH.out v.ks[i] (List.getElem_mem hil) wr.drew _ G7 (HV7.out.below hB.drew HG7.out) (HG7.out.mono hB.drew.size) HKS.out)
    go_wp2_with fail
    refine zA4 (S:=fun w'=>w'.cell? ⟨w,2,none⟩=some (.slice (some ⟨b4,off4,none⟩) v.ks.length cap4)∧w'.cell? ⟨b4,off4+i*3,none⟩=v.ks[i].c∧w'.cell? ⟨b4,off4+i*3+1,none⟩=v.ks[i].n∧w'.cell? ⟨b4,off4+i*3+2,none⟩=some (.slice A7 v.ks[i].ks.length cap7)) (T:=fun w'=>w'.cell? ⟨w.heap.size+2,5,none⟩=some (.slice kA (patTo v.ks i).length kcap)) (d:=9) (by kernel_rfl) ?_
    have hS1:wr.drew.cell? ⟨w,2,none⟩=some (.slice (some ⟨b4,off4,none⟩) v.ks.length cap4)∧wr.drew.cell? ⟨b4,off4+i*3,none⟩=v.ks[i].c∧wr.drew.cell? ⟨b4,off4+i*3+1,none⟩=v.ks[i].n∧wr.drew.cell? ⟨b4,off4+i*3+2,none⟩=some (.slice A7 v.ks[i].ks.length cap7):=⟨y2,k0,k1,k2⟩
    have hT1:wr.drew.cell? ⟨w.heap.size+2,5,none⟩=some (.slice kA (patTo v.ks i).length kcap):=zT
    refine wV 0 rfl hS1 hT1 ?_
    (try simp only [Act.put,zz4,zz5,zz6])
    refine zAP (i:=1) (v:=?_) rfl (by decide) rfl (by kernel_rfl) (by kernel_rfl) (by kernel_rfl) (by kernel_rfl) (fun _ _ _ h=>h) (Or.inl ⟨by rfl,?hy1⟩) (by rfl) hS1 hT1 ?_
    case hy1=>(intro W hSw;(try dsimp only at hSw);(obtain ⟨⟨s0,s1,s2,s3⟩,tT⟩:=hSw);go_simp;try with_reducible rfl)
    (try simp only [Act.put,zz4,zz5,zz6])
    refine wV 2 rfl hS1 hT1 ?_
    (try simp only [Act.put,zz4,zz5,zz6])
    refine wV 3 rfl hS1 hT1 ?_
    (try simp only [Act.put,zz4,zz5,zz6])
    refine wV 4 rfl hS1 hT1 ?_
    (try simp only [Act.put,zz4,zz5,zz6])
    refine wV 5 rfl hS1 hT1 ?_
    (try simp only [Act.put,zz4,zz5,zz6])
    refine wV 6 rfl hS1 hT1 ?_
    (try simp only [Act.put,zz4,zz5,zz6])
    refine w1 7 rfl fun K hK=>?_
    go_simp
    go_at_call 66
    with_reducible refine HCALL.out.mono ?_
    rintro e wA ⟨csA,FA,rfl,hbA,hpA,hfrA,hfsA⟩
    obtain ⟨kvA,rfl,haA⟩:=(zAE _ _ _).1 hpA
    obtain ⟨A8,cap8,rfl,-,-⟩:=haA.form
    clear haA
    have HBu:=jj (HBk.out.trans (hbA.mono HBk.out.size))
    have HPA:=jj hpA
    have HFrA:=jj hfrA
    have HFsA:Hid (∀ b∈FA,wr.heap.size≤b∧b<wA.heap.size):=fun b hb=>⟨Nat.le_trans HBk.out.size (hfsA b hb).1,(hfsA b hb).2⟩
    have HOA:Hid (Own wA (w.heap.size+2+1) 28 6 PR (patTo v.ks i) (.slice kA (patTo v.ks i).length kcap) Fk):=HO.out.below (fun x cs G hk h=>PR_mono' _ _ x cs G hk h) HBu.out
    have hbs:w.heap.size+2+1≤wA.heap.size:=by have:=HBu.out.size;omega
    have hSA:wA.cell? ⟨w,2,none⟩=some (.slice (some ⟨b4,off4,none⟩) v.ks.length cap4)∧wA.cell? ⟨b4,off4+i*3,none⟩=v.ks[i].c∧wA.cell? ⟨b4,off4+i*3+1,none⟩=v.ks[i].n∧wA.cell? ⟨b4,off4+i*3+2,none⟩=some (.slice A7 v.ks[i].ks.length cap7):=⟨(hbA.cell (p:=⟨w,2,none⟩) vlt).trans y2,(hbA.cell (p:=⟨b4,off4+i*3,none⟩) hb7').trans k0,(hbA.cell (p:=⟨b4,off4+i*3+1,none⟩) hb7').trans k1,(hbA.cell (p:=⟨b4,off4+i*3+2,none⟩) hb7').trans k2⟩
    have zA:wA.cell? ⟨w.heap.size+2,5,none⟩=some (.slice kA (patTo v.ks i).length kcap):=(hbA.cell (p:=⟨w.heap.size+2,5,none⟩) hkT).trans zT
    have zfA:wA.frozen? ⟨w.heap.size+2,5,none⟩=false:=(hbA.frozen hkT).trans zfT
    have hkA:w.heap.size+2<wA.heap.size:=zz9 hkT hbA.size
    have kl0:w.heap.size<wA.heap.size:=zz9 vlt hbA.size
    have kl1:b4<wA.heap.size:=zz9 hb7' hbA.size
    have kl2:b4<wA.heap.size:=zz9 hb7' hbA.size
    have kl3:b4<wA.heap.size:=zz9 hb7' hbA.size
    have hSB:(wA.alloc (.cells [.int .i64 (patOf v.ks[i]).op,.int .i64 (patOf v.ks[i]).ct,.int .i64 (patOf v.ks[i]).n,.int .i64 (patOf v.ks[i]).m,.int .i64 (patOf v.ks[i]).va,.slice A8 (patOf v.ks[i]).ks.length cap8].toArray 28)).cell? ⟨w,2,none⟩=some (.slice (some ⟨b4,off4,none⟩) v.ks.length cap4)∧(wA.alloc (.cells [.int .i64 (patOf v.ks[i]).op,.int .i64 (patOf v.ks[i]).ct,.int .i64 (patOf v.ks[i]).n,.int .i64 (patOf v.ks[i]).m,.int .i64 (patOf v.ks[i]).va,.slice A8 (patOf v.ks[i]).ks.length cap8].toArray 28)).cell? ⟨b4,off4+i*3,none⟩=v.ks[i].c∧(wA.alloc (.cells [.int .i64 (patOf v.ks[i]).op,.int .i64 (patOf v.ks[i]).ct,.int .i64 (patOf v.ks[i]).n,.int .i64 (patOf v.ks[i]).m,.int .i64 (patOf v.ks[i]).va,.slice A8 (patOf v.ks[i]).ks.length cap8].toArray 28)).cell? ⟨b4,off4+i*3+1,none⟩=v.ks[i].n∧(wA.alloc (.cells [.int .i64 (patOf v.ks[i]).op,.int .i64 (patOf v.ks[i]).ct,.int .i64 (patOf v.ks[i]).n,.int .i64 (patOf v.ks[i]).m,.int .i64 (patOf v.ks[i]).va,.slice A8 (patOf v.ks[i]).ks.length cap8].toArray 28)).cell? ⟨b4,off4+i*3+2,none⟩=some (.slice A7 v.ks[i].ks.length cap7):=⟨(World.cell?_alloc_lt _ _ _ kl0).trans hSA.1,(World.cell?_alloc_lt _ _ _ kl1).trans hSA.2.1,(World.cell?_alloc_lt _ _ _ kl2).trans hSA.2.2.1,(World.cell?_alloc_lt _ _ _ kl3).trans hSA.2.2.2⟩
    dsimp only
    refine hK.out _ _ hSA (fun _=>zA) ?_
    clear hK K
    (try simp only [Act.put,zz4,zz5,zz6])
    refine w1 8 rfl fun K hK=>?_
    go_simp
    refine hK.out _ _ hSB (fun _=>(World.cell?_alloc_lt _ _ _ hkA).trans zA) ?_
    clear hK K
    (try simp only [Act.put,zz4,zz5,zz6])
    refine w1 9 rfl fun K hK=>?_
    refine zAB (P:=Tryz.prog) rfl _ _ 26 rfl i0 _ 64 Tryz.underlying26 HI.out HZ0.out HZ1.out HZ2.out rfl (by decide) PR_len' PR_mono' (by rfl) HOA.out (patOf v.ks[i]) 28 [.int .i64 (patOf v.ks[i]).op,.int .i64 (patOf v.ks[i]).ct,.int .i64 (patOf v.ks[i]).n,.int .i64 (patOf v.ks[i]).m,.int .i64 (patOf v.ks[i]).va,.slice A8 (patOf v.ks[i]).ks.length cap8] FA wA.heap.size (by rfl) rfl (by simp [Value.oneCell']) HPA.out (fun b hb=>(HFsA.out b hb).2) (fun g hg hG=>Nat.lt_irrefl _ (zz9 (HO.out.row g hg).2 (HFsA.out g hG).1)) hmx hby hbs ?_
    intro g cp w7 hown7 hgr7 hat7
    have hrow7:=HOA.out.row
    have n7:∀ x,(x<w.heap.size+2+1∨wr.heap.size≤x)→some x≠(Value.ownBlock (.slice kA (patTo v.ks i).length kcap)):=fun x hx e=>by
     have h1:=(hrow7 x (zA1.2 e.symm)).1
     have h2:=(HO.out.row x (zA1.2 e.symm)).2
     omega
    have l7:wA.heap.size≤(wA.alloc (.cells [.int .i64 (patOf v.ks[i]).op,.int .i64 (patOf v.ks[i]).ct,.int .i64 (patOf v.ks[i]).n,.int .i64 (patOf v.ks[i]).m,.int .i64 (patOf v.ks[i]).va,.slice A8 (patOf v.ks[i]).ks.length cap8].toArray 28)).heap.size:=by rw [World.size_alloc];exact Nat.le_succ _
    have s7:w7.cell? ⟨w,2,none⟩=some (.slice (some ⟨b4,off4,none⟩) v.ks.length cap4)∧w7.cell? ⟨b4,off4+i*3,none⟩=v.ks[i].c∧w7.cell? ⟨b4,off4+i*3+1,none⟩=v.ks[i].n∧w7.cell? ⟨b4,off4+i*3+2,none⟩=some (.slice A7 v.ks[i].ks.length cap7):=⟨(World.grownBy.cell_far hgr7 ⟨w,2,none⟩ (zz9 kl0 l7) (n7 (w.heap.size) (by omega))).trans hSB.1,(World.grownBy.cell_far hgr7 ⟨b4,off4+i*3,none⟩ (zz9 kl1 l7) (n7 (b4) (by omega))).trans hSB.2.1,(World.grownBy.cell_far hgr7 ⟨b4,off4+i*3+1,none⟩ (zz9 kl2 l7) (n7 (b4) (by omega))).trans hSB.2.2.1,(World.grownBy.cell_far hgr7 ⟨b4,off4+i*3+2,none⟩ (zz9 kl3 l7) (n7 (b4) (by omega))).trans hSB.2.2.2⟩
    have z71:w7.cell? ⟨w.heap.size+2,5,none⟩=some (.slice kA (patTo v.ks i).length kcap):=(World.grownBy.cell_far hgr7 ⟨w.heap.size+2,5,none⟩ (zz9 hkA l7) (n7 (w.heap.size+2) (by omega))).trans ((World.cell?_alloc_lt _ _ _ hkA).trans zA)
    have zf71:w7.frozen? ⟨w.heap.size+2,5,none⟩=false:=(World.grownBy.frozen_far hgr7 ⟨w.heap.size+2,5,none⟩ (zz9 hkA l7) (n7 (w.heap.size+2) (by omega))).trans (Eq.trans (World.frozen?_of_block (Below.heap_alloc _ _ _ hkA)) zfA)
    refine hK.out _ _ s7 (fun h=>by cases h) ?_
    clear hK K
    (try simp only [Act.put,zz4,zz5,zz6])
    refine wU (i:=10) (v:=?_) rfl (Or.inl ⟨by rfl,?hy10⟩) s7 (fun h=>by cases h) ?_
    case hy10=>(intro W hSw;(try dsimp only at hSw);(obtain ⟨s0,s1,s2,s3⟩:=hSw);go_simp;try with_reducible rfl)
    (try simp only [Act.put,zz4,zz5,zz6])
    refine w1 11 rfl fun K hK=>?_
    go_simp
    refine hK.out _ _ ⟨(World.cell?_setCell_far _ _ _ _ (by show w.heap.size+2≠w.heap.size;omega)).trans s7.1,(World.cell?_setCell_far _ _ _ _ (by show w.heap.size+2≠b4;omega)).trans s7.2.1,(World.cell?_setCell_far _ _ _ _ (by show w.heap.size+2≠b4;omega)).trans s7.2.2.1,(World.cell?_setCell_far _ _ _ _ (by show w.heap.size+2≠b4;omega)).trans s7.2.2.2⟩ (fun h=>by cases h) ?_
    clear hK K
    (try simp only [Act.put,zz4,zz5,zz6])
    refine wE (by kernel_rfl) ?_
    have HF2:=jj (patTo_succ v.ks i hil)
    obtain ⟨r1,r2,r3,r4,r5,r6,r7⟩:=kid_round 5 PR_mono' hs0 KD.out HO.out HFk.out HFh.out HC.out hB (by omega) (zz8 _) HBu.out HFrA.out HFsA.out hown7 hgr7
    have R1:=jj r1
    have R2:=jj r2
    have R3:=jj r3
    have R4:=jj r4
    have R5:=jj r5
    have R6:=jj r6
    clear r1 r2 r3 r4 r5 r6 hown7 hgr7 hat7 hrow7 n7 l7 s7 z71 zf71 hSA zA zfA hkA hSB hS1 hT1 zT zfT hkT HCALL
    go_wp2
    go_roundw
    case rel=>exact ⟨i+1,_,_,hil,by go_num,R1,by rw [HF2.out];exact R2.out,R3,R4,R5,R6.out,r7⟩
    case measure=>(simp [intOf] <;> omega)
   ·have HO2:=HO.out
    rw [patTo_all v.ks (by omega)] at HO2
    have hln:=congrArg List.length (patTo_all v.ks (i:=i) (by omega))
    obtain ⟨FF,hf1,hf2,hf3⟩:=kid_done (H:=w.heap.size+2+1) HO2 HFk.out HFh.out (zz8 _)
    have HF1:=jj hf1
    have HF2:=jj hf2
    have HF3:=jj hf3
    have e0:=(KD.out.cell 0).trans (show _=some (.int .i64 4) from by simp)
    have e1:=(KD.out.cell 1).trans (show _=some (.int .i64 v.c) from by simp)
    have e2:=(KD.out.cell 2).trans (show _=some (.int .i64 0) from by simp)
    have e3:=(KD.out.cell 3).trans (show _=some (.int .i64 0) from by simp)
    have e4:=(KD.out.cell 4).trans (show _=some (.int .i64 0) from by simp)
    have e5:=(KD.out.cell 5).trans (show _=some (.slice kA (patTo v.ks i).length kcap) from by simp)
    have HLN:=jj hln
    have RR:=jj (R0.out.same (HC.out.block _ R0.out.lt (by simp)))
    have rlt:=RR.out.lt
    have rc0:=(RR.out.cell 0).trans (show _=some (.int .i64 0) from by simp)
    have rf0:=RR.out.frozen 0
    have rc1:=(RR.out.cell 1).trans (show _=some (.int .i64 0) from by simp)
    have rf1:=RR.out.frozen 1
    have rc2:=(RR.out.cell 2).trans (show _=some (.int .i64 0) from by simp)
    have rf2:=RR.out.frozen 2
    have rc3:=(RR.out.cell 3).trans (show _=some (.int .i64 0) from by simp)
    have rf3:=RR.out.frozen 3
    have rc4:=(RR.out.cell 4).trans (show _=some (.int .i64 0) from by simp)
    have rf4:=RR.out.frozen 4
    have rc5:=(RR.out.cell 5).trans (show _=some (.slice none 0 0) from by simp)
    have rf5:=RR.out.frozen 5
    clear hf1 hf2 hf3 HO2 hln
    go_wp2
    clear e0 e1 e2 e3 e4 e5 rc0 rf0 rc1 rf1 rc2 rf2 rc3 rf3 rc4 rf4 rc5 rf5
    refine bodyPost_ret (zA2 rfl _ _ (w.heap.size+1) 28 #[(4:Int),v.c,(0:Int),(0:Int),(0:Int),.slice kA (patTo v.ks i).length kcap] (0,0) _ rfl (RR.out.six _ _ _ _ _ _) Tryz.underlying28 rfl rfl) rfl ?_
    have hkp:Kept FF wr _:=kept_six (w:=wr) (H:=w.heap.size+1) (fun b hb=>by have:=(HF3.out b hb).1;omega) (.int .i64 4) (.int .i64 v.c) (.int .i64 0) (.int .i64 0) (.int .i64 0) (.slice kA (patTo v.ks i).length kcap)
    refine ⟨[(4:Int),v.c,(0:Int),(0:Int),(0:Int),.slice kA (patTo v.ks i).length kcap],FF,rfl,below_six hB (by omega) _ _ _ _ _ _,?_,HF2.out.kept hkp,fun b hb=>⟨by have:=(HF3.out b hb).1;omega,?_⟩⟩
    ·rw [HP.out]
     exact (zAE _ _ _).2 ⟨_,rfl,ArrP.mono (by rw [HLN.out];exact HF1.out) hkp⟩
    ·rw [size_six];exact (HF3.out b hb).2
theorem spec_l3Of:∀ v,PatOfP 66 v:=V.indv spec_l3Of_of
def ByR (_:World) (x:Int) (cs:List Value) (F:List Nat):Prop:=cs=[.int .u8 x]∧F=[]∧0≤x∧x≤255
theorem ByR_len (w:World) (x:Int) (cs:List Value) (F:List Nat) (h:ByR w x cs F):cs.length=1:=by rw [h.1];rfl
theorem ArrBy.mono {w w':World} {vs:List Int} {x:Value} {F:List Nat} (h:Arr w (ByR w) vs x F) (hF:Kept F w w'):Arr w' (ByR w') vs x F:=h.mono hF fun v _ cs G _ h=>h
theorem ArrBy.at {w:World} {b off n cap:Nat} {F:List Nat} {xs:List Int} (h:Arr w (ByR w) xs (.slice (some ⟨b,off,none⟩) n cap) F) (hF:Under w F) (i:Nat) (hi:i<xs.length) :
  b<w.heap.size∧b∈F∧w.cell? ⟨b,off+i,none⟩=some (.int .u8 xs[i])∧0≤xs[i]∧xs[i]≤255:=by
 obtain ⟨b',off',cs,G,e,hb,hcs,hv,hG⟩:=h.get (ByR_len w) hi
 cases e
 obtain ⟨rfl,-,h0,h1⟩:=hv
 have:=hcs 0 _ rfl
 simp only [Nat.mul_one,Nat.add_zero] at this
 exact ⟨hF _ hb,hb,this,h0,h1⟩
theorem Arr.take {α:Type} {w:World} {R:α→List Value→List Nat→Prop} {xs:List α} {A:Option Addr} {n cap:Nat} {F:List Nat} (h:Arr w R xs (.slice A n cap) F) (m:Nat) (hm:m≤xs.length) (hm0:0<m):∃ G,Arr w R (xs.take m) (.slice A m cap) G∧∀ b∈G,b∈F:=by
 obtain ⟨A',cap',hv,h1,h2,h3⟩:=h
 cases hv
 have hl:(xs.take m).length=m:=by rw [List.length_take];omega
 rcases h3 with ⟨rfl,-⟩ | ⟨b,off,cs,G,rfl,hc,hf,rfl⟩
 ·simp at hm;omega
 ·have hxs:xs=xs.take m ++ xs.drop m:=(List.take_append_drop m xs).symm
  rw [hxs] at hf
  obtain ⟨c1,c2,F1,F2,rfl,rfl,g1,g2⟩:=Flat.split (xs.take m) hf
  exact ⟨b :: F1,⟨_,cap,by rw [hl],by rw [hl];omega,h2,.inr ⟨b,off,c1,F1,rfl,hc.left,g1,rfl⟩⟩,fun x hx=>by
   rcases List.mem_cons.1 hx with h | h
   ·simp [h]
   ·simp [h]⟩
def Rd (w:World) (g p:Nat):Prop:=∃ A cap bs F,Blk w g 126 #[.slice A bs.length cap,(p:Int)]∧Arr w (ByR w) bs (.slice A bs.length cap) F∧Under g F∧bs.length≤2000
theorem Rd.lt {w:World} {g p:Nat} (h:Rd w g p):g<w.heap.size:=by obtain ⟨A,cap,bs,F,h1,-⟩:=h;exact h1.lt
theorem Rd.below {w w':World} {g p:Nat} (h:Rd w g p) (hb:Below w w w'):Rd w' g p:=by
 obtain ⟨A,cap,bs,F,h1,h2,h3,h5⟩:=h
 exact ⟨A,cap,bs,F,h1.same (hb.block _ h1.lt),ArrBy.mono h2 (.of_below hb (h3.mono (Nat.le_of_lt h1.lt))),h3,h5⟩
theorem Rd.set {w:World} {g p b j:Nat} {u:Value} (h:Rd w g p) (hb:g<b):Rd (w.setCell ⟨b,j,none⟩ u) g p:=by
 obtain ⟨A,cap,bs,F,h1,h2,h3,h5⟩:=h
 exact ⟨A,cap,bs,F,h1.same (zz7 _ _ _ _ (by show g≠b;omega)),ArrBy.mono h2 (fun c hc=>zz7 _ _ _ _ (by have:=h3 c hc;show c≠b;omega)),h3,h5⟩
theorem Rd.drew {w:World} {g p:Nat} (h:Rd w g p):Rd w.drew g p:=h
theorem Rd.drewN {w:World} {g p:Nat} (h:Rd w g p) (n:Nat):Rd (w.drewN n) g p:=h
theorem i64_xor_nat (a b:Nat) (ha:a<9223372036854775808) (hb:b<9223372036854775808):bits .xor .i64 (a:Int) (b:Int)=((a ^^^ b:Nat):Int):=by
 have hx:a ^^^ b<2 ^ 63:=Nat.xor_lt_two_pow (by omega) (by omega)
 show IntKind.i64.wrap ((BitVec.ofInt 64 (a:Int) ^^^ BitVec.ofInt 64 (b:Int)).toNat:Int)=_
 rw [BitVec.toNat_xor,ofInt_u64 a (by omega),ofInt_u64 b (by omega)]
 exact IntWalk.i64_in _ (by omega)
theorem zBB (n p g:Nat) (w:World) (h:Rd w g p) (hp:p≤1000000) (hn:1≤n) (hn2:n≤1000000) :
  Calls Tryz.prog 61 #[.pointer (some ⟨g,0,none⟩),(n:Int)] w fun e w'=>∃ r:Nat,e=.returned (.int .i64 (r:Int))∧r<n∧Rd w' g (p+1)∧Chg [g] w w':=by
 obtain ⟨A,cap,bs,F,hk,ha,hu,hbl⟩:=h
 have hf:Under w F:=hu.mono (Nat.le_of_lt hk.lt)
 have hg:g∉F:=fun h=>Nat.lt_irrefl _ (hu g h)
 have HU:=jj hu
 clear hu
 have c0:w.cell? ⟨g,0,none⟩=some (.slice A bs.length cap):=(hk.cell 0).trans (by simp)
 have c1:w.cell? ⟨g,1,none⟩=(p:Int):=(hk.cell 1).trans (by simp)
 have f1:=hk.frozen 1
 have hlt:=hk.lt
 have HK:=jj hk
 have HA:=jj ha
 have HF:=jj hf
 have HG:=jj hg
 clear hk ha hf hg
 have t0:decide ((n:Int)<1)=false:=decide_eq_false (by omega)
 have KR:Blk (w.setCell ⟨g,1,none⟩ (.int .i64 ((p:Int)+1))) g 126 #[.slice A bs.length cap,.int .i64 ((p:Int)+1)]:=HK.out.set_ 1 _
 have hCG:Chg [g] w (w.setCell ⟨g,1,none⟩ (.int .i64 ((p:Int)+1))):=(Chg.refl _ _).set (by simp)
 have hRd:Hid (Rd (w.setCell ⟨g,1,none⟩ (.int .i64 ((p:Int)+1))) g (p+1)):=⟨A,cap,bs,F,KR,ArrBy.mono HA.out (hCG.kept HF.out (fun b hb=>by simp;intro e;exact HG.out (e▸hb))),HU.out,hbl⟩
 have HCG:=jj hCG
 clear KR hCG
 by_cases hb0:bs.length=0
 ·have t1:((bs.length:Int)==0)=true:=beq_iff_eq.2 (by omega)
  go_enter Tryz.func61,Tryz.ntmps61
  go_wp2
  go_ret
  exact ⟨0,rfl,by omega,hRd.out,HCG.out⟩
 ·have t1:((bs.length:Int)==0)=false:=by rw [beq_eq_false_iff_ne];omega
  obtain ⟨b,off,rfl⟩:=HA.out.ptr (by omega)
  by_cases hpl:p<bs.length
  ·have t2:decide ((p:Int)<(bs.length:Int))=true:=decide_eq_true (by omega)
   have g1:(0:Int)≤(p:Int):=by omega
   obtain ⟨hbw,hbF,x0,hx0,hx1⟩:=ArrBy.at HA.out HF.out p hpl
   have hbg:g≠b:=fun e=>HG.out (e▸hbF)
   generalize hX:bs[p]=X at *
   obtain ⟨Xn,rfl⟩:=Int.eq_ofNat_of_zero_le hx0
   have hw1:IntKind.i64.wrap (Xn:Int)=(Xn:Int):=IntWalk.i64_in _ (by omega)
   clear hX
   go_enter Tryz.func61,Tryz.ntmps61
   go_wp2
   go_ret
   exact ⟨Xn % n,rfl,Nat.mod_lt _ (by omega),hRd.out,HCG.out⟩
  ·have t2:decide ((p:Int)<(bs.length:Int))=false:=decide_eq_false (by omega)
   obtain ⟨q1,hq1⟩:∃ q,q=p % bs.length:=⟨_,rfl⟩
   obtain ⟨q2,hq2⟩:∃ q,q=(p*7+3) % bs.length:=⟨_,rfl⟩
   obtain ⟨q3,hq3⟩:∃ q,q=p / bs.length:=⟨_,rfl⟩
   have l1:q1<bs.length:=by rw [hq1];exact Nat.mod_lt _ (by omega)
   have l2:q2<bs.length:=by rw [hq2];exact Nat.mod_lt _ (by omega)
   have l3:q3≤1000000:=by rw [hq3];exact Nat.le_trans (Nat.div_le_self _ _) hp
   obtain ⟨hbw,hbF,x1,hx0,hx1⟩:=ArrBy.at HA.out HF.out q1 l1
   obtain ⟨-,-,x2,hy0,hy1⟩:=ArrBy.at HA.out HF.out q2 l2
   have hbg:g≠b:=fun e=>HG.out (e▸hbF)
   generalize hX:bs[q1]=X at *
   generalize hY:bs[q2]=Y at *
   obtain ⟨Xn,rfl⟩:=Int.eq_ofNat_of_zero_le hx0
   obtain ⟨Yn,rfl⟩:=Int.eq_ofNat_of_zero_le hy0
   have m1:(p:Int).tmod (bs.length:Int)=(q1:Int):=by rw [Int.tmod_eq_emod_of_nonneg (by omega),hq1];rfl
   have m1':(p:Int) % (bs.length:Int)=(q1:Int):=by rw [hq1];rfl
   have m2:((p:Int)*7+3).tmod (bs.length:Int)=(q2:Int):=by rw [Int.tmod_eq_emod_of_nonneg (by omega),hq2];push_cast;rfl
   have m2':((p:Int)*7+3) % (bs.length:Int)=(q2:Int):=by rw [hq2];push_cast;rfl
   have m3:(p:Int).tdiv (bs.length:Int)=(q3:Int):=by rw [hq3];rfl
   have m3':(p:Int) / (bs.length:Int)=(q3:Int):=by rw [hq3];rfl
   have n1:(0:Int)≤(q1:Int):=by omega
   have n2:(q1:Int)<(bs.length:Int):=by omega
   have n3:(0:Int)≤(q2:Int):=by omega
   have n4:(q2:Int)<(bs.length:Int):=by omega
   have n5:(bs.length:Int)≠0:=by omega
   have a1:IntKind.i64.wrap ((Xn:Int)*131)=(Xn:Int)*131:=IntWalk.i64_in _ (by omega)
   have a2:IntKind.i64.wrap ((p:Int)*7)=(p:Int)*7:=IntWalk.i64_in _ (by omega)
   have a3:IntKind.i64.wrap ((p:Int)*7+3)=(p:Int)*7+3:=IntWalk.i64_in _ (by omega)
   have a4:IntKind.i64.wrap ((Yn:Int)*1117)=(Yn:Int)*1117:=IntWalk.i64_in _ (by omega)
   have a5:IntKind.i64.wrap ((Xn:Int)*131+(Yn:Int)*1117)=(Xn:Int)*131+(Yn:Int)*1117:=IntWalk.i64_in _ (by omega)
   have a6:IntKind.i64.wrap ((p:Int)*29)=(p:Int)*29:=IntWalk.i64_in _ (by omega)
   have a7:IntKind.i64.wrap ((Xn:Int)*131+(Yn:Int)*1117+(p:Int)*29)=(Xn:Int)*131+(Yn:Int)*1117+(p:Int)*29:=IntWalk.i64_in _ (by omega)
   have a8:IntKind.i64.wrap (q3:Int)=(q3:Int):=IntWalk.i64_in _ (by omega)
   have a9:IntKind.i64.wrap ((q3:Int)*53)=(q3:Int)*53:=IntWalk.i64_in _ (by omega)
   have aa:IntKind.i64.wrap ((Xn:Int)*131+(Yn:Int)*1117+(p:Int)*29+(q3:Int)*53)=(Xn:Int)*131+(Yn:Int)*1117+(p:Int)*29+(q3:Int)*53:=IntWalk.i64_in _ (by omega)
   have ab:IntKind.i64.wrap (Xn:Int)=(Xn:Int):=IntWalk.i64_in _ (by omega)
   have ac:IntKind.i64.wrap (Yn:Int)=(Yn:Int):=IntWalk.i64_in _ (by omega)
   obtain ⟨T,hT⟩:∃ T:Nat,(Xn:Int)*131+(Yn:Int)*1117+(p:Int)*29+(q3:Int)*53=(T:Int):=⟨Xn*131+Yn*1117+p*29+q3*53,by push_cast;rfl⟩
   have hTl:T≤1000000000:=by omega
   have hd:(T:Int).tdiv 64=((T / 64:Nat):Int):=rfl
   have hd':(T:Int) / 64=((T / 64:Nat):Int):=rfl
   have hxr:=i64_xor_nat T (T / 64) (by omega) (by omega)
   have hxw:IntKind.i64.wrap ((T / 64:Nat):Int)=((T / 64:Nat):Int):=IntWalk.i64_in _ (by omega)
   clear hX hY hq1 hq2 hq3 hb0
   go_enter Tryz.func61,Tryz.ntmps61
   go_wp2_with fail
   have hxr2:bits .xor .i64 (T:Int) ((T:Int) / 64)=((T ^^^ (T / 64):Nat):Int):=hxr
   have hXl:T ^^^ (T / 64)<2 ^ 40:=Nat.xor_lt_two_pow (by omega) (by omega)
   generalize hXe:T ^^^ (T / 64)=X at hxr hxr2 hXl
   have hXm:(X:Int).tmod (n:Int)=((X % n:Nat):Int):=rfl
   have hXw:IntKind.i64.wrap (X:Int)=(X:Int):=IntWalk.i64_in _ (by omega)
   clear hXe hxr hd hd' hxw
   go_quiet (fail)
   clear x1 x2 m1 m1' m2 m2' m3 m3' n1 n2 n3 n4 n5 a1 a2 a3 a4 a5 a6 a7 a8 a9 aa ab ac
   go_wp2
   go_ret
   exact ⟨X % n,rfl,Nat.mod_lt _ (by omega),hRd.out.drewN _,HCG.out.drewN _⟩
theorem spec_l17Open (bs:List Int) (w:World) (v:Value) (F:List Nat) (hx:Arr w (ByR w) bs v F) (hf:Under w F) :
  Calls Tryz.prog 58 #[v] w fun e w'=>∃ g:Nat,e=.returned (.pointer (some ⟨g,0,none⟩))∧w.heap.size≤g∧Below w w w'∧Rd w' g 0:=by
 obtain ⟨A,cap,rfl,hc1,hc2⟩:=hx.form
 have hbl:∀ (A:Option Addr) (cap:Nat) (bs:List Int) (F:List Nat),Arr w (ByR w) bs (.slice A bs.length cap) F→Under w F→bs.length≤2000→Rd (w.alloc (.cells #[.slice A bs.length cap,(0:Int)] 126)) w.heap.size 0:=fun A cap bs F h1 h2 h3 =>
  ⟨A,cap,bs,F,Blk.new _ _ _,ArrBy.mono h1 (.of_below ((zy2 _ _).alloc (zz8 _) _) h2),h2,h3⟩
 have HBL:=jj hbl
 have HX:=jj hx
 have HF:=jj hf
 clear hx hf
 clear hbl
 by_cases hl:2000<bs.length
 ·have t0:decide ((bs.length:Int)>2000)=true:=decide_eq_true (by omega)
  obtain ⟨b,off,rfl⟩:=HX.out.ptr (by omega)
  obtain ⟨G,hG,hGF⟩:=HX.out.take 2000 (by omega) (by omega)
  have hlt:(bs.take 2000).length=2000:=by rw [List.length_take];omega
  have hr:=HBL.out (some ⟨b,off,none⟩) cap (bs.take 2000) G (by rw [hlt];exact hG) (HF.out.sub hGF) (by rw [hlt];exact zz8 _)
  rw [hlt] at hr
  have HRD:=jj hr
  have g1:(2000:Int)≤(bs.length:Int):=by omega
  have g2:2000≤cap:=by omega
  clear hr hG hlt
  go_enter Tryz.func58,Tryz.ntmps58
  go_wp2
  go_ret
  exact ⟨w.heap.size,rfl,zz8 _,(zy2 _ _).alloc (zz8 _) _,HRD.out⟩
 ·have t0:decide ((bs.length:Int)>2000)=false:=decide_eq_false (by omega)
  have HRD:=jj (HBL.out _ _ _ F HX.out HF.out (by omega))
  go_enter Tryz.func58,Tryz.ntmps58
  go_wp2
  go_ret
  exact ⟨w.heap.size,rfl,zz8 _,(zy2 _ _).alloc (zz8 _) _,HRD.out⟩
def bs (l:List UInt8):ByteArray:=⟨l.toArray⟩
theorem bs_toList (l:List UInt8):(bs l).data.toList=l:=rfl
theorem bs_size (l:List UInt8):(bs l).size=l.length:=rfl
def cutGo (c:UInt8):List UInt8→List UInt8→List (List UInt8)
 |cur,[]=>[cur]
 |cur,x :: xs=>if x=c then cur :: cutGo c [] xs else cutGo c (cur ++ [x]) xs
def cutL (c:UInt8) (l:List UInt8):List (List UInt8):=cutGo c [] l
def findGo (s:List UInt8):Nat→List (List UInt8)→Int
 |_,[] => -2
 |i,x :: xs=>if x=s then (i:Int) else findGo s (i+1) xs
def findL (names:List (List UInt8)) (s:List UInt8):Int:=if s=[73] then -1 else findGo s 0 names
def idxOf (rest:List UInt8):Int:=if rest=[42] then -1 else match rest with
  |[x]=>if 48≤x.toNat∧x.toNat≤57 then (x.toNat:Int)-48 else 0
  |_=>0
def parseTy (names:List (List UInt8)):List UInt8→Ty
 |[]=>⟨-2,0⟩
 |c :: rest=>⟨findL names [c],idxOf rest⟩
def headL (l:List (List UInt8)):List UInt8:=match l with | []=>[] | x :: _=>x
def parseArgs (names:List (List UInt8)) (parts:List (List UInt8)):List Ty :=
 match parts with
 |_ :: p :: _=>if p=[] then [] else ((cutL 44 (p.take (p.length-1))).take 4).map (parseTy names)
 |_=>[]
def parseBody (names:List (List UInt8)) (idx:Int) (s:List UInt8):Kt:=⟨bs (headL (cutL 40 s)),parseArgs names (cutL 40 s),idx⟩
def hasIdx (s:List UInt8):Bool:=decide (2<s.length) && decide (s.getD (s.length-2) 0=58)
def parseKt (names:List (List UInt8)) (s:List UInt8):Kt :=
 if hasIdx s=true then parseBody names (((s.getD (s.length-1) 0).toNat:Int)-48) (s.take (s.length-2)) else parseBody names 0 s
def parseDt (names:List (List UInt8)) (name:List UInt8) (rest:List UInt8):Dt:=⟨bs name,((cutL 124 rest).take 5).map (parseKt names)⟩
def splitGo:List (List UInt8)→Option (List (List UInt8×List UInt8))
 |[]=>some []
 |l :: ls=>match cutL 61 l with
  |[a,b]=>match splitGo ls with
   |some r=>some ((a,b) :: r)
   |none=>none
  |_=>none
def parseGo (text:List UInt8):Option (List Dt) :=
 if text=[] then some [] else
 match splitGo ((cutL 59 text).take 5) with
 |none=>none
 |some r=>some (r.map fun p=>parseDt (r.map Prod.fst) p.1 p.2)
def digT (i:Int):List UInt8:=[UInt8.ofNat (48+i.toNat)]
def idxT (i:Int):List UInt8:=if i=0 then [] else if i = -1 then [42] else digT i
def nameAt (xs:List Dt) (d:Int):List UInt8:=match xs[d.toNat]? with | some x=>x.name.data.toList | none=>[]
def tyT (xs:List Dt) (t:Ty):List UInt8:=if t.d = -1 then [73] else nameAt xs t.d ++ idxT t.i
def argsT (xs:List Dt):Bool→List Ty→List UInt8
 |_,[]=>[]
 |b,a :: l=>(if b=true then 40 else 44) :: (tyT xs a ++ argsT xs false l)
def endT (c:Kt):List UInt8:=if 0<c.idx then 58 :: digT c.idx else []
def closeT (c:Kt):List UInt8:=if 0<c.args.length then [41] else []
def ktT (xs:List Dt) (c:Kt):List UInt8:=c.name.data.toList ++ (argsT xs true c.args ++ (closeT c ++ endT c))
def ktsT (xs:List Dt):Bool→List Kt→List UInt8
 |_,[]=>[]
 |b,c :: l=>(if b=true then [] else [124]) ++ (ktT xs c ++ ktsT xs false l)
def dtsT (xs:List Dt):Bool→List Dt→List UInt8
 |_,[]=>[]
 |b,x :: l=>(if b=true then [] else [59]) ++ (x.name.data.toList ++ (61 :: (ktsT xs true x.ctors ++ dtsT xs false l)))
def textT (xs:List Dt):List UInt8:=dtsT xs true xs
def parseW (text:List UInt8):Option (List Dt):=match parseGo text with
 |none=>none
 |some xs=>if worldOk xs=true then if textT xs=text then some xs else none else none
def fineW (text:List UInt8):Bool:=match parseW text with
 |some (_ :: _)=>true
 |_=>false
theorem fineW_ex {text:List UInt8} (h:fineW text=true):∃ xs,parseW text=some xs∧worldOk xs=true∧0<xs.length:=by
 unfold fineW at h
 split at h
 ·rename_i x l e
  refine ⟨_,e,?_,by simp⟩
  unfold parseW at e
  split at e
  ·cases e
  ·split at e
   ·rename_i hw
    split at e
    ·cases e;exact hw
    ·cases e
   ·cases e
 ·cases h
def sevenT:List (List UInt8):=[
 [76,61,78,105,108,124,67,111,110,115,40,73,44,76,41],
 [66,61,84,114,117,124,70,108,115,59,84,61,76,101,97,102,124,78,111,100,101,40,84,44,66,44,84,41],
 [69,61,78,117,109,40,73,41,58,49,124,66,111,108,40,66,41,58,50,124,65,100,100,40,69,49,44,69,49,41,58,49,124,73,102,40,69,50,44,69,42,44,69,42,41,59,66,61,84,114,117,124,70,108,115],
 [79,61,78,111,110,124,83,111,109,40,73,41,59,80,61,80,97,105,114,40,79,44,79,41],
 [86,61,69,110,100,58,49,124,83,111,109,101,40,73,44,86,49,41,58,50,124,84,119,111,40,86,42,41],
 [78,61,78,101,118,101,114,40,78,41,59,66,61,84,114,117,124,70,108,115,124,77,97,121,40,78,41],
 [83,61,82,101,100,124,71,114,101,101,110,124,66,108,117,101,124,77,105,120,40,83,44,83,41]]
theorem sevenT_fine:sevenT.all fineW=true:=by decide +kernel
def tl (s:ByteArray):List UInt8:=s.data.toList
theorem zAR (s:ByteArray):(tl s).length=s.size:=by unfold tl;simp
theorem tl_extract (s:ByteArray) (a b:Nat):tl (s.extract a b)=((tl s).take b).drop a:=by
 unfold tl
 rw [ByteArray.data_extract,Array.toList_extract,List.extract_eq_take_drop,List.drop_take]
theorem tl_at (s:ByteArray) (i:Nat) (h:i<s.size):(tl s)[i]'(by rw [zAR];exact h)=s[i]:=rfl
theorem bs_tl (s:ByteArray):bs (tl s)=s:=rfl
theorem tl_bs (l:List UInt8):tl (bs l)=l:=rfl
theorem tl_inj {a b:ByteArray} (h:tl a=tl b):a=b:=by rw [←bs_tl a,←bs_tl b,h]
def cutS (c:UInt8) (s:ByteArray):List ByteArray:=(cutL c (tl s)).map bs
theorem info_strE:(Tryz.prog.info? 9).map (fun i=>(i.zero,i.size,i.bytes))=some (some (.string ⟨#[]⟩),1,16):=by kernel_rfl
def cutRest (c:UInt8) (s:ByteArray) (frm i:Nat):List ByteArray:=if i≤s.size then (cutGo c (((tl s).take i).drop frm) ((tl s).drop i)).map bs else []
theorem cutRest_start (c:UInt8) (s:ByteArray):cutRest c s 0 0=cutS c s:=by
 unfold cutRest cutS cutL
 rw [if_pos (Nat.zero_le _)]
 rfl
theorem cutRest_end (c:UInt8) (s:ByteArray) (frm:Nat):cutRest c s frm s.size=s.extract frm s.size :: cutRest c s (s.size+1) (s.size+1):=by
 unfold cutRest
 have hd:(tl s).drop s.size=[]:=List.drop_of_length_le (by rw [zAR];exact zz8 _)
 rw [if_pos (zz8 _),if_neg (by omega),hd,cutGo,List.map_cons,List.map_nil,←tl_extract,bs_tl]
theorem cutRest_hit (c:UInt8) (s:ByteArray) (frm i:Nat) (hi:i<s.size) (h:s[i]=c):cutRest c s frm i=s.extract frm i :: cutRest c s (i+1) (i+1):=by
 unfold cutRest
 rw [if_pos (by omega),if_pos (by omega),List.drop_eq_getElem_cons (i:=i) (by rw [zAR];exact hi),cutGo,if_pos (by rw [tl_at s i hi];exact h),List.map_cons,←tl_extract,bs_tl]
 congr 3
 rw [List.drop_of_length_le (by simp;omega)]
theorem cutRest_miss (c:UInt8) (s:ByteArray) (frm i:Nat) (hi:i<s.size) (hf:frm≤i) (h:s[i]≠c):cutRest c s frm i=cutRest c s frm (i+1):=by
 unfold cutRest
 rw [if_pos (by omega),if_pos (by omega),List.drop_eq_getElem_cons (i:=i) (by rw [zAR];exact hi),cutGo,if_neg (by rw [tl_at s i hi];exact h)]
 congr 3
 rw [List.take_succ_eq_append_getElem (by rw [zAR];exact hi),List.drop_append_of_le_length (by rw [List.length_take,zAR];omega)]
theorem cutRest_over (c:UInt8) (s:ByteArray) (frm:Nat) {i:Nat} (h:s.size<i):cutRest c s frm i=[]:=if_neg (by omega)
theorem cutRest_len (c:UInt8) (s:ByteArray) (frm i:Nat):(cutRest c s frm i).length≤s.size+1-i:=by
 have key:∀ (l cur:List UInt8),(cutGo c cur l).length≤l.length+1:=by
  intro l
  induction l with
  |nil=>intro cur;simp [cutGo]
  |cons x xs ih =>
   intro cur
   rw [cutGo]
   split
   ·have:=ih [];simp;omega
   ·have:=ih (cur ++ [x]);simp;omega
 unfold cutRest
 split
 ·rw [List.length_map]
  have:=key ((tl s).drop i) (((tl s).take i).drop frm)
  rw [List.length_drop,zAR] at this
  omega
 ·simp
theorem cutS_len (c:UInt8) (s:ByteArray):(cutS c s).length≤s.size+1:=by rw [←cutRest_start];exact cutRest_len c s 0 0
theorem cutS_mem (c:UInt8) (s:ByteArray):∀ x∈cutS c s,x.size≤s.size:=by
 have key:∀ (l cur:List UInt8),∀ x∈cutGo c cur l,x.length≤cur.length+l.length:=by
  intro l
  induction l with
  |nil=>intro cur x hx;rw [cutGo,zy1] at hx;subst hx;simp
  |cons y ys ih =>
   intro cur x hx
   rw [cutGo] at hx
   split at hx
   ·rcases List.mem_cons.1 hx with rfl | hx
    ·omega
    ·have:=ih [] x hx;simp at this ⊢;omega
   ·have:=ih _ x hx;simp at this ⊢;omega
 intro x hx
 unfold cutS at hx
 obtain ⟨l,hl,rfl⟩:=List.mem_map.1 hx
 have:=key _ _ l hl
 rw [zAR] at this
 rw [bs_size]
 simpa using this
def MadeStrs (w:World) (xs:List ByteArray) (e:Ending) (w':World):Prop:=MadeArr StrR w xs e w'
theorem Own.strs {w0 w:World} {B:Nat} {E:TypeId} {xs:List ByteArray} {v:Value} (h:Own w B E 1 StrR xs v []) (hb:Below w0 w0 w) (hB:w0.heap.size≤B):MadeStrs w0 xs (.returned v) w :=
 h.gives hb hB (fun b hb=>by cases hb) (Free.nil _)
theorem ArrStr.at {w0 w:World} {b off n cap:Nat} {F:List Nat} {xs:List ByteArray} (h:Arr w0 (StrR w0) xs (.slice (some ⟨b,off,none⟩) n cap) F) (hF:Under w0 F) (hB:Below w0 w0 w) (i:Nat) (hi:i<xs.length) :
  b<w.heap.size∧w.cell? ⟨b,off+i,none⟩=some (.string xs[i]):=by
 obtain ⟨b',off',cs,G,e,hb,hcs,hv,hG⟩:=h.get (zAH w0) hi
 cases e
 have hbl:=hF _ hb
 have hc:=hcs.same (hB.block _ hbl)
 obtain ⟨rfl,-⟩:=hv
 have:=hc 0 _ rfl
 simp only [Nat.mul_one,Nat.add_zero] at this
 exact ⟨zz9 hbl hB.size,this⟩
theorem ArrStr.mono {w w':World} {vs:List ByteArray} {x:Value} {F:List Nat} (h:Arr w (StrR w) vs x F) (hF:Kept F w w'):Arr w' (StrR w') vs x F:=h.mono hF fun v _ cs G hk h=>zA7 _ _ v cs G hk h
theorem ArrStr.below {w w':World} {B:Nat} {vs:List ByteArray} {x:Value} {F:List Nat} (h:Arr w (StrR w) vs x F) (hb:Below B w w') (hF:Under B F):Arr w' (StrR w') vs x F:=ArrStr.mono h (.of_below hb hF)
theorem zAM (s:ByteArray) (c:UInt8) (hs:s.size≤1000000) (w:World) :
  Calls Tryz.prog 36 #[.string s,.int .u8 (c.toNat:Int)] w (MadeStrs w (cutS c s)):=by
 obtain ⟨i0,hi,hz0,hz1,hz2⟩:=info_parts info_strE
 have HI:=jj hi
 have HZ0:=jj hz0
 have HZ1:=jj hz1
 have HZ2:=jj hz2
 clear hi hz0 hz1 hz2
 have HO0:Hid (Own (w.alloc (.cells #[] 9)) w.heap.size 9 1 StrR ([]:List ByteArray) (.slice (some ⟨w,0,none⟩) 0 0) []):=Own.made w w.heap.size 9 1 StrR #[] 0 (zz8 _) (by simp [maxLen]) rfl
 have hB0:Below w w (w.alloc (.cells #[] 9)):=(zy2 _ _).alloc (zz8 _) _
 go_enter Tryz.func36,Tryz.ntmps36
 go_wp2
 go_loopw [5,6,7] (fun ov fv iv wr=>∃ frm i:Nat,∃ outs:List ByteArray,frm≤i∧i≤s.size+1∧iv=.int .i64 i∧fv=.int .i64 frm∧Hid (cutS c s=outs ++ cutRest c s frm i)∧Hid (Own wr w.heap.size 9 1 StrR outs ov [])∧Below w w wr∧outs.length≤i∧True) (fun _ _ iv _=>s.size+1-(intOf iv).toNat)
 case atStart=>exact ⟨0,0,[],zz8 _,Nat.zero_le _,rfl,rfl,(by rw [cutRest_start];rfl),HO0,hB0,zz8 _,trivial⟩
 case round =>
  clear hB0 HO0
  obtain ⟨frm,i,outs,hfi,his,rfl,rfl,HC,HO,hB,hol,-⟩:=hrel
  have g1:(0:Int)≤(i:Int):=by omega
  have g0:(0:Int)≤(frm:Int):=by omega
  by_cases hil:i≤s.size
  ·have hB1:=hB
   have HO1:=HO
   have hbs:=hB.size
   by_cases hie:i=s.size
   ·subst hie
    have q0:((s.size:Int)==(s.size:Int))=true:=by simp
    have HF:Hid (cutS c s=(outs ++ [s.extract frm s.size]) ++ cutRest c s (s.size+1) (s.size+1)):=by
     have:=HC.out
     rw [cutRest_end] at this
     rw [List.append_assoc];exact this
    go_wp2_with (at_builtin;refine Halt.mk ?_)
    refine Halt.of (zA5 (P:=Tryz.prog) rfl _ _ 60 rfl i0 _ 16 Tryz.underlying60 HI.out HZ0.out HZ1.out HZ2.out rfl Nat.zero_lt_one zAH zA7 (by rfl) HO1.out (s.extract frm s.size) 9 [.string (s.extract frm s.size)] [] _ (by rfl) (by simp) (by simp [Value.oneCell']) ⟨rfl,rfl⟩ (Under.nil _) (fun _ _ h=>by cases h) (by unfold maxLen;omega) (by omega) hbs ?_)
    intro g cp w3 hown3 hgr3 hat3
    have hrow:=HO1.out.row
    have hB3:Below w w w3:=(hB1.alloc hB1.size _).grown hgr3 (by have:=hB1.size;simp;omega) (fun g hg=>by have:=hrow g (zA1.2 hg);omega)
    have HO3:=jj hown3
    clear hown3 hgr3 hat3 hrow
    go_wp2
    go_roundw
    case rel=>exact ⟨s.size+1,s.size+1,outs ++ [s.extract frm s.size],by omega,by omega,by go_num,by go_num,HF,HO3,hB3,(by simp;omega),trivial⟩
    case measure=>(simp [intOf] <;> omega)
   ·have hlt:i<s.size:=by omega
    have q0:((i:Int)==(s.size:Int))=false:=by rw [beq_eq_false_iff_ne];omega
    have g2:(i:Int)<(s.size:Int):=by omega
    cases q1:((s[i].toNat:Int)==(c.toNat:Int)) with
    |true =>
     have hc:s[i]=c:=by rw [beq_iff_eq] at q1;exact UInt8.toNat_inj.1 (by omega)
     have HF:Hid (cutS c s=(outs ++ [s.extract frm i]) ++ cutRest c s (i+1) (i+1)):=by
      have:=HC.out
      rw [cutRest_hit c s frm i hlt hc] at this
      rw [List.append_assoc];exact this
     clear hc
     go_wp2_with (at_builtin;refine Halt.mk ?_)
     refine Halt.of (zA5 (P:=Tryz.prog) rfl _ _ 60 rfl i0 _ 16 Tryz.underlying60 HI.out HZ0.out HZ1.out HZ2.out rfl Nat.zero_lt_one zAH zA7 (by rfl) HO1.out (s.extract frm i) 9 [.string (s.extract frm i)] [] _ (by rfl) (by simp) (by simp [Value.oneCell']) ⟨rfl,rfl⟩ (Under.nil _) (fun _ _ h=>by cases h) (by unfold maxLen;omega) (by omega) hbs ?_)
     intro g cp w3 hown3 hgr3 hat3
     have hrow:=HO1.out.row
     have hB3:Below w w w3:=(hB1.alloc hB1.size _).grown hgr3 (by have:=hB1.size;simp;omega) (fun g hg=>by have:=hrow g (zA1.2 hg);omega)
     have HO3:=jj hown3
     clear hown3 hgr3 hat3 hrow
     go_wp2
     go_roundw
     case rel=>exact ⟨i+1,i+1,outs ++ [s.extract frm i],by omega,by omega,by go_num,by go_num,HF,HO3,hB3,(by simp;omega),trivial⟩
     case measure=>(simp [intOf] <;> omega)
    |false =>
     have hc:s[i]≠c:=fun e=>by rw [e] at q1;simp at q1
     have HF:Hid (cutS c s=outs ++ cutRest c s frm (i+1)):=by
      have:=HC.out
      rw [cutRest_miss c s frm i hlt hfi hc] at this
      exact this
     clear hc
     go_wp2
     go_roundw
     case rel=>exact ⟨frm,i+1,outs,by omega,by omega,by go_num,rfl,HF,HO,hB,by omega,trivial⟩
     case measure=>(simp [intOf] <;> omega)
  ·have hfin:MadeStrs w (cutS c s) (.returned u5) wr:=by
    have h:=HC.out
    rw [cutRest_over c s frm (by omega),List.append_nil] at h
    rw [h]
    exact HO.out.strs hB (zz8 _)
   have HFin:=jj hfin
   clear hfin
   go_wp2
   go_ret
   exact HFin.out
theorem num_any (ls:List Int) (hl1:1≤ls.length) (hl2:ls.length≤1000) (p g:Nat) (w:World) (h:Rd w g p) (hp:p≤1000000) (v:Value) (F:List Nat) (hx:Arr w (NatR w) ls v F) (hf:Under w F) (hg:g∉F) :
  Calls Tryz.prog 126 #[.pointer (some ⟨g,0,none⟩),v] w fun e w'=>∃ x,x∈ls∧e=.returned (.int .i64 x)∧Rd w' g (p+1)∧Chg [g] w w':=by
 obtain ⟨A,cap,rfl,hc1,hc2⟩:=hx.form
 obtain ⟨b,off,rfl⟩:=hx.ptr (by omega)
 have HX:=jj hx
 have HF:=jj hf
 have HG:=jj hg
 have HCALL:=jj (zBB ls.length p g w h hp hl1 (by omega))
 clear hx hf hg h
 go_enter Tryz.func126,Tryz.ntmps126
 go_wp2_with fail
 refine HCALL.out.mono ?_
 rintro e w' ⟨r,rfl,hr,hR,hC⟩
 obtain ⟨hb,c0⟩:=ArrNat.at HX.out HF.out (zy2 _ _) r hr
 have hbF:b∉[g]:=by
  obtain ⟨b',off',cs',G',e',hb',-⟩:=HX.out.get (NatR_len w) hr
  cases e'
  exact fun h=>HG.out (by rw [←List.mem_singleton.1 h];exact hb')
 have c1:w'.cell? ⟨b,off+r,none⟩=some (.int .i64 ls[r]):=(hC.cell hb hbF).trans c0
 have g1:(0:Int)≤(r:Int):=by omega
 have g2:(r:Int)<(ls.length:Int):=by omega
 have HR:=jj hR
 have HC:=jj hC
 have HM:=jj (List.getElem_mem hr)
 clear hR hC c0 HCALL
 go_wp2
 go_ret
 exact ⟨ls[r],HM.out,rfl,HR.out,HC.out⟩
theorem of_any (ls:List ByteArray) (hl1:1≤ls.length) (hl2:ls.length≤1000) (p g:Nat) (w:World) (h:Rd w g p) (hp:p≤1000000) (v:Value) (F:List Nat) (hx:Arr w (StrR w) ls v F) (hf:Under w F) (hg:g∉F) :
  Calls Tryz.prog 110 #[.pointer (some ⟨g,0,none⟩),v] w fun e w'=>∃ x,x∈ls∧e=.returned (.string x)∧Rd w' g (p+1)∧Chg [g] w w':=by
 obtain ⟨A,cap,rfl,hc1,hc2⟩:=hx.form
 obtain ⟨b,off,rfl⟩:=hx.ptr (by omega)
 have HX:=jj hx
 have HF:=jj hf
 have HG:=jj hg
 have HCALL:=jj (zBB ls.length p g w h hp hl1 (by omega))
 clear hx hf hg h
 go_enter Tryz.func110,Tryz.ntmps110
 go_wp2_with fail
 refine HCALL.out.mono ?_
 rintro e w' ⟨r,rfl,hr,hR,hC⟩
 obtain ⟨hb,c0⟩:=ArrStr.at HX.out HF.out (zy2 _ _) r hr
 have hbF:b∉[g]:=by
  obtain ⟨b',off',cs',G',e',hb',-⟩:=HX.out.get (zAH w) hr
  cases e'
  exact fun h=>HG.out (by rw [←List.mem_singleton.1 h];exact hb')
 have c1:w'.cell? ⟨b,off+r,none⟩=some (.string ls[r]):=(hC.cell hb hbF).trans c0
 have g1:(0:Int)≤(r:Int):=by omega
 have g2:(r:Int)<(ls.length:Int):=by omega
 have HR:=jj hR
 have HC:=jj hC
 have HM:=jj (List.getElem_mem hr)
 clear hR hC c0 HCALL
 go_wp2
 go_ret
 exact ⟨ls[r],HM.out,rfl,HR.out,HC.out⟩
theorem lit_nums (w:World) (ls:List Int) (hl:ls.length≤1000):Arr (w.alloc (.cells (ls.map (Value.int .i64)).toArray 3)) (NatR (w.alloc (.cells (ls.map (Value.int .i64)).toArray 3))) ls (.slice (some ⟨w,0,none⟩) ls.length ls.length) [w.heap.size]:=by
 refine ⟨_,_,rfl,zz8 _,by unfold maxLen;omega,.inr ⟨w.heap.size,0,ls.map (Value.int .i64),[],rfl,fun j u hj=>?_,?_,rfl⟩⟩
 ·rw [Nat.zero_add]
  refine ((Blk.new w 3 (ls.map (Value.int .i64)).toArray).cell j).trans ?_
  simpa using hj
 ·clear hl
  induction ls with
  |nil=>exact ⟨rfl,rfl⟩
  |cons x xs ih=>exact ⟨[.int .i64 x],xs.map (Value.int .i64),[],[],rfl,rfl,⟨rfl,rfl⟩,ih⟩
theorem lit_strs (w:World) (ls:List ByteArray) (hl:ls.length≤1000):Arr (w.alloc (.cells (ls.map Value.string).toArray 9)) (StrR (w.alloc (.cells (ls.map Value.string).toArray 9))) ls (.slice (some ⟨w,0,none⟩) ls.length ls.length) [w.heap.size]:=by
 refine ⟨_,_,rfl,zz8 _,by unfold maxLen;omega,.inr ⟨w.heap.size,0,ls.map Value.string,[],rfl,fun j u hj=>?_,?_,rfl⟩⟩
 ·rw [Nat.zero_add]
  refine ((Blk.new w 9 (ls.map Value.string).toArray).cell j).trans ?_
  simpa using hj
 ·clear hl
  induction ls with
  |nil=>exact ⟨rfl,rfl⟩
  |cons x xs ih=>exact ⟨[.string x],xs.map Value.string,[],[],rfl,rfl,⟨rfl,rfl⟩,ih⟩
theorem num_lit (ls:List Int) (hl1:1≤ls.length) (hl2:ls.length≤1000) (p g:Nat) (w:World) (h:Rd w g p) (hp:p≤1000000) :
  Calls Tryz.prog 126 #[.pointer (some ⟨g,0,none⟩),.slice (some ⟨w,0,none⟩) ls.length ls.length] (w.alloc (.cells (ls.map (Value.int .i64)).toArray 3)) fun e w'=>∃ x,x∈ls∧e=.returned (.int .i64 x)∧Rd w' g (p+1)∧Chg [g] w w':=by
 have hb:Below w w (w.alloc (.cells (ls.map (Value.int .i64)).toArray 3)):=(zy2 _ _).alloc (zz8 _) _
 have hlt:=h.lt
 refine (num_any ls hl1 hl2 p g _ (h.below hb) hp _ _ (lit_nums w ls hl2) (fun b hb=>by rw [List.mem_singleton.1 hb];simp) (fun e=>by rw [zy1] at e;omega)).mono ?_
 rintro e w' ⟨x,hx,rfl,hR,hC⟩
 exact ⟨x,hx,rfl,hR,(Chg.of_below hb).trans hC⟩
theorem of_lit (ls:List ByteArray) (hl1:1≤ls.length) (hl2:ls.length≤1000) (p g:Nat) (w:World) (h:Rd w g p) (hp:p≤1000000) :
  Calls Tryz.prog 110 #[.pointer (some ⟨g,0,none⟩),.slice (some ⟨w,0,none⟩) ls.length ls.length] (w.alloc (.cells (ls.map Value.string).toArray 9)) fun e w'=>∃ x,x∈ls∧e=.returned (.string x)∧Rd w' g (p+1)∧Chg [g] w w':=by
 have hb:Below w w (w.alloc (.cells (ls.map Value.string).toArray 9)):=(zy2 _ _).alloc (zz8 _) _
 have hlt:=h.lt
 refine (of_any ls hl1 hl2 p g _ (h.below hb) hp _ _ (lit_strs w ls hl2) (fun b hb=>by rw [List.mem_singleton.1 hb];simp) (fun e=>by rw [zy1] at e;omega)).mono ?_
 rintro e w' ⟨x,hx,rfl,hR,hC⟩
 exact ⟨x,hx,rfl,hR,(Chg.of_below hb).trans hC⟩
theorem Chg.set_new {F:List Nat} {w w2:World} {b j:Nat} {u:Value} (h:Chg F w w2) (hb:w.heap.size≤b):Chg F w (w2.setCell ⟨b,j,none⟩ u) :=
 ⟨h.os,h.tape,h.output,Nat.le_trans h.size (by simp [World.setCell]),fun c hc hF=>(zz7 _ _ _ _ (by show c≠b;omega)).trans (h.block c hc hF)⟩
def DrewTy (g p n:Nat) (w:World) (e:Ending) (w':World):Prop:=∃ (t:Ty) (q:Nat),e=.returned (.agg #[t.d,t.i])∧Rd w' g q∧q≤p+n∧Chg [g] w w'
theorem spec_l1Some (p g:Nat) (w:World) (h:Rd w g p) (hp:p≤900000) (A:Option Addr) (n cap:Nat) (hn:1≤n) (hn2:n≤1000):Calls Tryz.prog 76 #[.pointer (some ⟨g,0,none⟩),.slice A n cap] w (DrewTy g p 4 w):=by
 have hgl:=h.lt
 have hb1:Below w w (w.alloc (.cells #[(0:Int),(0:Int)] 25)):=(zy2 _ _).alloc (zz8 _) _
 have HR0:Hid (Rd (w.alloc (.cells #[(0:Int),(0:Int)] 25)) g p):=h.below hb1
 have HC0:Hid (Chg [g] w (w.alloc (.cells #[(0:Int),(0:Int)] 25))):=.of_below hb1
 have KH0:Hid (Blk (w.alloc (.cells #[(0:Int),(0:Int)] 25)) w.heap.size 25 #[(0:Int),(0:Int)]):=Blk.new _ _ _
 clear h
 go_enter Tryz.func76,Tryz.ntmps76
 go_wp2_with fail
 obtain ⟨w1,hw1⟩:∃ w1,w1=(w.alloc (.cells #[(0:Int),(0:Int)] 25)):=⟨_,rfl⟩
 rw [←hw1] at HR0 HC0 KH0 hb1 ⊢
 clear hw1
 refine (zBB 16 p g w1 HR0.out (by omega) (by omega) (by omega)).mono ?_
 rintro e w2 ⟨r,rfl,hr,hR2,hC2⟩
 have HR2:=jj hR2
 have HC2:=jj (HC0.out.trans hC2)
 have KH2:=jj (KH0.out.same (hC2.block _ KH0.out.lt (by simp;omega)))
 clear hR2 hC2
 cases q0:((r:Int)==0) with
 |true =>
  go_wp2_with fail
  refine (num_lit [-1,-2,9,0] (by decide) (by decide) (p+1) g w2 HR2.out (by omega)).mono ?_
  rintro e w3 ⟨x3,hx3,rfl,hR3,hC3⟩
  have HR3:=jj hR3
  have HC3:=jj (HC2.out.trans hC3)
  have KH3:=jj (KH2.out.same (hC3.block _ KH2.out.lt (by simp;omega)))
  clear hR3 hC3 hx3
  go_wp2_with fail
  refine (num_lit [0,1,-1,4] (by decide) (by decide) (p+1+1) g w3 HR3.out (by omega)).mono ?_
  rintro e w4 ⟨x4,hx4,rfl,hR4,hC4⟩
  have HR4:=jj hR4
  have HC4:=jj (HC3.out.trans hC4)
  have KH4:=jj (KH3.out.same (hC4.block _ KH3.out.lt (by simp;omega)))
  clear hR4 hC4 hx4
  have k0:w4.cell? ⟨w,0,none⟩=some (.int .i64 0):=(KH4.out.cell 0).trans (by simp)
  have k1:w4.cell? ⟨w,1,none⟩=some (.int .i64 0):=(KH4.out.cell 1).trans (by simp)
  have f0:=KH4.out.frozen 0
  have f1:=KH4.out.frozen 1
  have KF:Hid (Blk ((w4.setCell ⟨w,0,none⟩ (.int .i64 (x3))).setCell ⟨w,1,none⟩ (.int .i64 (x4))) w.heap.size 25 #[.int .i64 (x3),.int .i64 (x4)]):=(KH4.out.set_ 0 _).set_ 1 _
  have hC5:Chg [g] w ((w4.setCell ⟨w,0,none⟩ (.int .i64 (x3))).setCell ⟨w,1,none⟩ (.int .i64 (x4))):=(Chg.set_new HC4.out (zz8 _)).set_new (zz8 _)
  have hRd:Rd ((w4.setCell ⟨w,0,none⟩ (.int .i64 (x3))).setCell ⟨w,1,none⟩ (.int .i64 (x4))) g (p+1+1+1):=(HR4.out.set hgl).set hgl
  have hfin:DrewTy g p 4 w (.returned (.agg #[.int .i64 (x3),.int .i64 (x4)])) ((w4.setCell ⟨w,0,none⟩ (.int .i64 (x3))).setCell ⟨w,1,none⟩ (.int .i64 (x4))):=⟨⟨x3,x4⟩,p+1+1+1,rfl,hRd,by omega,hC5⟩
  have HFin:=jj hfin
  clear hfin hRd hC5
  go_wp2
  refine bodyPost_ret (zA2 rfl _ _ w.heap.size 25 #[.int .i64 (x3),.int .i64 (x4)] (0,0) _ rfl KF.out Tryz.underlying25 rfl rfl) rfl ?_
  exact HFin.out
 |false =>
  go_wp2_with fail
  refine (zBB 8 (p+1) g w2 HR2.out (by omega) (by omega) (by omega)).mono ?_
  rintro e w3 ⟨r3,rfl,hr3,hR3,hC3⟩
  have HR3:=jj hR3
  have HC3:=jj (HC2.out.trans hC3)
  have KH3:=jj (KH2.out.same (hC3.block _ KH2.out.lt (by simp;omega)))
  clear hR3 hC3
  cases q3:((r3:Int)==0) with
  |true =>
   have k0:w3.cell? ⟨w,0,none⟩=some (.int .i64 0):=(KH3.out.cell 0).trans (by simp)
   have k1:w3.cell? ⟨w,1,none⟩=some (.int .i64 0):=(KH3.out.cell 1).trans (by simp)
   have f0:=KH3.out.frozen 0
   have f1:=KH3.out.frozen 1
   have KF:Hid (Blk ((w3.setCell ⟨w,0,none⟩ (.int .i64 (-1))).setCell ⟨w,1,none⟩ (.int .i64 (0))) w.heap.size 25 #[.int .i64 (-1),.int .i64 (0)]):=(KH3.out.set_ 0 _).set_ 1 _
   have hC5:Chg [g] w ((w3.setCell ⟨w,0,none⟩ (.int .i64 (-1))).setCell ⟨w,1,none⟩ (.int .i64 (0))):=(Chg.set_new HC3.out (zz8 _)).set_new (zz8 _)
   have hRd:Rd ((w3.setCell ⟨w,0,none⟩ (.int .i64 (-1))).setCell ⟨w,1,none⟩ (.int .i64 (0))) g (p+1+1):=(HR3.out.set hgl).set hgl
   have hfin:DrewTy g p 4 w (.returned (.agg #[.int .i64 (-1),.int .i64 (0)])) ((w3.setCell ⟨w,0,none⟩ (.int .i64 (-1))).setCell ⟨w,1,none⟩ (.int .i64 (0))):=⟨⟨-1,0⟩,p+1+1,rfl,hRd,by omega,hC5⟩
   have HFin:=jj hfin
   clear hfin hRd hC5
   go_wp2
   refine bodyPost_ret (zA2 rfl _ _ w.heap.size 25 #[.int .i64 (-1),.int .i64 (0)] (0,0) _ rfl KF.out Tryz.underlying25 rfl rfl) rfl ?_
   exact HFin.out
  |false =>
   go_wp2_with fail
   refine (zBB n (p+1+1) g w3 HR3.out (by omega) hn (by omega)).mono ?_
   rintro e w4 ⟨r4,rfl,hr4,hR4,hC4⟩
   have HR4:=jj hR4
   have HC4:=jj (HC3.out.trans hC4)
   have KH4:=jj (KH3.out.same (hC4.block _ KH3.out.lt (by simp;omega)))
   clear hR4 hC4
   go_wp2_with fail
   refine (num_lit [0,0,1,2,0,3] (by decide) (by decide) (p+1+1+1) g w4 HR4.out (by omega)).mono ?_
   rintro e w5 ⟨x5,hx5,rfl,hR5,hC5⟩
   have HR5:=jj hR5
   have HC5:=jj (HC4.out.trans hC5)
   have KH5:=jj (KH4.out.same (hC5.block _ KH4.out.lt (by simp;omega)))
   clear hR5 hC5 hx5
   have k0:w5.cell? ⟨w,0,none⟩=some (.int .i64 0):=(KH5.out.cell 0).trans (by simp)
   have k1:w5.cell? ⟨w,1,none⟩=some (.int .i64 0):=(KH5.out.cell 1).trans (by simp)
   have f0:=KH5.out.frozen 0
   have f1:=KH5.out.frozen 1
   have KF:Hid (Blk ((w5.setCell ⟨w,0,none⟩ (.int .i64 ((r4:Int)))).setCell ⟨w,1,none⟩ (.int .i64 (x5))) w.heap.size 25 #[.int .i64 ((r4:Int)),.int .i64 (x5)]):=(KH5.out.set_ 0 _).set_ 1 _
   have hC5:Chg [g] w ((w5.setCell ⟨w,0,none⟩ (.int .i64 ((r4:Int)))).setCell ⟨w,1,none⟩ (.int .i64 (x5))):=(Chg.set_new HC5.out (zz8 _)).set_new (zz8 _)
   have hRd:Rd ((w5.setCell ⟨w,0,none⟩ (.int .i64 ((r4:Int)))).setCell ⟨w,1,none⟩ (.int .i64 (x5))) g (p+1+1+1+1):=(HR5.out.set hgl).set hgl
   have hfin:DrewTy g p 4 w (.returned (.agg #[.int .i64 ((r4:Int)),.int .i64 (x5)])) ((w5.setCell ⟨w,0,none⟩ (.int .i64 ((r4:Int)))).setCell ⟨w,1,none⟩ (.int .i64 (x5))):=⟨⟨(r4:Int),x5⟩,p+1+1+1+1,rfl,hRd,by omega,hC5⟩
   have HFin:=jj hfin
   clear hfin hRd hC5
   go_wp2
   refine bodyPost_ret (zA2 rfl _ _ w.heap.size 25 #[.int .i64 ((r4:Int)),.int .i64 (x5)] (0,0) _ rfl KF.out Tryz.underlying25 rfl rfl) rfl ?_
   exact HFin.out
theorem Chg.frozen {F:List Nat} {w w':World} (h:Chg F w w') {p:Addr} (hp:p.block<w.heap.size) (hn:p.block∉F):w'.frozen? p=w.frozen? p:=World.frozen?_of_block (w:=w) (h.block p.block hp hn)
theorem Rd.keep {w w':World} {g p:Nat} (h:Rd w g p) (hk:∀ b,b≤g→w'.heap[b]?=w.heap[b]?):Rd w' g p:=by
 obtain ⟨A,cap,bs,F,h1,h2,h3,h5⟩:=h
 exact ⟨A,cap,bs,F,h1.same (hk g (zz8 _)),ArrBy.mono h2 (fun b hb=>hk b (Nat.le_of_lt (h3 b hb))),h3,h5⟩
theorem Own.chg {α:Type} {R:World→α→List Value→List Nat→Prop} {w w':World} {B k:Nat} {E:TypeId} {xs:List α} {v:Value} {F L:List Nat} (hRm:∀ w w' x cs G,Kept G w w'→R w x cs G→R w' x cs G) (h:Own w B E k R xs v F) (hc:Chg L w w') (hL:∀ b∈L,b<B) (hF:∀ b∈F,B≤b):Own w' B E k R xs v F :=
 h.mono (fun x cs G hk h=>hRm _ _ x cs G hk h) (hc.kept (fun b hb=>by
  rcases List.mem_append.1 hb with h1 | h1
  ·exact (h.row b h1).2
  ·exact h.under b h1) (fun b hb hl=>by
  have h2:=hL b hl
  rcases List.mem_append.1 hb with h1 | h1
  ·have:=(h.row b h1).1;omega
  ·have:=hF b h1;omega)) hc.size
section
variable {α : Type} {w w9 wr wA w7 : World} {D Bz H k g : Nat} {T E : TypeId} {cells : Array Value} {R : World → α → List Value → List Nat → Prop} {xs ys : List α} {v v' : Value} {F G : List Nat} {o : Obj}
theorem kid_round3 (j:Nat) (hRm:∀ w w' x cs G,Kept G w w'→R w x cs G→R w' x cs G) (hw9:w9.heap.size=Bz) (hDB:D<Bz) (hgw:g<w.heap.size) (hwD:w.heap.size≤D) (KD:Blk wr D T cells) (HO:Own wr Bz E k R xs v F) (HFh:∀ b∈F,Bz≤b) (HC:Chg [D,g] w9 wr) (hB:Chg [g] w wr)
  (hBu:Chg [g] wr wA) (hfsA:∀ b∈G,wr.heap.size≤b∧b<wA.heap.size) (hown:Own w7 Bz E k R ys v' (F ++ G)) (hgr:(wA.alloc o).grownBy w7 v.ownBlock) {p:Nat} (hR:Rd wA g p) :
  Blk (w7.setCell ⟨D,j,none⟩ v') D T (cells.setIfInBounds j v')∧Own (w7.setCell ⟨D,j,none⟩ v') Bz E k R ys v' (F ++ G)∧(∀ b∈F ++ G,Bz≤b)∧Chg [D,g] w9 (w7.setCell ⟨D,j,none⟩ v')∧Chg [g] w (w7.setCell ⟨D,j,none⟩ v')∧w9.heap.size≤(w7.setCell ⟨D,j,none⟩ v').heap.size∧Rd (w7.setCell ⟨D,j,none⟩ v') g p:=by
 have hlt:=KD.lt
 have hA:=hBu.size
 have hz:=HC.size
 rw [hw9] at hz
 have hws:=hB.size
 have hFG:∀ b∈F ++ G,Bz≤b:=fun b hb=>by
  rcases List.mem_append.1 hb with h | h
  ·exact HFh b h
  ·have:=(hfsA b h).1;omega
 have hBA7:Below Bz wA w7:=((zy2 Bz wA).alloc (by omega) o).grown hgr (by rw [World.size_alloc];omega) (fun g hg=>(HO.row g (zA1.2 hg)).1)
 have hC7:Chg [D,g] w9 w7:=chg_under (HC.trans (hBu.mono (by simp))) (by rw [hw9];exact hBA7)
 have hC8:Chg [D,g] w9 (w7.setCell ⟨D,j,none⟩ v'):=hC7.set (by simp)
 have hne:∀ b∈F ++ G,b≠D:=fun b hb e=>by have:=hFG b hb;omega
 have hD7:w7.heap[D]?=wr.heap[D]?:=(hBA7.block D (by omega)).trans (hBu.block D hlt (by rw [zy1];omega))
 refine ⟨(KD.same hD7).set_ j v',Own.set (j:=j) hRm hown v' (fun h=>by have:=(hown.row _ h).1;omega) (fun h=>hne _ h rfl),hFG,hC8,?_,hC8.size,hR.keep fun b hb=>?_⟩
 ·exact (chg_under (hB.trans hBu) (hBA7.mono (by omega))).set_new hwD
 ·exact (zz7 w7 ⟨D,j,none⟩ v' b (by show b≠D;omega)).trans (hBA7.block b (by omega))
theorem kid_done3 (HO:Own wr D E k R xs v F) (HFh:∀ b∈F,D≤b) (hHD:H≤D):∃ FF,Arr wr (R wr) xs v FF∧∀ b∈FF,H≤b∧b<wr.heap.size :=
 ⟨_,HO.arr,fun b hb=>by
  split at hb
  ·cases hb
  ·rcases List.mem_append.1 hb with h | h
   ·have:=HO.row b h;omega
   ·have:=HFh b h;have:=HO.under b h;omega⟩
end
def findS (names:List ByteArray) (s:ByteArray):Int:=findL (names.map tl) (tl s)
def findR (names:List ByteArray) (s:ByteArray) (k:Nat):Int:=findGo (tl s) k ((names.drop k).map tl)
theorem findR_hit {names:List ByteArray} {s:ByteArray} {k:Nat} (hk:k<names.length) (h:tl names[k]=tl s):findR names s k=(k:Int):=by
 unfold findR
 rw [List.drop_eq_getElem_cons hk,List.map_cons,findGo,if_pos h]
theorem findR_miss {names:List ByteArray} {s:ByteArray} {k:Nat} (hk:k<names.length) (h:¬tl names[k]=tl s):findR names s k=findR names s (k+1):=by
 unfold findR
 rw [List.drop_eq_getElem_cons hk,List.map_cons,findGo,if_neg h]
theorem findR_end {names:List ByteArray} {s:ByteArray} {k:Nat} (hk:names.length≤k):findR names s k = -2:=by
 unfold findR
 rw [List.drop_of_length_le hk];rfl
theorem zAA (s:ByteArray):s.toList=tl s:=ByteArray.toList_eq s
theorem Blk.pair {w:World} {H:Nat} {T:TypeId} {a b:Value} (h:Blk w H T #[a,b]) (x y:Value) (o:Obj):Blk (((w.setCell ⟨H,0,none⟩ x).setCell ⟨H,1,none⟩ y).alloc o) H T #[x,y]:=by
 have h2:Blk ((w.setCell ⟨H,0,none⟩ x).setCell ⟨H,1,none⟩ y) H T #[x,y]:=(h.set_ 0 x).set_ 1 y
 exact h2.same (Below.heap_alloc _ _ _ h2.lt)
theorem below_pair {w w2:World} {B H:Nat} (h:Below B w w2) (hw:B≤w.heap.size) (hH:B≤H) (x y:Value) (o:Obj):Below B w (((w2.setCell ⟨H,0,none⟩ x).setCell ⟨H,1,none⟩ y).alloc o):=by
 have h2:Below B w ((w2.setCell ⟨H,0,none⟩ x).setCell ⟨H,1,none⟩ y):=(h.setCell hH _).setCell hH _
 exact h2.alloc (by have:=h.size;simp [World.setCell];omega) _
theorem ret_ty {t:Ty} {a b:Int} (h:t=⟨a,b⟩):Ending.returned (.agg #[.int .i64 a,.int .i64 b])=.returned (.agg #[t.d,t.i]):=by rw [h]
def pty (names:List ByteArray) (s:ByteArray):Ty:=parseTy (names.map tl) (tl s)
theorem pty_cons (names:List ByteArray) (s:ByteArray) (h:1≤s.size):pty names s=⟨findS names (s.extract 0 1),idxOf (tl (s.extract 1 s.size))⟩:=by
 have e1:tl (s.extract 0 1)=[s[0]]:=by
  rw [tl_extract,List.drop_zero]
  have:(tl s).take 1=[(tl s)[0]'(by rw [zAR];omega)]:=by
   rw [List.take_one]
   rw [List.head?_eq_getElem?,List.getElem?_eq_getElem (by rw [zAR];omega)];rfl
  exact this
 have e2:tl s=s[0] :: tl (s.extract 1 s.size):=by
  rw [tl_extract,List.take_of_length_le (by rw [zAR];exact zz8 _)]
  exact bytes_cons s (by omega)
 unfold pty
 rw [e2,parseTy]
 unfold findS
 rw [e1]
theorem idxOf_star {l:List UInt8} (h:l=[42]):idxOf l = -1:=if_pos h
theorem idxOf_not {s:ByteArray} (h:¬tl (s.extract 1 s.size)=[42]) (h2:s.size≠2):idxOf (tl (s.extract 1 s.size))=0:=by
 unfold idxOf
 rw [if_neg h]
 split
 ·rename_i x e
  have:=zAR (s.extract 1 s.size)
  rw [e,ByteArray.size_extract] at this
  simp at this
  omega
 ·rfl
theorem idxOf_two {s:ByteArray} (h:¬tl (s.extract 1 s.size)=[42]) (h2:s.size=2) (p2:1<s.size):idxOf (tl (s.extract 1 s.size))=if 48≤s[1].toNat∧s[1].toNat≤57 then (s[1].toNat:Int)-48 else 0:=by
 have e:tl (s.extract 1 s.size)=[s[1]]:=by
  rw [tl_extract,List.take_of_length_le (by rw [zAR];exact zz8 _),List.drop_eq_getElem_cons (by rw [zAR];omega),List.drop_of_length_le (by rw [zAR];omega)]
  rfl
 rw [e] at h ⊢
 unfold idxOf
 rw [if_neg h]
theorem spec_l1Find (names:List ByteArray) (s:ByteArray) (w:World) (v:Value) (F:List Nat) (hx:Arr w (StrR w) names v F) (hf:Under w F) :
  Calls Tryz.prog 135 #[v,.string s] w fun e w'=>e=.returned (.int .i64 (findS names s))∧Below w w w':=by
 obtain ⟨A,cap,rfl,hc1,hc2⟩:=hx.form
 have HX:=jj hx
 have HF:=jj hf
 clear hx hf
 cases q0:(s.toList==[73]) with
 |true =>
  have hf:Hid (findS names s = -1):=by
   rw [beq_iff_eq,zAA] at q0
   unfold Hid findS findL;rw [if_pos q0]
  go_enter Tryz.func135,Tryz.ntmps135
  go_wp2
  go_ret
  exact ⟨zAV hf.out.symm,zy2 _ _⟩
 |false =>
  have hf:Hid (findS names s=findR names s 0):=by
   rw [beq_eq_false_iff_ne,zAA] at q0
   unfold Hid findS findL;rw [if_neg q0];rfl
  go_enter Tryz.func135,Tryz.ntmps135
  go_wp2
  go_loopw [5] (fun iv wr=>∃ k:Nat,k≤names.length∧iv=.int .i64 k∧Hid (findS names s=findR names s k)∧Below w w wr) (fun iv _=>names.length-(intOf iv).toNat)
  case atStart=>exact ⟨0,Nat.zero_le _,rfl,hf,zy2 _ _⟩
  case round =>
   obtain ⟨k,hk,rfl,HT,hB⟩:=hrel
   by_cases hlt:k<names.length
   ·have g1:(0:Int)≤(k:Int):=by omega
    have g2:(k:Int)<(names.length:Int):=by omega
    obtain ⟨b,off,rfl⟩:=HX.out.ptr (by omega)
    obtain ⟨hb,c0⟩:=ArrStr.at HX.out HF.out hB k hlt
    cases q1:(names[k].toList==s.toList) with
    |true =>
     have hf:Hid (findS names s=(k:Int)):=by
      rw [beq_iff_eq,zAA,zAA] at q1
      exact HT.out.trans (findR_hit hlt q1)
     go_wp2
     go_ret
     exact ⟨zAV hf.out.symm,hB⟩
    |false =>
     have hf:Hid (findS names s=findR names s (k+1)):=by
      rw [beq_eq_false_iff_ne,zAA,zAA] at q1
      exact HT.out.trans (findR_miss hlt q1)
     go_wp2
     go_roundw
     case rel=>exact ⟨k+1,by omega,by go_num,hf,hB⟩
     case measure=>(simp [intOf] <;> omega)
   ·have hf:Hid (findS names s = -2):=HT.out.trans (findR_end (by omega))
    go_wp2
    go_ret
    exact ⟨zAV hf.out.symm,hB⟩
theorem spec_l1ParseType (names:List ByteArray) (s:ByteArray) (w:World) (v:Value) (F:List Nat) (hx:Arr w (StrR w) names v F) (hf:Under w F) (hs:s.size≤1000000) :
  Calls Tryz.prog 89 #[v,.string s] w fun e w'=>e=.returned (.agg #[.int .i64 ((pty names s).d),.int .i64 ((pty names s).i)])∧Below w w w':=by
 obtain ⟨A,cap,rfl,hc1,hc2⟩:=hx.form
 have HX:=jj hx
 have HF:=jj hf
 clear hx hf
 by_cases h0:s.size=0
 ·have q0:(s.toList==[])=true:=by
   rw [beq_iff_eq,zAA];exact List.eq_nil_of_length_eq_zero (by rw [zAR];exact h0)
  have hf:Hid (pty names s=⟨-2,0⟩):=by
   rw [beq_iff_eq,zAA] at q0
   unfold Hid pty;rw [q0];rfl
  go_enter Tryz.func89,Tryz.ntmps89
  go_wp2
  refine bodyPost_ret (zA2 rfl _ _ w.heap.size 25 #[.int .i64 (-2),(0:Int)] (0,0) _ rfl (Blk.new w _ _) Tryz.underlying25 rfl rfl) rfl ?_
  exact ⟨ret_ty hf.out,(zy2 _ _).alloc (zz8 _) _⟩
 ·have q0:(s.toList==[])=false:=by
   rw [beq_eq_false_iff_ne,zAA];intro e;have:=zAR s;rw [e] at this;simp at this;omega
  have g1:(1:Int)≤(s.size:Int):=by omega
  have p1:1≤s.size:=by omega
  go_enter Tryz.func89,Tryz.ntmps89
  go_wp2_with fail
  obtain ⟨W1,hW1⟩:∃ W1,W1=w.alloc (.cells #[(0:Int),(0:Int)] 25):=⟨_,rfl⟩
  have hB1:Below w w W1:=by rw [hW1];exact (zy2 _ _).alloc (zz8 _) _
  have K1:Hid (Blk W1 w 25 #[(0:Int),(0:Int)]):=by rw [hW1];exact Blk.new w _ _
  rw [←hW1]
  clear hW1
  refine (spec_l1Find names (s.extract 0 1) W1 _ F (ArrStr.below HX.out hB1 HF.out) (HF.out.mono hB1.size)).mono ?_
  rintro e w2 ⟨rfl,hb2⟩
  have hB2:=hB1.trans (hb2.mono hB1.size)
  have K2:=jj (K1.out.same (hb2.block _ K1.out.lt))
  clear hb2 hB1 K1
  have k0:w2.cell? ⟨w,0,none⟩=some (.int .i64 0):=(K2.out.cell 0).trans (by simp)
  have k1:w2.cell? ⟨w,1,none⟩=some (.int .i64 0):=(K2.out.cell 1).trans (by simp)
  have f0:=K2.out.frozen 0
  have f1:=K2.out.frozen 1
  have klt:=K2.out.lt
  generalize hdd:findS names (s.extract 0 1)=dd
  have HDD:=jj hdd
  clear hdd
  have HP:=jj (pty_cons names s p1)
  cases q1:((s.extract 1 s.size).toList==[42]) with
  |true =>
   have hf:Hid (pty names s=⟨dd,-1⟩):=by
    rw [beq_iff_eq,zAA] at q1
    unfold Hid;rw [HP.out,HDD.out,idxOf_star q1]
   go_wp2
   refine bodyPost_ret (zA2 rfl _ _ w.heap.size 25 #[.int .i64 dd,.int .i64 (-1)] (0,0) _ rfl (K2.out.pair _ _ _) Tryz.underlying25 rfl rfl) rfl ?_
   exact ⟨ret_ty hf.out,below_pair hB2 (zz8 _) (zz8 _) _ _ _⟩
  |false =>
   have HN:Hid (¬tl (s.extract 1 s.size)=[42]):=by
    rw [beq_eq_false_iff_ne,zAA] at q1
    exact q1
   by_cases h2:s.size=2
   ·have q2:((s.size:Int)==2)=true:=by simp;omega
    have p2:1<s.size:=by omega
    have p3:(1:Int)<(s.size:Int):=by omega
    have HI:=jj (idxOf_two HN.out h2 p2)
    clear h2
    by_cases ha:48≤s[1].toNat
    ·have q3:decide ((s[1].toNat:Int)≥48)=true:=decide_eq_true (by omega)
     by_cases hz:s[1].toNat≤57
     ·have q4:decide ((s[1].toNat:Int)≤57)=true:=decide_eq_true (by omega)
      have hf:Hid (pty names s=⟨dd,(s[1].toNat:Int)-48⟩):=by unfold Hid;rw [HP.out,HDD.out,HI.out,if_pos ⟨ha,hz⟩]
      have b1:48≤(s[1].toNat:Int):=by omega
      have b2:(s[1].toNat:Int)≤57:=by omega
      go_wp2
      refine bodyPost_ret (zA2 rfl _ _ w.heap.size 25 #[.int .i64 dd,.int .i64 ((s[1].toNat:Int)-48)] (0,0) _ rfl (K2.out.pair _ _ _) Tryz.underlying25 rfl rfl) rfl ?_
      exact ⟨ret_ty hf.out,below_pair hB2 (zz8 _) (zz8 _) _ _ _⟩
     ·have q4:decide ((s[1].toNat:Int)≤57)=false:=decide_eq_false (by omega)
      have hf:Hid (pty names s=⟨dd,0⟩):=by unfold Hid;rw [HP.out,HDD.out,HI.out,if_neg (fun h=>hz h.2)]
      go_wp2
      refine bodyPost_ret (zA2 rfl _ _ w.heap.size 25 #[.int .i64 dd,.int .i64 (0)] (0,0) _ rfl (K2.out.pair _ _ _) Tryz.underlying25 rfl rfl) rfl ?_
      exact ⟨ret_ty hf.out,below_pair hB2 (zz8 _) (zz8 _) _ _ _⟩
    ·have q3:decide ((s[1].toNat:Int)≥48)=false:=decide_eq_false (by omega)
     have hf:Hid (pty names s=⟨dd,0⟩):=by unfold Hid;rw [HP.out,HDD.out,HI.out,if_neg (fun h=>ha h.1)]
     go_wp2
     refine bodyPost_ret (zA2 rfl _ _ w.heap.size 25 #[.int .i64 dd,.int .i64 (0)] (0,0) _ rfl (K2.out.pair _ _ _) Tryz.underlying25 rfl rfl) rfl ?_
     exact ⟨ret_ty hf.out,below_pair hB2 (zz8 _) (zz8 _) _ _ _⟩
   ·have q2:((s.size:Int)==2)=false:=by rw [beq_eq_false_iff_ne];omega
    have hf:Hid (pty names s=⟨dd,0⟩):=by unfold Hid;rw [HP.out,HDD.out,idxOf_not HN.out h2]
    go_wp2
    refine bodyPost_ret (zA2 rfl _ _ w.heap.size 25 #[.int .i64 dd,.int .i64 (0)] (0,0) _ rfl (K2.out.pair _ _ _) Tryz.underlying25 rfl rfl) rfl ?_
    exact ⟨ret_ty hf.out,below_pair hB2 (zz8 _) (zz8 _) _ _ _⟩
def pkt (names:List ByteArray) (s:ByteArray):Kt:=parseKt (names.map tl) (tl s)
def pbody (names:List ByteArray) (idx:Int) (s:ByteArray):Kt:=parseBody (names.map tl) idx (tl s)
theorem cutL_pos (c:UInt8) (l:List UInt8):0<(cutL c l).length:=by
 have key:∀ (l cur:List UInt8),0<(cutGo c cur l).length:=by
  intro l
  induction l with
  |nil=>intro cur;simp [cutGo]
  |cons x xs ih=>intro cur;rw [cutGo];split <;> simp [ih]
 exact key l []
theorem cutS_pos (c:UInt8) (s:ByteArray):0<(cutS c s).length:=by unfold cutS;rw [List.length_map];exact cutL_pos c _
theorem pbody_short {names:List ByteArray} {idx:Int} {s:ByteArray} (h:(cutS 40 s).length<2):pbody names idx s=⟨(cutS 40 s)[0]'(cutS_pos 40 s),[],idx⟩:=by
 have hp:=cutL_pos 40 (tl s)
 unfold pbody parseBody
 have key:∀ (L:List (List UInt8)) (hp:0<L.length),(L.map bs).length<2→(⟨bs (headL L),parseArgs (names.map tl) L,idx⟩:Kt)=⟨(L.map bs)[0]'(by simpa using hp),[],idx⟩:=by
  intro L hp hl
  match L,hp,hl with
  |[x],_,_=>rfl
  |_ :: _ :: _,_,hl=>simp at hl;omega
 exact key _ hp h
theorem pbody_empty {names:List ByteArray} {idx:Int} {s:ByteArray} (h:1<(cutS 40 s).length) (h0:(cutS 40 s)[1].size=0):pbody names idx s=⟨(cutS 40 s)[0]'(cutS_pos 40 s),[],idx⟩:=by
 have hp:=cutL_pos 40 (tl s)
 unfold pbody parseBody
 have key:∀ (L:List (List UInt8)) (hp:0<L.length) (h:1<(L.map bs).length),(L.map bs)[1].size=0→(⟨bs (headL L),parseArgs (names.map tl) L,idx⟩:Kt)=⟨(L.map bs)[0]'(by simpa using hp),[],idx⟩:=by
  intro L hp h hz
  match L,hp,h,hz with
  |x :: p :: l,_,_,hz =>
   have hpe:p=[]:=List.eq_nil_of_length_eq_zero hz
   subst hpe
   rfl
  |[_],_,h,_=>simp at h
 exact key _ hp h h0
theorem pbody_args {names:List ByteArray} {idx:Int} {s:ByteArray} (h:1<(cutS 40 s).length) (h0:(cutS 40 s)[1].size≠0):pbody names idx s=⟨(cutS 40 s)[0]'(cutS_pos 40 s),((cutS 44 ((cutS 40 s)[1].extract 0 ((cutS 40 s)[1].size-1))).take 4).map (pty names),idx⟩:=by
 have hp:=cutL_pos 40 (tl s)
 unfold pbody parseBody
 have key:∀ (L:List (List UInt8)) (hp:0<L.length) (h:1<(L.map bs).length),(L.map bs)[1].size≠0→(⟨bs (headL L),parseArgs (names.map tl) L,idx⟩:Kt)=⟨(L.map bs)[0]'(by simpa using hp),((cutS 44 ((L.map bs)[1].extract 0 ((L.map bs)[1].size-1))).take 4).map (pty names),idx⟩:=by
  intro L hp h hz
  match L,hp,h,hz with
  |x :: p :: l,_,_,hz =>
   have hpe:¬p=[]:=fun e=>hz (by subst e;rfl)
   have e1:tl ((bs p).extract 0 ((bs p).size-1))=p.take (p.length-1):=by rw [tl_extract,tl_bs,List.drop_zero];rfl
   have e2:parseArgs (names.map tl) (x :: p :: l)=((cutL 44 (p.take (p.length-1))).take 4).map (parseTy (names.map tl)):=by
    show (if p=[] then [] else _)=_
    rw [if_neg hpe]
   have e3:((cutS 44 ((bs p).extract 0 ((bs p).size-1))).take 4).map (pty names)=((cutL 44 (p.take (p.length-1))).take 4).map (parseTy (names.map tl)):=by
    unfold cutS
    rw [e1,←List.map_take,List.map_map]
    rfl
   rw [e2,←e3]
   rfl
  |[_],_,h,_=>simp at h
 exact key _ hp h h0
theorem hasIdx_no {s:ByteArray} (h:¬2<s.size):hasIdx (tl s)=false:=by unfold hasIdx;rw [zAR,decide_eq_false h];rfl
theorem hasIdx_at {s:ByteArray} (h:2<s.size):hasIdx (tl s)=(s[s.size-2]==58):=by
 unfold hasIdx
 rw [zAR,decide_eq_true h,Bool.true_and,Bool.eq_iff_iff]
 have:(tl s).getD (s.size-2) 0=s[s.size-2]:=by
  rw [List.getD_eq_getElem?_getD,List.getElem?_eq_getElem (by rw [zAR];omega)];rfl
 rw [this]
 simp
theorem pkt_no {names:List ByteArray} {s:ByteArray} (h:hasIdx (tl s)=false):pkt names s=pbody names 0 s:=by unfold pkt parseKt;rw [if_neg (by simp [h])];rfl
theorem pkt_yes {names:List ByteArray} {s:ByteArray} (h:hasIdx (tl s)=true) (h2:2<s.size):pkt names s=pbody names ((s[s.size-1].toNat:Int)-48) (s.extract 0 (s.size-2)):=by
 have h3:(tl s).getD ((tl s).length-1) 0=s[s.size-1]:=by
  rw [List.getD_eq_getElem?_getD,zAR,List.getElem?_eq_getElem (by rw [zAR];omega)];rfl
 unfold pkt parseKt pbody
 rw [if_pos h,h3,tl_extract,List.drop_zero,zAR]
theorem pbody_short' {names:List ByteArray} {idx:Int} {s:ByteArray} {parts:List ByteArray} (e:cutS 40 s=parts) (hp:0<parts.length) (h:parts.length<2):pbody names idx s=⟨parts[0],[],idx⟩:=by subst e;exact pbody_short h
theorem pbody_empty' {names:List ByteArray} {idx:Int} {s:ByteArray} {parts:List ByteArray} (e:cutS 40 s=parts) (h:1<parts.length) (h0:parts[1].size=0):pbody names idx s=⟨parts[0],[],idx⟩:=by subst e;exact pbody_empty h h0
theorem pbody_args' {names:List ByteArray} {idx:Int} {s:ByteArray} {parts:List ByteArray} (e:cutS 40 s=parts) (h:1<parts.length) (h0:parts[1].size≠0):pbody names idx s=⟨parts[0],((cutS 44 (parts[1].extract 0 (parts[1].size-1))).take 4).map (pty names),idx⟩:=by subst e;exact pbody_args h h0
theorem map_take_snoc {α β:Type} (f:α→β) (l:List α) (j:Nat) (h:j<l.length):(l.take (j+1)).map f=(l.take j).map f ++ [f l[j]]:=by rw [take_snoc' l j h,List.map_append];rfl
def ptysTo (names ags:List ByteArray) (i:Nat):List Ty:=(ags.take i).map (pty names)
theorem ptysTo_succ (names ags:List ByteArray) (i:Nat) (h:i<ags.length):ptysTo names ags (i+1)=ptysTo names ags i ++ [pty names ags[i]]:=map_take_snoc _ _ _ h
theorem ptysTo_len (names ags:List ByteArray) (i:Nat):(ptysTo names ags i).length≤i:=by unfold ptysTo;rw [List.length_map,List.length_take];omega
def GivesKt (w:World) (c:Kt) (e:Ending) (w':World):Prop:=∃ cs F,e=.returned (.agg cs.toArray)∧Below w w w'∧KtR w' c cs F∧Free w' F∧Fresh w w' F
theorem Blk.triple {w:World} {H:Nat} {T:TypeId} {a b c:Value} (h:Blk w H T #[a,b,c]) (x y z:Value):Blk (((w.setCell ⟨H,0,none⟩ x).setCell ⟨H,1,none⟩ y).setCell ⟨H,2,none⟩ z) H T #[x,y,z]:=((h.set_ 0 x).set_ 1 y).set_ 2 z
theorem below_triple {w w2:World} {B H:Nat} (h:Below B w w2) (hH:B≤H) (x y z:Value):Below B w (((w2.setCell ⟨H,0,none⟩ x).setCell ⟨H,1,none⟩ y).setCell ⟨H,2,none⟩ z):=((h.setCell hH _).setCell hH _).setCell hH _
theorem GivesKt.done {w W:World} {H B:Nat} {c:Kt} {E:TypeId} {nm:ByteArray} {idx:Int} {kv:Value} {xs:List Ty} (hc:c=⟨nm,xs,idx⟩) (hB:Below w w W) (hH:w.heap.size=H) (hlt:H<W.heap.size) (ho:Own W B E 2 TyR xs kv []) (hB1:H<B) (hn:nm.size≤9223372036854775807) (x y z:Value) :
  GivesKt w c (.returned (.agg #[.string nm,kv,.int .i64 idx])) (((W.setCell ⟨H,0,none⟩ x).setCell ⟨H,1,none⟩ y).setCell ⟨H,2,none⟩ z):=by
 subst hc hH
 have hr:w.heap.size∉rowOf kv:=fun h=>by have:=(ho.row _ h).1;omega
 have h0:=Own.set (j:=0) TyR_mono' ho x hr (fun h=>by cases h)
 have h1:=Own.set (j:=1) TyR_mono' h0 y hr (fun h=>by cases h)
 have h2:=Own.set (j:=2) TyR_mono' h1 z hr (fun h=>by cases h)
 exact ⟨[.string nm,kv,.int .i64 idx],_,rfl,below_triple hB (zz8 _) _ _ _,⟨kv,rfl,h2.arr,hn⟩,h2.free (Free.nil _),h2.fresh (Nat.le_of_lt hB1) (fun b hb=>by cases hb)⟩
theorem Chg.under {F:List Nat} {a b c:World} (h:Chg F a b) (k:Below a b c):Chg F a c :=
 ⟨k.os.trans h.os,k.tape.trans h.tape,k.output.trans h.output,Nat.le_trans h.size k.size,fun i hi hF=>(k.block i hi).trans (h.block i hi hF)⟩
end Go.Proofs.YtjjclcmmfeegfaaGreatDoor
