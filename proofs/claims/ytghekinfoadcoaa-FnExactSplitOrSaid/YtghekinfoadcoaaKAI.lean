/-
  Lemmas and contracts of functions: What comes in as an argument (slices of structs, trees) lies in memory as the plain data say. Conditions: none. A Type that comes in as an argument lies in memory as the plain data say. Conditions: none. A Ctor that comes in as an argument lies in memory as the plain data say. Conditions: none. A Data that comes in as an argument lies in memory as the plain data say. Conditions: none. A Pattern that comes in as an argument lies in memory as the plain data say. Conditions: none.
-/
import Derived.Test.YtghekinfoadcoaaKAA
import Derived.ProofKit
import Derived.ChangeArms
import Derived.Deep.Fields
import Derived.Test.YtghekinfoadcoaaChecked

set_option linter.unusedVariables false
set_option linter.unusedSimpArgs false
set_option maxRecDepth 100000
set_option maxHeartbeats 1600000

namespace Go.Proofs.Ytghekinfoadcoaa
open Go.ChangeShapes Go.WideShapes Go.ChangeAt Go.RowKit
section
variable {H : Type} {enc : TypeId × Value → H} {P : Program} {w : World} {base : Nat} {spare : Nat → Bool} {held : Bool}
theorem cell_lt {w:World} {a:Addr} {v:Value} (h:w.cell? a=some v):a.block<w.heap.size:=by
 rcases Nat.lt_or_ge a.block w.heap.size with hl | hl
 ·exact hl
 ·unfold World.cell? at h
  rw [Array.getElem?_eq_none hl] at h
  cases h
theorem open_Arr {α:Type} (R:α→List Value→List Nat→Prop) {t e:TypeId} {k n fuel:Nat} {cs:List Value} {x:DataW H×List MemPlace} (ht:P.underlying t=some (.slice e)) (hk:P.cellsOf e=k) (hk0:0<k) (hf:fuel=n+1)
  (hR:∀ ds y,DataW.trod enc P w base spare held n e ds=some y→ds.length=k→∃ a F,R a ds F∧Under w.heap.size F)
  (h:DataW.trod enc P w base spare held fuel t cs=some x):∃ xs v F,cs=[v]∧Arr w R xs v F∧Under w.heap.size F:=by
 subst hf
 rcases DataW.trod_slice ht h with ⟨rfl,-⟩ | ⟨a,len,cap,elems,rest,m,hm,rfl,-,-,hl,hmax,hlen,hel,-,-⟩
 ·exact ⟨[],_,[],rfl,Arr.nil,Under.nil _⟩
 ·obtain rfl:n=m:=by omega
  by_cases h0:len=0
  ·subst h0
   exact ⟨[],_,[],rfl,⟨_,_,rfl,hl,hmax,.inl ⟨rfl,rfl⟩⟩,Under.nil _⟩
  ·have get:∀ i,i<len→∃ ds y,(∀ j,j<k→w.cell? (a.add (i*k+j))=ds[j]?)∧ds.length=k∧DataW.trod enc P w base spare held n e ds=some y:=fun i hi=>by
    have h1:=hel i hi
    rw [List.getElem?_eq_getElem (by omega),Option.bind_eq_some_iff] at h1
    obtain ⟨ds,h2,h3⟩:=h1
    obtain ⟨-,h4,h5⟩:=World.cells?_some h2
    rw [hk] at h4 h5
    refine ⟨ds,_,fun j hj=>?_,h4,h3⟩
    rw [←h5 j hj]
    congr 1
    unfold Addr.add
    by_cases e1:i*k=0 <;> by_cases e2:j=0 <;> simp [e1,e2,Nat.add_assoc]
   obtain ⟨b,off,spot⟩:=a
   obtain ⟨ds0,y0,g1,g2,-⟩:=get 0 (by omega)
   have hc0:w.cell? ⟨b,off,spot⟩=some (ds0[0]'(by omega)):=by
    have:=g1 0 hk0
    simpa [Addr.add,List.getElem?_eq_getElem (show 0<ds0.length by omega)] using this
   have hspot:spot=none:=by simpa using World.cell?_spot hc0
   subst hspot
   have hb:b<w.heap.size:=cell_lt hc0
   have key:∀ m,m≤len→∃ (xs:List α) (cs:List Value) (F:List Nat),xs.length=m∧cs.length=m*k∧CellsAt w b off cs∧Flat R xs cs F∧Under w.heap.size F:=by
    intro m
    induction m with
    |zero=>intro _;exact ⟨[],[],[],rfl,by simp,fun j u hj=>by simp at hj,⟨rfl,rfl⟩,Under.nil _⟩
    |succ m ih =>
     intro hm
     obtain ⟨xs,cs,F,h1,h2,h3,h4,h5⟩:=ih (by omega)
     obtain ⟨ds,y,g1,g2,g3⟩:=get m (by omega)
     obtain ⟨z,G,r1,r2⟩:=hR ds y g3 g2
     refine ⟨xs ++ [z],cs ++ ds,F ++ G,by simp [h1],by simp [h2,g2,Nat.add_mul],h3.append (fun j u hj=>?_),h4.append (Flat.one r1),fun c hc=>?_⟩
     ·have hjk:j<k:=by rw [←g2];exact (List.getElem?_eq_some_iff.1 hj).1
      have:=g1 j hjk
      rw [hj,Addr.add_lit] at this
      rw [h2,←this]
      congr 2
      omega
     ·rcases List.mem_append.1 hc with hc | hc
      ·exact h5 c hc
      ·exact r2 c hc
   obtain ⟨xs,cs,F,h1,h2,h3,h4,h5⟩:=key len (zz8 _)
   refine ⟨xs,_,b :: F,rfl,⟨_,_,by rw [h1],by omega,hmax,.inr ⟨b,off,cs,F,rfl,h3,h4,rfl⟩⟩,fun c hc=>?_⟩
   rcases List.mem_cons.1 hc with rfl | hc
   ·exact hb
   ·exact h5 c hc
theorem one_field {fs:Array Field} {n:Nat} {cs:List Value} {xs:List (DataW H×List MemPlace)}
  (hf:∀ (i:Nat) (f:Field),fs[i]?=some f→DataW.trod enc P w base spare held n f.type ((cs.drop f.offset).take (P.cellsOf f.type))=xs[i]?)
  (hone:Deep.oneCellFields P fs=true) (hxl:xs.length=fs.size) (i:Nat) (f:Field) (hi:fs[i]?=some f) (c:Value) (hc:cs[i]?=some c) :
  ∃ y,DataW.trod enc P w base spare held n f.type [c]=some y:=by
 obtain ⟨h1,h2⟩:=Deep.hone_of hone i f hi
 have h:=hf i f hi
 have hlt:i<fs.size:=(Array.getElem?_eq_some_iff.1 hi).1
 rw [List.getElem?_eq_getElem (show i<xs.length by omega),h1,h2] at h
 obtain ⟨hlc,hcc⟩:=List.getElem?_eq_some_iff.1 hc
 rw [List.drop_eq_getElem_cons hlc,hcc] at h
 exact ⟨_,h⟩
theorem sub_field {fs:Array Field} {n:Nat} {cs:List Value} {xs:List (DataW H×List MemPlace)}
  (hf:∀ (i:Nat) (f:Field),fs[i]?=some f→DataW.trod enc P w base spare held n f.type ((cs.drop f.offset).take (P.cellsOf f.type))=xs[i]?)
  (hxl:xs.length=fs.size) (i:Nat) (f:Field) (hi:fs[i]?=some f) (k off:Nat) (hk:P.cellsOf f.type=k) (ho:f.offset=off) :
  ∃ y,DataW.trod enc P w base spare held n f.type ((cs.drop off).take k)=some y:=by
 have h:=hf i f hi
 have hlt:i<fs.size:=(Array.getElem?_eq_some_iff.1 hi).1
 rw [List.getElem?_eq_getElem (show i<xs.length by omega),hk,ho] at h
 exact ⟨_,h⟩
theorem open_slice_arg {α:Type} (R:α→List Value→List Nat→Prop) {t e:TypeId} {k:Nat} {r:Reach} {b0:Nat} {v:Value} {d:DataW H} {ps:List MemPlace} (ht:P.underlying t=some (.slice e)) (hk:P.cellsOf e=k) (hk0:0<k)
  (hR:∀ n ds y,DataW.trod enc P w base spare held n e ds=some y→∃ a F,R a ds F∧Under w.heap.size F)
  (hval:Value.okWide P w r b0 t v) (h:DataW.Trod enc P w base spare held t v d ps):∃ xs F,Arr w R xs v F∧Under w.heap.size F:=by
 obtain ⟨a,len,cap,rfl⟩:=okWide_slice ht hval
 obtain ⟨fuel,hf⟩:=h
 cases fuel with
 |zero=>simp [DataW.trod] at hf
 |succ n =>
  obtain ⟨xs,v,F,hv,ha,hF⟩:=open_Arr R ht hk hk0 rfl (fun ds y hd _=>hR n ds y hd) hf
  have:v=.slice a len cap:=by simpa [Value.cells] using hv.symm
  subst this
  exact ⟨xs,F,ha,hF⟩
end
end Go.Proofs.Ytghekinfoadcoaa
namespace Go.Proofs.Ytghekinfoadcoaa
open Go.ChangeShapes Go.WideShapes Go.ChangeAt Go.RowKit
set_option maxRecDepth 100000
theorem cellsOf_lawsTy:Try.prog.cellsOf 24=2:=by kernel_rfl
theorem open_Ty_cells {H:Type} {enc:TypeId×Value→H} {w:World} {base:Nat} {spare:Nat→Bool} {held:Bool} (fuel:Nat) (cs:List Value) (x:DataW H×List MemPlace)
  (h:DataW.trod enc Try.prog w base spare held fuel 24 cs=some x):∃ v F,TyR w v cs F∧Under w.heap.size F:=by
 obtain ⟨xs,n,rfl,-,hl,hxl,hf⟩:=DataW.trod_struct Try.underlying24 h
 rw [cellsOf_lawsTy] at hl
 match cs,hl with
 |[c0,c1],_ =>
 obtain ⟨y0,f0⟩:=sub_field hf hxl 0 _ rfl 1 0 (by kernel_rfl) rfl
 obtain ⟨i0,e0,-,-⟩:=DataW.trod_int Try.underlying3 f0
 obtain rfl:c0=.int .i64 i0:=by simpa using e0
 obtain ⟨y1,f1⟩:=sub_field hf hxl 1 _ rfl 1 1 (by kernel_rfl) rfl
 obtain ⟨i1,e1,-,-⟩:=DataW.trod_int Try.underlying3 f1
 obtain rfl:c1=.int .i64 i1:=by simpa using e1
 exact ⟨⟨i0,i1⟩,[],⟨rfl,rfl⟩,Under.nil _⟩
theorem open_Ty {H:Type} {enc:TypeId×Value→H} {w:World} {base:Nat} {spare:Nat→Bool} {held:Bool} {r:Reach} {b0:Nat} {v:Value} {d:DataW H} {ps:List MemPlace} (hval:Value.okWide Try.prog w r b0 24 v)
  (h:DataW.Trod enc Try.prog w base spare held 24 v d ps):∃ (x:Ty) (cs:List Value) (F:List Nat),v=.agg cs.toArray∧TyR w x cs F∧Under w.heap.size F:=by
 obtain ⟨cs,rfl,-⟩:=okWide_struct Try.underlying24 hval
 obtain ⟨fuel,hf⟩:=h
 obtain ⟨x,F,h1,h2⟩:=open_Ty_cells fuel _ _ hf
 exact ⟨x,cs.toList,F,by simp,h1,h2⟩
end Go.Proofs.Ytghekinfoadcoaa
namespace Go.Proofs.Ytghekinfoadcoaa
open Go.ChangeShapes Go.WideShapes Go.ChangeAt Go.RowKit
set_option maxRecDepth 100000
theorem cellsOf_lawsKt:Try.prog.cellsOf 79=3:=by kernel_rfl
theorem open_Kt_cells {H:Type} {enc:TypeId×Value→H} {w:World} {base:Nat} {spare:Nat→Bool} {held:Bool} (fuel:Nat) (cs:List Value) (x:DataW H×List MemPlace)
  (h:DataW.trod enc Try.prog w base spare held fuel 79 cs=some x):∃ v F,KtR w v cs F∧Under w.heap.size F:=by
 obtain ⟨xs,n,rfl,-,hl,hxl,hf⟩:=DataW.trod_struct Try.underlying79 h
 rw [cellsOf_lawsKt] at hl
 match cs,hl with
 |[c0,c1,c2],_ =>
 obtain ⟨y0,f0⟩:=sub_field hf hxl 0 _ rfl 1 0 (by kernel_rfl) rfl
 obtain ⟨s0,e0,-,hs0⟩:=DataW.trod_string Try.underlying9 f0
 obtain rfl:c0=.string s0:=by simpa using e0
 obtain ⟨y1,f1⟩:=sub_field hf hxl 1 _ rfl 1 1 (by kernel_rfl) rfl
 cases n with
 |zero=>simp [DataW.trod] at f1
 |succ n =>
 obtain ⟨l1,kv,F,ek,ha,hF⟩:=open_Arr (TyR w) Try.underlying77 cellsOf_lawsTy (by decide) rfl (fun ds y hd _=>open_Ty_cells n ds y hd) f1
 obtain rfl:c1=kv:=by simpa using ek
 obtain ⟨y2,f2⟩:=sub_field hf hxl 2 _ rfl 1 2 (by kernel_rfl) rfl
 obtain ⟨i2,e2,-,-⟩:=DataW.trod_int Try.underlying3 f2
 obtain rfl:c2=.int .i64 i2:=by simpa using e2
 exact ⟨⟨s0,l1,i2⟩,F,⟨_,rfl,ha,(by unfold maxLen at hs0;omega)⟩,hF⟩
end Go.Proofs.Ytghekinfoadcoaa
namespace Go.Proofs.Ytghekinfoadcoaa
open Go.ChangeShapes Go.WideShapes Go.ChangeAt Go.RowKit
set_option maxRecDepth 100000
theorem cellsOf_lawsDt:Try.prog.cellsOf 50=2:=by kernel_rfl
theorem open_Dt_cells {H:Type} {enc:TypeId×Value→H} {w:World} {base:Nat} {spare:Nat→Bool} {held:Bool} (fuel:Nat) (cs:List Value) (x:DataW H×List MemPlace)
  (h:DataW.trod enc Try.prog w base spare held fuel 50 cs=some x):∃ v F,DtR w v cs F∧Under w.heap.size F:=by
 obtain ⟨xs,n,rfl,-,hl,hxl,hf⟩:=DataW.trod_struct Try.underlying50 h
 rw [cellsOf_lawsDt] at hl
 match cs,hl with
 |[c0,c1],_ =>
 obtain ⟨y0,f0⟩:=sub_field hf hxl 0 _ rfl 1 0 (by kernel_rfl) rfl
 obtain ⟨s0,e0,-,hs0⟩:=DataW.trod_string Try.underlying9 f0
 obtain rfl:c0=.string s0:=by simpa using e0
 obtain ⟨y1,f1⟩:=sub_field hf hxl 1 _ rfl 1 1 (by kernel_rfl) rfl
 cases n with
 |zero=>simp [DataW.trod] at f1
 |succ n =>
 obtain ⟨l1,kv,F,ek,ha,hF⟩:=open_Arr (KtR w) Try.underlying48 cellsOf_lawsKt (by decide) rfl (fun ds y hd _=>open_Kt_cells n ds y hd) f1
 obtain rfl:c1=kv:=by simpa using ek
 exact ⟨⟨s0,l1⟩,F,⟨_,rfl,ha,(by unfold maxLen at hs0;omega)⟩,hF⟩
theorem open_Dts {H:Type} {enc:TypeId×Value→H} {w:World} {base:Nat} {spare:Nat→Bool} {held:Bool} {r:Reach} {b0:Nat} {v:Value} {d:DataW H} {ps:List MemPlace} (hval:Value.okWide Try.prog w r b0 22 v)
  (h:DataW.Trod enc Try.prog w base spare held 22 v d ps):∃ (x:List Dt) (F:List Nat),Arr w (DtR w) x v F∧Under w.heap.size F :=
 open_slice_arg (DtR w) Try.underlying22 cellsOf_lawsDt (by decide) (fun n ds y hd=>open_Dt_cells n ds y hd) hval h
end Go.Proofs.Ytghekinfoadcoaa
namespace Go.Proofs.Ytghekinfoadcoaa
open Go.ChangeShapes Go.WideShapes Go.ChangeAt Go.RowKit
set_option maxRecDepth 100000
theorem cellsOf_lawsP:Try.prog.cellsOf 27=6:=by kernel_rfl
theorem open_P_cells {H:Type} {enc:TypeId×Value→H} {w:World} {base:Nat} {spare:Nat→Bool} {held:Bool} (fuel:Nat):∀ (cs:List Value) (x:DataW H×List MemPlace),
  DataW.trod enc Try.prog w base spare held fuel 27 cs=some x→∃ v F,PR w v cs F∧Under w.heap.size F:=by
 induction fuel using Nat.strongRecOn with
 |ind fuel ih =>
 intro cs x h
 obtain ⟨xs,n,rfl,-,hl,hxl,hf⟩:=DataW.trod_struct Try.underlying27 h
 rw [cellsOf_lawsP] at hl
 match cs,hl with
 |[c0,c1,c2,c3,c4,c5],_ =>
 obtain ⟨y,hq⟩:=one_field hf (by kernel_rfl) hxl 5 _ rfl c5 rfl
 obtain ⟨y0,f0⟩:=one_field hf (by kernel_rfl) hxl 0 _ rfl c0 rfl
 obtain ⟨i0,e0,-,-⟩:=DataW.trod_int Try.underlying3 f0
 obtain ⟨y1,f1⟩:=one_field hf (by kernel_rfl) hxl 1 _ rfl c1 rfl
 obtain ⟨i1,e1,-,-⟩:=DataW.trod_int Try.underlying3 f1
 obtain ⟨y2,f2⟩:=one_field hf (by kernel_rfl) hxl 2 _ rfl c2 rfl
 obtain ⟨i2,e2,-,-⟩:=DataW.trod_int Try.underlying3 f2
 obtain ⟨y3,f3⟩:=one_field hf (by kernel_rfl) hxl 3 _ rfl c3 rfl
 obtain ⟨i3,e3,-,-⟩:=DataW.trod_int Try.underlying3 f3
 obtain ⟨y4,f4⟩:=one_field hf (by kernel_rfl) hxl 4 _ rfl c4 rfl
 obtain ⟨i4,e4,-,-⟩:=DataW.trod_int Try.underlying3 f4
 simp only [List.cons.injEq,and_true] at e0 e1 e2 e3 e4
 subst e0 e1 e2 e3 e4
 cases n with
 |zero=>simp [DataW.trod] at hq
 |succ n =>
  obtain ⟨ks,kv,F,ek,ha,hF⟩:=open_Arr (PR w) Try.underlying25 cellsOf_lawsP (by decide) rfl (fun ds y hd _=>ih n (by omega) ds y hd) hq
  simp only [List.cons.injEq,and_true] at ek
  subst ek
  exact ⟨⟨i0,i1,i2,i3,i4,ks⟩,F,(zA4 _ _ _).2 ⟨_,rfl,ha⟩,hF⟩
theorem open_P {H:Type} {enc:TypeId×Value→H} {w:World} {base:Nat} {spare:Nat→Bool} {held:Bool} {r:Reach} {b0:Nat} {v:Value} {d:DataW H} {ps:List MemPlace} (hval:Value.okWide Try.prog w r b0 27 v)
  (h:DataW.Trod enc Try.prog w base spare held 27 v d ps):∃ (x:P) (cs:List Value) (F:List Nat),v=.agg cs.toArray∧PR w x cs F∧Under w.heap.size F:=by
 obtain ⟨cs,rfl,-⟩:=okWide_struct Try.underlying27 hval
 obtain ⟨fuel,hf⟩:=h
 obtain ⟨x,F,h1,h2⟩:=open_P_cells fuel _ _ hf
 exact ⟨x,cs.toList,F,by simp,h1,h2⟩
end Go.Proofs.Ytghekinfoadcoaa
