/-
  Lemmas, and contracts of functions. Conditions: none.
-/
import Derived.Test.YtjjclcmmfeegfaaGAA
import Derived.Maps.Own
import Derived.Maps.OwnOps
import Derived.StringKeys
import Derived.Deep.RegionWith
import Derived.Deep.RegionHeld3
import Derived.Test.YtjjclcmmfeegfaaChecked
import Derived.Deep.QuietTactic
import Derived.BigQuiet
import Derived.IntWalk
import Derived.Laws.OwnMore

set_option linter.unusedVariables false
set_option linter.unusedSimpArgs false
set_option maxRecDepth 100000
set_option maxHeartbeats 1600000

namespace Go.Proofs.Ytjjclcmmfeegfaa
open Go.RowKit
open Go.Maps
def strLit (s:ByteArray):Lit:=.string s.data.toList
theorem strLit_same (a b:ByteArray):(strLit a).sameKey (strLit b)=(a.toList==b.toList):=by
 rw [ByteArray.toList_eq,ByteArray.toList_eq];rfl
theorem any_same (names:List ByteArray) (s:ByteArray):((names.map strLit).any fun x=>x.sameKey (strLit s))=nameIn names s:=by
 induction names with
 |nil=>rfl
 |cons x xs ih=>rw [List.map_cons,List.any_cons,ih,strLit_same];rfl
theorem isKey_str (s:ByteArray):WideAt.IsKeyLit (strLit s):=trivial
theorem atKey_setOf {H:Type} (u z:DataW H) (k:Lit) (acc:List Lit) (ha:∀ x∈acc,WideAt.IsKeyLit x) (hk:WideAt.IsKeyLit k):(setOf u acc).atKey k z=if acc.any (fun x=>x.sameKey k) then u else z:=by
 cases h:acc.any (fun x=>x.sameKey k) with
 |false =>
  rw [if_neg (by simp)]
  exact atKey_of_not_has ((has_setOf u k acc ha).trans h) z
 |true =>
  rw [if_pos rfl]
  revert h
  have key:∀ n (acc:List Lit),acc.length=n→(∀ x∈acc,WideAt.IsKeyLit x)→acc.any (fun x=>x.sameKey k)=true→(setOf u acc).atKey k z=u:=by
   intro n
   induction n with
   |zero=>intro acc hl _ h;rw [List.length_eq_zero_iff.1 hl] at h;simp at h
   |succ n ih =>
    intro acc hl ha h
    obtain ⟨l,x,rfl⟩:∃ l x,acc=l ++ [x]:=⟨acc.dropLast,acc.getLast (by intro e;rw [e] at hl;simp at hl),(List.dropLast_concat_getLast _).symm⟩
    rw [setOf_snoc]
    have hl':∀ y∈l,WideAt.IsKeyLit y:=fun y hy=>ha y (List.mem_append.2 (.inl hy))
    by_cases e:k=x
    ·subst e
     exact atKey_put_same (tidy_setOf u l hl').isMap hk u z
    ·rw [atKey_put_other e]
     refine ih l (by simpa using hl) hl' ?_
     rw [List.any_append,Bool.or_eq_true] at h
     rcases h with h | h
     ·exact h
     ·simp only [List.any_cons,List.any_nil,Bool.or_false] at h
      exact absurd ((WideAt.sameKey_iff hk).1 h).symm e
  exact key _ acc rfl ha
theorem lawS:Maps.Keyed Try.prog 9:=string_keyed Try.underlying9
theorem zeroB (w:World):(zeroValue 4).run Try.prog w=.ok (.bool false) w:=by kernel_rfl
def OwnsNames (w:World) (b:Nat) (names:List ByteArray):Prop:=w.ownsMap (H:=Unit) Try.prog 9 (Go.plainElem Try.prog 4) b names.length (setOf (.lit (.bool true)) (names.map strLit))
theorem OwnsNames.made (w:World):OwnsNames (w.alloc (.map #[] 0)) w.heap.size []:=World.ownsMap_made w _ _ _
theorem OwnsNames.kept {w w':World} {b:Nat} {names:List ByteArray} {row:Option Nat} (h:OwnsNames w b names) (hg:w.grownBy w' row) (hne:some b≠row):OwnsNames w' b names:=World.ownsMap.kept h hg hne
theorem OwnsNames.below {w w':World} {b:Nat} {names:List ByteArray} (h:OwnsNames w b names) (hb:Below w w w'):OwnsNames w' b names :=
 h.kept (row:=none) ⟨hb.os,hb.tape,hb.output,hb.size,fun k hk _=>hb.block k hk⟩ (by simp)
theorem OwnsNames.alloc {w:World} {b:Nat} {names:List ByteArray} (h:OwnsNames w b names) (o:Obj):OwnsNames (w.alloc o) b names:=World.ownsMap.alloc h o
theorem OwnsNames.lt {w:World} {b:Nat} {names:List ByteArray} (h:OwnsNames w b names):b<w.heap.size:=World.ownsMap.lt h
theorem keyS (s:ByteArray) (hs:s.size≤maxLen):Go.keyOf Try.prog 9 (.string s)=some (strLit s):=Go.WideMaps.keyOf_string_mk Try.underlying9 hs
theorem OwnsNames.look {w:World} {b:Nat} {names:List ByteArray} (h:OwnsNames w b names) (s:ByteArray) (hs:s.size≤maxLen):(Instr.lookup 121 (.map (some b)) (.string s) false).run Try.prog w=.ok (.bool (nameIn names s)) w:=by
 obtain ⟨c,hr,hc⟩:=lookup_bool h lawS Try.underlying121 Try.underlying4 (zeroB w) (keyS s hs)
 rw [hr,atKey_setOf _ _ _ _ (fun x hx=>by obtain ⟨y,-,rfl⟩:=List.mem_map.1 hx;exact isKey_str y) (isKey_str s),any_same] at *
 cases hn:nameIn names s <;> rw [hn] at hc
 ·rw [if_neg (by simp)] at hc;cases hc;rfl
 ·rw [if_pos rfl] at hc;cases hc;rfl
theorem OwnsNames.put {w:World} {b:Nat} {names:List ByteArray} (h:OwnsNames w b names) (s:ByteArray) (w':World) (h':w'.ownsMap (H:=Unit) Try.prog 9 (Go.plainElem Try.prog 4) b (names.length+1) ((setOf (.lit (.bool true)) (names.map strLit)).put (strLit s) (.lit (.bool true)))):OwnsNames w' b (names ++ [s]):=by
 unfold OwnsNames
 rw [List.map_append,List.map_cons,List.map_nil,setOf_snoc,List.length_append]
 exact h'
theorem OwnsNames.add {w:World} {b:Nat} {names:List ByteArray} (h:OwnsNames w b names) (hn:names.length<1000000) (s:ByteArray) (hs:s.size≤maxLen) :
  ∃ w',(Instr.mapUpdate 121 (.map (some b)) (.string s) (.bool true)).run Try.prog w=.ok () w'∧OwnsNames w' b (names ++ [s])∧w.grownBy w' (some b):=by
 obtain ⟨w',hr,h1,h2⟩:=World.ownsMap.update h lawS Try.underlying121 (by unfold maxLen;omega) (keyS s hs) (plainElem_bool Try.underlying4 true)
 exact ⟨w',hr,h.put s w' h1,h2⟩
theorem ctorNames_len (xs:List Dt) (h:∀ x∈xs,x.ctors.length≤4):(ctorNames xs).length≤4*xs.length:=by
 induction xs with
 |nil=>simp [ctorNames]
 |cons x xs ih =>
  have h1:=h x (by simp)
  have h2:=ih fun y hy=>h y (by simp [hy])
  simp only [ctorNames,List.flatMap_cons,List.length_append,List.length_map,List.length_cons] at h2 ⊢
  omega
theorem dname_one {s:ByteArray} (h:s.size=1) (p:0<s.size):dnameOk s.data.toList=(bigB (s[0]'p) && !(s.toList==[73])):=by
 rw [ByteArray.toList_eq,one_byte s h]
 show (bigB (s[0]'p) && !(s[0]==73))=_
 congr 2
 simp
theorem dname_not {s:ByteArray} (h:s.size≠1):dnameOk s.data.toList=false:=by
 have hl:s.data.toList.length≠1:=by simpa using h
 generalize s.data.toList=l at *
 match l,hl with
 |[],_=>rfl
 |[c],hl=>simp at hl
 |_ :: _ :: _,_=>rfl
theorem impl_WorldValid (xs:List Dt) (w:World) (v:Value) (F:List Nat) (hx:Arr w (DtR w) xs v F) (hf:Under w F) :
  Calls Try.prog 61 #[v] w fun e w'=>e=.returned (.bool (worldOk xs))∧Below w w w':=by
 obtain ⟨A,cap,rfl,hc1,hc2⟩:=hx.form
 have hn:xs.length≤9223372036854775807:=by omega
 have HX:=jj hx
 have HF:=jj hf
 have HN:=jj hn
 clear hx hf hn
 by_cases h4:xs.length≤4
 ·have H0:=jj (WInv.zero h4)
  have hmm:=@run_makeMap Try.prog
  go_enter Try.func61,Try.ntmps61
  go_wp2
  clear hmm
  have HM0:Hid (OwnsNames ((w.alloc (.map #[] 0)).alloc (.map #[] 0)) w.heap.size (ctorNames (xs.take 0))):=(OwnsNames.made w).alloc _
  have HD0:Hid (OwnsNames ((w.alloc (.map #[] 0)).alloc (.map #[] 0)) (w.heap.size+1) ((xs.take 0).map Dt.name)):=by
   have:=OwnsNames.made (w.alloc (.map #[] 0))
   rwa [World.size_alloc] at this
  go_loopw [16] (fun iv wr=>∃ d:Nat,d≤xs.length∧iv=.int .i64 d∧Hid (WInv xs d)∧Below w w wr∧Hid (OwnsNames wr (w.heap.size+1) ((xs.take d).map Dt.name))∧Hid (OwnsNames wr w.heap.size (ctorNames (xs.take d)))∧Hid (∀ x∈xs.take d,x.ctors.length≤4)∧w.heap.size+1<wr.heap.size) (fun iv _=>xs.length-(intOf iv).toNat)
  case atStart=>exact ⟨0,Nat.zero_le _,rfl,H0,((zy2 _ _).alloc (zz8 _) _).alloc (by simp) _,HD0,HM0,fun x hx=>by simp at hx,by simp⟩
  case round =>
   obtain ⟨d,hd,rfl,HW,hB,HD,HM,H4,hz⟩:=hrel
   by_cases hlt:d<xs.length
   ·obtain ⟨b,off,rfl⟩:=HX.out.ptr (by omega)
    obtain ⟨A1,cap1,G1,hb,c0,c1,HK,HG,hs,hn1,hn2⟩:=ArrDt.at HX.out HF.out hB d hlt
    have g1:(0:Int)≤(d:Int):=by omega
    have g2:(d:Int)<(xs.length:Int):=by omega
    have hsm:xs[d].name.size≤maxLen:=by unfold maxLen;exact hs
    have HS:=jj hsm
    clear hs hsm
    have hlk:=(HD.out.alloc (.cells #[.string xs[d].name,.slice A1 xs[d].ctors.length cap1] 113)).look xs[d].name HS.out
    by_cases h1:xs[d].name.size=1
    ·have t1:((xs[d].name.size:Int) != 1)=false:=by simp [h1]
     have p0:0<xs[d].name.size:=by omega
     have hdn:=dname_one h1 p0
     clear h1
     cases hlo:decide ((65:Int)≤(xs[d].name[0].toNat:Int)) with
     |false =>
      have t2:decide ((xs[d].name[0].toNat:Int)<65)=true:=by simp at hlo ⊢;omega
      have hf:=jj (HW.out.bad1 hlt (by rw [hdn];unfold bigB;rw [hlo];rfl))
      clear hdn hlo hlk
      go_wp2
      go_ret
      exact ⟨zA0 hf.out.symm,hB.alloc hB.size _⟩
     |true =>
      have t2:decide ((xs[d].name[0].toNat:Int)<65)=false:=by simp at hlo ⊢;omega
      cases hhi:decide ((xs[d].name[0].toNat:Int)≤90) with
      |false =>
       have t3:decide ((xs[d].name[0].toNat:Int)>90)=true:=by simp at hhi ⊢;omega
       have hf:=jj (HW.out.bad1 hlt (by rw [hdn];unfold bigB;rw [hlo,hhi];rfl))
       clear hdn hlo hhi hlk
       go_wp2
       go_ret
       exact ⟨zA0 hf.out.symm,hB.alloc hB.size _⟩
      |true =>
       have t3:decide ((xs[d].name[0].toNat:Int)>90)=false:=by simp at hhi ⊢;omega
       have hbig:bigB xs[d].name[0]=true:=by unfold bigB;rw [hlo,hhi];rfl
       clear hlo hhi
       rw [hbig,Bool.true_and] at hdn
       clear hbig
       cases t4:(xs[d].name.toList==[73]) with
       |true =>
        have hf:=jj (HW.out.bad1 hlt (by rw [hdn,t4];rfl))
        clear hdn hlk
        go_wp2
        go_ret
        exact ⟨zA0 hf.out.symm,hB.alloc hB.size _⟩
       |false =>
        rw [t4] at hdn
        have HDN:=jj hdn
        clear hdn
        cases e3:nameIn ((xs.take d).map Dt.name) xs[d].name with
        |true =>
         have hf:=jj (HW.out.bad3 hlt e3)
         rw [e3] at hlk
         clear e3
         go_wp2
         go_ret
         exact ⟨zA0 hf.out.symm,hB.alloc hB.size _⟩
        |false =>
         rw [e3] at hlk
         have HE3:=jj e3
         clear e3
         cases e4:withinB (xs[d].ctors.length:Int) 1 4 with
         |false =>
          have hf:=jj (HW.out.bad2 hlt e4)
          have HE4:=jj e4
          clear e4
          go_wp2_with fail
          refine (zAE (xs[d].ctors.length:Int) 1 4 _).mono ?_
          rintro e w2 ⟨rfl,rfl⟩
          rw [HE4.out]
          go_wp2
          go_ret
          exact ⟨zA0 hf.out.symm,hB.alloc hB.size _⟩
         |true =>
          have HK0:=jj (HW.out.goI hlt HDN.out e4 HE3.out)
          have h5:xs[d].ctors.length≤4:=by have:=(zAF _ _ _).1 e4;omega
          have H5:=jj h5
          have HE4:=jj e4
          clear e4 h5
          obtain ⟨w2,hrun2,hm2,hg2⟩:=(HD.out.alloc (.cells #[.string xs[d].name,.slice A1 xs[d].ctors.length cap1] 113)).add (by rw [List.length_map,List.length_take];omega) xs[d].name HS.out
          have k2:=Blk.new wr 113 #[.string xs[d].name,.slice A1 xs[d].ctors.length cap1]
          have k3:=k2.same (hg2.block _ k2.lt (by have:=HD.out.lt;simp;omega))
          have x1:w2.cell? ⟨wr,1,none⟩=some (.slice A1 xs[d].ctors.length cap1):=(k3.cell 1).trans (by simp)
          have hx1:=k3.lt
          clear k2 k3
          have hBa:Below w w (wr.alloc (.cells #[.string xs[d].name,.slice A1 xs[d].ctors.length cap1] 113)):=hB.alloc hB.size _
          have hB3:=hBa.grown hg2 hBa.size (fun _ h=>by cases h;omega)
          have HM3:Hid (OwnsNames w2 w.heap.size (ctorNames (xs.take d) ++ (xs[d].ctors.take 0).map Kt.name)):=by
           rw [List.take_zero,List.map_nil,List.append_nil]
           exact (HM.out.alloc _).kept hg2 (by simp)
          have HD3:Hid (OwnsNames w2 (w.heap.size+1) ((xs.take (d+1)).map Dt.name)):=by
           rw [take_snoc' xs d hlt,List.map_append];exact hm2
          have hz3:w.heap.size+1<w2.heap.size:=by have:=hg2.size;simp at this;omega
          clear hm2 hg2 hBa HD HM hz
          go_wp2_with fail
          refine (zAE (xs[d].ctors.length:Int) 1 4 _).mono ?_
          rintro e w2' ⟨rfl,rfl⟩
          rw [HE4.out]
          go_wp2
          clear x1 hx1 hrun2 hlk t1 t2 t3 t4 c0 c1
          obtain ⟨wo,hwo⟩:∃ wo:World,wo=w2:=⟨_,rfl⟩
          go_loopw [60] (fun jv ws=>∃ k:Nat,k≤xs[d].ctors.length∧jv=.int .i64 k∧Hid (KInvI xs d hlt k)∧Below w w ws∧Hid (OwnsNames ws (w.heap.size+1) ((xs.take (d+1)).map Dt.name))∧Hid (OwnsNames ws w.heap.size (ctorNames (xs.take d) ++ (xs[d].ctors.take k).map Kt.name))∧w.heap.size+1<ws.heap.size) (fun jv _=>xs[d].ctors.length-(intOf jv).toNat)
          case atStart=>exact ⟨0,Nat.zero_le _,rfl,HK0,hB3,HD3,HM3,hz3⟩
          case round =>
           clear hwo hz3 hB3 hB
           obtain ⟨k,hk,rfl,HKI,hB,HD,HM,hz⟩:=hrel
           by_cases hkl:k<xs[d].ctors.length
           ·obtain ⟨b2,off2,rfl⟩:=HK.out.ptr (by omega)
            obtain ⟨A3,cap3,G3,hb3,k0,k1,k2,HC,HG3,hs3,-,-⟩:=ArrKt.rep HK.out HG.out hB k hkl
            have g3:(0:Int)≤(k:Int):=by omega
            have g4:(k:Int)<(xs[d].ctors.length:Int):=by omega
            have HS3:=jj hs3
            clear hs3
            go_wp2_with fail
            obtain ⟨W4,hW4⟩:∃ W4,W4=wr.alloc (.cells #[.string xs[d].ctors[k].name,.slice A3 xs[d].ctors[k].args.length cap3,xs[d].ctors[k].idx] 118):=⟨_,rfl⟩
            have hb4:Below wr wr W4:=by rw [hW4];exact (zy2 _ _).alloc (zz8 _) _
            have k4:Blk W4 wr 118 #[.string xs[d].ctors[k].name,.slice A3 xs[d].ctors[k].args.length cap3,xs[d].ctors[k].idx]:=by rw [hW4];exact Blk.new _ _ _
            rw [←hW4]
            clear hW4
            have hB4:=hB.trans (hb4.mono hB.size)
            refine (impl_ctorOk _ xs.length cap xs[d].ctors[k] W4 _ _ HN.out (HC.out.below hB4 HG3.out) (HG3.out.mono hB4.size)).mono ?_
            rintro e w5 ⟨rfl,hb5⟩
            have hB5:=hB4.trans (hb5.mono hB4.size)
            have k5:=k4.same (hb5.block _ k4.lt)
            have x0:w5.cell? ⟨wr,0,none⟩=some (.string xs[d].ctors[k].name):=(k5.cell 0).trans (by simp)
            have hx0:=k5.lt
            clear k4 k5 k0 k1 k2
            have HD5:=jj ((HD.out.below hb4).below hb5)
            have HM5:=jj ((HM.out.below hb4).below hb5)
            have hlk:=HM5.out.look xs[d].ctors[k].name (by unfold maxLen;exact HS3.out)
            cases e2:ctorOkB xs.length xs[d].ctors[k] with
            |false =>
             have hf:=jj (HKI.out.bad1 hkl e2)
             clear e2 hlk
             go_wp2
             go_ret
             exact ⟨zA0 hf.out.symm,hB5⟩
            |true =>
             cases e3:nameIn (ctorNames (xs.take d) ++ (xs[d].ctors.take k).map Kt.name) xs[d].ctors[k].name with
             |true =>
              have hf:=jj (HKI.out.bad2 hkl e3)
              rw [e3] at hlk
              clear e2 e3
              go_wp2
              go_ret
              exact ⟨zA0 hf.out.symm,hB5⟩
             |false =>
              have HK3:=jj (HKI.out.next hkl e2 e3)
              rw [e3] at hlk
              clear e2 e3
              obtain ⟨w6,hrun6,hm6,hg6⟩:=HM5.out.add (by
               have h1:=ctorNames_len (xs.take d) (fun x hx=>H4.out x hx)
               have h2:(xs.take d).length≤4:=by rw [List.length_take];omega
               have h3:=H5.out
               simp only [List.length_append,List.length_map,List.length_take]
               omega) xs[d].ctors[k].name (by unfold maxLen;exact HS3.out)
              have hB6:=hB5.grown hg6 hB5.size (fun _ h=>by cases h;exact zz8 _)
              have HD6:=jj (HD5.out.kept hg6 (by simp))
              have HM6:Hid (OwnsNames w6 w.heap.size (ctorNames (xs.take d) ++ (xs[d].ctors.take (k+1)).map Kt.name)):=by
               rw [take_snoc' _ k hkl,List.map_append,←List.append_assoc];exact hm6
              have hz6:w.heap.size+1<w6.heap.size:=zz9 hz (Nat.le_trans hb4.size (Nat.le_trans hb5.size hg6.size))
              clear hm6 hg6 hb5 hb4 HD5 HM5 hB4 hB5 hB
              go_wp2
              go_roundw
              case rel=>exact ⟨k+1,by omega,by go_num,HK3,hB6,HD6,HM6,hz6⟩
              case measure=>(simp [intOf] <;> omega)
           ·have HW2:=jj (HKI.out.done (by omega))
            have HM6:Hid (OwnsNames wr w.heap.size (ctorNames (xs.take (d+1)))):=by
             have h:=HM.out
             rw [List.take_of_length_le (show xs[d].ctors.length≤k by omega),←ctorNames_snoc,←take_snoc' xs d hlt] at h
             exact h
            have H6:Hid (∀ x∈xs.take (d+1),x.ctors.length≤4):=fun x hx=>by
             rw [take_snoc' xs d hlt] at hx
             rcases List.mem_append.1 hx with h | h
             ·exact H4.out x h
             ·rw [List.mem_singleton.1 h];exact H5.out
            go_wp2
            go_roundw
            case rel=>exact ⟨d+1,by omega,by go_num,HW2,hB,HD,HM6,H6,hz⟩
            case measure=>(simp [intOf] <;> omega)
    ·have t1:((xs[d].name.size:Int) != 1)=true:=by simp;omega
     have hf:=jj (HW.out.bad1 hlt (dname_not h1))
     clear h1 hlk
     go_wp2
     go_ret
     exact ⟨zA0 hf.out.symm,hB.alloc hB.size _⟩
   ·have hf:=jj (HW.out.done (by omega))
    go_wp2
    go_ret
    exact ⟨zA0 hf.out.symm,hB⟩
 ·have hf:=jj (worldOk_long h4)
  go_enter Try.func61,Try.ntmps61
  go_wp2
  go_ret
  exact ⟨zA0 hf.out.symm,zy2 _ _⟩
theorem impl_typeOk (A:Option Addr) (n cap:Nat) (t:Ty) (w:World) (hn:n≤9223372036854775807):Calls Try.prog 62 #[.slice A n cap,.agg #[t.d,t.i]] w fun e w'=>e=.returned (.bool (typeOkB n t))∧Below w w w':=by
 cases h0:(t.d == -1) with
 |true =>
  cases h1:(t.i==0) with
  |true =>
   have hf:Hid (typeOkB n t=true):=by unfold Hid typeOkB;rw [if_pos (by simpa using h0),h1]
   go_enter Try.func62,Try.ntmps62
   go_wp2
   go_ret
   exact ⟨zA0 hf.out.symm,(zy2 _ _).alloc (zz8 _) _⟩
  |false =>
   have hf:Hid (typeOkB n t=false):=by unfold Hid typeOkB;rw [if_pos (by simpa using h0),h1]
   have hw:Hid (withinB t.d 0 ((n:Int)-1)=false):=by
    have:t.d = -1:=by simpa using h0
    exact withinB_lo (by rw [this];rfl)
   go_enter Try.func62,Try.ntmps62
   go_wp2_with fail
   refine (zAE t.d 0 ((n:Int)-1) _).mono ?_
   rintro e w' ⟨rfl,rfl⟩
   rw [hw.out]
   go_wp2
   go_ret
   exact ⟨zA0 hf.out.symm,(zy2 _ _).alloc (zz8 _) _⟩
 |false =>
  have hf0:typeOkB n t=(withinB t.d 0 ((n:Int)-1) && withinB t.i 0 3):=by unfold typeOkB;rw [if_neg (by simpa using h0)]
  cases hw:withinB t.d 0 ((n:Int)-1) with
  |false =>
   have hf:Hid (typeOkB n t=false):=by rw [hf0,hw];rfl
   have HW:=jj hw
   clear hf0 hw
   go_enter Try.func62,Try.ntmps62
   go_wp2_with fail
   refine (zAE t.d 0 ((n:Int)-1) _).mono ?_
   rintro e w' ⟨rfl,rfl⟩
   rw [HW.out]
   go_wp2
   go_ret
   exact ⟨zA0 hf.out.symm,(zy2 _ _).alloc (zz8 _) _⟩
  |true =>
   have hf:Hid (typeOkB n t=withinB t.i 0 3):=by rw [hf0,hw];rfl
   have HW:=jj hw
   clear hf0 hw
   go_enter Try.func62,Try.ntmps62
   go_wp2_with fail
   refine (zAE t.d 0 ((n:Int)-1) _).mono ?_
   rintro e w' ⟨rfl,rfl⟩
   rw [HW.out]
   go_wp2_with fail
   refine (zAE t.i 0 3 _).mono ?_
   rintro e w' ⟨rfl,rfl⟩
   generalize hbb:withinB t.i 0 3=bb
   have HBB:=jj hbb
   clear hbb
   go_wp2
   go_ret
   exact ⟨zA0 (hf.out.trans HBB.out).symm,(zy2 _ _).alloc (zz8 _) _⟩
theorem spec_l1Is (A:Option Addr) (n cap:Nat) (t:Ty) (w:World):Calls Try.prog 72 #[.slice A n cap,.agg #[t.d,t.i]] w fun e w'=>e=.returned (.bool (typeOkB n t))∧Below w w w':=by
 have h0:=typeOkB_arg n t
 go_enter Try.func72,Try.ntmps72
 go_wp2_with fail
 obtain ⟨W2,hW2⟩:∃ W2,W2=w.alloc (.cells #[t.d,t.i] 25):=⟨_,rfl⟩
 have hB2:Below w w W2:=by rw [hW2];exact (zy2 _ _).alloc (zz8 _) _
 have k1:Blk W2 w 25 #[t.d,t.i]:=by rw [hW2];exact Blk.new _ _ _
 rw [←hW2]
 clear hW2
 refine (spec_l1Arg n t W2).mono ?_
 rintro e w' ⟨rfl,hB'⟩
 have hB3:=hB2.trans (hB'.mono hB2.size)
 have k2:=k1.same (hB'.block _ k1.lt)
 have x1:w'.cell? ⟨w,1,none⟩=t.i:=(k2.cell 1).trans (by simp)
 have hlt:=k2.lt
 clear k1 k2
 cases h1:argOkB n t with
 |false =>
  rw [h1] at h0
  have hf:=jj h0
  clear h0 h1
  go_wp2
  go_ret
  exact ⟨zA0 hf.out,hB3⟩
 |true =>
  rw [h1,Bool.true_and] at h0
  have hf:=jj h0
  clear h0 h1
  go_wp2
  go_ret
  exact ⟨zA0 hf.out,hB3⟩
theorem spec_TypeValid (xs:List Dt) (t:Ty) (w:World) (v:Value) (F:List Nat) (hx:Arr w (DtR w) xs v F) (hf:Under w F) :
  Calls Try.prog 48 #[v,.agg #[t.d,t.i]] w fun e w'=>e=.returned (.bool (typeValidB xs t))∧Below w w w':=by
 obtain ⟨A,cap,rfl,hc1,hc2⟩:=hx.form
 have hn:xs.length≤9223372036854775807:=by omega
 have HX:=jj hx
 have HF:=jj hf
 have HN:=jj hn
 clear hx hf hn
 go_enter Try.func48,Try.ntmps48
 go_wp2_with fail
 obtain ⟨W2,hW2⟩:∃ W2,W2=w.alloc (.cells #[t.d,t.i] 25):=⟨_,rfl⟩
 have hB2:Below w w W2:=by rw [hW2];exact (zy2 _ _).alloc (zz8 _) _
 have k1:Blk W2 w 25 #[t.d,t.i]:=by rw [hW2];exact Blk.new _ _ _
 rw [←hW2]
 clear hW2
 refine (spec_WorldValid xs W2 _ F (ArrDt.below HX.out hB2 HF.out) (HF.out.mono hB2.size)).mono ?_
 rintro e w' ⟨rfl,hB'⟩
 have hB3:=hB2.trans (hB'.mono hB2.size)
 have k2:=k1.same (hB'.block _ k1.lt)
 obtain ⟨x0,x1,hlt⟩:=k2.c2
 clear k1 k2
 cases h1:worldOk xs with
 |false =>
  have hf:Hid (typeValidB xs t=false):=by unfold Hid typeValidB;rw [h1];rfl
  clear h1
  go_wp2
  go_ret
  exact ⟨zA0 hf.out.symm,hB3⟩
 |true =>
  have hf:Hid (typeValidB xs t=typeOkB xs.length t):=by unfold Hid typeValidB;rw [h1];rfl
  clear h1
  go_wp2_with fail
  refine (spec_l1Is _ xs.length cap t w').mono ?_
  rintro e w2 ⟨rfl,hB''⟩
  have hB4:=hB3.trans (hB''.mono hB3.size)
  generalize hbb:typeOkB (xs.length:Int) t=bb
  have HBB:=jj hbb
  clear hbb
  go_wp2
  go_ret
  exact ⟨zA0 (hf.out.trans HBB.out).symm,hB4⟩
theorem impl_TypeValid (xs:List Dt) (t:Ty) (w:World) (v:Value) (F:List Nat) (hx:Arr w (DtR w) xs v F) (hf:Under w F) :
  Calls Try.prog 29 #[v,.agg #[t.d,t.i]] w fun e w'=>e=.returned (.bool (typeValidB xs t))∧Below w w w':=by
 obtain ⟨A,cap,rfl,hc1,hc2⟩:=hx.form
 have hn:xs.length≤9223372036854775807:=by omega
 have HX:=jj hx
 have HF:=jj hf
 have HN:=jj hn
 clear hx hf hn
 go_enter Try.func29,Try.ntmps29
 go_wp2_with fail
 obtain ⟨W2,hW2⟩:∃ W2,W2=w.alloc (.cells #[t.d,t.i] 25):=⟨_,rfl⟩
 have hB2:Below w w W2:=by rw [hW2];exact (zy2 _ _).alloc (zz8 _) _
 have k1:Blk W2 w 25 #[t.d,t.i]:=by rw [hW2];exact Blk.new _ _ _
 rw [←hW2]
 clear hW2
 refine (impl_WorldValid xs W2 _ F (ArrDt.below HX.out hB2 HF.out) (HF.out.mono hB2.size)).mono ?_
 rintro e w' ⟨rfl,hB'⟩
 have hB3:=hB2.trans (hB'.mono hB2.size)
 have k2:=k1.same (hB'.block _ k1.lt)
 obtain ⟨x0,x1,hlt⟩:=k2.c2
 clear k1 k2
 cases h1:worldOk xs with
 |false =>
  have hf:Hid (typeValidB xs t=false):=by unfold Hid typeValidB;rw [h1];rfl
  clear h1
  go_wp2
  go_ret
  exact ⟨zA0 hf.out.symm,hB3⟩
 |true =>
  have hf:Hid (typeValidB xs t=typeOkB xs.length t):=by unfold Hid typeValidB;rw [h1];rfl
  clear h1
  go_wp2_with fail
  refine (impl_typeOk _ xs.length cap t w' HN.out).mono ?_
  rintro e w2 ⟨rfl,hB''⟩
  have hB4:=hB3.trans (hB''.mono hB3.size)
  generalize hbb:typeOkB (xs.length:Int) t=bb
  have HBB:=jj hbb
  clear hbb
  go_wp2
  go_ret
  exact ⟨zA0 (hf.out.trans HBB.out).symm,hB4⟩
def ctorsOfL (xs:List Dt) (t:Ty):List Int:=if typeValidB xs t=true then ctorsL xs t else []
theorem spec_l1Fits (c:Kt) (i:Int) (A:Option Addr) (n cap:Nat) (w:World):Calls Try.prog 115 #[.agg #[.string c.name,.slice A n cap,c.idx],.int .i64 i] w fun e w'=>e=.returned (.bool (fitsB c i))∧Below w w w':=by
 cases q1:(c.idx==0) with
 |true =>
  have hf:Hid (fitsB c i=true):=by unfold Hid fitsB;rw [q1,Bool.true_or]
  go_enter Try.func115,Try.ntmps115
  go_wp2
  go_ret
  exact ⟨zA0 hf.out.symm,(zy2 _ _).alloc (zz8 _) _⟩
 |false =>
  cases q0:(i==0) with
  |true =>
   have hf:Hid (fitsB c i=true):=by unfold Hid fitsB;rw [q0,Bool.true_or,Bool.or_true]
   go_enter Try.func115,Try.ntmps115
   go_wp2
   go_ret
   exact ⟨zA0 hf.out.symm,(zy2 _ _).alloc (zz8 _) _⟩
  |false =>
   have hf:Hid (fitsB c i=(c.idx==i)):=by unfold Hid fitsB;rw [q0,q1,Bool.false_or,Bool.false_or]
   go_enter Try.func115,Try.ntmps115
   go_wp2
   go_ret
   exact ⟨zA0 hf.out.symm,(zy2 _ _).alloc (zz8 _) _⟩
theorem spec_l1Ctors (xs:List Dt) (t:Ty) (w:World) (v:Value) (F:List Nat) (hx:Arr w (DtR w) xs v F) (hf:Under w F) (hw:WorldOK xs) (ht:InWorld xs.length t) :
  Calls Try.prog 86 #[v,.agg #[t.d,t.i]] w (MadeNats w (ctorsL xs t)):=by
 obtain ⟨A,cap,rfl,hc1,hc2⟩:=hx.form
 have HX:=jj hx
 have HF:=jj hf
 clear hx hf
 rcases ht with hd | ⟨d,hd,hdl⟩
 ·have hf:=jj (ctorsL_int (xs:=xs) hd)
  have t0:(t.d == -1)=true:=by simp [hd]
  clear hd
  go_enter Try.func86,Try.ntmps86
  go_wp2
  go_ret
  rw [hf.out]
  exact ⟨_,[],rfl,((zy2 _ _).alloc (zz8 _) _).alloc (by simp) _,⟨_,_,rfl,by simp,by simp [maxLen],.inl ⟨rfl,rfl⟩⟩,Free.nil _,Fresh.nil _ _⟩
 ·obtain ⟨t1,t2⟩:=t
  simp only at hd
  subst hd
  have hf:=jj (ctorsL_data (i:=t2) hdl)
  have t0:((d:Int) == -1)=false:=by rw [beq_eq_false_iff_ne];omega
  obtain ⟨i0,hi,hz0,hz1,hz2⟩:=info_parts info_int
  have HI:=jj hi
  have HZ0:=jj hz0
  have HZ1:=jj hz1
  have HZ2:=jj hz2
  clear hi hz0 hz1 hz2
  obtain ⟨b,off,rfl⟩:=HX.out.ptr (by omega)
  have hB0:Below w w ((w.alloc (.cells #[(d:Int),.int .i64 t2] 25)).alloc (.cells #[] 3)):=((zy2 _ _).alloc (zz8 _) _).alloc (by simp) _
  have KT0:Hid (Blk ((w.alloc (.cells #[(d:Int),.int .i64 t2] 25)).alloc (.cells #[] 3)) w.heap.size 25 #[(d:Int),.int .i64 t2]):=(Blk.new _ _ _).same (Below.heap_alloc _ _ _ (by simp))
  have HO0:Hid (Own ((w.alloc (.cells #[(d:Int),.int .i64 t2] 25)).alloc (.cells #[] 3)) (w.heap.size+1) 3 1 NatR ([]:List Int) (.slice (some ⟨w.heap.size+1,0,none⟩) 0 0) []):=by
   have h:=Own.made (w.alloc (.cells #[(d:Int),.int .i64 t2] 25)) (w.heap.size+1) 3 1 NatR #[] 0 (by simp) (by simp [maxLen]) rfl
   rwa [World.size_alloc] at h
  have g1:(0:Int)≤(d:Int):=by omega
  have g2:(d:Int)<(xs.length:Int):=by omega
  have HL:=jj (hw.at hdl).hi
  go_enter Try.func86,Try.ntmps86
  go_wp2
  go_loopw [5,6] (fun ov iv wr=>∃ k:Nat,k≤xs[d].ctors.length∧iv=.int .i64 k∧Hid (Own wr (w.heap.size+1) 3 1 NatR (fitTo xs[d].ctors t2 k) ov [])∧Below w w wr∧Hid (Blk wr w 25 #[(d:Int),.int .i64 t2])) (fun _ iv _=>xs[d].ctors.length-(intOf iv).toNat)
  case atStart=>exact ⟨0,Nat.zero_le _,rfl,HO0,hB0,KT0⟩
  case round =>
   clear hB0 KT0 HO0
   obtain ⟨k,hk,rfl,HO,hB,KT⟩:=hrel
   obtain ⟨A1,cap1,G1,hb,c0,c1,HK,HG,hs,hn1,hn2⟩:=ArrDt.at HX.out HF.out hB d hdl
   clear c0 hs
   have y0:wr.cell? ⟨w,0,none⟩=(d:Int):=(KT.out.cell 0).trans (by simp)
   have y1:wr.cell? ⟨w,1,none⟩=some (.int .i64 t2):=(KT.out.cell 1).trans (by simp)
   have hy1:=KT.out.lt
   by_cases hkl:k<xs[d].ctors.length
   ·obtain ⟨b2,off2,rfl⟩:=HK.out.ptr (by omega)
    obtain ⟨A3,cap3,G3,hb3,k0,k1,k2,HC,HG3,-,-,-⟩:=ArrKt.rep HK.out HG.out hB k hkl
    have g3:(0:Int)≤(k:Int):=by omega
    have g4:(k:Int)<(xs[d].ctors.length:Int):=by omega
    go_wp2_with fail
    have hkeep:Kp wr.heap.size (fun U=>U.cell? ⟨w,0,none⟩=(d:Int)∧U.cell? ⟨w,1,none⟩=some (.int .i64 t2)∧U.cell? ⟨b,off+d*2+1,none⟩=some (.slice (some ⟨b2,off2,none⟩) xs[d].ctors.length cap1)∧U.cell? ⟨b2,off2+k*3,none⟩=some (.string xs[d].ctors[k].name)∧U.cell? ⟨b2,off2+k*3+1,none⟩=some (.slice A3 xs[d].ctors[k].args.length cap3)∧U.cell? ⟨b2,off2+k*3+2,none⟩=xs[d].ctors[k].idx):=fun U U' h hUU hU=>⟨(hUU.cell (zz9 (KT.out.lt) hU)).trans h.1,(hUU.cell (zz9 (KT.out.lt) hU)).trans h.2.1,(hUU.cell (zz9 (hb) hU)).trans h.2.2.1,(hUU.cell (zz9 (hb3) hU)).trans h.2.2.2.1,(hUU.cell (zz9 (hb3) hU)).trans h.2.2.2.2.1,(hUU.cell (zz9 (hb3) hU)).trans h.2.2.2.2.2⟩
    have HKeep:=jj hkeep
    clear hkeep
    go_region_held3 (fun w'=>w'.cell? ⟨w,0,none⟩=(d:Int)∧w'.cell? ⟨w,1,none⟩=some (.int .i64 t2)∧w'.cell? ⟨b,off+d*2+1,none⟩=some (.slice (some ⟨b2,off2,none⟩) xs[d].ctors.length cap1)∧w'.cell? ⟨b2,off2+k*3,none⟩=some (.string xs[d].ctors[k].name)∧w'.cell? ⟨b2,off2+k*3+1,none⟩=some (.slice A3 xs[d].ctors[k].args.length cap3)∧w'.cell? ⟨b2,off2+k*3+2,none⟩=xs[d].ctors[k].idx) (first | assumption | (exact ⟨y0,y1,c1,k0,k1,k2⟩) | (exact HKeep.out wr.drew w' ⟨y0,y1,c1,k0,k1,k2⟩ hB' (zz8 _))) (first | (go_at_call 115;((with_reducible refine (spec_l1Fits xs[d].ctors[k] t2 _ _ _ _).mono ?_);rintro e w' ⟨rfl,hB'⟩)))
    have hB1:=hB.drew.trans (hB'.mono hB.size)
    have HO1:Hid (Own w' (w.heap.size+1) 3 1 NatR (fitTo xs[d].ctors t2 k) u5 []):=Own.below (fun x cs G hk h=>zAX _ _ x cs G hk h) (w:=wr) HO.out (zAU hB')
    have KT1:Hid (Blk w' w.heap.size 25 #[(d:Int),.int .i64 t2]):=KT.out.same (hB'.block _ KT.out.lt)
    have hsz1:wr.heap.size≤w'.heap.size:=hB'.size
    have hz1':w.heap.size+1≤wr.heap.size:=KT.out.lt
    clear HKeep
    cases e1:fitsB xs[d].ctors[k] t2 with
    |false =>
     have HF2:=jj (fitTo_no hkl e1)
     clear e1
     go_wp2
     go_roundw
     case rel=>exact ⟨k+1,by omega,by go_num,(by rw [HF2.out];exact HO1.out),hB1,KT1⟩
     case measure=>(simp [intOf] <;> omega)
    |true =>
     have HF2:=jj (fitTo_yes hkl e1)
     clear e1
     have hlen:=fitTo_len xs[d].ctors t2 k
     go_wp2_with (at_builtin;refine Halt.mk ?_)
     refine Halt.of (zA3 (P:=Try.prog) rfl _ _ 72 rfl i0 _ 8 Try.underlying72 HI.out HZ0.out HZ1.out HZ2.out rfl Nat.zero_lt_one NatR_len zAX (by rfl) HO1.out (k:Int) 3 [(k:Int)] [] _ (by rfl) (by simp) (by simp [Value.oneCell']) ⟨rfl,rfl⟩ (Under.nil _) (fun _ _ h=>by cases h) (by have:=HL.out;unfold maxLen;omega) (by have:=HL.out;omega) (Nat.le_trans hz1' hsz1) ?_)
     intro g cp w3 hown3 hgr3 hat3
     have hrow:=HO1.out.row
     have hB3:Below w w w3:=(hB1.alloc hB1.size _).grown hgr3 (by have:=hB1.size;simp;omega) (fun g hg=>by have:=hrow g (zA2.2 hg);omega)
     have HO3:=jj hown3
     have KT3:Hid (Blk w3 w 25 #[(d:Int),.int .i64 t2]):=(KT1.out.same (Below.heap_alloc _ _ _ KT1.out.lt)).same (hgr3.block _ (by have:=KT1.out.lt;simp;omega) (fun e=>by have:=hrow _ (zA2.2 e.symm);omega))
     have hsz3:=hgr3.size
     clear hown3 hgr3 hat3 hrow hlen
     go_wp2
     go_roundw
     case rel=>exact ⟨k+1,by omega,by go_num,(by rw [HF2.out];exact HO3.out),hB3,KT3⟩
     case measure=>(simp [intOf] <;> omega)
   ·have hfin:MadeNats w (ctorsL xs ⟨(d:Int),t2⟩) (.returned u5) wr:=by
     rw [hf.out]
     have h:=HO.out
     rw [show k=xs[d].ctors.length by omega] at h
     exact h.nats hB (by omega)
    have HFin:=jj hfin
    clear hfin
    go_wp2
    go_ret
    exact HFin.out
theorem ArrNat.at {w0 w:World} {b off n cap:Nat} {F:List Nat} {xs:List Int} (h:Arr w0 (NatR w0) xs (.slice (some ⟨b,off,none⟩) n cap) F) (hF:Under w0 F) (hB:Below w0 w0 w) (i:Nat) (hi:i<xs.length) :
  b<w.heap.size∧w.cell? ⟨b,off+i,none⟩=some (.int .i64 xs[i]):=by
 obtain ⟨b',off',cs,G,e,hb,hcs,hv,hG⟩:=h.get (NatR_len _) hi
 cases e
 have hbl:=hF _ hb
 have hc:=hcs.same (hB.block _ hbl)
 obtain ⟨rfl,-⟩:=hv
 have:=hc 0 _ rfl
 rw [Nat.mul_one] at this
 exact ⟨zz9 hbl hB.size,this⟩
theorem ArrNat.below {w w':World} {B:Nat} {vs:List Int} {x:Value} {F:List Nat} (h:Arr w (NatR w) vs x F) (hb:Below B w w') (hF:Under B F):Arr w' (NatR w') vs x F:=h.mono (.of_below hb hF) fun v _ cs G hk h=>zAX _ _ v cs G hk h
theorem ArrNat.kept {w w':World} {vs:List Int} {x:Value} {F:List Nat} (h:Arr w (NatR w) vs x F) (hF:Kept F w w'):Arr w' (NatR w') vs x F:=h.mono hF fun v _ cs G hk h=>zAX _ _ v cs G hk h
theorem ArrNat.drew {w:World} {vs:List Int} {x:Value} {F:List Nat} (h:Arr w (NatR w) vs x F):Arr w.drew (NatR w.drew) vs x F:=ArrNat.kept (w:=w) h (fun _ _=>rfl)
def hasB (xs:List Int) (n:Int):Bool:=xs.any fun x=>n==x
theorem hasB_iff (xs:List Int) (n:Int):hasB xs n=true↔n∈xs:=by
 unfold hasB
 rw [List.any_eq_true]
 exact ⟨fun ⟨x,h,e⟩=>by rw [beq_iff_eq] at e;rw [e];exact h,fun h=>⟨n,h,by simp⟩⟩
theorem Index_int (xs:List Int) (n r:Int) (hr:FirstAt (fun x=>n==x) xs r) (w:World) (x:Value) (F:List Nat) (hx:Arr w (NatR w) xs x F) (hf:Under w F) :
  Calls Try.prog 123 #[x,.int .i64 n] w fun e w'=>e=.returned (.int .i64 r)∧Below w w w':=by
 obtain ⟨A,cap,rfl,hc1,hc2⟩:=hx.form
 have HX:=jj hx
 have HF:=jj hf
 have HR:=jj hr
 clear hx hf hr
 go_enter Try.func123,Try.ntmps123
 go_wp2
 go_loopw [8] (fun i wr=>∃ k:Nat,k≤xs.length∧i=.int .i64 k∧Hid (∀ j (hj:j<xs.length),j<k→(n==xs[j])=false)∧Below w w wr) (fun i _=>xs.length-(intOf i).toNat)
 case atStart=>exact ⟨0,Nat.zero_le _,rfl,fun j hj h=>by omega,zy2 _ _⟩
 case round =>
  obtain ⟨k,hk,rfl,HT,hB⟩:=hrel
  by_cases hlt:k<xs.length
  ·have g1:(0:Int)≤(k:Int):=by omega
   have g2:(k:Int)<(xs.length:Int):=by omega
   obtain ⟨b,off,rfl⟩:=HX.out.ptr (by omega)
   obtain ⟨hb,c0⟩:=ArrNat.at HX.out HF.out hB k hlt
   cases hq:(n==xs[k]) with
   |true =>
    have hf:=jj (HR.out.hit hlt hq (fun j hj h=>HT.out j hj h))
    go_wp2
    go_ret
    exact ⟨zAP hf.out.symm,hB⟩
   |false =>
    have hT2:Hid (∀ j (hj:j<xs.length),j<k+1→(n==xs[j])=false):=fun j hj h=>by
     rcases Nat.lt_or_ge j k with h2 | h2
     ·exact HT.out j hj h2
     ·obtain rfl:j=k:=by omega
      exact hq
    go_wp2
    go_roundw
    case rel=>exact ⟨k+1,by omega,by go_num,hT2,hB⟩
    case measure=>(simp [intOf] <;> omega)
  ·have hf:Hid (r = -1):=HR.out.miss (fun j hj=>HT.out j hj (by omega))
   go_wp2
   go_ret
   exact ⟨zAP hf.out.symm,hB⟩
theorem impl_has (xs:List Int) (n:Int) (w:World) (x:Value) (F:List Nat) (hx:Arr w (NatR w) xs x F) (hf:Under w F) :
  Calls Try.prog 107 #[x,.int .i64 n] w fun e w'=>e=.returned (.bool (hasB xs n))∧Below w w w':=by
 obtain ⟨r,hr⟩:=FirstAt.ex (fun x=>n==x) xs
 have hres:Hid (hasB xs n=decide (0≤r)):=hr.any
 have hcall:=Index_int xs n r hr w x F hx hf
 obtain ⟨A,cap,rfl,hc1,hc2⟩:=hx.form
 have HC:=jj hcall
 clear hcall hr hx hf
 go_enter Try.func107,Try.ntmps107
 go_wp2_with fail
 refine HC.out.mono ?_
 rintro e w' ⟨rfl,hB'⟩
 go_wp2
 go_ret
 exact ⟨zA0 hres.out.symm,hB'⟩
theorem any_drop {α:Type} (p:α→Bool) (l:List α) (k:Nat) (h:k<l.length):(l.drop k).any p=(p l[k] || (l.drop (k+1)).any p):=by
 rw [List.drop_eq_getElem_cons h];rfl
theorem spec_l1Has (xs:List Int) (n:Int) (w:World) (x:Value) (F:List Nat) (hx:Arr w (NatR w) xs x F) (hf:Under w F) :
  Calls Try.prog 121 #[x,.int .i64 n] w fun e w'=>e=.returned (.bool (hasB xs n))∧Below w w w':=by
 obtain ⟨A,cap,rfl,hc1,hc2⟩:=hx.form
 have HX:=jj hx
 have HF:=jj hf
 clear hx hf
 go_enter Try.func121,Try.ntmps121
 go_wp2
 go_loopw [5] (fun i wr=>∃ k:Nat,k≤xs.length∧i=.int .i64 k∧Hid (hasB xs n=(xs.drop k).any fun x=>n==x)∧Below w w wr) (fun i _=>xs.length-(intOf i).toNat)
 case atStart=>exact ⟨0,Nat.zero_le _,rfl,(show hasB xs n=hasB xs n from rfl),zy2 _ _⟩
 case round =>
  obtain ⟨k,hk,rfl,HT,hB⟩:=hrel
  by_cases hlt:k<xs.length
  ·have g1:(0:Int)≤(k:Int):=by omega
   have g2:(k:Int)<(xs.length:Int):=by omega
   obtain ⟨b,off,rfl⟩:=HX.out.ptr (by omega)
   obtain ⟨hb,c0⟩:=ArrNat.at HX.out HF.out hB k hlt
   have hd:=HT.out
   rw [any_drop _ xs k hlt] at hd
   cases hq:(xs[k]==n) with
   |true =>
    have hq2:(n==xs[k])=true:=by rw [beq_iff_eq] at hq ⊢;exact hq.symm
    rw [hq2,Bool.true_or] at hd
    have hf:=jj hd
    clear hd hq2
    go_wp2
    go_ret
    exact ⟨zA0 hf.out.symm,hB⟩
   |false =>
    have hq2:(n==xs[k])=false:=by rw [beq_eq_false_iff_ne] at hq ⊢;exact fun e=>hq e.symm
    rw [hq2,Bool.false_or] at hd
    have HT2:=jj hd
    clear hd hq2
    go_wp2
    go_roundw
    case rel=>exact ⟨k+1,by omega,by go_num,HT2,hB⟩
    case measure=>(simp [intOf] <;> omega)
  ·have hd:=HT.out
   rw [List.drop_of_length_le (by omega)] at hd
   have hf:=jj hd
   clear hd
   go_wp2
   go_ret
   exact ⟨zA0 hf.out.symm,hB⟩
def ctorAt (xs:List Dt) (t:Ty) (k:Int):Option Kt:=(ctorsAt xs t.d)[k.toNat]?
def argsOf (xs:List Dt) (t:Ty) (k:Int):List Ty:=match ctorAt xs t k with | some c=>argsL c t.i | none=>[]
def argTypesL (xs:List Dt) (t:Ty) (k:Int):List Ty:=if hasB (ctorsOfL xs t) k=true then argsOf xs t k else []
theorem zBA {xs:List Dt} {d k:Nat} {i:Int} (hd:d<xs.length) (hk:k<xs[d].ctors.length):argsOf xs ⟨(d:Int),i⟩ (k:Int)=argsL xs[d].ctors[k] i:=by
 unfold argsOf ctorAt
 simp only
 rw [ctorsAt_get hd,Int.toNat_natCast,List.getElem?_eq_getElem hk]
theorem mem_fitTo {cs:List Kt} {i:Int} {m:Nat} {n:Int} (h:n∈fitTo cs i m):∃ k:Nat,n=(k:Int)∧k<m:=by
 unfold fitTo at h
 obtain ⟨k,hk,rfl⟩:=List.mem_map.1 h
 have:=(List.mem_filter.1 hk).1
 exact ⟨k,rfl,by simpa using this⟩
theorem zB6 {xs:List Dt} {t:Ty} {n:Int} (ht:InWorld xs.length t) (h:n∈ctorsL xs t):∃ d k:Nat,t.d=(d:Int)∧n=(k:Int)∧∃ hd:d<xs.length,k<xs[d].ctors.length:=by
 rcases ht with hd | ⟨d,hd,hdl⟩
 ·rw [ctorsL_int hd] at h;cases h
 ·obtain ⟨t1,t2⟩:=t
  simp only at hd
  subst hd
  rw [ctorsL_data hdl] at h
  obtain ⟨k,rfl,hk⟩:=mem_fitTo h
  exact ⟨d,k,rfl,rfl,hdl,hk⟩
theorem argTypesL_no {xs:List Dt} {t:Ty} {k:Int} (h:hasB (ctorsOfL xs t) k=false):argTypesL xs t k=[]:=if_neg (by simp [h])
theorem argTypesL_yes {xs:List Dt} {t:Ty} {k:Int} (h:hasB (ctorsOfL xs t) k=true):argTypesL xs t k=argsOf xs t k∧WorldOK xs∧∃ (d m:Nat) (hd:d<xs.length),t.d=(d:Int)∧k=(m:Int)∧m<xs[d].ctors.length:=by
 refine ⟨if_pos h,?_⟩
 rw [hasB_iff] at h
 unfold ctorsOfL at h
 split at h
 ·rename_i hv
  obtain ⟨hw,hto⟩:=typeValid_split hv
  obtain ⟨d,m,h1,h2,hd,hm⟩:=zB6 (typeOkB_in hto) h
  exact ⟨hw,d,m,hd,h1,h2,hm⟩
 ·cases h
def slotOf (t:Ty):Nat:=t.d.toNat*4+t.i.toNat
def tyAt (s:Nat):Ty:=⟨((s / 4:Nat):Int),((s % 4:Nat):Int)⟩
def depthIn (tab:List Int) (t:Ty):Int:=if t.d = -1 then 1 else tab.getD (slotOf t) 0
def mostGo (tab:List Int):Int→List Ty→Int
 |m,[]=>m+1
 |m,a :: ls=>if depthIn tab a=0 then 0 else mostGo tab (max m (depthIn tab a)) ls
def mostIn (xs:List Dt) (tab:List Int) (t:Ty) (k:Int):Int:=mostGo tab 0 (argsOf xs t k)
def better (tab:List Int) (s:Nat) (n:Int):Bool:=decide (0<n) && (decide (tab.getD s 0=0) || decide (n<tab.getD s 0))
def putIf (tab:List Int) (s:Nat) (n:Int):List Int:=if better tab s n=true then tab.set s n else tab
def slotGo (xs:List Dt) (s:Nat) (tab:List Int) (ks:List Int):List Int:=ks.foldl (fun tab k=>putIf tab s (mostIn xs tab (tyAt s) k)) tab
def sweepTo (xs:List Dt) (tab:List Int) (s:Nat):List Int:=(List.range s).foldl (fun tab s=>slotGo xs s tab (ctorsL xs (tyAt s))) tab
def sweep (xs:List Dt) (tab:List Int):List Int:=sweepTo xs tab (xs.length*4)
def sweeps (xs:List Dt):Nat→List Int
 |0=>List.replicate (xs.length*4) 0
 |n+1=>sweep xs (sweeps xs n)
def tableL (xs:List Dt):List Int:=sweeps xs (xs.length*4+1)
theorem putIf_length (tab:List Int) (s:Nat) (n:Int):(putIf tab s n).length=tab.length:=by unfold putIf;split <;> simp
theorem slotGo_nil (xs:List Dt) (s:Nat) (tab:List Int):slotGo xs s tab []=tab:=rfl
theorem slotGo_cons (xs:List Dt) (s:Nat) (tab:List Int) (k:Int) (ks:List Int):slotGo xs s tab (k :: ks)=slotGo xs s (putIf tab s (mostIn xs tab (tyAt s) k)) ks:=rfl
theorem slotGo_snoc (xs:List Dt) (s:Nat) (tab:List Int) (ks:List Int) (k:Int):slotGo xs s tab (ks ++ [k])=putIf (slotGo xs s tab ks) s (mostIn xs (slotGo xs s tab ks) (tyAt s) k):=by
 unfold slotGo;rw [List.foldl_append];rfl
theorem slotGo_length (xs:List Dt) (s:Nat):∀ (ks:List Int) (tab:List Int),(slotGo xs s tab ks).length=tab.length
 |[],tab=>rfl
 |k :: ks,tab=>by rw [slotGo_cons,slotGo_length xs s ks,putIf_length]
theorem sweepTo_zero (xs:List Dt) (tab:List Int):sweepTo xs tab 0=tab:=rfl
theorem zB3 (xs:List Dt) (tab:List Int) (s:Nat):sweepTo xs tab (s+1)=slotGo xs s (sweepTo xs tab s) (ctorsL xs (tyAt s)):=by
 unfold sweepTo;rw [List.range_succ,List.foldl_append];rfl
theorem sweepTo_length (xs:List Dt) (tab:List Int):∀ s,(sweepTo xs tab s).length=tab.length
 |0=>rfl
 |s+1=>by rw [zB3,slotGo_length,sweepTo_length xs tab s]
theorem sweeps_length (xs:List Dt):∀ n,(sweeps xs n).length=xs.length*4
 |0=>by simp [sweeps]
 |n+1=>by show (sweepTo xs _ _).length=_;rw [sweepTo_length,sweeps_length xs n]
/-! ### Types with a value of a depth -/
def hasD (xs:List Dt):Nat→Ty→Prop
 |0,_=>False
 |n+1,t=>t.d = -1∨∃ k∈ctorsL xs t,∀ a∈argsOf xs t k,hasD xs n a
theorem hasD_mono {xs:List Dt}:∀ {n:Nat} {t:Ty},hasD xs n t→hasD xs (n+1) t
 |0,_,h=>h.elim
 |n+1,t,h=>by
  rcases h with h | ⟨k,hk,h⟩
  ·exact .inl h
  ·exact .inr ⟨k,hk,fun a ha=>hasD_mono (h a ha)⟩
theorem hasD_le {xs:List Dt} {n m:Nat} {t:Ty} (h:hasD xs n t) (hm:n≤m):hasD xs m t:=by
 induction hm with
 |refl=>exact h
 |step _ ih=>exact hasD_mono ih
def TyIn (n:Nat) (t:Ty):Prop:=t.d = -1∨∃ d i:Nat,t=⟨(d:Int),(i:Int)⟩∧d<n∧i<4
theorem TyIn.inWorld {n:Nat} {t:Ty} (h:TyIn n t):InWorld n t:=by
 rcases h with h | ⟨d,i,rfl,h1,h2⟩
 ·exact .inl h
 ·exact .inr ⟨d,rfl,h1⟩
theorem zB4 {n:Nat} {t:Ty} (h:typeOkB n t=true):TyIn n t:=by
 unfold typeOkB at h
 by_cases e:t.d = -1
 ·exact .inl e
 ·rw [if_neg e] at h
  simp [withinB] at h
  refine .inr ⟨t.d.toNat,t.i.toNat,?_,by omega,by omega⟩
  obtain ⟨t1,t2⟩:=t
  simp only at h ⊢
  congr 1 <;> omega
theorem slotOf_mk (d i:Nat):slotOf ⟨(d:Int),(i:Int)⟩=d*4+i:=by unfold slotOf;simp
theorem tyAt_mk {d i:Nat} (h:i<4):tyAt (d*4+i)=⟨(d:Int),(i:Int)⟩:=by
 unfold tyAt
 rw [show (d*4+i) / 4=d by omega,show (d*4+i) % 4=i by omega]
theorem TyIn.slot {n:Nat} {t:Ty} (h:TyIn n t) (hd:¬t.d = -1):slotOf t<n*4∧tyAt (slotOf t)=t:=by
 rcases h with h | ⟨d,i,rfl,h1,h2⟩
 ·exact absurd h hd
 ·rw [slotOf_mk,tyAt_mk h2]
  exact ⟨by omega,rfl⟩
theorem tyAt_in {n s:Nat} (h:s<n*4):TyIn n (tyAt s):=.inr ⟨s / 4,s % 4,rfl,by omega,by omega⟩
theorem tyAt_not (s:Nat):¬(tyAt s).d = -1:=by unfold tyAt;simp only;omega
theorem argTy_in {n:Nat} {c:Kt} (hc:KtOk n c) {i:Int} (h0:0≤i) (h3:i≤3) {a:Ty} (ha:a∈argsL c i):TyIn n a:=by
 unfold argsL at ha
 obtain ⟨b,hb,rfl⟩:=List.mem_map.1 ha
 have hok:=hc.all b hb
 have hr:0≤resIdx c i∧resIdx c i≤3:=by
  unfold resIdx
  split
  ·exact ⟨h0,h3⟩
  ·exact ⟨hc.lo,hc.hi⟩
 unfold argOkB at hok
 cases q:(b.i == -1) with
 |true =>
  rw [argTy_yes q]
  by_cases e:b.d = -1
  ·exact .inl e
  ·rw [if_neg e] at hok
   simp [withinB] at hok
   refine .inr ⟨b.d.toNat,(resIdx c i).toNat,?_,by omega,by omega⟩
   congr 1 <;> omega
 |false =>
  rw [argTy_no q]
  have q':¬b.i = -1:=by simpa using q
  by_cases e:b.d = -1
  ·exact .inl e
  ·rw [if_neg e] at hok
   simp [withinB] at hok
   refine .inr ⟨b.d.toNat,b.i.toNat,?_,by omega,by omega⟩
   obtain ⟨b1,b2⟩:=b
   simp only at hok q' ⊢
   congr 1 <;> omega
theorem argsOf_in {xs:List Dt} (hw:WorldOK xs) {t:Ty} (ht:TyIn xs.length t) {k:Int} (hk:k∈ctorsL xs t) {a:Ty} (ha:a∈argsOf xs t k):TyIn xs.length a:=by
 rcases ht with h | ⟨d,i,rfl,h1,h2⟩
 ·rw [ctorsL_int h] at hk;cases hk
 ·obtain ⟨d',m,e1,rfl,hd,hm⟩:=zB6 (.inr ⟨d,rfl,h1⟩) hk
  obtain rfl:d=d':=Int.ofNat.inj e1
  rw [zBA hd hm] at ha
  exact argTy_in (hw.ctor hd hm) (by omega) (by omega) ha
/-! ### What an entry says -/
theorem mostGo_pos {tab:List Int} (hp:∀ a,0≤depthIn tab a):∀ {ls:List Ty} {m:Int},0≤m→(∀ a∈ls,depthIn tab a≠0)→m<mostGo tab m ls∧∀ a∈ls,depthIn tab a<mostGo tab m ls
 |[],m,h0,_=>by simp only [mostGo];exact ⟨by omega,fun a h=>by cases h⟩
 |a :: ls,m,h0,h=>by
  simp only [mostGo]
  rw [if_neg (h a (by simp))]
  have h1:=mostGo_pos hp (m:=max m (depthIn tab a)) (ls:=ls) (by omega) fun b hb=>h b (by simp [hb])
  refine ⟨by omega,fun b hb=>?_⟩
  rcases List.mem_cons.1 hb with rfl | hb
  ·omega
  ·exact h1.2 b hb
theorem mostGo_ne {tab:List Int}:∀ {ls:List Ty} {m:Int},mostGo tab m ls≠0→∀ a∈ls,depthIn tab a≠0
 |[],_,_,a,h=>by cases h
 |a :: ls,m,h,b,hb=>by
  simp only [mostGo] at h
  split at h
  ·exact absurd rfl h
  ·rename_i e
   rcases List.mem_cons.1 hb with rfl | hb
   ·exact e
   ·exact mostGo_ne h b hb
theorem mostGo_le {tab:List Int} {N:Int}:∀ {ls:List Ty} {m:Int},m≤N→(∀ a∈ls,depthIn tab a≠0∧depthIn tab a≤N)→mostGo tab m ls≤N+1
 |[],m,h0,_=>by simp only [mostGo];omega
 |a :: ls,m,h0,h=>by
  simp only [mostGo]
  rw [if_neg (h a (by simp)).1]
  exact mostGo_le (by have:=(h a (by simp)).2;omega) fun b hb=>h b (by simp [hb])
structure Sound (xs:List Dt) (tab:List Int):Prop where
 pos:∀ s,0≤tab.getD s 0
 has:∀ s,s<xs.length*4→tab.getD s 0≠0→hasD xs (tab.getD s 0).toNat (tyAt s)
 len:tab.length=xs.length*4
theorem Sound.dpos {xs:List Dt} {tab:List Int} (h:Sound xs tab) (a:Ty):0≤depthIn tab a:=by
 unfold depthIn;split
 ·omega
 ·exact h.pos _
theorem Sound.dhas {xs:List Dt} {tab:List Int} (h:Sound xs tab) {a:Ty} (ha:TyIn xs.length a) (hn:depthIn tab a≠0):hasD xs (depthIn tab a).toNat a:=by
 unfold depthIn at hn ⊢
 split
 ·rename_i e;exact .inl e
 ·rename_i e
  rw [if_neg e] at hn
  obtain ⟨h1,h2⟩:=ha.slot e
  have:=h.has _ h1 hn
  rwa [h2] at this
theorem getD_set (tab:List Int) (s r:Nat) (n:Int) (hs:s<tab.length):(tab.set s n).getD r 0=if r=s then n else tab.getD r 0:=by
 unfold List.getD
 by_cases h:r=s
 ·subst h;rw [if_pos rfl,List.getElem?_set_self hs];rfl
 ·rw [if_neg h,List.getElem?_set_ne (fun e=>h e.symm)]
theorem better_iff {tab:List Int} {s:Nat} {n:Int}:better tab s n=true↔0<n∧(tab.getD s 0=0∨n<tab.getD s 0):=by
 unfold better;simp
theorem Sound.put {xs:List Dt} (hw:WorldOK xs) {tab:List Int} (h:Sound xs tab) {s:Nat} (hs:s<xs.length*4) {k:Int} (hk:k∈ctorsL xs (tyAt s)):Sound xs (putIf tab s (mostIn xs tab (tyAt s) k)):=by
 unfold putIf
 split
 ·rename_i hb
  obtain ⟨h1,h2⟩:=better_iff.1 hb
  have hs':s<tab.length:=by rw [h.len];exact hs
  refine ⟨fun r=>?_,fun r hr hne=>?_,by rw [List.length_set];exact h.len⟩
  ·rw [getD_set _ _ _ _ hs'];split
   ·omega
   ·exact h.pos r
  ·rw [getD_set _ _ _ _ hs'] at hne ⊢
   split at hne
   ·rename_i e
    subst e
    rw [if_pos rfl]
    have hne2:mostGo tab 0 (argsOf xs (tyAt r) k)≠0:=by unfold mostIn at h1;omega
    have hd:=mostGo_ne hne2
    have hp:=mostGo_pos h.dpos (m:=0) (by omega) hd
    obtain ⟨n,hn⟩:∃ n:Nat,(mostIn xs tab (tyAt r) k).toNat=n+1:=⟨(mostIn xs tab (tyAt r) k).toNat-1,by omega⟩
    rw [hn]
    refine .inr ⟨k,hk,fun a ha=>?_⟩
    have hai:=argsOf_in hw (tyAt_in hr) hk ha
    refine hasD_le (h.dhas hai (hd a ha)) ?_
    have:=hp.2 a ha
    unfold mostIn at hn
    omega
   ·rename_i e
    rw [if_neg e]
    exact h.has r hr hne
 ·exact h
theorem Sound.slot {xs:List Dt} (hw:WorldOK xs) {s:Nat} (hs:s<xs.length*4):∀ {ks:List Int} {tab:List Int},(∀ k∈ks,k∈ctorsL xs (tyAt s))→Sound xs tab→Sound xs (slotGo xs s tab ks)
 |[],tab,_,h=>h
 |k :: ks,tab,hk,h=>by
  rw [slotGo_cons]
  exact Sound.slot hw hs (fun x hx=>hk x (by simp [hx])) (h.put hw hs (hk k (by simp)))
theorem Sound.to {xs:List Dt} (hw:WorldOK xs) {tab:List Int} (h:Sound xs tab):∀ {s:Nat},s≤xs.length*4→Sound xs (sweepTo xs tab s)
 |0,_=>h
 |s+1,hs=>by rw [zB3];exact Sound.slot hw (by omega) (fun k hk=>hk) (Sound.to hw h (by omega))
theorem sound_sweeps {xs:List Dt} (hw:WorldOK xs):∀ n,Sound xs (sweeps xs n)
 |0=>⟨fun s=>by simp only [sweeps,List.getD];rcases Nat.lt_or_ge s (xs.length*4) with h | h <;> simp [h],fun s hs hn=>by simp [sweeps,List.getD,hs] at hn,by simp [sweeps]⟩
 |n+1=>(sound_sweeps hw n).to hw (zz8 _)
/-! ### Entries become no worse -/
def Le (t t':List Int):Prop:=∀ s,t.getD s 0≠0→t'.getD s 0≠0∧t'.getD s 0≤t.getD s 0
theorem Le.refl (t:List Int):Le t t:=fun s h=>⟨h,Int.le_refl _⟩
theorem Le.trans {a b c:List Int} (h:Le a b) (k:Le b c):Le a c:=fun s hs=>⟨(k s (h s hs).1).1,Int.le_trans (k s (h s hs).1).2 (h s hs).2⟩
theorem le_put (tab:List Int) (s:Nat) (hs:s<tab.length) (n:Int):Le tab (putIf tab s n):=by
 unfold putIf
 split
 ·rename_i hb
  obtain ⟨h1,h2⟩:=better_iff.1 hb
  intro r hr
  rw [getD_set _ _ _ _ hs]
  split
  ·rename_i e;subst e;exact ⟨by omega,by omega⟩
  ·exact ⟨hr,Int.le_refl _⟩
 ·exact Le.refl _
theorem le_slot (xs:List Dt) (s:Nat):∀ (ks:List Int) (tab:List Int),s<tab.length→Le tab (slotGo xs s tab ks)
 |[],tab,_=>Le.refl _
 |k :: ks,tab,hs=>by
  rw [slotGo_cons]
  exact (le_put tab s hs _).trans (le_slot xs s ks _ (by rw [putIf_length];exact hs))
theorem le_to (xs:List Dt) (tab:List Int):∀ (s:Nat),s≤tab.length→Le tab (sweepTo xs tab s)
 |0,_=>Le.refl _
 |s+1,hs=>by rw [zB3];exact (le_to xs tab s (by omega)).trans (le_slot xs s _ _ (by rw [sweepTo_length];omega))
theorem le_step (xs:List Dt) (tab:List Int) (r:Nat):∀ (s:Nat),r≤s→s≤tab.length→Le (sweepTo xs tab r) (sweepTo xs tab s):=by
 intro s hr
 induction hr with
 |refl=>intro _;exact Le.refl _
 |step hr ih=>intro hs;rw [zB3];exact (ih (by omega)).trans (le_slot xs _ _ _ (by rw [sweepTo_length];omega))
def Done (xs:List Dt) (tab:List Int) (n:Nat):Prop:=∀ s,s<xs.length*4→hasD xs n (tyAt s)→tab.getD s 0≠0∧tab.getD s 0≤n
theorem Done.le {xs:List Dt} {t t':List Int} {n:Nat} (h:Done xs t n) (hl:Le t t'):Done xs t' n:=fun s hs hh=>⟨(hl s (h s hs hh).1).1,Int.le_trans (hl s (h s hs hh).1).2 (h s hs hh).2⟩
theorem put_done {tab:List Int} {s:Nat} (hs:s<tab.length) (hp:0≤tab.getD s 0) {n:Int} (h0:0<n):(putIf tab s n).getD s 0≠0∧(putIf tab s n).getD s 0≤n:=by
 unfold putIf
 split
 ·rename_i hb
  rw [getD_set _ _ _ _ hs,if_pos rfl];omega
 ·rename_i hb
  have:¬(0<n∧(tab.getD s 0=0∨n<tab.getD s 0)):=fun h=>hb (better_iff.2 h)
  omega
theorem slot_done {xs:List Dt} (hw:WorldOK xs) {n s:Nat} (hs:s<xs.length*4) {k0:Int} (ha:∀ a∈argsOf xs (tyAt s) k0,hasD xs n a):∀ {ks:List Int} {tab:List Int},(∀ k∈ks,k∈ctorsL xs (tyAt s))→k0∈ks→Sound xs tab→Done xs tab n→(slotGo xs s tab ks).getD s 0≠0∧(slotGo xs s tab ks).getD s 0≤n+1
 |[],tab,_,h,_,_=>by cases h
 |k :: ks,tab,hks,hk,hsd,hd=>by
  have hsl:s<tab.length:=by rw [hsd.len];exact hs
  rw [slotGo_cons]
  by_cases e:k0=k
  ·subst e
   have hk0:=hks k0 (by simp)
   have hall:∀ a∈argsOf xs (tyAt s) k0,depthIn tab a≠0∧depthIn tab a≤n:=fun a hm=>by
    have hai:=argsOf_in hw (tyAt_in hs) hk0 hm
    unfold depthIn
    split
    ·have:=ha a hm
     cases n with
     |zero=>exact this.elim
     |succ n=>omega
    ·rename_i hne
     obtain ⟨q1,q2⟩:=hai.slot hne
     exact hd _ q1 (by rw [q2];exact ha a hm)
   have h1:=mostGo_pos hsd.dpos (m:=0) (by omega) fun a hm=>(hall a hm).1
   have h2:=mostGo_le (N:=n) (m:=0) (by omega) hall
   have h3:=put_done hsl (hsd.pos s) (n:=mostIn xs tab (tyAt s) k0) h1.1
   have h4:=le_slot xs s ks (putIf tab s (mostIn xs tab (tyAt s) k0)) (by rw [putIf_length];exact hsl) s h3.1
   have h5:mostIn xs tab (tyAt s) k0≤n+1:=h2
   exact ⟨h4.1,by omega⟩
  ·have hk':k0∈ks:=by
    rcases List.mem_cons.1 hk with h | h
    ·exact absurd h e
    ·exact h
   exact slot_done hw hs ha (fun x hx=>hks x (by simp [hx])) hk' (hsd.put hw hs (hks k (by simp))) (hd.le (le_put tab s hsl _))
theorem sweep_done {xs:List Dt} (hw:WorldOK xs) {tab:List Int} {n:Nat} (hsd:Sound xs tab) (hd:Done xs tab n):Done xs (sweep xs tab) (n+1):=by
 intro s hs hh
 rcases hh with h | ⟨k,hk,ha⟩
 ·exact absurd h (tyAt_not s)
 ·have h1:=slot_done hw hs ha (fun k hk=>hk) hk (hsd.to hw (by omega:s≤xs.length*4)) (hd.le (le_to xs tab s (by rw [hsd.len];omega)))
  rw [←zB3] at h1
  have h2:=le_step xs tab (s+1) (xs.length*4) (by omega) (by rw [hsd.len];omega) s h1.1
  exact ⟨h2.1,by show (sweepTo xs tab (xs.length*4)).getD s 0≤_;omega⟩
theorem done_sweeps {xs:List Dt} (hw:WorldOK xs):∀ n,Done xs (sweeps xs n) n
 |0=>fun s _ h=>h.elim
 |n+1=>sweep_done hw (sound_sweeps hw n) (done_sweeps hw n)
theorem le_sweeps {xs:List Dt} (n:Nat):Le (sweeps xs n) (sweeps xs (n+1)):=le_to xs _ _ (by rw [sweeps_length];exact zz8 _)
theorem le_sweeps' {xs:List Dt} {n m:Nat} (h:n≤m):Le (sweeps xs n) (sweeps xs m):=by
 induction h with
 |refl=>exact Le.refl _
 |step _ ih=>exact ih.trans (le_sweeps _)
open Classical
def Stable (xs:List Dt) (n:Nat):Prop:=∀ s,s<xs.length*4→hasD xs (n+1) (tyAt s)→hasD xs n (tyAt s)
theorem stable_step {xs:List Dt} (hw:WorldOK xs) {n:Nat} (hn:1≤n) (h:Stable xs n):Stable xs (n+1):=by
 intro s hs hh
 rcases hh with hh | ⟨k,hk,ha⟩
 ·exact .inl hh
 ·refine .inr ⟨k,hk,fun a hm=>?_⟩
  have hai:=argsOf_in hw (tyAt_in hs) hk hm
  by_cases e:a.d = -1
  ·obtain ⟨m,rfl⟩:∃ m,n=m+1:=⟨n-1,by omega⟩
   exact .inl e
  ·obtain ⟨q1,q2⟩:=hai.slot e
   have:=h _ q1 (by rw [q2];exact ha a hm)
   rwa [q2] at this
noncomputable def lvl (xs:List Dt) (n:Nat):Nat:=((List.range (xs.length*4)).filter fun s=>decide (hasD xs n (tyAt s))).length
theorem filter_lt {p q:Nat→Bool}:∀ (l:List Nat),(∀ x∈l,p x=true→q x=true)→(∃ x∈l,q x=true∧p x=false)→(l.filter p).length<(l.filter q).length
 |[],_,h=>by obtain ⟨x,hx,-⟩:=h;cases hx
 |y :: l,h,⟨x,hx,h1,h2⟩=>by
  have hle:∀ l:List Nat,(∀ x∈l,p x=true→q x=true)→(l.filter p).length≤(l.filter q).length:=by
   intro l
   induction l with
   |nil=>intro _;exact zz8 _
   |cons z l ih =>
    intro hl
    have:=ih fun x hx=>hl x (by simp [hx])
    have hz:=hl z (by simp)
    cases hp:p z with
    |true=>rw [List.filter_cons_of_pos hp,List.filter_cons_of_pos (hz hp)];simp only [List.length_cons];omega
    |false =>
     rw [List.filter_cons_of_neg (by simp [hp])]
     cases hq:q z with
     |true=>rw [List.filter_cons_of_pos hq];simp only [List.length_cons];omega
     |false=>rw [List.filter_cons_of_neg (by simp [hq])];exact this
  have hrest:=hle l fun x hx=>h x (by simp [hx])
  rcases List.mem_cons.1 hx with rfl | hx
  ·rw [List.filter_cons_of_neg (by simp [h2]),List.filter_cons_of_pos h1];simp only [List.length_cons];omega
  ·have ih:=filter_lt l (fun x hx=>h x (by simp [hx])) ⟨x,hx,h1,h2⟩
   have hy:=h y (by simp)
   cases hp:p y with
   |true=>rw [List.filter_cons_of_pos hp,List.filter_cons_of_pos (hy hp)];simp only [List.length_cons];omega
   |false =>
    rw [List.filter_cons_of_neg (by simp [hp])]
    cases hq:q y with
    |true=>rw [List.filter_cons_of_pos hq];simp only [List.length_cons];omega
    |false=>rw [List.filter_cons_of_neg (by simp [hq])];exact ih
theorem lvl_lt {xs:List Dt} {n:Nat} (h:¬Stable xs n):lvl xs n<lvl xs (n+1):=by
 unfold Stable at h
 obtain ⟨s,h⟩:=Classical.not_forall.1 h
 obtain ⟨hs,h⟩:=Classical.not_imp.1 h
 obtain ⟨h1,h2⟩:=Classical.not_imp.1 h
 unfold lvl
 refine filter_lt _ (fun x _ hx=>?_) ⟨s,List.mem_range.2 hs,by simp [h1],by simp [h2]⟩
 simp only [decide_eq_true_eq] at hx ⊢
 exact hasD_mono hx
theorem lvl_le (xs:List Dt) (n:Nat):lvl xs n≤xs.length*4:=by
 unfold lvl
 exact Nat.le_trans (List.length_filter_le _ _) (by simp)
theorem stable_ex {xs:List Dt}:∀ n,(∃ m,1≤m∧m≤n∧Stable xs m)∨n≤lvl xs (n+1)
 |0=>.inr (Nat.zero_le _)
 |n+1=>by
  rcases stable_ex (xs:=xs) n with ⟨m,h1,h2,h3⟩ | h
  ·exact .inl ⟨m,h1,by omega,h3⟩
  ·by_cases hs:Stable xs (n+1)
   ·exact .inl ⟨n+1,by omega,zz8 _,hs⟩
   ·have:=lvl_lt hs
    exact .inr (by omega)
theorem stable_max {xs:List Dt} (hw:WorldOK xs):Stable xs (xs.length*4+1):=by
 rcases stable_ex (xs:=xs) (xs.length*4+1) with ⟨m,h1,h2,h3⟩ | h
 ·have key:∀ k,m≤k→Stable xs k:=by
   intro k hk
   induction hk with
   |refl=>exact h3
   |step hk ih=>exact stable_step hw (Nat.le_trans h1 hk) ih
  exact key _ h2
 ·have:=lvl_le xs (xs.length*4+1+1)
  omega
theorem hasD_max {xs:List Dt} (hw:WorldOK xs) {s:Nat} (hs:s<xs.length*4):∀ {n:Nat},hasD xs n (tyAt s)→hasD xs (xs.length*4+1) (tyAt s):=by
 have hst:∀ k,Stable xs (xs.length*4+1+k):=by
  intro k
  induction k with
  |zero=>exact stable_max hw
  |succ k ih=>exact stable_step hw (n:=xs.length*4+1+k) (by omega) ih
 have down:∀ k,hasD xs (xs.length*4+1+k) (tyAt s)→hasD xs (xs.length*4+1) (tyAt s):=by
  intro k
  induction k with
  |zero=>exact id
  |succ k ih=>exact fun h=>ih (hst k s hs h)
 intro n h
 exact down n (hasD_le h (by omega))
def movedB (t cur:List Int):Bool:=!(cur==t)
theorem movedB_not {cur:List Int} {s:Nat} {n:Int} (hb:better cur s n=false):putIf cur s n=cur:=by unfold putIf;rw [if_neg (by simp [hb])]
theorem putIf_yes {cur:List Int} {s:Nat} {n:Int} (hb:better cur s n=true):putIf cur s n=cur.set s n:=if_pos hb
def depthL (xs:List Dt) (t:Ty):Int:=if typeValidB xs t=true then depthIn (tableL xs) t else 0
theorem tableL_done {xs:List Dt} (hw:WorldOK xs) (n:Nat):Done xs (tableL xs) n:=fun s hs h=>by
 rcases Nat.le_total n (xs.length*4+1) with hn | hn
 ·exact (done_sweeps hw n).le (le_sweeps' hn) s hs h
 ·have:=done_sweeps hw (xs.length*4+1) s hs (hasD_max hw hs h)
  exact ⟨this.1,by have h2:=this.2;show (sweeps xs (xs.length*4+1)).getD s 0≤(n:Int);omega⟩
theorem depthIn_done {xs:List Dt} (hw:WorldOK xs) {a:Ty} (ha:TyIn xs.length a) {n:Nat} (h:hasD xs n a):depthIn (tableL xs) a≠0∧depthIn (tableL xs) a≤n:=by
 have hn:1≤n:=by
  cases n with
  |zero=>exact h.elim
  |succ n=>omega
 by_cases e:a.d = -1
 ·unfold depthIn
  rw [if_pos e]
  omega
 ·obtain ⟨h1,h2⟩:=ha.slot e
  have:=tableL_done hw n (slotOf a) h1 (by rw [h2];exact h)
  unfold depthIn
  rw [if_neg e]
  exact this
theorem sound_tableL {xs:List Dt} (hw:WorldOK xs):Sound xs (tableL xs):=sound_sweeps hw _
theorem mostIn_nonneg {xs:List Dt} (hw:WorldOK xs) (t:Ty) (k:Int):0≤mostIn xs (tableL xs) t k:=by
 have key:∀ (ls:List Ty) (m:Int),0≤m→0≤mostGo (tableL xs) m ls:=by
  intro ls
  induction ls with
  |nil=>intro m h;simp only [mostGo];omega
  |cons a ls ih =>
   intro m h
   simp only [mostGo]
   split
   ·omega
   ·exact ih _ (by omega)
 exact key _ _ (Int.le_refl _)
theorem least_le {xs:List Dt} (hw:WorldOK xs) {t:Ty} (ht:TyIn xs.length t) {k:Int} (hk:k∈ctorsL xs t) (hm:mostIn xs (tableL xs) t k≠0):depthIn (tableL xs) t≠0∧depthIn (tableL xs) t≤mostIn xs (tableL xs) t k:=by
 have hs:=sound_tableL hw
 have hne:=mostGo_ne hm
 have hp:=mostGo_pos hs.dpos (Int.le_refl 0) hne
 have h0:0<mostIn xs (tableL xs) t k:=hp.1
 have:=depthIn_done hw ht (n:=(mostIn xs (tableL xs) t k-1).toNat+1) (.inr ⟨k,hk,fun a ha=>by
  refine hasD_le (hs.dhas (argsOf_in hw ht hk ha) (hne a ha)) ?_
  have:=hp.2 a ha
  have h2:mostGo (tableL xs) 0 (argsOf xs t k)=mostIn xs (tableL xs) t k:=rfl
  omega⟩)
 exact ⟨this.1,by have h2:=this.2;omega⟩
theorem least_ex {xs:List Dt} (hw:WorldOK xs) {t:Ty} (ht:TyIn xs.length t) (hd:¬t.d = -1) (h:depthIn (tableL xs) t≠0):∃ k∈ctorsL xs t,mostIn xs (tableL xs) t k≠0∧mostIn xs (tableL xs) t k≤depthIn (tableL xs) t:=by
 have hs:=sound_tableL hw
 have h0:=hs.dpos t
 have hh:=hs.dhas ht h
 obtain ⟨m,hm⟩:∃ m,(depthIn (tableL xs) t).toNat=m+1:=⟨(depthIn (tableL xs) t).toNat-1,by omega⟩
 rw [hm] at hh
 rcases hh with hh | ⟨k,hk,ha⟩
 ·exact absurd hh hd
 ·have hall:∀ a∈argsOf xs t k,depthIn (tableL xs) a≠0∧depthIn (tableL xs) a≤(m:Int):=fun a hm=>depthIn_done hw (argsOf_in hw ht hk hm) (ha a hm)
  have h1:mostIn xs (tableL xs) t k≤(m:Int)+1:=mostGo_le (by omega) hall
  have h2:0<mostIn xs (tableL xs) t k:=(mostGo_pos hs.dpos (Int.le_refl 0) fun a ha=>(hall a ha).1).1
  exact ⟨k,hk,by omega,by omega⟩
/-! ### The least of some numbers, where 0 stands for none -/
def bestOf (b m:Int):Int:=if m≠0∧(b=0∨m<b) then m else b
def bestTo (ms:List Int):Int:=ms.foldl bestOf 0
/-! ### Any index is no deeper -/
structure V where
 c:Int
 n:Int
 ks:List V
theorem V.ind {p:V→Prop} (h:∀ c n ks,(∀ k∈ks,p k)→p ⟨c,n,ks⟩):∀ v,p v
 |⟨c,n,ks⟩=>h c n ks fun k hk=>V.ind h k
termination_by v=>SizeOf.sizeOf v
decreasing_by
 have:=List.sizeOf_lt_of_mem hk
 simp
 omega
mutual
def V.size:V→Nat
 |⟨_,_,ks⟩=>V.sizes ks
def V.sizes:List V→Nat
 |[]=>0
 |k :: ks=>1+V.size k+V.sizes ks
end
def V.subs:List V→Nat
 |[]=>0
 |k :: ks=>k.size+V.subs ks
theorem V.subs_snoc (l:List V) (x:V):V.subs (l ++ [x])=V.subs l+x.size:=by
 induction l with
 |nil=>simp [V.subs]
 |cons k l ih=>simp only [List.cons_append,V.subs,ih];omega
theorem V.sizes_eq (l:List V):V.sizes l=l.length+V.subs l:=by
 induction l with
 |nil=>rfl
 |cons k l ih=>simp only [V.sizes,V.subs,List.length_cons,ih];omega
mutual
def VR (w:World):V→List Value→List Nat→Prop
 |⟨c,n,ks⟩,cs,F=>∃ A cap,cs=[.int .i64 c,.int .i64 n,.slice A ks.length cap]∧ks.length≤cap∧cap≤maxLen∧((ks=[]∧F=[])∨∃ b off ds G,A=some ⟨b,off,none⟩∧CellsAt w b off ds∧VRs w ks ds G∧F=b :: G)
def VRs (w:World):List V→List Value→List Nat→Prop
 |[],cs,F=>cs=[]∧F=[]
 |x :: xs,cs,F=>∃ c1 c2 F1 F2,cs=c1 ++ c2∧F=F1 ++ F2∧VR w x c1 F1∧VRs w xs c2 F2
end
theorem VRs_eq (w:World) (ks:List V):∀ cs F,VRs w ks cs F↔Flat (VR w) ks cs F:=by
 induction ks with
 |nil=>intro cs F;simp [VRs,Flat]
 |cons k ks ih =>
  intro cs F
  simp only [VRs,Flat,ih]
theorem VR_iff {w:World} (v:V) (cs:List Value) (F:List Nat):VR w v cs F↔∃ kv,cs=[.int .i64 v.c,.int .i64 v.n,kv]∧Arr w (VR w) v.ks kv F:=by
 obtain ⟨c,n,ks⟩:=v
 simp only [VR,Arr,VRs_eq]
 constructor
 ·rintro ⟨A,cap,rfl,h1,h2,h3⟩
  exact ⟨_,rfl,A,cap,rfl,h1,h2,h3⟩
 ·rintro ⟨kv,rfl,A,cap,rfl,h1,h2,h3⟩
  exact ⟨A,cap,rfl,h1,h2,h3⟩
theorem VR_len {w:World} (v:V) (cs:List Value) (F:List Nat) (h:VR w v cs F):cs.length=3:=by
 obtain ⟨kv,rfl,-⟩:=(VR_iff _ _ _).1 h
 rfl
theorem VR.mono {w w':World}:∀ v cs F,Kept F w w'→VR w v cs F→VR w' v cs F:=by
 refine V.ind fun c n ks ih cs F hF h=>?_
 rw [VR_iff] at h ⊢
 obtain ⟨kv,rfl,h⟩:=h
 exact ⟨kv,rfl,h.mono hF ih⟩
theorem VR.below {w w':World} {B:Nat} {v:V} {cs:List Value} {F:List Nat} (h:VR w v cs F) (hb:Below B w w') (hF:Under B F):VR w' v cs F:=VR.mono v cs F (.of_below hb hF) h
theorem VR.drew {w:World} {v:V} {cs:List Value} {F:List Nat} (h:VR w v cs F):VR w.drew v cs F:=VR.mono (w:=w) v cs F (fun _ _=>rfl) h
theorem ArrV.mono {w w':World} {vs:List V} {x:Value} {F:List Nat} (h:Arr w (VR w) vs x F) (hF:Kept F w w'):Arr w' (VR w') vs x F:=h.mono hF fun v _=>VR.mono v
def nodes (v:V):Nat:=1+v.size
def zipAll (f:Ty→V→Bool):List Ty→List V→Bool
 |a :: ls,k :: ks=>f a k && zipAll f ls ks
 |_,_=>true
def isNum (v:V):Bool:=(v.c == -1) && (withinB v.n 0 9 && decide (v.ks.length=0))
def fitsV (xs:List Dt):Nat→Ty→V→Bool
 |0,_,_=>false
 |d+1,t,v=>if t.d = -1 then isNum v else (v.n==0) && (hasB (ctorsL xs t) v.c && (decide (v.ks.length=(argsOf xs t v.c).length) && zipAll (fitsV xs d) (argsOf xs t v.c) v.ks))
theorem fitsV_int {xs:List Dt} {d:Nat} {t:Ty} {v:V} (h:t.d = -1):fitsV xs (d+1) t v=isNum v:=by rw [fitsV,if_pos h]
theorem fitsV_data {xs:List Dt} {d:Nat} {t:Ty} {v:V} (h:¬t.d = -1):fitsV xs (d+1) t v=((v.n==0) && (hasB (ctorsL xs t) v.c && (decide (v.ks.length=(argsOf xs t v.c).length) && zipAll (fitsV xs d) (argsOf xs t v.c) v.ks))):=by rw [fitsV,if_neg h]
def valueOkB (xs:List Dt) (t:Ty) (v:V):Bool:=fitsV xs 10 t v && decide (nodes v≤60)
def valueValidB (xs:List Dt) (t:Ty) (v:V):Bool:=typeValidB xs t && valueOkB xs t v
def isLeast (xs:List Dt) (t:Ty) (k:Int):Bool:=mostIn xs (tableL xs) t k==depthIn (tableL xs) t
def leastV (xs:List Dt):Nat→Ty→V
 |0,_=>⟨0,0,[]⟩
 |n+1,t=>if t.d = -1 then ⟨-1,0,[]⟩ else match (ctorsL xs t).find? (isLeast xs t) with
  |none=>⟨0,0,[]⟩
  |some k=>⟨k,0,(argsOf xs t k).map (leastV xs n)⟩
theorem find_step {p:Int→Bool} {l:List Int} {i:Nat} (h:i<l.length):(l.drop i).find? p=if p l[i]=true then some l[i] else (l.drop (i+1)).find? p:=by
 rw [List.drop_eq_getElem_cons h,List.find?_cons]
 cases p l[i] <;> simp
theorem find_end {p:Int→Bool} {l:List Int} {i:Nat} (h:l.length≤i):(l.drop i).find? p=none:=by
 rw [List.drop_of_length_le h];rfl
theorem argsOf_len3 {xs:List Dt} (hw:WorldOK xs) {t:Ty} (ht:TyIn xs.length t) {k:Int} (hk:k∈ctorsL xs t):(argsOf xs t k).length≤3:=by
 rcases ht with h | ⟨d,i,rfl,h1,h2⟩
 ·rw [ctorsL_int h] at hk;cases hk
 ·obtain ⟨d',m,e1,rfl,hd,hm⟩:=zB6 (.inr ⟨d,rfl,h1⟩) hk
  obtain rfl:d=d':=Int.ofNat.inj e1
  rw [zBA hd hm,argsL_len]
  exact (hw.ctor hd hm).args
def leastTo (xs:List Dt) (n:Nat) (as':List Ty) (i:Nat):List V:=(as'.take i).map (leastV xs n)
def leastFine (xs:List Dt) (t:Ty):Bool:=typeValidB xs t && (withinB (depthIn (tableL xs) t) 1 10 && valueOkB xs t (leastV xs 10 t))
def leastR (xs:List Dt) (t:Ty):V:=if leastFine xs t=true then leastV xs 10 t else ⟨0,0,[]⟩
structure Small (n:Nat) (tab:List Int):Prop where
 len:tab.length=n*4
 pos:∀ s,0≤tab.getD s 0
 max:∀ s,tab.getD s 0≤100000
theorem Small.dep {n:Nat} {tab:List Int} (h:Small n tab) (t:Ty):0≤depthIn tab t∧depthIn tab t≤100000:=by
 unfold depthIn
 split
 ·omega
 ·exact ⟨h.pos _,h.max _⟩
theorem depthIn_int {tab:List Int} {t:Ty} (h:t.d = -1):depthIn tab t=1:=if_pos h
theorem depthIn_data {tab:List Int} {d i:Nat} (h:d*4+i<tab.length):depthIn tab ⟨(d:Int),(i:Int)⟩=tab[d*4+i]:=by
 unfold depthIn
 rw [if_neg (by show ¬((d:Int) = -1);omega),slotOf_mk]
 simp [List.getD,List.getElem?_eq_getElem h]
theorem mostGo_step {tab:List Int} {ls:List Ty} {m:Int} {i:Nat} (h:i<ls.length):mostGo tab m (ls.drop i)=if depthIn tab ls[i]=0 then 0 else mostGo tab (max m (depthIn tab ls[i])) (ls.drop (i+1)):=by
 rw [List.drop_eq_getElem_cons h,mostGo]
theorem spec_l1Slot (d i:Nat) (hd:d<4) (hi:i<4) (w:World):Calls Try.prog 88 #[.agg #[(d:Int),(i:Int)]] w fun e w'=>e=.returned (.int .i64 ((d*4+i:Nat):Int))∧Below w w w':=by
 have g1:(0:Int)≤(d:Int):=by omega
 have g2:(d:Int)≤3:=by omega
 have g3:(0:Int)≤(i:Int):=by omega
 have g4:(i:Int)≤3:=by omega
 go_enter Try.func88,Try.ntmps88
 go_wp2
 go_ret
 exact ⟨zAP (by omega),(zy2 _ _).alloc (zz8 _) _⟩
theorem spec_l1Depth (n:Nat) (hn:n≤4) (tab:List Int) (htab:Small n tab) (t:Ty) (ht:TyIn n t) (w:World) (v:Value) (F:List Nat) (hx:Arr w (NatR w) tab v F) (hf:Under w F) :
  Calls Try.prog 66 #[v,.agg #[t.d,t.i]] w fun e w'=>e=.returned (.int .i64 (depthIn tab t))∧Below w w w':=by
 obtain ⟨A,cap,rfl,hc1,hc2⟩:=hx.form
 have HX:=jj hx
 have HF:=jj hf
 clear hx hf
 rcases ht with ht | ⟨d,i,rfl,hd,hi⟩
 ·have hf:=jj (depthIn_int (tab:=tab) ht)
  have t0:(t.d == -1)=true:=by simp [ht]
  clear ht
  go_enter Try.func66,Try.ntmps66
  go_wp2
  go_ret
  exact ⟨zAP hf.out.symm,(zy2 _ _).alloc (zz8 _) _⟩
 ·have hsl:d*4+i<tab.length:=by rw [htab.len];omega
  have hf:=jj (depthIn_data hsl)
  have t0:((d:Int) == -1)=false:=by rw [beq_eq_false_iff_ne];omega
  go_enter Try.func66,Try.ntmps66
  go_wp2_with fail
  refine (spec_l1Slot d i (by omega) hi _).mono ?_
  rintro e w' ⟨rfl,hB'⟩
  have hB0:Below w w (w.alloc (.cells #[(d:Int),(i:Int)] 25)):=(zy2 _ _).alloc (zz8 _) _
  have hB:=hB0.trans (hB'.mono hB0.size)
  obtain ⟨b,off,rfl⟩:=HX.out.ptr (by omega)
  obtain ⟨hb,c0⟩:=ArrNat.at HX.out HF.out hB (d*4+i) hsl
  have g5:(0:Int)≤((d*4+i:Nat):Int):=by omega
  have g6:((d*4+i:Nat):Int)<(tab.length:Int):=by omega
  generalize hq:d*4+i=q at *
  clear hq hB'
  go_wp2
  go_ret
  exact ⟨zAP hf.out.symm,hB⟩
theorem spec_l1Most (xs:List Dt) (hw:WorldOK xs) (tab:List Int) (htab:Small xs.length tab) (d i k:Nat) (hd:d<xs.length) (hi:i<4) (hk:k<xs[d].ctors.length) (w:World) (v u:Value) (F G:List Nat) (hx:Arr w (DtR w) xs v F) (hf:Under w F) (hy:Arr w (NatR w) tab u G) (hg:Under w G) :
  Calls Try.prog 87 #[v,u,.agg #[(d:Int),(i:Int)],(k:Int)] w fun e w'=>e=.returned (.int .i64 (mostIn xs tab ⟨(d:Int),(i:Int)⟩ (k:Int)))∧Below w w w':=by
 have hmi:mostIn xs tab ⟨(d:Int),(i:Int)⟩ (k:Int)=mostGo tab 0 (argsL xs[d].ctors[k] (i:Int)):=by unfold mostIn;rw [zBA hd hk]
 rw [hmi]
 clear hmi
 have hin:∀ a∈argsL xs[d].ctors[k] (i:Int),TyIn xs.length a:=fun a ha=>argTy_in (hw.ctor hd hk) (by omega) (by omega) ha
 have hlen:(argsL xs[d].ctors[k] (i:Int)).length≤3:=by rw [argsL_len];exact (hw.ctor hd hk).args
 have HL:=jj (hw.ctor hd hk).args
 have hn4:=hw.len
 obtain ⟨A,cap,rfl,hc1,hc2⟩:=hx.form
 obtain ⟨A',cap',rfl,hc3,hc4⟩:=hy.form
 have HIN:=jj hin
 have HX:=jj hx
 have HF:=jj hf
 have HY:=jj hy
 have HG:=jj hg
 clear hx hf hy hg
 have HT:=jj htab
 clear hin htab hw
 go_enter Try.func87,Try.ntmps87
 go_wp2_with fail
 have hB0:Below w w (w.alloc (.cells #[(d:Int),(i:Int)] 25)):=(zy2 _ _).alloc (zz8 _) _
 refine (spec_l1Args xs d k (i:Int) hd hk _ _ F (ArrDt.below HX.out hB0 HF.out) (HF.out.mono hB0.size) HL.out).mono ?_
 rintro e w3 ⟨v3,F3,rfl,hb3,ha3,-,hfs3⟩
 have hB3:=hB0.trans (hb3.mono hB0.size)
 generalize hass:argsL xs[d].ctors[k] (i:Int)=ls at *
 have HASS:=jj hass
 clear hass
 obtain ⟨A3,cap3,rfl,hd1,hd2⟩:=ha3.form
 have HA:=jj ha3
 have HUA:=jj hfs3.under
 clear ha3 hfs3 hb3 hB0
 go_wp2
 go_loopw [10,11] (fun mv jv wr=>∃ j:Nat,∃ m:Int,j≤ls.length∧jv=.int .i64 j∧mv=.int .i64 m∧0≤m∧m≤100000∧Hid (mostGo tab 0 ls=mostGo tab m (ls.drop j))∧Below w w wr∧Hid (Below w3 w3 wr)) (fun _ jv _=>ls.length-(intOf jv).toNat)
 case atStart=>exact ⟨0,0,Nat.zero_le _,rfl,rfl,by omega,by omega,(show mostGo tab 0 ls=mostGo tab 0 ls from rfl),hB3,zy2 _ _⟩
 case round =>
  obtain ⟨j,m,hj,rfl,rfl,hm0,hm1,HM,hB,HB3⟩:=hrel
  by_cases hjl:j<ls.length
  ·obtain ⟨b3,off3,rfl⟩:=HA.out.ptr (by omega)
   obtain ⟨hb4,a0,a1⟩:=ArrTy.at HA.out HUA.out HB3.out j hjl
   have g5:(0:Int)≤(j:Int):=by omega
   have g6:(j:Int)<(ls.length:Int):=by omega
   have hstep:=HM.out.trans (mostGo_step hjl)
   have HST:=jj hstep
   clear hstep
   go_wp2_with fail
   refine (spec_l1Depth xs.length hn4 tab HT.out ls[j] (HIN.out _ (List.getElem_mem hjl)) wr _ G (ArrNat.below HY.out hB HG.out) (HG.out.mono hB.size)).mono ?_
   rintro e w5 ⟨rfl,hb5⟩
   have hB5:=hB.trans (hb5.mono hB.size)
   have HB5:=jj (HB3.out.trans (hb5.mono HB3.out.size))
   have hdp:=HT.out.dep ls[j]
   generalize hdd:depthIn tab ls[j]=q at *
   by_cases hq:q=0
   ·have t0:(q==0)=true:=by simp [hq]
    have hf:Hid (mostGo tab 0 ls=0):=by have h:=HST.out;rw [if_pos hq] at h;exact h
    clear hdd hq
    go_wp2
    go_ret
    exact ⟨zAP (by rw [HASS.out];exact hf.out.symm),hB5⟩
   ·have t0:(q==0)=false:=by simpa using hq
    have h2:mostGo tab 0 ls=mostGo tab (max m q) (ls.drop (j+1)):=by have h:=HST.out;rw [if_neg hq] at h;exact h
    clear hdd hq
    by_cases hgt:m<q
    ·have t1:decide (q>m)=true:=by simpa using hgt
     rw [show max m q=q by omega] at h2
     have HM2:=jj h2
     clear h2 hgt
     go_wp2
     go_roundw
     case rel=>exact ⟨j+1,q,by omega,by go_num,rfl,by omega,by omega,HM2,hB5,HB5⟩
     case measure=>(simp [intOf] <;> omega)
    ·have t1:decide (q>m)=false:=by simp;omega
     rw [show max m q=m by omega] at h2
     have HM2:=jj h2
     clear h2 hgt
     go_wp2
     go_roundw
     case rel=>exact ⟨j+1,m,by omega,by go_num,rfl,by omega,by omega,HM2,hB5,HB5⟩
     case measure=>(simp [intOf] <;> omega)
  ·have hf:Hid (mostGo tab 0 ls=m+1):=by
    have h:=HM.out
    rw [List.drop_of_length_le (by omega)] at h
    exact h
   go_wp2
   go_ret
   exact ⟨zAP (by rw [HASS.out];exact hf.out.symm),hB⟩
def cellsOf (l:List Int):Array Value:=(l.map (Value.int .i64)).toArray
theorem cellsOf_get {l:List Int} {s:Nat} (h:s<l.length):(cellsOf l)[s]?=some (.int .i64 l[s]):=by
 unfold cellsOf
 simp [List.getElem?_map,List.getElem?_eq_getElem h]
theorem cellsOf_set (l:List Int) (s:Nat) (n:Int):(cellsOf l).setIfInBounds s (.int .i64 n)=cellsOf (l.set s n):=by
 unfold cellsOf
 rw [zz4,List.map_set]
theorem Kept.refl (F:List Nat) (w:World):Kept F w w:=fun _ _=>rfl
theorem Kept.set {F:List Nat} {w w':World} {b j:Nat} {u:Value} (h:Kept F w w') (hb:b∉F):Kept F w (w'.setCell ⟨b,j,none⟩ u):=fun c hc =>
 (zz7 _ _ _ _ (fun e=>hb (by rw [←show c=b from e];exact hc))).trans (h c hc)
structure Chg (F:List Nat) (w w':World):Prop where
 os:w'.os=w.os
 tape:w'.tape=w.tape
 output:w'.output=w.output
 size:w.heap.size≤w'.heap.size
 block:∀ b,b<w.heap.size→b∉F→w'.heap[b]?=w.heap[b]?
theorem Chg.refl (F:List Nat) (w:World):Chg F w w:=⟨rfl,rfl,rfl,zz8 _,fun _ _ _=>rfl⟩
theorem Chg.trans {F:List Nat} {a b c:World} (h:Chg F a b) (k:Chg F b c):Chg F a c :=
 ⟨k.os.trans h.os,k.tape.trans h.tape,k.output.trans h.output,Nat.le_trans h.size k.size,fun i hi hF=>(k.block i (zz9 hi h.size) hF).trans (h.block i hi hF)⟩
theorem Chg.mono {F G:List Nat} {w w':World} (h:Chg F w w') (hs:∀ b∈F,b∈G):Chg G w w':=⟨h.os,h.tape,h.output,h.size,fun b hb hG=>h.block b hb fun hf=>hG (hs b hf)⟩
theorem Chg.of_below {F:List Nat} {w w':World} (h:Below w w w'):Chg F w w':=⟨h.os,h.tape,h.output,h.size,fun b hb _=>h.block b hb⟩
theorem Chg.kept {F G:List Nat} {w w':World} (h:Chg F w w') (hG:Under w G) (hd:∀ b∈G,b∉F):Kept G w w':=fun b hb=>h.block b (hG b hb) (hd b hb)
theorem Chg.below {F:List Nat} {w w':World} {B:Nat} (h:Chg F w w') (hF:∀ b∈F,B≤b) (hB:B≤w.heap.size):Below B w w' :=
 ⟨h.os,h.tape,h.output,h.size,fun b hb=>h.block b (zz9 hb hB) fun hf=>Nat.lt_irrefl _ (zz9 hb (hF b hf))⟩
theorem Chg.set {F:List Nat} {w w':World} {b j:Nat} {u:Value} (h:Chg F w w') (hb:b∈F):Chg F w (w'.setCell ⟨b,j,none⟩ u) :=
 ⟨h.os,h.tape,h.output,Nat.le_trans h.size (by simp [World.setCell]),fun c hc hF=>(zz7 _ _ _ _ (fun e=>hF (by rw [show c=b from e];exact hb))).trans (h.block c hc hF)⟩
theorem Chg.step {F:List Nat} {w w' w'':World} (h:Chg F w w') (hb:Below w'.heap.size w' w''):Chg F w w'':=h.trans (.of_below hb)
theorem Chg.drew {F:List Nat} {w w':World} (h:Chg F w w'):Chg F w w'.drew:=⟨h.os,h.tape,h.output,h.size,h.block⟩
theorem Chg.drewN {F:List Nat} {w w':World} (h:Chg F w w') (n:Nat):Chg F w (w'.drewN n):=⟨h.os,h.tape,h.output,h.size,h.block⟩
theorem Chg.cell {F:List Nat} {w w':World} (h:Chg F w w') {p:Addr} (hp:p.block<w.heap.size) (hn:p.block∉F):w'.cell? p=w.cell? p:=World.cell?_of_block (w:=w) (h.block p.block hp hn)
theorem Chg.undrew {F:List Nat} {w w':World} (h:Chg F w.drew w'):Chg F w w':=⟨h.os,h.tape,h.output,h.size,h.block⟩
structure Upd (b lo n:Nat) (F:List Nat) (w w':World):Prop extends Chg (b :: F) w w' where
 cells:∀ j,j<lo∨lo+n≤j→w'.cell? ⟨b,j,none⟩=w.cell? ⟨b,j,none⟩
 froz:∀ j,w'.frozen? ⟨b,j,none⟩=w.frozen? ⟨b,j,none⟩
section
variable {α : Type} {R : World → α → List Value → List Nat → Prop} {k : Nat}
end
/-! ### What marking makes of a list -/
def mkS {α:Type} (mk:Int→α→α) (cnt:α→Nat):Int→List α→List α
 |_,[]=>[]
 |k,x :: xs=>mk k x :: mkS mk cnt (k+cnt x) xs
section
variable {α : Type} {mk : Int → α → α} {cnt : α → Nat}
def mkTo (mk:Int→α→α) (cnt:α→Nat) (k:Int) (xs:List α) (i:Nat):List α:=mkS mk cnt k (xs.take i) ++ xs.drop i
end
def St (xs:List Dt) (n s i:Nat):List Int:=slotGo xs s (sweepTo xs (sweeps xs n) s) ((ctorsL xs (tyAt s)).take i)
theorem St_step {xs:List Dt} {n s i:Nat} (h:i<(ctorsL xs (tyAt s)).length):St xs n s (i+1)=putIf (St xs n s i) s (mostIn xs (St xs n s i) (tyAt s) (ctorsL xs (tyAt s))[i]):=by
 unfold St;rw [take_snoc' _ i h,slotGo_snoc]
theorem St_all {xs:List Dt} {n s i:Nat} (h:(ctorsL xs (tyAt s)).length≤i):St xs n s i=sweepTo xs (sweeps xs n) (s+1):=by
 unfold St;rw [List.take_of_length_le h,zB3]
theorem St_sound {xs:List Dt} (hw:WorldOK xs) {n s i:Nat} (hs:s<xs.length*4):Sound xs (St xs n s i) :=
 Sound.slot hw hs (fun k hk=>List.mem_of_mem_take hk) ((sound_sweeps hw n).to hw (by omega))
def MaxB (tab:List Int) (B:Int):Prop:=∀ s,tab.getD s 0≤B
theorem mostGo_max {tab:List Int} {B:Int} (h:MaxB tab B) (hB:1≤B):∀ {ls:List Ty} {m:Int},m≤B→mostGo tab m ls≤B+1
 |[],m,hm=>by simp only [mostGo];omega
 |a :: ls,m,hm=>by
  simp only [mostGo]
  split
  ·omega
  ·refine mostGo_max h hB ?_
   have:depthIn tab a≤B:=by
    unfold depthIn
    split
    ·omega
    ·exact h _
   omega
theorem put_max {xs:List Dt} {tab:List Int} {B:Int} (h:MaxB tab B) (hB:1≤B) (s:Nat) (k:Int):MaxB (putIf tab s (mostIn xs tab (tyAt s) k)) (B+1):=by
 intro r
 unfold putIf
 split
 ·by_cases hs:s<tab.length
  ·rw [getD_set _ _ _ _ hs]
   split
   ·exact mostGo_max h hB (by omega)
   ·have:=h r;omega
  ·rw [List.set_eq_of_length_le (by omega)];have:=h r;omega
 ·have:=h r;omega
theorem slot_max {xs:List Dt} (s:Nat):∀ (ks:List Int) {tab:List Int} {B:Int},MaxB tab B→1≤B→MaxB (slotGo xs s tab ks) (B+ks.length)
 |[],tab,B,h,_=>fun r=>by have:=h r;simpa [slotGo_nil] using this
 |k :: ks,tab,B,h,hB=>by
  rw [slotGo_cons]
  have:=slot_max (xs:=xs) s ks (put_max (xs:=xs) h hB s k) (by omega)
  intro r
  have:=this r
  simp only [List.length_cons]
  omega
theorem ctorsL_len {xs:List Dt} (hw:WorldOK xs) {s:Nat} (hs:s<xs.length*4):(ctorsL xs (tyAt s)).length≤4:=by
 have hd:s / 4<xs.length:=by omega
 have e:ctorsL xs (tyAt s)=fitTo xs[s / 4].ctors ((s % 4:Nat):Int) xs[s / 4].ctors.length:=ctorsL_data hd
 rw [e]
 exact Nat.le_trans (fitTo_len _ _ _) (hw.at hd).hi
theorem to_max {xs:List Dt} (hw:WorldOK xs) {tab:List Int} {B:Int} (h:MaxB tab B) (hB:1≤B):∀ {s:Nat},s≤xs.length*4→MaxB (sweepTo xs tab s) (B+4*s)
 |0,_=>fun r=>by have:=h r;simpa [sweepTo_zero] using this
 |s+1,hs=>by
  rw [zB3]
  have h1:=slot_max (xs:=xs) s (ctorsL xs (tyAt s)) (to_max hw h hB (s:=s) (by omega)) (by omega)
  have h2:=ctorsL_len hw (s:=s) (by omega)
  intro r
  have:=h1 r
  omega
theorem sweeps_max {xs:List Dt} (hw:WorldOK xs):∀ n,MaxB (sweeps xs n) (1+64*n)
 |0=>fun r=>by
  simp only [sweeps,List.getD]
  rcases Nat.lt_or_ge r (xs.length*4) with h | h <;> simp [h]
 |n+1=>fun r=>by
  have h:=to_max hw (sweeps_max hw n) (by omega) (zz8 (xs.length*4)) r
  have hl:=hw.len
  show (sweepTo xs (sweeps xs n) (xs.length*4)).getD r 0≤_
  omega
theorem St_small {xs:List Dt} (hw:WorldOK xs) {n s i:Nat} (hs:s<xs.length*4) (hn:n≤100):Small xs.length (St xs n s i):=by
 have h1:=St_sound hw (n:=n) (i:=i) hs
 refine ⟨h1.len,h1.pos,fun r=>?_⟩
 have h2:=slot_max (xs:=xs) s ((ctorsL xs (tyAt s)).take i) (to_max hw (sweeps_max hw n) (by omega) (s:=s) (by omega)) (by omega) r
 have h3:=ctorsL_len hw hs
 have h4:((ctorsL xs (tyAt s)).take i).length≤4:=by rw [List.length_take];omega
 have hl:=hw.len
 unfold St
 omega
theorem table_small {xs:List Dt} (hw:WorldOK xs) {n:Nat} (hn:n≤100):Small xs.length (sweeps xs n):=by
 have h1:=sound_sweeps hw n
 refine ⟨h1.len,h1.pos,fun r=>?_⟩
 have:=sweeps_max hw n r
 omega
theorem getD_get {tab:List Int} {s:Nat} (h:s<tab.length):tab.getD s 0=tab[s]:=by simp [List.getD,List.getElem?_eq_getElem h]
theorem Blk.nats {w:World} {g:Nat} {tab:List Int} (h:Blk w g 3 (cellsOf tab)) (hm:tab.length≤maxLen):Arr w (NatR w) tab (.slice (some ⟨g,0,none⟩) tab.length tab.length) [g]∨tab=[]:=by
 by_cases he:tab=[]
 ·exact .inr he
 refine .inl ⟨_,_,rfl,zz8 _,hm,.inr ⟨g,0,tab.map (Value.int .i64),[],rfl,fun j u hj=>?_,?_,rfl⟩⟩
 ·have hjl:j<tab.length:=by have:=(List.getElem?_eq_some_iff.1 hj).1;simpa using this
  rw [Nat.zero_add,h.cell,cellsOf_get hjl]
  rw [List.getElem?_map,List.getElem?_eq_getElem hjl] at hj
  simpa using hj
 ·have:∀ l:List Int,Flat (NatR w) l (l.map (Value.int .i64)) []:=by
   intro l
   induction l with
   |nil=>exact ⟨rfl,rfl⟩
   |cons x l ih=>exact ⟨[.int .i64 x],_,[],[],rfl,rfl,⟨rfl,rfl⟩,ih⟩
  exact this tab
theorem spec_l1Table (xs:List Dt) (hw:WorldOK xs) (w:World) (v:Value) (F:List Nat) (hx:Arr w (DtR w) xs v F) (hf:Under w F) :
  Calls Try.prog 65 #[v] w (MadeNats w (tableL xs)):=by
 obtain ⟨A,cap,rfl,hc1,hc2⟩:=hx.form
 have hn4:=hw.len
 have HW:=jj hw
 have HX:=jj hx
 have HF:=jj hf
 clear hx hf
 clear hw
 obtain ⟨i0,hi,hz0,hz1,hz2⟩:=info_parts info_int
 have hmk:∀ W:World,(Instr.makeSlice 72 (.int .i64 ((xs.length:Int)*4)) (.int .i64 ((xs.length:Int)*4))).run Try.prog W=.ok (.slice (some ⟨W,0,none⟩) (xs.length*4) (xs.length*4)) (W.alloc (.cells (cellsOf (sweeps xs 0)) 3)):=fun W=>by
  have h:=run_make_rowN (P:=Try.prog) 72 3 i0 _ Try.underlying72 hi hz0 .i64 .i64 (xs.length*4) (xs.length*4) (zz8 _) (by rw [hz2];omega) (by omega) W
  rw [hz1,show ((xs.length*4:Nat):Int)=(xs.length:Int)*4 by omega] at h
  rw [h]
  congr 2
  have e:(madeCells #[Value.int .i64 0] (xs.length*4)).toList=(cellsOf (sweeps xs 0)).toList:=by
   rw [toList_madeCells_one]
   unfold cellsOf
   simp [sweeps]
  show Obj.cells (madeCells #[Value.int .i64 0] (xs.length*4*1)) _ _=_
  rw [Nat.mul_one]
  congr 1
  exact Array.toList_inj.1 e
 clear hi hz0 hz1 hz2
 go_enter Try.func65,Try.ntmps65
 go_wp2
 clear hmk
 have hB0:Below w w (w.alloc (.cells (cellsOf (sweeps xs 0)) 3)):=(zy2 _ _).alloc (zz8 _) _
 have HT0:Hid (Blk (w.alloc (.cells (cellsOf (sweeps xs 0)) 3)) w.heap.size 3 (cellsOf (sweeps xs 0))):=Blk.new _ _ _
 go_loopw [4] (fun nv wr=>∃ n:Nat,n≤xs.length*4+1∧nv=.int .i64 n∧Hid (Blk wr w 3 (cellsOf (sweeps xs n)))∧Below w w wr) (fun nv _=>xs.length*4+1-(intOf nv).toNat)
 case atStart=>exact ⟨0,Nat.zero_le _,rfl,HT0,hB0⟩
 case round =>
  clear hB0 HT0
  obtain ⟨n,hn,rfl,HT,hB⟩:=hrel
  by_cases hnl:n≤xs.length*4
  ·have t9:decide ((n:Int)≤(xs.length:Int)*4)=true:=by simp;omega
   go_wp2
   clear t9
   obtain ⟨wo,hwo⟩:∃ wo:World,wo=wr:=⟨_,rfl⟩
   go_loopw [5] (fun sv ws=>∃ s:Nat,s≤xs.length*4∧sv=.int .i64 s∧Hid (Blk ws w 3 (cellsOf (sweepTo xs (sweeps xs n) s)))∧Below w w ws) (fun sv _=>xs.length*4-(intOf sv).toNat)
   case atStart=>exact ⟨0,Nat.zero_le _,rfl,HT,hB⟩
   case round =>
    clear hwo HT hB
    obtain ⟨s,hs,rfl,HT,hB⟩:=hrel
    by_cases hsl:s<xs.length*4
    ·obtain ⟨q,hq⟩:∃ q:Nat,q=s / 4:=⟨_,rfl⟩
     obtain ⟨r,hr⟩:∃ r:Nat,r=s % 4:=⟨_,rfl⟩
     have hsq:s=q*4+r:=by omega
     have hql:q<xs.length:=by omega
     have hrl:r<4:=by omega
     have eq:(s:Int) / 4=(q:Int):=by omega
     have er:(s:Int) % 4=(r:Int):=by omega
     have hty:tyAt s=⟨(q:Int),(r:Int)⟩:=by rw [hsq];exact tyAt_mk hrl
     have HTY:=jj hty
     have HSQ:=jj hsq
     clear hq hr hty hsq
     have hgl:=HT.out.lt
     have hbx:Below wr wr (wr.alloc (.cells #[(q:Int),(r:Int)] 25)):=(zy2 _ _).alloc (zz8 _) _
     have hBx:=hB.trans (hbx.mono hB.size)
     have HTx:Hid (Blk (wr.alloc (.cells #[(q:Int),(r:Int)] 25)) w.heap.size 3 (cellsOf (sweepTo xs (sweeps xs n) s))):=HT.out.same (hbx.block _ hgl)
     have KXx:Hid (Blk (wr.alloc (.cells #[(q:Int),(r:Int)] 25)) wr.heap.size 25 #[(q:Int),(r:Int)]):=Blk.new _ _ _
     go_wp2_with fail
     clear eq er
     refine (spec_l1Ctors xs ⟨(q:Int),(r:Int)⟩ _ _ F (ArrDt.below HX.out hBx HF.out) (HF.out.mono hBx.size) HW.out (.inr ⟨q,rfl,hql⟩)).mono ?_
     rintro e w3 ⟨v3,F3,rfl,hb3,ha3,-,hfs3⟩
     have hB3:=hBx.trans (hb3.mono hBx.size)
     have HT3:=jj (HTx.out.same (hb3.block _ HTx.out.lt))
     have KX3:=jj (KXx.out.same (hb3.block _ KXx.out.lt))
     rw [←HTY.out] at ha3
     obtain ⟨A3,cap3,rfl,hd1,hd2⟩:=ha3.form
     have HA3:=jj ha3
     have HU3:=jj hfs3.under
     have hgx:wr.heap.size<(wr.alloc (.cells #[(q:Int),(r:Int)] 25)).heap.size:=by simp
     have HN3:Hid (w.heap.size∉F3):=fun h=>by have:=(hfs3 _ h).1;omega
     have HS0:Hid (Blk w3 w 3 (cellsOf (St xs n s 0))):=HT3
     have hne:w.heap.size≠wr.heap.size:=by omega
     have hbt:=wr.heap.size
     generalize hbte:wr.heap.size=bt at *
     have HNE:=jj hne
     clear hbt hbte ha3 hfs3 hb3 hgx HT3 HTx KXx hbx hBx hB HT hne hgl
     go_wp2
     obtain ⟨wo,hwo⟩:∃ wo:World,wo=w3:=⟨_,rfl⟩
     go_loopw [8] (fun iv ws=>∃ i:Nat,i≤(ctorsL xs (tyAt s)).length∧iv=.int .i64 i∧Hid (Blk ws w 3 (cellsOf (St xs n s i)))∧Hid (Blk ws bt 25 #[(q:Int),(r:Int)])∧Hid (Arr ws (NatR ws) (ctorsL xs (tyAt s)) (.slice A3 (ctorsL xs (tyAt s)).length cap3) F3∧Under ws F3)∧Below w w ws) (fun iv _=>(ctorsL xs (tyAt s)).length-(intOf iv).toNat)
     case atStart=>exact ⟨0,Nat.zero_le _,rfl,HS0,KX3,⟨HA3.out,HU3.out⟩,hB3⟩
     case round =>
      clear hwo HS0 KX3 HA3 HU3 hB3
      obtain ⟨i,hi,rfl,HS,KX,HA,hB⟩:=hrel
      have hgl:=HS.out.lt
      have hbl:=KX.out.lt
      by_cases hil:i<(ctorsL xs (tyAt s)).length
      ·obtain ⟨b7,off7,rfl⟩:=HA.out.1.ptr (by omega)
       obtain ⟨hb7,c7⟩:=ArrNat.at HA.out.1 HA.out.2 (zy2 _ _) i hil
       obtain ⟨d',k,e1,hki,hd',hk'⟩:=zB6 (xs:=xs) (t:=tyAt s) (by rw [HTY.out];exact .inr ⟨q,rfl,hql⟩) (List.getElem_mem hil)
       rw [HTY.out] at e1
       obtain rfl:q=d':=Int.ofNat.inj e1
       rw [hki] at c7
       have hstep:=St_step (n:=n) hil
       have hmo:mostIn xs (St xs n s i) (tyAt s) (ctorsL xs (tyAt s))[i]=mostIn xs (St xs n s i) ⟨(q:Int),(r:Int)⟩ (k:Int):=by rw [hki];exact congrArg (fun t=>mostIn xs (St xs n s i) t (k:Int)) HTY.out
       rw [hmo] at hstep
       have HST:=jj hstep
       clear hstep hmo e1 hki
       have hsm:=St_small HW.out (n:=n) (i:=i) hsl (by omega)
       have hsll:s<(St xs n s i).length:=by rw [hsm.len];exact hsl
       have hnat:=(HS.out.nats (by rw [hsm.len];unfold maxLen;omega)).resolve_right (fun e=>by rw [e] at hsll;simp at hsll)
       rw [hsm.len] at hnat
       have HNAT:=jj hnat
       have HSM:=jj hsm
       have HUG:Hid (Under wr.drew.heap.size [w.heap.size]):=fun b hb=>by rw [zy1] at hb;rw [hb];exact hgl
       clear hnat hsm
       obtain ⟨y0,y1,-⟩:=KX.out.c2
       have g1:(0:Int)≤(i:Int):=by omega
       have g2:(i:Int)<((ctorsL xs (tyAt s)).length:Int):=by omega
       go_wp2_with fail
       have hkeep:Kp wr.heap.size (fun U=>U.cell? ⟨bt,0,none⟩=(q:Int)∧U.cell? ⟨bt,1,none⟩=(r:Int)∧U.cell? ⟨b7,off7+i,none⟩=(k:Int)):=fun U U' h hUU hU=>⟨(hUU.cell (zz9 (hbl) hU)).trans h.1,(hUU.cell (zz9 (hbl) hU)).trans h.2.1,(hUU.cell (zz9 (hb7) hU)).trans h.2.2⟩
       have HKeep:=jj hkeep
       clear hkeep
       go_region_held3 (fun w'=>w'.cell? ⟨bt,0,none⟩=(q:Int)∧w'.cell? ⟨bt,1,none⟩=(r:Int)∧w'.cell? ⟨b7,off7+i,none⟩=(k:Int)) (first | assumption | (exact ⟨y0,y1,c7⟩) | (exact HKeep.out wr.drew w' ⟨y0,y1,c7⟩ hB' (zz8 _))) (first | (go_at_call 87;((with_reducible refine (spec_l1Most xs HW.out (St xs n s i) HSM.out q r k hql hrl hk' _ _ _ F [w.heap.size] (ArrDt.below HX.out hB.drew HF.out) (HF.out.mono hB.drew.size) (ArrNat.drew HNAT.out) HUG.out).mono ?_);rintro e w' ⟨rfl,hB'⟩)))
       have hB5:=hB.drew.trans (hB'.mono hB.size)
       have HS5:=jj (HS.out.same (hB'.block _ hgl))
       have KX5:=jj (KX.out.same (hB'.block _ hbl))
       have HA5:Hid (Arr w' (NatR w') (ctorsL xs (tyAt s)) (.slice (some ⟨b7,off7,none⟩) (ctorsL xs (tyAt s)).length cap3) F3∧Under w'.heap.size F3):=⟨ArrNat.below (w:=wr) HA.out.1 (zAU hB') HA.out.2,HA.out.2.mono hB'.size⟩
       clear HKeep HNAT c7 y0 y1
       have z0:w'.cell? ⟨w.heap.size,s,none⟩=some (.int .i64 (St xs n s i)[s]):=(HS5.out.cell s).trans (cellsOf_get hsll)
       have zf:=HS5.out.frozen s
       have hgl5:=HS5.out.lt
       have g3:(0:Int)≤(s:Int):=by omega
       have g4:(s:Int)<(xs.length:Int)*4:=by omega
       have hbet:better (St xs n s i) s (mostIn xs (St xs n s i) ⟨(q:Int),(r:Int)⟩ (k:Int))=(decide (0<mostIn xs (St xs n s i) ⟨(q:Int),(r:Int)⟩ (k:Int)) && (decide ((St xs n s i)[s]=0) || decide (mostIn xs (St xs n s i) ⟨(q:Int),(r:Int)⟩ (k:Int)<(St xs n s i)[s]))):=by
        unfold better;rw [getD_get hsll]
       generalize hm:mostIn xs (St xs n s i) ⟨(q:Int),(r:Int)⟩ (k:Int)=m at *
       have HMM:=jj hm
       generalize hold:(St xs n s i)[s]=old at *
       have HOLD:=jj hold
       clear hm hold
       by_cases h0:0<m
       ·have t0:decide (m>0)=true:=by simpa using h0
        by_cases h1:old=0
        ·have t1:(old==0)=true:=by simp [h1]
         have hb1:better (St xs n s i) s m=true:=by rw [hbet,decide_eq_true h0,decide_eq_true h1];rfl
         clear hbet h1
         have HS6:Hid (Blk (w'.setCell ⟨w.heap.size,s,none⟩ (.int .i64 m)) w.heap.size 3 (cellsOf (St xs n s (i+1)))):=by
          have h:=HS5.out.set_ s (.int .i64 m)
          rw [cellsOf_set,←putIf_yes hb1,←HST.out] at h
          exact h
         have KX6:Hid (Blk (w'.setCell ⟨w.heap.size,s,none⟩ (.int .i64 m)) bt 25 #[(q:Int),(r:Int)]):=KX5.out.same (zz7 _ _ _ _ (fun e=>HNE.out e.symm))
         have HA6:Hid (Arr (w'.setCell ⟨w.heap.size,s,none⟩ (.int .i64 m)) (NatR (w'.setCell ⟨w.heap.size,s,none⟩ (.int .i64 m))) (ctorsL xs (tyAt s)) (.slice (some ⟨b7,off7,none⟩) (ctorsL xs (tyAt s)).length cap3) F3∧Under (w'.setCell ⟨w.heap.size,s,none⟩ (.int .i64 m)).heap.size F3):=⟨ArrNat.kept HA5.out.1 (Kept.set (Kept.refl _ _) HN3.out),HA5.out.2.mono (by simp [World.setCell])⟩
         have hB6:Below w w (w'.setCell ⟨w.heap.size,s,none⟩ (.int .i64 m)):=hB5.setCell (zz8 _) _
         clear hb1
         go_wp2
         go_roundw
         case rel=>exact ⟨i+1,by omega,by go_num,HS6,KX6,HA6,hB6⟩
         case measure=>(simp [intOf] <;> omega)
        ·have t1:(old==0)=false:=by simpa using h1
         by_cases h2:m<old
         ·have hb1:better (St xs n s i) s m=true:=by rw [hbet,decide_eq_true h0,decide_eq_true h2,Bool.or_true];rfl
          clear hbet h1
          have HS6:Hid (Blk (w'.setCell ⟨w.heap.size,s,none⟩ (.int .i64 m)) w.heap.size 3 (cellsOf (St xs n s (i+1)))):=by
           have h:=HS5.out.set_ s (.int .i64 m)
           rw [cellsOf_set,←putIf_yes hb1,←HST.out] at h
           exact h
          have KX6:Hid (Blk (w'.setCell ⟨w.heap.size,s,none⟩ (.int .i64 m)) bt 25 #[(q:Int),(r:Int)]):=KX5.out.same (zz7 _ _ _ _ (fun e=>HNE.out e.symm))
          have HA6:Hid (Arr (w'.setCell ⟨w.heap.size,s,none⟩ (.int .i64 m)) (NatR (w'.setCell ⟨w.heap.size,s,none⟩ (.int .i64 m))) (ctorsL xs (tyAt s)) (.slice (some ⟨b7,off7,none⟩) (ctorsL xs (tyAt s)).length cap3) F3∧Under (w'.setCell ⟨w.heap.size,s,none⟩ (.int .i64 m)).heap.size F3):=⟨ArrNat.kept HA5.out.1 (Kept.set (Kept.refl _ _) HN3.out),HA5.out.2.mono (by simp [World.setCell])⟩
          have hB6:Below w w (w'.setCell ⟨w.heap.size,s,none⟩ (.int .i64 m)):=hB5.setCell (zz8 _) _
          clear hb1
          go_wp2
          go_roundw
          case rel=>exact ⟨i+1,by omega,by go_num,HS6,KX6,HA6,hB6⟩
          case measure=>(simp [intOf] <;> omega)
         ·have hb1:better (St xs n s i) s m=false:=by rw [hbet,decide_eq_false h1,decide_eq_false h2];simp
          clear hbet h1
          have HS6:Hid (Blk w' w.heap.size 3 (cellsOf (St xs n s (i+1)))):=by
           have h:=HS5.out
           rw [←movedB_not hb1,←HST.out] at h
           exact h
          clear hb1
          go_wp2
          go_roundw
          case rel=>exact ⟨i+1,by omega,by go_num,HS6,KX5,HA5,hB5⟩
          case measure=>(simp [intOf] <;> omega)
       ·have t0:decide (m>0)=false:=by simp;omega
        have hb1:better (St xs n s i) s m=false:=by rw [hbet,decide_eq_false h0];rfl
        clear hbet
        have HS6:Hid (Blk w' w.heap.size 3 (cellsOf (St xs n s (i+1)))):=by
         have h:=HS5.out
         rw [←movedB_not hb1,←HST.out] at h
         exact h
        clear hb1
        go_wp2
        go_roundw
        case rel=>exact ⟨i+1,by omega,by go_num,HS6,KX5,HA5,hB5⟩
        case measure=>(simp [intOf] <;> omega)
      ·have HT2:Hid (Blk wr w 3 (cellsOf (sweepTo xs (sweeps xs n) (s+1)))):=by
        have h:=HS.out
        rw [St_all (by omega)] at h
        exact h
       go_wp2
       go_roundw
       case rel=>exact ⟨s+1,by omega,by go_num,HT2,hB⟩
       case measure=>(simp [intOf] <;> omega)
    ·have HT2:Hid (Blk wr w 3 (cellsOf (sweeps xs (n+1)))):=by
      have h:=HT.out
      rw [show s=xs.length*4 by omega] at h
      exact h
     go_wp2
     go_roundw
     case rel=>exact ⟨n+1,by omega,by go_num,HT2,hB⟩
     case measure=>(simp [intOf] <;> omega)
  ·have hfin:MadeNats w (tableL xs) (.returned (.slice (some ⟨w,0,none⟩) (xs.length*4) (xs.length*4))) wr:=by
    have h:=HT.out
    rw [show n=xs.length*4+1 by omega] at h
    have hl:(tableL xs).length=xs.length*4:=sweeps_length xs _
    rcases Blk.nats (tab:=tableL xs) h (by rw [hl];unfold maxLen;omega) with h1 | h1
    ·rw [hl] at h1
     exact ⟨_,[w.heap.size],rfl,hB,h1,⟨by simp,fun b hb i=>by rw [zy1] at hb;rw [hb];exact h.frozen i⟩,fun b hb=>by rw [zy1] at hb;rw [hb];exact ⟨zz8 _,h.lt⟩⟩
    ·rw [h1] at hl
     refine ⟨_,[],rfl,hB,⟨some ⟨w,0,none⟩,xs.length*4,?_,?_,?_,.inl ⟨h1,rfl⟩⟩,Free.nil _,Fresh.nil _ _⟩
     ·rw [h1,←hl]
     ·rw [h1];simp
     ·unfold maxLen;omega
   have HFin:=jj hfin
   clear hfin
   go_wp2
   go_ret
   exact HFin.out
theorem tableL_small {xs:List Dt} (hw:WorldOK xs):Small xs.length (tableL xs):=table_small hw (by have:=hw.len;omega)
theorem least_find {xs:List Dt} (hw:WorldOK xs) {t:Ty} (ht:TyIn xs.length t) (hd:¬t.d = -1) (h:depthIn (tableL xs) t≠0):∃ k,(ctorsL xs t).find? (isLeast xs t)=some k:=by
 obtain ⟨k,hk,h1,h2⟩:=least_ex hw ht hd h
 have h3:=(least_le hw ht hk h1).2
 have hl:isLeast xs t k=true:=by unfold isLeast;rw [beq_iff_eq];omega
 cases hf:(ctorsL xs t).find? (isLeast xs t) with
 |some k'=>exact ⟨k',rfl⟩
 |none =>
  rw [List.find?_eq_none] at hf
  exact absurd hl (hf k hk)
theorem chg_under {F:List Nat} {a b c:World} (h:Chg F a b) (k:Below a b c):Chg F a c :=
 ⟨k.os.trans h.os,k.tape.trans h.tape,k.output.trans h.output,Nat.le_trans h.size k.size,fun i hi hF=>(k.block i hi).trans (h.block i hi hF)⟩
section
variable {α : Type} {w w9 wr wA w7 : World} {D H k : Nat} {T E : TypeId} {cells : Array Value} {R : World → α → List Value → List Nat → Prop} {xs ys : List α} {v v' : Value} {F G : List Nat} {o : Obj}
end
section
variable {α : Type} {w w' : World} {B k : Nat} {E : TypeId} {R : World → α → List Value → List Nat → Prop} {xs : List α} {v : Value} {F : List Nat}
variable {P : Program}
theorem step_push {ops:Array Oper} {o:Oper} {a:Act} {K:Act→World→Prop} {Q:Exit→Act→World→Prop} {EE:Prop} (hgd:o.guard=none) (s x:Operand) (t:TypeId)
  (ho:o.op=.call { callee:=.builtin .append,args:=#[s,x],argTypes:=#[t,t] })
  (i:TypeInfo) (z:Value) (bytes:Nat) (ht:P.underlying t=some (.slice E)) (hi:P.info? E=some i) (hz:i.zero=some z)
  (hsize:i.size=k) (hby:i.bytes=bytes) (hzs:z.cells.size=k) (hk:0<k)
  (hRl:∀ x cs G,R w x cs G→cs.length=k) (hRm:∀ w' x cs G,Kept G w w'→R w x cs G→R w' x cs G)
  (hs:a.eval s=v) (hown:Own w B E k R xs v F) (ys:List α) (ad:Addr) (c:Nat) (news:List Value) (G:List Nat)
  (hx:a.eval x=.slice (some ad) ys.length c) (hnews:∀ j u,news[j]?=some u→w.cell? (ad.add j)=some u) (h1:∀ u∈news,u.oneCell'=true)
  (hys:Flat (R w) ys news G) (hG:Under w G) (hvG:∀ g∈rowOf v,g∉G)
  (hm:0<ys.length) (h63:xs.length+ys.length≤maxLen) (hbytes:(xs.length+ys.length)*bytes≤140737488355328) (hbase:B≤w.heap.size)
  (h:∀ g cap w',Own w' B E k R (xs ++ ys) (.slice (some ⟨g,0,none⟩) (xs.length+ys.length) cap) (F ++ G)→w.grownBy w' v.ownBlock→(v.ownBlock=some g∨g=w.heap.size) →
   K (a.put o.dst (.slice (some ⟨g,0,none⟩) (xs.length+ys.length) cap)) w'):if Region.wanted o (yielded ops a.tmps)=true then Oper.wp P o a w K Q else EE:=by
 obtain ⟨cs,h2,h3,h4,h5⟩:=id hown
 refine step_append_lies w hgd s x t ho B E i z k bytes ht hi hz hsize hby hzs hk v xs.length cs hs h2 ad ys.length c news hx (hys.length hRl) hnews h1 hm h63 hbytes hbase w.heap.size rfl
  fun g cap w1 hr hgr hat hlt=>h g cap w1 ⟨cs ++ news,by rw [List.length_append];exact hr,?_,?_,?_⟩ hgr hat
 ·exact (h3.mono fun x _ ds H hH hr=>hRm w1 x ds H (grown_kept hgr (h4.sub hH) fun g hg hn=>h5 g hg (hH g hn)) hr).append (hys.mono fun x _ ds H hH hr=>hRm w1 x ds H (grown_kept hgr (hG.sub hH) fun g hg hn=>hvG g hg (hH g hn)) hr)
 ·intro b hb
  rcases List.mem_append.1 hb with hb | hb
  ·exact zz9 (h4 b hb) hgr.size
  ·exact zz9 (hG b hb) hgr.size
 ·intro b hb hbF
  rw [zA7,zy1] at hb
  subst hb
  rcases hat with hat | rfl
  ·rcases List.mem_append.1 hbF with hb | hb
   ·exact h5 b (zA2.2 hat) hb
   ·exact hvG b (zA2.2 hat) hb
  ·rcases List.mem_append.1 hbF with hb | hb
   ·exact Nat.lt_irrefl _ (h4 _ hb)
   ·exact Nat.lt_irrefl _ (hG _ hb)
theorem step_push1 {ops:Array Oper} {o:Oper} {a:Act} {K:Act→World→Prop} {Q:Exit→Act→World→Prop} {EE:Prop} (hgd:o.guard=none) (s x:Operand) (t:TypeId)
  (ho:o.op=.call { callee:=.builtin .append,args:=#[s,x],argTypes:=#[t,t] })
  (i:TypeInfo) (z:Value) (bytes:Nat) (ht:P.underlying t=some (.slice E)) (hi:P.info? E=some i) (hz:i.zero=some z)
  (hsize:i.size=k) (hby:i.bytes=bytes) (hzs:z.cells.size=k) (hk:0<k)
  (hRl:∀ w x cs G,R w x cs G→cs.length=k) (hRm:∀ w w' x cs G,Kept G w w'→R w x cs G→R w' x cs G)
  (hs:a.eval s=v) (hown:Own w B E k R xs v F) (y:α) (T:TypeId) (news:List Value) (G:List Nat)
  (H:Nat) (hx:a.eval x=.slice (some ⟨H,0,none⟩) 1 1) (hH:w.heap.size=H) (h1:∀ u∈news,u.oneCell'=true)
  (hy:R w y news G) (hG:Under w G) (hvG:∀ g∈rowOf v,g∉G)
  (h63:xs.length+1≤maxLen) (hbytes:(xs.length+1)*bytes≤140737488355328) (hbase:B≤w.heap.size)
  (h:∀ g cap w',Own w' B E k R (xs ++ [y]) (.slice (some ⟨g,0,none⟩) (xs.length+1) cap) (F ++ G)→(w.alloc (.cells news.toArray T)).grownBy w' v.ownBlock→(v.ownBlock=some g∨g=w.heap.size+1) →
   K (a.put o.dst (.slice (some ⟨g,0,none⟩) (xs.length+1) cap)) w'):if Region.wanted o (yielded ops a.tmps)=true then Oper.wp P o a (w.alloc (.cells news.toArray T)) K Q else EE:=by
 subst hH
 have hb:=(zy2 w.heap.size w).alloc (zz8 _) (.cells news.toArray T)
 have hk1:Kept G w (w.alloc (.cells news.toArray T)):=.of_below hb hG
 refine step_push hgd s x t ho i z bytes ht hi hz hsize hby hzs hk (hRl _) (fun w'=>hRm _ w') hs (hown.below (fun x cs G hk h=>hRm _ _ x cs G hk h) hb) [y] ⟨w,0,none⟩ 1 news G hx ?_ h1 (Flat.one (hRm _ _ _ _ _ hk1 hy)) (hG.mono hb.size) hvG Nat.zero_lt_one h63 hbytes (Nat.le_trans hbase hb.size)
  (fun g cap w' h2 h3 h4=>h g cap w' h2 h3 (by simpa using h4))
 intro j u hj
 exact World.news_of_block (heap_alloc_new w (.cells news.toArray T)) j u (by simpa using hj)
end
section
variable {α : Type} {w w9 wr wA w7 : World} {D Bz H k : Nat} {T E : TypeId} {cells : Array Value} {R : World → α → List Value → List Nat → Prop} {xs ys : List α} {v v' : Value} {F G : List Nat} {o : Obj}
end
section
variable {w w0 : World} {H B : Nat} {T : TypeId} {F : List Nat}
theorem Blk.three {b0 b1 b2:Value} (h:Blk w H T #[b0,b1,b2]) (a0 a1 a2:Value):Blk (((w.setCell ⟨H,0,none⟩ a0).setCell ⟨H,1,none⟩ a1).setCell ⟨H,2,none⟩ a2) H T #[a0,a1,a2]:=((h.set_ 0 a0).set_ 1 a1).set_ 2 a2
theorem kept_three (hF:∀ b∈F,b≠H) (a0 a1 a2:Value):Kept F w (((w.setCell ⟨H,0,none⟩ a0).setCell ⟨H,1,none⟩ a1).setCell ⟨H,2,none⟩ a2):=fun b hb=>by
 have:=hF b hb
 rw [zz7 _ _ _ _ this,zz7 _ _ _ _ this,zz7 _ _ _ _ this]
theorem size_three (a0 a1 a2:Value):(((w.setCell ⟨H,0,none⟩ a0).setCell ⟨H,1,none⟩ a1).setCell ⟨H,2,none⟩ a2).heap.size=w.heap.size:=by simp [World.setCell]
end
theorem info_VE:(Try.prog.info? 46).map (fun i=>(i.zero,i.size,i.bytes))=some (some (.agg #[(0:Int),(0:Int),.slice none 0 0]),3,40):=by kernel_rfl
theorem VR_mono' (w w':World) (x:V) (cs:List Value) (G:List Nat) (hk:Kept G w w') (h:VR w x cs G):VR w' x cs G:=VR.mono x cs G hk h
theorem VR_len' (w:World) (x:V) (cs:List Value) (G:List Nat) (h:VR w x cs G):cs.length=3:=VR_len x cs G h
def MadeVt (v:V) (w:World) (e:Ending) (w':World):Prop:=∃ cs F,e=.returned (.agg cs.toArray)∧Below w w w'∧VR w' v cs F∧Free w' F∧Fresh w w' F
structure P where
 op:Int
 ct:Int
 n:Int
 m:Int
 va:Int
 ks:List P
theorem P.ind {p:P→Prop} (h:∀ op ct n m va ks,(∀ k∈ks,p k)→p ⟨op,ct,n,m,va,ks⟩):∀ v,p v
 |⟨op,ct,n,m,va,ks⟩=>h op ct n m va ks fun k hk=>P.ind h k
termination_by v=>SizeOf.sizeOf v
decreasing_by
 have:=List.sizeOf_lt_of_mem hk
 simp
 omega
mutual
def P.size:P→Nat
 |⟨_,_,_,_,_,ks⟩=>P.sizes ks
def P.sizes:List P→Nat
 |[]=>0
 |k :: ks=>1+P.size k+P.sizes ks
end
def P.subs:List P→Nat
 |[]=>0
 |k :: ks=>k.size+P.subs ks
theorem P.subs_snoc (l:List P) (x:P):P.subs (l ++ [x])=P.subs l+x.size:=by
 induction l with
 |nil=>simp [P.subs]
 |cons k l ih=>simp only [List.cons_append,P.subs,ih];omega
theorem P.sizes_eq (l:List P):P.sizes l=l.length+P.subs l:=by
 induction l with
 |nil=>rfl
 |cons k l ih=>simp only [P.sizes,P.subs,List.length_cons,ih];omega
theorem P.subs_take_le (l:List P) (k:Nat):P.subs (l.take k)≤P.subs l:=by
 induction l generalizing k with
 |nil=>simp [P.subs]
 |cons x l ih =>
  cases k with
  |zero=>simp [P.subs]
  |succ k=>simp only [List.take_succ_cons,P.subs];have:=ih k;omega
theorem P.subs_take_succ (l:List P) (k:Nat) (h:k<l.length):P.subs (l.take (k+1))=P.subs (l.take k)+l[k].size:=by
 rw [take_snoc' l k h,P.subs_snoc]
mutual
def PR (w:World):P→List Value→List Nat→Prop
 |⟨op,ct,n,m,va,ks⟩,cs,F=>∃ A cap,cs=[.int .i64 op,.int .i64 ct,.int .i64 n,.int .i64 m,.int .i64 va,.slice A ks.length cap]∧ks.length≤cap∧cap≤maxLen∧((ks=[]∧F=[])∨∃ b off ds G,A=some ⟨b,off,none⟩∧CellsAt w b off ds∧PRs w ks ds G∧F=b :: G)
def PRs (w:World):List P→List Value→List Nat→Prop
 |[],cs,F=>cs=[]∧F=[]
 |x :: xs,cs,F=>∃ c1 c2 F1 F2,cs=c1 ++ c2∧F=F1 ++ F2∧PR w x c1 F1∧PRs w xs c2 F2
end
theorem PRs_eq (w:World) (ks:List P):∀ cs F,PRs w ks cs F↔Flat (PR w) ks cs F:=by
 induction ks with
 |nil=>intro cs F;simp [PRs,Flat]
 |cons k ks ih =>
  intro cs F
  simp only [PRs,Flat,ih]
theorem zA4 {w:World} (v:P) (cs:List Value) (F:List Nat):PR w v cs F↔∃ kv,cs=[.int .i64 v.op,.int .i64 v.ct,.int .i64 v.n,.int .i64 v.m,.int .i64 v.va,kv]∧Arr w (PR w) v.ks kv F:=by
 obtain ⟨op,ct,n,m,va,ks⟩:=v
 simp only [PR,Arr,PRs_eq]
 constructor
 ·rintro ⟨A,cap,rfl,h1,h2,h3⟩
  exact ⟨_,rfl,A,cap,rfl,h1,h2,h3⟩
 ·rintro ⟨kv,rfl,A,cap,rfl,h1,h2,h3⟩
  exact ⟨A,cap,rfl,h1,h2,h3⟩
theorem PR_len {w:World} (v:P) (cs:List Value) (F:List Nat) (h:PR w v cs F):cs.length=6:=by
 obtain ⟨kv,rfl,-⟩:=(zA4 _ _ _).1 h
 rfl
theorem PR.mono {w w':World}:∀ v cs F,Kept F w w'→PR w v cs F→PR w' v cs F:=by
 refine P.ind fun op ct n m va ks ih cs F hF h=>?_
 rw [zA4] at h ⊢
 obtain ⟨kv,rfl,h⟩:=h
 exact ⟨kv,rfl,h.mono hF ih⟩
theorem PR.below {w w':World} {B:Nat} {v:P} {cs:List Value} {F:List Nat} (h:PR w v cs F) (hb:Below B w w') (hF:Under B F):PR w' v cs F:=PR.mono v cs F (.of_below hb hF) h
theorem PR.drew {w:World} {v:P} {cs:List Value} {F:List Nat} (h:PR w v cs F):PR w.drew v cs F:=PR.mono (w:=w) v cs F (fun _ _=>rfl) h
theorem ArrP.mono {w w':World} {vs:List P} {x:Value} {F:List Nat} (h:Arr w (PR w) vs x F) (hF:Kept F w w'):Arr w' (PR w') vs x F:=h.mono hF fun v _=>PR.mono v
theorem ArrP.below {w w':World} {B:Nat} {vs:List P} {x:Value} {F:List Nat} (h:Arr w (PR w) vs x F) (hb:Below B w w') (hF:Under B F):Arr w' (PR w') vs x F:=ArrP.mono h (.of_below hb hF)
theorem zA1 {P:Program} {fn:Func} {p:Tmp} {ty:TypeId} (h:fn.results=#[.cell p ty]) (tmps:Array Value) (w:World) (g:Nat) (t:TypeId) (cs:Array Value) (fr:Nat×Nat) (d:TypeDesc)
  (hp:tmps.getD p undef=.pointer (some ⟨g,0,none⟩)) (hg:w.heap[g]?=some (.cells cs t fr))
  (hu:P.underlying ty=some d) (hd:(match d with | .struct _ | .array _ _=>true | _=>false)=true) (hi:(P.info? ty).map (·.size)=some cs.size) :
  (results fn tmps).run P w=.ok (.agg cs) w:=by
 have hp':tmps[p]?.getD undef=.pointer (some ⟨g,0,none⟩):=by simpa using hp
 simp [results,h,hp',asAddr,run_loadVar_row w g t ty cs fr d hg hu hd hi]
theorem zAB {P:Program} {fn:Func} {p v:Tmp} {ty:TypeId} (h:fn.results=#[.cell p ty,.tmp v]) (tmps:Array Value) (w:World) (g:Nat) (t:TypeId) (cs:Array Value) (fr:Nat×Nat) (d:TypeDesc)
  (hp:tmps.getD p undef=.pointer (some ⟨g,0,none⟩)) (hg:w.heap[g]?=some (.cells cs t fr))
  (hu:P.underlying ty=some d) (hd:(match d with | .struct _ | .array _ _=>true | _=>false)=true) (hi:(P.info? ty).map (·.size)=some cs.size) :
  (results fn tmps).run P w=.ok (.tuple #[.agg cs,tmps.getD v undef]) w:=by
 have hp':tmps[p]?.getD undef=.pointer (some ⟨g,0,none⟩):=by simpa using hp
 simp [results,h,hp',asAddr,run_loadVar_row w g t ty cs fr d hg hu hd hi]
theorem zA8 (w:World) (o:Obj) (T:TypeId) (C:Array Value):Blk ((w.alloc o).alloc (.cells C T)) (w.heap.size+1) T C:=by
 have h:=Blk.new (w.alloc o) T C
 rw [World.size_alloc] at h
 exact h
section
variable {w w0 : World} {H B : Nat} {T : TypeId} {F : List Nat}
theorem Blk.six {b0 b1 b2 b3 b4 b5:Value} (h:Blk w H T #[b0,b1,b2,b3,b4,b5]) (a0 a1 a2 a3 a4 a5:Value):Blk ((((((w.setCell ⟨H,0,none⟩ a0).setCell ⟨H,1,none⟩ a1).setCell ⟨H,2,none⟩ a2).setCell ⟨H,3,none⟩ a3).setCell ⟨H,4,none⟩ a4).setCell ⟨H,5,none⟩ a5) H T #[a0,a1,a2,a3,a4,a5]:=(((((h.set_ 0 a0).set_ 1 a1).set_ 2 a2).set_ 3 a3).set_ 4 a4).set_ 5 a5
theorem zAM (hF:∀ b∈F,b≠H) (a0 a1 a2 a3 a4 a5:Value):Kept F w ((((((w.setCell ⟨H,0,none⟩ a0).setCell ⟨H,1,none⟩ a1).setCell ⟨H,2,none⟩ a2).setCell ⟨H,3,none⟩ a3).setCell ⟨H,4,none⟩ a4).setCell ⟨H,5,none⟩ a5):=fun b hb=>by
 have:=hF b hb
 rw [zz7 _ _ _ _ this,zz7 _ _ _ _ this,zz7 _ _ _ _ this,zz7 _ _ _ _ this,zz7 _ _ _ _ this,zz7 _ _ _ _ this]
theorem zAN (a0 a1 a2 a3 a4 a5:Value):((((((w.setCell ⟨H,0,none⟩ a0).setCell ⟨H,1,none⟩ a1).setCell ⟨H,2,none⟩ a2).setCell ⟨H,3,none⟩ a3).setCell ⟨H,4,none⟩ a4).setCell ⟨H,5,none⟩ a5).heap.size=w.heap.size:=by simp [World.setCell]
end
theorem info_PE:(Try.prog.info? 28).map (fun i=>(i.zero,i.size,i.bytes))=some (some (.agg #[(0:Int),(0:Int),(0:Int),(0:Int),(0:Int),.slice none 0 0]),6,64):=by kernel_rfl
theorem PR_mono' (w w':World) (x:P) (cs:List Value) (G:List Nat) (hk:Kept G w w') (h:PR w x cs G):PR w' x cs G:=PR.mono x cs G hk h
theorem PR_len' (w:World) (x:P) (cs:List Value) (G:List Nat) (h:PR w x cs G):cs.length=6:=PR_len x cs G h
def MadePt (p:P) (w:World) (e:Ending) (w':World):Prop:=∃ cs F,e=.returned (.agg cs.toArray)∧Below w w w'∧PR w' p cs F∧Free w' F∧Fresh w w' F
mutual
def patOf:V→P
 |⟨c,n,ks⟩=>if c = -1 then ⟨3,0,n,n,0,[]⟩ else ⟨4,c,0,0,0,patOfs ks⟩
def patOfs:List V→List P
 |[]=>[]
 |k :: ks=>patOf k :: patOfs ks
end
def patTo (ks:List V) (i:Nat):List P:=(ks.take i).map patOf
end Go.Proofs.Ytjjclcmmfeegfaa
namespace Go.Proofs.Ytjjclcmmfeegfaa
open Go
section
variable {P : Program} {ops : Array Oper} {Q : Exit → Act → World → Prop} {md : Region.Mode} {S T : World → Prop} {d : Nat}
def wpAnyB (P:Program) (md:Region.Mode) (ops:Array Oper) (Q:Exit→Act→World→Prop) (S T:World→Prop) (d:Nat):Nat→Array Bool→Act→World→Prop
 |0,listed,a,w=>Region.ready md ops listed=[]∧Q .normal a w
 |fuel+1,listed,a,w =>
  (Region.ready md ops listed=[]→Q .normal a w) ∧
  ∀ i∈Region.ready md ops listed,wpOp P ops Q i (fun a' w'=>(S w'∧((listed.setIfInBounds i true).getD d false=false→T w'))∧wpAnyB P md ops Q S T d fuel (listed.setIfInBounds i true) a' w') a w
theorem wpAny_of_B:∀ (fuel:Nat) (listed:Array Bool) (a:Act) (w:World),wpAnyB P md ops Q S T d fuel listed a w→wpAny P md ops Q fuel listed a w
 |0,_,_,_,h=>h
 |fuel+1,_,_,_,h=>⟨h.1,fun i hi=>wpOp_mono (fun _ _ h'=>wpAny_of_B fuel _ _ _ h'.2) (h.2 i hi)⟩
theorem wpAnyB_first {i:Nat} {oi:Oper} {v:Value} (hi:ops[i]?=some oi) (hid:i≠d) (hsel:∀ (j:Nat) (o:Oper) cs b,ops[j]?=some o→o.op≠.select cs b)
  (hQ:∀ c a w,Q (.panic c) (a.put oi.dst v) w→Q (.panic c) a w) :
  ∀ (fuel:Nat) (listed:Array Bool) (a:Act) (w:World),
   (∀ j oj,ops[j]?=some oj→j≠i→listed.getD j true=false→(∀ e∈oj.after,Region.binds md e=true→e.on≠i)→oi.apart ops oj=true) →
   i∈Region.ready md ops listed→YieldsIf P ops S oi v a→S w→(listed.getD d false=false→T w) →
   wpAnyB P md ops Q S T d fuel (listed.setIfInBounds i true) (a.put oi.dst v) w→wpAnyB P md ops Q S T d (fuel+1) listed a w:=by
 intro fuel
 induction fuel with
 |zero =>
  intro listed a w _ hr hy hS hT H
  refine ⟨fun h=>(by rw [h] at hr;cases hr),fun j hj=>?_⟩
  by_cases hji:j=i
  ·subst hji;exact hy.wpOp hi hS ⟨⟨hS,fun h=>hT (by rwa [getD_set_ne false hid] at h)⟩,H⟩
  ·have:=ready_mono hj hji
   rw [H.1] at this
   cases this
 |succ fuel ih =>
  intro listed a w hfree hr hy hS hT H
  refine ⟨fun h=>(by rw [h] at hr;cases hr),fun j hj=>?_⟩
  by_cases hji:j=i
  ·subst hji;exact hy.wpOp hi hS ⟨⟨hS,fun h=>hT (by rwa [getD_set_ne false hid] at h)⟩,H⟩
  ·have h1:=H.2 j (ready_mono hj hji)
   obtain ⟨hjun,oj,hoj,hall⟩:=mem_ready.1 hj
   have hnot:∀ e∈oj.after,Region.binds md e=true→e.on≠i:=fun e he hb heq=>by
    have h1:=hall e he hb
    have h0:=(mem_ready.1 hr).1
    rw [heq] at h1
    rcases Nat.lt_or_ge i listed.size with h' | h'
    ·simp [h'] at h0 h1;rw [h0] at h1;cases h1
    ·simp [Array.getElem?_eq_none h'] at h1
   have h2:=wpOp_putIf hoj (hfree j oj hoj hji hjun hnot) (fun cs b=>hsel i oi cs b hi) (fun cs b=>hsel j oj cs b hoj) hQ hy h1
   have hfree':∀ k ok,ops[k]?=some ok→k≠i→(listed.setIfInBounds j true).getD k true=false →
     (∀ e∈ok.after,Region.binds md e=true→e.on≠i)→oi.apart ops ok=true:=fun k ok hk hki hun hno=>by
    refine hfree k ok hk hki ?_ hno
    by_cases hjk:j=k
    ·subst hjk;exact hjun
    ·rw [getD_set_ne true hjk] at hun;exact hun
   have hbit:((listed.setIfInBounds i true).setIfInBounds j true).getD d false=(listed.setIfInBounds j true).getD d false:=by
    rw [Array.setIfInBounds_comm _ _ (Ne.symm hji),getD_set_ne false hid]
   refine wpOp_mono (fun a' w' h3=>⟨⟨h3.2.1.1,fun h=>h3.2.1.2 (hbit.trans h)⟩,ih (listed.setIfInBounds j true) a' w' hfree' (ready_mono hr (Ne.symm hji)) h3.1 h3.2.1.1 (fun h=>h3.2.1.2 (hbit.trans h)) ?_⟩) h2
   rw [Array.setIfInBounds_comm _ _ hji]
   exact h3.2.2
theorem wpAnyB_firstT {i:Nat} {oi od:Oper} {v:Value} (hi:ops[i]?=some oi) (hid:i≠d) (hd:ops[d]?=some od) (hdi:∃ e∈od.after,Region.binds md e=true∧e.on=i) (hsel:∀ (j:Nat) (o:Oper) cs b,ops[j]?=some o→o.op≠.select cs b)
  (hQ:∀ c a w,Q (.panic c) (a.put oi.dst v) w→Q (.panic c) a w) :
  ∀ (fuel:Nat) (listed:Array Bool) (a:Act) (w:World),
   (∀ j oj,ops[j]?=some oj→j≠i→listed.getD j true=false→(∀ e∈oj.after,Region.binds md e=true→e.on≠i)→oi.apart ops oj=true) →
   i∈Region.ready md ops listed→YieldsIf P ops (fun w=>S w∧T w) oi v a→listed.getD d false=false→S w→T w →
   wpAnyB P md ops Q S T d fuel (listed.setIfInBounds i true) (a.put oi.dst v) w→wpAnyB P md ops Q S T d (fuel+1) listed a w:=by
 intro fuel
 induction fuel with
 |zero =>
  intro listed a w _ hr hy hdf hS hT H
  refine ⟨fun h=>(by rw [h] at hr;cases hr),fun j hj=>?_⟩
  by_cases hji:j=i
  ·subst hji;exact hy.wpOp hi ⟨hS,hT⟩ ⟨⟨hS,fun _=>hT⟩,H⟩
  ·have:=ready_mono hj hji
   rw [H.1] at this
   cases this
 |succ fuel ih =>
  intro listed a w hfree hr hy hdf hS hT H
  refine ⟨fun h=>(by rw [h] at hr;cases hr),fun j hj=>?_⟩
  by_cases hji:j=i
  ·subst hji;exact hy.wpOp hi ⟨hS,hT⟩ ⟨⟨hS,fun _=>hT⟩,H⟩
  ·have h1:=H.2 j (ready_mono hj hji)
   obtain ⟨hjun,oj,hoj,hall⟩:=mem_ready.1 hj
   have hnot:∀ e∈oj.after,Region.binds md e=true→e.on≠i:=fun e he hb heq=>by
    have h1:=hall e he hb
    have h0:=(mem_ready.1 hr).1
    rw [heq] at h1
    rcases Nat.lt_or_ge i listed.size with h' | h'
    ·simp [h'] at h0 h1;rw [h0] at h1;cases h1
    ·simp [Array.getElem?_eq_none h'] at h1
   have hjd:j≠d:=fun e=>by
    subst e
    rw [hoj] at hd
    cases hd
    obtain ⟨e,he,hb,ho⟩:=hdi
    exact hnot e he hb ho
   have h2:=wpOp_putIf hoj (hfree j oj hoj hji hjun hnot) (fun cs b=>hsel i oi cs b hi) (fun cs b=>hsel j oj cs b hoj) hQ hy h1
   have hfree':∀ k ok,ops[k]?=some ok→k≠i→(listed.setIfInBounds j true).getD k true=false →
     (∀ e∈ok.after,Region.binds md e=true→e.on≠i)→oi.apart ops ok=true:=fun k ok hk hki hun hno=>by
    refine hfree k ok hk hki ?_ hno
    by_cases hjk:j=k
    ·subst hjk;exact hjun
    ·rw [getD_set_ne true hjk] at hun;exact hun
   have hdf2:(listed.setIfInBounds j true).getD d false=false:=by rw [getD_set_ne false hjd];exact hdf
   have hdf3:((listed.setIfInBounds i true).setIfInBounds j true).getD d false=false:=by rw [getD_set_ne false hjd,getD_set_ne false hid];exact hdf
   refine wpOp_mono (fun a' w' h3=>⟨⟨h3.2.1.1,fun _=>h3.2.1.2 hdf3⟩,ih (listed.setIfInBounds j true) a' w' hfree' (ready_mono hr (Ne.symm hji)) h3.1 hdf2 h3.2.1.1 (h3.2.1.2 hdf3) ?_⟩) h2
   rw [Array.setIfInBounds_comm _ _ hji]
   exact h3.2.2
theorem wT {i:Nat} {oi:Oper} {v:Value} {fuel:Nat} {listed:Array Bool} {a:Act} {w:World} (hi:ops[i]?=some oi) (hid:i≠d)
  (hs:Region.noSelect ops=true) (hf:Region.free md ops listed i=true) (hr:(Region.ready md ops listed).contains i=true)
  (hQ:∀ c a w,Q (.panic c) (a.put oi.dst v) w→Q (.panic c) a w) (hy:YieldsIf P ops S oi v a) (hS:S w) (hT:listed.getD d false=false→T w)
  (h:wpAnyB P md ops Q S T d fuel (listed.setIfInBounds i true) (a.put oi.dst v) w):wpAnyB P md ops Q S T d (fuel+1) listed a w :=
 wpAnyB_first hi hid (Region.noSelect_spec hs) hQ fuel listed a w (Region.free_spec hi hf) (by simpa using hr) hy hS hT h
theorem wU {i : Nat} {oi : Oper} {v : Value} {fuel : Nat} {listed : Array Bool} {a : Act} {w : World} (hi : ops[i]? = some oi) (hy : YieldsIf P ops S oi v a) (hS : S w) (hT : listed.getD d false = false → T w)
  (h : wpAnyB P md ops Q S T d fuel (listed.setIfInBounds i true) (a.put oi.dst v) w) (hid : i ≠ d := by decide)
  (hs : Region.noSelect ops = true := by kernel_rfl) (hf : Region.free md ops listed i = true := by kernel_rfl) (hr : (Region.ready md ops listed).contains i = true := by kernel_rfl)
  (hQ : ∀ c a w, Q (.panic c) (a.put oi.dst v) w → Q (.panic c) a w := by exact fun _ _ _ h => h) : wpAnyB P md ops Q S T d (fuel + 1) listed a w :=
 wT hi hid hs hf hr hQ hy hS hT h
theorem wV (i : Nat) {oi : Oper} {v : Value} {fuel : Nat} {listed : Array Bool} {a : Act} {w : World} (hi : ops[i]? = some oi) (hS : S w) (hT : T w)
  (h : wpAnyB P md ops Q S T d fuel (listed.setIfInBounds i true) (a.put oi.dst v) w) (hg : Region.wanted oi (yielded ops a.tmps) = true := by rfl)
  (hy : ∀ w, S w → (execOp a.eval oi).run P w = .ok (.value v) w := by (intro W hSw; (try dsimp only at hSw); (repeat obtain ⟨_, hSw⟩ := hSw); go_simp; try with_reducible rfl)) (hid : i ≠ d := by decide)
  (hs : Region.noSelect ops = true := by kernel_rfl) (hf : Region.free md ops listed i = true := by kernel_rfl) (hr : (Region.ready md ops listed).contains i = true := by kernel_rfl)
  (hQ : ∀ c a w, Q (.panic c) (a.put oi.dst v) w → Q (.panic c) a w := by exact fun _ _ _ h => h) : wpAnyB P md ops Q S T d (fuel + 1) listed a w :=
 wT hi hid hs hf hr hQ (Or.inl ⟨hg, hy⟩) hS (fun _ => hT) h
theorem wN (i : Nat) {oi : Oper} {fuel : Nat} {listed : Array Bool} {a : Act} {w : World} (hi : ops[i]? = some oi) (hS : S w) (hT : T w)
  (h : wpAnyB P md ops Q S T d fuel (listed.setIfInBounds i true) (a.put oi.dst undef) w) (hg : Region.wanted oi (yielded ops a.tmps) = false := by rfl) (hid : i ≠ d := by decide)
  (hs : Region.noSelect ops = true := by kernel_rfl) (hf : Region.free md ops listed i = true := by kernel_rfl) (hr : (Region.ready md ops listed).contains i = true := by kernel_rfl)
  (hQ : ∀ c a w, Q (.panic c) (a.put oi.dst undef) w → Q (.panic c) a w := by exact fun _ _ _ h => h) : wpAnyB P md ops Q S T d (fuel + 1) listed a w :=
 wT hi hid hs hf hr hQ (Or.inr ⟨hg, rfl⟩) hS (fun _ => hT) h
theorem wpAnyB_takeT {i:Nat} {oi od:Oper} {v:Value} {fuel:Nat} {listed:Array Bool} {a:Act} {w:World} (hi:ops[i]?=some oi) (hid:i≠d) (hd:ops[d]?=some od) (hdi:∃ e∈od.after,Region.binds md e=true∧e.on=i)
  (hs:Region.noSelect ops=true) (hf:Region.free md ops listed i=true) (hr:(Region.ready md ops listed).contains i=true)
  (hQ:∀ c a w,Q (.panic c) (a.put oi.dst v) w→Q (.panic c) a w) (hy:YieldsIf P ops (fun w=>S w∧T w) oi v a) (hdf:listed.getD d false=false) (hS:S w) (hT:T w)
  (h:wpAnyB P md ops Q S T d fuel (listed.setIfInBounds i true) (a.put oi.dst v) w):wpAnyB P md ops Q S T d (fuel+1) listed a w :=
 wpAnyB_firstT hi hid hd hdi (Region.noSelect_spec hs) hQ fuel listed a w (Region.free_spec hi hf) (by simpa using hr) hy hdf hS hT h
theorem zB5 {i:Nat} {oi od:Oper} {v:Value} {fuel:Nat} {listed:Array Bool} {a:Act} {w:World} (hi:ops[i]?=some oi) (hid:i≠d) (hd:ops[d]?=some od) (hdi:(od.after.any fun e=>Region.binds md e && e.on==i)=true)
  (hs:Region.noSelect ops=true) (hf:Region.free md ops listed i=true) (hr:(Region.ready md ops listed).contains i=true)
  (hQ:∀ c a w,Q (.panic c) (a.put oi.dst v) w→Q (.panic c) a w) (hy:YieldsIf P ops (fun w=>S w∧T w) oi v a) (hdf:listed.getD d false=false) (hS:S w) (hT:T w)
  (h:wpAnyB P md ops Q S T d fuel (listed.setIfInBounds i true) (a.put oi.dst v) w):wpAnyB P md ops Q S T d (fuel+1) listed a w :=
 wpAnyB_takeT hi hid hd (by
  obtain ⟨k,hk,hb⟩:=Array.any_eq_true.1 hdi
  rw [Bool.and_eq_true,beq_iff_eq] at hb
  exact ⟨_,Array.getElem_mem hk,hb.1,hb.2⟩) hs hf hr hQ hy hdf hS hT h
theorem wpAnyB_all {rs:List Nat} {fuel:Nat} {listed:Array Bool} {a:Act} {w:World} (hr:Region.ready md ops listed=rs) (hne:rs≠[])
  (h:∀ i∈rs,wpOp P ops Q i (fun a' w'=>(S w'∧((listed.setIfInBounds i true).getD d false=false→T w'))∧wpAnyB P md ops Q S T d fuel (listed.setIfInBounds i true) a' w') a w):wpAnyB P md ops Q S T d (fuel+1) listed a w :=
 ⟨fun h0=>absurd (hr▸h0) hne,hr▸h⟩
theorem wpAnyB_done {listed:Array Bool} {a:Act} {w:World} (hr:Region.ready md ops listed=[]) (h:Q .normal a w):∀ fuel,wpAnyB P md ops Q S T d fuel listed a w
 |0=>⟨hr,h⟩
 |_+1=>⟨fun _=>h,by rw [hr];simp⟩
theorem zA9 {id:Nat} {a:Act} {w:World} (hm:P.follows .mixedOrders=true)
  (h:wpAnyB P .any ops Q S T d ops.size (Array.replicate ops.size false) a w.drew):(Code.region id ops true).wp P Q a w :=
 wp_region_any hm (wpAny_of_B _ _ _ _ h)
def AllReadyB (P:Program) (md:Region.Mode) (ops:Array Oper) (Q:Exit→Act→World→Prop) (S T:World→Prop) (d fuel:Nat) (listed:Array Bool) (a:Act) (w:World) (rs:List Nat):Prop :=
 ∀ i∈rs,wpOp P ops Q i (fun a' w'=>(S w'∧((listed.setIfInBounds i true).getD d false=false→T w'))∧wpAnyB P md ops Q S T d fuel (listed.setIfInBounds i true) a' w') a w
theorem wpBS {R : World → Prop} {id : Nat} {a : Act} {w : World} (HS : ∀ C : World, R C → S C) (hm : P.follows .mixedOrders = true) (h : wpAnyB P .any ops Q S T d ops.size (Array.replicate ops.size false) a w.drew) : (Code.region id ops true).wp P Q a w := zA9 hm h
theorem AllReadyB.n {fuel:Nat} {listed:Array Bool} {a:Act} {w:World}:AllReadyB P md ops Q S T d fuel listed a w []:=fun _ h=>by cases h
theorem AllReadyB.c {fuel:Nat} {listed:Array Bool} {a:Act} {w:World} {i:Nat} {o:Oper} {rs:List Nat} (ho:ops[i]?=some o)
  (h:∀ K':Act→World→Prop,Shut (∀ a w,S w→((listed.setIfInBounds i true).getD d false=false→T w)→wpAnyB P md ops Q S T d fuel (listed.setIfInBounds i true) a w→K' a w)→if Region.wanted o (yielded ops a.tmps)=true then Oper.wp P o a w K' Q else K' (a.put o.dst undef) w)
  (hs:AllReadyB P md ops Q S T d fuel listed a w rs):AllReadyB P md ops Q S T d fuel listed a w (i :: rs):=fun j hj=>by
 rcases List.mem_cons.1 hj with rfl | hj
 ·exact wpOp_step ho (fun K' hK=>h K' (fun a w h1 h2 h3=>hK a w ⟨⟨h1,h2⟩,h3⟩))
 ·exact hs j hj
theorem wR {rs:List Nat} {fuel:Nat} {listed:Array Bool} {a:Act} {w:World} (hr:Region.ready md ops listed=rs) (hne:rs≠[])
  (h:AllReadyB P md ops Q S T d fuel listed a w rs):wpAnyB P md ops Q S T d (fuel+1) listed a w:=wpAnyB_all hr hne h
theorem w1 (i : Nat) {o : Oper} {fuel : Nat} {listed : Array Bool} {a : Act} {w : World} (ho : ops[i]? = some o)
  (h : ∀ K' : Act → World → Prop, Shut (∀ a w, S w → ((listed.setIfInBounds i true).getD d false = false → T w) → wpAnyB P md ops Q S T d fuel (listed.setIfInBounds i true) a w → K' a w) → if Region.wanted o (yielded ops a.tmps) = true then Oper.wp P o a w K' Q else K' (a.put o.dst undef) w)
  (hr : Region.ready md ops listed = [i] := by kernel_rfl) : wpAnyB P md ops Q S T d (fuel + 1) listed a w :=
 wR hr (by simp) (.c ho h .n)
theorem wE {fuel:Nat} {listed:Array Bool} {a:Act} {w:World} (hr:(Region.ready md ops listed).isEmpty=true) (h:Q .normal a w):wpAnyB P md ops Q S T d fuel listed a w :=
 wpAnyB_done (List.isEmpty_iff.1 hr) h fuel
end
end Go.Proofs.Ytjjclcmmfeegfaa
namespace Go.Proofs.Ytjjclcmmfeegfaa
open Go.RowKit
def PatOfP (fn:FuncId) (v:V):Prop:=∀ (w:World) (cs:List Value) (G:List Nat),VR w v cs G→Under w G→v.size≤1048576 →
 Calls Try.prog fn #[.agg cs.toArray] w (MadePt (patOf v) w)
end Go.Proofs.Ytjjclcmmfeegfaa
