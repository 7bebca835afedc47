/-
  Lemmas and contracts of functions: ctorOk of the program: a constructor within the limits, by slices.ContainsFunc and a closure. Conditions: none. A look-up in a map whose elements are booleans, as an equation. Conditions: none. WorldValid of the program, with its two maps. Conditions: none. TypeValid of the reference and of the program. Conditions: none. l1Ctors of the reference, and CtorsOf of both. Conditions: none for CtorsOf. Slices of numbers. Conditions: none. A number in a list: slices.Contains and l1Has. Conditions: none. ArgTypes of the reference and of the program. Conditions: none. Least depths of values, in plain Lean: sweeps over a table reach a fixed point after ls many sweeps ls there are entries and one more. Conditions: the world is valid. Values of a type, in plain Lean; a value in a list. Conditions: none. l2Fits of the reference: a value fits a type. Conditions: the world is valid, the depth is no more than 10. A node of a tree under construction, as in Kid: its kids' row may begin anywhere behind the node. Values as nodes. Conditions: none. Slices of bindings. Conditions: none. Variables with their types as Lean data, and how they lie in memory. Conditions: none. What a pattern for a type is, in plain Lean: the shape of its nodes, its variables, and that each stands once. Conditions: none. Sweeps over a table of least depths reach a fixed point: as many as there are entries and one more are enough. Conditions: the world is valid. The constructors that can make values of a type, in plain Lean. Conditions: none. Least depths in plain Lean: the least depth of a type is that of a constructor; any index is no deeper than a given one. Conditions: the world is valid. Patterns in memory: an element in view; nodes. Conditions: none. Parsing of worlds, in plain Lean, as the reference has it. Conditions: none. Texts of worlds, in plain Lean, as the reference has them; the fixed texts are those of valid worlds. Conditions: none. Texts split at a byte: plain laws. Conditions: none. l17Cut of the reference: a text split at every byte c. Conditions: the text is not longer than a million bytes. l1Find and l1ParseType of the reference. Conditions: the text is not too long. What l1ParseCtor of the reference gives, in plain Lean. Conditions: none. Regions that draw their order: a load may be taken first whose cell is written in the region, if what writes it waits for the load (operation d, which comes after the load). Conditions: none. l1ParseCtor of the reference. Conditions: the text is not too long. A byte as a text; texts behind one another. Conditions: none. Texts as the reference writes them: plain laws, and the text of a digit. Conditions: the world is valid. Texts of worlds as the reference writes them. Conditions: the world is valid. l1Text of the reference: the text of a world. Conditions: the world is valid. What ParseWorld of the reference gives, in plain Lean. Conditions: none. Worlds that a call has copied: every slice is the call's own. Conditions: none. append of a whole slice that came in, with what its elements lead to. Conditions: none. append of a whole slice within a region by HeldB. Conditions: none. Patterns in memory: a pattern of its own; results in cells. Conditions: none. The pattern that only a value matches, in plain Lean. Conditions: none. The pattern of a value: the walks of both functions. Conditions: no more than a million nodes.
-/
import Derived.Test.YtghekinfoadcoaaGreatKAB
import Derived.Laws.EntriesVeiled
import Derived.Test.YtghekinfoadcoaaGreatKAA
import Derived.Maps.OwnOps
import Derived.Maps.Views
import Derived.Maps.Own
import Derived.StringKeys
import Derived.Deep.RegionWith
import Derived.Deep.RegionHeld3
import Derived.Test.YtghekinfoadcoaaGreatChecked
import Derived.Deep.QuietTactic
import Derived.BigQuiet
import Derived.IntWalk
import Derived.Laws.BytesArg

set_option linter.unusedVariables false
set_option linter.unusedSimpArgs false
set_option maxRecDepth 100000
set_option maxHeartbeats 1600000

namespace Go.Proofs.YtghekinfoadcoaaGreat
open Go.RowKit
theorem ctorOk_closure (A:Option Addr) (n cap:Nat) (t:Ty) (w:World) (g:Nat) (hn:n≤9223372036854775807) (hg:w.cell? ⟨g,0,none⟩=some (.slice A n cap)) (hgl:g<w.heap.size) :
  Calls Tryz.prog 149 #[.agg #[.int .i64 t.d,.int .i64 t.i],.pointer (some ⟨g,0,none⟩)] w fun e w'=>e=.returned (.bool (!argOkB n t))∧Below w.heap.size w w':=by
 have HN:=jj hn
 clear hn
 go_enter Tryz.func149,Tryz.ntmps149
 go_wp2_with fail
 obtain ⟨W2,hW2⟩:∃ W2,W2=w.alloc (.cells #[.int .i64 t.d,.int .i64 t.i] 39):=⟨_,rfl⟩
 have hB2:Below w.heap.size w W2:=by rw [hW2];exact (zy2 _ _).alloc (zz8 _) _
 rw [←hW2]
 clear hW2
 refine (impl_argOk A n cap t W2 HN.out).mono ?_
 rintro e w' ⟨rfl,hB'⟩
 have hB3:=hB2.trans (hB'.mono hB2.size)
 generalize hbb:argOkB n t=bb
 have HBB:=jj hbb
 clear hbb
 go_wp2
 go_ret
 exact ⟨zA0 (by rw [HBB.out]),hB3⟩
theorem IndexFunc_Ty (A0:Option Addr) (n cap0:Nat) (xs:List Ty) (r:Int) (hr:FirstAt (fun t=>!argOkB n t) xs r) (w:World) (x:Value) (F:List Nat) (g:Nat) (hn:n≤9223372036854775807) (hg:w.cell? ⟨g,0,none⟩=some (.slice A0 n cap0)) (hgl:g<w.heap.size) (hx:Arr w (TyR w) xs x F) (hF:Under w.heap.size F) :
  Calls Tryz.prog 168 #[x,.func (.func 149) #[] #[.pointer (some ⟨g,0,none⟩)]] w fun e w'=>e=.returned (.int .i64 r)∧Below w.heap.size w w':=by
 have HX:=jj hx
 obtain ⟨A,cap,rfl,hc1,hc2⟩:=hx.form
 clear hx
 have HF:=jj hF
 clear hF
 have HG0:=jj hg
 have HN:=jj hn
 have HR:=jj hr
 clear hg hn hr
 go_enter Tryz.func168,Tryz.ntmps168
 go_wp2
 go_loopw [8] (fun i wr=>∃ k:Nat,k≤xs.length∧i=.int .i64 k∧Hid (∀ j (hj:j<xs.length),j<k→(!argOkB n xs[j])=false)∧Below w.heap.size w wr) (fun i _=>xs.length-(intOf i).toNat)
 case atStart=>exact ⟨0,Nat.zero_le _,rfl,fun j hj h=>by omega,zy2 _ _⟩
 case round =>
  obtain ⟨k,hk,rfl,HT,hB⟩:=hrel
  by_cases hlt:k<xs.length
  ·have hi0:(0:Int)≤(k:Int):=by omega
   have hi1:(k:Int)<(xs.length:Int):=by omega
   obtain ⟨b,off,cs,G,rfl,hb,hcs,hv,-⟩:=HX.out.get zAT hlt
   have hbl:=HF.out b hb
   have hcs:=hcs.same (hB.block b hbl)
   obtain rfl:=TyR_form hv
   have c0:=hcs 0 _ rfl
   have c1:=hcs 1 _ rfl
   simp only [Nat.add_zero] at c0
   clear hcs hv hb
   have hbw:=zz9 hbl hB.size
   go_wp2_with fail
   refine (ctorOk_closure A0 n cap0 xs[k] wr g HN.out ((hB.cell (p:=⟨g,0,none⟩) hgl).trans HG0.out) (zz9 hgl hB.size)).mono ?_
   rintro e w' ⟨rfl,hB'⟩
   have hB3:=hB.trans (hB'.mono hB.size)
   cases hq:argOkB n xs[k] with
   |false =>
    have hf:Hid (r=(k:Int)):=HR.out.hit hlt (by simp [hq]) (fun j hj h=>HT.out j hj h)
    clear hq
    go_wp2
    go_ret
    exact ⟨zA5 hf.out.symm,hB3⟩
   |true =>
    have hT2:Hid (∀ j (hj:j<xs.length),j<k+1→(!argOkB n xs[j])=false):=fun j hj h=>by
     rcases Nat.lt_or_ge j k with h2 | h2
     ·exact HT.out j hj h2
     ·obtain rfl:j=k:=by omega
      rw [hq];rfl
    clear hq
    go_wp2
    go_roundw
    case rel=>exact ⟨k+1,by omega,by go_num,hT2,hB3⟩
    case measure=>simp [intOf];omega
  ·have hf:Hid (r = -1):=HR.out.miss (fun j hj=>HT.out j hj (by omega))
   go_wp2
   go_ret
   exact ⟨zA5 hf.out.symm,hB⟩
theorem ContainsFunc_Ty (A0:Option Addr) (n cap0:Nat) (xs:List Ty) (w:World) (x:Value) (F:List Nat) (g:Nat) (hn:n≤9223372036854775807) (hg:w.cell? ⟨g,0,none⟩=some (.slice A0 n cap0)) (hgl:g<w.heap.size) (hx:Arr w (TyR w) xs x F) (hF:Under w.heap.size F) :
  Calls Tryz.prog 148 #[x,.func (.func 149) #[] #[.pointer (some ⟨g,0,none⟩)]] w fun e w'=>e=.returned (.bool (xs.any fun t=>!argOkB n t))∧Below w.heap.size w w':=by
 obtain ⟨r,hr⟩:=FirstAt.ex (fun t=>!argOkB n t) xs
 have hf:Hid ((xs.any fun t=>!argOkB n t)=decide (0≤r)):=hr.any
 have hcall:=IndexFunc_Ty A0 n cap0 xs r hr w x F g hn hg hgl hx hF
 obtain ⟨A,cap,rfl,hc1,hc2⟩:=hx.form
 have HC:=jj hcall
 clear hcall hr hx hF hn hg
 go_enter Tryz.func148,Tryz.ntmps148
 go_wp2_with fail
 refine HC.out.mono ?_
 rintro e w' ⟨rfl,hB'⟩
 go_wp2
 go_ret
 exact ⟨zA0 hf.out.symm,hB'⟩
theorem any_not_all {α:Type} (p:α→Bool) (l:List α):(!(l.any fun t=>!p t))=l.all p:=by
 induction l with
 |nil=>rfl
 |cons x xs ih=>rw [List.any_cons,List.all_cons,Bool.not_or,ih,Bool.not_not]
theorem impl_ctorOk (A0:Option Addr) (n cap0:Nat) (c:Kt) (w:World) (cs:List Value) (F:List Nat) (hn:n≤9223372036854775807) (hv:KtR w c cs F) (hF:Under w.heap.size F) :
  Calls Tryz.prog 116 #[.slice A0 n cap0,.agg cs.toArray] w fun e w'=>e=.returned (.bool (ctorOkB n c))∧Below w.heap.size w w':=by
 obtain ⟨kv,rfl,ha,hs⟩:=hv
 have HX:=jj ha
 obtain ⟨A,cap,rfl,hc1,hc2⟩:=ha.form
 clear ha
 have HF:=jj hF
 have HS:=jj hs
 have HN:=jj hn
 clear hF hs hn
 go_enter Tryz.func116,Tryz.ntmps116
 go_wp2_with fail
 obtain ⟨W2,hW2⟩:∃ W2,W2=(w.alloc (.cells #[.slice A0 n cap0] 37)).alloc (.cells #[.string c.name,.slice A c.args.length cap,.int .i64 c.idx] 122):=⟨_,rfl⟩
 have hB2:Below w.heap.size w W2:=by rw [hW2];exact ((zy2 _ _).alloc (zz8 _) _).alloc (by simp) _
 have k1:Blk W2 w.heap.size 37 #[.slice A0 n cap0]:=by rw [hW2];exact (Blk.new w _ _).same (Below.heap_alloc _ _ _ (by simp))
 have k2:Blk W2 (w.heap.size+1) 122 #[.string c.name,.slice A c.args.length cap,.int .i64 c.idx]:=by rw [hW2];have:=Blk.new (w.alloc (.cells #[.slice A0 n cap0] 37)) 122 #[.string c.name,.slice A c.args.length cap,.int .i64 c.idx];simpa using this
 rw [←hW2]
 clear hW2
 have x0:W2.cell? ⟨w.heap.size,0,none⟩=some (.slice A0 n cap0):=(k1.cell 0).trans (by simp)
 have x1:W2.cell? ⟨w.heap.size+1,1,none⟩=some (.slice A c.args.length cap):=(k2.cell 1).trans (by simp)
 have x2:W2.cell? ⟨w.heap.size+1,2,none⟩=some (.int .i64 c.idx):=(k2.cell 2).trans (by simp)
 have hlt0:=k1.lt
 clear k1 k2
 refine (impl_NameValid c.name W2 (by have:=HS.out;unfold maxLen;omega)).mono ?_
 rintro e w' ⟨rfl,rfl⟩
 have h0:ctorOkB n c=(nameOk c.name.data.toList && (decide ((c.args.length:Int)≤3) && (withinB c.idx 0 3 && c.args.all (argOkB n)))):=rfl
 cases hn:nameOk c.name.data.toList with
 |false =>
  have hf:Hid (ctorOkB n c=false):=by rw [h0,hn];rfl
  clear hn h0
  go_wp2
  go_ret
  exact ⟨zA0 hf.out.symm,hB2⟩
 |true =>
  rw [hn,Bool.true_and] at h0
  clear hn
  cases hl:decide ((c.args.length:Int)≤3) with
  |false =>
   have hf:Hid (ctorOkB n c=false):=by rw [h0,hl];rfl
   clear h0
   go_wp2
   go_ret
   exact ⟨zA0 hf.out.symm,hB2⟩
  |true =>
   rw [hl,Bool.true_and] at h0
   have H0:=jj h0
   clear h0
   go_wp2_with fail
   refine (zAE c.idx 0 3 W2).mono ?_
   rintro e w' ⟨rfl,rfl⟩
   cases hi:withinB c.idx 0 3 with
   |false =>
    have hf:Hid (ctorOkB n c=false):=by rw [H0.out,hi];rfl
    clear hi
    go_wp2
    go_ret
    exact ⟨zA0 hf.out.symm,hB2⟩
   |true =>
    have hf:Hid (ctorOkB n c=!(c.args.any fun t=>!argOkB n t)):=by rw [H0.out,hi,Bool.true_and,any_not_all];rfl
    clear hi
    go_wp2_with fail
    refine (ContainsFunc_Ty A0 n cap0 c.args W2 _ F w.heap.size HN.out x0 hlt0 (ArrTy.below HX.out hB2 HF.out) (HF.out.mono hB2.size)).mono ?_
    rintro e w' ⟨rfl,hB'⟩
    have hB3:=hB2.trans (hB'.mono hB2.size)
    generalize hbb:(c.args.any fun t=>!argOkB n t)=bb
    have HBB:=jj hbb
    clear hbb
    go_wp2
    go_ret
    exact ⟨zA0 (by rw [hf.out,HBB.out]),hB3⟩
theorem plainElem_bool_inv {H:Type} {P:Program} {e:TypeId} (he:P.underlying e=some .bool) {v:Value} {z:DataW H×List MemPlace} (h:Go.plainElem P e v=some z):∃ a,v=.bool a∧z=(.lit (.bool a),[]):=by
 unfold Go.plainElem at h
 rw [he] at h
 cases v <;> simp at h
 exact ⟨_,rfl,h.symm⟩
theorem lookup_bool {H:Type} {P:Program} {k t e:TypeId} {w:World} {b n:Nat} {D:DataW H} (h:w.ownsMap P k (Go.plainElem P e) b n D) (K:Go.Maps.Keyed P k) (ht:P.underlying t=some (.map k e)) (he:P.underlying e=some .bool) (hz:(zeroValue e).run P w=.ok (.bool false) w)
  {key:Value} {kl:Lit} (hkey:Go.keyOf P k key=some kl):∃ c,(Instr.lookup t (.map (some b)) key false).run P w=.ok (.bool c) w∧D.atKey kl (.lit (.bool false))=.lit (.bool c):=by
 obtain ⟨v,ps,hrun,hv⟩:=h.lookup K ht hz (plainElem_bool he false) hkey
 obtain ⟨c,rfl,hc⟩:=plainElem_bool_inv he hv
 simp only [Prod.mk.injEq] at hc
 exact ⟨c,hrun,hc.1⟩
open Go.Maps
def strLit (s:ByteArray):Lit:=.string s.data.toList
theorem strLit_same (a b:ByteArray):(strLit a).sameKey (strLit b)=(a.toList==b.toList):=by
 rw [ByteArray.toList_eq,ByteArray.toList_eq];rfl
theorem any_same (names:List ByteArray) (s:ByteArray):((names.map strLit).any fun x=>x.sameKey (strLit s))=nameIn names s:=by
 induction names with
 |nil=>rfl
 |cons x xs ih=>rw [List.map_cons,List.any_cons,ih,strLit_same];rfl
theorem isKey_str (s:ByteArray):WideAt.IsKeyLit (strLit s):=trivial
theorem atKey_setOf {H:Type} (u z:DataW H) (k:Lit) (acc:List Lit) (ha:∀ x∈acc,WideAt.IsKeyLit x) (hk:WideAt.IsKeyLit k):(setOf u acc).atKey k z=if acc.any (fun x=>x.sameKey k) then u else z:=by
 cases h:acc.any (fun x=>x.sameKey k) with
 |false =>
  rw [if_neg (by simp)]
  exact atKey_of_not_has ((has_setOf u k acc ha).trans h) z
 |true =>
  rw [if_pos rfl]
  revert h
  have key:∀ n (acc:List Lit),acc.length=n→(∀ x∈acc,WideAt.IsKeyLit x)→acc.any (fun x=>x.sameKey k)=true→(setOf u acc).atKey k z=u:=by
   intro n
   induction n with
   |zero=>intro acc hl _ h;rw [List.length_eq_zero_iff.1 hl] at h;simp at h
   |succ n ih =>
    intro acc hl ha h
    obtain ⟨l,x,rfl⟩:∃ l x,acc=l ++ [x]:=⟨acc.dropLast,acc.getLast (by intro e;rw [e] at hl;simp at hl),(List.dropLast_concat_getLast _).symm⟩
    rw [setOf_snoc]
    have hl':∀ y∈l,WideAt.IsKeyLit y:=fun y hy=>ha y (List.mem_append.2 (.inl hy))
    by_cases e:k=x
    ·subst e
     exact atKey_put_same (tidy_setOf u l hl').isMap hk u z
    ·rw [atKey_put_other e]
     refine ih l (by simpa using hl) hl' ?_
     rw [List.any_append,Bool.or_eq_true] at h
     rcases h with h | h
     ·exact h
     ·simp only [List.any_cons,List.any_nil,Bool.or_false] at h
      exact absurd ((WideAt.sameKey_iff hk).1 h).symm e
  exact key _ acc rfl ha
theorem lawS:Maps.Keyed Tryz.prog 9:=string_keyed Tryz.underlying9
theorem zeroB (w:World):(zeroValue 4).run Tryz.prog w=.ok (.bool false) w:=by kernel_rfl
def OwnsNames (w:World) (b:Nat) (names:List ByteArray):Prop:=w.ownsMap (H:=Unit) Tryz.prog 9 (Go.plainElem Tryz.prog 4) b names.length (setOf (.lit (.bool true)) (names.map strLit))
theorem OwnsNames.made (w:World):OwnsNames (w.alloc (.map #[] 0)) w.heap.size []:=World.ownsMap_made w _ _ _
theorem OwnsNames.kept {w w':World} {b:Nat} {names:List ByteArray} {row:Option Nat} (h:OwnsNames w b names) (hg:w.grownBy w' row) (hne:some b≠row):OwnsNames w' b names:=World.ownsMap.kept h hg hne
theorem OwnsNames.below {w w':World} {b:Nat} {names:List ByteArray} (h:OwnsNames w b names) (hb:Below w.heap.size w w'):OwnsNames w' b names :=
 h.kept (row:=none) ⟨hb.os,hb.tape,hb.output,hb.size,fun k hk _=>hb.block k hk⟩ (by simp)
theorem OwnsNames.alloc {w:World} {b:Nat} {names:List ByteArray} (h:OwnsNames w b names) (o:Obj):OwnsNames (w.alloc o) b names:=World.ownsMap.alloc h o
theorem OwnsNames.lt {w:World} {b:Nat} {names:List ByteArray} (h:OwnsNames w b names):b<w.heap.size:=World.ownsMap.lt h
theorem keyS (s:ByteArray) (hs:s.size≤maxLen):Go.keyOf Tryz.prog 9 (.string s)=some (strLit s):=Go.WideMaps.keyOf_string_mk Tryz.underlying9 hs
theorem OwnsNames.look {w:World} {b:Nat} {names:List ByteArray} (h:OwnsNames w b names) (s:ByteArray) (hs:s.size≤maxLen):(Instr.lookup 155 (.map (some b)) (.string s) false).run Tryz.prog w=.ok (.bool (nameIn names s)) w:=by
 obtain ⟨c,hr,hc⟩:=lookup_bool h lawS Tryz.underlying155 Tryz.underlying4 (zeroB w) (keyS s hs)
 rw [hr,atKey_setOf _ _ _ _ (fun x hx=>by obtain ⟨y,-,rfl⟩:=List.mem_map.1 hx;exact isKey_str y) (isKey_str s),any_same] at *
 cases hn:nameIn names s <;> rw [hn] at hc
 ·rw [if_neg (by simp)] at hc;cases hc;rfl
 ·rw [if_pos rfl] at hc;cases hc;rfl
theorem OwnsNames.put {w:World} {b:Nat} {names:List ByteArray} (h:OwnsNames w b names) (s:ByteArray) (w':World) (h':w'.ownsMap (H:=Unit) Tryz.prog 9 (Go.plainElem Tryz.prog 4) b (names.length+1) ((setOf (.lit (.bool true)) (names.map strLit)).put (strLit s) (.lit (.bool true)))):OwnsNames w' b (names ++ [s]):=by
 unfold OwnsNames
 rw [List.map_append,List.map_cons,List.map_nil,setOf_snoc,List.length_append]
 exact h'
theorem OwnsNames.add {w:World} {b:Nat} {names:List ByteArray} (h:OwnsNames w b names) (hn:names.length<1000000) (s:ByteArray) (hs:s.size≤maxLen) :
  ∃ w',(Instr.mapUpdate 155 (.map (some b)) (.string s) (.bool true)).run Tryz.prog w=.ok () w'∧OwnsNames w' b (names ++ [s])∧w.grownBy w' (some b):=by
 obtain ⟨w',hr,h1,h2⟩:=World.ownsMap.update h lawS Tryz.underlying155 (by unfold maxLen;omega) (keyS s hs) (plainElem_bool Tryz.underlying4 true)
 exact ⟨w',hr,h.put s w' h1,h2⟩
theorem ctorNames_len (xs:List Dt) (h:∀ x∈xs,x.ctors.length≤4):(ctorNames xs).length≤4*xs.length:=by
 induction xs with
 |nil=>simp [ctorNames]
 |cons x xs ih =>
  have h1:=h x (by simp)
  have h2:=ih fun y hy=>h y (by simp [hy])
  simp only [ctorNames,List.flatMap_cons,List.length_append,List.length_map,List.length_cons] at h2 ⊢
  omega
theorem dname_one {s:ByteArray} (h:s.size=1) (p:0<s.size):dnameOk s.data.toList=(bigB (s[0]'p) && !(s.toList==[73])):=by
 rw [ByteArray.toList_eq,one_byte s h]
 show (bigB (s[0]'p) && !(s[0]==73))=_
 congr 2
 simp
theorem dname_not {s:ByteArray} (h:s.size≠1):dnameOk s.data.toList=false:=by
 have hl:s.data.toList.length≠1:=by simpa using h
 generalize s.data.toList=l at *
 match l,hl with
 |[],_=>rfl
 |[c],hl=>simp at hl
 |_ :: _ :: _,_=>rfl
theorem impl_WorldValid (xs:List Dt) (w:World) (v:Value) (F:List Nat) (hx:Arr w (DtR w) xs v F) (hf:Under w.heap.size F) :
  Calls Tryz.prog 87 #[v] w fun e w'=>e=.returned (.bool (worldOk xs))∧Below w.heap.size w w':=by
 obtain ⟨A,cap,rfl,hc1,hc2⟩:=hx.form
 have hn:xs.length≤9223372036854775807:=by omega
 have HX:=jj hx
 have HF:=jj hf
 have HN:=jj hn
 clear hx hf hn
 by_cases h4:xs.length≤4
 ·have H0:=jj (WInv.zero h4)
  have hmm:=@run_makeMap Tryz.prog
  go_enter Tryz.func87,Tryz.ntmps87
  go_wp2
  clear hmm
  have HM0:Hid (OwnsNames ((w.alloc (.map #[] 0)).alloc (.map #[] 0)) w.heap.size (ctorNames (xs.take 0))):=(OwnsNames.made w).alloc _
  have HD0:Hid (OwnsNames ((w.alloc (.map #[] 0)).alloc (.map #[] 0)) (w.heap.size+1) ((xs.take 0).map Dt.name)):=by
   have:=OwnsNames.made (w.alloc (.map #[] 0))
   rwa [World.size_alloc] at this
  go_loopw [16] (fun iv wr=>∃ d:Nat,d≤xs.length∧iv=.int .i64 d∧Hid (WInv xs d)∧Below w.heap.size w wr∧Hid (OwnsNames wr (w.heap.size+1) ((xs.take d).map Dt.name))∧Hid (OwnsNames wr w.heap.size (ctorNames (xs.take d)))∧Hid (∀ x∈xs.take d,x.ctors.length≤4)∧w.heap.size+1<wr.heap.size) (fun iv _=>xs.length-(intOf iv).toNat)
  case atStart=>exact ⟨0,Nat.zero_le _,rfl,H0,((zy2 _ _).alloc (zz8 _) _).alloc (by simp) _,HD0,HM0,fun x hx=>by simp at hx,by simp⟩
  case round =>
   obtain ⟨d,hd,rfl,HW,hB,HD,HM,H4,hz⟩:=hrel
   by_cases hlt:d<xs.length
   ·obtain ⟨b,off,rfl⟩:=HX.out.ptr (by omega)
    obtain ⟨A1,cap1,G1,hb,c0,c1,HK,HG,hs,hn1,hn2⟩:=ArrDt.at HX.out HF.out hB d hlt
    have g1:(0:Int)≤(d:Int):=by omega
    have g2:(d:Int)<(xs.length:Int):=by omega
    have hsm:xs[d].name.size≤maxLen:=by unfold maxLen;exact hs
    have HS:=jj hsm
    clear hs hsm
    have hlk:=(HD.out.alloc (.cells #[.string xs[d].name,.slice A1 xs[d].ctors.length cap1] 84)).look xs[d].name HS.out
    by_cases h1:xs[d].name.size=1
    ·have t1:((xs[d].name.size:Int) != 1)=false:=by simp [h1]
     have p0:0<xs[d].name.size:=by omega
     have hdn:=dname_one h1 p0
     clear h1
     cases hlo:decide ((65:Int)≤(xs[d].name[0].toNat:Int)) with
     |false =>
      have t2:decide ((xs[d].name[0].toNat:Int)<65)=true:=by simp at hlo ⊢;omega
      have hf:=jj (HW.out.bad1 hlt (by rw [hdn];unfold bigB;rw [hlo];rfl))
      clear hdn hlo hlk
      go_wp2
      go_ret
      exact ⟨zA0 hf.out.symm,hB.alloc hB.size _⟩
     |true =>
      have t2:decide ((xs[d].name[0].toNat:Int)<65)=false:=by simp at hlo ⊢;omega
      cases hhi:decide ((xs[d].name[0].toNat:Int)≤90) with
      |false =>
       have t3:decide ((xs[d].name[0].toNat:Int)>90)=true:=by simp at hhi ⊢;omega
       have hf:=jj (HW.out.bad1 hlt (by rw [hdn];unfold bigB;rw [hlo,hhi];rfl))
       clear hdn hlo hhi hlk
       go_wp2
       go_ret
       exact ⟨zA0 hf.out.symm,hB.alloc hB.size _⟩
      |true =>
       have t3:decide ((xs[d].name[0].toNat:Int)>90)=false:=by simp at hhi ⊢;omega
       have hbig:bigB xs[d].name[0]=true:=by unfold bigB;rw [hlo,hhi];rfl
       clear hlo hhi
       rw [hbig,Bool.true_and] at hdn
       clear hbig
       cases t4:(xs[d].name.toList==[73]) with
       |true =>
        have hf:=jj (HW.out.bad1 hlt (by rw [hdn,t4];rfl))
        clear hdn hlk
        go_wp2
        go_ret
        exact ⟨zA0 hf.out.symm,hB.alloc hB.size _⟩
       |false =>
        rw [t4] at hdn
        have HDN:=jj hdn
        clear hdn
        cases e3:nameIn ((xs.take d).map Dt.name) xs[d].name with
        |true =>
         have hf:=jj (HW.out.bad3 hlt e3)
         rw [e3] at hlk
         clear e3
         go_wp2
         go_ret
         exact ⟨zA0 hf.out.symm,hB.alloc hB.size _⟩
        |false =>
         rw [e3] at hlk
         have HE3:=jj e3
         clear e3
         cases e4:withinB (xs[d].ctors.length:Int) 1 4 with
         |false =>
          have hf:=jj (HW.out.bad2 hlt e4)
          have HE4:=jj e4
          clear e4
          go_wp2_with fail
          refine (zAE (xs[d].ctors.length:Int) 1 4 _).mono ?_
          rintro e w2 ⟨rfl,rfl⟩
          rw [HE4.out]
          go_wp2
          go_ret
          exact ⟨zA0 hf.out.symm,hB.alloc hB.size _⟩
         |true =>
          have HK0:=jj (HW.out.goI hlt HDN.out e4 HE3.out)
          have h5:xs[d].ctors.length≤4:=by have:=(zAJ _ _ _).1 e4;omega
          have H5:=jj h5
          have HE4:=jj e4
          clear e4 h5
          obtain ⟨w2,hrun2,hm2,hg2⟩:=(HD.out.alloc (.cells #[.string xs[d].name,.slice A1 xs[d].ctors.length cap1] 84)).add (by rw [List.length_map,List.length_take];omega) xs[d].name HS.out
          have k2:=Blk.new wr 84 #[.string xs[d].name,.slice A1 xs[d].ctors.length cap1]
          have k3:=k2.same (hg2.block _ k2.lt (by have:=HD.out.lt;simp;omega))
          have x1:w2.cell? ⟨wr.heap.size,1,none⟩=some (.slice A1 xs[d].ctors.length cap1):=(k3.cell 1).trans (by simp)
          have hx1:=k3.lt
          clear k2 k3
          have hBa:Below w.heap.size w (wr.alloc (.cells #[.string xs[d].name,.slice A1 xs[d].ctors.length cap1] 84)):=hB.alloc hB.size _
          have hB3:=hBa.grown hg2 hBa.size (fun _ h=>by cases h;omega)
          have HM3:Hid (OwnsNames w2 w.heap.size (ctorNames (xs.take d) ++ (xs[d].ctors.take 0).map Kt.name)):=by
           rw [List.take_zero,List.map_nil,List.append_nil]
           exact (HM.out.alloc _).kept hg2 (by simp)
          have HD3:Hid (OwnsNames w2 (w.heap.size+1) ((xs.take (d+1)).map Dt.name)):=by
           rw [take_snoc' xs d hlt,List.map_append];exact hm2
          have hz3:w.heap.size+1<w2.heap.size:=by have:=hg2.size;simp at this;omega
          clear hm2 hg2 hBa HD HM hz
          go_wp2_with fail
          refine (zAE (xs[d].ctors.length:Int) 1 4 _).mono ?_
          rintro e w2' ⟨rfl,rfl⟩
          rw [HE4.out]
          go_wp2
          clear x1 hx1 hrun2 hlk t1 t2 t3 t4 c0 c1
          obtain ⟨wo,hwo⟩:∃ wo:World,wo=w2:=⟨_,rfl⟩
          go_loopw [60] (fun jv ws=>∃ k:Nat,k≤xs[d].ctors.length∧jv=.int .i64 k∧Hid (KInvI xs d hlt k)∧Below w.heap.size w ws∧Hid (OwnsNames ws (w.heap.size+1) ((xs.take (d+1)).map Dt.name))∧Hid (OwnsNames ws w.heap.size (ctorNames (xs.take d) ++ (xs[d].ctors.take k).map Kt.name))∧w.heap.size+1<ws.heap.size) (fun jv _=>xs[d].ctors.length-(intOf jv).toNat)
          case atStart=>exact ⟨0,Nat.zero_le _,rfl,HK0,hB3,HD3,HM3,hz3⟩
          case round =>
           clear hwo hz3 hB3 hB
           obtain ⟨k,hk,rfl,HKI,hB,HD,HM,hz⟩:=hrel
           by_cases hkl:k<xs[d].ctors.length
           ·obtain ⟨b2,off2,rfl⟩:=HK.out.ptr (by omega)
            obtain ⟨A3,cap3,G3,hb3,k0,k1,k2,HC,HG3,hs3,-,-⟩:=ArrKt.rep HK.out HG.out hB k hkl
            have g3:(0:Int)≤(k:Int):=by omega
            have g4:(k:Int)<(xs[d].ctors.length:Int):=by omega
            have HS3:=jj hs3
            clear hs3
            go_wp2_with fail
            obtain ⟨W4,hW4⟩:∃ W4,W4=wr.alloc (.cells #[.string xs[d].ctors[k].name,.slice A3 xs[d].ctors[k].args.length cap3,.int .i64 xs[d].ctors[k].idx] 122):=⟨_,rfl⟩
            have hb4:Below wr.heap.size wr W4:=by rw [hW4];exact (zy2 _ _).alloc (zz8 _) _
            have k4:Blk W4 wr.heap.size 122 #[.string xs[d].ctors[k].name,.slice A3 xs[d].ctors[k].args.length cap3,.int .i64 xs[d].ctors[k].idx]:=by rw [hW4];exact Blk.new _ _ _
            rw [←hW4]
            clear hW4
            have hB4:=hB.trans (hb4.mono hB.size)
            refine (impl_ctorOk _ xs.length cap xs[d].ctors[k] W4 _ _ HN.out (HC.out.below hB4 HG3.out) (HG3.out.mono hB4.size)).mono ?_
            rintro e w5 ⟨rfl,hb5⟩
            have hB5:=hB4.trans (hb5.mono hB4.size)
            have k5:=k4.same (hb5.block _ k4.lt)
            have x0:w5.cell? ⟨wr.heap.size,0,none⟩=some (.string xs[d].ctors[k].name):=(k5.cell 0).trans (by simp)
            have hx0:=k5.lt
            clear k4 k5 k0 k1 k2
            have HD5:=jj ((HD.out.below hb4).below hb5)
            have HM5:=jj ((HM.out.below hb4).below hb5)
            have hlk:=HM5.out.look xs[d].ctors[k].name (by unfold maxLen;exact HS3.out)
            cases e2:ctorOkB xs.length xs[d].ctors[k] with
            |false =>
             have hf:=jj (HKI.out.bad1 hkl e2)
             clear e2 hlk
             go_wp2
             go_ret
             exact ⟨zA0 hf.out.symm,hB5⟩
            |true =>
             cases e3:nameIn (ctorNames (xs.take d) ++ (xs[d].ctors.take k).map Kt.name) xs[d].ctors[k].name with
             |true =>
              have hf:=jj (HKI.out.bad2 hkl e3)
              rw [e3] at hlk
              clear e2 e3
              go_wp2
              go_ret
              exact ⟨zA0 hf.out.symm,hB5⟩
             |false =>
              have HK3:=jj (HKI.out.next hkl e2 e3)
              rw [e3] at hlk
              clear e2 e3
              obtain ⟨w6,hrun6,hm6,hg6⟩:=HM5.out.add (by
               have h1:=ctorNames_len (xs.take d) (fun x hx=>H4.out x hx)
               have h2:(xs.take d).length≤4:=by rw [List.length_take];omega
               have h3:=H5.out
               simp only [List.length_append,List.length_map,List.length_take]
               omega) xs[d].ctors[k].name (by unfold maxLen;exact HS3.out)
              have hB6:=hB5.grown hg6 hB5.size (fun _ h=>by cases h;exact zz8 _)
              have HD6:=jj (HD5.out.kept hg6 (by simp))
              have HM6:Hid (OwnsNames w6 w.heap.size (ctorNames (xs.take d) ++ (xs[d].ctors.take (k+1)).map Kt.name)):=by
               rw [take_snoc' _ k hkl,List.map_append,←List.append_assoc];exact hm6
              have hz6:w.heap.size+1<w6.heap.size:=zz9 hz (Nat.le_trans hb4.size (Nat.le_trans hb5.size hg6.size))
              clear hm6 hg6 hb5 hb4 HD5 HM5 hB4 hB5 hB
              go_wp2
              go_roundw
              case rel=>exact ⟨k+1,by omega,by go_num,HK3,hB6,HD6,HM6,hz6⟩
              case measure=>(simp [intOf] <;> omega)
           ·have HW2:=jj (HKI.out.done (by omega))
            have HM6:Hid (OwnsNames wr w.heap.size (ctorNames (xs.take (d+1)))):=by
             have h:=HM.out
             rw [List.take_of_length_le (show xs[d].ctors.length≤k by omega),←ctorNames_snoc,←take_snoc' xs d hlt] at h
             exact h
            have H6:Hid (∀ x∈xs.take (d+1),x.ctors.length≤4):=fun x hx=>by
             rw [take_snoc' xs d hlt] at hx
             rcases List.mem_append.1 hx with h | h
             ·exact H4.out x h
             ·rw [List.mem_singleton.1 h];exact H5.out
            go_wp2
            go_roundw
            case rel=>exact ⟨d+1,by omega,by go_num,HW2,hB,HD,HM6,H6,hz⟩
            case measure=>(simp [intOf] <;> omega)
    ·have t1:((xs[d].name.size:Int) != 1)=true:=by simp;omega
     have hf:=jj (HW.out.bad1 hlt (dname_not h1))
     clear h1 hlk
     go_wp2
     go_ret
     exact ⟨zA0 hf.out.symm,hB.alloc hB.size _⟩
   ·have hf:=jj (HW.out.done (by omega))
    go_wp2
    go_ret
    exact ⟨zA0 hf.out.symm,hB⟩
 ·have hf:=jj (worldOk_long h4)
  go_enter Tryz.func87,Tryz.ntmps87
  go_wp2
  go_ret
  exact ⟨zA0 hf.out.symm,zy2 _ _⟩
theorem impl_typeOk (A:Option Addr) (n cap:Nat) (t:Ty) (w:World) (hn:n≤9223372036854775807):Calls Tryz.prog 88 #[.slice A n cap,.agg #[.int .i64 t.d,.int .i64 t.i]] w fun e w'=>e=.returned (.bool (typeOkB n t))∧Below w.heap.size w w':=by
 cases h0:(t.d == -1) with
 |true =>
  cases h1:(t.i==0) with
  |true =>
   have hf:Hid (typeOkB n t=true):=by unfold Hid typeOkB;rw [if_pos (by simpa using h0),h1]
   go_enter Tryz.func88,Tryz.ntmps88
   go_wp2
   go_ret
   exact ⟨zA0 hf.out.symm,(zy2 _ _).alloc (zz8 _) _⟩
  |false =>
   have hf:Hid (typeOkB n t=false):=by unfold Hid typeOkB;rw [if_pos (by simpa using h0),h1]
   have hw:Hid (withinB t.d 0 ((n:Int)-1)=false):=by
    have:t.d = -1:=by simpa using h0
    exact withinB_lo (by rw [this];rfl)
   go_enter Tryz.func88,Tryz.ntmps88
   go_wp2_with fail
   refine (zAE t.d 0 ((n:Int)-1) _).mono ?_
   rintro e w' ⟨rfl,rfl⟩
   rw [hw.out]
   go_wp2
   go_ret
   exact ⟨zA0 hf.out.symm,(zy2 _ _).alloc (zz8 _) _⟩
 |false =>
  have hf0:typeOkB n t=(withinB t.d 0 ((n:Int)-1) && withinB t.i 0 3):=by unfold typeOkB;rw [if_neg (by simpa using h0)]
  cases hw:withinB t.d 0 ((n:Int)-1) with
  |false =>
   have hf:Hid (typeOkB n t=false):=by rw [hf0,hw];rfl
   have HW:=jj hw
   clear hf0 hw
   go_enter Tryz.func88,Tryz.ntmps88
   go_wp2_with fail
   refine (zAE t.d 0 ((n:Int)-1) _).mono ?_
   rintro e w' ⟨rfl,rfl⟩
   rw [HW.out]
   go_wp2
   go_ret
   exact ⟨zA0 hf.out.symm,(zy2 _ _).alloc (zz8 _) _⟩
  |true =>
   have hf:Hid (typeOkB n t=withinB t.i 0 3):=by rw [hf0,hw];rfl
   have HW:=jj hw
   clear hf0 hw
   go_enter Tryz.func88,Tryz.ntmps88
   go_wp2_with fail
   refine (zAE t.d 0 ((n:Int)-1) _).mono ?_
   rintro e w' ⟨rfl,rfl⟩
   rw [HW.out]
   go_wp2_with fail
   refine (zAE t.i 0 3 _).mono ?_
   rintro e w' ⟨rfl,rfl⟩
   generalize hbb:withinB t.i 0 3=bb
   have HBB:=jj hbb
   clear hbb
   go_wp2
   go_ret
   exact ⟨zA0 (hf.out.trans HBB.out).symm,(zy2 _ _).alloc (zz8 _) _⟩
theorem spec_l1Is (A:Option Addr) (n cap:Nat) (t:Ty) (w:World):Calls Tryz.prog 97 #[.slice A n cap,.agg #[.int .i64 t.d,.int .i64 t.i]] w fun e w'=>e=.returned (.bool (typeOkB n t))∧Below w.heap.size w w':=by
 have h0:=typeOkB_arg n t
 go_enter Tryz.func97,Tryz.ntmps97
 go_wp2_with fail
 obtain ⟨W2,hW2⟩:∃ W2,W2=w.alloc (.cells #[.int .i64 t.d,.int .i64 t.i] 39):=⟨_,rfl⟩
 have hB2:Below w.heap.size w W2:=by rw [hW2];exact (zy2 _ _).alloc (zz8 _) _
 have k1:Blk W2 w.heap.size 39 #[.int .i64 t.d,.int .i64 t.i]:=by rw [hW2];exact Blk.new _ _ _
 rw [←hW2]
 clear hW2
 refine (spec_l1Arg n t W2).mono ?_
 rintro e w' ⟨rfl,hB'⟩
 have hB3:=hB2.trans (hB'.mono hB2.size)
 have k2:=k1.same (hB'.block _ k1.lt)
 have x1:w'.cell? ⟨w.heap.size,1,none⟩=some (.int .i64 t.i):=(k2.cell 1).trans (by simp)
 have hlt:=k2.lt
 clear k1 k2
 cases h1:argOkB n t with
 |false =>
  rw [h1] at h0
  have hf:=jj h0
  clear h0 h1
  go_wp2
  go_ret
  exact ⟨zA0 hf.out,hB3⟩
 |true =>
  rw [h1,Bool.true_and] at h0
  have hf:=jj h0
  clear h0 h1
  go_wp2
  go_ret
  exact ⟨zA0 hf.out,hB3⟩
theorem spec_TypeValid (xs:List Dt) (t:Ty) (w:World) (v:Value) (F:List Nat) (hx:Arr w (DtR w) xs v F) (hf:Under w.heap.size F) :
  Calls Tryz.prog 69 #[v,.agg #[.int .i64 t.d,.int .i64 t.i]] w fun e w'=>e=.returned (.bool (typeValidB xs t))∧Below w.heap.size w w':=by
 obtain ⟨A,cap,rfl,hc1,hc2⟩:=hx.form
 have hn:xs.length≤9223372036854775807:=by omega
 have HX:=jj hx
 have HF:=jj hf
 have HN:=jj hn
 clear hx hf hn
 go_enter Tryz.func69,Tryz.ntmps69
 go_wp2_with fail
 obtain ⟨W2,hW2⟩:∃ W2,W2=w.alloc (.cells #[.int .i64 t.d,.int .i64 t.i] 39):=⟨_,rfl⟩
 have hB2:Below w.heap.size w W2:=by rw [hW2];exact (zy2 _ _).alloc (zz8 _) _
 have k1:Blk W2 w.heap.size 39 #[.int .i64 t.d,.int .i64 t.i]:=by rw [hW2];exact Blk.new _ _ _
 rw [←hW2]
 clear hW2
 refine (spec_WorldValid xs W2 _ F (ArrDt.below HX.out hB2 HF.out) (HF.out.mono hB2.size)).mono ?_
 rintro e w' ⟨rfl,hB'⟩
 have hB3:=hB2.trans (hB'.mono hB2.size)
 have k2:=k1.same (hB'.block _ k1.lt)
 have x0:w'.cell? ⟨w.heap.size,0,none⟩=some (.int .i64 t.d):=(k2.cell 0).trans (by simp)
 have x1:w'.cell? ⟨w.heap.size,1,none⟩=some (.int .i64 t.i):=(k2.cell 1).trans (by simp)
 have hlt:=k2.lt
 clear k1 k2
 cases h1:worldOk xs with
 |false =>
  have hf:Hid (typeValidB xs t=false):=by unfold Hid typeValidB;rw [h1];rfl
  clear h1
  go_wp2
  go_ret
  exact ⟨zA0 hf.out.symm,hB3⟩
 |true =>
  have hf:Hid (typeValidB xs t=typeOkB xs.length t):=by unfold Hid typeValidB;rw [h1];rfl
  clear h1
  go_wp2_with fail
  refine (spec_l1Is _ xs.length cap t w').mono ?_
  rintro e w2 ⟨rfl,hB''⟩
  have hB4:=hB3.trans (hB''.mono hB3.size)
  generalize hbb:typeOkB (xs.length:Int) t=bb
  have HBB:=jj hbb
  clear hbb
  go_wp2
  go_ret
  exact ⟨zA0 (hf.out.trans HBB.out).symm,hB4⟩
theorem impl_TypeValid (xs:List Dt) (t:Ty) (w:World) (v:Value) (F:List Nat) (hx:Arr w (DtR w) xs v F) (hf:Under w.heap.size F) :
  Calls Tryz.prog 58 #[v,.agg #[.int .i64 t.d,.int .i64 t.i]] w fun e w'=>e=.returned (.bool (typeValidB xs t))∧Below w.heap.size w w':=by
 obtain ⟨A,cap,rfl,hc1,hc2⟩:=hx.form
 have hn:xs.length≤9223372036854775807:=by omega
 have HX:=jj hx
 have HF:=jj hf
 have HN:=jj hn
 clear hx hf hn
 go_enter Tryz.func58,Tryz.ntmps58
 go_wp2_with fail
 obtain ⟨W2,hW2⟩:∃ W2,W2=w.alloc (.cells #[.int .i64 t.d,.int .i64 t.i] 39):=⟨_,rfl⟩
 have hB2:Below w.heap.size w W2:=by rw [hW2];exact (zy2 _ _).alloc (zz8 _) _
 have k1:Blk W2 w.heap.size 39 #[.int .i64 t.d,.int .i64 t.i]:=by rw [hW2];exact Blk.new _ _ _
 rw [←hW2]
 clear hW2
 refine (impl_WorldValid xs W2 _ F (ArrDt.below HX.out hB2 HF.out) (HF.out.mono hB2.size)).mono ?_
 rintro e w' ⟨rfl,hB'⟩
 have hB3:=hB2.trans (hB'.mono hB2.size)
 have k2:=k1.same (hB'.block _ k1.lt)
 have x0:w'.cell? ⟨w.heap.size,0,none⟩=some (.int .i64 t.d):=(k2.cell 0).trans (by simp)
 have x1:w'.cell? ⟨w.heap.size,1,none⟩=some (.int .i64 t.i):=(k2.cell 1).trans (by simp)
 have hlt:=k2.lt
 clear k1 k2
 cases h1:worldOk xs with
 |false =>
  have hf:Hid (typeValidB xs t=false):=by unfold Hid typeValidB;rw [h1];rfl
  clear h1
  go_wp2
  go_ret
  exact ⟨zA0 hf.out.symm,hB3⟩
 |true =>
  have hf:Hid (typeValidB xs t=typeOkB xs.length t):=by unfold Hid typeValidB;rw [h1];rfl
  clear h1
  go_wp2_with fail
  refine (impl_typeOk _ xs.length cap t w' HN.out).mono ?_
  rintro e w2 ⟨rfl,hB''⟩
  have hB4:=hB3.trans (hB''.mono hB3.size)
  generalize hbb:typeOkB (xs.length:Int) t=bb
  have HBB:=jj hbb
  clear hbb
  go_wp2
  go_ret
  exact ⟨zA0 (hf.out.trans HBB.out).symm,hB4⟩
def ctorsOfL (xs:List Dt) (t:Ty):List Int:=if typeValidB xs t=true then ctorsL xs t else []
theorem spec_l1Fits (c:Kt) (i:Int) (A:Option Addr) (n cap:Nat) (w:World):Calls Tryz.prog 129 #[.agg #[.string c.name,.slice A n cap,.int .i64 c.idx],.int .i64 i] w fun e w'=>e=.returned (.bool (fitsB c i))∧Below w.heap.size w w':=by
 cases q1:(c.idx==0) with
 |true =>
  have hf:Hid (fitsB c i=true):=by unfold Hid fitsB;rw [q1,Bool.true_or]
  go_enter Tryz.func129,Tryz.ntmps129
  go_wp2
  go_ret
  exact ⟨zA0 hf.out.symm,(zy2 _ _).alloc (zz8 _) _⟩
 |false =>
  cases q0:(i==0) with
  |true =>
   have hf:Hid (fitsB c i=true):=by unfold Hid fitsB;rw [q0,Bool.true_or,Bool.or_true]
   go_enter Tryz.func129,Tryz.ntmps129
   go_wp2
   go_ret
   exact ⟨zA0 hf.out.symm,(zy2 _ _).alloc (zz8 _) _⟩
  |false =>
   have hf:Hid (fitsB c i=(c.idx==i)):=by unfold Hid fitsB;rw [q0,q1,Bool.false_or,Bool.false_or]
   go_enter Tryz.func129,Tryz.ntmps129
   go_wp2
   go_ret
   exact ⟨zA0 hf.out.symm,(zy2 _ _).alloc (zz8 _) _⟩
theorem spec_l1Ctors (xs:List Dt) (t:Ty) (w:World) (v:Value) (F:List Nat) (hx:Arr w (DtR w) xs v F) (hf:Under w.heap.size F) (hw:WorldOK xs) (ht:InWorld xs.length t) :
  Calls Tryz.prog 102 #[v,.agg #[.int .i64 t.d,.int .i64 t.i]] w (MadeNats w (ctorsL xs t)):=by
 obtain ⟨A,cap,rfl,hc1,hc2⟩:=hx.form
 have HX:=jj hx
 have HF:=jj hf
 clear hx hf
 rcases ht with hd | ⟨d,hd,hdl⟩
 ·have hf:=jj (ctorsL_int (xs:=xs) hd)
  have t0:(t.d == -1)=true:=by simp [hd]
  clear hd
  go_enter Tryz.func102,Tryz.ntmps102
  go_wp2
  go_ret
  rw [hf.out]
  exact ⟨_,[],rfl,((zy2 _ _).alloc (zz8 _) _).alloc (by simp) _,⟨_,_,rfl,by simp,by simp [maxLen],.inl ⟨rfl,rfl⟩⟩,Free.nil _,Fresh.nil _ _⟩
 ·obtain ⟨t1,t2⟩:=t
  simp only at hd
  subst hd
  have hf:=jj (ctorsL_data (i:=t2) hdl)
  have t0:((d:Int) == -1)=false:=by rw [beq_eq_false_iff_ne];omega
  obtain ⟨i0,hi,hz0,hz1,hz2⟩:=info_parts info_int
  have HI:=jj hi
  have HZ0:=jj hz0
  have HZ1:=jj hz1
  have HZ2:=jj hz2
  clear hi hz0 hz1 hz2
  obtain ⟨b,off,rfl⟩:=HX.out.ptr (by omega)
  have hB0:Below w.heap.size w ((w.alloc (.cells #[.int .i64 (d:Int),.int .i64 t2] 39)).alloc (.cells #[] 3)):=((zy2 _ _).alloc (zz8 _) _).alloc (by simp) _
  have KT0:Hid (Blk ((w.alloc (.cells #[.int .i64 (d:Int),.int .i64 t2] 39)).alloc (.cells #[] 3)) w.heap.size 39 #[.int .i64 (d:Int),.int .i64 t2]):=(Blk.new _ _ _).same (Below.heap_alloc _ _ _ (by simp))
  have HO0:Hid (Own ((w.alloc (.cells #[.int .i64 (d:Int),.int .i64 t2] 39)).alloc (.cells #[] 3)) (w.heap.size+1) 3 1 NatR ([]:List Int) (.slice (some ⟨w.heap.size+1,0,none⟩) 0 0) []):=by
   have h:=Own.made (w.alloc (.cells #[.int .i64 (d:Int),.int .i64 t2] 39)) (w.heap.size+1) 3 1 NatR #[] 0 (by simp) (by simp [maxLen]) rfl
   rwa [World.size_alloc] at h
  have g1:(0:Int)≤(d:Int):=by omega
  have g2:(d:Int)<(xs.length:Int):=by omega
  have HL:=jj (hw.at hdl).hi
  go_enter Tryz.func102,Tryz.ntmps102
  go_wp2
  go_loopw [5,6] (fun ov iv wr=>∃ k:Nat,k≤xs[d].ctors.length∧iv=.int .i64 k∧Hid (Own wr (w.heap.size+1) 3 1 NatR (fitTo xs[d].ctors t2 k) ov [])∧Below w.heap.size w wr∧Hid (Blk wr w.heap.size 39 #[.int .i64 (d:Int),.int .i64 t2])) (fun _ iv _=>xs[d].ctors.length-(intOf iv).toNat)
  case atStart=>exact ⟨0,Nat.zero_le _,rfl,HO0,hB0,KT0⟩
  case round =>
   clear hB0 KT0 HO0
   obtain ⟨k,hk,rfl,HO,hB,KT⟩:=hrel
   obtain ⟨A1,cap1,G1,hb,c0,c1,HK,HG,hs,hn1,hn2⟩:=ArrDt.at HX.out HF.out hB d hdl
   clear c0 hs
   have y0:wr.cell? ⟨w.heap.size,0,none⟩=some (.int .i64 (d:Int)):=(KT.out.cell 0).trans (by simp)
   have y1:wr.cell? ⟨w.heap.size,1,none⟩=some (.int .i64 t2):=(KT.out.cell 1).trans (by simp)
   have hy1:=KT.out.lt
   by_cases hkl:k<xs[d].ctors.length
   ·obtain ⟨b2,off2,rfl⟩:=HK.out.ptr (by omega)
    obtain ⟨A3,cap3,G3,hb3,k0,k1,k2,HC,HG3,-,-,-⟩:=ArrKt.rep HK.out HG.out hB k hkl
    have g3:(0:Int)≤(k:Int):=by omega
    have g4:(k:Int)<(xs[d].ctors.length:Int):=by omega
    go_wp2_with fail
    have hkeep:∀ U U':World,(U.cell? ⟨w.heap.size,0,none⟩=some (.int .i64 (d:Int))∧U.cell? ⟨w.heap.size,1,none⟩=some (.int .i64 t2)∧U.cell? ⟨b,off+d*2+1,none⟩=some (.slice (some ⟨b2,off2,none⟩) xs[d].ctors.length cap1)∧U.cell? ⟨b2,off2+k*3,none⟩=some (.string xs[d].ctors[k].name)∧U.cell? ⟨b2,off2+k*3+1,none⟩=some (.slice A3 xs[d].ctors[k].args.length cap3)∧U.cell? ⟨b2,off2+k*3+2,none⟩=some (.int .i64 xs[d].ctors[k].idx))→Below U.heap.size U U'→wr.heap.size≤U.heap.size→(U'.cell? ⟨w.heap.size,0,none⟩=some (.int .i64 (d:Int))∧U'.cell? ⟨w.heap.size,1,none⟩=some (.int .i64 t2)∧U'.cell? ⟨b,off+d*2+1,none⟩=some (.slice (some ⟨b2,off2,none⟩) xs[d].ctors.length cap1)∧U'.cell? ⟨b2,off2+k*3,none⟩=some (.string xs[d].ctors[k].name)∧U'.cell? ⟨b2,off2+k*3+1,none⟩=some (.slice A3 xs[d].ctors[k].args.length cap3)∧U'.cell? ⟨b2,off2+k*3+2,none⟩=some (.int .i64 xs[d].ctors[k].idx)):=fun U U' h hUU hU=>⟨(hUU.cell (zz9 (KT.out.lt) hU)).trans h.1,(hUU.cell (zz9 (KT.out.lt) hU)).trans h.2.1,(hUU.cell (zz9 (hb) hU)).trans h.2.2.1,(hUU.cell (zz9 (hb3) hU)).trans h.2.2.2.1,(hUU.cell (zz9 (hb3) hU)).trans h.2.2.2.2.1,(hUU.cell (zz9 (hb3) hU)).trans h.2.2.2.2.2⟩
    have HKeep:=jj hkeep
    clear hkeep
    go_region_held3 (fun w'=>w'.cell? ⟨w.heap.size,0,none⟩=some (.int .i64 (d:Int))∧w'.cell? ⟨w.heap.size,1,none⟩=some (.int .i64 t2)∧w'.cell? ⟨b,off+d*2+1,none⟩=some (.slice (some ⟨b2,off2,none⟩) xs[d].ctors.length cap1)∧w'.cell? ⟨b2,off2+k*3,none⟩=some (.string xs[d].ctors[k].name)∧w'.cell? ⟨b2,off2+k*3+1,none⟩=some (.slice A3 xs[d].ctors[k].args.length cap3)∧w'.cell? ⟨b2,off2+k*3+2,none⟩=some (.int .i64 xs[d].ctors[k].idx)) (first | assumption | (exact ⟨y0,y1,c1,k0,k1,k2⟩) | (exact HKeep.out wr.drew w' ⟨y0,y1,c1,k0,k1,k2⟩ hB' (zz8 _))) (first | (go_at_call 129;((with_reducible refine (spec_l1Fits xs[d].ctors[k] t2 _ _ _ _).mono ?_);rintro e w' ⟨rfl,hB'⟩)))
    have hB1:=hB.drew.trans (hB'.mono hB.size)
    have HO1:Hid (Own w' (w.heap.size+1) 3 1 NatR (fitTo xs[d].ctors t2 k) u5 []):=Own.below (fun x cs G hk h=>NatR_mono _ _ x cs G hk h) (w:=wr) HO.out (zA8 hB')
    have KT1:Hid (Blk w' w.heap.size 39 #[.int .i64 (d:Int),.int .i64 t2]):=KT.out.same (hB'.block _ KT.out.lt)
    have hsz1:wr.heap.size≤w'.heap.size:=hB'.size
    have hz1':w.heap.size+1≤wr.heap.size:=KT.out.lt
    clear HKeep
    cases e1:fitsB xs[d].ctors[k] t2 with
    |false =>
     have HF2:=jj (fitTo_no hkl e1)
     clear e1
     go_wp2
     go_roundw
     case rel=>exact ⟨k+1,by omega,by go_num,(by rw [HF2.out];exact HO1.out),hB1,KT1⟩
     case measure=>(simp [intOf] <;> omega)
    |true =>
     have HF2:=jj (fitTo_yes hkl e1)
     clear e1
     have hlen:=fitTo_len xs[d].ctors t2 k
     go_wp2_with (at_builtin;refine Halt.mk ?_)
     refine Halt.of (zAA (P:=Tryz.prog) rfl _ _ 104 rfl i0 _ 8 Tryz.underlying104 HI.out HZ0.out HZ1.out HZ2.out rfl Nat.zero_lt_one NatR_len NatR_mono (by rfl) HO1.out (k:Int) 3 [.int .i64 (k:Int)] [] _ (by rfl) (by simp) (by simp [Value.oneCell']) ⟨rfl,rfl⟩ (Under.nil _) (fun _ _ h=>by cases h) (by have:=HL.out;unfold maxLen;omega) (by have:=HL.out;omega) (Nat.le_trans hz1' hsz1) ?_)
     intro g cp w3 hown3 hgr3 hat3
     have hrow:=HO1.out.row
     have hB3:Below w.heap.size w w3:=(hB1.alloc hB1.size _).grown hgr3 (by have:=hB1.size;simp;omega) (fun g hg=>by have:=hrow g (zA1.2 hg);omega)
     have HO3:=jj hown3
     have KT3:Hid (Blk w3 w.heap.size 39 #[.int .i64 (d:Int),.int .i64 t2]):=(KT1.out.same (Below.heap_alloc _ _ _ KT1.out.lt)).same (hgr3.block _ (by have:=KT1.out.lt;simp;omega) (fun e=>by have:=hrow _ (zA1.2 e.symm);omega))
     have hsz3:=hgr3.size
     clear hown3 hgr3 hat3 hrow hlen
     go_wp2
     go_roundw
     case rel=>exact ⟨k+1,by omega,by go_num,(by rw [HF2.out];exact HO3.out),hB3,KT3⟩
     case measure=>(simp [intOf] <;> omega)
   ·have hfin:MadeNats w (ctorsL xs ⟨(d:Int),t2⟩) (.returned u5) wr:=by
     rw [hf.out]
     have h:=HO.out
     rw [show k=xs[d].ctors.length by omega] at h
     exact h.nats hB (by omega)
    have HFin:=jj hfin
    clear hfin
    go_wp2
    go_ret
    exact HFin.out
theorem ArrNat.at {w0 w:World} {b off n cap:Nat} {F:List Nat} {xs:List Int} (h:Arr w0 (NatR w0) xs (.slice (some ⟨b,off,none⟩) n cap) F) (hF:Under w0.heap.size F) (hB:Below w0.heap.size w0 w) (i:Nat) (hi:i<xs.length) :
  b<w.heap.size∧w.cell? ⟨b,off+i,none⟩=some (.int .i64 xs[i]):=by
 obtain ⟨b',off',cs,G,e,hb,hcs,hv,hG⟩:=h.get (NatR_len _) hi
 cases e
 have hbl:=hF _ hb
 have hc:=hcs.same (hB.block _ hbl)
 obtain ⟨rfl,-⟩:=hv
 have:=hc 0 _ rfl
 rw [Nat.mul_one] at this
 exact ⟨zz9 hbl hB.size,this⟩
def hasB (xs:List Int) (n:Int):Bool:=xs.any fun x=>n==x
theorem hasB_iff (xs:List Int) (n:Int):hasB xs n=true↔n∈xs:=by
 unfold hasB
 rw [List.any_eq_true]
 exact ⟨fun ⟨x,h,e⟩=>by rw [beq_iff_eq] at e;rw [e];exact h,fun h=>⟨n,h,by simp⟩⟩
theorem Index_int (xs:List Int) (n r:Int) (hr:FirstAt (fun x=>n==x) xs r) (w:World) (x:Value) (F:List Nat) (hx:Arr w (NatR w) xs x F) (hf:Under w.heap.size F) :
  Calls Tryz.prog 89 #[x,.int .i64 n] w fun e w'=>e=.returned (.int .i64 r)∧Below w.heap.size w w':=by
 obtain ⟨A,cap,rfl,hc1,hc2⟩:=hx.form
 have HX:=jj hx
 have HF:=jj hf
 have HR:=jj hr
 clear hx hf hr
 go_enter Tryz.func89,Tryz.ntmps89
 go_wp2
 go_loopw [8] (fun i wr=>∃ k:Nat,k≤xs.length∧i=.int .i64 k∧Hid (∀ j (hj:j<xs.length),j<k→(n==xs[j])=false)∧Below w.heap.size w wr) (fun i _=>xs.length-(intOf i).toNat)
 case atStart=>exact ⟨0,Nat.zero_le _,rfl,fun j hj h=>by omega,zy2 _ _⟩
 case round =>
  obtain ⟨k,hk,rfl,HT,hB⟩:=hrel
  by_cases hlt:k<xs.length
  ·have g1:(0:Int)≤(k:Int):=by omega
   have g2:(k:Int)<(xs.length:Int):=by omega
   obtain ⟨b,off,rfl⟩:=HX.out.ptr (by omega)
   obtain ⟨hb,c0⟩:=ArrNat.at HX.out HF.out hB k hlt
   cases hq:(n==xs[k]) with
   |true =>
    have hf:=jj (HR.out.hit hlt hq (fun j hj h=>HT.out j hj h))
    go_wp2
    go_ret
    exact ⟨zA5 hf.out.symm,hB⟩
   |false =>
    have hT2:Hid (∀ j (hj:j<xs.length),j<k+1→(n==xs[j])=false):=fun j hj h=>by
     rcases Nat.lt_or_ge j k with h2 | h2
     ·exact HT.out j hj h2
     ·obtain rfl:j=k:=by omega
      exact hq
    go_wp2
    go_roundw
    case rel=>exact ⟨k+1,by omega,by go_num,hT2,hB⟩
    case measure=>(simp [intOf] <;> omega)
  ·have hf:Hid (r = -1):=HR.out.miss (fun j hj=>HT.out j hj (by omega))
   go_wp2
   go_ret
   exact ⟨zA5 hf.out.symm,hB⟩
theorem impl_has (xs:List Int) (n:Int) (w:World) (x:Value) (F:List Nat) (hx:Arr w (NatR w) xs x F) (hf:Under w.heap.size F) :
  Calls Tryz.prog 60 #[x,.int .i64 n] w fun e w'=>e=.returned (.bool (hasB xs n))∧Below w.heap.size w w':=by
 obtain ⟨r,hr⟩:=FirstAt.ex (fun x=>n==x) xs
 have hres:Hid (hasB xs n=decide (0≤r)):=hr.any
 have hcall:=Index_int xs n r hr w x F hx hf
 obtain ⟨A,cap,rfl,hc1,hc2⟩:=hx.form
 have HC:=jj hcall
 clear hcall hr hx hf
 go_enter Tryz.func60,Tryz.ntmps60
 go_wp2_with fail
 refine HC.out.mono ?_
 rintro e w' ⟨rfl,hB'⟩
 go_wp2
 go_ret
 exact ⟨zA0 hres.out.symm,hB'⟩
theorem any_drop {α:Type} (p:α→Bool) (l:List α) (k:Nat) (h:k<l.length):(l.drop k).any p=(p l[k] || (l.drop (k+1)).any p):=by
 rw [List.drop_eq_getElem_cons h];rfl
theorem spec_l1Has (xs:List Int) (n:Int) (w:World) (x:Value) (F:List Nat) (hx:Arr w (NatR w) xs x F) (hf:Under w.heap.size F) :
  Calls Tryz.prog 101 #[x,.int .i64 n] w fun e w'=>e=.returned (.bool (hasB xs n))∧Below w.heap.size w w':=by
 obtain ⟨A,cap,rfl,hc1,hc2⟩:=hx.form
 have HX:=jj hx
 have HF:=jj hf
 clear hx hf
 go_enter Tryz.func101,Tryz.ntmps101
 go_wp2
 go_loopw [5] (fun i wr=>∃ k:Nat,k≤xs.length∧i=.int .i64 k∧Hid (hasB xs n=(xs.drop k).any fun x=>n==x)∧Below w.heap.size w wr) (fun i _=>xs.length-(intOf i).toNat)
 case atStart=>exact ⟨0,Nat.zero_le _,rfl,(show hasB xs n=hasB xs n from rfl),zy2 _ _⟩
 case round =>
  obtain ⟨k,hk,rfl,HT,hB⟩:=hrel
  by_cases hlt:k<xs.length
  ·have g1:(0:Int)≤(k:Int):=by omega
   have g2:(k:Int)<(xs.length:Int):=by omega
   obtain ⟨b,off,rfl⟩:=HX.out.ptr (by omega)
   obtain ⟨hb,c0⟩:=ArrNat.at HX.out HF.out hB k hlt
   have hd:=HT.out
   rw [any_drop _ xs k hlt] at hd
   cases hq:(xs[k]==n) with
   |true =>
    have hq2:(n==xs[k])=true:=by rw [beq_iff_eq] at hq ⊢;exact hq.symm
    rw [hq2,Bool.true_or] at hd
    have hf:=jj hd
    clear hd hq2
    go_wp2
    go_ret
    exact ⟨zA0 hf.out.symm,hB⟩
   |false =>
    have hq2:(n==xs[k])=false:=by rw [beq_eq_false_iff_ne] at hq ⊢;exact fun e=>hq e.symm
    rw [hq2,Bool.false_or] at hd
    have HT2:=jj hd
    clear hd hq2
    go_wp2
    go_roundw
    case rel=>exact ⟨k+1,by omega,by go_num,HT2,hB⟩
    case measure=>(simp [intOf] <;> omega)
  ·have hd:=HT.out
   rw [List.drop_of_length_le (by omega)] at hd
   have hf:=jj hd
   clear hd
   go_wp2
   go_ret
   exact ⟨zA0 hf.out.symm,hB⟩
def ctorAt (xs:List Dt) (t:Ty) (k:Int):Option Kt:=(ctorsAt xs t.d)[k.toNat]?
def argsOf (xs:List Dt) (t:Ty) (k:Int):List Ty:=match ctorAt xs t k with | some c=>argsL c t.i | none=>[]
def argTypesL (xs:List Dt) (t:Ty) (k:Int):List Ty:=if hasB (ctorsOfL xs t) k=true then argsOf xs t k else []
theorem argsOf_get {xs:List Dt} {d k:Nat} {i:Int} (hd:d<xs.length) (hk:k<xs[d].ctors.length):argsOf xs ⟨(d:Int),i⟩ (k:Int)=argsL xs[d].ctors[k] i:=by
 unfold argsOf ctorAt
 simp only
 rw [ctorsAt_get hd,Int.toNat_natCast,List.getElem?_eq_getElem hk]
theorem mem_fitTo {cs:List Kt} {i:Int} {m:Nat} {n:Int} (h:n∈fitTo cs i m):∃ k:Nat,n=(k:Int)∧k<m:=by
 unfold fitTo at h
 obtain ⟨k,hk,rfl⟩:=List.mem_map.1 h
 have:=(List.mem_filter.1 hk).1
 exact ⟨k,rfl,by simpa using this⟩
theorem mem_ctorsL {xs:List Dt} {t:Ty} {n:Int} (ht:InWorld xs.length t) (h:n∈ctorsL xs t):∃ d k:Nat,t.d=(d:Int)∧n=(k:Int)∧∃ hd:d<xs.length,k<xs[d].ctors.length:=by
 rcases ht with hd | ⟨d,hd,hdl⟩
 ·rw [ctorsL_int hd] at h;cases h
 ·obtain ⟨t1,t2⟩:=t
  simp only at hd
  subst hd
  rw [ctorsL_data hdl] at h
  obtain ⟨k,rfl,hk⟩:=mem_fitTo h
  exact ⟨d,k,rfl,rfl,hdl,hk⟩
def slotOf (t:Ty):Nat:=t.d.toNat*4+t.i.toNat
def tyAt (s:Nat):Ty:=⟨((s / 4:Nat):Int),((s % 4:Nat):Int)⟩
def depthIn (tab:List Int) (t:Ty):Int:=if t.d = -1 then 1 else tab.getD (slotOf t) 0
def mostGo (tab:List Int):Int→List Ty→Int
 |m,[]=>m+1
 |m,a :: ls=>if depthIn tab a=0 then 0 else mostGo tab (max m (depthIn tab a)) ls
def mostIn (xs:List Dt) (tab:List Int) (t:Ty) (k:Int):Int:=mostGo tab 0 (argsOf xs t k)
def better (tab:List Int) (s:Nat) (n:Int):Bool:=decide (0<n) && (decide (tab.getD s 0=0) || decide (n<tab.getD s 0))
def putIf (tab:List Int) (s:Nat) (n:Int):List Int:=if better tab s n=true then tab.set s n else tab
def slotGo (xs:List Dt) (s:Nat) (tab:List Int) (ks:List Int):List Int:=ks.foldl (fun tab k=>putIf tab s (mostIn xs tab (tyAt s) k)) tab
def sweepTo (xs:List Dt) (tab:List Int) (s:Nat):List Int:=(List.range s).foldl (fun tab s=>slotGo xs s tab (ctorsL xs (tyAt s))) tab
def sweep (xs:List Dt) (tab:List Int):List Int:=sweepTo xs tab (xs.length*4)
def sweeps (xs:List Dt):Nat→List Int
 |0=>List.replicate (xs.length*4) 0
 |n+1=>sweep xs (sweeps xs n)
def tableL (xs:List Dt):List Int:=sweeps xs (xs.length*4+1)
/-! ### Types with a value of a depth -/
def hasD (xs:List Dt):Nat→Ty→Prop
 |0,_=>False
 |n+1,t=>t.d = -1∨∃ k∈ctorsL xs t,∀ a∈argsOf xs t k,hasD xs n a
def TyIn (n:Nat) (t:Ty):Prop:=t.d = -1∨∃ d i:Nat,t=⟨(d:Int),(i:Int)⟩∧d<n∧i<4
theorem TyIn.inWorld {n:Nat} {t:Ty} (h:TyIn n t):InWorld n t:=by
 rcases h with h | ⟨d,i,rfl,h1,h2⟩
 ·exact .inl h
 ·exact .inr ⟨d,rfl,h1⟩
theorem typeOkB_tyIn {n:Nat} {t:Ty} (h:typeOkB n t=true):TyIn n t:=by
 unfold typeOkB at h
 by_cases e:t.d = -1
 ·exact .inl e
 ·rw [if_neg e] at h
  simp [withinB] at h
  refine .inr ⟨t.d.toNat,t.i.toNat,?_,by omega,by omega⟩
  obtain ⟨t1,t2⟩:=t
  simp only at h ⊢
  congr 1 <;> omega
theorem argTy_in {n:Nat} {c:Kt} (hc:KtOk n c) {i:Int} (h0:0≤i) (h3:i≤3) {a:Ty} (ha:a∈argsL c i):TyIn n a:=by
 unfold argsL at ha
 obtain ⟨b,hb,rfl⟩:=List.mem_map.1 ha
 have hok:=hc.all b hb
 have hr:0≤resIdx c i∧resIdx c i≤3:=by
  unfold resIdx
  split
  ·exact ⟨h0,h3⟩
  ·exact ⟨hc.lo,hc.hi⟩
 unfold argOkB at hok
 cases q:(b.i == -1) with
 |true =>
  rw [argTy_yes q]
  by_cases e:b.d = -1
  ·exact .inl e
  ·rw [if_neg e] at hok
   simp [withinB] at hok
   refine .inr ⟨b.d.toNat,(resIdx c i).toNat,?_,by omega,by omega⟩
   congr 1 <;> omega
 |false =>
  rw [argTy_no q]
  have q':¬b.i = -1:=by simpa using q
  by_cases e:b.d = -1
  ·exact .inl e
  ·rw [if_neg e] at hok
   simp [withinB] at hok
   refine .inr ⟨b.d.toNat,b.i.toNat,?_,by omega,by omega⟩
   obtain ⟨b1,b2⟩:=b
   simp only at hok q' ⊢
   congr 1 <;> omega
theorem argsOf_in {xs:List Dt} (hw:WorldOK xs) {t:Ty} (ht:TyIn xs.length t) {k:Int} (hk:k∈ctorsL xs t) {a:Ty} (ha:a∈argsOf xs t k):TyIn xs.length a:=by
 rcases ht with h | ⟨d,i,rfl,h1,h2⟩
 ·rw [ctorsL_int h] at hk;cases hk
 ·obtain ⟨d',m,e1,rfl,hd,hm⟩:=mem_ctorsL (.inr ⟨d,rfl,h1⟩) hk
  obtain rfl:d=d':=Int.ofNat.inj e1
  rw [argsOf_get hd hm] at ha
  exact argTy_in (hw.ctor hd hm) (by omega) (by omega) ha
/-! ### What an entry says -/
structure Sound (xs:List Dt) (tab:List Int):Prop where
 pos:∀ s,0≤tab.getD s 0
 has:∀ s,s<xs.length*4→tab.getD s 0≠0→hasD xs (tab.getD s 0).toNat (tyAt s)
 len:tab.length=xs.length*4
/-! ### Entries become no worse -/
def Le (t t':List Int):Prop:=∀ s,t.getD s 0≠0→t'.getD s 0≠0∧t'.getD s 0≤t.getD s 0
def Done (xs:List Dt) (tab:List Int) (n:Nat):Prop:=∀ s,s<xs.length*4→hasD xs n (tyAt s)→tab.getD s 0≠0∧tab.getD s 0≤n
theorem ArrV.at {w0 w:World} {b off n cap:Nat} {F:List Nat} {xs:List V} (h:Arr w0 (VR w0) xs (.slice (some ⟨b,off,none⟩) n cap) F) (hF:Under w0.heap.size F) (hB:Below w0.heap.size w0 w) (i:Nat) (hi:i<xs.length) :
  ∃ A1 cap1 G,b<w.heap.size∧w.cell? ⟨b,off+i*3,none⟩=some (.int .i64 xs[i].c)∧w.cell? ⟨b,off+i*3+1,none⟩=some (.int .i64 xs[i].n)∧w.cell? ⟨b,off+i*3+2,none⟩=some (.slice A1 xs[i].ks.length cap1) ∧
   Hid (VR w0 xs[i] [.int .i64 xs[i].c,.int .i64 xs[i].n,.slice A1 xs[i].ks.length cap1] G)∧Hid (Under w0.heap.size G)∧(∀ b∈G,b∈F)∧xs[i].ks.length≤cap1∧cap1≤9223372036854775807:=by
 obtain ⟨b',off',cs,G,e,hb,hcs,hv,hG⟩:=h.get VR_len hi
 cases e
 have hbl:=hF _ hb
 have hc:=hcs.same (hB.block _ hbl)
 obtain ⟨kv,rfl,ha⟩:=(zAD _ _ _).1 hv
 obtain ⟨A1,cap1,rfl,h1,h2⟩:=ha.form
 exact ⟨A1,cap1,G,zz9 hbl hB.size,hc 0 _ rfl,hc 1 _ rfl,hc 2 _ rfl,hv,hF.sub hG,hG,h1,h2⟩
def nodes (v:V):Nat:=1+v.size
theorem nodes_ks (v:V):nodes v=1+V.sizes v.ks:=by obtain ⟨c,n,ks⟩:=v;rfl
theorem sizes_step {l:List V} {i:Nat} (h:i<l.length):V.sizes (l.take (i+1))=V.sizes (l.take i)+nodes l[i]:=by
 rw [V.sizes_eq,V.sizes_eq,V.subs_take_succ l i h,List.length_take,List.length_take]
 unfold nodes
 omega
theorem sizes_take_le (l:List V) (i:Nat):V.sizes (l.take i)≤V.sizes l:=by
 rw [V.sizes_eq,V.sizes_eq,List.length_take]
 have:=V.subs_take_le l i
 omega
def zipAll (f:Ty→V→Bool):List Ty→List V→Bool
 |a :: ls,k :: ks=>f a k && zipAll f ls ks
 |_,_=>true
theorem zipAll_step {f:Ty→V→Bool} {ls:List Ty} {ks:List V} {i:Nat} (h1:i<ls.length) (h2:i<ks.length):zipAll f (ls.drop i) (ks.drop i)=(f ls[i] ks[i] && zipAll f (ls.drop (i+1)) (ks.drop (i+1))):=by
 rw [List.drop_eq_getElem_cons h1,List.drop_eq_getElem_cons h2,zipAll]
theorem zipAll_end {f:Ty→V→Bool} {ls:List Ty} {ks:List V} {i:Nat} (h1:ls.length≤i):zipAll f (ls.drop i) (ks.drop i)=true:=by
 rw [List.drop_of_length_le h1]
 cases ks.drop i <;> rfl
def isNum (v:V):Bool:=(v.c == -1) && (withinB v.n 0 9 && decide (v.ks.length=0))
def fitsV (xs:List Dt):Nat→Ty→V→Bool
 |0,_,_=>false
 |d+1,t,v=>if t.d = -1 then isNum v else (v.n==0) && (hasB (ctorsL xs t) v.c && (decide (v.ks.length=(argsOf xs t v.c).length) && zipAll (fitsV xs d) (argsOf xs t v.c) v.ks))
theorem fitsV_int {xs:List Dt} {d:Nat} {t:Ty} {v:V} (h:t.d = -1):fitsV xs (d+1) t v=isNum v:=by rw [fitsV,if_pos h]
theorem fitsV_data {xs:List Dt} {d:Nat} {t:Ty} {v:V} (h:¬t.d = -1):fitsV xs (d+1) t v=((v.n==0) && (hasB (ctorsL xs t) v.c && (decide (v.ks.length=(argsOf xs t v.c).length) && zipAll (fitsV xs d) (argsOf xs t v.c) v.ks))):=by rw [fitsV,if_neg h]
def valueOkB (xs:List Dt) (t:Ty) (v:V):Bool:=fitsV xs 10 t v && decide (nodes v≤60)
def valueValidB (xs:List Dt) (t:Ty) (v:V):Bool:=typeValidB xs t && valueOkB xs t v
def FitsS (v:V):Prop:=∀ (xs:List Dt) (_:WorldOK xs) (d:Nat) (_:d≤10) (t:Ty) (_:TyIn xs.length t) (w:World) (x:Value) (F:List Nat) (cs:List Value) (G:List Nat),Arr w (DtR w) xs x F→Under w.heap.size F→VR w v cs G→Under w.heap.size G →
 Calls Tryz.prog 71 #[x,.agg #[.int .i64 t.d,.int .i64 t.i],.agg cs.toArray,.int .i64 (d:Int)] w fun e w'=>e=.returned (.bool (fitsV xs d t v))∧Below w.heap.size w w'
theorem l2Fits_of (v:V) (ih:∀ k∈v.ks,FitsS k):FitsS v:=by
 intro xs hw d hd t ht w x F cs G hx hf hv hg
 obtain ⟨kv,rfl,ha⟩:=(zAD _ _ _).1 hv
 obtain ⟨A,cap,rfl,hc1,hc2⟩:=hx.form
 obtain ⟨A4,cap4,rfl,hc3,hc4⟩:=ha.form
 have HW:=jj hw
 have IH:=jj ih
 have HX:=jj hx
 have HF:=jj hf
 have HA:=jj ha
 have HG:=jj hg
 clear hx hf ha hg
 clear hw ih hv
 cases d with
 |zero =>
  go_enter Tryz.func71,Tryz.ntmps71
  go_wp2
  go_ret
  exact ⟨zA0 rfl,((zy2 _ _).alloc (zz8 _) _).alloc (by simp) _⟩
 |succ d =>
 have hd1:decide (((d+1:Nat):Int)<1)=false:=by simp;omega
 have hde:((d+1:Nat):Int)=(d:Int)+1:=by omega
 rw [hde] at hd1 ⊢
 clear hde
 rcases ht with ht | ⟨q,r,rfl,hql,hrl⟩
 ·have t0:(t.d == -1)=true:=by simp [ht]
  have hB0:Below w.heap.size w ((w.alloc (.cells #[.int .i64 t.d,.int .i64 t.i] 39)).alloc (.cells #[.int .i64 v.c,.int .i64 v.n,.slice A4 v.ks.length cap4] 47)):=((zy2 _ _).alloc (zz8 _) _).alloc (by simp) _
  have hfi:=fitsV_int (xs:=xs) (d:=d) (v:=v) ht
  unfold isNum at hfi
  cases q0:(v.c == -1) with
  |false =>
   have hf:Hid (fitsV xs (d+1) t v=false):=by rw [hfi,q0];rfl
   clear hfi
   go_enter Tryz.func71,Tryz.ntmps71
   go_wp2
   go_ret
   exact ⟨zA0 hf.out.symm,((zy2 _ _).alloc (zz8 _) _).alloc (by simp) _⟩
  |true =>
   cases q1:withinB v.n 0 9 with
   |false =>
    have hf:Hid (fitsV xs (d+1) t v=false):=by rw [hfi,q0,q1];rfl
    clear hfi
    by_cases h0:0≤v.n
    ·have t1:decide (v.n≥0)=true:=by simpa using h0
     have t2:decide (v.n≤9)=false:=by
      have:¬(0≤v.n∧v.n≤9):=fun h=>by rw [(zAJ _ _ _).2 h] at q1;cases q1
      simp;omega
     clear q1
     go_enter Tryz.func71,Tryz.ntmps71
     go_wp2
     go_ret
     exact ⟨zA0 hf.out.symm,((zy2 _ _).alloc (zz8 _) _).alloc (by simp) _⟩
    ·have t1:decide (v.n≥0)=false:=by simpa using h0
     clear q1
     go_enter Tryz.func71,Tryz.ntmps71
     go_wp2
     go_ret
     exact ⟨zA0 hf.out.symm,((zy2 _ _).alloc (zz8 _) _).alloc (by simp) _⟩
   |true =>
    by_cases q2:v.ks.length=0
    ·have hf:Hid (fitsV xs (d+1) t v=true):=by rw [hfi,q0,q1,decide_eq_true q2];rfl
     have t3:((v.ks.length:Int)==0)=true:=by simp [q2]
     clear hfi
     have hq:=(zAJ _ _ _).1 q1
     have t1:decide (v.n≥0)=true:=by simp;omega
     have t2:decide (v.n≤9)=true:=by simp;omega
     clear q1
     go_enter Tryz.func71,Tryz.ntmps71
     go_wp2
     go_ret
     exact ⟨zA0 hf.out.symm,((zy2 _ _).alloc (zz8 _) _).alloc (by simp) _⟩
    ·have hf:Hid (fitsV xs (d+1) t v=false):=by rw [hfi,q0,q1,decide_eq_false q2];rfl
     have t3:((v.ks.length:Int)==0)=false:=by simp;simpa using q2
     clear hfi
     have hq:=(zAJ _ _ _).1 q1
     have t1:decide (v.n≥0)=true:=by simp;omega
     have t2:decide (v.n≤9)=true:=by simp;omega
     clear q1
     go_enter Tryz.func71,Tryz.ntmps71
     go_wp2
     go_ret
     exact ⟨zA0 hf.out.symm,((zy2 _ _).alloc (zz8 _) _).alloc (by simp) _⟩
 ·have t0:((q:Int) == -1)=false:=by rw [beq_eq_false_iff_ne];omega
  have hfd:=fitsV_data (xs:=xs) (d:=d) (v:=v) (t:=⟨(q:Int),(r:Int)⟩) (by show ¬((q:Int) = -1);omega)
  have HFD:=jj hfd
  clear hfd
  go_enter Tryz.func71,Tryz.ntmps71
  go_wp2_with fail
  obtain ⟨W2,hW2⟩:∃ W2,W2=((w.alloc (.cells #[.int .i64 (q:Int),.int .i64 (r:Int)] 39)).alloc (.cells #[.int .i64 v.c,.int .i64 v.n,.slice A4 v.ks.length cap4] 47)):=⟨_,rfl⟩
  have hB0:Below w.heap.size w W2:=by rw [hW2];exact ((zy2 _ _).alloc (zz8 _) _).alloc (by simp) _
  have KT:Hid (Blk W2 w.heap.size 39 #[.int .i64 (q:Int),.int .i64 (r:Int)]):=by rw [hW2];exact (Blk.new w _ _).same (Below.heap_alloc _ _ _ (by simp))
  have KV:Hid (Blk W2 (w.heap.size+1) 47 #[.int .i64 v.c,.int .i64 v.n,.slice A4 v.ks.length cap4]):=by rw [hW2];have h:=Blk.new (w.alloc (.cells #[.int .i64 (q:Int),.int .i64 (r:Int)] 39)) 47 #[.int .i64 v.c,.int .i64 v.n,.slice A4 v.ks.length cap4];rw [World.size_alloc] at h;exact h
  rw [←hW2]
  clear hW2
  have y0:W2.cell? ⟨w.heap.size,0,none⟩=some (.int .i64 (q:Int)):=(KT.out.cell 0).trans (by simp)
  have y1:W2.cell? ⟨w.heap.size,1,none⟩=some (.int .i64 (r:Int)):=(KT.out.cell 1).trans (by simp)
  have z0:W2.cell? ⟨w.heap.size+1,0,none⟩=some (.int .i64 v.c):=(KV.out.cell 0).trans (by simp)
  have z1:W2.cell? ⟨w.heap.size+1,1,none⟩=some (.int .i64 v.n):=(KV.out.cell 1).trans (by simp)
  have z2:W2.cell? ⟨w.heap.size+1,2,none⟩=some (.slice A4 v.ks.length cap4):=(KV.out.cell 2).trans (by simp)
  have klt:=KT.out.lt
  have klt2:=KV.out.lt
  have HBQ:=jj (fun n=>zAQ hB0 n)
  cases q0:(v.n==0) with
  |false =>
   have t1:(v.n != 0)=true:=by rw [bne,q0];rfl
   have hf:Hid (fitsV xs (d+1) ⟨(q:Int),(r:Int)⟩ v=false):=by rw [HFD.out,q0];rfl
   clear q0
   go_quiet (fail)
   go_wp2
   go_ret
   exact ⟨zA0 hf.out.symm,HBQ.out _⟩
  |true =>
   have t1:(v.n != 0)=false:=by rw [bne,q0];rfl
   have h1:fitsV xs (d+1) ⟨(q:Int),(r:Int)⟩ v=(hasB (ctorsL xs ⟨(q:Int),(r:Int)⟩) v.c && (decide (v.ks.length=(argsOf xs ⟨(q:Int),(r:Int)⟩ v.c).length) && zipAll (fitsV xs d) (argsOf xs ⟨(q:Int),(r:Int)⟩ v.c) v.ks)):=by rw [HFD.out,q0,Bool.true_and]
   have H1:=jj h1
   have HIW:Hid (InWorld xs.length ⟨(q:Int),(r:Int)⟩):=.inr ⟨q,rfl,hql⟩
   clear h1 q0
   have hkeep:∀ U U':World,(U.cell? ⟨w.heap.size,0,none⟩=some (.int .i64 (q:Int))∧U.cell? ⟨w.heap.size,1,none⟩=some (.int .i64 (r:Int))∧U.cell? ⟨w.heap.size+1,0,none⟩=some (.int .i64 v.c)∧U.cell? ⟨w.heap.size+1,1,none⟩=some (.int .i64 v.n)∧U.cell? ⟨w.heap.size+1,2,none⟩=some (.slice A4 v.ks.length cap4))→Below U.heap.size U U'→W2.heap.size≤U.heap.size→(U'.cell? ⟨w.heap.size,0,none⟩=some (.int .i64 (q:Int))∧U'.cell? ⟨w.heap.size,1,none⟩=some (.int .i64 (r:Int))∧U'.cell? ⟨w.heap.size+1,0,none⟩=some (.int .i64 v.c)∧U'.cell? ⟨w.heap.size+1,1,none⟩=some (.int .i64 v.n)∧U'.cell? ⟨w.heap.size+1,2,none⟩=some (.slice A4 v.ks.length cap4)):=fun U U' h hUU hU=>⟨(hUU.cell (zz9 (klt) hU)).trans h.1,(hUU.cell (zz9 (klt) hU)).trans h.2.1,(hUU.cell (zz9 (klt2) hU)).trans h.2.2.1,(hUU.cell (zz9 (klt2) hU)).trans h.2.2.2.1,(hUU.cell (zz9 (klt2) hU)).trans h.2.2.2.2⟩
   have HKeep:=jj hkeep
   clear hkeep
   go_region_held3 (fun w'=>w'.cell? ⟨w.heap.size,0,none⟩=some (.int .i64 (q:Int))∧w'.cell? ⟨w.heap.size,1,none⟩=some (.int .i64 (r:Int))∧w'.cell? ⟨w.heap.size+1,0,none⟩=some (.int .i64 v.c)∧w'.cell? ⟨w.heap.size+1,1,none⟩=some (.int .i64 v.n)∧w'.cell? ⟨w.heap.size+1,2,none⟩=some (.slice A4 v.ks.length cap4)) (first | assumption | (exact ⟨y0,y1,z0,z1,z2⟩) | (exact HKeep.out W2.drew w4 ⟨y0,y1,z0,z1,z2⟩ hb4 (zz8 _)) | (exact HKeep.out w4 w5 (by assumption) hb5 hlew4)) (first | (go_at_call 102;((with_reducible refine (spec_l1Ctors xs ⟨(q:Int),(r:Int)⟩ _ _ F (ArrDt.below HX.out hB0.drew HF.out) (HF.out.mono hB0.drew.size) HW.out HIW.out).mono ?_);rintro e w4 ⟨v4,F4,rfl,hb4,ha4,-,hfs4⟩);have hlew4:W2.heap.size≤w4.heap.size:=hb4.size) | (go_at_call 101;((with_reducible refine (spec_l1Has (ctorsL xs ⟨(q:Int),(r:Int)⟩) v.c _ _ F4 ha4 hfs4.under).mono ?_);rintro e w5 ⟨rfl,hb5⟩)))
   have hBa:=hB0.drew.trans (hb4.mono hB0.drew.size)
   have hB5:=hBa.trans (hb5.mono hBa.size)
   have KT5:=jj ((KT.out.same (hb4.block _ KT.out.lt)).same (hb5.block _ (KT.out.same (hb4.block _ KT.out.lt)).lt))
   have KV5:=jj ((KV.out.same (hb4.block _ KV.out.lt)).same (hb5.block _ (KV.out.same (hb4.block _ KV.out.lt)).lt))
   clear HKeep KT KV y0 y1 z0 z1 z2 klt klt2 hBa hb4 hb5 ha4 hfs4 HBQ hB0 t1
   cases e1:hasB (ctorsL xs ⟨(q:Int),(r:Int)⟩) v.c with
   |false =>
    have hf:Hid (fitsV xs (d+1) ⟨(q:Int),(r:Int)⟩ v=false):=by rw [H1.out,e1];rfl
    clear e1
    go_wp2
    go_ret
    exact ⟨zA0 hf.out.symm,hB5⟩
   |true =>
    obtain ⟨q',k,e2,hvc,hq',hkl⟩:=mem_ctorsL (xs:=xs) (t:=⟨(q:Int),(r:Int)⟩) (.inr ⟨q,rfl,hql⟩) ((hasB_iff _ _).1 e1)
    obtain rfl:q=q':=Int.ofNat.inj e2
    have h2:=H1.out
    rw [e1,Bool.true_and,hvc,argsOf_get hql hkl] at h2
    have H2:=jj h2
    clear h2 e1 e2
    have HAI:=jj (fun a ha=>argTy_in (HW.out.ctor hql hkl) (i:=(r:Int)) (by omega) (by omega) (a:=a) ha)
    have HLA:=jj (HW.out.ctor hql hkl).args
    have y0:w5.cell? ⟨w.heap.size,0,none⟩=some (.int .i64 (q:Int)):=(KT5.out.cell 0).trans (by simp)
    have y1:w5.cell? ⟨w.heap.size,1,none⟩=some (.int .i64 (r:Int)):=(KT5.out.cell 1).trans (by simp)
    have z0:w5.cell? ⟨w.heap.size+1,0,none⟩=some (.int .i64 v.c):=(KV5.out.cell 0).trans (by simp)
    have klt:=KT5.out.lt
    have klt2:=KV5.out.lt
    have HVC:=jj hvc
    clear hvc
    go_wp2_with fail
    rw [HVC.out]
    refine (spec_l1Args xs q k (r:Int) hql hkl w5 _ F (ArrDt.below HX.out hB5 HF.out) (HF.out.mono hB5.size) HLA.out).mono ?_
    rintro e w6 ⟨v6,F6,rfl,hb6,ha6,-,hfs6⟩
    have hB6:=hB5.trans (hb6.mono hB5.size)
    have KV6:=jj (KV5.out.same (hb6.block _ KV5.out.lt))
    generalize hass:argsL xs[q].ctors[k] (r:Int)=ls at *
    clear hass
    obtain ⟨A6,cap6,rfl,hd3,hd4⟩:=ha6.form
    have HA6:=jj ha6
    have HU6:=jj hfs6.under
    clear ha6 hfs6 hb6 KT5 KV5 y0 y1 z0 klt klt2 hB5
    have z2:w6.cell? ⟨w.heap.size+1,2,none⟩=some (.slice A4 v.ks.length cap4):=(KV6.out.cell 2).trans (by simp)
    have klt2:=KV6.out.lt
    by_cases hln:v.ks.length=ls.length
    ·have t2:((v.ks.length:Int) != (ls.length:Int))=false:=by simp [hln]
     have h3:fitsV xs (d+1) ⟨(q:Int),(r:Int)⟩ v=zipAll (fitsV xs d) ls v.ks:=by rw [H2.out,decide_eq_true hln,Bool.true_and]
     have H3:=jj h3
     have HLN:=jj hln
     clear h3 hln
     go_wp2
     clear z2 klt2 t2
     go_loopw [10] (fun iv wr=>∃ i:Nat,i≤ls.length∧iv=.int .i64 i∧Hid (fitsV xs (d+1) ⟨(q:Int),(r:Int)⟩ v=zipAll (fitsV xs d) (ls.drop i) (v.ks.drop i))∧Hid (Blk wr (w.heap.size+1) 47 #[.int .i64 v.c,.int .i64 v.n,.slice A4 v.ks.length cap4])∧Below w.heap.size w wr∧Hid (Below w6.heap.size w6 wr)) (fun iv _=>ls.length-(intOf iv).toNat)
     case atStart=>exact ⟨0,Nat.zero_le _,rfl,H3,KV6,hB6,zy2 _ _⟩
     case round =>
      clear hB6
      obtain ⟨i,hi,rfl,HR,KV,hB,HB6⟩:=hrel
      by_cases hil:i<ls.length
      ·have hik:i<v.ks.length:=by rw [HLN.out];exact hil
       obtain ⟨b6,off6,rfl⟩:=HA6.out.ptr (by omega)
       obtain ⟨hb6,a0,a1⟩:=ArrTy.at HA6.out HU6.out HB6.out i hil
       obtain ⟨b4,off4,rfl⟩:=HA.out.ptr (by omega)
       obtain ⟨A7,cap7,G7,hb7,k0,k1,k2,HV7,HG7,-,-,-⟩:=ArrV.at HA.out HG.out hB i hik
       have z2:wr.cell? ⟨w.heap.size+1,2,none⟩=some (.slice (some ⟨b4,off4,none⟩) v.ks.length cap4):=(KV.out.cell 2).trans (by simp)
       have klt2:=KV.out.lt
       have g1:(0:Int)≤(i:Int):=by omega
       have g2:(i:Int)<(ls.length:Int):=by omega
       have g3:(i:Int)<(v.ks.length:Int):=by omega
       have hstep:=HR.out
       rw [zipAll_step hil hik] at hstep
       have HST:=jj hstep
       clear hstep
       have hwr:IntKind.i64.wrap (d:Int)=(d:Int):=IntWalk.i64_in _ (by omega)
       have HCALL:=jj (IH.out v.ks[i] (List.getElem_mem hik) xs HW.out d (by omega) ls[i] (HAI.out _ (List.getElem_mem hil)) wr.drew _ F _ G7 (ArrDt.below HX.out hB.drew HF.out) (HF.out.mono hB.drew.size) (HV7.out.below hB.drew HG7.out) (HG7.out.mono hB.drew.size))
       go_wp2_with fail
       have hkeep:∀ U U':World,(U.cell? ⟨b6,off6+i*2,none⟩=some (.int .i64 ls[i].d)∧U.cell? ⟨b6,off6+i*2+1,none⟩=some (.int .i64 ls[i].i)∧U.cell? ⟨w.heap.size+1,2,none⟩=some (.slice (some ⟨b4,off4,none⟩) v.ks.length cap4)∧U.cell? ⟨b4,off4+i*3,none⟩=some (.int .i64 v.ks[i].c)∧U.cell? ⟨b4,off4+i*3+1,none⟩=some (.int .i64 v.ks[i].n)∧U.cell? ⟨b4,off4+i*3+2,none⟩=some (.slice A7 v.ks[i].ks.length cap7))→Below U.heap.size U U'→wr.heap.size≤U.heap.size→(U'.cell? ⟨b6,off6+i*2,none⟩=some (.int .i64 ls[i].d)∧U'.cell? ⟨b6,off6+i*2+1,none⟩=some (.int .i64 ls[i].i)∧U'.cell? ⟨w.heap.size+1,2,none⟩=some (.slice (some ⟨b4,off4,none⟩) v.ks.length cap4)∧U'.cell? ⟨b4,off4+i*3,none⟩=some (.int .i64 v.ks[i].c)∧U'.cell? ⟨b4,off4+i*3+1,none⟩=some (.int .i64 v.ks[i].n)∧U'.cell? ⟨b4,off4+i*3+2,none⟩=some (.slice A7 v.ks[i].ks.length cap7)):=fun U U' h hUU hU=>⟨(hUU.cell (zz9 (hb6) hU)).trans h.1,(hUU.cell (zz9 (hb6) hU)).trans h.2.1,(hUU.cell (zz9 (klt2) hU)).trans h.2.2.1,(hUU.cell (zz9 (hb7) hU)).trans h.2.2.2.1,(hUU.cell (zz9 (hb7) hU)).trans h.2.2.2.2.1,(hUU.cell (zz9 (hb7) hU)).trans h.2.2.2.2.2⟩
       have HKeep:=jj hkeep
       clear hkeep
       go_region_held3 (fun w'=>w'.cell? ⟨b6,off6+i*2,none⟩=some (.int .i64 ls[i].d)∧w'.cell? ⟨b6,off6+i*2+1,none⟩=some (.int .i64 ls[i].i)∧w'.cell? ⟨w.heap.size+1,2,none⟩=some (.slice (some ⟨b4,off4,none⟩) v.ks.length cap4)∧w'.cell? ⟨b4,off4+i*3,none⟩=some (.int .i64 v.ks[i].c)∧w'.cell? ⟨b4,off4+i*3+1,none⟩=some (.int .i64 v.ks[i].n)∧w'.cell? ⟨b4,off4+i*3+2,none⟩=some (.slice A7 v.ks[i].ks.length cap7)) (first | assumption | (exact ⟨a0,a1,z2,k0,k1,k2⟩) | (exact HKeep.out wr.drew w' ⟨a0,a1,z2,k0,k1,k2⟩ hB' (zz8 _))) (first | (go_at_call 71;((with_reducible refine HCALL.out.mono ?_);rintro e w' ⟨rfl,hB'⟩)))
       have hB3:=hB.drew.trans (hB'.mono hB.size)
       have HB3:=jj (HB6.out.drew.trans (hB'.mono HB6.out.size))
       have KV3:=jj (KV.out.same (hB'.block _ KV.out.lt))
       clear HKeep hwr
       cases e3:fitsV xs d ls[i] v.ks[i] with
       |false =>
        have hf:Hid (fitsV xs (d+1) ⟨(q:Int),(r:Int)⟩ v=false):=by rw [HST.out,e3];rfl
        clear e3
        go_wp2
        go_ret
        exact ⟨zA0 hf.out.symm,hB3⟩
       |true =>
        have hR2:Hid (fitsV xs (d+1) ⟨(q:Int),(r:Int)⟩ v=zipAll (fitsV xs d) (ls.drop (i+1)) (v.ks.drop (i+1))):=by rw [HST.out,e3,Bool.true_and];rfl
        clear e3
        go_wp2
        go_roundw
        case rel=>exact ⟨i+1,by omega,by go_num,hR2,KV3,hB3,HB3⟩
        case measure=>(simp [intOf] <;> omega)
      ·have hf:Hid (fitsV xs (d+1) ⟨(q:Int),(r:Int)⟩ v=true):=by rw [HR.out];exact zipAll_end (by omega)
       go_wp2
       go_ret
       exact ⟨zA0 hf.out.symm,hB⟩
    ·have t2:((v.ks.length:Int) != (ls.length:Int))=true:=by rw [bne_iff_ne];omega
     have hf:Hid (fitsV xs (d+1) ⟨(q:Int),(r:Int)⟩ v=false):=by rw [H2.out,decide_eq_false hln];rfl
     clear hln
     go_wp2
     go_ret
     exact ⟨zA0 hf.out.symm,hB6⟩
theorem V.indv {p:V→Prop} (h:∀ v:V,(∀ k∈v.ks,p k)→p v):∀ v,p v:=V.ind fun c n ks ih=>h ⟨c,n,ks⟩ ih
theorem spec_l2Fits:∀ v,FitsS v:=V.indv l2Fits_of
theorem info_VE:(Tryz.prog.info? 47).map (fun i=>(i.zero,i.size,i.bytes))=some (some (.agg #[.int .i64 0,.int .i64 0,.slice none 0 0]),3,40):=by kernel_rfl
theorem VR_mono' (w w':World) (x:V) (cs:List Value) (G:List Nat) (hk:Kept G w w') (h:VR w x cs G):VR w' x cs G:=VR.mono x cs G hk h
theorem VR_len' (w:World) (x:V) (cs:List Value) (G:List Nat) (h:VR w x cs G):cs.length=3:=VR_len x cs G h
def MadeVt (v:V) (w:World) (e:Ending) (w':World):Prop:=∃ cs F,e=.returned (.agg cs.toArray)∧Below w.heap.size w w'∧VR w' v cs F∧Free w' F∧Fresh w w' F
theorem info_BE:(Tryz.prog.info? 69).map (fun i=>(i.zero,i.size,i.bytes))=some (some (.agg #[.int .i64 0,.int .i64 0,.int .i64 0,.slice none 0 0]),4,48):=by kernel_rfl
theorem zA2 (w w':World) (x:Bd) (cs:List Value) (G:List Nat) (hk:Kept G w w') (h:BdR w x cs G):BdR w' x cs G:=by
 obtain ⟨ds,rfl,h⟩:=h
 exact ⟨ds,rfl,VR.mono _ _ _ hk h⟩
theorem zAN (w:World) (x:Bd) (cs:List Value) (G:List Nat) (h:BdR w x cs G):cs.length=4:=BdR_len x cs G h
theorem BdR_one (w:World) (x:Bd) (cs:List Value) (G:List Nat) (h:BdR w x cs G):∀ u∈cs,u.oneCell'=true:=by
 obtain ⟨A,cap,rfl⟩:=BdR_form h
 simp [Value.oneCell']
theorem BdR_of {w:World} {va:Int} {v:V} {A:Option Addr} {cap:Nat} {G:List Nat} (h:VR w v [.int .i64 v.c,.int .i64 v.n,.slice A v.ks.length cap] G):BdR w ⟨va,v⟩ [.int .i64 va,.int .i64 v.c,.int .i64 v.n,.slice A v.ks.length cap] G:=⟨_,rfl,h⟩
structure Vt where
 var:Int
 ty:Ty
def VtR (_:World) (x:Vt) (cs:List Value) (F:List Nat):Prop:=cs=[.int .i64 x.var,.int .i64 x.ty.d,.int .i64 x.ty.i]∧F=[]
theorem VtR_len (w:World) (x:Vt) (cs:List Value) (F:List Nat) (h:VtR w x cs F):cs.length=3:=by rw [h.1];rfl
theorem zA6 (w w':World) (x:Vt) (cs:List Value) (F:List Nat) (_:Kept F w w') (h:VtR w x cs F):VtR w' x cs F:=h
def Vt.same (a b:Vt):Bool:=a.var==b.var && (a.ty.d==b.ty.d && a.ty.i==b.ty.i)
theorem Vt.same_iff (a b:Vt):Vt.same a b=true↔a=b:=by
 obtain ⟨v,d,i⟩:=a
 obtain ⟨v',d',i'⟩:=b
 simp [Vt.same]
def namedB (p:P):Bool:=p.op==2 || p.op==6
def kindB (xs:List Dt) (t:Ty) (p:P):Bool:=if p.op=3 then t.d == -1 && (decide (0≤p.n) && (decide (p.n≤p.m) && decide (p.m≤9))) else if p.op=4 then hasB (ctorsL xs t) p.ct else (p.op==1 || (p.op==2 || (p.op==5 || p.op==6)))
def ownB (xs:List Dt) (t:Ty) (p:P):Bool:=(if namedB p=true then decide (0≤p.va) && decide (p.va≤5) else p.va==0) && ((p.op==3 || (p.n==0 && p.m==0)) && ((p.op==4 || p.ct==0) && kindB xs t p))
def kidsN (op:Int):Nat:=if op=5 then 2 else if op=6 then 1 else 0
def typesP (xs:List Dt) (t:Ty) (p:P):List Ty:=if p.op=4 then argsOf xs t p.ct else List.replicate (kidsN p.op) t
def shapeB (xs:List Dt):Nat→Ty→P→Bool
 |0,_,_=>false
 |d+1,t,p=>ownB xs t p && (p.ks.length==(typesP xs t p).length && ((typesP xs t p).zip p.ks).all fun x=>shapeB xs d x.1 x.2)
def nodesP (p:P):Nat:=p.size+1
def kidsV (xs:List Dt) (t:Ty) (p:P):List (Ty×P):=((typesP xs t p).zip p.ks).take (if p.op=5 then 1 else p.ks.length)
def varsN (xs:List Dt):Nat→Ty→P→List Vt
 |0,_,_=>[]
 |d+1,t,p=>(if namedB p=true then [⟨p.va,t⟩] else []) ++ (kidsV xs t p).flatMap fun x=>varsN xs d x.1 x.2
def dupFree (l:List Vt):Bool:=decide ((l.map Vt.var).Nodup)
def alikeB (a b:List Vt):Bool:=(a.all fun v=>match b.find? fun u=>u.var==v.var with | some u=>(u.ty.d==v.ty.d && u.ty.i==v.ty.i) | none=>false) && a.length==b.length
def sameV (a b:List Vt):Bool:=a.length==b.length && a.all fun v=>b.any fun u=>Vt.same u v
def linB (xs:List Dt):Nat→Ty→P→Bool
 |0,_,_=>true
 |d+1,t,p=>(((typesP xs t p).zip p.ks).all fun x=>linB xs d x.1 x.2) && (if p.op=5 then (match p.ks with | [k0,k1]=>alikeB (varsN xs d t k0) (varsN xs d t k1) | _=>true) else dupFree (varsN xs (d+1) t p))
def patOkB (xs:List Dt) (t:Ty) (p:P):Bool:=shapeB xs 10 t p && (decide (nodesP p≤60) && linB xs 10 t p)
theorem zAU {xs:List Dt} {t:Ty} {p:P} (h:p.op=5):typesP xs t p=[t,t]:=by
 unfold typesP kidsN
 rw [if_neg (by omega),if_pos h];rfl
theorem typesP_as {xs:List Dt} {t:Ty} {p:P} (h:p.op=6):typesP xs t p=[t]:=by
 unfold typesP kidsN
 rw [if_neg (by omega),if_neg (by omega),if_pos h];rfl
theorem kids_two {α:Type} {l:List α} (h:l.length=2):∃ a b,l=[a,b]:=by
 match l,h with
 |[a,b],_=>exact ⟨a,b,rfl⟩
theorem lin_dup (xs:List Dt):∀ (d:Nat) (t:Ty) (p:P),shapeB xs d t p=true→linB xs d t p=true→dupFree (varsN xs d t p)=true
 |0,_,_,h,_=>by simp [shapeB] at h
 |d+1,t,p,hs,hl=>by
  simp only [shapeB,linB,Bool.and_eq_true] at hs hl
  by_cases h5:p.op=5
  ·have hty:=zAU (xs:=xs) (t:=t) h5
   obtain ⟨h1,h2,h3⟩:=hs
   rw [hty] at h2 h3
   obtain ⟨k0,k1,hk⟩:=kids_two (by simpa using h2)
   have hv:varsN xs (d+1) t p=varsN xs d t k0:=by
    have e:varsN xs (d+1) t p=(if namedB p=true then [⟨p.va,t⟩] else []) ++ (kidsV xs t p).flatMap fun x=>varsN xs d x.1 x.2:=rfl
    have kv:kidsV xs t p=[(t,k0)]:=by unfold kidsV;rw [hty,hk,h5];rfl
    have nb:namedB p=false:=by unfold namedB;rw [h5];rfl
    rw [e,kv,nb]
    simp
   rw [hv]
   rw [hk] at h3
   have hl1:=hl.1
   rw [hty,hk] at hl1
   simp only [List.zip_cons_cons,List.zip_nil_right,List.all_cons,List.all_nil,Bool.and_true,Bool.and_eq_true] at h3 hl1
   exact lin_dup xs d t k0 h3.1 hl1.1
  ·have hl2:=hl.2
   rwa [if_neg h5] at hl2
theorem find_of_nodup:∀ {b:List Vt} {u:Vt},(b.map Vt.var).Nodup→u∈b→b.find? (fun x=>x.var==u.var)=some u
 |[],_,_,h=>by cases h
 |x :: b,u,hn,h=>by
  rw [List.map_cons,List.nodup_cons] at hn
  rcases List.mem_cons.1 h with rfl | h
  ·simp
  ·have hx:(x.var==u.var)=false:=by
    rw [beq_eq_false_iff_ne]
    intro e
    exact hn.1 (by rw [e];exact List.mem_map_of_mem h)
   rw [List.find?_cons,hx]
   exact find_of_nodup hn.2 h
theorem alike_same {a b:List Vt} (hb:dupFree b=true):alikeB a b=sameV a b:=by
 have hn:(b.map Vt.var).Nodup:=of_decide_eq_true hb
 have key:∀ v:Vt,(match b.find? fun u=>u.var==v.var with | some u=>(u.ty.d==v.ty.d && u.ty.i==v.ty.i) | none=>false)=b.any fun u=>Vt.same u v:=fun v=>by
  rw [Bool.eq_iff_iff,List.any_eq_true]
  constructor
  ·intro h
   split at h
   ·rename_i u hu
    have hm:=List.mem_of_find?_eq_some hu
    have hv:=List.find?_some hu
    exact ⟨u,hm,by
     unfold Vt.same
     rw [hv]
     simpa using h⟩
   ·cases h
  ·rintro ⟨u,hm,hu⟩
   obtain rfl:=(Vt.same_iff u v).1 hu
   rw [find_of_nodup hn hm]
   simp
 unfold alikeB sameV
 rw [Bool.and_comm]
 congr 1
 exact congrArg (fun f=>a.all f) (funext key)
open Classical
def Stable (xs:List Dt) (n:Nat):Prop:=∀ s,s<xs.length*4→hasD xs (n+1) (tyAt s)→hasD xs n (tyAt s)
noncomputable def lvl (xs:List Dt) (n:Nat):Nat:=((List.range (xs.length*4)).filter fun s=>decide (hasD xs n (tyAt s))).length
def movedB (t cur:List Int):Bool:=!(cur==t)
def depthL (xs:List Dt) (t:Ty):Int:=if typeValidB xs t=true then depthIn (tableL xs) t else 0
/-! ### The least of some numbers, where 0 stands for none -/
def bestOf (b m:Int):Int:=if m≠0∧(b=0∨m<b) then m else b
def bestTo (ms:List Int):Int:=ms.foldl bestOf 0
/-! ### Any index is no deeper -/
theorem ArrP.at {w0 w:World} {b off n cap:Nat} {F:List Nat} {xs:List P} (h:Arr w0 (PR w0) xs (.slice (some ⟨b,off,none⟩) n cap) F) (hF:Under w0.heap.size F) (hB:Below w0.heap.size w0 w) (i:Nat) (hi:i<xs.length) :
  ∃ A1 cap1 G,b<w.heap.size∧w.cell? ⟨b,off+i*6,none⟩=some (.int .i64 xs[i].op)∧w.cell? ⟨b,off+i*6+1,none⟩=some (.int .i64 xs[i].ct)∧w.cell? ⟨b,off+i*6+2,none⟩=some (.int .i64 xs[i].n)∧w.cell? ⟨b,off+i*6+3,none⟩=some (.int .i64 xs[i].m)∧w.cell? ⟨b,off+i*6+4,none⟩=some (.int .i64 xs[i].va)∧w.cell? ⟨b,off+i*6+5,none⟩=some (.slice A1 xs[i].ks.length cap1) ∧
   Hid (PR w0 xs[i] [.int .i64 xs[i].op,.int .i64 xs[i].ct,.int .i64 xs[i].n,.int .i64 xs[i].m,.int .i64 xs[i].va,.slice A1 xs[i].ks.length cap1] G)∧Hid (Under w0.heap.size G)∧(∀ b∈G,b∈F)∧xs[i].ks.length≤cap1∧cap1≤9223372036854775807:=by
 obtain ⟨b',off',cs,G,e,hb,hcs,hv,hG⟩:=h.get PR_len hi
 cases e
 have hbl:=hF _ hb
 have hc:=hcs.same (hB.block _ hbl)
 obtain ⟨kv,rfl,ha⟩:=(zAF _ _ _).1 hv
 obtain ⟨A1,cap1,rfl,h1,h2⟩:=ha.form
 exact ⟨A1,cap1,G,zz9 hbl hB.size,hc 0 _ rfl,hc 1 _ rfl,hc 2 _ rfl,hc 3 _ rfl,hc 4 _ rfl,hc 5 _ rfl,hv,hF.sub hG,hG,h1,h2⟩
theorem zAI (p:P):nodesP p=1+P.sizes p.ks:=by obtain ⟨op,ct,n,m,va,ks⟩:=p;unfold nodesP;rw [P.size];simp only;omega
theorem zAX {l:List P} {i:Nat} (h:i<l.length):P.sizes (l.take (i+1))=P.sizes (l.take i)+nodesP l[i]:=by
 rw [P.sizes_eq,P.sizes_eq,P.subs_take_succ l i h,List.length_take,List.length_take]
 unfold nodesP
 omega
theorem zAG (l:List P) (i:Nat):P.sizes (l.take i)≤P.sizes l:=by
 rw [P.sizes_eq,P.sizes_eq,List.length_take]
 have:=P.subs_take_le l i
 omega
theorem nodesP_mem {l:List P} {i:Nat} (h:i<l.length):nodesP l[i]≤P.sizes l:=by
 have h1:=zAX h
 have h2:=zAG l (i+1)
 omega
theorem P.indv {q:P→Prop} (h:∀ v:P,(∀ k∈v.ks,q k)→q v):∀ v,q v:=P.ind fun op ct n m va ks ih=>h ⟨op,ct,n,m,va,ks⟩ ih
def bs (l:List UInt8):ByteArray:=⟨l.toArray⟩
def cutGo (c:UInt8):List UInt8→List UInt8→List (List UInt8)
 |cur,[]=>[cur]
 |cur,x :: xs=>if x=c then cur :: cutGo c [] xs else cutGo c (cur ++ [x]) xs
def cutL (c:UInt8) (l:List UInt8):List (List UInt8):=cutGo c [] l
def findGo (s:List UInt8):Nat→List (List UInt8)→Int
 |_,[] => -2
 |i,x :: xs=>if x=s then (i:Int) else findGo s (i+1) xs
def findL (names:List (List UInt8)) (s:List UInt8):Int:=if s=[73] then -1 else findGo s 0 names
def idxOf (rest:List UInt8):Int:=if rest=[42] then -1 else match rest with
  |[x]=>if 48≤x.toNat∧x.toNat≤57 then (x.toNat:Int)-48 else 0
  |_=>0
def parseTy (names:List (List UInt8)):List UInt8→Ty
 |[]=>⟨-2,0⟩
 |c :: rest=>⟨findL names [c],idxOf rest⟩
def headL (l:List (List UInt8)):List UInt8:=match l with | []=>[] | x :: _=>x
def parseArgs (names:List (List UInt8)) (parts:List (List UInt8)):List Ty :=
 match parts with
 |_ :: p :: _=>if p=[] then [] else ((cutL 44 (p.take (p.length-1))).take 4).map (parseTy names)
 |_=>[]
def parseBody (names:List (List UInt8)) (idx:Int) (s:List UInt8):Kt:=⟨bs (headL (cutL 40 s)),parseArgs names (cutL 40 s),idx⟩
def hasIdx (s:List UInt8):Bool:=decide (2<s.length) && decide (s.getD (s.length-2) 0=58)
def parseKt (names:List (List UInt8)) (s:List UInt8):Kt :=
 if hasIdx s=true then parseBody names (((s.getD (s.length-1) 0).toNat:Int)-48) (s.take (s.length-2)) else parseBody names 0 s
def parseDt (names:List (List UInt8)) (name:List UInt8) (rest:List UInt8):Dt:=⟨bs name,((cutL 124 rest).take 5).map (parseKt names)⟩
def splitGo:List (List UInt8)→Option (List (List UInt8×List UInt8))
 |[]=>some []
 |l :: ls=>match cutL 61 l with
  |[a,b]=>match splitGo ls with
   |some r=>some ((a,b) :: r)
   |none=>none
  |_=>none
def parseGo (text:List UInt8):Option (List Dt) :=
 if text=[] then some [] else
 match splitGo ((cutL 59 text).take 5) with
 |none=>none
 |some r=>some (r.map fun p=>parseDt (r.map Prod.fst) p.1 p.2)
def digT (i:Int):List UInt8:=[UInt8.ofNat (48+i.toNat)]
def idxT (i:Int):List UInt8:=if i=0 then [] else if i = -1 then [42] else digT i
def nameAt (xs:List Dt) (d:Int):List UInt8:=match xs[d.toNat]? with | some x=>x.name.data.toList | none=>[]
def tyT (xs:List Dt) (t:Ty):List UInt8:=if t.d = -1 then [73] else nameAt xs t.d ++ idxT t.i
def argsT (xs:List Dt):Bool→List Ty→List UInt8
 |_,[]=>[]
 |b,a :: l=>(if b=true then 40 else 44) :: (tyT xs a ++ argsT xs false l)
def endT (c:Kt):List UInt8:=if 0<c.idx then 58 :: digT c.idx else []
def closeT (c:Kt):List UInt8:=if 0<c.args.length then [41] else []
def ktT (xs:List Dt) (c:Kt):List UInt8:=c.name.data.toList ++ (argsT xs true c.args ++ (closeT c ++ endT c))
def ktsT (xs:List Dt):Bool→List Kt→List UInt8
 |_,[]=>[]
 |b,c :: l=>(if b=true then [] else [124]) ++ (ktT xs c ++ ktsT xs false l)
def dtsT (xs:List Dt):Bool→List Dt→List UInt8
 |_,[]=>[]
 |b,x :: l=>(if b=true then [] else [59]) ++ (x.name.data.toList ++ (61 :: (ktsT xs true x.ctors ++ dtsT xs false l)))
def textT (xs:List Dt):List UInt8:=dtsT xs true xs
def parseW (text:List UInt8):Option (List Dt):=match parseGo text with
 |none=>none
 |some xs=>if worldOk xs=true then if textT xs=text then some xs else none else none
def fineW (text:List UInt8):Bool:=match parseW text with
 |some (_ :: _)=>true
 |_=>false
def sevenT:List (List UInt8):=[
 [76,61,78,105,108,124,67,111,110,115,40,73,44,76,41],
 [66,61,84,114,117,124,70,108,115,59,84,61,76,101,97,102,124,78,111,100,101,40,84,44,66,44,84,41],
 [69,61,78,117,109,40,73,41,58,49,124,66,111,108,40,66,41,58,50,124,65,100,100,40,69,49,44,69,49,41,58,49,124,73,102,40,69,50,44,69,42,44,69,42,41,59,66,61,84,114,117,124,70,108,115],
 [79,61,78,111,110,124,83,111,109,40,73,41,59,80,61,80,97,105,114,40,79,44,79,41],
 [86,61,69,110,100,58,49,124,83,111,109,101,40,73,44,86,49,41,58,50,124,84,119,111,40,86,42,41],
 [78,61,78,101,118,101,114,40,78,41,59,66,61,84,114,117,124,70,108,115,124,77,97,121,40,78,41],
 [83,61,82,101,100,124,71,114,101,101,110,124,66,108,117,101,124,77,105,120,40,83,44,83,41]]
def tl (s:ByteArray):List UInt8:=s.data.toList
def cutS (c:UInt8) (s:ByteArray):List ByteArray:=(cutL c (tl s)).map bs
def cutRest (c:UInt8) (s:ByteArray) (frm i:Nat):List ByteArray:=if i≤s.size then (cutGo c (((tl s).take i).drop frm) ((tl s).drop i)).map bs else []
def MadeStrs (w:World) (xs:List ByteArray) (e:Ending) (w':World):Prop:=MadeArr StrR w xs e w'
def findS (names:List ByteArray) (s:ByteArray):Int:=findL (names.map tl) (tl s)
def findR (names:List ByteArray) (s:ByteArray) (k:Nat):Int:=findGo (tl s) k ((names.drop k).map tl)
def pty (names:List ByteArray) (s:ByteArray):Ty:=parseTy (names.map tl) (tl s)
def pkt (names:List ByteArray) (s:ByteArray):Kt:=parseKt (names.map tl) (tl s)
def pbody (names:List ByteArray) (idx:Int) (s:ByteArray):Kt:=parseBody (names.map tl) idx (tl s)
def ptysTo (names ags:List ByteArray) (i:Nat):List Ty:=(ags.take i).map (pty names)
def GivesKt (w:World) (c:Kt) (e:Ending) (w':World):Prop:=∃ cs F,e=.returned (.agg cs.toArray)∧Below w.heap.size w w'∧KtR w' c cs F∧Free w' F∧Fresh w w' F
end Go.Proofs.YtghekinfoadcoaaGreat
namespace Go.Proofs.YtghekinfoadcoaaGreat
open Go
section
variable {P : Program} {ops : Array Oper} {Q : Exit → Act → World → Prop} {md : Region.Mode} {S T : World → Prop} {d : Nat}
def wpAnyB (P:Program) (md:Region.Mode) (ops:Array Oper) (Q:Exit→Act→World→Prop) (S T:World→Prop) (d:Nat):Nat→Array Bool→Act→World→Prop
 |0,listed,a,w=>Region.ready md ops listed=[]∧Q .normal a w
 |fuel+1,listed,a,w =>
  (Region.ready md ops listed=[]→Q .normal a w) ∧
  ∀ i∈Region.ready md ops listed,wpOp P ops Q i (fun a' w'=>(S w'∧((listed.setIfInBounds i true).getD d false=false→T w'))∧wpAnyB P md ops Q S T d fuel (listed.setIfInBounds i true) a' w') a w
theorem wpAny_of_B:∀ (fuel:Nat) (listed:Array Bool) (a:Act) (w:World),wpAnyB P md ops Q S T d fuel listed a w→wpAny P md ops Q fuel listed a w
 |0,_,_,_,h=>h
 |fuel+1,_,_,_,h=>⟨h.1,fun i hi=>wpOp_mono (fun _ _ h'=>wpAny_of_B fuel _ _ _ h'.2) (h.2 i hi)⟩
theorem wpAnyB_first {i:Nat} {oi:Oper} {v:Value} (hi:ops[i]?=some oi) (hid:i≠d) (hsel:∀ (j:Nat) (o:Oper) cs b,ops[j]?=some o→o.op≠.select cs b)
  (hQ:∀ c a w,Q (.panic c) (a.put oi.dst v) w→Q (.panic c) a w) :
  ∀ (fuel:Nat) (listed:Array Bool) (a:Act) (w:World),
   (∀ j oj,ops[j]?=some oj→j≠i→listed.getD j true=false→(∀ e∈oj.after,Region.binds md e=true→e.on≠i)→oi.apart ops oj=true) →
   i∈Region.ready md ops listed→YieldsIf P ops S oi v a→S w→(listed.getD d false=false→T w) →
   wpAnyB P md ops Q S T d fuel (listed.setIfInBounds i true) (a.put oi.dst v) w→wpAnyB P md ops Q S T d (fuel+1) listed a w:=by
 intro fuel
 induction fuel with
 |zero =>
  intro listed a w _ hr hy hS hT H
  refine ⟨fun h=>(by rw [h] at hr;cases hr),fun j hj=>?_⟩
  by_cases hji:j=i
  ·subst hji;exact hy.wpOp hi hS ⟨⟨hS,fun h=>hT (by rwa [getD_set_ne false hid] at h)⟩,H⟩
  ·have:=ready_mono hj hji
   rw [H.1] at this
   cases this
 |succ fuel ih =>
  intro listed a w hfree hr hy hS hT H
  refine ⟨fun h=>(by rw [h] at hr;cases hr),fun j hj=>?_⟩
  by_cases hji:j=i
  ·subst hji;exact hy.wpOp hi hS ⟨⟨hS,fun h=>hT (by rwa [getD_set_ne false hid] at h)⟩,H⟩
  ·have h1:=H.2 j (ready_mono hj hji)
   obtain ⟨hjun,oj,hoj,hall⟩:=mem_ready.1 hj
   have hnot:∀ e∈oj.after,Region.binds md e=true→e.on≠i:=fun e he hb heq=>by
    have h1:=hall e he hb
    have h0:=(mem_ready.1 hr).1
    rw [heq] at h1
    rcases Nat.lt_or_ge i listed.size with h' | h'
    ·simp [h'] at h0 h1;rw [h0] at h1;cases h1
    ·simp [Array.getElem?_eq_none h'] at h1
   have h2:=wpOp_putIf hoj (hfree j oj hoj hji hjun hnot) (fun cs b=>hsel i oi cs b hi) (fun cs b=>hsel j oj cs b hoj) hQ hy h1
   have hfree':∀ k ok,ops[k]?=some ok→k≠i→(listed.setIfInBounds j true).getD k true=false →
     (∀ e∈ok.after,Region.binds md e=true→e.on≠i)→oi.apart ops ok=true:=fun k ok hk hki hun hno=>by
    refine hfree k ok hk hki ?_ hno
    by_cases hjk:j=k
    ·subst hjk;exact hjun
    ·rw [getD_set_ne true hjk] at hun;exact hun
   have hbit:((listed.setIfInBounds i true).setIfInBounds j true).getD d false=(listed.setIfInBounds j true).getD d false:=by
    rw [Array.setIfInBounds_comm _ _ (Ne.symm hji),getD_set_ne false hid]
   refine wpOp_mono (fun a' w' h3=>⟨⟨h3.2.1.1,fun h=>h3.2.1.2 (hbit.trans h)⟩,ih (listed.setIfInBounds j true) a' w' hfree' (ready_mono hr (Ne.symm hji)) h3.1 h3.2.1.1 (fun h=>h3.2.1.2 (hbit.trans h)) ?_⟩) h2
   rw [Array.setIfInBounds_comm _ _ hji]
   exact h3.2.2
theorem wpAnyB_firstT {i:Nat} {oi od:Oper} {v:Value} (hi:ops[i]?=some oi) (hid:i≠d) (hd:ops[d]?=some od) (hdi:∃ e∈od.after,Region.binds md e=true∧e.on=i) (hsel:∀ (j:Nat) (o:Oper) cs b,ops[j]?=some o→o.op≠.select cs b)
  (hQ:∀ c a w,Q (.panic c) (a.put oi.dst v) w→Q (.panic c) a w) :
  ∀ (fuel:Nat) (listed:Array Bool) (a:Act) (w:World),
   (∀ j oj,ops[j]?=some oj→j≠i→listed.getD j true=false→(∀ e∈oj.after,Region.binds md e=true→e.on≠i)→oi.apart ops oj=true) →
   i∈Region.ready md ops listed→YieldsIf P ops (fun w=>S w∧T w) oi v a→listed.getD d false=false→S w→T w →
   wpAnyB P md ops Q S T d fuel (listed.setIfInBounds i true) (a.put oi.dst v) w→wpAnyB P md ops Q S T d (fuel+1) listed a w:=by
 intro fuel
 induction fuel with
 |zero =>
  intro listed a w _ hr hy hdf hS hT H
  refine ⟨fun h=>(by rw [h] at hr;cases hr),fun j hj=>?_⟩
  by_cases hji:j=i
  ·subst hji;exact hy.wpOp hi ⟨hS,hT⟩ ⟨⟨hS,fun _=>hT⟩,H⟩
  ·have:=ready_mono hj hji
   rw [H.1] at this
   cases this
 |succ fuel ih =>
  intro listed a w hfree hr hy hdf hS hT H
  refine ⟨fun h=>(by rw [h] at hr;cases hr),fun j hj=>?_⟩
  by_cases hji:j=i
  ·subst hji;exact hy.wpOp hi ⟨hS,hT⟩ ⟨⟨hS,fun _=>hT⟩,H⟩
  ·have h1:=H.2 j (ready_mono hj hji)
   obtain ⟨hjun,oj,hoj,hall⟩:=mem_ready.1 hj
   have hnot:∀ e∈oj.after,Region.binds md e=true→e.on≠i:=fun e he hb heq=>by
    have h1:=hall e he hb
    have h0:=(mem_ready.1 hr).1
    rw [heq] at h1
    rcases Nat.lt_or_ge i listed.size with h' | h'
    ·simp [h'] at h0 h1;rw [h0] at h1;cases h1
    ·simp [Array.getElem?_eq_none h'] at h1
   have hjd:j≠d:=fun e=>by
    subst e
    rw [hoj] at hd
    cases hd
    obtain ⟨e,he,hb,ho⟩:=hdi
    exact hnot e he hb ho
   have h2:=wpOp_putIf hoj (hfree j oj hoj hji hjun hnot) (fun cs b=>hsel i oi cs b hi) (fun cs b=>hsel j oj cs b hoj) hQ hy h1
   have hfree':∀ k ok,ops[k]?=some ok→k≠i→(listed.setIfInBounds j true).getD k true=false →
     (∀ e∈ok.after,Region.binds md e=true→e.on≠i)→oi.apart ops ok=true:=fun k ok hk hki hun hno=>by
    refine hfree k ok hk hki ?_ hno
    by_cases hjk:j=k
    ·subst hjk;exact hjun
    ·rw [getD_set_ne true hjk] at hun;exact hun
   have hdf2:(listed.setIfInBounds j true).getD d false=false:=by rw [getD_set_ne false hjd];exact hdf
   have hdf3:((listed.setIfInBounds i true).setIfInBounds j true).getD d false=false:=by rw [getD_set_ne false hjd,getD_set_ne false hid];exact hdf
   refine wpOp_mono (fun a' w' h3=>⟨⟨h3.2.1.1,fun _=>h3.2.1.2 hdf3⟩,ih (listed.setIfInBounds j true) a' w' hfree' (ready_mono hr (Ne.symm hji)) h3.1 hdf2 h3.2.1.1 (h3.2.1.2 hdf3) ?_⟩) h2
   rw [Array.setIfInBounds_comm _ _ hji]
   exact h3.2.2
theorem wT {i:Nat} {oi:Oper} {v:Value} {fuel:Nat} {listed:Array Bool} {a:Act} {w:World} (hi:ops[i]?=some oi) (hid:i≠d)
  (hs:Region.noSelect ops=true) (hf:Region.free md ops listed i=true) (hr:(Region.ready md ops listed).contains i=true)
  (hQ:∀ c a w,Q (.panic c) (a.put oi.dst v) w→Q (.panic c) a w) (hy:YieldsIf P ops S oi v a) (hS:S w) (hT:listed.getD d false=false→T w)
  (h:wpAnyB P md ops Q S T d fuel (listed.setIfInBounds i true) (a.put oi.dst v) w):wpAnyB P md ops Q S T d (fuel+1) listed a w :=
 wpAnyB_first hi hid (Region.noSelect_spec hs) hQ fuel listed a w (Region.free_spec hi hf) (by simpa using hr) hy hS hT h
theorem wU {i : Nat} {oi : Oper} {v : Value} {fuel : Nat} {listed : Array Bool} {a : Act} {w : World} (hi : ops[i]? = some oi) (hy : YieldsIf P ops S oi v a) (hS : S w) (hT : listed.getD d false = false → T w)
  (h : wpAnyB P md ops Q S T d fuel (listed.setIfInBounds i true) (a.put oi.dst v) w) (hid : i ≠ d := by decide)
  (hs : Region.noSelect ops = true := by kernel_rfl) (hf : Region.free md ops listed i = true := by kernel_rfl) (hr : (Region.ready md ops listed).contains i = true := by kernel_rfl)
  (hQ : ∀ c a w, Q (.panic c) (a.put oi.dst v) w → Q (.panic c) a w := by exact fun _ _ _ h => h) : wpAnyB P md ops Q S T d (fuel + 1) listed a w :=
 wT hi hid hs hf hr hQ hy hS hT h
theorem wpAnyB_takeT {i:Nat} {oi od:Oper} {v:Value} {fuel:Nat} {listed:Array Bool} {a:Act} {w:World} (hi:ops[i]?=some oi) (hid:i≠d) (hd:ops[d]?=some od) (hdi:∃ e∈od.after,Region.binds md e=true∧e.on=i)
  (hs:Region.noSelect ops=true) (hf:Region.free md ops listed i=true) (hr:(Region.ready md ops listed).contains i=true)
  (hQ:∀ c a w,Q (.panic c) (a.put oi.dst v) w→Q (.panic c) a w) (hy:YieldsIf P ops (fun w=>S w∧T w) oi v a) (hdf:listed.getD d false=false) (hS:S w) (hT:T w)
  (h:wpAnyB P md ops Q S T d fuel (listed.setIfInBounds i true) (a.put oi.dst v) w):wpAnyB P md ops Q S T d (fuel+1) listed a w :=
 wpAnyB_firstT hi hid hd hdi (Region.noSelect_spec hs) hQ fuel listed a w (Region.free_spec hi hf) (by simpa using hr) hy hdf hS hT h
theorem wpAnyB_takeB {i:Nat} {oi od:Oper} {v:Value} {fuel:Nat} {listed:Array Bool} {a:Act} {w:World} (hi:ops[i]?=some oi) (hid:i≠d) (hd:ops[d]?=some od) (hdi:(od.after.any fun e=>Region.binds md e && e.on==i)=true)
  (hs:Region.noSelect ops=true) (hf:Region.free md ops listed i=true) (hr:(Region.ready md ops listed).contains i=true)
  (hQ:∀ c a w,Q (.panic c) (a.put oi.dst v) w→Q (.panic c) a w) (hy:YieldsIf P ops (fun w=>S w∧T w) oi v a) (hdf:listed.getD d false=false) (hS:S w) (hT:T w)
  (h:wpAnyB P md ops Q S T d fuel (listed.setIfInBounds i true) (a.put oi.dst v) w):wpAnyB P md ops Q S T d (fuel+1) listed a w :=
 wpAnyB_takeT hi hid hd (by
  obtain ⟨k,hk,hb⟩:=Array.any_eq_true.1 hdi
  rw [Bool.and_eq_true,beq_iff_eq] at hb
  exact ⟨_,Array.getElem_mem hk,hb.1,hb.2⟩) hs hf hr hQ hy hdf hS hT h
theorem wpAnyB_all {rs:List Nat} {fuel:Nat} {listed:Array Bool} {a:Act} {w:World} (hr:Region.ready md ops listed=rs) (hne:rs≠[])
  (h:∀ i∈rs,wpOp P ops Q i (fun a' w'=>(S w'∧((listed.setIfInBounds i true).getD d false=false→T w'))∧wpAnyB P md ops Q S T d fuel (listed.setIfInBounds i true) a' w') a w):wpAnyB P md ops Q S T d (fuel+1) listed a w :=
 ⟨fun h0=>absurd (hr▸h0) hne,hr▸h⟩
theorem wpAnyB_done {listed:Array Bool} {a:Act} {w:World} (hr:Region.ready md ops listed=[]) (h:Q .normal a w):∀ fuel,wpAnyB P md ops Q S T d fuel listed a w
 |0=>⟨hr,h⟩
 |_+1=>⟨fun _=>h,by rw [hr];simp⟩
theorem zAB {id:Nat} {a:Act} {w:World} (hm:P.follows .mixedOrders=true)
  (h:wpAnyB P .any ops Q S T d ops.size (Array.replicate ops.size false) a w.drew):(Code.region id ops true).wp P Q a w :=
 wp_region_any hm (wpAny_of_B _ _ _ _ h)
def AllReadyB (P:Program) (md:Region.Mode) (ops:Array Oper) (Q:Exit→Act→World→Prop) (S T:World→Prop) (d fuel:Nat) (listed:Array Bool) (a:Act) (w:World) (rs:List Nat):Prop :=
 ∀ i∈rs,wpOp P ops Q i (fun a' w'=>(S w'∧((listed.setIfInBounds i true).getD d false=false→T w'))∧wpAnyB P md ops Q S T d fuel (listed.setIfInBounds i true) a' w') a w
theorem AllReadyB.n {fuel:Nat} {listed:Array Bool} {a:Act} {w:World}:AllReadyB P md ops Q S T d fuel listed a w []:=fun _ h=>by cases h
theorem AllReadyB.c {fuel:Nat} {listed:Array Bool} {a:Act} {w:World} {i:Nat} {o:Oper} {rs:List Nat} (ho:ops[i]?=some o)
  (h:∀ K':Act→World→Prop,Shut (∀ a w,S w→((listed.setIfInBounds i true).getD d false=false→T w)→wpAnyB P md ops Q S T d fuel (listed.setIfInBounds i true) a w→K' a w)→if Region.wanted o (yielded ops a.tmps)=true then Oper.wp P o a w K' Q else K' (a.put o.dst undef) w)
  (hs:AllReadyB P md ops Q S T d fuel listed a w rs):AllReadyB P md ops Q S T d fuel listed a w (i :: rs):=fun j hj=>by
 rcases List.mem_cons.1 hj with rfl | hj
 ·exact wpOp_step ho (fun K' hK=>h K' (fun a w h1 h2 h3=>hK a w ⟨⟨h1,h2⟩,h3⟩))
 ·exact hs j hj
theorem wR {rs:List Nat} {fuel:Nat} {listed:Array Bool} {a:Act} {w:World} (hr:Region.ready md ops listed=rs) (hne:rs≠[])
  (h:AllReadyB P md ops Q S T d fuel listed a w rs):wpAnyB P md ops Q S T d (fuel+1) listed a w:=wpAnyB_all hr hne h
theorem wE {fuel:Nat} {listed:Array Bool} {a:Act} {w:World} (hr:(Region.ready md ops listed).isEmpty=true) (h:Q .normal a w):wpAnyB P md ops Q S T d fuel listed a w :=
 wpAnyB_done (List.isEmpty_iff.1 hr) h fuel
end
end Go.Proofs.YtghekinfoadcoaaGreat
namespace Go.Proofs.YtghekinfoadcoaaGreat
open Go.RowKit
theorem conv1 (w:World) (x:Int):(convert 58 9 (.slice (some ⟨w.heap.size,0,none⟩) 1 1)).run Tryz.prog (w.alloc (.cells #[.int .u8 x] 5))=.ok (.string (strOfNums [x])) (w.alloc (.cells #[.int .u8 x] 5)) :=
 run_convert_bytes_arg _ 58 5 Tryz.underlying58 Tryz.underlying5 w.heap.size 0 1 1 [x] rfl (fun i hi=>by
  obtain rfl:i=0:=by omega
  exact ((Blk.new w 5 #[.int .u8 x]).cell 0).trans (by simp)) 9 Tryz.underlying9
theorem data_append (a b:ByteArray):(a ++ b).data.toList=a.data.toList ++ b.data.toList:=by rw [ByteArray.data_append,Array.toList_append]
theorem size_append (a b:ByteArray):(a ++ b).size=a.size+b.size:=by show (a ++ b).data.size=_;rw [ByteArray.data_append,Array.size_append];rfl
theorem bytes_ext {a b:ByteArray} (h:a.data.toList=b.data.toList):a=b:=by
 cases a;cases b
 simp at h
 rw [h]
def splitS:List ByteArray→Option (List (ByteArray×ByteArray))
 |[]=>some []
 |l :: ls=>match cutS 61 l with
  |[a,b]=>match splitS ls with
   |some r=>some ((a,b) :: r)
   |none=>none
  |_=>none
def pdt (names:List ByteArray) (p:ByteArray×ByteArray):Dt:=⟨p.1,((cutS 124 p.2).take 5).map (pkt names)⟩
def buildS (r:List (ByteArray×ByteArray)):List Dt:=r.map (pdt (r.map Prod.fst))
def linesT (text:ByteArray):List ByteArray:=if text.size=0 then [] else (cutS 59 text).take 5
def parseS (text:ByteArray):Option (List Dt):=match splitS (linesT text) with
 |some r=>some (buildS r)
 |none=>none
def splitAfter (ps:List (ByteArray×ByteArray)) (ls:List ByteArray):Option (List (ByteArray×ByteArray)):=match splitS ls with
 |some r=>some (ps ++ r)
 |none=>none
def namesOf (ps:List (ByteArray×ByteArray)):List ByteArray:=ps.map Prod.fst
def dtsTo (ps:List (ByteArray×ByteArray)) (i:Nat):List Dt:=(ps.take i).map (pdt (namesOf ps))
def ktsTo (names ls:List ByteArray) (k:Nat):List Kt:=(ls.take k).map (pkt names)
/-! ### One round: a call, an element that is appended, the slice that is stored into the block D -/
section
variable {α : Type} {R : World → α → List Value → List Nat → Prop} {k D H : Nat} {E T : TypeId} {xs ys : List α} {w w9 wr wA w7 : World} {o : Obj} {nm v v' : Value} {F G : List Nat}
end
def GivesWorld (w:World) (r:Option (List Dt)) (e:Ending) (w':World):Prop :=
 ∃ v F,e=.returned (.tuple #[v,.bool r.isSome])∧Below w.heap.size w w'∧Arr w' (DtR w') (r.getD []) v F∧Free w' F∧Fresh w w' F
def parseB (text:ByteArray):Option (List Dt):=parseW (tl text)
def KtO (w:World) (c:Kt) (cs:List Value) (F:List Nat):Prop:=∃ kv,cs=[.string c.name,kv,.int .i64 c.idx]∧Own w 0 39 2 TyR c.args kv []∧F=rowOf kv∧c.name.size≤9223372036854775807
def DtO (w:World) (x:Dt) (cs:List Value) (F:List Nat):Prop:=∃ kv,cs=[.string x.name,kv]∧Arr w (KtO w) x.ctors kv F∧x.name.size≤9223372036854775807
def SmallW (n:Nat) (xs:List Dt):Prop:=∀ x∈xs,x.ctors.length≤n∧∀ c∈x.ctors,c.args.length≤n
theorem Flat.ones {α:Type} {R:α→List Value→List Nat→Prop} (hR:∀ x cs G,R x cs G→∀ u∈cs,u.oneCell'=true):∀ {xs:List α} {cs:List Value} {F:List Nat},Flat R xs cs F→∀ u∈cs,u.oneCell'=true
 |[],cs,F,h,u,hu=>by obtain ⟨rfl,-⟩:=h;cases hu
 |x :: xs,cs,F,h,u,hu=>by
  obtain ⟨c1,c2,F1,F2,rfl,rfl,h1,h2⟩:=h
  rcases List.mem_append.1 hu with h | h
  ·exact hR _ _ _ h1 u h
  ·exact Flat.ones hR h2 u h
/-! ### append of a whole slice that came in -/
section
variable {P : Program} {w : World}
end
section
variable {P : Program} {w : World}
theorem run_append_none (t ty e:TypeId) (i:TypeInfo) (ht:P.underlying t=some (.slice e)) (hi:P.info? e=some i) (A:Option Addr) (n cap c:Nat) (h:n≤cap) :
  (Builtin.append_ #[t,t] ty #[.slice A n cap,.slice none 0 c]).run P w=.ok (.slice A n cap) w:=by
 cases A <;> simp [Builtin.append_,run_underlying ht,sizeOf,typeInfo,hi,Builtin.lenOf,Builtin.firstCells,storeCells,h]
theorem zA7 {α:Type} {R:World→α→List Value→List Nat→Prop} {B k:Nat} {E:TypeId} (t ty:TypeId) (i:TypeInfo) (z:Value) (bytes:Nat) (ht:P.underlying t=some (.slice E)) (hi:P.info? E=some i) (hz:i.zero=some z)
  (hsize:i.size=k) (hby:i.bytes=bytes) (hzs:z.cells.size=k) (hk:0<k) (hRl:∀ w x cs G,R w x cs G→cs.length=k) (hRm:∀ w w' x cs G,Kept G w w'→R w x cs G→R w' x cs G) (hR1:∀ w x cs G,R w x cs G→∀ u∈cs,u.oneCell'=true)
  {xs:List α} {sv:Value} {F0:List Nat} (hown:Own w B E k R xs sv F0) {ys:List α} {xv:Value} {F:List Nat} (hy:Arr w (R w) ys xv F) (hu:Under w.heap.size F) (hvG:∀ g∈rowOf sv,g∉F)
  (h63:xs.length+ys.length≤1000000) (hbytes:(xs.length+ys.length)*bytes≤140737488355328) (hbase:B≤w.heap.size) :
  ∃ v' w' G,(Builtin.append_ #[t,t] ty #[sv,xv]).run P w=.ok v' w'∧Own w' B E k R (xs ++ ys) v' (F0 ++ G)∧(∀ b∈G,b∈F)∧w.grownBy w' sv.ownBlock∧(v'.ownBlock=sv.ownBlock∨v'.ownBlock=some w.heap.size):=by
 have key:∀ (a:Addr) (c:Nat) (cs1:List Value) (G:List Nat),xv=.slice (some a) ys.length c→Flat (R w) ys cs1 G→(∀ b∈G,b∈F)→(∀ j u,cs1[j]?=some u→w.cell? (a.add j)=some u) →
   ∃ v' w' G,(Builtin.append_ #[t,t] ty #[sv,xv]).run P w=.ok v' w'∧Own w' B E k R (xs ++ ys) v' (F0 ++ G)∧(∀ b∈G,b∈F)∧w.grownBy w' sv.ownBlock∧(v'.ownBlock=sv.ownBlock∨v'.ownBlock=some w.heap.size):=by
  intro a c cs1 G hxv hf hGF hc
  subst hxv
  obtain ⟨cs,o1,o2,o3,o4⟩:=id hown
  have hl:cs1.length=ys.length*k:=hf.length (hRl w)
  have hone:=hf.ones (hR1 w)
  have hG:Under w.heap.size G:=hu.sub hGF
  obtain ⟨v',w',hr,q1,q2,q3,q4⟩:=run_append_own_at (P:=P) w B t ty E i z k bytes ht hi hz hsize hby hzs hk sv xs.length cs o1 a ys.length c cs1 hl hc hone (by unfold maxLen;omega) hbytes hbase
  refine ⟨v',w',G,hr,⟨cs ++ cs1,by rw [List.length_append];exact q1,?_,?_,?_⟩,hGF,q2,q4⟩
  ·exact (o2.mono fun x _ ds H hH hr=>hRm w w' x ds H (grown_kept q2 (o3.sub hH) fun g hg hn=>o4 g hg (hH g hn)) hr).append (hf.mono fun x _ ds H hH hr=>hRm w w' x ds H (grown_kept q2 (hG.sub hH) fun g hg hn=>hvG g hg (hGF g (hH g hn))) hr)
  ·intro b hb
   rcases List.mem_append.1 hb with hb | hb
   ·exact zz9 (o3 b hb) q2.size
   ·exact zz9 (hG b hb) q2.size
  ·intro b hb hbF
   have hb:=zA1.1 hb
   rcases q4 with q4 | q4
   ·rw [q4] at hb
    rcases List.mem_append.1 hbF with h | h
    ·exact o4 b (zA1.2 hb) h
    ·exact hvG b (zA1.2 hb) (hGF b h)
   ·rw [q4] at hb
    obtain rfl:=Option.some.inj hb
    rcases List.mem_append.1 hbF with h | h
    ·exact Nat.lt_irrefl _ (o3 _ h)
    ·exact Nat.lt_irrefl _ (hG _ h)
 obtain ⟨A,c,hv,h1,h2,h3⟩:=id hy
 rcases h3 with ⟨hys,hF⟩ | ⟨b,off,cs1,G,rfl,hc,hf,hF⟩
 ·cases A with
  |none =>
   subst hv
   obtain ⟨A',cap',rfl,hc1,hc2⟩:=hown.form
   refine ⟨.slice A' xs.length cap',w,[],?_,?_,fun b hb=>(by cases hb),⟨rfl,rfl,rfl,zz8 _,fun _ _ _=>rfl⟩,.inl rfl⟩
   ·subst hys
    exact run_append_none t ty E i ht hi A' xs.length cap' c hc1
   ·subst hys
    rw [List.append_nil,List.append_nil]
    exact hown
  |some a=>exact key a c [] [] hv (by subst hys;exact ⟨rfl,rfl⟩) (fun b hb=>by cases hb) (fun j u h=>by simp at h)
 ·exact key ⟨b,off,none⟩ c cs1 G hv hf (fun b hb=>by rw [hF];exact List.mem_cons_of_mem _ hb) (fun j u hj=>by rw [Addr.add_lit];exact hc j u hj)
end
theorem zA9 {P:Program} {w:World} {ops:Array Oper} {o:Oper} {a:Act} {K:Act→World→Prop} {Q:Exit→Act→World→Prop} {EE:Prop} (hgd:o.guard=none) (s x:Operand) (t:TypeId)
  (ho:o.op=.call { callee:=.builtin .append,args:=#[s,x],argTypes:=#[t,t] }) {sv xv v':Value} {w':World} (hs:a.eval s=sv) (hx:a.eval x=xv)
  (hr:(Builtin.append_ #[t,t] o.type #[sv,xv]).run P w=.ok v' w') (h:K (a.put o.dst v') w'):if Region.wanted o (yielded ops a.tmps)=true then Oper.wp P o a w K Q else EE:=by
 rw [if_pos (by simp [Region.wanted,hgd])]
 unfold Oper.wp execOp
 simp only [ho,resolve,invoke,builtin,Sem.run_bind,Sem.run_pure,Result.andThen_ok,List.map_toArray,List.map_cons,List.map_nil,hs,hx,hr]
 exact h
theorem results_cell_row {P:Program} {fn:Func} {p:Tmp} {ty:TypeId} (h:fn.results=#[.cell p ty]) (tmps:Array Value) (w:World) (g:Nat) (t:TypeId) (cs:Array Value) (fr:Nat×Nat) (d:TypeDesc)
  (hp:tmps.getD p undef=.pointer (some ⟨g,0,none⟩)) (hg:w.heap[g]?=some (.cells cs t fr))
  (hu:P.underlying ty=some d) (hd:(match d with | .struct _ | .array _ _=>true | _=>false)=true) (hi:(P.info? ty).map (·.size)=some cs.size) :
  (results fn tmps).run P w=.ok (.agg cs) w:=by
 have hp':tmps[p]?.getD undef=.pointer (some ⟨g,0,none⟩):=by simpa using hp
 simp [results,h,hp',asAddr,run_loadVar_row w g t ty cs fr d hg hu hd hi]
theorem blk_second (w:World) (o:Obj) (T:TypeId) (C:Array Value):Blk ((w.alloc o).alloc (.cells C T)) (w.heap.size+1) T C:=by
 have h:=Blk.new (w.alloc o) T C
 rw [World.size_alloc] at h
 exact h
section
variable {w w0 : World} {H B : Nat} {T : TypeId} {F : List Nat}
end
def MadePt (p:P) (w:World) (e:Ending) (w':World):Prop:=∃ cs F,e=.returned (.agg cs.toArray)∧Below w.heap.size w w'∧PR w' p cs F∧Free w' F∧Fresh w w' F
mutual
def patOf:V→P
 |⟨c,n,ks⟩=>if c = -1 then ⟨3,0,n,n,0,[]⟩ else ⟨4,c,0,0,0,patOfs ks⟩
def patOfs:List V→List P
 |[]=>[]
 |k :: ks=>patOf k :: patOfs ks
end
def patTo (ks:List V) (i:Nat):List P:=(ks.take i).map patOf
def PatOfP (fn:FuncId) (v:V):Prop:=∀ (w:World) (cs:List Value) (G:List Nat),VR w v cs G→Under w.heap.size G→v.size≤1048576 →
 Calls Tryz.prog fn #[.agg cs.toArray] w (MadePt (patOf v) w)
end Go.Proofs.YtghekinfoadcoaaGreat
