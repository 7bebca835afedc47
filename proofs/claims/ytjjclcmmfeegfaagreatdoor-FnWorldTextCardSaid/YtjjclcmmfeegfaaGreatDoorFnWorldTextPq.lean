/-
  FnWorldText: for every argument the law returns true; the card. Conditions: the listed package-level variables hold what the card ties to the program's text.
-/
import Derived.Test.YtjjclcmmfeegfaaGreatDoorQAC
import Derived.Test.YtjjclcmmfeegfaaGreatDoorQAD
import Derived.Test.YtjjclcmmfeegfaaGreatDoorQAE
import Derived.Test.YtjjclcmmfeegfaaGreatDoorQAF
import Derived.Test.YtjjclcmmfeegfaaGreatDoorQAB
import Derived.Deep.RegionWith
import Derived.Deep.RegionHeld3
import Derived.BigQuiet
import Derived.Test.YtjjclcmmfeegfaaGreatDoorRows
import Derived.Test.YtjjclcmmfeegfaaGreatDoorCards
import Derived.Test.YtjjclcmmfeegfaaGreatDoorTie
import Derived.ProofKit
import Derived.LaidMore
import Derived.Lay
import Derived.OpenShut
import Derived.ShutString
import Derived.ChangeOld
import Derived.Below
import Derived.SevenTiedAt

set_option linter.unusedVariables false
set_option linter.unusedSimpArgs false
set_option maxRecDepth 100000
set_option maxHeartbeats 1600000

namespace Go.Proofs.YtjjclcmmfeegfaaGreatDoor.fnWorldText
open Go.RowKit
theorem same_self2 (xs:List Dt):sameBy Dt.same xs xs=true:=(sameBy_iff Dt.same_iff xs xs).2 rfl
theorem fmtW_small (xs:List Dt):(fmtW xs).size≤1000:=by
 unfold fmtW
 split
 ·rename_i h
  rw [zAR]
  exact Nat.le_trans (textT_len (worldOK h)) (by omega)
 ·exact Nat.zero_le _
theorem fmtW_parse {xs:List Dt} (h:worldOk xs=true):parseB (fmtW xs)=some xs:=parseB_yes2 h (by unfold fmtW;rw [if_pos h,zAC])
theorem parse_fmtW {s:ByteArray} {ys:List Dt} (h:parseB s=some ys):((fmtW ys).toList==s.toList)=true:=by
 obtain ⟨-,h2,h3⟩:=parseB_of h
 rw [beq_iff_eq]
 unfold fmtW
 rw [if_pos h2,zA2,zA2,zAC,h3]
set_option maxHeartbeats 3200000 in
theorem walk {W:World} (x0:List Int) (v0:Value) (F0:List Nat) (hR0:Arr W (ByR W) x0 v0 F0) (hU0:Under W F0) (x1:List Int) (v1:Value) (F1:List Nat) (hR1:Arr W (ByR W) x1 v1 F1) (hU1:Under W F1) (hv:VarsOK W) (w:World) (hw:w=W) :
  Calls Tryz.prog 5 #[v0,v1] w fun e w'=>e=.returned (.bool true)∧Below w w w':=by
 subst hw
 obtain ⟨A0,cap0,rfl,-,-⟩:=hR0.form
 obtain ⟨A1,cap1,rfl,-,-⟩:=hR1.form
 have HR0:=jj hR0
 have HU0:=jj hU0
 have HR1:=jj hR1
 have HU1:=jj hU1
 have HV:=jj hv
 clear hR0 hU0 hR1 hU1 hv
 go_enter Tryz.func5,Tryz.ntmps5
 by_cases hlen:1048576<x0.length
 ·have t0:decide ((x0.length:Int)>1048576)=true:=decide_eq_true (by omega)
  go_wp2
  go_ret
  exact ⟨rfl,zy2 _ _⟩
 have t0:decide ((x0.length:Int)>1048576)=false:=decide_eq_false (by omega)
 clear hlen
 by_cases hlen:1048576<x1.length
 ·have t1:decide ((x1.length:Int)>1048576)=true:=decide_eq_true (by omega)
  go_wp2
  go_ret
  exact ⟨rfl,zy2 _ _⟩
 have t1:decide ((x1.length:Int)>1048576)=false:=decide_eq_false (by omega)
 clear hlen
 go_wp2_with fail
 refine (spec_DrawFormatWorld x0 w _ F0 HR0.out HU0.out).mono ?_
 rintro e w1 ⟨xs,vX,FX,rfl,hB1,hx1,hfx1⟩
 have HX1:=jj hx1
 have UX1:=jj hfx1.under
 have HM1:Hid (Arr w1 (ByR w1) x1 (.slice A1 x1.length cap1) F1):=ArrBy.mono HR1.out (.of_below hB1 HU1.out)
 have UM1:Hid (Under w1 F1):=HU1.out.mono hB1.size
 clear hx1 hfx1 HR0 HU0 HR1 HU1
 go_wp2_with fail
 refine (impl_FormatWorld xs w1 _ FX HX1.out UX1.out).mono ?_
 rintro e w2 ⟨rfl,hb2⟩
 have hB2:=hB1.trans (hb2.mono hB1.size)
 have HX2:Hid (Arr w2 (DtR w2) xs vX FX):=ArrDt.below HX1.out hb2 UX1.out
 have UX2:Hid (Under w2 FX):=UX1.out.mono hb2.size
 have HM2:Hid (Arr w2 (ByR w2) x1 (.slice A1 x1.length cap1) F1):=ArrBy.mono HM1.out (.of_below hb2 UM1.out)
 have UM2:Hid (Under w2 F1):=UM1.out.mono hb2.size
 clear hB1 HX1 UX1 HM1 UM1
 clear hb2
 obtain ⟨fx,hfx⟩:∃ x,x=fmtW xs:=⟨_,rfl⟩
 have hfs:fx.size≤1000:=by rw [hfx];exact fmtW_small xs
 rw [←hfx]
 have HFX:=jj hfx
 clear hfx
 go_wp2_with fail
 refine (impl_ParseWorld fx (by omega) w2 (HV.out.below hB2)).mono ?_
 rintro e w3 ⟨vP,FP,rfl,hb3,haP,-,hsP⟩
 have HP3:=jj haP
 have UP3:=jj hsP.under
 clear haP hsP
 have hB3:=hB2.trans (hb3.mono hB2.size)
 have HX3:Hid (Arr w3 (DtR w3) xs vX FX):=ArrDt.below HX2.out hb3 UX2.out
 have UX3:Hid (Under w3 FX):=UX2.out.mono hb3.size
 have HM3:Hid (Arr w3 (ByR w3) x1 (.slice A1 x1.length cap1) F1):=ArrBy.mono HM2.out (.of_below hb3 UM2.out)
 have UM3:Hid (Under w3 F1):=UM2.out.mono hb3.size
 clear hB2 HX2 UX2 HM2 UM2
 clear hb3
 obtain ⟨pp,hpp⟩:∃ o,parseB fx=o:=⟨_,rfl⟩
 rw [hpp] at HP3 ⊢
 have HPP:=jj hpp
 clear hpp
 go_wp2_with fail
 refine (spec_FormatWorld xs w3 _ FX HX3.out UX3.out).mono ?_
 rintro e w4 ⟨rfl,hb4⟩
 have hB4:=hB3.trans (hb4.mono hB3.size)
 have HX4:Hid (Arr w4 (DtR w4) xs vX FX):=ArrDt.below HX3.out hb4 UX3.out
 have UX4:Hid (Under w4 FX):=UX3.out.mono hb4.size
 have HM4:Hid (Arr w4 (ByR w4) x1 (.slice A1 x1.length cap1) F1):=ArrBy.mono HM3.out (.of_below hb4 UM3.out)
 have UM4:Hid (Under w4 F1):=UM3.out.mono hb4.size
 have HP4:Hid (Arr w4 (DtR w4) (pp.getD []) vP FP):=ArrDt.below HP3.out hb4 UP3.out
 have UP4:Hid (Under w4 FP):=UP3.out.mono hb4.size
 clear hB3 HX3 UX3 HM3 UM3 HP3 UP3
 clear hb4
 rw [←HFX.out]
 have hne:(fx.toList != fx.toList)=false:=by simp
 go_wp2_with fail
 refine (impl_WorldValid xs w4 _ FX HX4.out UX4.out).mono ?_
 rintro e w5 ⟨rfl,hb5⟩
 have hB5:=hB4.trans (hb5.mono hB4.size)
 have HX5:Hid (Arr w5 (DtR w5) xs vX FX):=ArrDt.below HX4.out hb5 UX4.out
 have UX5:Hid (Under w5 FX):=UX4.out.mono hb5.size
 have HM5:Hid (Arr w5 (ByR w5) x1 (.slice A1 x1.length cap1) F1):=ArrBy.mono HM4.out (.of_below hb5 UM4.out)
 have UM5:Hid (Under w5 F1):=UM4.out.mono hb5.size
 have HP5:Hid (Arr w5 (DtR w5) (pp.getD []) vP FP):=ArrDt.below HP4.out hb5 UP4.out
 have UP5:Hid (Under w5 FP):=UP4.out.mono hb5.size
 clear hB4 HX4 UX4 HM4 UM4 HP4 UP4
 clear hb5
 go_wp2_with fail
 refine (zAL xs w5 _ FX HX5.out UX5.out).mono ?_
 rintro e w6 ⟨rfl,hb6⟩
 have hB6:=hB5.trans (hb6.mono hB5.size)
 have HX6:Hid (Arr w6 (DtR w6) xs vX FX):=ArrDt.below HX5.out hb6 UX5.out
 have UX6:Hid (Under w6 FX):=UX5.out.mono hb6.size
 have HM6:Hid (Arr w6 (ByR w6) x1 (.slice A1 x1.length cap1) F1):=ArrBy.mono HM5.out (.of_below hb6 UM5.out)
 have UM6:Hid (Under w6 F1):=UM5.out.mono hb6.size
 have HP6:Hid (Arr w6 (DtR w6) (pp.getD []) vP FP):=ArrDt.below HP5.out hb6 UP5.out
 have UP6:Hid (Under w6 FP):=UP5.out.mono hb6.size
 clear hB5 HX5 UX5 HM5 UM5 HP5 UP5
 clear hb6
 have hnw:(worldOk xs != worldOk xs)=false:=by simp
 go_wp2_with fail
 refine (impl_WorldValid xs w6 _ FX HX6.out UX6.out).mono ?_
 rintro e w7 ⟨rfl,hb7⟩
 have hB7:=hB6.trans (hb7.mono hB6.size)
 have HX7:Hid (Arr w7 (DtR w7) xs vX FX):=ArrDt.below HX6.out hb7 UX6.out
 have UX7:Hid (Under w7 FX):=UX6.out.mono hb7.size
 have HM7:Hid (Arr w7 (ByR w7) x1 (.slice A1 x1.length cap1) F1):=ArrBy.mono HM6.out (.of_below hb7 UM6.out)
 have UM7:Hid (Under w7 F1):=UM6.out.mono hb7.size
 have HP7:Hid (Arr w7 (DtR w7) (pp.getD []) vP FP):=ArrDt.below HP6.out hb7 UP6.out
 have UP7:Hid (Under w7 FP):=UP6.out.mono hb7.size
 clear hB6 HX6 UX6 HM6 UM6 HP6 UP6
 clear hb7
 cases q1:worldOk xs with
 |false =>
  clear HX7 UX7 HP7 UP7
  go_wp2_with fail
  refine (spec_DrawParseWorld x1 w7 _ F1 HM7.out UM7.out).mono ?_
  rintro e w8 ⟨tt,rfl,htt,hb8⟩
  have hB8:=hB7.trans (hb8.mono hB7.size)
  clear hb8
  go_wp2_with fail
  refine (impl_ParseWorld tt (by omega) w8 (HV.out.below hB8)).mono ?_
  rintro e w9 ⟨vG,FG,rfl,hb9,haG,-,hsG⟩
  have HG9:=jj haG
  have UG9:=jj hsG.under
  clear haG hsG
  have hB9:=hB8.trans (hb9.mono hB8.size)
  clear hB8
  clear hb9
  obtain ⟨po,hpo⟩:∃ o,parseB tt=o:=⟨_,rfl⟩
  rw [hpo] at HG9 ⊢
  go_wp2_with fail
  refine (spec_ParseWorld tt (by omega) w9).mono ?_
  rintro e w10 ⟨vK,FK,rfl,hb10,haK,-,hsK⟩
  rw [hpo] at haK ⊢
  have HK10:=jj haK
  have UK10:=jj hsK.under
  clear haK hsK
  have hB10:=hB9.trans (hb10.mono hB9.size)
  have HG10:Hid (Arr w10 (DtR w10) (po.getD []) vG FG):=ArrDt.below HG9.out hb10 UG9.out
  have UG10:Hid (Under w10 FG):=UG9.out.mono hb10.size
  clear hB9 HG9 UG9
  clear hb10
  have HPO:=jj hpo
  clear hpo
  cases po with
  |none =>
   have HG10:Hid (Arr w10 (DtR w10) [] vG FG):=HG10.out
   have HK10:Hid (Arr w10 (DtR w10) [] vK FK):=HK10.out
   have hbe:((none:Option (List Dt)).isSome==(none:Option (List Dt)).isSome)=true:=rfl
   have hbs:(none:Option (List Dt)).isSome=false:=rfl
   go_wp2_with fail
   refine (zAQ [] [] w10 _ _ FG FK HG10.out HK10.out UG10.out UK10.out).mono ?_
   rintro e w11 ⟨rfl,hb11⟩
   have hB11:=hB10.trans (hb11.mono hB10.size)
   have HG11:Hid (Arr w11 (DtR w11) [] vG FG):=ArrDt.below HG10.out hb11 UG10.out
   have UG11:Hid (Under w11 FG):=UG10.out.mono hb11.size
   have HK11:Hid (Arr w11 (DtR w11) [] vK FK):=ArrDt.below HK10.out hb11 UK10.out
   have UK11:Hid (Under w11 FK):=UK10.out.mono hb11.size
   clear hB10 HG10 UG10 HK10 UK10
   clear hb11
   rw [same_self2]
   go_wp2
   go_ret
   exact ⟨rfl,hB11⟩
  |some ys =>
   have HG10:Hid (Arr w10 (DtR w10) ys vG FG):=HG10.out
   have HK10:Hid (Arr w10 (DtR w10) ys vK FK):=HK10.out
   have hbe:((some ys).isSome==(some ys).isSome)=true:=rfl
   have hbs:(some ys).isSome=true:=rfl
   have hfe:=parse_fmtW HPO.out
   go_wp2_with fail
   refine (zAQ ys ys w10 _ _ FG FK HG10.out HK10.out UG10.out UK10.out).mono ?_
   rintro e w11 ⟨rfl,hb11⟩
   have hB11:=hB10.trans (hb11.mono hB10.size)
   have HG11:Hid (Arr w11 (DtR w11) ys vG FG):=ArrDt.below HG10.out hb11 UG10.out
   have UG11:Hid (Under w11 FG):=UG10.out.mono hb11.size
   have HK11:Hid (Arr w11 (DtR w11) ys vK FK):=ArrDt.below HK10.out hb11 UK10.out
   have UK11:Hid (Under w11 FK):=UK10.out.mono hb11.size
   clear hB10 HG10 UG10 HK10 UK10
   clear hb11
   rw [same_self2]
   go_wp2_with fail
   refine (impl_FormatWorld ys w11 _ FG HG11.out UG11.out).mono ?_
   rintro e w12 ⟨rfl,hb12⟩
   have hB12:=hB11.trans (hb12.mono hB11.size)
   have HG12:Hid (Arr w12 (DtR w12) ys vG FG):=ArrDt.below HG11.out hb12 UG11.out
   have UG12:Hid (Under w12 FG):=UG11.out.mono hb12.size
   have HK12:Hid (Arr w12 (DtR w12) ys vK FK):=ArrDt.below HK11.out hb12 UK11.out
   have UK12:Hid (Under w12 FK):=UK11.out.mono hb12.size
   clear hB11 HG11 UG11 HK11 UK11
   clear hb12
   go_wp2
   go_ret
   exact ⟨rfl,hB12⟩
 |true =>
  have hps:pp=some xs:=by rw [←HPP.out,HFX.out];exact fmtW_parse q1
  subst hps
  have HP7:Hid (Arr w7 (DtR w7) xs vP FP):=HP7.out
  have hbx:(some xs).isSome=true:=rfl
  go_wp2_with fail
  refine (zAQ xs xs w7 _ _ FP FX HP7.out HX7.out UP7.out UX7.out).mono ?_
  rintro e w8 ⟨rfl,hb8⟩
  have hB8:=hB7.trans (hb8.mono hB7.size)
  have HX8:Hid (Arr w8 (DtR w8) xs vX FX):=ArrDt.below HX7.out hb8 UX7.out
  have UX8:Hid (Under w8 FX):=UX7.out.mono hb8.size
  have HM8:Hid (Arr w8 (ByR w8) x1 (.slice A1 x1.length cap1) F1):=ArrBy.mono HM7.out (.of_below hb8 UM7.out)
  have UM8:Hid (Under w8 F1):=UM7.out.mono hb8.size
  have HP8:Hid (Arr w8 (DtR w8) xs vP FP):=ArrDt.below HP7.out hb8 UP7.out
  have UP8:Hid (Under w8 FP):=UP7.out.mono hb8.size
  clear hB7 HX7 UX7 HM7 UM7 HP7 UP7
  clear hb8
  rw [same_self2]
  clear HX8 UX8 HP8 UP8
  go_wp2_with fail
  refine (spec_DrawParseWorld x1 w8 _ F1 HM8.out UM8.out).mono ?_
  rintro e w9 ⟨tt,rfl,htt,hb9⟩
  have hB9:=hB8.trans (hb9.mono hB8.size)
  clear hb9
  go_wp2_with fail
  refine (impl_ParseWorld tt (by omega) w9 (HV.out.below hB9)).mono ?_
  rintro e w10 ⟨vG,FG,rfl,hb10,haG,-,hsG⟩
  have HG10:=jj haG
  have UG10:=jj hsG.under
  clear haG hsG
  have hB10:=hB9.trans (hb10.mono hB9.size)
  clear hB9
  clear hb10
  obtain ⟨po,hpo⟩:∃ o,parseB tt=o:=⟨_,rfl⟩
  rw [hpo] at HG10 ⊢
  go_wp2_with fail
  refine (spec_ParseWorld tt (by omega) w10).mono ?_
  rintro e w11 ⟨vK,FK,rfl,hb11,haK,-,hsK⟩
  rw [hpo] at haK ⊢
  have HK11:=jj haK
  have UK11:=jj hsK.under
  clear haK hsK
  have hB11:=hB10.trans (hb11.mono hB10.size)
  have HG11:Hid (Arr w11 (DtR w11) (po.getD []) vG FG):=ArrDt.below HG10.out hb11 UG10.out
  have UG11:Hid (Under w11 FG):=UG10.out.mono hb11.size
  clear hB10 HG10 UG10
  clear hb11
  have HPO:=jj hpo
  clear hpo
  cases po with
  |none =>
   have HG11:Hid (Arr w11 (DtR w11) [] vG FG):=HG11.out
   have HK11:Hid (Arr w11 (DtR w11) [] vK FK):=HK11.out
   have hbe:((none:Option (List Dt)).isSome==(none:Option (List Dt)).isSome)=true:=rfl
   have hbs:(none:Option (List Dt)).isSome=false:=rfl
   go_wp2_with fail
   refine (zAQ [] [] w11 _ _ FG FK HG11.out HK11.out UG11.out UK11.out).mono ?_
   rintro e w12 ⟨rfl,hb12⟩
   have hB12:=hB11.trans (hb12.mono hB11.size)
   have HG12:Hid (Arr w12 (DtR w12) [] vG FG):=ArrDt.below HG11.out hb12 UG11.out
   have UG12:Hid (Under w12 FG):=UG11.out.mono hb12.size
   have HK12:Hid (Arr w12 (DtR w12) [] vK FK):=ArrDt.below HK11.out hb12 UK11.out
   have UK12:Hid (Under w12 FK):=UK11.out.mono hb12.size
   clear hB11 HG11 UG11 HK11 UK11
   clear hb12
   rw [same_self2]
   go_wp2
   go_ret
   exact ⟨rfl,hB12⟩
  |some ys =>
   have HG11:Hid (Arr w11 (DtR w11) ys vG FG):=HG11.out
   have HK11:Hid (Arr w11 (DtR w11) ys vK FK):=HK11.out
   have hbe:((some ys).isSome==(some ys).isSome)=true:=rfl
   have hbs:(some ys).isSome=true:=rfl
   have hfe:=parse_fmtW HPO.out
   go_wp2_with fail
   refine (zAQ ys ys w11 _ _ FG FK HG11.out HK11.out UG11.out UK11.out).mono ?_
   rintro e w12 ⟨rfl,hb12⟩
   have hB12:=hB11.trans (hb12.mono hB11.size)
   have HG12:Hid (Arr w12 (DtR w12) ys vG FG):=ArrDt.below HG11.out hb12 UG11.out
   have UG12:Hid (Under w12 FG):=UG11.out.mono hb12.size
   have HK12:Hid (Arr w12 (DtR w12) ys vK FK):=ArrDt.below HK11.out hb12 UK11.out
   have UK12:Hid (Under w12 FK):=UK11.out.mono hb12.size
   clear hB11 HG11 UG11 HK11 UK11
   clear hb12
   rw [same_self2]
   go_wp2_with fail
   refine (impl_FormatWorld ys w12 _ FG HG12.out UG12.out).mono ?_
   rintro e w13 ⟨rfl,hb13⟩
   have hB13:=hB12.trans (hb13.mono hB12.size)
   have HG13:Hid (Arr w13 (DtR w13) ys vG FG):=ArrDt.below HG12.out hb13 UG12.out
   have UG13:Hid (Under w13 FG):=UG12.out.mono hb13.size
   have HK13:Hid (Arr w13 (DtR w13) ys vK FK):=ArrDt.below HK12.out hb13 UK12.out
   have UK13:Hid (Under w13 FK):=UK12.out.mono hb13.size
   clear hB12 HG12 UG12 HK12 UK12
   clear hb13
   go_wp2
   go_ret
   exact ⟨rfl,hB13⟩
end Go.Proofs.YtjjclcmmfeegfaaGreatDoor.fnWorldText
namespace Go.Proofs.YtjjclcmmfeegfaaGreatDoor.fnWorldText
open Go.ChangeShapes Go.WideShapes Go.ChangeAt Go.RowKit
open Go.ChangeMaps (open_string shut_string)
set_option linter.unusedVariables false

theorem own : ownKnob Tryz.prog.godebug = none := by kernel_rfl
theorem laidOut : laidOutB Tryz.prog = true := by kernel_rfl
theorem door_met (os : Os) (args : Array Value) : laidMetH Tryz.prog Rows.fnWorldTextRow.laid ((World.laidAll Tryz.prog os Rows.fnWorldTextRow.laid).forCall (fun _ _ => 0) ⟨#[], args, []⟩).memory := by
  unfold laidMetH
  rw [show (Rows.fnWorldTextRow.laid.filter fun x => x.2.handleName?.isSome) = [] by kernel_rfl]
  exact laidMet_laidAll _ (by kernel_rfl) (by kernel_rfl)

set_option maxRecDepth 100000 in
theorem lifted (os : Os) (started : os.Started) (H : Type) (enc : TypeId × Value → H) :
    ReturnsInHanded {} Tryz.checked os 5 .any (fun w args => (Rows.fnWorldTextSpec.pre enc Tryz.prog Tryz.f5 [] false w args ∧ laidMetH Tryz.prog Rows.fnWorldTextRow.laid w) ∧ sizedMet enc Tryz.prog Tryz.f5 (OpenSpec.ofChange Rows.fnWorldTextSpec) false w args)
      (Rows.fnWorldTextSpec.post enc Tryz.prog Tryz.f5 false true false false) := by
  refine lift_shaped (C := Tryz.checked) (X := fun w _ => laidMetH Tryz.prog Rows.fnWorldTextRow.laid w) (fun _ _ _ hh h => h.of_heap hh) own started (by kernel_rfl) Tryz.func5
    (ChangeSpec.witness_shaped (enc := enc) (C := Tryz.checked) (os := os) (X := fun w _ => laidMetH Tryz.prog Rows.fnWorldTextRow.laid w) false (World.laidAll Tryz.prog os Rows.fnWorldTextRow.laid) #[.slice none 0 0, .slice none 0 0] 8 (World.laidAll_os _ _ _) (World.shaped_of_ZipB (by kernel_rfl) (by kernel_rfl)) (by kernel_rfl) (by kernel_rfl) (by kernel_rfl) (door_met os _)) ?_
  intro W base args ds gs before hval0 hW hX0 hsh0
  have hvo := vars_shaped hsh0 hX0 (by kernel_rfl) (j := 5) (k := 4) rfl rfl
  have hval : ∀ (j : Nat) t v, Tryz.f5.params[j]? = some t → args[j]? = some v → Value.okWide Tryz.prog W .any base t v := hval0
  have hW' := hW
  obtain ⟨p, q, hA0, hV, rfl, hfz, hnd⟩ := hW
  have hA : DataW.TrodAll enc Tryz.prog W 0 (fun _ => true) true Tryz.f5.params.toList args.toList ds p := hA0
  rw [Tryz.params5] at hA hval
  obtain ⟨v0, vs0, d0, ds0, p0, q0, hargs, rfl, rfl, h0, r0⟩ := trodAll_cons hA
  obtain ⟨v1, vs1, d1, ds1, p1, q1, rfl, rfl, rfl, h1, r1⟩ := trodAll_cons r0
  obtain ⟨rfl, rfl, rfl⟩ := trodAll_nil r1
  obtain rfl : args = #[v0, v1] := by cases args; simp_all
  obtain ⟨rfl, rfl⟩ := trodVars_none hV
  have k0 := h0
  have lt0 : ∀ x ∈ p0, x.block < W.heap.size := by obtain ⟨m, hm⟩ := k0; exact DataW.trod_lt m _ _ _ hm
  have k1 := h1
  have lt1 : ∀ x ∈ p1, x.block < W.heap.size := by obtain ⟨m, hm⟩ := k1; exact DataW.trod_lt m _ _ _ hm
  obtain ⟨x0, F0, hR0, hU0⟩ := open_Bytes (hval 0 22 v0 rfl rfl) h0
  obtain ⟨x1, F1, hR1, hU1⟩ := open_Bytes (hval 1 22 v1 rfl rfl) h1
  clear hA0 hval0
  refine (walk x0 v0 F0 hR0 hU0 x1 v1 F1 hR1 hU1 hvo W rfl).mono fun e W' ⟨he, bel⟩ => ?_
  subst he
  exact ⟨_, rfl, _, _, _, [], _, [], hW', trodAll_mk1 (shut_bool Tryz.underlying4 _), (trodAll_cons_mk (Below.trod laidOut (by kernel_rfl) (of_decide_eq_true (by kernel_rfl)) k0 bel lt0) (trodAll_cons_mk (Below.trod laidOut (by kernel_rfl) (of_decide_eq_true (by kernel_rfl)) k1 bel lt1) trodAll_mk0)), rfl, bel.frame _, fun h => by cases h⟩

theorem over : Rows.fnWorldTextRow.holds Tryz.pinned (OpenSpec.ofChange Rows.fnWorldTextSpec) :=
  OpenClaim.holds_of_wide 5 Tryz.f5 rfl rfl rfl rfl rfl rfl rfl ⟨rfl, rfl, rfl, rfl, rfl⟩ rfl rfl rfl rfl rfl (by kernel_rfl) Tryz.func5 (by kernel_rfl)
    (of_decide_eq_true (by kernel_rfl)) (by unfold Func.isWrapper; first | (rw [if_pos (by decide +kernel)]; kernel_rfl) | (rw [if_neg (by decide +kernel)]; exact ⟨rfl, rfl⟩))
    (fun os started H enc _ => lifted os started H enc)

theorem proved : Rows.FnWorldTextCardSaid :=
  Claim7.holds_tied_plain_at .later _ _ _ _ _
    over (fun _ h => by cases h) (by kernel_rfl) (fun _ h => by cases h) fnWorldText_row_tie rfl ⟨rfl, rfl⟩ (by kernel_rfl) rfl
    (fun f fn hf hfn => by
      obtain rfl : f = 5 := Option.some.inj ((show Tryz.prog.funcNamed "loop.example/matchcompiler/laws.FnWorldText" = some 5 by kernel_rfl).symm.trans hf) |>.symm
      obtain rfl : fn = Tryz.f5 := (Option.some.inj (Tryz.func5.symm.trans hfn)).symm
      exact ⟨by kernel_rfl, fun j t ht => by
        rw [Tryz.params5] at ht
        have hm : t ∈ [22, 22] := by simpa using Array.mem_of_getElem? ht
        have hall : ([22, 22].all fun u => !Tryz.prog.wantsStandIn u) = true := by kernel_rfl
        exact (show Tryz.prog.wantsStandIn t = false by simpa using List.all_eq_true.1 hall t hm)⟩)
    (by kernel_rfl)
end Go.Proofs.YtjjclcmmfeegfaaGreatDoor.fnWorldText
