/- law34: texts, column, few. -/
import Derived.Test.YtebneadheaefdaaGreatDoorDL
import Derived.Test.YtebneadheaefdaaGreatDoorEO
import Derived.Test.YtebneadheaefdaaGreatDoorFE
import Derived.Test.YtebneadheaefdaaGreatDoorFM
import Derived.Test.YtebneadheaefdaaGreatDoorES
set_option linter.unusedSimpArgs false
set_option linter.unusedVariables false
set_option linter.unnecessarySimpa false
namespace Go.Proofs.YtebneadheaefdaaGreatDoor
open Go.RowKit
attribute [local go_sem ↓] Go.wp_at_zero Go.wp_at_succ
theorem texts34_any (l:List ByteArray) (a b:Option Addr) (ca cb:Nat) (w:World) (hA:StrsIn w l a ca) (hB:StrsIn w l b cb) :
  Calls Tryz.prog 30 #[.slice a l.length ca,.slice b l.length cb] w fun e w'=>e=.returned (.bool true)∧Below w.heap.size w w':=by
 have hlen:=hA.2.1
 have HA:=Lib.hid (SliceIn.addr hA)
 have HE:=Lib.hid hA
 have HB:=Lib.hid (SliceIn.addr hB)
 have HF:=Lib.hid hB
 clear hA hB
 go_enter Tryz.func30, Tryz.ntmps30
 go_wp2_with fail
 go_loopw [5] (fun i wr=>∃ k:Nat,i=.int .i64 k∧k≤l.length∧Hid (Below w.heap.size w wr)) (fun i _=>l.length - (intOf i).toNat)
 case atStart=>exact⟨0,rfl,Nat.zero_le _,Below.refl _ _⟩
 case round =>
  obtain⟨k,rfl,hk,HBr⟩:=hrel
  by_cases hlt:k < l.length
  ·obtain⟨b1,o1,ha⟩:=HA.out.resolve_left (by omega)
   obtain⟨b2,o2,hb⟩:=HB.out.resolve_left (by omega)
   subst ha hb
   have c0:=(keeps_of_below HBr.out) _ _ (HE.out.get rfl hlt)
   have c1:=(keeps_of_below HBr.out) _ _ (HF.out.get rfl hlt)
   generalize (l[k]'hlt)=s at c0 c1
   go_wp2_with fail
   go_region
   all_goals
    go_wp2_with fail
    go_roundw
    case rel=>exact⟨k+1,by go_num,by omega,Below.drew HBr.out⟩
    case measure=>(simp[intOf];try omega)
  ·obtain rfl:k=l.length:=by omega
   go_wp2_with fail
   go_ret
   exact⟨rfl,HBr.out⟩
noncomputable def fewM (d:DesD):Bool:=decide (d.inputs.length+d.wires.length+d.regs.length≤12) && smallS d
set_option maxRecDepth 100000 in
set_option maxHeartbeats 4000000 in
theorem few34_any (d:DesD) (x:DesA) (w:World) (hE:DesIn w d x) (hs:DesSmall d) :
  Calls Tryz.prog 24 #[desVal d x] w (BoolIs (fewM d) w):=by
 have HS:=Lib.hid (fun W (hW:Below w.heap.size w W)=>Small_ex d x W (hE.below hW) hs)
 have hl:=hs.len
 unfold BoolIs at HS
 have HP:Hid (∀ b W,b=fewM d→Below w.heap.size w W→BoolIs (fewM d) w (.returned (.bool b)) W):=fun b W e h=>⟨by rw[e],h⟩
 have HF0:Hid (¬ d.inputs.length+d.wires.length+d.regs.length≤12→false=fewM d):=fun h=>by unfold fewM;rw[decide_eq_false h];rfl
 have HF1:Hid (d.inputs.length+d.wires.length+d.regs.length≤12→smallS d=fewM d):=fun h=>by unfold fewM;rw[decide_eq_true h];rfl
 clear hE hs
 generalize BoolIs (fewM d) w=Po at HP⊢
 generalize fewM d=fb at HP HF0 HF1
 generalize smallS d=sb at HS HF1
 simp only[desVal,desVals] at HS⊢
 obtain⟨l1,l2,l3,l4⟩:=hl
 by_cases hq:d.inputs.length+d.wires.length+d.regs.length≤12
 ·have d0:decide ((d.inputs.length:Int)+d.wires.length+d.regs.length≤12)=true:=decide_eq_true (by omega)
  have HF:=Lib.hid (HF1.out hq)
  go_enter Tryz.func24, Tryz.ntmps24
  go_wp2_with (go_at_call 38;go_must (refine(HS.out _ bel).mono ?_;rintro r w2 ⟨rfl,hb2⟩;have HBx:Hid (Below w.heap.size w w2):=Below.trans bel (hb2.mono sz);clear hb2))
  first | exact HP.out _ _ HF.out HBx.out | (go_ret;exact HP.out _ _ HF.out HBx.out)
 ·have d0:decide ((d.inputs.length:Int)+d.wires.length+d.regs.length≤12)=false:=decide_eq_false (by omega)
  have HF:=Lib.hid (HF0.out hq)
  go_enter Tryz.func24, Tryz.ntmps24
  go_wp2_with fail
  first | exact HP.out _ _ HF.out bel | (go_ret;exact HP.out _ _ HF.out bel)
end Go.Proofs.YtebneadheaefdaaGreatDoor
namespace Go.Proofs.YtebneadheaefdaaGreatDoor
open Go.RowKit
attribute [local go_sem ↓] Go.wp_at_zero Go.wp_at_succ
def AwC (w:World):Prop:=∀ W,Below w.heap.size w W→Calls Tryz.prog 25 #[] W fun e w'=>e=.returned (.bool true)∧Below W.heap.size W w'
def FmC (w:World):Prop:=∀ n:Int,0≤n→n≤65535→∀ W,Below w.heap.size w W→FmtC W.heap.size W n
theorem FmC.below {w W:World} (h:FmC w) (hW:Below w.heap.size w W):FmC W:=fun n h0 h1 V hV=>h n h0 h1 V (hW.trans (hV.mono hW.size))
set_option maxRecDepth 100000 in
set_option maxHeartbeats 8000000 in
theorem MutateSites_of (d:DesD) (x:DesA) (w:World) (hE:DesIn w d x) (hs:DesSmall d) (hG:Glob w) (hF:FmC w) (hAw:AwC w) :
  Calls Tryz.prog 5 #[desVal d x] w fun e w'=>e=.returned (.bool true)∧Below w.heap.size w w':=by
 have HFw:=Lib.hid (fun W (hW:Below w.heap.size w W)=>few34_any d x W (hE.below hW) hs)
 have HAw:=Lib.hid hAw
 unfold BoolIs at HFw
 unfold AwC at HAw
 have HS1:=Lib.hid (fun W (hW:Below w.heap.size w W)=>sites_any d x W (hF.below hW) (hG.below hW) (hE.below hW) hs)
 have HS2:=Lib.hid (fun W (hW:Below w.heap.size w W)=>rsites_any d x W (hE.below hW) hs)
 have HC1:=Lib.hid (fun W (hW:Below w.heap.size w W)=>countM_any d x W (hF.below hW) (hG.below hW) (hE.below hW) hs)
 have HC2:=Lib.hid (fun W (hW:Below w.heap.size w W)=>rcount_any d x W (hE.below hW) hs)
 have HT:=Lib.hid (fun l a b ca cb W hA hB=>texts34_any l a b ca cb W hA hB)
 unfold SitesPost at HS1 HS2
 clear hE hs hG hF hAw
 generalize (mutsS d).map (·.2)=SL at HS1 HS2
 generalize (mutsS d).length=nl at HC1 HC2
 generalize d.err=er at HS1 HS2 HC1 HC2
 have hee:(er == er)=true:=by simp
 have hnn:(((nl:Nat):Int) == ((nl:Nat):Int))=true:=by simp
 generalize fewM d=fb at HFw
 simp only[desVal,desVals] at HFw HS1 HS2 HC1 HC2⊢
 go_enter Tryz.func5, Tryz.ntmps5
 go_wp2_with fail
 generalize hW1:w.alloc (.cells #[.string d.name,.slice x.ai d.inputs.length x.ci,.slice x.aw d.wires.length x.cw,.slice x.ar d.regs.length x.cr,.slice x.ao d.outputs.length x.co] 27)=W1
 have hz1:w.heap.size+1≤W1.heap.size:=by rw[← hW1];simp
 have HB1:Hid (Below w.heap.size w W1):=by show Below _ _ _;rw[← hW1];exact belr
 have HX1:Hid (W1.heap[w.heap.size]? = some (.cells #[.string d.name,.slice x.ai d.inputs.length x.ci,.slice x.aw d.wires.length x.cw,.slice x.ar d.regs.length x.cr,.slice x.ao d.outputs.length x.co] 27 (0,0))):=by
  show _=_;rw[← hW1]
  exact hx_new rfl
 clear hW1
 have HBX:Hid (∀ W,Below W1.heap.size W1 W→W.cell? ⟨w.heap.size,0,none⟩=some (.string d.name)∧W.cell? ⟨w.heap.size,1,none⟩=some (.slice x.ai d.inputs.length x.ci)∧W.cell? ⟨w.heap.size,2,none⟩=some (.slice x.aw d.wires.length x.cw)∧W.cell? ⟨w.heap.size,3,none⟩=some (.slice x.ar d.regs.length x.cr)∧W.cell? ⟨w.heap.size,4,none⟩=some (.slice x.ao d.outputs.length x.co)):=fun W h=>by
  obtain⟨b0,b1,b2,b3,b4,_⟩:=cell5 (hx_below h HX1.out)
  exact⟨b0,b1,b2,b3,b4⟩
 refine(HFw.out W1 HB1.out).mono ?_
 rintro r w2 ⟨rfl,hb2⟩
 have HB2:=Lib.hid hb2
 have HW2:Hid (Below w.heap.size w w2):=HB1.out.trans (hb2.mono (by omega))
 clear hb2
 cases fb
 ·go_wp2_with fail
  refine(HAw.out w2 HW2.out).mono ?_
  rintro r w3 ⟨rfl,hb3⟩
  have HW3:Hid (Below w.heap.size w w3):=HW2.out.trans (hb3.mono HW2.out.size)
  clear hb3
  go_wp2_with fail
  go_ret
  exact⟨rfl,HW3.out⟩
 ·obtain⟨b0,b1,b2,b3,b4⟩:=HBX.out _ HB2.out
  go_wp2_with fail
  refine(HS1.out w2 HW2.out).mono ?_
  rintro r w3 ⟨⟨a3,c3,rfl,hS3⟩,hb3⟩
  have HB3:Hid (Below W1.heap.size W1 w3):=HB2.out.trans (hb3.mono HB2.out.size)
  have HW3:Hid (Below w.heap.size w w3):=HW2.out.trans (hb3.mono HW2.out.size)
  have HS3:=Lib.hid hS3
  clear hS3
  clear hb3 b0 b1 b2 b3 b4
  obtain⟨b0,b1,b2,b3,b4⟩:=HBX.out _ HB3.out
  go_wp2_with fail
  refine(HS2.out w3 HW3.out).mono ?_
  rintro r w4 ⟨⟨a4,c4,rfl,hS4⟩,hb4⟩
  have HB4:Hid (Below W1.heap.size W1 w4):=HB3.out.trans (hb4.mono HB3.out.size)
  have HW4:Hid (Below w.heap.size w w4):=HW3.out.trans (hb4.mono HW3.out.size)
  have HS4:=Lib.hid hS4
  have HS3:=Lib.hid (HS3.out.keep (keeps_of_below hb4))
  clear hS4
  clear hb4 b0 b1 b2 b3 b4
  obtain⟨b0,b1,b2,b3,b4⟩:=HBX.out _ HB4.out
  go_wp2_with fail
  refine(HC1.out w4 HW4.out).mono ?_
  rintro r w5 ⟨rfl,hb5⟩
  have HB5:Hid (Below W1.heap.size W1 w5):=HB4.out.trans (hb5.mono HB4.out.size)
  have HW5:Hid (Below w.heap.size w w5):=HW4.out.trans (hb5.mono HW4.out.size)
  have HS4:=Lib.hid (HS4.out.keep (keeps_of_below hb5))
  have HS3:=Lib.hid (HS3.out.keep (keeps_of_below hb5))
  clear hb5 b0 b1 b2 b3 b4
  obtain⟨b0,b1,b2,b3,b4⟩:=HBX.out _ HB5.out
  go_wp2_with fail
  refine(HC2.out w5 HW5.out).mono ?_
  rintro r w6 ⟨rfl,hb6⟩
  have HB6:Hid (Below W1.heap.size W1 w6):=HB5.out.trans (hb6.mono HB5.out.size)
  have HW6:Hid (Below w.heap.size w w6):=HW5.out.trans (hb6.mono HW5.out.size)
  have HS4:=Lib.hid (HS4.out.keep (keeps_of_below hb6))
  have HS3:=Lib.hid (HS3.out.keep (keeps_of_below hb6))
  clear hb6 b0 b1 b2 b3 b4
  obtain⟨b0,b1,b2,b3,b4⟩:=HBX.out _ HB6.out
  go_wp2_with fail
  refine(HT.out SL a3 a4 c3 c4 w6 HS3.out HS4.out).mono ?_
  rintro r w7 ⟨rfl,hb7⟩
  have HB7:Hid (Below W1.heap.size W1 w7):=HB6.out.trans (hb7.mono HB6.out.size)
  have HW7:Hid (Below w.heap.size w w7):=HW6.out.trans (hb7.mono HW6.out.size)
  clear hb7 b0 b1 b2 b3 b4
  obtain⟨b0,b1,b2,b3,b4⟩:=HBX.out _ HB7.out
  go_wp2_with fail
  refine(HAw.out w7 HW7.out).mono ?_
  rintro r w8 ⟨rfl,hb8⟩
  have HW8:Hid (Below w.heap.size w w8):=HW7.out.trans (hb8.mono HW7.out.size)
  clear hb8
  go_wp2_with fail
  go_ret
  exact⟨rfl,HW8.out⟩
set_option maxRecDepth 100000 in
set_option maxHeartbeats 8000000 in
theorem MutateMutants_of (d:DesD) (x:DesA) (k:Int) (w:World) (hE:DesIn w d x) (hs:DesSmall d) (hG:Glob w) (hF:FmC w) (hAw:AwC w) :
  Calls Tryz.prog 6 #[desVal d x,.int .i64 k] w fun e w'=>e=.returned (.bool true)∧Below w.heap.size w w':=by
 have HFw:=Lib.hid (fun W (hW:Below w.heap.size w W)=>few34_any d x W (hE.below hW) hs)
 have HAw:=Lib.hid hAw
 unfold BoolIs at HFw
 unfold AwC at HAw
 have HM1:=Lib.hid (fun W (hW:Below w.heap.size w W)=>mutant_any d x k W (hF.below hW) (hG.below hW) (hE.below hW) hs)
 have HM2:=Lib.hid (fun W (hW:Below w.heap.size w W)=>rmutant_any d x k W (hE.below hW) hs)
 have HEq:=Lib.hid (fun a y z W h1 h2=>same31_any a a y z W h1 h2)
 unfold MtPost at HM1
 unfold RMtPost at HM2
 unfold BoolIs at HEq
 clear hE hs hG hF hAw
 generalize (mutAt d k).1=dm at HM1 HM2
 generalize (mutAt d k).2=er at HM1 HM2
 have hee:(er == er)=true:=by simp
 generalize fewM d=fb at HFw
 simp only[desVal,desVals] at HFw HM1 HM2⊢
 go_enter Tryz.func6, Tryz.ntmps6
 go_wp2_with fail
 generalize hW1:w.alloc (.cells #[.string d.name,.slice x.ai d.inputs.length x.ci,.slice x.aw d.wires.length x.cw,.slice x.ar d.regs.length x.cr,.slice x.ao d.outputs.length x.co] 27)=W1
 have hz1:w.heap.size+1≤W1.heap.size:=by rw[← hW1];simp
 have HB1:Hid (Below w.heap.size w W1):=by show Below _ _ _;rw[← hW1];exact belr
 have HX1:Hid (W1.heap[w.heap.size]? = some (.cells #[.string d.name,.slice x.ai d.inputs.length x.ci,.slice x.aw d.wires.length x.cw,.slice x.ar d.regs.length x.cr,.slice x.ao d.outputs.length x.co] 27 (0,0))):=by
  show _=_;rw[← hW1]
  exact hx_new rfl
 clear hW1
 have HBX:Hid (∀ W,Below W1.heap.size W1 W→W.cell? ⟨w.heap.size,0,none⟩=some (.string d.name)∧W.cell? ⟨w.heap.size,1,none⟩=some (.slice x.ai d.inputs.length x.ci)∧W.cell? ⟨w.heap.size,2,none⟩=some (.slice x.aw d.wires.length x.cw)∧W.cell? ⟨w.heap.size,3,none⟩=some (.slice x.ar d.regs.length x.cr)∧W.cell? ⟨w.heap.size,4,none⟩=some (.slice x.ao d.outputs.length x.co)):=fun W h=>by
  obtain⟨b0,b1,b2,b3,b4,_⟩:=cell5 (hx_below h HX1.out)
  exact⟨b0,b1,b2,b3,b4⟩
 refine(HFw.out W1 HB1.out).mono ?_
 rintro r w2 ⟨rfl,hb2⟩
 have HB2:=Lib.hid hb2
 have HW2:Hid (Below w.heap.size w w2):=HB1.out.trans (hb2.mono (by omega))
 clear hb2
 cases fb
 ·go_wp2_with fail
  refine(HAw.out w2 HW2.out).mono ?_
  rintro r w3 ⟨rfl,hb3⟩
  have HW3:Hid (Below w.heap.size w w3):=HW2.out.trans (hb3.mono HW2.out.size)
  clear hb3
  go_wp2_with fail
  go_ret
  exact⟨rfl,HW3.out⟩
 ·obtain⟨b0,b1,b2,b3,b4⟩:=HBX.out _ HB2.out
  go_wp2_with fail
  refine(HM1.out w2 HW2.out).mono ?_
  rintro r w3 ⟨⟨y,bw,br,rfl,hN3⟩,hb3⟩
  have HB3:Hid (Below W1.heap.size W1 w3):=HB2.out.trans (hb3.mono HB2.out.size)
  have HW3:Hid (Below w.heap.size w w3):=HW2.out.trans (hb3.mono HW2.out.size)
  have HY3:=Lib.hid (NewD.des hN3)
  clear hb3 hN3 b0 b1 b2 b3 b4
  go_upto_region 4 with fail
  generalize hW4:w3.alloc (.cells #[.string dm.name,.slice y.ai dm.inputs.length y.ci,.slice y.aw dm.wires.length y.cw,.slice y.ar dm.regs.length y.cr,.slice y.ao dm.outputs.length y.co] 27)=W4
  have hz4:w3.heap.size+1≤W4.heap.size:=by rw[← hW4];simp
  have HB34:Hid (Below w3.heap.size w3 W4):=by show Below _ _ _;rw[← hW4];exact belr
  have HX4:Hid (W4.heap[w3.heap.size]? = some (.cells #[.string dm.name,.slice y.ai dm.inputs.length y.ci,.slice y.aw dm.wires.length y.cw,.slice y.ar dm.regs.length y.cr,.slice y.ao dm.outputs.length y.co] 27 (0,0))):=by
   show _=_;rw[← hW4]
   exact hx_new rfl
  clear hW4
  have HB4:Hid (Below W1.heap.size W1 W4):=HB3.out.trans (HB34.out.mono HB3.out.size)
  have HW4:Hid (Below w.heap.size w W4):=HW3.out.trans (HB34.out.mono HW3.out.size)
  obtain⟨b0,b1,b2,b3,b4⟩:=HBX.out _ HB4.out
  go_wp2_with fail
  refine(HM2.out W4 HW4.out).mono ?_
  rintro r w5 ⟨⟨z,rfl,hZ5⟩,hb5⟩
  have HW5:Hid (Below w.heap.size w w5):=HW4.out.trans (hb5.mono HW4.out.size)
  have HX5:=Lib.hid (hx_below hb5 HX4.out)
  have HY5:=Lib.hid ((HY3.out.below HB34.out).below hb5)
  have HZ5:=Lib.hid hZ5
  clear hb5 hZ5 b0 b1 b2 b3 b4
  go_upto_region 5 with fail
  generalize hW6:w5.alloc (.cells #[.string dm.name,.slice z.ai dm.inputs.length z.ci,.slice z.aw dm.wires.length z.cw,.slice z.ar dm.regs.length z.cr,.slice z.ao dm.outputs.length z.co] 27)=W6
  have HB56:Hid (Below w5.heap.size w5 W6):=by show Below _ _ _;rw[← hW6];exact belr
  have HX6:Hid (W6.heap[w5.heap.size]? = some (.cells #[.string dm.name,.slice z.ai dm.inputs.length z.ci,.slice z.aw dm.wires.length z.cw,.slice z.ar dm.regs.length z.cr,.slice z.ao dm.outputs.length z.co] 27 (0,0))):=by
   show _=_;rw[← hW6]
   exact hx_new rfl
  clear hW6
  have HW6:Hid (Below w.heap.size w W6):=HW5.out.trans (HB56.out.mono HW5.out.size)
  have HEq6:=Lib.hid (HEq.out dm y z W6 (HY5.out.below HB56.out) (HZ5.out.below HB56.out))
  obtain⟨p0,p1,p2,p3,p4,_⟩:=cell5 (hx_below HB56.out HX5.out)
  obtain⟨q0,q1,q2,q3,q4,_⟩:=cell5 HX6.out
  rw[show pB True=true from pB_true trivial] at HEq6
  simp only[desVal,desVals] at HEq6
  go_wp2_with fail
  refine HEq6.out.mono ?_
  rintro r w7 ⟨rfl,hb7⟩
  have HW7:Hid (Below w.heap.size w w7):=HW6.out.trans (hb7.mono HW6.out.size)
  clear hb7
  go_wp2_with fail
  refine(HAw.out w7 HW7.out).mono ?_
  rintro r w8 ⟨rfl,hb8⟩
  have HW8:Hid (Below w.heap.size w w8):=HW7.out.trans (hb8.mono HW7.out.size)
  clear hb8
  go_wp2_with fail
  go_ret
  exact⟨rfl,HW8.out⟩
end Go.Proofs.YtebneadheaefdaaGreatDoor
