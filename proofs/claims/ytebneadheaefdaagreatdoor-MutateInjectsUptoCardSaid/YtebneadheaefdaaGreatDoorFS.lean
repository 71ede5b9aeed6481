/- law34: awake. -/
import Derived.Test.YtebneadheaefdaaGreatDoorFP
import Derived.Test.YtebneadheaefdaaGreatDoorFQ
import Derived.Test.YtebneadheaefdaaGreatDoorFR
set_option linter.unusedSimpArgs false
set_option linter.unusedVariables false
set_option linter.unnecessarySimpa false
namespace Go.Proofs.YtebneadheaefdaaGreatDoor
open Go.RowKit
attribute [local go_sem ↓] Go.wp_at_zero Go.wp_at_succ
theorem smM_small:DesSmall smM:=by
 refine⟨by decide,fun s hs=>?_,fun e he=>?_,by decide⟩
 ·have hs:s∈shN:=hs
  simp[shN] at hs
  rcases hs with rfl | rfl | rfl<;>decide
 ·have:=expr_400 sm_err e he
  omega
theorem dN0:dN 0=⟨#[100,95,48]⟩:=by
 unfold dN
 rw[fmt_lt 0 (by decide)]
 rfl
theorem sm_t1:wireT ⟨#[120]⟩ (whatS 2 kConst)=⟨#[119,105,114,101,32,120,32,50,32,99,111,110,115,116,97,110,116]⟩:=by
 unfold wireT whatS
 rw[fmt_lt 2 (by decide)]
 rfl
theorem sm_t3:regT ⟨#[114]⟩ (whatS 0 kCond)=⟨#[114,101,103,32,114,32,48,32,99,111,110,100,105,116,105,111,110]⟩:=by
 unfold regT whatS
 rw[fmt_lt 0 (by decide)]
 rfl
theorem smS:mutsS smM=mutL smM:=if_pos sm_err
theorem sm_len:(mutsS smM).length=5:=by rw[smS,sm_mut];rfl
theorem sm_Sites (x:DesA) (W:World) (hF:∀ n:Int,0≤n→n≤65535→∀ V,Below W.heap.size W V→FmtC V.heap.size V n) (hG:Glob W) (hD:DesIn W smM x) :
  Calls Tryz.prog 26 #[desVal smM x] W fun r w'=>(∃ b o c,r=.returned (.tuple #[.slice (some ⟨b,o,none⟩) 5 c,.int .i64 0])∧5≤c∧w'.cell? ⟨b,o+1,none⟩=some (.string ⟨#[119,105,114,101,32,120,32,50,32,99,111,110,115,116,97,110,116]⟩)∧w'.cell? ⟨b,o+3,none⟩=some (.string ⟨#[114,101,103,32,114,32,48,32,99,111,110,100,105,116,105,111,110]⟩))∧Below W.heap.size W w':=by
 refine(sites_any smM x W hF hG hD smM_small).mono ?_
 rintro r w' ⟨⟨a,c,rfl,hS⟩,hb⟩
 have hl:((mutsS smM).map (·.2)).length=5:=by rw[List.length_map,sm_len]
 obtain⟨b,o,rfl⟩:=(SliceIn.addr hS).resolve_left (by omega)
 have hc:=hS.1
 have h1:=hS.get rfl (i:=1) (by omega)
 have h3:=hS.get rfl (i:=3) (by omega)
 have e1:((mutsS smM).map (·.2))[1]'(by omega)=⟨#[119,105,114,101,32,120,32,50,32,99,111,110,115,116,97,110,116]⟩:=by
  rw[← sm_t1]
  simp only[smS,sm_mut]
  rfl
 have e3:((mutsS smM).map (·.2))[3]'(by omega)=⟨#[114,101,103,32,114,32,48,32,99,111,110,100,105,116,105,111,110]⟩:=by
  rw[← sm_t3]
  simp only[smS,sm_mut]
  rfl
 rw[e1] at h1
 rw[e3] at h3
 rw[sm_err,hl]
 exact⟨⟨b,o,c,rfl,by omega,h1,h3⟩,hb⟩
theorem sm_Count (x:DesA) (W:World) (hF:∀ n:Int,0≤n→n≤65535→∀ V,Below W.heap.size W V→FmtC V.heap.size V n) (hG:Glob W) (hD:DesIn W smM x) :
  Calls Tryz.prog 28 #[desVal smM x] W fun r w'=>r=.returned (.tuple #[.int .i64 5,.int .i64 0])∧Below W.heap.size W w':=by
 refine(countM_any smM x W hF hG hD smM_small).mono ?_
 rintro r w' ⟨rfl,hb⟩
 rw[sm_len,sm_err]
 exact⟨rfl,hb⟩
theorem sm_at0:mutAt smM 0=(shD (dN 0) (bE 8 (vE 97) (kE 1)) iE 0,0):=by
 have hl:(0:Int)≤0∧(0:Int).toNat < (mutL smM).length:=⟨by omega,by rw[← smS,sm_len];decide⟩
 unfold mutAt
 rw[if_pos sm_err,dif_pos hl]
 have:(mutL smM)[(0:Int).toNat]'hl.2=(shD (dN 0) (bE 8 (vE 97) (kE 1)) iE 0,wireT ⟨#[120]⟩ (whatS 0 kOper)):=by
  simp only[sm_mut]
  rfl
 rw[this]
theorem sm_Mutant (x:DesA) (W:World) (hF:∀ n:Int,0≤n→n≤65535→∀ V,Below W.heap.size W V→FmtC V.heap.size V n) (hG:Glob W) (hD:DesIn W smM x) :
  Calls Tryz.prog 31 #[desVal smM x,.int .i64 0] W fun r w'=>(∃ a1 c1 bw ow cw a3 c3 a4 c4,r=.returned (.tuple #[.agg #[.string ⟨#[100,95,48]⟩,.slice a1 1 c1,.slice (some ⟨bw,ow,none⟩) 1 cw,.slice a3 1 c3,.slice a4 0 c4],.int .i64 0])∧1≤cw∧w'.cell? ⟨bw,ow+2,none⟩=some (.int .i64 8))∧Below W.heap.size W w':=by
 refine(mutant_any smM x 0 W hF hG hD smM_small).mono ?_
 rintro r w' ⟨⟨xm,bw,br,rfl,hN⟩,hb⟩
 rw[sm_at0] at hN⊢
 have hE:=NewD.des hN
 obtain⟨b,o,ha⟩:=(SliceIn.addr hE.wires).resolve_left (by show ¬ (1=0);decide)
 obtain⟨ae,ce,-,-,h2,-⟩:=hE.wires.get ha (i:=0) (by show 0 < 1;decide)
 have hc:=hE.wires.1
 refine⟨⟨xm.ai,xm.ci,b,o,xm.cw,xm.ar,xm.cr,xm.ao,xm.co,?_,hc,?_⟩,hb⟩
 ·rw[← ha,← dN0]
  rfl
 ·have e:o+0 * 6+2=o+2:=by omega
  rw[e] at h2
  exact h2
theorem sm_ri:regI smM ⟨#[114]⟩=((0:Nat):Int):=by
 unfold regI
 exact idxP_at (isReg ⟨#[114]⟩) smM.regs 0 0 (by show 0 < 1;decide) (fun i hi=>absurd hi (Nat.not_lt_zero _)) (isReg_iff.2 rfl)
theorem sm_injA:injA smM ⟨#[114]⟩ 2 1=(smJ,0):=by
 rw[injA_ok (k:=0) sm_err sm_ri (by show 0 < 1;decide) (by show ¬ ((2:Int) < 0∨(4096:Int)≤2∨(1:Int) < 0∨(4:Int)≤1);decide) (by rw[sm_inj];exact smJ_err),sm_inj]
theorem sm_Inject (x:DesA) (W:World) (hF:∀ n:Int,0≤n→n≤65535→∀ V,Below W.heap.size W V→FmtC V.heap.size V n) (hG:Glob W) (hD:DesIn W smM x) :
  Calls Tryz.prog 34 #[desVal smM x,.string ⟨#[114]⟩,.int .i64 2,.int .i64 1] W fun r w'=>(∃ a1 c1 a2 c2 br ow cr a4 c4,r=.returned (.tuple #[.agg #[.string ⟨#[100]⟩,.slice a1 1 c1,.slice a2 1 c2,.slice (some ⟨br,ow,none⟩) 2 cr,.slice a4 0 c4],.int .i64 0])∧2≤cr∧w'.cell? ⟨br,ow+7,none⟩=some (.string ⟨#[102,97,117,108,116]⟩))∧Below W.heap.size W w':=by
 refine(inject_any smM x ⟨#[114]⟩ 2 1 W hF hG hD smM_small).mono ?_
 rintro r w' ⟨⟨xm,rfl,hE⟩,hb⟩
 rw[sm_injA] at hE⊢
 obtain⟨b,o,ha⟩:=(SliceIn.addr hE.regs).resolve_left (by show ¬ (2=0);decide)
 obtain⟨ae,ce,h0,-⟩:=hE.regs.get ha (i:=1) (by show 1 < 2;decide)
 have hc:=hE.regs.1
 refine⟨⟨xm.ai,xm.ci,xm.aw,xm.cw,b,o,xm.cr,xm.ao,xm.co,?_,hc,?_⟩,hb⟩
 ·rw[← ha]
  rfl
 ·have e:o+1 * 7=o+7:=by omega
  rw[e] at h0
  exact h0
set_option maxRecDepth 100000 in
set_option maxHeartbeats 8000000 in
theorem awake34_any (w:World) (hF:∀ n:Int,0≤n→n≤65535→∀ V,Below w.heap.size w V→FmtC V.heap.size V n) (hG:Glob w) :
  Calls Tryz.prog 25 #[] w fun e w'=>e=.returned (.bool true)∧Below w.heap.size w w':=by
 have HS:Hid (∀ W,Below w.heap.size w W→Calls Tryz.prog 59 #[] W fun e w'=>(∃ x,e=.returned (desVal smM x)∧DesIn w' smM x)∧Below W.heap.size W w'):=fun W _=>sampM_any W
 have hFb:∀ W,Below w.heap.size w W→∀ n:Int,0≤n→n≤65535→∀ V,Below W.heap.size W V→FmtC V.heap.size V n:=fun W hW n h0 h1 V hV=>hF n h0 h1 V (hW.trans (hV.mono hW.size))
 have HSi:=Lib.hid (fun x W (hW:Below w.heap.size w W) hD=>sm_Sites x W (hFb W hW) (hG.below hW) hD)
 have HCt:=Lib.hid (fun x W (hW:Below w.heap.size w W) hD=>sm_Count x W (hFb W hW) (hG.below hW) hD)
 have HMu:=Lib.hid (fun x W (hW:Below w.heap.size w W) hD=>sm_Mutant x W (hFb W hW) (hG.below hW) hD)
 have HIn:=Lib.hid (fun x W (hW:Below w.heap.size w W) hD=>sm_Inject x W (hFb W hW) (hG.below hW) hD)
 have HB0:Hid (Below w.heap.size w w):=Below.refl _ _
 have hnx:∀ (s:ByteArray),(s.toList == s.toList)=true:=fun s=>by simp
 clear hF hG hFb
 go_enter Tryz.func25, Tryz.ntmps25
 go_wp2_with fail
 refine(HS.out w HB0.out).mono ?_
 rintro e w1 ⟨⟨x1,rfl,hD1⟩,hb1⟩
 have HB1:=Lib.hid hb1
 have HC1:=Lib.hid (HSi.out x1 w1 hb1 hD1)
 clear hD1 hb1
 go_wp2_with fail
 refine HC1.out.mono ?_
 rintro e w2 ⟨⟨b2,o2,c2,rfl,hc2,q1,q3⟩,hb2⟩
 have HB2:Hid (Below w.heap.size w w2):=HB1.out.trans (hb2.mono HB1.out.size)
 have HQ1:=Lib.hid q1
 have HQ3:=Lib.hid q3
 clear q1 q3 hb2 HC1
 go_wp2_with fail
 refine(HS.out w2 HB2.out).mono ?_
 rintro e w3 ⟨⟨x3,rfl,hD3⟩,hb3⟩
 have HB3:Hid (Below w.heap.size w w3):=HB2.out.trans (hb3.mono HB2.out.size)
 have HC3:=Lib.hid (HCt.out x3 w3 HB3.out hD3)
 have HB23:=Lib.hid hb3
 clear hD3 hb3
 go_wp2_with fail
 refine HC3.out.mono ?_
 rintro e w4 ⟨rfl,hb4⟩
 have HB24:Hid (Below w2.heap.size w2 w4):=HB23.out.trans (hb4.mono HB23.out.size)
 have HB4:Hid (Below w.heap.size w w4):=HB2.out.trans (HB24.out.mono HB2.out.size)
 clear hb4 HC3 HB23
 go_wp2_with fail
 refine(HS.out w4 HB4.out).mono ?_
 rintro e w5 ⟨⟨x5,rfl,hD5⟩,hb5⟩
 have HB25:Hid (Below w2.heap.size w2 w5):=HB24.out.trans (hb5.mono HB24.out.size)
 have HB5:Hid (Below w.heap.size w w5):=HB2.out.trans (HB25.out.mono HB2.out.size)
 have HC5:=Lib.hid (HMu.out x5 w5 HB5.out hD5)
 clear hD5 hb5
 go_wp2_with fail
 refine HC5.out.mono ?_
 rintro e w6 ⟨⟨a61,c61,b6,o6,c6,a63,c63,a64,c64,rfl,hc6,q6⟩,hb6⟩
 have HB26:Hid (Below w2.heap.size w2 w6):=HB25.out.trans (hb6.mono HB25.out.size)
 have HQ6:=Lib.hid q6
 clear q6 hb6 HC5
 go_upto_region 4 with fail
 generalize hW7:w6.alloc (.cells #[.string ⟨#[100,95,48]⟩,.slice a61 1 c61,.slice (some ⟨b6,o6,none⟩) 1 c6,.slice a63 1 c63,.slice a64 0 c64] 27)=W7
 have hz7:w6.heap.size+1≤W7.heap.size:=by rw[← hW7];simp
 have HB67:Hid (Below w6.heap.size w6 W7):=by show Below _ _ _;rw[← hW7];exact belr
 have HX7:Hid (W7.heap[w6.heap.size]? = some (.cells #[.string ⟨#[100,95,48]⟩,.slice a61 1 c61,.slice (some ⟨b6,o6,none⟩) 1 c6,.slice a63 1 c63,.slice a64 0 c64] 27 (0,0))):=by
  show _=_;rw[← hW7]
  exact hx_new rfl
 clear hW7
 have HB7:Hid (Below w.heap.size w W7):=HB2.out.trans ((HB26.out.trans (HB67.out.mono HB26.out.size)).mono HB2.out.size)
 go_wp2_with fail
 refine(HS.out W7 HB7.out).mono ?_
 rintro e w8 ⟨⟨x8,rfl,hD8⟩,hb8⟩
 have HB8:Hid (Below w.heap.size w w8):=HB7.out.trans (hb8.mono HB7.out.size)
 have HB78:=Lib.hid hb8
 have HC8:=Lib.hid (HIn.out x8 w8 HB8.out hD8)
 clear hD8 hb8
 go_wp2_with fail
 refine HC8.out.mono ?_
 rintro e w9 ⟨⟨a91,c91,a92,c92,b9,o9,c9,a94,c94,rfl,hc9,q9⟩,hb9⟩
 have HB79:Hid (Below W7.heap.size W7 w9):=HB78.out.trans (hb9.mono HB78.out.size)
 have HB69:Hid (Below w6.heap.size w6 w9):=HB67.out.trans (HB79.out.mono (by omega))
 have HB29:Hid (Below w2.heap.size w2 w9):=HB26.out.trans (HB69.out.mono HB26.out.size)
 have HB9:Hid (Below w.heap.size w w9):=HB2.out.trans (HB29.out.mono HB2.out.size)
 have q1:=keeps_of_below HB29.out _ _ HQ1.out
 have q3:=keeps_of_below HB29.out _ _ HQ3.out
 have q6:=keeps_of_below HB69.out _ _ HQ6.out
 obtain⟨m0,m1,m2,m3,m4,_⟩:=cell5 (hx_below HB79.out HX7.out)
 have A1:=fun o=>keeps_of_below ((Below.refl w9.heap.size w9).alloc (Nat.le_refl _) o) _ _ q1
 have A3:=fun o=>keeps_of_below ((Below.refl w9.heap.size w9).alloc (Nat.le_refl _) o) _ _ q3
 have A6:=fun o=>keeps_of_below ((Below.refl w9.heap.size w9).alloc (Nat.le_refl _) o) _ _ q6
 have A9:=fun o=>keeps_of_below ((Below.refl w9.heap.size w9).alloc (Nat.le_refl _) o) _ _ q9
 have M0:=fun o=>keeps_of_below ((Below.refl w9.heap.size w9).alloc (Nat.le_refl _) o) _ _ m0
 have M2:=fun o=>keeps_of_below ((Below.refl w9.heap.size w9).alloc (Nat.le_refl _) o) _ _ m2
 clear hb9 HC8
 go_wp2_with fail
 go_ret
 exact⟨rfl,HB9.out.alloc HB9.out.size _⟩
end Go.Proofs.YtebneadheaefdaaGreatDoor
namespace Go.Proofs.YtebneadheaefdaaGreatDoor
open Go.RowKit
theorem fmC_of {w:World} (hT:Lib.TabIs Tryz.prog w "internal/strconv.uint64pow10" .u64 Lib.pow10Tab):FmC w:=fun n h0 h1 W hW =>
 fmt_any W (Go.Joins.tab_stays (g:=1) (by kernel_rfl) hT hW (Nat.le_refl _)) n h0 h1
theorem awC_of {w:World} (hG:Glob w) (hT:Lib.TabIs Tryz.prog w "internal/strconv.uint64pow10" .u64 Lib.pow10Tab):AwC w:=fun W hW=>awake34_any W ((fmC_of hT).below hW) (hG.below hW)
end Go.Proofs.YtebneadheaefdaaGreatDoor
