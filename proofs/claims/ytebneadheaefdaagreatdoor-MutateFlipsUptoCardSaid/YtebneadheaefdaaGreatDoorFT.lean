/- law34, plain: the facts of MutateFlips. -/
import Derived.Test.YtebneadheaefdaaGreatDoorDB
import Derived.Test.YtebneadheaefdaaGreatDoorFP
import Derived.Test.YtebneadheaefdaaGreatDoorFQ
import Derived.Test.YtebneadheaefdaaGreatDoorFR
import Derived.Test.YtebneadheaefdaaGreatDoorFO
import Derived.Test.YtebneadheaefdaaGreatDoorDX
import Derived.Test.YtebneadheaefdaaGreatDoorEP
import Derived.Test.YtebneadheaefdaaGreatDoorDR
set_option linter.unusedSimpArgs false
set_option linter.unusedVariables false
set_option linter.unnecessarySimpa false
namespace Go.Proofs.YtebneadheaefdaaGreatDoor
def FitsAll (ws:List Int) (env:Sigs):Prop:=env.length=ws.length∧∀ i (h:i < env.length) (h':i < ws.length),1≤ws[i]'h'∧ws[i]'h'≤16∧0≤(env[i]'h).2∧(env[i]'h).2 < 2 ^ (ws[i]'h').toNat
theorem FitsAll.set {ws:List Int} {env:Sigs} (h:FitsAll ws env) {k:Nat} {s:ByteArray} {v:Int} (hv:∀ (h':k < ws.length),0≤v∧v < 2 ^ (ws[k]'h').toNat):FitsAll ws (env.set k (s,v)):=by
 refine⟨by rw[List.length_set];exact h.1,fun i hi hi'=>?_⟩
 rw[List.length_set] at hi
 have h0:=h.2 i hi hi'
 rw[List.getElem_set]
 split
 ·rename_i e
  subst e
  exact⟨h0.1,h0.2.1,hv hi'⟩
 ·exact h0
theorem pow_pos2 (w:Int):(0:Int) < 2 ^ w.toNat:=Int.pow_pos (by decide)
theorem FitsAll.append {w1 w2:List Int} {e1 e2:Sigs} (h1:FitsAll w1 e1) (h2:FitsAll w2 e2):FitsAll (w1++w2) (e1++e2):=by
 refine⟨by rw[List.length_append,List.length_append,h1.1,h2.1],fun i hi hi'=>?_⟩
 by_cases hlt:i < e1.length
 ·rw[List.getElem_append_left hlt,List.getElem_append_left (by rw[← h1.1];exact hlt)]
  exact h1.2 i hlt (by rw[← h1.1];exact hlt)
 ·have hw:w1.length≤i:=by rw[← h1.1];omega
  have e:i - e1.length=i - w1.length:=by rw[h1.1]
  have hl2:i - e1.length < e2.length:=by rw[List.length_append] at hi;omega
  have hl3:i - e1.length < w2.length:=by rw[← h2.1];exact hl2
  have hl4:i - w1.length < w2.length:=by rw[← e];exact hl3
  have g1:(e1++e2)[i]'hi=e2[i - e1.length]'hl2:=List.getElem_append_right (by omega)
  have g2:(w1++w2)[i]'hi'=w2[i - e1.length]'hl3:=by
   rw[List.getElem_append_right hw]
   simp only[e]
  rw[g1,g2]
  exact h2.2 (i - e1.length) hl2 hl3
theorem fits_map {α:Type} (l:List α) (f:α→ByteArray × Int) (g:α→Int) (h:∀ a∈l,1≤g a∧g a≤16∧0≤(f a).2∧(f a).2 < 2 ^ (g a).toNat):FitsAll (l.map g) (l.map f):=by
 refine⟨by simp,fun i hi hi'=>?_⟩
 simp only[List.getElem_map]
 exact h _ (List.getElem_mem _)
theorem inputV_fits {d:DesD} (hd:DesOk d) {p:PortD} (hp:p∈d.inputs) (inp:Sigs):0≤inputV p inp∧inputV p inp < 2 ^ p.width.toNat:=by
 unfold inputV
 split
 ·exact⟨cutW_lo _ _,cutW_hi _ _⟩
 ·exact⟨Int.le_refl _,pow_pos2 _⟩
theorem start_fits {d:DesD} {st:List Int} (inp:Sigs) (hd:DesOk d) (h:d.stateB st=true):FitsAll d.widths (startS d st inp):=by
 obtain⟨hl,hst⟩:=stateB_iff.1 h
 unfold startS DesD.widths
 refine FitsAll.append (FitsAll.append ?_ ?_) ?_
 ·exact fits_map _ _ _ fun p hp=>⟨(input_width hd hp).1,(input_width hd hp).2,inputV_fits hd hp inp⟩
 ·exact fits_map _ _ _ fun p hp=>⟨(wire_width hd hp).1,(wire_width hd hp).2,Int.le_refl _,pow_pos2 _⟩
 ·unfold DesD.sts
  refine⟨by simp[hl],fun i hi hi'=>?_⟩
  have h1:i < d.regs.length:=by simpa using hi'
  have:=hst i h1 (by omega)
  simp only[List.getElem_zipWith,List.getElem_map]
  exact this
theorem settle_fits {d:DesD} {st:List Int} (inp:Sigs) (hd:DesOk d) (h:d.stateB st=true):FitsAll d.widths (settleS d st inp):=by
 unfold settleS
 have hlt:=order_lt d
 generalize d.order=os at hlt
 have h0:=start_fits inp hd h
 generalize startS d st inp=env at h0
 unfold prgE
 induction os generalizing env with
 | nil=>exact h0
 | cons i os ih =>
  rw[List.foldl_cons]
  refine ih (fun j hj=>hlt j (List.mem_cons_of_mem _ hj)) _ (h0.set fun hk=>?_)
  have hi:=hlt i List.mem_cons_self
  rw[wireV_at hi]
  have hw:d.widths[d.inputs.length+i]'hk=(d.wires[i]'hi).width:=by
   have h1:d.widths[d.inputs.length+i]? = some (d.wires[i]'hi).width:=by
    unfold DesD.widths
    rw[List.append_assoc,List.getElem?_append_right (by simp),List.getElem?_append_left (by simp;omega)]
    simp[hi]
   rw[List.getElem?_eq_getElem hk] at h1
   exact Option.some.inj h1
  rw[hw]
  exact⟨cutW_lo _ _,cutW_hi _ _⟩
end Go.Proofs.YtebneadheaefdaaGreatDoor
namespace Go.Proofs.YtebneadheaefdaaGreatDoor
open Go.RowKit
attribute [local go_sem ↓] Go.wp_at_zero Go.wp_at_succ
theorem smM_small:DesSmall smM:=by
 refine⟨by decide,fun s hs=>?_,fun e he=>?_,by decide⟩
 ·have hs:s∈shN:=hs
  simp[shN] at hs
  rcases hs with rfl | rfl | rfl<;>decide
 ·have:=expr_400 sm_err e he
  omega
theorem dN0:dN 0=⟨#[100,95,48]⟩:=by
 unfold dN
 rw[fmt_lt 0 (by decide)]
 rfl
theorem sm_t1:wireT ⟨#[120]⟩ (whatS 2 kConst)=⟨#[119,105,114,101,32,120,32,50,32,99,111,110,115,116,97,110,116]⟩:=by
 unfold wireT whatS
 rw[fmt_lt 2 (by decide)]
 rfl
theorem sm_t3:regT ⟨#[114]⟩ (whatS 0 kCond)=⟨#[114,101,103,32,114,32,48,32,99,111,110,100,105,116,105,111,110]⟩:=by
 unfold regT whatS
 rw[fmt_lt 0 (by decide)]
 rfl
theorem smS:mutsS smM=mutL smM:=if_pos sm_err
theorem sm_len:(mutsS smM).length=5:=by rw[smS,sm_mut];rfl
theorem sm_Sites (x:DesA) (W:World) (hF:∀ n:Int,0≤n→n≤65535→∀ V,Below W.heap.size W V→FmtC V.heap.size V n) (hG:Glob W) (hD:DesIn W smM x) :
  Calls Tryz.prog 26 #[desVal smM x] W fun r w'=>(∃ b o c,r=.returned (.tuple #[.slice (some ⟨b,o,none⟩) 5 c,.int .i64 0])∧5≤c∧w'.cell? ⟨b,o+1,none⟩=some (.string ⟨#[119,105,114,101,32,120,32,50,32,99,111,110,115,116,97,110,116]⟩)∧w'.cell? ⟨b,o+3,none⟩=some (.string ⟨#[114,101,103,32,114,32,48,32,99,111,110,100,105,116,105,111,110]⟩))∧Below W.heap.size W w':=by
 refine(sites_any smM x W hF hG hD smM_small).mono ?_
 rintro r w' ⟨⟨a,c,rfl,hS⟩,hb⟩
 have hl:((mutsS smM).map (·.2)).length=5:=by rw[List.length_map,sm_len]
 obtain⟨b,o,rfl⟩:=(SliceIn.addr hS).resolve_left (by omega)
 have hc:=hS.1
 have h1:=hS.get rfl (i:=1) (by omega)
 have h3:=hS.get rfl (i:=3) (by omega)
 have e1:((mutsS smM).map (·.2))[1]'(by omega)=⟨#[119,105,114,101,32,120,32,50,32,99,111,110,115,116,97,110,116]⟩:=by
  rw[← sm_t1]
  simp only[smS,sm_mut]
  rfl
 have e3:((mutsS smM).map (·.2))[3]'(by omega)=⟨#[114,101,103,32,114,32,48,32,99,111,110,100,105,116,105,111,110]⟩:=by
  rw[← sm_t3]
  simp only[smS,sm_mut]
  rfl
 rw[e1] at h1
 rw[e3] at h3
 rw[sm_err,hl]
 exact⟨⟨b,o,c,rfl,by omega,h1,h3⟩,hb⟩
theorem sm_Count (x:DesA) (W:World) (hF:∀ n:Int,0≤n→n≤65535→∀ V,Below W.heap.size W V→FmtC V.heap.size V n) (hG:Glob W) (hD:DesIn W smM x) :
  Calls Tryz.prog 28 #[desVal smM x] W fun r w'=>r=.returned (.tuple #[.int .i64 5,.int .i64 0])∧Below W.heap.size W w':=by
 refine(countM_any smM x W hF hG hD smM_small).mono ?_
 rintro r w' ⟨rfl,hb⟩
 rw[sm_len,sm_err]
 exact⟨rfl,hb⟩
theorem sm_at0:mutAt smM 0=(shD (dN 0) (bE 8 (vE 97) (kE 1)) iE 0,0):=by
 have hl:(0:Int)≤0∧(0:Int).toNat < (mutL smM).length:=⟨by omega,by rw[← smS,sm_len];decide⟩
 unfold mutAt
 rw[if_pos sm_err,dif_pos hl]
 have:(mutL smM)[(0:Int).toNat]'hl.2=(shD (dN 0) (bE 8 (vE 97) (kE 1)) iE 0,wireT ⟨#[120]⟩ (whatS 0 kOper)):=by
  simp only[sm_mut]
  rfl
 rw[this]
theorem sm_Mutant (x:DesA) (W:World) (hF:∀ n:Int,0≤n→n≤65535→∀ V,Below W.heap.size W V→FmtC V.heap.size V n) (hG:Glob W) (hD:DesIn W smM x) :
  Calls Tryz.prog 31 #[desVal smM x,.int .i64 0] W fun r w'=>(∃ a1 c1 bw ow cw a3 c3 a4 c4,r=.returned (.tuple #[.agg #[.string ⟨#[100,95,48]⟩,.slice a1 1 c1,.slice (some ⟨bw,ow,none⟩) 1 cw,.slice a3 1 c3,.slice a4 0 c4],.int .i64 0])∧1≤cw∧w'.cell? ⟨bw,ow+2,none⟩=some (.int .i64 8))∧Below W.heap.size W w':=by
 refine(mutant_any smM x 0 W hF hG hD smM_small).mono ?_
 rintro r w' ⟨⟨xm,bw,br,rfl,hN⟩,hb⟩
 rw[sm_at0] at hN⊢
 have hE:=NewD.des hN
 obtain⟨b,o,ha⟩:=(SliceIn.addr hE.wires).resolve_left (by show ¬ (1=0);decide)
 obtain⟨ae,ce,-,-,h2,-⟩:=hE.wires.get ha (i:=0) (by show 0 < 1;decide)
 have hc:=hE.wires.1
 refine⟨⟨xm.ai,xm.ci,b,o,xm.cw,xm.ar,xm.cr,xm.ao,xm.co,?_,hc,?_⟩,hb⟩
 ·rw[← ha,← dN0]
  rfl
 ·have e:o+0 * 6+2=o+2:=by omega
  rw[e] at h2
  exact h2
theorem sm_ri:regI smM ⟨#[114]⟩=((0:Nat):Int):=by
 unfold regI
 exact idxP_at (isReg ⟨#[114]⟩) smM.regs 0 0 (by show 0 < 1;decide) (fun i hi=>absurd hi (Nat.not_lt_zero _)) (isReg_iff.2 rfl)
theorem sm_injA:injA smM ⟨#[114]⟩ 2 1=(smJ,0):=by
 rw[injA_ok (k:=0) sm_err sm_ri (by show 0 < 1;decide) (by show ¬ ((2:Int) < 0∨(4096:Int)≤2∨(1:Int) < 0∨(4:Int)≤1);decide) (by rw[sm_inj];exact smJ_err),sm_inj]
theorem sm_Inject (x:DesA) (W:World) (hF:∀ n:Int,0≤n→n≤65535→∀ V,Below W.heap.size W V→FmtC V.heap.size V n) (hG:Glob W) (hD:DesIn W smM x) :
  Calls Tryz.prog 34 #[desVal smM x,.string ⟨#[114]⟩,.int .i64 2,.int .i64 1] W fun r w'=>(∃ a1 c1 a2 c2 br ow cr a4 c4,r=.returned (.tuple #[.agg #[.string ⟨#[100]⟩,.slice a1 1 c1,.slice a2 1 c2,.slice (some ⟨br,ow,none⟩) 2 cr,.slice a4 0 c4],.int .i64 0])∧2≤cr∧w'.cell? ⟨br,ow+7,none⟩=some (.string ⟨#[102,97,117,108,116]⟩))∧Below W.heap.size W w':=by
 refine(inject_any smM x ⟨#[114]⟩ 2 1 W hF hG hD smM_small).mono ?_
 rintro r w' ⟨⟨xm,rfl,hE⟩,hb⟩
 rw[sm_injA] at hE⊢
 obtain⟨b,o,ha⟩:=(SliceIn.addr hE.regs).resolve_left (by show ¬ (2=0);decide)
 obtain⟨ae,ce,h0,-⟩:=hE.regs.get ha (i:=1) (by show 1 < 2;decide)
 have hc:=hE.regs.1
 refine⟨⟨xm.ai,xm.ci,xm.aw,xm.cw,b,o,xm.cr,xm.ao,xm.co,?_,hc,?_⟩,hb⟩
 ·rw[← ha]
  rfl
 ·have e:o+1 * 7=o+7:=by omega
  rw[e] at h0
  exact h0
set_option maxRecDepth 100000 in
set_option maxHeartbeats 8000000 in
theorem awake34_any (w:World) (hF:∀ n:Int,0≤n→n≤65535→∀ V,Below w.heap.size w V→FmtC V.heap.size V n) (hG:Glob w) :
  Calls Tryz.prog 25 #[] w fun e w'=>e=.returned (.bool true)∧Below w.heap.size w w':=by
 have HS:Hid (∀ W,Below w.heap.size w W→Calls Tryz.prog 59 #[] W fun e w'=>(∃ x,e=.returned (desVal smM x)∧DesIn w' smM x)∧Below W.heap.size W w'):=fun W _=>sampM_any W
 have hFb:∀ W,Below w.heap.size w W→∀ n:Int,0≤n→n≤65535→∀ V,Below W.heap.size W V→FmtC V.heap.size V n:=fun W hW n h0 h1 V hV=>hF n h0 h1 V (hW.trans (hV.mono hW.size))
 have HSi:=Lib.hid (fun x W (hW:Below w.heap.size w W) hD=>sm_Sites x W (hFb W hW) (hG.below hW) hD)
 have HCt:=Lib.hid (fun x W (hW:Below w.heap.size w W) hD=>sm_Count x W (hFb W hW) (hG.below hW) hD)
 have HMu:=Lib.hid (fun x W (hW:Below w.heap.size w W) hD=>sm_Mutant x W (hFb W hW) (hG.below hW) hD)
 have HIn:=Lib.hid (fun x W (hW:Below w.heap.size w W) hD=>sm_Inject x W (hFb W hW) (hG.below hW) hD)
 have HB0:Hid (Below w.heap.size w w):=Below.refl _ _
 have hnx:∀ (s:ByteArray),(s.toList == s.toList)=true:=fun s=>by simp
 clear hF hG hFb
 go_enter Tryz.func25, Tryz.ntmps25
 go_wp2_with fail
 refine(HS.out w HB0.out).mono ?_
 rintro e w1 ⟨⟨x1,rfl,hD1⟩,hb1⟩
 have HB1:=Lib.hid hb1
 have HC1:=Lib.hid (HSi.out x1 w1 hb1 hD1)
 clear hD1 hb1
 go_wp2_with fail
 refine HC1.out.mono ?_
 rintro e w2 ⟨⟨b2,o2,c2,rfl,hc2,q1,q3⟩,hb2⟩
 have HB2:Hid (Below w.heap.size w w2):=HB1.out.trans (hb2.mono HB1.out.size)
 have HQ1:=Lib.hid q1
 have HQ3:=Lib.hid q3
 clear q1 q3 hb2 HC1
 go_wp2_with fail
 refine(HS.out w2 HB2.out).mono ?_
 rintro e w3 ⟨⟨x3,rfl,hD3⟩,hb3⟩
 have HB3:Hid (Below w.heap.size w w3):=HB2.out.trans (hb3.mono HB2.out.size)
 have HC3:=Lib.hid (HCt.out x3 w3 HB3.out hD3)
 have HB23:=Lib.hid hb3
 clear hD3 hb3
 go_wp2_with fail
 refine HC3.out.mono ?_
 rintro e w4 ⟨rfl,hb4⟩
 have HB24:Hid (Below w2.heap.size w2 w4):=HB23.out.trans (hb4.mono HB23.out.size)
 have HB4:Hid (Below w.heap.size w w4):=HB2.out.trans (HB24.out.mono HB2.out.size)
 clear hb4 HC3 HB23
 go_wp2_with fail
 refine(HS.out w4 HB4.out).mono ?_
 rintro e w5 ⟨⟨x5,rfl,hD5⟩,hb5⟩
 have HB25:Hid (Below w2.heap.size w2 w5):=HB24.out.trans (hb5.mono HB24.out.size)
 have HB5:Hid (Below w.heap.size w w5):=HB2.out.trans (HB25.out.mono HB2.out.size)
 have HC5:=Lib.hid (HMu.out x5 w5 HB5.out hD5)
 clear hD5 hb5
 go_wp2_with fail
 refine HC5.out.mono ?_
 rintro e w6 ⟨⟨a61,c61,b6,o6,c6,a63,c63,a64,c64,rfl,hc6,q6⟩,hb6⟩
 have HB26:Hid (Below w2.heap.size w2 w6):=HB25.out.trans (hb6.mono HB25.out.size)
 have HQ6:=Lib.hid q6
 clear q6 hb6 HC5
 go_upto_region 4 with fail
 generalize hW7:w6.alloc (.cells #[.string ⟨#[100,95,48]⟩,.slice a61 1 c61,.slice (some ⟨b6,o6,none⟩) 1 c6,.slice a63 1 c63,.slice a64 0 c64] 27)=W7
 have hz7:w6.heap.size+1≤W7.heap.size:=by rw[← hW7];simp
 have HB67:Hid (Below w6.heap.size w6 W7):=by show Below _ _ _;rw[← hW7];exact belr
 have HX7:Hid (W7.heap[w6.heap.size]? = some (.cells #[.string ⟨#[100,95,48]⟩,.slice a61 1 c61,.slice (some ⟨b6,o6,none⟩) 1 c6,.slice a63 1 c63,.slice a64 0 c64] 27 (0,0))):=by
  show _=_;rw[← hW7]
  exact hx_new rfl
 clear hW7
 have HB7:Hid (Below w.heap.size w W7):=HB2.out.trans ((HB26.out.trans (HB67.out.mono HB26.out.size)).mono HB2.out.size)
 go_wp2_with fail
 refine(HS.out W7 HB7.out).mono ?_
 rintro e w8 ⟨⟨x8,rfl,hD8⟩,hb8⟩
 have HB8:Hid (Below w.heap.size w w8):=HB7.out.trans (hb8.mono HB7.out.size)
 have HB78:=Lib.hid hb8
 have HC8:=Lib.hid (HIn.out x8 w8 HB8.out hD8)
 clear hD8 hb8
 go_wp2_with fail
 refine HC8.out.mono ?_
 rintro e w9 ⟨⟨a91,c91,a92,c92,b9,o9,c9,a94,c94,rfl,hc9,q9⟩,hb9⟩
 have HB79:Hid (Below W7.heap.size W7 w9):=HB78.out.trans (hb9.mono HB78.out.size)
 have HB69:Hid (Below w6.heap.size w6 w9):=HB67.out.trans (HB79.out.mono (by omega))
 have HB29:Hid (Below w2.heap.size w2 w9):=HB26.out.trans (HB69.out.mono HB26.out.size)
 have HB9:Hid (Below w.heap.size w w9):=HB2.out.trans (HB29.out.mono HB2.out.size)
 have q1:=keeps_of_below HB29.out _ _ HQ1.out
 have q3:=keeps_of_below HB29.out _ _ HQ3.out
 have q6:=keeps_of_below HB69.out _ _ HQ6.out
 obtain⟨m0,m1,m2,m3,m4,_⟩:=cell5 (hx_below HB79.out HX7.out)
 have A1:=fun o=>keeps_of_below ((Below.refl w9.heap.size w9).alloc (Nat.le_refl _) o) _ _ q1
 have A3:=fun o=>keeps_of_below ((Below.refl w9.heap.size w9).alloc (Nat.le_refl _) o) _ _ q3
 have A6:=fun o=>keeps_of_below ((Below.refl w9.heap.size w9).alloc (Nat.le_refl _) o) _ _ q6
 have A9:=fun o=>keeps_of_below ((Below.refl w9.heap.size w9).alloc (Nat.le_refl _) o) _ _ q9
 have M0:=fun o=>keeps_of_below ((Below.refl w9.heap.size w9).alloc (Nat.le_refl _) o) _ _ m0
 have M2:=fun o=>keeps_of_below ((Below.refl w9.heap.size w9).alloc (Nat.le_refl _) o) _ _ m2
 clear hb9 HC8
 go_wp2_with fail
 go_ret
 exact⟨rfl,HB9.out.alloc HB9.out.size _⟩
end Go.Proofs.YtebneadheaefdaaGreatDoor
namespace Go.Proofs.YtebneadheaefdaaGreatDoor
open Go.RowKit
theorem fmC_of {w:World} (hT:Lib.TabIs Tryz.prog w "internal/strconv.uint64pow10" .u64 Lib.pow10Tab):FmC w:=fun n h0 h1 W hW =>
 fmt_any W (Go.Joins.tab_stays (g:=1) (by kernel_rfl) hT hW (Nat.le_refl _)) n h0 h1
theorem awC_of {w:World} (hG:Glob w) (hT:Lib.TabIs Tryz.prog w "internal/strconv.uint64pow10" .u64 Lib.pow10Tab):AwC w:=fun W hW=>awake34_any W ((fmC_of hT).below hW) (hG.below hW)
end Go.Proofs.YtebneadheaefdaaGreatDoor
namespace Go.Proofs.YtebneadheaefdaaGreatDoor
theorem pow16 {w:Int} (h:1≤w∧w≤16):(2:Int) ^ w.toNat≤65536:=by
 obtain⟨n,rfl⟩:=Int.eq_ofNat_of_zero_le (show (0:Int)≤w by omega)
 have hn:n≤16:=by omega
 have h1:(2:Nat) ^ n≤2 ^ 16:=Nat.pow_le_pow_right (by decide) hn
 have h2:((2 ^ n:Nat):Int)≤((2 ^ 16:Nat):Int):=by exact_mod_cast h1
 simpa using h2
theorem rowN_rng {d:DesD} (hd:DesOk d) (rows:List Sigs) (t i:Nat) (v:Int) (h:(rowN d rows t)[i]? = some v):0≤v∧v < 65536:=by
 have hf:=settle_fits (rows.getD t []) hd (stN_state hd rows t)
 unfold rowN at h
 rw[List.getElem?_map,Option.map_eq_some_iff] at h
 obtain⟨p,hp,rfl⟩:=h
 obtain⟨hi,rfl⟩:=List.getElem?_eq_some_iff.1 hp
 have hw:=hf.2 i hi (by rw[← hf.1];exact hi)
 have:=pow16 ⟨hw.1,hw.2.1⟩
 omega
theorem rowF_len (d:DesD) (rows:List Sigs) (t:Nat):(rowN d rows t).length=d.names.length:=by
 unfold rowN
 rw[List.length_map,settle_len _ (stN_len rows t)]
structure FlipF (nm:ByteArray) (cyc bit:Int) (N:List ByteArray) (R:List (List Int)) (N2:List ByteArray) (R2:List (List Int)):Prop where
 cyc0:0≤cyc
 cyc1:cyc < 4096
 bit0:0≤bit
 bit1:bit≤15
 nlen:N2.length=N.length+1
 rlen:R2.length=R.length
 rl:R.length≤4096
 nl:N.length≤48
 col:∀ i (hi:i < N.length),idxI N2 (N[i]'hi)=i
 row:∀ t (ht:t < R.length),(R[t]'ht).length=N.length
 row2:∀ t (ht:t < R2.length),(R2[t]'ht).length=N.length+1
 rng:∀ t (ht:t < R.length) i (hi:i < (R[t]'ht).length),0≤((R[t]'ht)[i]'hi)∧((R[t]'ht)[i]'hi) < 65536
 same:∀ t (ht:t < R.length) (ht2:t < R2.length) i (hi:i < (R[t]'ht).length) (hi2:i < (R2[t]'ht2).length),(t:Int)≤cyc→((R2[t]'ht2)[i]'hi2)=((R[t]'ht)[i]'hi)
 flip:∀ t (ht:t < R.length) (ht2:t < R2.length) i (hi:i < (R[t]'ht).length) (hi2:i < (R2[t]'ht2).length) (hn:i < N.length),(t:Int)=cyc+1→(N[i]'hn)=nm→((R2[t]'ht2)[i]'hi2)=xorW ((R[t]'ht)[i]'hi) (2 ^ bit.toNat)
theorem flip_facts {d:DesD} {nm:ByteArray} {cyc bit:Int} {rows:List Sigs} (hI:(injA d nm cyc bit).2=0) (hA:rErr d rows.length=0) (hB:rErr (injA d nm cyc bit).1 rows.length=0) :
  FlipF nm cyc bit (rNames d rows.length) (rRows d rows) (rNames (injA d nm cyc bit).1 rows.length) (rRows (injA d nm cyc bit).1 rows):=by
 obtain⟨he,k,hk,hr,c0,c1,b0,b1,h2,h3⟩:=injA_inv hI
 rw[h3] at hB⊢
 have hB:rErr (injD d k cyc bit) rows.length=0:=hB
 show FlipF nm cyc bit (rNames d rows.length) (rRows d rows) (rNames (injD d k cyc bit) rows.length) (rRows (injD d k cyc bit) rows)
 rw[show rNames d rows.length=d.names from if_pos hA,show rRows d rows=rowsN d rows from if_pos hA,show rNames (injD d k cyc bit) rows.length=(injD d k cyc bit).names from if_pos hB,show rRows (injD d k cyc bit) rows=rowsN (injD d k cyc bit) rows from if_pos hB]
 have hd:=desOk_of_err he
 have hb:=desOk_of_err h2
 have hw:=reg_width hd (List.getElem_mem hk)
 have hg:∀ (d':DesD) t (ht:t < (rowsN d' rows).length),(rowsN d' rows)[t]'ht=rowN d' rows t:=fun d' t ht=>by simp[rowsN]
 have hname:(d.regs[k]'hk).name=nm:=by
  rcases idxP_cases (isReg nm) d.regs with ⟨h1,_⟩ | ⟨k',hk',h1,h4,_⟩
  ·have:regI d nm=-1:=h1
   omega
  ·have:regI d nm=k':=h1
   obtain rfl:k=k':=by omega
   exact isReg_iff.1 h4
 have hat:∀ i (hi:i < d.names.length),(d.names[i]'hi)=nm→i=d.inputs.length+d.wires.length+k:=fun i hi h=>by
  have hj:d.inputs.length+d.wires.length+k < d.names.length:=by simp[DesD.names];omega
  have hjn:(d.names[d.inputs.length+d.wires.length+k]'hj)=nm:=by
   have:d.names[d.inputs.length+d.wires.length+k]? = some (d.regs[k]'hk).name:=by
    unfold DesD.names
    rw[List.getElem?_append_right (by simp),List.getElem?_map]
    simp[hk]
   rw[hname,List.getElem?_eq_some_iff] at this
   exact this.2
  have e1:=idxT_at hd.names hi
  have e2:=idxT_at hd.names hj
  rw[h] at e1
  rw[hjn] at e2
  have:=e1.symm.trans e2
  injection this
 have hnl:(injD d k cyc bit).names.length=d.names.length+1:=by rw[inj_names];simp
 refine⟨c0,c1,b0,by omega,hnl,by rw[rowsN_len,rowsN_len],by rw[rowsN_len];exact(rErr_zero.1 hA).2,hd.len,fun i hi=>?_,fun t ht=>?_,fun t ht=>?_,fun t ht i hi=>?_,fun t ht ht2 i hi hi2 hc=>?_,fun t ht ht2 i hi hi2 hn hc hnm=>?_⟩
 ·unfold idxI
  rw[inj_col hd k cyc bit i hi]
 ·rw[hg,rowF_len]
 ·rw[hg,rowF_len,hnl]
 ·exact rowN_rng hd rows t i _ (by rw[← hg d t ht];exact List.getElem?_eq_getElem hi)
 ·have e:=inj_row hd hb (by omega) rows t hc
  have h1:(rowN (injD d k cyc bit) rows t)[i]? = some ((rowsN (injD d k cyc bit) rows)[t][i]):=by rw[← hg _ t ht2];exact List.getElem?_eq_getElem hi2
  have h0:(rowN d rows t)[i]? = some ((rowsN d rows)[t][i]):=by rw[← hg _ t ht];exact List.getElem?_eq_getElem hi
  rw[e,List.getElem?_append_left (by rw[rowF_len];rw[hg,rowF_len] at hi;exact hi),h0] at h1
  exact(Option.some.inj h1).symm
 ·obtain⟨m,rfl⟩:=Int.eq_ofNat_of_zero_le c0
  obtain rfl:t=m+1:=by omega
  obtain rfl:=hat i hn hnm
  obtain⟨v,q1,q2⟩:=flip_row hd hb (by omega) hk ⟨b0,b1⟩ rows
  have h1:(rowN (injD d k m bit) rows (m+1))[d.inputs.length+d.wires.length+k]? = some ((rowsN (injD d k m bit) rows)[m+1][d.inputs.length+d.wires.length+k]):=by rw[← hg _ _ ht2];exact List.getElem?_eq_getElem hi2
  have h0:(rowN d rows (m+1))[d.inputs.length+d.wires.length+k]? = some ((rowsN d rows)[m+1][d.inputs.length+d.wires.length+k]):=by rw[← hg _ _ ht];exact List.getElem?_eq_getElem hi
  rw[h1] at q2
  rw[h0] at q1
  rw[Option.some.inj q1,Option.some.inj q2]
end Go.Proofs.YtebneadheaefdaaGreatDoor
namespace Go.Proofs.YtebneadheaefdaaGreatDoor
open Go.RowKit
attribute [local go_sem ↓] Go.wp_at_zero Go.wp_at_succ
theorem pow15 {bit:Int} (h:0≤bit∧bit≤15):(2:Int) ^ bit.toNat≤32768:=by
 obtain⟨n,rfl⟩:=Int.eq_ofNat_of_zero_le h.1
 have h1:(2:Nat) ^ n≤2 ^ 15:=Nat.pow_le_pow_right (by decide) (by omega)
 have h2:((2 ^ n:Nat):Int)≤((2 ^ 15:Nat):Int):=by exact_mod_cast h1
 simpa using h2
set_option maxRecDepth 100000 in
set_option maxHeartbeats 16000000 in
theorem MutateFlips_of (d:DesD) (x:DesA) (nm:ByteArray) (cyc bit:Int) (rows:List Sigs) (aI:Option Addr) (cI:Nat) (w:World) (hE:DesIn w d x) (hs:DesSmall d) (hI:SigRows w rows aI cI) (hG:Glob w) (hF:FmC w) (hAw:AwC w) :
  Calls Tryz.prog 11 #[desVal d x,.agg #[.string nm,.int .i64 cyc,.int .i64 bit],.slice aI rows.length cI] w fun e w'=>e=.returned (.bool true)∧Below w.heap.size w w':=by
 have HFw:=Lib.hid (fun W (hW:Below w.heap.size w W)=>few34_any d x W (hE.below hW) hs)
 have HAw:=Lib.hid hAw
 unfold BoolIs at HFw
 unfold AwC at HAw
 have HInj:=Lib.hid (fun W (hW:Below w.heap.size w W)=>inject_any d x nm cyc bit W (hF.below hW) (hG.below hW) (hE.below hW) hs)
 unfold InjPost at HInj
 have HRA:=Lib.hid (fun W (hW:Below w.heap.size w W)=>(Run_any d x rows aI cI W (hE.below hW) hs (hI.keep (keeps_of_below hW)) (hG.below hW)).mono fun _ _ h=>h.out)
 have HRB:Hid ((injA d nm cyc bit).2=0→∀ y W,Below w.heap.size w W→DesIn W (injA d nm cyc bit).1 y→Calls Tryz.prog 15 #[desVal (injA d nm cyc bit).1 y,.slice aI rows.length cI] W fun e w'=>∃ aN cN aR cR,e=.returned (.tuple #[.agg #[.slice aN (rNames (injA d nm cyc bit).1 rows.length).length cN,.slice aR (rRows (injA d nm cyc bit).1 rows).length cR],.int .i64 (rErr (injA d nm cyc bit).1 rows.length)])∧StrsIn w' (rNames (injA d nm cyc bit).1 rows.length) aN cN∧RowsD w' (rRows (injA d nm cyc bit).1 rows) aR cR∧Below W.heap.size W w'):=fun h0 y W hW hD=>by
  obtain⟨he,k,hk,_,_,_,_,_,_,h3⟩:=injA_inv h0
  have hsB:DesSmall (injA d nm cyc bit).1:=by rw[h3];exact inj_small he hs k cyc bit
  exact(Run_any (injA d nm cyc bit).1 y rows aI cI W hD hsB (hI.keep (keeps_of_below hW)) (hG.below hW)).mono fun _ _ h=>h.out
 have HFF:Hid ((injA d nm cyc bit).2=0→rErr d rows.length=0→rErr (injA d nm cyc bit).1 rows.length=0→FlipF nm cyc bit (rNames d rows.length) (rRows d rows) (rNames (injA d nm cyc bit).1 rows.length) (rRows (injA d nm cyc bit).1 rows)):=fun h1 h2 h3=>flip_facts h1 h2 h3
 have HI:=Lib.hid hI
 have hnl:=hI.2.1
 clear hE hs hG hF hAw hI
 generalize rNames d rows.length=N at HRA HFF
 generalize rRows d rows=R at HRA HFF
 generalize rErr d rows.length=eA at HRA HFF
 generalize rNames (injA d nm cyc bit).1 rows.length=N2 at HRB HFF
 generalize rRows (injA d nm cyc bit).1 rows=R2 at HRB HFF
 generalize rErr (injA d nm cyc bit).1 rows.length=eB at HRB HFF
 generalize (injA d nm cyc bit).1=B at HInj HRB
 generalize (injA d nm cyc bit).2=eI at HInj HRB HFF
 generalize fewM d=fb at HFw
 simp only[desVal,desVals] at HFw HInj HRA HRB⊢
 go_enter Tryz.func11, Tryz.ntmps11
 go_wp2_with fail
 generalize hW1:(w.alloc (.cells #[.string d.name,.slice x.ai d.inputs.length x.ci,.slice x.aw d.wires.length x.cw,.slice x.ar d.regs.length x.cr,.slice x.ao d.outputs.length x.co] 27)).alloc (.cells #[.string nm,.int .i64 cyc,.int .i64 bit] 59)=W1
 have hz1:w.heap.size+2≤W1.heap.size:=by rw[← hW1];simp
 have HB1:Hid (Below w.heap.size w W1):=by show Below _ _ _;rw[← hW1];exact belr
 have HX1:Hid (W1.heap[w.heap.size]? = some (.cells #[.string d.name,.slice x.ai d.inputs.length x.ci,.slice x.aw d.wires.length x.cw,.slice x.ar d.regs.length x.cr,.slice x.ao d.outputs.length x.co] 27 (0,0))):=by
  show _=_;rw[← hW1]
  rw[Below.heap_alloc _ _ _ (by simp)];exact hx_new rfl
 have HY1:Hid (W1.heap[w.heap.size+1]? = some (.cells #[.string nm,.int .i64 cyc,.int .i64 bit] 59 (0,0))):=by
  show _=_;rw[← hW1]
  exact hx_new (by simp)
 clear hW1
 have HBX:Hid (∀ W,Below W1.heap.size W1 W→(W.cell? ⟨w.heap.size,0,none⟩=some (.string d.name)∧W.cell? ⟨w.heap.size,1,none⟩=some (.slice x.ai d.inputs.length x.ci)∧W.cell? ⟨w.heap.size,2,none⟩=some (.slice x.aw d.wires.length x.cw)∧W.cell? ⟨w.heap.size,3,none⟩=some (.slice x.ar d.regs.length x.cr)∧W.cell? ⟨w.heap.size,4,none⟩=some (.slice x.ao d.outputs.length x.co))∧W.cell? ⟨w.heap.size+1,0,none⟩=some (.string nm)∧W.cell? ⟨w.heap.size+1,1,none⟩=some (.int .i64 cyc)∧W.cell? ⟨w.heap.size+1,2,none⟩=some (.int .i64 bit)):=fun W h=>by
  obtain⟨b0,b1,b2,b3,b4,_⟩:=cell5 (hx_below h HX1.out)
  have hy:=hx_below h HY1.out
  exact⟨⟨b0,b1,b2,b3,b4⟩,by simp[World.cell?,hy],by simp[World.cell?,hy],by simp[World.cell?,hy]⟩
 refine(HFw.out W1 HB1.out).mono ?_
 rintro r w2 ⟨rfl,hb2⟩
 have HB2:=Lib.hid hb2
 have HW2:Hid (Below w.heap.size w w2):=HB1.out.trans (hb2.mono (by omega))
 clear hb2
 cases fb
 ·go_wp2_with fail
  (refine(HAw.out w2 (HW2.out)).mono ?_;rintro e wz ⟨rfl,hbz⟩;have HBz:Hid (Below w.heap.size w wz):=(HW2.out).trans (hbz.mono (HW2.out).size);clear hbz;go_wp2_with fail;go_ret;exact⟨rfl,HBz.out⟩)
 by_cases h12:12 < rows.length
 ·have d0:decide ((12:Int) < (rows.length:Int))=true:=by simp;omega
  go_wp2_with fail
  (refine(HAw.out w2 (HW2.out)).mono ?_;rintro e wz ⟨rfl,hbz⟩;have HBz:Hid (Below w.heap.size w wz):=(HW2.out).trans (hbz.mono (HW2.out).size);clear hbz;go_wp2_with fail;go_ret;exact⟨rfl,HBz.out⟩)
 have d0:decide ((12:Int) < (rows.length:Int))=false:=by simp;omega
 go_wp2_with fail
 clear d0
 go_loopw [7] (fun i wr=>∃ k:Nat,i=.int .i64 k∧k≤rows.length∧Hid (Below w2.heap.size w2 wr)) (fun i _=>rows.length - (intOf i).toNat)
 case atStart=>exact⟨0,rfl,Nat.zero_le _,Below.refl _ _⟩
 case round =>
  obtain⟨k,rfl,hk,HBr⟩:=hrel
  have HWr:Hid (Below w.heap.size w wr):=HW2.out.trans (HBr.out.mono HW2.out.size)
  by_cases hlt:k < rows.length
  ·obtain⟨bI,oI,haI⟩:=(SliceIn.addr HI.out).resolve_left (by omega)
   subst haI
   obtain⟨aT,cT,i0,hST⟩:=(HI.out.keep (keeps_of_below HWr.out)).get rfl hlt
   have hsl:=hST.2.1
   have hki:(k:Int) < (rows.length:Int):=by omega
   clear hST
   generalize (rows[k]'hlt).length=rl at i0 hsl
   by_cases h10:10 < rl
   ·have d3:decide ((10:Int) < (rl:Int))=true:=by simp;omega
    go_wp2_with fail
    (refine(HAw.out wr (HWr.out)).mono ?_;rintro e wz ⟨rfl,hbz⟩;have HBz:Hid (Below w.heap.size w wz):=(HWr.out).trans (hbz.mono (HWr.out).size);clear hbz;go_wp2_with fail;go_ret;exact⟨rfl,HBz.out⟩)
   ·have d3:decide ((10:Int) < (rl:Int))=false:=by simp;omega
    go_wp2_with fail
    go_roundw
    case rel=>exact⟨k+1,by go_num,by omega,HBr⟩
    case measure=>(simp[intOf];try omega)
  ·obtain rfl:k=rows.length:=by omega
   have HBr1:Hid (Below W1.heap.size W1 wr):=HB2.out.trans (HBr.out.mono HB2.out.size)
   clear hk hlt h12
   obtain⟨⟨b0,b1,b2,b3,b4⟩,p0,p1,p2⟩:=HBX.out _ HBr1.out
   go_wp2_with fail
   refine(HInj.out wr HWr.out).mono ?_
   rintro r w5 ⟨⟨y,rfl,hD5⟩,hb5⟩
   have HD5:=Lib.hid hD5
   have HB5:Hid (Below W1.heap.size W1 w5):=HBr1.out.trans (hb5.mono HBr1.out.size)
   have HW5:Hid (Below w.heap.size w w5):=HWr.out.trans (hb5.mono HWr.out.size)
   clear hb5 hD5 b0 b1 b2 b3 b4 p0 p1 p2
   by_cases heI:eI=0
   rotate_left
   ·have hne:(eI != 0)=true:=by simpa using heI
    clear heI HRB HFF
    go_wp2_with fail
    (refine(HAw.out _ (HW5.out.alloc HW5.out.size _)).mono ?_;rintro e wz ⟨rfl,hbz⟩;have HBz:Hid (Below w.heap.size w wz):=(HW5.out.alloc HW5.out.size _).trans (hbz.mono (HW5.out.alloc HW5.out.size _).size);clear hbz;go_wp2_with fail;go_ret;exact⟨rfl,HBz.out⟩)
   subst heI
   replace HRB:=Lib.hid (HRB.out rfl)
   replace HFF:=Lib.hid (HFF.out rfl)
   obtain⟨⟨b0,b1,b2,b3,b4⟩,p0,p1,p2⟩:(_∧_∧_∧_∧_)∧_∧_∧_:=HBX.out _ (HB5.out.alloc HB5.out.size (.cells #[.string B.name,.slice y.ai B.inputs.length y.ci,.slice y.aw B.wires.length y.cw,.slice y.ar B.regs.length y.cr,.slice y.ao B.outputs.length y.co] 27))
   go_wp2_with fail
   generalize hW6:w5.alloc (.cells #[.string B.name,.slice y.ai B.inputs.length y.ci,.slice y.aw B.wires.length y.cw,.slice y.ar B.regs.length y.cr,.slice y.ao B.outputs.length y.co] 27)=W6 at *
   have HB6:Hid (Below W1.heap.size W1 W6):=by show Below _ _ _;rw[← hW6];exact HB5.out.alloc HB5.out.size _
   have HW6:Hid (Below w.heap.size w W6):=by show Below _ _ _;rw[← hW6];exact HW5.out.alloc HW5.out.size _
   have HX6:Hid (W6.heap[w5.heap.size]? = some (.cells #[.string B.name,.slice y.ai B.inputs.length y.ci,.slice y.aw B.wires.length y.cw,.slice y.ar B.regs.length y.cr,.slice y.ao B.outputs.length y.co] 27 (0,0))):=by
    show _=_;rw[← hW6]
    exact hx_new rfl
   have HD6:Hid (DesIn W6 B y):=by show DesIn _ _ _;rw[← hW6];exact HD5.out.below ((Below.refl _ w5).alloc (Nat.le_refl _) _)
   clear hW6 HD5
   refine(HRA.out W6 HW6.out).mono ?_
   rintro r w7 ⟨aN,cN,aR,cR,rfl,hN7,hR7,hb7⟩
   have HN7:=Lib.hid hN7
   have HR7:=Lib.hid hR7
   have HB7:Hid (Below W1.heap.size W1 w7):=HB6.out.trans (hb7.mono HB6.out.size)
   have HW7:Hid (Below w.heap.size w w7):=HW6.out.trans (hb7.mono HW6.out.size)
   have HX7:=Lib.hid (hx_below hb7 HX6.out)
   have HD7:=Lib.hid (HD6.out.below hb7)
   clear hb7 hN7 hR7 HX6 HD6 b0 b1 b2 b3 b4 p0 p1 p2
   obtain⟨c0,c1,c2,c3,c4⟩:_∧_∧_∧_∧_:=by
    obtain⟨c0,c1,c2,c3,c4,_⟩:=cell5 (hx_below ((Below.refl _ w7).alloc (Nat.le_refl _) (.cells #[.slice aN N.length cN,.slice aR R.length cR] 34)) HX7.out)
    exact⟨c0,c1,c2,c3,c4⟩
   go_wp2_with fail
   generalize hW8:w7.alloc (.cells #[.slice aN N.length cN,.slice aR R.length cR] 34)=W8 at *
   have hK8:Below w7.heap.size w7 W8:=by rw[← hW8];exact(Below.refl _ _).alloc (Nat.le_refl _) _
   have HB8:Hid (Below W1.heap.size W1 W8):=HB7.out.trans (hK8.mono HB7.out.size)
   have HW8:Hid (Below w.heap.size w W8):=HW7.out.trans (hK8.mono HW7.out.size)
   have HX8:Hid (W8.heap[w7.heap.size]? = some (.cells #[.slice aN N.length cN,.slice aR R.length cR] 34 (0,0))):=by
    show _=_;rw[← hW8]
    exact hx_new rfl
   have HN8:=Lib.hid (HN7.out.keep (keeps_of_below hK8))
   have HR8:=Lib.hid (HR7.out.keep (keeps_of_below hK8))
   have HD8:=Lib.hid (HD7.out.below hK8)
   clear hW8 hK8 HN7 HR7 HD7 HX7
   refine(HRB.out y W8 HW8.out HD8.out).mono ?_
   rintro r w9 ⟨aN2,cN2,aR2,cR2,rfl,hN9,hR9,hb9⟩
   have HN9:=Lib.hid hN9
   have HR9:=Lib.hid hR9
   have HM9:=Lib.hid (HN8.out.keep (keeps_of_below hb9))
   have HQ9:=Lib.hid (HR8.out.keep (keeps_of_below hb9))
   have HB9:Hid (Below W1.heap.size W1 w9):=HB8.out.trans (hb9.mono HB8.out.size)
   have HW9:Hid (Below w.heap.size w w9):=HW8.out.trans (hb9.mono HW8.out.size)
   have HX9:=Lib.hid (hx_below hb9 HX8.out)
   clear hb9 hN9 hR9 HX8 HN8 HR8 HD8 c0 c1 c2 c3 c4 HRA HRB HInj
   by_cases heA:eA=0
   rotate_left
   ·have hne:(eA != 0)=true:=by simpa using heA
    clear heA HFF
    go_wp2_with fail
    (refine(HAw.out _ (HW9.out.alloc HW9.out.size _)).mono ?_;rintro e wz ⟨rfl,hbz⟩;have HBz:Hid (Below w.heap.size w wz):=(HW9.out.alloc HW9.out.size _).trans (hbz.mono (HW9.out.alloc HW9.out.size _).size);clear hbz;go_wp2_with fail;go_ret;exact⟨rfl,HBz.out⟩)
   by_cases heB:eB=0
   rotate_left
   ·subst heA
    have hne:(eB != 0)=true:=by simpa using heB
    clear heB HFF
    go_wp2_with fail
    (refine(HAw.out _ (HW9.out.alloc HW9.out.size _)).mono ?_;rintro e wz ⟨rfl,hbz⟩;have HBz:Hid (Below w.heap.size w wz):=(HW9.out.alloc HW9.out.size _).trans (hbz.mono (HW9.out.alloc HW9.out.size _).size);clear hbz;go_wp2_with fail;go_ret;exact⟨rfl,HBz.out⟩)
   subst heA heB
   have HF:=Lib.hid (HFF.out rfl rfl)
   clear HFF
   go_wp2_with fail
   generalize hWX:w9.alloc (.cells #[.slice aN2 N2.length cN2,.slice aR2 R2.length cR2] 34)=WX at *
   have hKX:Below w9.heap.size w9 WX:=by rw[← hWX];exact(Below.refl _ _).alloc (Nat.le_refl _) _
   have HBX10:Hid (Below W1.heap.size W1 WX):=HB9.out.trans (hKX.mono HB9.out.size)
   have HWX:Hid (Below w.heap.size w WX):=HW9.out.trans (hKX.mono HW9.out.size)
   have hx1:=hx_below hKX HX9.out
   have hx2:WX.heap[w9.heap.size]? = some (.cells #[.slice aN2 N2.length cN2,.slice aR2 R2.length cR2] 34 (0,0)):=by
    rw[← hWX];exact hx_new rfl
   have HNA:=Lib.hid (HM9.out.keep (keeps_of_below hKX))
   have HRA:=Lib.hid (HQ9.out.keep (keeps_of_below hKX))
   have HNB:=Lib.hid (HN9.out.keep (keeps_of_below hKX))
   have HRB:=Lib.hid (HR9.out.keep (keeps_of_below hKX))
   clear hWX hKX HN9 HR9 HM9 HQ9 HX9
   have HCA:Hid (∀ W,Below WX.heap.size WX W→(W.cell? ⟨w7.heap.size,0,none⟩=some (.slice aN N.length cN)∧W.cell? ⟨w7.heap.size,1,none⟩=some (.slice aR R.length cR)∧W.cell? ⟨w9.heap.size,0,none⟩=some (.slice aN2 (N.length+1) cN2)∧W.cell? ⟨w9.heap.size,1,none⟩=some (.slice aR2 R.length cR2))∧W.cell? ⟨w.heap.size+1,0,none⟩=some (.string nm)∧W.cell? ⟨w.heap.size+1,1,none⟩=some (.int .i64 cyc)∧W.cell? ⟨w.heap.size+1,2,none⟩=some (.int .i64 bit)):=fun W h=>by
    have h1:=hx_below h hx1
    have h2:=hx_below h hx2
    rw[HF.out.nlen,HF.out.rlen] at h2
    exact⟨⟨by simp[World.cell?,h1],by simp[World.cell?,h1],by simp[World.cell?,h2],by simp[World.cell?,h2]⟩,(HBX.out W (HBX10.out.trans (h.mono HBX10.out.size))).2⟩
   have HCol:Hid (∀ m (hm:m < N.length) W,Below WX.heap.size WX W→Calls Tryz.prog 42 #[.slice aN2 (N.length+1) cN2,.string (N[m]'hm)] W fun e w'=>e=.returned (.int .i64 m)∧w'=W):=fun m hm W hW=>by
    have:=column_any N2 aN2 cN2 (N[m]'hm) W (HNB.out.keep (keeps_of_below hW))
    rw[HF.out.nlen,HF.out.col m hm] at this
    exact this.mono fun e w' h=>⟨h.1,h.2.symm⟩
   have q1:=HF.out.cyc0
   have q2:=HF.out.cyc1
   have q3:=HF.out.bit0
   have q4:=HF.out.bit1
   have q5:=HF.out.rl
   have q6:=HF.out.nl
   have hpw:IntKind.i64.wrap ((2:Int) ^ bit.toNat)=(2:Int) ^ bit.toNat:=wrap_pow ⟨q3,q4⟩
   clear hx1 hx2 HNB
   go_loopw [14] (fun i wr=>∃ t:Nat,i=.int .i64 t∧t≤R.length∧Hid (Below WX.heap.size WX wr)) (fun i _=>R.length - (intOf i).toNat)
   case atStart=>exact⟨0,rfl,Nat.zero_le _,Below.refl _ _⟩
   case round =>
    obtain⟨t,rfl,ht,HBt⟩:=hrel
    generalize wr=wt at *
    have HWt:Hid (Below w.heap.size w wt):=HWX.out.trans (HBt.out.mono HWX.out.size)
    obtain⟨⟨e0,e1,f0,f1⟩,p0,p1,p2⟩:=HCA.out _ HBt.out
    by_cases hlt:t < R.length
    rotate_left
    ·obtain rfl:t=R.length:=by omega
     go_wp2_with fail
     (refine(HAw.out wt (HWt.out)).mono ?_;rintro e wz ⟨rfl,hbz⟩;have HBz:Hid (Below w.heap.size w wz):=(HWt.out).trans (hbz.mono (HWt.out).size);clear hbz;go_wp2_with fail;go_ret;exact⟨rfl,HBz.out⟩)
    have hti:(t:Int) < (R.length:Int):=by omega
    by_cases htc:(t:Int)≤cyc+1
    rotate_left
    ·have d1:decide ((t:Int)≤cyc+1)=false:=decide_eq_false htc
     go_wp2_with fail
     (refine(HAw.out wt (HWt.out)).mono ?_;rintro e wz ⟨rfl,hbz⟩;have HBz:Hid (Below w.heap.size w wz):=(HWt.out).trans (hbz.mono (HWt.out).size);clear hbz;go_wp2_with fail;go_ret;exact⟨rfl,HBz.out⟩)
    have d1:decide ((t:Int)≤cyc+1)=true:=decide_eq_true htc
    have hrow:(R[t]'hlt).length=N.length:=HF.out.row t hlt
    have hlt2:t < R2.length:=by rw[HF.out.rlen];exact hlt
    have hrow2:(R2[t]'hlt2).length=N.length+1:=HF.out.row2 t hlt2
    obtain⟨bR,oR,haR⟩:=(SliceIn.addr HRA.out).resolve_left (by omega)
    obtain⟨bR2,oR2,haR2⟩:=(SliceIn.addr HRB.out).resolve_left (by omega)
    obtain⟨aW,cW,r0,hIW⟩:=(HRA.out.keep (keeps_of_below HBt.out)).get haR hlt
    obtain⟨aV,cV,r2,hIV⟩:=(HRB.out.keep (keeps_of_below HBt.out)).get haR2 hlt2
    rw[hrow] at r0
    rw[hrow2] at r2
    subst haR haR2
    have hrc:=HRA.out.1
    have hrc2:=HRB.out.1
    rw[HF.out.rlen] at hrc2
    have HIW:=Lib.hid hIW
    have HIV:=Lib.hid hIV
    clear hIW hIV
    have HVA:Hid (∀ m (hm:m < N.length) (h1:m < (R[t]'hlt).length) (h2:m < (R2[t]'hlt2).length),0≤((R[t]'hlt)[m]'h1)∧((R[t]'hlt)[m]'h1) < 65536∧((t:Int)≤cyc→((R2[t]'hlt2)[m]'h2)=((R[t]'hlt)[m]'h1))∧((t:Int)=cyc+1→(N[m]'hm)=nm→((R2[t]'hlt2)[m]'h2)=xorW ((R[t]'hlt)[m]'h1) (2 ^ bit.toNat))):=fun m hm h1 h2 =>
     ⟨(HF.out.rng t hlt m h1).1,(HF.out.rng t hlt m h1).2,fun h=>HF.out.same t hlt hlt2 m h1 h2 h,fun h h3=>HF.out.flip t hlt hlt2 m h1 h2 hm h h3⟩
    generalize (R[t]'hlt)=RA at HIW HVA hrow
    generalize (R2[t]'hlt2)=RB at HIV HVA hrow2
    clear HF
    go_wp2_with fail
    go_loopw [15] (fun j wq=>∃ m:Nat,j=.int .i64 m∧m≤N.length∧Hid (Below wt.heap.size wt wq)) (fun j _=>N.length - (intOf j).toNat)
    case atStart=>exact⟨0,rfl,Nat.zero_le _,Below.refl _ _⟩
    case round =>
     obtain⟨m,rfl,hm,HBq⟩:=hrel
     obtain⟨⟨e0,e1,f0,f1⟩,p0,p1,p2⟩:=HCA.out _ (HBt.out.trans (HBq.out.mono HBt.out.size))
     by_cases hm2:m < N.length
     rotate_left
     ·obtain rfl:m=N.length:=by omega
      have HBn:Hid (Below WX.heap.size WX wr):=HBt.out.trans (HBq.out.mono HBt.out.size)
      go_wp2_with fail
      go_roundw
      case rel=>exact⟨t+1,by go_num,by omega,HBn⟩
      case measure=>(simp[intOf];try omega)
     have hmi:(m:Int) < (N.length:Int):=by omega
     obtain⟨bN,oN,haN⟩:=(SliceIn.addr HNA.out).resolve_left (by omega)
     have n0:=StrsIn.get (HNA.out.keep (keeps_of_below (HBt.out.trans (HBq.out.mono HBt.out.size)))) haN hm2
     subst haN
     obtain⟨bQ,oQ,haQ⟩:=(SliceIn.addr HIW.out).resolve_left (by omega)
     have v0:=intsIn_get (HIW.out.keep (keeps_of_below HBq.out)) haQ (show m < RA.length by omega)
     subst haQ
     obtain⟨bV,oV,haV⟩:=(SliceIn.addr HIV.out).resolve_left (by omega)
     have v2:=intsIn_get (HIV.out.keep (keeps_of_below HBq.out)) haV (show m < RB.length by omega)
     subst haV
     have s0:=keeps_of_below HBq.out _ _ r0
     have s2:=keeps_of_below HBq.out _ _ r2
     have hcw:=HIW.out.1
     have hcv:=HIV.out.1
     obtain⟨g0,g1,g2,g3⟩:=HVA.out m hm2 (by omega) (by omega)
     have HCm:Hid (∀ W,Below wt.heap.size wt W→Calls Tryz.prog 42 #[.slice aN2 (N.length+1) cN2,.string (N[m]'hm2)] W fun e w'=>e=.returned (.int .i64 m)∧w'=W):=fun W hW=>HCol.out m hm2 W (HBt.out.trans (hW.mono HBt.out.size))
     have HCm2:=Lib.hid (fun W (hW:Below wr.heap.size wr W)=>HCm.out W (HBq.out.trans (hW.mono HBq.out.size)))
     generalize (RA[m]'(by omega))=va at v0 g0 g1 g2 g3
     generalize (RB[m]'(by omega))=vb at v2 g2 g3
     generalize (N[m]'hm2)=sm at n0 HCm2 g3
     go_wp2_with fail
     have l0:decide ((N.length:Int)+1≤(m:Int))=false:=decide_eq_false (by omega)
     have l1:decide ((R.length:Int)≤(t:Int))=false:=decide_eq_false (by omega)
     have l2:decide ((N.length:Int)≤(m:Int))=false:=decide_eq_false (by omega)
     go_quiet ((go_at_call 42;exact Calls.quiet_of_same ((HCm2.out _ (below_drewN (Below.refl _ _) _)).mono fun e w' h=>⟨h.1,h.2⟩)))
     by_cases hc:(t:Int)≤cyc
     ·have d2:decide ((t:Int)≤cyc)=true:=decide_eq_true hc
      have d3:((t:Int) == cyc+1)=false:=by simp;omega
      obtain rfl:=g2 hc
      have hvv:(vb != vb)=false:=by simp
      clear g2 g3
      go_wp2_with fail
      go_quiet (fail)
      go_wp2_with fail
      go_quiet (fail)
      go_wp2_with fail
      go_roundw
      case rel=>exact⟨m+1,by go_num,by omega,below_drewN HBq.out _⟩
      case measure=>(simp[intOf];try omega)
     ·have d2:decide ((t:Int)≤cyc)=false:=decide_eq_false hc
      have htq:(t:Int)=cyc+1:=by omega
      have d3:((t:Int) == cyc+1)=true:=by simp;omega
      by_cases hsm:sm=nm
      ·obtain rfl:=g3 htq hsm
       subst hsm
       have d4:(sm.toList == sm.toList)=true:=by simp
       have hxo:bits .xor .i64 va ((2:Int) ^ bit.toNat)=xorW va (2 ^ bit.toNat):=i64_xor va _ g0 g1 (by have:=pow_pos2 bit;omega) (by have:=pow15 ⟨q3,q4⟩;omega)
       have hxx:(xorW va (2 ^ bit.toNat) != xorW va (2 ^ bit.toNat))=false:=by simp
       clear g2 g3 htq
       go_wp2_with fail
       go_quiet (fail)
       go_wp2_with fail
       go_quiet (fail)
       go_wp2_with fail
       go_roundw
       case rel=>exact⟨m+1,by go_num,by omega,below_drewN HBq.out _⟩
       case measure=>(simp[intOf];try omega)
      ·have hsn:¬ sm.toList=nm.toList:=fun h=>hsm (bytes_toList.1 h)
       have d4:(sm.toList == nm.toList)=false:=by simpa using hsn
       clear g2 g3 htq
       go_wp2_with fail
       go_quiet (fail)
       go_wp2_with fail
       go_quiet (fail)
       go_wp2_with fail
       go_roundw
       case rel=>exact⟨m+1,by go_num,by omega,below_drewN HBq.out _⟩
       case measure=>(simp[intOf];try omega)
end Go.Proofs.YtebneadheaefdaaGreatDoor
namespace Go.Proofs.YtebneadheaefdaaGreatDoor
open Go.RowKit Go.ChangeShapes Go.WideShapes Go.ChangeAt Go.Deep Go.Joins
section
variable {H : Type} {enc : TypeId × Value → H} {w : World} {sp : Nat → Bool} {hd : Bool}
theorem open_sigs {fuel:Nat} {cs:List Value} {x:DataW H × List MemPlace} (h:DataW.trod enc Tryz.prog w 0 sp hd fuel 41 cs=some x) (hb:Rows.uptoBulk x.1≤1048576) :
  ∃ (l:Sigs) (a:Option Addr) (cap:Nat),cs=[.slice a l.length cap]∧SigsIn w l a cap:=by
 refine open_elems (fun (v:ByteArray × Int) b o=>w.cell? ⟨b,o,none⟩=some (.string v.1)∧w.cell? ⟨b,o+1,none⟩=some (.int .i64 v.2)) Tryz.underlying41 cells_sig (by omega) h hb ?_
 intro n cs' y hy hlt
 obtain⟨y0,y1,m,rfl,hl,h0,h1⟩:=trod_struct2 Tryz.underlying87 hy
 rw[cells_sig] at hl
 obtain⟨c0,c1,rfl⟩:=list2 hl
 simp only[cells_int,cells_str,List.drop,List.take] at h0 h1
 obtain⟨s,e0,rfl,_⟩:=DataW.trod_string Tryz.underlying9 h0
 obtain⟨n1,e1,rfl,_⟩:=DataW.trod_int Tryz.underlying3 h1
 simp only[List.cons.injEq,and_true] at e0 e1
 subst e0 e1
 exact⟨(s,n1),fun b o hc=>⟨hc 0 (by omega),hc 1 (by omega)⟩⟩
theorem open_sigrows {fuel:Nat} {cs:List Value} {x:DataW H × List MemPlace} (h:DataW.trod enc Tryz.prog w 0 sp hd fuel 28 cs=some x) (hb:Rows.uptoBulk x.1≤1048576) :
  ∃ (l:List Sigs) (a:Option Addr) (cap:Nat),cs=[.slice a l.length cap]∧SigRows w l a cap:=by
 refine open_elems (fun (v:Sigs) b o=>∃ a' cap',w.cell? ⟨b,o,none⟩=some (.slice a' v.length cap')∧SigsIn w v a' cap') Tryz.underlying28 cells_sigs (by omega) h hb ?_
 intro n cs' y hy hlt
 obtain⟨l,a,cap,rfl,hI⟩:=open_sigs hy (by omega)
 exact⟨l,fun b o hc=>⟨a,cap,hc 0 (by omega),hI⟩⟩
end
section
variable {H : Type} {enc : TypeId × Value → H} {w : World} {base b0 : Nat} {sp : Nat → Bool} {hd : Bool} {r : Reach} {v : Value} {d : DataW H} {ps : List MemPlace}
set_option maxRecDepth 100000 in
theorem arg_sigrows (hv:Value.okWide Tryz.prog w r b0 28 v) (h:DataW.Trod enc Tryz.prog w 0 sp hd 28 v d ps) (hb:Rows.uptoBulk d≤1048576):∃ (l:List Sigs) (a:Option Addr) (cap:Nat),v=.slice a l.length cap∧SigRows w l a cap:=by
 obtain⟨a,n,c,rfl⟩:=okWide_slice Tryz.underlying28 hv
 obtain⟨fuel,hf⟩:=h
 obtain⟨l,a',cap,e,hL⟩:=open_sigrows hf hb
 refine⟨l,a',cap,?_,hL⟩
 have e':[Value.slice a n c]=[Value.slice a' l.length cap]:=e
 simpa using e'
set_option maxRecDepth 100000 in
theorem cells_place : Tryz.prog.cellsOf 59=3:=by kernel_rfl
set_option maxRecDepth 100000 in
theorem arg_place (hv:Value.okWide Tryz.prog w r b0 59 v) (h:DataW.Trod enc Tryz.prog w 0 sp hd 59 v d ps):∃ (s:ByteArray) (m n:Int),v=.agg #[.string s,.int .i64 m,.int .i64 n]:=by
 obtain⟨cs,rfl,_⟩:=okWide_struct Tryz.underlying59 hv
 obtain⟨fuel,hf0⟩:=h
 have hf':DataW.trod enc Tryz.prog w 0 sp hd fuel 59 cs.toList=some (d,ps):=hf0
 obtain⟨xs,m,_,hx,hl,hlen,hf⟩:=DataW.trod_struct Tryz.underlying59 hf'
 rw[cells_place] at hl
 obtain⟨c0,c1,c2,hcs⟩:=list3 hl
 obtain⟨y0,y1,y2,rfl⟩:=list3 hlen
 rw[hcs] at hf
 have h0:DataW.trod enc Tryz.prog w 0 sp hd m 9 [c0]=some y0:=by
  have:=hf 0 _ rfl
  simpa [cells_str] using this
 have h1:DataW.trod enc Tryz.prog w 0 sp hd m 3 [c1]=some y1:=by
  have:=hf 1 _ rfl
  simpa [cells_str,cells_int] using this
 have h2:DataW.trod enc Tryz.prog w 0 sp hd m 3 [c2]=some y2:=by
  have:=hf 2 _ rfl
  simpa [cells_str,cells_int] using this
 obtain⟨s,e0,_,_⟩:=DataW.trod_string Tryz.underlying9 h0
 obtain⟨n1,e1,_,_⟩:=DataW.trod_int Tryz.underlying3 h1
 obtain⟨n2,e2,_,_⟩:=DataW.trod_int Tryz.underlying3 h2
 simp only[List.cons.injEq,and_true] at e0 e1 e2
 subst e0 e1 e2
 refine⟨s,n1,n2,?_⟩
 have:cs=#[Value.string s,.int .i64 n1,.int .i64 n2]:=Array.toList_inj.1 hcs
 rw[this]
end
end Go.Proofs.YtebneadheaefdaaGreatDoor
namespace Go.Proofs.YtebneadheaefdaaGreatDoor
open Go.RowKit
theorem MutateFlips_any (d:DesD) (x:DesA) (nm:ByteArray) (cyc bit:Int) (rows:List Sigs) (aI:Option Addr) (cI:Nat) (w:World) (hE:DesIn w d x) (hs:DesSmall d) (hI:SigRows w rows aI cI) (hG:Glob w) (hT:Lib.TabIs Tryz.prog w "internal/strconv.uint64pow10" .u64 Lib.pow10Tab) :
  Calls Tryz.prog 11 #[desVal d x,.agg #[.string nm,.int .i64 cyc,.int .i64 bit],.slice aI rows.length cI] w fun e w'=>e=.returned (.bool true)∧Below w.heap.size w w':=MutateFlips_of d x nm cyc bit rows aI cI w hE hs hI hG (fmC_of hT) (awC_of hG hT)
end Go.Proofs.YtebneadheaefdaaGreatDoor
