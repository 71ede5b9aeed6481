/- law25: CoreLists. -/
import Derived.Test.YtcplmcjbkpmhdaaGreatDoorGC
import Derived.Test.YtcplmcjbkpmhdaaGreatDoorGH
import Derived.Test.YtcplmcjbkpmhdaaGreatDoorGG
import Derived.Test.YtcplmcjbkpmhdaaGreatDoorGL
set_option linter.unusedSimpArgs false
set_option linter.unusedVariables false
set_option linter.unnecessarySimpa false
namespace Go.Proofs.YtcplmcjbkpmhdaaGreatDoor
open Go.RowKit
attribute [local go_sem ↓] Go.wp_at_zero Go.wp_at_succ
set_option maxRecDepth 100000 in
set_option maxHeartbeats 8000000 in
theorem CoreLists_any (p:ProbD) (x:ProbA) (m:Int) (w:World) (hE:ProbIn w p x) (hs:ProbSmall p) (hd:p.dists.length≤1048576) (hG:Glob w) :
  Calls Tryz.prog 6 #[probVal p x,.int .i64 m] w fun e w'=>e=.returned (.bool true)∧Below w.heap.size w w':=by
 have HSm0:=Lib.hid (fun W (hW:Below w.heap.size w W)=>small25_any p x W (hE.below hW) hs)
 have HF0:=Lib.hid (fun (h:p.hard.length≤7∧(ProbOk p→bitsTo p.vars p.vars.length≤10)) W (hW:Below w.heap.size w W)=>(Cores_any p x m W (hE.below hW) hs (hG.below hW) h.2 hd h.1).mono fun e w' hr=>corsRet_mem hr h.1)
 have HR0:=Lib.hid (fun (h:p.hard.length≤7∧(ProbOk p→bitsTo p.vars p.vars.length≤10)) W (hW:Below w.heap.size w W)=>(rCores_any p x m W (hE.below hW) hs h.2 hd h.1).mono fun e w' hr=>corsRet_mem hr h.1)
 have HAw:=Lib.hid (fun W (hW:Below w.heap.size w W)=>awake25_any W (hG.below hW))
 have HSa:=Lib.hid (fun W aa ca ab cb (hA:RowsIn W ((corsL p m).map intsN) aa ca) (hB:RowsIn W ((corsL p m).map intsN) ab cb)=>Same25_any ((corsL p m).map intsN) ((corsL p m).map intsN) aa ab ca cb W hA hB)
 simp only[decide_true,List.length_map] at HSa
 generalize (corsL p m).length=n at HF0 HR0 HSa
 generalize (corsL p m).map intsN=LZ at HF0 HR0 HSa
 generalize corsE p m=err at HF0 HR0
 clear hE hs hG hd
 simp only[probVal_eq] at HSm0 HF0 HR0⊢
 obtain⟨vs,hard,soft,ds,gs⟩:=p
 obtain⟨av,cv,ah,ch,ao,co,ad,cd,ag,cg⟩:=x
 simp only at HSm0 HF0 HR0⊢
 have HSm:=Lib.hid (HSm0.out (w.alloc (.cells #[.slice av vs.length cv,.slice ah hard.length ch,.slice ao soft.length co,.slice ad ds.length cd,.slice ag gs.length cg] 27)) ((Below.refl _ _).alloc (Nat.le_refl _) _))
 clear HSm0
 go_enter Tryz.func6, Tryz.ntmps6
 go_wp2_with fail
 refine HSm.out.mono ?_
 rintro e w1 ⟨⟨b,rfl,hbf⟩,hb1⟩
 simp only[World.size_alloc] at hb1
 have HB1:=Lib.hid hb1
 have hz1:=hb1.size
 simp only[World.size_alloc] at hz1
 clear hb1
 cases b
 ·clear hbf
  go_wp2_with fail
  refine(HAw.out w1 (boxW _ HB1.out)).mono ?_
  rintro e w2 ⟨rfl,hb2⟩
  have HB2:Hid (Below w.heap.size w w2):=(boxW _ HB1.out).trans (hb2.mono (boxW _ HB1.out).size)
  clear hb2
  go_wp2_with fail
  go_ret
  exact⟨rfl,HB2.out⟩
 ·have HFo:=Lib.hid (hbf rfl)
  clear hbf
  ((try clear b0 b1 b2 b3 b4);have b0:=box_cell HB1.out 0;have b1:=box_cell HB1.out 1;have b2:=box_cell HB1.out 2;have b3:=box_cell HB1.out 3;have b4:=box_cell HB1.out 4;(try simp at b0 b1 b2 b3 b4))
  go_wp2_with fail
  refine(HF0.out HFo.out w1 (boxW _ HB1.out)).mono ?_
  rintro e w2 ⟨a1,c1,rfl,hI1,hb2⟩
  have HB2:=Lib.hid (HB1.out.trans (hb2.mono hz1))
  have HI1:=Lib.hid hI1
  have hz2:=HB2.out.size
  simp only[World.size_alloc] at hz2
  clear hb2 hI1 b0 b1 b2 b3 b4
  ((try clear b0 b1 b2 b3 b4);have b0:=box_cell HB2.out 0;have b1:=box_cell HB2.out 1;have b2:=box_cell HB2.out 2;have b3:=box_cell HB2.out 3;have b4:=box_cell HB2.out 4;(try simp at b0 b1 b2 b3 b4))
  go_wp2_with fail
  refine(HR0.out HFo.out w2 (boxW _ HB2.out)).mono ?_
  rintro e w3 ⟨a2,c2,rfl,hI2,hb3⟩
  have HB3:=Lib.hid (HB2.out.trans (hb3.mono hz2))
  have HIc:=Lib.hid (HSa.out w3 _ _ _ _ (HI1.out.keep (keeps_of_below hb3)) hI2)
  clear hb3 hI2 b0 b1 b2 b3 b4
  have hee:(err == err)=true:=by simp
  go_wp2_with fail
  refine HIc.out.mono ?_
  rintro e w4 ⟨rfl,hb4⟩
  have HB4:Hid (Below w.heap.size w w4):=(boxW _ HB3.out).trans (hb4.mono (boxW _ HB3.out).size)
  clear hb4
  go_wp2_with fail
  refine(HAw.out w4 HB4.out).mono ?_
  rintro e w5 ⟨rfl,hb5⟩
  have HB5:Hid (Below w.heap.size w w5):=HB4.out.trans (hb5.mono HB4.out.size)
  clear hb5
  go_wp2_with fail
  go_ret
  exact⟨rfl,HB5.out⟩
end Go.Proofs.YtcplmcjbkpmhdaaGreatDoor
