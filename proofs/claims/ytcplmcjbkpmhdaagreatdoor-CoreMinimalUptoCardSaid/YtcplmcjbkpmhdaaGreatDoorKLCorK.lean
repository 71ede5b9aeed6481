/- law25: CoreMinimal. -/
import Derived.Test.YtcplmcjbkpmhdaaGreatDoorGL
import Derived.Test.YtcplmcjbkpmhdaaGreatDoorGM
set_option linter.unusedSimpArgs false
set_option linter.unusedVariables false
set_option linter.unnecessarySimpa false
namespace Go.Proofs.YtcplmcjbkpmhdaaGreatDoor
open Go.RowKit
attribute [local go_sem ↓] Go.wp_at_zero Go.wp_at_succ
theorem intsN_eraseIdx (l:List Nat) (k:Nat):(intsN l).eraseIdx k=intsN (l.eraseIdx k):=by rw[← intsN_erase,List.eraseIdx_eq_take_drop_succ]
theorem eraseN_len (l:List Nat) (k:Nat) (hl:l.length≤1000):(l.eraseIdx k).length≤1000:=Nat.le_trans (List.eraseIdx_sublist l k).length_le hl
theorem without25N_any (l:List Nat) (a:Option Addr) (c k:Nat) (W:World) (hI:IntsIn W (intsN l) a c) (hl:l.length≤1000) :
  Calls Tryz.prog 33 #[.slice a l.length c,.int .i64 (k:Int)] W fun e w'=>(∃ a' c',e=.returned (.slice a' (l.eraseIdx k).length c')∧IntsIn w' (intsN (l.eraseIdx k)) a' c')∧Below W.heap.size W w':=by
 have h:=without25_any (intsN l) a c k W hI
 rw[intsN_len,intsN_eraseIdx,intsN_len] at h
 refine h.mono ?_
 rintro e w' ⟨⟨v,rfl,h2⟩,h3⟩
 obtain⟨a',c',hv,hI'⟩:=valsN_ints (l:=l.eraseIdx k) h2 (Nat.le_trans (eraseN_len l k hl) (by decide))
 subst hv
 exact⟨⟨a',c',rfl,hI'⟩,h3⟩
set_option maxRecDepth 100000 in
set_option maxHeartbeats 16000000 in
theorem CoreMinimal_any (p:ProbD) (x:ProbA) (w:World) (hE:ProbIn w p x) (hs:ProbSmall p) (hd:p.dists.length≤1048576) (hG:Glob w) :
  Calls Tryz.prog 7 #[probVal p x] w fun e w'=>e=.returned (.bool true)∧Below w.heap.size w w':=by
 have HSm0:=Lib.hid (fun W (hW:Below w.heap.size w W)=>small25_any p x W (hE.below hW) hs)
 have HV0:=Lib.hid (fun W (hW:Below w.heap.size w W)=>r14Valid_any p x W (hE.keep (keeps_of_below hW)) hs)
 have HF0:=Lib.hid (fun (h:p.hard.length≤7∧(ProbOk p→bitsTo p.vars p.vars.length≤10)) W (hW:Below w.heap.size w W)=>Core_any p x W (hE.below hW) hs (hG.below hW) h.2 hd h.1)
 unfold CoreRet at HF0
 have HAw:=Lib.hid (fun W (hW:Below w.heap.size w W)=>awake25_any W (hG.below hW))
 have HAl0:=Lib.hid (fun (h7:p.hard.length≤7) W=>(all25_any p x W (by omega)).mono (R':=fun e w'=>(∃ a c,e=.returned (.slice a (allL p).length c)∧IntsIn w' (intsN (allL p)) a c)∧Below W.heap.size W w') fun e w' ⟨⟨v,h1,h2⟩,h3⟩=>by
  obtain⟨a,c,rfl,hI⟩:=valsN_ints h2 (by rw[allL_len];omega)
  exact⟨⟨a,c,h1,hI⟩,h3⟩)
 have HWo:=Lib.hid (fun (l:List Nat) a c k W (hI:IntsIn W (intsN l) a c) hl=>without25N_any l a c k W hI hl)
 by_cases hp:ProbOk p
 ·have HV1:=Lib.hid (fun W hW=>errT (HV0.out W hW) hp)
  have HSt0:=Lib.hid (fun (l:List Nat) a c W (hW:Below w.heap.size w W) (hI:IntsIn W (intsN l) a c) hl h7=>satisfied25_any p x l a c W (hE.below hW) hs hp hI hl h7)
  have HCl:Hid (coreL p=coreW p (allL p)∨conT p (allL p)=false):=by
   unfold coreL
   cases hcv:conT p (allL p)
   ·exact Or.inr rfl
   ·rw[if_pos (pB_true hp),if_pos rfl];exact Or.inl rfl
  have HX0:Hid (conT p (allL p)=false→coreL p=[]∧coreE p=13):=fun h=>by
   unfold coreL coreE
   rw[if_pos (pB_true hp),if_pos (pB_true hp),if_neg (by rw[h];simp),if_neg (by rw[h];simp)]
   exact⟨rfl,rfl⟩
  have HX1:Hid (conT p (allL p)=true→coreE p=0∧AscN p.hard.length (coreL p)∧satT p (coreL p)=false∧∀ j,j < (coreL p).length→satT p ((coreL p).eraseIdx j)=true):=fun h=>by
   have e:coreL p=coreW p (allL p):=by unfold coreL;rw[if_pos (pB_true hp),if_pos h]
   rw[e]
   refine⟨?_,coreW_asc (asc_range _),(core_sat h).1,(core_sat h).2⟩
   unfold coreE
   rw[if_pos (pB_true hp),if_pos h]
  have HLa:=Lib.hid (fun h7:p.hard.length≤7=>(⟨allL_lt p,by rw[allL_len];omega⟩:(∀ i,i∈allL p→i < p.hard.length)∧(allL p).length≤1000))
  have HSa:Hid (satT p (allL p)=!conT p (allL p)):=rfl
  generalize coreE p=ce at HF0 HX0 HX1
  generalize coreL p=CL at HF0 HX0 HX1
  generalize satT p=SA at HSt0 HX1 HSa
  generalize conT p (allL p)=cq at HX0 HX1 HSa
  generalize allL p=AL at HAl0 HLa HSa
  clear hE hs hG hd HV0 hp HCl
  simp only[probVal_eq] at HSm0 HF0 HV1 HAl0 HSt0⊢
  obtain⟨vs,hard,soft,ds,gs⟩:=p
  obtain⟨av,cv,ah,ch,ao,co,ad,cd,ag,cg⟩:=x
  simp only at HSm0 HF0 HV1 HAl0 HSt0 HX1 HLa⊢
  have HSm:=Lib.hid (HSm0.out (w.alloc (.cells #[.slice av vs.length cv,.slice ah hard.length ch,.slice ao soft.length co,.slice ad ds.length cd,.slice ag gs.length cg] 27)) ((Below.refl _ _).alloc (Nat.le_refl _) _))
  clear HSm0
  go_enter Tryz.func7, Tryz.ntmps7
  go_wp2_with fail
  refine HSm.out.mono ?_
  rintro e w1 ⟨⟨b,rfl,hbf⟩,hb1⟩
  simp only[World.size_alloc] at hb1
  have HB1:=Lib.hid hb1
  have hz1:=hb1.size
  simp only[World.size_alloc] at hz1
  clear hb1
  cases b
  ·clear hbf
   go_wp2_with fail
   refine(HAw.out w1 (boxW _ HB1.out)).mono ?_
   rintro e w2 ⟨rfl,hb2⟩
   have HB2:Hid (Below w.heap.size w w2):=(boxW _ HB1.out).trans (hb2.mono (boxW _ HB1.out).size)
   clear hb2
   go_wp2_with fail
   go_ret
   exact⟨rfl,HB2.out⟩
  ·have HFo:=Lib.hid (hbf rfl)
   have hh7:=HFo.out.1
   have HF1:=Lib.hid (HF0.out HFo.out)
   have HAl1:=Lib.hid (HAl0.out hh7)
   have HLa1:=Lib.hid (HLa.out hh7)
   clear hbf HF0 HAl0 HLa HFo
   have HALL:Hid (∀ W,Below (w.heap.size+1) (w.alloc (.cells #[.slice av vs.length cv,.slice ah hard.length ch,.slice ao soft.length co,.slice ad ds.length cd,.slice ag gs.length cg] 27)) W→W.cell? ⟨w.heap.size,0,none⟩=some (.slice av vs.length cv)∧W.cell? ⟨w.heap.size,1,none⟩=some (.slice ah hard.length ch)∧W.cell? ⟨w.heap.size,2,none⟩=some (.slice ao soft.length co)∧W.cell? ⟨w.heap.size,3,none⟩=some (.slice ad ds.length cd)∧W.cell? ⟨w.heap.size,4,none⟩=some (.slice ag gs.length cg)):=fun W hW=>by
    have k:=box_cell hW
    have k0:=k 0
    have k1:=k 1
    have k2:=k 2
    have k3:=k 3
    have k4:=k 4
    simp at k0 k1 k2 k3 k4
    exact⟨k0,k1,k2,k3,k4⟩
   have HAl:Hid (∀ W,Below (w.heap.size+1) (w.alloc (.cells #[.slice av vs.length cv,.slice ah hard.length ch,.slice ao soft.length co,.slice ad ds.length cd,.slice ag gs.length cg] 27)) W→Calls Tryz.prog 32 #[.agg #[.slice av vs.length cv,.slice ah hard.length ch,.slice ao soft.length co,.slice ad ds.length cd,.slice ag gs.length cg]] W fun e w'=>(∃ a c,e=.returned (.slice a AL.length c)∧IntsIn w' (intsN AL) a c)∧Below W.heap.size W w'∧Below (w.heap.size+1) (w.alloc (.cells #[.slice av vs.length cv,.slice ah hard.length ch,.slice ao soft.length co,.slice ad ds.length cd,.slice ag gs.length cg] 27)) w'):=fun W hW=>(HAl1.out W).mono fun e w' h=>⟨h.1,h.2,hW.trans (h.2.mono (by have:=hW.size;simpa using this))⟩
   have HSt:Hid (∀ (l:List Nat) a c W,Below (w.heap.size+1) (w.alloc (.cells #[.slice av vs.length cv,.slice ah hard.length ch,.slice ao soft.length co,.slice ad ds.length cd,.slice ag gs.length cg] 27)) W→IntsIn W (intsN l) a c→(∀ i,i∈l→i < hard.length)→l.length≤1000→Calls Tryz.prog 31 #[.agg #[.slice av vs.length cv,.slice ah hard.length ch,.slice ao soft.length co,.slice ad ds.length cd,.slice ag gs.length cg],.slice a l.length c] W fun e w'=>e=.returned (.bool (SA l))∧Below W.heap.size W w'∧Below (w.heap.size+1) (w.alloc (.cells #[.slice av vs.length cv,.slice ah hard.length ch,.slice ao soft.length co,.slice ad ds.length cd,.slice ag gs.length cg] 27)) w'):=fun l a c W hW hI h1 h2=>(HSt0.out l a c W (boxW _ hW) hI h1 h2).mono fun e w' h=>⟨h.1,h.2,hW.trans (h.2.mono (by have:=hW.size;simpa using this))⟩
   clear HAl1 HSt0
   ((try clear b0 b1 b2 b3 b4);have b0:=box_cell HB1.out 0;have b1:=box_cell HB1.out 1;have b2:=box_cell HB1.out 2;have b3:=box_cell HB1.out 3;have b4:=box_cell HB1.out 4;(try simp at b0 b1 b2 b3 b4))
   go_wp2_with fail
   refine(HV1.out w1 (boxW _ HB1.out)).mono ?_
   rintro e w2 ⟨rfl,hb2⟩
   have HB2:=Lib.hid (HB1.out.trans (hb2.mono hz1))
   have hz2:=HB2.out.size
   simp only[World.size_alloc] at hz2
   clear hb2 b0 b1 b2 b3 b4
   ((try clear b0 b1 b2 b3 b4);have b0:=box_cell HB2.out 0;have b1:=box_cell HB2.out 1;have b2:=box_cell HB2.out 2;have b3:=box_cell HB2.out 3;have b4:=box_cell HB2.out 4;(try simp at b0 b1 b2 b3 b4))
   go_wp2_with fail
   refine(HF1.out w2 (boxW _ HB2.out)).mono ?_
   rintro e w3 ⟨⟨v3,rfl,ho3⟩,hb3⟩
   have HB3:=Lib.hid (HB2.out.trans (hb3.mono hz2))
   have HO3:=Lib.hid ho3
   have hz3:=HB3.out.size
   simp only[World.size_alloc] at hz3
   clear hb3 ho3 b0 b1 b2 b3 b4
   have hB3:=HB3.out
   obtain⟨b0,b1,b2,b3,b4⟩:=HALL.out _ hB3
   cases cq
   ·obtain⟨rfl,rfl⟩:=HX0.out rfl
    have HStA:Hid (∀ a c W,Below (w.heap.size+1) (w.alloc (.cells #[.slice av vs.length cv,.slice ah hard.length ch,.slice ao soft.length co,.slice ad ds.length cd,.slice ag gs.length cg] 27)) W→IntsIn W (intsN AL) a c→Calls Tryz.prog 31 #[.agg #[.slice av vs.length cv,.slice ah hard.length ch,.slice ao soft.length co,.slice ad ds.length cd,.slice ag gs.length cg],.slice a AL.length c] W fun e w'=>e=.returned (.bool true)∧Below W.heap.size W w'∧Below (w.heap.size+1) (w.alloc (.cells #[.slice av vs.length cv,.slice ah hard.length ch,.slice ao soft.length co,.slice ad ds.length cd,.slice ag gs.length cg] 27)) w'):=fun a c W h1 h2=>(HSt.out AL a c W h1 h2 HLa1.out.1 HLa1.out.2).mono fun e w' h=>by rw[HSa.out] at h;exact h
    obtain⟨a3,c3,rfl,-⟩:=valsN_ints HO3.out (by simp)
    clear HX0 HX1 HSt HSa HLa1
    go_wp2_with fail
    go_region_held3 (fun w'=>Below (w.heap.size+1) (w.alloc (.cells #[.slice av vs.length cv,.slice ah hard.length ch,.slice ao soft.length co,.slice ad ds.length cd,.slice ag gs.length cg] 27)) w'∧w'.cell? ⟨w.heap.size,0,none⟩=some (.slice av vs.length cv)∧w'.cell? ⟨w.heap.size,1,none⟩=some (.slice ah hard.length ch)∧w'.cell? ⟨w.heap.size,2,none⟩=some (.slice ao soft.length co)∧w'.cell? ⟨w.heap.size,3,none⟩=some (.slice ad ds.length cd)∧w'.cell? ⟨w.heap.size,4,none⟩=some (.slice ag gs.length cg))
     ((refine(fun h=>⟨h,HALL.out _ h⟩) ?_;first | with_reducible assumption | exact bel))
     (first
      | (go_at_call 32;(with_reducible refine(HAl.out _ (by first | with_reducible assumption | exact bel)).mono ?_);rintro e w4 ⟨⟨va,vc,rfl,hL4⟩,hb4,hB4⟩)
      | (go_at_call 31;(with_reducible refine(HStA.out _ _ _ (by first | with_reducible assumption | exact bel) (by first | exact hL4 | exact hL4.keep (fun _ _ h=>h))).mono ?_);rintro e w5 ⟨rfl,hb5,hB5⟩))
    all_goals
     have HB5:=Lib.hid (boxW _ hB5)
     clear hB5 hB4 hb5 hb4
     go_wp2_with fail
     refine(HAw.out w5 HB5.out).mono ?_
     rintro e w6 ⟨rfl,hb6⟩
     have HB6:Hid (Below w.heap.size w w6):=HB5.out.trans (hb6.mono HB5.out.size)
     clear hb6
     go_wp2_with fail
     go_ret
     exact⟨rfl,HB6.out⟩
   ·obtain⟨rfl,hasc,hsat,hsw⟩:=HX1.out rfl
    have HStA:Hid (∀ a c W,Below (w.heap.size+1) (w.alloc (.cells #[.slice av vs.length cv,.slice ah hard.length ch,.slice ao soft.length co,.slice ad ds.length cd,.slice ag gs.length cg] 27)) W→IntsIn W (intsN AL) a c→Calls Tryz.prog 31 #[.agg #[.slice av vs.length cv,.slice ah hard.length ch,.slice ao soft.length co,.slice ad ds.length cd,.slice ag gs.length cg],.slice a AL.length c] W fun e w'=>e=.returned (.bool false)∧Below W.heap.size W w'∧Below (w.heap.size+1) (w.alloc (.cells #[.slice av vs.length cv,.slice ah hard.length ch,.slice ao soft.length co,.slice ad ds.length cd,.slice ag gs.length cg] 27)) w'):=fun a c W h1 h2=>(HSt.out AL a c W h1 h2 HLa1.out.1 HLa1.out.2).mono fun e w' h=>by rw[HSa.out] at h;exact h
    have hcl7:CL.length≤7:=Nat.le_trans (asc_len hasc) hh7
    have HStC:Hid (∀ a c W,Below (w.heap.size+1) (w.alloc (.cells #[.slice av vs.length cv,.slice ah hard.length ch,.slice ao soft.length co,.slice ad ds.length cd,.slice ag gs.length cg] 27)) W→IntsIn W (intsN CL) a c→Calls Tryz.prog 31 #[.agg #[.slice av vs.length cv,.slice ah hard.length ch,.slice ao soft.length co,.slice ad ds.length cd,.slice ag gs.length cg],.slice a CL.length c] W fun e w'=>e=.returned (.bool false)∧Below W.heap.size W w'∧Below (w.heap.size+1) (w.alloc (.cells #[.slice av vs.length cv,.slice ah hard.length ch,.slice ao soft.length co,.slice ad ds.length cd,.slice ag gs.length cg] 27)) w'):=fun a c W h1 h2=>(HSt.out CL a c W h1 h2 hasc.2 (by omega)).mono fun e w' h=>by rw[hsat] at h;exact h
    have HStW:Hid (∀ k,k < CL.length→∀ a c W,Below (w.heap.size+1) (w.alloc (.cells #[.slice av vs.length cv,.slice ah hard.length ch,.slice ao soft.length co,.slice ad ds.length cd,.slice ag gs.length cg] 27)) W→IntsIn W (intsN (CL.eraseIdx k)) a c→Calls Tryz.prog 31 #[.agg #[.slice av vs.length cv,.slice ah hard.length ch,.slice ao soft.length co,.slice ad ds.length cd,.slice ag gs.length cg],.slice a (CL.eraseIdx k).length c] W fun e w'=>e=.returned (.bool true)∧Below W.heap.size W w'∧Below (w.heap.size+1) (w.alloc (.cells #[.slice av vs.length cv,.slice ah hard.length ch,.slice ao soft.length co,.slice ad ds.length cd,.slice ag gs.length cg] 27)) w'):=fun k hk a c W h1 h2=>(HSt.out (CL.eraseIdx k) a c W h1 h2 (fun i hi=>hasc.2 i ((List.eraseIdx_sublist ..).subset hi)) (by have:=(List.eraseIdx_sublist CL k).length_le;omega)).mono fun e w' h=>by rw[hsw k hk] at h;exact h
    have HWk:Hid (∀ (k:Nat) (W:World) (a:Option Addr) (c:Nat),Below (w.heap.size+1) (w.alloc (.cells #[.slice av vs.length cv,.slice ah hard.length ch,.slice ao soft.length co,.slice ad ds.length cd,.slice ag gs.length cg] 27)) W→IntsIn W (intsN CL) a c→Calls Tryz.prog 33 #[.slice a CL.length c,.int .i64 (k:Int)] W fun e w'=>(∃ a' c',e=.returned (.slice a' (CL.eraseIdx k).length c')∧IntsIn w' (intsN (CL.eraseIdx k)) a' c')∧Below W.heap.size W w'∧Below (w.heap.size+1) (w.alloc (.cells #[.slice av vs.length cv,.slice ah hard.length ch,.slice ao soft.length co,.slice ad ds.length cd,.slice ag gs.length cg] 27)) w'):=fun k W a c hW hI=>(HWo.out CL a c k W hI (by omega)).mono fun e w' h=>⟨h.1,h.2,hW.trans (h.2.mono (by have:=hW.size;simpa using this))⟩
    have HLt:Hid (∀ k (h:k < CL.length),(CL[k]'h) < hard.length):=fun k h=>hasc.2 _ (List.getElem_mem h)
    have HUp:Hid (∀ k (h:k+1 < CL.length),(CL[k]'(by omega)) < (CL[k+1]'h)):=fun k h=>List.pairwise_iff_getElem.1 hasc.1 k (k+1) (by omega) h (by omega)
    obtain⟨a3,c3,rfl,hI3⟩:=valsN_ints HO3.out (by omega)
    have HI3:=Lib.hid hI3
    clear HX0 HX1 HSt HSa HLa1 hasc hsat hsw HWo hI3
    go_wp2_with fail
    go_region_held3 (fun w'=>Below (w.heap.size+1) (w.alloc (.cells #[.slice av vs.length cv,.slice ah hard.length ch,.slice ao soft.length co,.slice ad ds.length cd,.slice ag gs.length cg] 27)) w'∧w'.cell? ⟨w.heap.size,0,none⟩=some (.slice av vs.length cv)∧w'.cell? ⟨w.heap.size,1,none⟩=some (.slice ah hard.length ch)∧w'.cell? ⟨w.heap.size,2,none⟩=some (.slice ao soft.length co)∧w'.cell? ⟨w.heap.size,3,none⟩=some (.slice ad ds.length cd)∧w'.cell? ⟨w.heap.size,4,none⟩=some (.slice ag gs.length cg))
     ((refine(fun h=>⟨h,HALL.out _ h⟩) ?_;first | with_reducible assumption | exact bel))
     (first
      | (go_at_call 32;(with_reducible refine(HAl.out _ (by first | with_reducible assumption | exact bel)).mono ?_);rintro e w4 ⟨⟨va,vc,rfl,hL4⟩,hb4,hB4⟩)
      | (go_at_call 31;(with_reducible refine(HStA.out _ _ _ (by first | with_reducible assumption | exact bel) (by first | exact hL4 | exact hL4.keep (fun _ _ h=>h))).mono ?_);rintro e w5 ⟨rfl,hb5,hB5⟩))
    all_goals
     have HB5:=Lib.hid hB5
     have HI5:=Lib.hid (HI3.out.keep (keeps_of_below (hb4.trans (hb5.mono hb4.size))))
     clear hB5 hB4 hb5 hb4 hL4
     obtain⟨b0,b1,b2,b3,b4⟩:=HALL.out _ HB5.out
     go_wp2_with fail
     go_loopw [38,5,6] (fun i _ _ wr=>∃ k:Nat,i=.int .i64 k∧k≤CL.length∧Hid (IntsIn wr (intsN CL) a3 c3)∧Hid (Below (w.heap.size+1) (w.alloc (.cells #[.slice av vs.length cv,.slice ah hard.length ch,.slice ao soft.length co,.slice ad ds.length cd,.slice ag gs.length cg] 27)) wr)) (fun i _ _ _=>CL.length - (intOf i).toNat)
     case atStart=>exact⟨0,rfl,Nat.zero_le _,HI5,HB5⟩
     case round =>
      obtain⟨k,rfl,hk,HI,HB⟩:=hrel
      have hkw:IntKind.i64.wrap ((k:Int)+1)=(k:Int)+1:=by rw[IntKind.wrap_i64];omega
      obtain⟨b0,b1,b2,b3,b4⟩:=HALL.out _ HB.out
      by_cases hlt:k < CL.length
      ·obtain⟨ib,io,hia⟩:=HI.out.addr.resolve_left (by rw[intsN_len];omega)
       subst hia
       have hlt9:k < (intsN CL).length:=by rw[intsN_len];exact hlt
       have i0:=intsIn_get HI.out rfl hlt9
       rw[intsN_get hlt hlt9] at i0
       have hx:=HLt.out k hlt
       cases k with
       | zero =>
        generalize (CL[0]'hlt)=x1 at i0 hx
        have hx0:(0:Int)≤(x1:Int):=by omega
        have hx1:(x1:Int) < (hard.length:Int):=by omega
        have hi0:io+0=io:=rfl
        rw[hi0] at i0
        go_wp2_with fail
        go_roundw
        case rel=>exact⟨0+1,by go_num,by omega,HI,HB⟩
        case measure=>(simp[intOf];try omega)
       | succ k =>
        have hlt8:k < (intsN CL).length:=by rw[intsN_len];omega
        have i1:=intsIn_get HI.out rfl hlt8
        rw[intsN_get (by omega) hlt8] at i1
        have hu:=HUp.out k hlt
        generalize (CL[k+1]'hlt)=x1 at i0 hx hu
        generalize (CL[k]'_)=x2 at i1 hu
        have hx0:(0:Int)≤(x1:Int):=by omega
        have hx1:(x1:Int) < (hard.length:Int):=by omega
        have hx2:(x2:Int) < (x1:Int):=by omega
        have hk1:(((k+1:Nat):Int)) - 1=(k:Int):=by omega
        have hk2:IntKind.i64.wrap (((k+1:Nat):Int) - 1)=(k:Int):=by rw[IntKind.wrap_i64];omega
        have hk3:(0:Int) < ((k+1:Nat):Int):=by omega
        have hk4:(0:Int)≤(k:Int):=by omega
        have hk5:(k:Int) < (CL.length:Int):=by omega
        go_wp2_with fail
        go_roundw
        case rel=>exact⟨k+1+1,by go_num,by omega,HI,HB⟩
        case measure=>(simp[intOf];try omega)
      ·obtain rfl:k=CL.length:=by omega
       generalize wr=w6 at *
       go_wp2_with fail
       refine(HStC.out _ _ _ HB.out HI.out).mono ?_
       rintro e w7 ⟨rfl,hb7,hB7⟩
       have HB7:=Lib.hid hB7
       have HI7:=Lib.hid (HI.out.keep (keeps_of_below hb7))
       clear hb7 hB7
       go_wp2_with fail
       go_loopw [75,7] (fun i _ wr=>∃ k:Nat,i=.int .i64 k∧k≤CL.length∧Hid (IntsIn wr (intsN CL) a3 c3)∧Hid (Below (w.heap.size+1) (w.alloc (.cells #[.slice av vs.length cv,.slice ah hard.length ch,.slice ao soft.length co,.slice ad ds.length cd,.slice ag gs.length cg] 27)) wr)) (fun i _ _=>CL.length - (intOf i).toNat)
       case atStart=>exact⟨0,rfl,Nat.zero_le _,HI7,HB7⟩
       case round =>
        obtain⟨k,rfl,hk,HI,HB⟩:=hrel
        have hkw:IntKind.i64.wrap ((k:Int)+1)=(k:Int)+1:=by rw[IntKind.wrap_i64];omega
        have hB9:=HB.out
        obtain⟨b0,b1,b2,b3,b4⟩:=HALL.out _ hB9
        by_cases hlt:k < CL.length
        ·have HWk2:Hid (∀ W,Below (w.heap.size+1) (w.alloc (.cells #[.slice av vs.length cv,.slice ah hard.length ch,.slice ao soft.length co,.slice ad ds.length cd,.slice ag gs.length cg] 27)) W→Below wr.heap.size wr W→Calls Tryz.prog 33 #[.slice a3 CL.length c3,.int .i64 (k:Int)] W fun e w'=>(∃ a' c',e=.returned (.slice a' (CL.eraseIdx k).length c')∧IntsIn w' (intsN (CL.eraseIdx k)) a' c')∧Below W.heap.size W w'∧Below (w.heap.size+1) (w.alloc (.cells #[.slice av vs.length cv,.slice ah hard.length ch,.slice ao soft.length co,.slice ad ds.length cd,.slice ag gs.length cg] 27)) w'∧Below wr.heap.size wr w'):=fun W hW hb=>(HWk.out k W a3 c3 hW (HI.out.keep (keeps_of_below hb))).mono fun e w' h=>⟨h.1,h.2.1,h.2.2,hb.trans (h.2.1.mono hb.size)⟩
         have HSk2:Hid (∀ a c W,Below (w.heap.size+1) (w.alloc (.cells #[.slice av vs.length cv,.slice ah hard.length ch,.slice ao soft.length co,.slice ad ds.length cd,.slice ag gs.length cg] 27)) W→Below wr.heap.size wr W→IntsIn W (intsN (CL.eraseIdx k)) a c→Calls Tryz.prog 31 #[.agg #[.slice av vs.length cv,.slice ah hard.length ch,.slice ao soft.length co,.slice ad ds.length cd,.slice ag gs.length cg],.slice a (CL.eraseIdx k).length c] W fun e w'=>e=.returned (.bool true)∧Below W.heap.size W w'∧Below (w.heap.size+1) (w.alloc (.cells #[.slice av vs.length cv,.slice ah hard.length ch,.slice ao soft.length co,.slice ad ds.length cd,.slice ag gs.length cg] 27)) w'∧Below wr.heap.size wr w'):=fun a c W hW hb hI=>(HStW.out k hlt a c W hW hI).mono fun e w' h=>⟨h.1,h.2.1,h.2.2,hb.trans (h.2.1.mono hb.size)⟩
         have hbr:Below wr.heap.size wr wr:=Below.refl _ _
         go_wp2_with fail
         go_region_held3 (fun w'=>(Below (w.heap.size+1) (w.alloc (.cells #[.slice av vs.length cv,.slice ah hard.length ch,.slice ao soft.length co,.slice ad ds.length cd,.slice ag gs.length cg] 27)) w'∧Below wr.heap.size wr w')∧w'.cell? ⟨w.heap.size,0,none⟩=some (.slice av vs.length cv)∧w'.cell? ⟨w.heap.size,1,none⟩=some (.slice ah hard.length ch)∧w'.cell? ⟨w.heap.size,2,none⟩=some (.slice ao soft.length co)∧w'.cell? ⟨w.heap.size,3,none⟩=some (.slice ad ds.length cd)∧w'.cell? ⟨w.heap.size,4,none⟩=some (.slice ag gs.length cg))
          ((refine(fun h1 h2=>⟨⟨h1,h2⟩,HALL.out _ h1⟩) ?_ ?_<;>first | with_reducible assumption | exact bel))
          (first
           | (go_at_call 33;(with_reducible refine(HWk2.out _ (by first | with_reducible assumption | exact bel) (by first | with_reducible assumption | exact bel)).mono ?_);rintro e w8 ⟨⟨va8,vc8,rfl,hL8⟩,hb8,hB8,hs8⟩)
           | (go_at_call 31;(with_reducible refine(HSk2.out _ _ _ (by first | with_reducible assumption | exact bel) (by first | with_reducible assumption | exact bel) (by first | exact hL8 | exact hL8.keep (fun _ _ h=>h))).mono ?_);rintro e w9 ⟨rfl,hb9,hB9,hs9⟩))
         all_goals
          have HB9:=Lib.hid hB9
          have HI9:=Lib.hid (HI.out.keep (keeps_of_below hs9))
          clear hb8 hB8 hs8 hb9 hB9 hs9 hL8
          go_wp2_with fail
          go_roundw
          case rel=>exact⟨k+1,by go_num,by omega,HI9,HB9⟩
          case measure=>(simp[intOf];try omega)
        ·obtain rfl:k=CL.length:=by omega
         have HBw:=Lib.hid (boxW _ HB.out)
         go_wp2_with fail
         refine(HAw.out wr HBw.out).mono ?_
         rintro e w9 ⟨rfl,hb9⟩
         have HB9:Hid (Below w.heap.size w w9):=HBw.out.trans (hb9.mono HBw.out.size)
         clear hb9
         go_wp2_with fail
         go_ret
         exact⟨rfl,HB9.out⟩
 ·have HV1:=Lib.hid (fun W hW=>errF (HV0.out W hW) hp)
  clear hE hs hG hd HV0 hp HF0 HAl0 HWo
  simp only[probVal_eq] at HSm0 HV1⊢
  obtain⟨vs,hard,soft,ds,gs⟩:=p
  obtain⟨av,cv,ah,ch,ao,co,ad,cd,ag,cg⟩:=x
  simp only at HSm0 HV1⊢
  have HSm:=Lib.hid (HSm0.out (w.alloc (.cells #[.slice av vs.length cv,.slice ah hard.length ch,.slice ao soft.length co,.slice ad ds.length cd,.slice ag gs.length cg] 27)) ((Below.refl _ _).alloc (Nat.le_refl _) _))
  clear HSm0
  go_enter Tryz.func7, Tryz.ntmps7
  go_wp2_with fail
  refine HSm.out.mono ?_
  rintro e w1 ⟨⟨b,rfl,-⟩,hb1⟩
  simp only[World.size_alloc] at hb1
  have HB1:=Lib.hid hb1
  have hz1:=hb1.size
  simp only[World.size_alloc] at hz1
  clear hb1
  cases b
  ·go_wp2_with fail
   refine(HAw.out w1 (boxW _ HB1.out)).mono ?_
   rintro e w2 ⟨rfl,hb2⟩
   have HB2:Hid (Below w.heap.size w w2):=(boxW _ HB1.out).trans (hb2.mono (boxW _ HB1.out).size)
   clear hb2
   go_wp2_with fail
   go_ret
   exact⟨rfl,HB2.out⟩
  ·((try clear b0 b1 b2 b3 b4);have b0:=box_cell HB1.out 0;have b1:=box_cell HB1.out 1;have b2:=box_cell HB1.out 2;have b3:=box_cell HB1.out 3;have b4:=box_cell HB1.out 4;(try simp at b0 b1 b2 b3 b4))
   go_wp2_with fail
   refine(HV1.out w1 (boxW _ HB1.out)).mono ?_
   rintro e w2 ⟨⟨n,rfl,hn⟩,hb2⟩
   have HB2:=Lib.hid ((boxW _ HB1.out).trans (hb2.mono (boxW _ HB1.out).size))
   clear hb2
   go_wp2_with fail
   refine(HAw.out w2 HB2.out).mono ?_
   rintro e w3 ⟨rfl,hb3⟩
   have HB3:Hid (Below w.heap.size w w3):=HB2.out.trans (hb3.mono HB2.out.size)
   clear hb3
   go_wp2_with fail
   go_ret
   exact⟨rfl,HB3.out⟩
end Go.Proofs.YtcplmcjbkpmhdaaGreatDoor
