/- law25: CoreDiffer. -/
import Derived.Test.YtcplmcjbkpmhdaaGreatDoorGL
import Derived.Test.YtcplmcjbkpmhdaaGreatDoorGM
set_option linter.unusedSimpArgs false
set_option linter.unusedVariables false
set_option linter.unnecessarySimpa false
namespace Go.Proofs.YtcplmcjbkpmhdaaGreatDoor
open Go.RowKit
attribute [local go_sem ↓] Go.wp_at_zero Go.wp_at_succ
theorem corsL_good {p:ProbD} (hp:ProbOk p) (hcv:conT p (allL p)=true):corsE p 8=0∧CoresGood p (corsL p 8)∧1≤(corsL p 8).length:=by
 have hc:pB (ProbOk p)=true∧(1:Int)≤8∧(8:Int)≤64:=⟨pB_true hp,by decide,by decide⟩
 have e1:corsE p 8=0:=by unfold corsE;rw[if_pos hc,if_pos hcv]
 have e2:corsL p 8=coresS (conT p) p.hard.length 8 (coreW p (allL p)):=by unfold corsL;rw[if_pos hc,if_pos hcv];rfl
 rw[e1,e2]
 exact⟨rfl,cores_good hcv,(cores_len (by decide)).1⟩
theorem corsL_none {p:ProbD} (hp:ProbOk p) (hcv:conT p (allL p)=false):corsE p 8=13∧corsL p 8=[]:=by
 have hc:pB (ProbOk p)=true∧(1:Int)≤8∧(8:Int)≤64:=⟨pB_true hp,by decide,by decide⟩
 have e1:corsE p 8=13:=by unfold corsE;rw[if_pos hc,if_neg (by rw[hcv];simp)]
 have e2:corsL p 8=[]:=by unfold corsL;rw[if_pos hc,if_neg (by rw[hcv];simp)]
 exact⟨e1,e2⟩
theorem mem_intsN' {c:List Nat} {x:Int}:x∈intsN c↔∃ n,n∈c∧(n:Int)=x:=by unfold intsN;rw[List.mem_map]
theorem part_intsN {c o:List Nat}:(∀ x,x∈intsN o→x∈intsN c)↔∀ n,n∈o→n∈c:=by
 constructor
 ·intro h n hn
  obtain⟨k,hk,e⟩:=mem_intsN'.1 (h (n:Int) (mem_intsN'.2 ⟨n,hn,rfl⟩))
  have:k=n:=by omega
  rw[← this]
  exact hk
 ·intro h x hx
  obtain⟨n,hn,rfl⟩:=mem_intsN'.1 hx
  exact mem_intsN'.2 ⟨n,h n hn,rfl⟩
set_option maxRecDepth 100000 in
set_option maxHeartbeats 16000000 in
theorem CoreDiffer_any (p:ProbD) (x:ProbA) (w:World) (hE:ProbIn w p x) (hs:ProbSmall p) (hd:p.dists.length≤1048576) (hG:Glob w) :
  Calls Tryz.prog 8 #[probVal p x] w fun e w'=>e=.returned (.bool true)∧Below w.heap.size w w':=by
 have HSm0:=Lib.hid (fun W (hW:Below w.heap.size w W)=>small25_any p x W (hE.below hW) hs)
 have HV0:=Lib.hid (fun W (hW:Below w.heap.size w W)=>r14Valid_any p x W (hE.keep (keeps_of_below hW)) hs)
 have HF0:=Lib.hid (fun (h:p.hard.length≤7∧(ProbOk p→bitsTo p.vars p.vars.length≤10)) W (hW:Below w.heap.size w W)=>(Cores_any p x 8 W (hE.below hW) hs (hG.below hW) h.2 hd h.1).mono fun e w' hr=>corsRet_mem hr h.1)
 have HAw:=Lib.hid (fun W (hW:Below w.heap.size w W)=>awake25_any W (hG.below hW))
 have HAl0:=Lib.hid (fun (h7:p.hard.length≤7) W=>(all25_any p x W (by omega)).mono (R':=fun e w'=>(∃ a c,e=.returned (.slice a (allL p).length c)∧IntsIn w' (intsN (allL p)) a c)∧Below W.heap.size W w') fun e w' ⟨⟨v,h1,h2⟩,h3⟩=>by
  obtain⟨a,c,rfl,hI⟩:=valsN_ints h2 (by rw[allL_len];omega)
  exact⟨⟨a,c,h1,hI⟩,h3⟩)
 have HCo:=Lib.hid (fun (l o:List Nat) a c b d W (hL:IntsIn W (intsN l) a c) (hP:IntsIn W (intsN o) b d)=>contains25_any (intsN l) (intsN o) a b c d W hL hP)
 simp only[intsN_len,part_intsN] at HCo
 by_cases hp:ProbOk p
 ·have HV1:=Lib.hid (fun W hW=>errT (HV0.out W hW) hp)
  have HSt0:=Lib.hid (fun (l:List Nat) a c W (hW:Below w.heap.size w W) (hI:IntsIn W (intsN l) a c) hl h7=>satisfied25_any p x l a c W (hE.below hW) hs hp hI hl h7)
  have HX0:Hid (conT p (allL p)=false→corsE p 8=13∧corsL p 8=[]):=fun h=>corsL_none hp h
  have HX1:Hid (conT p (allL p)=true→corsE p 8=0∧1≤(corsL p 8).length∧(∀ i (h:i < (corsL p 8).length),AscN p.hard.length ((corsL p 8)[i]'h)∧satT p ((corsL p 8)[i]'h)=false)∧(∀ i k (hi:i < (corsL p 8).length) (hk:k < (corsL p 8).length),i≠k→decide (∀ n,n∈(corsL p 8)[k]'hk→n∈(corsL p 8)[i]'hi)=false)):=fun h=>by
   obtain⟨h1,h2,h3⟩:=corsL_good hp h
   refine⟨h1,h3,fun i hi=>?_,fun i k hi hk hne=>decide_eq_false (cores_apart h2 hi hk hne)⟩
   have:=h2.1 _ (List.getElem_mem hi)
   exact⟨this.asc,by unfold satT;rw[this.con];rfl⟩
  have HLn:=Lib.hid (corsL_ok p 8).1
  have HLa:=Lib.hid (fun h7:p.hard.length≤7=>(⟨allL_lt p,by rw[allL_len];omega⟩:(∀ i,i∈allL p→i < p.hard.length)∧(allL p).length≤1000))
  have HAll:Hid (∀ c,AscN p.hard.length c→decide (∀ n,n∈c→n∈allL p)=true):=fun c h=>decide_eq_true fun n hn=>List.mem_range.2 (h.2 n hn)
  have HSa:Hid (satT p (allL p)=!conT p (allL p)):=rfl
  generalize corsE p 8=ce at HF0 HX0 HX1
  generalize corsL p 8=CL at HF0 HX0 HX1 HLn
  generalize satT p=SA at HSt0 HX1 HSa
  generalize conT p (allL p)=cq at HX0 HX1 HSa
  generalize allL p=AL at HAl0 HLa HSa HAll
  clear hE hs hG hd HV0 hp
  simp only[probVal_eq] at HSm0 HF0 HV1 HAl0 HSt0⊢
  obtain⟨vs,hard,soft,ds,gs⟩:=p
  obtain⟨av,cv,ah,ch,ao,co,ad,cd,ag,cg⟩:=x
  simp only at HSm0 HF0 HV1 HAl0 HSt0 HX1 HLa HAll⊢
  have HSm:=Lib.hid (HSm0.out (w.alloc (.cells #[.slice av vs.length cv,.slice ah hard.length ch,.slice ao soft.length co,.slice ad ds.length cd,.slice ag gs.length cg] 27)) ((Below.refl _ _).alloc (Nat.le_refl _) _))
  clear HSm0
  go_enter Tryz.func8, Tryz.ntmps8
  go_wp2_with fail
  refine HSm.out.mono ?_
  rintro e w1 ⟨⟨b,rfl,hbf⟩,hb1⟩
  simp only[World.size_alloc] at hb1
  have HB1:=Lib.hid hb1
  have hz1:=hb1.size
  simp only[World.size_alloc] at hz1
  clear hb1
  cases b
  ·clear hbf
   go_wp2_with fail
   refine(HAw.out w1 (boxW _ HB1.out)).mono ?_
   rintro e w2 ⟨rfl,hb2⟩
   have HB2:Hid (Below w.heap.size w w2):=(boxW _ HB1.out).trans (hb2.mono (boxW _ HB1.out).size)
   clear hb2
   go_wp2_with fail
   go_ret
   exact⟨rfl,HB2.out⟩
  ·have HFo:=Lib.hid (hbf rfl)
   have hh7:=HFo.out.1
   have HF1:=Lib.hid (HF0.out HFo.out)
   have HAl1:=Lib.hid (HAl0.out hh7)
   have HLa1:=Lib.hid (HLa.out hh7)
   clear hbf HF0 HAl0 HLa HFo
   have HALL:Hid (∀ W,Below (w.heap.size+1) (w.alloc (.cells #[.slice av vs.length cv,.slice ah hard.length ch,.slice ao soft.length co,.slice ad ds.length cd,.slice ag gs.length cg] 27)) W→W.cell? ⟨w.heap.size,0,none⟩=some (.slice av vs.length cv)∧W.cell? ⟨w.heap.size,1,none⟩=some (.slice ah hard.length ch)∧W.cell? ⟨w.heap.size,2,none⟩=some (.slice ao soft.length co)∧W.cell? ⟨w.heap.size,3,none⟩=some (.slice ad ds.length cd)∧W.cell? ⟨w.heap.size,4,none⟩=some (.slice ag gs.length cg)):=fun W hW=>by
    have k:=box_cell hW
    have k0:=k 0
    have k1:=k 1
    have k2:=k 2
    have k3:=k 3
    have k4:=k 4
    simp at k0 k1 k2 k3 k4
    exact⟨k0,k1,k2,k3,k4⟩
   have HAl:Hid (∀ W,Below (w.heap.size+1) (w.alloc (.cells #[.slice av vs.length cv,.slice ah hard.length ch,.slice ao soft.length co,.slice ad ds.length cd,.slice ag gs.length cg] 27)) W→Calls Tryz.prog 32 #[.agg #[.slice av vs.length cv,.slice ah hard.length ch,.slice ao soft.length co,.slice ad ds.length cd,.slice ag gs.length cg]] W fun e w'=>(∃ a c,e=.returned (.slice a AL.length c)∧IntsIn w' (intsN AL) a c)∧Below W.heap.size W w'∧Below (w.heap.size+1) (w.alloc (.cells #[.slice av vs.length cv,.slice ah hard.length ch,.slice ao soft.length co,.slice ad ds.length cd,.slice ag gs.length cg] 27)) w'):=fun W hW=>(HAl1.out W).mono fun e w' h=>⟨h.1,h.2,hW.trans (h.2.mono (by have:=hW.size;simpa using this))⟩
   have HSt:Hid (∀ (l:List Nat) a c W,Below (w.heap.size+1) (w.alloc (.cells #[.slice av vs.length cv,.slice ah hard.length ch,.slice ao soft.length co,.slice ad ds.length cd,.slice ag gs.length cg] 27)) W→IntsIn W (intsN l) a c→(∀ i,i∈l→i < hard.length)→l.length≤1000→Calls Tryz.prog 31 #[.agg #[.slice av vs.length cv,.slice ah hard.length ch,.slice ao soft.length co,.slice ad ds.length cd,.slice ag gs.length cg],.slice a l.length c] W fun e w'=>e=.returned (.bool (SA l))∧Below W.heap.size W w'∧Below (w.heap.size+1) (w.alloc (.cells #[.slice av vs.length cv,.slice ah hard.length ch,.slice ao soft.length co,.slice ad ds.length cd,.slice ag gs.length cg] 27)) w'):=fun l a c W hW hI h1 h2=>(HSt0.out l a c W (boxW _ hW) hI h1 h2).mono fun e w' h=>⟨h.1,h.2,hW.trans (h.2.mono (by have:=hW.size;simpa using this))⟩
   clear HAl1 HSt0
   ((try clear b0 b1 b2 b3 b4);have b0:=box_cell HB1.out 0;have b1:=box_cell HB1.out 1;have b2:=box_cell HB1.out 2;have b3:=box_cell HB1.out 3;have b4:=box_cell HB1.out 4;(try simp at b0 b1 b2 b3 b4))
   go_wp2_with fail
   refine(HV1.out w1 (boxW _ HB1.out)).mono ?_
   rintro e w2 ⟨rfl,hb2⟩
   have HB2:=Lib.hid (HB1.out.trans (hb2.mono hz1))
   have hz2:=HB2.out.size
   simp only[World.size_alloc] at hz2
   clear hb2 b0 b1 b2 b3 b4
   ((try clear b0 b1 b2 b3 b4);have b0:=box_cell HB2.out 0;have b1:=box_cell HB2.out 1;have b2:=box_cell HB2.out 2;have b3:=box_cell HB2.out 3;have b4:=box_cell HB2.out 4;(try simp at b0 b1 b2 b3 b4))
   go_wp2_with fail
   refine(HF1.out w2 (boxW _ HB2.out)).mono ?_
   rintro e w3 ⟨a3,c3,rfl,hR3,hb3⟩
   have HB3:=Lib.hid (HB2.out.trans (hb3.mono hz2))
   have HR3:=Lib.hid hR3
   have hz3:=HB3.out.size
   simp only[World.size_alloc] at hz3
   clear hb3 hR3 b0 b1 b2 b3 b4
   have hB3:=HB3.out
   obtain⟨b0,b1,b2,b3,b4⟩:=HALL.out _ hB3
   cases cq
   ·obtain⟨rfl,rfl⟩:=HX0.out rfl
    have HStA:Hid (∀ a c W,Below (w.heap.size+1) (w.alloc (.cells #[.slice av vs.length cv,.slice ah hard.length ch,.slice ao soft.length co,.slice ad ds.length cd,.slice ag gs.length cg] 27)) W→IntsIn W (intsN AL) a c→Calls Tryz.prog 31 #[.agg #[.slice av vs.length cv,.slice ah hard.length ch,.slice ao soft.length co,.slice ad ds.length cd,.slice ag gs.length cg],.slice a AL.length c] W fun e w'=>e=.returned (.bool true)∧Below W.heap.size W w'∧Below (w.heap.size+1) (w.alloc (.cells #[.slice av vs.length cv,.slice ah hard.length ch,.slice ao soft.length co,.slice ad ds.length cd,.slice ag gs.length cg] 27)) w'):=fun a c W h1 h2=>(HSt.out AL a c W h1 h2 HLa1.out.1 HLa1.out.2).mono fun e w' h=>by rw[HSa.out] at h;exact h
    clear HX0 HX1 HSt HSa HLa1
    go_wp2_with fail
    go_region_held3 (fun w'=>Below (w.heap.size+1) (w.alloc (.cells #[.slice av vs.length cv,.slice ah hard.length ch,.slice ao soft.length co,.slice ad ds.length cd,.slice ag gs.length cg] 27)) w'∧w'.cell? ⟨w.heap.size,0,none⟩=some (.slice av vs.length cv)∧w'.cell? ⟨w.heap.size,1,none⟩=some (.slice ah hard.length ch)∧w'.cell? ⟨w.heap.size,2,none⟩=some (.slice ao soft.length co)∧w'.cell? ⟨w.heap.size,3,none⟩=some (.slice ad ds.length cd)∧w'.cell? ⟨w.heap.size,4,none⟩=some (.slice ag gs.length cg))
     ((refine(fun h=>⟨h,HALL.out _ h⟩) ?_;first | with_reducible assumption | exact bel))
     (first
      | (go_at_call 32;(with_reducible refine(HAl.out _ (by first | with_reducible assumption | exact bel)).mono ?_);rintro e w4 ⟨⟨va,vc,rfl,hL4⟩,hb4,hB4⟩)
      | (go_at_call 31;(with_reducible refine(HStA.out _ _ _ (by first | with_reducible assumption | exact bel) (by first | exact hL4 | exact hL4.keep (fun _ _ h=>h))).mono ?_);rintro e w5 ⟨rfl,hb5,hB5⟩))
    all_goals
     have HB5:=Lib.hid (boxW _ hB5)
     clear hB5 hB4 hb5 hb4
     go_wp2_with fail
     go_loopw [40,5,6,7,8] (fun i _ _ _ _ wr=>i=.int .i64 0∧Hid (Below w.heap.size w wr)) (fun i _ _ _ _ _=>0)
     case atStart=>exact⟨rfl,HB5⟩
     case round =>
      obtain⟨rfl,HB⟩:=hrel
      go_wp2_with fail
      refine(HAw.out wr HB.out).mono ?_
      rintro e w6 ⟨rfl,hb6⟩
      have HB6:Hid (Below w.heap.size w w6):=HB.out.trans (hb6.mono HB.out.size)
      clear hb6
      go_wp2_with fail
      go_ret
      exact⟨rfl,HB6.out⟩
   ·obtain⟨rfl,hl1,hgd,hap⟩:=HX1.out rfl
    have HGd:=Lib.hid hgd
    have HAp:=Lib.hid hap
    have HStA:Hid (∀ a c W,Below (w.heap.size+1) (w.alloc (.cells #[.slice av vs.length cv,.slice ah hard.length ch,.slice ao soft.length co,.slice ad ds.length cd,.slice ag gs.length cg] 27)) W→IntsIn W (intsN AL) a c→Calls Tryz.prog 31 #[.agg #[.slice av vs.length cv,.slice ah hard.length ch,.slice ao soft.length co,.slice ad ds.length cd,.slice ag gs.length cg],.slice a AL.length c] W fun e w'=>e=.returned (.bool false)∧Below W.heap.size W w'∧Below (w.heap.size+1) (w.alloc (.cells #[.slice av vs.length cv,.slice ah hard.length ch,.slice ao soft.length co,.slice ad ds.length cd,.slice ag gs.length cg] 27)) w'):=fun a c W h1 h2=>(HSt.out AL a c W h1 h2 HLa1.out.1 HLa1.out.2).mono fun e w' h=>by rw[HSa.out] at h;exact h
    have hl64:=HLn.out
    have hgt:(0:Int) < (CL.length:Int):=by omega
    have hgn:decide (0 < CL.length)=true:=decide_eq_true (by omega)
    clear HX0 HX1 HSa HLa1 hgd hap
    go_wp2_with fail
    go_region_held3 (fun w'=>Below (w.heap.size+1) (w.alloc (.cells #[.slice av vs.length cv,.slice ah hard.length ch,.slice ao soft.length co,.slice ad ds.length cd,.slice ag gs.length cg] 27)) w'∧w'.cell? ⟨w.heap.size,0,none⟩=some (.slice av vs.length cv)∧w'.cell? ⟨w.heap.size,1,none⟩=some (.slice ah hard.length ch)∧w'.cell? ⟨w.heap.size,2,none⟩=some (.slice ao soft.length co)∧w'.cell? ⟨w.heap.size,3,none⟩=some (.slice ad ds.length cd)∧w'.cell? ⟨w.heap.size,4,none⟩=some (.slice ag gs.length cg))
     ((refine(fun h=>⟨h,HALL.out _ h⟩) ?_;first | with_reducible assumption | exact bel))
     (first
      | (go_at_call 32;(with_reducible refine(HAl.out _ (by first | with_reducible assumption | exact bel)).mono ?_);rintro e w4 ⟨⟨va,vc,rfl,hL4⟩,hb4,hB4⟩)
      | (go_at_call 31;(with_reducible refine(HStA.out _ _ _ (by first | with_reducible assumption | exact bel) (by first | exact hL4 | exact hL4.keep (fun _ _ h=>h))).mono ?_);rintro e w5 ⟨rfl,hb5,hB5⟩))
    all_goals
     have HB5:=Lib.hid hB5
     have HR5:=Lib.hid (HR3.out.keep (keeps_of_below (hb4.trans (hb5.mono hb4.size))))
     clear hB5 hB4 hb5 hb4 hL4 HStA
     go_wp2_with fail
     go_loopw [40,5,6,7,8] (fun i _ _ _ _ wr=>∃ k:Nat,i=.int .i64 k∧k≤CL.length∧Hid (RowsIn wr (CL.map intsN) a3 c3)∧Hid (Below (w.heap.size+1) (w.alloc (.cells #[.slice av vs.length cv,.slice ah hard.length ch,.slice ao soft.length co,.slice ad ds.length cd,.slice ag gs.length cg] 27)) wr)) (fun i _ _ _ _ _=>CL.length - (intOf i).toNat)
     case atStart=>exact⟨0,rfl,Nat.zero_le _,HR5,HB5⟩
     case round =>
      obtain⟨k,rfl,hk,HR,HB⟩:=hrel
      have hkw:IntKind.i64.wrap ((k:Int)+1)=(k:Int)+1:=by rw[IntKind.wrap_i64];omega
      by_cases hlt:k < CL.length
      ·have hltm:k < (CL.map intsN).length:=by rw[List.length_map];exact hlt
       obtain⟨rb,ro,hra⟩:=HR.out.addr.resolve_left (by rw[List.length_map];omega)
       subst hra
       obtain⟨ra,rc,r0,hI⟩:=HR.out.get rfl hltm
       rw[List.getElem_map,intsN_len] at r0
       rw[List.getElem_map] at hI
       have HI:=Lib.hid hI
       obtain⟨hasc,hsat⟩:=HGd.out k hlt
       have HApk:=Lib.hid (fun j hj=>HAp.out k j hlt hj)
       have hc7:(CL[k]'hlt).length≤7:=Nat.le_trans (asc_len hasc) hh7
       have HStC:Hid (∀ W,Below (w.heap.size+1) (w.alloc (.cells #[.slice av vs.length cv,.slice ah hard.length ch,.slice ao soft.length co,.slice ad ds.length cd,.slice ag gs.length cg] 27)) W→IntsIn W (intsN (CL[k]'hlt)) ra rc→Calls Tryz.prog 31 #[.agg #[.slice av vs.length cv,.slice ah hard.length ch,.slice ao soft.length co,.slice ad ds.length cd,.slice ag gs.length cg],.slice ra (CL[k]'hlt).length rc] W fun e w'=>e=.returned (.bool false)∧Below W.heap.size W w'∧Below (w.heap.size+1) (w.alloc (.cells #[.slice av vs.length cv,.slice ah hard.length ch,.slice ao soft.length co,.slice ad ds.length cd,.slice ag gs.length cg] 27)) w'):=fun W h1 h2=>(HSt.out _ ra rc W h1 h2 hasc.2 (by omega)).mono fun e w' h=>by rw[hsat] at h;exact h
       have HAlk:=Lib.hid (HAll.out _ hasc)
       clear hI hasc hsat
       generalize hc:(CL[k]'hlt)=cr at r0 HI HApk HStC HAlk hc7
       clear hc
       have hk0:(0:Int)≤(k:Int):=by omega
       go_wp2_with fail
       generalize wr=wt at *
       go_loopw [47,7,8] (fun i _ _ wq=>∃ j:Nat,i=.int .i64 j∧j≤CL.length∧Hid (RowsIn wq (CL.map intsN) (some ⟨rb,ro,none⟩) c3)∧Hid (IntsIn wq (intsN cr) ra rc)∧Hid (Below (w.heap.size+1) (w.alloc (.cells #[.slice av vs.length cv,.slice ah hard.length ch,.slice ao soft.length co,.slice ad ds.length cd,.slice ag gs.length cg] 27)) wq)) (fun i _ _ _=>CL.length - (intOf i).toNat)
       case atStart=>exact⟨0,rfl,Nat.zero_le _,HR,HI,HB⟩
       case round =>
        obtain⟨j,rfl,hj,HR2,HI2,HB2⟩:=hrel
        have hjw:IntKind.i64.wrap ((j:Int)+1)=(j:Int)+1:=by rw[IntKind.wrap_i64];omega
        have hzr:=HB2.out.size
        simp only[World.size_alloc] at hzr
        by_cases hjl:j < CL.length
        ·have hjm:j < (CL.map intsN).length:=by rw[List.length_map];exact hjl
         obtain⟨qa,qc,q0,hJ⟩:=HR2.out.get rfl hjm
         rw[List.getElem_map,intsN_len] at q0
         rw[List.getElem_map] at hJ
         by_cases hkj:k=j
         ·have hne:((k:Int) != (j:Int))=false:=by simp[hkj]
          clear hJ
          generalize (CL[j]'hjl)=orr at q0
          have Hkj:=Lib.hid hkj
          clear hkj
          go_wp2_with fail
          go_roundw
          case rel=>exact⟨j+1,by go_num,by omega,HR2,HI2,HB2⟩
          case measure=>(simp[intOf];try omega)
         ·have hne:((k:Int) != (j:Int))=true:=by simp;omega
          have HCj:=Lib.hid (HCo.out cr (CL[j]'hjl) ra rc qa qc wr HI2.out hJ)
          rw[HApk.out j hjl hkj] at HCj
          clear hJ hkj
          generalize (CL[j]'hjl)=orr at q0 HCj
          go_wp2_with fail
          refine HCj.out.mono ?_
          rintro e w7 ⟨rfl,hb7⟩
          have HB7:=Lib.hid (HB2.out.trans (hb7.mono (by omega)))
          have HR7:=Lib.hid (HR2.out.keep (keeps_of_below hb7))
          have HI7:=Lib.hid (HI2.out.keep (keeps_of_below hb7))
          clear hb7
          go_wp2_with fail
          go_roundw
          case rel=>exact⟨j+1,by go_num,by omega,HR7,HI7,HB7⟩
          case measure=>(simp[intOf];try omega)
        ·obtain rfl:j=CL.length:=by omega
         ((try clear b0 b1 b2 b3 b4);have b0:=box_cell HB2.out 0;have b1:=box_cell HB2.out 1;have b2:=box_cell HB2.out 2;have b3:=box_cell HB2.out 3;have b4:=box_cell HB2.out 4;(try simp at b0 b1 b2 b3 b4))
         go_wp2_with fail
         refine(HAl.out wr HB2.out).mono ?_
         rintro e w7 ⟨⟨va7,vc7,rfl,hL7⟩,hb7,hB7⟩
         have HB7:=Lib.hid hB7
         have HR7:=Lib.hid (HR2.out.keep (keeps_of_below hb7))
         have HI7:=Lib.hid (HI2.out.keep (keeps_of_below hb7))
         have HC7:=Lib.hid (HCo.out AL cr va7 vc7 ra rc w7 hL7 HI7.out)
         rw[HAlk.out] at HC7
         have hz7:=hB7.size
         simp only[World.size_alloc] at hz7
         clear hb7 hB7 hL7 b0 b1 b2 b3 b4
         go_wp2_with fail
         refine HC7.out.mono ?_
         rintro e w8 ⟨rfl,hb8⟩
         have HB8:=Lib.hid (HB7.out.trans (hb8.mono (by omega)))
         have HR8:=Lib.hid (HR7.out.keep (keeps_of_below hb8))
         have HI8:=Lib.hid (HI7.out.keep (keeps_of_below hb8))
         clear hb8
         ((try clear b0 b1 b2 b3 b4);have b0:=box_cell HB8.out 0;have b1:=box_cell HB8.out 1;have b2:=box_cell HB8.out 2;have b3:=box_cell HB8.out 3;have b4:=box_cell HB8.out 4;(try simp at b0 b1 b2 b3 b4))
         go_wp2_with fail
         refine(HStC.out w8 HB8.out HI8.out).mono ?_
         rintro e w9 ⟨rfl,hb9,hB9⟩
         have HB9:=Lib.hid hB9
         have HR9:=Lib.hid (HR8.out.keep (keeps_of_below hb9))
         clear hb9 hB9
         go_wp2_with fail
         go_roundw
         case rel=>exact⟨k+1,by go_num,by omega,HR9,HB9⟩
         case measure=>(simp[intOf];try omega)
      ·obtain rfl:k=CL.length:=by omega
       have HBw:=Lib.hid (boxW _ HB.out)
       go_wp2_with fail
       refine(HAw.out wr HBw.out).mono ?_
       rintro e w9 ⟨rfl,hb9⟩
       have HB9:Hid (Below w.heap.size w w9):=HBw.out.trans (hb9.mono HBw.out.size)
       clear hb9
       go_wp2_with fail
       go_ret
       exact⟨rfl,HB9.out⟩
 ·have HV1:=Lib.hid (fun W hW=>errF (HV0.out W hW) hp)
  clear hE hs hG hd HV0 hp HF0 HAl0 HCo
  simp only[probVal_eq] at HSm0 HV1⊢
  obtain⟨vs,hard,soft,ds,gs⟩:=p
  obtain⟨av,cv,ah,ch,ao,co,ad,cd,ag,cg⟩:=x
  simp only at HSm0 HV1⊢
  have HSm:=Lib.hid (HSm0.out (w.alloc (.cells #[.slice av vs.length cv,.slice ah hard.length ch,.slice ao soft.length co,.slice ad ds.length cd,.slice ag gs.length cg] 27)) ((Below.refl _ _).alloc (Nat.le_refl _) _))
  clear HSm0
  go_enter Tryz.func8, Tryz.ntmps8
  go_wp2_with fail
  refine HSm.out.mono ?_
  rintro e w1 ⟨⟨b,rfl,-⟩,hb1⟩
  simp only[World.size_alloc] at hb1
  have HB1:=Lib.hid hb1
  have hz1:=hb1.size
  simp only[World.size_alloc] at hz1
  clear hb1
  cases b
  ·go_wp2_with fail
   refine(HAw.out w1 (boxW _ HB1.out)).mono ?_
   rintro e w2 ⟨rfl,hb2⟩
   have HB2:Hid (Below w.heap.size w w2):=(boxW _ HB1.out).trans (hb2.mono (boxW _ HB1.out).size)
   clear hb2
   go_wp2_with fail
   go_ret
   exact⟨rfl,HB2.out⟩
  ·((try clear b0 b1 b2 b3 b4);have b0:=box_cell HB1.out 0;have b1:=box_cell HB1.out 1;have b2:=box_cell HB1.out 2;have b3:=box_cell HB1.out 3;have b4:=box_cell HB1.out 4;(try simp at b0 b1 b2 b3 b4))
   go_wp2_with fail
   refine(HV1.out w1 (boxW _ HB1.out)).mono ?_
   rintro e w2 ⟨⟨n,rfl,hn⟩,hb2⟩
   have HB2:=Lib.hid ((boxW _ HB1.out).trans (hb2.mono (boxW _ HB1.out).size))
   clear hb2
   go_wp2_with fail
   refine(HAw.out w2 HB2.out).mono ?_
   rintro e w3 ⟨rfl,hb3⟩
   have HB3:Hid (Below w.heap.size w w3):=HB2.out.trans (hb3.mono HB2.out.size)
   clear hb3
   go_wp2_with fail
   go_ret
   exact⟨rfl,HB3.out⟩
end Go.Proofs.YtcplmcjbkpmhdaaGreatDoor
