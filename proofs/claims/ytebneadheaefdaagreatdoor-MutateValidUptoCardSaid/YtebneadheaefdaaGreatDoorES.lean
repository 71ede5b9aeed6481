/- ref31: Same. -/
import Derived.Test.YtebneadheaefdaaGreatDoorER
import Derived.Test.YtebneadheaefdaaGreatDoorEO
set_option linter.unusedSimpArgs false
set_option linter.unusedVariables false
set_option linter.unnecessarySimpa false
namespace Go.Proofs.YtebneadheaefdaaGreatDoor
open Go.RowKit
attribute [local go_sem ↓] Go.wp_at_zero Go.wp_at_succ
theorem des_eq {nm nm2:ByteArray} {ins ins2:List PortD} {wires wires2:List WireD} {regs regs2:List RegD} {outs outs2:List ByteArray} :
  ((⟨nm,ins,wires,regs,outs⟩:DesD)=⟨nm2,ins2,wires2,regs2,outs2⟩)↔nm=nm2∧ins=ins2∧wires=wires2∧regs=regs2∧outs=outs2:=by
 constructor
 ·intro h;injection h with h1 h2 h3 h4 h5;exact⟨h1,h2,h3,h4,h5⟩
 ·rintro ⟨rfl,rfl,rfl,rfl,rfl⟩;rfl
theorem list_next {α:Type} {l l2:List α} (hl:l.length=l2.length) {k:Nat} (hk:k < l.length) (hk2:k < l2.length) (h:∀ j (hj:j < l.length) (hj2:j < l2.length),j < k→l[j]'hj=l2[j]'hj2) (he:l[k]'hk=l2[k]'hk2):∀ j (hj:j < l.length) (hj2:j < l2.length),j < k+1→l[j]'hj=l2[j]'hj2:=by
 intro j hj hj2 h1
 by_cases e:j=k
 ·subst e;exact he
 ·exact h j hj hj2 (by omega)
theorem list_ne {α:Type} {l l2:List α} {k:Nat} (hk:k < l.length) (hk2:k < l2.length) (h:¬ l[k]'hk=l2[k]'hk2):¬ l=l2:=by rintro rfl;exact h rfl
theorem bel_drewN {B:Nat} {w0 w:World} (h:Below B w0 w) (n:Nat):Below B w0 (w.drewN n):=⟨h.os,h.tape,h.output,h.size,h.block⟩
theorem cell_al {w:World} {a:Addr} {v:Value} (h:w.cell? a=some v) (o:Obj):(w.alloc o).cell? a=some v:=keeps_of_below ((Below.refl _ _).alloc (Nat.le_refl _) o) _ _ h
theorem five_cells {p:Nat} {W2 wr:World} {t:TypeId} {a0 a1 a2 a3 a4 c0 c1 c2 c3 c4:Value} (h:Below (p+2) W2 wr) (h1:W2.heap[p]? = some (.cells #[a0,a1,a2,a3,a4] t (0,0))) (h2:W2.heap[p+1]? = some (.cells #[c0,c1,c2,c3,c4] t (0,0))) :
  (wr.cell? ⟨p,1,none⟩=some a1∧wr.cell? ⟨p,2,none⟩=some a2∧wr.cell? ⟨p,3,none⟩=some a3∧wr.cell? ⟨p,4,none⟩=some a4)∧wr.cell? ⟨p+1,1,none⟩=some c1∧wr.cell? ⟨p+1,2,none⟩=some c2∧wr.cell? ⟨p+1,3,none⟩=some c3∧wr.cell? ⟨p+1,4,none⟩=some c4:=by
 have e1:=(h.block p (by omega)).trans h1
 have e2:=(h.block (p+1) (by omega)).trans h2
 refine⟨⟨?_,?_,?_,?_⟩,?_,?_,?_,?_⟩<;>simp[World.cell?,e1,e2]
set_option maxRecDepth 100000 in
set_option maxHeartbeats 16000000 in
theorem same31_any (a b:DesD) (x y:DesA) (w:World) (hA:DesIn w a x) (hB:DesIn w b y) :
  Calls Tryz.prog 33 #[desVal a x,desVal b y] w (BoolIs (pB (a=b)) w):=by
 obtain⟨nm,ins,wires,regs,outs⟩:=a
 obtain⟨nm2,ins2,wires2,regs2,outs2⟩:=b
 have HI:=Lib.hid hA.ins
 have HW:=Lib.hid hA.wires
 have HR:=Lib.hid hA.regs
 have HO:=Lib.hid hA.outs
 have HI2:=Lib.hid hB.ins
 have HW2:=Lib.hid hB.wires
 have HR2:=Lib.hid hB.regs
 have HO2:=Lib.hid hB.outs
 have HIA:=Lib.hid (SliceIn.addr hA.ins)
 have HWA:=Lib.hid (SliceIn.addr hA.wires)
 have HRA:=Lib.hid (SliceIn.addr hA.regs)
 have HOA:=Lib.hid (SliceIn.addr hA.outs)
 have HIB:=Lib.hid (SliceIn.addr hB.ins)
 have HWB:=Lib.hid (SliceIn.addr hB.wires)
 have HRB:=Lib.hid (SliceIn.addr hB.regs)
 have HOB:=Lib.hid (SliceIn.addr hB.outs)
 have li:=hA.ins.2.1
 have lw:=hA.wires.2.1
 have lr:=hA.regs.2.1
 have lo:=hA.outs.2.1
 have HS8:=Lib.hid (fun u v ax cx ay cy W h1 h2=>same08_any u v ax cx ay cy W h1 h2)
 have HY:Hid (∀ w',nm=nm2→ins=ins2→wires=wires2→regs=regs2→outs=outs2→Below w.heap.size w w'→BoolIs (pB ((⟨nm,ins,wires,regs,outs⟩:DesD)=⟨nm2,ins2,wires2,regs2,outs2⟩)) w (.returned (.bool true)) w'):=fun w' h1 h2 h3 h4 h5 h=>⟨by rw[pB_true (des_eq.2 ⟨h1,h2,h3,h4,h5⟩)],h⟩
 have HN:Hid (∀ w',¬ (nm=nm2∧ins=ins2∧wires=wires2∧regs=regs2∧outs=outs2)→Below w.heap.size w w'→BoolIs (pB ((⟨nm,ins,wires,regs,outs⟩:DesD)=⟨nm2,ins2,wires2,regs2,outs2⟩)) w (.returned (.bool false)) w'):=fun w' h1 h=>⟨by rw[pB_false (fun e=>h1 (des_eq.1 e))],h⟩
 generalize BoolIs (pB ((⟨nm,ins,wires,regs,outs⟩:DesD)=⟨nm2,ins2,wires2,regs2,outs2⟩)) w=Po at HY HN⊢
 clear hA hB
 obtain⟨ai,ci,aw,cw,ar,cr,ao,co⟩:=x
 obtain⟨bi,di,bw,dw,br,dr,bo,dO⟩:=y
 simp only[desVal,desVals] at *
 by_cases h1:nm=nm2∧ins.length=ins2.length∧wires.length=wires2.length∧regs.length=regs2.length∧outs.length=outs2.length
 ·obtain⟨rfl,l1,l2,l3,l4⟩:=h1
  have L1:=Lib.hid l1
  have L2:=Lib.hid l2
  have L3:=Lib.hid l3
  have L4:=Lib.hid l4
  have hd1:(nm.toList != nm.toList)=false:=by simp
  have hd2:((ins.length:Int) != (ins2.length:Int))=false:=by simp;omega
  have hd3:((wires.length:Int) != (wires2.length:Int))=false:=by simp;omega
  have hd4:((regs.length:Int) != (regs2.length:Int))=false:=by simp;omega
  have hd5:((outs.length:Int) != (outs2.length:Int))=false:=by simp;omega
  clear l1 l2 l3 l4
  go_enter Tryz.func33, Tryz.ntmps33
  go_wp2_with fail
  clear hd1 hd2 hd3 hd4 hd5
  generalize hW2:(w.alloc (.cells #[.string nm,.slice ai ins.length ci,.slice aw wires.length cw,.slice ar regs.length cr,.slice ao outs.length co] 27)).alloc (.cells #[.string nm,.slice bi ins2.length di,.slice bw wires2.length dw,.slice br regs2.length dr,.slice bo outs2.length dO] 27)=V2
  have hz2:V2.heap.size=w.heap.size+2:=by rw[← hW2];simp
  have HB2:Hid (Below w.heap.size w V2):=by show Below _ _ _;rw[← hW2];exact bel
  have HV1:Hid (V2.heap[w.heap.size]? = some (.cells #[.string nm,.slice ai ins.length ci,.slice aw wires.length cw,.slice ar regs.length cr,.slice ao outs.length co] 27 (0,0))):=by
   show _=_
   rw[← hW2]
   exact(Below.heap_alloc _ _ _ (by simp)).trans (heap_alloc_new' w _)
  have HV2:Hid (V2.heap[w.heap.size+1]? = some (.cells #[.string nm,.slice bi ins2.length di,.slice bw wires2.length dw,.slice br regs2.length dr,.slice bo outs2.length dO] 27 (0,0))):=by
   show _=_
   rw[← hW2]
   have h:=heap_alloc_new' (w.alloc (.cells #[.string nm,.slice ai ins.length ci,.slice aw wires.length cw,.slice ar regs.length cr,.slice ao outs.length co] 27)) (.cells #[.string nm,.slice bi ins2.length di,.slice bw wires2.length dw,.slice br regs2.length dr,.slice bo outs2.length dO] 27)
   simp only[World.size_alloc] at h
   exact h
  have HK:Hid (∀ wr,Below (w.heap.size+2) V2 wr→((wr.cell? ⟨w.heap.size,1,none⟩=some (.slice ai ins.length ci)∧wr.cell? ⟨w.heap.size,2,none⟩=some (.slice aw wires.length cw)∧wr.cell? ⟨w.heap.size,3,none⟩=some (.slice ar regs.length cr)∧wr.cell? ⟨w.heap.size,4,none⟩=some (.slice ao outs.length co))∧wr.cell? ⟨w.heap.size+1,1,none⟩=some (.slice bi ins2.length di)∧wr.cell? ⟨w.heap.size+1,2,none⟩=some (.slice bw wires2.length dw)∧wr.cell? ⟨w.heap.size+1,3,none⟩=some (.slice br regs2.length dr)∧wr.cell? ⟨w.heap.size+1,4,none⟩=some (.slice bo outs2.length dO))∧Below w.heap.size w wr∧w.heap.size+2≤wr.heap.size):=fun wr h=>by
   exact⟨five_cells h HV1.out HV2.out,HB2.out.trans (h.mono (by omega)),by have:=h.size;omega⟩
  clear hW2
  have HB:Hid (Below (w.heap.size+2) V2 V2):=Below.refl _ _
  go_loopw [5] (fun i wr=>∃ k:Nat,i=.int .i64 k∧k≤ins.length∧Hid (∀ j (hj:j < ins.length) (hj2:j < ins2.length),j < k→ins[j]'hj=ins2[j]'hj2)∧Hid (Below (w.heap.size+2) V2 wr)) (fun i _=>ins.length - (intOf i).toNat)
  case atStart=>exact⟨0,rfl,Nat.zero_le _,fun _ _ _ h=>absurd h (Nat.not_lt_zero _),HB⟩
  case round =>
   clear HB
   obtain⟨k,rfl,hk,HAl,HB⟩:=hrel
   obtain⟨⟨⟨x1,x2,x3,x4⟩,y1,y2,y3,y4⟩,hbw,hzr⟩:=HK.out wr HB.out
   by_cases hlt:k < ins.length
   ·have hltb:k < ins2.length:=by have:=L1.out;omega
    obtain⟨p1,o1,ha1⟩:=HIA.out.resolve_left (by omega)
    obtain⟨p2,o2,ha2⟩:=HIB.out.resolve_left (by omega)
    subst ha1 ha2
    have HNx:=Lib.hid (fun he=>list_next L1.out hlt hltb HAl.out he)
    have HNo:Hid (¬ (ins[k]'hlt=ins2[k]'hltb)→∀ w',Below w.heap.size w w'→Po (.returned (.bool false)) w'):=fun he w' h=>HN.out w' (fun e=>list_ne hlt hltb he e.2.1) h
    clear HAl
    obtain⟨c0,c1⟩:=(HI.out.keep (keeps_of_below hbw)).get rfl hlt
    obtain⟨d0,d1⟩:=(HI2.out.keep (keeps_of_below hbw)).get rfl hltb
    generalize (ins[k]'hlt)=u at c0 c1 HNx HNo
    generalize (ins2[k]'hltb)=v at d0 d1 HNx HNo
    obtain⟨un,uw⟩:=u
    obtain⟨vn,vw⟩:=v
    simp only[PortD.mk.injEq] at c0 c1 d0 d1 HNx HNo
    by_cases he:un=vn∧uw=vw
    ·have HNx1:=Lib.hid (HNx.out he)
     obtain⟨rfl,rfl⟩:=he
     have q1:(un.toList != un.toList)=false:=by simp
     have q2:(un.toList == un.toList)=true:=by simp
     clear HNx HNo
     go_wp2_with fail
     go_quiet (fail)
     go_wp2_with fail
     go_roundw
     case rel=>exact⟨k+1,by go_num,by omega,HNx1,Lib.hid (bel_drewN HB.out _)⟩
     case measure=>(simp[intOf];try omega)
    ·have HPf:=Lib.hid (HNo.out he)
     clear HNx HNo
     have hq:(un.toList == vn.toList)=false∨un=vn∧(uw == vw)=false:=by
      by_cases e1:un=vn
      ·exact Or.inr ⟨e1,beq_eq_false_iff_ne.2 fun e2=>he ⟨e1,e2⟩⟩
      ·exact Or.inl (by have:=tl_ne e1;simpa [bne] using this)
     clear he
     rcases hq with q | ⟨rfl,q⟩
     all_goals
      go_wp2_with fail
      go_quiet (fail)
      go_wp2_with fail
      first | exact HPf.out _ (bel_drewN hbw _) | (go_ret;exact HPf.out _ (bel_drewN hbw _))
   ·obtain rfl:k=ins.length:=by omega
    have HE1:Hid (ins=ins2):=List.ext_getElem L1.out fun j hj hj2=>HAl.out j hj hj2 hj
    clear HAl
    rename World=>wa1
    go_wp2_with fail
    clear x1 x2 x3 x4 y1 y2 y3 y4 hbw hzr
    go_loopw [6] (fun i wr=>∃ k:Nat,i=.int .i64 k∧k≤wires.length∧Hid (∀ j (hj:j < wires.length) (hj2:j < wires2.length),j < k→wires[j]'hj=wires2[j]'hj2)∧Hid (Below (w.heap.size+2) V2 wr)) (fun i _=>wires.length - (intOf i).toNat)
    case atStart=>exact⟨0,rfl,Nat.zero_le _,fun _ _ _ h=>absurd h (Nat.not_lt_zero _),HB⟩
    case round =>
     clear HB
     obtain⟨k,rfl,hk,HAl,HB⟩:=hrel
     obtain⟨⟨⟨x1,x2,x3,x4⟩,y1,y2,y3,y4⟩,hbw,hzr⟩:=HK.out wr HB.out
     by_cases hlt:k < wires.length
     ·have hltb:k < wires2.length:=by have:=L2.out;omega
      obtain⟨p1,o1,ha1⟩:=HWA.out.resolve_left (by omega)
      obtain⟨p2,o2,ha2⟩:=HWB.out.resolve_left (by omega)
      subst ha1 ha2
      have HNx:=Lib.hid (fun he=>list_next L2.out hlt hltb HAl.out he)
      have HNo:Hid (¬ (wires[k]'hlt=wires2[k]'hltb)→∀ w',Below w.heap.size w w'→Po (.returned (.bool false)) w'):=fun he w' h=>HN.out w' (fun e=>list_ne hlt hltb he e.2.2.1) h
      clear HAl
      obtain⟨ae,ce,c0,c1,c2,c3,c4,c5,hX⟩:=(HW.out.keep (keeps_of_below hbw)).get rfl hlt
      obtain⟨be,de,d0,d1,d2,d3,d4,d5,hY⟩:=(HW2.out.keep (keeps_of_below hbw)).get rfl hltb
      have HC:=Lib.hid (fun W (hW:Below wr.heap.size wr W)=>HS8.out _ _ ae ce be de W (hX.keep (keeps_of_below hW)) (hY.keep (keeps_of_below hW)))
      clear hX hY
      generalize (wires[k]'hlt)=u at c0 c1 c2 c3 c4 c5 HC HNx HNo
      generalize (wires2[k]'hltb)=v at d0 d1 d2 d3 d4 d5 HC HNx HNo
      obtain⟨un,uw,⟨uop,unn,unm,uargs⟩⟩:=u
      obtain⟨vn,vw,⟨vop,vnn,vnm,vargs⟩⟩:=v
      simp only[WireD.mk.injEq,Ex.op_mk,Ex.n_mk,Ex.name_mk,Ex.args_mk,exVal] at c0 c1 c2 c3 c4 c5 d0 d1 d2 d3 d4 d5 HC HNx HNo
      generalize hue:Ex.mk uop unn unm uargs=ue at HC HNx HNo
      generalize hve:Ex.mk vop vnn vnm vargs=ve at HC HNx HNo
      generalize uargs.length=ul at c5 HC
      generalize vargs.length=vl at d5 HC
      clear hue hve
      have a0:=fun o=>cell_al d0 o
      have a1:=fun o=>cell_al d1 o
      have a2:=fun o=>cell_al d2 o
      have a3:=fun o=>cell_al d3 o
      have a4:=fun o=>cell_al d4 o
      have a5:=fun o=>cell_al d5 o
      have z2:=fun o=>cell_al y2 o
      by_cases he:un=vn∧uw=vw∧ue=ve
      ·have HNx1:=Lib.hid (HNx.out he)
       obtain⟨rfl,rfl,hx⟩:=he
       rw[pB_true hx] at HC
       have qn:(un.toList != un.toList)=false:=by simp
       have qw:(uw != uw)=false:=by simp
       clear HNx HNo hx
       go_wp2_with fail
       refine(HC.out _ bel).mono ?_
       rintro e w3 ⟨rfl,hb3⟩
       have hw3:Below wr.heap.size wr w3:=Below.trans bel (hb3.mono (by simp;try omega))
       have HB3:=Lib.hid (HB.out.trans (hw3.mono hzr))
       clear hb3 hw3
       go_wp2_with fail
       go_roundw
       case rel=>exact⟨k+1,by go_num,by omega,HNx1,HB3⟩
       case measure=>(simp[intOf];try omega)
      ·have HPf:=Lib.hid (HNo.out he)
       clear HNx HNo
       have hq:¬ un.toList=vn.toList∨un=vn∧((uw != vw)=true∨uw=vw∧(¬ ue=ve)):=by
        by_cases en:un=vn
        ·refine Or.inr ⟨en,?_⟩
         by_cases ew:uw=vw
         ·refine Or.inr ⟨ew,?_⟩
          exact fun e=>he ⟨en,ew,e⟩
         ·exact Or.inl (by simpa using ew)
        ·exact Or.inl (fun e=>by have:=tl_ne en;rw[e] at this;simp at this)
       clear he
       rcases hq with q | ⟨rfl,q | ⟨rfl,q⟩⟩
       ·clear HC
        go_wp2_with fail
        first | exact HPf.out _ ((hbw.alloc (by omega) _).alloc (by simp;omega) _) | (go_ret;exact HPf.out _ ((hbw.alloc (by omega) _).alloc (by simp;omega) _))
       ·have qn:(un.toList != un.toList)=false:=by simp
        clear HC
        go_wp2_with fail
        first | exact HPf.out _ ((hbw.alloc (by omega) _).alloc (by simp;omega) _) | (go_ret;exact HPf.out _ ((hbw.alloc (by omega) _).alloc (by simp;omega) _))
       ·have qn:(un.toList != un.toList)=false:=by simp
        have qw:(uw != uw)=false:=by simp
        rw[pB_false q] at HC
        clear q
        go_wp2_with fail
        refine(HC.out _ bel).mono ?_
        rintro e w3 ⟨rfl,hb3⟩
        have hw3:Below wr.heap.size wr w3:=Below.trans bel (hb3.mono (by simp;try omega))
        have HPe:=Lib.hid (HPf.out w3 (hbw.trans (hw3.mono (by omega))))
        clear hb3 hw3
        go_wp2_with fail
        first | exact HPe.out | (go_ret;exact HPe.out)
     ·obtain rfl:k=wires.length:=by omega
      have HE2:Hid (wires=wires2):=List.ext_getElem L2.out fun j hj hj2=>HAl.out j hj hj2 hj
      clear HAl
      rename World=>wa2
      go_wp2_with fail
      clear x1 x2 x3 x4 y1 y2 y3 y4 hbw hzr
      go_loopw [9] (fun i wr=>∃ k:Nat,i=.int .i64 k∧k≤regs.length∧Hid (∀ j (hj:j < regs.length) (hj2:j < regs2.length),j < k→regs[j]'hj=regs2[j]'hj2)∧Hid (Below (w.heap.size+2) V2 wr)) (fun i _=>regs.length - (intOf i).toNat)
      case atStart=>exact⟨0,rfl,Nat.zero_le _,fun _ _ _ h=>absurd h (Nat.not_lt_zero _),HB⟩
      case round =>
       clear HB
       obtain⟨k,rfl,hk,HAl,HB⟩:=hrel
       obtain⟨⟨⟨x1,x2,x3,x4⟩,y1,y2,y3,y4⟩,hbw,hzr⟩:=HK.out wr HB.out
       by_cases hlt:k < regs.length
       ·have hltb:k < regs2.length:=by have:=L3.out;omega
        obtain⟨p1,o1,ha1⟩:=HRA.out.resolve_left (by omega)
        obtain⟨p2,o2,ha2⟩:=HRB.out.resolve_left (by omega)
        subst ha1 ha2
        have HNx:=Lib.hid (fun he=>list_next L3.out hlt hltb HAl.out he)
        have HNo:Hid (¬ (regs[k]'hlt=regs2[k]'hltb)→∀ w',Below w.heap.size w w'→Po (.returned (.bool false)) w'):=fun he w' h=>HN.out w' (fun e=>list_ne hlt hltb he e.2.2.2.1) h
        clear HAl
        obtain⟨ae,ce,c0,c1,c2,c3,c4,c5,c6,hX⟩:=(HR.out.keep (keeps_of_below hbw)).get rfl hlt
        obtain⟨be,de,d0,d1,d2,d3,d4,d5,d6,hY⟩:=(HR2.out.keep (keeps_of_below hbw)).get rfl hltb
        have HC:=Lib.hid (fun W (hW:Below wr.heap.size wr W)=>HS8.out _ _ ae ce be de W (hX.keep (keeps_of_below hW)) (hY.keep (keeps_of_below hW)))
        clear hX hY
        generalize (regs[k]'hlt)=u at c0 c1 c2 c3 c4 c5 c6 HC HNx HNo
        generalize (regs2[k]'hltb)=v at d0 d1 d2 d3 d4 d5 d6 HC HNx HNo
        obtain⟨un,uw,ui,⟨uop,unn,unm,uargs⟩⟩:=u
        obtain⟨vn,vw,vi,⟨vop,vnn,vnm,vargs⟩⟩:=v
        simp only[RegD.mk.injEq,Ex.op_mk,Ex.n_mk,Ex.name_mk,Ex.args_mk,exVal] at c0 c1 c2 c3 c4 c5 c6 d0 d1 d2 d3 d4 d5 d6 HC HNx HNo
        generalize hue:Ex.mk uop unn unm uargs=ue at HC HNx HNo
        generalize hve:Ex.mk vop vnn vnm vargs=ve at HC HNx HNo
        generalize uargs.length=ul at c6 HC
        generalize vargs.length=vl at d6 HC
        clear hue hve
        have a0:=fun o=>cell_al d0 o
        have a1:=fun o=>cell_al d1 o
        have a2:=fun o=>cell_al d2 o
        have a3:=fun o=>cell_al d3 o
        have a4:=fun o=>cell_al d4 o
        have a5:=fun o=>cell_al d5 o
        have a6:=fun o=>cell_al d6 o
        have z3:=fun o=>cell_al y3 o
        by_cases he:un=vn∧uw=vw∧ui=vi∧ue=ve
        ·have HNx1:=Lib.hid (HNx.out he)
         obtain⟨rfl,rfl,rfl,hx⟩:=he
         rw[pB_true hx] at HC
         have qn:(un.toList != un.toList)=false:=by simp
         have qw:(uw != uw)=false:=by simp
         have qi:(ui != ui)=false:=by simp
         clear HNx HNo hx
         go_wp2_with fail
         refine(HC.out _ bel).mono ?_
         rintro e w3 ⟨rfl,hb3⟩
         have hw3:Below wr.heap.size wr w3:=Below.trans bel (hb3.mono (by simp;try omega))
         have HB3:=Lib.hid (HB.out.trans (hw3.mono hzr))
         clear hb3 hw3
         go_wp2_with fail
         go_roundw
         case rel=>exact⟨k+1,by go_num,by omega,HNx1,HB3⟩
         case measure=>(simp[intOf];try omega)
        ·have HPf:=Lib.hid (HNo.out he)
         clear HNx HNo
         have hq:¬ un.toList=vn.toList∨un=vn∧((uw != vw)=true∨uw=vw∧((ui != vi)=true∨ui=vi∧(¬ ue=ve))):=by
          by_cases en:un=vn
          ·refine Or.inr ⟨en,?_⟩
           by_cases ew:uw=vw
           ·refine Or.inr ⟨ew,?_⟩
            by_cases ei:ui=vi
            ·refine Or.inr ⟨ei,?_⟩
             exact fun e=>he ⟨en,ew,ei,e⟩
            ·exact Or.inl (by simpa using ei)
           ·exact Or.inl (by simpa using ew)
          ·exact Or.inl (fun e=>by have:=tl_ne en;rw[e] at this;simp at this)
         clear he
         rcases hq with q | ⟨rfl,q | ⟨rfl,q | ⟨rfl,q⟩⟩⟩
         ·clear HC
          go_wp2_with fail
          first | exact HPf.out _ ((hbw.alloc (by omega) _).alloc (by simp;omega) _) | (go_ret;exact HPf.out _ ((hbw.alloc (by omega) _).alloc (by simp;omega) _))
         ·have qn:(un.toList != un.toList)=false:=by simp
          clear HC
          go_wp2_with fail
          first | exact HPf.out _ ((hbw.alloc (by omega) _).alloc (by simp;omega) _) | (go_ret;exact HPf.out _ ((hbw.alloc (by omega) _).alloc (by simp;omega) _))
         ·have qn:(un.toList != un.toList)=false:=by simp
          have qw:(uw != uw)=false:=by simp
          clear HC
          go_wp2_with fail
          first | exact HPf.out _ ((hbw.alloc (by omega) _).alloc (by simp;omega) _) | (go_ret;exact HPf.out _ ((hbw.alloc (by omega) _).alloc (by simp;omega) _))
         ·have qn:(un.toList != un.toList)=false:=by simp
          have qw:(uw != uw)=false:=by simp
          have qi:(ui != ui)=false:=by simp
          rw[pB_false q] at HC
          clear q
          go_wp2_with fail
          refine(HC.out _ bel).mono ?_
          rintro e w3 ⟨rfl,hb3⟩
          have hw3:Below wr.heap.size wr w3:=Below.trans bel (hb3.mono (by simp;try omega))
          have HPe:=Lib.hid (HPf.out w3 (hbw.trans (hw3.mono (by omega))))
          clear hb3 hw3
          go_wp2_with fail
          first | exact HPe.out | (go_ret;exact HPe.out)
       ·obtain rfl:k=regs.length:=by omega
        have HE3:Hid (regs=regs2):=List.ext_getElem L3.out fun j hj hj2=>HAl.out j hj hj2 hj
        clear HAl
        rename World=>wa3
        go_wp2_with fail
        clear x1 x2 x3 x4 y1 y2 y3 y4 hbw hzr
        go_loopw [12] (fun i wr=>∃ k:Nat,i=.int .i64 k∧k≤outs.length∧Hid (∀ j (hj:j < outs.length) (hj2:j < outs2.length),j < k→outs[j]'hj=outs2[j]'hj2)∧Hid (Below (w.heap.size+2) V2 wr)) (fun i _=>outs.length - (intOf i).toNat)
        case atStart=>exact⟨0,rfl,Nat.zero_le _,fun _ _ _ h=>absurd h (Nat.not_lt_zero _),HB⟩
        case round =>
         clear HB
         obtain⟨k,rfl,hk,HAl,HB⟩:=hrel
         obtain⟨⟨⟨x1,x2,x3,x4⟩,y1,y2,y3,y4⟩,hbw,hzr⟩:=HK.out wr HB.out
         by_cases hlt:k < outs.length
         ·have hltb:k < outs2.length:=by have:=L4.out;omega
          obtain⟨p1,o1,ha1⟩:=HOA.out.resolve_left (by omega)
          obtain⟨p2,o2,ha2⟩:=HOB.out.resolve_left (by omega)
          subst ha1 ha2
          have HNx:=Lib.hid (fun he=>list_next L4.out hlt hltb HAl.out he)
          have HNo:Hid (¬ (outs[k]'hlt=outs2[k]'hltb)→∀ w',Below w.heap.size w w'→Po (.returned (.bool false)) w'):=fun he w' h=>HN.out w' (fun e=>list_ne hlt hltb he e.2.2.2.2) h
          clear HAl
          have c0:=(HO.out.keep (keeps_of_below hbw)).get rfl hlt
          have d0:=(HO2.out.keep (keeps_of_below hbw)).get rfl hltb
          generalize (outs[k]'hlt)=u at c0 HNx HNo
          generalize (outs2[k]'hltb)=v at d0 HNx HNo
          by_cases he:u=v
          ·have HNx1:=Lib.hid (HNx.out he)
           subst he
           have q1:(u.toList != u.toList)=false:=by simp
           clear HNx HNo
           go_wp2_with fail
           go_quiet (fail)
           go_wp2_with fail
           go_roundw
           case rel=>exact⟨k+1,by go_num,by omega,HNx1,Lib.hid (bel_drewN HB.out _)⟩
           case measure=>(simp[intOf];try omega)
          ·have HPf:=Lib.hid (HNo.out he)
           clear HNx HNo
           have q:(u.toList != v.toList)=true:=tl_ne he
           have q2:¬ u.toList=v.toList:=fun e=>by rw[e] at q;simp at q
           have q3:(u.toList == v.toList)=false:=beq_eq_false_iff_ne.2 q2
           clear he
           go_wp2_with fail
           go_quiet (fail)
           go_wp2_with fail
           first | exact HPf.out _ (bel_drewN hbw _) | (go_ret;exact HPf.out _ (bel_drewN hbw _))
         ·obtain rfl:k=outs.length:=by omega
          have HE4:Hid (outs=outs2):=List.ext_getElem L4.out fun j hj hj2=>HAl.out j hj hj2 hj
          clear HAl
          have HPe:=Lib.hid (HY.out wr (by first | rfl | trivial) HE1.out HE2.out HE3.out HE4.out hbw)
          go_wp2_with fail
          first | exact HPe.out | (go_ret;exact HPe.out)
 ·have HPf:Hid (∀ w',Below w.heap.size w w'→Po (.returned (.bool false)) w'):=fun w' h=>HN.out w' (fun e=>h1 ⟨e.1,by rw[e.2.1],by rw[e.2.2.1],by rw[e.2.2.2.1],by rw[e.2.2.2.2]⟩) h
  have hq:(¬ nm.toList=nm2.toList)∨nm=nm2∧(((ins.length:Int) != (ins2.length:Int))=true∨((ins.length:Int) != (ins2.length:Int))=false∧(((wires.length:Int) != (wires2.length:Int))=true∨((wires.length:Int) != (wires2.length:Int))=false∧(((regs.length:Int) != (regs2.length:Int))=true∨((regs.length:Int) != (regs2.length:Int))=false∧((outs.length:Int) != (outs2.length:Int))=true))):=by
   by_cases e1:nm=nm2
   ·refine Or.inr ⟨e1,?_⟩
    by_cases e2:ins.length=ins2.length
    ·refine Or.inr ⟨by simp;omega,?_⟩
     by_cases e3:wires.length=wires2.length
     ·refine Or.inr ⟨by simp;omega,?_⟩
      by_cases e4:regs.length=regs2.length
      ·refine Or.inr ⟨by simp;omega,?_⟩
       have:¬ outs.length=outs2.length:=fun e5=>h1 ⟨e1,e2,e3,e4,e5⟩
       simp;omega
      ·exact Or.inl (by simp;omega)
     ·exact Or.inl (by simp;omega)
    ·exact Or.inl (by simp;omega)
   ·exact Or.inl (fun e=>by have:=tl_ne e1;rw[e] at this;simp at this)
  clear h1 HN HY
  rcases hq with q | ⟨rfl,q | ⟨q1,q | ⟨q2,q | ⟨q3,q⟩⟩⟩⟩
  ·go_enter Tryz.func33, Tryz.ntmps33
   go_wp2_with fail
   first | exact HPf.out _ bel | (go_ret;exact HPf.out _ bel)
  all_goals
   have q0:(nm.toList != nm.toList)=false:=by simp
   go_enter Tryz.func33, Tryz.ntmps33
   go_wp2_with fail
   first | exact HPf.out _ bel | (go_ret;exact HPf.out _ bel)
end Go.Proofs.YtebneadheaefdaaGreatDoor
