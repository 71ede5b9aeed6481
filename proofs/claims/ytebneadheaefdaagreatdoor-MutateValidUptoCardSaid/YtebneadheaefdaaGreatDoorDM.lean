/- ref31: order, Valid, Order. -/
import Derived.Test.YtebneadheaefdaaGreatDoorDL
set_option linter.unusedSimpArgs false
set_option linter.unusedVariables false
set_option linter.unnecessarySimpa false
namespace Go.Proofs.YtebneadheaefdaaGreatDoor
open Go.RowKit
attribute [local go_sem ↓] Go.wp_at_zero Go.wp_at_succ
theorem nextO_at {n:Nat} {nd:Nat→List Nat} {out:List Nat} {q:Nat} (hq:q < n) (h0:∀ r,r < q→out.contains r=true∨readyB nd out r=false) (h1:out.contains q=false) (h2:readyB nd out q=true):nextO n nd out=some q:=by
 unfold nextO
 have:=find_at (p:=fun i=>!out.contains i && readyB nd out i) (l:=List.range n) (q:=q) (by simpa using hq) (fun r hr hrq=>by
  simp only[List.getElem_range]
  rcases h0 r hrq with h | h
  ·rw[h];rfl
  ·rw[h];simp) (by simp only[List.getElem_range];rw[h1,h2];rfl)
 simpa using this
theorem nextO_no {n:Nat} {nd:Nat→List Nat} {out:List Nat} (h0:∀ r,r < n→out.contains r=true∨readyB nd out r=false):nextO n nd out=none:=by
 unfold nextO
 refine find_no fun r hr=>?_
 simp only[List.getElem_range]
 rcases h0 r (by simpa using hr) with h | h
 ·rw[h];rfl
 ·rw[h];simp
theorem stepO_some {n:Nat} {nd:Nat→List Nat} {out:List Nat} {q:Nat} (h:nextO n nd out=some q):stepO n nd out=out++[q]:=by unfold stepO;rw[h]
theorem stepO_none {n:Nat} {nd:Nat→List Nat} {out:List Nat} (h:nextO n nd out=none):stepO n nd out=out:=by unfold stepO;rw[h]
theorem DoneRow.set {w:World} {b n:Nat} {out:List Nat} (h:DoneRow w b n out) {q:Nat} (hq:q < n):DoneRow (w.setCell ⟨b,q,none⟩ (.bool true)) b n (out++[q]):=by
 refine(FRow.set h hq _).congr fun j hj=>?_
 by_cases e:j=q
 ·subst e
  rw[if_pos rfl]
  simp
 ·rw[if_neg e]
  congr 1
  rw[Bool.eq_iff_iff,List.contains_iff_mem,List.contains_iff_mem]
  simp[e]
set_option maxRecDepth 100000 in
set_option maxHeartbeats 16000000 in
theorem rorder_fresh (d:DesD) (x:DesA) (w:World) (hE:DesIn w d x) (hs:DesSmall d) :
  Calls Tryz.prog 105 #[desVal d x] w fun e w'=>(∃ a cap,e=.returned (.slice a d.order.length cap)∧IntsIn w' (natI d.order) a cap∧∀ p,a=some p→w.heap.size≤p.block)∧Below w.heap.size w w':=by
 have hn:d.wires.length≤1048576:=hs.len.2.1
 have HRd0:=Lib.hid (fun i bd out W (hW:Below w.heap.size w W) (hi:i < d.wires.length) (hD:DoneRow W bd d.wires.length out)=>ready_any d x i bd out W (hE.below hW) hs hi hD)
 have HOl:Hid (∀ k,(orderO d.wires.length d.needs k).length≤k∧∀ i∈orderO d.wires.length d.needs k,i < d.wires.length):=fun k=>⟨(orderO_ok _ _ k).1,(orderO_ok _ _ k).2.2⟩
 have HOs:Hid (∀ k,orderO d.wires.length d.needs (k+1)=stepO d.wires.length d.needs (orderO d.wires.length d.needs k)):=fun k=>rfl
 have HOD:Hid (d.order=orderO d.wires.length d.needs d.wires.length):=rfl
 have HO00:Hid (orderO d.wires.length d.needs 0=[]):=rfl
 generalize d.order=OD at HOD⊢
 have hwc:=hE.wires.1
 clear hE hs
 simp only[desVal,desVals] at HRd0⊢
 generalize d.wires.length=n at *
 generalize d.name=nm at *
 generalize hins:d.inputs=ins at *
 generalize hregs:d.regs=regs at *
 generalize houts:d.outputs=outs at *
 clear hins hregs houts
 generalize hO:orderO n d.needs=O at HOl HOs HOD HO00
 clear hO
 obtain⟨ai,ci,aw,cw,ar,cr,ao,co⟩:=x
 simp only at HRd0 hwc⊢
 have hmk:=mk_bools n (by omega)
 have HFr:=Lib.hid (frow_new (w.alloc (.cells #[.string nm,.slice ai ins.length ci,.slice aw n cw,.slice ar regs.length cr,.slice ao outs.length co] 27)) 4 n (.bool false))
 have hBm:Below (w.heap.size+1) (w.alloc (.cells #[.string nm,.slice ai ins.length ci,.slice aw n cw,.slice ar regs.length cr,.slice ao outs.length co] 27)) ((w.alloc (.cells #[.string nm,.slice ai ins.length ci,.slice aw n cw,.slice ar regs.length cr,.slice ao outs.length co] 27)).alloc (.cells (List.replicate n (Value.bool false)).toArray 4)):=(Below.refl _ _).alloc (by simp) _
 have HBm:=Lib.hid hBm
 clear hBm
 rw[show (List.replicate n (Value.bool false)).toArray=Array.replicate n (Value.bool false) by simp] at HFr HBm
 simp only[World.size_alloc] at HFr
 go_enter Tryz.func105, Tryz.ntmps105
 go_wp2_with fail
 generalize hwm:(World.alloc (World.alloc w _) _)=wm at HFr HBm⊢
 clear hwm hmk
 go_loopw [13,4,5] (fun i v _ wr=>∃ k:Nat,i=.int .i64 k∧k≤n∧Hid (DoneRow wr (w.heap.size+1) n (O k))∧Hid (wr.ownsRow (w.heap.size+2) 3 1 v (O k).length ((natI (O k)).map (Value.int .i64)))∧Hid (Below (w.heap.size+1) (w.alloc (.cells #[.string nm,.slice ai ins.length ci,.slice aw n cw,.slice ar regs.length cr,.slice ao outs.length co] 27)) wr)) (fun i _ _ _=>n - (intOf i).toNat)
 case atStart=>exact⟨0,rfl,Nat.zero_le _,(by rw[HO00.out];exact HFr.out),(by rw[HO00.out];exact World.ownsRow_nil _ _ _ _),HBm⟩
 case round =>
  obtain⟨k,rfl,hk,HDr,HOw,HBr⟩:=hrel
  have HBw:=Lib.hid (boxW _ HBr.out)
  have hzr:=HDr.out.lt
  have hlk:=(HOl.out k).1
  by_cases hlt:k < n
  ·have HNe:Hid ((∀ r,r < n→(O k).contains r=true∨readyB d.needs (O k) r=false)→O (k+1)=O k):=fun h=>by rw[HOs.out,stepO_none (nextO_no h)]
   have HSo:Hid (∀ q,q < n→(∀ r,r < q→(O k).contains r=true∨readyB d.needs (O k) r=false)→(O k).contains q=false→readyB d.needs (O k) q=true→O (k+1)=O k++[q]):=fun q hq h0 h1 h2=>by rw[HOs.out,stepO_some (nextO_at hq h0 h1 h2)]
   generalize hOk1:O (k+1)=Ok1 at HNe HSo
   have HOk1:=Lib.hid hOk1
   clear hOk1
   generalize hOk:O k=Ok at HDr HOw HNe HSo hlk
   clear hOk
   obtain⟨va,vc,hv,_⟩:=slice_of_own HOw.out (by omega)
   subst hv
   have HBx:=Lib.hid HBr.out
   go_wp2_with fail
   go_loopw [5,4] (fun i vv wz=>∃ q:Nat,i=.int .i64 q∧vv=.slice va Ok.length vc∧q≤n∧Hid (∀ r,r < q→Ok.contains r=true∨readyB d.needs Ok r=false)∧Hid (Below wr.heap.size wr wz)) (fun i _ _=>n - (intOf i).toNat)
   case atStart=>exact⟨0,rfl,rfl,Nat.zero_le _,fun r h=>absurd h (by omega),Below.refl _ _⟩
   case round =>
    rename World=>wz
    obtain⟨q,rfl,rfl,hq,HF,HBz⟩:=hrel
    have hBxz:Below (w.heap.size+1) (w.alloc (.cells #[.string nm,.slice ai ins.length ci,.slice aw n cw,.slice ar regs.length cr,.slice ao outs.length co] 27)) wz:=HBr.out.trans (HBz.out.mono (by omega))
    have HBxz:=Lib.hid hBxz
    have HBwz:=Lib.hid (boxW _ hBxz)
    have HDz:=Lib.hid (HDr.out.keep HBz.out)
    have HOz:=Lib.hid (ownsRow_below HOw.out HBz.out)
    clear hBxz
    ((try clear b0 b1 b2 b3 b4);have b0:=box_cell HBxz.out 0;have b1:=box_cell HBxz.out 1;have b2:=box_cell HBxz.out 2;have b3:=box_cell HBxz.out 3;have b4:=box_cell HBxz.out 4;(try simp at b0 b1 b2 b3 b4))
    by_cases hlq:q < n
    ·have d0:=HDz.out.cell hlq
     cases hc:Ok.contains q
     ·rw[hc] at d0
      have HRd:=Lib.hid (HRd0.out q (w.heap.size+1) Ok wz HBwz.out hlq HDz.out)
      cases hr:readyB d.needs Ok q
      ·rw[hr] at HRd
       have HFx:Hid (∀ r,r < q+1→Ok.contains r=true∨readyB d.needs Ok r=false):=fun r h=>by
        by_cases e:r=q
        ·subst e;exact Or.inr hr
        ·exact HF.out r (by omega)
       clear hr hc
       go_wp2_with fail
       refine HRd.out.mono ?_
       rintro e wy ⟨rfl,hby⟩
       have HBy:=Lib.hid (HBz.out.trans (hby.mono HBz.out.size))
       clear hby d0 b0 b1 b2 b3 b4
       go_wp2_with fail
       go_roundw
       case rel=>exact⟨q+1,by go_num,rfl,by omega,HFx,HBy⟩
       case measure=>(simp[intOf];try omega)
      ·rw[hr] at HRd
       have HSq:=Lib.hid (HSo.out q hlq HF.out hc hr)
       clear hr hc
       go_wp2_with fail
       refine HRd.out.mono ?_
       rintro e wy ⟨rfl,hby⟩
       have HDy:=Lib.hid (HDz.out.keep hby)
       have HOy:=Lib.hid (ownsRow_below HOz.out hby)
       have HBy:=Lib.hid (HBxz.out.trans (hby.mono (by have:=HBxz.out.size;simp at this;omega)))
       clear hby d0 b0 b1 b2 b3 b4
       have d1:=HDy.out.cell hlq
       have f1:=HDy.out.free q
       have hzy:=HDy.out.lt
       have HO2:Hid ((wy.setCell ⟨w.heap.size+1,q,none⟩ (.bool true)).ownsRow (w.heap.size+2) 3 1 (.slice va Ok.length vc) Ok.length ((natI Ok).map (Value.int .i64))):=ownsRow_setCell_other HOy.out (fun h=>by have h1:=(HOy.out.lt _ h).1;simp only at h1;omega) _
       have HB2:Hid (Below (w.heap.size+1) (w.alloc (.cells #[.string nm,.slice ai ins.length ci,.slice aw n cw,.slice ar regs.length cr,.slice ao outs.length co] 27)) (wy.setCell ⟨w.heap.size+1,q,none⟩ (.bool true))):=HBy.out.setCell (by simp) _
       have HD2:=Lib.hid (DoneRow.set (show DoneRow _ _ _ _ from HDy.out) hlq)
       have hz2:(wy.setCell ⟨w.heap.size+1,q,none⟩ (.bool true)).heap.size=wy.heap.size:=by simp
       have hok:Ok.length≤1073741824:=by omega
       go_wp2_with (at_builtin;go_must (refine own_app elemI _ rfl (.tmp 36) (.tmp 38) rfl (w.heap.size+2) (.slice va Ok.length vc) Ok.length ((natI Ok).map (Value.int .i64)) rfl HO2.out [.int .i64 q] rfl (by simp[Value.oneCell']) _ 1 rfl (by first | rfl | simp) hok sz ?_))
       intro v' w3 ho3 hg3
       have HO3:=Lib.hid ho3
       have HG3:=Lib.hid hg3
       clear ho3 hg3
       go_wp2_with fail
       go_roundw
       case rel =>
        refine⟨k+1,by go_num,by omega,?_,?_,?_⟩
        ·show DoneRow _ _ _ _
         rw[HOk1.out,HSq.out]
         have h1:=FRow.keep HD2.out ((Below.refl _ _).alloc (Nat.le_refl _) (.cells #[.int .i64 q] 3))
         unfold DoneRow FRow at h1⊢
         rw[HG3.out.block _ (by simp;omega) (fun e=>by have:=(HO2.out.lt _ e.symm).1;omega)]
         exact h1
        ·show World.ownsRow _ _ _ _ _ _ _
         rw[HOk1.out,HSq.out]
         simpa [natI] using HO3.out
        ·exact Below.grown (HB2.out.alloc (by rw[hz2];omega) _) HG3.out (by simp;omega) (fun j hj=>by have:=(HO2.out.lt j hj).1;omega)
       case measure=>(simp[intOf];try omega)
     ·rw[hc] at d0
      have HFx:Hid (∀ r,r < q+1→Ok.contains r=true∨readyB d.needs Ok r=false):=fun r h=>by
       by_cases e:r=q
       ·subst e;exact Or.inl hc
       ·exact HF.out r (by omega)
      clear hc
      go_wp2_with fail
      go_roundw
      case rel=>exact⟨q+1,by go_num,rfl,by omega,HFx,HBz⟩
      case measure=>(simp[intOf];try omega)
    ·obtain rfl:q=n:=by omega
     have HNq:=Lib.hid (HNe.out HF.out)
     go_wp2_with fail
     go_roundw
     case rel=>exact⟨k+1,by go_num,by omega,(by show DoneRow _ _ _ _;rw[HOk1.out,HNq.out];exact HDz.out),(by show World.ownsRow _ _ _ _ _ _ _;rw[HOk1.out,HNq.out];exact HOz.out),HBxz⟩
     case measure=>(simp[intOf];try omega)
  ·obtain rfl:k=n:=by omega
   have hO:=HOw.out
   rw[← HOD.out] at hO hlk
   have HOb:=Lib.hid (HOw.out.lt)
   obtain⟨a,cap,rfl,hI⟩:=ints_of_own (l:=natI OD) (by rw[natI_len];exact hO) (by rw[natI_len];omega)
   have HI:=Lib.hid hI
   clear hI hO
   rw[natI_len]
   go_wp2_with fail
   go_ret
   exact⟨⟨a,cap,rfl,HI.out,fun p hp=>by subst hp;have:=(HOb.out _ rfl).1;omega⟩,HBw.out⟩
theorem rorder_any (d:DesD) (x:DesA) (w:World) (hE:DesIn w d x) (hs:DesSmall d) :
  Calls Tryz.prog 105 #[desVal d x] w fun e w'=>(∃ a cap,e=.returned (.slice a d.order.length cap)∧IntsIn w' (natI d.order) a cap)∧Below w.heap.size w w' :=
 (rorder_fresh d x w hE hs).mono fun e w' h=>⟨h.1.imp fun _ h=>h.imp fun _ h=>⟨h.1,h.2.1⟩,h.2⟩
end Go.Proofs.YtebneadheaefdaaGreatDoor
namespace Go.Proofs.YtebneadheaefdaaGreatDoor
open Go.RowKit
attribute [local go_sem ↓] Go.wp_at_zero Go.wp_at_succ
def errC (e0 e1 e2 e3:Int) (short:Bool):Int:=if e0≠0 then e0 else if e1≠0 then e1 else if e2≠0 then e2 else if e3≠0 then e3 else if short then 10 else 0
theorem err_ref (d:DesD):d.err=errC d.nmErr d.numErr d.expErr d.outE (decide (d.order.length < d.wires.length)):=by
 rw[err_eq,sigErr_two]
 unfold errC firstErr
 by_cases h0:d.nmErr=0
 ·simp[h0,firstErr]
  congr 1
  congr 1
  congr 1
  split<;>simp_all
 ·simp[h0]
set_option maxRecDepth 100000 in
set_option maxHeartbeats 8000000 in
theorem rValidD_any (d:DesD) (x:DesA) (w:World) (hE:DesIn w d x) (hs:DesSmall d) :
  Calls Tryz.prog 53 #[desVal d x] w fun e w'=>e=.returned (.int .i64 d.err)∧Below w.heap.size w w':=by
 have H0:=Lib.hid (fun W (hW:Below w.heap.size w W)=>named_any d x W (hE.below hW) hs)
 have H1:=Lib.hid (fun W (hW:Below w.heap.size w W)=>numbered_any d x W (hE.below hW) hs)
 have H2:=Lib.hid (fun W (hW:Below w.heap.size w W)=>written_any d x W (hE.below hW) hs)
 have H3:=Lib.hid (fun W (hW:Below w.heap.size w W)=>shown_any d x W (hE.below hW) hs)
 have H4:=Lib.hid (fun W (hW:Below w.heap.size w W)=>rorder_any d x W (hE.below hW) hs)
 have HE:=Lib.hid (err_ref d)
 generalize d.err=err at HE⊢
 generalize d.nmErr=e0 at HE H0
 generalize d.numErr=e1 at HE H1
 generalize d.expErr=e2 at HE H2
 generalize d.outE=e3 at HE H3
 generalize d.order=OD at HE H4
 clear hE hs
 obtain⟨nm,ins,wires,regs,outs⟩:=d
 obtain⟨ai,ci,aw,cw,ar,cr,ao,co⟩:=x
 simp only[desVal,desVals] at HE H0 H1 H2 H3 H4⊢
 have H4b:=Lib.hid (fun W (hW:Below (w.heap.size+1) (w.alloc (.cells #[.string nm,.slice ai ins.length ci,.slice aw wires.length cw,.slice ar regs.length cr,.slice ao outs.length co] 27)) W)=>(H4.out W (boxW _ hW)).mono (R':=fun e w'=>(∃ a cap,e=.returned (.slice a OD.length cap)∧IntsIn w' (natI OD) a cap)∧Below (w.heap.size+1) (w.alloc (.cells #[.string nm,.slice ai ins.length ci,.slice aw wires.length cw,.slice ar regs.length cr,.slice ao outs.length co] 27)) w') (fun e w' h=>⟨h.1,hW.trans (h.2.mono (by have:=hW.size;simp at this;omega))⟩))
 have HALL:Hid (∀ w',Below (w.heap.size+1) (w.alloc (.cells #[.string nm,.slice ai ins.length ci,.slice aw wires.length cw,.slice ar regs.length cr,.slice ao outs.length co] 27)) w'→w'.cell? ⟨w.heap.size,0,none⟩=some (.string nm)∧w'.cell? ⟨w.heap.size,1,none⟩=some (.slice ai ins.length ci)∧w'.cell? ⟨w.heap.size,2,none⟩=some (.slice aw wires.length cw)∧w'.cell? ⟨w.heap.size,3,none⟩=some (.slice ar regs.length cr)∧w'.cell? ⟨w.heap.size,4,none⟩=some (.slice ao outs.length co)):=fun w' h=>by
  have b0:=box_cell h 0
  have b1:=box_cell h 1
  have b2:=box_cell h 2
  have b3:=box_cell h 3
  have b4:=box_cell h 4
  simp at b0 b1 b2 b3 b4
  exact⟨b0,b1,b2,b3,b4⟩
 have HB0:Hid (Below (w.heap.size+1) (w.alloc (.cells #[.string nm,.slice ai ins.length ci,.slice aw wires.length cw,.slice ar regs.length cr,.slice ao outs.length co] 27)) (w.alloc (.cells #[.string nm,.slice ai ins.length ci,.slice aw wires.length cw,.slice ar regs.length cr,.slice ao outs.length co] 27))):=Below.refl _ _
 have HC0:=Lib.hid (H0.out (w.alloc (.cells #[.string nm,.slice ai ins.length ci,.slice aw wires.length cw,.slice ar regs.length cr,.slice ao outs.length co] 27)) (boxW _ HB0.out))
 clear H0 H4
 go_enter Tryz.func53, Tryz.ntmps53
 go_wp2_with fail
 refine HC0.out.mono ?_
 rintro e w1 ⟨rfl,hb1⟩
 have HB1:=Lib.hid (HB0.out.trans (hb1.mono (by simp)))
 have HBw1:=Lib.hid (boxW _ HB1.out)
 clear hb1 HC0
 by_cases h0:e0=0
 rotate_left
 ·have hne:(e0 != (0:Int))=true:=by simpa using h0
  have HR:Hid (err=e0):=by show _=_;rw[HE.out];unfold errC;rw[if_pos h0]
  clear h0
  go_wp2_with fail
  go_ret
  exact⟨by rw[HR.out];rfl,HBw1.out⟩
 subst h0
 have HC1:=Lib.hid (H1.out w1 HBw1.out)
 obtain⟨b0,b1,b2,b3,b4⟩:=HALL.out _ HB1.out
 go_wp2_with fail
 refine HC1.out.mono ?_
 rintro e w2 ⟨rfl,hb2⟩
 have HB2:=Lib.hid (HB1.out.trans (hb2.mono (by have:=HB1.out.size;simp at this;omega)))
 have HBw2:=Lib.hid (boxW _ HB2.out)
 clear hb2 HC1 H1 b0 b1 b2 b3 b4
 by_cases h1:e1=0
 rotate_left
 ·have hne:(e1 != (0:Int))=true:=by simpa using h1
  have HR:Hid (err=e1):=by show _=_;rw[HE.out];unfold errC;simp[h1]
  clear h1
  go_wp2_with fail
  go_ret
  exact⟨by rw[HR.out];rfl,HBw2.out⟩
 subst h1
 have HC2:=Lib.hid (H2.out w2 HBw2.out)
 obtain⟨b0,b1,b2,b3,b4⟩:=HALL.out _ HB2.out
 go_wp2_with fail
 refine HC2.out.mono ?_
 rintro e w3 ⟨rfl,hb3⟩
 have HB3:=Lib.hid (HB2.out.trans (hb3.mono (by have:=HB2.out.size;simp at this;omega)))
 have HBw3:=Lib.hid (boxW _ HB3.out)
 clear hb3 HC2 H2 b0 b1 b2 b3 b4
 by_cases h2:e2=0
 rotate_left
 ·have hne:(e2 != (0:Int))=true:=by simpa using h2
  have HR:Hid (err=e2):=by show _=_;rw[HE.out];unfold errC;simp[h2]
  clear h2
  go_wp2_with fail
  go_ret
  exact⟨by rw[HR.out];rfl,HBw3.out⟩
 subst h2
 have HC3:=Lib.hid (H3.out w3 HBw3.out)
 obtain⟨b0,b1,b2,b3,b4⟩:=HALL.out _ HB3.out
 go_wp2_with fail
 refine HC3.out.mono ?_
 rintro e w4 ⟨rfl,hb4⟩
 have HB4:=Lib.hid (HB3.out.trans (hb4.mono (by have:=HB3.out.size;simp at this;omega)))
 have HBw4:=Lib.hid (boxW _ HB4.out)
 clear hb4 HC3 H3 b0 b1 b2 b3 b4
 by_cases h3:e3=0
 rotate_left
 ·have hne:(e3 != (0:Int))=true:=by simpa using h3
  have HR:Hid (err=e3):=by show _=_;rw[HE.out];unfold errC;simp[h3]
  clear h3
  go_wp2_with fail
  go_ret
  exact⟨by rw[HR.out];rfl,HBw4.out⟩
 subst h3
 obtain⟨b0,b1,b2,b3,b4⟩:=HALL.out _ HB4.out
 have hB4:=HB4.out
 by_cases hs:OD.length < wires.length
 ·have hd:decide (OD.length < wires.length)=true:=decide_eq_true hs
  have HR:Hid (err=10):=by show _=_;rw[HE.out,hd];rfl
  clear hs
  go_wp2_with fail
  go_region_held3 (fun w'=>Below (w.heap.size+1) (w.alloc (.cells #[.string nm,.slice ai ins.length ci,.slice aw wires.length cw,.slice ar regs.length cr,.slice ao outs.length co] 27)) w'∧w'.cell? ⟨w.heap.size,0,none⟩=some (.string nm)∧w'.cell? ⟨w.heap.size,1,none⟩=some (.slice ai ins.length ci)∧w'.cell? ⟨w.heap.size,2,none⟩=some (.slice aw wires.length cw)∧w'.cell? ⟨w.heap.size,3,none⟩=some (.slice ar regs.length cr)∧w'.cell? ⟨w.heap.size,4,none⟩=some (.slice ao outs.length co)) ((refine(fun h=>⟨h,HALL.out _ h⟩) ?_;first | assumption | exact bel)) ((go_at_call 105;(with_reducible refine(H4b.out _ (by first | assumption | exact And.left (by assumption))).mono ?_);rintro e w5 ⟨⟨a1,c1,rfl,_⟩,hb5⟩))
  have HB5:=Lib.hid (by assumption:Below (w.heap.size+1) (w.alloc (.cells #[.string nm,.slice ai ins.length ci,.slice aw wires.length cw,.slice ar regs.length cr,.slice ao outs.length co] 27)) w5)
  go_wp2_with fail
  go_ret
  exact⟨by rw[HR.out];rfl,boxW _ HB5.out⟩
 ·have hd:decide (OD.length < wires.length)=false:=decide_eq_false hs
  have HR:Hid (err=0):=by show _=_;rw[HE.out,hd];rfl
  clear hs
  go_wp2_with fail
  go_region_held3 (fun w'=>Below (w.heap.size+1) (w.alloc (.cells #[.string nm,.slice ai ins.length ci,.slice aw wires.length cw,.slice ar regs.length cr,.slice ao outs.length co] 27)) w'∧w'.cell? ⟨w.heap.size,0,none⟩=some (.string nm)∧w'.cell? ⟨w.heap.size,1,none⟩=some (.slice ai ins.length ci)∧w'.cell? ⟨w.heap.size,2,none⟩=some (.slice aw wires.length cw)∧w'.cell? ⟨w.heap.size,3,none⟩=some (.slice ar regs.length cr)∧w'.cell? ⟨w.heap.size,4,none⟩=some (.slice ao outs.length co)) ((refine(fun h=>⟨h,HALL.out _ h⟩) ?_;first | assumption | exact bel)) ((go_at_call 105;(with_reducible refine(H4b.out _ (by first | assumption | exact And.left (by assumption))).mono ?_);rintro e w5 ⟨⟨a1,c1,rfl,_⟩,hb5⟩))
  have HB5:=Lib.hid (by assumption:Below (w.heap.size+1) (w.alloc (.cells #[.string nm,.slice ai ins.length ci,.slice aw wires.length cw,.slice ar regs.length cr,.slice ao outs.length co] 27)) w5)
  go_wp2_with fail
  go_ret
  exact⟨by rw[HR.out];rfl,boxW _ HB5.out⟩
end Go.Proofs.YtebneadheaefdaaGreatDoor
