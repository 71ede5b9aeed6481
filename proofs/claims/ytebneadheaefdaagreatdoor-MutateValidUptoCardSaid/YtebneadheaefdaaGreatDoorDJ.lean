/- design: Valid and Order. -/
import Derived.Test.YtebneadheaefdaaGreatDoorDI
set_option linter.unusedSimpArgs false
set_option linter.unusedVariables false
set_option linter.unnecessarySimpa false
namespace Go.Proofs.YtebneadheaefdaaGreatDoor
open Go.RowKit Go.WideMaps
attribute [local go_sem ↓] Go.wp_at_zero Go.wp_at_succ
theorem sigErr_zero {d:DesD} (h:d.sigErr=0):dupT d.names=false∧d.names.length≤48:=by
 rw[sigErr_eq] at h
 unfold sigC at h
 by_cases h1:(!(nameB d.name.data.toList) || !(d.names.all fun s=>nameB s.data.toList))=true
 ·rw[if_pos h1] at h;simp at h
 ·rw[if_neg h1] at h
  by_cases h2:decide (48 < d.names.length)=true
  ·rw[if_pos h2] at h;simp at h
  ·rw[if_neg h2] at h
   cases h3:dupT d.names
   ·exact⟨rfl,by simpa using h2⟩
   ·rw[h3] at h;simp at h
theorem sigErr_wires {d:DesD} (h:d.sigErr=0):dupT (d.wires.map (·.name))=false∧d.wires.length≤1000:=by
 obtain⟨h1,h2⟩:=sigErr_zero h
 have h3:=h1
 unfold DesD.names at h1 h2
 simp at h2
 exact⟨(dupT_append (dupT_append h1).1).2,by omega⟩
theorem err_eq (d:DesD):d.err=firstErr [d.sigErr,d.expErr,d.outE,if d.order.length < d.wires.length then 10 else 0]:=rfl
def fnCells:Array Value:=#[.func (.func 75) #[] #[],.func (.func 76) #[] #[],.func (.func 77) #[] #[]]
set_option maxRecDepth 100000 in
set_option maxHeartbeats 8000000 in
theorem ValidD_any (d:DesD) (x:DesA) (w:World) (hE:DesIn w d x) (hs:DesSmall d) (hG:Glob w) :
  Calls Tryz.prog 36 #[desVal d x] w fun e w'=>e=.returned (.int .i64 d.err)∧Below w.heap.size w w':=by
 have HS0:=Lib.hid (fun W (hW:Below w.heap.size w W)=>signals_any d x W (hE.below hW) hs (hG.below hW))
 have HX0:=Lib.hid (fun W (hW:Below w.heap.size w W)=>expressions_any d x W (hE.below hW) hs (hG.below hW))
 have HU0:=Lib.hid (fun W (hW:Below w.heap.size w W)=>outputs_any d x W (hE.below hW) hs)
 have HO0:=Lib.hid (fun W (hW:Below w.heap.size w W) (h:d.sigErr=0)=>order_any d x W (hE.below hW) hs (sigErr_wires h).1 (sigErr_wires h).2)
 unfold OrderPost at HO0
 have HE:=Lib.hid (err_eq d)
 generalize d.err=err at HE⊢
 generalize d.sigErr=e0 at HE HS0 HO0
 generalize d.expErr=e1 at HE HX0
 generalize d.outE=e2 at HE HU0
 generalize d.order=OD at HE HO0
 clear hE hs hG
 obtain⟨nm,ins,wires,regs,outs⟩:=d
 obtain⟨ai,ci,aw,cw,ar,cr,ao,co⟩:=x
 simp only[desVal,desVals] at HE HS0 HX0 HU0 HO0⊢
 generalize wires.length=nw at *
 have hb0:Below w.heap.size w ((w.alloc (.cells #[.string nm,.slice ai ins.length ci,.slice aw nw cw,.slice ar regs.length cr,.slice ao outs.length co] 27)).alloc (.cells fnCells 62)):=bel
 have HF0:Hid ((((w.alloc (.cells #[.string nm,.slice ai ins.length ci,.slice aw nw cw,.slice ar regs.length cr,.slice ao outs.length co] 27)).alloc (.cells fnCells 62)).heap[w.heap.size+1]? = some (.cells fnCells 62))∧((w.alloc (.cells #[.string nm,.slice ai ins.length ci,.slice aw nw cw,.slice ar regs.length cr,.slice ao outs.length co] 27)).alloc (.cells fnCells 62)).heap[w.heap.size]? = some (.cells #[.string nm,.slice ai ins.length ci,.slice aw nw cw,.slice ar regs.length cr,.slice ao outs.length co] 27)) :=
  ⟨heap_alloc_at _ _ _ (by simp),by rw[Below.heap_alloc _ _ _ (by simp)];exact heap_alloc_at _ _ _ rfl⟩
 have HB0:=Lib.hid hb0
 have hz0:((w.alloc (.cells #[.string nm,.slice ai ins.length ci,.slice aw nw cw,.slice ar regs.length cr,.slice ao outs.length co] 27)).alloc (.cells fnCells 62)).heap.size=w.heap.size+2:=by simp
 have HZ0:=Lib.hid hz0
 unfold fnCells at HF0 HB0 HZ0
 clear hb0 hz0
 go_enter Tryz.func36, Tryz.ntmps36
 go_wp2_with fail
 generalize hwb:(World.alloc (World.alloc w _) _)=wb at HF0 HB0 HZ0⊢
 clear hwb
 go_loopw [10,4,5] (fun i _ _ wr=>∃ k:Nat,i=.int .i64 k∧k≤3∧Hid ((0 < k→e0=0)∧(1 < k→e1=0)∧(2 < k→e2=0))∧Hid (Below wb.heap.size wb wr)) (fun i _ _ _=>3 - (intOf i).toNat)
 case atStart=>exact⟨0,rfl,by omega,⟨fun h=>by omega,fun h=>by omega,fun h=>by omega⟩,Below.refl _ _⟩
 case round =>
  obtain⟨k,rfl,hk,HF,HB⟩:=hrel
  have HBw:Hid (Below w.heap.size w wr):=HB0.out.trans (HB.out.mono HB0.out.size)
  have HFr:Hid ((wr.heap[w.heap.size+1]? = some (.cells fnCells 62 (0,0)))∧wr.heap[w.heap.size]? = some (.cells #[.string nm,.slice ai ins.length ci,.slice aw nw cw,.slice ar regs.length cr,.slice ao outs.length co] 27 (0,0))) :=
   ⟨(HB.out.block _ (lt_of_block HF0.out.1)).trans HF0.out.1,(HB.out.block _ (lt_of_block HF0.out.2)).trans HF0.out.2⟩
  have b0:=cell_of_blk HFr.out.2 0
  have b1:=cell_of_blk HFr.out.2 1
  have b2:=cell_of_blk HFr.out.2 2
  have b3:=cell_of_blk HFr.out.2 3
  have b4:=cell_of_blk HFr.out.2 4
  have f0:=cell_of_blk HFr.out.1 0
  have f1:=cell_of_blk HFr.out.1 1
  have f2:=cell_of_blk HFr.out.1 2
  simp[fnCells] at b0 b1 b2 b3 b4 f0 f1 f2
  by_cases hlt:k < 3
  ·have hcase:k=0∨k=1∨k=2:=by omega
   rcases hcase with rfl | rfl | rfl
   ·have HC:=Lib.hid (HS0.out wr HBw.out)
    by_cases he:e0=0
    ·have He:=Lib.hid he
     clear he
     go_wp2_with fail
     refine HC.out.mono ?_
     rintro e w5 ⟨rfl,hb5⟩
     have HB5:=Lib.hid (HB.out.trans (hb5.mono HB.out.size))
     rw[He.out]
     clear hb5
     go_wp2_with fail
     go_roundw
     case rel=>exact⟨1,rfl,by omega,⟨fun _=>He.out,fun h=>absurd h (by omega),fun h=>absurd h (by omega)⟩,HB5⟩
     case measure=>(simp[intOf];try omega)
    ·have hne:(e0 != (0:Int))=true:=by simpa using he
     have HR:Hid (err=e0):=by show _=_;rw[HE.out];unfold firstErr;rw[if_pos he]
     clear he
     go_wp2_with fail
     refine HC.out.mono ?_
     rintro e w5 ⟨rfl,hb5⟩
     have HB5:=Lib.hid (HBw.out.trans (hb5.mono HBw.out.size))
     clear hb5
     go_wp2_with fail
     go_ret
     exact⟨by rw[HR.out];rfl,HB5.out⟩
   ·have HC:=Lib.hid (HX0.out wr HBw.out)
    have He0:=Lib.hid (HF.out.1 (by omega))
    by_cases he:e1=0
    ·have He:=Lib.hid he
     clear he
     go_wp2_with fail
     refine HC.out.mono ?_
     rintro e w5 ⟨rfl,hb5⟩
     have HB5:=Lib.hid (HB.out.trans (hb5.mono HB.out.size))
     rw[He.out]
     clear hb5
     go_wp2_with fail
     go_roundw
     case rel=>exact⟨2,rfl,by omega,⟨fun _=>He0.out,fun _=>He.out,fun h=>absurd h (by omega)⟩,HB5⟩
     case measure=>(simp[intOf];try omega)
    ·have hne:(e1 != (0:Int))=true:=by simpa using he
     have HR:Hid (err=e1):=by show _=_;rw[HE.out,He0.out];simp[firstErr,he]
     clear he
     go_wp2_with fail
     refine HC.out.mono ?_
     rintro e w5 ⟨rfl,hb5⟩
     have HB5:=Lib.hid (HBw.out.trans (hb5.mono HBw.out.size))
     clear hb5
     go_wp2_with fail
     go_ret
     exact⟨by rw[HR.out];rfl,HB5.out⟩
   ·have HC:=Lib.hid (HU0.out wr HBw.out)
    have He0:=Lib.hid (HF.out.1 (by omega))
    have He1:=Lib.hid (HF.out.2.1 (by omega))
    by_cases he:e2=0
    ·have He:=Lib.hid he
     clear he
     go_wp2_with fail
     refine HC.out.mono ?_
     rintro e w5 ⟨rfl,hb5⟩
     have HB5:=Lib.hid (HB.out.trans (hb5.mono HB.out.size))
     rw[He.out]
     clear hb5
     go_wp2_with fail
     go_roundw
     case rel=>exact⟨3,rfl,by omega,⟨fun _=>He0.out,fun _=>He1.out,fun _=>He.out⟩,HB5⟩
     case measure=>(simp[intOf];try omega)
    ·have hne:(e2 != (0:Int))=true:=by simpa using he
     have HR:Hid (err=e2):=by show _=_;rw[HE.out,He0.out,He1.out];simp[firstErr,he]
     clear he
     go_wp2_with fail
     refine HC.out.mono ?_
     rintro e w5 ⟨rfl,hb5⟩
     have HB5:=Lib.hid (HBw.out.trans (hb5.mono HBw.out.size))
     clear hb5
     go_wp2_with fail
     go_ret
     exact⟨by rw[HR.out];rfl,HB5.out⟩
  ·obtain rfl:k=3:=by omega
   have He0:=Lib.hid (HF.out.1 (by omega))
   have He1:=Lib.hid (HF.out.2.1 (by omega))
   have He2:=Lib.hid (HF.out.2.2 (by omega))
   have HC:=Lib.hid (HO0.out wr HBw.out He0.out)
   go_wp2_with fail
   refine HC.out.mono ?_
   rintro e w5 ⟨⟨h,a,cap,rfl,_⟩ | ⟨h,rfl⟩,hb5⟩
   ·have HB5:=Lib.hid (HBw.out.trans (hb5.mono HBw.out.size))
    have HR:Hid (err=0):=by show _=_;rw[HE.out,He0.out,He1.out,He2.out,if_neg (by omega)];rfl
    clear hb5 h
    go_wp2_with fail
    go_ret
    exact⟨by rw[HR.out];rfl,HB5.out⟩
   ·have HB5:=Lib.hid (HBw.out.trans (hb5.mono HBw.out.size))
    have HR:Hid (err=10):=by show _=_;rw[HE.out,He0.out,He1.out,He2.out,if_pos h];rfl
    clear hb5 h
    go_wp2_with fail
    go_ret
    exact⟨by rw[HR.out];rfl,HB5.out⟩
end Go.Proofs.YtebneadheaefdaaGreatDoor
namespace Go.Proofs.YtebneadheaefdaaGreatDoor
open Go.RowKit
attribute [local go_sem ↓] Go.wp_at_zero Go.wp_at_succ
def DesD.nmErr (d:DesD):Int:=if (!(nameB d.name.data.toList) || !(d.names.all fun s=>nameB s.data.toList))=true then 7 else if 48 < d.names.length then 2 else if dupT d.names=true then 8 else 0
def DesD.numErr (d:DesD):Int:=if d.widths.any wideB=true then 1 else if d.regs.any initB=true then 1 else 0
theorem sigErr_two (d:DesD):d.sigErr=if d.nmErr≠0 then d.nmErr else d.numErr:=by
 rw[sigErr_eq]
 unfold sigC DesD.nmErr DesD.numErr
 by_cases h1:(!(nameB d.name.data.toList) || !(d.names.all fun s=>nameB s.data.toList))=true
 ·rw[if_pos h1,if_pos h1];simp
 ·rw[if_neg h1,if_neg h1]
  by_cases h2:48 < d.names.length
  ·simp[h2]
  ·cases h3:dupT d.names<;>simp[h2]
theorem nmErr_name {d:DesD} (h:nameB d.name.data.toList=false):d.nmErr=7:=by unfold DesD.nmErr;rw[if_pos (by rw[h];rfl)]
theorem nmErr_names {d:DesD} (h:(d.names.all fun s=>nameB s.data.toList)=false):d.nmErr=7:=by unfold DesD.nmErr;rw[if_pos (by rw[h];simp)]
theorem nmErr_rest {d:DesD} (h:nameB d.name.data.toList=true) (h1:(d.names.all fun s=>nameB s.data.toList)=true):d.nmErr=if 48 < d.names.length then 2 else if dupT d.names=true then 8 else 0:=by unfold DesD.nmErr;rw[if_neg (by rw[h,h1];simp)]
theorem numErr_w {d:DesD} {k:Nat} (hk:k < d.widths.length) (h:wideB (d.widths[k]'hk)=true):d.numErr=1:=by
 unfold DesD.numErr;rw[if_pos (List.any_eq_true.2 ⟨_,List.getElem_mem hk,h⟩)]
theorem numErr_r {d:DesD} {k:Nat} (hk:k < d.regs.length) (h:initB (d.regs[k]'hk)=true):d.numErr=1:=by
 unfold DesD.numErr
 split
 ·rfl
 ·rw[if_pos (List.any_eq_true.2 ⟨_,List.getElem_mem hk,h⟩)]
theorem numErr_no {d:DesD} (h1:∀ k (hk:k < d.widths.length),wideB (d.widths[k]'hk)=false) (h2:∀ k (hk:k < d.regs.length),initB (d.regs[k]'hk)=false):d.numErr=0:=by
 unfold DesD.numErr
 rw[if_neg,if_neg]
 ·rw[List.any_eq_true];rintro ⟨x,hx,h⟩;obtain⟨k,hk,rfl⟩:=List.getElem_of_mem hx;rw[h2 k hk] at h;simp at h
 ·rw[List.any_eq_true];rintro ⟨x,hx,h⟩;obtain⟨k,hk,rfl⟩:=List.getElem_of_mem hx;rw[h1 k hk] at h;simp at h
set_option maxRecDepth 100000 in
set_option maxHeartbeats 8000000 in
theorem named_any (d:DesD) (x:DesA) (w:World) (hE:DesIn w d x) (hs:DesSmall d) :
  Calls Tryz.prog 101 #[desVal d x] w fun e w'=>e=.returned (.int .i64 d.nmErr)∧Below w.heap.size w w':=by
 have hN:d.names.length≤3145728:=by have:=hs.len;simp[DesD.names];omega
 have HN0:=Lib.hid (fun W (hW:Below w.heap.size w W)=>rNames31_any d x W (hE.below hW) (by omega))
 have HI0:=Lib.hid (fun W=>risName_any d.name W hs.nm)
 have HSz:=Lib.hid hs.names
 have HE7:Hid (nameB d.name.data.toList=false→d.nmErr=7):=nmErr_name
 have HE7b:Hid ((d.names.all fun s=>nameB s.data.toList)=false→d.nmErr=7):=nmErr_names
 have HEr:Hid (nameB d.name.data.toList=true→(d.names.all fun s=>nameB s.data.toList)=true→d.nmErr=if 48 < d.names.length then 2 else if dupT d.names=true then 8 else 0):=nmErr_rest
 generalize d.nmErr=err at HE7 HE7b HEr⊢
 generalize nameB d.name.data.toList=n0 at HI0 HE7 HEr
 generalize d.names=N at HN0 HSz HE7b HEr hN
 clear hE hs
 obtain⟨nm,ins,wires,regs,outs⟩:=d
 obtain⟨ai,ci,aw,cw,ar,cr,ao,co⟩:=x
 simp only[desVal,desVals] at HN0 HI0⊢
 have HN1:=Lib.hid (HN0.out (w.alloc (.cells #[.string nm,.slice ai ins.length ci,.slice aw wires.length cw,.slice ar regs.length cr,.slice ao outs.length co] 27)) ((Below.refl _ _).alloc (Nat.le_refl _) _))
 clear HN0
 go_enter Tryz.func101, Tryz.ntmps101
 go_wp2_with fail
 refine HN1.out.mono ?_
 rintro e w1 ⟨⟨aN,cN,rfl,hst⟩,hb1⟩
 simp only[World.size_alloc] at hb1
 have HB:=Lib.hid hb1
 have HSt:=Lib.hid hst
 have HSA:=Lib.hid hst.addr
 have HI1:=Lib.hid (HI0.out w1)
 clear hb1 hst HN1 HI0
 ((try clear b0 b1 b2 b3 b4);have b0:=box_cell HB.out 0;have b1:=box_cell HB.out 1;have b2:=box_cell HB.out 2;have b3:=box_cell HB.out 3;have b4:=box_cell HB.out 4;(try simp at b0 b1 b2 b3 b4))
 go_wp2_with fail
 refine HI1.out.mono ?_
 rintro e w2 ⟨rfl,hb2⟩
 have HB2:=Lib.hid (HB.out.trans (hb2.mono (by have:=HB.out.size;simp at this;omega)))
 have HBw2:=Lib.hid (boxW _ HB2.out)
 have HSt2:=Lib.hid (HSt.out.keep (keeps_of_below hb2))
 clear hb2 HI1 b0 b1 b2 b3 b4
 cases n0
 ·have HR:=Lib.hid (HE7.out rfl)
  go_wp2_with fail
  go_ret
  exact⟨by rw[HR.out];rfl,HBw2.out⟩
 have HEr2:=Lib.hid (HEr.out rfl)
 clear HEr HE7
 go_wp2_with fail
 go_loopw [4] (fun i wr=>∃ k:Nat,i=.int .i64 k∧k≤N.length∧Hid (∀ j (hj:j < N.length),j < k→nameB (N[j]'hj).data.toList=true)∧Hid (Below w2.heap.size w2 wr)) (fun i _=>N.length - (intOf i).toNat)
 case atStart=>exact⟨0,rfl,Nat.zero_le _,fun _ _ h=>absurd h (by omega),Below.refl _ _⟩
 case round =>
  obtain⟨k,rfl,hk,HF,HBr⟩:=hrel
  have HBwr:=Lib.hid (HBw2.out.trans (HBr.out.mono HBw2.out.size))
  by_cases hlt:k < N.length
  ·obtain⟨b,off,ha⟩:=HSA.out.resolve_left (by omega)
   subst ha
   have c0:=(keeps_of_below HBr.out) _ _ (HSt2.out.get rfl hlt)
   have HC:=Lib.hid (risName_any (N[k]'hlt) wr (HSz.out _ (List.getElem_mem hlt)))
   have HNx:Hid (nameB (N[k]'hlt).data.toList=true→∀ j (hj:j < N.length),j < k+1→nameB (N[j]'hj).data.toList=true):=fun h j hj hjk=>by
    by_cases e:j=k
    ·subst e;exact h
    ·exact HF.out j hj (by omega)
   have HNo:Hid (nameB (N[k]'hlt).data.toList=false→err=7):=fun h=>HE7b.out (all_not (P:=fun s=>nameB s.data.toList) hlt h)
   generalize hnb:nameB (N[k]'hlt).data.toList=nb at HC HNx HNo
   clear hnb
   generalize (N[k]'hlt)=s at c0 HC
   cases nb
   ·have HR:=Lib.hid (HNo.out rfl)
    go_wp2_with fail
    refine HC.out.mono ?_
    rintro e w3 ⟨rfl,hb3⟩
    have HB3:=Lib.hid (HBwr.out.trans (hb3.mono HBwr.out.size))
    clear hb3
    go_wp2_with fail
    go_ret
    exact⟨by rw[HR.out];rfl,HB3.out⟩
   ·have HNx2:=Lib.hid (HNx.out rfl)
    go_wp2_with fail
    refine HC.out.mono ?_
    rintro e w3 ⟨rfl,hb3⟩
    have HB3:=Lib.hid (HBr.out.trans (hb3.mono HBr.out.size))
    clear hb3 HNo HNx
    go_wp2_with fail
    go_roundw
    case rel=>exact⟨k+1,by go_num,by omega,HNx2,HB3⟩
    case measure=>(simp[intOf];try omega)
  ·obtain rfl:k=N.length:=by omega
   have HEr3:=Lib.hid (HEr2.out (all_yes (P:=fun s=>nameB s.data.toList) (fun j hj=>HF.out j hj hj)))
   by_cases hl:48 < N.length
   ·have hd:decide ((48:Int) < (N.length:Int))=true:=by simp;omega
    have HR:Hid (err=2):=by show _=_;rw[HEr3.out,if_pos hl]
    clear hl
    go_wp2_with fail
    go_ret
    exact⟨by rw[HR.out];rfl,HBwr.out⟩
   have hd:decide ((48:Int) < (N.length:Int))=false:=by simp;omega
   have HEr4:Hid (err=if dupT N=true then 8 else 0):=by show _=_;rw[HEr3.out,if_neg hl]
   have HSt3:=Lib.hid (HSt2.out.keep (keeps_of_below HBr.out))
   clear hl HEr3 HEr2 HE7b
   go_wp2_with fail
   go_loop [5] (fun i=>∃ k:Nat,i=.int .i64 k∧k≤N.length∧Hid (∀ j (hj:j < N.length),j < k→idxT N (N[j]'hj)=some j)) (fun i=>N.length - (intOf i).toNat)
   case atStart=>exact⟨0,rfl,Nat.zero_le _,fun _ _ h=>absurd h (by omega)⟩
   case round =>
    obtain⟨k,rfl,hk,HF⟩:=hrel
    by_cases hlt:k < N.length
    ·obtain⟨b,off,ha⟩:=HSA.out.resolve_left (by omega)
     subst ha
     have c0:=HSt3.out.get rfl hlt
     have HC:=Lib.hid (index_any N (some ⟨b,off,none⟩) cN (N[k]'hlt) wr HSt3.out)
     have HNx:Hid (idxT N (N[k]'hlt)=some k→∀ j (hj:j < N.length),j < k+1→idxT N (N[j]'hj)=some j):=fun h j hj hjk=>by
      by_cases e:j=k
      ·subst e;exact h
      ·exact HF.out j hj (by omega)
     have HNo:Hid (¬ idxT N (N[k]'hlt)=some k→err=8):=fun h=>by
      rw[HEr4.out,if_pos]
      cases hdd:dupT N with
      | true=>rfl
      | false=>exact absurd (dupT_idx.1 hdd k hlt) h
     have hII:idxI N (N[k]'hlt)≠k↔idxT N (N[k]'hlt)≠some k:=idxI_ne
     generalize idxT N (N[k]'hlt)=it at HNx HNo hII
     generalize idxI N (N[k]'hlt)=ii at HC hII
     generalize (N[k]'hlt)=s at c0 HC
     by_cases hi:it=some k
     ·have hik:ii=k:=by
       by_cases e:ii=k
       ·exact e
       ·exact absurd hi (hII.1 e)
      have HNx2:=Lib.hid (HNx.out hi)
      subst hik
      clear hi hII HNx HNo
      go_wp2_with fail
      refine HC.out.mono ?_
      rintro e w3 ⟨rfl,rfl⟩
      go_wp2_with fail
      go_round
      case rel=>exact⟨k+1,by go_num,by omega,HNx2⟩
      case measure=>(simp[intOf];try omega)
     ·have hik:ii≠k:=hII.2 hi
      have HR:=Lib.hid (HNo.out hi)
      have hne:(ii != (k:Int))=true:=by simpa using hik
      clear hi hII HNx HNo hik
      go_wp2_with fail
      refine HC.out.mono ?_
      rintro e w3 ⟨rfl,rfl⟩
      go_wp2_with fail
      go_ret
      exact⟨by rw[HR.out];rfl,HBwr.out⟩
    ·obtain rfl:k=N.length:=by omega
     have HR:Hid (err=0):=by
      show _=_
      rw[HEr4.out,if_neg]
      rw[dupT_idx.2 (fun j hj=>HF.out j hj hj)];simp
     go_wp2_with fail
     go_ret
     exact⟨by rw[HR.out];rfl,HBwr.out⟩
set_option maxRecDepth 100000 in
set_option maxHeartbeats 8000000 in
theorem numbered_any (d:DesD) (x:DesA) (w:World) (hE:DesIn w d x) (hs:DesSmall d) :
  Calls Tryz.prog 102 #[desVal d x] w fun e w'=>e=.returned (.int .i64 d.numErr)∧Below w.heap.size w w':=by
 have hN:d.widths.length≤3145728:=by have:=hs.len;simp[DesD.widths];omega
 have HN0:=Lib.hid (fun W (hW:Below w.heap.size w W)=>rwidths31_any d x W (hE.below hW) (by omega))
 have HR:=Lib.hid hE.regs
 have HRA:=Lib.hid hE.regs.addr
 have hrl:=hs.len.2.2.1
 have HE1:Hid (∀ k (hk:k < d.widths.length),wideB (d.widths[k]'hk)=true→d.numErr=1):=fun k hk h=>numErr_w hk h
 have HE2:Hid (∀ k (hk:k < d.regs.length),initB (d.regs[k]'hk)=true→d.numErr=1):=fun k hk h=>numErr_r hk h
 have HE0:Hid ((∀ k (hk:k < d.widths.length),wideB (d.widths[k]'hk)=false)→(∀ k (hk:k < d.regs.length),initB (d.regs[k]'hk)=false)→d.numErr=0):=numErr_no
 have HWr:Hid ((∀ k (hk:k < d.widths.length),wideB (d.widths[k]'hk)=false)→∀ k (hk:k < d.regs.length),1≤(d.regs[k]'hk).width∧(d.regs[k]'hk).width≤16):=fun h k hk=>by
  have hm:(d.regs[k]'hk).width∈d.widths:=by unfold DesD.widths;exact List.mem_append_right _ (List.mem_map.2 ⟨_,List.getElem_mem hk,rfl⟩)
  obtain⟨j,hj,he⟩:=List.getElem_of_mem hm
  have:=h j hj
  rw[he] at this
  simp only[wideB,decide_eq_false_iff_not] at this
  omega
 generalize d.numErr=err at HE1 HE2 HE0⊢
 generalize d.widths=WD at HN0 HE1 HE0 HWr hN
 clear hE hs
 obtain⟨nm,ins,wires,regs,outs⟩:=d
 obtain⟨ai,ci,aw,cw,ar,cr,ao,co⟩:=x
 simp only[desVal,desVals] at HN0 HR HRA HE2 HE0 HWr hrl⊢
 have HN1:=Lib.hid (HN0.out (w.alloc (.cells #[.string nm,.slice ai ins.length ci,.slice aw wires.length cw,.slice ar regs.length cr,.slice ao outs.length co] 27)) ((Below.refl _ _).alloc (Nat.le_refl _) _))
 clear HN0
 go_enter Tryz.func102, Tryz.ntmps102
 go_wp2_with fail
 refine HN1.out.mono ?_
 rintro e w1 ⟨⟨aN,cN,rfl,hst⟩,hb1⟩
 simp only[World.size_alloc] at hb1
 have HB:=Lib.hid hb1
 have HBw:=Lib.hid (boxW _ hb1)
 have HSt:=Lib.hid hst
 have HSA:=Lib.hid hst.addr
 clear hb1 hst HN1
 go_wp2_with fail
 go_loop [4] (fun i=>∃ k:Nat,i=.int .i64 k∧k≤WD.length∧Hid (∀ j (hj:j < WD.length),j < k→wideB (WD[j]'hj)=false)) (fun i=>WD.length - (intOf i).toNat)
 case atStart=>exact⟨0,rfl,Nat.zero_le _,fun _ _ h=>absurd h (by omega)⟩
 case round =>
  obtain⟨k,rfl,hk,HF⟩:=hrel
  by_cases hlt:k < WD.length
  ·obtain⟨b,off,ha⟩:=HSA.out.resolve_left (by omega)
   subst ha
   have c0:=intsIn_get HSt.out rfl hlt
   have HNx:Hid (wideB (WD[k]'hlt)=false→∀ j (hj:j < WD.length),j < k+1→wideB (WD[j]'hj)=false):=fun h j hj hjk=>by
    by_cases e:j=k
    ·subst e;exact h
    ·exact HF.out j hj (by omega)
   have HNo:=Lib.hid (HE1.out k hlt)
   generalize (WD[k]'hlt)=z at c0 HNx HNo
   by_cases h1:z < 1
   ·have HRe:=Lib.hid (HNo.out (decide_eq_true (Or.inl h1)))
    clear HNx HNo
    go_wp2_with fail
    go_ret
    exact⟨by rw[HRe.out];rfl,HBw.out⟩
   ·by_cases h2:(16:Int) < z
    ·have HRe:=Lib.hid (HNo.out (decide_eq_true (Or.inr h2)))
     clear HNx HNo
     go_wp2_with fail
     go_ret
     exact⟨by rw[HRe.out];rfl,HBw.out⟩
    ·have HNx2:=Lib.hid (HNx.out (decide_eq_false (by omega)))
     clear HNx HNo
     go_wp2_with fail
     go_round
     case rel=>exact⟨k+1,by go_num,by omega,HNx2⟩
     case measure=>(simp[intOf];try omega)
  ·obtain rfl:k=WD.length:=by omega
   have HF1:Hid (∀ j (hj:j < WD.length),wideB (WD[j]'hj)=false):=fun j hj=>HF.out j hj hj
   have HWr2:=Lib.hid (HWr.out HF1.out)
   have HE02:=Lib.hid (HE0.out HF1.out)
   clear HF HE1 HE0 HWr
   ((try clear b0 b1 b2 b3 b4);have b0:=box_cell HB.out 0;have b1:=box_cell HB.out 1;have b2:=box_cell HB.out 2;have b3:=box_cell HB.out 3;have b4:=box_cell HB.out 4;(try simp at b0 b1 b2 b3 b4))
   go_wp2_with fail
   go_loopw [5] (fun i wr=>∃ k:Nat,i=.int .i64 k∧k≤regs.length∧Hid (∀ j (hj:j < regs.length),j < k→initB (regs[j]'hj)=false)∧Hid (Below (w.heap.size+1) (w.alloc (.cells #[.string nm,.slice ai ins.length ci,.slice aw wires.length cw,.slice ar regs.length cr,.slice ao outs.length co] 27)) wr)) (fun i _=>regs.length - (intOf i).toNat)
   case atStart=>exact⟨0,rfl,Nat.zero_le _,fun _ _ h=>absurd h (by omega),HB⟩
   case round =>
    obtain⟨k,rfl,hk,HF,HBr⟩:=hrel
    have HBwr:=Lib.hid (boxW _ HBr.out)
    clear b0 b1 b2 b3 b4
    ((try clear b0 b1 b2 b3 b4);have b0:=box_cell HBr.out 0;have b1:=box_cell HBr.out 1;have b2:=box_cell HBr.out 2;have b3:=box_cell HBr.out 3;have b4:=box_cell HBr.out 4;(try simp at b0 b1 b2 b3 b4))
    by_cases hlt:k < regs.length
    ·obtain⟨b,off,ha⟩:=HRA.out.resolve_left (by omega)
     subst ha
     obtain⟨ae,ce,c0,c1,c2,_,_,_,_,_⟩:=(HR.out.keep (keeps_of_below HBwr.out)).get rfl hlt
     obtain⟨hw1,hw2⟩:=HWr2.out k hlt
     have HNx:Hid (initB (regs[k]'hlt)=false→∀ j (hj:j < regs.length),j < k+1→initB (regs[j]'hj)=false):=fun h j hj hjk=>by
      by_cases e:j=k
      ·subst e;exact h
      ·exact HF.out j hj (by omega)
     have HNo:=Lib.hid (HE2.out k hlt)
     have HIb:Hid (initB (regs[k]'hlt)=decide ((regs[k]'hlt).init < 0∨(regs[k]'hlt).init≥2 ^ (regs[k]'hlt).width.toNat)):=rfl
     generalize initB (regs[k]'hlt)=ib at HNx HNo HIb
     generalize (regs[k]'hlt).init=ini at c2 HIb
     generalize (regs[k]'hlt).width=wd at c1 HIb hw1 hw2
     obtain⟨q,rfl⟩:=Int.eq_ofNat_of_zero_le (show 0≤wd by omega)
     rw[Int.toNat_natCast] at HIb
     have hq:q≤16:=by omega
     obtain⟨p1,p2⟩:=pow_small hq
     have hpw:IntKind.i64.wrap ((2:Int) ^ q)=(2:Int) ^ q:=by rw[IntKind.wrap_i64];omega
     have hmin:min q 64=q:=by omega
     have hq0:(0:Int)≤q:=by omega
     clear c0
     by_cases hi:ini < 0
     ·have hd:decide (ini < 0)=true:=decide_eq_true hi
      have HRe:=Lib.hid (HNo.out (by rw[HIb.out];exact decide_eq_true (Or.inl hi)))
      clear HNx HNo HIb hi
      go_wp2_with fail
      go_quiet (fail)
      go_wp2_with fail
      go_ret
      exact⟨by rw[HRe.out];rfl,by exact below_drewN HBwr.out _⟩
     ·have hd:decide (ini < 0)=false:=decide_eq_false hi
      have hu:IntKind.u64.wrap (q:Int)=(q:Int):=by rw[IntKind.wrap_u64];omega
      by_cases h2:(2:Int) ^ q≤ini
      ·have hd2:decide ((2:Int) ^ q≤ini)=true:=decide_eq_true h2
       have HRe:=Lib.hid (HNo.out (by rw[HIb.out];exact decide_eq_true (Or.inr h2)))
       clear HNx HNo HIb hi h2
       go_wp2_with fail
       go_quiet (fail)
       go_wp2_with fail
       go_ret
       exact⟨by rw[HRe.out];rfl,by exact below_drewN HBwr.out _⟩
      ·have hd2:decide ((2:Int) ^ q≤ini)=false:=decide_eq_false h2
       have HNx2:=Lib.hid (HNx.out (by rw[HIb.out];exact decide_eq_false (by omega)))
       clear HNx HNo HIb hi h2
       go_wp2_with fail
       go_quiet (fail)
       go_wp2_with fail
       go_roundw
       case rel=>exact⟨k+1,by go_num,by omega,HNx2,below_drewN HBr.out _⟩
       case measure=>(simp[intOf];try omega)
    ·obtain rfl:k=regs.length:=by omega
     have HRe:=Lib.hid (HE02.out (fun j hj=>HF.out j hj hj))
     go_wp2_with fail
     go_ret
     exact⟨by rw[HRe.out];rfl,HBwr.out⟩
end Go.Proofs.YtebneadheaefdaaGreatDoor
