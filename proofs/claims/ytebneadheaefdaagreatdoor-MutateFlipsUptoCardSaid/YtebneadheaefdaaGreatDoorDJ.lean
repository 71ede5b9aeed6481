/- design: Valid and Order. -/
import Derived.Test.YtebneadheaefdaaGreatDoorDI
set_option linter.unusedSimpArgs false
set_option linter.unusedVariables false
set_option linter.unnecessarySimpa false
namespace Go.Proofs.YtebneadheaefdaaGreatDoor
open Go.RowKit Go.WideMaps
attribute [local go_sem ↓] Go.wp_at_zero Go.wp_at_succ
theorem sigErr_zero {d:DesD} (h:d.sigErr=0):dupT d.names=false∧d.names.length≤48:=by
 rw[sigErr_eq] at h
 unfold sigC at h
 by_cases h1:(!(nameB d.name.data.toList) || !(d.names.all fun s=>nameB s.data.toList))=true
 ·rw[if_pos h1] at h;simp at h
 ·rw[if_neg h1] at h
  by_cases h2:decide (48 < d.names.length)=true
  ·rw[if_pos h2] at h;simp at h
  ·rw[if_neg h2] at h
   cases h3:dupT d.names
   ·exact⟨rfl,by simpa using h2⟩
   ·rw[h3] at h;simp at h
theorem sigErr_wires {d:DesD} (h:d.sigErr=0):dupT (d.wires.map (·.name))=false∧d.wires.length≤1000:=by
 obtain⟨h1,h2⟩:=sigErr_zero h
 have h3:=h1
 unfold DesD.names at h1 h2
 simp at h2
 exact⟨(dupT_append (dupT_append h1).1).2,by omega⟩
theorem err_eq (d:DesD):d.err=firstErr [d.sigErr,d.expErr,d.outE,if d.order.length < d.wires.length then 10 else 0]:=rfl
def fnCells:Array Value:=#[.func (.func 75) #[] #[],.func (.func 76) #[] #[],.func (.func 77) #[] #[]]
set_option maxRecDepth 100000 in
set_option maxHeartbeats 8000000 in
theorem ValidD_any (d:DesD) (x:DesA) (w:World) (hE:DesIn w d x) (hs:DesSmall d) (hG:Glob w) :
  Calls Tryz.prog 36 #[desVal d x] w fun e w'=>e=.returned (.int .i64 d.err)∧Below w.heap.size w w':=by
 have HS0:=Lib.hid (fun W (hW:Below w.heap.size w W)=>signals_any d x W (hE.below hW) hs (hG.below hW))
 have HX0:=Lib.hid (fun W (hW:Below w.heap.size w W)=>expressions_any d x W (hE.below hW) hs (hG.below hW))
 have HU0:=Lib.hid (fun W (hW:Below w.heap.size w W)=>outputs_any d x W (hE.below hW) hs)
 have HO0:=Lib.hid (fun W (hW:Below w.heap.size w W) (h:d.sigErr=0)=>order_any d x W (hE.below hW) hs (sigErr_wires h).1 (sigErr_wires h).2)
 unfold OrderPost at HO0
 have HE:=Lib.hid (err_eq d)
 generalize d.err=err at HE⊢
 generalize d.sigErr=e0 at HE HS0 HO0
 generalize d.expErr=e1 at HE HX0
 generalize d.outE=e2 at HE HU0
 generalize d.order=OD at HE HO0
 clear hE hs hG
 obtain⟨nm,ins,wires,regs,outs⟩:=d
 obtain⟨ai,ci,aw,cw,ar,cr,ao,co⟩:=x
 simp only[desVal,desVals] at HE HS0 HX0 HU0 HO0⊢
 generalize wires.length=nw at *
 have hb0:Below w.heap.size w ((w.alloc (.cells #[.string nm,.slice ai ins.length ci,.slice aw nw cw,.slice ar regs.length cr,.slice ao outs.length co] 27)).alloc (.cells fnCells 62)):=bel
 have HF0:Hid ((((w.alloc (.cells #[.string nm,.slice ai ins.length ci,.slice aw nw cw,.slice ar regs.length cr,.slice ao outs.length co] 27)).alloc (.cells fnCells 62)).heap[w.heap.size+1]? = some (.cells fnCells 62))∧((w.alloc (.cells #[.string nm,.slice ai ins.length ci,.slice aw nw cw,.slice ar regs.length cr,.slice ao outs.length co] 27)).alloc (.cells fnCells 62)).heap[w.heap.size]? = some (.cells #[.string nm,.slice ai ins.length ci,.slice aw nw cw,.slice ar regs.length cr,.slice ao outs.length co] 27)) :=
  ⟨heap_alloc_at _ _ _ (by simp),by rw[Below.heap_alloc _ _ _ (by simp)];exact heap_alloc_at _ _ _ rfl⟩
 have HB0:=Lib.hid hb0
 have hz0:((w.alloc (.cells #[.string nm,.slice ai ins.length ci,.slice aw nw cw,.slice ar regs.length cr,.slice ao outs.length co] 27)).alloc (.cells fnCells 62)).heap.size=w.heap.size+2:=by simp
 have HZ0:=Lib.hid hz0
 unfold fnCells at HF0 HB0 HZ0
 clear hb0 hz0
 go_enter Tryz.func36, Tryz.ntmps36
 go_wp2_with fail
 generalize hwb:(World.alloc (World.alloc w _) _)=wb at HF0 HB0 HZ0⊢
 clear hwb
 go_loopw [10,4,5] (fun i _ _ wr=>∃ k:Nat,i=.int .i64 k∧k≤3∧Hid ((0 < k→e0=0)∧(1 < k→e1=0)∧(2 < k→e2=0))∧Hid (Below wb.heap.size wb wr)) (fun i _ _ _=>3 - (intOf i).toNat)
 case atStart=>exact⟨0,rfl,by omega,⟨fun h=>by omega,fun h=>by omega,fun h=>by omega⟩,Below.refl _ _⟩
 case round =>
  obtain⟨k,rfl,hk,HF,HB⟩:=hrel
  have HBw:Hid (Below w.heap.size w wr):=HB0.out.trans (HB.out.mono HB0.out.size)
  have HFr:Hid ((wr.heap[w.heap.size+1]? = some (.cells fnCells 62 (0,0)))∧wr.heap[w.heap.size]? = some (.cells #[.string nm,.slice ai ins.length ci,.slice aw nw cw,.slice ar regs.length cr,.slice ao outs.length co] 27 (0,0))) :=
   ⟨(HB.out.block _ (lt_of_block HF0.out.1)).trans HF0.out.1,(HB.out.block _ (lt_of_block HF0.out.2)).trans HF0.out.2⟩
  have b0:=cell_of_blk HFr.out.2 0
  have b1:=cell_of_blk HFr.out.2 1
  have b2:=cell_of_blk HFr.out.2 2
  have b3:=cell_of_blk HFr.out.2 3
  have b4:=cell_of_blk HFr.out.2 4
  have f0:=cell_of_blk HFr.out.1 0
  have f1:=cell_of_blk HFr.out.1 1
  have f2:=cell_of_blk HFr.out.1 2
  simp[fnCells] at b0 b1 b2 b3 b4 f0 f1 f2
  by_cases hlt:k < 3
  ·have hcase:k=0∨k=1∨k=2:=by omega
   rcases hcase with rfl | rfl | rfl
   ·have HC:=Lib.hid (HS0.out wr HBw.out)
    by_cases he:e0=0
    ·have He:=Lib.hid he
     clear he
     go_wp2_with fail
     refine HC.out.mono ?_
     rintro e w5 ⟨rfl,hb5⟩
     have HB5:=Lib.hid (HB.out.trans (hb5.mono HB.out.size))
     rw[He.out]
     clear hb5
     go_wp2_with fail
     go_roundw
     case rel=>exact⟨1,rfl,by omega,⟨fun _=>He.out,fun h=>absurd h (by omega),fun h=>absurd h (by omega)⟩,HB5⟩
     case measure=>(simp[intOf];try omega)
    ·have hne:(e0 != (0:Int))=true:=by simpa using he
     have HR:Hid (err=e0):=by show _=_;rw[HE.out];unfold firstErr;rw[if_pos he]
     clear he
     go_wp2_with fail
     refine HC.out.mono ?_
     rintro e w5 ⟨rfl,hb5⟩
     have HB5:=Lib.hid (HBw.out.trans (hb5.mono HBw.out.size))
     clear hb5
     go_wp2_with fail
     go_ret
     exact⟨by rw[HR.out];rfl,HB5.out⟩
   ·have HC:=Lib.hid (HX0.out wr HBw.out)
    have He0:=Lib.hid (HF.out.1 (by omega))
    by_cases he:e1=0
    ·have He:=Lib.hid he
     clear he
     go_wp2_with fail
     refine HC.out.mono ?_
     rintro e w5 ⟨rfl,hb5⟩
     have HB5:=Lib.hid (HB.out.trans (hb5.mono HB.out.size))
     rw[He.out]
     clear hb5
     go_wp2_with fail
     go_roundw
     case rel=>exact⟨2,rfl,by omega,⟨fun _=>He0.out,fun _=>He.out,fun h=>absurd h (by omega)⟩,HB5⟩
     case measure=>(simp[intOf];try omega)
    ·have hne:(e1 != (0:Int))=true:=by simpa using he
     have HR:Hid (err=e1):=by show _=_;rw[HE.out,He0.out];simp[firstErr,he]
     clear he
     go_wp2_with fail
     refine HC.out.mono ?_
     rintro e w5 ⟨rfl,hb5⟩
     have HB5:=Lib.hid (HBw.out.trans (hb5.mono HBw.out.size))
     clear hb5
     go_wp2_with fail
     go_ret
     exact⟨by rw[HR.out];rfl,HB5.out⟩
   ·have HC:=Lib.hid (HU0.out wr HBw.out)
    have He0:=Lib.hid (HF.out.1 (by omega))
    have He1:=Lib.hid (HF.out.2.1 (by omega))
    by_cases he:e2=0
    ·have He:=Lib.hid he
     clear he
     go_wp2_with fail
     refine HC.out.mono ?_
     rintro e w5 ⟨rfl,hb5⟩
     have HB5:=Lib.hid (HB.out.trans (hb5.mono HB.out.size))
     rw[He.out]
     clear hb5
     go_wp2_with fail
     go_roundw
     case rel=>exact⟨3,rfl,by omega,⟨fun _=>He0.out,fun _=>He1.out,fun _=>He.out⟩,HB5⟩
     case measure=>(simp[intOf];try omega)
    ·have hne:(e2 != (0:Int))=true:=by simpa using he
     have HR:Hid (err=e2):=by show _=_;rw[HE.out,He0.out,He1.out];simp[firstErr,he]
     clear he
     go_wp2_with fail
     refine HC.out.mono ?_
     rintro e w5 ⟨rfl,hb5⟩
     have HB5:=Lib.hid (HBw.out.trans (hb5.mono HBw.out.size))
     clear hb5
     go_wp2_with fail
     go_ret
     exact⟨by rw[HR.out];rfl,HB5.out⟩
  ·obtain rfl:k=3:=by omega
   have He0:=Lib.hid (HF.out.1 (by omega))
   have He1:=Lib.hid (HF.out.2.1 (by omega))
   have He2:=Lib.hid (HF.out.2.2 (by omega))
   have HC:=Lib.hid (HO0.out wr HBw.out He0.out)
   go_wp2_with fail
   refine HC.out.mono ?_
   rintro e w5 ⟨⟨h,a,cap,rfl,_⟩ | ⟨h,rfl⟩,hb5⟩
   ·have HB5:=Lib.hid (HBw.out.trans (hb5.mono HBw.out.size))
    have HR:Hid (err=0):=by show _=_;rw[HE.out,He0.out,He1.out,He2.out,if_neg (by omega)];rfl
    clear hb5 h
    go_wp2_with fail
    go_ret
    exact⟨by rw[HR.out];rfl,HB5.out⟩
   ·have HB5:=Lib.hid (HBw.out.trans (hb5.mono HBw.out.size))
    have HR:Hid (err=10):=by show _=_;rw[HE.out,He0.out,He1.out,He2.out,if_pos h];rfl
    clear hb5 h
    go_wp2_with fail
    go_ret
    exact⟨by rw[HR.out];rfl,HB5.out⟩
def OrderVPost (w:World) (d:DesD) (e:Ending) (w':World):Prop :=
 ((d.err=0∧∃ a cap,e=.returned (.tuple #[.slice a d.order.length cap,.int .i64 0])∧IntsIn w' (natI d.order) a cap)∨(¬ d.err=0∧e=.returned (.tuple #[.slice none 0 0,.int .i64 d.err])))∧Below w.heap.size w w'
theorem err_sig {d:DesD} (h:d.err=0):d.sigErr=0∧¬ d.order.length < d.wires.length:=by
 rw[err_eq,firstErr_zero] at h
 refine⟨h _ (by simp),fun hl=>?_⟩
 have:=h (if d.order.length < d.wires.length then 10 else 0) (by simp)
 rw[if_pos hl] at this
 simp at this
set_option maxRecDepth 100000 in
set_option maxHeartbeats 8000000 in
theorem OrderV_any (d:DesD) (x:DesA) (w:World) (hE:DesIn w d x) (hs:DesSmall d) (hG:Glob w) :
  Calls Tryz.prog 91 #[desVal d x] w (OrderVPost w d):=by
 have HV0:=Lib.hid (fun W (hW:Below w.heap.size w W)=>ValidD_any d x W (hE.below hW) hs (hG.below hW))
 have HO0:=Lib.hid (fun W (hW:Below w.heap.size w W) (h:d.err=0)=>(order_any d x W (hE.below hW) hs (sigErr_wires (err_sig h).1).1 (sigErr_wires (err_sig h).1).2).mono (R':=fun e w'=>(∃ a cap,e=.returned (.tuple #[.slice a d.order.length cap,.bool true])∧IntsIn w' (natI d.order) a cap)∧Below W.heap.size W w') (fun e w' h'=>by
  obtain⟨h1 | h1,h2⟩:=h'
  ·exact⟨h1.2,h2⟩
  ·exact absurd h1.1 (err_sig h).2))
 have HP1:Hid (∀ a cap w',d.err=0→IntsIn w' (natI d.order) a cap→Below w.heap.size w w'→OrderVPost w d (.returned (.tuple #[.slice a d.order.length cap,.int .i64 0])) w'):=fun a cap w' h1 h2 h3=>⟨Or.inl ⟨h1,a,cap,rfl,h2⟩,h3⟩
 have HP0:Hid (∀ w',¬ d.err=0→Below w.heap.size w w'→OrderVPost w d (.returned (.tuple #[.slice none 0 0,.int .i64 d.err])) w'):=fun w' h1 h2=>⟨Or.inr ⟨h1,rfl⟩,h2⟩
 generalize OrderVPost w d=Po at HP1 HP0⊢
 generalize d.err=err at HV0 HO0 HP1 HP0
 generalize d.order=OD at HO0 HP1
 clear hE hs hG
 obtain⟨nm,ins,wires,regs,outs⟩:=d
 obtain⟨ai,ci,aw,cw,ar,cr,ao,co⟩:=x
 simp only[desVal,desVals] at HV0 HO0⊢
 have HV1:=Lib.hid (HV0.out (w.alloc (.cells #[.string nm,.slice ai ins.length ci,.slice aw wires.length cw,.slice ar regs.length cr,.slice ao outs.length co] 27)) ((Below.refl _ _).alloc (Nat.le_refl _) _))
 clear HV0
 go_enter Tryz.func91, Tryz.ntmps91
 go_wp2_with fail
 refine HV1.out.mono ?_
 rintro e w1 ⟨rfl,hb1⟩
 simp only[World.size_alloc] at hb1
 have HB1:=Lib.hid hb1
 have HBw:=Lib.hid (boxW _ hb1)
 clear hb1 HV1
 by_cases he:err=0
 ·have HO1:=Lib.hid (HO0.out w1 HBw.out he)
  have HPe:=Lib.hid (fun a cap w'=>HP1.out a cap w' he)
  subst he
  clear HO0 HP1 HP0
  ((try clear b0 b1 b2 b3 b4);have b0:=box_cell HB1.out 0;have b1:=box_cell HB1.out 1;have b2:=box_cell HB1.out 2;have b3:=box_cell HB1.out 3;have b4:=box_cell HB1.out 4;(try simp at b0 b1 b2 b3 b4))
  go_wp2_with fail
  refine HO1.out.mono ?_
  rintro e w2 ⟨⟨a,cap,rfl,hI⟩,hb2⟩
  have HPf:=Lib.hid (HPe.out a cap w2 hI (HBw.out.trans (hb2.mono HBw.out.size)))
  clear hI hb2
  go_wp2_with fail
  exact HPf.out
 ·have HPe:=Lib.hid (HP0.out w1 he HBw.out)
  have hne:(err != (0:Int))=true:=by simpa using he
  clear HO0 HP1 HP0 he
  go_wp2_with fail
  exact HPe.out
end Go.Proofs.YtebneadheaefdaaGreatDoor
namespace Go.Proofs.YtebneadheaefdaaGreatDoor
open Go.RowKit
attribute [local go_sem ↓] Go.wp_at_zero Go.wp_at_succ
end Go.Proofs.YtebneadheaefdaaGreatDoor
