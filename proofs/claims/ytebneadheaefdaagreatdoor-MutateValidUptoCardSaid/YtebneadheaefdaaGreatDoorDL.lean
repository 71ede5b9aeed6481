/- ref31: shown, wire, ready. -/
import Derived.Test.YtebneadheaefdaaGreatDoorDK
set_option linter.unusedSimpArgs false
set_option linter.unusedVariables false
set_option linter.unnecessarySimpa false
namespace Go.Proofs.YtebneadheaefdaaGreatDoor
open Go.RowKit
attribute [local go_sem ↓] Go.wp_at_zero Go.wp_at_succ
theorem idxT_first {l:List ByteArray} {i:Nat} (hi:i < l.length):idxT l (l[i]'hi)=some i↔(idxT (l.take i) (l[i]'hi)).isSome=false:=by
 constructor
 ·intro h
  obtain⟨_,_,h3⟩:=idxT_some h
  cases hx:idxT (l.take i) (l[i]'hi) with
  | none=>rfl
  | some k =>
   obtain⟨h4,h5,_⟩:=idxT_some hx
   rw[List.getElem_take] at h5
   have:k < i:=by rw[List.length_take] at h4;omega
   exact absurd h5 (h3 k this)
 ·intro h
  refine idxI_at hi (fun j hj hji=>?_) (by simp)
  cases hc:((l[j]'hj).toList == (l[i]'hi).toList) with
  | false=>rfl
  | true =>
   have h2:(l[j]'hj)∈l.take i:=List.mem_iff_getElem.2 ⟨j,by simp;omega,by simp⟩
   have:=idxT_mem (s:=l[i]'hi) h2 (by simpa using hc)
   rw[h] at this;simp at this
set_option maxRecDepth 100000 in
set_option maxHeartbeats 8000000 in
theorem shown_any (d:DesD) (x:DesA) (w:World) (hE:DesIn w d x) (hs:DesSmall d) :
  Calls Tryz.prog 104 #[desVal d x] w fun e w'=>e=.returned (.int .i64 d.outE)∧Below w.heap.size w w':=by
 have hN:d.names.length≤1073741824:=by have:=hs.len;simp[DesD.names];omega
 have hil:d.inputs.length≤d.names.length:=by simp[DesD.names]
 have HN0:=Lib.hid (fun W (hW:Below w.heap.size w W)=>(rNames31_any d x W (hE.below hW) hN).mono (R':=fun e w'=>∃ a1 c1 a2 c2,e=.returned (.slice a1 d.names.length c1)∧(∀ W:World,(Instr.sliceAt 25 (.slice a1 d.names.length c1) (some (.int .i64 d.inputs.length)) none none).run Tryz.prog W=.ok (.slice a2 d.inner.length c2) W)∧Hid (StrsIn w' d.inner a2 c2)∧Below W.heap.size W w') (fun e w' ⟨⟨a1,c1,h1,h2⟩,h3⟩=>by
  obtain⟨a2,c2,h4,h5⟩:=slice_from h2 _ hil
  rw[inner_eq] at h4 h5
  exact⟨a1,c1,a2,c2,h1,h4,h5,h3⟩))
 have HO:=Lib.hid hE.outs
 have HOA:=Lib.hid hE.outs.addr
 have hol:=hE.outs.2.1
 have hoc:=hE.outs.1
 have HE1:Hid (∀ k (hk:k < d.outputs.length),(∀ j (hj:j < d.outputs.length),j < k→(idxT d.inner (d.outputs[j]'hj)).isSome=true∧(idxT (d.outputs.take j) (d.outputs[j]'hj)).isSome=false)→((idxT d.inner (d.outputs[k]'hk)).isSome=false→d.outE=7)∧((idxT d.inner (d.outputs[k]'hk)).isSome=true→(idxT (d.outputs.take k) (d.outputs[k]'hk)).isSome=true→d.outE=8)):=fun k hk h=>outErr_bad (seen:=[]) hk h
 have HE0:Hid ((∀ j (hj:j < d.outputs.length),(idxT d.inner (d.outputs[j]'hj)).isSome=true∧(idxT (d.outputs.take j) (d.outputs[j]'hj)).isSome=false)→d.outE=0):=fun h=>outErr_ok (seen:=[]) h
 generalize d.outE=err at HE1 HE0⊢
 generalize d.inner=I at HN0 HE1 HE0
 generalize d.names=N at HN0 hN hil
 clear hE hs
 obtain⟨nm,ins,wires,regs,outs⟩:=d
 obtain⟨ai,ci,aw,cw,ar,cr,ao,co⟩:=x
 simp only[desVal,desVals] at HN0 HO HOA HE1 HE0 hol hoc hil⊢
 have HN1:=Lib.hid (fun W (hW:Below (w.heap.size+1) (w.alloc (.cells #[.string nm,.slice ai ins.length ci,.slice aw wires.length cw,.slice ar regs.length cr,.slice ao outs.length co] 27)) W)=>(HN0.out W (boxW _ hW)).mono (R':=fun e w'=>∃ a1 c1 a2 c2,e=.returned (.slice a1 N.length c1)∧(∀ W:World,(Instr.sliceAt 25 (.slice a1 N.length c1) (some (.int .i64 ins.length)) none none).run Tryz.prog W=.ok (.slice a2 I.length c2) W)∧Hid (StrsIn w' I a2 c2)∧Below (w.heap.size+1) (w.alloc (.cells #[.string nm,.slice ai ins.length ci,.slice aw wires.length cw,.slice ar regs.length cr,.slice ao outs.length co] 27)) w') (fun e w' ⟨a1,c1,a2,c2,h1,h2,h3,h4⟩=>⟨a1,c1,a2,c2,h1,h2,h3,hW.trans (h4.mono (by have:=hW.size;simp at this;omega))⟩))
 clear HN0
 have HALL:Hid (∀ w',Below (w.heap.size+1) (w.alloc (.cells #[.string nm,.slice ai ins.length ci,.slice aw wires.length cw,.slice ar regs.length cr,.slice ao outs.length co] 27)) w'→w'.cell? ⟨w.heap.size,0,none⟩=some (.string nm)∧w'.cell? ⟨w.heap.size,1,none⟩=some (.slice ai ins.length ci)∧w'.cell? ⟨w.heap.size,2,none⟩=some (.slice aw wires.length cw)∧w'.cell? ⟨w.heap.size,3,none⟩=some (.slice ar regs.length cr)∧w'.cell? ⟨w.heap.size,4,none⟩=some (.slice ao outs.length co)):=fun w' h=>by
  have b0:=box_cell h 0
  have b1:=box_cell h 1
  have b2:=box_cell h 2
  have b3:=box_cell h 3
  have b4:=box_cell h 4
  simp at b0 b1 b2 b3 b4
  exact⟨b0,b1,b2,b3,b4⟩
 go_enter Tryz.func104, Tryz.ntmps104
 go_wp2_with fail
 go_region_held3 (fun w'=>Below (w.heap.size+1) (w.alloc (.cells #[.string nm,.slice ai ins.length ci,.slice aw wires.length cw,.slice ar regs.length cr,.slice ao outs.length co] 27)) w'∧w'.cell? ⟨w.heap.size,0,none⟩=some (.string nm)∧w'.cell? ⟨w.heap.size,1,none⟩=some (.slice ai ins.length ci)∧w'.cell? ⟨w.heap.size,2,none⟩=some (.slice aw wires.length cw)∧w'.cell? ⟨w.heap.size,3,none⟩=some (.slice ar regs.length cr)∧w'.cell? ⟨w.heap.size,4,none⟩=some (.slice ao outs.length co)) ((refine(fun h=>⟨h,HALL.out _ h⟩) ?_;first | assumption | exact bel)) ((go_at_call 51;(with_reducible refine(HN1.out _ (by first | assumption | exact And.left (by assumption))).mono ?_);rintro e w3 ⟨a1,c1,a2,c2,rfl,hsl,hS,hb3⟩;have HS:=hS;clear hS))
 have HB3:=Lib.hid (by assumption:Below (w.heap.size+1) (w.alloc (.cells #[.string nm,.slice ai ins.length ci,.slice aw wires.length cw,.slice ar regs.length cr,.slice ao outs.length co] 27)) w3)
 have HBw3:=Lib.hid (boxW _ HB3.out)
 have HO3:=Lib.hid (HO.out.keep (keeps_of_below HBw3.out))
 clear hb3 hsl
 go_wp2_with fail
 go_loopw [4] (fun i wr=>∃ k:Nat,i=.int .i64 k∧k≤outs.length∧Hid (∀ j (hj:j < outs.length),j < k→(idxT I (outs[j]'hj)).isSome=true∧(idxT (outs.take j) (outs[j]'hj)).isSome=false)∧Hid (Below w3.heap.size w3 wr)) (fun i _=>outs.length - (intOf i).toNat)
 case atStart=>exact⟨0,rfl,Nat.zero_le _,fun _ _ h=>absurd h (by omega),Below.refl _ _⟩
 case round =>
  obtain⟨k,rfl,hk,HF,HBr⟩:=hrel
  have hBD:Below (w.heap.size+1) (w.alloc (.cells #[.string nm,.slice ai ins.length ci,.slice aw wires.length cw,.slice ar regs.length cr,.slice ao outs.length co] 27)) wr:=HB3.out.trans (HBr.out.mono (by have:=HB3.out.size;simp at this;omega))
  have HBwr:=Lib.hid (boxW _ hBD)
  obtain⟨b0,b1,b2,b3,b4⟩:=HALL.out _ hBD
  clear hBD
  by_cases hlt:k < outs.length
  ·obtain⟨b,off,ha⟩:=HOA.out.resolve_left (by omega)
   subst ha
   have c0:=(keeps_of_below HBr.out) _ _ (HO3.out.get rfl hlt)
   have HNx:Hid ((idxT I (outs[k]'hlt)).isSome=true→(idxT (outs.take k) (outs[k]'hlt)).isSome=false→∀ j (hj:j < outs.length),j < k+1→(idxT I (outs[j]'hj)).isSome=true∧(idxT (outs.take j) (outs[j]'hj)).isSome=false):=fun h1 h2 j hj hjk=>by
    by_cases e:j=k
    ·subst e;exact⟨h1,h2⟩
    ·exact HF.out j hj (by omega)
   have HNo:=Lib.hid (HE1.out k hlt HF.out)
   have HC:=Lib.hid (index_any I a2 c2 (outs[k]'hlt) wr (HS.out.keep (keeps_of_below HBr.out)))
   have HC2:=Lib.hid (fun W (hW:Below wr.heap.size wr W)=>index_any outs (some ⟨b,off,none⟩) co (outs[k]'hlt) W ((HO3.out.keep (keeps_of_below HBr.out)).keep (keeps_of_below hW)))
   have hn1:idxI I (outs[k]'hlt) < 0↔(idxT I (outs[k]'hlt)).isSome=false:=idxI_neg
   have hn2:idxI outs (outs[k]'hlt)≠k↔¬ (idxT (outs.take k) (outs[k]'hlt)).isSome=false:=idxI_ne.trans (not_congr (idxT_first hlt))
   generalize (idxT I (outs[k]'hlt)).isSome=i1 at HNx HNo hn1
   generalize (idxT (outs.take k) (outs[k]'hlt)).isSome=i2 at HNx HNo hn2
   generalize idxI I (outs[k]'hlt)=j1 at HC hn1
   generalize idxI outs (outs[k]'hlt)=j2 at HC2 hn2
   generalize (outs[k]'hlt)=s at c0 HC HC2
   cases i1
   ·have HR:=Lib.hid (HNo.out.1 rfl)
    have hj:j1 < 0:=hn1.2 rfl
    clear hn1 hn2 HNx HNo
    go_wp2_with fail
    refine HC.out.mono ?_
    rintro r w' ⟨rfl,rfl⟩
    go_wp2_with fail
    go_ret
    exact⟨by rw[HR.out];rfl,HBwr.out⟩
   ·have hj:¬ j1 < 0:=fun h=>by have:=hn1.1 h;simp at this
    have HNo2:=Lib.hid (HNo.out.2 rfl)
    have HNx2:=Lib.hid (HNx.out rfl)
    clear hn1 HNo HNx
    cases i2
    ·have hjk:j2=k:=by
      by_cases e:j2=k
      ·exact e
      ·exact absurd rfl (hn2.1 e)
     have HNx3:=Lib.hid (HNx2.out rfl)
     subst hjk
     clear hn2 HNo2 HNx2
     go_wp2_with fail
     refine HC.out.mono ?_
     rintro r w' ⟨rfl,rfl⟩
     go_wp2_with fail
     go_quiet ((go_at_call 161;exact Calls.quiet_of_same ((HC2.out _ (below_drewN (Below.refl _ _) _)).mono fun e w' h=>⟨h.1,h.2.symm⟩)))
     go_wp2_with fail
     go_roundw
     case rel=>exact⟨k+1,by go_num,by omega,HNx3,below_drewN HBr.out _⟩
     case measure=>(simp[intOf];try omega)
    ·have hjk:j2≠k:=hn2.2 (by simp)
     have hne:(j2 != (k:Int))=true:=by simpa using hjk
     have HR:=Lib.hid (HNo2.out rfl)
     clear hn2 HNo2 HNx2 hjk
     go_wp2_with fail
     refine HC.out.mono ?_
     rintro r w' ⟨rfl,rfl⟩
     go_wp2_with fail
     go_quiet ((go_at_call 161;exact Calls.quiet_of_same ((HC2.out _ (below_drewN (Below.refl _ _) _)).mono fun e w' h=>⟨h.1,h.2.symm⟩)))
     go_wp2_with fail
     go_ret
     exact⟨by rw[HR.out];rfl,by exact below_drewN HBwr.out _⟩
  ·obtain rfl:k=outs.length:=by omega
   have HR:=Lib.hid (HE0.out (fun j hj=>HF.out j hj hj))
   go_wp2_with fail
   go_ret
   exact⟨by rw[HR.out];rfl,HBwr.out⟩
def DesD.wireI (d:DesD) (s:ByteArray):Int:=match d.wireIdx s with
 | some k=>k
 | none=>-1
set_option maxRecDepth 100000 in
set_option maxHeartbeats 4000000 in
theorem wire_any (d:DesD) (x:DesA) (s:ByteArray) (w:World) (hE:DesIn w d x) :
  Calls Tryz.prog 211 #[desVal d x,.string s] w fun e w'=>e=.returned (.int .i64 (d.wireI s))∧Below w.heap.size w w':=by
 have HW:=Lib.hid hE.wires
 have HWA:=Lib.hid hE.wires.addr
 have hwl:=hE.wires.2.1
 have HI1:Hid (∀ k (hk:k < d.wires.length),(∀ j (hj:j < d.wires.length),j < k→((d.wires[j]'hj).name.toList == s.toList)=false)→((d.wires[k]'hk).name.toList == s.toList)=true→d.wireI s=k):=fun k hk h0 h1=>by
  unfold DesD.wireI DesD.wireIdx
  rw[idxI_at (k:=k) (by simpa using hk) (fun j hj hjk=>by simpa using h0 j (by simpa using hj) hjk) (by simpa using h1)]
 have HI0:Hid ((∀ j (hj:j < d.wires.length),((d.wires[j]'hj).name.toList == s.toList)=false)→d.wireI s=-1):=fun h0=>by
  unfold DesD.wireI DesD.wireIdx
  rw[idxT_not (fun j hj=>by simpa using h0 j (by simpa using hj))]
 generalize d.wireI s=r at HI1 HI0⊢
 clear hE
 obtain⟨nm,ins,wires,regs,outs⟩:=d
 obtain⟨ai,ci,aw,cw,ar,cr,ao,co⟩:=x
 simp only[desVal,desVals] at HW HWA HI1 HI0 hwl⊢
 have HB0:Hid (Below (w.heap.size+1) (w.alloc (.cells #[.string nm,.slice ai ins.length ci,.slice aw wires.length cw,.slice ar regs.length cr,.slice ao outs.length co] 27)) (w.alloc (.cells #[.string nm,.slice ai ins.length ci,.slice aw wires.length cw,.slice ar regs.length cr,.slice ao outs.length co] 27))):=Below.refl _ _
 have HBw:=Lib.hid (boxW _ HB0.out)
 go_enter Tryz.func211, Tryz.ntmps211
 go_wp2_with fail
 go_loop [5] (fun i=>∃ k:Nat,i=.int .i64 k∧k≤wires.length∧Hid (∀ j (hj:j < wires.length),j < k→((wires[j]'hj).name.toList == s.toList)=false)) (fun i=>wires.length - (intOf i).toNat)
 case atStart=>exact⟨0,rfl,Nat.zero_le _,fun _ _ h=>absurd h (by omega)⟩
 case round =>
  obtain⟨k,rfl,hk,HF⟩:=hrel
  by_cases hlt:k < wires.length
  ·obtain⟨b,off,ha⟩:=HWA.out.resolve_left (by omega)
   subst ha
   obtain⟨ae,ce,c0,_⟩:=(HW.out.keep (keeps_of_below HBw.out)).get rfl hlt
   have HNx:Hid (((wires[k]'hlt).name.toList == s.toList)=false→∀ j (hj:j < wires.length),j < k+1→((wires[j]'hj).name.toList == s.toList)=false):=fun h j hj hjk=>by
    by_cases e:j=k
    ·subst e;exact h
    ·exact HF.out j hj (by omega)
   have HNo:=Lib.hid (HI1.out k hlt HF.out)
   generalize (wires[k]'hlt).name=t at c0 HNx HNo
   cases heq:(t.toList == s.toList)
   ·have HNx2:=Lib.hid (HNx.out heq)
    clear HNx HNo
    go_wp2_with fail
    go_round
    case rel=>exact⟨k+1,by go_num,by omega,HNx2⟩
    case measure=>(simp[intOf];try omega)
   ·have HR:=Lib.hid (HNo.out heq)
    clear HNx HNo
    go_wp2_with fail
    go_ret
    exact⟨by rw[HR.out];rfl,HBw.out⟩
  ·obtain rfl:k=wires.length:=by omega
   have HR:=Lib.hid (HI0.out (fun j hj=>HF.out j hj hj))
   go_wp2_with fail
   go_ret
   exact⟨by rw[HR.out];rfl,HBw.out⟩
end Go.Proofs.YtebneadheaefdaaGreatDoor
namespace Go.Proofs.YtebneadheaefdaaGreatDoor
open Go.RowKit
attribute [local go_sem ↓] Go.wp_at_zero Go.wp_at_succ
def DoneRow (w:World) (b n:Nat) (out:List Nat):Prop:=FRow w b 4 n (fun j=>.bool (out.contains j))
theorem ready_all {d:DesD} {out:List Nat} {i:Nat} {N2:List ByteArray} (hn:d.needs i=N2.filterMap d.wireIdx) (h:∀ q (hq:q < N2.length),∀ k,d.wireIdx (N2[q]'hq)=some k→out.contains k=true):readyB d.needs out i=true:=by
 unfold readyB
 rw[hn,List.all_eq_true]
 intro k hk
 obtain⟨s,hs,hsk⟩:=List.mem_filterMap.1 hk
 obtain⟨q,hq,rfl⟩:=List.getElem_of_mem hs
 exact h q hq k hsk
theorem ready_not {d:DesD} {out:List Nat} {i:Nat} {N2:List ByteArray} (hn:d.needs i=N2.filterMap d.wireIdx) {q:Nat} (hq:q < N2.length) {k:Nat} (hk:d.wireIdx (N2[q]'hq)=some k) (h:out.contains k=false):readyB d.needs out i=false:=by
 unfold readyB
 rw[hn,List.all_eq_false]
 exact⟨k,List.mem_filterMap.2 ⟨_,List.getElem_mem hq,hk⟩,by rw[h];simp⟩
theorem wireIdx_lt {d:DesD} {s:ByteArray} {k:Nat} (h:d.wireIdx s=some k):k < d.wires.length:=by
 obtain⟨h1,_⟩:=idxT_some h
 simpa using h1
set_option maxRecDepth 100000 in
set_option maxHeartbeats 8000000 in
theorem ready_any (d:DesD) (x:DesA) (i bd:Nat) (out:List Nat) (w:World) (hE:DesIn w d x) (hs:DesSmall d) (hi:i < d.wires.length) (hD:DoneRow w bd d.wires.length out) :
  Calls Tryz.prog 165 #[desVal d x,.int .i64 i,.slice (some ⟨bd,0,none⟩) d.wires.length d.wires.length] w fun e w'=>e=.returned (.bool (readyB d.needs out i))∧Below w.heap.size w w':=by
 obtain⟨bw,ow,haw⟩:=hE.wires.addr.resolve_left (by omega)
 obtain⟨ae,ce,g0,g1,g2,g3,g4,g5,hX⟩:=hE.wires.get haw hi
 clear g0 g1
 have hwl:=hE.wires.2.1
 have hwc:=hE.wires.1
 have HNa:=Lib.hid (fun W (hW:Below w.heap.size w W)=>(show Calls Tryz.prog 164 #[.agg #[.int .i64 (d.wires[i]'hi).expr.op,.int .i64 (d.wires[i]'hi).expr.n,.string (d.wires[i]'hi).expr.name,.slice ae (d.wires[i]'hi).expr.args.length ce]] W fun r w'=>(∃ a' cap',r=.returned (.slice a' (namesS [2] (d.wires[i]'hi).expr).length cap')∧StrsIn w' (namesS [2] (d.wires[i]'hi).expr) a' cap')∧Below W.heap.size W w' by
  have h1:=hs.exprs _ (wire_expr hi)
  have h2:=hX.keep (keeps_of_below hW)
  generalize (d.wires[i]'hi).expr=e at h1 h2
  obtain⟨op,n,s,args⟩:=e
  exact rNames_any op n s args ae ce W h2 (by omega)))
 have hnd:d.needs i=(namesS [2] (d.wires[i]'hi).expr).filterMap d.wireIdx:=by unfold DesD.needs;rw[List.getElem?_eq_getElem hi]
 have HY:Hid ((∀ q (hq:q < (namesS [2] (d.wires[i]'hi).expr).length),∀ k,d.wireIdx ((namesS [2] (d.wires[i]'hi).expr)[q]'hq)=some k→out.contains k=true)→readyB d.needs out i=true):=fun h=>ready_all hnd h
 have HNo:Hid (∀ q (hq:q < (namesS [2] (d.wires[i]'hi).expr).length) k,d.wireIdx ((namesS [2] (d.wires[i]'hi).expr)[q]'hq)=some k→out.contains k=false→readyB d.needs out i=false):=fun q hq k hk h=>ready_not hnd hq hk h
 have HWi0:=Lib.hid (fun s W (hW:Below w.heap.size w W)=>wire_any d x s W (hE.below hW))
 have HLt:Hid (∀ s k,d.wireIdx s=some k→k < d.wires.length):=fun s k h=>wireIdx_lt h
 have HWv:Hid (∀ s,(d.wireIdx s=none∧d.wireI s=-1)∨∃ k,d.wireIdx s=some k∧d.wireI s=(k:Int)):=fun s=>by
  unfold DesD.wireI
  cases d.wireIdx s with
  | none=>exact Or.inl ⟨rfl,rfl⟩
  | some k=>exact Or.inr ⟨k,rfl,rfl⟩
 have HD:=Lib.hid hD
 generalize readyB d.needs out i=rb at HY HNo⊢
 generalize namesS [2] (d.wires[i]'hi).expr=N2 at HNa HY HNo
 generalize (d.wires[i]'hi).expr=e at g2 g3 g4 g5 HNa
 generalize d.wireIdx=wix at HY HNo HLt HWv
 generalize d.wireI=wii at HWi0 HWv
 clear hnd hX hE hs hD
 have hbs:w.heap.size≠bw:=by have:=World.block_lt_of_cell? _ _ g2;simp at this;omega
 simp only[desVal,desVals] at HWi0⊢
 rw[haw] at HWi0⊢
 generalize d.wires.length=n at *
 generalize d.name=nm at *
 generalize hins:d.inputs=ins at *
 generalize hregs:d.regs=regs at *
 generalize houts:d.outputs=outs at *
 clear hins hregs houts haw
 obtain⟨ai,ci,aw,cw,ar,cr,ao,co⟩:=x
 simp only at HWi0 hwc⊢
 have kk:∀ a u,w.cell? a=some u→(w.alloc (.cells #[.string nm,.slice ai ins.length ci,.slice (some ⟨bw,ow,none⟩) n cw,.slice ar regs.length cr,.slice ao outs.length co] 27)).cell? a=some u:=keeps_of_below ((Below.refl _ _).alloc (Nat.le_refl _) _)
 have c2:=kk _ _ g2
 have c3:=kk _ _ g3
 have c4:=kk _ _ g4
 have c5:=kk _ _ g5
 have HN1:=Lib.hid (HNa.out (w.alloc (.cells #[.string nm,.slice ai ins.length ci,.slice (some ⟨bw,ow,none⟩) n cw,.slice ar regs.length cr,.slice ao outs.length co] 27)) ((Below.refl _ _).alloc (Nat.le_refl _) _))
 clear HNa kk g2 g3 g4 g5
 have hin:(i:Int) < n:=by omega
 go_enter Tryz.func165, Tryz.ntmps165
 go_wp2_with fail
 refine HN1.out.mono ?_
 rintro r w1 ⟨⟨an,cn,rfl,hst⟩,hb1⟩
 simp only[World.size_alloc] at hb1
 have HB1:=Lib.hid hb1
 have HBw1:=Lib.hid (boxW _ hb1)
 have HS:=Lib.hid hst
 have HSA:=Lib.hid hst.addr
 have hln:=hst.2.1
 clear hst hb1 HN1 c2 c3 c4 c5
 go_wp2_with fail
 go_loopw [8,9] (fun q _ wr=>∃ j:Nat,q=.int .i64 j∧j≤N2.length∧Hid (∀ q (hq:q < N2.length),q < j→∀ k,wix (N2[q]'hq)=some k→out.contains k=true)∧Hid (Below w1.heap.size w1 wr)) (fun q _ _=>N2.length - (intOf q).toNat)
 case atStart=>exact⟨0,rfl,Nat.zero_le _,fun _ _ h=>absurd h (by omega),Below.refl _ _⟩
 case round =>
  obtain⟨j,rfl,hj,HF,HBr⟩:=hrel
  have HBwr:=Lib.hid (HBw1.out.trans (HBr.out.mono HBw1.out.size))
  have hB1r:Below (w.heap.size+1) (w.alloc (.cells #[.string nm,.slice ai ins.length ci,.slice (some ⟨bw,ow,none⟩) n cw,.slice ar regs.length cr,.slice ao outs.length co] 27)) wr:=HB1.out.trans (HBr.out.mono (by have:=HB1.out.size;simp at this;omega))
  have HB1r:=Lib.hid hB1r
  clear hB1r
  by_cases hlt:j < N2.length
  ·obtain⟨b,off,ha⟩:=HSA.out.resolve_left (by omega)
   subst ha
   have c0:=(keeps_of_below HBr.out) _ _ (HS.out.get rfl hlt)
   have HNx:Hid ((∀ k,wix (N2[j]'hlt)=some k→out.contains k=true)→∀ q (hq:q < N2.length),q < j+1→∀ k,wix (N2[q]'hq)=some k→out.contains k=true):=fun h q hq hqj=>by
    by_cases e:q=j
    ·subst e;exact h
    ·exact HF.out q hq (by omega)
   have HNj:=Lib.hid (HNo.out j hlt)
   have hv:=HWv.out (N2[j]'hlt)
   have HWi:=Lib.hid (fun W (hW:Below wr.heap.size wr W)=>(HWi0.out (N2[j]'hlt) W (HBwr.out.trans (hW.mono HBwr.out.size))).mono fun e w' h=>(⟨h.1,hW.trans (h.2.mono hW.size)⟩:_∧Below wr.heap.size wr w'))
   have HLj:=Lib.hid (HLt.out (N2[j]'hlt))
   generalize wix (N2[j]'hlt)=it at HNx HNj hv HLj
   generalize wii (N2[j]'hlt)=ii at hv HWi
   generalize (N2[j]'hlt)=s at c0 HWi
   ((try clear b0 b1 b2 b3 b4);have b0:=box_cell HB1r.out 0;have b1:=box_cell HB1r.out 1;have b2:=box_cell HB1r.out 2;have b3:=box_cell HB1r.out 3;have b4:=box_cell HB1r.out 4;(try simp at b0 b1 b2 b3 b4))
   have e0:∀ g:Grow wr.heap.size wr,g.w'.cell? ⟨w.heap.size,0,none⟩=some (.string nm):=Grow.old b0 (Nat.le_refl _)
   have e1:∀ g:Grow wr.heap.size wr,g.w'.cell? ⟨w.heap.size,1,none⟩=some (.slice ai ins.length ci):=Grow.old b1 (Nat.le_refl _)
   have e2:∀ g:Grow wr.heap.size wr,g.w'.cell? ⟨w.heap.size,2,none⟩=some (.slice (some ⟨bw,ow,none⟩) n cw):=Grow.old b2 (Nat.le_refl _)
   have e3:∀ g:Grow wr.heap.size wr,g.w'.cell? ⟨w.heap.size,3,none⟩=some (.slice ar regs.length cr):=Grow.old b3 (Nat.le_refl _)
   have e4:∀ g:Grow wr.heap.size wr,g.w'.cell? ⟨w.heap.size,4,none⟩=some (.slice ao outs.length co):=Grow.old b4 (Nat.le_refl _)
   have e5:∀ g:Grow wr.heap.size wr,g.w'.cell? ⟨b,off+j,none⟩=some (.string s):=Grow.old c0 (Nat.le_refl _)
   clear b0 b1 b2 b3 b4 c0
   rcases hv with ⟨rfl,rfl⟩ | ⟨k,rfl,rfl⟩
   ·have HNx2:=Lib.hid (HNx.out (fun k hk=>by cases hk))
    clear HNx HNj
    go_wp2_with fail
    (refine wp_region_grow (B:=wr.heap.size) (w0:=wr) (by kernel_rfl) (by kernel_rfl) bel ?_;(repeat (go_big_quiet_step ((go_at_call 211;(with_reducible exact grow_call (HWi.out _ (Grow.h _)))))));refine wpQuiet_nil ?_;intro wg hCg;have hbg:=grow_out hCg;clear hCg)
    go_wp2_with fail
    go_roundw
    case rel=>exact⟨j+1,by go_num,by omega,HNx2,HBr.out.trans (hbg.mono HBr.out.size)⟩
    case measure=>(simp[intOf];try omega)
   ·have hkn:k < n:=HLj.out k rfl
    have HDr:=Lib.hid (fun W (hW:Below wr.heap.size wr W)=>((HD.out.keep HBwr.out).keep hW).cell hkn)
    cases hc:out.contains k
    ·have HR:=Lib.hid (HNj.out k rfl hc)
     rw[hc] at HDr
     clear HNx HNj hc
     go_wp2_with fail
     (refine wp_region_grow (B:=wr.heap.size) (w0:=wr) (by kernel_rfl) (by kernel_rfl) bel ?_;(repeat (go_big_quiet_step ((go_at_call 211;(with_reducible exact grow_call (HWi.out _ (Grow.h _)))))));refine wpQuiet_nil ?_;intro wg hCg;have hbg:=grow_out hCg;clear hCg)
     have d0:=HDr.out _ hbg
     go_wp2_with fail
     go_ret
     exact⟨by rw[HR.out];rfl,HBwr.out.trans (hbg.mono HBwr.out.size)⟩
    ·have HNx2:=Lib.hid (HNx.out (fun q hq=>by cases hq;exact hc))
     rw[hc] at HDr
     clear HNx HNj hc
     go_wp2_with fail
     (refine wp_region_grow (B:=wr.heap.size) (w0:=wr) (by kernel_rfl) (by kernel_rfl) bel ?_;(repeat (go_big_quiet_step ((go_at_call 211;(with_reducible exact grow_call (HWi.out _ (Grow.h _)))))));refine wpQuiet_nil ?_;intro wg hCg;have hbg:=grow_out hCg;clear hCg)
     have d0:=HDr.out _ hbg
     go_wp2_with fail
     go_roundw
     case rel=>exact⟨j+1,by go_num,by omega,HNx2,HBr.out.trans (hbg.mono HBr.out.size)⟩
     case measure=>(simp[intOf];try omega)
  ·obtain rfl:j=N2.length:=by omega
   have HR:=Lib.hid (HY.out (fun q hq=>HF.out q hq hq))
   go_wp2_with fail
   go_ret
   exact⟨by rw[HR.out];rfl,HBwr.out⟩
end Go.Proofs.YtebneadheaefdaaGreatDoor
