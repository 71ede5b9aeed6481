/- Names and widths of a design: both packages (printed by gen_names.py). -/
import Derived.Test.YtebneadheaefdaaGreatDoorDC
set_option linter.unusedSimpArgs false
set_option linter.unusedVariables false
set_option linter.unnecessarySimpa false
namespace Go.Proofs.YtebneadheaefdaaGreatDoor
open Go.RowKit
attribute [local go_sem ↓] Go.wp_at_zero Go.wp_at_succ
theorem take_at {α:Type} {l:List α} {n:Nat} {a:α} (h:l[n]? = some a):l.take (n+1)=l.take n++[a]:=by
 rw[List.take_add_one,h];rfl
theorem take_names0 (d:DesD) (k:Nat) (h:k < d.inputs.length):d.names.take (k+1)=d.names.take k++[(d.inputs[k]'h).name]:=by
 refine take_at ?_
 unfold DesD.names
 rw[List.append_assoc,List.getElem?_append_left (by simpa using h)]
 simp[h]
theorem take_names1 (d:DesD) (k:Nat) (h:k < d.wires.length):d.names.take (d.inputs.length+(k+1))=d.names.take (d.inputs.length+k)++[(d.wires[k]'h).name]:=by
 refine take_at ?_
 unfold DesD.names
 rw[List.append_assoc,List.getElem?_append_right (by simp),List.getElem?_append_left (by simp;omega)]
 simp[h]
theorem take_names2 (d:DesD) (k:Nat) (h:k < d.regs.length):d.names.take (d.inputs.length+d.wires.length+(k+1))=d.names.take (d.inputs.length+d.wires.length+k)++[(d.regs[k]'h).name]:=by
 refine take_at ?_
 unfold DesD.names
 rw[List.getElem?_append_right (by simp)]
 simp[h]
theorem take_widths0 (d:DesD) (k:Nat) (h:k < d.inputs.length):d.widths.take (k+1)=d.widths.take k++[(d.inputs[k]'h).width]:=by
 refine take_at ?_
 unfold DesD.widths
 rw[List.append_assoc,List.getElem?_append_left (by simpa using h)]
 simp[h]
theorem take_widths1 (d:DesD) (k:Nat) (h:k < d.wires.length):d.widths.take (d.inputs.length+(k+1))=d.widths.take (d.inputs.length+k)++[(d.wires[k]'h).width]:=by
 refine take_at ?_
 unfold DesD.widths
 rw[List.append_assoc,List.getElem?_append_right (by simp),List.getElem?_append_left (by simp;omega)]
 simp[h]
theorem take_widths2 (d:DesD) (k:Nat) (h:k < d.regs.length):d.widths.take (d.inputs.length+d.wires.length+(k+1))=d.widths.take (d.inputs.length+d.wires.length+k)++[(d.regs[k]'h).width]:=by
 refine take_at ?_
 unfold DesD.widths
 rw[List.getElem?_append_right (by simp)]
 simp[h]
set_option maxRecDepth 100000 in
set_option maxHeartbeats 8000000 in
theorem Names31_any (d:DesD) (x:DesA) (w:World) (hE:DesIn w d x) (hl:d.names.length≤1073741824) :
  Calls Tryz.prog 47 #[desVal d x] w fun e w'=>(∃ a cap,e=.returned (.slice a d.names.length cap)∧StrsIn w' d.names a cap)∧Below w.heap.size w w':=by
 have HP:=Lib.hid hE.ins
 have HPA:=Lib.hid hE.ins.addr
 have HW:=Lib.hid hE.wires
 have HWA:=Lib.hid hE.wires.addr
 have HR:=Lib.hid hE.regs
 have HRA:=Lib.hid hE.regs.addr
 have HNl:Hid (d.names.length=d.inputs.length+d.wires.length+d.regs.length):=by show _=_;simp[DesD.names];omega
 have hll:d.inputs.length+d.wires.length+d.regs.length≤1073741824:=by have:=HNl.out;omega
 have HS0:Hid (∀ k (h:k < d.inputs.length),(d.names.map Value.string).take ((k+1))=(d.names.map Value.string).take (k)++[Value.string (d.inputs[k]'h).name]):=fun k h=>by rw[← List.map_take,← List.map_take,take_names0 d k h,List.map_append];rfl
 have HS1:Hid (∀ k (h:k < d.wires.length),(d.names.map Value.string).take (d.inputs.length+(k+1))=(d.names.map Value.string).take (d.inputs.length+k)++[Value.string (d.wires[k]'h).name]):=fun k h=>by rw[← List.map_take,← List.map_take,take_names1 d k h,List.map_append];rfl
 have HS2:Hid (∀ k (h:k < d.regs.length),(d.names.map Value.string).take (d.inputs.length+d.wires.length+(k+1))=(d.names.map Value.string).take (d.inputs.length+d.wires.length+k)++[Value.string (d.regs[k]'h).name]):=fun k h=>by rw[← List.map_take,← List.map_take,take_names2 d k h,List.map_append];rfl
 have HM:Hid ((d.names.map Value.string).take (d.inputs.length+d.wires.length+d.regs.length)=d.names.map Value.string):=List.take_of_length_le (by rw[List.length_map,HNl.out];omega)
 generalize hM:d.names.map Value.string=M at HS0 HS1 HS2 HM
 have HMN:=Lib.hid hM
 generalize d.names=N at HNl HMN⊢
 clear hM
 clear hE hl
 obtain⟨nm,ins,wires,regs,outs⟩:=d
 obtain⟨ai,ci,aw,cw,ar,cr,ao,co⟩:=x
 simp only at HP HPA HW HWA HR HRA HNl hll HS0 HS1 HS2 HM
 show Calls _ _ #[.agg #[.string nm,.slice ai ins.length ci,.slice aw wires.length cw,.slice ar regs.length cr,.slice ao outs.length co]] _ _
 go_enter Tryz.func47, Tryz.ntmps47
 go_wp2_with fail
 go_loopw [13,3,5] (fun i v _ wr=>∃ k:Nat,i=.int .i64 k∧k≤ins.length∧Hid (wr.ownsRow (w.heap.size+1) 9 1 v (k) (M.take (k)))∧Hid (Below (w.heap.size+1) (w.alloc (.cells #[.string nm,.slice ai ins.length ci,.slice aw wires.length cw,.slice ar regs.length cr,.slice ao outs.length co] 27)) wr)) (fun i _ _ _=>ins.length - (intOf i).toNat)
 case atStart=>exact⟨0,rfl,Nat.zero_le _,World.ownsRow_nil _ _ _ _,Below.refl _ _⟩
 case round =>
  obtain⟨k,rfl,hk,HO,HB⟩:=hrel
  have HBw:=Lib.hid (boxW _ HB.out)
  have hzr:=HB.out.size
  simp only[World.size_alloc] at hzr
  ((try clear b0 b1 b2 b3 b4);have b0:=box_cell HB.out 0;have b1:=box_cell HB.out 1;have b2:=box_cell HB.out 2;have b3:=box_cell HB.out 3;have b4:=box_cell HB.out 4;(try simp at b0 b1 b2 b3 b4))
  by_cases hlt:k < ins.length
  ·obtain⟨b,off,ha⟩:=HPA.out.resolve_left (by omega)
   subst ha
   obtain⟨c0,c1⟩:=(HP.out.keep (keeps_of_below HBw.out)).get rfl hlt
   have HS:=Lib.hid (HS0.out k hlt)
   generalize (ins[k]'hlt)=e at c0 c1 HS
   have hkn:k≤1073741824:=by omega
   obtain⟨va,vc,hv,_⟩:=slice_of_own HO.out hkn
   subst hv
   go_wp2_with (at_builtin;go_must (refine own_app elemS _ rfl (.tmp 17) (.tmp 20) rfl (w.heap.size+1) (.slice va (k) vc) (k) (M.take (k)) rfl (HO.out.alloc _) [.string e.name] rfl (by simp[Value.oneCell']) _ 1 rfl (by first | rfl | simp) hkn sz ?_))
   intro v' w1 ho hg
   have HO1:=Lib.hid ho
   have HB1:Hid (Below (w.heap.size+1) (w.alloc (.cells #[.string nm,.slice (some ⟨b,off,none⟩) ins.length ci,.slice aw wires.length cw,.slice ar regs.length cr,.slice ao outs.length co] 27)) w1):=Below.grown (by repeat (first | exact HB.out | refine Below.alloc ?_ sz _)) hg sz (fun j hj=>(HO.out.lt j hj).1)
   clear ho hg c0 c1 b0 b1 b2 b3 b4
   go_wp2_with fail
   go_roundw
   case rel=>exact⟨k+1,by go_num,by omega,(by show World.ownsRow _ _ _ _ _ _ _;rw[HS.out];exact HO1.out),HB1.out⟩
   case measure=>(simp[intOf];try omega)
  ·obtain rfl:k=ins.length:=by omega
   go_wp2_with fail
   go_loopw [26,3,7] (fun i v _ wr=>∃ k:Nat,i=.int .i64 k∧k≤wires.length∧Hid (wr.ownsRow (w.heap.size+1) 9 1 v (ins.length+k) (M.take (ins.length+k)))∧Hid (Below (w.heap.size+1) (w.alloc (.cells #[.string nm,.slice ai ins.length ci,.slice aw wires.length cw,.slice ar regs.length cr,.slice ao outs.length co] 27)) wr)) (fun i _ _ _=>wires.length - (intOf i).toNat)
   case atStart=>exact⟨0,rfl,Nat.zero_le _,HO.out,HB.out⟩
   case round =>
    obtain⟨k,rfl,hk,HO,HB⟩:=hrel
    have HBw:=Lib.hid (boxW _ HB.out)
    have hzr:=HB.out.size
    simp only[World.size_alloc] at hzr
    ((try clear b0 b1 b2 b3 b4);have b0:=box_cell HB.out 0;have b1:=box_cell HB.out 1;have b2:=box_cell HB.out 2;have b3:=box_cell HB.out 3;have b4:=box_cell HB.out 4;(try simp at b0 b1 b2 b3 b4))
    by_cases hlt:k < wires.length
    ·obtain⟨b,off,ha⟩:=HWA.out.resolve_left (by omega)
     subst ha
     obtain⟨ae,ce,c0,c1,c2,c3,c4,c5,_⟩:=(HW.out.keep (keeps_of_below HBw.out)).get rfl hlt
     have HS:=Lib.hid (HS1.out k hlt)
     generalize (wires[k]'hlt)=e at c0 c1 c2 c3 c4 c5 HS
     have hkn:ins.length+k≤1073741824:=by omega
     obtain⟨va,vc,hv,_⟩:=slice_of_own HO.out hkn
     subst hv
     go_wp2_with (at_builtin;go_must (refine own_app elemS _ rfl (.tmp 30) (.tmp 33) rfl (w.heap.size+1) (.slice va (ins.length+k) vc) (ins.length+k) (M.take (ins.length+k)) rfl (HO.out.alloc _) [.string e.name] rfl (by simp[Value.oneCell']) _ 1 rfl (by first | rfl | simp) hkn sz ?_))
     intro v' w1 ho hg
     have HO1:=Lib.hid ho
     have HB1:Hid (Below (w.heap.size+1) (w.alloc (.cells #[.string nm,.slice ai ins.length ci,.slice (some ⟨b,off,none⟩) wires.length cw,.slice ar regs.length cr,.slice ao outs.length co] 27)) w1):=Below.grown (by repeat (first | exact HB.out | refine Below.alloc ?_ sz _)) hg sz (fun j hj=>(HO.out.lt j hj).1)
     clear ho hg c0 c1 c2 c3 c4 c5 b0 b1 b2 b3 b4
     go_wp2_with fail
     go_roundw
     case rel=>exact⟨k+1,by go_num,by omega,(by show World.ownsRow _ _ _ _ _ _ _;rw[HS.out];exact HO1.out),HB1.out⟩
     case measure=>(simp[intOf];try omega)
    ·obtain rfl:k=wires.length:=by omega
     go_wp2_with fail
     go_loopw [39,3,9] (fun i v _ wr=>∃ k:Nat,i=.int .i64 k∧k≤regs.length∧Hid (wr.ownsRow (w.heap.size+1) 9 1 v (ins.length+wires.length+k) (M.take (ins.length+wires.length+k)))∧Hid (Below (w.heap.size+1) (w.alloc (.cells #[.string nm,.slice ai ins.length ci,.slice aw wires.length cw,.slice ar regs.length cr,.slice ao outs.length co] 27)) wr)) (fun i _ _ _=>regs.length - (intOf i).toNat)
     case atStart=>exact⟨0,rfl,Nat.zero_le _,HO.out,HB.out⟩
     case round =>
      obtain⟨k,rfl,hk,HO,HB⟩:=hrel
      have HBw:=Lib.hid (boxW _ HB.out)
      have hzr:=HB.out.size
      simp only[World.size_alloc] at hzr
      ((try clear b0 b1 b2 b3 b4);have b0:=box_cell HB.out 0;have b1:=box_cell HB.out 1;have b2:=box_cell HB.out 2;have b3:=box_cell HB.out 3;have b4:=box_cell HB.out 4;(try simp at b0 b1 b2 b3 b4))
      by_cases hlt:k < regs.length
      ·obtain⟨b,off,ha⟩:=HRA.out.resolve_left (by omega)
       subst ha
       obtain⟨ae,ce,c0,c1,c2,c3,c4,c5,c6,_⟩:=(HR.out.keep (keeps_of_below HBw.out)).get rfl hlt
       have HS:=Lib.hid (HS2.out k hlt)
       generalize (regs[k]'hlt)=e at c0 c1 c2 c3 c4 c5 c6 HS
       have hkn:ins.length+wires.length+k≤1073741824:=by omega
       obtain⟨va,vc,hv,_⟩:=slice_of_own HO.out hkn
       subst hv
       go_wp2_with (at_builtin;go_must (refine own_app elemS _ rfl (.tmp 43) (.tmp 46) rfl (w.heap.size+1) (.slice va (ins.length+wires.length+k) vc) (ins.length+wires.length+k) (M.take (ins.length+wires.length+k)) rfl (HO.out.alloc _) [.string e.name] rfl (by simp[Value.oneCell']) _ 1 rfl (by first | rfl | simp) hkn sz ?_))
       intro v' w1 ho hg
       have HO1:=Lib.hid ho
       have HB1:Hid (Below (w.heap.size+1) (w.alloc (.cells #[.string nm,.slice ai ins.length ci,.slice aw wires.length cw,.slice (some ⟨b,off,none⟩) regs.length cr,.slice ao outs.length co] 27)) w1):=Below.grown (by repeat (first | exact HB.out | refine Below.alloc ?_ sz _)) hg sz (fun j hj=>(HO.out.lt j hj).1)
       clear ho hg c0 c1 c2 c3 c4 c5 c6 b0 b1 b2 b3 b4
       go_wp2_with fail
       go_roundw
       case rel=>exact⟨k+1,by go_num,by omega,(by show World.ownsRow _ _ _ _ _ _ _;rw[HS.out];exact HO1.out),HB1.out⟩
       case measure=>(simp[intOf];try omega)
      ·obtain rfl:k=regs.length:=by omega
       go_wp2_with fail
       go_ret
       have ho:=HO.out
       rw[HM.out] at ho
       have hl:N.length≤1073741824:=by rw[HNl.out];omega
       obtain⟨a',cap',rfl,hs⟩:=strs_of_own (show World.ownsRow _ _ _ _ _ N.length _ by rw[HNl.out,HMN.out];exact ho) hl
       exact⟨⟨a',cap',rfl,hs⟩,HBw.out⟩
set_option maxRecDepth 100000 in
set_option maxHeartbeats 8000000 in
theorem widths31_any (d:DesD) (x:DesA) (w:World) (hE:DesIn w d x) (hl:d.widths.length≤1073741824) :
  Calls Tryz.prog 132 #[desVal d x] w fun e w'=>(∃ a cap,e=.returned (.slice a d.widths.length cap)∧IntsIn w' d.widths a cap)∧Below w.heap.size w w':=by
 have HP:=Lib.hid hE.ins
 have HPA:=Lib.hid hE.ins.addr
 have HW:=Lib.hid hE.wires
 have HWA:=Lib.hid hE.wires.addr
 have HR:=Lib.hid hE.regs
 have HRA:=Lib.hid hE.regs.addr
 have HNl:Hid (d.widths.length=d.inputs.length+d.wires.length+d.regs.length):=by show _=_;simp[DesD.widths];omega
 have hll:d.inputs.length+d.wires.length+d.regs.length≤1073741824:=by have:=HNl.out;omega
 have HS0:Hid (∀ k (h:k < d.inputs.length),(d.widths.map (Value.int .i64)).take ((k+1))=(d.widths.map (Value.int .i64)).take (k)++[(Value.int .i64) (d.inputs[k]'h).width]):=fun k h=>by rw[← List.map_take,← List.map_take,take_widths0 d k h,List.map_append];rfl
 have HS1:Hid (∀ k (h:k < d.wires.length),(d.widths.map (Value.int .i64)).take (d.inputs.length+(k+1))=(d.widths.map (Value.int .i64)).take (d.inputs.length+k)++[(Value.int .i64) (d.wires[k]'h).width]):=fun k h=>by rw[← List.map_take,← List.map_take,take_widths1 d k h,List.map_append];rfl
 have HS2:Hid (∀ k (h:k < d.regs.length),(d.widths.map (Value.int .i64)).take (d.inputs.length+d.wires.length+(k+1))=(d.widths.map (Value.int .i64)).take (d.inputs.length+d.wires.length+k)++[(Value.int .i64) (d.regs[k]'h).width]):=fun k h=>by rw[← List.map_take,← List.map_take,take_widths2 d k h,List.map_append];rfl
 have HM:Hid ((d.widths.map (Value.int .i64)).take (d.inputs.length+d.wires.length+d.regs.length)=d.widths.map (Value.int .i64)):=List.take_of_length_le (by rw[List.length_map,HNl.out];omega)
 generalize hM:d.widths.map (Value.int .i64)=M at HS0 HS1 HS2 HM
 have HMN:=Lib.hid hM
 generalize d.widths=N at HNl HMN⊢
 clear hM
 clear hE hl
 obtain⟨nm,ins,wires,regs,outs⟩:=d
 obtain⟨ai,ci,aw,cw,ar,cr,ao,co⟩:=x
 simp only at HP HPA HW HWA HR HRA HNl hll HS0 HS1 HS2 HM
 show Calls _ _ #[.agg #[.string nm,.slice ai ins.length ci,.slice aw wires.length cw,.slice ar regs.length cr,.slice ao outs.length co]] _ _
 go_enter Tryz.func132, Tryz.ntmps132
 go_wp2_with fail
 go_loopw [13,3,5] (fun i v _ wr=>∃ k:Nat,i=.int .i64 k∧k≤ins.length∧Hid (wr.ownsRow (w.heap.size+1) 3 1 v (k) (M.take (k)))∧Hid (Below (w.heap.size+1) (w.alloc (.cells #[.string nm,.slice ai ins.length ci,.slice aw wires.length cw,.slice ar regs.length cr,.slice ao outs.length co] 27)) wr)) (fun i _ _ _=>ins.length - (intOf i).toNat)
 case atStart=>exact⟨0,rfl,Nat.zero_le _,World.ownsRow_nil _ _ _ _,Below.refl _ _⟩
 case round =>
  obtain⟨k,rfl,hk,HO,HB⟩:=hrel
  have HBw:=Lib.hid (boxW _ HB.out)
  have hzr:=HB.out.size
  simp only[World.size_alloc] at hzr
  ((try clear b0 b1 b2 b3 b4);have b0:=box_cell HB.out 0;have b1:=box_cell HB.out 1;have b2:=box_cell HB.out 2;have b3:=box_cell HB.out 3;have b4:=box_cell HB.out 4;(try simp at b0 b1 b2 b3 b4))
  by_cases hlt:k < ins.length
  ·obtain⟨b,off,ha⟩:=HPA.out.resolve_left (by omega)
   subst ha
   obtain⟨c0,c1⟩:=(HP.out.keep (keeps_of_below HBw.out)).get rfl hlt
   have HS:=Lib.hid (HS0.out k hlt)
   generalize (ins[k]'hlt)=e at c0 c1 HS
   have hkn:k≤1073741824:=by omega
   obtain⟨va,vc,hv,_⟩:=slice_of_own HO.out hkn
   subst hv
   go_wp2_with (at_builtin;go_must (refine own_app elemI _ rfl (.tmp 17) (.tmp 20) rfl (w.heap.size+1) (.slice va (k) vc) (k) (M.take (k)) rfl (HO.out.alloc _) [.int .i64 e.width] rfl (by simp[Value.oneCell']) _ 1 rfl (by first | rfl | simp) hkn sz ?_))
   intro v' w1 ho hg
   have HO1:=Lib.hid ho
   have HB1:Hid (Below (w.heap.size+1) (w.alloc (.cells #[.string nm,.slice (some ⟨b,off,none⟩) ins.length ci,.slice aw wires.length cw,.slice ar regs.length cr,.slice ao outs.length co] 27)) w1):=Below.grown (by repeat (first | exact HB.out | refine Below.alloc ?_ sz _)) hg sz (fun j hj=>(HO.out.lt j hj).1)
   clear ho hg c0 c1 b0 b1 b2 b3 b4
   go_wp2_with fail
   go_roundw
   case rel=>exact⟨k+1,by go_num,by omega,(by show World.ownsRow _ _ _ _ _ _ _;rw[HS.out];exact HO1.out),HB1.out⟩
   case measure=>(simp[intOf];try omega)
  ·obtain rfl:k=ins.length:=by omega
   go_wp2_with fail
   go_loopw [26,3,7] (fun i v _ wr=>∃ k:Nat,i=.int .i64 k∧k≤wires.length∧Hid (wr.ownsRow (w.heap.size+1) 3 1 v (ins.length+k) (M.take (ins.length+k)))∧Hid (Below (w.heap.size+1) (w.alloc (.cells #[.string nm,.slice ai ins.length ci,.slice aw wires.length cw,.slice ar regs.length cr,.slice ao outs.length co] 27)) wr)) (fun i _ _ _=>wires.length - (intOf i).toNat)
   case atStart=>exact⟨0,rfl,Nat.zero_le _,HO.out,HB.out⟩
   case round =>
    obtain⟨k,rfl,hk,HO,HB⟩:=hrel
    have HBw:=Lib.hid (boxW _ HB.out)
    have hzr:=HB.out.size
    simp only[World.size_alloc] at hzr
    ((try clear b0 b1 b2 b3 b4);have b0:=box_cell HB.out 0;have b1:=box_cell HB.out 1;have b2:=box_cell HB.out 2;have b3:=box_cell HB.out 3;have b4:=box_cell HB.out 4;(try simp at b0 b1 b2 b3 b4))
    by_cases hlt:k < wires.length
    ·obtain⟨b,off,ha⟩:=HWA.out.resolve_left (by omega)
     subst ha
     obtain⟨ae,ce,c0,c1,c2,c3,c4,c5,_⟩:=(HW.out.keep (keeps_of_below HBw.out)).get rfl hlt
     have HS:=Lib.hid (HS1.out k hlt)
     generalize (wires[k]'hlt)=e at c0 c1 c2 c3 c4 c5 HS
     have hkn:ins.length+k≤1073741824:=by omega
     obtain⟨va,vc,hv,_⟩:=slice_of_own HO.out hkn
     subst hv
     go_wp2_with (at_builtin;go_must (refine own_app elemI _ rfl (.tmp 30) (.tmp 33) rfl (w.heap.size+1) (.slice va (ins.length+k) vc) (ins.length+k) (M.take (ins.length+k)) rfl (HO.out.alloc _) [.int .i64 e.width] rfl (by simp[Value.oneCell']) _ 1 rfl (by first | rfl | simp) hkn sz ?_))
     intro v' w1 ho hg
     have HO1:=Lib.hid ho
     have HB1:Hid (Below (w.heap.size+1) (w.alloc (.cells #[.string nm,.slice ai ins.length ci,.slice (some ⟨b,off,none⟩) wires.length cw,.slice ar regs.length cr,.slice ao outs.length co] 27)) w1):=Below.grown (by repeat (first | exact HB.out | refine Below.alloc ?_ sz _)) hg sz (fun j hj=>(HO.out.lt j hj).1)
     clear ho hg c0 c1 c2 c3 c4 c5 b0 b1 b2 b3 b4
     go_wp2_with fail
     go_roundw
     case rel=>exact⟨k+1,by go_num,by omega,(by show World.ownsRow _ _ _ _ _ _ _;rw[HS.out];exact HO1.out),HB1.out⟩
     case measure=>(simp[intOf];try omega)
    ·obtain rfl:k=wires.length:=by omega
     go_wp2_with fail
     go_loopw [39,3,9] (fun i v _ wr=>∃ k:Nat,i=.int .i64 k∧k≤regs.length∧Hid (wr.ownsRow (w.heap.size+1) 3 1 v (ins.length+wires.length+k) (M.take (ins.length+wires.length+k)))∧Hid (Below (w.heap.size+1) (w.alloc (.cells #[.string nm,.slice ai ins.length ci,.slice aw wires.length cw,.slice ar regs.length cr,.slice ao outs.length co] 27)) wr)) (fun i _ _ _=>regs.length - (intOf i).toNat)
     case atStart=>exact⟨0,rfl,Nat.zero_le _,HO.out,HB.out⟩
     case round =>
      obtain⟨k,rfl,hk,HO,HB⟩:=hrel
      have HBw:=Lib.hid (boxW _ HB.out)
      have hzr:=HB.out.size
      simp only[World.size_alloc] at hzr
      ((try clear b0 b1 b2 b3 b4);have b0:=box_cell HB.out 0;have b1:=box_cell HB.out 1;have b2:=box_cell HB.out 2;have b3:=box_cell HB.out 3;have b4:=box_cell HB.out 4;(try simp at b0 b1 b2 b3 b4))
      by_cases hlt:k < regs.length
      ·obtain⟨b,off,ha⟩:=HRA.out.resolve_left (by omega)
       subst ha
       obtain⟨ae,ce,c0,c1,c2,c3,c4,c5,c6,_⟩:=(HR.out.keep (keeps_of_below HBw.out)).get rfl hlt
       have HS:=Lib.hid (HS2.out k hlt)
       generalize (regs[k]'hlt)=e at c0 c1 c2 c3 c4 c5 c6 HS
       have hkn:ins.length+wires.length+k≤1073741824:=by omega
       obtain⟨va,vc,hv,_⟩:=slice_of_own HO.out hkn
       subst hv
       go_wp2_with (at_builtin;go_must (refine own_app elemI _ rfl (.tmp 43) (.tmp 46) rfl (w.heap.size+1) (.slice va (ins.length+wires.length+k) vc) (ins.length+wires.length+k) (M.take (ins.length+wires.length+k)) rfl (HO.out.alloc _) [.int .i64 e.width] rfl (by simp[Value.oneCell']) _ 1 rfl (by first | rfl | simp) hkn sz ?_))
       intro v' w1 ho hg
       have HO1:=Lib.hid ho
       have HB1:Hid (Below (w.heap.size+1) (w.alloc (.cells #[.string nm,.slice ai ins.length ci,.slice aw wires.length cw,.slice (some ⟨b,off,none⟩) regs.length cr,.slice ao outs.length co] 27)) w1):=Below.grown (by repeat (first | exact HB.out | refine Below.alloc ?_ sz _)) hg sz (fun j hj=>(HO.out.lt j hj).1)
       clear ho hg c0 c1 c2 c3 c4 c5 c6 b0 b1 b2 b3 b4
       go_wp2_with fail
       go_roundw
       case rel=>exact⟨k+1,by go_num,by omega,(by show World.ownsRow _ _ _ _ _ _ _;rw[HS.out];exact HO1.out),HB1.out⟩
       case measure=>(simp[intOf];try omega)
      ·obtain rfl:k=regs.length:=by omega
       go_wp2_with fail
       go_ret
       have ho:=HO.out
       rw[HM.out] at ho
       have hl:N.length≤1073741824:=by rw[HNl.out];omega
       obtain⟨a',cap',rfl,hs⟩:=ints_of_own (show World.ownsRow _ _ _ _ _ N.length _ by rw[HNl.out,HMN.out];exact ho) hl
       exact⟨⟨a',cap',rfl,hs⟩,HBw.out⟩
end Go.Proofs.YtebneadheaefdaaGreatDoor
