/- design: the errors of expressions and of outputs. -/
import Derived.Test.YtebneadheaefdaaGreatDoorDF
set_option linter.unusedSimpArgs false
set_option linter.unusedVariables false
set_option linter.unnecessarySimpa false
namespace Go.Proofs.YtebneadheaefdaaGreatDoor
open Go.RowKit
attribute [local go_sem ↓] Go.wp_at_zero Go.wp_at_succ
theorem exprErr_valid {N:List ByteArray} {e:Ex} (h:¬ validS e=0):exprErr N e=validS e:=by unfold exprErr;rw[if_pos h]
theorem exprErr_arr {N:List ByteArray} {e:Ex} (h:validS e=0) (h2:0 < (namesS [3,24] e).length):exprErr N e=9:=by unfold exprErr;rw[if_neg (by simpa using h),if_pos h2]
theorem exprErr_names {N:List ByteArray} {e:Ex} (h:validS e=0) (h2:(namesS [3,24] e).length=0):exprErr N e=if ((namesS [2] e).all fun s=>(idxT N s).isSome)=true then 0 else 7:=by unfold exprErr;rw[if_neg (by simpa using h),if_neg (by omega)]
set_option maxRecDepth 100000 in
set_option maxHeartbeats 8000000 in
theorem expression_any (e:Ex) (a:Option Addr) (cap:Nat) (N:List ByteArray) (al:Option Addr) (cl:Nat) (w:World) (hE:ExIn w e a cap) (hn:e.nodes.length≤1048576) (hS:StrsIn w N al cl) (hG:Glob w) :
  Calls Tryz.prog 136 #[.agg #[.int .i64 e.op,.int .i64 e.n,.string e.name,.slice a e.args.length cap],.slice al N.length cl] w fun r w'=>r=.returned (.int .i64 (exprErr N e))∧Below w.heap.size w w':=by
 obtain⟨op,n,s,args⟩:=e
 simp only[Ex.op_mk,Ex.n_mk,Ex.name_mk,Ex.args_mk]
 have HVa:=Lib.hid (fun W (hW:Below w.heap.size w W)=>valid_any op n s args a cap W (hG.below hW) (hE.keep (keeps_of_below hW)) (by omega))
 have HAr:=Lib.hid (fun W (hW:Below w.heap.size w W)=>Arrays_any op n s args a cap W (hE.keep (keeps_of_below hW)) (by omega))
 have HNa:=Lib.hid (fun W (hW:Below w.heap.size w W)=>Names_any op n s args a cap W (hE.keep (keeps_of_below hW)) (by omega))
 have HSt:=Lib.hid hS
 have HEv:Hid (¬ validS (.mk op n s args)=0→exprErr N (.mk op n s args)=validS (.mk op n s args)):=exprErr_valid
 have HE9:Hid (validS (.mk op n s args)=0→0 < (namesS [3,24] (.mk op n s args)).length→exprErr N (.mk op n s args)=9):=exprErr_arr
 have HEn:Hid (validS (.mk op n s args)=0→(namesS [3,24] (.mk op n s args)).length=0→exprErr N (.mk op n s args)=if ((namesS [2] (.mk op n s args)).all fun s=>(idxT N s).isSome)=true then 0 else 7):=exprErr_names
 generalize exprErr N (.mk op n s args)=err at HEv HE9 HEn⊢
 clear hE hS hG hn
 generalize validS (.mk op n s args)=vv at HVa HEv HE9 HEn
 generalize namesS [3,24] (Ex.mk op n s args)=A3 at HAr HE9 HEn
 generalize namesS [2] (Ex.mk op n s args)=N2 at HNa HEn
 have HV:=Lib.hid (HVa.out (w.alloc (.cells #[.int .i64 op,.int .i64 n,.string s,.slice a args.length cap] 72)) ((Below.refl _ _).alloc (Nat.le_refl _) _))
 clear HVa
 go_enter Tryz.func136, Tryz.ntmps136
 go_wp2_with fail
 refine HV.out.mono ?_
 rintro r w1 ⟨rfl,hb1⟩
 simp only[World.size_alloc] at hb1
 have HB1:=Lib.hid hb1
 have HBw1:=Lib.hid (boxW _ hb1)
 clear hb1 HV
 by_cases hv:vv=0
 ·subst hv
  have HA1:=Lib.hid (HAr.out w1 HBw1.out)
  have HE9b:=Lib.hid (HE9.out rfl)
  have HEnb:=Lib.hid (HEn.out rfl)
  clear HE9 HEn
  ((try clear b0 b1 b2 b3);have b0:=box_cell HB1.out 0;have b1:=box_cell HB1.out 1;have b2:=box_cell HB1.out 2;have b3:=box_cell HB1.out 3;(try simp at b0 b1 b2 b3))
  clear HAr HEv
  go_wp2_with fail
  refine HA1.out.mono ?_
  rintro r w2 ⟨⟨aa,ca,rfl,hst⟩,hb2⟩
  have HB2:=Lib.hid (HB1.out.trans (hb2.mono (by have:=HB1.out.size;simp at this;omega)))
  have HBw2:=Lib.hid (boxW _ HB2.out)
  have hl3:=hst.2.1
  clear hst hb2 HA1 b0 b1 b2 b3
  by_cases hA:A3.length=0
  ·obtain rfl:A3=[]:=List.eq_nil_of_length_eq_zero hA
   have HEnc:=Lib.hid (HEnb.out rfl)
   have HN1:=Lib.hid (HNa.out w2 HBw2.out)
   clear HNa hA hl3 HE9b HEnb
   ((try clear b0 b1 b2 b3);have b0:=box_cell HB2.out 0;have b1:=box_cell HB2.out 1;have b2:=box_cell HB2.out 2;have b3:=box_cell HB2.out 3;(try simp at b0 b1 b2 b3))
   go_wp2_with fail
   refine HN1.out.mono ?_
   rintro r w3 ⟨⟨an,cn,rfl,hst⟩,hb3⟩
   have HBw3:=Lib.hid (HBw2.out.trans (hb3.mono HBw2.out.size))
   have hln:=hst.2.1
   have HAn:=Lib.hid hst.addr
   have HSn:=Lib.hid hst
   have HSt3:=Lib.hid (HSt.out.keep (keeps_of_below HBw3.out))
   clear hst hb3 HN1 b0 b1 b2 b3
   go_wp2_with fail
   go_loop [20,7] (fun i _=>∃ k:Nat,i=.int .i64 k∧k≤N2.length∧Hid (∀ j (hj:j < N2.length),j < k→(idxT N (N2[j]'hj)).isSome=true)) (fun i _=>N2.length - (intOf i).toNat)
   case atStart=>exact⟨0,rfl,Nat.zero_le _,fun _ _ h=>absurd h (by omega)⟩
   case round =>
    obtain⟨k,rfl,hk,HF⟩:=hrel
    by_cases hlt:k < N2.length
    ·obtain⟨b,off,ha⟩:=HAn.out.resolve_left (by omega)
     subst ha
     have c0:=HSn.out.get rfl hlt
     have HNx:Hid ((idxT N (N2[k]'hlt)).isSome=true→∀ j (hj:j < N2.length),j < k+1→(idxT N (N2[j]'hj)).isSome=true):=fun h j hj hjk=>by
      by_cases e:j=k
      ·subst e;exact h
      ·exact HF.out j hj (by omega)
     have HNo:Hid ((idxT N (N2[k]'hlt)).isSome=false→err=7):=fun h=>by rw[HEnc.out,if_neg];rw[all_not hlt h];simp
     have HC:=Lib.hid (Contains_strs N al cl (N2[k]'hlt) w3 HSt3.out)
     generalize (N2[k]'hlt)=s at c0 HNx HNo HC
     cases hi:(idxT N s).isSome
     ·have HNo:=Lib.hid (HNo.out hi)
      rw[hi] at HC
      clear hi HNx
      go_wp2_with (go_at_call 125;(with_reducible refine HC.out.mono ?_);rintro r w' ⟨rfl,rfl⟩)
      go_ret
      exact⟨by rw[HNo.out];rfl,HBw3.out⟩
     ·have HNx:=Lib.hid (HNx.out hi)
      rw[hi] at HC
      clear hi HNo
      go_wp2_with (go_at_call 125;(with_reducible refine HC.out.mono ?_);rintro r w' ⟨rfl,rfl⟩)
      go_round
      case rel=>exact⟨k+1,by go_num,by omega,HNx⟩
      case measure=>(simp[intOf];try omega)
    ·obtain rfl:k=N2.length:=by omega
     have HR:Hid (err=0):=by show _=_;rw[HEnc.out,if_pos (all_yes (P:=fun s=>(idxT N s).isSome) (fun j hj=>HF.out j hj hj))]
     go_wp2_with fail
     go_ret
     exact⟨by rw[HR.out];rfl,HBw3.out⟩
  ·have hA1:0 < A3.length:=by omega
   have HE9:=Lib.hid (HE9b.out hA1)
   clear hA HEnb HNa HE9b
   go_wp2_with fail
   go_ret
   exact⟨by rw[HE9.out];rfl,HBw2.out⟩
 ·have HEv:=Lib.hid (HEv.out hv)
  have hne:(vv != (0:Int))=true:=by simpa using hv
  clear hv HE9 HEn HAr HNa
  go_wp2_with fail
  go_ret
  exact⟨by rw[HEv.out];rfl,HBw1.out⟩
theorem firstErr_at {l:List Int} {k:Nat} (hk:k < l.length) (h0:∀ j (hj:j < k),l[j]'(by omega)=0) (h1:¬ l[k]'hk=0):firstErr l=l[k]'hk:=by
 induction l generalizing k with
 | nil=>simp at hk
 | cons e l ih =>
  unfold firstErr
  cases k with
  | zero=>rw[if_pos (by simpa using h1)];rfl
  | succ k =>
   have:=h0 0 (by omega)
   rw[if_neg (by simpa using this)]
   exact ih (by simpa using hk) (fun j hj=>by simpa using h0 (j+1) (by omega)) (by simpa using h1)
noncomputable def DesD.expErr (d:DesD):Int:=firstErr (d.exprs.map (exprErr d.names))
theorem expErr_wire {d:DesD} {k:Nat} (hk:k < d.wires.length) (h0:∀ j (hj:j < d.wires.length),j < k→exprErr d.names (d.wires[j]'hj).expr=0) (h1:¬ exprErr d.names (d.wires[k]'hk).expr=0):d.expErr=exprErr d.names (d.wires[k]'hk).expr:=by
 unfold DesD.expErr
 rw[firstErr_at (k:=k) (by simp[DesD.exprs];omega)]
 ·simp[DesD.exprs,List.getElem_append_left,hk]
 ·intro j hj
  have:=h0 j (by omega) hj
  simpa [DesD.exprs,List.getElem_append_left,show j < d.wires.length by omega] using this
 ·simpa [DesD.exprs,List.getElem_append_left,hk] using h1
theorem expErr_reg {d:DesD} {k:Nat} (hk:k < d.regs.length) (hw:∀ j (hj:j < d.wires.length),exprErr d.names (d.wires[j]'hj).expr=0) (h0:∀ j (hj:j < d.regs.length),j < k→exprErr d.names (d.regs[j]'hj).next=0) (h1:¬ exprErr d.names (d.regs[k]'hk).next=0):d.expErr=exprErr d.names (d.regs[k]'hk).next:=by
 unfold DesD.expErr
 rw[firstErr_at (k:=d.wires.length+k) (by simp[DesD.exprs];omega)]
 ·simp[DesD.exprs,List.getElem_append_right]
 ·intro j hj
  by_cases hjw:j < d.wires.length
  ·have:=hw j hjw
   simpa [DesD.exprs,List.getElem_append_left,hjw] using this
  ·have:=h0 (j - d.wires.length) (by omega) (by omega)
   simp[DesD.exprs,List.getElem_append_right,show d.wires.length≤j by omega] at *
   exact this
 ·simpa [DesD.exprs,List.getElem_append_right] using h1
theorem expErr_none {d:DesD} (hw:∀ j (hj:j < d.wires.length),exprErr d.names (d.wires[j]'hj).expr=0) (hr:∀ j (hj:j < d.regs.length),exprErr d.names (d.regs[j]'hj).next=0):d.expErr=0:=by
 unfold DesD.expErr
 rw[firstErr_zero]
 intro e he
 obtain⟨x,hx,rfl⟩:=List.mem_map.1 he
 unfold DesD.exprs at hx
 rcases List.mem_append.1 hx with hx | hx
 ·obtain⟨v,hv,rfl⟩:=List.mem_map.1 hx
  obtain⟨j,hj,rfl⟩:=List.getElem_of_mem hv
  exact hw j hj
 ·obtain⟨v,hv,rfl⟩:=List.mem_map.1 hx
  obtain⟨j,hj,rfl⟩:=List.getElem_of_mem hv
  exact hr j hj
set_option maxRecDepth 100000 in
set_option maxHeartbeats 8000000 in
theorem expressions_any (d:DesD) (x:DesA) (w:World) (hE:DesIn w d x) (hs:DesSmall d) (hG:Glob w) :
  Calls Tryz.prog 76 #[desVal d x] w fun e w'=>e=.returned (.int .i64 d.expErr)∧Below w.heap.size w w':=by
 have hN:d.names.length≤1073741824:=by have:=hs.len;simp[DesD.names];omega
 have HN0:=Lib.hid (fun W (hW:Below w.heap.size w W)=>Names31_any d x W (hE.below hW) hN)
 have HX0:=Lib.hid (fun e a cap al cl W (he:e∈d.exprs) (hW:Below w.heap.size w W) (hX:ExIn W e a cap) (hS:StrsIn W d.names al cl)=>expression_any e a cap d.names al cl W hX (hs.exprs e he) hS (hG.below hW))
 have HW:=Lib.hid hE.wires
 have HWA:=Lib.hid hE.wires.addr
 have HR:=Lib.hid hE.regs
 have HRA:=Lib.hid hE.regs.addr
 have hwl:=hs.len.2.1
 have hrl:=hs.len.2.2.1
 have HE1:Hid (∀ k (hk:k < d.wires.length),(∀ j (hj:j < d.wires.length),j < k→exprErr d.names (d.wires[j]'hj).expr=0)→¬ exprErr d.names (d.wires[k]'hk).expr=0→d.expErr=exprErr d.names (d.wires[k]'hk).expr):=fun k hk h0 h1=>expErr_wire hk h0 h1
 have HE2:Hid ((∀ j (hj:j < d.wires.length),exprErr d.names (d.wires[j]'hj).expr=0)→∀ k (hk:k < d.regs.length),(∀ j (hj:j < d.regs.length),j < k→exprErr d.names (d.regs[j]'hj).next=0)→¬ exprErr d.names (d.regs[k]'hk).next=0→d.expErr=exprErr d.names (d.regs[k]'hk).next):=fun hw k hk h0 h1=>expErr_reg hk hw h0 h1
 have HE3:Hid ((∀ j (hj:j < d.wires.length),exprErr d.names (d.wires[j]'hj).expr=0)→(∀ j (hj:j < d.regs.length),exprErr d.names (d.regs[j]'hj).next=0)→d.expErr=0):=expErr_none
 have HM1:Hid (∀ k (hk:k < d.wires.length),(d.wires[k]'hk).expr∈d.exprs):=fun k hk=>wire_expr hk
 have HM2:Hid (∀ k (hk:k < d.regs.length),(d.regs[k]'hk).next∈d.exprs):=fun k hk=>reg_expr hk
 generalize d.expErr=err at HE1 HE2 HE3⊢
 generalize d.exprs=EX at HX0 HM1 HM2
 generalize d.names=N at HN0 HX0 HE1 HE2 HE3
 clear hE hs hG hN
 obtain⟨nm,ins,wires,regs,outs⟩:=d
 obtain⟨ai,ci,aw,cw,ar,cr,ao,co⟩:=x
 simp only[desVal,desVals] at HN0 HW HWA HR HRA HE1 HE2 HE3 HM1 HM2 hwl hrl⊢
 have HN1:=Lib.hid (HN0.out (w.alloc (.cells #[.string nm,.slice ai ins.length ci,.slice aw wires.length cw,.slice ar regs.length cr,.slice ao outs.length co] 27)) ((Below.refl _ _).alloc (Nat.le_refl _) _))
 clear HN0
 go_enter Tryz.func76, Tryz.ntmps76
 go_wp2_with fail
 refine HN1.out.mono ?_
 rintro e w1 ⟨⟨an,cn,rfl,hst⟩,hb1⟩
 simp only[World.size_alloc] at hb1
 have HB:=Lib.hid hb1
 have HSt:=Lib.hid hst
 ((try clear b0 b1 b2 b3 b4);have b0:=box_cell HB.out 0;have b1:=box_cell HB.out 1;have b2:=box_cell HB.out 2;have b3:=box_cell HB.out 3;have b4:=box_cell HB.out 4;(try simp at b0 b1 b2 b3 b4))
 clear hb1 hst HN1
 go_wp2_with fail
 go_loopw [15,5,6] (fun i _ _ wr=>∃ k:Nat,i=.int .i64 k∧k≤wires.length∧Hid (∀ j (hj:j < wires.length),j < k→exprErr N (wires[j]'hj).expr=0)∧Hid (StrsIn wr N an cn)∧Hid (Below (w.heap.size+1) (w.alloc (.cells #[.string nm,.slice ai ins.length ci,.slice aw wires.length cw,.slice ar regs.length cr,.slice ao outs.length co] 27)) wr)) (fun i _ _ _=>wires.length - (intOf i).toNat)
 case atStart=>exact⟨0,rfl,Nat.zero_le _,fun _ _ h=>absurd h (by omega),HSt,HB⟩
 case round =>
  obtain⟨k,rfl,hk,HF,HSr,HBr⟩:=hrel
  have HBw:=Lib.hid (boxW _ HBr.out)
  have hzr:=HBr.out.size
  simp only[World.size_alloc] at hzr
  by_cases hlt:k < wires.length
  ·obtain⟨b,off,ha⟩:=HWA.out.resolve_left (by omega)
   subst ha
   obtain⟨ae,ce,c0,c1,c2,c3,c4,c5,hX⟩:=(HW.out.keep (keeps_of_below HBw.out)).get rfl hlt
   have hbA:Below wr.heap.size wr (wr.alloc (.cells #[.string (wires[k]'hlt).name,.int .i64 (wires[k]'hlt).width,.int .i64 (wires[k]'hlt).expr.op,.int .i64 (wires[k]'hlt).expr.n,.string (wires[k]'hlt).expr.name,.slice ae (wires[k]'hlt).expr.args.length ce] 74)):=(Below.refl _ _).alloc (Nat.le_refl _) _
   have HbA:=Lib.hid hbA
   have HC:=Lib.hid (HX0.out (wires[k]'hlt).expr ae ce an cn _ (HM1.out k hlt) (HBw.out.trans (hbA.mono HBw.out.size)) (hX.keep (keeps_of_below hbA)) (HSr.out.keep (keeps_of_below hbA)))
   have HNx:Hid (exprErr N (wires[k]'hlt).expr=0→∀ j (hj:j < wires.length),j < k+1→exprErr N (wires[j]'hj).expr=0):=fun h j hj hjk=>by
    by_cases e:j=k
    ·subst e;exact h
    ·exact HF.out j hj (by omega)
   have HNo:=Lib.hid (HE1.out k hlt HF.out)
   generalize exprErr N (wires[k]'hlt).expr=ee at HC HNx HNo
   generalize (wires[k]'hlt)=wi at c0 c1 c2 c3 c4 c5 HbA HC
   clear hX hbA
   by_cases he:ee=0
   ·subst he
    have HNx2:=Lib.hid (HNx.out rfl)
    clear HNo HNx
    go_wp2_with (go_at_call 136;(with_reducible refine HC.out.mono ?_);rintro r w5 ⟨rfl,hb5⟩;have HB5:=Lib.hid hb5;clear hb5)
    go_roundw
    case rel=>exact⟨k+1,by go_num,by omega,HNx2,HSr.out.keep (keeps_of_below (HbA.out.trans (HB5.out.mono HbA.out.size))),HBr.out.trans ((HbA.out.trans (HB5.out.mono HbA.out.size)).mono (by omega))⟩
    case measure=>(simp[intOf];try omega)
   ·have HNo:=Lib.hid (HNo.out he)
    have hne:(ee != (0:Int))=true:=by simpa using he
    clear he HNx
    go_wp2_with (go_at_call 136;(with_reducible refine HC.out.mono ?_);rintro r w5 ⟨rfl,hb5⟩;have HB5:=Lib.hid hb5;clear hb5)
    go_ret
    exact⟨by rw[HNo.out];rfl,HBw.out.trans ((HbA.out.trans (HB5.out.mono HbA.out.size)).mono HBw.out.size)⟩
  ·obtain rfl:k=wires.length:=by omega
   have HF1:Hid (∀ j (hj:j < wires.length),exprErr N (wires[j]'hj).expr=0):=fun j hj=>HF.out j hj hj
   have HE2:=Lib.hid (HE2.out HF1.out)
   have HE3:=Lib.hid (HE3.out HF1.out)
   clear b0 b1 b2 b3 b4
   ((try clear b0 b1 b2 b3 b4);have b0:=box_cell HBr.out 0;have b1:=box_cell HBr.out 1;have b2:=box_cell HBr.out 2;have b3:=box_cell HBr.out 3;have b4:=box_cell HBr.out 4;(try simp at b0 b1 b2 b3 b4))
   clear HF HE1
   go_wp2_with fail
   go_loopw [30,8,9] (fun i _ _ wr=>∃ k:Nat,i=.int .i64 k∧k≤regs.length∧Hid (∀ j (hj:j < regs.length),j < k→exprErr N (regs[j]'hj).next=0)∧Hid (StrsIn wr N an cn)∧Hid (Below (w.heap.size+1) (w.alloc (.cells #[.string nm,.slice ai ins.length ci,.slice aw wires.length cw,.slice ar regs.length cr,.slice ao outs.length co] 27)) wr)) (fun i _ _ _=>regs.length - (intOf i).toNat)
   case atStart=>exact⟨0,rfl,Nat.zero_le _,fun _ _ h=>absurd h (by omega),HSr,HBr⟩
   case round =>
    rename World=>wq
    obtain⟨k,rfl,hk,HF,HSr,HBr⟩:=hrel
    have HBw:=Lib.hid (boxW _ HBr.out)
    have hzr:=HBr.out.size
    simp only[World.size_alloc] at hzr
    by_cases hlt:k < regs.length
    ·obtain⟨b,off,ha⟩:=HRA.out.resolve_left (by omega)
     subst ha
     obtain⟨ae,ce,c0,c1,c2,c3,c4,c5,c6,hX⟩:=(HR.out.keep (keeps_of_below HBw.out)).get rfl hlt
     have hbA:Below wq.heap.size wq (wq.alloc (.cells #[.string (regs[k]'hlt).name,.int .i64 (regs[k]'hlt).width,.int .i64 (regs[k]'hlt).init,.int .i64 (regs[k]'hlt).next.op,.int .i64 (regs[k]'hlt).next.n,.string (regs[k]'hlt).next.name,.slice ae (regs[k]'hlt).next.args.length ce] 76)):=(Below.refl _ _).alloc (Nat.le_refl _) _
     have HbA:=Lib.hid hbA
     have HC:=Lib.hid (HX0.out (regs[k]'hlt).next ae ce an cn _ (HM2.out k hlt) (HBw.out.trans (hbA.mono HBw.out.size)) (hX.keep (keeps_of_below hbA)) (HSr.out.keep (keeps_of_below hbA)))
     have HNx:Hid (exprErr N (regs[k]'hlt).next=0→∀ j (hj:j < regs.length),j < k+1→exprErr N (regs[j]'hj).next=0):=fun h j hj hjk=>by
      by_cases e:j=k
      ·subst e;exact h
      ·exact HF.out j hj (by omega)
     have HNo:=Lib.hid (HE2.out k hlt HF.out)
     generalize exprErr N (regs[k]'hlt).next=ee at HC HNx HNo
     generalize (regs[k]'hlt)=wi at c0 c1 c2 c3 c4 c5 c6 HbA HC
     clear hX hbA
     by_cases he:ee=0
     ·subst he
      have HNx2:=Lib.hid (HNx.out rfl)
      clear HNo HNx
      go_wp2_with (go_at_call 136;(with_reducible refine HC.out.mono ?_);rintro r w5 ⟨rfl,hb5⟩;have HB5:=Lib.hid hb5;clear hb5)
      go_roundw
      case rel=>exact⟨k+1,by go_num,by omega,HNx2,HSr.out.keep (keeps_of_below (HbA.out.trans (HB5.out.mono HbA.out.size))),HBr.out.trans ((HbA.out.trans (HB5.out.mono HbA.out.size)).mono (by omega))⟩
      case measure=>(simp[intOf];try omega)
     ·have HNo:=Lib.hid (HNo.out he)
      have hne:(ee != (0:Int))=true:=by simpa using he
      clear he HNx
      go_wp2_with (go_at_call 136;(with_reducible refine HC.out.mono ?_);rintro r w5 ⟨rfl,hb5⟩;have HB5:=Lib.hid hb5;clear hb5)
      go_ret
      exact⟨by rw[HNo.out];rfl,HBw.out.trans ((HbA.out.trans (HB5.out.mono HbA.out.size)).mono HBw.out.size)⟩
    ·obtain rfl:k=regs.length:=by omega
     have HE3:=Lib.hid (HE3.out (fun j hj=>HF.out j hj hj))
     go_wp2_with fail
     go_ret
     exact⟨by rw[HE3.out];rfl,HBw.out⟩
end Go.Proofs.YtebneadheaefdaaGreatDoor
namespace Go.Proofs.YtebneadheaefdaaGreatDoor
open Go.RowKit
attribute [local go_sem ↓] Go.wp_at_zero Go.wp_at_succ
theorem StrsIn.drop {w:World} {l:List ByteArray} {b off cap:Nat} (h:StrsIn w l (some ⟨b,off,none⟩) cap) (k:Nat) (hk:k≤l.length) (c:Nat) (hc:l.length - k≤c):StrsIn w (l.drop k) (some ⟨b,off+k,none⟩) c:=by
 refine⟨by rw[List.length_drop];exact hc,by rw[List.length_drop];have:=h.2.1;omega,Or.inr ⟨b,off+k,rfl,fun i hi=>?_⟩⟩
 rw[List.length_drop] at hi
 have:=h.get rfl (show k+i < l.length by omega)
 refine⟨l[k+i]'(by omega),by simp[List.getElem?_drop,show k+i < l.length by omega],?_⟩
 rw[Nat.mul_one,Nat.add_assoc];exact this
theorem StrsIn.take {w:World} {l:List ByteArray} {b off cap:Nat} (h:StrsIn w l (some ⟨b,off,none⟩) cap) (k:Nat) (hk:k≤l.length):StrsIn w (l.take k) (some ⟨b,off,none⟩) cap:=by
 have hl:(l.take k).length=k:=by rw[List.length_take];omega
 refine⟨by rw[hl];have:=h.1;omega,by rw[hl];have:=h.2.1;omega,Or.inr ⟨b,off,rfl,fun i hi=>?_⟩⟩
 rw[hl] at hi
 have:=h.get rfl (show i < l.length by omega)
 refine⟨l[i]'(by omega),by simp[List.getElem?_take,hi,show i < l.length by omega],?_⟩
 rw[Nat.mul_one];exact this
theorem strsIn_nil (w:World) (a:Option Addr) (cap:Nat):StrsIn w [] a cap:=⟨Nat.zero_le _,Nat.zero_le _,Or.inl rfl⟩
theorem slice_from {w:World} {l:List ByteArray} {a:Option Addr} {cap:Nat} (h:StrsIn w l a cap) (k:Nat) (hk:k≤l.length) :
  ∃ a2 c2,(∀ W:World,(Instr.sliceAt 25 (.slice a l.length cap) (some (.int .i64 k)) none none).run Tryz.prog W=.ok (.slice a2 (l.drop k).length c2) W)∧StrsIn w (l.drop k) a2 c2:=by
 have hrun:∀ W:World,(Instr.sliceAt 25 (.slice a l.length cap) (some (.int .i64 k)) none none).run Tryz.prog W=.ok (sliced a k l.length cap 1) W:=fun W=>by
  have ht : Tryz.prog.underlying 25=some (.slice (Tryz.prog.elem 25)):=by kernel_rfl
  rw[run_sliceAt_slice (h:=ht),run_slice_l (ht:=ht) (h0:=by omega) (h1:=by omega)]
  have hs:(Go.sizeOf (Tryz.prog.elem 25)).run Tryz.prog W=.ok 1 W:=by kernel_rfl
  rw[hs]
  simp[Result.andThen]
 have hc:=h.1
 unfold sliced at hrun
 rw[← List.length_drop] at hrun
 by_cases hck:cap=k
 ·have h0:l.drop k=[]:=List.drop_eq_nil_of_le (by omega)
  rw[if_pos hck] at hrun
  rw[h0] at hrun⊢
  exact⟨_,_,hrun,strsIn_nil _ _ _⟩
 ·rw[if_neg hck] at hrun
  rcases h.addr with h0 | ⟨b,off,rfl⟩
  ·have h0:l.drop k=[]:=List.drop_eq_nil_of_le (by omega)
   rw[h0] at hrun⊢
   exact⟨_,_,hrun,strsIn_nil _ _ _⟩
  ·refine⟨_,_,hrun,?_⟩
   have:=h.drop k hk (cap - k) (by omega)
   by_cases hk0:k=0
   ·subst hk0;simpa [Addr.add] using this
   ·simpa [Addr.add,hk0] using this
theorem outErr_bad {inner outs:List ByteArray}:∀ {seen:List ByteArray} {k:Nat} (hk:k < outs.length),(∀ j (hj:j < outs.length),j < k→(idxT inner (outs[j]'hj)).isSome=true∧(idxT (seen++outs.take j) (outs[j]'hj)).isSome=false) →
  ((idxT inner (outs[k]'hk)).isSome=false→outErr inner seen outs=7)∧((idxT inner (outs[k]'hk)).isSome=true→(idxT (seen++outs.take k) (outs[k]'hk)).isSome=true→outErr inner seen outs=8):=by
 induction outs with
 | nil=>intro _ k hk;simp at hk
 | cons s l ih =>
  intro seen k hk h
  cases k with
  | zero =>
   refine⟨fun h1=>?_,fun h1 h2=>?_⟩
   ·unfold outErr;rw[if_pos (by simpa using h1)]
   ·unfold outErr;rw[if_neg (by rw[show (idxT inner s).isSome=true from h1];simp),if_pos (by simpa using h2)]
  | succ k =>
   have h0:=h 0 (by simp) (by omega)
   simp only[List.getElem_cons_zero,List.take_zero,List.append_nil] at h0
   have:=ih (seen:=seen++[s]) (k:=k) (by simpa using hk) (fun j hj hjk=>by
    have:=h (j+1) (by simpa using hj) (by omega)
    simpa using this)
   simp only[List.getElem_cons_succ,List.take_succ_cons]
   have e:outErr inner seen (s::l)=outErr inner (seen++[s]) l:=by
    show (if _ then _ else _)=_
    rw[if_neg (by rw[h0.1];simp),if_neg (by rw[h0.2];simp)]
   rw[e]
   simpa using this
theorem outErr_ok {inner outs:List ByteArray}:∀ {seen:List ByteArray},(∀ j (hj:j < outs.length),(idxT inner (outs[j]'hj)).isSome=true∧(idxT (seen++outs.take j) (outs[j]'hj)).isSome=false)→outErr inner seen outs=0:=by
 induction outs with
 | nil=>intro _ _;rfl
 | cons s l ih =>
  intro seen h
  have h0:=h 0 (by simp)
  simp only[List.getElem_cons_zero,List.take_zero,List.append_nil] at h0
  show (if _ then _ else _)=_
  rw[if_neg (by rw[h0.1];simp),if_neg (by rw[h0.2];simp)]
  exact ih fun j hj=>by
   have:=h (j+1) (by simpa using hj)
   simpa using this
theorem inner_eq (d:DesD):d.names.drop d.inputs.length=d.inner:=by
 unfold DesD.names DesD.inner
 rw[List.append_assoc,List.drop_append_of_le_length (by simp)]
 simp[List.drop_of_length_le]
def DesD.outE (d:DesD):Int:=outErr d.inner [] d.outputs
set_option maxRecDepth 100000 in
set_option maxHeartbeats 8000000 in
theorem outputs_any (d:DesD) (x:DesA) (w:World) (hE:DesIn w d x) (hs:DesSmall d) :
  Calls Tryz.prog 77 #[desVal d x] w fun e w'=>e=.returned (.int .i64 d.outE)∧Below w.heap.size w w':=by
 have hN:d.names.length≤1073741824:=by have:=hs.len;simp[DesD.names];omega
 have hil:d.inputs.length≤d.names.length:=by simp[DesD.names]
 have HN0:=Lib.hid (fun W (hW:Below w.heap.size w W)=>(Names31_any d x W (hE.below hW) hN).mono (R':=fun e w'=>∃ a1 c1 a2 c2,e=.returned (.slice a1 d.names.length c1)∧(∀ W:World,(Instr.sliceAt 25 (.slice a1 d.names.length c1) (some (.int .i64 d.inputs.length)) none none).run Tryz.prog W=.ok (.slice a2 d.inner.length c2) W)∧Hid (StrsIn w' d.inner a2 c2)∧Below W.heap.size W w') (fun e w' ⟨⟨a1,c1,h1,h2⟩,h3⟩=>by
  obtain⟨a2,c2,h4,h5⟩:=slice_from h2 _ hil
  rw[inner_eq] at h4 h5
  exact⟨a1,c1,a2,c2,h1,h4,h5,h3⟩))
 have HO:=Lib.hid hE.outs
 have HOA:=Lib.hid hE.outs.addr
 have hol:=hE.outs.2.1
 have hoc:=hE.outs.1
 have HE1:Hid (∀ k (hk:k < d.outputs.length),(∀ j (hj:j < d.outputs.length),j < k→(idxT d.inner (d.outputs[j]'hj)).isSome=true∧(idxT (d.outputs.take j) (d.outputs[j]'hj)).isSome=false)→((idxT d.inner (d.outputs[k]'hk)).isSome=false→d.outE=7)∧((idxT d.inner (d.outputs[k]'hk)).isSome=true→(idxT (d.outputs.take k) (d.outputs[k]'hk)).isSome=true→d.outE=8)):=fun k hk h=>outErr_bad (seen:=[]) hk h
 have HE0:Hid ((∀ j (hj:j < d.outputs.length),(idxT d.inner (d.outputs[j]'hj)).isSome=true∧(idxT (d.outputs.take j) (d.outputs[j]'hj)).isSome=false)→d.outE=0):=fun h=>outErr_ok (seen:=[]) h
 generalize d.outE=err at HE1 HE0⊢
 generalize d.inner=I at HN0 HE1 HE0
 generalize d.names=N at HN0 hN hil
 clear hE hs
 obtain⟨nm,ins,wires,regs,outs⟩:=d
 obtain⟨ai,ci,aw,cw,ar,cr,ao,co⟩:=x
 simp only[desVal,desVals] at HN0 HO HOA HE1 HE0 hol hoc hil⊢
 have HN1:=Lib.hid (fun W (hW:Below (w.heap.size+1) (w.alloc (.cells #[.string nm,.slice ai ins.length ci,.slice aw wires.length cw,.slice ar regs.length cr,.slice ao outs.length co] 27)) W)=>(HN0.out W (boxW _ hW)).mono (R':=fun e w'=>∃ a1 c1 a2 c2,e=.returned (.slice a1 N.length c1)∧(∀ W:World,(Instr.sliceAt 25 (.slice a1 N.length c1) (some (.int .i64 ins.length)) none none).run Tryz.prog W=.ok (.slice a2 I.length c2) W)∧Hid (StrsIn w' I a2 c2)∧Below (w.heap.size+1) (w.alloc (.cells #[.string nm,.slice ai ins.length ci,.slice aw wires.length cw,.slice ar regs.length cr,.slice ao outs.length co] 27)) w') (fun e w' ⟨a1,c1,a2,c2,h1,h2,h3,h4⟩=>⟨a1,c1,a2,c2,h1,h2,h3,hW.trans (h4.mono (by have:=hW.size;simp at this;omega))⟩))
 clear HN0
 have HALL:Hid (∀ w',Below (w.heap.size+1) (w.alloc (.cells #[.string nm,.slice ai ins.length ci,.slice aw wires.length cw,.slice ar regs.length cr,.slice ao outs.length co] 27)) w'→w'.cell? ⟨w.heap.size,0,none⟩=some (.string nm)∧w'.cell? ⟨w.heap.size,1,none⟩=some (.slice ai ins.length ci)∧w'.cell? ⟨w.heap.size,2,none⟩=some (.slice aw wires.length cw)∧w'.cell? ⟨w.heap.size,3,none⟩=some (.slice ar regs.length cr)∧w'.cell? ⟨w.heap.size,4,none⟩=some (.slice ao outs.length co)):=fun w' h=>by
  have b0:=box_cell h 0
  have b1:=box_cell h 1
  have b2:=box_cell h 2
  have b3:=box_cell h 3
  have b4:=box_cell h 4
  simp at b0 b1 b2 b3 b4
  exact⟨b0,b1,b2,b3,b4⟩
 go_enter Tryz.func77, Tryz.ntmps77
 go_wp2_with fail
 go_region_held3 (fun w'=>Below (w.heap.size+1) (w.alloc (.cells #[.string nm,.slice ai ins.length ci,.slice aw wires.length cw,.slice ar regs.length cr,.slice ao outs.length co] 27)) w'∧w'.cell? ⟨w.heap.size,0,none⟩=some (.string nm)∧w'.cell? ⟨w.heap.size,1,none⟩=some (.slice ai ins.length ci)∧w'.cell? ⟨w.heap.size,2,none⟩=some (.slice aw wires.length cw)∧w'.cell? ⟨w.heap.size,3,none⟩=some (.slice ar regs.length cr)∧w'.cell? ⟨w.heap.size,4,none⟩=some (.slice ao outs.length co)) ((refine(fun h=>⟨h,HALL.out _ h⟩) ?_;first | assumption | exact bel)) ((go_at_call 47;(with_reducible refine(HN1.out _ (by first | assumption | exact And.left (by assumption))).mono ?_);rintro e w3 ⟨a1,c1,a2,c2,rfl,hsl,hS,hb3⟩;have HS:=hS;clear hS))
 have HB3:=Lib.hid (by assumption:Below (w.heap.size+1) (w.alloc (.cells #[.string nm,.slice ai ins.length ci,.slice aw wires.length cw,.slice ar regs.length cr,.slice ao outs.length co] 27)) w3)
 have HBw3:=Lib.hid (boxW _ HB3.out)
 have HO3:=Lib.hid (HO.out.keep (keeps_of_below HBw3.out))
 clear hb3 hsl
 go_wp2_with fail
 go_loop [15,4,5] (fun i _ _=>∃ k:Nat,i=.int .i64 k∧k≤outs.length∧Hid (∀ j (hj:j < outs.length),j < k→(idxT I (outs[j]'hj)).isSome=true∧(idxT (outs.take j) (outs[j]'hj)).isSome=false)) (fun i _ _=>outs.length - (intOf i).toNat)
 case atStart=>exact⟨0,rfl,Nat.zero_le _,fun _ _ h=>absurd h (by omega)⟩
 case round =>
  obtain⟨k,rfl,hk,HF⟩:=hrel
  by_cases hlt:k < outs.length
  ·obtain⟨b,off,ha⟩:=HOA.out.resolve_left (by omega)
   subst ha
   have c0:=HO3.out.get rfl hlt
   have HNx:Hid ((idxT I (outs[k]'hlt)).isSome=true→(idxT (outs.take k) (outs[k]'hlt)).isSome=false→∀ j (hj:j < outs.length),j < k+1→(idxT I (outs[j]'hj)).isSome=true∧(idxT (outs.take j) (outs[j]'hj)).isSome=false):=fun h1 h2 j hj hjk=>by
    by_cases e:j=k
    ·subst e;exact⟨h1,h2⟩
    ·exact HF.out j hj (by omega)
   have HNo:=Lib.hid (HE1.out k hlt HF.out)
   have HC:=Lib.hid (Contains_strs I a2 c2 (outs[k]'hlt) w3 HS.out)
   have HC2:=Lib.hid (Contains_strs (outs.take k) (some ⟨b,off,none⟩) co (outs[k]'hlt) w3 (HO3.out.take k hk))
   have hlk:(outs.take k).length=k:=by rw[List.length_take];omega
   rw[hlk] at HC2
   generalize (outs[k]'hlt)=s at c0 HNx HNo HC HC2
   generalize outs.take k=TK at HNx HNo HC2
   have hco:¬ co=0:=by omega
   clear hlk
   cases hi:(idxT I s).isSome
   ·have HNo2:=Lib.hid (HNo.out.1 hi)
    rw[hi] at HC
    clear hi HNx HNo HC2
    go_wp2_with (go_at_call 125;(with_reducible refine HC.out.mono ?_);rintro r w' ⟨rfl,rfl⟩)
    go_ret
    exact⟨by rw[HNo2.out];rfl,HBw3.out⟩
   ·have HNo2:=Lib.hid (HNo.out.2 hi)
    have HNx2:=Lib.hid (HNx.out hi)
    rw[hi] at HC
    clear hi HNo HNx
    obtain⟨b0,b1,b2,b3,b4⟩:=HALL.out _ HB3.out
    cases hj:(idxT TK s).isSome
    ·have HNx3:=Lib.hid (HNx2.out hj)
     rw[hj] at HC2
     clear hj HNo2 HNx2
     go_wp2_with fail
     refine HC.out.mono ?_
     rintro r w' ⟨rfl,rfl⟩
     go_wp2_with fail
     refine HC2.out.mono ?_
     rintro r w' ⟨rfl,rfl⟩
     go_wp2_with fail
     go_round
     case rel=>exact⟨k+1,by go_num,by omega,HNx3⟩
     case measure=>(simp[intOf];try omega)
    ·have HNo3:=Lib.hid (HNo2.out hj)
     rw[hj] at HC2
     clear hj HNo2 HNx2
     go_wp2_with fail
     refine HC.out.mono ?_
     rintro r w' ⟨rfl,rfl⟩
     go_wp2_with fail
     refine HC2.out.mono ?_
     rintro r w' ⟨rfl,rfl⟩
     go_wp2_with fail
     go_ret
     exact⟨by rw[HNo3.out];rfl,HBw3.out⟩
  ·obtain rfl:k=outs.length:=by omega
   have HR:=Lib.hid (HE0.out (fun j hj=>HF.out j hj hj))
   go_wp2_with fail
   go_ret
   exact⟨by rw[HR.out];rfl,HBw3.out⟩
end Go.Proofs.YtebneadheaefdaaGreatDoor
