/- law31: short and Small, exactly. -/
import Derived.Test.YtebneadheaefdaaGreatDoorEJ
set_option linter.unusedSimpArgs false
set_option linter.unusedVariables false
set_option linter.unnecessarySimpa false
namespace Go.Proofs.YtebneadheaefdaaGreatDoor
open Go.RowKit
attribute [local go_sem ↓] Go.wp_at_zero Go.wp_at_succ
def shortS:Nat→Ex→Bool
 | 0,_=>false
 | l+1,e=>decide (e.args.length≤40) && e.args.all (shortS l)
theorem shortS_succ (l:Nat) (e:Ex):shortS (l+1) e=(decide (e.args.length≤40) && e.args.all (shortS l)):=rfl
noncomputable def smallS (d:DesD):Bool:=decide (d.inputs.length+d.wires.length+d.regs.length≤60) && decide (d.outputs.length≤60) && d.exprs.all fun e=>shortS 12 e && decide (e.nodes.length≤40)
theorem alle_false {α:Type} {p:α→Bool} {l:List α} {j:Nat} (h:j < l.length) (hp:p (l[j]'h)=false):l.all p=false:=by
 rw[List.all_eq_false]
 exact⟨_,List.getElem_mem h,by simp[hp]⟩
theorem alle_true {α:Type} {p:α→Bool} {l:List α} (h:∀ k (hk:k < l.length),p (l[k]'hk)=true):l.all p=true:=by
 rw[List.all_eq_true]
 intro x hx
 obtain⟨k,hk,rfl⟩:=List.getElem_of_mem hx
 exact h k hk
theorem alle_next {α:Type} {p:α→Bool} {l:List α} {j:Nat} (h:j < l.length) (hp:p (l[j]'h)=true) (ih:∀ k (hk:k < l.length),k < j→p (l[k]'hk)=true):∀ k (hk:k < l.length),k < j+1→p (l[k]'hk)=true:=by
 intro k hk h1
 rcases Nat.lt_or_ge k j with q | q
 ·exact ih k hk q
 ·obtain rfl:k=j:=by omega
  exact hp
def BoolIs (b:Bool) (w:World) (r:Ending) (w':World):Prop:=r=.returned (.bool b)∧Below w.heap.size w w'
set_option maxRecDepth 100000 in
set_option maxHeartbeats 4000000 in
theorem short_ex:∀ (lv:Nat),lv≤1000→∀ (op nn:Int) (s:ByteArray) (args:List Ex) (a:Option Addr) (cap:Nat) (w:World),ExIn w (.mk op nn s args) a cap →
  Calls Tryz.prog 81 #[.agg #[.int .i64 op,.int .i64 nn,.string s,.slice a args.length cap],.int .i64 lv] w (BoolIs (shortS lv (.mk op nn s args)) w):=by
 intro lv
 induction lv with
 | zero =>
  intro _ op nn s args a cap w hE
  have hlen:=hE.2.2.1
  simp only[Ex.args_mk] at hlen
  have HP:Hid (∀ b w',b=shortS 0 (.mk op nn s args)→Below w.heap.size w w'→BoolIs (shortS 0 (.mk op nn s args)) w (.returned (.bool b)) w'):=fun b w' e h=>⟨by rw[e],h⟩
  generalize BoolIs (shortS 0 (.mk op nn s args)) w=Po at HP⊢
  have hB:Below w.heap.size w (w.alloc (.cells #[.int .i64 op,.int .i64 nn,.string s,.slice a args.length cap] 72)):=(Below.refl _ _).alloc (Nat.le_refl _) _
  have HB:=Lib.hid (HP.out false _ rfl hB)
  clear hE hB HP
  go_enter Tryz.func81, Tryz.ntmps81
  go_wp2_with fail
  first | exact HB.out | (go_ret;exact HB.out)
 | succ lv ih =>
  intro hlv op nn s args a cap w hE
  have hlen:=hE.2.2.1
  simp only[Ex.args_mk] at hlen
  have HI:=Lib.hid (ih (by omega))
  have HE:=Lib.hid hE.2
  have HA:=Lib.hid (SliceIn.addr hE.2)
  simp only[Ex.args_mk] at HE HA
  have HP:Hid (∀ b w',b=(decide (args.length≤40) && args.all (shortS lv))→Below w.heap.size w w'→BoolIs (shortS (lv+1) (.mk op nn s args)) w (.returned (.bool b)) w'):=fun b w' e h=>⟨by rw[e,shortS_succ,Ex.args_mk],h⟩
  unfold BoolIs at HI
  generalize BoolIs (shortS (lv+1) (.mk op nn s args)) w=Po at HP⊢
  generalize shortS lv=F at HP HI
  clear ih hE
  obtain⟨L,hL⟩:∃ L:Int,L=((lv+1:Nat):Int):=⟨_,rfl⟩
  rw[← hL]
  have hL1:(lv:Int)=L - 1:=by omega
  have hL2:0 < L:=by omega
  have hL3:L≤1000:=by omega
  rw[hL1] at HI
  clear hL hL1 hlv
  have d0:(L == 0)=false:=beq_eq_false_iff_ne.2 (by omega)
  have hB:Below w.heap.size w (w.alloc (.cells #[.int .i64 op,.int .i64 nn,.string s,.slice a args.length cap] 72)):=(Below.refl _ _).alloc (Nat.le_refl _) _
  have HB0:Hid (Below (w.heap.size+1) (w.alloc (.cells #[.int .i64 op,.int .i64 nn,.string s,.slice a args.length cap] 72)) (w.alloc (.cells #[.int .i64 op,.int .i64 nn,.string s,.slice a args.length cap] 72))):=Below.refl _ _
  rcases Nat.lt_or_ge 40 args.length with q | q
  ·have HPB:=Lib.hid (HP.out false _ (by rw[decide_eq_false (Nat.not_le.2 q)];rfl) hB)
   clear hB
   have d1:decide ((40:Int) < (args.length:Int))=true:=by simp;omega
   go_enter Tryz.func81, Tryz.ntmps81
   go_wp2_with fail
   first | exact HPB.out | (go_ret;exact HPB.out)
  ·have d1:decide ((40:Int) < (args.length:Int))=false:=by simp;omega
   have HPb:Hid (∀ b w',b=args.all F→Below w.heap.size w w'→Po (.returned (.bool b)) w'):=fun b w' e h=>HP.out b w' (by rw[decide_eq_true q,e];rfl) h
   clear hB HP
   go_enter Tryz.func81, Tryz.ntmps81
   go_wp2_with fail
   go_loopw [4,5] (fun r i wr=>∃ j:Nat,r=.bool false∧i=.int .i64 j∧j≤args.length∧Hid (∀ k (hk:k < args.length),k < j→F (args[k]'hk)=true)∧Hid (Below (w.heap.size+1) (w.alloc (.cells #[.int .i64 op,.int .i64 nn,.string s,.slice a args.length cap] 72)) wr)) (fun _ i _=>args.length - (intOf i).toNat)
   case atStart=>exact⟨0,rfl,rfl,Nat.zero_le _,fun k _ h=>absurd h (Nat.not_lt_zero _),HB0⟩
   case round =>
    obtain⟨j,rfl,rfl,hj,HA0,HB⟩:=hrel
    have HBw:=Lib.hid (boxW _ HB.out)
    have hzr:=HB.out.size
    simp only[World.size_alloc] at hzr
    have b3:=box_cell HB.out 3
    (try simp at b3)
    by_cases hlt:j < args.length
    ·obtain⟨b,off,ha⟩:=HA.out.resolve_left (by omega)
     subst ha
     obtain⟨a',cap',g0,g1,g2,g3,hX⟩:=(HE.out.keep (keeps_of_below HBw.out)).get rfl hlt
     have HX:=Lib.hid hX
     have HF:=Lib.hid (fun h=>alle_false (p:=F) hlt h)
     have HN:=Lib.hid (fun h=>alle_next (p:=F) hlt h HA0.out)
     clear HA0
     generalize (args[j]'hlt)=e at g0 g1 g2 g3 HX HF HN
     obtain⟨op',n',s',args'⟩:=e
     simp only[Ex.op_mk,Ex.n_mk,Ex.name_mk,Ex.args_mk] at g0 g1 g2 g3
     have HC:=Lib.hid (HI.out op' n' s' args' a' cap' wr HX.out)
     generalize F (.mk op' n' s' args')=bb at HC HF HN
     clear hX HX
     go_wp2_with fail
     refine HC.out.mono ?_
     rintro r w2 ⟨rfl,hb2⟩
     have HB2:=Lib.hid (HB.out.trans (hb2.mono hzr))
     clear hb2 g0 g1 g2 g3 b3
     cases bb
     ·have HPf:=Lib.hid (HPb.out false _ (HF.out rfl).symm (boxW _ HB2.out))
      go_wp2_with fail
      first | exact HPf.out | (go_ret;exact HPf.out)
     ·have HN1:=Lib.hid (HN.out rfl)
      clear HF HN
      go_wp2_with fail
      go_roundw
      case rel=>exact⟨j+1,rfl,by go_num,by omega,HN1,HB2⟩
      case measure=>(simp[intOf];try omega)
    ·obtain rfl:j=args.length:=by omega
     have HPt:=Lib.hid (HPb.out true _ (alle_true fun k hk=>HA0.out k hk hk).symm HBw.out)
     go_wp2_with fail
     first | exact HPt.out | (go_ret;exact HPt.out)
set_option maxRecDepth 100000 in
set_option maxHeartbeats 8000000 in
theorem Small_ex (d:DesD) (x:DesA) (w:World) (hE:DesIn w d x) (hs:DesSmall d) :
  Calls Tryz.prog 38 #[desVal d x] w (BoolIs (smallS d) w):=by
 have hl:=hs.len
 have hel:d.exprs.length≤1073741824:=by rw[exprs_len];omega
 have HX0:=Lib.hid (fun W (hW:Below w.heap.size w W)=>Exprs_any d x W (hE.below hW) hel)
 have HSh:Hid (∀ e∈d.exprs,∀ a cap W,ExIn W e a cap→Calls Tryz.prog 81 #[.agg #[.int .i64 e.op,.int .i64 e.n,.string e.name,.slice a e.args.length cap],.int .i64 12] W (BoolIs (shortS 12 e) W)):=fun e _ a cap W h=>by
  obtain⟨op,n,s,args⟩:=e
  exact short_ex 12 (by omega) op n s args a cap W h
 have HSz:Hid (∀ e∈d.exprs,∀ a cap W,ExIn W e a cap→Calls Tryz.prog 82 #[.agg #[.int .i64 e.op,.int .i64 e.n,.string e.name,.slice a e.args.length cap]] W fun r w'=>r=.returned (.int .i64 (e.nodes.length:Nat))∧Below W.heap.size W w'):=fun e he a cap W h=>by
  have hn:=hs.exprs e he
  obtain⟨op,n,s,args⟩:=e
  exact Size_any op n s args a cap W h (by omega)
 have HMem:Hid (∀ k (hk:k < d.exprs.length),(d.exprs[k]'hk)∈d.exprs):=fun k hk=>List.getElem_mem hk
 have HP:Hid (∀ b w',b=(decide (d.inputs.length+d.wires.length+d.regs.length≤60) && decide (d.outputs.length≤60) && d.exprs.all fun e=>shortS 12 e && decide (e.nodes.length≤40))→Below w.heap.size w w'→BoolIs (smallS d) w (.returned (.bool b)) w'):=fun b w' e h=>⟨by rw[e];rfl,h⟩
 unfold BoolIs at HSh
 generalize BoolIs (smallS d) w=Po at HP⊢
 generalize shortS 12=F at HP HSh
 clear hE hs
 simp only[desVal,desVals] at HX0⊢
 have hbA:Below w.heap.size w (w.alloc (.cells #[.string d.name,.slice x.ai d.inputs.length x.ci,.slice x.aw d.wires.length x.cw,.slice x.ar d.regs.length x.cr,.slice x.ao d.outputs.length x.co] 27)):=bel
 have HB0:Hid (Below (w.heap.size+1) (w.alloc (.cells #[.string d.name,.slice x.ai d.inputs.length x.ci,.slice x.aw d.wires.length x.cw,.slice x.ar d.regs.length x.cr,.slice x.ao d.outputs.length x.co] 27)) (w.alloc (.cells #[.string d.name,.slice x.ai d.inputs.length x.ci,.slice x.aw d.wires.length x.cw,.slice x.ar d.regs.length x.cr,.slice x.ao d.outputs.length x.co] 27))):=Below.refl _ _
 have HX1:=Lib.hid (HX0.out _ hbA)
 have HbA:=Lib.hid hbA
 clear hbA
 generalize hEx:d.exprs=EX at HX1 HSh HSz HMem hel HP
 clear HX0 hEx
 obtain⟨h1,h2,h3,h4⟩:=hl
 rcases Nat.lt_or_ge 60 (d.inputs.length+d.wires.length+d.regs.length) with q | q
 ·have HPA:=Lib.hid (HP.out false _ (by rw[decide_eq_false (Nat.not_le.2 q)];rfl) HbA.out)
  clear HP
  have d1:decide ((60:Int) < (d.inputs.length:Int)+(d.wires.length:Int)+(d.regs.length:Int))=true:=by simp;omega
  go_enter Tryz.func38, Tryz.ntmps38
  go_wp2_with fail
  first | exact HPA.out | (go_ret;exact HPA.out)
 have d1:decide ((60:Int) < (d.inputs.length:Int)+(d.wires.length:Int)+(d.regs.length:Int))=false:=by simp;omega
 rcases Nat.lt_or_ge 60 d.outputs.length with q2 | q2
 ·have HPA:=Lib.hid (HP.out false _ (by rw[decide_eq_false (p:=d.outputs.length≤60) (Nat.not_le.2 q2),Bool.and_false];rfl) HbA.out)
  clear HP
  have d2:decide ((60:Int) < (d.outputs.length:Int))=true:=by simp;omega
  go_enter Tryz.func38, Tryz.ntmps38
  go_wp2_with fail
  first | exact HPA.out | (go_ret;exact HPA.out)
 have d2:decide ((60:Int) < (d.outputs.length:Int))=false:=by simp;omega
 have HPb:Hid (∀ b w',b=(EX.all fun e=>F e && decide (e.nodes.length≤40))→Below w.heap.size w w'→Po (.returned (.bool b)) w'):=fun b w' e h=>HP.out b w' (by
  have h1:decide (d.inputs.length+d.wires.length+d.regs.length≤60)=true:=by simp;omega
  have h2:decide (d.outputs.length≤60)=true:=by simp;omega
  rw[h1,h2,e];rfl) h
 clear HP HbA
 go_enter Tryz.func38, Tryz.ntmps38
 go_wp2_with fail
 refine HX1.out.mono ?_
 rintro e w1 hx
 obtain⟨⟨ae,ce,rfl,hS⟩,hb1⟩:=hx
 have HB1:=Lib.hid (HB0.out.trans (hb1.mono (by simp)))
 have HS:=Lib.hid hS
 have HSA:=Lib.hid (SliceIn.addr hS)
 have hlE:=hS.2.1
 have hcE:=hS.1
 clear hb1 hS
 go_wp2_with fail
 go_loopw [2,4] (fun r i wr=>∃ j:Nat,r=.bool false∧i=.int .i64 j∧j≤EX.length∧Hid (∀ k (hk:k < EX.length),k < j→(fun e:Ex=>F e && decide (e.nodes.length≤40)) (EX[k]'hk)=true)∧Hid (Below (w.heap.size+1) (w.alloc (.cells #[.string d.name,.slice x.ai d.inputs.length x.ci,.slice x.aw d.wires.length x.cw,.slice x.ar d.regs.length x.cr,.slice x.ao d.outputs.length x.co] 27)) wr)∧Hid (ExsIn wr EX ae ce)) (fun _ i _=>EX.length - (intOf i).toNat)
 case atStart=>exact⟨0,rfl,rfl,Nat.zero_le _,fun k _ h=>absurd h (Nat.not_lt_zero _),HB1,HS⟩
 case round =>
  obtain⟨j,rfl,rfl,hj,HA0,HB,HSj⟩:=hrel
  have HBw:=Lib.hid (boxW _ HB.out)
  by_cases hlt:j < EX.length
  ·obtain⟨b,off,ha⟩:=HSA.out.resolve_left (by omega)
   subst ha
   obtain⟨a',cap',g0,g1,g2,g3,hX⟩:=HSj.out.get rfl hlt
   have HX:=Lib.hid hX
   have HC1:=Lib.hid (HSh.out _ (HMem.out j hlt) a' cap' wr hX)
   have HC2:=Lib.hid (fun W (hW:Below wr.heap.size wr W)=>HSz.out _ (HMem.out j hlt) a' cap' W (hX.keep (keeps_of_below hW)))
   have HF:=Lib.hid (fun h=>alle_false (l:=EX) (p:=fun e:Ex=>F e && decide (e.nodes.length≤40)) hlt h)
   have HN:=Lib.hid (fun h=>alle_next (l:=EX) (p:=fun e:Ex=>F e && decide (e.nodes.length≤40)) hlt h HA0.out)
   clear HA0
   generalize (EX[j]'hlt)=e at g0 g1 g2 g3 HX HC1 HC2 HF HN
   obtain⟨op',n',s',args'⟩:=e
   simp only[Ex.op_mk,Ex.n_mk,Ex.name_mk,Ex.args_mk] at g0 g1 g2 g3 HC1 HC2
   clear hX
   have HF0:Hid (F (.mk op' n' s' args')=false→(EX.all fun e=>F e && decide (e.nodes.length≤40))=false):=fun h=>HF.out (by simp[h])
   have HF1:Hid (decide ((Ex.mk op' n' s' args').nodes.length≤40)=false→(EX.all fun e=>F e && decide (e.nodes.length≤40))=false):=fun h=>HF.out (by simp only[h,Bool.and_false])
   have HN1:Hid (F (.mk op' n' s' args')=true→decide ((Ex.mk op' n' s' args').nodes.length≤40)=true→∀ k (hk:k < EX.length),k < j+1→(fun e:Ex=>F e && decide (e.nodes.length≤40)) (EX[k]'hk)=true):=fun h h'=>HN.out (by simp only[h,h',Bool.and_true])
   clear HF HN
   generalize F (.mk op' n' s' args')=bb at HC1 HF0 HN1
   go_wp2_with fail
   refine HC1.out.mono ?_
   rintro r w2 ⟨rfl,hb2⟩
   have hzr:w.heap.size+1≤wr.heap.size:=by
    have:=HB.out.size
    simpa using this
   have HB2:=Lib.hid (HB.out.trans (hb2.mono hzr))
   have HC3:=Lib.hid (HC2.out _ hb2)
   have k0:=keeps_of_below hb2 _ _ g0
   have k1:=keeps_of_below hb2 _ _ g1
   have k2:=keeps_of_below hb2 _ _ g2
   have k3:=keeps_of_below hb2 _ _ g3
   have HS2:=Lib.hid (HSj.out.keep (keeps_of_below hb2))
   clear HC2 HB hb2 HSh HSz HSj
   cases bb
   ·have HPf:=Lib.hid (HPb.out false _ (HF0.out rfl).symm (boxW _ HB2.out))
    clear HF0 HF1 HN1
    go_wp2_with fail
    first | exact HPf.out | (go_ret;exact HPf.out)
   ·go_wp2_with fail
    refine HC3.out.mono ?_
    rintro r w3 ⟨rfl,hb3⟩
    have hz2:w.heap.size+1≤w2.heap.size:=by
     have:=HB2.out.size
     simpa using this
    have HB3:=Lib.hid (HB2.out.trans (hb3.mono hz2))
    have HS3:=Lib.hid (HS2.out.keep (keeps_of_below hb3))
    clear hb3 k0 k1 k2 k3 g0 g1 g2 g3
    generalize (Ex.mk op' n' s' args').nodes.length=nn at HF1 HN1⊢
    rcases Nat.lt_or_ge 40 nn with q3 | q3
    ·have HPf3:=Lib.hid (HPb.out false _ (HF1.out (by simp;omega)).symm (boxW _ HB3.out))
     clear HF0 HF1 HN1
     have d3:decide ((40:Int) < (nn:Int))=true:=by simp;omega
     go_wp2_with fail
     first | exact HPf3.out | (go_ret;exact HPf3.out)
    ·have HN2:=Lib.hid (HN1.out (by first | rfl | trivial) (by simp;omega))
     clear HF0 HF1 HN1
     have d3:decide ((40:Int) < (nn:Int))=false:=by simp;omega
     go_wp2_with fail
     go_roundw
     case rel=>exact⟨j+1,rfl,by go_num,by omega,HN2,HB3,HS3⟩
     case measure=>(simp[intOf];try omega)
  ·obtain rfl:j=EX.length:=by omega
   have HPt:=Lib.hid (HPb.out true _ (alle_true (l:=EX) (p:=fun e:Ex=>F e && decide (e.nodes.length≤40)) fun k hk=>HA0.out k hk hk).symm HBw.out)
   go_wp2_with fail
   first | exact HPt.out | (go_ret;exact HPt.out)
end Go.Proofs.YtebneadheaefdaaGreatDoor
