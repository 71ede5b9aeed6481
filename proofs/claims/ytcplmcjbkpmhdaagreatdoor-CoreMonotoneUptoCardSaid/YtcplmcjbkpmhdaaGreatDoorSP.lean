/- ref22: known. -/
import Derived.Test.YtcplmcjbkpmhdaaGreatDoorSO
import Derived.Test.YtcplmcjbkpmhdaaGreatDoorSE
set_option linter.unusedSimpArgs false
set_option linter.unusedVariables false
set_option linter.unnecessarySimpa false
namespace Go.Proofs.YtcplmcjbkpmhdaaGreatDoor
open Go.RowKit
attribute [local go_sem ↓] Go.wp_at_zero Go.wp_at_succ
theorem knE_yes {vs:List VarD} {e:Ex} (h:∀ j (hj:j < (namesS [2] e).length),0≤findV vs ((namesS [2] e)[j]'hj) 0):knE vs e=decide ((namesS [3,24] e).length=0):=by
 unfold knE
 rw[all_yes (P:=fun s=>decide (0≤findV vs s 0)) (fun j hj=>decide_eq_true (h j hj)),Bool.and_true]
theorem knE_no {vs:List VarD} {e:Ex} {j:Nat} (hj:j < (namesS [2] e).length) (h:¬ 0≤findV vs ((namesS [2] e)[j]'hj) 0):knE vs e=false:=by
 unfold knE
 rw[all_not (P:=fun s=>decide (0≤findV vs s 0)) hj (decide_eq_false h),Bool.and_false]
set_option maxRecDepth 100000 in
set_option maxHeartbeats 8000000 in
theorem r22known_any (p:ProbD) (x:ProbA) (op n:Int) (s:ByteArray) (args:List Ex) (a:Option Addr) (cap:Nat) (w:World) (hE:ProbIn w p x) (hX:ExIn w (.mk op n s args) a cap) (hn:(Ex.mk op n s args).nodes.length≤1000000000) :
  Calls Tryz.prog 55 #[probVal p x,.agg #[.int .i64 op,.int .i64 n,.string s,.slice a args.length cap]] w fun e w'=>e=.returned (.bool (knE p.vars (.mk op n s args)))∧Below w.heap.size w w':=by
 have HY:Hid ((∀ j (hj:j < (namesS [2] (Ex.mk op n s args)).length),0≤findV p.vars ((namesS [2] (Ex.mk op n s args))[j]'hj) 0)→knE p.vars (.mk op n s args)=decide ((namesS [3,24] (Ex.mk op n s args)).length=0)):=knE_yes
 have HNo:Hid (∀ j (hj:j < (namesS [2] (Ex.mk op n s args)).length),¬ 0≤findV p.vars ((namesS [2] (Ex.mk op n s args))[j]'hj) 0→knE p.vars (.mk op n s args)=false):=fun j hj h=>knE_no hj h
 have HNa:=Lib.hid (fun W (hW:Below w.heap.size w W)=>rNames_any op n s args a cap W (hX.keep (keeps_of_below hW)) hn)
 have HAr:=Lib.hid (fun W (hW:Below w.heap.size w W)=>rArrays_any op n s args a cap W (hX.keep (keeps_of_below hW)) hn)
 have HVs:=Lib.hid hE.vars
 have hlen:=hE.vars.2.1
 generalize knE p.vars (.mk op n s args)=kn at HY HNo⊢
 generalize namesS [3,24] (Ex.mk op n s args)=A3 at HAr HY
 generalize namesS [2] (Ex.mk op n s args)=N2 at HNa HY HNo
 clear hE hX hn
 simp only[probVal_eq]
 obtain⟨vs,hard,soft,ds,gs⟩:=p
 obtain⟨av,cv,ah,ch,ao,co,ad,cd,ag,cg⟩:=x
 simp only at HVs HY HNo hlen⊢
 have hb2:Below w.heap.size w ((w.alloc (.cells #[.slice av vs.length cv,.slice ah hard.length ch,.slice ao soft.length co,.slice ad ds.length cd,.slice ag gs.length cg] 27)).alloc (.cells #[.int .i64 op,.int .i64 n,.string s,.slice a args.length cap] 55)):=((Below.refl _ _).alloc (Nat.le_refl _) _).alloc (by simp) _
 have HN:=Lib.hid (HNa.out _ hb2)
 clear HNa hb2
 go_enter Tryz.func55, Tryz.ntmps55
 go_wp2_with fail
 refine HN.out.mono ?_
 rintro r w1 ⟨⟨an,cn,rfl,hst⟩,hb1⟩
 simp only[World.size_alloc] at hb1
 have HB1:=Lib.hid hb1
 have HSt:=Lib.hid hst
 have HAN:=Lib.hid hst.addr
 have hln:=hst.2.1
 clear hst hb1
 go_wp2_with fail
 go_loopw [6,7,8] (fun i _ _ wr=>∃ k:Nat,i=.int .i64 k∧k≤N2.length∧Hid (∀ j (hj:j < N2.length),j < k→0≤findV vs (N2[j]'hj) 0)∧Hid (Below w1.heap.size w1 wr)) (fun i _ _ _=>N2.length - (intOf i).toNat)
 case atStart=>exact⟨0,rfl,Nat.zero_le _,fun _ _ h=>absurd h (by omega),Below.refl _ _⟩
 case round =>
  rename World=>wr
  obtain⟨k,rfl,hk,HAl,HBr⟩:=hrel
  have HB2:Hid (Below (w.heap.size+2) ((w.alloc (.cells #[.slice av vs.length cv,.slice ah hard.length ch,.slice ao soft.length co,.slice ad ds.length cd,.slice ag gs.length cg] 27)).alloc (.cells #[.int .i64 op,.int .i64 n,.string s,.slice a args.length cap] 55)) wr):=HB1.out.trans (HBr.out.mono (by have:=HB1.out.size;simpa using this))
  have hz2:=HB2.out.size
  simp only[World.size_alloc] at hz2
  have HBw:=Lib.hid (below_two HB2.out)
  by_cases hlt:k < N2.length
  ·obtain⟨bn,on,han⟩:=HAN.out.resolve_left (by omega)
   subst han
   have hc:=(keeps_of_below HBr.out) _ _ (HSt.out.get rfl hlt)
   have HNx:Hid (0≤findV vs (N2[k]'hlt) 0→∀ j (hj:j < N2.length),j < k+1→0≤findV vs (N2[j]'hj) 0):=fun h j hj hjk=>by
    by_cases e:j=k
    ·subst e;exact h
    ·exact HAl.out j hj (by omega)
   have HNk:=Lib.hid (HNo.out k hlt)
   have hin:Hid (inV vs vs.length (N2[k]'hlt)=decide (0≤findV vs (N2[k]'hlt) 0)):=inV_find _ _
   have hkw:IntKind.i64.wrap ((k:Int)+1)=(k:Int)+1:=by rw[IntKind.wrap_i64];omega
   generalize (N2[k]'hlt)=nm at hc HNx HNk hin
   go_wp2_with fail
   go_loopw [7,8] (fun f i wz=>∃ j:Nat,f=.bool (inV vs j nm)∧i=.int .i64 j∧j≤vs.length∧Hid (Below wr.heap.size wr wz)) (fun _ i _=>vs.length - (intOf i).toNat)
   case atStart=>exact⟨0,rfl,rfl,Nat.zero_le _,Below.refl _ _⟩
   case round =>
    rename World=>wz
    obtain⟨j,rfl,rfl,hj,HBz⟩:=hrel
    have HBwz:=Lib.hid (HBw.out.trans (HBz.out.mono HBw.out.size))
    have hb0:wz.cell? ⟨w.heap.size,0,none⟩=some (.slice av vs.length cv):=(HBz.out.cell (p:=⟨w.heap.size,0,none⟩) (by show w.heap.size < wr.heap.size;omega)).trans ((HB2.out.cell (p:=⟨w.heap.size,0,none⟩) (by show w.heap.size < w.heap.size+2;omega)).trans (by simp))
    have hc2:=(keeps_of_below HBz.out) _ _ hc
    have hkj:IntKind.i64.wrap ((j:Int)+1)=(j:Int)+1:=by rw[IntKind.wrap_i64];omega
    by_cases hlj:j < vs.length
    ·obtain⟨bv,ov,hav⟩:=HVs.out.addr.resolve_left (by omega)
     subst hav
     have HVz:=Lib.hid (HVs.out.keep (keeps_of_below HBwz.out))
     obtain⟨c0,c1,c2,c3,hsz⟩:=HVz.out.get rfl hlj
     have HSu:Hid (inV vs (j+1) nm=(inV vs j nm || ((vs[j]'hlj).name.toList == nm.toList))):=inV_succ hlj nm
     generalize inV vs j nm=b0 at HSu
     generalize (vs[j]'hlj).name=vn at HSu c0
     cases b0
     ·cases hq:(vn.toList == nm.toList)
      all_goals
       rw[hq] at HSu
       go_wp2_with fail
       go_quiet (fail)
       go_wp2_with fail
       go_roundw
       case rel=>exact⟨j+1,by rw[HSu.out];rfl,by go_num,by omega,below_drewN HBz.out _⟩
       case measure=>(simp[intOf];try omega)
     ·go_wp2_with fail
      go_quiet (fail)
      go_wp2_with fail
      go_roundw
      case rel=>exact⟨j+1,by rw[HSu.out];rfl,by go_num,by omega,below_drewN HBz.out _⟩
      case measure=>(simp[intOf];try omega)
    ·obtain rfl:j=vs.length:=by omega
     have HBd:=Lib.hid (HBr.out.trans (HBz.out.mono HBr.out.size))
     by_cases hf:0≤findV vs nm 0
     ·have HNx2:=Lib.hid (HNx.out hf)
      have hin2:inV vs vs.length nm=true:=hin.out.trans (decide_eq_true hf)
      rw[hin2]
      clear HNx HNk hf hin
      go_wp2_with fail
      go_roundw
      case rel=>exact⟨k+1,by go_num,by omega,HNx2,HBd⟩
      case measure=>(simp[intOf];try omega)
     ·have HNk2:=Lib.hid (HNk.out (by omega))
      have hin2:inV vs vs.length nm=false:=hin.out.trans (decide_eq_false hf)
      rw[hin2]
      clear HNx HNk hf hin
      go_wp2_with fail
      go_ret
      exact⟨by rw[HNk2.out];rfl,HBwz.out⟩
  ·obtain rfl:k=N2.length:=by omega
   have HE:=Lib.hid (HY.out (fun j hj=>HAl.out j hj hj))
   have HA2:=Lib.hid (HAr.out wr HBw.out)
   have hxb:wr.heap[w.heap.size+1]? = some (.cells #[.int .i64 op,.int .i64 n,.string s,.slice a args.length cap] 55):=(HB2.out.block _ (by omega)).trans (heap_alloc_at _ _ _ (by simp))
   have b0:wr.cell? ⟨w.heap.size+1,0,none⟩=some (.int .i64 op):=by simp[World.cell?,hxb]
   have b1:wr.cell? ⟨w.heap.size+1,1,none⟩=some (.int .i64 n):=by simp[World.cell?,hxb]
   have b2:wr.cell? ⟨w.heap.size+1,2,none⟩=some (.string s):=by simp[World.cell?,hxb]
   have b3:wr.cell? ⟨w.heap.size+1,3,none⟩=some (.slice a args.length cap):=by simp[World.cell?,hxb]
   clear hxb HAl HNo HAr
   cases A3 with
   | nil =>
    obtain rfl:kn=true:=HE.out.trans (by simp)
    go_wp2_with (go_at_call 105;(with_reducible refine HA2.out.mono ?_);rintro r w5 ⟨⟨aa,ca,rfl,_⟩,hb5⟩;have HB5:=Lib.hid (HBw.out.trans (hb5.mono HBw.out.size));clear hb5)
    go_ret
    exact⟨rfl,HB5.out⟩
   | cons a0 A =>
    obtain rfl:kn=false:=HE.out.trans (by simp)
    have hal:¬ (((a0::A).length:Int)=0):=by simp;omega
    go_wp2_with (go_at_call 105;(with_reducible refine HA2.out.mono ?_);rintro r w5 ⟨⟨aa,ca,rfl,_⟩,hb5⟩;have HB5:=Lib.hid (HBw.out.trans (hb5.mono HBw.out.size));clear hb5)
    go_ret
    exact⟨by simp;omega,HB5.out⟩
end Go.Proofs.YtcplmcjbkpmhdaaGreatDoor
namespace Go.Proofs.YtcplmcjbkpmhdaaGreatDoor
open Go.RowKit
attribute [local go_sem ↓] Go.wp_at_zero Go.wp_at_succ
set_option maxRecDepth 100000 in
set_option maxHeartbeats 16000000 in
theorem r22Solvable_any (p:ProbD) (x:ProbA) (l:List Ex) (al:Option Addr) (cl:Nat) (w:World) (hE:ProbIn w p x) (hs:ProbSmall p) (hL:ExsIn w l al cl) (hsl:ExsSmall l) :
  Calls Tryz.prog 19 #[probVal p x,.slice al l.length cl] w fun e w'=>e=.returned (.tuple #[.bool (solvA p l),.int .i64 (solvErr p l)])∧Below w.heap.size w w':=by
 have HV0:=Lib.hid (fun W (hW:Below w.heap.size w W)=>r14Valid_any p x W (hE.keep (keeps_of_below hW)) hs)
 have HVa:=Lib.hid (fun op n s args a cap W (hX:ExIn W (.mk op n s args) a cap) (hn:(Ex.mk op n s args).nodes.length≤1000000000)=>rValid_any op n s args a cap W hX hn)
 have HL:=Lib.hid hL
 have HSl:=Lib.hid hsl
 have hlen:=hE.vars.2.1
 have hll:=hL.2.1
 have HN:Hid (¬ solvErr p l=0→solvA p l=false):=fun h=>if_neg h
 by_cases hp:ProbOk p
 ·have HV1:=Lib.hid (fun W hW=>errT (HV0.out W hW) hp)
  have HKn:=Lib.hid (fun op n s args a cap W (hW:Below w.heap.size w W) (hX:ExIn W (.mk op n s args) a cap) (hn:(Ex.mk op n s args).nodes.length≤1000000000)=>r22known_any p x op n s args a cap W (hE.keep (keeps_of_below hW)) hX hn)
  have HPo:=Lib.hid (fun W (hW:Below w.heap.size w W)=>possible_any p x l al cl W (hE.keep (keeps_of_below hW)) hp.vars (hL.keep (keeps_of_below hW)) hsl)
  have hv16:=hp.vars.len
  have HE1:Hid (∀ k (h:k < l.length),¬ validS (l[k]'h)=0→solvErr p l=1):=fun k h h1=>by
   unfold solvErr
   rw[if_pos (pB_true hp),if_neg]
   rw[all_not (P:=fun e=>validS e == 0) h (by simpa using h1)];simp
  have HE7:Hid ((∀ j (hj:j < l.length),validS (l[j]'hj)=0)→∀ k (h:k < l.length),knE p.vars (l[k]'h)=false→solvErr p l=7):=fun h0 k h h1=>by
   unfold solvErr
   rw[if_pos (pB_true hp),if_pos (all_yes (P:=fun e=>validS e == 0) (fun j hj=>by simpa using h0 j hj)),if_neg]
   rw[all_not h h1];simp
  have HE0:Hid ((∀ j (hj:j < l.length),validS (l[j]'hj)=0)→(∀ j (hj:j < l.length),knE p.vars (l[j]'hj)=true)→solvErr p l=0):=fun h0 h1=>by
   unfold solvErr
   rw[if_pos (pB_true hp),if_pos (all_yes (P:=fun e=>validS e == 0) (fun j hj=>by simpa using h0 j hj)),if_pos (all_yes h1)]
  have HY:Hid (solvErr p l=0→solvA p l=solvB p.vars l):=fun h=>if_pos h
  generalize solvErr p l=err at HE1 HE7 HE0 HY HN⊢
  generalize solvA p l=sa at HY HN⊢
  generalize solvB p.vars l=sb at HPo HY
  clear hE hs hL hsl hp HV0
  simp only[probVal_eq] at HV1 HKn HPo⊢
  obtain⟨vs,hard,soft,ds,gs⟩:=p
  obtain⟨av,cv,ah,ch,ao,co,ad,cd,ag,cg⟩:=x
  simp only at HV1 HKn HPo HE7 HE0 hlen hv16⊢
  have HV:=Lib.hid (HV1.out (w.alloc (.cells #[.slice av vs.length cv,.slice ah hard.length ch,.slice ao soft.length co,.slice ad ds.length cd,.slice ag gs.length cg] 27)) ((Below.refl _ _).alloc (Nat.le_refl _) _))
  clear HV1
  go_enter Tryz.func19, Tryz.ntmps19
  go_wp2_with fail
  refine HV.out.mono ?_
  rintro r w1 ⟨rfl,hb1⟩
  simp only[World.size_alloc] at hb1
  have HB1:=Lib.hid hb1
  have hz1:=hb1.size
  simp only[World.size_alloc] at hz1
  clear hb1
  go_wp2_with fail
  go_loopw [6] (fun i wr=>∃ k:Nat,i=.int .i64 k∧k≤l.length∧Hid (∀ j (hj:j < l.length),j < k→validS (l[j]'hj)=0)∧Hid (Below (w.heap.size+1) (w.alloc (.cells #[.slice av vs.length cv,.slice ah hard.length ch,.slice ao soft.length co,.slice ad ds.length cd,.slice ag gs.length cg] 27)) wr)) (fun i _=>l.length - (intOf i).toNat)
  case atStart=>exact⟨0,rfl,Nat.zero_le _,fun _ _ h=>absurd h (by omega),HB1⟩
  case round =>
   obtain⟨k,rfl,hk,HAl,HB⟩:=hrel
   have HBw:=Lib.hid (boxW _ HB.out)
   have hzr:=HB.out.size
   simp only[World.size_alloc] at hzr
   by_cases hlt:k < l.length
   ·obtain⟨b,off,ha⟩:=HL.out.addr.resolve_left (by omega)
    subst ha
    obtain⟨ea,ec,g0,g1,g2,g3,hX⟩:=HL.out.get rfl hlt
    have hnn:=HSl.out _ (List.getElem_mem hlt)
    have kk:=keeps_of_below HBw.out
    have c0:=kk _ _ g0
    have c1:=kk _ _ g1
    have c2:=kk _ _ g2
    have c3:=kk _ _ g3
    have HX:=Lib.hid (hX.keep kk)
    have HNx:Hid (validS (l[k]'hlt)=0→∀ j (hj:j < l.length),j < k+1→validS (l[j]'hj)=0):=fun h j hj hjk=>by
     by_cases e:j=k
     ·subst e;exact h
     ·exact HAl.out j hj (by omega)
    have HNo:=Lib.hid (HE1.out k hlt)
    generalize (l[k]'hlt)=e at c0 c1 c2 c3 HX hnn HNx HNo
    obtain⟨op,n,s,args⟩:=e
    simp only[Ex.op_mk,Ex.n_mk,Ex.name_mk,Ex.args_mk] at c0 c1 c2 c3
    have HC:=Lib.hid (HVa.out op n s args ea ec wr HX.out hnn)
    generalize validS (.mk op n s args)=vv at HC HNx HNo
    have hkw:IntKind.i64.wrap ((k:Int)+1)=(k:Int)+1:=by rw[IntKind.wrap_i64];omega
    clear g0 g1 g2 g3 hX kk
    by_cases hv:vv=0
    ·have HNx2:=Lib.hid (HNx.out hv)
     clear HNx
     subst hv
     go_wp2_with (go_at_call 54;(with_reducible refine HC.out.mono ?_);rintro r w5 ⟨rfl,hb5⟩;have HB5:=Lib.hid (HB.out.trans (hb5.mono hzr));clear hb5)
     go_roundw
     case rel=>exact⟨k+1,by go_num,by omega,HNx2,HB5⟩
     case measure=>(simp[intOf];try omega)
    ·have HNo:=Lib.hid (HNo.out hv)
     have hne:(vv != (0:Int))=true:=by simpa using hv
     obtain rfl:sa=false:=HN.out (by rw[HNo.out];decide)
     clear hv
     go_wp2_with (go_at_call 54;(with_reducible refine HC.out.mono ?_);rintro r w5 ⟨rfl,hb5⟩;have HB5:=Lib.hid (HBw.out.trans (hb5.mono HBw.out.size));clear hb5)
     go_ret2
     exact⟨by rw[HNo.out];rfl,HB5.out⟩
   ·rename World=>w2
    obtain rfl:k=l.length:=by omega
    have HVd:Hid (∀ j (hj:j < l.length),validS (l[j]'hj)=0):=fun j hj=>HAl.out j hj hj
    have HE7:=Lib.hid (HE7.out HVd.out)
    have HE0:=Lib.hid (HE0.out HVd.out)
    clear HAl HVd HE1 HB1 HBw hz1 hzr HV
    go_wp2_with fail
    go_loopw [7] (fun i wr=>∃ k:Nat,i=.int .i64 k∧k≤l.length∧Hid (∀ j (hj:j < l.length),j < k→knE vs (l[j]'hj)=true)∧Hid (Below (w.heap.size+1) (w.alloc (.cells #[.slice av vs.length cv,.slice ah hard.length ch,.slice ao soft.length co,.slice ad ds.length cd,.slice ag gs.length cg] 27)) wr)) (fun i _=>l.length - (intOf i).toNat)
    case atStart=>exact⟨0,rfl,Nat.zero_le _,fun _ _ h=>absurd h (by omega),HB⟩
    case round =>
     clear HB
     obtain⟨k,rfl,hk,HAl,HB⟩:=hrel
     have HBw:=Lib.hid (boxW _ HB.out)
     have hzr:=HB.out.size
     simp only[World.size_alloc] at hzr
     by_cases hlt:k < l.length
     ·obtain⟨b,off,ha⟩:=HL.out.addr.resolve_left (by omega)
      subst ha
      obtain⟨ea,ec,g0,g1,g2,g3,hX⟩:=HL.out.get rfl hlt
      have hnn:=HSl.out _ (List.getElem_mem hlt)
      have kk:=keeps_of_below HBw.out
      ((try clear b0 b1 b2 b3 b4);have b0:=box_cell HB.out 0;have b1:=box_cell HB.out 1;have b2:=box_cell HB.out 2;have b3:=box_cell HB.out 3;have b4:=box_cell HB.out 4;(try simp at b0 b1 b2 b3 b4))
      have c0:∀ g:Grow wr.heap.size wr,g.w'.cell? _=_:=Grow.old (kk _ _ g0) (Nat.le_refl _)
      have c1:∀ g:Grow wr.heap.size wr,g.w'.cell? _=_:=Grow.old (kk _ _ g1) (Nat.le_refl _)
      have c2:∀ g:Grow wr.heap.size wr,g.w'.cell? _=_:=Grow.old (kk _ _ g2) (Nat.le_refl _)
      have c3:∀ g:Grow wr.heap.size wr,g.w'.cell? _=_:=Grow.old (kk _ _ g3) (Nat.le_refl _)
      have X0:∀ g:Grow wr.heap.size wr,g.w'.cell? _=_:=Grow.old b0 (Nat.le_refl _)
      have X1:∀ g:Grow wr.heap.size wr,g.w'.cell? _=_:=Grow.old b1 (Nat.le_refl _)
      have X2:∀ g:Grow wr.heap.size wr,g.w'.cell? _=_:=Grow.old b2 (Nat.le_refl _)
      have X3:∀ g:Grow wr.heap.size wr,g.w'.cell? _=_:=Grow.old b3 (Nat.le_refl _)
      have X4:∀ g:Grow wr.heap.size wr,g.w'.cell? _=_:=Grow.old b4 (Nat.le_refl _)
      have HX:=Lib.hid (hX.keep kk)
      have HNx:Hid (knE vs (l[k]'hlt)=true→∀ j (hj:j < l.length),j < k+1→knE vs (l[j]'hj)=true):=fun h j hj hjk=>by
       by_cases e:j=k
       ·subst e;exact h
       ·exact HAl.out j hj (by omega)
      have HNo:=Lib.hid (HE7.out k hlt)
      generalize (l[k]'hlt)=e at c0 c1 c2 c3 HX hnn HNx HNo
      obtain⟨op,n,s,args⟩:=e
      simp only[Ex.op_mk,Ex.n_mk,Ex.name_mk,Ex.args_mk] at c0 c1 c2 c3
      have HC:=Lib.hid (fun W (hW:Below wr.heap.size wr W)=>(HKn.out op n s args ea ec W (HBw.out.trans (hW.mono HBw.out.size)) (HX.out.keep (keeps_of_below hW)) hnn).mono fun e w' h=>(⟨h.1,hW.trans (h.2.mono hW.size)⟩:_∧Below wr.heap.size wr w'))
      generalize knE vs (.mk op n s args)=kn at HC HNx HNo
      have hkw:IntKind.i64.wrap ((k:Int)+1)=(k:Int)+1:=by rw[IntKind.wrap_i64];omega
      clear g0 g1 g2 g3 hX kk b0 b1 b2 b3 b4
      cases kn
      ·have HNo2:=Lib.hid (HNo.out rfl)
       obtain rfl:sa=false:=HN.out (by rw[HNo2.out];decide)
       clear HNo HNx
       go_wp2_with fail
       (refine wp_region_grow (B:=wr.heap.size) (w0:=wr) (by kernel_rfl) (by kernel_rfl) bel ?_;(repeat (go_big_quiet_step ((go_at_call 55;with_reducible exact grow_call (HC.out _ (Grow.h _))))));refine wpQuiet_nil ?_;intro wg hCg;have hbg:=grow_out hCg;clear hCg)
       go_wp2_with fail
       go_ret2
       exact⟨by rw[HNo2.out];rfl,HBw.out.trans ((by assumption:Below wr.heap.size wr _).mono HBw.out.size)⟩
      ·have HNx2:=Lib.hid (HNx.out rfl)
       clear HNo HNx
       go_wp2_with fail
       (refine wp_region_grow (B:=wr.heap.size) (w0:=wr) (by kernel_rfl) (by kernel_rfl) bel ?_;(repeat (go_big_quiet_step ((go_at_call 55;with_reducible exact grow_call (HC.out _ (Grow.h _))))));refine wpQuiet_nil ?_;intro wg hCg;have hbg:=grow_out hCg;clear hCg)
       go_wp2_with fail
       go_roundw
       case rel=>exact⟨k+1,by go_num,by omega,HNx2,HB.out.trans ((by assumption:Below wr.heap.size wr _).mono hzr)⟩
       case measure=>(simp[intOf];try omega)
     ·obtain rfl:k=l.length:=by omega
      have HE:=Lib.hid (HE0.out (fun j hj=>HAl.out j hj hj))
      obtain rfl:sa=sb:=HY.out HE.out
      ((try clear b0 b1 b2 b3 b4);have b0:=box_cell HB.out 0;have b1:=box_cell HB.out 1;have b2:=box_cell HB.out 2;have b3:=box_cell HB.out 3;have b4:=box_cell HB.out 4;(try simp at b0 b1 b2 b3 b4))
      clear HAl HE7 HE0 HN HY
      go_wp2_with (go_at_call 56;(with_reducible refine(HPo.out _ HBw.out).mono ?_);rintro r w5 ⟨rfl,hb5⟩;have HB5:=Lib.hid (HBw.out.trans (hb5.mono HBw.out.size));clear hb5)
      go_ret2
      exact⟨by rw[HE.out];rfl,HB5.out⟩
 ·have HV1:=Lib.hid (fun W hW=>errF (HV0.out W hW) hp)
  have HNo:Hid (solvErr p l=1):=by show _=_;unfold solvErr;rw[if_neg (by rw[pB_false hp];simp)]
  generalize solvErr p l=err at HNo HN⊢
  generalize solvA p l=sa at HN⊢
  obtain rfl:sa=false:=HN.out (by rw[HNo.out];decide)
  simp only[probVal_eq] at HV1⊢
  clear hE hs hL hsl hp HV0
  obtain⟨vs,hard,soft,ds,gs⟩:=p
  obtain⟨av,cv,ah,ch,ao,co,ad,cd,ag,cg⟩:=x
  simp only at HV1⊢
  have HV:=Lib.hid (HV1.out (w.alloc (.cells #[.slice av vs.length cv,.slice ah hard.length ch,.slice ao soft.length co,.slice ad ds.length cd,.slice ag gs.length cg] 27)) ((Below.refl _ _).alloc (Nat.le_refl _) _))
  clear HV1
  go_enter Tryz.func19, Tryz.ntmps19
  go_wp2_with fail
  refine HV.out.mono ?_
  rintro r w1 ⟨⟨m,rfl,hm⟩,hb1⟩
  have HBw:Hid (Below w.heap.size w w1):=boxW _ (by simpa using hb1)
  clear hb1
  go_wp2_with fail
  go_ret2
  exact⟨by rw[HNo.out];rfl,HBw.out⟩
end Go.Proofs.YtcplmcjbkpmhdaaGreatDoor
