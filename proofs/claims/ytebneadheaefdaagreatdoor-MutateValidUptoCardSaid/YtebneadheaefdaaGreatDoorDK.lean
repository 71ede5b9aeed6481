/- Rows of expressions; ref31: Exprs. -/
import Derived.Test.YtebneadheaefdaaGreatDoorDJ
import Derived.Test.YtebneadheaefdaaGreatDoorDC
import Derived.Laws.OwnMore
import Derived.Laws.Rows
import Derived.OneCell
set_option linter.unusedSimpArgs false
set_option linter.unusedVariables false
set_option linter.unnecessarySimpa false
namespace Go.Proofs.YtebneadheaefdaaGreatDoor
open Go.RowKit
attribute [local go_sem ↓] Go.wp_at_zero Go.wp_at_succ
def ExRow (w:World) (l:List Ex) (xs:List Value):Prop:=xs.length=l.length * 4∧∀ i (h:i < l.length),∃ a cap,xs[i * 4]? = some (.int .i64 (l[i]'h).op)∧xs[i * 4+1]? = some (.int .i64 (l[i]'h).n)∧xs[i * 4+2]? = some (.string (l[i]'h).name)∧xs[i * 4+3]? = some (.slice a (l[i]'h).args.length cap)∧ExIn w (l[i]'h) a cap
theorem ExRow.nil (w:World):ExRow w [] []:=⟨rfl,fun i h=>by simp at h⟩
theorem ExRow.keep {w w':World} (hk:∀ a v,w.cell? a=some v→w'.cell? a=some v) {l:List Ex} {xs:List Value} (h:ExRow w l xs):ExRow w' l xs :=
 ⟨h.1,fun i hi=>by obtain⟨a,cap,h0,h1,h2,h3,h4⟩:=h.2 i hi;exact⟨a,cap,h0,h1,h2,h3,h4.keep hk⟩⟩
theorem ExRow.append {w:World} {l l':List Ex} {xs ys:List Value} (h:ExRow w l xs) (h':ExRow w l' ys):ExRow w (l++l') (xs++ys):=by
 refine⟨by rw[List.length_append,List.length_append,h.1,h'.1,Nat.add_mul],fun i hi=>?_⟩
 by_cases hl:i < l.length
 ·obtain⟨a,cap,h0,h1,h2,h3,h4⟩:=h.2 i hl
  have hx:=h.1
  rw[List.getElem_append_left hl]
  refine⟨a,cap,?_,?_,?_,?_,h4⟩
  ·rw[List.getElem?_append_left (by omega)];exact h0
  ·rw[List.getElem?_append_left (by omega)];exact h1
  ·rw[List.getElem?_append_left (by omega)];exact h2
  ·rw[List.getElem?_append_left (by omega)];exact h3
 ·have hi':i - l.length < l'.length:=by rw[List.length_append] at hi;omega
  obtain⟨a,cap,h0,h1,h2,h3,h4⟩:=h'.2 (i - l.length) hi'
  have hx:=h.1
  rw[List.getElem_append_right (by omega)]
  refine⟨a,cap,?_,?_,?_,?_,h4⟩
  ·rw[List.getElem?_append_right (by omega),show i * 4 - xs.length=(i - l.length) * 4 from by omega];exact h0
  ·rw[List.getElem?_append_right (by omega),show i * 4+1 - xs.length=(i - l.length) * 4+1 from by omega];exact h1
  ·rw[List.getElem?_append_right (by omega),show i * 4+2 - xs.length=(i - l.length) * 4+2 from by omega];exact h2
  ·rw[List.getElem?_append_right (by omega),show i * 4+3 - xs.length=(i - l.length) * 4+3 from by omega];exact h3
theorem exs_of_own {w:World} {base:Nat} {e:TypeId} {v:Value} {l:List Ex} {xs:List Value} (h:w.ownsRow base e 4 v l.length xs) (hr:ExRow w l xs) (hn:l.length≤1073741824):∃ a cap,v=.slice a l.length cap∧ExsIn w l a cap:=by
 obtain⟨a,cap,hv,hs⟩:=slice_of_own h hn
 refine⟨a,cap,hv,hs.mono fun i b o hi hq=>?_⟩
 obtain⟨a',cap',h0,h1,h2,h3,h4⟩:=hr.2 i hi
 refine⟨l[i],List.getElem?_eq_getElem hi,?_⟩
 rw[ExAt_iff]
 exact⟨a',cap',(hq 0 (by omega)).trans h0,(hq 1 (by omega)).trans h1,(hq 2 (by omega)).trans h2,(hq 3 (by omega)).trans h3,h4⟩
theorem elemE:Elem Tryz.prog 70 72 4:=Elem.of Tryz.underlying70 (by kernel_rfl) (z:=.agg #[.int .i64 0,.int .i64 0,.string .empty,.slice none 0 0]) (bytes:=56) rfl (by decide) (by decide)
theorem ExRow.one {w:World} {e:Ex} {a:Option Addr} {cap:Nat} (h:ExIn w e a cap):ExRow w [e] [.int .i64 e.op,.int .i64 e.n,.string e.name,.slice a e.args.length cap]:=by
 refine⟨rfl,fun i hi=>?_⟩
 have hi0:i=0:=by simpa using hi
 subst hi0
 exact⟨a,cap,rfl,rfl,rfl,rfl,h⟩
theorem exprs_len (d:DesD):d.exprs.length=d.wires.length+d.regs.length:=by simp[DesD.exprs]
theorem exprs_w (d:DesD) (k:Nat) (h:k < d.wires.length):d.exprs.take (k+1)=d.exprs.take k++[(d.wires[k]'h).expr]:=by
 refine take_at ?_
 unfold DesD.exprs
 rw[List.getElem?_append_left (by simpa using h)]
 simp[h]
theorem exprs_r (d:DesD) (k:Nat) (h:k < d.regs.length):d.exprs.take (d.wires.length+(k+1))=d.exprs.take (d.wires.length+k)++[(d.regs[k]'h).next]:=by
 refine take_at ?_
 unfold DesD.exprs
 rw[List.getElem?_append_right (by simp)]
 simp[h]
def ExsRel (w:World) (B:Nat) (l:List Ex) (n:Nat) (v:Value) (wr:World):Prop:=∃ xs,wr.ownsRow B 72 4 v n xs∧ExRow w l xs
set_option maxRecDepth 100000 in
set_option maxHeartbeats 8000000 in
theorem Exprs_any (d:DesD) (x:DesA) (w:World) (hE:DesIn w d x) (hl:d.exprs.length≤1073741824) :
  Calls Tryz.prog 80 #[desVal d x] w fun e w'=>(∃ a cap,e=.returned (.slice a d.exprs.length cap)∧ExsIn w' d.exprs a cap)∧Below w.heap.size w w':=by
 have HW:=Lib.hid hE.wires
 have HWA:=Lib.hid hE.wires.addr
 have HR:=Lib.hid hE.regs
 have HRA:=Lib.hid hE.regs.addr
 have HNl:=Lib.hid (exprs_len d)
 have hll:d.wires.length+d.regs.length≤1073741824:=by have:=HNl.out;omega
 have HS1:=Lib.hid (exprs_w d)
 have HS2:=Lib.hid (exprs_r d)
 have HS3:Hid (d.exprs.take (d.wires.length+d.regs.length)=d.exprs):=List.take_of_length_le (by rw[HNl.out];omega)
 have HL1:Hid (∀ k,k≤d.wires.length+d.regs.length→(d.exprs.take k).length=k):=fun k hk=>by rw[List.length_take,HNl.out];omega
 generalize d.exprs=EX at HNl HS1 HS2 HS3 HL1⊢
 clear hE hl
 obtain⟨nm,ins,wires,regs,outs⟩:=d
 obtain⟨ai,ci,aw,cw,ar,cr,ao,co⟩:=x
 simp only at HW HWA HR HRA HNl hll HS1 HS2 HS3 HL1
 show Calls _ _ #[.agg #[.string nm,.slice ai ins.length ci,.slice aw wires.length cw,.slice ar regs.length cr,.slice ao outs.length co]] _ _
 go_enter Tryz.func80, Tryz.ntmps80
 go_wp2_with fail
 go_loopw [4,3] (fun i v wr=>∃ k:Nat,i=.int .i64 k∧k≤wires.length∧Hid (ExsRel w (w.heap.size+1) (EX.take (k)) (k) v wr)∧Hid (Below (w.heap.size+1) (w.alloc (.cells #[.string nm,.slice ai ins.length ci,.slice aw wires.length cw,.slice ar regs.length cr,.slice ao outs.length co] 27)) wr)) (fun i _ _=>wires.length - (intOf i).toNat)
 case atStart=>exact⟨0,rfl,Nat.zero_le _,⟨[],World.ownsRow_nil _ _ _ _,by simpa using ExRow.nil _⟩,Below.refl _ _⟩
 case round =>
  obtain⟨k,rfl,hk,HX,HB⟩:=hrel
  have HBw:=Lib.hid (boxW _ HB.out)
  have hzr:=HB.out.size
  simp only[World.size_alloc] at hzr
  ((try clear b0 b1 b2 b3 b4);have b0:=box_cell HB.out 0;have b1:=box_cell HB.out 1;have b2:=box_cell HB.out 2;have b3:=box_cell HB.out 3;have b4:=box_cell HB.out 4;(try simp at b0 b1 b2 b3 b4))
  by_cases hlt:k < wires.length
  ·obtain⟨b,off,ha⟩:=HWA.out.resolve_left (by omega)
   subst ha
   obtain⟨ae,ce,_,_,c2,c3,c4,c5,hX⟩:=HW.out.get rfl hlt
   have kk:=keeps_of_below HBw.out
   have d2:=kk _ _ c2
   have d3:=kk _ _ c3
   have d4:=kk _ _ c4
   have d5:=kk _ _ c5
   obtain⟨xs,hown,hrow⟩:=HX.out
   have HS:=Lib.hid (HS1.out k hlt)
   have HXe:=Lib.hid hX
   clear kk c2 c3 c4 c5
   generalize (wires[k]'hlt).expr=e at d2 d3 d4 d5 HS HXe
   have hkn:k≤1073741824:=by omega
   obtain⟨va,vc,hv,_⟩:=slice_of_own hown hkn
   subst hv
   have HO:=Lib.hid hown
   have HRw:=Lib.hid hrow
   clear hX hown hrow HX
   go_wp2_with (at_builtin;go_must (refine own_app elemE _ rfl (.tmp 13) (.tmp 20) rfl (w.heap.size+1) (.slice va (k) vc) (k) xs rfl HO.out [.int .i64 e.op,.int .i64 e.n,.string e.name,.slice ae e.args.length ce] rfl (by simp[Value.oneCell']) _ 1 rfl (by first | rfl | simp) hkn sz ?_))
   intro v' w1 ho hg
   have HO1:=Lib.hid ho
   have HB1:Hid (Below (w.heap.size+1) (w.alloc (.cells #[.string nm,.slice ai ins.length ci,.slice (some ⟨b,off,none⟩) wires.length cw,.slice ar regs.length cr,.slice ao outs.length co] 27)) w1):=Below.grown (by repeat (first | exact HB.out | refine Below.alloc ?_ sz _)) hg sz (fun j hj=>(HO.out.lt j hj).1)
   clear ho hg d2 d3 d4 d5 b0 b1 b2 b3 b4
   go_wp2_with fail
   go_roundw
   case rel=>exact⟨k+1,by go_num,by omega,⟨_,HO1.out,by rw[HS.out];exact HRw.out.append (ExRow.one HXe.out)⟩,HB1⟩
   case measure=>(simp[intOf];try omega)
  ·obtain rfl:k=wires.length:=by omega
   go_wp2_with fail
   go_loopw [5,3] (fun i v wr=>∃ k:Nat,i=.int .i64 k∧k≤regs.length∧Hid (ExsRel w (w.heap.size+1) (EX.take (wires.length+k)) (wires.length+k) v wr)∧Hid (Below (w.heap.size+1) (w.alloc (.cells #[.string nm,.slice ai ins.length ci,.slice aw wires.length cw,.slice ar regs.length cr,.slice ao outs.length co] 27)) wr)) (fun i _ _=>regs.length - (intOf i).toNat)
   case atStart=>exact⟨0,rfl,Nat.zero_le _,HX,HB⟩
   case round =>
    obtain⟨k,rfl,hk,HX,HB⟩:=hrel
    have HBw:=Lib.hid (boxW _ HB.out)
    have hzr:=HB.out.size
    simp only[World.size_alloc] at hzr
    ((try clear b0 b1 b2 b3 b4);have b0:=box_cell HB.out 0;have b1:=box_cell HB.out 1;have b2:=box_cell HB.out 2;have b3:=box_cell HB.out 3;have b4:=box_cell HB.out 4;(try simp at b0 b1 b2 b3 b4))
    by_cases hlt:k < regs.length
    ·obtain⟨b,off,ha⟩:=HRA.out.resolve_left (by omega)
     subst ha
     obtain⟨ae,ce,_,_,_,c2,c3,c4,c5,hX⟩:=HR.out.get rfl hlt
     have kk:=keeps_of_below HBw.out
     have d2:=kk _ _ c2
     have d3:=kk _ _ c3
     have d4:=kk _ _ c4
     have d5:=kk _ _ c5
     obtain⟨xs,hown,hrow⟩:=HX.out
     have HS:=Lib.hid (HS2.out k hlt)
     have HXe:=Lib.hid hX
     clear kk c2 c3 c4 c5
     generalize (regs[k]'hlt).next=e at d2 d3 d4 d5 HS HXe
     have hkn:wires.length+k≤1073741824:=by omega
     obtain⟨va,vc,hv,_⟩:=slice_of_own hown hkn
     subst hv
     have HO:=Lib.hid hown
     have HRw:=Lib.hid hrow
     clear hX hown hrow HX
     go_wp2_with (at_builtin;go_must (refine own_app elemE _ rfl (.tmp 29) (.tmp 36) rfl (w.heap.size+1) (.slice va (wires.length+k) vc) (wires.length+k) xs rfl HO.out [.int .i64 e.op,.int .i64 e.n,.string e.name,.slice ae e.args.length ce] rfl (by simp[Value.oneCell']) _ 1 rfl (by first | rfl | simp) hkn sz ?_))
     intro v' w1 ho hg
     have HO1:=Lib.hid ho
     have HB1:Hid (Below (w.heap.size+1) (w.alloc (.cells #[.string nm,.slice ai ins.length ci,.slice aw wires.length cw,.slice (some ⟨b,off,none⟩) regs.length cr,.slice ao outs.length co] 27)) w1):=Below.grown (by repeat (first | exact HB.out | refine Below.alloc ?_ sz _)) hg sz (fun j hj=>(HO.out.lt j hj).1)
     clear ho hg d2 d3 d4 d5 b0 b1 b2 b3 b4
     go_wp2_with fail
     go_roundw
     case rel=>exact⟨k+1,by go_num,by omega,⟨_,HO1.out,by rw[HS.out];exact HRw.out.append (ExRow.one HXe.out)⟩,HB1⟩
     case measure=>(simp[intOf];try omega)
    ·obtain rfl:k=regs.length:=by omega
     go_wp2_with fail
     go_ret
     obtain⟨xs,hown,hrow⟩:=HX.out
     rw[HS3.out] at hrow
     rw[← HNl.out] at hown
     obtain⟨a',cap',rfl,hs⟩:=exs_of_own hown (hrow.keep (keeps_of_below HBw.out)) (by rw[HNl.out];exact hll)
     exact⟨⟨a',cap',rfl,hs⟩,HBw.out⟩
end Go.Proofs.YtebneadheaefdaaGreatDoor
namespace Go.Proofs.YtebneadheaefdaaGreatDoor
open Go.RowKit
attribute [local go_sem ↓] Go.wp_at_zero Go.wp_at_succ
theorem expErr_at {d:DesD} {k:Nat} (hk:k < d.exprs.length) (h0:∀ j (hj:j < d.exprs.length),j < k→exprErr d.names (d.exprs[j]'hj)=0) (h1:¬ exprErr d.names (d.exprs[k]'hk)=0):d.expErr=exprErr d.names (d.exprs[k]'hk):=by
 unfold DesD.expErr
 rw[firstErr_at (k:=k) (by simpa using hk)]
 ·simp
 ·intro j hj;simpa using h0 j (by omega) hj
 ·simpa using h1
theorem expErr_ok {d:DesD} (h0:∀ j (hj:j < d.exprs.length),exprErr d.names (d.exprs[j]'hj)=0):d.expErr=0:=by
 unfold DesD.expErr
 rw[firstErr_zero]
 intro e he
 obtain⟨x,hx,rfl⟩:=List.mem_map.1 he
 obtain⟨j,hj,rfl⟩:=List.getElem_of_mem hx
 exact h0 j hj
set_option maxRecDepth 100000 in
set_option maxHeartbeats 16000000 in
theorem written_any (d:DesD) (x:DesA) (w:World) (hE:DesIn w d x) (hs:DesSmall d) :
  Calls Tryz.prog 103 #[desVal d x] w fun e w'=>e=.returned (.int .i64 d.expErr)∧Below w.heap.size w w':=by
 have hN:d.names.length≤1073741824:=by have:=hs.len;simp[DesD.names];omega
 have hX:d.exprs.length≤1073741824:=by have:=hs.len;simp[DesD.exprs];omega
 have HN0:=Lib.hid (fun W (hW:Below w.heap.size w W)=>rNames31_any d x W (hE.below hW) hN)
 have HX0:=Lib.hid (fun W (hW:Below w.heap.size w W)=>Exprs_any d x W (hE.below hW) hX)
 have HE1:Hid (∀ k (hk:k < d.exprs.length),(∀ j (hj:j < d.exprs.length),j < k→exprErr d.names (d.exprs[j]'hj)=0)→¬ exprErr d.names (d.exprs[k]'hk)=0→d.expErr=exprErr d.names (d.exprs[k]'hk)):=fun k hk h0 h1=>expErr_at hk h0 h1
 have HE0:Hid ((∀ j (hj:j < d.exprs.length),exprErr d.names (d.exprs[j]'hj)=0)→d.expErr=0):=expErr_ok
 have HSm:Hid (∀ e∈d.exprs,e.nodes.length≤1048576):=hs.exprs
 generalize d.expErr=err at HE1 HE0⊢
 generalize d.exprs=EX at HX0 HE1 HE0 HSm hX
 generalize d.names=N at HN0 HE1 HE0
 clear hE hs hN
 obtain⟨nm,ins,wires,regs,outs⟩:=d
 obtain⟨ai,ci,aw,cw,ar,cr,ao,co⟩:=x
 simp only[desVal,desVals] at HN0 HX0⊢
 have HN1:=Lib.hid (HN0.out (w.alloc (.cells #[.string nm,.slice ai ins.length ci,.slice aw wires.length cw,.slice ar regs.length cr,.slice ao outs.length co] 27)) ((Below.refl _ _).alloc (Nat.le_refl _) _))
 clear HN0
 go_enter Tryz.func103, Tryz.ntmps103
 go_wp2_with fail
 refine HN1.out.mono ?_
 rintro e w1 ⟨⟨aN,cN,rfl,hst⟩,hb1⟩
 simp only[World.size_alloc] at hb1
 have HB:=Lib.hid hb1
 have HSt:=Lib.hid hst
 have HX1:=Lib.hid (HX0.out w1 (boxW _ hb1))
 clear hb1 hst HN1 HX0
 ((try clear b0 b1 b2 b3 b4);have b0:=box_cell HB.out 0;have b1:=box_cell HB.out 1;have b2:=box_cell HB.out 2;have b3:=box_cell HB.out 3;have b4:=box_cell HB.out 4;(try simp at b0 b1 b2 b3 b4))
 go_wp2_with fail
 refine HX1.out.mono ?_
 rintro e w2 ⟨⟨aX,cX,rfl,hxx⟩,hb2⟩
 have HBw2:=Lib.hid ((boxW _ HB.out).trans (hb2.mono (boxW _ HB.out).size))
 have HSt2:=Lib.hid (HSt.out.keep (keeps_of_below hb2))
 have HXX:=Lib.hid hxx
 have HXA:=Lib.hid hxx.addr
 clear hb2 hxx HX1 b0 b1 b2 b3 b4
 go_wp2_with fail
 go_loopw [5,6,7,8] (fun i _ _ _ wr=>∃ k:Nat,i=.int .i64 k∧k≤EX.length∧Hid (∀ j (hj:j < EX.length),j < k→exprErr N (EX[j]'hj)=0)∧Hid (Below w2.heap.size w2 wr)) (fun i _ _ _ _=>EX.length - (intOf i).toNat)
 case atStart=>exact⟨0,rfl,Nat.zero_le _,fun _ _ h=>absurd h (by omega),Below.refl _ _⟩
 case round =>
  obtain⟨k,rfl,hk,HF,HBr⟩:=hrel
  have HBwr:=Lib.hid (HBw2.out.trans (HBr.out.mono HBw2.out.size))
  by_cases hlt:k < EX.length
  ·obtain⟨b,off,ha⟩:=HXA.out.resolve_left (by omega)
   subst ha
   obtain⟨ae,ce,g0,g1,g2,g3,hE⟩:=HXX.out.get rfl hlt
   have hnn:=HSm.out _ (List.getElem_mem hlt)
   have HNx:Hid (exprErr N (EX[k]'hlt)=0→∀ j (hj:j < EX.length),j < k+1→exprErr N (EX[j]'hj)=0):=fun h j hj hjk=>by
    by_cases e:j=k
    ·subst e;exact h
    ·exact HF.out j hj (by omega)
   have HNo:=Lib.hid (HE1.out k hlt HF.out)
   generalize (EX[k]'hlt)=e at g0 g1 g2 g3 hE hnn HNx HNo
   obtain⟨op,n,s,args⟩:=e
   simp only[Ex.op_mk,Ex.n_mk,Ex.name_mk,Ex.args_mk] at g0 g1 g2 g3
   have HG:=Lib.hid (⟨g0,g1,g2,g3⟩:_∧_∧_∧_)
   have HEv:Hid (¬ validS (.mk op n s args)=0→exprErr N (.mk op n s args)=validS (.mk op n s args)):=exprErr_valid
   have HE9:Hid (validS (.mk op n s args)=0→0 < (namesS [3,24] (.mk op n s args)).length→exprErr N (.mk op n s args)=9):=exprErr_arr
   have HEn:Hid (validS (.mk op n s args)=0→(namesS [3,24] (.mk op n s args)).length=0→exprErr N (.mk op n s args)=if ((namesS [2] (.mk op n s args)).all fun s=>(idxT N s).isSome)=true then 0 else 7):=exprErr_names
   have HVa:=Lib.hid (fun W (hW:Below w2.heap.size w2 W)=>rValid_any op n s args ae ce W (hE.keep (keeps_of_below hW)) (by omega))
   have HAr:=Lib.hid (fun W (hW:Below w2.heap.size w2 W)=>rArrays_any op n s args ae ce W (hE.keep (keeps_of_below hW)) (by omega))
   have HNa:=Lib.hid (fun W (hW:Below w2.heap.size w2 W)=>rNames_any op n s args ae ce W (hE.keep (keeps_of_below hW)) (by omega))
   generalize exprErr N (Ex.mk op n s args)=ee at HNx HNo HEv HE9 HEn
   generalize validS (.mk op n s args)=vv at HVa HEv HE9 HEn
   generalize namesS [3,24] (Ex.mk op n s args)=A3 at HAr HE9 HEn
   generalize namesS [2] (Ex.mk op n s args)=N2 at HNa HEn
   clear g0 g1 g2 g3 hE
   have HV1:=Lib.hid (HVa.out wr HBr.out)
   have c0:=(keeps_of_below HBr.out) _ _ HG.out.1
   have c1:=(keeps_of_below HBr.out) _ _ HG.out.2.1
   have c2:=(keeps_of_below HBr.out) _ _ HG.out.2.2.1
   have c3:=(keeps_of_below HBr.out) _ _ HG.out.2.2.2
   go_wp2_with fail
   refine HV1.out.mono ?_
   rintro e w3 ⟨rfl,hb3⟩
   have HB3:=Lib.hid (HBr.out.trans (hb3.mono HBr.out.size))
   have HBw3:=Lib.hid (HBw2.out.trans (HB3.out.mono HBw2.out.size))
   clear hb3 HV1 HVa c0 c1 c2 c3
   by_cases hv:vv=0
   ·subst hv
    have HE9b:=Lib.hid (HE9.out rfl)
    have HEnb:=Lib.hid (HEn.out rfl)
    have HA1:=Lib.hid (HAr.out w3 HB3.out)
    have c0:=(keeps_of_below HB3.out) _ _ HG.out.1
    have c1:=(keeps_of_below HB3.out) _ _ HG.out.2.1
    have c2:=(keeps_of_below HB3.out) _ _ HG.out.2.2.1
    have c3:=(keeps_of_below HB3.out) _ _ HG.out.2.2.2
    clear HE9 HEn HEv HAr
    go_wp2_with fail
    refine HA1.out.mono ?_
    rintro r w4 ⟨⟨aa,ca,rfl,hst⟩,hb4⟩
    have HB4:=Lib.hid (HB3.out.trans (hb4.mono HB3.out.size))
    have HBw4:=Lib.hid (HBw2.out.trans (HB4.out.mono HBw2.out.size))
    have hl3:=hst.2.1
    clear hst hb4 HA1 c0 c1 c2 c3
    by_cases hA:A3.length=0
    ·obtain rfl:A3=[]:=List.eq_nil_of_length_eq_zero hA
     have HEnc:=Lib.hid (HEnb.out rfl)
     have HN1:=Lib.hid (HNa.out w4 HB4.out)
     have c0:=(keeps_of_below HB4.out) _ _ HG.out.1
     have c1:=(keeps_of_below HB4.out) _ _ HG.out.2.1
     have c2:=(keeps_of_below HB4.out) _ _ HG.out.2.2.1
     have c3:=(keeps_of_below HB4.out) _ _ HG.out.2.2.2
     clear HNa hA hl3 HE9b HEnb
     go_wp2_with fail
     refine HN1.out.mono ?_
     rintro r w5 ⟨⟨an,cn,rfl,hst⟩,hb5⟩
     have HB5:=Lib.hid (HB4.out.trans (hb5.mono HB4.out.size))
     have HBw5:=Lib.hid (HBw2.out.trans (HB5.out.mono HBw2.out.size))
     have hln:=hst.2.1
     have HAn:=Lib.hid hst.addr
     have HSn:=Lib.hid hst
     have HSt5:=Lib.hid (HSt2.out.keep (keeps_of_below HB5.out))
     clear hst hb5 HN1 c0 c1 c2 c3
     go_wp2_with fail
     go_loop [8] (fun i=>∃ j:Nat,i=.int .i64 j∧j≤N2.length∧Hid (∀ q (hq:q < N2.length),q < j→(idxT N (N2[q]'hq)).isSome=true)) (fun i=>N2.length - (intOf i).toNat)
     case atStart=>exact⟨0,rfl,Nat.zero_le _,fun _ _ h=>absurd h (by omega)⟩
     case round =>
      obtain⟨j,rfl,hj,HFj⟩:=hrel
      by_cases hlj:j < N2.length
      ·obtain⟨bn,on,han⟩:=HAn.out.resolve_left (by omega)
       subst han
       have c0:=HSn.out.get rfl hlj
       have HNxj:Hid ((idxT N (N2[j]'hlj)).isSome=true→∀ q (hq:q < N2.length),q < j+1→(idxT N (N2[q]'hq)).isSome=true):=fun h q hq hqj=>by
        by_cases e:q=j
        ·subst e;exact h
        ·exact HFj.out q hq (by omega)
       have HNoj:Hid ((idxT N (N2[j]'hlj)).isSome=false→err=7):=fun h=>by
        have h7:ee=7:=by rw[HEnc.out,if_neg];rw[all_not hlj h];simp
        rw[HNo.out (by omega),h7]
       have HC:=Lib.hid (index_any N aN cN (N2[j]'hlj) w5 HSt5.out)
       have hneg:idxI N (N2[j]'hlj) < 0↔(idxT N (N2[j]'hlj)).isSome=false:=idxI_neg
       generalize (idxT N (N2[j]'hlj)).isSome=ib at HNxj HNoj hneg
       generalize idxI N (N2[j]'hlj)=ii at HC hneg
       generalize (N2[j]'hlj)=s at c0 HC
       cases ib
       ·have hi:ii < 0:=hneg.2 rfl
        have HR:=Lib.hid (HNoj.out rfl)
        clear hneg HNxj HNoj
        go_wp2_with fail
        refine HC.out.mono ?_
        rintro r w' ⟨rfl,rfl⟩
        go_wp2_with fail
        go_ret
        exact⟨by rw[HR.out];rfl,HBw5.out⟩
       ·have hi:¬ ii < 0:=fun h=>by have:=hneg.1 h;simp at this
        have HNxk:=Lib.hid (HNxj.out rfl)
        clear hneg HNxj HNoj
        go_wp2_with fail
        refine HC.out.mono ?_
        rintro r w' ⟨rfl,rfl⟩
        go_wp2_with fail
        go_round
        case rel=>exact⟨j+1,by go_num,by omega,HNxk⟩
        case measure=>(simp[intOf];try omega)
      ·obtain rfl:j=N2.length:=by omega
       have hee:ee=0:=by rw[HEnc.out,if_pos (all_yes (P:=fun s=>(idxT N s).isSome) (fun q hq=>HFj.out q hq hq))]
       have HNx2:=Lib.hid (HNx.out hee)
       clear hee
       go_wp2_with fail
       go_roundw
       case rel=>exact⟨k+1,by go_num,by omega,HNx2,HB5⟩
       case measure=>(simp[intOf];try omega)
    ·have hA1:0 < A3.length:=by omega
     have h9:=HE9b.out hA1
     have HR:Hid (err=9):=by show _=_;rw[HNo.out (by omega),h9]
     clear hA h9 HEnb HNa HE9b
     go_wp2_with fail
     go_ret
     exact⟨by rw[HR.out];rfl,HBw4.out⟩
   ·have hev:=HEv.out hv
    have HR:Hid (err=vv):=by show _=_;rw[HNo.out (by omega),hev]
    have hne:(vv != (0:Int))=true:=by simpa using hv
    clear hv hev HE9 HEn HAr HNa
    go_wp2_with fail
    go_ret
    exact⟨by rw[HR.out];rfl,HBw3.out⟩
  ·obtain rfl:k=EX.length:=by omega
   have HR:=Lib.hid (HE0.out (fun j hj=>HF.out j hj hj))
   go_wp2_with fail
   go_ret
   exact⟨by rw[HR.out];rfl,HBwr.out⟩
end Go.Proofs.YtebneadheaefdaaGreatDoor
namespace Go.Proofs.YtebneadheaefdaaGreatDoor
open Go.RowKit
def FRow (w:World) (b:Nat) (t:TypeId) (n:Nat) (f:Nat→Value):Prop:=w.heap[b]? = some (.cells ((List.range n).map f).toArray t (0,0))
theorem FRow.cell {w:World} {b:Nat} {t:TypeId} {n:Nat} {f:Nat→Value} (h:FRow w b t n f) {i:Nat} (hi:i < n):w.cell? ⟨b,i,none⟩=some (f i):=by
 unfold FRow at h
 simp[World.cell?,h,hi]
theorem FRow.free {w:World} {b:Nat} {t:TypeId} {n:Nat} {f:Nat→Value} (h:FRow w b t n f) (i:Nat):w.frozen? ⟨b,i,none⟩=false:=by
 unfold FRow at h
 simp[World.frozen?,h]
theorem FRow.lt {w:World} {b:Nat} {t:TypeId} {n:Nat} {f:Nat→Value} (h:FRow w b t n f):b < w.heap.size:=lt_of_block h
theorem FRow.set {w:World} {b:Nat} {t:TypeId} {n:Nat} {f:Nat→Value} (h:FRow w b t n f) {i:Nat} (hi:i < n) (u:Value):FRow (w.setCell ⟨b,i,none⟩ u) b t n (fun j=>if j=i then u else f j):=by
 unfold FRow at h⊢
 have hlt:=lt_of_block h
 have:=heap_setCell_same w b i _ t u h
 rw[this]
 congr 2
 apply Array.ext'
 apply List.ext_getElem?
 intro j
 simp only[Array.toList_setIfInBounds,List.getElem?_set,List.toList_toArray,List.length_map,List.length_range]
 by_cases e:i=j
 ·subst e;simp[hi]
 ·have e':¬ j=i:=fun h=>e h.symm
  simp only[e,if_false,List.getElem?_map]
  cases hr:(List.range n)[j]? with
  | none=>rfl
  | some q =>
   have:q=j:=by
    rw[List.getElem?_eq_some_iff] at hr
    obtain⟨_,h⟩:=hr
    simpa using h.symm
   subst this
   simp[e']
theorem FRow.congr {w:World} {b:Nat} {t:TypeId} {n:Nat} {f g:Nat→Value} (h:FRow w b t n f) (hfg:∀ i,i < n→f i=g i):FRow w b t n g:=by
 unfold FRow at h⊢
 rw[h]
 congr 3
 apply List.map_congr_left
 intro i hi
 exact hfg i (by simpa using hi)
theorem FRow.keep {w w':World} {b:Nat} {t:TypeId} {n:Nat} {f:Nat→Value} (h:FRow w b t n f) (hb:Below w.heap.size w w'):FRow w' b t n f:=by
 unfold FRow at h⊢
 rw[hb.block _ (lt_of_block h)];exact h
theorem frow_new (w:World) (t:TypeId) (n:Nat) (z:Value):FRow (w.alloc (.cells (List.replicate n z).toArray t)) w.heap.size t n (fun _=>z):=by
 unfold FRow
 have:(List.range n).map (fun _=>z)=List.replicate n z:=by
  rw[List.map_const',List.length_range]
 rw[this]
 exact heap_alloc_new' _ _
theorem mk_row {P:Program} {t e:TypeId} {z:Value} {bytes:Nat} (ht:P.underlying t=some (.slice e)) (hi:(P.info? e).map (fun i=>(i.zero,i.size,i.bytes))=some (some z,1,bytes)) (hz:z.cells=#[z]) (hb:bytes≤64) (n:Nat) (h:n≤1073741824) (w:World) :
  (Instr.makeSlice t (.int .i64 n) (.int .i64 n)).run P w=.ok (.slice (some ⟨w.heap.size,0,none⟩) n n) (w.alloc (.cells (List.replicate n z).toArray e)):=by
 obtain⟨i,h1,h2,h3,h4⟩:=info_parts hi
 have hbb:(i.bytes:Int) * (n:Int)≤281474976710656:=by
  have h5:i.bytes * n≤64 * 1073741824:=Nat.mul_le_mul (by omega) h
  have h6:((i.bytes * n:Nat):Int)≤((64 * 1073741824:Nat):Int):=Int.ofNat_le.2 h5
  rw[Int.natCast_mul] at h6
  omega
 have:=run_make (P:=P) w t e i z ht h1 h2 .i64 .i64 n n (by omega) (by omega) hbb (by omega)
 rw[this,h3,hz,Int.toNat_natCast,Nat.mul_one,← toList_madeCells_one]
theorem mk_bools (n:Nat) (h:n≤1073741824) (w:World):(Instr.makeSlice 186 (.int .i64 n) (.int .i64 n)).run Tryz.prog w=.ok (.slice (some ⟨w.heap.size,0,none⟩) n n) (w.alloc (.cells (List.replicate n (Value.bool false)).toArray 4)) :=
 mk_row (bytes:=1) Tryz.underlying186 (by kernel_rfl) rfl (by decide) n h w
end Go.Proofs.YtebneadheaefdaaGreatDoor
