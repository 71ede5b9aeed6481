/- Rows of expressions; ref31: Exprs. -/
import Derived.Test.YtebneadheaefdaaGreatDoorDJ
import Derived.Test.YtebneadheaefdaaGreatDoorDC
import Derived.Laws.OwnMore
import Derived.Laws.Rows
import Derived.OneCell
set_option linter.unusedSimpArgs false
set_option linter.unusedVariables false
set_option linter.unnecessarySimpa false
namespace Go.Proofs.YtebneadheaefdaaGreatDoor
open Go.RowKit
attribute [local go_sem ↓] Go.wp_at_zero Go.wp_at_succ
def ExRow (w:World) (l:List Ex) (xs:List Value):Prop:=xs.length=l.length * 4∧∀ i (h:i < l.length),∃ a cap,xs[i * 4]? = some (.int .i64 (l[i]'h).op)∧xs[i * 4+1]? = some (.int .i64 (l[i]'h).n)∧xs[i * 4+2]? = some (.string (l[i]'h).name)∧xs[i * 4+3]? = some (.slice a (l[i]'h).args.length cap)∧ExIn w (l[i]'h) a cap
theorem ExRow.nil (w:World):ExRow w [] []:=⟨rfl,fun i h=>by simp at h⟩
theorem ExRow.keep {w w':World} (hk:∀ a v,w.cell? a=some v→w'.cell? a=some v) {l:List Ex} {xs:List Value} (h:ExRow w l xs):ExRow w' l xs :=
 ⟨h.1,fun i hi=>by obtain⟨a,cap,h0,h1,h2,h3,h4⟩:=h.2 i hi;exact⟨a,cap,h0,h1,h2,h3,h4.keep hk⟩⟩
theorem ExRow.append {w:World} {l l':List Ex} {xs ys:List Value} (h:ExRow w l xs) (h':ExRow w l' ys):ExRow w (l++l') (xs++ys):=by
 refine⟨by rw[List.length_append,List.length_append,h.1,h'.1,Nat.add_mul],fun i hi=>?_⟩
 by_cases hl:i < l.length
 ·obtain⟨a,cap,h0,h1,h2,h3,h4⟩:=h.2 i hl
  have hx:=h.1
  rw[List.getElem_append_left hl]
  refine⟨a,cap,?_,?_,?_,?_,h4⟩
  ·rw[List.getElem?_append_left (by omega)];exact h0
  ·rw[List.getElem?_append_left (by omega)];exact h1
  ·rw[List.getElem?_append_left (by omega)];exact h2
  ·rw[List.getElem?_append_left (by omega)];exact h3
 ·have hi':i - l.length < l'.length:=by rw[List.length_append] at hi;omega
  obtain⟨a,cap,h0,h1,h2,h3,h4⟩:=h'.2 (i - l.length) hi'
  have hx:=h.1
  rw[List.getElem_append_right (by omega)]
  refine⟨a,cap,?_,?_,?_,?_,h4⟩
  ·rw[List.getElem?_append_right (by omega),show i * 4 - xs.length=(i - l.length) * 4 from by omega];exact h0
  ·rw[List.getElem?_append_right (by omega),show i * 4+1 - xs.length=(i - l.length) * 4+1 from by omega];exact h1
  ·rw[List.getElem?_append_right (by omega),show i * 4+2 - xs.length=(i - l.length) * 4+2 from by omega];exact h2
  ·rw[List.getElem?_append_right (by omega),show i * 4+3 - xs.length=(i - l.length) * 4+3 from by omega];exact h3
theorem exs_of_own {w:World} {base:Nat} {e:TypeId} {v:Value} {l:List Ex} {xs:List Value} (h:w.ownsRow base e 4 v l.length xs) (hr:ExRow w l xs) (hn:l.length≤1073741824):∃ a cap,v=.slice a l.length cap∧ExsIn w l a cap:=by
 obtain⟨a,cap,hv,hs⟩:=slice_of_own h hn
 refine⟨a,cap,hv,hs.mono fun i b o hi hq=>?_⟩
 obtain⟨a',cap',h0,h1,h2,h3,h4⟩:=hr.2 i hi
 refine⟨l[i],List.getElem?_eq_getElem hi,?_⟩
 rw[ExAt_iff]
 exact⟨a',cap',(hq 0 (by omega)).trans h0,(hq 1 (by omega)).trans h1,(hq 2 (by omega)).trans h2,(hq 3 (by omega)).trans h3,h4⟩
theorem elemE:Elem Tryz.prog 70 72 4:=Elem.of Tryz.underlying70 (by kernel_rfl) (z:=.agg #[.int .i64 0,.int .i64 0,.string .empty,.slice none 0 0]) (bytes:=56) rfl (by decide) (by decide)
theorem ExRow.one {w:World} {e:Ex} {a:Option Addr} {cap:Nat} (h:ExIn w e a cap):ExRow w [e] [.int .i64 e.op,.int .i64 e.n,.string e.name,.slice a e.args.length cap]:=by
 refine⟨rfl,fun i hi=>?_⟩
 have hi0:i=0:=by simpa using hi
 subst hi0
 exact⟨a,cap,rfl,rfl,rfl,rfl,h⟩
theorem exprs_len (d:DesD):d.exprs.length=d.wires.length+d.regs.length:=by simp[DesD.exprs]
theorem exprs_w (d:DesD) (k:Nat) (h:k < d.wires.length):d.exprs.take (k+1)=d.exprs.take k++[(d.wires[k]'h).expr]:=by
 refine take_at ?_
 unfold DesD.exprs
 rw[List.getElem?_append_left (by simpa using h)]
 simp[h]
theorem exprs_r (d:DesD) (k:Nat) (h:k < d.regs.length):d.exprs.take (d.wires.length+(k+1))=d.exprs.take (d.wires.length+k)++[(d.regs[k]'h).next]:=by
 refine take_at ?_
 unfold DesD.exprs
 rw[List.getElem?_append_right (by simp)]
 simp[h]
def ExsRel (w:World) (B:Nat) (l:List Ex) (n:Nat) (v:Value) (wr:World):Prop:=∃ xs,wr.ownsRow B 72 4 v n xs∧ExRow w l xs
set_option maxRecDepth 100000 in
set_option maxHeartbeats 8000000 in
theorem Exprs_any (d:DesD) (x:DesA) (w:World) (hE:DesIn w d x) (hl:d.exprs.length≤1073741824) :
  Calls Tryz.prog 80 #[desVal d x] w fun e w'=>(∃ a cap,e=.returned (.slice a d.exprs.length cap)∧ExsIn w' d.exprs a cap)∧Below w.heap.size w w':=by
 have HW:=Lib.hid hE.wires
 have HWA:=Lib.hid hE.wires.addr
 have HR:=Lib.hid hE.regs
 have HRA:=Lib.hid hE.regs.addr
 have HNl:=Lib.hid (exprs_len d)
 have hll:d.wires.length+d.regs.length≤1073741824:=by have:=HNl.out;omega
 have HS1:=Lib.hid (exprs_w d)
 have HS2:=Lib.hid (exprs_r d)
 have HS3:Hid (d.exprs.take (d.wires.length+d.regs.length)=d.exprs):=List.take_of_length_le (by rw[HNl.out];omega)
 have HL1:Hid (∀ k,k≤d.wires.length+d.regs.length→(d.exprs.take k).length=k):=fun k hk=>by rw[List.length_take,HNl.out];omega
 generalize d.exprs=EX at HNl HS1 HS2 HS3 HL1⊢
 clear hE hl
 obtain⟨nm,ins,wires,regs,outs⟩:=d
 obtain⟨ai,ci,aw,cw,ar,cr,ao,co⟩:=x
 simp only at HW HWA HR HRA HNl hll HS1 HS2 HS3 HL1
 show Calls _ _ #[.agg #[.string nm,.slice ai ins.length ci,.slice aw wires.length cw,.slice ar regs.length cr,.slice ao outs.length co]] _ _
 go_enter Tryz.func80, Tryz.ntmps80
 go_wp2_with fail
 go_loopw [4,3] (fun i v wr=>∃ k:Nat,i=.int .i64 k∧k≤wires.length∧Hid (ExsRel w (w.heap.size+1) (EX.take (k)) (k) v wr)∧Hid (Below (w.heap.size+1) (w.alloc (.cells #[.string nm,.slice ai ins.length ci,.slice aw wires.length cw,.slice ar regs.length cr,.slice ao outs.length co] 27)) wr)) (fun i _ _=>wires.length - (intOf i).toNat)
 case atStart=>exact⟨0,rfl,Nat.zero_le _,⟨[],World.ownsRow_nil _ _ _ _,by simpa using ExRow.nil _⟩,Below.refl _ _⟩
 case round =>
  obtain⟨k,rfl,hk,HX,HB⟩:=hrel
  have HBw:=Lib.hid (boxW _ HB.out)
  have hzr:=HB.out.size
  simp only[World.size_alloc] at hzr
  ((try clear b0 b1 b2 b3 b4);have b0:=box_cell HB.out 0;have b1:=box_cell HB.out 1;have b2:=box_cell HB.out 2;have b3:=box_cell HB.out 3;have b4:=box_cell HB.out 4;(try simp at b0 b1 b2 b3 b4))
  by_cases hlt:k < wires.length
  ·obtain⟨b,off,ha⟩:=HWA.out.resolve_left (by omega)
   subst ha
   obtain⟨ae,ce,_,_,c2,c3,c4,c5,hX⟩:=HW.out.get rfl hlt
   have kk:=keeps_of_below HBw.out
   have d2:=kk _ _ c2
   have d3:=kk _ _ c3
   have d4:=kk _ _ c4
   have d5:=kk _ _ c5
   obtain⟨xs,hown,hrow⟩:=HX.out
   have HS:=Lib.hid (HS1.out k hlt)
   have HXe:=Lib.hid hX
   clear kk c2 c3 c4 c5
   generalize (wires[k]'hlt).expr=e at d2 d3 d4 d5 HS HXe
   have hkn:k≤1073741824:=by omega
   obtain⟨va,vc,hv,_⟩:=slice_of_own hown hkn
   subst hv
   have HO:=Lib.hid hown
   have HRw:=Lib.hid hrow
   clear hX hown hrow HX
   go_wp2_with (at_builtin;go_must (refine own_app elemE _ rfl (.tmp 13) (.tmp 20) rfl (w.heap.size+1) (.slice va (k) vc) (k) xs rfl HO.out [.int .i64 e.op,.int .i64 e.n,.string e.name,.slice ae e.args.length ce] rfl (by simp[Value.oneCell']) _ 1 rfl (by first | rfl | simp) hkn sz ?_))
   intro v' w1 ho hg
   have HO1:=Lib.hid ho
   have HB1:Hid (Below (w.heap.size+1) (w.alloc (.cells #[.string nm,.slice ai ins.length ci,.slice (some ⟨b,off,none⟩) wires.length cw,.slice ar regs.length cr,.slice ao outs.length co] 27)) w1):=Below.grown (by repeat (first | exact HB.out | refine Below.alloc ?_ sz _)) hg sz (fun j hj=>(HO.out.lt j hj).1)
   clear ho hg d2 d3 d4 d5 b0 b1 b2 b3 b4
   go_wp2_with fail
   go_roundw
   case rel=>exact⟨k+1,by go_num,by omega,⟨_,HO1.out,by rw[HS.out];exact HRw.out.append (ExRow.one HXe.out)⟩,HB1⟩
   case measure=>(simp[intOf];try omega)
  ·obtain rfl:k=wires.length:=by omega
   go_wp2_with fail
   go_loopw [5,3] (fun i v wr=>∃ k:Nat,i=.int .i64 k∧k≤regs.length∧Hid (ExsRel w (w.heap.size+1) (EX.take (wires.length+k)) (wires.length+k) v wr)∧Hid (Below (w.heap.size+1) (w.alloc (.cells #[.string nm,.slice ai ins.length ci,.slice aw wires.length cw,.slice ar regs.length cr,.slice ao outs.length co] 27)) wr)) (fun i _ _=>regs.length - (intOf i).toNat)
   case atStart=>exact⟨0,rfl,Nat.zero_le _,HX,HB⟩
   case round =>
    obtain⟨k,rfl,hk,HX,HB⟩:=hrel
    have HBw:=Lib.hid (boxW _ HB.out)
    have hzr:=HB.out.size
    simp only[World.size_alloc] at hzr
    ((try clear b0 b1 b2 b3 b4);have b0:=box_cell HB.out 0;have b1:=box_cell HB.out 1;have b2:=box_cell HB.out 2;have b3:=box_cell HB.out 3;have b4:=box_cell HB.out 4;(try simp at b0 b1 b2 b3 b4))
    by_cases hlt:k < regs.length
    ·obtain⟨b,off,ha⟩:=HRA.out.resolve_left (by omega)
     subst ha
     obtain⟨ae,ce,_,_,_,c2,c3,c4,c5,hX⟩:=HR.out.get rfl hlt
     have kk:=keeps_of_below HBw.out
     have d2:=kk _ _ c2
     have d3:=kk _ _ c3
     have d4:=kk _ _ c4
     have d5:=kk _ _ c5
     obtain⟨xs,hown,hrow⟩:=HX.out
     have HS:=Lib.hid (HS2.out k hlt)
     have HXe:=Lib.hid hX
     clear kk c2 c3 c4 c5
     generalize (regs[k]'hlt).next=e at d2 d3 d4 d5 HS HXe
     have hkn:wires.length+k≤1073741824:=by omega
     obtain⟨va,vc,hv,_⟩:=slice_of_own hown hkn
     subst hv
     have HO:=Lib.hid hown
     have HRw:=Lib.hid hrow
     clear hX hown hrow HX
     go_wp2_with (at_builtin;go_must (refine own_app elemE _ rfl (.tmp 29) (.tmp 36) rfl (w.heap.size+1) (.slice va (wires.length+k) vc) (wires.length+k) xs rfl HO.out [.int .i64 e.op,.int .i64 e.n,.string e.name,.slice ae e.args.length ce] rfl (by simp[Value.oneCell']) _ 1 rfl (by first | rfl | simp) hkn sz ?_))
     intro v' w1 ho hg
     have HO1:=Lib.hid ho
     have HB1:Hid (Below (w.heap.size+1) (w.alloc (.cells #[.string nm,.slice ai ins.length ci,.slice aw wires.length cw,.slice (some ⟨b,off,none⟩) regs.length cr,.slice ao outs.length co] 27)) w1):=Below.grown (by repeat (first | exact HB.out | refine Below.alloc ?_ sz _)) hg sz (fun j hj=>(HO.out.lt j hj).1)
     clear ho hg d2 d3 d4 d5 b0 b1 b2 b3 b4
     go_wp2_with fail
     go_roundw
     case rel=>exact⟨k+1,by go_num,by omega,⟨_,HO1.out,by rw[HS.out];exact HRw.out.append (ExRow.one HXe.out)⟩,HB1⟩
     case measure=>(simp[intOf];try omega)
    ·obtain rfl:k=regs.length:=by omega
     go_wp2_with fail
     go_ret
     obtain⟨xs,hown,hrow⟩:=HX.out
     rw[HS3.out] at hrow
     rw[← HNl.out] at hown
     obtain⟨a',cap',rfl,hs⟩:=exs_of_own hown (hrow.keep (keeps_of_below HBw.out)) (by rw[HNl.out];exact hll)
     exact⟨⟨a',cap',rfl,hs⟩,HBw.out⟩
end Go.Proofs.YtebneadheaefdaaGreatDoor
namespace Go.Proofs.YtebneadheaefdaaGreatDoor
open Go.RowKit
attribute [local go_sem ↓] Go.wp_at_zero Go.wp_at_succ
end Go.Proofs.YtebneadheaefdaaGreatDoor
namespace Go.Proofs.YtebneadheaefdaaGreatDoor
open Go.RowKit
def FRow (w:World) (b:Nat) (t:TypeId) (n:Nat) (f:Nat→Value):Prop:=w.heap[b]? = some (.cells ((List.range n).map f).toArray t (0,0))
theorem FRow.cell {w:World} {b:Nat} {t:TypeId} {n:Nat} {f:Nat→Value} (h:FRow w b t n f) {i:Nat} (hi:i < n):w.cell? ⟨b,i,none⟩=some (f i):=by
 unfold FRow at h
 simp[World.cell?,h,hi]
theorem FRow.free {w:World} {b:Nat} {t:TypeId} {n:Nat} {f:Nat→Value} (h:FRow w b t n f) (i:Nat):w.frozen? ⟨b,i,none⟩=false:=by
 unfold FRow at h
 simp[World.frozen?,h]
theorem FRow.lt {w:World} {b:Nat} {t:TypeId} {n:Nat} {f:Nat→Value} (h:FRow w b t n f):b < w.heap.size:=lt_of_block h
theorem FRow.set {w:World} {b:Nat} {t:TypeId} {n:Nat} {f:Nat→Value} (h:FRow w b t n f) {i:Nat} (hi:i < n) (u:Value):FRow (w.setCell ⟨b,i,none⟩ u) b t n (fun j=>if j=i then u else f j):=by
 unfold FRow at h⊢
 have hlt:=lt_of_block h
 have:=heap_setCell_same w b i _ t u h
 rw[this]
 congr 2
 apply Array.ext'
 apply List.ext_getElem?
 intro j
 simp only[Array.toList_setIfInBounds,List.getElem?_set,List.toList_toArray,List.length_map,List.length_range]
 by_cases e:i=j
 ·subst e;simp[hi]
 ·have e':¬ j=i:=fun h=>e h.symm
  simp only[e,if_false,List.getElem?_map]
  cases hr:(List.range n)[j]? with
  | none=>rfl
  | some q =>
   have:q=j:=by
    rw[List.getElem?_eq_some_iff] at hr
    obtain⟨_,h⟩:=hr
    simpa using h.symm
   subst this
   simp[e']
theorem FRow.congr {w:World} {b:Nat} {t:TypeId} {n:Nat} {f g:Nat→Value} (h:FRow w b t n f) (hfg:∀ i,i < n→f i=g i):FRow w b t n g:=by
 unfold FRow at h⊢
 rw[h]
 congr 3
 apply List.map_congr_left
 intro i hi
 exact hfg i (by simpa using hi)
theorem FRow.keep {w w':World} {b:Nat} {t:TypeId} {n:Nat} {f:Nat→Value} (h:FRow w b t n f) (hb:Below w.heap.size w w'):FRow w' b t n f:=by
 unfold FRow at h⊢
 rw[hb.block _ (lt_of_block h)];exact h
end Go.Proofs.YtebneadheaefdaaGreatDoor
