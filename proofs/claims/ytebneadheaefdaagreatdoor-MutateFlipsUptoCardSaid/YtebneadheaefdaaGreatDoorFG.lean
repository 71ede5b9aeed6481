/- mutate.wire: the designs in which a wire is changed. -/
import Derived.Test.YtebneadheaefdaaGreatDoorFF
set_option linter.unusedSimpArgs false
set_option linter.unusedVariables false
set_option linter.unnecessarySimpa false
namespace Go.Proofs.YtebneadheaefdaaGreatDoor
open Go.RowKit
attribute [local go_sem ↓] Go.wp_at_zero Go.wp_at_succ
def WirePost (w:World) (l:List Mut) (r:Ending) (w':World):Prop:=(∃ v L,r=.returned v∧OwnM w' w.heap.size v L∧L.map mutOf=l)∧Below w.heap.size w w'
set_option maxHeartbeats 16000000 in
set_option maxRecDepth 100000 in
theorem wireM_any {B0:Nat} {w0:World} (hF:∀ n:Int,0≤n→n≤65535→FmtC B0 w0 n) (d:DesD) (x:DesA) (i:Nat) (w:World) (hB0:B0≤w.heap.size) (hb0:Below B0 w0 w) (hE:DesIn w d x) (hs:DesSmall d) (he:d.err=0) (hi:i < d.wires.length) :
  Calls Tryz.prog 114 #[desVal d x,.int .i64 i] w (WirePost w (wireM d i (d.wires[i]'hi))):=by
 have hl:=hs.len
 have hok:OkE (d.wires[i]'hi).expr:=valid_ok ((desOk_of_err he).exprs _ (wire_mem hi)).1
 have h400:=expr_400 he _ (wire_mem hi)
 have HVx:Hid (∀ ae ce W,Below w.heap.size w W→ExIn W (d.wires[i]'hi).expr ae ce→Calls Tryz.prog 168 #[exVal (d.wires[i]'hi).expr ae ce,.int .i64 0] W fun r w'=>(∃ v L,r=.returned v∧OwnV w' W.heap.size (fun _=>false) v L∧L.map verOf=versS (d.wires[i]'hi).expr 0)∧Below W.heap.size W w'):=fun ae ce W hW hX=>versions_any hF _ (fun _=>false) 0 ae ce W (fun k hk=>by simp at hk) (Nat.le_trans hB0 hW.size) (hb0.trans (hW.mono hB0)) (hX.keep (fun a v h=>cell_hide.2 ⟨rfl,h⟩)) hok (by omega)
 have HWh:=Lib.hid (vers_what (d.wires[i]'hi).expr 0 (by omega))
 have HVl:=Lib.hid (vers_len (d.wires[i]'hi).expr 0)
 have HFr:Hid (∀ W,Below w.heap.size w W→Calls Tryz.prog 65 #[desVal d x] W fun r w'=>(∃ x' bw br,r=.returned (desVal d x')∧NewA w' W.heap.size d x' bw br)∧Below W.heap.size W w'):=fun W hW=>fresh_any d x W (hE.below hW) hs
 have HCo:Hid (∀ e a c W,ExIn W e a c→Calls Tryz.prog 69 #[.agg #[.int .i64 e.op,.int .i64 e.n,.string e.name,.slice a e.args.length c]] W fun r w'=>(∃ a' c',r=.returned (.agg #[.int .i64 e.op,.int .i64 e.n,.string e.name,.slice a' e.args.length c'])∧ExIn (World.hide w' (old W.heap.size)) e a' c')∧Below W.heap.size W w'):=fun e a c W h=>copyM_any e a c W h
 have HP:Hid (∀ v L W,OwnM W w.heap.size v L→L.map mutOf=wireM d i (d.wires[i]'hi)→Below w.heap.size w W→WirePost w (wireM d i (d.wires[i]'hi)) (.returned v) W):=fun v L W h1 h2 h3=>⟨⟨v,L,rfl,h1,h2⟩,h3⟩
 have HM:Hid (wireM d i (d.wires[i]'hi)=(versS (d.wires[i]'hi).expr 0).map fun v=>(d.setWire i v.1,wireT (d.wires[i]'hi).name v.2)):=rfl
 have hnm:(d.wires[i]'hi).name.size≤1073741824:=hs.names _ (by unfold DesD.names;simp only[List.mem_append,List.mem_map];exact Or.inl (Or.inr ⟨_,List.getElem_mem hi,rfl⟩))
 have HEl:Hid (∃ b off,x.aw=some ⟨b,off,none⟩):=(SliceIn.addr hE.wires).resolve_left (by omega)
 obtain⟨bW,oW,haw⟩:=HEl.out
 obtain⟨ae,ce,g0,g1,g2,g3,g4,g5,hXe⟩:=hE.wires.get haw hi
 have HXe:=Lib.hid hXe
 have hil:(i:Int) < d.wires.length:=by omega
 have hcw:d.wires.length≤x.cw:=hE.wires.1
 have hcwi:(d.wires.length:Int)≤x.cw:=by omega
 clear hE hs hb0 hok hXe
 generalize wireM d i (d.wires[i]'hi)=WM at HP HM⊢
 generalize WirePost w WM=Po at HP⊢
 generalize (d.wires[i]'hi)=wi at HVx HWh HVl HM hnm HXe g0 g1 g2 g3 g4 g5 h400
 generalize versS wi.expr 0=VS at HVx HWh HVl HM
 simp only[desVal,desVals,exVal] at HFr HVx⊢
 rw[haw] at HFr⊢
 go_enter Tryz.func114, Tryz.ntmps114
 go_upto_region 2 with fail
 generalize hW1:w.alloc (.cells #[.string d.name,.slice x.ai d.inputs.length x.ci,.slice (some ⟨bW,oW,none⟩) d.wires.length x.cw,.slice x.ar d.regs.length x.cr,.slice x.ao d.outputs.length x.co] 27)=W1
 have hz1:w.heap.size+1≤W1.heap.size:=by rw[← hW1];simp
 have hz1b:W1.heap.size≤w.heap.size+1:=by rw[← hW1];simp
 have HB1:Hid (Below w.heap.size w W1):=by show Below _ _ _;rw[← hW1];exact belr
 have HX1:Hid (W1.heap[w.heap.size]? = some (.cells #[.string d.name,.slice x.ai d.inputs.length x.ci,.slice (some ⟨bW,oW,none⟩) d.wires.length x.cw,.slice x.ar d.regs.length x.cr,.slice x.ao d.outputs.length x.co] 27 (0,0))):=by
  show _=_;rw[← hW1]
  exact hx_new rfl
 clear hW1
 have HGn:Hid (w.cell? ⟨bW,oW+i * 6,none⟩=some (.string wi.name)):=g0
 have k2:=keeps_of_below HB1.out _ _ g2
 have k3:=keeps_of_below HB1.out _ _ g3
 have k4:=keeps_of_below HB1.out _ _ g4
 have k5:=keeps_of_below HB1.out _ _ g5
 obtain⟨e0,e1,e2,e3,e4,_⟩:=cell5 HX1.out
 clear g0 g1 g2 g3 g4 g5
 have Haw:=Lib.hid haw
 clear haw HEl
 go_wp2_with fail
 refine(HVx.out ae ce W1 HB1.out (HXe.out.keep (keeps_of_below HB1.out))).mono ?_
 rintro r w2 ⟨⟨v2,LV,rfl,hOV,hmV⟩,hb2⟩
 have hz2:=hb2.size
 have hLV:LV.length≤400:=by have h1:=congrArg List.length hmV;have h2:=HVl.out;simp at h1;omega
 obtain⟨a2,c2,rfl,hV2,hs2⟩:=hOV.vers (by omega) (fun _ _=>rfl)
 have HV2:Hid (VersIn w2 LV a2 c2):=hV2.keep (hk_unhide _ _).cell
 have HS2:=Lib.hid hs2
 have HmV:=Lib.hid hmV
 have HB2:=Lib.hid hb2
 clear hOV hmV hV2 hs2 hb2 e0 e1 e2 e3 e4 k2 k3 k4 k5
 go_wp2_with fail
 go_loopw [17,5] (fun j v wr=>∃ (m:Nat) (L:List MA),j=.int .i64 m∧m≤LV.length∧Hid (L.map mutOf=(LV.take m).map fun y=>(d.setWire i y.1,wireT wi.name y.2.2.2))∧Hid (OwnM wr w2.heap.size v L)∧Hid (Below w2.heap.size w2 wr)) (fun j _ _=>LV.length - (intOf j).toNat)
 case atStart=>exact⟨0,[],rfl,Nat.zero_le _,rfl,OwnR.nil _ _ _ _ _ _,Below.refl _ _⟩
 case round =>
  obtain⟨m,L,rfl,hm,HL,HO,HB⟩:=hrel
  have hzr:=HB.out.size
  have HB1r:Hid (Below W1.heap.size W1 wr):=HB2.out.trans (HB.out.mono hz2)
  have HBw:Hid (Below w.heap.size w wr):=HB1.out.trans (HB1r.out.mono (by omega))
  have hLl:L.length≤400:=by have h1:=congrArg List.length HL.out;simp at h1;omega
  obtain⟨va,vc,rfl,hvc,hvo,_⟩:=HO.out.slice (by omega)
  have HVo:=Lib.hid hvo
  clear hvo
  by_cases hlt:m < LV.length
  ·obtain⟨b9,rfl⟩:=HS2.out.resolve_left (by omega)
   obtain⟨q0,q1,q2,q3,q4,hXv⟩:=(HV2.out.keep (keeps_of_below HB.out)).get rfl hlt
   have HLk:Hid ((LV.take (m+1)).map (fun y=>(d.setWire i y.1,wireT wi.name y.2.2.2))=(LV.take m).map (fun y=>(d.setWire i y.1,wireT wi.name y.2.2.2))++[(d.setWire i (LV[m]'hlt).1,wireT wi.name (LV[m]'hlt).2.2.2)]):=by
    show _=_
    rw[List.take_add_one,List.getElem?_eq_getElem hlt,List.map_append]
    rfl
   have hzw:(LV[m]'hlt).2.2.2.size≤70000:=HWh.out (verOf (LV[m]'hlt)) (by rw[← HmV.out];exact List.mem_map.2 ⟨_,List.getElem_mem hlt,rfl⟩)
   generalize (LV[m]'hlt)=z at q0 q1 q2 q3 q4 hXv HLk hzw
   obtain⟨ze,za,zc,zw⟩:=z
   have HXv:=Lib.hid hXv
   simp only[Nat.zero_add] at q0 q1 q2 q3 q4
   have hxb:=hx_below HB1r.out HX1.out
   obtain⟨b0,b1,b2,b3,b4,_⟩:=cell5 hxb
   have k0:=fun o=>keeps_of_below ((Below.refl wr.heap.size wr).alloc (Nat.le_refl _) o) _ _ b0
   have k1:=fun o=>keeps_of_below ((Below.refl wr.heap.size wr).alloc (Nat.le_refl _) o) _ _ b1
   have k2:=fun o=>keeps_of_below ((Below.refl wr.heap.size wr).alloc (Nat.le_refl _) o) _ _ b2
   have k3:=fun o=>keeps_of_below ((Below.refl wr.heap.size wr).alloc (Nat.le_refl _) o) _ _ b3
   have k4:=fun o=>keeps_of_below ((Below.refl wr.heap.size wr).alloc (Nat.le_refl _) o) _ _ b4
   clear hXv hxb b0 b1 b2 b3 b4
   go_wp2_with fail
   clear q0 q1 q2 q3 q4 k0 k1 k2 k3 k4
   generalize hW4:wr.alloc (.cells #[.int .i64 ze.op,.int .i64 ze.n,.string ze.name,.slice za ze.args.length zc,.string zw] 191)=W4
   have hz4:wr.heap.size+1≤W4.heap.size:=by rw[← hW4];simp
   have HB4:Hid (Below wr.heap.size wr W4):=by show Below _ _ _;rw[← hW4];exact belr
   have HA4:Hid (W4.heap[wr.heap.size]? = some (.cells #[.int .i64 ze.op,.int .i64 ze.n,.string ze.name,.slice za ze.args.length zc,.string zw] 191 (0,0))):=by
    show _=_;rw[← hW4]
    exact hx_new rfl
   clear hW4
   refine(HFr.out W4 (HBw.out.trans (HB4.out.mono (by omega)))).mono ?_
   rintro r w5 ⟨⟨x',bw,br,rfl,hN5⟩,hb5⟩
   have hz5:=hb5.size
   have HN5:=Lib.hid hN5
   have HA5:Hid (w5.heap[wr.heap.size]? = some (.cells #[.int .i64 ze.op,.int .i64 ze.n,.string ze.name,.slice za ze.args.length zc,.string zw] 191 (0,0))):=hx_below hb5 HA4.out
   have HBr5:Hid (Below wr.heap.size wr w5):=HB4.out.trans (hb5.mono HB4.out.size)
   clear hN5 hb5
   go_upto_region 6 with fail
   generalize hW6:w5.alloc (.cells #[.string d.name,.slice x'.ai d.inputs.length x'.ci,.slice x'.aw d.wires.length x'.cw,.slice x'.ar d.regs.length x'.cr,.slice x'.ao d.outputs.length x'.co] 27)=W6
   have hz6:w5.heap.size+1≤W6.heap.size:=by rw[← hW6];simp
   have HB6:Hid (Below w5.heap.size w5 W6):=by show Below _ _ _;rw[← hW6];exact belr
   have HX6:Hid (W6.heap[w5.heap.size]? = some (.cells #[.string d.name,.slice x'.ai d.inputs.length x'.ci,.slice x'.aw d.wires.length x'.cw,.slice x'.ar d.regs.length x'.cr,.slice x'.ao d.outputs.length x'.co] 27 (0,0))):=by
    show _=_;rw[← hW6]
    exact hx_new rfl
   clear hW6
   have HA6:Hid (W6.heap[wr.heap.size]? = some (.cells #[.int .i64 ze.op,.int .i64 ze.n,.string ze.name,.slice za ze.args.length zc,.string zw] 191 (0,0))):=hx_below HB6.out HA5.out
   have HBr6:Hid (Below wr.heap.size wr W6):=HBr5.out.trans (HB6.out.mono HBr5.out.size)
   have HN6:Hid (NewA W6 W4.heap.size d x' bw br):=NewD.keep HN5.out (hk_plain HB6.out)
   obtain⟨bb,hbw,haw',hB1,hB2,hfr,hne⟩:=NewD.wblock HN6.out (by omega)
   have hb5':=(HN5.out.wires.lt bb hbw).2
   obtain⟨_,_,_,hsl⟩:=HN6.out.wires
   obtain⟨bb',hbw',-,-,hrow⟩:=hsl.resolve_left (by omega)
   rw[hbw] at hbw'
   obtain rfl:=Option.some.inj hbw'
   have hcw':=hrow.le
   obtain⟨f,⟨v,ae',ce',g0,g1,g2,g3,g4,g5,g6,g7⟩,hf⟩:=hrow.get hi
   have r0:=hf 2 _ g3
   have r1:=hf 3 _ g4
   have r2:=hf 4 _ g5
   have r3:=hf 5 _ g6
   have hcwi':(d.wires.length:Int)≤(x'.cw:Int):=by omega
   have Hbw:=Lib.hid hbw
   have hnx:w5.heap.size≠bb:=by omega
   have HXe':=HX6.out
   rw[haw'] at HXe'
   have HALL:Hid (∀ w',W6.grownBy w' (some bb)→w'.cell? ⟨w5.heap.size,2,none⟩=some (.slice (some ⟨bb,0,none⟩) d.wires.length x'.cw)∧w'.cell? ⟨wr.heap.size,0,none⟩=some (.int .i64 ze.op)∧w'.cell? ⟨wr.heap.size,1,none⟩=some (.int .i64 ze.n)∧w'.cell? ⟨wr.heap.size,2,none⟩=some (.string ze.name)∧w'.cell? ⟨wr.heap.size,3,none⟩=some (.slice za ze.args.length zc)):=fun w' h=>by
    obtain⟨_,_,b2,_⟩:=cell5 (gr_blk h HXe' (fun e=>hnx (Option.some.inj e).symm))
    obtain⟨c0,c1,c2,c3,_⟩:=cell5 (gr_blk h HA6.out (fun e=>by have:=Option.some.inj e;omega))
    exact⟨b2,c0,c1,c2,c3⟩
   have HC:=Lib.hid (fun W (hW:Below W6.heap.size W6 W)=>HCo.out ze za zc W (HXv.out.keep (keeps_of_below (HBr6.out.trans (hW.mono HBr6.out.size)))))
   have Haw':=Lib.hid haw'
   have hG6:W6.grownBy W6 (some bb):=gr_refl _ _
   clear g0 g1 g2 g3 g4 g5 g6 g7 hf hrow hsl hbw haw' hne HXe'
   obtain⟨y0,y1,y2,y3,y4⟩:=HALL.out _ hG6
   go_region_held3 (fun w'=>W6.grownBy w' (some bb)∧w'.cell? ⟨w5.heap.size,2,none⟩=some (.slice (some ⟨bb,0,none⟩) d.wires.length x'.cw)∧w'.cell? ⟨wr.heap.size,0,none⟩=some (.int .i64 ze.op)∧w'.cell? ⟨wr.heap.size,1,none⟩=some (.int .i64 ze.n)∧w'.cell? ⟨wr.heap.size,2,none⟩=some (.string ze.name)∧w'.cell? ⟨wr.heap.size,3,none⟩=some (.slice za ze.args.length zc))
    ((refine(fun h=>⟨h,HALL.out _ h⟩) ?_;repeat (first | with_reducible assumption | with_reducible exact gr_refl _ _ | with_reducible refine gr_drew ?_ | with_reducible refine gr_set ?_)))
    ((go_at_call 69;(with_reducible refine(HC.out _ belr).mono ?_);rintro r w7 ⟨⟨a7,c7,rfl,hx7⟩,hb7⟩;have hG7:=gr_below (gr_drew hG6) hb7;have p0:=keeps_of_below hb7 _ _ r0;have p1:=keeps_of_below hb7 _ _ r1;have p2:=keeps_of_below hb7 _ _ r2;have p3:=keeps_of_below hb7 _ _ r3;have pf:=fun j=>(hb7.frozen (p:=⟨bb,j,none⟩) hB2).trans (hfr j)))
   have hb67:Below W6.heap.size W6 w7:=(Below.drew (Below.refl _ _)).trans hb7
   have hN8:NewA ((((w7.setCell ⟨bb,i * 6+2,none⟩ (.int .i64 ze.op)).setCell ⟨bb,i * 6+2+1,none⟩ (.int .i64 ze.n)).setCell ⟨bb,i * 6+2+2,none⟩ (.string ze.name)).setCell ⟨bb,i * 6+2+3,none⟩ (.slice a7 ze.args.length c7)) W4.heap.size (d.setWire i ze) x' bw br:=by
    have h:=NewD.setW (kw':=d.wires.length) (NewD.keep HN6.out (hk_plain hb67)) Hbw.out hi (e:=ze) (a:=a7) (c:=c7) (hx7.keep (hk_mono fun j hj=>old_true.2 (by
     rw[if_pos hi] at hj
     show j < W6.heap.size
     rcases newP_true.1 hj with h | h | h
     ·omega
     ·exact(HN6.out.wires.lt j h).2
     ·exact(HN6.out.regs.lt j h).2)).cell) (fun j hj=>Or.inl hj) (Nat.le_refl _)
    show NewD _ _ (d.setWire i ze).wires.length (d.setWire i ze).regs.length _ _ _ _
    rw[set_wires]
    exact h
   have hG8:W6.grownBy ((((w7.setCell ⟨bb,i * 6+2,none⟩ (.int .i64 ze.op)).setCell ⟨bb,i * 6+2+1,none⟩ (.int .i64 ze.n)).setCell ⟨bb,i * 6+2+2,none⟩ (.string ze.name)).setCell ⟨bb,i * 6+2+3,none⟩ (.slice a7 ze.args.length c7)) (some bb):=gr_set (gr_set (gr_set (gr_set hG7)))
   generalize ((((w7.setCell ⟨bb,i * 6+2,none⟩ (.int .i64 ze.op)).setCell ⟨bb,i * 6+2+1,none⟩ (.int .i64 ze.n)).setCell ⟨bb,i * 6+2+2,none⟩ (.string ze.name)).setCell ⟨bb,i * 6+2+3,none⟩ (.slice a7 ze.args.length c7))=W8 at hN8 hG8⊢
   have HN8:=Lib.hid hN8
   have hz8:=hG8.size
   have HBr8:Hid (Below wr.heap.size wr W8):=gr_bel HBr6.out hG8 (by omega) (fun k hk=>by have:=Option.some.inj hk;omega)
   have HBw8:Hid (Below w.heap.size w W8):=HBw.out.trans (HBr8.out.mono (by omega))
   have HX8:Hid (W8.heap[w5.heap.size]? = some (.cells #[.string d.name,.slice x'.ai d.inputs.length x'.ci,.slice x'.aw d.wires.length x'.cw,.slice x'.ar d.regs.length x'.cr,.slice x'.ao d.outputs.length x'.co] 27 (0,0))):=gr_blk hG8 HX6.out (fun e=>hnx (Option.some.inj e).symm)
   have HA8:Hid (W8.heap[wr.heap.size]? = some (.cells #[.int .i64 ze.op,.int .i64 ze.n,.string ze.name,.slice za ze.args.length zc,.string zw] 191 (0,0))):=gr_blk hG8 HA6.out (fun e=>by have:=Option.some.inj e;omega)
   have HD8:Hid (W8.heap[w.heap.size]? = some (.cells #[.string d.name,.slice x.ai d.inputs.length x.ci,.slice (some ⟨bW,oW,none⟩) d.wires.length x.cw,.slice x.ar d.regs.length x.cr,.slice x.ao d.outputs.length x.co] 27 (0,0))):=hx_below HBr8.out (hx_below HB1r.out HX1.out)
   have hgn:=keeps_of_below HBw8.out _ _ HGn.out
   have hbW:bW < w.heap.size:=World.block_lt_of_cell? _ _ HGn.out
   have HGn8:=Lib.hid hgn
   clear hN8 hG8 hG7 hb7 hb67 hx7 p0 p1 p2 p3 pf r0 r1 r2 r3 y0 y1 y2 y3 y4 hG6 HC HALL hfr hgn
   have HALL:Hid (∀ w',W8.grownBy w' (Value.slice va L.length vc).ownBlock→w'.cell? ⟨w5.heap.size,0,none⟩=some (.string d.name)∧w'.cell? ⟨w5.heap.size,1,none⟩=some (.slice x'.ai d.inputs.length x'.ci)∧w'.cell? ⟨w5.heap.size,2,none⟩=some (.slice x'.aw d.wires.length x'.cw)∧w'.cell? ⟨w5.heap.size,3,none⟩=some (.slice x'.ar d.regs.length x'.cr)∧w'.cell? ⟨w5.heap.size,4,none⟩=some (.slice x'.ao d.outputs.length x'.co)∧w'.cell? ⟨w.heap.size,2,none⟩=some (.slice (some ⟨bW,oW,none⟩) d.wires.length x.cw)∧w'.cell? ⟨bW,oW+i * 6,none⟩=some (.string wi.name)∧w'.cell? ⟨wr.heap.size,4,none⟩=some (.string zw)):=fun w' h=>by
    obtain⟨b0,b1,b2,b3,b4,_⟩:=cell5 (gr_blk h HX8.out (fun e=>by have:=(HVo.out _ e).2;omega))
    obtain⟨_,_,c2,_⟩:=cell5 (gr_blk h HD8.out (fun e=>by have:=(HVo.out _ e).1;omega))
    obtain⟨_,_,_,_,d4,_⟩:=cell5 (gr_blk h HA8.out (fun e=>by have:=(HVo.out _ e).2;omega))
    exact⟨b0,b1,b2,b3,b4,c2,h.cell HGn8.out (fun e=>by have:=(HVo.out _ e.symm).1;simp only at this;omega),d4⟩
   have hG0:W8.grownBy W8 (Value.slice va L.length vc).ownBlock:=gr_refl _ _
   obtain⟨b0,b1,b2,b3,b4,c2',n0,d4⟩:=HALL.out _ hG0
   have hOr:=Lib.hid (HO.out.below (mutP_keep _) HBr8.out)
   have hn1:¬ 9223372036854775807 < 5+wi.name.size:=by omega
   have hn2:¬ 9223372036854775807 < 5+wi.name.size+1:=by omega
   have hn3:¬ 9223372036854775807 < 5+wi.name.size+1+zw.size:=by omega
   go_wp2_with fail
   go_region_held3 (fun w'=>W8.grownBy w' (Value.slice va L.length vc).ownBlock∧w'.cell? ⟨w5.heap.size,0,none⟩=some (.string d.name)∧w'.cell? ⟨w5.heap.size,1,none⟩=some (.slice x'.ai d.inputs.length x'.ci)∧w'.cell? ⟨w5.heap.size,2,none⟩=some (.slice x'.aw d.wires.length x'.cw)∧w'.cell? ⟨w5.heap.size,3,none⟩=some (.slice x'.ar d.regs.length x'.cr)∧w'.cell? ⟨w5.heap.size,4,none⟩=some (.slice x'.ao d.outputs.length x'.co)∧w'.cell? ⟨w.heap.size,2,none⟩=some (.slice (some ⟨bW,oW,none⟩) d.wires.length x.cw)∧w'.cell? ⟨bW,oW+i * 6,none⟩=some (.string wi.name)∧w'.cell? ⟨wr.heap.size,4,none⟩=some (.string zw))
    ((refine(fun h=>⟨h,HALL.out _ h⟩) ?_;first | exact gr_trans (gr_alloc (gr_drew (gr_refl _ _)) _) hgrow | exact gr_trans (gr_alloc (gr_refl _ _) _) hgrow | (repeat (first | with_reducible assumption | with_reducible exact gr_refl _ _ | with_reducible refine gr_drew ?_ | with_reducible refine gr_alloc ?_ _))))
    ((refine own_step elemMut (by rfl) _ _ (by rfl) w2.heap.size (.slice va L.length vc) L.length (L.flatMap mutCells) (by rfl) ((hOr.out.below (mutP_keep _) belr).own) [.string d.name,.slice x'.ai d.inputs.length x'.ci,.slice x'.aw d.wires.length x'.cw,.slice x'.ar d.regs.length x'.cr,.slice x'.ao d.outputs.length x'.co,.string (((⟨#[119,105,114,101,32]⟩++wi.name)++⟨#[32]⟩)++zw)] (by rfl) (by simp[Value.oneCell']) _ 1 (by rfl) (heap_alloc_new' _ _) (by omega) sz _ rfl ?_;intro g gcap wg hownG hgrow hatG hltG))
   have hbX:Below W8.heap.size W8 (W8.alloc (.cells #[.string d.name,.slice x'.ai d.inputs.length x'.ci,.slice x'.aw d.wires.length x'.cw,.slice x'.ar d.regs.length x'.cr,.slice x'.ao d.outputs.length x'.co,.string (((⟨#[119,105,114,101,32]⟩++wi.name)++⟨#[32]⟩)++zw)] 98)).drew:=((Below.refl _ W8).alloc (Nat.le_refl _) _).drew
   have hcl:mutCells (d.setWire i ze,x',wireT wi.name zw)=[.string d.name,.slice x'.ai d.inputs.length x'.ci,.slice x'.aw d.wires.length x'.cw,.slice x'.ar d.regs.length x'.cr,.slice x'.ao d.outputs.length x'.co,.string (((⟨#[119,105,114,101,32]⟩++wi.name)++⟨#[32]⟩)++zw)]:=by
    unfold mutCells
    simp only[set_wires]
    rfl
   have HOg:Hid (OwnM wg w2.heap.size (.slice (some ⟨g,0,none⟩) (L.length+1) gcap) (L++[(d.setWire i ze,x',wireT wi.name zw)])) :=
    mut_add HO.out HBr8.out hbX HN8.out (by omega) (by omega) hgrow (hatG.imp id fun h=>Nat.le_of_eq h.symm) (by rw[hcl];exact hownG)
   have HBg:Hid (Below w2.heap.size w2 wg):=gr_bel (HB.out.trans ((HBr8.out.trans (hbX.mono HBr8.out.size)).mono hzr)) hgrow (by have:=HBr8.out.size;have:=hbX.size;omega) (fun k hk=>(HVo.out k hk).1)
   have HLg:Hid ((L++[(d.setWire i ze,x',wireT wi.name zw)]:List MA).map mutOf=(LV.take (m+1)).map fun y=>(d.setWire i y.1,wireT wi.name y.2.2.2)):=by
    show _=_
    rw[List.map_append,HL.out,HLk.out]
    rfl
   clear hbX hcl hownG hgrow hatG hG0 b0 b1 b2 b3 b4 c2' n0 d4
   go_wp2_with fail
   go_roundw
   case rel=>exact⟨m+1,L++[(d.setWire i ze,x',wireT wi.name zw)],by go_num,by omega,HLg,HOg,HBg⟩
   case measure=>(simp[intOf];try omega)
  ·obtain rfl:m=LV.length:=by omega
   have hmm:L.map mutOf=WM:=by
    rw[HL.out,List.take_length,HM.out,← HmV.out,List.map_map]
    rfl
   have HP':Hid (∀ v W,OwnM W w.heap.size v L→Below w.heap.size w W→Po (.returned v) W):=fun v W h1 h2=>HP.out v L W h1 hmm h2
   have HO':Hid (OwnM wr w.heap.size (.slice va L.length vc) L):=HO.out.imp (by omega) fun y _ ⟨bw,br,h⟩=>⟨bw,br,NewD.mono h (by omega)⟩
   clear hmm
   go_wp2_with fail
   first | exact HP'.out _ _ HO'.out HBw.out | (go_ret;exact HP'.out _ _ HO'.out HBw.out)
end Go.Proofs.YtebneadheaefdaaGreatDoor
namespace Go.Proofs.YtebneadheaefdaaGreatDoor
open Go.RowKit
attribute [local go_sem ↓] Go.wp_at_zero Go.wp_at_succ
theorem flip_xor {n:Int} (h0:0≤n) (h1:n < 65536):bits .xor .i64 n 1=flipI n:=by
 rw[i64_xor n 1 h0 h1 (by decide) (by decide)]
 obtain⟨k,rfl⟩:=Int.eq_ofNat_of_zero_le h0
 unfold xorW flipI
 have e1:((k:Int)).toNat=k:=Int.toNat_natCast k
 have e2:(1:Int).toNat=1:=rfl
 rw[e1,e2]
 have hx:k ^^^ 1=if k % 2=0 then k+1 else k - 1:=by
  have h1:(k ^^^ 1) / 2=k / 2:=by rw[Nat.xor_div_two];simp
  have h2:=@Nat.xor_mod_two_eq_one k 1
  split<;>omega
 rw[hx]
 by_cases h:k % 2=0
 ·rw[if_pos h,if_pos (by omega)];omega
 ·rw[if_neg h,if_neg (by omega)];omega
theorem mod_congr {α:Type} {f g:α→α}:∀ {l:List α} {i:Nat} {v:α},l[i]? = some v→f v=g v→l.modify i f=l.modify i g:=by
 intro l
 induction l with
 | nil=>intro i v h _;simp at h
 | cons a l ih =>
  intro i v h hg
  cases i with
  | zero =>
   obtain rfl:a=v:=by simpa using h
   show f a::l=g a::l
   rw[hg]
  | succ i =>
   show a::l.modify i f=a::l.modify i g
   rw[ih (by simpa using h) hg]
theorem own_of_block {W:World} {B g:Nat} {t:TypeId} {size:Nat} {xs:List Value} (h:W.heap[g]? = some (.cells xs.toArray t (0,0))) (hl:xs.length=size) (hB:B≤g):W.ownsRow B t size (.slice (some ⟨g,0,none⟩) 1 1) 1 xs :=
 ⟨by omega,Or.inr ⟨g,1,xs.toArray,rfl,hB,h,Nat.le_refl _,by unfold maxLen;omega,by simpa using hl,by rw[Nat.one_mul];exact List.take_of_length_le (Nat.le_of_eq hl)⟩⟩
set_option maxHeartbeats 16000000 in
set_option maxRecDepth 100000 in
theorem reg_any {B0:Nat} {w0:World} (hF:∀ n:Int,0≤n→n≤65535→FmtC B0 w0 n) (d:DesD) (x:DesA) (i:Nat) (w:World) (hB0:B0≤w.heap.size) (hb0:Below B0 w0 w) (hE:DesIn w d x) (hs:DesSmall d) (he:d.err=0) (hi:i < d.regs.length) :
  Calls Tryz.prog 115 #[desVal d x,.int .i64 i] w (WirePost w (regM d i (d.regs[i]'hi))):=by
 have hl:=hs.len
 have hok:OkE (d.regs[i]'hi).next:=valid_ok ((desOk_of_err he).exprs _ (reg_mem hi)).1
 have h400:=expr_400 he _ (reg_mem hi)
 have hini:0≤(d.regs[i]'hi).init∧(d.regs[i]'hi).init < 65536:=by
  have h1:=(desOk_of_err he).inits _ (List.getElem_mem hi)
  have h2:=(desOk_of_err he).widths (d.regs[i]'hi).width (by unfold DesD.widths;simp only[List.mem_append,List.mem_map];exact Or.inr ⟨_,List.getElem_mem hi,rfl⟩)
  have h3:=(pow_small (k:=(d.regs[i]'hi).width.toNat) (by omega)).2
  omega
 have hxo:=flip_xor hini.1 hini.2
 have HVx:Hid (∀ p ae ce W,(∀ k,p k=true→k < W.heap.size)→Below w.heap.size w W→ExIn (World.hide W p) (d.regs[i]'hi).next ae ce→Calls Tryz.prog 168 #[exVal (d.regs[i]'hi).next ae ce,.int .i64 0] W fun r w'=>(∃ v L,r=.returned v∧OwnV w' W.heap.size p v L∧L.map verOf=versS (d.regs[i]'hi).next 0)∧Below W.heap.size W w'):=fun p ae ce W hp hW hX=>versions_any hF _ p 0 ae ce W hp (Nat.le_trans hB0 hW.size) (hb0.trans (hW.mono hB0)) hX hok (by omega)
 have HWh:=Lib.hid (vers_what (d.regs[i]'hi).next 0 (by omega))
 have HVl:=Lib.hid (vers_len (d.regs[i]'hi).next 0)
 have HFr:Hid (∀ W,Below w.heap.size w W→Calls Tryz.prog 65 #[desVal d x] W fun r w'=>(∃ x' bw br,r=.returned (desVal d x')∧NewA w' W.heap.size d x' bw br)∧Below W.heap.size W w'):=fun W hW=>fresh_any d x W (hE.below hW) hs
 have HCo:Hid (∀ e a c W,ExIn W e a c→Calls Tryz.prog 69 #[.agg #[.int .i64 e.op,.int .i64 e.n,.string e.name,.slice a e.args.length c]] W fun r w'=>(∃ a' c',r=.returned (.agg #[.int .i64 e.op,.int .i64 e.n,.string e.name,.slice a' e.args.length c'])∧ExIn (World.hide w' (old W.heap.size)) e a' c')∧Below W.heap.size W w'):=fun e a c W h=>copyM_any e a c W h
 have HP:Hid (∀ v L W,OwnM W w.heap.size v L→L.map mutOf=regM d i (d.regs[i]'hi)→Below w.heap.size w W→WirePost w (regM d i (d.regs[i]'hi)) (.returned v) W):=fun v L W h1 h2 h3=>⟨⟨v,L,rfl,h1,h2⟩,h3⟩
 have HM:Hid (regM d i (d.regs[i]'hi)=(d.setInit i,regT (d.regs[i]'hi).name initT)::(versS (d.regs[i]'hi).next 0).map fun v=>(d.setNext i v.1,regT (d.regs[i]'hi).name v.2)):=rfl
 have HIi:Hid (({ d with regs:=d.regs.modify i fun r=>{ r with init:=flipI (d.regs[i]'hi).init } }:DesD)=d.setInit i):=by
  show _=_
  unfold DesD.setInit
  rw[mod_congr (f:=fun r:RegD=>{ r with init:=flipI (d.regs[i]'hi).init }) (g:=fun r=>{ r with init:=flipI r.init }) (List.getElem?_eq_getElem hi) rfl]
 have hnm:(d.regs[i]'hi).name.size≤1073741824:=hs.names _ (by unfold DesD.names;simp only[List.mem_append,List.mem_map];exact Or.inr ⟨_,List.getElem_mem hi,rfl⟩)
 have HEl:Hid (∃ b off,x.ar=some ⟨b,off,none⟩):=(SliceIn.addr hE.regs).resolve_left (by omega)
 obtain⟨bW,oW,har⟩:=HEl.out
 obtain⟨ae,ce,g0,g1,gi,g2,g3,g4,g5,hXe⟩:=hE.regs.get har hi
 have HXe:=Lib.hid hXe
 have hil:(i:Int) < d.regs.length:=by omega
 have hcw:d.regs.length≤x.cr:=hE.regs.1
 have hcwi:(d.regs.length:Int)≤x.cr:=by omega
 clear hE hs hb0 hok hXe hini
 have HVw:Hid (d.regs[i]? = some (d.regs[i]'hi)):=List.getElem?_eq_getElem hi
 generalize regM d i (d.regs[i]'hi)=WM at HP HM⊢
 generalize WirePost w WM=Po at HP⊢
 generalize (d.regs[i]'hi)=wi at HVx HWh HVl HM hnm HXe HIi HVw hxo g0 g1 gi g2 g3 g4 g5 h400
 generalize versS wi.next 0=VS at HVx HWh HVl HM
 simp only[desVal,desVals,exVal] at HFr HVx⊢
 rw[har] at HFr⊢
 go_enter Tryz.func115, Tryz.ntmps115
 go_upto_region 1 with fail
 generalize hW1:w.alloc (.cells #[.string d.name,.slice x.ai d.inputs.length x.ci,.slice x.aw d.wires.length x.cw,.slice (some ⟨bW,oW,none⟩) d.regs.length x.cr,.slice x.ao d.outputs.length x.co] 27)=W1
 have hz1:w.heap.size+1≤W1.heap.size:=by rw[← hW1];simp
 have hz1b:W1.heap.size≤w.heap.size+1:=by rw[← hW1];simp
 have HB1:Hid (Below w.heap.size w W1):=by show Below _ _ _;rw[← hW1];exact belr
 have HX1:Hid (W1.heap[w.heap.size]? = some (.cells #[.string d.name,.slice x.ai d.inputs.length x.ci,.slice x.aw d.wires.length x.cw,.slice (some ⟨bW,oW,none⟩) d.regs.length x.cr,.slice x.ao d.outputs.length x.co] 27 (0,0))):=by
  show _=_;rw[← hW1]
  exact hx_new rfl
 clear hW1
 have k0:=keeps_of_below HB1.out _ _ g0
 obtain⟨e0,e1,e2,e3,e4,_⟩:=cell5 HX1.out
 have G2:=Lib.hid g2
 have G3:=Lib.hid g3
 have G4:=Lib.hid g4
 have G5:=Lib.hid g5
 clear g0 g1 gi g2 g3 g4 g5
 have Har:=Lib.hid har
 clear har HEl
 have hn1:¬ 9223372036854775807 < 4+wi.name.size:=by omega
 have hn2:¬ 9223372036854775807 < 4+wi.name.size+1:=by omega
 have hn3:¬ 9223372036854775807 < 4+wi.name.size+1+4:=by omega
 go_wp2_with fail
 refine(HFr.out W1 HB1.out).mono ?_
 rintro r w2 ⟨⟨x1,bw1,br1,rfl,hN1⟩,hb2⟩
 have hz2:=hb2.size
 have HN1:=Lib.hid hN1
 have HB2:=Lib.hid hb2
 clear hN1 hb2 k0 e0 e1 e2 e3 e4
 go_upto_region 3 with fail
 generalize hW3:w2.alloc (.cells #[.string d.name,.slice x1.ai d.inputs.length x1.ci,.slice x1.aw d.wires.length x1.cw,.slice x1.ar d.regs.length x1.cr,.slice x1.ao d.outputs.length x1.co] 27)=W3
 have hz3:w2.heap.size+1≤W3.heap.size:=by rw[← hW3];simp
 have HB3:Hid (Below w2.heap.size w2 W3):=by show Below _ _ _;rw[← hW3];exact belr
 have HX3:Hid (W3.heap[w2.heap.size]? = some (.cells #[.string d.name,.slice x1.ai d.inputs.length x1.ci,.slice x1.aw d.wires.length x1.cw,.slice x1.ar d.regs.length x1.cr,.slice x1.ao d.outputs.length x1.co] 27 (0,0))):=by
  show _=_;rw[← hW3]
  exact hx_new rfl
 clear hW3
 have HN3:Hid (NewA W3 W1.heap.size d x1 bw1 br1):=NewD.keep HN1.out (hk_plain HB3.out)
 obtain⟨bb,hbr,har',hB1,hB2,hfr,hne⟩:=NewD.rblock HN3.out (by omega)
 have hb2':=(HN1.out.regs.lt bb hbr).2
 obtain⟨_,_,_,hsl⟩:=HN3.out.regs
 obtain⟨bb',hbw',-,-,hrow⟩:=hsl.resolve_left (by omega)
 rw[hbr] at hbw'
 obtain rfl:=Option.some.inj hbw'
 have hcw1:=hrow.le
 have hcwi1:(d.regs.length:Int)≤(x1.cr:Int):=by omega
 obtain⟨f,⟨v,ae',ce',g0,g1,g2,gi,g3,g4,g5,g6,g7⟩,hf⟩:=hrow.get hi
 have HVv:Hid (d.regs[i]? = some v):=g0
 have hvi:v=wi:=by have h:=HVw.out;rw[g0] at h;exact Option.some.inj h
 rw[hvi] at gi
 have r0:=hf 2 _ gi
 obtain⟨e0,e1,e2,e3,e4,_⟩:=cell5 HX3.out
 rw[har'] at e3
 have Hbr:=Lib.hid hbr
 clear g0 g1 g2 gi g3 g4 g5 g6 g7 hf hrow hsl hbr har' hne HVv hvi
 go_upto_region 4 with fail
 have hnx1:w2.heap.size≠bb:=by omega
 have hSI:=NewD.setI HN3.out Hbr.out hi (flipI wi.init)
 rw[HIi.out] at hSI
 generalize hW4:W3.setCell ⟨bb,i * 7+2,none⟩ (.int .i64 (flipI wi.init))=W4
 rw[hW4] at hSI
 have hz4:W3.heap.size≤W4.heap.size:=by rw[← hW4];simp
 have HN4:Hid (NewA W4 W1.heap.size (d.setInit i) x1 bw1 br1):=by
  show NewD _ _ (d.setInit i).wires.length (d.setInit i).regs.length _ _ _ _
  have hrl:(d.setInit i).regs.length=d.regs.length:=List.length_modify _ _ _
  rw[hrl]
  exact hSI
 have HX4:Hid (W4.heap[w2.heap.size]? = some (.cells #[.string d.name,.slice x1.ai d.inputs.length x1.ci,.slice x1.aw d.wires.length x1.cw,.slice x1.ar d.regs.length x1.cr,.slice x1.ao d.outputs.length x1.co] 27 (0,0))):=by show _=_;rw[← hW4];exact hx_set HX3.out hnx1
 have HB4:Hid (Below W1.heap.size W1 W4):=by
  show Below _ _ _;rw[← hW4]
  exact(HB2.out.trans (HB3.out.mono hz2)).setCell hB1 _
 clear hSI hW4 e0 e1 e2 e3 e4 r0 hfr hxo
 obtain⟨e0,e1,e2,e3,e4,_⟩:=cell5 HX4.out
 go_upto_region 5 with fail
 generalize hW5:W4.alloc (.cells #[.string d.name,.slice x1.ai d.inputs.length x1.ci,.slice x1.aw d.wires.length x1.cw,.slice x1.ar d.regs.length x1.cr,.slice x1.ao d.outputs.length x1.co,.string ((((ByteArray.mk #[114,101,103,32])++wi.name)++⟨#[32]⟩)++⟨#[105,110,105,116]⟩)] 98)=W5
 have hz5:W4.heap.size+1≤W5.heap.size:=by rw[← hW5];simp
 have HB45:Hid (Below W4.heap.size W4 W5):=by show Below _ _ _;rw[← hW5];exact belr
 have HK5:Hid (W5.heap[W4.heap.size]? = some (.cells #[.string d.name,.slice x1.ai d.inputs.length x1.ci,.slice x1.aw d.wires.length x1.cw,.slice x1.ar d.regs.length x1.cr,.slice x1.ao d.outputs.length x1.co,.string ((((ByteArray.mk #[114,101,103,32])++wi.name)++⟨#[32]⟩)++⟨#[105,110,105,116]⟩)] 98 (0,0))):=by
  show _=_;rw[← hW5]
  exact hx_new rfl
 clear hW5 e0 e1 e2 e3 e4
 have HB5:Hid (Below W1.heap.size W1 W5):=HB4.out.trans (HB45.out.mono HB4.out.size)
 have HBw5:Hid (Below w.heap.size w W5):=HB1.out.trans (HB5.out.mono (by omega))
 have hz14:=HB4.out.size
 have HX5:Hid (W5.heap[w.heap.size]? = some (.cells #[.string d.name,.slice x.ai d.inputs.length x.ci,.slice x.aw d.wires.length x.cw,.slice (some ⟨bW,oW,none⟩) d.regs.length x.cr,.slice x.ao d.outputs.length x.co] 27 (0,0))):=hx_below HB5.out HX1.out
 have hcl1:mutCells (d.setInit i,x1,regT wi.name initT)=[.string d.name,.slice x1.ai d.inputs.length x1.ci,.slice x1.aw d.wires.length x1.cw,.slice x1.ar d.regs.length x1.cr,.slice x1.ao d.outputs.length x1.co,.string ((((ByteArray.mk #[114,101,103,32])++wi.name)++⟨#[32]⟩)++⟨#[105,110,105,116]⟩)]:=by
  unfold mutCells
  rw[show (d.setInit i).regs.length=d.regs.length from List.length_modify _ _ _]
  rfl
 have HO5:Hid (OwnM W5 W1.heap.size (.slice (some ⟨W4.heap.size,0,none⟩) 1 1) [(d.setInit i,x1,regT wi.name initT)]):=by
  refine⟨own_of_block (size:=6) (xs:=mutCells (d.setInit i,x1,regT wi.name initT)++[]) (by rw[List.append_nil,hcl1];exact HK5.out) rfl hz14,fun y hy=>?_⟩
  obtain rfl:=List.mem_singleton.1 hy
  refine⟨bw1,br1,NewD.keep HN4.out (hk_old HB45.out fun k hk=>?_)⟩
  cases hq:ownP (.slice (some ⟨W4.heap.size,0,none⟩) 1 1) k with
  | false=>rfl
  | true =>
   have e:W4.heap.size=k:=Option.some.inj (ownP_true.1 hq)
   omega
 have hpv:∀ k,ownP (.slice (some ⟨W4.heap.size,0,none⟩) 1 1) k=true→W4.heap.size=k:=fun k hk=>Option.some.inj (ownP_true.1 hk)
 have HVc:=Lib.hid (HVx.out (ownP (.slice (some ⟨W4.heap.size,0,none⟩) 1 1)) ae ce W5 (fun k hk=>by have:=hpv k hk;omega) HBw5.out (HXe.out.keep (hk_old HBw5.out fun k hk=>by
  cases hq:ownP (.slice (some ⟨W4.heap.size,0,none⟩) 1 1) k with
  | false=>rfl
  | true=>have:=hpv k hq;omega).cell))
 have k2:=keeps_of_below HBw5.out _ _ G2.out
 have k3:=keeps_of_below HBw5.out _ _ G3.out
 have k4:=keeps_of_below HBw5.out _ _ G4.out
 have k5:=keeps_of_below HBw5.out _ _ G5.out
 obtain⟨e0,e1,e2,e3,e4,_⟩:=cell5 HX5.out
 have Hpv:=Lib.hid hpv
 clear hpv hcl1
 go_wp2_with fail
 refine HVc.out.mono ?_
 rintro r w6 ⟨⟨v2,LV,rfl,hOV,hmV⟩,hb6⟩
 have hz6:=hb6.size
 have hLV:LV.length≤400:=by have h1:=congrArg List.length hmV;have h2:=HVl.out;simp at h1;omega
 obtain⟨a2,c2,rfl,hV2,hs2⟩:=hOV.vers (by omega) (fun k hk=>by
  have h1:=(hOV.own.lt k hk).1
  cases hq:ownP (.slice (some ⟨W4.heap.size,0,none⟩) 1 1) k with
  | false=>rfl
  | true=>have:=Hpv.out k hq;omega)
 have hbes:∀ v,besP (fun _=>false) v=ownP v:=fun v=>by funext k;simp[besP]
 have HV2:Hid (VersIn (World.hide w6 (besP (fun _=>false) (.slice (some ⟨W4.heap.size,0,none⟩) 1 1))) LV a2 c2):=by show VersIn _ _ _ _;rw[hbes];exact hV2
 have HS2:=Lib.hid hs2
 have HmV:=Lib.hid hmV
 have HB6a:Hid (Below W1.heap.size W1 w6):=HB5.out.trans (hb6.mono (by omega))
 have HO6:=Lib.hid (HO5.out.below (mutP_keep _) hb6)
 have HL0:Hid ([(d.setInit i,x1,regT wi.name initT)].map mutOf=(d.setInit i,regT wi.name initT)::(LV.take 0).map fun y=>(d.setNext i y.1,regT wi.name y.2.2.2)):=rfl
 clear hOV hmV hV2 hs2 hb6 e0 e1 e2 e3 e4 k2 k3 k4 k5 HVc hbes
 go_wp2_with fail
 go_loopw [43,7] (fun j v wr=>∃ (m:Nat) (L:List MA),j=.int .i64 m∧m≤LV.length∧Hid (L.map mutOf=(d.setInit i,regT wi.name initT)::(LV.take m).map fun y=>(d.setNext i y.1,regT wi.name y.2.2.2))∧Hid (OwnM wr W1.heap.size v L)∧Hid (VersIn (World.hide wr (besP (fun _=>false) v)) LV a2 c2)∧Hid (Below W1.heap.size W1 wr)) (fun j _ _=>LV.length - (intOf j).toNat)
 case atStart=>exact⟨0,[(d.setInit i,x1,regT wi.name initT)],rfl,Nat.zero_le _,HL0,HO6,HV2,HB6a⟩
 case round =>
  obtain⟨m,L,rfl,hm,HL,HO,HV,HB⟩:=hrel
  have hzr:=HB.out.size
  have HB1r:Hid (Below W1.heap.size W1 wr):=HB
  have HBw:Hid (Below w.heap.size w wr):=HB1.out.trans (HB1r.out.mono (by omega))
  have hLl:L.length≤401:=by have h1:=congrArg List.length HL.out;simp at h1;omega
  obtain⟨va,vc,rfl,hvc,hvo,_⟩:=HO.out.slice (by omega)
  have HVo:=Lib.hid hvo
  clear hvo
  by_cases hlt:m < LV.length
  ·obtain⟨b9,rfl⟩:=HS2.out.resolve_left (by omega)
   obtain⟨q0,q1,q2,q3,q4,hXv⟩:=(HV.out.keep (hk_unhide _ _).cell).get rfl hlt
   have HLk:Hid ((LV.take (m+1)).map (fun y=>(d.setNext i y.1,regT wi.name y.2.2.2))=(LV.take m).map (fun y=>(d.setNext i y.1,regT wi.name y.2.2.2))++[(d.setNext i (LV[m]'hlt).1,regT wi.name (LV[m]'hlt).2.2.2)]):=by
    show _=_
    rw[List.take_add_one,List.getElem?_eq_getElem hlt,List.map_append]
    rfl
   have hzw:(LV[m]'hlt).2.2.2.size≤70000:=HWh.out (verOf (LV[m]'hlt)) (by rw[← HmV.out];exact List.mem_map.2 ⟨_,List.getElem_mem hlt,rfl⟩)
   generalize (LV[m]'hlt)=z at q0 q1 q2 q3 q4 hXv HLk hzw
   obtain⟨ze,za,zc,zw⟩:=z
   have HXv:=Lib.hid hXv
   simp only[Nat.zero_add] at q0 q1 q2 q3 q4
   have hxb:=hx_below HB1r.out HX1.out
   obtain⟨b0,b1,b2,b3,b4,_⟩:=cell5 hxb
   have k0:=fun o=>keeps_of_below ((Below.refl wr.heap.size wr).alloc (Nat.le_refl _) o) _ _ b0
   have k1:=fun o=>keeps_of_below ((Below.refl wr.heap.size wr).alloc (Nat.le_refl _) o) _ _ b1
   have k2:=fun o=>keeps_of_below ((Below.refl wr.heap.size wr).alloc (Nat.le_refl _) o) _ _ b2
   have k3:=fun o=>keeps_of_below ((Below.refl wr.heap.size wr).alloc (Nat.le_refl _) o) _ _ b3
   have k4:=fun o=>keeps_of_below ((Below.refl wr.heap.size wr).alloc (Nat.le_refl _) o) _ _ b4
   clear hXv hxb b0 b1 b2 b3 b4
   go_wp2_with fail
   clear q0 q1 q2 q3 q4 k0 k1 k2 k3 k4
   generalize hW4:wr.alloc (.cells #[.int .i64 ze.op,.int .i64 ze.n,.string ze.name,.slice za ze.args.length zc,.string zw] 191)=W4
   have hz4:wr.heap.size+1≤W4.heap.size:=by rw[← hW4];simp
   have HB4:Hid (Below wr.heap.size wr W4):=by show Below _ _ _;rw[← hW4];exact belr
   have HA4:Hid (W4.heap[wr.heap.size]? = some (.cells #[.int .i64 ze.op,.int .i64 ze.n,.string ze.name,.slice za ze.args.length zc,.string zw] 191 (0,0))):=by
    show _=_;rw[← hW4]
    exact hx_new rfl
   clear hW4
   refine(HFr.out W4 (HBw.out.trans (HB4.out.mono (by omega)))).mono ?_
   rintro r w5 ⟨⟨x',bw,br,rfl,hN5⟩,hb5⟩
   have hz5:=hb5.size
   have HN5:=Lib.hid hN5
   have HA5:Hid (w5.heap[wr.heap.size]? = some (.cells #[.int .i64 ze.op,.int .i64 ze.n,.string ze.name,.slice za ze.args.length zc,.string zw] 191 (0,0))):=hx_below hb5 HA4.out
   have HBr5:Hid (Below wr.heap.size wr w5):=HB4.out.trans (hb5.mono HB4.out.size)
   clear hN5 hb5
   go_upto_region 9 with fail
   generalize hW6:w5.alloc (.cells #[.string d.name,.slice x'.ai d.inputs.length x'.ci,.slice x'.aw d.wires.length x'.cw,.slice x'.ar d.regs.length x'.cr,.slice x'.ao d.outputs.length x'.co] 27)=W6
   have hz6:w5.heap.size+1≤W6.heap.size:=by rw[← hW6];simp
   have HB6:Hid (Below w5.heap.size w5 W6):=by show Below _ _ _;rw[← hW6];exact belr
   have HX6:Hid (W6.heap[w5.heap.size]? = some (.cells #[.string d.name,.slice x'.ai d.inputs.length x'.ci,.slice x'.aw d.wires.length x'.cw,.slice x'.ar d.regs.length x'.cr,.slice x'.ao d.outputs.length x'.co] 27 (0,0))):=by
    show _=_;rw[← hW6]
    exact hx_new rfl
   clear hW6
   have HA6:Hid (W6.heap[wr.heap.size]? = some (.cells #[.int .i64 ze.op,.int .i64 ze.n,.string ze.name,.slice za ze.args.length zc,.string zw] 191 (0,0))):=hx_below HB6.out HA5.out
   have HBr6:Hid (Below wr.heap.size wr W6):=HBr5.out.trans (HB6.out.mono HBr5.out.size)
   have HN6:Hid (NewA W6 W4.heap.size d x' bw br):=NewD.keep HN5.out (hk_plain HB6.out)
   obtain⟨bb,hbw,haw',hB1,hB2,hfr,hne⟩:=NewD.rblock HN6.out (by omega)
   have hb5':=(HN5.out.regs.lt bb hbw).2
   obtain⟨_,_,_,hsl⟩:=HN6.out.regs
   obtain⟨bb',hbw',-,-,hrow⟩:=hsl.resolve_left (by omega)
   rw[hbw] at hbw'
   obtain rfl:=Option.some.inj hbw'
   have hcw':=hrow.le
   obtain⟨f,⟨v,ae',ce',g0,g1,g2,gi,g3,g4,g5,g6,g7⟩,hf⟩:=hrow.get hi
   have r0:=hf 3 _ g3
   have r1:=hf 4 _ g4
   have r2:=hf 5 _ g5
   have r3:=hf 6 _ g6
   have hcwi':(d.regs.length:Int)≤(x'.cr:Int):=by omega
   have Hbw:=Lib.hid hbw
   have hnx:w5.heap.size≠bb:=by omega
   have HXe':=HX6.out
   rw[haw'] at HXe'
   have HALL:Hid (∀ w',W6.grownBy w' (some bb)→w'.cell? ⟨w5.heap.size,3,none⟩=some (.slice (some ⟨bb,0,none⟩) d.regs.length x'.cr)∧w'.cell? ⟨wr.heap.size,0,none⟩=some (.int .i64 ze.op)∧w'.cell? ⟨wr.heap.size,1,none⟩=some (.int .i64 ze.n)∧w'.cell? ⟨wr.heap.size,2,none⟩=some (.string ze.name)∧w'.cell? ⟨wr.heap.size,3,none⟩=some (.slice za ze.args.length zc)):=fun w' h=>by
    obtain⟨_,_,_,b2,_⟩:=cell5 (gr_blk h HXe' (fun e=>hnx (Option.some.inj e).symm))
    obtain⟨c0,c1,c2,c3,_⟩:=cell5 (gr_blk h HA6.out (fun e=>by have:=Option.some.inj e;omega))
    exact⟨b2,c0,c1,c2,c3⟩
   have HC:=Lib.hid (fun W (hW:Below W6.heap.size W6 W)=>HCo.out ze za zc W (HXv.out.keep (keeps_of_below (HBr6.out.trans (hW.mono HBr6.out.size)))))
   have Haw':=Lib.hid haw'
   have hG6:W6.grownBy W6 (some bb):=gr_refl _ _
   clear g0 g1 g2 gi g3 g4 g5 g6 g7 hf hrow hsl hbw haw' hne HXe'
   obtain⟨y0,y1,y2,y3,y4⟩:=HALL.out _ hG6
   go_region_held3 (fun w'=>W6.grownBy w' (some bb)∧w'.cell? ⟨w5.heap.size,3,none⟩=some (.slice (some ⟨bb,0,none⟩) d.regs.length x'.cr)∧w'.cell? ⟨wr.heap.size,0,none⟩=some (.int .i64 ze.op)∧w'.cell? ⟨wr.heap.size,1,none⟩=some (.int .i64 ze.n)∧w'.cell? ⟨wr.heap.size,2,none⟩=some (.string ze.name)∧w'.cell? ⟨wr.heap.size,3,none⟩=some (.slice za ze.args.length zc))
    ((refine(fun h=>⟨h,HALL.out _ h⟩) ?_;repeat (first | with_reducible assumption | with_reducible exact gr_refl _ _ | with_reducible refine gr_drew ?_ | with_reducible refine gr_set ?_)))
    ((go_at_call 69;(with_reducible refine(HC.out _ belr).mono ?_);rintro r w7 ⟨⟨a7,c7,rfl,hx7⟩,hb7⟩;have hG7:=gr_below (gr_drew hG6) hb7;have p0:=keeps_of_below hb7 _ _ r0;have p1:=keeps_of_below hb7 _ _ r1;have p2:=keeps_of_below hb7 _ _ r2;have p3:=keeps_of_below hb7 _ _ r3;have pf:=fun j=>(hb7.frozen (p:=⟨bb,j,none⟩) hB2).trans (hfr j)))
   have hb67:Below W6.heap.size W6 w7:=(Below.drew (Below.refl _ _)).trans hb7
   have hN8:NewA ((((w7.setCell ⟨bb,i * 7+3,none⟩ (.int .i64 ze.op)).setCell ⟨bb,i * 7+3+1,none⟩ (.int .i64 ze.n)).setCell ⟨bb,i * 7+3+2,none⟩ (.string ze.name)).setCell ⟨bb,i * 7+3+3,none⟩ (.slice a7 ze.args.length c7)) W4.heap.size (d.setNext i ze) x' bw br:=by
    have h:=NewD.setR (kr':=d.regs.length) (NewD.keep HN6.out (hk_plain hb67)) Hbw.out hi (e:=ze) (a:=a7) (c:=c7) (hx7.keep (hk_mono fun j hj=>old_true.2 (by
     rw[if_pos hi] at hj
     show j < W6.heap.size
     rcases newP_true.1 hj with h | h | h
     ·omega
     ·exact(HN6.out.wires.lt j h).2
     ·exact(HN6.out.regs.lt j h).2)).cell) (fun j hj=>Or.inl hj) (Nat.le_refl _)
    show NewD _ _ (d.setNext i ze).wires.length (d.setNext i ze).regs.length _ _ _ _
    rw[set_regs]
    exact h
   have hG8:W6.grownBy ((((w7.setCell ⟨bb,i * 7+3,none⟩ (.int .i64 ze.op)).setCell ⟨bb,i * 7+3+1,none⟩ (.int .i64 ze.n)).setCell ⟨bb,i * 7+3+2,none⟩ (.string ze.name)).setCell ⟨bb,i * 7+3+3,none⟩ (.slice a7 ze.args.length c7)) (some bb):=gr_set (gr_set (gr_set (gr_set hG7)))
   generalize ((((w7.setCell ⟨bb,i * 7+3,none⟩ (.int .i64 ze.op)).setCell ⟨bb,i * 7+3+1,none⟩ (.int .i64 ze.n)).setCell ⟨bb,i * 7+3+2,none⟩ (.string ze.name)).setCell ⟨bb,i * 7+3+3,none⟩ (.slice a7 ze.args.length c7))=W8 at hN8 hG8⊢
   have HN8:=Lib.hid hN8
   have hz8:=hG8.size
   have HBr8:Hid (Below wr.heap.size wr W8):=gr_bel HBr6.out hG8 (by omega) (fun k hk=>by have:=Option.some.inj hk;omega)
   have HBw8:Hid (Below w.heap.size w W8):=HBw.out.trans (HBr8.out.mono (by omega))
   have HX8:Hid (W8.heap[w5.heap.size]? = some (.cells #[.string d.name,.slice x'.ai d.inputs.length x'.ci,.slice x'.aw d.wires.length x'.cw,.slice x'.ar d.regs.length x'.cr,.slice x'.ao d.outputs.length x'.co] 27 (0,0))):=gr_blk hG8 HX6.out (fun e=>hnx (Option.some.inj e).symm)
   have HA8:Hid (W8.heap[wr.heap.size]? = some (.cells #[.int .i64 ze.op,.int .i64 ze.n,.string ze.name,.slice za ze.args.length zc,.string zw] 191 (0,0))):=gr_blk hG8 HA6.out (fun e=>by have:=Option.some.inj e;omega)
   have HD8:Hid (W8.heap[w.heap.size]? = some (.cells #[.string d.name,.slice x.ai d.inputs.length x.ci,.slice x.aw d.wires.length x.cw,.slice (some ⟨bW,oW,none⟩) d.regs.length x.cr,.slice x.ao d.outputs.length x.co] 27 (0,0))):=hx_below HBr8.out (hx_below HB1r.out HX1.out)
   clear hN8 hG8 hG7 hb7 hb67 hx7 p0 p1 p2 p3 pf r0 r1 r2 r3 y0 y1 y2 y3 y4 hG6 HC HALL hfr HD8 HBw8
   obtain⟨b0,b1,b2,b3,b4,_⟩:=cell5 HX8.out
   obtain⟨_,_,_,_,d4,_⟩:=cell5 HA8.out
   have hOr:=Lib.hid (HO.out.below (mutP_keep _) HBr8.out)
   have hn4:¬ 9223372036854775807 < 4+wi.name.size+1+zw.size:=by omega
   have hz18:W1.heap.size≤W8.heap.size:=by have:=HBr8.out.size;omega
   have HAP:Hid (∀ {ops:Array Oper} {rest:List Oper} {o:Oper} {a:Act} {Q:Exit→Act→World→Prop},o.guard=none→o.op=.call { callee:=.builtin .append,args:=#[.tmp 57,.tmp 64],argTypes:=#[94, 94] }→a.eval (.tmp 57)=.slice va L.length vc→a.eval (.tmp 64)=.slice (some ⟨W8.heap.size,0,none⟩) 1 1 →
     (∀ g cap w',w'.ownsRow W1.heap.size 98 6 (.slice (some ⟨g,0,none⟩) (L.length+1) cap) (L.length+1) (L.flatMap mutCells++[.string d.name,.slice x'.ai d.inputs.length x'.ci,.slice x'.aw d.wires.length x'.cw,.slice x'.ar d.regs.length x'.cr,.slice x'.ao d.outputs.length x'.co,.string ((((ByteArray.mk #[114,101,103,32])++wi.name)++⟨#[32]⟩)++zw)])→(W8.alloc (.cells #[.string d.name,.slice x'.ai d.inputs.length x'.ci,.slice x'.aw d.wires.length x'.cw,.slice x'.ar d.regs.length x'.cr,.slice x'.ao d.outputs.length x'.co,.string ((((ByteArray.mk #[114,101,103,32])++wi.name)++⟨#[32]⟩)++zw)] 98)).grownBy w' (Value.slice va L.length vc).ownBlock→((Value.slice va L.length vc).ownBlock=some g∨W8.heap.size < g)→wpList Tryz.prog ops Q rest (a.put o.dst (.slice (some ⟨g,0,none⟩) (L.length+1) cap)) w') →
     wpList Tryz.prog ops Q (o::rest) a (W8.alloc (.cells #[.string d.name,.slice x'.ai d.inputs.length x'.ci,.slice x'.aw d.wires.length x'.cw,.slice x'.ar d.regs.length x'.cr,.slice x'.ao d.outputs.length x'.co,.string ((((ByteArray.mk #[114,101,103,32])++wi.name)++⟨#[32]⟩)++zw)] 98))):=fun hgd ho hs hx h =>
    own_appx elemMut W8 hgd _ _ ho W1.heap.size _ L.length _ hs hOr.out.own [.string d.name,.slice x'.ai d.inputs.length x'.ci,.slice x'.aw d.wires.length x'.cw,.slice x'.ar d.regs.length x'.cr,.slice x'.ao d.outputs.length x'.co,.string ((((ByteArray.mk #[114,101,103,32])++wi.name)++⟨#[32]⟩)++zw)] 1 _ 1 rfl (by simp[Value.oneCell']) hx rfl (by omega) (by omega) hz18 h
   go_wp2_with (at_builtin;go_must (refine HAP.out rfl rfl rfl rfl ?_))
   intro g gcap wg hownG hgrow hatG
   have hbX:Below W8.heap.size W8 (W8.alloc (.cells #[.string d.name,.slice x'.ai d.inputs.length x'.ci,.slice x'.aw d.wires.length x'.cw,.slice x'.ar d.regs.length x'.cr,.slice x'.ao d.outputs.length x'.co,.string ((((ByteArray.mk #[114,101,103,32])++wi.name)++⟨#[32]⟩)++zw)] 98)):=(Below.refl _ W8).alloc (Nat.le_refl _) _
   have hcl:mutCells (d.setNext i ze,x',regT wi.name zw)=[.string d.name,.slice x'.ai d.inputs.length x'.ci,.slice x'.aw d.wires.length x'.cw,.slice x'.ar d.regs.length x'.cr,.slice x'.ao d.outputs.length x'.co,.string ((((ByteArray.mk #[114,101,103,32])++wi.name)++⟨#[32]⟩)++zw)]:=by
    unfold mutCells
    simp only[set_regs]
    rfl
   have hat2:(Value.slice va L.length vc).ownBlock=some g∨(W8.alloc (.cells #[.string d.name,.slice x'.ai d.inputs.length x'.ci,.slice x'.aw d.wires.length x'.cw,.slice x'.ar d.regs.length x'.cr,.slice x'.ao d.outputs.length x'.co,.string ((((ByteArray.mk #[114,101,103,32])++wi.name)++⟨#[32]⟩)++zw)] 98)).heap.size≤g:=hatG.imp id fun h=>by rw[World.size_alloc];omega
   have HOg:Hid (OwnM wg W1.heap.size (.slice (some ⟨g,0,none⟩) (L.length+1) gcap) (L++[(d.setNext i ze,x',regT wi.name zw)])) :=
    mut_add HO.out HBr8.out hbX HN8.out (by omega) (by omega) hgrow hat2 (by rw[hcl];exact hownG)
   have HBg:Hid (Below W1.heap.size W1 wg):=gr_bel (HB.out.trans ((HBr8.out.trans (hbX.mono HBr8.out.size)).mono hzr)) hgrow (by have:=hbX.size;omega) (fun k hk=>(HVo.out k hk).1)
   have HVg:=Lib.hid (HV.out.keep ((hk_below (q:=besP (fun _=>false) (.slice va L.length vc)) (HBr8.out.trans (hbX.mono HBr8.out.size)) fun _ _ h=>h).trans (app_hk (n:=L.length+1) (cap:=gcap) hgrow hat2 _)).cell)
   have HLg:Hid ((L++[(d.setNext i ze,x',regT wi.name zw)]:List MA).map mutOf=(d.setInit i,regT wi.name initT)::(LV.take (m+1)).map fun y=>(d.setNext i y.1,regT wi.name y.2.2.2)):=by
    show _=_
    rw[List.map_append,HL.out,HLk.out]
    rfl
   clear hbX hcl hownG hgrow hatG hat2 b0 b1 b2 b3 b4 d4
   go_wp2_with fail
   go_roundw
   case rel=>exact⟨m+1,L++[(d.setNext i ze,x',regT wi.name zw)],by go_num,by omega,HLg,HOg,HVg,HBg⟩
   case measure=>(simp[intOf];try omega)
  ·obtain rfl:m=LV.length:=by omega
   have hmm:L.map mutOf=WM:=by
    rw[HL.out,List.take_length,HM.out,← HmV.out,List.map_map]
    rfl
   have HP':Hid (∀ v W,OwnM W w.heap.size v L→Below w.heap.size w W→Po (.returned v) W):=fun v W h1 h2=>HP.out v L W h1 hmm h2
   have HO':Hid (OwnM wr w.heap.size (.slice va L.length vc) L):=HO.out.imp (by omega) fun y _ ⟨bw,br,h⟩=>⟨bw,br,NewD.mono h (by omega)⟩
   clear hmm
   go_wp2_with fail
   first | exact HP'.out _ _ HO'.out HBw.out | (go_ret;exact HP'.out _ _ HO'.out HBw.out)
end Go.Proofs.YtebneadheaefdaaGreatDoor
