/- ref34.all: all sites that count, in order. -/
import Derived.Test.YtebneadheaefdaaGreatDoorFK
set_option linter.unusedSimpArgs false
set_option linter.unusedVariables false
set_option linter.unnecessarySimpa false
namespace Go.Proofs.YtebneadheaefdaaGreatDoor
open Go.RowKit
attribute [local go_sem ↓] Go.wp_at_zero Go.wp_at_succ
def AllPost (p:Nat→Bool) (w:World) (d:DesD) (r:Ending) (w':World):Prop:=(∃ v L,r=.returned v∧OwnSi w' w.heap.size p v L∧L.map siteOf=mutL d)∧Below w.heap.size w w'
theorem kd_no {kd:ByteArray} (h:kd=.empty):(!kd.toList.isEmpty)=false:=by rw[h,ByteArray.toList_eq];rfl
theorem kd_yes {kd:ByteArray} (h:¬ kd=.empty):(!kd.toList.isEmpty)=true:=by
 cases hb:kd.toList.isEmpty with
 | false=>rfl
 | true =>
  have h1:=List.isEmpty_iff.1 hb
  rw[ByteArray.toList_eq] at h1
  exact absurd (ByteArray.ext (Array.toList_inj.1 (by simpa using h1))) h
set_option maxHeartbeats 32000000 in
set_option maxRecDepth 100000 in
theorem rall_any (p:Nat→Bool) (d:DesD) (x:DesA) (w:World) (hp:∀ k,p k=true→k < w.heap.size) (hE:DesIn (World.hide w p) d x) (hs:DesSmall d) (he:d.err=0) :
  Calls Tryz.prog 61 #[desVal d x] w (AllPost p w d):=by
 have hl:=hs.len
 have HP:Hid (∀ v L W,OwnSi W w.heap.size p v L→L.map siteOf=mutL d→Below w.heap.size w W→AllPost p w d (.returned v) W):=fun v L W h1 h2 h3=>⟨⟨v,L,rfl,h1,h2⟩,h3⟩
 have HE:=Lib.hid hE
 have HHp:=Lib.hid hp
 have hpx:p w.heap.size=false:=by
  cases e:p w.heap.size with
  | false=>rfl
  | true=>have:=hp _ e;omega
 have HEw:Hid (d.wires.length=0∨∃ b off,x.aw=some ⟨b,off,none⟩):=hE.wires.addr
 have HEr:Hid (d.regs.length=0∨∃ b off,x.ar=some ⟨b,off,none⟩):=hE.regs.addr
 have hcw:=hE.wires.1
 have hcr:=hE.regs.1
 have hcwi:(d.wires.length:Int)≤x.cw:=by omega
 have hcri:(d.regs.length:Int)≤x.cr:=by omega
 have HW0:Hid (mutW d 0=[]):=rfl
 have HR0:Hid (mutR d 0=mutW d d.wires.length):=mutR_zero d
 have HRe:Hid (mutR d d.regs.length=mutL d):=mutR_all d
 have HWl:Hid (∀ k,k≤d.wires.length→(mutW d k).length≤20000):=fun k hk=>mutW_20k he hk
 have HRl:Hid (∀ k,k≤d.regs.length→(mutR d k).length≤20000):=fun k hk=>mutR_20k he hk
 have hn16:d.name.size≤16:=name_16 he
 have HSm:=Lib.hid hs
 have He:=Lib.hid he
 have HAW:Hid (∀ i (hi:i < d.wires.length),accW d i 0=mutW d i∧accW d i (d.wires[i]'hi).expr.nodes.length=mutW d (i+1)∧(d.wires[i]'hi).expr.nodes.length≤400∧OkE (d.wires[i]'hi).expr∧(∀ k,k≤(d.wires[i]'hi).expr.nodes.length→(accW d i k).length≤21000)∧(d.wires[i]'hi).name.size≤1073741824 ∧
   ∀ k (hk:k < (d.wires[i]'hi).expr.nodes.length),(kindS ((d.wires[i]'hi).expr.nodes[k]'hk).op=.empty→accW d i (k+1)=accW d i k)∧(¬ kindS ((d.wires[i]'hi).expr.nodes[k]'hk).op=.empty→(∀ j,j≤65535→DesSmall ((d.setWire i (withS (d.wires[i]'hi).expr k)).named j)) ∧
    accW d i (k+1)=addM (accW d i k) (d.setWire i (withS (d.wires[i]'hi).expr k),(((((⟨#[119,105,114,101,32]⟩++(d.wires[i]'hi).name)++⟨#[32]⟩)++fmtS k)++⟨#[32]⟩)++kindS ((d.wires[i]'hi).expr.nodes[k]'hk).op)))):=fun i hi=>by
  refine⟨accW_zero d i,accW_all hi,expr_400 he _ (wire_mem hi),okE_of he _ (wire_mem hi),fun k hk=>accW_len he hi hk,hs.names _ (by unfold DesD.names;simp only[List.mem_append,List.mem_map];exact Or.inl (Or.inr ⟨_,List.getElem_mem hi,rfl⟩)),fun k hk=>⟨accW_no hi hk,fun h=>⟨fun j hj=>?_,?_⟩⟩⟩
  ·have h1:=with_nodes (d.wires[i]'hi).expr hk h
   have h2:=expr_400 he _ (wire_mem hi)
   exact small_named (small_setW hs i (by omega)) (show d.name.size≤16 from hn16) hj
  ·rw[accW_yes hi hk h,wireT_ref]
 have HAR:Hid (∀ i (hi:i < d.regs.length),accR d i 0=addM (mutR d i) (d.setInit i,((⟨#[114,101,103,32]⟩++(d.regs[i]'hi).name)++⟨#[32,105,110,105,116]⟩))∧accR d i (d.regs[i]'hi).next.nodes.length=mutR d (i+1)∧(d.regs[i]'hi).next.nodes.length≤400∧OkE (d.regs[i]'hi).next∧(∀ k,k≤(d.regs[i]'hi).next.nodes.length→(accR d i k).length≤21000)∧(d.regs[i]'hi).name.size≤1073741824∧(0≤(d.regs[i]'hi).init∧(d.regs[i]'hi).init≤65535)∧(∀ j,j≤65535→DesSmall ((d.setInit i).named j))∧({ d with regs:=d.regs.set i { (d.regs[i]'hi) with init:=flipI (d.regs[i]'hi).init } }:DesD)=d.setInit i ∧
   ∀ k (hk:k < (d.regs[i]'hi).next.nodes.length),(kindS ((d.regs[i]'hi).next.nodes[k]'hk).op=.empty→accR d i (k+1)=accR d i k)∧(¬ kindS ((d.regs[i]'hi).next.nodes[k]'hk).op=.empty→(∀ j,j≤65535→DesSmall ((d.setNext i (withS (d.regs[i]'hi).next k)).named j))∧({ d with regs:=d.regs.set i { (d.regs[i]'hi) with next:=withS (d.regs[i]'hi).next k } }:DesD)=d.setNext i (withS (d.regs[i]'hi).next k) ∧
    accR d i (k+1)=addM (accR d i k) (d.setNext i (withS (d.regs[i]'hi).next k),(((((⟨#[114,101,103,32]⟩++(d.regs[i]'hi).name)++⟨#[32]⟩)++fmtS k)++⟨#[32]⟩)++kindS ((d.regs[i]'hi).next.nodes[k]'hk).op)))):=fun i hi=>by
  have h2:=expr_400 he _ (reg_mem hi)
  refine⟨by rw[accR_zero hi,regT_init],accR_all hi,h2,okE_of he _ (reg_mem hi),fun k hk=>accR_len he hi hk,hs.names _ (by unfold DesD.names;simp only[List.mem_append,List.mem_map];exact Or.inr ⟨_,List.getElem_mem hi,rfl⟩),init_16 he _ (List.getElem_mem hi),fun j hj=>small_named (small_setI hs i) (show d.name.size≤16 from hn16) hj,setInit_set d hi,fun k hk=>⟨accR_no hi hk,fun h=>⟨fun j hj=>?_,setNext_set d hi _,?_⟩⟩⟩
  ·have h1:=with_nodes (d.regs[i]'hi).next hk h
   exact small_named (small_setN hs i (by omega)) (show d.name.size≤16 from hn16) hj
  ·rw[accR_yes hi hk h,regT_ref]
 clear hE hs he hp
 generalize mutL d=ML at HP HRe
 generalize AllPost p w d=Po at HP⊢
 show Calls _ _ #[desVal d x] _ _
 simp only[desVal,desVals]
 go_enter Tryz.func61, Tryz.ntmps61
 go_upto_region 1 with fail
 generalize hW1:w.alloc (.cells #[.string d.name,.slice x.ai d.inputs.length x.ci,.slice x.aw d.wires.length x.cw,.slice x.ar d.regs.length x.cr,.slice x.ao d.outputs.length x.co] 27)=W1
 have hz1:w.heap.size+1≤W1.heap.size:=by rw[← hW1];simp
 have HB1:Hid (Below w.heap.size w W1):=by show Below _ _ _;rw[← hW1];exact belr
 have HX1:Hid (W1.heap[w.heap.size]? = some (.cells #[.string d.name,.slice x.ai d.inputs.length x.ci,.slice x.aw d.wires.length x.cw,.slice x.ar d.regs.length x.cr,.slice x.ao d.outputs.length x.co] 27 (0,0))):=by
  show _=_;rw[← hW1]
  exact hx_new rfl
 clear hW1
 have HBX:Hid (∀ w',Below W1.heap.size W1 w'→w'.cell? ⟨w.heap.size,0,none⟩=some (.string d.name)∧w'.cell? ⟨w.heap.size,1,none⟩=some (.slice x.ai d.inputs.length x.ci)∧w'.cell? ⟨w.heap.size,2,none⟩=some (.slice x.aw d.wires.length x.cw)∧w'.cell? ⟨w.heap.size,3,none⟩=some (.slice x.ar d.regs.length x.cr)∧w'.cell? ⟨w.heap.size,4,none⟩=some (.slice x.ao d.outputs.length x.co)):=fun w' h=>by
  obtain⟨b0,b1,b2,b3,b4,_⟩:=cell5 (hx_below h HX1.out)
  exact⟨b0,b1,b2,b3,b4⟩
 have HO1:Hid (OwnSi W1 W1.heap.size p (.slice none 0 0) []):=OwnR.nil _ _ _ _ _ _
 have HBr:Hid (Below W1.heap.size W1 W1):=Below.refl _ _
 go_wp2_with fail
 go_loopw [4,3] (fun i v wr=>∃ (k:Nat) (L:List SA),i=.int .i64 k∧k≤d.wires.length∧Hid (L.map siteOf=mutW d k)∧Hid (OwnSi wr W1.heap.size p v L)∧Hid (Below W1.heap.size W1 wr)) (fun i _ _=>d.wires.length - (intOf i).toNat)
 case atStart=>exact⟨0,[],rfl,Nat.zero_le _,HW0.out.symm,HO1,HBr⟩
 case round =>
  obtain⟨i,L,rfl,hi,HL,HO,HB⟩:=hrel
  have hLl:L.length≤20000:=by have h1:=congrArg List.length HL.out;have h2:=HWl.out i hi;simp at h1;omega
  obtain⟨va,vc,rfl,-,-,-⟩:=HO.out.slice (by omega)
  have hzr:=HB.out.size
  obtain⟨b0,b1,b2,b3,b4⟩:=HBX.out _ HB.out
  by_cases hlt:i < d.wires.length
  ·have hlti:(i:Int) < d.wires.length:=by omega
   obtain⟨bW,oW,haw⟩:=HEw.out.resolve_left (by omega)
   have HBXw:Hid (∀ w',Below W1.heap.size W1 w'→w'.cell? ⟨w.heap.size,0,none⟩=some (.string d.name)∧w'.cell? ⟨w.heap.size,1,none⟩=some (.slice x.ai d.inputs.length x.ci)∧w'.cell? ⟨w.heap.size,2,none⟩=some (.slice (some ⟨bW,oW,none⟩) d.wires.length x.cw)∧w'.cell? ⟨w.heap.size,3,none⟩=some (.slice x.ar d.regs.length x.cr)∧w'.cell? ⟨w.heap.size,4,none⟩=some (.slice x.ao d.outputs.length x.co)):=fun w' h=>by
    have h1:=HBX.out w' h
    rw[haw] at h1
    exact h1
   have HBw:Hid (Below w.heap.size w wr):=HB1.out.trans (HB.out.mono (by omega))
   obtain⟨ae,ce,G0,-,G2,G3,G4,G5,hXe⟩:=HE.out.wires.get haw hlt
   have hqo:∀ k,k < w.heap.size→besP p (.slice va L.length vc) k=true→p k=true:=fun k hk h=>by
    rcases besP_true.1 h with h | h
    ·exact h
    ·have:=(HO.out.own.lt k h).1
     omega
   have hold:=hide_below (p:=p) (q:=besP p (.slice va L.length vc)) HBw.out hqo
   have HXe:=Lib.hid (hXe.keep hold)
   obtain⟨hA0,hAe,h400,hok,hAl,hnmw,HAk⟩:=HAW.out i hlt
   have HAl:=Lib.hid hAl
   have HAk:=Lib.hid HAk
   have HA0:=Lib.hid hA0
   have HAe:=Lib.hid hAe
   have HVw:Hid (d.wires[i]'hlt=d.wires[i]'hlt):=rfl
   have g2:=hide_cell _ _ (hold _ _ G2)
   have g3:=hide_cell _ _ (hold _ _ G3)
   have g4:=hide_cell _ _ (hold _ _ G4)
   have g5:=hide_cell _ _ (hold _ _ G5)
   have HG:=Lib.hid (⟨G0,G2,G3,G4,G5⟩:_∧_∧_∧_∧_)
   have HXo:=Lib.hid hXe
   clear G0 G2 G3 G4 G5 hXe hA0 hAe hAl HVw hqo hold
   have HCN:=Lib.hid (site_nodes HO.out (fun k hk=>by have:=HHp.out k hk;omega) (d.wires[i]'hlt).expr HXe.out (by omega))
   generalize (d.wires[i]'hlt)=wi at HXe HXo HAk HA0 HAl HAe h400 hok hnmw g2 g3 g4 g5 HG HCN
   have Hok:=Lib.hid hok
   clear hok
   simp only[exVal] at HCN
   rw[haw] at b2
   have Haw:=Lib.hid haw
   clear haw
   go_wp2_with fail
   refine HCN.out.mono ?_
   rintro r w2 ⟨⟨la,lc,rfl,hN⟩,hb2⟩
   have HN:=Lib.hid hN
   have HO2:=Lib.hid (HO.out.below (siteP_keep p) hb2)
   have HB2:Hid (Below W1.heap.size W1 w2):=HB.out.trans (hb2.mono hzr)
   have HL2:Hid (L.map siteOf=accW d i 0):=HL.out.trans HA0.out.symm
   have HNa:Hid (wi.expr.nodes.length=0∨∃ b off,la=some ⟨b,off,none⟩):=hN.addr
   have hcl:=hN.1
   have hcli:(wi.expr.nodes.length:Int)≤lc:=by omega
   clear hN hb2 HCN b0 b1 b2 b3 b4 g2 g3 g4 g5 HXe HO HB HL hLl HBw hzr
   generalize hns:wi.expr.nodes=ns at HAk HAl HAe h400 HN HNa hcl hcli
   have Hns:=Lib.hid hns
   clear hns
   go_wp2_with fail
   go_loopw [6,3] (fun j v wq=>∃ (k:Nat) (L:List SA),j=.int .i64 k∧k≤ns.length∧L.length≤21000∧Hid (L.map siteOf=accW d i k)∧Hid (OwnSi wq W1.heap.size p v L)∧Hid (ExsIn (World.hide wq (besP p v)) ns la lc)∧Hid (Below W1.heap.size W1 wq)) (fun j _ _=>ns.length - (intOf j).toNat)
   case atStart=>exact⟨0,L,rfl,Nat.zero_le _,by have h1:=congrArg List.length HL2.out;rw[HA0.out] at h1;have h2:=HWl.out i hi;simp at h1;omega,HL2,HO2,HN,HB2⟩
   case round =>
    rename World=>wq
    clear HL2 HO2 HN HB2
    obtain⟨k,L,rfl,hk,hLl,HL,HO,HN,HB⟩:=hrel
    obtain⟨va,vc,rfl,-,-,-⟩:=HO.out.slice (by omega)
    have hzr:=HB.out.size
    by_cases hkl:k < ns.length
    ·have hkli:(k:Int) < ns.length:=by omega
     obtain⟨bN,oN,hla⟩:=HNa.out.resolve_left (by omega)
     subst hla
     obtain⟨na,nc,n0,n1,n2,n3,-⟩:=HN.out.get rfl hkl
     have HNc:=Lib.hid (⟨n0,n1,n2,n3⟩:_∧_∧_∧_)
     have n0:=hide_cell _ _ n0
     have n1:=hide_cell _ _ n1
     have n2:=hide_cell _ _ n2
     have n3:=hide_cell _ _ n3
     obtain⟨hno,hyes⟩:=HAk.out k hkl
     have hno:=Lib.hid hno
     have hyes:=Lib.hid hyes
     generalize (ns[k]'hkl)=nd at HNc n0 n1 n2 n3 hno hyes
     have HKi:=Lib.hid (fun a c W=>kind_any nd.op nd.n nd.name nd.args.length a c W)
     have hkd9:=kind_9 nd.op
     generalize kindS nd.op=kd at HKi hkd9 hno hyes
     go_wp2_with fail
     refine(HKi.out na nc wq).mono ?_
     rintro r w3 ⟨rfl,hb3⟩
     go_upto_if 37 with fail
     have hz3:=hb3.size
     have hzW3:W1.heap.size≤w3.heap.size:=by omega
     have HO3:=Lib.hid (HO.out.below (siteP_keep p) hb3)
     have HB3:Hid (Below W1.heap.size W1 w3):=HB.out.trans (hb3.mono hzr)
     have hk3:=hide_below (p:=besP p (.slice va L.length vc)) (q:=besP p (.slice va L.length vc)) hb3 fun _ _ h=>h
     have HN3:=Lib.hid (HN.out.keep hk3)
     have HNc3:=Lib.hid (⟨hk3 _ _ HNc.out.1,hk3 _ _ HNc.out.2.1,hk3 _ _ HNc.out.2.2.1,hk3 _ _ HNc.out.2.2.2⟩:_∧_∧_∧_)
     clear HO HB HN HNc hb3 n0 n1 n2 n3 hk3 hzr
     by_cases hk0:kd=.empty
     ·have HLn:Hid (L.map siteOf=accW d i (k+1)):=HL.out.trans (hno.out hk0).symm
      have hkb:=kd_no hk0
      rw[hkb]
      clear hk0 hkb hno hyes
      go_wp2_with fail
      go_roundw
      case rel=>exact⟨k+1,L,by go_num,by omega,hLl,HLn,HO3,HN3,HB3⟩
      case measure=>(simp[intOf];try omega)
     ·obtain⟨hsm,hacc⟩:=hyes.out hk0
      have Hacc:=Lib.hid hacc
      have hkb:=kd_yes hk0
      rw[hkb]
      clear hk0 hkb hno hyes hacc
      have hBw3:Below w.heap.size w w3:=HB1.out.trans (HB3.out.mono (by omega))
      have hqo:∀ j,j < w.heap.size→besP p (.slice va L.length vc) j=true→p j=true:=fun j hj h=>by
       rcases besP_true.1 h with h | h
       ·exact h
       ·have:=(HO3.out.own.lt j h).1
        omega
      have hold:=hide_below (p:=p) (q:=besP p (.slice va L.length vc)) hBw3 hqo
      have hDe:=HE.out.keep hold
      have hXe:ExIn (World.hide w3 (besP p (.slice va L.length vc))) wi.expr ae ce:=HXo.out.keep hold
      have hboxc:=HBXw.out _ HB3.out
      have hqx:besP p (.slice va L.length vc) w.heap.size=false:=by
       cases e:besP p (.slice va L.length vc) w.heap.size with
       | false=>rfl
       | true =>
        rcases besP_true.1 e with h | h
        ·rw[hpx] at h;simp at h
        ·have:=(HO3.out.own.lt _ h).1;omega
      have HALL:Hid (∀ w',w3.grownBy w' (Value.slice va L.length vc).ownBlock→w'.cell? ⟨w.heap.size,0,none⟩=some (.string d.name)∧w'.cell? ⟨w.heap.size,1,none⟩=some (.slice x.ai d.inputs.length x.ci)∧w'.cell? ⟨w.heap.size,2,none⟩=some (.slice (some ⟨bW,oW,none⟩) d.wires.length x.cw)∧w'.cell? ⟨w.heap.size,3,none⟩=some (.slice x.ar d.regs.length x.cr)∧w'.cell? ⟨w.heap.size,4,none⟩=some (.slice x.ao d.outputs.length x.co)∧w'.cell? ⟨bW,oW+i * 6,none⟩=some (.string wi.name)∧w'.cell? ⟨bW,oW+i * 6+2,none⟩=some (.int .i64 wi.expr.op)∧w'.cell? ⟨bW,oW+i * 6+3,none⟩=some (.int .i64 wi.expr.n)∧w'.cell? ⟨bW,oW+i * 6+4,none⟩=some (.string wi.expr.name)∧w'.cell? ⟨bW,oW+i * 6+5,none⟩=some (.slice ae wi.expr.args.length ce)∧w'.cell? ⟨bN,oN+k * 4,none⟩=some (.int .i64 nd.op)∧w'.cell? ⟨bN,oN+k * 4+1,none⟩=some (.int .i64 nd.n)∧w'.cell? ⟨bN,oN+k * 4+2,none⟩=some (.string nd.name)∧w'.cell? ⟨bN,oN+k * 4+3,none⟩=some (.slice na nd.args.length nc)):=fun w' hg=>by
       have hc:=fun a u h=>gr_hcell hg besP_row (q:=besP p (.slice va L.length vc)) (a:=a) (u:=u) h
       obtain⟨c0,c1,c2,c3,c4⟩:=hboxc
       exact⟨hc _ _ (cell_hide.2 ⟨hqx,c0⟩),hc _ _ (cell_hide.2 ⟨hqx,c1⟩),hc _ _ (cell_hide.2 ⟨hqx,c2⟩),hc _ _ (cell_hide.2 ⟨hqx,c3⟩),hc _ _ (cell_hide.2 ⟨hqx,c4⟩),hc _ _ (hold _ _ HG.out.1),hc _ _ (hold _ _ HG.out.2.1),hc _ _ (hold _ _ HG.out.2.2.1),hc _ _ (hold _ _ HG.out.2.2.2.1),hc _ _ (hold _ _ HG.out.2.2.2.2),hc _ _ HNc3.out.1,hc _ _ HNc3.out.2.1,hc _ _ HNc3.out.2.2.1,hc _ _ HNc3.out.2.2.2⟩
      have hpn:∀ k,p k=true→k < w3.heap.size:=fun k hk=>by have:=HHp.out k hk;omega
      have HWh:=Lib.hid (fun W (hW:Below w3.heap.size w3 W)=>site_with HO3.out hpn wi.expr k hXe Hok.out (by rw[Hns.out];omega) (by omega) hW)
      have HWd:=Lib.hid (fun ea ec W (hW:Below w3.heap.size w3 W) hX=>site_wired HO3.out hpn d x i (withS wi.expr k) ea ec hDe hlt hW hX)
      have HAd:=Lib.hid (fun xm W (hW:Below w3.heap.size w3 W) hD=>site_add HO3.out hpn hzW3 (d.setWire i (withS wi.expr k)) xm (((((⟨#[119,105,114,101,32]⟩++wi.name)++⟨#[32]⟩)++fmtS k)++⟨#[32]⟩)++kd) (by omega) hn16 (hsm _ (by omega)) hW hD)
      have HFm0:=Lib.hid (fun W=>rFmt_any k (by omega) W)
      unfold SPost at HFm0
      have HFm:=Lib.hid (fun W (hW:Below w3.heap.size w3 W)=>lift_to hW (HFm0.out W))
      have HKi2:=Lib.hid (fun a c W (hW:Below w3.heap.size w3 W)=>lift_to hW (HKi.out a c W))
      have hfs:(fmtS k).size≤65537:=by have:=fmt_len k;omega
      clear hsm hDe hXe hboxc hold hqo hqx HFm0 HKi hpn
      generalize d.setWire i (withS wi.expr k)=dm at HWd HAd Hacc
      generalize withS wi.expr k=ek at HWh HWd
      generalize fmtS (k:Int)=fs at HFm HAd Hacc hfs
      simp only[exVal,desVal,desVals] at HWh HWd HAd
      rw[Haw.out] at HWd
      have hs1:¬ 9223372036854775807 < 5+wi.name.size:=by omega
      have hs2:¬ 9223372036854775807 < 5+wi.name.size+1:=by omega
      have hs3:¬ 9223372036854775807 < 5+wi.name.size+1+fs.size:=by omega
      have hs4:¬ 9223372036854775807 < 5+wi.name.size+1+fs.size+1:=by omega
      have hs5:¬ 9223372036854775807 < 5+wi.name.size+1+fs.size+1+kd.size:=by omega
      have hb33:Below w3.heap.size w3 w3:=Below.refl _ _
      obtain⟨c0,c1,c2,c3,c4,e0,e2,e3,e4,e5,n0,n1,n2,n3⟩:=HALL.out _ (gr_refl w3 _)
      go_wp2_with fail
      go_region_held3 (fun w'=>w3.grownBy w' (Value.slice va L.length vc).ownBlock∧w'.cell? ⟨w.heap.size,0,none⟩=some (.string d.name)∧w'.cell? ⟨w.heap.size,1,none⟩=some (.slice x.ai d.inputs.length x.ci)∧w'.cell? ⟨w.heap.size,2,none⟩=some (.slice (some ⟨bW,oW,none⟩) d.wires.length x.cw)∧w'.cell? ⟨w.heap.size,3,none⟩=some (.slice x.ar d.regs.length x.cr)∧w'.cell? ⟨w.heap.size,4,none⟩=some (.slice x.ao d.outputs.length x.co)∧w'.cell? ⟨bW,oW+i * 6,none⟩=some (.string wi.name)∧w'.cell? ⟨bW,oW+i * 6+2,none⟩=some (.int .i64 wi.expr.op)∧w'.cell? ⟨bW,oW+i * 6+3,none⟩=some (.int .i64 wi.expr.n)∧w'.cell? ⟨bW,oW+i * 6+4,none⟩=some (.string wi.expr.name)∧w'.cell? ⟨bW,oW+i * 6+5,none⟩=some (.slice ae wi.expr.args.length ce)∧w'.cell? ⟨bN,oN+k * 4,none⟩=some (.int .i64 nd.op)∧w'.cell? ⟨bN,oN+k * 4+1,none⟩=some (.int .i64 nd.n)∧w'.cell? ⟨bN,oN+k * 4+2,none⟩=some (.string nd.name)∧w'.cell? ⟨bN,oN+k * 4+3,none⟩=some (.slice na nd.args.length nc)) ((refine(fun h=>⟨h,HALL.out _ h⟩) ?_;first | with_reducible assumption | exact gr_below (gr_refl _ _) (by first | with_reducible assumption | exact belr)))
       (first
        | (go_at_call 90;(with_reducible refine(HFm.out _ (by first | with_reducible assumption | exact belr)).mono ?_);rintro r w4 ⟨rfl,hb4,hB4⟩)
        | (go_at_call 117;(with_reducible refine(HKi2.out na nc _ (by first | with_reducible assumption | exact belr)).mono ?_);rintro r w5 ⟨rfl,hb5,hB5⟩))
      all_goals
       have HB5:=Lib.hid hB5
       clear hB5 hb5 hB4 hb4 hb33 c0 c1 c2 c3 c4 e0 e2 e3 e4 e5 n0 n1 n2 n3
       obtain⟨c0,c1,c2,c3,c4,e0,e2,e3,e4,e5,n0,n1,n2,n3⟩:=HALL.out _ (gr_below (gr_refl w3 _) HB5.out)
       have hb55:=HB5.out
       go_wp2_with fail
       go_region_held3 (fun w'=>w3.grownBy w' (Value.slice va L.length vc).ownBlock∧w'.cell? ⟨w.heap.size,0,none⟩=some (.string d.name)∧w'.cell? ⟨w.heap.size,1,none⟩=some (.slice x.ai d.inputs.length x.ci)∧w'.cell? ⟨w.heap.size,2,none⟩=some (.slice (some ⟨bW,oW,none⟩) d.wires.length x.cw)∧w'.cell? ⟨w.heap.size,3,none⟩=some (.slice x.ar d.regs.length x.cr)∧w'.cell? ⟨w.heap.size,4,none⟩=some (.slice x.ao d.outputs.length x.co)∧w'.cell? ⟨bW,oW+i * 6,none⟩=some (.string wi.name)∧w'.cell? ⟨bW,oW+i * 6+2,none⟩=some (.int .i64 wi.expr.op)∧w'.cell? ⟨bW,oW+i * 6+3,none⟩=some (.int .i64 wi.expr.n)∧w'.cell? ⟨bW,oW+i * 6+4,none⟩=some (.string wi.expr.name)∧w'.cell? ⟨bW,oW+i * 6+5,none⟩=some (.slice ae wi.expr.args.length ce)∧w'.cell? ⟨bN,oN+k * 4,none⟩=some (.int .i64 nd.op)∧w'.cell? ⟨bN,oN+k * 4+1,none⟩=some (.int .i64 nd.n)∧w'.cell? ⟨bN,oN+k * 4+2,none⟩=some (.string nd.name)∧w'.cell? ⟨bN,oN+k * 4+3,none⟩=some (.slice na nd.args.length nc)) ((refine(fun h=>⟨h,HALL.out _ h⟩) ?_;first | with_reducible assumption | exact gr_below (gr_refl _ _) (by first | with_reducible assumption | exact belr)))
        (first
         | (go_at_call 120;(with_reducible refine(HWh.out _ (by first | with_reducible assumption | exact belr)).mono ?_);rintro r w6 ⟨⟨a6,c6,rfl,hX6⟩,hb6,hB6⟩)
         | (go_at_call 119;(with_reducible refine(HWd.out _ _ _ (by first | with_reducible assumption | exact belr) hX6).mono ?_);rintro r w7 ⟨⟨x7,rfl,hD7⟩,hb7,hB7⟩)
         | (go_at_call 118;(with_reducible refine(HAd.out _ _ (by first | with_reducible assumption | exact belr) hD7).mono ?_);rintro r w8 ⟨⟨v8,L8,rfl,hO8,hm8,hk8⟩,hg8,hB8⟩))
       all_goals
        have HO8:=Lib.hid hO8
        have HL8:Hid (L8.map siteOf=accW d i (k+1)):=by show _=_;rw[hm8,HL.out,Hacc.out]
        have HN8:=Lib.hid (HN3.out.keep hk8)
        have HB8:Hid (Below W1.heap.size W1 w8):=HB3.out.trans hB8
        have hL8:L8.length≤21000:=by have h1:=congrArg List.length HL8.out;have h2:=HAl.out (k+1) (by omega);simp at h1;omega
        clear hO8 hm8 hk8 hg8 hB8 hD7 hb7 hB7 hX6 hb6 hB6 hb55 c0 c1 c2 c3 c4 e0 e2 e3 e4 e5 n0 n1 n2 n3
        go_wp2_with fail
        go_roundw
        case rel=>exact⟨k+1,L8,by go_num,by omega,hL8,HL8,HO8,HN8,HB8⟩
        case measure=>(simp[intOf];try omega)
    ·obtain rfl:k=ns.length:=by omega
     have HLn:Hid (L.map siteOf=mutW d (i+1)):=HL.out.trans HAe.out
     go_wp2_with fail
     go_roundw
     case rel=>exact⟨i+1,L,by go_num,by omega,HLn,HO,HB⟩
     case measure=>(simp[intOf];try omega)
  ·obtain rfl:i=d.wires.length:=by omega
   have HL0:Hid (L.map siteOf=mutR d 0):=HL.out.trans HR0.out.symm
   go_wp2_with fail
   clear b0 b1 b2 b3 b4 HAW HEw
   go_loopw [8,3] (fun j v wr=>∃ (i:Nat) (L:List SA),j=.int .i64 i∧i≤d.regs.length∧Hid (L.map siteOf=mutR d i)∧Hid (OwnSi wr W1.heap.size p v L)∧Hid (Below W1.heap.size W1 wr)) (fun j _ _=>d.regs.length - (intOf j).toNat)
   case atStart=>exact⟨0,L,rfl,Nat.zero_le _,HL0,HO,HB⟩
   case round =>
    rename World=>wr
    clear HL0 HO HB HL
    obtain⟨i,L,rfl,hi,HL,HO,HB⟩:=hrel
    have hLl:L.length≤20000:=by have h1:=congrArg List.length HL.out;have h2:=HRl.out i hi;simp at h1;omega
    obtain⟨va,vc,rfl,-,-,-⟩:=HO.out.slice (by omega)
    have hzr:=HB.out.size
    obtain⟨b0,b1,b2,b3,b4⟩:=HBX.out _ HB.out
    by_cases hlt:i < d.regs.length
    ·have hlti:(i:Int) < d.regs.length:=by omega
     obtain⟨bR,oR,har⟩:=HEr.out.resolve_left (by omega)
     have HBXr:Hid (∀ w',Below W1.heap.size W1 w'→w'.cell? ⟨w.heap.size,0,none⟩=some (.string d.name)∧w'.cell? ⟨w.heap.size,1,none⟩=some (.slice x.ai d.inputs.length x.ci)∧w'.cell? ⟨w.heap.size,2,none⟩=some (.slice x.aw d.wires.length x.cw)∧w'.cell? ⟨w.heap.size,3,none⟩=some (.slice (some ⟨bR,oR,none⟩) d.regs.length x.cr)∧w'.cell? ⟨w.heap.size,4,none⟩=some (.slice x.ao d.outputs.length x.co)):=fun w' h=>by
      have h1:=HBX.out w' h
      rw[har] at h1
      exact h1
     have HBw:Hid (Below w.heap.size w wr):=HB1.out.trans (HB.out.mono (by omega))
     obtain⟨ae,ce,G0,G1,Gi,G2,G3,G4,G5,hXe⟩:=HE.out.regs.get har hlt
     obtain⟨hA0,hAe,h400,hok,hAl,hnmw,hini,hsmI,hsetI,HAk⟩:=HAR.out i hlt
     have HAk:=Lib.hid HAk
     have HA0:=Lib.hid hA0
     have HAe:=Lib.hid hAe
     have HAl:=Lib.hid hAl
     have HsmI:=Lib.hid hsmI
     have HsetI:=Lib.hid hsetI
     have HXo:=Lib.hid hXe
     have HG:=Lib.hid (⟨G0,G1,Gi,G2,G3,G4,G5⟩:_∧_∧_∧_∧_∧_∧_)
     clear G0 G1 Gi G2 G3 G4 G5 hXe hA0 hAe hAl hsmI hsetI
     generalize (d.regs[i]'hlt)=ri at HXo HAk HA0 HAl HAe h400 hok hnmw hini HsmI HsetI HG
     have Hok:=Lib.hid hok
     clear hok
     have kk:=fun a u (h:(World.hide w p).cell? a=some u)=>keeps_of_below HBw.out a u (hide_cell _ _ h)
     have g0:=kk _ _ HG.out.1
     have g1:=kk _ _ HG.out.2.1
     have gi:=kk _ _ HG.out.2.2.1
     have g2:=kk _ _ HG.out.2.2.2.1
     have g3:=kk _ _ HG.out.2.2.2.2.1
     have g4:=kk _ _ HG.out.2.2.2.2.2.1
     have g5:=kk _ _ HG.out.2.2.2.2.2.2
     clear kk b0 b1 b2 b3 b4
     obtain⟨b0,b1,b2,b3,b4⟩:=HBXr.out _ HB.out
     have Har:=Lib.hid har
     clear har
     go_upto_region 16 with fail
     generalize hW2:wr.alloc (.cells #[.string ri.name,.int .i64 ri.width,.int .i64 ri.init,.int .i64 ri.next.op,.int .i64 ri.next.n,.string ri.next.name,.slice ae ri.next.args.length ce] 76)=W2
     have hz2:wr.heap.size+1≤W2.heap.size:=by rw[← hW2];simp
     have HB2:Hid (Below wr.heap.size wr W2):=by show Below _ _ _;rw[← hW2];exact belr
     have HX2:Hid (W2.heap[wr.heap.size]? = some (.cells #[.string ri.name,.int .i64 ri.width,.int .i64 ri.init,.int .i64 ri.next.op,.int .i64 ri.next.n,.string ri.next.name,.slice ae ri.next.args.length ce] 76 (0,0))):=by
      show _=_;rw[← hW2]
      exact hx_new rfl
     clear hW2 g0 g1 gi g2 g3 g4 g5 b0 b1 b2 b3 b4
     obtain⟨r0,r1,r2,r3,r4,r5,r6,rf⟩:=cell7 HX2.out
     have hvb:(Value.slice va L.length vc).ownBlock≠some wr.heap.size:=fun e=>by have:=(HO.out.own.lt _ e).2;omega
     have HO2:=Lib.hid (HO.out.box HB2.out (Nat.le_refl _))
     have hi0:=hini.1
     have hi1:=hini.2
     have hfl:=flip_ref ri.init
     go_upto_region 17 with fail
     try rw[hfl]
     clear hfl
     generalize hW3:W2.setCell ⟨wr.heap.size,2,none⟩ (.int .i64 (flipI ri.init))=W3
     have HG23:Hid (W2.grownBy W3 (some wr.heap.size)):=by show World.grownBy _ _ _;rw[← hW3];exact gr_set (gr_refl _ _)
     have HX3:Hid (W3.heap[wr.heap.size]? = some (.cells #[.string ri.name,.int .i64 ri.width,.int .i64 (flipI ri.init),.int .i64 ri.next.op,.int .i64 ri.next.n,.string ri.next.name,.slice ae ri.next.args.length ce] 76 (0,0))):=by show _=_;rw[← hW3];exact set1I HX2.out
     have HB3r:Hid (Below wr.heap.size wr W3):=by show Below _ _ _;rw[← hW3];exact HB2.out.setCell (Nat.le_refl _) _
     have hz3:wr.heap.size+1≤W3.heap.size:=by rw[← hW3,World.size_setCell];exact hz2
     have HO3:=Lib.hid (OwnSi.gr HO2.out HG23.out (orP_true.2 (Or.inr rfl)) hvb)
     have HB3:Hid (Below W1.heap.size W1 W3):=HB.out.trans (HB3r.out.mono hzr)
     have hB3w:Below w.heap.size w W3:=HB1.out.trans (HB3.out.mono (by omega))
     have hqo:∀ j,j < w.heap.size→besP (orP p wr.heap.size) (.slice va L.length vc) j=true→p j=true:=fun j hj h=>by
      rcases besP_true.1 h with h | h
      ·rcases orP_true.1 h with h | h
       ·exact h
       ·omega
      ·have:=(HO3.out.own.lt j h).1
       omega
     have hold:=hide_below (p:=p) (q:=besP (orP p wr.heap.size) (.slice va L.length vc)) hB3w hqo
     have Hold:=Lib.hid hold
     have hD3:=HE.out.keep hold
     have hX3:ExIn (World.hide W3 (besP (orP p wr.heap.size) (.slice va L.length vc))) ri.next ae ce:=HXo.out.keep hold
     have hpn:∀ k,(orP p wr.heap.size) k=true→k < W3.heap.size:=fun k hk=>by
      rcases orP_true.1 hk with h | h
      ·have:=HHp.out k h;omega
      ·omega
     have HBXg:Hid (∀ w':World,w'.heap[w.heap.size]? = some (.cells #[.string d.name,.slice x.ai d.inputs.length x.ci,.slice x.aw d.wires.length x.cw,.slice x.ar d.regs.length x.cr,.slice x.ao d.outputs.length x.co] 27 (0,0))→w'.cell? ⟨w.heap.size,0,none⟩=some (.string d.name)∧w'.cell? ⟨w.heap.size,1,none⟩=some (.slice x.ai d.inputs.length x.ci)∧w'.cell? ⟨w.heap.size,2,none⟩=some (.slice x.aw d.wires.length x.cw)∧w'.cell? ⟨w.heap.size,3,none⟩=some (.slice (some ⟨bR,oR,none⟩) d.regs.length x.cr)∧w'.cell? ⟨w.heap.size,4,none⟩=some (.slice x.ao d.outputs.length x.co)):=fun w' h=>by
      obtain⟨b0,b1,b2,b3,b4,_⟩:=cell5 h
      rw[Har.out] at b3
      exact⟨b0,b1,b2,b3,b4⟩
     have HXd3:=Lib.hid (hx_below HB3.out HX1.out)
     have hvx:(Value.slice va L.length vc).ownBlock≠some w.heap.size:=fun e=>by have:=(HO.out.own.lt _ e).1;omega
     have HCk:=Lib.hid (fun W (hW:Below W3.heap.size W3 W)=>site_clocked HO3.out hpn d (d.setInit i) x i { ri with init:=flipI ri.init } ae ce HsetI.out hD3 hlt hX3 hW)
     have HAd:=Lib.hid (fun xm W (hW:Below W3.heap.size W3 W) hD=>site_add HO3.out hpn (by omega) (d.setInit i) xm ((⟨#[114,101,103,32]⟩++ri.name)++⟨#[32,105,110,105,116]⟩) (by omega) hn16 (HsmI.out _ (by omega)) hW hD)
     have HALL:Hid (∀ w',W3.grownBy w' (Value.slice va L.length vc).ownBlock→w'.cell? ⟨w.heap.size,0,none⟩=some (.string d.name)∧w'.cell? ⟨w.heap.size,1,none⟩=some (.slice x.ai d.inputs.length x.ci)∧w'.cell? ⟨w.heap.size,2,none⟩=some (.slice x.aw d.wires.length x.cw)∧w'.cell? ⟨w.heap.size,3,none⟩=some (.slice (some ⟨bR,oR,none⟩) d.regs.length x.cr)∧w'.cell? ⟨w.heap.size,4,none⟩=some (.slice x.ao d.outputs.length x.co)∧w'.cell? ⟨wr.heap.size,0,none⟩=some (.string ri.name)∧w'.cell? ⟨wr.heap.size,1,none⟩=some (.int .i64 ri.width)∧w'.cell? ⟨wr.heap.size,2,none⟩=some (.int .i64 (flipI ri.init))∧w'.cell? ⟨wr.heap.size,3,none⟩=some (.int .i64 ri.next.op)∧w'.cell? ⟨wr.heap.size,4,none⟩=some (.int .i64 ri.next.n)∧w'.cell? ⟨wr.heap.size,5,none⟩=some (.string ri.next.name)∧w'.cell? ⟨wr.heap.size,6,none⟩=some (.slice ae ri.next.args.length ce)):=fun w' hg=>by
      obtain⟨c0,c1,c2,c3,c4⟩:=HBXg.out w' (gr_blk hg HXd3.out hvx)
      obtain⟨r0,r1,r2,r3,r4,r5,r6,_⟩:=cell7 (gr_blk hg HX3.out hvb)
      exact⟨c0,c1,c2,c3,c4,r0,r1,r2,r3,r4,r5,r6⟩
     have HA0':Hid (accR d i 0=addM (L.map siteOf) (d.setInit i,((⟨#[114,101,103,32]⟩++ri.name)++⟨#[32,105,110,105,116]⟩))):=by show _=_;rw[HA0.out,HL.out]
     clear hW3 HG23 hB3w hqo hold hD3 hX3 hpn r0 r1 r2 r3 r4 r5 r6 rf HX2 HO2 HA0 HsmI HsetI HB2
     generalize d.setInit i=dm at HCk HAd HA0'
     simp only[desVal,desVals] at HCk HAd
     rw[Har.out] at HCk
     have hs1:¬ 9223372036854775807 < 4+ri.name.size:=by omega
     have hs2:¬ 9223372036854775807 < 4+ri.name.size+5:=by omega
     have hb33:Below W3.heap.size W3 W3:=Below.refl _ _
     obtain⟨c0,c1,c2,c3,c4,r0,r1,r2,r3,r4,r5,r6⟩:=HALL.out _ (gr_refl W3 _)
     go_wp2_with fail
     go_region_held3 (fun w'=>W3.grownBy w' (Value.slice va L.length vc).ownBlock∧w'.cell? ⟨w.heap.size,0,none⟩=some (.string d.name)∧w'.cell? ⟨w.heap.size,1,none⟩=some (.slice x.ai d.inputs.length x.ci)∧w'.cell? ⟨w.heap.size,2,none⟩=some (.slice x.aw d.wires.length x.cw)∧w'.cell? ⟨w.heap.size,3,none⟩=some (.slice (some ⟨bR,oR,none⟩) d.regs.length x.cr)∧w'.cell? ⟨w.heap.size,4,none⟩=some (.slice x.ao d.outputs.length x.co)∧w'.cell? ⟨wr.heap.size,0,none⟩=some (.string ri.name)∧w'.cell? ⟨wr.heap.size,1,none⟩=some (.int .i64 ri.width)∧w'.cell? ⟨wr.heap.size,2,none⟩=some (.int .i64 (flipI ri.init))∧w'.cell? ⟨wr.heap.size,3,none⟩=some (.int .i64 ri.next.op)∧w'.cell? ⟨wr.heap.size,4,none⟩=some (.int .i64 ri.next.n)∧w'.cell? ⟨wr.heap.size,5,none⟩=some (.string ri.next.name)∧w'.cell? ⟨wr.heap.size,6,none⟩=some (.slice ae ri.next.args.length ce)) ((refine(fun h=>⟨h,HALL.out _ h⟩) ?_;first | with_reducible assumption | exact gr_below (gr_refl _ _) (by first | with_reducible assumption | exact belr)))
      (first
       | (go_at_call 74;(with_reducible refine(HCk.out _ (by first | with_reducible assumption | exact belr)).mono ?_);rintro r w6 ⟨⟨x6,rfl,hD6⟩,hb6,hB6⟩)
       | (go_at_call 118;(with_reducible refine(HAd.out _ _ (by first | with_reducible assumption | exact belr) hD6).mono ?_);rintro r w8 ⟨⟨v8,L8,rfl,hO8,hm8,hk8⟩,hg8,hB8⟩))
     all_goals
      have HO8:=Lib.hid hO8
      have HL8:Hid (L8.map siteOf=accR d i 0):=hm8.trans HA0'.out.symm
      have HB8:Hid (Below W1.heap.size W1 w8):=HB3.out.trans hB8
      have HX8:=Lib.hid (gr_blk hg8 HX3.out hvb)
      have hz8:wr.heap.size+1≤w8.heap.size:=by have:=hg8.size;omega
      have hL8:L8.length≤21000:=by have h1:=congrArg List.length HL8.out;have h2:=HAl.out 0 (Nat.zero_le _);simp at h1;omega
      have Hold8:=Lib.hid (fun a u (h:(World.hide w p).cell? a=some u)=>hk8 a u (Hold.out a u h))
      have HCN:=Lib.hid (site_nodes HO8.out (fun k hk=>by
       rcases orP_true.1 hk with h | h
       ·have:=HHp.out k h;omega
       ·omega) ri.next (HXo.out.keep Hold8.out) (by omega))
      clear hO8 hm8 hk8 hg8 hB8 hD6 hb6 hB6 hb33 c0 c1 c2 c3 c4 r0 r1 r2 r3 r4 r5 r6 HALL HCk HAd HO3 HB3 HX3 hvb hvx HXd3 HO HB HL hLl hz3 HB3r Hold HA0' HBw
      obtain⟨va,vc,rfl,-,-,-⟩:=HO8.out.slice (by omega)
      obtain⟨r0,r1,r2,r3,r4,r5,r6,rf⟩:=cell7 HX8.out
      simp only[exVal] at HCN
      go_wp2_with fail
      refine HCN.out.mono ?_
      rintro r w9 ⟨⟨la,lc,rfl,hN⟩,hb9⟩
      have HN:=Lib.hid hN
      have HO9:=Lib.hid (HO8.out.below (siteP_keep (orP p wr.heap.size)) hb9)
      have HB9:Hid (Below W1.heap.size W1 w9):=HB8.out.trans (hb9.mono (by omega))
      have HX9:Hid (∃ m0 m1 m2 m3 m4 m5 m6,w9.heap[wr.heap.size]? = some (.cells #[m0,m1,m2,m3,m4,m5,m6] 76 (0,0))):=⟨_,_,_,_,_,_,_,hx_below hb9 HX8.out⟩
      have hz9:wr.heap.size+1≤w9.heap.size:=by have:=hb9.size;omega
      have HNa:Hid (ri.next.nodes.length=0∨∃ b off,la=some ⟨b,off,none⟩):=hN.addr
      have hcl:=hN.1
      have hcli:(ri.next.nodes.length:Int)≤lc:=by omega
      clear hN hb9 HCN r0 r1 r2 r3 r4 r5 r6 rf HO8 HB8 HX8 Hold8 hz8
      generalize hns:ri.next.nodes=ns at HAk HAl HAe h400 HN HNa hcl hcli
      have Hns:=Lib.hid hns
      clear hns
      go_wp2_with fail
      go_loopw [11,3] (fun j v wq=>∃ (k:Nat) (L:List SA),j=.int .i64 k∧k≤ns.length∧L.length≤21000∧Hid (L.map siteOf=accR d i k)∧Hid (OwnSi wq W1.heap.size (orP p wr.heap.size) v L)∧Hid (ExsIn (World.hide wq (besP (orP p wr.heap.size) v)) ns la lc)∧Hid (Below W1.heap.size W1 wq)∧Hid (∃ m0 m1 m2 m3 m4 m5 m6,wq.heap[wr.heap.size]? = some (.cells #[m0,m1,m2,m3,m4,m5,m6] 76 (0,0)))∧wr.heap.size+1≤wq.heap.size) (fun j _ _=>ns.length - (intOf j).toNat)
      case atStart=>exact⟨0,L8,rfl,Nat.zero_le _,hL8,HL8,HO9,HN,HB9,HX9,hz9⟩
      case round =>
       rename World=>wq
       clear HL8 HO9 HN HB9 HX9 hz9 hL8
       obtain⟨k,L,rfl,hk,hLl,HL,HO,HN,HB,HX,hzq⟩:=hrel
       obtain⟨va,vc,rfl,-,-,-⟩:=HO.out.slice (by omega)
       by_cases hkl:k < ns.length
       ·have hkli:(k:Int) < ns.length:=by omega
        obtain⟨bN,oN,hla⟩:=HNa.out.resolve_left (by omega)
        subst hla
        obtain⟨na,nc,n0,n1,n2,n3,-⟩:=HN.out.get rfl hkl
        have HNc:=Lib.hid (⟨n0,n1,n2,n3⟩:_∧_∧_∧_)
        have n0:=hide_cell _ _ n0
        have n1:=hide_cell _ _ n1
        have n2:=hide_cell _ _ n2
        have n3:=hide_cell _ _ n3
        obtain⟨hno,hyes⟩:=HAk.out k hkl
        have hno:=Lib.hid hno
        have hyes:=Lib.hid hyes
        generalize (ns[k]'hkl)=nd at HNc n0 n1 n2 n3 hno hyes
        have HKi:=Lib.hid (fun a c W=>kind_any nd.op nd.n nd.name nd.args.length a c W)
        have hkd9:=kind_9 nd.op
        generalize kindS nd.op=kd at HKi hkd9 hno hyes
        go_wp2_with fail
        refine(HKi.out na nc wq).mono ?_
        rintro r w3 ⟨rfl,hb3⟩
        go_upto_if 116 with fail
        have hz3:=hb3.size
        have HO3:=Lib.hid (HO.out.below (siteP_keep (orP p wr.heap.size)) hb3)
        have HB3:Hid (Below W1.heap.size W1 w3):=HB.out.trans (hb3.mono (by omega))
        have HX3:Hid (∃ m0 m1 m2 m3 m4 m5 m6,w3.heap[wr.heap.size]? = some (.cells #[m0,m1,m2,m3,m4,m5,m6] 76 (0,0))):=by
         obtain⟨m0,m1,m2,m3,m4,m5,m6,h⟩:=HX.out
         exact⟨m0,m1,m2,m3,m4,m5,m6,hx_below hb3 h⟩
        have hk3:=hide_below (p:=(besP (orP p wr.heap.size) (.slice va L.length vc))) (q:=(besP (orP p wr.heap.size) (.slice va L.length vc))) hb3 fun _ _ h=>h
        have HN3:=Lib.hid (HN.out.keep hk3)
        have HNc3:=Lib.hid (⟨hk3 _ _ HNc.out.1,hk3 _ _ HNc.out.2.1,hk3 _ _ HNc.out.2.2.1,hk3 _ _ HNc.out.2.2.2⟩:_∧_∧_∧_)
        have hvb:(Value.slice va L.length vc).ownBlock≠some wr.heap.size:=fun e=>by
         obtain⟨m0,m1,m2,m3,m4,m5,m6,h⟩:=HX3.out
         exact ownsRow_ne HO3.out.own h (by decide) e.symm
        clear HO HB HX HN HNc hb3 n0 n1 n2 n3 hk3
        by_cases hk0:kd=.empty
        ·have HLn:Hid (L.map siteOf=accR d i (k+1)):=HL.out.trans (hno.out hk0).symm
         have hkb:=kd_no hk0
         rw[hkb]
         clear hk0 hkb hno hyes hvb
         go_wp2_with fail
         go_roundw
         case rel=>exact⟨k+1,L,by go_num,by omega,hLl,HLn,HO3,HN3,HB3,HX3,by omega⟩
         case measure=>(simp[intOf];try omega)
        ·obtain⟨hsm,hset,hacc⟩:=hyes.out hk0
         have Hsm:=Lib.hid hsm
         have Hset:=Lib.hid hset
         have Hacc:=Lib.hid hacc
         have hkb:=kd_yes hk0
         rw[hkb]
         clear hk0 hkb hno hyes hacc hset hsm
         have hBw3:Below w.heap.size w w3:=HB1.out.trans (HB3.out.mono (by omega))
         have hqo:∀ j,j < w.heap.size→besP (orP p wr.heap.size) (.slice va L.length vc) j=true→p j=true:=fun j hj h=>by
          rcases besP_true.1 h with h | h
          ·rcases orP_true.1 h with h | h
           ·exact h
           ·omega
          ·have:=(HO3.out.own.lt j h).1
           omega
         have Hold:=Lib.hid (hide_below (p:=p) (q:=(besP (orP p wr.heap.size) (.slice va L.length vc))) hBw3 hqo)
         have kk:=fun a u (h:(World.hide w p).cell? a=some u)=>keeps_of_below hBw3 a u (hide_cell _ _ h)
         have g0:=kk _ _ HG.out.1
         have g1:=kk _ _ HG.out.2.1
         have gi:=kk _ _ HG.out.2.2.1
         have g2:=kk _ _ HG.out.2.2.2.1
         have g3:=kk _ _ HG.out.2.2.2.2.1
         have g4:=kk _ _ HG.out.2.2.2.2.2.1
         have g5:=kk _ _ HG.out.2.2.2.2.2.2
         obtain⟨c0,c1,c2,c3,c4⟩:=HBXg.out w3 (hx_below HB3.out HX1.out)
         obtain⟨m0,m1,m2,m3,m4,m5,m6,hxm⟩:=HX3.out
         obtain⟨r0,r1,r2,r3,r4,r5,r6,rf⟩:=cell7 hxm
         clear kk hqo hBw3
         go_upto_region 24 with fail
         generalize hW4:(((((((w3.setCell ⟨wr.heap.size,0,none⟩ (.string ri.name)).setCell ⟨wr.heap.size,1,none⟩ (.int .i64 ri.width)).setCell ⟨wr.heap.size,2,none⟩ (.int .i64 ri.init)).setCell ⟨wr.heap.size,3,none⟩ (.int .i64 ri.next.op)).setCell ⟨wr.heap.size,4,none⟩ (.int .i64 ri.next.n)).setCell ⟨wr.heap.size,5,none⟩ (.string ri.next.name)).setCell ⟨wr.heap.size,6,none⟩ (.slice ae ri.next.args.length ce))=W4
         have HG34:Hid (w3.grownBy W4 (some wr.heap.size)):=by show World.grownBy _ _ _;rw[← hW4];exact gr_set (gr_set (gr_set (gr_set (gr_set (gr_set (gr_set (gr_refl _ _)))))))
         have HX4:Hid (W4.heap[wr.heap.size]? = some (.cells #[.string ri.name,.int .i64 ri.width,.int .i64 ri.init,.int .i64 ri.next.op,.int .i64 ri.next.n,.string ri.next.name,.slice ae ri.next.args.length ce] 76 (0,0))):=by show _=_;rw[← hW4];exact set7R hxm
         clear hW4 hxm r0 r1 r2 r3 r4 r5 r6 rf g0 g1 gi g2 g3 g4 g5 c0 c1 c2 c3 c4 HX3
         have hz4:=HG34.out.size
         have HO4:=Lib.hid (OwnSi.gr HO3.out HG34.out (orP_true.2 (Or.inr rfl)) hvb)
         have hqb:(besP (orP p wr.heap.size) (.slice va L.length vc)) wr.heap.size=true:=besP_true.2 (Or.inl (orP_true.2 (Or.inr rfl)))
         have hc34:=cell_gr HG34.out hqb
         have HN4:=Lib.hid (HN3.out.keep hc34)
         have HNc4:=Lib.hid (⟨hc34 _ _ HNc3.out.1,hc34 _ _ HNc3.out.2.1,hc34 _ _ HNc3.out.2.2.1,hc34 _ _ HNc3.out.2.2.2⟩:_∧_∧_∧_)
         have Hold4:=Lib.hid (fun a u (h:(World.hide w p).cell? a=some u)=>hc34 a u (Hold.out a u h))
         have HB4:Hid (Below W1.heap.size W1 W4):=gr_bel HB3.out HG34.out (by omega) fun j hj=>by obtain rfl:=Option.some.inj hj;exact hzr
         clear hc34 HO3 HN3 HNc3 Hold HB3 HG34
         have hpn:∀ k,(orP p wr.heap.size) k=true→k < W4.heap.size:=fun k hk=>by
          rcases orP_true.1 hk with h | h
          ·have:=HHp.out k h;omega
          ·omega
         have HWh:=Lib.hid (site_with HO4.out hpn ri.next k (HXo.out.keep Hold4.out) Hok.out (by rw[Hns.out];omega) (by omega) (Below.refl _ W4))
         simp only[exVal] at HWh
         obtain⟨r0,r1,r2,r3,r4,r5,r6,rf⟩:=cell7 HX4.out
         obtain⟨c0,c1,c2,c3,c4⟩:=HBXg.out W4 (hx_below HB4.out HX1.out)
         clear hpn
         generalize withS ri.next k=ek at HWh Hsm Hset Hacc
         go_wp2_with fail
         refine HWh.out.mono ?_
         rintro r w5 ⟨⟨ka,kc,rfl,hK⟩,hb5,-⟩
         have hz5:=hb5.size
         have HX5:=Lib.hid (hx_below hb5 HX4.out)
         clear r0 r1 r2 r3 r4 r5 r6 rf c0 c1 c2 c3 c4
         obtain⟨r0,r1,r2,r3,r4,r5,r6,rf⟩:=cell7 HX5.out
         have hk5:=hide_below (p:=(besP (orP p wr.heap.size) (.slice va L.length vc))) (q:=(besP (orP p wr.heap.size) (.slice va L.length vc))) hb5 fun _ _ h=>h
         have HO5:=Lib.hid (HO4.out.below (siteP_keep (orP p wr.heap.size)) hb5)
         have HB5:Hid (Below W1.heap.size W1 w5):=HB4.out.trans (hb5.mono (by omega))
         obtain⟨c0,c1,c2,c3,c4⟩:=HBXg.out w5 (hx_below HB5.out HX1.out)
         go_upto_region 25 with fail
         generalize hW6:((((w5.setCell ⟨wr.heap.size,3,none⟩ (.int .i64 ek.op)).setCell ⟨wr.heap.size,4,none⟩ (.int .i64 ek.n)).setCell ⟨wr.heap.size,5,none⟩ (.string ek.name)).setCell ⟨wr.heap.size,6,none⟩ (.slice ka ek.args.length kc))=W6
         have HG56:Hid (w5.grownBy W6 (some wr.heap.size)):=by show World.grownBy _ _ _;rw[← hW6];exact gr_set (gr_set (gr_set (gr_set (gr_refl _ _))))
         have HX6:Hid (W6.heap[wr.heap.size]? = some (.cells #[.string ri.name,.int .i64 ri.width,.int .i64 ri.init,.int .i64 ek.op,.int .i64 ek.n,.string ek.name,.slice ka ek.args.length kc] 76 (0,0))):=by show _=_;rw[← hW6];exact set4N HX5.out
         clear hW6 r0 r1 r2 r3 r4 r5 r6 rf c0 c1 c2 c3 c4 HX4 HX5
         have hz6:=HG56.out.size
         have hc56:=cell_gr HG56.out hqb
         have hc46:=fun a u h=>hc56 a u (hk5 a u h)
         have HO6:=Lib.hid (OwnSi.gr HO5.out HG56.out (orP_true.2 (Or.inr rfl)) hvb)
         have HN6:=Lib.hid (HN4.out.keep hc46)
         have HNc6:=Lib.hid (⟨hc46 _ _ HNc4.out.1,hc46 _ _ HNc4.out.2.1,hc46 _ _ HNc4.out.2.2.1,hc46 _ _ HNc4.out.2.2.2⟩:_∧_∧_∧_)
         have hD6:=HE.out.keep fun a u h=>hc46 a u (Hold4.out a u h)
         have hK6:ExIn (World.hide W6 (besP (orP p wr.heap.size) (.slice va L.length vc))) ek ka kc:=hK.keep hc56
         have HB6:Hid (Below W1.heap.size W1 W6):=gr_bel HB5.out HG56.out (by omega) fun j hj=>by obtain rfl:=Option.some.inj hj;exact hzr
         have hpn:∀ k,(orP p wr.heap.size) k=true→k < W6.heap.size:=fun k hk=>by
          rcases orP_true.1 hk with h | h
          ·have:=HHp.out k h;omega
          ·omega
         have HCk:=Lib.hid (fun W (hW:Below W6.heap.size W6 W)=>site_clocked HO6.out hpn d (d.setNext i ek) x i { ri with next:=ek } ka kc Hset.out hD6 hlt hK6 hW)
         have HAd:=Lib.hid (fun xm W (hW:Below W6.heap.size W6 W) hD=>site_add HO6.out hpn (by omega) (d.setNext i ek) xm (((((⟨#[114,101,103,32]⟩++ri.name)++⟨#[32]⟩)++fmtS k)++⟨#[32]⟩)++kd) (by omega) hn16 (Hsm.out _ (by omega)) hW hD)
         have HFm0:=Lib.hid (fun W=>rFmt_any k (by omega) W)
         unfold SPost at HFm0
         have HFm:=Lib.hid (fun W (hW:Below W6.heap.size W6 W)=>lift_to hW (HFm0.out W))
         have HKi2:=Lib.hid (fun a c W (hW:Below W6.heap.size W6 W)=>lift_to hW (HKi.out a c W))
         have hfs:(fmtS k).size≤65537:=by have:=fmt_len k;omega
         have hvx:(Value.slice va L.length vc).ownBlock≠some w.heap.size:=fun e=>by have:=(HO6.out.own.lt _ e).1;omega
         have HXd6:=Lib.hid (hx_below HB6.out HX1.out)
         have HALL:Hid (∀ w',W6.grownBy w' (Value.slice va L.length vc).ownBlock→w'.cell? ⟨w.heap.size,0,none⟩=some (.string d.name)∧w'.cell? ⟨w.heap.size,1,none⟩=some (.slice x.ai d.inputs.length x.ci)∧w'.cell? ⟨w.heap.size,2,none⟩=some (.slice x.aw d.wires.length x.cw)∧w'.cell? ⟨w.heap.size,3,none⟩=some (.slice (some ⟨bR,oR,none⟩) d.regs.length x.cr)∧w'.cell? ⟨w.heap.size,4,none⟩=some (.slice x.ao d.outputs.length x.co)∧w'.cell? ⟨wr.heap.size,0,none⟩=some (.string ri.name)∧w'.cell? ⟨wr.heap.size,1,none⟩=some (.int .i64 ri.width)∧w'.cell? ⟨wr.heap.size,2,none⟩=some (.int .i64 ri.init)∧w'.cell? ⟨wr.heap.size,3,none⟩=some (.int .i64 ek.op)∧w'.cell? ⟨wr.heap.size,4,none⟩=some (.int .i64 ek.n)∧w'.cell? ⟨wr.heap.size,5,none⟩=some (.string ek.name)∧w'.cell? ⟨wr.heap.size,6,none⟩=some (.slice ka ek.args.length kc)∧w'.cell? ⟨bN,oN+k * 4,none⟩=some (.int .i64 nd.op)∧w'.cell? ⟨bN,oN+k * 4+1,none⟩=some (.int .i64 nd.n)∧w'.cell? ⟨bN,oN+k * 4+2,none⟩=some (.string nd.name)∧w'.cell? ⟨bN,oN+k * 4+3,none⟩=some (.slice na nd.args.length nc)):=fun w' hg=>by
          obtain⟨c0,c1,c2,c3,c4⟩:=HBXg.out w' (gr_blk hg HXd6.out hvx)
          obtain⟨r0,r1,r2,r3,r4,r5,r6,_⟩:=cell7 (gr_blk hg HX6.out hvb)
          have hc:=fun a u h=>gr_hcell hg besP_row (q:=(besP (orP p wr.heap.size) (.slice va L.length vc))) (a:=a) (u:=u) h
          exact⟨c0,c1,c2,c3,c4,r0,r1,r2,r3,r4,r5,r6,hc _ _ HNc6.out.1,hc _ _ HNc6.out.2.1,hc _ _ HNc6.out.2.2.1,hc _ _ HNc6.out.2.2.2⟩
         clear hc56 hc46 hk5 hK hK6 hD6 hb5 hpn HO4 HO5 HN4 HNc4 HB4 HB5 HG56 Hold4 HWh HFm0 HKi hqb Hset Hsm
         generalize d.setNext i ek=dm at HCk HAd Hacc
         generalize fmtS (k:Int)=fs at HFm HAd Hacc hfs
         simp only[desVal,desVals] at HCk HAd
         rw[Har.out] at HCk
         have hs1:¬ 9223372036854775807 < 4+ri.name.size:=by omega
         have hs2:¬ 9223372036854775807 < 4+ri.name.size+1:=by omega
         have hs3:¬ 9223372036854775807 < 4+ri.name.size+1+fs.size:=by omega
         have hs4:¬ 9223372036854775807 < 4+ri.name.size+1+fs.size+1:=by omega
         have hs5:¬ 9223372036854775807 < 4+ri.name.size+1+fs.size+1+kd.size:=by omega
         have hb66:Below W6.heap.size W6 W6:=Below.refl _ _
         obtain⟨c0,c1,c2,c3,c4,r0,r1,r2,r3,r4,r5,r6,n0,n1,n2,n3⟩:=HALL.out _ (gr_refl W6 _)
         go_wp2_with fail
         go_region_held3 (fun w'=>W6.grownBy w' (Value.slice va L.length vc).ownBlock∧w'.cell? ⟨w.heap.size,0,none⟩=some (.string d.name)∧w'.cell? ⟨w.heap.size,1,none⟩=some (.slice x.ai d.inputs.length x.ci)∧w'.cell? ⟨w.heap.size,2,none⟩=some (.slice x.aw d.wires.length x.cw)∧w'.cell? ⟨w.heap.size,3,none⟩=some (.slice (some ⟨bR,oR,none⟩) d.regs.length x.cr)∧w'.cell? ⟨w.heap.size,4,none⟩=some (.slice x.ao d.outputs.length x.co)∧w'.cell? ⟨wr.heap.size,0,none⟩=some (.string ri.name)∧w'.cell? ⟨wr.heap.size,1,none⟩=some (.int .i64 ri.width)∧w'.cell? ⟨wr.heap.size,2,none⟩=some (.int .i64 ri.init)∧w'.cell? ⟨wr.heap.size,3,none⟩=some (.int .i64 ek.op)∧w'.cell? ⟨wr.heap.size,4,none⟩=some (.int .i64 ek.n)∧w'.cell? ⟨wr.heap.size,5,none⟩=some (.string ek.name)∧w'.cell? ⟨wr.heap.size,6,none⟩=some (.slice ka ek.args.length kc)∧w'.cell? ⟨bN,oN+k * 4,none⟩=some (.int .i64 nd.op)∧w'.cell? ⟨bN,oN+k * 4+1,none⟩=some (.int .i64 nd.n)∧w'.cell? ⟨bN,oN+k * 4+2,none⟩=some (.string nd.name)∧w'.cell? ⟨bN,oN+k * 4+3,none⟩=some (.slice na nd.args.length nc)) ((refine(fun h=>⟨h,HALL.out _ h⟩) ?_;first | with_reducible assumption | exact gr_below (gr_refl _ _) (by first | with_reducible assumption | exact belr)))
          (first
           | (go_at_call 74;(with_reducible refine(HCk.out _ (by first | with_reducible assumption | exact belr)).mono ?_);rintro r w7 ⟨⟨x7,rfl,hD7⟩,hb7,hB7⟩)
           | (go_at_call 90;(with_reducible refine(HFm.out _ (by first | with_reducible assumption | exact belr)).mono ?_);rintro r w8 ⟨rfl,hb8,hB8⟩;have hD8:=hD7.keep (hk_below hb8 fun _ _ h=>h).cell)
           | (go_at_call 117;(with_reducible refine(HKi2.out na nc _ (by first | with_reducible assumption | exact belr)).mono ?_);rintro r w9 ⟨rfl,hb9,hB9⟩;have hD9:=hD8.keep (hk_below hb9 fun _ _ h=>h).cell)
           | (go_at_call 118;(with_reducible refine(HAd.out _ _ (by first | with_reducible assumption | exact belr) hD9).mono ?_);rintro r wa ⟨⟨v8,L8,rfl,hO8,hm8,hk8⟩,hga,hBa⟩))
         all_goals
          have HO8:=Lib.hid hO8
          have HL8:Hid (L8.map siteOf=accR d i (k+1)):=by show _=_;rw[hm8,HL.out,Hacc.out]
          have HN8:=Lib.hid (HN6.out.keep hk8)
          have HB8':Hid (Below W1.heap.size W1 wa):=HB6.out.trans hBa
          have HX8:Hid (∃ m0 m1 m2 m3 m4 m5 m6,wa.heap[wr.heap.size]? = some (.cells #[m0,m1,m2,m3,m4,m5,m6] 76 (0,0))):=⟨_,_,_,_,_,_,_,gr_blk hga HX6.out hvb⟩
          have hza:wr.heap.size+1≤wa.heap.size:=by have:=hga.size;omega
          have hL8:L8.length≤21000:=by have h1:=congrArg List.length HL8.out;have h2:=HAl.out (k+1) (by omega);simp at h1;omega
          clear hO8 hm8 hk8 hga hBa hD7 hb7 hB7 hD8 hb8 hB8 hD9 hb9 hB9 hb66 c0 c1 c2 c3 c4 r0 r1 r2 r3 r4 r5 r6 n0 n1 n2 n3
          go_wp2_with fail
          go_roundw
          case rel=>exact⟨k+1,L8,by go_num,by omega,hL8,HL8,HO8,HN8,HB8',HX8,hza⟩
          case measure=>(simp[intOf];try omega)
       ·obtain rfl:k=ns.length:=by omega
        have HLn:Hid (L.map siteOf=mutR d (i+1)):=HL.out.trans HAe.out
        have HOn:Hid (OwnSi wq W1.heap.size p (.slice va L.length vc) L):=OwnSi.unbox HO.out
        obtain⟨b0,b1,b2,b3,b4⟩:=HBXr.out _ HB.out
        go_wp2_with fail
        go_roundw
        case rel=>exact⟨i+1,L,by go_num,by omega,HLn,HOn,HB⟩
        case measure=>(simp[intOf];try omega)
    ·obtain rfl:i=d.regs.length:=by omega
     have HM:Hid (L.map siteOf=ML):=HL.out.trans HRe.out
     have HO':Hid (OwnSi wr w.heap.size p (.slice va L.length vc) L):=HO.out.imp (by omega) fun y _ h=>h
     have HBf:Hid (Below w.heap.size w wr):=HB1.out.trans (HB.out.mono (by omega))
     have HPf:=Lib.hid (HP.out _ L _ HO'.out HM.out HBf.out)
     go_wp2_with fail
     first | exact HPf.out | (go_ret;exact HPf.out)
end Go.Proofs.YtebneadheaefdaaGreatDoor
