/- sim: state, Reset, input. -/
import Derived.Test.YtebneadheaefdaaGreatDoorDM
import Derived.Laws.ResultCell
set_option linter.unusedSimpArgs false
set_option linter.unusedVariables false
set_option linter.unnecessarySimpa false
namespace Go.Proofs.YtebneadheaefdaaGreatDoor
open Go.RowKit
attribute [local go_sem ↓] Go.wp_at_zero Go.wp_at_succ
def ResetPost (w:World) (d:DesD) (e:Ending) (w':World):Prop :=
 ((d.err=0∧∃ a cap,e=.returned (.tuple #[.slice a d.inits.length cap,.int .i64 0])∧IntsIn w' d.inits a cap)∨(¬ d.err=0∧e=.returned (.tuple #[.slice none 0 0,.int .i64 d.err])))∧Below w.heap.size w w'
theorem inits_take (d:DesD) (k:Nat) (h:k < d.regs.length):(d.inits.map (Value.int .i64)).take (k+1)=(d.inits.map (Value.int .i64)).take k++[.int .i64 (d.regs[k]'h).init]:=by
 refine take_at ?_
 unfold DesD.inits
 simp[h]
set_option maxRecDepth 100000 in
set_option maxHeartbeats 8000000 in
theorem Reset_any (d:DesD) (x:DesA) (w:World) (hE:DesIn w d x) (hs:DesSmall d) (hG:Glob w) :
  Calls Tryz.prog 45 #[desVal d x] w (ResetPost w d):=by
 have HV0:=Lib.hid (fun W (hW:Below w.heap.size w W)=>ValidD_any d x W (hE.below hW) hs (hG.below hW))
 have HR:=Lib.hid hE.regs
 have HRA:=Lib.hid hE.regs.addr
 have hrl:=hE.regs.2.1
 have HP1:Hid (∀ a cap w',d.err=0→IntsIn w' d.inits a cap→Below w.heap.size w w'→ResetPost w d (.returned (.tuple #[.slice a d.inits.length cap,.int .i64 0])) w'):=fun a cap w' h1 h2 h3=>⟨Or.inl ⟨h1,a,cap,rfl,h2⟩,h3⟩
 have HP0:Hid (∀ w',¬ d.err=0→Below w.heap.size w w'→ResetPost w d (.returned (.tuple #[.slice none 0 0,.int .i64 d.err])) w'):=fun w' h1 h2=>⟨Or.inr ⟨h1,rfl⟩,h2⟩
 generalize ResetPost w d=Po at HP1 HP0⊢
 generalize d.err=err at HV0 HP1 HP0
 have HS:=Lib.hid (inits_take d)
 have hil:d.inits.length=d.regs.length:=by simp[DesD.inits]
 have HIl:=Lib.hid hil
 have HM:Hid ((d.inits.map (Value.int .i64)).take d.regs.length=d.inits.map (Value.int .i64)):=List.take_of_length_le (by rw[List.length_map,hil];omega)
 generalize hM:d.inits.map (Value.int .i64)=M at HS HM
 have HMe:=Lib.hid hM
 clear hM hil
 generalize d.inits=IN at HP1 HIl HMe
 clear hE hs hG
 obtain⟨nm,ins,wires,regs,outs⟩:=d
 obtain⟨ai,ci,aw,cw,ar,cr,ao,co⟩:=x
 simp only[desVal,desVals] at HV0 HR HRA HS HIl HM hrl⊢
 have HV1:=Lib.hid (HV0.out (w.alloc (.cells #[.string nm,.slice ai ins.length ci,.slice aw wires.length cw,.slice ar regs.length cr,.slice ao outs.length co] 27)) ((Below.refl _ _).alloc (Nat.le_refl _) _))
 clear HV0
 go_enter Tryz.func45, Tryz.ntmps45
 go_wp2_with fail
 refine HV1.out.mono ?_
 rintro e w1 ⟨rfl,hb1⟩
 simp only[World.size_alloc] at hb1
 have HB1:=Lib.hid hb1
 have HBw:=Lib.hid (boxW _ hb1)
 clear hb1 HV1
 by_cases he:err=0
 ·have HPe:=Lib.hid (fun a cap w'=>HP1.out a cap w' he)
  subst he
  clear HP1 HP0
  ((try clear b0 b1 b2 b3 b4);have b0:=box_cell HB1.out 0;have b1:=box_cell HB1.out 1;have b2:=box_cell HB1.out 2;have b3:=box_cell HB1.out 3;have b4:=box_cell HB1.out 4;(try simp at b0 b1 b2 b3 b4))
  go_wp2_with fail
  go_loopw [16,5,7] (fun i v _ wr=>∃ k:Nat,i=.int .i64 k∧k≤regs.length∧Hid (wr.ownsRow (w.heap.size+1) 3 1 v k (M.take k))∧Hid (Below (w.heap.size+1) (w.alloc (.cells #[.string nm,.slice ai ins.length ci,.slice aw wires.length cw,.slice ar regs.length cr,.slice ao outs.length co] 27)) wr)) (fun i _ _ _=>regs.length - (intOf i).toNat)
  case atStart=>exact⟨0,rfl,Nat.zero_le _,World.ownsRow_nil _ _ _ _,HB1⟩
  case round =>
   obtain⟨k,rfl,hk,HO,HB⟩:=hrel
   have HBw:=Lib.hid (boxW _ HB.out)
   have hzr:=HB.out.size
   simp only[World.size_alloc] at hzr
   clear b0 b1 b2 b3 b4
   by_cases hlt:k < regs.length
   ·obtain⟨b,off,ha⟩:=HRA.out.resolve_left (by omega)
    subst ha
    obtain⟨ae,ce,c0,c1,c2,c3,c4,c5,c6,_⟩:=(HR.out.keep (keeps_of_below HBw.out)).get rfl hlt
    have HSk:=Lib.hid (HS.out k hlt)
    generalize (regs[k]'hlt)=e at c0 c1 c2 c3 c4 c5 c6 HSk
    have hkn:k≤1073741824:=by omega
    obtain⟨va,vc,hv,_⟩:=slice_of_own HO.out hkn
    subst hv
    go_wp2_with (at_builtin;go_must (refine own_app elemI _ rfl (.tmp 20) (.tmp 23) rfl (w.heap.size+1) (.slice va k vc) k (M.take k) rfl (HO.out.alloc _) [.int .i64 e.init] rfl (by simp[Value.oneCell']) _ 1 rfl (by first | rfl | simp) hkn sz ?_))
    intro v' w3 ho hg
    have HO1:=Lib.hid ho
    have HB3:Hid (Below (w.heap.size+1) (w.alloc (.cells #[.string nm,.slice ai ins.length ci,.slice aw wires.length cw,.slice (some ⟨b,off,none⟩) regs.length cr,.slice ao outs.length co] 27)) w3):=Below.grown (by repeat (first | exact HB.out | refine Below.alloc ?_ sz _)) hg sz (fun j hj=>(HO.out.lt j hj).1)
    clear ho hg c0 c1 c2 c3 c4 c5 c6
    go_wp2_with fail
    go_roundw
    case rel=>exact⟨k+1,by go_num,by omega,(by show World.ownsRow _ _ _ _ _ _ _;rw[HSk.out];exact HO1.out),HB3⟩
    case measure=>(simp[intOf];try omega)
   ·obtain rfl:k=regs.length:=by omega
    have ho:=HO.out
    rw[HM.out,← HMe.out,← HIl.out] at ho
    obtain⟨a',cap',rfl,hs⟩:=ints_of_own ho (by rw[HIl.out];exact hrl)
    have HPf:=Lib.hid (HPe.out a' cap' wr hs HBw.out)
    clear ho hs
    rw[HIl.out] at HPf⊢
    go_wp2_with fail
    exact HPf.out
 ·have HPe:=Lib.hid (HP0.out w1 he HBw.out)
  have hne:(err != (0:Int))=true:=by simpa using he
  clear HP1 HP0 he
  go_wp2_with fail
  exact HPe.out
theorem valS_idx {l:Sigs} {s:ByteArray}:(∃ k,∃ hk:k < l.length,idxP (fun x:ByteArray × Int=>x.1.toList == s.toList) l 0=(k:Int)∧valS l s=some (l[k]'hk).2)∨(idxP (fun x:ByteArray × Int=>x.1.toList == s.toList) l 0=-1∧valS l s=none):=by
 rcases idxP_cases (fun x:ByteArray × Int=>x.1.toList == s.toList) l with ⟨h1,h2⟩ | ⟨k,hk,h1,h2,h3⟩
 ·refine Or.inr ⟨h1,valS_none.2 fun x hx he=>?_⟩
  obtain⟨i,hi,rfl⟩:=List.getElem_of_mem hx
  have:=h2 i hi
  simp[he] at this
 ·refine Or.inl ⟨k,hk,h1,?_⟩
  clear h1
  induction l generalizing k with
  | nil=>simp at hk
  | cons y l ih =>
   unfold valS
   cases k with
   | zero=>rw[if_pos (by simpa using h2)];rfl
   | succ k =>
    have h0:=h3 0 (by omega)
    rw[if_neg (by simpa using h0)]
    exact ih k (by simpa using hk) (by simpa using h2) (fun j hj=>by simpa using h3 (j+1) (by omega))
theorem sameName_any (t s:ByteArray) (v:Int) (bp:Nat) (w:World) (hc:w.cell? ⟨bp,0,none⟩=some (.string s)) :
  Calls Tryz.prog 155 #[.agg #[.string t,.int .i64 v],.pointer (some ⟨bp,0,none⟩)] w fun e w'=>e=.returned (.bool (t.toList == s.toList))∧Below w.heap.size w w':=by
 have hbl:=World.block_lt_of_cell? _ _ hc
 have hcA:(w.alloc (.cells #[.string t,.int .i64 v] 87)).cell? ⟨bp,0,none⟩=some (.string s):=(keeps_of_below ((Below.refl _ _).alloc (Nat.le_refl _) _)) _ _ hc
 generalize hb:(t.toList == s.toList)=b
 go_enter Tryz.func155, Tryz.ntmps155
 cases b
 ·go_wp2_with fail
  go_ret
  exact⟨rfl,by exact bel⟩
 ·go_wp2_with fail
  go_ret
  exact⟨rfl,by exact bel⟩
set_option maxRecDepth 100000 in
set_option maxHeartbeats 4000000 in
theorem input_any (p:PortD) (l:Sigs) (a:Option Addr) (cap:Nat) (w:World) (hS:SigsIn w l a cap) (h1:1≤p.width) (h16:p.width≤16) :
  Calls Tryz.prog 97 #[.agg #[.string p.name,.int .i64 p.width],.slice a l.length cap] w fun e w'=>e=.returned (.int .i64 (inputV p l))∧Below w.heap.size w w':=by
 have hb0:Below w.heap.size w (w.alloc (.cells #[.string p.name,.int .i64 p.width] 104)):=(Below.refl _ _).alloc (Nat.le_refl _) _
 have HC:=Lib.hid (indexFunc_sig w.heap.size (fun x:ByteArray × Int=>x.1.toList == p.name.toList) l a cap w (w.alloc (.cells #[.string p.name,.int .i64 p.width] 104)) (hS.keep (keeps_of_below hb0)) (fun v hv w' hw'=>sameName_any v.1 p.name v.2 w.heap.size w' ((keeps_of_below hw') _ _ (by simp))))
 have hlen:=hS.2.1
 have hsc:=hS.1
 have HA:=Lib.hid hS.addr
 have HS:=Lib.hid hS
 have hIV:(∃ k,∃ hk:k < l.length,idxP (fun x:ByteArray × Int=>x.1.toList == p.name.toList) l 0=(k:Int)∧inputV p l=cutW (l[k]'hk).2 p.width)∨(idxP (fun x:ByteArray × Int=>x.1.toList == p.name.toList) l 0=-1∧inputV p l=0):=by
  rcases valS_idx (l:=l) (s:=p.name) with ⟨k,hk,g1,g2⟩ | ⟨g1,g2⟩
  ·exact Or.inl ⟨k,hk,g1,by unfold inputV;rw[g2]⟩
  ·exact Or.inr ⟨g1,by unfold inputV;rw[g2]⟩
 generalize inputV p l=r at hIV⊢
 generalize idxP (fun x:ByteArray × Int=>x.1.toList == p.name.toList) l 0=ix at hIV HC
 obtain⟨nm,wd⟩:=p
 simp only at h1 h16 hIV HC hb0⊢
 obtain⟨q,rfl⟩:=Int.eq_ofNat_of_zero_le (show 0≤wd by omega)
 have hq:q≤16:=by omega
 have HCu:=Lib.hid (fun z W=>cut_any z q hq W)
 have HB0:=Lib.hid hb0
 clear hb0 hS
 rcases hIV with ⟨k,hk,rfl,rfl⟩ | ⟨rfl,rfl⟩
 ·obtain⟨b,off,ha⟩:=HA.out.resolve_left (by omega)
  subst ha
  obtain⟨c0,c1⟩:=HS.out.get rfl hk
  generalize (l[k]'hk).2=z at c1
  have HC1:=Lib.hid c1
  have hkl:(k:Int) < l.length:=by omega
  clear c0 c1
  go_enter Tryz.func97, Tryz.ntmps97
  go_wp2_with fail
  refine HC.out.mono ?_
  rintro e w2 ⟨rfl,hb2⟩
  have HB2:=Lib.hid (HB0.out.trans (hb2.mono HB0.out.size))
  have p1:=(keeps_of_below hb2) ⟨w.heap.size,1,none⟩ (.int .i64 q) (by simp)
  have i1:=(keeps_of_below HB2.out) _ _ HC1.out
  clear hb2
  go_wp2_with fail
  go_quiet ((go_at_call 99;exact Calls.quiet_of_same ((HCu.out z _).mono fun e w' h=>⟨h.1,h.2.symm⟩)))
  go_wp2_with fail
  go_ret
  exact⟨rfl,by exact below_drewN HB2.out _⟩
 ·go_enter Tryz.func97, Tryz.ntmps97
  go_wp2_with fail
  refine HC.out.mono ?_
  rintro e w2 ⟨rfl,hb2⟩
  have HB2:=Lib.hid (HB0.out.trans (hb2.mono HB0.out.size))
  clear hb2
  go_wp2_with fail
  go_ret
  exact⟨rfl,HB2.out⟩
end Go.Proofs.YtebneadheaefdaaGreatDoor
namespace Go.Proofs.YtebneadheaefdaaGreatDoor
open Go.RowKit
attribute [local go_sem ↓] Go.wp_at_zero Go.wp_at_succ
theorem set6 {w:World} {b:Nat} {z0 z1 z2 z3 z4 z5 u0 u1 u2 u3 u4 u5:Value} {t:TypeId} (h:w.heap[b]? = some (.cells #[z0,z1,z2,z3,z4,z5] t (0,0))) :
  ((((((w.setCell ⟨b,0,none⟩ u0).setCell ⟨b,1,none⟩ u1).setCell ⟨b,2,none⟩ u2).setCell ⟨b,3,none⟩ u3).setCell ⟨b,4,none⟩ u4).setCell ⟨b,5,none⟩ u5).heap[b]? = some (.cells #[u0,u1,u2,u3,u4,u5] t (0,0)):=by
 have h0:=heap_setCell_same _ b 0 _ t u0 h
 have h1:=heap_setCell_same _ b 1 _ t u1 h0
 have h2:=heap_setCell_same _ b 2 _ t u2 h1
 have h3:=heap_setCell_same _ b 3 _ t u3 h2
 have h4:=heap_setCell_same _ b 4 _ t u4 h3
 have h5:=heap_setCell_same _ b 5 _ t u5 h4
 rw[h5]
 rfl
theorem below_set6 {w0 w:World} {B b:Nat} {u0 u1 u2 u3 u4 u5:Value} (h:Below B w0 w) (hb:B≤b):Below B w0 ((((((w.setCell ⟨b,0,none⟩ u0).setCell ⟨b,1,none⟩ u1).setCell ⟨b,2,none⟩ u2).setCell ⟨b,3,none⟩ u3).setCell ⟨b,4,none⟩ u4).setCell ⟨b,5,none⟩ u5) :=
 (((((h.setCell hb _).setCell hb _).setCell hb _).setCell hb _).setCell hb _).setCell hb _
theorem keep_set6 {w:World} {b:Nat} {u0 u1 u2 u3 u4 u5:Value} {a:Addr} {v:Value} (hc:w.cell? a=some v) (hb:a.block≠b):((((((w.setCell ⟨b,0,none⟩ u0).setCell ⟨b,1,none⟩ u1).setCell ⟨b,2,none⟩ u2).setCell ⟨b,3,none⟩ u3).setCell ⟨b,4,none⟩ u4).setCell ⟨b,5,none⟩ u5).cell? a=some v:=by
 have hn:∀ j,(⟨b,j,none⟩:Addr)≠a:=fun j e=>hb (by rw[← e])
 rw[World.cell?_setCell_other _ _ _ _ (hn 5),World.cell?_setCell_other _ _ _ _ (hn 4),World.cell?_setCell_other _ _ _ _ (hn 3),World.cell?_setCell_other _ _ _ _ (hn 2),World.cell?_setCell_other _ _ _ _ (hn 1),World.cell?_setCell_other _ _ _ _ (hn 0)]
 exact hc
theorem build_res (W:World) (tm:Array Value) (b:Nat) (m0 m1 m2 m3 m4 m5:Value) (e:Value) (hW:W.heap[b]? = some (.cells #[m0,m1,m2,m3,m4,m5] 81 (0,0))) (h0:tm.getD 2 undef=.pointer (some ⟨b,0,none⟩)) (h1:tm.getD 3 undef=e) :
  (results Tryz.f46 tm).run Tryz.prog W=.ok (.tuple #[.agg #[m0,m1,m2,m3,m4,m5],e]) W:=by
 have hr : Tryz.f46.results=#[.cell 2 81,.tmp 3]:=rfl
 have c0:=cell_of_blk hW 0
 have c1:=cell_of_blk hW 1
 have c2:=cell_of_blk hW 2
 have c3:=cell_of_blk hW 3
 have c4:=cell_of_blk hW 4
 have c5:=cell_of_blk hW 5
 simp at c0 c1 c2 c3 c4 c5
 rw[results_cell_tmp hr,h0,h1]
 simp[asAddr]
 go_simp
def machVals (d:DesD) (x:DesA) (n:Nat) (aO:Option Addr) (cO:Nat):Array Value:=#[.string d.name,.slice x.ai d.inputs.length x.ci,.slice x.aw d.wires.length x.cw,.slice x.ar d.regs.length x.cr,.slice x.ao d.outputs.length x.co,.slice aO n cO]
def machVal (d:DesD) (x:DesA) (n:Nat) (aO:Option Addr) (cO:Nat):Value:=.agg (machVals d x n aO cO)
def BuildPost (w:World) (d:DesD) (x:DesA) (e:Ending) (w':World):Prop :=
 ((d.err=0∧∃ aO cO,e=.returned (.tuple #[machVal d x d.order.length aO cO,.int .i64 0])∧IntsIn w' (natI d.order) aO cO)∨(¬ d.err=0∧e=.returned (.tuple #[machVal d x 0 none 0,.int .i64 d.err])))∧Below w.heap.size w w'
set_option maxRecDepth 100000 in
set_option maxHeartbeats 8000000 in
theorem build_any (d:DesD) (x:DesA) (w:World) (hE:DesIn w d x) (hs:DesSmall d) (hG:Glob w) :
  Calls Tryz.prog 46 #[desVal d x] w (BuildPost w d x):=by
 have HO0:=Lib.hid (fun W (hW:Below w.heap.size w W)=>OrderV_any d x W (hE.below hW) hs (hG.below hW))
 unfold OrderVPost at HO0
 have HP1:Hid (∀ a cap w',d.err=0→IntsIn w' (natI d.order) a cap→Below w.heap.size w w'→BuildPost w d x (.returned (.tuple #[machVal d x d.order.length a cap,.int .i64 0])) w'):=fun a cap w' h1 h2 h3=>⟨Or.inl ⟨h1,a,cap,rfl,h2⟩,h3⟩
 have HP0:Hid (∀ w',¬ d.err=0→Below w.heap.size w w'→BuildPost w d x (.returned (.tuple #[machVal d x 0 none 0,.int .i64 d.err])) w'):=fun w' h1 h2=>⟨Or.inr ⟨h1,rfl⟩,h2⟩
 generalize BuildPost w d x=Po at HP1 HP0⊢
 generalize d.err=err at HO0 HP1 HP0
 generalize d.order=OD at HO0 HP1
 clear hE hs hG
 obtain⟨nm,ins,wires,regs,outs⟩:=d
 obtain⟨ai,ci,aw,cw,ar,cr,ao,co⟩:=x
 simp only[desVal,desVals,machVal,machVals] at HO0 HP1 HP0⊢
 have hbA:Below w.heap.size w ((w.alloc (.cells #[.string nm,.slice ai ins.length ci,.slice aw wires.length cw,.slice ar regs.length cr,.slice ao outs.length co] 27)).alloc (.cells #[.string .empty,.slice none 0 0,.slice none 0 0,.slice none 0 0,.slice none 0 0,.slice none 0 0] 81)):=bel
 have HO1:=Lib.hid (HO0.out _ hbA)
 have hx0:((w.alloc (.cells #[.string nm,.slice ai ins.length ci,.slice aw wires.length cw,.slice ar regs.length cr,.slice ao outs.length co] 27)).alloc (.cells #[.string .empty,.slice none 0 0,.slice none 0 0,.slice none 0 0,.slice none 0 0,.slice none 0 0] 81)).heap[w.heap.size]? = some (.cells #[.string nm,.slice ai ins.length ci,.slice aw wires.length cw,.slice ar regs.length cr,.slice ao outs.length co] 27 (0,0)):=by rw[Below.heap_alloc _ _ _ (by simp)];exact heap_alloc_at _ _ _ rfl
 have hx1:((w.alloc (.cells #[.string nm,.slice ai ins.length ci,.slice aw wires.length cw,.slice ar regs.length cr,.slice ao outs.length co] 27)).alloc (.cells #[.string .empty,.slice none 0 0,.slice none 0 0,.slice none 0 0,.slice none 0 0,.slice none 0 0] 81)).heap[w.heap.size+1]? = some (.cells #[.string .empty,.slice none 0 0,.slice none 0 0,.slice none 0 0,.slice none 0 0,.slice none 0 0] 81 (0,0)):=heap_alloc_at _ _ _ (by simp)
 have HX:=Lib.hid (⟨hx0,hx1⟩:_∧_)
 have HBA:=Lib.hid hbA
 clear hbA hx0 hx1 HO0
 go_enter Tryz.func46, Tryz.ntmps46
 go_wp2_with fail
 refine HO1.out.mono ?_
 rintro e w2 ⟨h,hb2⟩
 have HB2:=Lib.hid (HBA.out.trans (hb2.mono HBA.out.size))
 have h0:=(hb2.block _ (lt_of_block HX.out.1)).trans HX.out.1
 have h1:=(hb2.block _ (lt_of_block HX.out.2)).trans HX.out.2
 have HH:=Lib.hid (⟨h0,h1⟩:_∧_)
 have b0:=cell_of_blk h0 0
 have b1:=cell_of_blk h0 1
 have b2:=cell_of_blk h0 2
 have b3:=cell_of_blk h0 3
 have b4:=cell_of_blk h0 4
 simp at b0 b1 b2 b3 b4
 have m0:=cell_of_blk h1 0
 have m1:=cell_of_blk h1 1
 have m2:=cell_of_blk h1 2
 have m3:=cell_of_blk h1 3
 have m4:=cell_of_blk h1 4
 have m5:=cell_of_blk h1 5
 simp at m0 m1 m2 m3 m4 m5
 have fz:∀ j,w2.frozen? ⟨w.heap.size+1,j,none⟩=false:=fun j=>by simp[World.frozen?,h1]
 have f0:=fz 0
 have f1:=fz 1
 have f2:=fz 2
 have f3:=fz 3
 have f4:=fz 4
 have f5:=fz 5
 have hne:w.heap.size≠w.heap.size+1:=by omega
 clear hb2 h0 h1 fz
 rcases h with ⟨he,a,cap,rfl,hI⟩ | ⟨he,rfl⟩
 ·have HI:=Lib.hid hI
  clear hI
  go_wp2_with fail
  refine bodyPost_ret (v:=.tuple #[.agg #[.string nm,.slice ai ins.length ci,.slice aw wires.length cw,.slice ar regs.length cr,.slice ao outs.length co,.slice a OD.length cap],.int .i64 0]) (build_res _ _ (w.heap.size+1) _ _ _ _ _ _ _ (set6 HH.out.2) rfl rfl) rfl ?_
  exact HP1.out a cap _ he (HI.out.mono fun i b o hi ⟨n,h1,h2⟩=>⟨n,h1,keep_set6 h2 (fun e=>by
   simp only at e
   subst e
   rw[cell_of_blk HH.out.2] at h2
   rcases o with _ | _ | _ | _ | _ | _ | o<;>simp at h2)⟩) (below_set6 HB2.out (by omega))
 ·go_wp2_with fail
  refine bodyPost_ret (v:=.tuple #[.agg #[.string nm,.slice ai ins.length ci,.slice aw wires.length cw,.slice ar regs.length cr,.slice ao outs.length co,.slice none 0 0],.int .i64 err]) (build_res _ _ (w.heap.size+1) _ _ _ _ _ _ _ (set6 HH.out.2) rfl rfl) rfl ?_
  exact HP0.out _ he (below_set6 HB2.out (by omega))
end Go.Proofs.YtebneadheaefdaaGreatDoor
