/- exprtext: operators, byOp, prefix. -/
import Derived.Test.YtcplmcjbkpmhdaaGreatDoorDC
import Derived.Test.YtcplmcjbkpmhdaaGreatDoorShelf
import Derived.Lib.ItoaNum
import Derived.Test.YtcplmcjbkpmhdaaGreatDoorKE
import Derived.BigQuiet
set_option linter.unusedSimpArgs false
set_option linter.unusedVariables false
set_option linter.unnecessarySimpa false
namespace Go.Proofs.YtcplmcjbkpmhdaaGreatDoor
open Go.RowKit
attribute [local go_sem ↓] Go.wp_at_zero Go.wp_at_succ
def opsL:List (ByteArray × Int × Int):=[(⟨#[61,62]⟩,21,2),(⟨#[124,124]⟩,20,3),(⟨#[38,38]⟩,19,4),(⟨#[124]⟩,11,5),(⟨#[94]⟩,12,6),(⟨#[38]⟩,10,7),(⟨#[61,61]⟩,15,8),(⟨#[33,61]⟩,16,8),(⟨#[60]⟩,17,9),(⟨#[60,61]⟩,18,9),(⟨#[60,60]⟩,13,10),(⟨#[62,62]⟩,14,10),(⟨#[43]⟩,7,11),(⟨#[45]⟩,8,11),(⟨#[42]⟩,9,12)]
def opCells:List Value:=opsL.flatMap fun p=>[.string p.1,.int .i64 p.2.1,.int .i64 p.2.2]
def opAt (k:Nat):ByteArray × Int × Int:=opsL.getD k (.empty,0,0)
def binS (op:Int):Option (ByteArray × Int × Int):=opsL.find? fun p=>p.2.1 == op
def binG (op:Int):ByteArray × Int × Int:=(binS op).getD (.empty,0,0)
set_option maxRecDepth 100000 in
set_option maxHeartbeats 2000000 in
theorem operators_any (w:World):Calls Tryz.prog 217 #[] w fun e w'=>e=.returned (.slice (some ⟨w.heap.size,0,none⟩) 15 15)∧w'=w.alloc (.cells opCells.toArray 177):=by
 go_enter Tryz.func217, Tryz.ntmps217
 go_wp2_with fail
 go_ret
 exact⟨rfl,rfl⟩
theorem opCells_at {k:Nat} (hk:k < 15):opCells.toArray[k * 3]? = some (.string (opAt k).1)∧opCells.toArray[k * 3+1]? = some (.int .i64 (opAt k).2.1)∧opCells.toArray[k * 3+2]? = some (.int .i64 (opAt k).2.2):=by
 have:k=0∨k=1∨k=2∨k=3∨k=4∨k=5∨k=6∨k=7∨k=8∨k=9∨k=10∨k=11∨k=12∨k=13∨k=14:=by omega
 rcases this with rfl | rfl | rfl | rfl | rfl | rfl | rfl | rfl | rfl | rfl | rfl | rfl | rfl | rfl | rfl<;>exact⟨rfl,rfl,rfl⟩
theorem binS_at {op:Int} {k:Nat} (hk:k < 15) (h0:∀ j,j < k→¬ (opAt j).2.1=op) (h1:(opAt k).2.1=op):binS op=some (opAt k):=by
 have hl:k < opsL.length:=hk
 have e:opAt k=opsL[k]:=by unfold opAt;simp[List.getD_eq_getElem?_getD,hl]
 unfold binS
 rw[List.find?_eq_some_iff_getElem]
 refine⟨by simpa using h1,k,hl,e.symm,fun j hj=>?_⟩
 have e2:opAt j=opsL[j]:=by
  have:j < opsL.length:=by omega
  unfold opAt;simp[List.getD_eq_getElem?_getD,this]
 have:=h0 j hj
 rw[e2] at this
 simpa using this
theorem binS_no {op:Int} (h0:∀ j,j < 15→¬ (opAt j).2.1=op):binS op=none:=by
 unfold binS
 rw[List.find?_eq_none]
 intro p hp
 obtain⟨j,hj,rfl⟩:=List.getElem_of_mem hp
 have e2:opAt j=opsL[j]:=by unfold opAt;simp[List.getD_eq_getElem?_getD,hj]
 have:=h0 j hj
 rw[e2] at this
 simpa using this
theorem hx_oldT {X:World} {o' o:Obj} {b:Nat} (h:X.heap[b]? = some o):(X.alloc o').heap[b]? = some o:=by rw[Below.heap_alloc _ _ _ (lt_of_block h)];exact h
theorem set3 {w:World} {b:Nat} {z0 z1 z2 u0 u1 u2:Value} {t:TypeId} (h:w.heap[b]? = some (.cells #[z0,z1,z2] t (0,0))) :
  (((w.setCell ⟨b,0,none⟩ u0).setCell ⟨b,1,none⟩ u1).setCell ⟨b,2,none⟩ u2).heap[b]? = some (.cells #[u0,u1,u2] t (0,0)):=by
 have h0:=heap_setCell_same _ b 0 _ t u0 h
 have h1:=heap_setCell_same _ b 1 _ t u1 h0
 have h2:=heap_setCell_same _ b 2 _ t u2 h1
 rw[h2]
 rfl
theorem below_set3 {w0 w:World} {B b:Nat} {u0 u1 u2:Value} (h:Below B w0 w) (hb:B≤b):Below B w0 (((w.setCell ⟨b,0,none⟩ u0).setCell ⟨b,1,none⟩ u1).setCell ⟨b,2,none⟩ u2) :=
 ((h.setCell hb _).setCell hb _).setCell hb _
theorem byOp_res (W:World) (tm:Array Value) (b:Nat) (m0 m1 m2 e:Value) (hW:W.heap[b]? = some (.cells #[m0,m1,m2] 177 (0,0))) (h0:tm.getD 2 undef=.pointer (some ⟨b,0,none⟩)) (h1:tm.getD 3 undef=e) :
  (results Tryz.f170 tm).run Tryz.prog W=.ok (.tuple #[.agg #[m0,m1,m2],e]) W:=by
 have hr : Tryz.f170.results=#[.cell 2 177,.tmp 3]:=rfl
 have c0:=cell_of_blkT hW 0
 have c1:=cell_of_blkT hW 1
 have c2:=cell_of_blkT hW 2
 simp at c0 c1 c2
 rw[results_cell_tmp hr,h0,h1]
 simp[asAddr]
 go_simp
def ByPost (op:Int) (w:World) (e:Ending) (w':World):Prop:=e=.returned (.tuple #[.agg #[.string (binG op).1,.int .i64 (binG op).2.1,.int .i64 (binG op).2.2],.bool (binS op).isSome])∧Below w.heap.size w w'
set_option maxRecDepth 100000 in
set_option maxHeartbeats 4000000 in
theorem byOp_any (op:Int) (w:World):Calls Tryz.prog 170 #[.int .i64 op] w (ByPost op w):=by
 have HP1:Hid (∀ k w',k < 15→(∀ j,j < k→¬ (opAt j).2.1=op)→(opAt k).2.1=op→Below w.heap.size w w'→ByPost op w (.returned (.tuple #[.agg #[.string (opAt k).1,.int .i64 (opAt k).2.1,.int .i64 (opAt k).2.2],.bool true])) w'):=fun k w' h1 h2 h3 h4=>by
  have:=binS_at h1 h2 h3
  unfold ByPost binG
  rw[this]
  exact⟨rfl,h4⟩
 have HP0:Hid (∀ w',(∀ j,j < 15→¬ (opAt j).2.1=op)→Below w.heap.size w w'→ByPost op w (.returned (.tuple #[.agg #[.string .empty,.int .i64 0,.int .i64 0],.bool false])) w'):=fun w' h1 h2=>by
  have:=binS_no h1
  unfold ByPost binG
  rw[this]
  exact⟨rfl,h2⟩
 generalize ByPost op w=Po at HP1 HP0⊢
 have HOp:=Lib.hid (operators_any (w.alloc (.cells #[.string .empty,.int .i64 0,.int .i64 0] 177)))
 have HB0:Hid (Below (w.heap.size+2) ((w.alloc (.cells #[.string .empty,.int .i64 0,.int .i64 0] 177)).alloc (.cells opCells.toArray 177)) ((w.alloc (.cells #[.string .empty,.int .i64 0,.int .i64 0] 177)).alloc (.cells opCells.toArray 177))):=Below.refl _ _
 go_enter Tryz.func170, Tryz.ntmps170
 go_wp2_with fail
 refine HOp.out.mono ?_
 rintro e w1 ⟨rfl,rfl⟩
 have hW1:∀ wr,Below (w.heap.size+2) ((w.alloc (.cells #[.string .empty,.int .i64 0,.int .i64 0] 177)).alloc (.cells opCells.toArray 177)) wr→wr.heap[w.heap.size]? = some (.cells #[.string .empty,.int .i64 0,.int .i64 0] 177 (0,0))∧wr.heap[w.heap.size+1]? = some (.cells opCells.toArray 177 (0,0))∧Below w.heap.size w wr:=fun wr h=>by
  refine⟨(h.block _ (by omega)).trans ?_,(h.block _ (by omega)).trans ?_,?_⟩
  ·rw[Below.heap_alloc _ _ _ (by simp)]
   exact heap_alloc_at _ _ _ rfl
  ·exact heap_alloc_at _ _ _ (by simp)
  ·exact(((Below.refl w.heap.size w).alloc (Nat.le_refl _) _).alloc (by simp) _).trans (h.mono (by omega))
 have HW1:=Lib.hid hW1
 generalize hWW:(w.alloc (.cells #[.string .empty,.int .i64 0,.int .i64 0] 177)).alloc (.cells opCells.toArray 177)=W1 at HB0 HW1⊢
 clear hW1 HOp hWW
 simp only[World.size_alloc]
 go_wp2_with fail
 go_loopw [3,8] (fun r i wr=>∃ k:Nat,r=.bool false∧i=.int .i64 k∧k≤15∧Hid (∀ j,j < k→¬ (opAt j).2.1=op)∧Hid (Below (w.heap.size+2) W1 wr)) (fun _ i _=>15 - (intOf i).toNat)
 case atStart=>exact⟨0,rfl,rfl,by omega,fun j hj=>absurd hj (by omega),HB0⟩
 case round =>
  obtain⟨k,rfl,rfl,hk,HN,HB⟩:=hrel
  obtain⟨h0,h1,hBw⟩:=HW1.out wr HB.out
  have HBw:=Lib.hid hBw
  by_cases hlt:k < 15
  ·obtain⟨e0,e1,e2⟩:=opCells_at hlt
   have c0:=(cell_of_blkT h1 (k * 3)).trans e0
   have c1:=(cell_of_blkT h1 (k * 3+1)).trans e1
   have c2:=(cell_of_blkT h1 (k * 3+2)).trans e2
   have z0:=cell_of_blkT h0 0
   have z1:=cell_of_blkT h0 1
   have z2:=cell_of_blkT h0 2
   simp at z0 z1 z2
   have f0:∀ j,wr.frozen? ⟨w.heap.size,j,none⟩=false:=fun j=>by simp[World.frozen?,h0]
   have hzr:w.heap.size < wr.heap.size:=lt_of_block h0
   have HPk:=Lib.hid (fun w'=>HP1.out k w' hlt HN.out)
   have HNk:Hid (¬ (opAt k).2.1=op→∀ j,j < k+1→¬ (opAt j).2.1=op):=fun hne j hj=>by
    by_cases e:j=k
    ·subst e;exact hne
    ·exact HN.out j (by omega)
   have HBx:Hid (∀ o,Below (w.heap.size+2) W1 (wr.alloc o)):=fun o=>HB.out.alloc (by have:=lt_of_block h1;omega) o
   generalize opAt k=t at c0 c1 c2 HPk HNk
   obtain⟨m,o,l⟩:=t
   simp only at c0 c1 c2 HPk HNk
   clear e0 e1 e2 hBw HN
   by_cases ho:o=op
   ·subst ho
    have HPf:=Lib.hid (fun w'=>HPk.out w' rfl)
    have d1:(o == o)=true:=by simp
    go_wp2_with fail
    refine bodyPost_ret (v:=.tuple #[.agg #[.string m,.int .i64 o,.int .i64 l],.bool true]) (byOp_res _ _ w.heap.size _ _ _ _ (hx_oldT (set3 h0)) rfl rfl) rfl ?_
    exact HPf.out _ ((below_set3 HBw.out (Nat.le_refl _)).alloc (by simp;omega) _)
   ·have d1:(o == op)=false:=by simpa using ho
    have HN1:=Lib.hid (HNk.out ho)
    have HB1:=Lib.hid (HBx.out (.cells #[.string m,.int .i64 o,.int .i64 l] 177))
    go_wp2_with fail
    go_roundw
    case rel=>exact⟨k+1,rfl,by go_num,by omega,HN1,HB1⟩
    case measure=>(simp[intOf];try omega)
  ·obtain rfl:k=15:=by omega
   have z0:=cell_of_blkT h0 0
   have z1:=cell_of_blkT h0 1
   have z2:=cell_of_blkT h0 2
   simp at z0 z1 z2
   have f0:∀ j,wr.frozen? ⟨w.heap.size,j,none⟩=false:=fun j=>by simp[World.frozen?,h0]
   have hzr:w.heap.size < wr.heap.size:=lt_of_block h0
   have HPf:=Lib.hid (fun w'=>HP0.out w' HN.out)
   clear hBw
   go_wp2_with fail
   refine bodyPost_ret (v:=.tuple #[.agg #[.string .empty,.int .i64 0,.int .i64 0],.bool false]) (byOp_res _ _ w.heap.size _ _ _ _ (set3 h0) rfl rfl) rfl ?_
   exact HPf.out _ (below_set3 HBw.out (Nat.le_refl _))
end Go.Proofs.YtcplmcjbkpmhdaaGreatDoor
namespace Go.Proofs.YtcplmcjbkpmhdaaGreatDoor
open Go.RowKit
attribute [local go_sem ↓] Go.wp_at_zero Go.wp_at_succ
def preS (op:Int):ByteArray:=if op=4 then ⟨#[33]⟩ else if op=5 then ⟨#[126]⟩ else if op=6 then ⟨#[45]⟩ else .empty
def levS (op:Int):Int:=match binS op with
 | some p=>p.2.2
 | none=>if op=22 then 1 else if op=23 then 9 else if op=4∨op=5∨op=6 then 13 else 14
set_option maxRecDepth 100000 in
set_option maxHeartbeats 2000000 in
theorem prefix_any (op:Int) (w:World):Calls Tryz.prog 172 #[.int .i64 op] w fun e w'=>e=.returned (.string (preS op))∧w'=w:=by
 unfold preS
 by_cases h4:op=4
 ·subst h4
  go_enter Tryz.func172, Tryz.ntmps172
  go_wp2_with fail
  go_ret
  exact⟨rfl,rfl⟩
 have d4:(op == 4)=false:=by simpa using h4
 rw[if_neg h4]
 by_cases h5:op=5
 ·subst h5
  go_enter Tryz.func172, Tryz.ntmps172
  go_wp2_with fail
  go_ret
  exact⟨rfl,rfl⟩
 have d5:(op == 5)=false:=by simpa using h5
 rw[if_neg h5]
 by_cases h6:op=6
 ·subst h6
  go_enter Tryz.func172, Tryz.ntmps172
  go_wp2_with fail
  go_ret
  exact⟨rfl,rfl⟩
 have d6:(op == 6)=false:=by simpa using h6
 rw[if_neg h6]
 go_enter Tryz.func172, Tryz.ntmps172
 go_wp2_with fail
 go_ret
 exact⟨rfl,rfl⟩
theorem variable_any (s:ByteArray) (h:Lib.indexByte s.data.toList 91 < 0) (w:World):Calls Tryz.prog 175 #[.string s] w fun e w'=>e=.returned (.string s)∧w'=w:=by
 have HI:Hid (Calls Tryz.prog 221 #[.string s,.int .u8 91] w fun e w'=>e=.returned (.int .i64 (Lib.indexByte s.data.toList 91))∧w'=w):=Tryz.strings_IndexByte s 91 w
 generalize Lib.indexByte s.data.toList 91=i at h HI
 have d0:decide ((0:Int)≤i)=false:=decide_eq_false (by omega)
 have d1:decide (i≥(0:Int))=false:=decide_eq_false (by omega)
 go_enter Tryz.func175, Tryz.ntmps175
 go_wp2_with fail
 refine HI.out.mono ?_
 rintro e w1 ⟨rfl,rfl⟩
 go_wp2_with fail
 go_ret
 exact⟨rfl,rfl⟩
def LevPost (op:Int) (w:World) (e:Ending) (w':World):Prop:=e=.returned (.int .i64 (levS op))∧Below w.heap.size w w'
set_option maxRecDepth 100000 in
set_option maxHeartbeats 4000000 in
theorem level_any (op n:Int) (s:ByteArray) (k:Nat) (a:Option Addr) (cap:Nat) (w:World) :
  Calls Tryz.prog 218 #[.agg #[.int .i64 op,.int .i64 n,.string s,.slice a k cap]] w (LevPost op w):=by
 have HBy:=Lib.hid (byOp_any op (w.alloc (.cells #[.int .i64 op,.int .i64 n,.string s,.slice a k cap] 55)))
 have HPr:=Lib.hid (fun W=>prefix_any op W)
 have HP:Hid (∀ w',Below w.heap.size w w'→LevPost op w (.returned (.int .i64 (levS op))) w'):=fun w' h=>⟨rfl,h⟩
 have hb0:Below w.heap.size w (w.alloc (.cells #[.int .i64 op,.int .i64 n,.string s,.slice a k cap] 55)):=(Below.refl _ _).alloc (Nat.le_refl _) _
 have HB0:=Lib.hid hb0
 have HBx:Hid (Below (w.heap.size+1) (w.alloc (.cells #[.int .i64 op,.int .i64 n,.string s,.slice a k cap] 55)) (w.alloc (.cells #[.int .i64 op,.int .i64 n,.string s,.slice a k cap] 55))):=Below.refl _ _
 unfold ByPost at HBy
 clear hb0
 generalize LevPost op w=Po at HP⊢
 unfold levS at HP
 unfold binG at HBy
 cases hb:binS op with
 | some p =>
  obtain⟨m,o,l⟩:=p
  rw[hb] at HBy HP
  simp only[Option.getD_some,Option.isSome_some] at HBy HP
  clear hb
  go_enter Tryz.func218, Tryz.ntmps218
  go_wp2_with fail
  refine HBy.out.mono ?_
  rintro e w1 ⟨rfl,hb1⟩
  have HB1:=Lib.hid (HBx.out.trans (hb1.mono (by simp)))
  have HPf:=Lib.hid (fun W (hW:Below w.heap.size w W)=>HP.out W hW)
  have HBw:=Lib.hid (boxWT _ HB1.out)
  clear hb1
  go_wp2_with fail
  first | exact HPf.out _ (HBw.out.alloc HBw.out.size _) | (go_ret;exact HPf.out _ (HBw.out.alloc HBw.out.size _))
 | none =>
  rw[hb] at HBy HP
  simp only[Option.getD_none,Option.isSome_none] at HBy HP
  clear hb
  go_enter Tryz.func218, Tryz.ntmps218
  go_wp2_with fail
  refine HBy.out.mono ?_
  rintro e w1 ⟨rfl,hb1⟩
  have HB1:=Lib.hid (HBx.out.trans (hb1.mono (by simp)))
  have HBw:=Lib.hid (boxWT _ HB1.out)
  have HPf:=Lib.hid (HP.out _ (HBw.out.alloc HBw.out.size (.cells #[.string .empty,.int .i64 0,.int .i64 0] 177)))
  have HB2:=Lib.hid (HB1.out.alloc (by have:=HB1.out.size;simpa using this) (.cells #[.string .empty,.int .i64 0,.int .i64 0] 177))
  have b0:=box_cellT HB2.out 0
  simp at b0
  clear hb1
  by_cases h22:op=22
  ·subst h22
   go_wp2_with fail
   first | exact HPf.out | (go_ret;exact HPf.out)
  have d22:(op == 22)=false:=by simpa using h22
  rw[if_neg h22] at HPf
  by_cases h23:op=23
  ·subst h23
   go_wp2_with fail
   first | exact HPf.out | (go_ret;exact HPf.out)
  have d23:(op == 23)=false:=by simpa using h23
  rw[if_neg h23] at HPf
  have HPr2:=Lib.hid (HPr.out (w1.alloc (.cells #[.string .empty,.int .i64 0,.int .i64 0] 177)))
  by_cases h456:op=4∨op=5∨op=6
  ·rw[if_pos h456] at HPf
   have hne:(preS op).toList.isEmpty=false:=by
    rcases h456 with rfl | rfl | rfl<;>(rw[ByteArray.toList_eq];rfl)
   generalize preS op=ps at HPr2 hne
   go_wp2_with fail
   refine HPr2.out.mono ?_
   rintro e w2 ⟨rfl,rfl⟩
   go_wp2_with fail
   first | exact HPf.out | (go_ret;exact HPf.out)
  ·rw[if_neg h456] at HPf
   have hpe:preS op=.empty:=by
    unfold preS
    rw[if_neg (fun e=>h456 (Or.inl e)),if_neg (fun e=>h456 (Or.inr (Or.inl e))),if_neg (fun e=>h456 (Or.inr (Or.inr e)))]
   rw[hpe] at HPr2
   go_wp2_with fail
   refine HPr2.out.mono ?_
   rintro e w2 ⟨rfl,rfl⟩
   go_wp2_with fail
   first | exact HPf.out | (go_ret;exact HPf.out)
end Go.Proofs.YtcplmcjbkpmhdaaGreatDoor
namespace Go.Proofs.YtcplmcjbkpmhdaaGreatDoor
open Go.RowKit
attribute [local go_sem ↓] Go.wp_at_zero Go.wp_at_succ
def fmtS (n:Int):ByteArray:=⟨(Lib.itoa n).toArray⟩
def SPost (s:ByteArray) (w:World) (e:Ending) (w':World):Prop:=e=.returned (.string s)∧Below w.heap.size w w'
def FmtC (B:Nat) (w0:World) (n:Int):Prop:=∀ W,Below B w0 W→Calls Tryz.prog 174 #[.int .i64 n] W (SPost (fmtS n) W)
def TextC (B:Nat) (w0:World) (e:Ex) (s:ByteArray):Prop:=∀ a c W,Below B w0 W→B≤W.heap.size→ExIn W e a c→Calls Tryz.prog 120 #[.agg #[.int .i64 e.op,.int .i64 e.n,.string e.name,.slice a e.args.length c]] W (SPost s W)
def AtC (B:Nat) (w0:World) (e:Ex) (need:Int) (s:ByteArray):Prop:=∀ a c W,Below B w0 W→B≤W.heap.size→ExIn W e a c→Calls Tryz.prog 171 #[.agg #[.int .i64 e.op,.int .i64 e.n,.string e.name,.slice a e.args.length c],.int .i64 need] W (SPost s W)
theorem fmt_small (B:Nat) (w0:World) (n:Nat) (h:n < 100):FmtC B w0 n:=by
 intro w hw
 have HI:Hid (Calls Tryz.prog 220 #[.int .i64 n] w fun e w'=>e=.returned (.string (fmtS n))∧w'=w):=by
  have:=Tryz.strconv_Itoa_small n h w
  have he:Lib.itoa (n:Int)=Lib.decDigits n:=by unfold Lib.itoa;rw[if_neg (by omega)];rfl
  unfold fmtS
  rw[he]
  exact this
 have HP:Hid (SPost (fmtS n) w (.returned (.string (fmtS n))) w):=⟨rfl,Below.refl _ _⟩
 generalize SPost (fmtS n) w=Po at HP⊢
 generalize fmtS n=s at HI HP
 go_enter Tryz.func174, Tryz.ntmps174
 go_wp2_with fail
 refine HI.out.mono ?_
 rintro e w1 ⟨rfl,rfl⟩
 go_wp2_with fail
 first | exact HP.out | (go_ret;exact HP.out)
def parS (need:Int) (op:Int) (s:ByteArray):ByteArray:=if levS op < need then (⟨#[40]⟩++s)++⟨#[41]⟩ else s
set_option maxRecDepth 100000 in
set_option maxHeartbeats 4000000 in
theorem at_of {B:Nat} {w0:World} {e:Ex} {s:ByteArray} (h:TextC B w0 e s) (hs:s.size≤1099511627776) (need:Int):AtC B w0 e need (parS need e.op s):=by
 intro a c w hw hz hX
 obtain⟨op,n,nm,args⟩:=e
 have hb0:Below w.heap.size w (w.alloc (.cells #[.int .i64 op,.int .i64 n,.string nm,.slice a args.length c] 55)):=(Below.refl _ _).alloc (Nat.le_refl _) _
 have HL:=Lib.hid (level_any op n nm args.length a c (w.alloc (.cells #[.int .i64 op,.int .i64 n,.string nm,.slice a args.length c] 55)))
 have HT:=Lib.hid (fun W (hW:Below w.heap.size w W)=>h a c W (hw.trans (hW.mono hz)) (Nat.le_trans hz hW.size) (hX.keep (keeps_of_below hW)))
 have HBx:Hid (Below (w.heap.size+1) (w.alloc (.cells #[.int .i64 op,.int .i64 n,.string nm,.slice a args.length c] 55)) (w.alloc (.cells #[.int .i64 op,.int .i64 n,.string nm,.slice a args.length c] 55))):=Below.refl _ _
 have HP:Hid (∀ w',Below w.heap.size w w'→SPost (parS need op s) w (.returned (.string (parS need op s))) w'):=fun w' h=>⟨rfl,h⟩
 simp only[Ex.op_mk,Ex.n_mk,Ex.name_mk,Ex.args_mk] at HT⊢
 unfold LevPost at HL
 unfold SPost at HT
 generalize SPost (parS need op s) w=Po at HP⊢
 unfold parS at HP
 clear h hX hb0
 generalize args.length=k at *
 by_cases hl:levS op < need
 ·rw[if_pos hl] at HP
  have d0:decide (levS op < need)=true:=by simpa using hl
  generalize levS op=L at HL d0
  go_enter Tryz.func171, Tryz.ntmps171
  go_wp2_with fail
  refine HL.out.mono ?_
  rintro e w1 ⟨rfl,hb1⟩
  have HB1:=Lib.hid (HBx.out.trans (hb1.mono (by simp)))
  have HBw:=Lib.hid (boxWT _ HB1.out)
  have hz1:=HB1.out.size
  simp only[World.size_alloc] at hz1
  have b0:=box_cellT HB1.out 0
  have b1:=box_cellT HB1.out 1
  have b2:=box_cellT HB1.out 2
  have b3:=box_cellT HB1.out 3
  simp at b0 b1 b2 b3
  clear hb1
  go_wp2_with fail
  refine(HT.out w1 HBw.out).mono ?_
  rintro e w2 ⟨rfl,hb2⟩
  have HB2:=Lib.hid (HB1.out.trans (hb2.mono hz1))
  have HPf:=Lib.hid (HP.out w2 (boxWT _ HB2.out))
  clear hb2
  go_wp2_with fail
  first | exact HPf.out | (go_ret;exact HPf.out)
 ·rw[if_neg hl] at HP
  have d0:decide (levS op < need)=false:=by simpa using hl
  generalize levS op=L at HL d0
  go_enter Tryz.func171, Tryz.ntmps171
  go_wp2_with fail
  refine HL.out.mono ?_
  rintro e w1 ⟨rfl,hb1⟩
  have HB1:=Lib.hid (HBx.out.trans (hb1.mono (by simp)))
  have HBw:=Lib.hid (boxWT _ HB1.out)
  have hz1:=HB1.out.size
  simp only[World.size_alloc] at hz1
  have b0:=box_cellT HB1.out 0
  have b1:=box_cellT HB1.out 1
  have b2:=box_cellT HB1.out 2
  have b3:=box_cellT HB1.out 3
  simp at b0 b1 b2 b3
  clear hb1
  go_wp2_with fail
  refine(HT.out w1 HBw.out).mono ?_
  rintro e w2 ⟨rfl,hb2⟩
  have HB2:=Lib.hid (HB1.out.trans (hb2.mono hz1))
  have HPf:=Lib.hid (HP.out w2 (boxWT _ HB2.out))
  clear hb2
  go_wp2_with fail
  first | exact HPf.out | (go_ret;exact HPf.out)
end Go.Proofs.YtcplmcjbkpmhdaaGreatDoor
namespace Go.Proofs.YtcplmcjbkpmhdaaGreatDoor
open Go.RowKit
attribute [local go_sem ↓] Go.wp_at_zero Go.wp_at_succ
def lftL (l:Int):Int:=if l=2 then 3 else l
def rgtL (l:Int):Int:=if l=2 then 2 else l+1
def binT (s1 m s2:ByteArray):ByteArray:=(((s1++⟨#[32]⟩)++m)++⟨#[32]⟩)++s2
theorem binS_level {op:Int} {m:ByteArray} {o l:Int} (h:binS op=some (m,o,l)):2≤l∧l≤12:=by
 have:=List.mem_of_find?_eq_some h
 simp only[opsL,List.mem_cons,Prod.mk.injEq,List.not_mem_nil,or_false] at this
 omega
theorem binS_size {op:Int} {m:ByteArray} {o l:Int} (h:binS op=some (m,o,l)):m.size≤2:=by
 have:=List.mem_of_find?_eq_some h
 simp only[opsL,List.mem_cons,Prod.mk.injEq,List.not_mem_nil,or_false] at this
 rcases this with ⟨rfl,_⟩ | ⟨rfl,_⟩ | ⟨rfl,_⟩ | ⟨rfl,_⟩ | ⟨rfl,_⟩ | ⟨rfl,_⟩ | ⟨rfl,_⟩ | ⟨rfl,_⟩ | ⟨rfl,_⟩ | ⟨rfl,_⟩ | ⟨rfl,_⟩ | ⟨rfl,_⟩ | ⟨rfl,_⟩ | ⟨rfl,_⟩ | ⟨rfl,_⟩<;>decide
set_option maxRecDepth 100000 in
set_option maxHeartbeats 8000000 in
theorem text_bin {B:Nat} {w0:World} {x y:Ex} {s1 s2 m:ByteArray} {o l:Int} (op n:Int) (nm:ByteArray) (hb:binS op=some (m,o,l)) (hx:AtC B w0 x (lftL l) s1) (hy:AtC B w0 y (rgtL l) s2) (hz1':s1.size≤1099511627776) (hz2':s2.size≤1099511627776):TextC B w0 (.mk op n nm [x,y]) (binT s1 m s2):=by
 intro a c w hw hz hX
 obtain⟨hl2,hl12⟩:=binS_level hb
 have hms:=binS_size hb
 have hE:=hX.2
 simp only[Ex.op_mk,Ex.n_mk,Ex.name_mk,Ex.args_mk] at hE⊢
 obtain⟨b,off,ha⟩:=(SliceIn.addr hE).resolve_left (by simp)
 subst ha
 obtain⟨a0,c0,x0,x1,x2,x3,hX0⟩:=hE.get rfl (show 0 < [x,y].length by simp)
 obtain⟨a1,c1,y0,y1,y2,y3,hX1⟩:=hE.get rfl (show 1 < [x,y].length by simp)
 simp only[List.getElem_cons_zero,List.getElem_cons_succ,Nat.zero_mul,Nat.add_zero,Nat.one_mul] at x0 x1 x2 x3 hX0 y0 y1 y2 y3 hX1
 have hcl:=hE.1
 simp only[List.length_cons,List.length_nil] at hcl⊢
 have HBy:=Lib.hid (byOp_any op (w.alloc (.cells #[.int .i64 op,.int .i64 n,.string nm,.slice (some ⟨b,off,none⟩) 2 c] 55)))
 unfold ByPost binG at HBy
 rw[hb] at HBy
 simp only[Option.getD_some,Option.isSome_some] at HBy
 have HBx:Hid (Below (w.heap.size+1) (w.alloc (.cells #[.int .i64 op,.int .i64 n,.string nm,.slice (some ⟨b,off,none⟩) 2 c] 55)) (w.alloc (.cells #[.int .i64 op,.int .i64 n,.string nm,.slice (some ⟨b,off,none⟩) 2 c] 55))):=Below.refl _ _
 have HP:Hid (∀ w',Below w.heap.size w w'→SPost (binT s1 m s2) w (.returned (.string (binT s1 m s2))) w'):=fun w' h=>⟨rfl,h⟩
 generalize SPost (binT s1 m s2) w=Po at HP⊢
 unfold binT at HP
 have HAX:Hid (∀ W,Below w.heap.size w W→∀ g:Grow W.heap.size W,Calls Tryz.prog 171 #[.agg #[.int .i64 x.op,.int .i64 x.n,.string x.name,.slice a0 x.args.length c0],.int .i64 (lftL l)] g.w' fun e w''=>e=.returned (.string s1)∧∃ g:Grow W.heap.size W,w''=g.w'):=fun W hW g =>
  have hg:Below w.heap.size w g.w':=hW.trans (g.h.mono hW.size)
  grow_callB (Nat.le_refl _) g (hx a0 c0 g.w' (hw.trans (hg.mono hz)) (Nat.le_trans hz hg.size) (hX0.keep (keeps_of_below hg)))
 have HAY:Hid (∀ W,Below w.heap.size w W→∀ g:Grow W.heap.size W,Calls Tryz.prog 171 #[.agg #[.int .i64 y.op,.int .i64 y.n,.string y.name,.slice a1 y.args.length c1],.int .i64 (rgtL l)] g.w' fun e w''=>e=.returned (.string s2)∧∃ g:Grow W.heap.size W,w''=g.w'):=fun W hW g =>
  have hg:Below w.heap.size w g.w':=hW.trans (g.h.mono hW.size)
  grow_callB (Nat.le_refl _) g (hy a1 c1 g.w' (hw.trans (hg.mono hz)) (Nat.le_trans hz hg.size) (hX1.keep (keeps_of_below hg)))
 have HCx:Hid (∀ W,Below w.heap.size w W→∀ q v,w.cell? q=some v→W.cell? q=some v):=fun W hW=>keeps_of_below hW
 clear hx hy hX0 hX1 hE hX hb
 obtain⟨xop,xn,xs,xa⟩:=x
 obtain⟨yop,yn,ys,ya⟩:=y
 simp only[Ex.op_mk,Ex.n_mk,Ex.name_mk,Ex.args_mk] at x0 x1 x2 x3 y0 y1 y2 y3 HAX HAY
 generalize xa.length=xk at *
 generalize ya.length=yk at *
 go_enter Tryz.func120, Tryz.ntmps120
 go_wp2_with fail
 refine HBy.out.mono ?_
 rintro e w1 ⟨rfl,hb1⟩
 have HB1:=Lib.hid (HBx.out.trans (hb1.mono (by simp)))
 have hz1:=HB1.out.size
 simp only[World.size_alloc] at hz1
 have HB2:Hid (Below (w.heap.size+1) (w.alloc (.cells #[.int .i64 op,.int .i64 n,.string nm,.slice (some ⟨b,off,none⟩) 2 c] 55)) (w1.alloc (.cells #[.string m,.int .i64 o,.int .i64 l] 177))):=HB1.out.alloc hz1 _
 have HBw:=Lib.hid (boxWT _ HB2.out)
 clear hb1 HBx
 have b0:=box_cellT HB2.out 0
 have b1:=box_cellT HB2.out 1
 have b2:=box_cellT HB2.out 2
 have b3:=box_cellT HB2.out 3
 simp at b0 b1 b2 b3
 have m0:(w1.alloc (.cells #[.string m,.int .i64 o,.int .i64 l] 177)).cell? ⟨w1.heap.size,0,none⟩=some (.string m):=by simp
 have m2:(w1.alloc (.cells #[.string m,.int .i64 o,.int .i64 l] 177)).cell? ⟨w1.heap.size,2,none⟩=some (.int .i64 l):=by simp
 have hzz:w1.heap.size < (w1.alloc (.cells #[.string m,.int .i64 o,.int .i64 l] 177)).heap.size:=by simp
 go_wp2_with fail
 generalize (w1.alloc (.cells #[.string m,.int .i64 o,.int .i64 l] 177))=W2 at HB2 HBw m0 m2 b0 b1 b2 b3 hzz⊢
 have g2:∀ g:Grow W2.heap.size W2,g.w'.cell? ⟨w1.heap.size,2,none⟩=some (.int .i64 l):=Grow.old m2 (Nat.le_refl _)
 (refine wp_region_grow (B:=W2.heap.size) (w0:=W2) (by kernel_rfl) (by kernel_rfl) bel ?_;(repeat (go_big_quiet_step (fail)));refine wpQuiet_nil ?_;intro wg hCg;have hbg:=grow_out hCg;clear hCg)
 clear g2
 have HBg:Hid (Below w.heap.size w wg):=HBw.out.trans (hbg.mono HBw.out.size)
 have kg:=keeps_of_below hbg
 have m0:=kg _ _ m0
 have m2:=kg _ _ m2
 have b0:=kg _ _ b0
 have b1:=kg _ _ b1
 have b2:=kg _ _ b2
 have b3:=kg _ _ b3
 have x0:=HCx.out wg HBg.out _ _ x0
 have x1:=HCx.out wg HBg.out _ _ x1
 have x2:=HCx.out wg HBg.out _ _ x2
 have x3:=HCx.out wg HBg.out _ _ x3
 have y0:=HCx.out wg HBg.out _ _ y0
 have y1:=HCx.out wg HBg.out _ _ y1
 have y2:=HCx.out wg HBg.out _ _ y2
 have y3:=HCx.out wg HBg.out _ _ y3
 have HAX:=Lib.hid (HAX.out wg HBg.out)
 have HAY:=Lib.hid (HAY.out wg HBg.out)
 have HPf:=Lib.hid (fun W (hW:Below wg.heap.size wg W)=>HP.out W (HBg.out.trans (hW.mono HBg.out.size)))
 clear kg hbg HCx HP HBw HB2 HB1 HBy
 have g0:∀ g:Grow wg.heap.size wg,g.w'.cell? ⟨w1.heap.size,0,none⟩=some (.string m):=Grow.old m0 (Nat.le_refl _)
 have g3:∀ g:Grow wg.heap.size wg,g.w'.cell? ⟨w.heap.size,3,none⟩=some (.slice (some ⟨b,off,none⟩) 2 c):=Grow.old b3 (Nat.le_refl _)
 have q0:∀ g:Grow wg.heap.size wg,g.w'.cell? ⟨b,off,none⟩=some (.int .i64 xop):=Grow.old x0 (Nat.le_refl _)
 have q1:∀ g:Grow wg.heap.size wg,g.w'.cell? ⟨b,off+1,none⟩=some (.int .i64 xn):=Grow.old x1 (Nat.le_refl _)
 have q2:∀ g:Grow wg.heap.size wg,g.w'.cell? ⟨b,off+2,none⟩=some (.string xs):=Grow.old x2 (Nat.le_refl _)
 have q3:∀ g:Grow wg.heap.size wg,g.w'.cell? ⟨b,off+3,none⟩=some (.slice a0 xk c0):=Grow.old x3 (Nat.le_refl _)
 have p0:∀ g:Grow wg.heap.size wg,g.w'.cell? ⟨b,off+4,none⟩=some (.int .i64 yop):=Grow.old y0 (Nat.le_refl _)
 have p1:∀ g:Grow wg.heap.size wg,g.w'.cell? ⟨b,off+4+1,none⟩=some (.int .i64 yn):=Grow.old y1 (Nat.le_refl _)
 have p2:∀ g:Grow wg.heap.size wg,g.w'.cell? ⟨b,off+4+2,none⟩=some (.string ys):=Grow.old y2 (Nat.le_refl _)
 have p3:∀ g:Grow wg.heap.size wg,g.w'.cell? ⟨b,off+4+3,none⟩=some (.slice a1 yk c1):=Grow.old y3 (Nat.le_refl _)
 by_cases h2:l=2
 ·subst h2
  have e1:lftL 2=3:=rfl
  have e2:rgtL 2=2:=rfl
  rw[e1] at HAX
  rw[e2] at HAY
  go_wp2_with fail
  (refine wp_region_grow (B:=wg.heap.size) (w0:=wg) (by kernel_rfl) (by kernel_rfl) bel ?_;(repeat (go_big_quiet_step ((first | (with_reducible exact HAX.out _) | (with_reducible exact HAY.out _)))));refine wpQuiet_nil ?_;intro wg hCg;have hbg:=grow_out hCg;clear hCg)
  have HPe:=Lib.hid (HPf.out _ hbg)
  go_wp2_with fail
  first | exact HPe.out | (go_ret;exact HPe.out)
 ·have d2:(l == 2)=false:=by simpa using h2
  have e1:lftL l=l:=by unfold lftL;rw[if_neg h2]
  have e2:rgtL l=l+1:=by unfold rgtL;rw[if_neg h2]
  rw[e1] at HAX
  rw[e2] at HAY
  go_wp2_with fail
  (refine wp_region_grow (B:=wg.heap.size) (w0:=wg) (by kernel_rfl) (by kernel_rfl) bel ?_;(repeat (go_big_quiet_step ((first | (with_reducible exact HAX.out _) | (with_reducible exact HAY.out _)))));refine wpQuiet_nil ?_;intro wg hCg;have hbg:=grow_out hCg;clear hCg)
  have HPe:=Lib.hid (HPf.out _ hbg)
  go_wp2_with fail
  first | exact HPe.out | (go_ret;exact HPe.out)
end Go.Proofs.YtcplmcjbkpmhdaaGreatDoor
namespace Go.Proofs.YtcplmcjbkpmhdaaGreatDoor
open Go.RowKit
attribute [local go_sem ↓] Go.wp_at_zero Go.wp_at_succ
def varT (nm:ByteArray):ByteArray:=if elemB nm.data.toList=true then ⟨(nm.data.toList.take (nm.data.toList.length - 3)++(64::(nm.data.toList.drop (nm.data.toList.length - 2)).take 1)).toArray⟩ else nm
theorem varT_elem {nm:ByteArray} {A:List UInt8} {x:UInt8} (h:nm.data.toList=A++[91,x,93]) (he:elemB nm.data.toList=true):varT nm=⟨(A++[64,x]).toArray⟩:=by
 unfold varT
 rw[if_pos he,h]
 have h1:(A++[91,x,93]).length - 3=A.length:=by simp
 have h2:(A++[91,x,93]).length - 2=A.length+1:=by simp
 rw[h1,h2,List.take_left]
 congr 2
 rw[List.drop_append,List.drop_of_length_le (by omega)]
 simp
theorem varT_plain {nm:ByteArray} (h:elemB nm.data.toList=false):varT nm=nm:=by unfold varT;rw[h];rfl
theorem varT_size (nm:ByteArray):(varT nm).size≤nm.size:=by
 cases he:elemB nm.data.toList
 ·rw[varT_plain he];exact Nat.le_refl _
 ·obtain⟨A,x,h,_⟩:=(elemB_iff _).1 he
  rw[varT_elem h he]
  have h2:nm.size=nm.data.toList.length:=by rw[Array.length_toList];rfl
  rw[h2,h]
  show (A++[64,x]).toArray.size≤_
  simp
theorem indexByte_mid (A r:List UInt8) (h:(91:UInt8)∉A):Lib.indexByte (A++91::r) 91=A.length:=by
 induction A with
 | nil=>simp[Lib.indexByte]
 | cons b A ih =>
  simp only[List.mem_cons,not_or] at h
  have ih:=ih h.2
  rw[List.cons_append]
  unfold Lib.indexByte
  rw[if_neg (fun e=>h.1 (by simpa using e:b=91).symm),ih]
  first | (rw[if_neg (by omega)];simp) | (simp;done) | (simp;omega) | trace_state
theorem varT_no {nm:ByteArray} (h:Lib.indexByte nm.data.toList 91 < 0):varT nm=nm:=by
 refine varT_plain ?_
 cases he:elemB nm.data.toList
 ·rfl
 ·obtain⟨A,x,h1,hn,_⟩:=(elemB_iff _).1 he
  rw[h1,show A++[91,x,93]=A++91::[x,93] from rfl,indexByte_mid A [x,93] (nameB_no91 hn)] at h
  omega
theorem str_drop (s:ByteArray) (m:Nat):(s.extract m s.size).data.toList=s.data.toList.drop m:=by
 have h2:s.size=s.data.toList.length:=by rw[Array.length_toList];rfl
 simp only[ByteArray.data_extract,Array.toList_extract]
 rw[List.extract_eq_take_drop]
 exact List.take_of_length_le (by rw[List.length_drop];omega)
set_option maxHeartbeats 2000000 in
theorem variableE_any (s:ByteArray) (A:List UInt8) (x:UInt8) (hs:s.data.toList=A++[91,x,93]) (hA:nameB A=true) (hl:s.size≤1073741824) (w:World) :
  Calls Tryz.prog 175 #[.string s] w fun e w'=>e=.returned (.string ⟨(A++[64,x]).toArray⟩)∧Below w.heap.size w w':=by
 have hsz:s.size=A.length+3:=by
  have h2:s.size=s.data.toList.length:=by rw[Array.length_toList];rfl
  rw[h2,hs];simp
 have HI:Hid (Calls Tryz.prog 221 #[.string s,.int .u8 91] w fun e w'=>e=.returned (.int .i64 (A.length:Int))∧w'=w):=by
  have:=Tryz.strings_IndexByte s 91 w
  rw[show (91:Int).toNat.toUInt8=(91:UInt8) from rfl,hs,show A++[91,x,93]=A++91::[x,93] from rfl,indexByte_mid A [x,93] (nameB_no91 hA)] at this
  exact this
 have HT:Hid (∀ W,Calls Tryz.prog 222 #[.string (s.extract (A.length+1) s.size),.string ⟨#[93]⟩] W fun e w'=>e=.returned (.string ⟨#[x]⟩)∧w'=W):=fun W=>by
  have:=Tryz.strings_TrimSuffix (s.extract (A.length+1) s.size) ⟨#[93]⟩ W (by rw[ByteArray.size_extract];omega)
  rw[str_drop,hs,show (A++[91,x,93]).drop (A.length+1)=[x,93] from by rw[List.drop_append,List.drop_of_length_le (by omega)];simp] at this
  have h3:Lib.trimSuffix [x,93] [93]=[x]:=by simp[Lib.trimSuffix,Lib.hasSuffix]
  rw[show (⟨#[93]⟩:ByteArray).data.toList=[93] from rfl,h3] at this
  exact this
 have HR:Hid ((s.extract 0 A.length++(⟨#[64]⟩:ByteArray))++(⟨#[x]⟩:ByteArray)=⟨(A++[64,x]).toArray⟩):=by
  show _=_
  apply ByteArray.ext
  apply Array.toList_inj.1
  have:=str_take s A.length (by omega)
  rw[hs,List.take_left] at this
  simp only[ByteArray.data_append,Array.toList_append,this]
  simp
 have hm:A.length+3≤1073741824:=by omega
 have hss:s.size=A.length+3:=hsz
 have h0:(0:Int)≤(A.length:Int):=by omega
 have hsz1:(A.length:Int)+1≤(s.size:Int):=by omega
 have hsz2:(A.length:Int)≤(s.size:Int):=by omega
 have hkw:IntKind.i64.wrap ((A.length:Int)+1)=(A.length:Int)+1:=by rw[IntKind.wrap_i64];omega
 have hx1:(s.extract 0 A.length).size=A.length:=by rw[ByteArray.size_extract];omega
 have hq1:¬ 9223372036854775807 < A.length+1:=by omega
 have hq2:¬ 9223372036854775807 < A.length+1+1:=by omega
 clear hs hA hl hsz hss
 generalize A.length=m at *
 go_enter Tryz.func175, Tryz.ntmps175
 go_wp2_with fail
 refine HI.out.mono ?_
 rintro e w1 ⟨rfl,rfl⟩
 go_wp2_with fail
 have HT2:Hid (∀ W,Below w1.heap.size w1 W→Calls Tryz.prog 222 #[.string (s.extract (m+1) s.size),.string ⟨#[93]⟩] W fun e w'=>e=.returned (.string ⟨#[x]⟩)∧W=w'):=fun W _=>(HT.out W).mono fun e w' h=>⟨h.1,h.2.symm⟩
 (refine wp_region_grow (B:=w1.heap.size) (w0:=w1) (by kernel_rfl) (by kernel_rfl) bel ?_;(repeat (go_big_quiet_step ((go_at_call 222;with_reducible exact grow_callS _ (HT2.out _ (Grow.h _))))));refine wpQuiet_nil ?_;intro wg hCg;have hbg:=grow_out hCg;clear hCg)
 go_wp2_with fail
 have hfin:=congrArg (fun s=>Ending.returned (Value.string s)) HR.out
 first | exact⟨hfin,hbg⟩ | (go_ret;exact⟨hfin,hbg⟩)
theorem byte_places (s:ByteArray) (A:List UInt8) (x:UInt8) (h:s.data.toList=A++[91,x,93]) (b0:A.length < s.size) (b1:A.length+1 < s.size) (b2:A.length+2 < s.size):s[A.length]'b0=91∧s[A.length+1]'b1=x∧s[A.length+2]'b2=93:=by
 have key:∀ i (hi:i < s.size),s.data.toList[i]? = some (s[i]'hi):=fun i hi=>by
  rw[Array.getElem?_toList,Array.getElem?_eq_getElem (by exact hi)]
  rfl
 have k0:=key _ b0
 have k1:=key _ b1
 have k2:=key _ b2
 rw[h] at k0 k1 k2
 simp at k0 k1 k2
 exact⟨k0.symm,k1.symm,k2.symm⟩
set_option maxHeartbeats 2000000 in
theorem rSplitE_any (s:ByteArray) (A:List UInt8) (x:UInt8) (hs:s.data.toList=A++[91,x,93]) (hA:nameB A=true) (hx:48≤x.toNat∧x.toNat < 56) (hl:s.size≤1073741824) (w:World) :
  Calls Tryz.prog 179 #[.string s] w fun e w'=>e=.returned (.tuple #[.string ⟨A.toArray⟩,.int .i64 ((x.toNat:Int) - 48),.bool true])∧Below w.heap.size w w':=by
 have hm:s.size=A.length+3:=by
  have h2:s.size=s.data.toList.length:=by rw[Array.length_toList];rfl
  rw[h2,hs];simp
 have hA1:1≤A.length:=by
  cases A with
  | nil=>exact absurd hA (by decide)
  | cons b t=>simp
 obtain⟨m,hmA⟩:∃ m,m=A.length:=⟨_,rfl⟩
 have hE:s.extract 0 m=⟨A.toArray⟩:=by
  apply ByteArray.ext
  apply Array.toList_inj.1
  rw[str_take s m (by omega),hs,hmA,List.take_left]
 rw[← hmA] at hm hA1
 have HN:=Lib.hid (fun w=>risName_any (s.extract 0 m) w (by rw[ByteArray.size_extract];omega))
 rw[str_take s m (by omega),hs,hmA,List.take_left,hA] at HN
 rw[← hmA] at HN
 have i1:(s.size:Int) - 1=((m+2:Nat):Int):=by omega
 have i2:(s.size:Int) - 2=((m+1:Nat):Int):=by omega
 have i3:(s.size:Int) - 3=((m:Nat):Int):=by omega
 have b2:m+2 < s.size:=by omega
 have b1:m+1 < s.size:=by omega
 have b0:m < s.size:=by omega
 have hb:s[m]'b0=91∧s[m+1]'b1=x∧s[m+2]'b2=93:=by subst hmA;exact byte_places s A x hs b0 b1 b2
 obtain⟨e0,e1,e2⟩:=hb
 have h4:¬ s.size < 4:=by omega
 have h93:(s[m+2]'b2).toNat=93:=by rw[e2];rfl
 have h91:(s[m]'b0).toNat=91:=by rw[e0];rfl
 have h48:¬ (s[m+1]'b1).toNat < 48:=by rw[e1];omega
 have h56:(s[m+1]'b1).toNat < 56:=by rw[e1];omega
 have HX:Hid ((s[m+1]'b1).toNat=x.toNat):=by show _=_;rw[e1]
 have q1:(s[m+1]'b1).toNat < 256:=UInt8.toNat_lt _
 have HE:=Lib.hid hE
 have HM:=Lib.hid hm
 clear hm hs hE e0 e1 e2 hmA hA
 go_enter Tryz.func179, Tryz.ntmps179
 go_wp2_with (go_at_call 224;refine(HN.out _).mono ?_;rintro e w1 ⟨rfl,hb1⟩)
 go_ret3
 exact⟨by rw[← HE.out,← HX.out];rfl,by assumption⟩
end Go.Proofs.YtcplmcjbkpmhdaaGreatDoor
