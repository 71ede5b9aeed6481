/- exprtext.text: unary operators, ones, if. -/
import Derived.Test.YtcplmcjbkpmhdaaGreatDoorED
import Derived.Test.YtcplmcjbkpmhdaaGreatDoorShelfJ
set_option linter.unusedSimpArgs false
set_option linter.unusedVariables false
set_option linter.unnecessarySimpa false
namespace Go.Proofs.YtcplmcjbkpmhdaaGreatDoor
open Go.RowKit
attribute [local go_sem ↓] Go.wp_at_zero Go.wp_at_succ
def onesT (s:ByteArray):ByteArray:=(⟨#[111,110,101,115,40]⟩++s)++⟨#[41]⟩
def ifT (s1 s2 s3:ByteArray):ByteArray:=(((s1++⟨#[32,63,32]⟩)++s2)++⟨#[32,58,32]⟩)++s3
set_option maxRecDepth 100000 in
set_option maxHeartbeats 8000000 in
theorem text_pre {B:Nat} {w0:World} {x:Ex} {s1:ByteArray} (op n:Int) (nm:ByteArray) (hop:op=4∨op=5∨op=6) (hx:AtC B w0 x 13 s1) (hz1':s1.size≤1099511627776):TextC B w0 (.mk op n nm [x]) (preS op++s1):=by
 intro a c w hw hz hX
 have hE:=hX.2
 simp only[Ex.op_mk,Ex.n_mk,Ex.name_mk,Ex.args_mk] at hE⊢
 obtain⟨b,off,ha⟩:=(SliceIn.addr hE).resolve_left (by simp)
 subst ha
 obtain⟨a0,c0,x0,x1,x2,x3,hX0⟩:=hE.get rfl (show 0 < [x].length by simp)
 simp only[List.getElem_cons_zero,List.getElem_cons_succ,Nat.zero_mul,Nat.add_zero,Nat.reduceMul] at x0 x1 x2 x3 hX0
 have hcl:=hE.1
 simp only[List.length_cons,List.length_nil] at hcl⊢
 have hbn:binS op=none:=by rcases hop with rfl | rfl | rfl<;>rfl
 have hpn:preS op=preS op:=rfl
 have hps:(preS op).size≤1∧(preS op).toList.isEmpty=false:=by rcases hop with rfl | rfl | rfl<;>(rw[ByteArray.toList_eq];decide)
 have HBy:=Lib.hid (byOp_any op (w.alloc (.cells #[.int .i64 op,.int .i64 n,.string nm,.slice (some ⟨b,off,none⟩) 1 c] 55)))
 have HPr:=Lib.hid (fun W=>prefix_any op W)
 unfold ByPost binG at HBy
 rw[hbn] at HBy
 simp only[Option.getD_none,Option.isSome_none] at HBy
 have HBx:Hid (Below (w.heap.size+1) (w.alloc (.cells #[.int .i64 op,.int .i64 n,.string nm,.slice (some ⟨b,off,none⟩) 1 c] 55)) (w.alloc (.cells #[.int .i64 op,.int .i64 n,.string nm,.slice (some ⟨b,off,none⟩) 1 c] 55))):=Below.refl _ _
 have HP:Hid (∀ w',Below w.heap.size w w'→SPost (preS op++s1) w (.returned (.string (preS op++s1))) w'):=fun w' h=>⟨rfl,h⟩
 generalize SPost (preS op++s1) w=Po at HP⊢
 have HAX:Hid (∀ W,Below w.heap.size w W→Calls Tryz.prog 171 #[.agg #[.int .i64 x.op,.int .i64 x.n,.string x.name,.slice a0 x.args.length c0],.int .i64 13] W fun e w''=>e=.returned (.string s1)∧Below W.heap.size W w''):=fun W hW =>
  hx a0 c0 W (hw.trans (hW.mono hz)) (Nat.le_trans hz hW.size) (hX0.keep (keeps_of_below hW))
 generalize preS op=ps at HPr HP hps
 obtain⟨hps1,hps2⟩:=hps
 have HCx:Hid (∀ W,Below w.heap.size w W→∀ q v,w.cell? q=some v→W.cell? q=some v):=fun W hW=>keeps_of_below hW
 clear hx hX0 hE hX hbn hpn
 obtain⟨xop,xn,xs,xa⟩:=x
 simp only[Ex.op_mk,Ex.n_mk,Ex.name_mk,Ex.args_mk] at x0 x1 x2 x3 HAX
 generalize xa.length=xk at *
 go_enter Tryz.func120, Tryz.ntmps120
 go_wp2_with fail
 refine HBy.out.mono ?_
 rintro e w1 ⟨rfl,hb1⟩
 have HB1:=Lib.hid (HBx.out.trans (hb1.mono (by simp)))
 have hz1:=HB1.out.size
 simp only[World.size_alloc] at hz1
 have HB2:Hid (Below (w.heap.size+1) (w.alloc (.cells #[.int .i64 op,.int .i64 n,.string nm,.slice (some ⟨b,off,none⟩) 1 c] 55)) (w1.alloc (.cells #[.string .empty,.int .i64 0,.int .i64 0] 177))):=HB1.out.alloc hz1 _
 have HBw:=Lib.hid (boxWT _ HB2.out)
 clear hb1 HBx HB1
 have b0:=box_cellT HB2.out 0
 have b1:=box_cellT HB2.out 1
 have b2:=box_cellT HB2.out 2
 have b3:=box_cellT HB2.out 3
 simp at b0 b1 b2 b3
 go_wp2_with fail
 generalize (w1.alloc (.cells #[.string .empty,.int .i64 0,.int .i64 0] 177))=W2 at HB2 HBw b0 b1 b2 b3⊢
 refine(HPr.out W2).mono ?_
 rintro e w2 ⟨rfl,rfl⟩
 have x0:=HCx.out w2 HBw.out _ _ x0
 have x1:=HCx.out w2 HBw.out _ _ x1
 have x2:=HCx.out w2 HBw.out _ _ x2
 have x3:=HCx.out w2 HBw.out _ _ x3
 have q1:¬ 9223372036854775807 < ps.size+s1.size:=by omega
 go_wp2_with fail
 refine(HAX.out w2 HBw.out).mono ?_
 rintro e w3 ⟨rfl,hb3⟩
 have HPf:=Lib.hid (HP.out w3 (HBw.out.trans (hb3.mono HBw.out.size)))
 clear hb3
 go_wp2_with fail
 first | exact HPf.out | (go_ret;exact HPf.out)
set_option maxRecDepth 100000 in
set_option maxHeartbeats 8000000 in
theorem text_ones {B:Nat} {w0:World} {x:Ex} {s1:ByteArray} (n:Int) (nm:ByteArray) (hx:TextC B w0 x s1) (hz1':s1.size≤1099511627776):TextC B w0 (.mk 25 n nm [x]) (onesT s1):=by
 intro a c w hw hz hX
 have hE:=hX.2
 simp only[Ex.op_mk,Ex.n_mk,Ex.name_mk,Ex.args_mk] at hE⊢
 obtain⟨b,off,ha⟩:=(SliceIn.addr hE).resolve_left (by simp)
 subst ha
 obtain⟨a0,c0,x0,x1,x2,x3,hX0⟩:=hE.get rfl (show 0 < [x].length by simp)
 simp only[List.getElem_cons_zero,List.getElem_cons_succ,Nat.zero_mul,Nat.add_zero,Nat.reduceMul] at x0 x1 x2 x3 hX0
 have hcl:=hE.1
 simp only[List.length_cons,List.length_nil] at hcl⊢
 have hbn:binS 25=none:=rfl
 have hpn:preS 25=.empty:=rfl
 have HBy:=Lib.hid (byOp_any 25 (w.alloc (.cells #[.int .i64 25,.int .i64 n,.string nm,.slice (some ⟨b,off,none⟩) 1 c] 55)))
 have HPr:=Lib.hid (fun W=>prefix_any 25 W)
 rw[hpn] at HPr
 unfold ByPost binG at HBy
 rw[hbn] at HBy
 simp only[Option.getD_none,Option.isSome_none] at HBy
 have HBx:Hid (Below (w.heap.size+1) (w.alloc (.cells #[.int .i64 25,.int .i64 n,.string nm,.slice (some ⟨b,off,none⟩) 1 c] 55)) (w.alloc (.cells #[.int .i64 25,.int .i64 n,.string nm,.slice (some ⟨b,off,none⟩) 1 c] 55))):=Below.refl _ _
 have HP:Hid (∀ w',Below w.heap.size w w'→SPost (onesT s1) w (.returned (.string (onesT s1))) w'):=fun w' h=>⟨rfl,h⟩
 generalize SPost (onesT s1) w=Po at HP⊢
 have HAX:Hid (∀ W,Below w.heap.size w W→Calls Tryz.prog 120 #[.agg #[.int .i64 x.op,.int .i64 x.n,.string x.name,.slice a0 x.args.length c0]] W fun e w''=>e=.returned (.string s1)∧Below W.heap.size W w''):=fun W hW =>
  hx a0 c0 W (hw.trans (hW.mono hz)) (Nat.le_trans hz hW.size) (hX0.keep (keeps_of_below hW))
 unfold onesT at HP
 have HCx:Hid (∀ W,Below w.heap.size w W→∀ q v,w.cell? q=some v→W.cell? q=some v):=fun W hW=>keeps_of_below hW
 clear hx hX0 hE hX hbn hpn
 obtain⟨xop,xn,xs,xa⟩:=x
 simp only[Ex.op_mk,Ex.n_mk,Ex.name_mk,Ex.args_mk] at x0 x1 x2 x3 HAX
 generalize xa.length=xk at *
 go_enter Tryz.func120, Tryz.ntmps120
 go_wp2_with fail
 refine HBy.out.mono ?_
 rintro e w1 ⟨rfl,hb1⟩
 have HB1:=Lib.hid (HBx.out.trans (hb1.mono (by simp)))
 have hz1:=HB1.out.size
 simp only[World.size_alloc] at hz1
 have HB2:Hid (Below (w.heap.size+1) (w.alloc (.cells #[.int .i64 25,.int .i64 n,.string nm,.slice (some ⟨b,off,none⟩) 1 c] 55)) (w1.alloc (.cells #[.string .empty,.int .i64 0,.int .i64 0] 177))):=HB1.out.alloc hz1 _
 have HBw:=Lib.hid (boxWT _ HB2.out)
 clear hb1 HBx HB1
 have b0:=box_cellT HB2.out 0
 have b1:=box_cellT HB2.out 1
 have b2:=box_cellT HB2.out 2
 have b3:=box_cellT HB2.out 3
 simp at b0 b1 b2 b3
 go_wp2_with fail
 generalize (w1.alloc (.cells #[.string .empty,.int .i64 0,.int .i64 0] 177))=W2 at HB2 HBw b0 b1 b2 b3⊢
 refine(HPr.out W2).mono ?_
 rintro e w2 ⟨rfl,rfl⟩
 have x0:=HCx.out w2 HBw.out _ _ x0
 have x1:=HCx.out w2 HBw.out _ _ x1
 have x2:=HCx.out w2 HBw.out _ _ x2
 have x3:=HCx.out w2 HBw.out _ _ x3
 have q1:¬ 9223372036854775807 < 5+s1.size:=by omega
 have q2:¬ 9223372036854775807 < 5+s1.size+1:=by omega
 go_wp2_with fail
 refine(HAX.out w2 HBw.out).mono ?_
 rintro e w3 ⟨rfl,hb3⟩
 have HPf:=Lib.hid (HP.out w3 (HBw.out.trans (hb3.mono HBw.out.size)))
 clear hb3
 go_wp2_with fail
 first | exact HPf.out | (go_ret;exact HPf.out)
set_option maxRecDepth 100000 in
set_option maxHeartbeats 8000000 in
theorem text_if {B:Nat} {w0:World} {x y z:Ex} {s1 s2 s3:ByteArray} (n:Int) (nm:ByteArray) (hx:AtC B w0 x 2 s1) (hy:AtC B w0 y 1 s2) (hz3:AtC B w0 z 1 s3) (hz1':s1.size≤1099511627776) (hz2':s2.size≤1099511627776) (hz3':s3.size≤1099511627776):TextC B w0 (.mk 22 n nm [x,y,z]) (ifT s1 s2 s3):=by
 intro a c w hw hz hX
 have hE:=hX.2
 simp only[Ex.op_mk,Ex.n_mk,Ex.name_mk,Ex.args_mk] at hE⊢
 obtain⟨b,off,ha⟩:=(SliceIn.addr hE).resolve_left (by simp)
 subst ha
 obtain⟨a0,c0,x0,x1,x2,x3,hX0⟩:=hE.get rfl (show 0 < [x,y,z].length by simp)
 obtain⟨a1,c1,y0,y1,y2,y3,hX1⟩:=hE.get rfl (show 1 < [x,y,z].length by simp)
 obtain⟨a2,c2,z0,z1,z2,z3,hX2⟩:=hE.get rfl (show 2 < [x,y,z].length by simp)
 simp only[List.getElem_cons_zero,List.getElem_cons_succ,Nat.zero_mul,Nat.add_zero,Nat.one_mul,Nat.reduceMul] at x0 x1 x2 x3 hX0 y0 y1 y2 y3 hX1 z0 z1 z2 z3 hX2
 have hcl:=hE.1
 simp only[List.length_cons,List.length_nil] at hcl⊢
 have hbn:binS 22=none:=rfl
 have hpn:preS 22=.empty:=rfl
 have HBy:=Lib.hid (byOp_any 22 (w.alloc (.cells #[.int .i64 22,.int .i64 n,.string nm,.slice (some ⟨b,off,none⟩) 3 c] 55)))
 have HPr:=Lib.hid (fun W=>prefix_any 22 W)
 rw[hpn] at HPr
 unfold ByPost binG at HBy
 rw[hbn] at HBy
 simp only[Option.getD_none,Option.isSome_none] at HBy
 have HBx:Hid (Below (w.heap.size+1) (w.alloc (.cells #[.int .i64 22,.int .i64 n,.string nm,.slice (some ⟨b,off,none⟩) 3 c] 55)) (w.alloc (.cells #[.int .i64 22,.int .i64 n,.string nm,.slice (some ⟨b,off,none⟩) 3 c] 55))):=Below.refl _ _
 have HP:Hid (∀ w',Below w.heap.size w w'→SPost (ifT s1 s2 s3) w (.returned (.string (ifT s1 s2 s3))) w'):=fun w' h=>⟨rfl,h⟩
 generalize SPost (ifT s1 s2 s3) w=Po at HP⊢
 have HAX:Hid (∀ W,Below w.heap.size w W→∀ g:Grow W.heap.size W,Calls Tryz.prog 171 #[.agg #[.int .i64 x.op,.int .i64 x.n,.string x.name,.slice a0 x.args.length c0],.int .i64 2] g.w' fun e w''=>e=.returned (.string s1)∧∃ g:Grow W.heap.size W,w''=g.w'):=fun W hW g =>
  have hg:Below w.heap.size w g.w':=hW.trans (g.h.mono hW.size)
  grow_callB (Nat.le_refl _) g (hx a0 c0 g.w' (hw.trans (hg.mono hz)) (Nat.le_trans hz hg.size) (hX0.keep (keeps_of_below hg)))
 have HAY:Hid (∀ W,Below w.heap.size w W→∀ g:Grow W.heap.size W,Calls Tryz.prog 171 #[.agg #[.int .i64 y.op,.int .i64 y.n,.string y.name,.slice a1 y.args.length c1],.int .i64 1] g.w' fun e w''=>e=.returned (.string s2)∧∃ g:Grow W.heap.size W,w''=g.w'):=fun W hW g =>
  have hg:Below w.heap.size w g.w':=hW.trans (g.h.mono hW.size)
  grow_callB (Nat.le_refl _) g (hy a1 c1 g.w' (hw.trans (hg.mono hz)) (Nat.le_trans hz hg.size) (hX1.keep (keeps_of_below hg)))
 have HAZ:Hid (∀ W,Below w.heap.size w W→∀ g:Grow W.heap.size W,Calls Tryz.prog 171 #[.agg #[.int .i64 z.op,.int .i64 z.n,.string z.name,.slice a2 z.args.length c2],.int .i64 1] g.w' fun e w''=>e=.returned (.string s3)∧∃ g:Grow W.heap.size W,w''=g.w'):=fun W hW g =>
  have hg:Below w.heap.size w g.w':=hW.trans (g.h.mono hW.size)
  grow_callB (Nat.le_refl _) g (hz3 a2 c2 g.w' (hw.trans (hg.mono hz)) (Nat.le_trans hz hg.size) (hX2.keep (keeps_of_below hg)))
 unfold ifT at HP
 have HCx:Hid (∀ W,Below w.heap.size w W→∀ q v,w.cell? q=some v→W.cell? q=some v):=fun W hW=>keeps_of_below hW
 clear hx hy hz3 hX0 hX1 hX2 hE hX hbn hpn
 obtain⟨xop,xn,xs,xa⟩:=x
 obtain⟨yop,yn,ys,ya⟩:=y
 obtain⟨zop,zn,zs,za⟩:=z
 simp only[Ex.op_mk,Ex.n_mk,Ex.name_mk,Ex.args_mk] at x0 x1 x2 x3 y0 y1 y2 y3 z0 z1 z2 z3 HAX HAY HAZ
 generalize xa.length=xk at *
 generalize ya.length=yk at *
 generalize za.length=zk at *
 go_enter Tryz.func120, Tryz.ntmps120
 go_wp2_with fail
 refine HBy.out.mono ?_
 rintro e w1 ⟨rfl,hb1⟩
 have HB1:=Lib.hid (HBx.out.trans (hb1.mono (by simp)))
 have hz1:=HB1.out.size
 simp only[World.size_alloc] at hz1
 have HB2:Hid (Below (w.heap.size+1) (w.alloc (.cells #[.int .i64 22,.int .i64 n,.string nm,.slice (some ⟨b,off,none⟩) 3 c] 55)) (w1.alloc (.cells #[.string .empty,.int .i64 0,.int .i64 0] 177))):=HB1.out.alloc hz1 _
 have HBw:=Lib.hid (boxWT _ HB2.out)
 clear hb1 HBx HB1
 have b0:=box_cellT HB2.out 0
 have b1:=box_cellT HB2.out 1
 have b2:=box_cellT HB2.out 2
 have b3:=box_cellT HB2.out 3
 simp at b0 b1 b2 b3
 go_wp2_with fail
 generalize (w1.alloc (.cells #[.string .empty,.int .i64 0,.int .i64 0] 177))=W2 at HB2 HBw b0 b1 b2 b3⊢
 refine(HPr.out W2).mono ?_
 rintro e w2 ⟨rfl,rfl⟩
 have x0:=HCx.out w2 HBw.out _ _ x0
 have x1:=HCx.out w2 HBw.out _ _ x1
 have x2:=HCx.out w2 HBw.out _ _ x2
 have x3:=HCx.out w2 HBw.out _ _ x3
 have y0:=HCx.out w2 HBw.out _ _ y0
 have y1:=HCx.out w2 HBw.out _ _ y1
 have y2:=HCx.out w2 HBw.out _ _ y2
 have y3:=HCx.out w2 HBw.out _ _ y3
 have z0:=HCx.out w2 HBw.out _ _ z0
 have z1:=HCx.out w2 HBw.out _ _ z1
 have z2:=HCx.out w2 HBw.out _ _ z2
 have z3:=HCx.out w2 HBw.out _ _ z3
 have q1:¬ 9223372036854775807 < s1.size+3:=by omega
 have q2:¬ 9223372036854775807 < s1.size+3+s2.size:=by omega
 have q3:¬ 9223372036854775807 < s1.size+3+s2.size+3:=by omega
 have q4:¬ 9223372036854775807 < s1.size+3+s2.size+3+s3.size:=by omega
 have HPf:=Lib.hid (fun W (hW:Below w2.heap.size w2 W)=>HP.out W (HBw.out.trans (hW.mono HBw.out.size)))
 have HAX:=Lib.hid (HAX.out w2 HBw.out)
 have HAY:=Lib.hid (HAY.out w2 HBw.out)
 have HAZ:=Lib.hid (HAZ.out w2 HBw.out)
 clear HCx HP HBw HB2 HBy HPr
 have g3:∀ g:Grow w2.heap.size w2,g.w'.cell? ⟨w.heap.size,3,none⟩=some (.slice (some ⟨b,off,none⟩) 3 c):=Grow.old b3 (Nat.le_refl _)
 have gx0:∀ g:Grow w2.heap.size w2,g.w'.cell? ⟨b,off,none⟩=some (.int .i64 xop):=Grow.old x0 (Nat.le_refl _)
 have gx1:∀ g:Grow w2.heap.size w2,g.w'.cell? ⟨b,off+1,none⟩=some (.int .i64 xn):=Grow.old x1 (Nat.le_refl _)
 have gx2:∀ g:Grow w2.heap.size w2,g.w'.cell? ⟨b,off+2,none⟩=some (.string xs):=Grow.old x2 (Nat.le_refl _)
 have gx3:∀ g:Grow w2.heap.size w2,g.w'.cell? ⟨b,off+3,none⟩=some (.slice a0 xk c0):=Grow.old x3 (Nat.le_refl _)
 have gy0:∀ g:Grow w2.heap.size w2,g.w'.cell? ⟨b,off+4,none⟩=some (.int .i64 yop):=Grow.old y0 (Nat.le_refl _)
 have gy1:∀ g:Grow w2.heap.size w2,g.w'.cell? ⟨b,off+4+1,none⟩=some (.int .i64 yn):=Grow.old y1 (Nat.le_refl _)
 have gy2:∀ g:Grow w2.heap.size w2,g.w'.cell? ⟨b,off+4+2,none⟩=some (.string ys):=Grow.old y2 (Nat.le_refl _)
 have gy3:∀ g:Grow w2.heap.size w2,g.w'.cell? ⟨b,off+4+3,none⟩=some (.slice a1 yk c1):=Grow.old y3 (Nat.le_refl _)
 have gz0:∀ g:Grow w2.heap.size w2,g.w'.cell? ⟨b,off+8,none⟩=some (.int .i64 zop):=Grow.old z0 (Nat.le_refl _)
 have gz1:∀ g:Grow w2.heap.size w2,g.w'.cell? ⟨b,off+8+1,none⟩=some (.int .i64 zn):=Grow.old z1 (Nat.le_refl _)
 have gz2:∀ g:Grow w2.heap.size w2,g.w'.cell? ⟨b,off+8+2,none⟩=some (.string zs):=Grow.old z2 (Nat.le_refl _)
 have gz3:∀ g:Grow w2.heap.size w2,g.w'.cell? ⟨b,off+8+3,none⟩=some (.slice a2 zk c2):=Grow.old z3 (Nat.le_refl _)
 go_wp2_with fail
 (refine wp_region_grow (B:=w2.heap.size) (w0:=w2) (by kernel_rfl) (by kernel_rfl) bel ?_;(repeat (go_big_quiet_step ((first | (with_reducible exact HAX.out _) | (with_reducible exact HAY.out _) | (with_reducible exact HAZ.out _)))));refine wpQuiet_nil ?_;intro wg hCg;have hbg:=grow_out hCg;clear hCg)
 have HPe:=Lib.hid (HPf.out _ hbg)
 go_wp2_with fail
 first | exact HPe.out | (go_ret;exact HPe.out)
end Go.Proofs.YtcplmcjbkpmhdaaGreatDoor
namespace Go.Proofs.YtcplmcjbkpmhdaaGreatDoor
open Go.RowKit
attribute [local go_sem ↓] Go.wp_at_zero Go.wp_at_succ
def pairT (s1 s2:ByteArray):ByteArray:=(s1++⟨#[32,46,46,32]⟩)++s2
def pairL (T:Nat→ByteArray) (k:Nat):List ByteArray:=(List.range k).map fun j=>pairT (T (1+2 * j)) (T (1+2 * j+1))
theorem pairL_len (T:Nat→ByteArray) (k:Nat):(pairL T k).length=k:=by simp[pairL]
theorem pairL_succ (T:Nat→ByteArray) (k:Nat):(pairL T (k+1)).map Value.string=(pairL T k).map Value.string++[.string (pairT (T (1+2 * k)) (T (1+2 * k+1)))]:=by
 unfold pairL
 rw[List.range_succ]
 simp
def joinT (l:List ByteArray):ByteArray:=⟨(Lib.join (l.map (·.data.toList)) [44,32]).toArray⟩
def inT (s0 j:ByteArray):ByteArray:=((s0++⟨#[32,105,110,115,105,100,101,32,123,32]⟩)++j)++⟨#[32,125]⟩
set_option maxRecDepth 100000 in
set_option maxHeartbeats 16000000 in
theorem text_in {B:Nat} {w0:World} {s0:ByteArray} {T:Nat→ByteArray} {K:Nat} (n:Int) (nm:ByteArray) (args:List Ex) (hlen:args.length=1+2 * K) (hK:1≤K) (hK2:K≤1000)
  (hx:∀ (h:0 < args.length),AtC B w0 (args[0]'h) 9 s0) (hT:∀ i (h:i < args.length),TextC B w0 (args[i]'h) (T i)) (hTz:∀ i,i < args.length→(T i).size≤549755813888) (hz0:s0.size≤1099511627776) (hJ:(joinT (pairL T K)).size≤70368744177664):TextC B w0 (.mk 23 n nm args) (inT s0 (joinT (pairL T K))):=by
 intro a c w hw hz hX
 have hE:=hX.2
 simp only[Ex.op_mk,Ex.n_mk,Ex.name_mk,Ex.args_mk] at hE⊢
 have hcl:=hE.1
 obtain⟨b,off,ha⟩:=(SliceIn.addr hE).resolve_left (by omega)
 subst ha
 have hbn:binS 23=none:=rfl
 have hpn:preS 23=.empty:=rfl
 have HBy:=Lib.hid (byOp_any 23 (w.alloc (.cells #[.int .i64 23,.int .i64 n,.string nm,.slice (some ⟨b,off,none⟩) args.length c] 55)))
 have HPr:=Lib.hid (fun W=>prefix_any 23 W)
 rw[hpn] at HPr
 unfold ByPost binG at HBy
 rw[hbn] at HBy
 simp only[Option.getD_none,Option.isSome_none] at HBy
 have HBx:Hid (Below (w.heap.size+1) (w.alloc (.cells #[.int .i64 23,.int .i64 n,.string nm,.slice (some ⟨b,off,none⟩) args.length c] 55)) (w.alloc (.cells #[.int .i64 23,.int .i64 n,.string nm,.slice (some ⟨b,off,none⟩) args.length c] 55))):=Below.refl _ _
 have HP:Hid (∀ w',Below w.heap.size w w'→SPost (inT s0 (joinT (pairL T K))) w (.returned (.string (inT s0 (joinT (pairL T K))))) w'):=fun w' h=>⟨rfl,h⟩
 generalize SPost (inT s0 (joinT (pairL T K))) w=Po at HP⊢
 unfold inT at HP
 have HE:=Lib.hid hE
 have HAt:Hid (∀ (h:0 < args.length) a c W,Below w.heap.size w W→ExIn W (args[0]'h) a c→Calls Tryz.prog 171 #[.agg #[.int .i64 (args[0]'h).op,.int .i64 (args[0]'h).n,.string (args[0]'h).name,.slice a (args[0]'h).args.length c],.int .i64 9] W fun e w''=>e=.returned (.string s0)∧Below W.heap.size W w''):=fun h a c W hW hI=>hx h a c W (hw.trans (hW.mono hz)) (Nat.le_trans hz hW.size) hI
 have HTx:Hid (∀ i (h:i < args.length) a c W,Below w.heap.size w W→ExIn W (args[i]'h) a c→Calls Tryz.prog 120 #[.agg #[.int .i64 (args[i]'h).op,.int .i64 (args[i]'h).n,.string (args[i]'h).name,.slice a (args[i]'h).args.length c]] W fun e w''=>e=.returned (.string (T i))∧Below W.heap.size W w''):=fun i h a c W hW hI=>hT i h a c W (hw.trans (hW.mono hz)) (Nat.le_trans hz hW.size) hI
 have HTz:=Lib.hid hTz
 have HPs:Hid (∀ k,(pairL T (k+1)).map Value.string=(pairL T k).map Value.string++[.string (pairT (T (1+2 * k)) (T (1+2 * k+1)))]):=pairL_succ T
 have HJo:Hid (∀ W a c,StrsIn W (pairL T K) a c→Calls Tryz.prog 173 #[.slice a K c,.string ⟨#[44,32]⟩] W fun e w'=>e=.returned (.string (joinT (pairL T K)))∧Below W.heap.size W w'):=fun W a c h=>by
  have hl:=pairL_len T K
  obtain⟨bk,o,hb⟩:=(SliceIn.addr h).resolve_left (by rw[hl];omega)
  subst hb
  have h0:=h.get rfl (show 0 < (pairL T K).length by rw[hl];omega)
  have:=Tryz.strings_Join bk o c (pairL T K) ⟨#[44,32]⟩ W (fun j x hj=>by
   have hjl:j < (pairL T K).length:=by
    rcases Nat.lt_or_ge j (pairL T K).length with h | h
    ·exact h
    ·rw[List.getElem?_eq_none h] at hj;simp at hj
   rw[List.getElem?_eq_getElem hjl] at hj
   rw[← Option.some.inj hj]
   exact h.get rfl hjl) (by have:=World.block_lt_of_cell? _ _ h0;simpa using this) (by rw[hl];omega) h.1 (by have:=hJ;unfold joinT at this;simp only[ByteArray.size] at this;simp at this⊢;omega)
  rw[hl] at this
  exact this
 generalize joinT (pairL T K)=J at HP HJo hJ
 have HL:=Lib.hid hlen
 have ha0:0 < args.length:=by omega
 have hal2:args.length≤2001:=by omega
 clear hx hT hTz hX hE hbn hpn hlen
 go_enter Tryz.func120, Tryz.ntmps120
 go_wp2_with fail
 refine HBy.out.mono ?_
 rintro e w1 ⟨rfl,hb1⟩
 have HB1:=Lib.hid (HBx.out.trans (hb1.mono (by simp)))
 have hz1:=HB1.out.size
 simp only[World.size_alloc] at hz1
 have HB2:Hid (Below (w.heap.size+1) (w.alloc (.cells #[.int .i64 23,.int .i64 n,.string nm,.slice (some ⟨b,off,none⟩) args.length c] 55)) (w1.alloc (.cells #[.string .empty,.int .i64 0,.int .i64 0] 177))):=HB1.out.alloc hz1 _
 have HBw:=Lib.hid (boxWT _ HB2.out)
 clear hb1 HBx HB1
 have b0:=box_cellT HB2.out 0
 have b1:=box_cellT HB2.out 1
 have b2:=box_cellT HB2.out 2
 have b3:=box_cellT HB2.out 3
 simp at b0 b1 b2 b3
 go_wp2_with fail
 generalize (w1.alloc (.cells #[.string .empty,.int .i64 0,.int .i64 0] 177))=W2 at HB2 HBw b0 b1 b2 b3⊢
 refine(HPr.out W2).mono ?_
 rintro e w2 ⟨rfl,rfl⟩
 have HE2:=Lib.hid (HE.out.keep (keeps_of_below HBw.out))
 have HT2:Hid (∀ i (h:i < args.length) a c W,Below w2.heap.size w2 W→ExIn W (args[i]'h) a c→Calls Tryz.prog 120 #[.agg #[.int .i64 (args[i]'h).op,.int .i64 (args[i]'h).n,.string (args[i]'h).name,.slice a (args[i]'h).args.length c]] W fun e w''=>e=.returned (.string (T i))∧Below w2.heap.size w2 w''∧Below W.heap.size W w''):=fun i h a c W hW hI=>(HTx.out i h a c W (HBw.out.trans (hW.mono HBw.out.size)) hI).mono fun e w' h=>⟨h.1,hW.trans (h.2.mono hW.size),h.2⟩
 have HA2:Hid (∀ (h:0 < args.length) a c W,Below w2.heap.size w2 W→ExIn W (args[0]'h) a c→Calls Tryz.prog 171 #[.agg #[.int .i64 (args[0]'h).op,.int .i64 (args[0]'h).n,.string (args[0]'h).name,.slice a (args[0]'h).args.length c],.int .i64 9] W fun e w''=>e=.returned (.string s0)∧Below W.heap.size W w''):=fun h a c W hW hI=>HAt.out h a c W (HBw.out.trans (hW.mono HBw.out.size)) hI
 have HPf:=Lib.hid (fun W (hW:Below w2.heap.size w2 W)=>HP.out W (HBw.out.trans (hW.mono HBw.out.size)))
 clear HE HAt HTx HP HBy HPr
 go_wp2_with fail
 go_loopw [9,8] (fun i v wr=>∃ (p j:Nat) (a:Option Addr) (c:Nat),i=.int .i64 p∧v=.slice a j c∧Hid (p=1+2 * j)∧j≤K∧Hid (wr.ownsRow w2.heap.size 9 1 (.slice a j c) j ((pairL T j).map Value.string))∧Hid (Below w2.heap.size w2 wr)) (fun i _ _=>args.length - (intOf i).toNat)
 case atStart=>exact⟨1,0,none,0,rfl,rfl,(rfl:(1:Nat)=1+2 * 0),Nat.zero_le _,World.ownsRow_nil _ _ _ _,Below.refl _ _⟩
 case round =>
  obtain⟨p,j,va,vc,rfl,rfl,hp,hj,HO,HB⟩:=hrel
  have HUp:Hid (∀ W,Below wr.heap.size wr W→Below w2.heap.size w2 W):=fun W hW=>HB.out.trans (hW.mono HB.out.size)
  have hpl:p≤args.length:=by have:=hp.out;have:=HL.out;omega
  by_cases hlt:p+1 < args.length
  ·have hlt0:p < args.length:=by omega
   have hjK:j+1≤K:=by have:=hp.out;have:=HL.out;omega
   obtain⟨ax,cx,x0,x1,x2,x3,hX0⟩:=HE2.out.get rfl hlt0
   obtain⟨ay,cy,y0,y1,y2,y3,hX1⟩:=HE2.out.get rfl hlt
   have HX:Hid (∀ W,Below wr.heap.size wr W→Calls Tryz.prog 120 #[.agg #[.int .i64 (args[p]'hlt0).op,.int .i64 (args[p]'hlt0).n,.string (args[p]'hlt0).name,.slice ax (args[p]'hlt0).args.length cx]] W fun e w''=>e=.returned (.string (T p))∧Below wr.heap.size wr w''):=fun W hW=>(HT2.out p hlt0 ax cx W (HUp.out W hW) (hX0.keep (keeps_of_below (HUp.out W hW)))).mono fun e w' h=>⟨h.1,hW.trans (h.2.2.mono hW.size)⟩
   have HY:Hid (∀ W,Below wr.heap.size wr W→Calls Tryz.prog 120 #[.agg #[.int .i64 (args[p+1]'hlt).op,.int .i64 (args[p+1]'hlt).n,.string (args[p+1]'hlt).name,.slice ay (args[p+1]'hlt).args.length cy]] W fun e w''=>e=.returned (.string (T (p+1)))∧Below wr.heap.size wr w''):=fun W hW=>(HT2.out (p+1) hlt ay cy W (HUp.out W hW) (hX1.keep (keeps_of_below (HUp.out W hW)))).mono fun e w' h=>⟨h.1,hW.trans (h.2.2.mono hW.size)⟩
   have hzx:=HTz.out p hlt0
   have hzy:=HTz.out (p+1) hlt
   have HPj:Hid ((pairL T (j+1)).map Value.string=(pairL T j).map Value.string++[.string (pairT (T p) (T (p+1)))]):=by
    show _=_
    rw[HPs.out j,hp.out]
   unfold pairT at HPj
   generalize T p=t1 at HX hzx HPj
   generalize T (p+1)=t2 at HY hzy HPj
   generalize (args[p]'hlt0)=ex at x0 x1 x2 x3 HX
   generalize (args[p+1]'hlt)=ey at y0 y1 y2 y3 HY
   obtain⟨xop,xn,xs,xa⟩:=ex
   obtain⟨yop,yn,ys,ya⟩:=ey
   simp only[Ex.op_mk,Ex.n_mk,Ex.name_mk,Ex.args_mk] at x0 x1 x2 x3 y0 y1 y2 y3 HX HY
   generalize xa.length=xk at x3 HX
   generalize ya.length=yk at y3 HY
   have HALL:Hid (∀ w',Below w2.heap.size w2 w'→w'.cell? ⟨w.heap.size,3,none⟩=some (.slice (some ⟨b,off,none⟩) args.length c)∧w'.cell? ⟨b,off+p * 4,none⟩=some (.int .i64 xop)∧w'.cell? ⟨b,off+p * 4+1,none⟩=some (.int .i64 xn)∧w'.cell? ⟨b,off+p * 4+2,none⟩=some (.string xs)∧w'.cell? ⟨b,off+p * 4+3,none⟩=some (.slice ax xk cx)∧w'.cell? ⟨b,off+(p+1) * 4,none⟩=some (.int .i64 yop)∧w'.cell? ⟨b,off+(p+1) * 4+1,none⟩=some (.int .i64 yn)∧w'.cell? ⟨b,off+(p+1) * 4+2,none⟩=some (.string ys)∧w'.cell? ⟨b,off+(p+1) * 4+3,none⟩=some (.slice ay yk cy)):=fun w' h=>by
    have kk:=keeps_of_below h
    exact⟨kk _ _ b3,kk _ _ x0,kk _ _ x1,kk _ _ x2,kk _ _ x3,kk _ _ y0,kk _ _ y1,kk _ _ y2,kk _ _ y3⟩
   have HOk:Hid (∀ W,Below wr.heap.size wr W→W.ownsRow w2.heap.size 9 1 (.slice va j vc) j ((pairL T j).map Value.string)):=fun W hW=>ownsRow_below HO.out hW
   have hBr:Below wr.heap.size wr wr:=Below.refl _ _
   have hB2:=HB.out
   have i1:IntKind.i64.wrap ((p:Int)+1)=(p:Int)+1:=IntWalk.i64_in _ (by omega)
   have i2:(0:Int)≤(p:Int)+1:=by omega
   have i3:((p:Int)+1).toNat=p+1:=by omega
   have i4:(p:Int)+1 < (args.length:Int):=by omega
   have i5:(p:Int) < (args.length:Int):=by omega
   have q1:¬ 9223372036854775807 < t1.size+4:=by omega
   have q2:¬ 9223372036854775807 < t1.size+4+t2.size:=by omega
   have hjn:j≤1073741824:=by omega
   have hz2r:=HB.out.size
   clear hX0 hX1
   obtain⟨d3,dx0,dx1,dx2,dx3,dy0,dy1,dy2,dy3⟩:=HALL.out _ hB2
   clear x0 x1 x2 x3 y0 y1 y2 y3
   go_wp2_with fail
   go_region_held3 (fun w'=>Below w2.heap.size w2 w'∧w'.cell? ⟨w.heap.size,3,none⟩=some (.slice (some ⟨b,off,none⟩) args.length c)∧w'.cell? ⟨b,off+p * 4,none⟩=some (.int .i64 xop)∧w'.cell? ⟨b,off+p * 4+1,none⟩=some (.int .i64 xn)∧w'.cell? ⟨b,off+p * 4+2,none⟩=some (.string xs)∧w'.cell? ⟨b,off+p * 4+3,none⟩=some (.slice ax xk cx)∧w'.cell? ⟨b,off+(p+1) * 4,none⟩=some (.int .i64 yop)∧w'.cell? ⟨b,off+(p+1) * 4+1,none⟩=some (.int .i64 yn)∧w'.cell? ⟨b,off+(p+1) * 4+2,none⟩=some (.string ys)∧w'.cell? ⟨b,off+(p+1) * 4+3,none⟩=some (.slice ay yk cy))
    ((refine(fun h=>⟨h,HALL.out _ h⟩) ?_;first | assumption | (refine HUp.out _ ?_;assumption) | exact Below.grown (HUp.out _ bel) hgrow sz (fun j hj=>(HO.out.lt j hj).1) | exact HUp.out _ bel))
    (first
     | (go_at_call 120;(with_reducible refine(HX.out _ (by first | assumption | exact bel)).mono ?_);rintro r w5 ⟨rfl,hb5⟩;have hz5:=hb5.size)
     | (go_at_call 120;(with_reducible refine(HY.out _ (by first | assumption | exact bel)).mono ?_);rintro r w6 ⟨rfl,hb6⟩;have hz6:=hb6.size)
     | (refine own_step elemS (by rfl) _ _ (by rfl) w2.heap.size (.slice va j vc) j ((pairL T j).map Value.string) (by rfl) (HOk.out _ (by exact bel)) [.string ((t1++⟨#[32,46,46,32]⟩)++t2)] (by rfl) (by simp[Value.oneCell']) _ 1 (by rfl) (heap_alloc_new' _ _) hjn sz _ rfl ?_;intro g gcap wg hownG hgrow hatG hltG))
   all_goals
    have HXg:=Lib.hid hownG
    have HBg:Hid (Below w2.heap.size w2 wg):=by
     first
      | assumption
      | exact(by assumption:Below w2.heap.size _ wg∧_).1
      | exact Below.grown (HUp.out _ bel) hgrow sz (fun j hj=>(HO.out.lt j hj).1)
    clear hownG hgrow d3 dx0 dx1 dx2 dx3 dy0 dy1 dy2 dy3 hB2 hBr
    go_wp2_with fail
    go_roundw
    case rel=>exact⟨p+2,j+1,some ⟨g,0,none⟩,gcap,by go_num,rfl,(by show p+2=1+2 * (j+1);have:=hp.out;omega),by omega,(by show World.ownsRow _ _ _ _ _ _ _;rw[HPj.out];exact HXg.out),HBg⟩
    case measure=>(simp[intOf];try omega)
  ·obtain rfl:j=K:=by have:=hp.out;have:=HL.out;omega
   obtain⟨ax,cx,x0,x1,x2,x3,hX0⟩:=(HE2.out.keep (keeps_of_below HB.out)).get rfl ha0
   have HA3:=Lib.hid (HA2.out ha0 ax cx wr HB.out hX0)
   have i1:IntKind.i64.wrap ((p:Int)+1)=(p:Int)+1:=IntWalk.i64_in _ (by omega)
   have i4:decide ((p:Int)+1 < (args.length:Int))=false:=decide_eq_false (by omega)
   have q1:¬ 9223372036854775807 < s0.size+10:=by omega
   have q2:¬ 9223372036854775807 < s0.size+10+J.size:=by omega
   have q3:¬ 9223372036854775807 < s0.size+10+J.size+2:=by omega
   generalize (args[0]'ha0)=ex at x0 x1 x2 x3 HA3
   obtain⟨xop,xn,xs,xa⟩:=ex
   simp only[Ex.op_mk,Ex.n_mk,Ex.name_mk,Ex.args_mk,Nat.zero_mul,Nat.add_zero] at x0 x1 x2 x3 HA3
   generalize xa.length=xk at x3 HA3
   have c3:=(keeps_of_below HB.out) _ _ b3
   have HSt:Hid (∀ W,Below wr.heap.size wr W→StrsIn W (pairL T j) va vc):=fun W hW=>by
    have ho:=ownsRow_below HO.out hW
    have hl:=pairL_len T j
    rw[← hl] at ho
    rw[hl] at ho
    obtain⟨a2,c2,hv2,hS2⟩:=strs_of_own (l:=pairL T j) (by rw[hl];exact ho) (by rw[hl];omega)
    rw[hl] at hv2
    injection hv2 with e1 e2 e3
    subst e1 e3
    exact hS2
   clear hX0
   go_wp2_with fail
   refine HA3.out.mono ?_
   rintro e w3 ⟨rfl,hb3⟩
   have HJ3:=Lib.hid (HJo.out w3 va vc (HSt.out w3 hb3))
   have HB3:=Lib.hid (HB.out.trans (hb3.mono HB.out.size))
   clear hb3
   go_wp2_with fail
   refine HJ3.out.mono ?_
   rintro e w4 ⟨rfl,hb4⟩
   have HPe:=Lib.hid (HPf.out w4 (HB3.out.trans (hb4.mono HB3.out.size)))
   clear hb4
   go_wp2_with fail
   first | exact HPe.out | (go_ret;exact HPe.out)
end Go.Proofs.YtcplmcjbkpmhdaaGreatDoor
