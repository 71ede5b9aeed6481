/- ref09: plain, text. -/
import Derived.Test.YtcplmcjbkpmhdaaGreatDoorEM
set_option linter.unusedSimpArgs false
set_option linter.unusedVariables false
set_option linter.unnecessarySimpa false
namespace Go.Proofs.YtcplmcjbkpmhdaaGreatDoor
open Go.RowKit
attribute [local go_sem ↓] Go.wp_at_zero Go.wp_at_succ
def PlC (B:Nat) (w0:World) (e:Ex) (s:ByteArray):Prop:=∀ a c W,Below B w0 W→B≤W.heap.size→ExIn W e a c→Calls Tryz.prog 121 #[.agg #[.int .i64 e.op,.int .i64 e.n,.string e.name,.slice a e.args.length c]] W (SPost s W)
def RAtC (B:Nat) (w0:World) (e:Ex) (need:Int) (s:ByteArray):Prop:=∀ a c W,Below B w0 W→B≤W.heap.size→ExIn W e a c→Calls Tryz.prog 177 #[.agg #[.int .i64 e.op,.int .i64 e.n,.string e.name,.slice a e.args.length c],.int .i64 need] W (SPost s W)
set_option maxRecDepth 100000 in
set_option maxHeartbeats 4000000 in
theorem rat_of {B:Nat} {w0:World} {e:Ex} {s:ByteArray} (h:PlC B w0 e s) (hs:s.size≤1099511627776) (need:Int):RAtC B w0 e need (parS need e.op s):=by
 intro a c w hw hz hX
 obtain⟨op,n,nm,args⟩:=e
 have HL:=Lib.hid (fun W=>level09_any op W)
 have HT:=Lib.hid (fun W (hW:Below w.heap.size w W)=>h a c W (hw.trans (hW.mono hz)) (Nat.le_trans hz hW.size) (hX.keep (keeps_of_below hW)))
 have HBx:Hid (Below (w.heap.size+1) (w.alloc (.cells #[.int .i64 op,.int .i64 n,.string nm,.slice a args.length c] 55)) (w.alloc (.cells #[.int .i64 op,.int .i64 n,.string nm,.slice a args.length c] 55))):=Below.refl _ _
 have HP:Hid (∀ w',Below w.heap.size w w'→SPost (parS need op s) w (.returned (.string (parS need op s))) w'):=fun w' h=>⟨rfl,h⟩
 simp only[Ex.op_mk,Ex.n_mk,Ex.name_mk,Ex.args_mk] at HT⊢
 unfold SPost at HT
 generalize SPost (parS need op s) w=Po at HP⊢
 unfold parS at HP
 clear h hX
 generalize args.length=k at *
 have HBw0:=Lib.hid (boxWT _ HBx.out)
 have hd:decide (levS op < need)=true∧levS op < need∨decide (levS op < need)=false∧¬ levS op < need:=by
  by_cases h:levS op < need
  ·exact Or.inl ⟨decide_eq_true h,h⟩
  ·exact Or.inr ⟨decide_eq_false h,h⟩
 rcases hd with ⟨d0,hl⟩ | ⟨d0,hl⟩
 all_goals
  first | rw[if_pos hl] at HP | rw[if_neg hl] at HP
  generalize levS op=L at HL d0
  clear hl
  have q1:¬ 9223372036854775807 < 1+s.size:=by omega
  have q2:¬ 9223372036854775807 < 1+s.size+1:=by omega
  go_enter Tryz.func177, Tryz.ntmps177
  go_wp2_with fail
  refine(HT.out _ HBw0.out).mono ?_
  rintro e w1 ⟨rfl,hb1⟩
  have HB1:=Lib.hid (HBx.out.trans (hb1.mono (by simp)))
  have HPf:=Lib.hid (HP.out w1 (boxWT _ HB1.out))
  have b0:=box_cellT HB1.out 0
  simp at b0
  clear hb1
  go_wp2_with fail
  refine(HL.out w1).mono ?_
  rintro e w2 ⟨rfl,rfl⟩
  go_wp2_with fail
  first | exact HPf.out | (go_ret;exact HPf.out)
set_option maxRecDepth 100000 in
set_option maxHeartbeats 8000000 in
theorem rpl_bin {B:Nat} {w0:World} {x y:Ex} {s1 s2 m:ByteArray} {o l:Int} (op n:Int) (nm:ByteArray) (hb:binS op=some (m,o,l)) (h21:op≠21) (hl:l≠2) (hx:RAtC B w0 x l s1) (hy:RAtC B w0 y (l+1) s2) (hz1':s1.size≤1099511627776) (hz2':s2.size≤1099511627776):PlC B w0 (.mk op n nm [x,y]) (binT s1 m s2):=by
 intro a c w hw hz hX
 have hE:=hX.2
 simp only[Ex.op_mk,Ex.n_mk,Ex.name_mk,Ex.args_mk] at hE⊢
 obtain⟨b,off,ha⟩:=(SliceIn.addr hE).resolve_left (by simp)
 subst ha
 obtain⟨a0,c0,x0,x1,x2,x3,hX0⟩:=hE.get rfl (show 0 < [x,y].length by simp)
 obtain⟨a1,c1,y0,y1,y2,y3,hX1⟩:=hE.get rfl (show 1 < [x,y].length by simp)
 simp only[List.getElem_cons_zero,List.getElem_cons_succ,Nat.zero_mul,Nat.add_zero,Nat.one_mul,Nat.reduceMul] at x0 x1 x2 x3 hX0 y0 y1 y2 y3 hX1
 have hcl:=hE.1
 simp only[List.length_cons,List.length_nil] at hcl⊢
 have hsm:sgnM op=m:=by unfold sgnM binG;rw[if_neg h21,hb];rfl
 have hsl:sgnL op=l:=by unfold sgnL binG;rw[if_neg h21,hb];rfl
 have hpn:preS op=preS op:=rfl
 obtain⟨hl2,hl12⟩:=binS_level hb
 have hms:=binS_size hb
 clear hb h21
 have HSg:=Lib.hid (fun W=>sign_any op W)
 have HPr:=Lib.hid (fun W=>prefix09_any op W)
 rw[hsm,hsl] at HSg
 have HBx:Hid (Below (w.heap.size+1) (w.alloc (.cells #[.int .i64 op,.int .i64 n,.string nm,.slice (some ⟨b,off,none⟩) 2 c] 55)) (w.alloc (.cells #[.int .i64 op,.int .i64 n,.string nm,.slice (some ⟨b,off,none⟩) 2 c] 55))):=Below.refl _ _
 have HP:Hid (∀ w',Below w.heap.size w w'→SPost (binT s1 m s2) w (.returned (.string (binT s1 m s2))) w'):=fun w' h=>⟨rfl,h⟩
 generalize SPost (binT s1 m s2) w=Po at HP⊢
 have HAX:Hid (∀ W,Below w.heap.size w W→∀ g:Grow W.heap.size W,Calls Tryz.prog 177 #[.agg #[.int .i64 x.op,.int .i64 x.n,.string x.name,.slice a0 x.args.length c0],.int .i64 l] g.w' fun e w''=>e=.returned (.string s1)∧∃ g:Grow W.heap.size W,w''=g.w'):=fun W hW g =>
  have hg:Below w.heap.size w g.w':=hW.trans (g.h.mono hW.size)
  grow_callB (Nat.le_refl _) g (hx a0 c0 g.w' (hw.trans (hg.mono hz)) (Nat.le_trans hz hg.size) (hX0.keep (keeps_of_below hg)))
 have HAY:Hid (∀ W,Below w.heap.size w W→∀ g:Grow W.heap.size W,Calls Tryz.prog 177 #[.agg #[.int .i64 y.op,.int .i64 y.n,.string y.name,.slice a1 y.args.length c1],.int .i64 (l+1)] g.w' fun e w''=>e=.returned (.string s2)∧∃ g:Grow W.heap.size W,w''=g.w'):=fun W hW g =>
  have hg:Below w.heap.size w g.w':=hW.trans (g.h.mono hW.size)
  grow_callB (Nat.le_refl _) g (hy a1 c1 g.w' (hw.trans (hg.mono hz)) (Nat.le_trans hz hg.size) (hX1.keep (keeps_of_below hg)))
 unfold binT at HP
 have HCx:Hid (∀ W,Below w.heap.size w W→∀ q v,w.cell? q=some v→W.cell? q=some v):=fun W hW=>keeps_of_below hW
 clear hx hy hX0 hX1 hE hX hsm hsl hpn
 obtain⟨xop,xn,xs,xa⟩:=x
 obtain⟨yop,yn,ys,ya⟩:=y
 simp only[Ex.op_mk,Ex.n_mk,Ex.name_mk,Ex.args_mk] at x0 x1 x2 x3 y0 y1 y2 y3 HAX HAY
 generalize xa.length=xk at *
 generalize ya.length=yk at *
 have HBw:=Lib.hid (boxWT _ HBx.out)
 have b0:=box_cellT HBx.out 0
 have b1:=box_cellT HBx.out 1
 have b2:=box_cellT HBx.out 2
 have b3:=box_cellT HBx.out 3
 simp only[List.getElem?_toArray,List.getElem?_cons_zero,List.getElem?_cons_succ] at b0 b1 b2 b3
 go_enter Tryz.func121, Tryz.ntmps121
 go_wp2_with fail
 generalize (w.alloc (.cells #[.int .i64 op,.int .i64 n,.string nm,.slice (some ⟨b,off,none⟩) 2 c] 55))=W2 at HBw b0 b1 b2 b3⊢
 refine(HSg.out W2).mono ?_
 rintro e w2 ⟨rfl,rfl⟩
 have x0:=HCx.out w2 HBw.out _ _ x0
 have x1:=HCx.out w2 HBw.out _ _ x1
 have x2:=HCx.out w2 HBw.out _ _ x2
 have x3:=HCx.out w2 HBw.out _ _ x3
 have y0:=HCx.out w2 HBw.out _ _ y0
 have y1:=HCx.out w2 HBw.out _ _ y1
 have y2:=HCx.out w2 HBw.out _ _ y2
 have y3:=HCx.out w2 HBw.out _ _ y3
 have q1:¬ 9223372036854775807 < s1.size+1:=by omega
 have q2:¬ 9223372036854775807 < s1.size+1+m.size:=by omega
 have q3:¬ 9223372036854775807 < s1.size+1+m.size+1:=by omega
 have q4:¬ 9223372036854775807 < s1.size+1+m.size+1+s2.size:=by omega
 have d0:decide ((0:Int) < l)=true:=decide_eq_true (by omega)
 clear HPr
 have HPf:=Lib.hid (fun W (hW:Below w2.heap.size w2 W)=>HP.out W (HBw.out.trans (hW.mono HBw.out.size)))
 have HAX:=Lib.hid (HAX.out w2 HBw.out)
 have HAY:=Lib.hid (HAY.out w2 HBw.out)
 clear HCx HP HBw HBx HSg
 have g0:∀ g:Grow w2.heap.size w2,g.w'.cell? ⟨w.heap.size,0,none⟩=some (.int .i64 op):=Grow.old b0 (Nat.le_refl _)
 have g3:∀ g:Grow w2.heap.size w2,g.w'.cell? ⟨w.heap.size,3,none⟩=some (.slice (some ⟨b,off,none⟩) 2 c):=Grow.old b3 (Nat.le_refl _)
 have gx0:∀ g:Grow w2.heap.size w2,g.w'.cell? ⟨b,off,none⟩=some (.int .i64 xop):=Grow.old x0 (Nat.le_refl _)
 have gx1:∀ g:Grow w2.heap.size w2,g.w'.cell? ⟨b,off+1,none⟩=some (.int .i64 xn):=Grow.old x1 (Nat.le_refl _)
 have gx2:∀ g:Grow w2.heap.size w2,g.w'.cell? ⟨b,off+2,none⟩=some (.string xs):=Grow.old x2 (Nat.le_refl _)
 have gx3:∀ g:Grow w2.heap.size w2,g.w'.cell? ⟨b,off+3,none⟩=some (.slice a0 xk c0):=Grow.old x3 (Nat.le_refl _)
 have gy0:∀ g:Grow w2.heap.size w2,g.w'.cell? ⟨b,off+4,none⟩=some (.int .i64 yop):=Grow.old y0 (Nat.le_refl _)
 have gy1:∀ g:Grow w2.heap.size w2,g.w'.cell? ⟨b,off+4+1,none⟩=some (.int .i64 yn):=Grow.old y1 (Nat.le_refl _)
 have gy2:∀ g:Grow w2.heap.size w2,g.w'.cell? ⟨b,off+4+2,none⟩=some (.string ys):=Grow.old y2 (Nat.le_refl _)
 have gy3:∀ g:Grow w2.heap.size w2,g.w'.cell? ⟨b,off+4+3,none⟩=some (.slice a1 yk c1):=Grow.old y3 (Nat.le_refl _)
 go_wp2_with fail
 (refine wp_region_grow (B:=w2.heap.size) (w0:=w2) (by kernel_rfl) (by kernel_rfl) bel ?_;(repeat (go_big_quiet_step ((first | (with_reducible exact HAX.out _) | (with_reducible exact HAY.out _)))));refine wpQuiet_nil ?_;intro wg hCg;have hbg:=grow_out hCg;clear hCg)
 have HPe:=Lib.hid (HPf.out _ hbg)
 go_wp2_with fail
 first | exact HPe.out | (go_ret;exact HPe.out)
set_option maxRecDepth 100000 in
set_option maxHeartbeats 8000000 in
theorem rpl_imp {B:Nat} {w0:World} {x y:Ex} {s1 s2:ByteArray} (n:Int) (nm:ByteArray) (hx:RAtC B w0 x 3 s1) (hy:RAtC B w0 y 2 s2) (hz1':s1.size≤1099511627776) (hz2':s2.size≤1099511627776):PlC B w0 (.mk 21 n nm [x,y]) ((s1++⟨#[32,61,62,32]⟩)++s2):=by
 intro a c w hw hz hX
 have hE:=hX.2
 simp only[Ex.op_mk,Ex.n_mk,Ex.name_mk,Ex.args_mk] at hE⊢
 obtain⟨b,off,ha⟩:=(SliceIn.addr hE).resolve_left (by simp)
 subst ha
 obtain⟨a0,c0,x0,x1,x2,x3,hX0⟩:=hE.get rfl (show 0 < [x,y].length by simp)
 obtain⟨a1,c1,y0,y1,y2,y3,hX1⟩:=hE.get rfl (show 1 < [x,y].length by simp)
 simp only[List.getElem_cons_zero,List.getElem_cons_succ,Nat.zero_mul,Nat.add_zero,Nat.one_mul,Nat.reduceMul] at x0 x1 x2 x3 hX0 y0 y1 y2 y3 hX1
 have hcl:=hE.1
 simp only[List.length_cons,List.length_nil] at hcl⊢
 have hsm:sgnM 21=.empty:=rfl
 have hsl:sgnL 21=0:=rfl
 have hpn:preS 21=.empty:=rfl
 have HSg:=Lib.hid (fun W=>sign_any 21 W)
 have HPr:=Lib.hid (fun W=>prefix09_any 21 W)
 rw[hsm,hsl] at HSg
 rw[hpn] at HPr
 have HBx:Hid (Below (w.heap.size+1) (w.alloc (.cells #[.int .i64 21,.int .i64 n,.string nm,.slice (some ⟨b,off,none⟩) 2 c] 55)) (w.alloc (.cells #[.int .i64 21,.int .i64 n,.string nm,.slice (some ⟨b,off,none⟩) 2 c] 55))):=Below.refl _ _
 have HP:Hid (∀ w',Below w.heap.size w w'→SPost ((s1++⟨#[32,61,62,32]⟩)++s2) w (.returned (.string ((s1++⟨#[32,61,62,32]⟩)++s2))) w'):=fun w' h=>⟨rfl,h⟩
 generalize SPost ((s1++⟨#[32,61,62,32]⟩)++s2) w=Po at HP⊢
 have HAX:Hid (∀ W,Below w.heap.size w W→∀ g:Grow W.heap.size W,Calls Tryz.prog 177 #[.agg #[.int .i64 x.op,.int .i64 x.n,.string x.name,.slice a0 x.args.length c0],.int .i64 3] g.w' fun e w''=>e=.returned (.string s1)∧∃ g:Grow W.heap.size W,w''=g.w'):=fun W hW g =>
  have hg:Below w.heap.size w g.w':=hW.trans (g.h.mono hW.size)
  grow_callB (Nat.le_refl _) g (hx a0 c0 g.w' (hw.trans (hg.mono hz)) (Nat.le_trans hz hg.size) (hX0.keep (keeps_of_below hg)))
 have HAY:Hid (∀ W,Below w.heap.size w W→∀ g:Grow W.heap.size W,Calls Tryz.prog 177 #[.agg #[.int .i64 y.op,.int .i64 y.n,.string y.name,.slice a1 y.args.length c1],.int .i64 2] g.w' fun e w''=>e=.returned (.string s2)∧∃ g:Grow W.heap.size W,w''=g.w'):=fun W hW g =>
  have hg:Below w.heap.size w g.w':=hW.trans (g.h.mono hW.size)
  grow_callB (Nat.le_refl _) g (hy a1 c1 g.w' (hw.trans (hg.mono hz)) (Nat.le_trans hz hg.size) (hX1.keep (keeps_of_below hg)))
 have HCx:Hid (∀ W,Below w.heap.size w W→∀ q v,w.cell? q=some v→W.cell? q=some v):=fun W hW=>keeps_of_below hW
 clear hx hy hX0 hX1 hE hX hsm hsl hpn
 obtain⟨xop,xn,xs,xa⟩:=x
 obtain⟨yop,yn,ys,ya⟩:=y
 simp only[Ex.op_mk,Ex.n_mk,Ex.name_mk,Ex.args_mk] at x0 x1 x2 x3 y0 y1 y2 y3 HAX HAY
 generalize xa.length=xk at *
 generalize ya.length=yk at *
 have HBw:=Lib.hid (boxWT _ HBx.out)
 have b0:=box_cellT HBx.out 0
 have b1:=box_cellT HBx.out 1
 have b2:=box_cellT HBx.out 2
 have b3:=box_cellT HBx.out 3
 simp only[List.getElem?_toArray,List.getElem?_cons_zero,List.getElem?_cons_succ] at b0 b1 b2 b3
 go_enter Tryz.func121, Tryz.ntmps121
 go_wp2_with fail
 generalize (w.alloc (.cells #[.int .i64 21,.int .i64 n,.string nm,.slice (some ⟨b,off,none⟩) 2 c] 55))=W2 at HBw b0 b1 b2 b3⊢
 refine(HSg.out W2).mono ?_
 rintro e w2 ⟨rfl,rfl⟩
 have x0:=HCx.out w2 HBw.out _ _ x0
 have x1:=HCx.out w2 HBw.out _ _ x1
 have x2:=HCx.out w2 HBw.out _ _ x2
 have x3:=HCx.out w2 HBw.out _ _ x3
 have y0:=HCx.out w2 HBw.out _ _ y0
 have y1:=HCx.out w2 HBw.out _ _ y1
 have y2:=HCx.out w2 HBw.out _ _ y2
 have y3:=HCx.out w2 HBw.out _ _ y3
 have q1:¬ 9223372036854775807 < s1.size+4:=by omega
 have q2:¬ 9223372036854775807 < s1.size+4+s2.size:=by omega
 go_wp2_with fail
 refine(HPr.out w2).mono ?_
 rintro e w2 ⟨rfl,rfl⟩
 have HPf:=Lib.hid (fun W (hW:Below w2.heap.size w2 W)=>HP.out W (HBw.out.trans (hW.mono HBw.out.size)))
 have HAX:=Lib.hid (HAX.out w2 HBw.out)
 have HAY:=Lib.hid (HAY.out w2 HBw.out)
 clear HCx HP HBw HBx HSg
 have g0:∀ g:Grow w2.heap.size w2,g.w'.cell? ⟨w.heap.size,0,none⟩=some (.int .i64 21):=Grow.old b0 (Nat.le_refl _)
 have g3:∀ g:Grow w2.heap.size w2,g.w'.cell? ⟨w.heap.size,3,none⟩=some (.slice (some ⟨b,off,none⟩) 2 c):=Grow.old b3 (Nat.le_refl _)
 have gx0:∀ g:Grow w2.heap.size w2,g.w'.cell? ⟨b,off,none⟩=some (.int .i64 xop):=Grow.old x0 (Nat.le_refl _)
 have gx1:∀ g:Grow w2.heap.size w2,g.w'.cell? ⟨b,off+1,none⟩=some (.int .i64 xn):=Grow.old x1 (Nat.le_refl _)
 have gx2:∀ g:Grow w2.heap.size w2,g.w'.cell? ⟨b,off+2,none⟩=some (.string xs):=Grow.old x2 (Nat.le_refl _)
 have gx3:∀ g:Grow w2.heap.size w2,g.w'.cell? ⟨b,off+3,none⟩=some (.slice a0 xk c0):=Grow.old x3 (Nat.le_refl _)
 have gy0:∀ g:Grow w2.heap.size w2,g.w'.cell? ⟨b,off+4,none⟩=some (.int .i64 yop):=Grow.old y0 (Nat.le_refl _)
 have gy1:∀ g:Grow w2.heap.size w2,g.w'.cell? ⟨b,off+4+1,none⟩=some (.int .i64 yn):=Grow.old y1 (Nat.le_refl _)
 have gy2:∀ g:Grow w2.heap.size w2,g.w'.cell? ⟨b,off+4+2,none⟩=some (.string ys):=Grow.old y2 (Nat.le_refl _)
 have gy3:∀ g:Grow w2.heap.size w2,g.w'.cell? ⟨b,off+4+3,none⟩=some (.slice a1 yk c1):=Grow.old y3 (Nat.le_refl _)
 go_wp2_with fail
 (refine wp_region_grow (B:=w2.heap.size) (w0:=w2) (by kernel_rfl) (by kernel_rfl) bel ?_;(repeat (go_big_quiet_step ((first | (with_reducible exact HAX.out _) | (with_reducible exact HAY.out _)))));refine wpQuiet_nil ?_;intro wg hCg;have hbg:=grow_out hCg;clear hCg)
 have HPe:=Lib.hid (HPf.out _ hbg)
 go_wp2_with fail
 first | exact HPe.out | (go_ret;exact HPe.out)
set_option maxRecDepth 100000 in
set_option maxHeartbeats 8000000 in
theorem rpl_pre {B:Nat} {w0:World} {x:Ex} {s1:ByteArray} (op n:Int) (nm:ByteArray) (hop:op=4∨op=5∨op=6) (hx:RAtC B w0 x 13 s1) (hz1':s1.size≤1099511627776):PlC B w0 (.mk op n nm [x]) (preS op++s1):=by
 intro a c w hw hz hX
 have hE:=hX.2
 simp only[Ex.op_mk,Ex.n_mk,Ex.name_mk,Ex.args_mk] at hE⊢
 obtain⟨b,off,ha⟩:=(SliceIn.addr hE).resolve_left (by simp)
 subst ha
 obtain⟨a0,c0,x0,x1,x2,x3,hX0⟩:=hE.get rfl (show 0 < [x].length by simp)
 simp only[List.getElem_cons_zero,List.getElem_cons_succ,Nat.zero_mul,Nat.add_zero,Nat.reduceMul] at x0 x1 x2 x3 hX0
 have hcl:=hE.1
 simp only[List.length_cons,List.length_nil] at hcl⊢
 have hsm:sgnM op=.empty:=(sgn_none (by omega)).1
 have hsl:sgnL op=0:=(sgn_none (by omega)).2
 have hpn:preS op=preS op:=rfl
 have hps:(preS op).size≤1∧(preS op).toList.isEmpty=false:=by rcases hop with rfl | rfl | rfl<;>(rw[ByteArray.toList_eq];decide)
 have HSg:=Lib.hid (fun W=>sign_any op W)
 have HPr:=Lib.hid (fun W=>prefix09_any op W)
 rw[hsm,hsl] at HSg
 have HBx:Hid (Below (w.heap.size+1) (w.alloc (.cells #[.int .i64 op,.int .i64 n,.string nm,.slice (some ⟨b,off,none⟩) 1 c] 55)) (w.alloc (.cells #[.int .i64 op,.int .i64 n,.string nm,.slice (some ⟨b,off,none⟩) 1 c] 55))):=Below.refl _ _
 have HP:Hid (∀ w',Below w.heap.size w w'→SPost (preS op++s1) w (.returned (.string (preS op++s1))) w'):=fun w' h=>⟨rfl,h⟩
 generalize SPost (preS op++s1) w=Po at HP⊢
 have HAX:Hid (∀ W,Below w.heap.size w W→∀ g:Grow W.heap.size W,Calls Tryz.prog 177 #[.agg #[.int .i64 x.op,.int .i64 x.n,.string x.name,.slice a0 x.args.length c0],.int .i64 13] g.w' fun e w''=>e=.returned (.string s1)∧∃ g:Grow W.heap.size W,w''=g.w'):=fun W hW g =>
  have hg:Below w.heap.size w g.w':=hW.trans (g.h.mono hW.size)
  grow_callB (Nat.le_refl _) g (hx a0 c0 g.w' (hw.trans (hg.mono hz)) (Nat.le_trans hz hg.size) (hX0.keep (keeps_of_below hg)))
 generalize preS op=ps at HPr HP hps
 obtain⟨hps1,hps2⟩:=hps
 clear hop
 have HCx:Hid (∀ W,Below w.heap.size w W→∀ q v,w.cell? q=some v→W.cell? q=some v):=fun W hW=>keeps_of_below hW
 clear hx hX0 hE hX hsm hsl hpn
 obtain⟨xop,xn,xs,xa⟩:=x
 simp only[Ex.op_mk,Ex.n_mk,Ex.name_mk,Ex.args_mk] at x0 x1 x2 x3 HAX
 generalize xa.length=xk at *
 have HBw:=Lib.hid (boxWT _ HBx.out)
 have b0:=box_cellT HBx.out 0
 have b1:=box_cellT HBx.out 1
 have b2:=box_cellT HBx.out 2
 have b3:=box_cellT HBx.out 3
 simp only[List.getElem?_toArray,List.getElem?_cons_zero,List.getElem?_cons_succ] at b0 b1 b2 b3
 go_enter Tryz.func121, Tryz.ntmps121
 go_wp2_with fail
 generalize (w.alloc (.cells #[.int .i64 op,.int .i64 n,.string nm,.slice (some ⟨b,off,none⟩) 1 c] 55))=W2 at HBw b0 b1 b2 b3⊢
 refine(HSg.out W2).mono ?_
 rintro e w2 ⟨rfl,rfl⟩
 have x0:=HCx.out w2 HBw.out _ _ x0
 have x1:=HCx.out w2 HBw.out _ _ x1
 have x2:=HCx.out w2 HBw.out _ _ x2
 have x3:=HCx.out w2 HBw.out _ _ x3
 have q1:¬ 9223372036854775807 < ps.size+s1.size:=by omega
 go_wp2_with fail
 refine(HPr.out w2).mono ?_
 rintro e w2 ⟨rfl,rfl⟩
 have HPg:Hid (∀ g:Grow w2.heap.size w2,Calls Tryz.prog 178 #[.int .i64 op] g.w' fun e w''=>e=.returned (.string ps)∧∃ g:Grow w2.heap.size w2,w''=g.w'):=fun g=>(HPr.out g.w').mono fun e w'' h=>⟨h.1,g,h.2⟩
 have HPf:=Lib.hid (fun W (hW:Below w2.heap.size w2 W)=>HP.out W (HBw.out.trans (hW.mono HBw.out.size)))
 have HAX:=Lib.hid (HAX.out w2 HBw.out)
 clear HCx HP HBw HBx HSg
 have g0:∀ g:Grow w2.heap.size w2,g.w'.cell? ⟨w.heap.size,0,none⟩=some (.int .i64 op):=Grow.old b0 (Nat.le_refl _)
 have g3:∀ g:Grow w2.heap.size w2,g.w'.cell? ⟨w.heap.size,3,none⟩=some (.slice (some ⟨b,off,none⟩) 1 c):=Grow.old b3 (Nat.le_refl _)
 have gx0:∀ g:Grow w2.heap.size w2,g.w'.cell? ⟨b,off,none⟩=some (.int .i64 xop):=Grow.old x0 (Nat.le_refl _)
 have gx1:∀ g:Grow w2.heap.size w2,g.w'.cell? ⟨b,off+1,none⟩=some (.int .i64 xn):=Grow.old x1 (Nat.le_refl _)
 have gx2:∀ g:Grow w2.heap.size w2,g.w'.cell? ⟨b,off+2,none⟩=some (.string xs):=Grow.old x2 (Nat.le_refl _)
 have gx3:∀ g:Grow w2.heap.size w2,g.w'.cell? ⟨b,off+3,none⟩=some (.slice a0 xk c0):=Grow.old x3 (Nat.le_refl _)
 go_wp2_with fail
 (refine wp_region_grow (B:=w2.heap.size) (w0:=w2) (by kernel_rfl) (by kernel_rfl) bel ?_;(repeat (go_big_quiet_step ((first | (with_reducible exact HAX.out _) | (with_reducible exact HPg.out _)))));refine wpQuiet_nil ?_;intro wg hCg;have hbg:=grow_out hCg;clear hCg)
 have HPe:=Lib.hid (HPf.out _ hbg)
 go_wp2_with fail
 first | exact HPe.out | (go_ret;exact HPe.out)
set_option maxRecDepth 100000 in
set_option maxHeartbeats 8000000 in
theorem rpl_if {B:Nat} {w0:World} {x y z:Ex} {s1 s2 s3:ByteArray} (n:Int) (nm:ByteArray) (hx:RAtC B w0 x 2 s1) (hy:RAtC B w0 y 1 s2) (hz3:RAtC B w0 z 1 s3) (hz1':s1.size≤1099511627776) (hz2':s2.size≤1099511627776) (hz3':s3.size≤1099511627776):PlC B w0 (.mk 22 n nm [x,y,z]) (ifT s1 s2 s3):=by
 intro a c w hw hz hX
 have hE:=hX.2
 simp only[Ex.op_mk,Ex.n_mk,Ex.name_mk,Ex.args_mk] at hE⊢
 obtain⟨b,off,ha⟩:=(SliceIn.addr hE).resolve_left (by simp)
 subst ha
 obtain⟨a0,c0,x0,x1,x2,x3,hX0⟩:=hE.get rfl (show 0 < [x,y,z].length by simp)
 obtain⟨a1,c1,y0,y1,y2,y3,hX1⟩:=hE.get rfl (show 1 < [x,y,z].length by simp)
 obtain⟨a2,c2,z0,z1,z2,z3,hX2⟩:=hE.get rfl (show 2 < [x,y,z].length by simp)
 simp only[List.getElem_cons_zero,List.getElem_cons_succ,Nat.zero_mul,Nat.add_zero,Nat.one_mul,Nat.reduceMul] at x0 x1 x2 x3 hX0 y0 y1 y2 y3 hX1 z0 z1 z2 z3 hX2
 have hcl:=hE.1
 simp only[List.length_cons,List.length_nil] at hcl⊢
 have hsm:sgnM 22=.empty:=rfl
 have hsl:sgnL 22=0:=rfl
 have hpn:preS 22=.empty:=rfl
 have HSg:=Lib.hid (fun W=>sign_any 22 W)
 have HPr:=Lib.hid (fun W=>prefix09_any 22 W)
 rw[hsm,hsl] at HSg
 rw[hpn] at HPr
 have HBx:Hid (Below (w.heap.size+1) (w.alloc (.cells #[.int .i64 22,.int .i64 n,.string nm,.slice (some ⟨b,off,none⟩) 3 c] 55)) (w.alloc (.cells #[.int .i64 22,.int .i64 n,.string nm,.slice (some ⟨b,off,none⟩) 3 c] 55))):=Below.refl _ _
 have HP:Hid (∀ w',Below w.heap.size w w'→SPost (ifT s1 s2 s3) w (.returned (.string (ifT s1 s2 s3))) w'):=fun w' h=>⟨rfl,h⟩
 generalize SPost (ifT s1 s2 s3) w=Po at HP⊢
 have HAX:Hid (∀ W,Below w.heap.size w W→∀ g:Grow W.heap.size W,Calls Tryz.prog 177 #[.agg #[.int .i64 x.op,.int .i64 x.n,.string x.name,.slice a0 x.args.length c0],.int .i64 2] g.w' fun e w''=>e=.returned (.string s1)∧∃ g:Grow W.heap.size W,w''=g.w'):=fun W hW g =>
  have hg:Below w.heap.size w g.w':=hW.trans (g.h.mono hW.size)
  grow_callB (Nat.le_refl _) g (hx a0 c0 g.w' (hw.trans (hg.mono hz)) (Nat.le_trans hz hg.size) (hX0.keep (keeps_of_below hg)))
 have HAY:Hid (∀ W,Below w.heap.size w W→∀ g:Grow W.heap.size W,Calls Tryz.prog 177 #[.agg #[.int .i64 y.op,.int .i64 y.n,.string y.name,.slice a1 y.args.length c1],.int .i64 1] g.w' fun e w''=>e=.returned (.string s2)∧∃ g:Grow W.heap.size W,w''=g.w'):=fun W hW g =>
  have hg:Below w.heap.size w g.w':=hW.trans (g.h.mono hW.size)
  grow_callB (Nat.le_refl _) g (hy a1 c1 g.w' (hw.trans (hg.mono hz)) (Nat.le_trans hz hg.size) (hX1.keep (keeps_of_below hg)))
 have HAZ:Hid (∀ W,Below w.heap.size w W→∀ g:Grow W.heap.size W,Calls Tryz.prog 177 #[.agg #[.int .i64 z.op,.int .i64 z.n,.string z.name,.slice a2 z.args.length c2],.int .i64 1] g.w' fun e w''=>e=.returned (.string s3)∧∃ g:Grow W.heap.size W,w''=g.w'):=fun W hW g =>
  have hg:Below w.heap.size w g.w':=hW.trans (g.h.mono hW.size)
  grow_callB (Nat.le_refl _) g (hz3 a2 c2 g.w' (hw.trans (hg.mono hz)) (Nat.le_trans hz hg.size) (hX2.keep (keeps_of_below hg)))
 unfold ifT at HP
 have HCx:Hid (∀ W,Below w.heap.size w W→∀ q v,w.cell? q=some v→W.cell? q=some v):=fun W hW=>keeps_of_below hW
 clear hx hy hz3 hX0 hX1 hX2 hE hX hsm hsl hpn
 obtain⟨xop,xn,xs,xa⟩:=x
 obtain⟨yop,yn,ys,ya⟩:=y
 obtain⟨zop,zn,zs,za⟩:=z
 simp only[Ex.op_mk,Ex.n_mk,Ex.name_mk,Ex.args_mk] at x0 x1 x2 x3 y0 y1 y2 y3 z0 z1 z2 z3 HAX HAY HAZ
 generalize xa.length=xk at *
 generalize ya.length=yk at *
 generalize za.length=zk at *
 have HBw:=Lib.hid (boxWT _ HBx.out)
 have b0:=box_cellT HBx.out 0
 have b1:=box_cellT HBx.out 1
 have b2:=box_cellT HBx.out 2
 have b3:=box_cellT HBx.out 3
 simp only[List.getElem?_toArray,List.getElem?_cons_zero,List.getElem?_cons_succ] at b0 b1 b2 b3
 go_enter Tryz.func121, Tryz.ntmps121
 go_wp2_with fail
 generalize (w.alloc (.cells #[.int .i64 22,.int .i64 n,.string nm,.slice (some ⟨b,off,none⟩) 3 c] 55))=W2 at HBw b0 b1 b2 b3⊢
 refine(HSg.out W2).mono ?_
 rintro e w2 ⟨rfl,rfl⟩
 have x0:=HCx.out w2 HBw.out _ _ x0
 have x1:=HCx.out w2 HBw.out _ _ x1
 have x2:=HCx.out w2 HBw.out _ _ x2
 have x3:=HCx.out w2 HBw.out _ _ x3
 have y0:=HCx.out w2 HBw.out _ _ y0
 have y1:=HCx.out w2 HBw.out _ _ y1
 have y2:=HCx.out w2 HBw.out _ _ y2
 have y3:=HCx.out w2 HBw.out _ _ y3
 have z0:=HCx.out w2 HBw.out _ _ z0
 have z1:=HCx.out w2 HBw.out _ _ z1
 have z2:=HCx.out w2 HBw.out _ _ z2
 have z3:=HCx.out w2 HBw.out _ _ z3
 have q1:¬ 9223372036854775807 < s1.size+3:=by omega
 have q2:¬ 9223372036854775807 < s1.size+3+s2.size:=by omega
 have q3:¬ 9223372036854775807 < s1.size+3+s2.size+3:=by omega
 have q4:¬ 9223372036854775807 < s1.size+3+s2.size+3+s3.size:=by omega
 go_wp2_with fail
 refine(HPr.out w2).mono ?_
 rintro e w2 ⟨rfl,rfl⟩
 have HPf:=Lib.hid (fun W (hW:Below w2.heap.size w2 W)=>HP.out W (HBw.out.trans (hW.mono HBw.out.size)))
 have HAX:=Lib.hid (HAX.out w2 HBw.out)
 have HAY:=Lib.hid (HAY.out w2 HBw.out)
 have HAZ:=Lib.hid (HAZ.out w2 HBw.out)
 clear HCx HP HBw HBx HSg
 have g0:∀ g:Grow w2.heap.size w2,g.w'.cell? ⟨w.heap.size,0,none⟩=some (.int .i64 22):=Grow.old b0 (Nat.le_refl _)
 have g3:∀ g:Grow w2.heap.size w2,g.w'.cell? ⟨w.heap.size,3,none⟩=some (.slice (some ⟨b,off,none⟩) 3 c):=Grow.old b3 (Nat.le_refl _)
 have gx0:∀ g:Grow w2.heap.size w2,g.w'.cell? ⟨b,off,none⟩=some (.int .i64 xop):=Grow.old x0 (Nat.le_refl _)
 have gx1:∀ g:Grow w2.heap.size w2,g.w'.cell? ⟨b,off+1,none⟩=some (.int .i64 xn):=Grow.old x1 (Nat.le_refl _)
 have gx2:∀ g:Grow w2.heap.size w2,g.w'.cell? ⟨b,off+2,none⟩=some (.string xs):=Grow.old x2 (Nat.le_refl _)
 have gx3:∀ g:Grow w2.heap.size w2,g.w'.cell? ⟨b,off+3,none⟩=some (.slice a0 xk c0):=Grow.old x3 (Nat.le_refl _)
 have gy0:∀ g:Grow w2.heap.size w2,g.w'.cell? ⟨b,off+4,none⟩=some (.int .i64 yop):=Grow.old y0 (Nat.le_refl _)
 have gy1:∀ g:Grow w2.heap.size w2,g.w'.cell? ⟨b,off+4+1,none⟩=some (.int .i64 yn):=Grow.old y1 (Nat.le_refl _)
 have gy2:∀ g:Grow w2.heap.size w2,g.w'.cell? ⟨b,off+4+2,none⟩=some (.string ys):=Grow.old y2 (Nat.le_refl _)
 have gy3:∀ g:Grow w2.heap.size w2,g.w'.cell? ⟨b,off+4+3,none⟩=some (.slice a1 yk c1):=Grow.old y3 (Nat.le_refl _)
 have gz0:∀ g:Grow w2.heap.size w2,g.w'.cell? ⟨b,off+8,none⟩=some (.int .i64 zop):=Grow.old z0 (Nat.le_refl _)
 have gz1:∀ g:Grow w2.heap.size w2,g.w'.cell? ⟨b,off+8+1,none⟩=some (.int .i64 zn):=Grow.old z1 (Nat.le_refl _)
 have gz2:∀ g:Grow w2.heap.size w2,g.w'.cell? ⟨b,off+8+2,none⟩=some (.string zs):=Grow.old z2 (Nat.le_refl _)
 have gz3:∀ g:Grow w2.heap.size w2,g.w'.cell? ⟨b,off+8+3,none⟩=some (.slice a2 zk c2):=Grow.old z3 (Nat.le_refl _)
 go_wp2_with fail
 (refine wp_region_grow (B:=w2.heap.size) (w0:=w2) (by kernel_rfl) (by kernel_rfl) bel ?_;(repeat (go_big_quiet_step ((first | (with_reducible exact HAX.out _) | (with_reducible exact HAY.out _) | (with_reducible exact HAZ.out _)))));refine wpQuiet_nil ?_;intro wg hCg;have hbg:=grow_out hCg;clear hCg)
 have HPe:=Lib.hid (HPf.out _ hbg)
 go_wp2_with fail
 first | exact HPe.out | (go_ret;exact HPe.out)
set_option maxRecDepth 100000 in
set_option maxHeartbeats 8000000 in
theorem rpl_ones {B:Nat} {w0:World} {x:Ex} {s1:ByteArray} (n:Int) (nm:ByteArray) (hx:RAtC B w0 x 1 s1) (hz1':s1.size≤1099511627776):PlC B w0 (.mk 25 n nm [x]) (onesT s1):=by
 intro a c w hw hz hX
 have hE:=hX.2
 simp only[Ex.op_mk,Ex.n_mk,Ex.name_mk,Ex.args_mk] at hE⊢
 obtain⟨b,off,ha⟩:=(SliceIn.addr hE).resolve_left (by simp)
 subst ha
 obtain⟨a0,c0,x0,x1,x2,x3,hX0⟩:=hE.get rfl (show 0 < [x].length by simp)
 simp only[List.getElem_cons_zero,List.getElem_cons_succ,Nat.zero_mul,Nat.add_zero,Nat.reduceMul] at x0 x1 x2 x3 hX0
 have hcl:=hE.1
 simp only[List.length_cons,List.length_nil] at hcl⊢
 have hsm:sgnM 25=.empty:=rfl
 have hsl:sgnL 25=0:=rfl
 have hpn:preS 25=.empty:=rfl
 have HSg:=Lib.hid (fun W=>sign_any 25 W)
 have HPr:=Lib.hid (fun W=>prefix09_any 25 W)
 rw[hsm,hsl] at HSg
 rw[hpn] at HPr
 have HBx:Hid (Below (w.heap.size+1) (w.alloc (.cells #[.int .i64 25,.int .i64 n,.string nm,.slice (some ⟨b,off,none⟩) 1 c] 55)) (w.alloc (.cells #[.int .i64 25,.int .i64 n,.string nm,.slice (some ⟨b,off,none⟩) 1 c] 55))):=Below.refl _ _
 have HP:Hid (∀ w',Below w.heap.size w w'→SPost (onesT s1) w (.returned (.string (onesT s1))) w'):=fun w' h=>⟨rfl,h⟩
 generalize SPost (onesT s1) w=Po at HP⊢
 have HAX:Hid (∀ W,Below w.heap.size w W→Calls Tryz.prog 177 #[.agg #[.int .i64 x.op,.int .i64 x.n,.string x.name,.slice a0 x.args.length c0],.int .i64 1] W fun e w''=>e=.returned (.string s1)∧Below W.heap.size W w''):=fun W hW =>
  hx a0 c0 W (hw.trans (hW.mono hz)) (Nat.le_trans hz hW.size) (hX0.keep (keeps_of_below hW))
 unfold onesT at HP
 have HCx:Hid (∀ W,Below w.heap.size w W→∀ q v,w.cell? q=some v→W.cell? q=some v):=fun W hW=>keeps_of_below hW
 clear hx hX0 hE hX hsm hsl hpn
 obtain⟨xop,xn,xs,xa⟩:=x
 simp only[Ex.op_mk,Ex.n_mk,Ex.name_mk,Ex.args_mk] at x0 x1 x2 x3 HAX
 generalize xa.length=xk at *
 have HBw:=Lib.hid (boxWT _ HBx.out)
 have b0:=box_cellT HBx.out 0
 have b1:=box_cellT HBx.out 1
 have b2:=box_cellT HBx.out 2
 have b3:=box_cellT HBx.out 3
 simp only[List.getElem?_toArray,List.getElem?_cons_zero,List.getElem?_cons_succ] at b0 b1 b2 b3
 go_enter Tryz.func121, Tryz.ntmps121
 go_wp2_with fail
 generalize (w.alloc (.cells #[.int .i64 25,.int .i64 n,.string nm,.slice (some ⟨b,off,none⟩) 1 c] 55))=W2 at HBw b0 b1 b2 b3⊢
 refine(HSg.out W2).mono ?_
 rintro e w2 ⟨rfl,rfl⟩
 have x0:=HCx.out w2 HBw.out _ _ x0
 have x1:=HCx.out w2 HBw.out _ _ x1
 have x2:=HCx.out w2 HBw.out _ _ x2
 have x3:=HCx.out w2 HBw.out _ _ x3
 have q1:¬ 9223372036854775807 < 5+s1.size:=by omega
 have q2:¬ 9223372036854775807 < 5+s1.size+1:=by omega
 go_wp2_with fail
 refine(HPr.out w2).mono ?_
 rintro e w2 ⟨rfl,rfl⟩
 go_wp2_with fail
 refine(HAX.out w2 HBw.out).mono ?_
 rintro e w3 ⟨rfl,hb3⟩
 have HPf:=Lib.hid (HP.out w3 (HBw.out.trans (hb3.mono HBw.out.size)))
 clear hb3
 go_wp2_with fail
 first | exact HPf.out | (go_ret;exact HPf.out)
set_option maxRecDepth 100000 in
set_option maxHeartbeats 8000000 in
theorem rpl_con {B:Nat} {w0:World} (n:Nat) (nm:ByteArray) (args:List Ex) (hn:n≤65535):PlC B w0 (.mk 1 n nm args) (fmtS n):=by
 intro a c w hw hz hX
 have hE:=hX.2
 simp only[Ex.op_mk,Ex.n_mk,Ex.name_mk,Ex.args_mk] at hE⊢
 have hsm:sgnM 1=.empty:=rfl
 have hsl:sgnL 1=0:=rfl
 have hpn:preS 1=.empty:=rfl
 have HSg:=Lib.hid (fun W=>sign_any 1 W)
 have HPr:=Lib.hid (fun W=>prefix09_any 1 W)
 rw[hsm,hsl] at HSg
 rw[hpn] at HPr
 have HBx:Hid (Below (w.heap.size+1) (w.alloc (.cells #[.int .i64 1,.int .i64 n,.string nm,.slice a args.length c] 55)) (w.alloc (.cells #[.int .i64 1,.int .i64 n,.string nm,.slice a args.length c] 55))):=Below.refl _ _
 have HP:Hid (∀ w',Below w.heap.size w w'→SPost (fmtS n) w (.returned (.string (fmtS n))) w'):=fun w' h=>⟨rfl,h⟩
 generalize SPost (fmtS n) w=Po at HP⊢
 have HD:=Lib.hid (fun W=>decimal09_any n hn W)
 clear hE hX hsm hsl hpn
 generalize args.length=k at *
 have HBw:=Lib.hid (boxWT _ HBx.out)
 have b0:=box_cellT HBx.out 0
 have b1:=box_cellT HBx.out 1
 have b2:=box_cellT HBx.out 2
 have b3:=box_cellT HBx.out 3
 simp only[List.getElem?_toArray,List.getElem?_cons_zero,List.getElem?_cons_succ] at b0 b1 b2 b3
 go_enter Tryz.func121, Tryz.ntmps121
 go_wp2_with fail
 generalize (w.alloc (.cells #[.int .i64 1,.int .i64 n,.string nm,.slice a k c] 55))=W2 at HBw b0 b1 b2 b3⊢
 refine(HSg.out W2).mono ?_
 rintro e w2 ⟨rfl,rfl⟩
 go_wp2_with fail
 refine(HPr.out w2).mono ?_
 rintro e w2 ⟨rfl,rfl⟩
 go_wp2_with fail
 refine(HD.out w2).mono ?_
 rintro e w3 ⟨rfl,hb3⟩
 have HPf:=Lib.hid (HP.out w3 (HBw.out.trans (hb3.mono HBw.out.size)))
 clear hb3
 go_wp2_with fail
 first | exact HPf.out | (go_ret;exact HPf.out)
theorem no_byte {l:List UInt8} {c:UInt8} (h:Lib.indexByte l c < 0):c∉l:=by
 induction l with
 | nil=>simp
 | cons b l ih =>
  unfold Lib.indexByte at h
  split at h
  ·omega
  ·rename_i hb
   split at h
   ·rename_i h1
    have h2:Lib.indexByte l c=-1:=by simpa using h1
    have:=ih (by omega)
    intro hm
    rcases List.mem_cons.1 hm with rfl | hm
    ·simp at hb
    ·exact this hm
   ·have:=ih (by omega)
    intro hm
    rcases List.mem_cons.1 hm with rfl | hm
    ·simp at hb
    ·exact this hm
theorem no_elem {l:List UInt8} (h:Lib.indexByte l 91 < 0):elemB l=false:=by
 cases he:elemB l
 ·rfl
 ·obtain⟨A,x,h1,_⟩:=(elemB_iff l).1 he
  exact absurd (by rw[h1];simp) (no_byte h)
set_option maxRecDepth 100000 in
set_option maxHeartbeats 8000000 in
theorem rpl_var {B:Nat} {w0:World} (n:Int) (nm:ByteArray) (args:List Ex) (h:Lib.indexByte nm.data.toList 91 < 0):PlC B w0 (.mk 2 n nm args) nm:=by
 intro a c w hw hz hX
 have hE:=hX.2
 simp only[Ex.op_mk,Ex.n_mk,Ex.name_mk,Ex.args_mk] at hE⊢
 have hsm:sgnM 2=.empty:=rfl
 have hsl:sgnL 2=0:=rfl
 have hpn:preS 2=.empty:=rfl
 have HSg:=Lib.hid (fun W=>sign_any 2 W)
 have HPr:=Lib.hid (fun W=>prefix09_any 2 W)
 rw[hsm,hsl] at HSg
 rw[hpn] at HPr
 have HBx:Hid (Below (w.heap.size+1) (w.alloc (.cells #[.int .i64 2,.int .i64 n,.string nm,.slice a args.length c] 55)) (w.alloc (.cells #[.int .i64 2,.int .i64 n,.string nm,.slice a args.length c] 55))):=Below.refl _ _
 have HP:Hid (∀ w',Below w.heap.size w w'→SPost (nm) w (.returned (.string (nm))) w'):=fun w' h=>⟨rfl,h⟩
 generalize SPost (nm) w=Po at HP⊢
 have HD:Hid (∀ W,Calls Tryz.prog 179 #[.string nm] W fun e w'=>(∃ (t:ByteArray) (i:Int),e=.returned (.tuple #[.string t,.int .i64 i,.bool false]))∧Below W.heap.size W w'):=fun W=>by
  have:=rSplit_any nm W hX.1
  rw[no_elem h] at this
  exact this
 clear hE hX hsm hsl hpn
 generalize args.length=k at *
 have HBw:=Lib.hid (boxWT _ HBx.out)
 have b0:=box_cellT HBx.out 0
 have b1:=box_cellT HBx.out 1
 have b2:=box_cellT HBx.out 2
 have b3:=box_cellT HBx.out 3
 simp only[List.getElem?_toArray,List.getElem?_cons_zero,List.getElem?_cons_succ] at b0 b1 b2 b3
 go_enter Tryz.func121, Tryz.ntmps121
 go_wp2_with fail
 generalize (w.alloc (.cells #[.int .i64 2,.int .i64 n,.string nm,.slice a k c] 55))=W2 at HBw b0 b1 b2 b3⊢
 refine(HSg.out W2).mono ?_
 rintro e w2 ⟨rfl,rfl⟩
 go_wp2_with fail
 refine(HPr.out w2).mono ?_
 rintro e w2 ⟨rfl,rfl⟩
 go_wp2_with fail
 refine(HD.out w2).mono ?_
 rintro e w3 ⟨⟨t,i,rfl⟩,hb3⟩
 have HPf:=Lib.hid (HP.out w3 (HBw.out.trans (hb3.mono HBw.out.size)))
 have b2':=(keeps_of_below hb3) _ _ b2
 clear hb3
 go_wp2_with fail
 first | exact HPf.out | (go_ret;exact HPf.out)
theorem fmt_digit (x:UInt8) (h:48≤x.toNat∧x.toNat < 56):fmtS ((x.toNat - 48:Nat):Int)=⟨#[x]⟩:=by
 have hc:x=48∨x=49∨x=50∨x=51∨x=52∨x=53∨x=54∨x=55:=by
  have key:∀ n:Nat,n < 256→x.toNat=n→x=UInt8.ofNat n:=fun n hn h=>by rw[← h];simp
  have hh:x.toNat=48∨x.toNat=49∨x.toNat=50∨x.toNat=51∨x.toNat=52∨x.toNat=53∨x.toNat=54∨x.toNat=55:=by omega
  rcases hh with h | h | h | h | h | h | h | h
  ·exact Or.inl (key 48 (by omega) h)
  ·exact Or.inr (Or.inl (key 49 (by omega) h))
  ·exact Or.inr (Or.inr (Or.inl (key 50 (by omega) h)))
  ·exact Or.inr (Or.inr (Or.inr (Or.inl (key 51 (by omega) h))))
  ·exact Or.inr (Or.inr (Or.inr (Or.inr (Or.inl (key 52 (by omega) h)))))
  ·exact Or.inr (Or.inr (Or.inr (Or.inr (Or.inr (Or.inl (key 53 (by omega) h))))))
  ·exact Or.inr (Or.inr (Or.inr (Or.inr (Or.inr (Or.inr (Or.inl (key 54 (by omega) h)))))))
  ·exact Or.inr (Or.inr (Or.inr (Or.inr (Or.inr (Or.inr (Or.inr (key 55 (by omega) h)))))))
 rcases hc with rfl | rfl | rfl | rfl | rfl | rfl | rfl | rfl
 ·show fmtS 0=⟨#[48]⟩
  kernel_rfl
 ·show fmtS 1=⟨#[49]⟩
  kernel_rfl
 ·show fmtS 2=⟨#[50]⟩
  kernel_rfl
 ·show fmtS 3=⟨#[51]⟩
  kernel_rfl
 ·show fmtS 4=⟨#[52]⟩
  kernel_rfl
 ·show fmtS 5=⟨#[53]⟩
  kernel_rfl
 ·show fmtS 6=⟨#[54]⟩
  kernel_rfl
 ·show fmtS 7=⟨#[55]⟩
  kernel_rfl
set_option maxRecDepth 100000 in
set_option maxHeartbeats 8000000 in
theorem rpl_elem {B:Nat} {w0:World} (n:Int) (nm:ByteArray) (args:List Ex) (A:List UInt8) (x:UInt8) (h1:nm.data.toList=A++[91,x,93]) (hn:nameB A=true) (hx:48≤x.toNat∧x.toNat < 56):PlC B w0 (.mk 2 n nm args) ⟨(A++[64,x]).toArray⟩:=by
 intro a c w hw hz hX
 have hE:=hX.2
 simp only[Ex.op_mk,Ex.n_mk,Ex.name_mk,Ex.args_mk] at hE⊢
 have hsm:sgnM 2=.empty:=rfl
 have hsl:sgnL 2=0:=rfl
 have hpn:preS 2=.empty:=rfl
 have HSg:=Lib.hid (fun W=>sign_any 2 W)
 have HPr:=Lib.hid (fun W=>prefix09_any 2 W)
 rw[hsm,hsl] at HSg
 rw[hpn] at HPr
 have HBx:Hid (Below (w.heap.size+1) (w.alloc (.cells #[.int .i64 2,.int .i64 n,.string nm,.slice a args.length c] 55)) (w.alloc (.cells #[.int .i64 2,.int .i64 n,.string nm,.slice a args.length c] 55))):=Below.refl _ _
 have HD:Hid (∀ W,Calls Tryz.prog 179 #[.string nm] W fun e w'=>e=.returned (.tuple #[.string ⟨A.toArray⟩,.int .i64 ((x.toNat:Int) - 48),.bool true])∧Below W.heap.size W w'):=fun W=>rSplitE_any nm A x h1 hn hx hX.1 W
 have HDc:Hid (∀ W,Calls Tryz.prog 180 #[.int .i64 ((x.toNat:Int) - 48)] W fun e w'=>e=.returned (.string ⟨#[x]⟩)∧Below W.heap.size W w'):=fun W=>by
  have:=decimal09_any (x.toNat - 48) (by omega) W
  rw[fmt_digit x hx,show ((x.toNat - 48:Nat):Int)=(x.toNat:Int) - 48 from by omega] at this
  exact this
 have HR:Hid (((⟨A.toArray⟩:ByteArray)++(⟨#[64]⟩:ByteArray))++(⟨#[x]⟩:ByteArray)=⟨(A++[64,x]).toArray⟩):=by
  show _=_
  apply ByteArray.ext
  apply Array.toList_inj.1
  simp only[ByteArray.data_append,Array.toList_append]
  simp
 have HP:Hid (∀ w',Below w.heap.size w w'→SPost ⟨(A++[64,x]).toArray⟩ w (.returned (.string (((⟨A.toArray⟩:ByteArray)++(⟨#[64]⟩:ByteArray))++(⟨#[x]⟩:ByteArray)))) w'):=fun w' h=>⟨by rw[HR.out],h⟩
 generalize SPost (⟨(A++[64,x]).toArray⟩) w=Po at HP⊢
 have hAl:A.length≤1073741824:=by
  have h2:nm.size=nm.data.toList.length:=by rw[Array.length_toList];rfl
  have h3:nm.size≤1073741824:=hX.1
  rw[h2,h1] at h3
  simp at h3
  omega
 have hq0:(⟨A.toArray⟩:ByteArray).size=A.length:=by show A.toArray.size=_;simp
 have hq1:¬ 9223372036854775807 < A.length+1:=by omega
 have hq2:¬ 9223372036854775807 < A.length+1+1:=by omega
 clear h1 hn hx
 clear hE hX hsm hsl hpn
 generalize args.length=k at *
 have HBw:=Lib.hid (boxWT _ HBx.out)
 have b0:=box_cellT HBx.out 0
 have b1:=box_cellT HBx.out 1
 have b2:=box_cellT HBx.out 2
 have b3:=box_cellT HBx.out 3
 simp only[List.getElem?_toArray,List.getElem?_cons_zero,List.getElem?_cons_succ] at b0 b1 b2 b3
 go_enter Tryz.func121, Tryz.ntmps121
 go_wp2_with fail
 generalize (w.alloc (.cells #[.int .i64 2,.int .i64 n,.string nm,.slice a k c] 55))=W2 at HBw b0 b1 b2 b3⊢
 refine(HSg.out W2).mono ?_
 rintro e w2 ⟨rfl,rfl⟩
 go_wp2_with fail
 refine(HPr.out w2).mono ?_
 rintro e w2 ⟨rfl,rfl⟩
 go_wp2_with fail
 refine(HD.out w2).mono ?_
 rintro e w3 ⟨rfl,hb3⟩
 have HB3:=Lib.hid (HBw.out.trans (hb3.mono HBw.out.size))
 have b2':=(keeps_of_below hb3) _ _ b2
 clear hb3
 go_wp2_with fail
 refine(HDc.out w3).mono ?_
 rintro e w4 ⟨rfl,hb4⟩
 have HPf:=Lib.hid (HP.out w4 (HB3.out.trans (hb4.mono HB3.out.size)))
 clear hb4
 go_wp2_with fail
 first | exact HPf.out | (go_ret;exact HPf.out)
theorem rpl_varT {B:Nat} {w0:World} (n:Int) (nm:ByteArray) (args:List Ex) (h:Lib.indexByte nm.data.toList 91 < 0∨elemB nm.data.toList=true):PlC B w0 (.mk 2 n nm args) (varT nm):=by
 rcases h with h | h
 ·rw[varT_no h];exact rpl_var n nm args h
 ·obtain⟨A,x,h1,hn,hx1,hx2⟩:=(elemB_iff _).1 h
  rw[varT_elem h1 h]
  exact rpl_elem n nm args A x h1 hn ⟨hx1,hx2⟩
end Go.Proofs.YtcplmcjbkpmhdaaGreatDoor
namespace Go.Proofs.YtcplmcjbkpmhdaaGreatDoor
open Go.RowKit
attribute [local go_sem ↓] Go.wp_at_zero Go.wp_at_succ
theorem join_snoc (l:List ByteArray) (x:ByteArray):joinT (l++[x])=if l=[] then x else (joinT l++⟨#[44,32]⟩)++x:=by
 refine ByteArray.ext (Array.toList_inj.1 ?_)
 unfold joinT
 cases l with
 | nil=>simp[Lib.join_one]
 | cons y r =>
  rw[if_neg (by simp)]
  simp only[List.cons_append,List.map_cons,List.map_append,List.map_nil,ByteArray.data_append,Array.toList_append]
  rw[Lib.join_cons,Lib.join_cons]
  unfold Lib.joinTail
  simp
def inPK (X:ByteArray) (T:Nat→ByteArray) (j:Nat):ByteArray:=X++joinT (pairL T j)
theorem pairL_snoc (T:Nat→ByteArray) (k:Nat):pairL T (k+1)=pairL T k++[pairT (T (1+2 * k)) (T (1+2 * k+1))]:=by unfold pairL;rw[List.range_succ];simp
theorem joinT_nil:joinT []=.empty:=rfl
theorem inP_zero (X:ByteArray) (T:Nat→ByteArray):inPK X T 0=X:=by
 unfold inPK pairL
 simp[joinT_nil]
theorem inP_one (X:ByteArray) (T:Nat→ByteArray):((X++T 1)++⟨#[32,46,46,32]⟩)++T 2=inPK X T 1:=by
 unfold inPK
 rw[pairL_snoc,join_snoc,if_pos (by simp[pairL])]
 unfold pairT
 simp only[ByteArray.append_assoc]
theorem inP_succ (X:ByteArray) (T:Nat→ByteArray) (j:Nat) (h:1≤j):(((inPK X T j++⟨#[44,32]⟩)++T (1+2 * j))++⟨#[32,46,46,32]⟩)++T (1+2 * j+1)=inPK X T (j+1):=by
 unfold inPK
 rw[pairL_snoc,join_snoc,if_neg (by intro e;have:=congrArg List.length e;rw[pairL_len] at this;simp at this;omega)]
 unfold pairT
 simp only[ByteArray.append_assoc]
set_option maxRecDepth 100000 in
set_option maxHeartbeats 16000000 in
theorem rpl_in {B:Nat} {w0:World} {s0:ByteArray} {T:Nat→ByteArray} {K:Nat} (n:Int) (nm:ByteArray) (args:List Ex) (hlen:args.length=1+2 * K) (hK:1≤K) (hK2:K≤1000)
  (hx:∀ (h:0 < args.length),RAtC B w0 (args[0]'h) 9 s0) (hT:∀ i (h:i < args.length),RAtC B w0 (args[i]'h) 1 (T i)) (hTz:∀ i,i < args.length→(T i).size≤549755813888) (hz0:s0.size≤1099511627776) (hJ:∀ j,j≤K→(joinT (pairL T j)).size≤70368744177664):PlC B w0 (.mk 23 n nm args) (inT s0 (joinT (pairL T K))):=by
 intro a c w hw hz hX
 have hE:=hX.2
 simp only[Ex.op_mk,Ex.n_mk,Ex.name_mk,Ex.args_mk] at hE⊢
 have hcl:=hE.1
 obtain⟨b,off,ha⟩:=(SliceIn.addr hE).resolve_left (by omega)
 subst ha
 have hsm:sgnM 23=.empty:=rfl
 have hsl:sgnL 23=0:=rfl
 have hpn:preS 23=.empty:=rfl
 have HSg:=Lib.hid (fun W=>sign_any 23 W)
 have HPr:=Lib.hid (fun W=>prefix09_any 23 W)
 rw[hsm,hsl] at HSg
 rw[hpn] at HPr
 have HBx:Hid (Below (w.heap.size+1) (w.alloc (.cells #[.int .i64 23,.int .i64 n,.string nm,.slice (some ⟨b,off,none⟩) args.length c] 55)) (w.alloc (.cells #[.int .i64 23,.int .i64 n,.string nm,.slice (some ⟨b,off,none⟩) args.length c] 55))):=Below.refl _ _
 have HP:Hid (∀ w',Below w.heap.size w w'→SPost (inT s0 (joinT (pairL T K))) w (.returned (.string (inT s0 (joinT (pairL T K))))) w'):=fun w' h=>⟨rfl,h⟩
 generalize SPost (inT s0 (joinT (pairL T K))) w=Po at HP⊢
 have hin:inT s0 (joinT (pairL T K))=inPK (s0++⟨#[32,105,110,115,105,100,101,32,123,32]⟩) T K++⟨#[32,125]⟩:=rfl
 rw[hin] at HP
 have HE:=Lib.hid hE
 have HAt:Hid (∀ (h:0 < args.length) a c W,Below w.heap.size w W→ExIn W (args[0]'h) a c→Calls Tryz.prog 177 #[.agg #[.int .i64 (args[0]'h).op,.int .i64 (args[0]'h).n,.string (args[0]'h).name,.slice a (args[0]'h).args.length c],.int .i64 9] W fun e w''=>e=.returned (.string s0)∧Below W.heap.size W w''):=fun h a c W hW hI=>hx h a c W (hw.trans (hW.mono hz)) (Nat.le_trans hz hW.size) hI
 have HTx:Hid (∀ i (h:i < args.length) a c W,Below w.heap.size w W→ExIn W (args[i]'h) a c→Calls Tryz.prog 177 #[.agg #[.int .i64 (args[i]'h).op,.int .i64 (args[i]'h).n,.string (args[i]'h).name,.slice a (args[i]'h).args.length c],.int .i64 1] W fun e w''=>e=.returned (.string (T i))∧Below W.heap.size W w''):=fun i h a c W hW hI=>hT i h a c W (hw.trans (hW.mono hz)) (Nat.le_trans hz hW.size) hI
 have HTz:=Lib.hid hTz
 have hxz:(s0++(⟨#[32,105,110,115,105,100,101,32,123,32]⟩:ByteArray)).size=s0.size+10:=by rw[ByteArray.size_append];rfl
 have HIz:Hid (∀ j,j≤K→(inPK (s0++⟨#[32,105,110,115,105,100,101,32,123,32]⟩) T j).size≤140737488355328):=fun j hj=>by
  have:=hJ j hj
  unfold inPK
  rw[ByteArray.size_append,hxz]
  omega
 have HI0:Hid (inPK (s0++⟨#[32,105,110,115,105,100,101,32,123,32]⟩) T 0=s0++⟨#[32,105,110,115,105,100,101,32,123,32]⟩):=inP_zero _ _
 have HI1:Hid ((((s0++⟨#[32,105,110,115,105,100,101,32,123,32]⟩)++T 1)++⟨#[32,46,46,32]⟩)++T 2=inPK (s0++⟨#[32,105,110,115,105,100,101,32,123,32]⟩) T 1):=inP_one _ _
 have HIs:Hid (∀ j,1≤j→(((inPK (s0++⟨#[32,105,110,115,105,100,101,32,123,32]⟩) T j++⟨#[44,32]⟩)++T (1+2 * j))++⟨#[32,46,46,32]⟩)++T (1+2 * j+1)=inPK (s0++⟨#[32,105,110,115,105,100,101,32,123,32]⟩) T (j+1)):=fun j h=>inP_succ _ _ j h
 generalize hIP:inPK (s0++⟨#[32,105,110,115,105,100,101,32,123,32]⟩) T=IP at HP HIz HI0 HI1 HIs
 have HL:=Lib.hid hlen
 have ha0:0 < args.length:=by omega
 have hal2:args.length≤2001:=by omega
 clear hx hT hTz hX hE hsm hsl hpn hlen hIP hin hJ hxz
 have HBw:=Lib.hid (boxWT _ HBx.out)
 have b0:=box_cellT HBx.out 0
 have b1:=box_cellT HBx.out 1
 have b2:=box_cellT HBx.out 2
 have b3:=box_cellT HBx.out 3
 simp only[List.getElem?_toArray,List.getElem?_cons_zero,List.getElem?_cons_succ] at b0 b1 b2 b3
 go_enter Tryz.func121, Tryz.ntmps121
 go_wp2_with fail
 generalize (w.alloc (.cells #[.int .i64 23,.int .i64 n,.string nm,.slice (some ⟨b,off,none⟩) args.length c] 55))=W2 at HBw b0 b1 b2 b3⊢
 refine(HSg.out W2).mono ?_
 rintro e w2 ⟨rfl,rfl⟩
 go_wp2_with fail
 refine(HPr.out w2).mono ?_
 rintro e w2 ⟨rfl,rfl⟩
 have HE2:=Lib.hid (HE.out.keep (keeps_of_below HBw.out))
 have HT2:Hid (∀ i (h:i < args.length) a c W,Below w2.heap.size w2 W→ExIn W (args[i]'h) a c→Calls Tryz.prog 177 #[.agg #[.int .i64 (args[i]'h).op,.int .i64 (args[i]'h).n,.string (args[i]'h).name,.slice a (args[i]'h).args.length c],.int .i64 1] W fun e w''=>e=.returned (.string (T i))∧Below W.heap.size W w''):=fun i h a c W hW hI=>HTx.out i h a c W (HBw.out.trans (hW.mono HBw.out.size)) hI
 have HA2:Hid (∀ (h:0 < args.length) a c W,Below w2.heap.size w2 W→ExIn W (args[0]'h) a c→Calls Tryz.prog 177 #[.agg #[.int .i64 (args[0]'h).op,.int .i64 (args[0]'h).n,.string (args[0]'h).name,.slice a (args[0]'h).args.length c],.int .i64 9] W fun e w''=>e=.returned (.string s0)∧Below W.heap.size W w''):=fun h a c W hW hI=>HAt.out h a c W (HBw.out.trans (hW.mono HBw.out.size)) hI
 have HPf:=Lib.hid (fun W (hW:Below w2.heap.size w2 W)=>HP.out W (HBw.out.trans (hW.mono HBw.out.size)))
 clear HE HAt HTx HP HSg HPr HBx
 obtain⟨ax,cx,x0,x1,x2,x3,hX0⟩:=HE2.out.get rfl ha0
 have HA3:=Lib.hid (HA2.out ha0 ax cx w2 (Below.refl _ _) hX0)
 generalize (args[0]'ha0)=ex at x0 x1 x2 x3 HA3
 obtain⟨xop,xn,xs,xa⟩:=ex
 simp only[Ex.op_mk,Ex.n_mk,Ex.name_mk,Ex.args_mk,Nat.zero_mul,Nat.add_zero] at x0 x1 x2 x3 HA3
 generalize xa.length=xk at x3 HA3
 have q1:¬ 9223372036854775807 < s0.size+10:=by omega
 clear hX0 HA2
 go_wp2_with fail
 refine HA3.out.mono ?_
 rintro e w3 ⟨rfl,hb3⟩
 have HB3:=Lib.hid hb3
 clear hb3 x0 x1 x2 x3
 have c3:=(keeps_of_below HB3.out) _ _ b3
 go_wp2_with fail
 rw[← HI0.out]
 go_loopw [6,5] (fun i v wr=>∃ (p j:Nat),i=.int .i64 p∧v=.string (IP j)∧Hid (p=1+2 * j)∧j≤K∧Hid (Below w2.heap.size w2 wr)) (fun i _ _=>args.length - (intOf i).toNat)
 case atStart=>exact⟨1,0,rfl,rfl,(rfl:(1:Nat)=1+2 * 0),Nat.zero_le _,HB3⟩
 case round =>
  obtain⟨p,j,rfl,rfl,hp,hj,HB⟩:=hrel
  have HKw:=Lib.hid (keeps_of_below HB.out)
  have c3:=HKw.out _ _ b3
  have hpl:p≤args.length:=by have:=hp.out;have:=HL.out;omega
  have hzj:=HIz.out j hj
  by_cases hlt:p+1 < args.length
  ·have hlt0:p < args.length:=by omega
   have hjK:j+1≤K:=by have:=hp.out;have:=HL.out;omega
   have hzj1:=HIz.out (j+1) hjK
   obtain⟨ax,cx,x0,x1,x2,x3,hX0⟩:=HE2.out.get rfl hlt0
   obtain⟨ay,cy,y0,y1,y2,y3,hX1⟩:=HE2.out.get rfl hlt
   have HX:Hid (∀ g:Grow wr.heap.size wr,Calls Tryz.prog 177 #[.agg #[.int .i64 (args[p]'hlt0).op,.int .i64 (args[p]'hlt0).n,.string (args[p]'hlt0).name,.slice ax (args[p]'hlt0).args.length cx],.int .i64 1] g.w' fun e w''=>e=.returned (.string (T (p)))∧∃ g:Grow wr.heap.size wr,w''=g.w'):=fun g =>
    have hg:Below w2.heap.size w2 g.w':=HB.out.trans (g.h.mono HB.out.size)
    grow_callB (Nat.le_refl _) g (HT2.out (p) hlt0 ax cx g.w' hg (hX0.keep (keeps_of_below hg)))
   have HY:Hid (∀ g:Grow wr.heap.size wr,Calls Tryz.prog 177 #[.agg #[.int .i64 (args[p+1]'hlt).op,.int .i64 (args[p+1]'hlt).n,.string (args[p+1]'hlt).name,.slice ay (args[p+1]'hlt).args.length cy],.int .i64 1] g.w' fun e w''=>e=.returned (.string (T (p+1)))∧∃ g:Grow wr.heap.size wr,w''=g.w'):=fun g =>
    have hg:Below w2.heap.size w2 g.w':=HB.out.trans (g.h.mono HB.out.size)
    grow_callB (Nat.le_refl _) g (HT2.out (p+1) hlt ay cy g.w' hg (hX1.keep (keeps_of_below hg)))
   have hzx:=HTz.out p hlt0
   have hzy:=HTz.out (p+1) hlt
   have HS0:Hid (j=0→((IP j++T p)++⟨#[32,46,46,32]⟩)++T (p+1)=IP (j+1)):=fun h=>by
    have h1:=hp.out
    subst h
    have h2:p=1:=h1
    subst h2
    rw[HI0.out]
    exact HI1.out
   have HS1:Hid (1≤j→(((IP j++⟨#[44,32]⟩)++T p)++⟨#[32,46,46,32]⟩)++T (p+1)=IP (j+1)):=fun h=>by
    rw[hp.out]
    exact HIs.out j h
   have hpj:(j=0∧p=1)∨(1≤j∧1 < p):=by have:=hp.out;omega
   generalize T p=t1 at HX hzx HS0 HS1
   generalize T (p+1)=t2 at HY hzy HS0 HS1
   generalize hS2:IP (j+1)=S2 at HS0 HS1 hzj1
   have HS2:=Lib.hid hS2
   clear hS2
   generalize IP j=S1 at HS0 HS1 hzj
   generalize (args[p]'hlt0)=ex at x0 x1 x2 x3 HX
   generalize (args[p+1]'hlt)=ey at y0 y1 y2 y3 HY
   obtain⟨xop,xn,xs,xa⟩:=ex
   obtain⟨yop,yn,ys,ya⟩:=ey
   simp only[Ex.op_mk,Ex.n_mk,Ex.name_mk,Ex.args_mk] at x0 x1 x2 x3 y0 y1 y2 y3 HX HY
   generalize xa.length=xk at x3 HX
   generalize ya.length=yk at y3 HY
   have g3:∀ g:Grow wr.heap.size wr,g.w'.cell? ⟨w.heap.size,3,none⟩=some (.slice (some ⟨b,off,none⟩) args.length c):=Grow.old c3 (Nat.le_refl _)
   have gx0:∀ g:Grow wr.heap.size wr,g.w'.cell? ⟨b,off+p * 4,none⟩=some (.int .i64 xop):=Grow.old (HKw.out _ _ x0) (Nat.le_refl _)
   have gx1:∀ g:Grow wr.heap.size wr,g.w'.cell? ⟨b,off+p * 4+1,none⟩=some (.int .i64 xn):=Grow.old (HKw.out _ _ x1) (Nat.le_refl _)
   have gx2:∀ g:Grow wr.heap.size wr,g.w'.cell? ⟨b,off+p * 4+2,none⟩=some (.string xs):=Grow.old (HKw.out _ _ x2) (Nat.le_refl _)
   have gx3:∀ g:Grow wr.heap.size wr,g.w'.cell? ⟨b,off+p * 4+3,none⟩=some (.slice ax xk cx):=Grow.old (HKw.out _ _ x3) (Nat.le_refl _)
   have gy0:∀ g:Grow wr.heap.size wr,g.w'.cell? ⟨b,off+(p+1) * 4,none⟩=some (.int .i64 yop):=Grow.old (HKw.out _ _ y0) (Nat.le_refl _)
   have gy1:∀ g:Grow wr.heap.size wr,g.w'.cell? ⟨b,off+(p+1) * 4+1,none⟩=some (.int .i64 yn):=Grow.old (HKw.out _ _ y1) (Nat.le_refl _)
   have gy2:∀ g:Grow wr.heap.size wr,g.w'.cell? ⟨b,off+(p+1) * 4+2,none⟩=some (.string ys):=Grow.old (HKw.out _ _ y2) (Nat.le_refl _)
   have gy3:∀ g:Grow wr.heap.size wr,g.w'.cell? ⟨b,off+(p+1) * 4+3,none⟩=some (.slice ay yk cy):=Grow.old (HKw.out _ _ y3) (Nat.le_refl _)
   clear x0 x1 x2 x3 y0 y1 y2 y3 hX0 hX1
   have i1:IntKind.i64.wrap ((p:Int)+1)=(p:Int)+1:=IntWalk.i64_in _ (by omega)
   have i2:(0:Int)≤(p:Int)+1:=by omega
   have i3:((p:Int)+1).toNat=p+1:=by omega
   have i4:(p:Int)+1 < (args.length:Int):=by omega
   have i5:(p:Int) < (args.length:Int):=by omega
   rcases hpj with ⟨hj0,hp1⟩ | ⟨hj1,hp1⟩
   ·have hcm:decide ((1:Int) < (p:Int))=false:=decide_eq_false (by omega)
    have HSx:=Lib.hid (HS0.out hj0)
    have r1:¬ 9223372036854775807 < S1.size+t1.size:=by omega
    have r2:¬ 9223372036854775807 < S1.size+t1.size+4:=by omega
    have r3:¬ 9223372036854775807 < S1.size+t1.size+4+t2.size:=by omega
    clear HS0 HS1 hj0 hp1
    go_wp2_with fail
    (refine wp_region_grow (B:=wr.heap.size) (w0:=wr) (by kernel_rfl) (by kernel_rfl) bel ?_;(repeat (go_big_quiet_step ((first | (with_reducible exact HX.out _) | (with_reducible exact HY.out _)))));refine wpQuiet_nil ?_;intro wg hCg;have hbg:=grow_out hCg;clear hCg)
    clear g3 gx0 gx1 gx2 gx3 gy0 gy1 gy2 gy3 i1 i2 i3
    have HBg:=Lib.hid (HB.out.trans (hbg.mono HB.out.size))
    go_wp2_with fail
    rw[HSx.out]
    go_roundw
    case rel=>exact⟨p+2,j+1,by go_num,(by rw[HS2.out]),(by show p+2=1+2 * (j+1);have:=hp.out;omega),by omega,HBg⟩
    case measure=>(simp[intOf];try omega)
   ·have hcm:decide ((1:Int) < (p:Int))=true:=decide_eq_true (by omega)
    have HSx:=Lib.hid (HS1.out hj1)
    have r0:¬ 9223372036854775807 < S1.size+2:=by omega
    have r1:¬ 9223372036854775807 < S1.size+2+t1.size:=by omega
    have r2:¬ 9223372036854775807 < S1.size+2+t1.size+4:=by omega
    have r3:¬ 9223372036854775807 < S1.size+2+t1.size+4+t2.size:=by omega
    clear HS0 HS1 hp1
    go_wp2_with fail
    (refine wp_region_grow (B:=wr.heap.size) (w0:=wr) (by kernel_rfl) (by kernel_rfl) bel ?_;(repeat (go_big_quiet_step ((first | (with_reducible exact HX.out _) | (with_reducible exact HY.out _)))));refine wpQuiet_nil ?_;intro wg hCg;have hbg:=grow_out hCg;clear hCg)
    clear g3 gx0 gx1 gx2 gx3 gy0 gy1 gy2 gy3 i1 i2 i3
    have HBg:=Lib.hid (HB.out.trans (hbg.mono HB.out.size))
    go_wp2_with fail
    rw[HSx.out]
    go_roundw
    case rel=>exact⟨p+2,j+1,by go_num,(by rw[HS2.out]),(by show p+2=1+2 * (j+1);have:=hp.out;omega),by omega,HBg⟩
    case measure=>(simp[intOf];try omega)
  ·obtain rfl:j=K:=by have:=hp.out;have:=HL.out;omega
   have i1:IntKind.i64.wrap ((p:Int)+1)=(p:Int)+1:=IntWalk.i64_in _ (by omega)
   have i4:decide ((p:Int)+1 < (args.length:Int))=false:=decide_eq_false (by omega)
   have q2:¬ 9223372036854775807 < (IP j).size+2:=by omega
   have HPe:=Lib.hid (HPf.out wr HB.out)
   generalize IP j=S1 at HPe q2
   go_wp2_with fail
   first | exact HPe.out | (go_ret;exact HPe.out)
theorem joinT_mono (T:Nat→ByteArray) (j:Nat):(joinT (pairL T j)).size≤(joinT (pairL T (j+1))).size:=by
 rw[pairL_snoc,join_snoc]
 split
 ·rename_i h
  rw[h]
  exact Nat.zero_le _
 ·simp only[ByteArray.size_append]
  omega
theorem joinT_le (T:Nat→ByteArray) {j k:Nat} (h:j≤k):(joinT (pairL T j)).size≤(joinT (pairL T k)).size:=by
 induction h with
 | refl=>exact Nat.le_refl _
 | step _ ih=>exact Nat.le_trans ih (joinT_mono T _)
theorem lev_one (op:Int):¬ levS op < 1:=by
 unfold levS
 split
 ·rename_i p h
  obtain⟨m,o,l⟩:=p
  have:=(binS_level h).1
  simp only
  omega
 ·split
  ·omega
  ·split
   ·omega
   ·split<;>omega
theorem par_one (op:Int) (s:ByteArray):parS 1 op s=s:=by unfold parS;rw[if_neg (lev_one op)]
theorem bin_imp {m:ByteArray} {o l:Int} (h:binS 21=some (m,o,l)):m=⟨#[61,62]⟩∧l=2:=by
 have:binS 21=some (⟨#[61,62]⟩,21,2):=rfl
 rw[this] at h
 simp only[Option.some.injEq,Prod.mk.injEq] at h
 exact⟨h.1.symm,h.2.2.symm⟩
theorem bin_two {op:Int} {m:ByteArray} {o l:Int} (h:binS op=some (m,o,l)) (h21:op≠21):l≠2:=by
 have hm:=List.mem_of_find?_eq_some h
 have ho:=List.find?_some h
 simp only[beq_iff_eq] at ho
 simp only[opsL,List.mem_cons,Prod.mk.injEq,List.not_mem_nil,or_false] at hm
 omega
theorem plain_all {B:Nat} {w0:World} (e:Ex):TxOk e→e.nodes.length≤400→PlC B w0 e (textS e):=by
 induction e using Ex.ind with
 | _ e ih =>
  intro hok hn
  have hsz:=text_size e hok
  have hnd:=hok e (self_nodeT e)
  have hc:∀ x∈e.args,PlC B w0 x (textS x)∧(textS x).size≤549755813888:=fun x hx=>by
   have h1:=nodes_arg hx
   have h2:=text_size x (hok.arg hx)
   exact⟨ih x hx (hok.arg hx) (by omega),by omega⟩
  have hA:∀ x∈e.args,∀ need,RAtC B w0 x need (parS need x.op (textS x))∧(parS need x.op (textS x)).size≤1099511627776:=fun x hx need=>by
   obtain⟨h1,h2⟩:=hc x hx
   have h3:=parS_size need x.op (textS x)
   exact⟨rat_of h1 (by omega) need,by omega⟩
  have hsh:=hnd.shape
  cases hsh with
  | con n nm args h0 h1 =>
   rw[tS_con]
   obtain⟨k,rfl⟩:=Int.eq_ofNat_of_zero_le h0
   exact rpl_con k nm args (by omega)
  | var n nm args h=>rw[tS_var];exact rpl_varT n nm args h
  | pre op n nm x h =>
   have h1:=hA x (by simp[Ex.args_mk]) 13
   rw[tS_pre op n nm x h]
   exact rpl_pre op n nm h h1.1 h1.2
  | bin op n nm x y m o l h =>
   rw[tS_bin op n nm x y h]
   by_cases h21:op=21
   ·subst h21
    obtain⟨hm,hl⟩:=bin_imp h
    subst hm hl
    have h1:=hA x (by simp[Ex.args_mk]) 3
    have h2:=hA y (by simp[Ex.args_mk]) 2
    have:=rpl_imp n nm h1.1 h2.1 h1.2 h2.2
    have he:binT (parS (lftL 2) x.op (textS x)) ⟨#[61,62]⟩ (parS (rgtL 2) y.op (textS y))=(parS 3 x.op (textS x)++⟨#[32,61,62,32]⟩)++parS 2 y.op (textS y):=by
     show ((((parS 3 x.op (textS x))++⟨#[32]⟩)++⟨#[61,62]⟩)++⟨#[32]⟩)++parS 2 y.op (textS y)=_
     rw[show (⟨#[32,61,62,32]⟩:ByteArray)=(⟨#[32]⟩++⟨#[61,62]⟩)++⟨#[32]⟩ from rfl]
     simp only[ByteArray.append_assoc]
    rw[he]
    exact this
   ·have hl2:=bin_two h h21
    have h1:=hA x (by simp[Ex.args_mk]) l
    have h2:=hA y (by simp[Ex.args_mk]) (l+1)
    have e1:lftL l=l:=by unfold lftL;rw[if_neg hl2]
    have e2:rgtL l=l+1:=by unfold rgtL;rw[if_neg hl2]
    rw[e1,e2]
    exact rpl_bin op n nm h h21 hl2 h1.1 h2.1 h1.2 h2.2
  | ite n nm x y z =>
   have h1:=hA x (by simp[Ex.args_mk]) 2
   have h2:=hA y (by simp[Ex.args_mk]) 1
   have h3:=hA z (by simp[Ex.args_mk]) 1
   rw[tS_if]
   exact rpl_if n nm h1.1 h2.1 h3.1 h1.2 h2.2 h3.2
  | ins n nm args K h h1 h2 =>
   have hz:(inT (argT (.mk 23 n nm args) (args.map textS) 0 9) (joinT (pairL (fun i=>(args.map textS).getD i .empty) K))).size+8≤(Ex.mk 23 n nm args).nodes.length * 1073742080:=by rw[← tS_in n nm args K h];exact hsz
   unfold inT at hz
   simp only[ByteArray.size_append] at hz
   have h0:0 < args.length:=by omega
   have ha:=hA (args[0]'h0) (List.getElem_mem h0) 9
   have hae:argT (.mk 23 n nm args) (args.map textS) 0 9=parS 9 (args[0]'h0).op (textS (args[0]'h0)):=by
    unfold argT
    rw[getD_map h0,opAtK_at (e:=.mk 23 n nm args) h0]
    rfl
   rw[tS_in n nm args K h,hae]
   rw[hae] at hz
   refine rpl_in n nm args h h1 (by omega) (fun _=>ha.1) (fun i hi=>?_) (fun i hi=>?_) ha.2 (fun j hj=>Nat.le_trans (joinT_le _ hj) (by omega))
   ·rw[getD_map hi]
    have:=(hA _ (List.getElem_mem hi) 1).1
    rw[par_one] at this
    exact this
   ·rw[getD_map hi];exact(hc _ (List.getElem_mem hi)).2
  | ones n nm x =>
   have h1:=hA x (by simp[Ex.args_mk]) 1
   rw[tS_ones]
   rw[par_one] at h1
   exact rpl_ones n nm h1.1 (by omega)
end Go.Proofs.YtcplmcjbkpmhdaaGreatDoor
