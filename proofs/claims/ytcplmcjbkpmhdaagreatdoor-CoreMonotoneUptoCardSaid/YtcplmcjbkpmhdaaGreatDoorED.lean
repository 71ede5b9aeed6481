/- exprtext: text of names and numbers; Print. -/
import Derived.Test.YtcplmcjbkpmhdaaGreatDoorEC
import Derived.Test.YtcplmcjbkpmhdaaGreatDoorKB
set_option linter.unusedSimpArgs false
set_option linter.unusedVariables false
set_option linter.unnecessarySimpa false
namespace Go.Proofs.YtcplmcjbkpmhdaaGreatDoor
open Go.RowKit
attribute [local go_sem ↓] Go.wp_at_zero Go.wp_at_succ
set_option maxRecDepth 100000 in
set_option maxHeartbeats 8000000 in
theorem text_leaf {B:Nat} {w0:World} {s:ByteArray} (op n:Int) (nm:ByteArray) (args:List Ex) (h:(op=2∧∀ W,Calls Tryz.prog 175 #[.string nm] W fun e w'=>e=.returned (.string s)∧Below W.heap.size W w')∨(op=1∧s=fmtS n∧FmtC B w0 n)):TextC B w0 (.mk op n nm args) s:=by
 intro a c w hw hz hX
 have hE:=hX.2
 simp only[Ex.op_mk,Ex.n_mk,Ex.name_mk,Ex.args_mk] at hE⊢
 have hbn:binS op=none:=by rcases h with ⟨rfl,_⟩ | ⟨rfl,_⟩<;>rfl
 have hpn:preS op=.empty:=by rcases h with ⟨rfl,_⟩ | ⟨rfl,_⟩<;>rfl
 have HBy:=Lib.hid (byOp_any op (w.alloc (.cells #[.int .i64 op,.int .i64 n,.string nm,.slice a args.length c] 55)))
 have HPr:=Lib.hid (fun W=>prefix_any op W)
 rw[hpn] at HPr
 unfold ByPost binG at HBy
 rw[hbn] at HBy
 simp only[Option.getD_none,Option.isSome_none] at HBy
 have HBx:Hid (Below (w.heap.size+1) (w.alloc (.cells #[.int .i64 op,.int .i64 n,.string nm,.slice a args.length c] 55)) (w.alloc (.cells #[.int .i64 op,.int .i64 n,.string nm,.slice a args.length c] 55))):=Below.refl _ _
 have HP:Hid (∀ w',Below w.heap.size w w'→SPost s w (.returned (.string s)) w'):=fun w' h=>⟨rfl,h⟩
 generalize SPost s w=Po at HP⊢
 have HF:Hid (op=1→∀ W,Below w.heap.size w W→Calls Tryz.prog 174 #[.int .i64 n] W fun e w'=>e=.returned (.string s)∧Below W.heap.size W w'):=fun ho W hW=>by
  rcases h with ⟨h1,_⟩ | ⟨_,h2,h3⟩
  ·omega
  ·rw[h2];exact h3 W (hw.trans (hW.mono hz))
 have HV:Hid (op=2→∀ W,Calls Tryz.prog 175 #[.string nm] W fun e w'=>e=.returned (.string s)∧Below W.heap.size W w'):=fun ho W=>by
  rcases h with ⟨_,h2⟩ | ⟨h1,_⟩
  ·exact h2 W
  ·omega
 have hop:op=2∨op=1:=by rcases h with ⟨h,_⟩ | ⟨h,_⟩<;>omega
 clear h hX hE hw hbn hpn
 generalize args.length=k at *
 go_enter Tryz.func120, Tryz.ntmps120
 go_wp2_with fail
 refine HBy.out.mono ?_
 rintro e w1 ⟨rfl,hb1⟩
 have HB1:=Lib.hid (HBx.out.trans (hb1.mono (by simp)))
 have hz1:=HB1.out.size
 simp only[World.size_alloc] at hz1
 have HB2:Hid (Below (w.heap.size+1) (w.alloc (.cells #[.int .i64 op,.int .i64 n,.string nm,.slice a k c] 55)) (w1.alloc (.cells #[.string .empty,.int .i64 0,.int .i64 0] 177))):=HB1.out.alloc hz1 _
 have HBw:=Lib.hid (boxWT _ HB2.out)
 clear hb1 HBx HB1
 have b0:=box_cellT HB2.out 0
 have b1:=box_cellT HB2.out 1
 have b2:=box_cellT HB2.out 2
 have b3:=box_cellT HB2.out 3
 simp at b0 b1 b2 b3
 go_wp2_with fail
 generalize (w1.alloc (.cells #[.string .empty,.int .i64 0,.int .i64 0] 177))=W2 at HB2 HBw b0 b1 b2 b3⊢
 refine(HPr.out W2).mono ?_
 rintro e w2 ⟨rfl,rfl⟩
 rcases hop with rfl | rfl
 ·have HVa:=Lib.hid (HV.out rfl w2)
  go_wp2_with fail
  refine HVa.out.mono ?_
  rintro e w3 ⟨rfl,hb3⟩
  have HPf:=Lib.hid (HP.out w3 (HBw.out.trans (hb3.mono HBw.out.size)))
  clear hb3
  go_wp2_with fail
  first | exact HPf.out | (go_ret;exact HPf.out)
 ·have HFa:=Lib.hid (HF.out rfl w2 HBw.out)
  go_wp2_with fail
  refine HFa.out.mono ?_
  rintro e w3 ⟨rfl,hb3⟩
  have HPf:=Lib.hid (HP.out w3 (HBw.out.trans (hb3.mono HBw.out.size)))
  clear hb3
  go_wp2_with fail
  first | exact HPf.out | (go_ret;exact HPf.out)
theorem text_var {B:Nat} {w0:World} (n:Int) (nm:ByteArray) (args:List Ex) (h:Lib.indexByte nm.data.toList 91 < 0):TextC B w0 (.mk 2 n nm args) nm:=text_leaf 2 n nm args (Or.inl ⟨rfl,fun W=>(variable_any nm h W).mono fun e w' h=>⟨h.1,by rw[h.2];exact Below.refl _ _⟩⟩)
theorem text_varT {B:Nat} {w0:World} (n:Int) (nm:ByteArray) (args:List Ex) (h:Lib.indexByte nm.data.toList 91 < 0∨elemB nm.data.toList=true) (hs:nm.size≤1073741824):TextC B w0 (.mk 2 n nm args) (varT nm):=by
 rcases h with h | h
 ·rw[varT_no h];exact text_var n nm args h
 ·obtain⟨A,x,h1,hn,_⟩:=(elemB_iff _).1 h
  rw[varT_elem h1 h]
  exact text_leaf 2 n nm args (Or.inl ⟨rfl,fun W=>variableE_any nm A x h1 hn hs W⟩)
theorem text_const {B:Nat} {w0:World} (n:Int) (nm:ByteArray) (args:List Ex) (h:FmtC B w0 n):TextC B w0 (.mk 1 n nm args) (fmtS n):=text_leaf 1 n nm args (Or.inr ⟨rfl,rfl,h⟩)
def PrintC (B:Nat) (w0:World) (e:Ex) (s:ByteArray):Prop:=∀ a c W,Below B w0 W→B≤W.heap.size→ExIn W e a c→Calls Tryz.prog 66 #[.agg #[.int .i64 e.op,.int .i64 e.n,.string e.name,.slice a e.args.length c]] W (SPost s W)
set_option maxRecDepth 100000 in
set_option maxHeartbeats 4000000 in
theorem print_of {B:Nat} {w0:World} {e:Ex} {s:ByteArray} (h:TextC B w0 e s) (hv:validS e=0) (hn:e.nodes.length≤1048576) (hG:∀ W,Below B w0 W→Glob W):PrintC B w0 e s:=by
 intro a c w hw hz hX
 obtain⟨op,n,nm,args⟩:=e
 simp only[Ex.op_mk,Ex.n_mk,Ex.name_mk,Ex.args_mk]
 have hb0:Below w.heap.size w (w.alloc (.cells #[.int .i64 op,.int .i64 n,.string nm,.slice a args.length c] 55)):=(Below.refl _ _).alloc (Nat.le_refl _) _
 have HVa:=Lib.hid (valid_any op n nm args a c _ (hG _ (hw.trans (hb0.mono hz))) (hX.keep (keeps_of_below hb0)) (by omega))
 rw[hv] at HVa
 have HT:=Lib.hid (fun W (hW:Below w.heap.size w W)=>h a c W (hw.trans (hW.mono hz)) (Nat.le_trans hz hW.size) (hX.keep (keeps_of_below hW)))
 have HBx:Hid (Below (w.heap.size+1) (w.alloc (.cells #[.int .i64 op,.int .i64 n,.string nm,.slice a args.length c] 55)) (w.alloc (.cells #[.int .i64 op,.int .i64 n,.string nm,.slice a args.length c] 55))):=Below.refl _ _
 have HP:Hid (∀ w',Below w.heap.size w w'→SPost s w (.returned (.string s)) w'):=fun w' h=>⟨rfl,h⟩
 simp only[Ex.op_mk,Ex.n_mk,Ex.name_mk,Ex.args_mk] at HT
 unfold SPost at HT
 generalize SPost s w=Po at HP⊢
 clear h hX hb0 hv hn
 generalize args.length=k at *
 go_enter Tryz.func66, Tryz.ntmps66
 go_wp2_with fail
 refine HVa.out.mono ?_
 rintro e w1 ⟨rfl,hb1⟩
 have HB1:=Lib.hid (HBx.out.trans (hb1.mono (by simp)))
 have HBw:=Lib.hid (boxWT _ HB1.out)
 have b0:=box_cellT HB1.out 0
 have b1:=box_cellT HB1.out 1
 have b2:=box_cellT HB1.out 2
 have b3:=box_cellT HB1.out 3
 simp at b0 b1 b2 b3
 clear hb1
 go_wp2_with fail
 refine(HT.out w1 HBw.out).mono ?_
 rintro e w2 ⟨rfl,hb2⟩
 have HPf:=Lib.hid (HP.out w2 (HBw.out.trans (hb2.mono HBw.out.size)))
 clear hb2
 go_wp2_with fail
 first | exact HPf.out | (go_ret;exact HPf.out)
end Go.Proofs.YtcplmcjbkpmhdaaGreatDoor
