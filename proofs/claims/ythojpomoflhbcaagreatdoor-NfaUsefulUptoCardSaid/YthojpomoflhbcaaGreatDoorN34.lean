/- tseq.node. -/
import Derived.Test.YthojpomoflhbcaaGreatDoorN33
set_option linter.unusedSimpArgs false
set_option linter.unusedVariables false
set_option linter.unnecessarySimpa false
namespace Go.Proofs.YthojpomoflhbcaaGreatDoor
open Go.RowKit
attribute [local go_sem ↓] Go.wp_at_zero Go.wp_at_succ
theorem name_ne {s:ByteArray} (h:¬ s.size=0):¬ s.toList=[]:=fun e=>h (by
 have:s.toList.length=0:=by rw[e];rfl
 rwa [ByteArray.toList_eq,Array.length_toList] at this)
theorem name_mt {s:ByteArray} (h:s.size=0):s=⟨#[]⟩:=by
 have:s.data.size=0:=h
 exact ByteArray.ext (Array.eq_empty_of_size_eq_zero this)
def nodeV (op:Int) (bs wr zx nb st below:Bool) (mt:Prop) [Decidable mt] (vv:Int):Int :=
 if bs=false∨(wr=false∧zx=false)∨(op≠6∧¬ mt) then 1
 else if op=6∧nb=false then 7
 else if wr=true∧vv≠0 then vv
 else if op=6∧below=true then 13
 else if op=7∧st=true then 13
 else 0
theorem nodeT_V (s:Tq) (below:Bool):nodeT s below=nodeV s.op (shapeB s) (writtenB s.op) (zeroX s.expr) (nameB s.name.data.toList) (setIn s) below (s.name.size=0) (validS s.expr):=rfl
theorem shape_at (s:Tq) (ae:Option Addr) (ce:Nat) (a:Option Addr) (cap:Nat) (w:World):∀ W,Below w.heap.size w W→Calls Tryz.prog 197 #[tqVal s ae ce a cap] W fun e w'=>e=.returned (.bool (shapeB s))∧Below W.heap.size W w':=fun W hW=>by
 first
  | exact shape_any s ae ce a cap W
  | exact zero_any s.expr ae ce W
theorem zero_at (s:Tq) (ae:Option Addr) (ce:Nat) (a:Option Addr) (cap:Nat) (w:World):∀ W,Below w.heap.size w W→Calls Tryz.prog 199 #[exVal s.expr ae ce] W fun e w'=>e=.returned (.bool (zeroX s.expr))∧Below W.heap.size W w':=fun W hW=>by
 first
  | exact shape_any s ae ce a cap W
  | exact zero_any s.expr ae ce W
set_option maxHeartbeats 16000000 in
set_option maxRecDepth 100000 in
theorem tnode_any (s:Tq) (below:Bool) (p:Nat→Bool) (ae:Option Addr) (ce:Nat) (a:Option Addr) (cap:Nat) (w:World) (hX:TqIn (World.hide w p) s ae ce a cap) (hp:∀ j,p j=true→j < w.heap.size) (hn:s.nodes≤1000000000) (hxn:s.expr.nodes.length≤1000000000) (hG:Glob w) :
  Calls Tryz.prog 135 #[tqVal s ae ce a cap,.bool below] w fun e w'=>e=.returned (.int .i64 (nodeT s below))∧Below w.heap.size w w':=by
 have HSh:=Lib.hid (shape_at s ae ce a cap w)
 have HZ:=Lib.hid (zero_at s ae ce a cap w)
 have HIs:=Lib.hid fun W (hW:Below w.heap.size w W)=>isName_any s.name W hX.nm (hG.below hW)
 have hEx:ExIn w s.expr ae ce:=hX.ex.keep hide_cell
 have HVa:=Lib.hid fun W (hW:Below w.heap.size w W)=>valid_ex s.expr ae ce W (hG.below hW) (hEx.keep (keeps_of_below hW)) hxn
 have HWr:Hid (∀ W,Below w.heap.size w W→Calls Tryz.prog 198 #[.int .i64 s.op] W fun e w'=>e=.returned (.bool (writtenB s.op))∧Below W.heap.size W w'):=fun W hW=>(written_any s.op W).mono fun e w' h=>⟨h.1,by rw[h.2];exact Below.refl _ _⟩
 have HNm:Hid (∀ W,Below w.heap.size w W→Calls Tryz.prog 160 #[.agg #[.int .i64 s.expr.op,.int .i64 s.expr.n,.string s.expr.name,.slice ae s.expr.args.length ce]] W fun e w'=>(∃ a' c',e=.returned (.slice a' (namesS [2] s.expr).length c')∧StrsIn w' (namesS [2] s.expr) a' c')∧Below W.heap.size W w'):=fun W hW=>by
  have h2:=hEx.keep (keeps_of_below hW)
  have h3:=hxn
  generalize s.expr=x at h2 h3
  obtain⟨op,n,nm,args⟩:=x
  exact Names_any op n nm args ae ce W h2 (by omega)
 have HSet:Hid (∀ (h7:s.op=7),shapeB s=true→s.args.length=1):=fun h7 hb=>by
  rcases shapeB_true hb with h | h | h | ⟨h | h,_⟩ | ⟨_,h,_⟩
  ·omega
  ·omega
  ·omega
  ·omega
  ·omega
  ·exact h
 have HSI:Hid (∀ y r,s.args=y::r→setIn s=(namesS [2] s.expr).any fun nm=>Lib.containsS (setNm y) nm):=fun y r h=>by
  unfold setIn;rw[h]
 have HX:=Lib.hid hX
 have Hp:=Lib.hid hp
 have HN:=Lib.hid hn
 have hlen:=hX.ar.2.1
 have hwr:writtenB s.op=(s.op == 1 || s.op == 6 || s.op == 7):=rfl
 rw[nodeT_V,tqVal_eqF]
 rw[tqVal_eqF] at HSh
 unfold exVal at HZ HVa
 obtain⟨R,HR⟩:∃ R,Hid (nodeV s.op (shapeB s) (writtenB s.op) (zeroX s.expr) (nameB s.name.data.toList) (setIn s) below (s.name.size=0) (validS s.expr)=R):=⟨_,rfl⟩
 rw[HR.out]
 unfold nodeV at HR
 have HXA:Hid (s.args.length=0∨∃ b off,a=some ⟨b,off,none⟩):=SliceIn.addr hX.ar
 clear hX hp hn hxn hG hEx
 go_enter Tryz.func135, Tryz.ntmps135
 go_upto_region 1 with fail
 generalize hBx:World.alloc w _=Bx
 have HB0:Hid (Below w.heap.size w Bx):=by show Below _ _ _;rw[← hBx];exact(Below.refl _ _).alloc (Nat.le_refl _) _
 have hzB:=HB0.out.size
 have HC:Hid (∀ W,Below Bx.heap.size Bx W→W.cell? ⟨w.heap.size,0,none⟩=some (.int .i64 s.op)∧W.cell? ⟨w.heap.size,1,none⟩=some (.int .i64 s.lo)∧W.cell? ⟨w.heap.size,2,none⟩=some (.int .i64 s.hi)∧W.cell? ⟨w.heap.size,3,none⟩=some (.int .i64 s.expr.op)∧W.cell? ⟨w.heap.size,4,none⟩=some (.int .i64 s.expr.n)∧W.cell? ⟨w.heap.size,5,none⟩=some (.string s.expr.name)∧W.cell? ⟨w.heap.size,6,none⟩=some (.slice ae s.expr.args.length ce)∧W.cell? ⟨w.heap.size,7,none⟩=some (.string s.name)∧W.cell? ⟨w.heap.size,8,none⟩=some (.slice a s.args.length cap)):=fun W hW=>by
  have h0:Bx.heap[w.heap.size]? = some (tqBoxF s ae ce a cap):=by rw[← hBx];exact hx_newT rfl
  exact cell9TF ((hW.block _ (lt_of_block h0)).trans h0)
 clear hBx
 have HT:Hid (∀ (f:FuncId) (args:Array Value) (v:Value),(∀ W,Below w.heap.size w W→Calls Tryz.prog f args W fun e w'=>e=.returned v∧Below W.heap.size W w')→∀ W,Below Bx.heap.size Bx W→Calls Tryz.prog f args W fun e w'=>e=.returned v∧Below Bx.heap.size Bx w'):=fun f args v h W hW=>(h W (HB0.out.trans (hW.mono hzB))).mono fun e w' hq=>⟨hq.1,hW.trans (hq.2.mono hW.size)⟩
 replace HSh:=Lib.hid (HT.out _ _ _ HSh.out)
 replace HZ:=Lib.hid (HT.out _ _ _ HZ.out)
 replace HIs:=Lib.hid (HT.out _ _ _ HIs.out)
 replace HVa:=Lib.hid (HT.out _ _ _ HVa.out)
 replace HWr:=Lib.hid (HT.out _ _ _ HWr.out)
 clear HT
 have hbx:=Below.refl Bx.heap.size Bx
 obtain⟨b0,b1,b2,b3,b4,b5,b6,b7,b8⟩:=HC.out _ hbx
 clear hbx
 generalize zeroX s.expr=zx at HZ HR
 generalize nameB s.name.data.toList=nb at HIs HR
 generalize validS s.expr=vv at HVa HR
 generalize shapeB s=bs at HSh HR HSet
 generalize hst:setIn s=st at HR HSI
 clear hst
 cases bs with
 | false =>
  obtain rfl:R=1:=by rw[← HR.out];simp[]
  go_wp2_with (first | (go_at_call 197;go_must (refine(HSh.out _ (by first | exact hb1 | exact Below.refl _ _)).mono ?_;rintro e w1 ⟨rfl,hb1⟩;(try clear b0 b1 b2 b3 b4 b5 b6 b7 b8);obtain⟨b0,b1,b2,b3,b4,b5,b6,b7,b8⟩:=HC.out _ hb1)) | (go_at_call 198;go_must (refine(HWr.out _ (by first | exact hb1 | exact Below.refl _ _)).mono ?_;rintro e w1 ⟨rfl,hb1⟩;(try clear b0 b1 b2 b3 b4 b5 b6 b7 b8);obtain⟨b0,b1,b2,b3,b4,b5,b6,b7,b8⟩:=HC.out _ hb1)) | (go_at_call 199;go_must (refine(HZ.out _ (by first | exact hb1 | exact Below.refl _ _)).mono ?_;rintro e w1 ⟨rfl,hb1⟩;(try clear b0 b1 b2 b3 b4 b5 b6 b7 b8);obtain⟨b0,b1,b2,b3,b4,b5,b6,b7,b8⟩:=HC.out _ hb1)) | (go_at_call 122;go_must (refine(HIs.out _ (by first | exact hb1 | exact Below.refl _ _)).mono ?_;rintro e w1 ⟨rfl,hb1⟩;(try clear b0 b1 b2 b3 b4 b5 b6 b7 b8);obtain⟨b0,b1,b2,b3,b4,b5,b6,b7,b8⟩:=HC.out _ hb1)) | (go_at_call 121;go_must (refine(HVa.out _ (by first | exact hb1 | exact Below.refl _ _)).mono ?_;rintro e w1 ⟨rfl,hb1⟩;(try clear b0 b1 b2 b3 b4 b5 b6 b7 b8);obtain⟨b0,b1,b2,b3,b4,b5,b6,b7,b8⟩:=HC.out _ hb1)))
  go_ret
  exact⟨rfl,HB0.out.trans (hb1.mono hzB)⟩
 | true =>
  have hopc:s.op=1∨s.op=6∨s.op=7∨(¬ s.op=1∧¬ s.op=6∧¬ s.op=7):=by omega
  rcases hopc with h | h | h | ⟨n1,n6,n7⟩
  ·have hw:writtenB s.op=true:=by rw[h];rfl
   rw[hw] at HWr HR
   rw[h] at HC HWr HR b0 HSh
   clear HSet hw hwr HSI h
   by_cases hm:s.name.size=0
   ·have he:=name_mt hm
    rw[he] at HC b7 HSh
    have HM:=Lib.hid hm
    clear hm
    by_cases hv:vv=0
    ·subst hv
     obtain rfl:R=0:=by rw[← HR.out];simp[HM.out]
     go_wp2_with (first | (go_at_call 197;go_must (refine(HSh.out _ (by first | exact hb1 | exact Below.refl _ _)).mono ?_;rintro e w1 ⟨rfl,hb1⟩;(try clear b0 b1 b2 b3 b4 b5 b6 b7 b8);obtain⟨b0,b1,b2,b3,b4,b5,b6,b7,b8⟩:=HC.out _ hb1)) | (go_at_call 198;go_must (refine(HWr.out _ (by first | exact hb1 | exact Below.refl _ _)).mono ?_;rintro e w1 ⟨rfl,hb1⟩;(try clear b0 b1 b2 b3 b4 b5 b6 b7 b8);obtain⟨b0,b1,b2,b3,b4,b5,b6,b7,b8⟩:=HC.out _ hb1)) | (go_at_call 199;go_must (refine(HZ.out _ (by first | exact hb1 | exact Below.refl _ _)).mono ?_;rintro e w1 ⟨rfl,hb1⟩;(try clear b0 b1 b2 b3 b4 b5 b6 b7 b8);obtain⟨b0,b1,b2,b3,b4,b5,b6,b7,b8⟩:=HC.out _ hb1)) | (go_at_call 122;go_must (refine(HIs.out _ (by first | exact hb1 | exact Below.refl _ _)).mono ?_;rintro e w1 ⟨rfl,hb1⟩;(try clear b0 b1 b2 b3 b4 b5 b6 b7 b8);obtain⟨b0,b1,b2,b3,b4,b5,b6,b7,b8⟩:=HC.out _ hb1)) | (go_at_call 121;go_must (refine(HVa.out _ (by first | exact hb1 | exact Below.refl _ _)).mono ?_;rintro e w1 ⟨rfl,hb1⟩;(try clear b0 b1 b2 b3 b4 b5 b6 b7 b8);obtain⟨b0,b1,b2,b3,b4,b5,b6,b7,b8⟩:=HC.out _ hb1)))
     go_ret
     exact⟨rfl,HB0.out.trans (hb1.mono hzB)⟩
    ·have hvb:(vv == 0)=false:=by simp[hv]
     obtain rfl:R=vv:=by rw[← HR.out];simp[HM.out,hv]
     go_wp2_with (first | (go_at_call 197;go_must (refine(HSh.out _ (by first | exact hb1 | exact Below.refl _ _)).mono ?_;rintro e w1 ⟨rfl,hb1⟩;(try clear b0 b1 b2 b3 b4 b5 b6 b7 b8);obtain⟨b0,b1,b2,b3,b4,b5,b6,b7,b8⟩:=HC.out _ hb1)) | (go_at_call 198;go_must (refine(HWr.out _ (by first | exact hb1 | exact Below.refl _ _)).mono ?_;rintro e w1 ⟨rfl,hb1⟩;(try clear b0 b1 b2 b3 b4 b5 b6 b7 b8);obtain⟨b0,b1,b2,b3,b4,b5,b6,b7,b8⟩:=HC.out _ hb1)) | (go_at_call 199;go_must (refine(HZ.out _ (by first | exact hb1 | exact Below.refl _ _)).mono ?_;rintro e w1 ⟨rfl,hb1⟩;(try clear b0 b1 b2 b3 b4 b5 b6 b7 b8);obtain⟨b0,b1,b2,b3,b4,b5,b6,b7,b8⟩:=HC.out _ hb1)) | (go_at_call 122;go_must (refine(HIs.out _ (by first | exact hb1 | exact Below.refl _ _)).mono ?_;rintro e w1 ⟨rfl,hb1⟩;(try clear b0 b1 b2 b3 b4 b5 b6 b7 b8);obtain⟨b0,b1,b2,b3,b4,b5,b6,b7,b8⟩:=HC.out _ hb1)) | (go_at_call 121;go_must (refine(HVa.out _ (by first | exact hb1 | exact Below.refl _ _)).mono ?_;rintro e w1 ⟨rfl,hb1⟩;(try clear b0 b1 b2 b3 b4 b5 b6 b7 b8);obtain⟨b0,b1,b2,b3,b4,b5,b6,b7,b8⟩:=HC.out _ hb1)))
     go_ret
     exact⟨rfl,HB0.out.trans (hb1.mono hzB)⟩
   ·have he:=name_ne hm
    have he2:(s.name.toList == [])=false:=by simpa using he
    have he3:(s.name.toList != [])=true:=by simpa using he
    have he4:s.name.toList.isEmpty=false:=by simpa using he
    have HM:=Lib.hid hm
    clear hm
    obtain rfl:R=1:=by rw[← HR.out];simp[HM.out]
    go_wp2_with (first | (go_at_call 197;go_must (refine(HSh.out _ (by first | exact hb1 | exact Below.refl _ _)).mono ?_;rintro e w1 ⟨rfl,hb1⟩;(try clear b0 b1 b2 b3 b4 b5 b6 b7 b8);obtain⟨b0,b1,b2,b3,b4,b5,b6,b7,b8⟩:=HC.out _ hb1)) | (go_at_call 198;go_must (refine(HWr.out _ (by first | exact hb1 | exact Below.refl _ _)).mono ?_;rintro e w1 ⟨rfl,hb1⟩;(try clear b0 b1 b2 b3 b4 b5 b6 b7 b8);obtain⟨b0,b1,b2,b3,b4,b5,b6,b7,b8⟩:=HC.out _ hb1)) | (go_at_call 199;go_must (refine(HZ.out _ (by first | exact hb1 | exact Below.refl _ _)).mono ?_;rintro e w1 ⟨rfl,hb1⟩;(try clear b0 b1 b2 b3 b4 b5 b6 b7 b8);obtain⟨b0,b1,b2,b3,b4,b5,b6,b7,b8⟩:=HC.out _ hb1)) | (go_at_call 122;go_must (refine(HIs.out _ (by first | exact hb1 | exact Below.refl _ _)).mono ?_;rintro e w1 ⟨rfl,hb1⟩;(try clear b0 b1 b2 b3 b4 b5 b6 b7 b8);obtain⟨b0,b1,b2,b3,b4,b5,b6,b7,b8⟩:=HC.out _ hb1)) | (go_at_call 121;go_must (refine(HVa.out _ (by first | exact hb1 | exact Below.refl _ _)).mono ?_;rintro e w1 ⟨rfl,hb1⟩;(try clear b0 b1 b2 b3 b4 b5 b6 b7 b8);obtain⟨b0,b1,b2,b3,b4,b5,b6,b7,b8⟩:=HC.out _ hb1)))
    go_ret
    exact⟨rfl,HB0.out.trans (hb1.mono hzB)⟩
  ·have hw:writtenB s.op=true:=by rw[h];rfl
   rw[hw] at HWr HR
   rw[h] at HC HWr HR b0 HSh
   clear HSet hw hwr HSI h
   cases nb with
   | false =>
    obtain rfl:R=7:=by rw[← HR.out];simp[]
    go_wp2_with (first | (go_at_call 197;go_must (refine(HSh.out _ (by first | exact hb1 | exact Below.refl _ _)).mono ?_;rintro e w1 ⟨rfl,hb1⟩;(try clear b0 b1 b2 b3 b4 b5 b6 b7 b8);obtain⟨b0,b1,b2,b3,b4,b5,b6,b7,b8⟩:=HC.out _ hb1)) | (go_at_call 198;go_must (refine(HWr.out _ (by first | exact hb1 | exact Below.refl _ _)).mono ?_;rintro e w1 ⟨rfl,hb1⟩;(try clear b0 b1 b2 b3 b4 b5 b6 b7 b8);obtain⟨b0,b1,b2,b3,b4,b5,b6,b7,b8⟩:=HC.out _ hb1)) | (go_at_call 199;go_must (refine(HZ.out _ (by first | exact hb1 | exact Below.refl _ _)).mono ?_;rintro e w1 ⟨rfl,hb1⟩;(try clear b0 b1 b2 b3 b4 b5 b6 b7 b8);obtain⟨b0,b1,b2,b3,b4,b5,b6,b7,b8⟩:=HC.out _ hb1)) | (go_at_call 122;go_must (refine(HIs.out _ (by first | exact hb1 | exact Below.refl _ _)).mono ?_;rintro e w1 ⟨rfl,hb1⟩;(try clear b0 b1 b2 b3 b4 b5 b6 b7 b8);obtain⟨b0,b1,b2,b3,b4,b5,b6,b7,b8⟩:=HC.out _ hb1)) | (go_at_call 121;go_must (refine(HVa.out _ (by first | exact hb1 | exact Below.refl _ _)).mono ?_;rintro e w1 ⟨rfl,hb1⟩;(try clear b0 b1 b2 b3 b4 b5 b6 b7 b8);obtain⟨b0,b1,b2,b3,b4,b5,b6,b7,b8⟩:=HC.out _ hb1)))
    go_ret
    exact⟨rfl,HB0.out.trans (hb1.mono hzB)⟩
   | true =>
    by_cases hv:vv=0
    ·subst hv
     cases below with
     | true =>
      obtain rfl:R=13:=by rw[← HR.out];simp[]
      go_wp2_with (first | (go_at_call 197;go_must (refine(HSh.out _ (by first | exact hb1 | exact Below.refl _ _)).mono ?_;rintro e w1 ⟨rfl,hb1⟩;(try clear b0 b1 b2 b3 b4 b5 b6 b7 b8);obtain⟨b0,b1,b2,b3,b4,b5,b6,b7,b8⟩:=HC.out _ hb1)) | (go_at_call 198;go_must (refine(HWr.out _ (by first | exact hb1 | exact Below.refl _ _)).mono ?_;rintro e w1 ⟨rfl,hb1⟩;(try clear b0 b1 b2 b3 b4 b5 b6 b7 b8);obtain⟨b0,b1,b2,b3,b4,b5,b6,b7,b8⟩:=HC.out _ hb1)) | (go_at_call 199;go_must (refine(HZ.out _ (by first | exact hb1 | exact Below.refl _ _)).mono ?_;rintro e w1 ⟨rfl,hb1⟩;(try clear b0 b1 b2 b3 b4 b5 b6 b7 b8);obtain⟨b0,b1,b2,b3,b4,b5,b6,b7,b8⟩:=HC.out _ hb1)) | (go_at_call 122;go_must (refine(HIs.out _ (by first | exact hb1 | exact Below.refl _ _)).mono ?_;rintro e w1 ⟨rfl,hb1⟩;(try clear b0 b1 b2 b3 b4 b5 b6 b7 b8);obtain⟨b0,b1,b2,b3,b4,b5,b6,b7,b8⟩:=HC.out _ hb1)) | (go_at_call 121;go_must (refine(HVa.out _ (by first | exact hb1 | exact Below.refl _ _)).mono ?_;rintro e w1 ⟨rfl,hb1⟩;(try clear b0 b1 b2 b3 b4 b5 b6 b7 b8);obtain⟨b0,b1,b2,b3,b4,b5,b6,b7,b8⟩:=HC.out _ hb1)))
      go_ret
      exact⟨rfl,HB0.out.trans (hb1.mono hzB)⟩
     | false =>
      obtain rfl:R=0:=by rw[← HR.out];simp[]
      go_wp2_with (first | (go_at_call 197;go_must (refine(HSh.out _ (by first | exact hb1 | exact Below.refl _ _)).mono ?_;rintro e w1 ⟨rfl,hb1⟩;(try clear b0 b1 b2 b3 b4 b5 b6 b7 b8);obtain⟨b0,b1,b2,b3,b4,b5,b6,b7,b8⟩:=HC.out _ hb1)) | (go_at_call 198;go_must (refine(HWr.out _ (by first | exact hb1 | exact Below.refl _ _)).mono ?_;rintro e w1 ⟨rfl,hb1⟩;(try clear b0 b1 b2 b3 b4 b5 b6 b7 b8);obtain⟨b0,b1,b2,b3,b4,b5,b6,b7,b8⟩:=HC.out _ hb1)) | (go_at_call 199;go_must (refine(HZ.out _ (by first | exact hb1 | exact Below.refl _ _)).mono ?_;rintro e w1 ⟨rfl,hb1⟩;(try clear b0 b1 b2 b3 b4 b5 b6 b7 b8);obtain⟨b0,b1,b2,b3,b4,b5,b6,b7,b8⟩:=HC.out _ hb1)) | (go_at_call 122;go_must (refine(HIs.out _ (by first | exact hb1 | exact Below.refl _ _)).mono ?_;rintro e w1 ⟨rfl,hb1⟩;(try clear b0 b1 b2 b3 b4 b5 b6 b7 b8);obtain⟨b0,b1,b2,b3,b4,b5,b6,b7,b8⟩:=HC.out _ hb1)) | (go_at_call 121;go_must (refine(HVa.out _ (by first | exact hb1 | exact Below.refl _ _)).mono ?_;rintro e w1 ⟨rfl,hb1⟩;(try clear b0 b1 b2 b3 b4 b5 b6 b7 b8);obtain⟨b0,b1,b2,b3,b4,b5,b6,b7,b8⟩:=HC.out _ hb1)))
      go_ret
      exact⟨rfl,HB0.out.trans (hb1.mono hzB)⟩
    ·have hvb:(vv == 0)=false:=by simp[hv]
     obtain rfl:R=vv:=by rw[← HR.out];simp[hv]
     go_wp2_with (first | (go_at_call 197;go_must (refine(HSh.out _ (by first | exact hb1 | exact Below.refl _ _)).mono ?_;rintro e w1 ⟨rfl,hb1⟩;(try clear b0 b1 b2 b3 b4 b5 b6 b7 b8);obtain⟨b0,b1,b2,b3,b4,b5,b6,b7,b8⟩:=HC.out _ hb1)) | (go_at_call 198;go_must (refine(HWr.out _ (by first | exact hb1 | exact Below.refl _ _)).mono ?_;rintro e w1 ⟨rfl,hb1⟩;(try clear b0 b1 b2 b3 b4 b5 b6 b7 b8);obtain⟨b0,b1,b2,b3,b4,b5,b6,b7,b8⟩:=HC.out _ hb1)) | (go_at_call 199;go_must (refine(HZ.out _ (by first | exact hb1 | exact Below.refl _ _)).mono ?_;rintro e w1 ⟨rfl,hb1⟩;(try clear b0 b1 b2 b3 b4 b5 b6 b7 b8);obtain⟨b0,b1,b2,b3,b4,b5,b6,b7,b8⟩:=HC.out _ hb1)) | (go_at_call 122;go_must (refine(HIs.out _ (by first | exact hb1 | exact Below.refl _ _)).mono ?_;rintro e w1 ⟨rfl,hb1⟩;(try clear b0 b1 b2 b3 b4 b5 b6 b7 b8);obtain⟨b0,b1,b2,b3,b4,b5,b6,b7,b8⟩:=HC.out _ hb1)) | (go_at_call 121;go_must (refine(HVa.out _ (by first | exact hb1 | exact Below.refl _ _)).mono ?_;rintro e w1 ⟨rfl,hb1⟩;(try clear b0 b1 b2 b3 b4 b5 b6 b7 b8);obtain⟨b0,b1,b2,b3,b4,b5,b6,b7,b8⟩:=HC.out _ hb1)))
     go_ret
     exact⟨rfl,HB0.out.trans (hb1.mono hzB)⟩
  ·have hw:writtenB s.op=true:=by rw[h];rfl
   have h1:s.args.length=1:=HSet.out h rfl
   obtain⟨y,hy⟩:∃ y,s.args=[y]:=by
    match hs:s.args,h1 with
    | [y],_=>exact⟨y,rfl⟩
   have HST:=Lib.hid (HSI.out y [] hy)
   have HY:=Lib.hid hy
   have hN0:0 < s.args.length:=by omega
   have hN0i:(0:Int) < (s.args.length:Int):=by omega
   clear h1 hy
   rw[hw] at HWr HR
   rw[h] at HC HWr HR b0 HSh
   clear HSet hw hwr HSI h
   by_cases hm:s.name.size=0
   ·have he:=name_mt hm
    rw[he] at HC b7 HSh
    have HM:=Lib.hid hm
    clear hm
    by_cases hv:vv=0
    ·subst hv
     go_upto_region 12 with (first | (go_at_call 197;go_must (refine(HSh.out _ (by first | exact hb1 | exact Below.refl _ _)).mono ?_;rintro e w1 ⟨rfl,hb1⟩;(try clear b0 b1 b2 b3 b4 b5 b6 b7 b8);obtain⟨b0,b1,b2,b3,b4,b5,b6,b7,b8⟩:=HC.out _ hb1)) | (go_at_call 198;go_must (refine(HWr.out _ (by first | exact hb1 | exact Below.refl _ _)).mono ?_;rintro e w1 ⟨rfl,hb1⟩;(try clear b0 b1 b2 b3 b4 b5 b6 b7 b8);obtain⟨b0,b1,b2,b3,b4,b5,b6,b7,b8⟩:=HC.out _ hb1)) | (go_at_call 199;go_must (refine(HZ.out _ (by first | exact hb1 | exact Below.refl _ _)).mono ?_;rintro e w1 ⟨rfl,hb1⟩;(try clear b0 b1 b2 b3 b4 b5 b6 b7 b8);obtain⟨b0,b1,b2,b3,b4,b5,b6,b7,b8⟩:=HC.out _ hb1)) | (go_at_call 122;go_must (refine(HIs.out _ (by first | exact hb1 | exact Below.refl _ _)).mono ?_;rintro e w1 ⟨rfl,hb1⟩;(try clear b0 b1 b2 b3 b4 b5 b6 b7 b8);obtain⟨b0,b1,b2,b3,b4,b5,b6,b7,b8⟩:=HC.out _ hb1)) | (go_at_call 121;go_must (refine(HVa.out _ (by first | exact hb1 | exact Below.refl _ _)).mono ?_;rintro e w1 ⟨rfl,hb1⟩;(try clear b0 b1 b2 b3 b4 b5 b6 b7 b8);obtain⟨b0,b1,b2,b3,b4,b5,b6,b7,b8⟩:=HC.out _ hb1)))
     obtain⟨bE,oE,hEa⟩:=HXA.out.resolve_left (by omega)
     subst hEa
     have HBw:Hid (Below w.heap.size w w1):=HB0.out.trans (hb1.mono hzB)
     have hHX:=TqsIn.keep (w':=World.hide w1 p) (hide_below HBw.out fun _ _ h=>h) HX.out.ar
     obtain⟨xe,xc,xa,xk,gc,hXy⟩:=hHX.get rfl hN0
     have hy0:s.args[0]=y:=by have:=HY.out;simp[this]
     have hyn:y.nodes≤1000000000:=by
      have:=tq_nodes_arg (s:=s) (x:=y) (by rw[HY.out];exact List.mem_singleton.2 rfl)
      have:=HN.out
      omega
     rw[hy0] at gc hXy
     obtain⟨g0,g1,g2,g3,g4,g5,g6,g7,g8⟩:=cell9F gc
     rw[Nat.zero_mul,Nat.add_zero] at g0 g1 g2 g3 g4 g5 g6 g7 g8
     have f0:=hide_cell _ _ g0
     have f1:=hide_cell _ _ g1
     have f2:=hide_cell _ _ g2
     have f3:=hide_cell _ _ g3
     have f4:=hide_cell _ _ g4
     have f5:=hide_cell _ _ g5
     have f6:=hide_cell _ _ g6
     have f7:=hide_cell _ _ g7
     have f8:=hide_cell _ _ g8
     have HNs:=Lib.hid (tqnames_any y p xe xc xa xk w1 hXy (fun j hj=>by have:=Hp.out j hj;have:=HBw.out.size;omega) hyn)
     rw[tqVal_eqF] at HNs
     clear gc g0 g1 g2 g3 g4 g5 g6 g7 g8 hXy hHX hy0 hyn
     go_upto_region 13 with (go_at_call 200;go_must (refine HNs.out.mono ?_;rintro e w2 ⟨sa,sc,rfl,hs2,hb2⟩))
     generalize hW3:World.alloc w2 _=W3
     have hc3:W3.cell? ⟨w2.heap.size,0,none⟩=some (.slice sa (setNm y).length sc):=by rw[← hW3];simp
     have hB23:Below w2.heap.size w2 W3:=by rw[← hW3];exact(Below.refl _ _).alloc (Nat.le_refl _) _
     have hB3:Below w1.heap.size w1 W3:=hb2.trans (hB23.mono hb2.size)
     have HS3:Hid (StrsIn W3 (setNm y) sa sc):=hs2.keep (keeps_of_below hB23)
     have HBx3:Hid (Below Bx.heap.size Bx W3):=hb1.trans (hB3.mono hb1.size)
     have HN3:=Lib.hid (HNm.out W3 (HB0.out.trans (HBx3.out.mono hzB)))
     have eg:∀ args w,(callFunc 202 args).run Tryz.prog w=.ok (.enter 202 args) w:=enters_of Tryz.func202 (by kernel_rfl) rfl
     have HC3:=Lib.hid hc3
     have HCF:Hid (∀ W a' c',Below W3.heap.size W3 W→StrsIn W (namesS [2] s.expr) a' c'→Calls Tryz.prog 201 #[.slice a' (namesS [2] s.expr).length c',.func (.func 202) #[] #[.pointer (some ⟨w2.heap.size,0,none⟩)]] W fun e w'=>e=.returned (.bool st)∧Below W.heap.size W w'):=fun W a' c' hW hs=>by
      rw[HST.out]
      exact containsFS_any _ eg _ _ _ (node1_any w2.heap.size (setNm y) sa sc) (fun W1 W2 h h2=>⟨keeps_of_below h2 _ _ h.1,h.2.keep (keeps_of_below h2)⟩) _ a' c' W hs ⟨keeps_of_below hW _ _ HC3.out,HS3.out.keep (keeps_of_below hW)⟩
     clear b0 b1 b2 b3 b4 b5 b6 b7 b8
     obtain⟨b0,b1,b2,b3,b4,b5,b6,b7,b8⟩:=HC.out _ HBx3.out
     have hz3:=HBx3.out.size
     clear hW3 hc3 hB23 hB3 hs2 hb2 eg f0 f1 f2 f3 f4 f5 f6 f7 f8
     have HR0:Hid (R=if st=true then 13 else 0):=by show _=_;rw[← HR.out];simp[HM.out]
     go_wp2_with (go_at_call 160;go_must (refine HN3.out.mono ?_;rintro e w4 ⟨⟨na,nc,rfl,hs4⟩,hb4⟩))
     have HB4:=Lib.hid hb4
     have hz4:=hb4.size
     refine(HCF.out _ _ _ hb4 hs4).mono ?_
     rintro e w5 ⟨rfl,hb5⟩
     have HB5:Hid (Below w.heap.size w w5):=HB0.out.trans ((HBx3.out.trans ((HB4.out.trans (hb5.mono hz4)).mono hz3)).mono hzB)
     clear hb4 hs4 hb5
     cases st with
     | true =>
      obtain rfl:R=13:=by rw[HR0.out];rfl
      go_wp2_with fail
      go_ret
      exact⟨rfl,HB5.out⟩
     | false =>
      obtain rfl:R=0:=by rw[HR0.out];rfl
      go_wp2_with fail
      go_ret
      exact⟨rfl,HB5.out⟩
    ·have hvb:(vv == 0)=false:=by simp[hv]
     obtain rfl:R=vv:=by rw[← HR.out];simp[HM.out,hv]
     go_wp2_with (first | (go_at_call 197;go_must (refine(HSh.out _ (by first | exact hb1 | exact Below.refl _ _)).mono ?_;rintro e w1 ⟨rfl,hb1⟩;(try clear b0 b1 b2 b3 b4 b5 b6 b7 b8);obtain⟨b0,b1,b2,b3,b4,b5,b6,b7,b8⟩:=HC.out _ hb1)) | (go_at_call 198;go_must (refine(HWr.out _ (by first | exact hb1 | exact Below.refl _ _)).mono ?_;rintro e w1 ⟨rfl,hb1⟩;(try clear b0 b1 b2 b3 b4 b5 b6 b7 b8);obtain⟨b0,b1,b2,b3,b4,b5,b6,b7,b8⟩:=HC.out _ hb1)) | (go_at_call 199;go_must (refine(HZ.out _ (by first | exact hb1 | exact Below.refl _ _)).mono ?_;rintro e w1 ⟨rfl,hb1⟩;(try clear b0 b1 b2 b3 b4 b5 b6 b7 b8);obtain⟨b0,b1,b2,b3,b4,b5,b6,b7,b8⟩:=HC.out _ hb1)) | (go_at_call 122;go_must (refine(HIs.out _ (by first | exact hb1 | exact Below.refl _ _)).mono ?_;rintro e w1 ⟨rfl,hb1⟩;(try clear b0 b1 b2 b3 b4 b5 b6 b7 b8);obtain⟨b0,b1,b2,b3,b4,b5,b6,b7,b8⟩:=HC.out _ hb1)) | (go_at_call 121;go_must (refine(HVa.out _ (by first | exact hb1 | exact Below.refl _ _)).mono ?_;rintro e w1 ⟨rfl,hb1⟩;(try clear b0 b1 b2 b3 b4 b5 b6 b7 b8);obtain⟨b0,b1,b2,b3,b4,b5,b6,b7,b8⟩:=HC.out _ hb1)))
     go_ret
     exact⟨rfl,HB0.out.trans (hb1.mono hzB)⟩
   ·have he:=name_ne hm
    have he2:(s.name.toList == [])=false:=by simpa using he
    have he3:(s.name.toList != [])=true:=by simpa using he
    have he4:s.name.toList.isEmpty=false:=by simpa using he
    have HM:=Lib.hid hm
    clear hm
    obtain rfl:R=1:=by rw[← HR.out];simp[HM.out]
    go_wp2_with (first | (go_at_call 197;go_must (refine(HSh.out _ (by first | exact hb1 | exact Below.refl _ _)).mono ?_;rintro e w1 ⟨rfl,hb1⟩;(try clear b0 b1 b2 b3 b4 b5 b6 b7 b8);obtain⟨b0,b1,b2,b3,b4,b5,b6,b7,b8⟩:=HC.out _ hb1)) | (go_at_call 198;go_must (refine(HWr.out _ (by first | exact hb1 | exact Below.refl _ _)).mono ?_;rintro e w1 ⟨rfl,hb1⟩;(try clear b0 b1 b2 b3 b4 b5 b6 b7 b8);obtain⟨b0,b1,b2,b3,b4,b5,b6,b7,b8⟩:=HC.out _ hb1)) | (go_at_call 199;go_must (refine(HZ.out _ (by first | exact hb1 | exact Below.refl _ _)).mono ?_;rintro e w1 ⟨rfl,hb1⟩;(try clear b0 b1 b2 b3 b4 b5 b6 b7 b8);obtain⟨b0,b1,b2,b3,b4,b5,b6,b7,b8⟩:=HC.out _ hb1)) | (go_at_call 122;go_must (refine(HIs.out _ (by first | exact hb1 | exact Below.refl _ _)).mono ?_;rintro e w1 ⟨rfl,hb1⟩;(try clear b0 b1 b2 b3 b4 b5 b6 b7 b8);obtain⟨b0,b1,b2,b3,b4,b5,b6,b7,b8⟩:=HC.out _ hb1)) | (go_at_call 121;go_must (refine(HVa.out _ (by first | exact hb1 | exact Below.refl _ _)).mono ?_;rintro e w1 ⟨rfl,hb1⟩;(try clear b0 b1 b2 b3 b4 b5 b6 b7 b8);obtain⟨b0,b1,b2,b3,b4,b5,b6,b7,b8⟩:=HC.out _ hb1)))
    go_ret
    exact⟨rfl,HB0.out.trans (hb1.mono hzB)⟩
  ·have hw:writtenB s.op=false:=by rw[hwr];simp[n1,n6,n7]
   rw[hw] at HWr HR
   have N1:=Lib.hid n1
   have N6:=Lib.hid n6
   have N7:=Lib.hid n7
   clear HSet hw hwr HSI
   cases zx with
   | false =>
    obtain rfl:R=1:=by rw[← HR.out];simp[]
    go_wp2_with (first | (go_at_call 197;go_must (refine(HSh.out _ (by first | exact hb1 | exact Below.refl _ _)).mono ?_;rintro e w1 ⟨rfl,hb1⟩;(try clear b0 b1 b2 b3 b4 b5 b6 b7 b8);obtain⟨b0,b1,b2,b3,b4,b5,b6,b7,b8⟩:=HC.out _ hb1)) | (go_at_call 198;go_must (refine(HWr.out _ (by first | exact hb1 | exact Below.refl _ _)).mono ?_;rintro e w1 ⟨rfl,hb1⟩;(try clear b0 b1 b2 b3 b4 b5 b6 b7 b8);obtain⟨b0,b1,b2,b3,b4,b5,b6,b7,b8⟩:=HC.out _ hb1)) | (go_at_call 199;go_must (refine(HZ.out _ (by first | exact hb1 | exact Below.refl _ _)).mono ?_;rintro e w1 ⟨rfl,hb1⟩;(try clear b0 b1 b2 b3 b4 b5 b6 b7 b8);obtain⟨b0,b1,b2,b3,b4,b5,b6,b7,b8⟩:=HC.out _ hb1)) | (go_at_call 122;go_must (refine(HIs.out _ (by first | exact hb1 | exact Below.refl _ _)).mono ?_;rintro e w1 ⟨rfl,hb1⟩;(try clear b0 b1 b2 b3 b4 b5 b6 b7 b8);obtain⟨b0,b1,b2,b3,b4,b5,b6,b7,b8⟩:=HC.out _ hb1)) | (go_at_call 121;go_must (refine(HVa.out _ (by first | exact hb1 | exact Below.refl _ _)).mono ?_;rintro e w1 ⟨rfl,hb1⟩;(try clear b0 b1 b2 b3 b4 b5 b6 b7 b8);obtain⟨b0,b1,b2,b3,b4,b5,b6,b7,b8⟩:=HC.out _ hb1)))
    go_ret
    exact⟨rfl,HB0.out.trans (hb1.mono hzB)⟩
   | true =>
    by_cases hm:s.name.size=0
    ·have he:=name_mt hm
     rw[he] at HC b7 HSh
     have HM:=Lib.hid hm
     clear hm
     obtain rfl:R=0:=by rw[← HR.out];simp[HM.out,N6.out,N7.out]
     go_wp2_with (first | (go_at_call 197;go_must (refine(HSh.out _ (by first | exact hb1 | exact Below.refl _ _)).mono ?_;rintro e w1 ⟨rfl,hb1⟩;(try clear b0 b1 b2 b3 b4 b5 b6 b7 b8);obtain⟨b0,b1,b2,b3,b4,b5,b6,b7,b8⟩:=HC.out _ hb1)) | (go_at_call 198;go_must (refine(HWr.out _ (by first | exact hb1 | exact Below.refl _ _)).mono ?_;rintro e w1 ⟨rfl,hb1⟩;(try clear b0 b1 b2 b3 b4 b5 b6 b7 b8);obtain⟨b0,b1,b2,b3,b4,b5,b6,b7,b8⟩:=HC.out _ hb1)) | (go_at_call 199;go_must (refine(HZ.out _ (by first | exact hb1 | exact Below.refl _ _)).mono ?_;rintro e w1 ⟨rfl,hb1⟩;(try clear b0 b1 b2 b3 b4 b5 b6 b7 b8);obtain⟨b0,b1,b2,b3,b4,b5,b6,b7,b8⟩:=HC.out _ hb1)) | (go_at_call 122;go_must (refine(HIs.out _ (by first | exact hb1 | exact Below.refl _ _)).mono ?_;rintro e w1 ⟨rfl,hb1⟩;(try clear b0 b1 b2 b3 b4 b5 b6 b7 b8);obtain⟨b0,b1,b2,b3,b4,b5,b6,b7,b8⟩:=HC.out _ hb1)) | (go_at_call 121;go_must (refine(HVa.out _ (by first | exact hb1 | exact Below.refl _ _)).mono ?_;rintro e w1 ⟨rfl,hb1⟩;(try clear b0 b1 b2 b3 b4 b5 b6 b7 b8);obtain⟨b0,b1,b2,b3,b4,b5,b6,b7,b8⟩:=HC.out _ hb1)))
     go_ret
     exact⟨rfl,HB0.out.trans (hb1.mono hzB)⟩
    ·have he:=name_ne hm
     have he2:(s.name.toList == [])=false:=by simpa using he
     have he3:(s.name.toList != [])=true:=by simpa using he
     have he4:s.name.toList.isEmpty=false:=by simpa using he
     have HM:=Lib.hid hm
     clear hm
     obtain rfl:R=1:=by rw[← HR.out];simp[HM.out,N6.out]
     go_wp2_with (first | (go_at_call 197;go_must (refine(HSh.out _ (by first | exact hb1 | exact Below.refl _ _)).mono ?_;rintro e w1 ⟨rfl,hb1⟩;(try clear b0 b1 b2 b3 b4 b5 b6 b7 b8);obtain⟨b0,b1,b2,b3,b4,b5,b6,b7,b8⟩:=HC.out _ hb1)) | (go_at_call 198;go_must (refine(HWr.out _ (by first | exact hb1 | exact Below.refl _ _)).mono ?_;rintro e w1 ⟨rfl,hb1⟩;(try clear b0 b1 b2 b3 b4 b5 b6 b7 b8);obtain⟨b0,b1,b2,b3,b4,b5,b6,b7,b8⟩:=HC.out _ hb1)) | (go_at_call 199;go_must (refine(HZ.out _ (by first | exact hb1 | exact Below.refl _ _)).mono ?_;rintro e w1 ⟨rfl,hb1⟩;(try clear b0 b1 b2 b3 b4 b5 b6 b7 b8);obtain⟨b0,b1,b2,b3,b4,b5,b6,b7,b8⟩:=HC.out _ hb1)) | (go_at_call 122;go_must (refine(HIs.out _ (by first | exact hb1 | exact Below.refl _ _)).mono ?_;rintro e w1 ⟨rfl,hb1⟩;(try clear b0 b1 b2 b3 b4 b5 b6 b7 b8);obtain⟨b0,b1,b2,b3,b4,b5,b6,b7,b8⟩:=HC.out _ hb1)) | (go_at_call 121;go_must (refine(HVa.out _ (by first | exact hb1 | exact Below.refl _ _)).mono ?_;rintro e w1 ⟨rfl,hb1⟩;(try clear b0 b1 b2 b3 b4 b5 b6 b7 b8);obtain⟨b0,b1,b2,b3,b4,b5,b6,b7,b8⟩:=HC.out _ hb1)))
     go_ret
     exact⟨rfl,HB0.out.trans (hb1.mono hzB)⟩
end Go.Proofs.YthojpomoflhbcaaGreatDoor
