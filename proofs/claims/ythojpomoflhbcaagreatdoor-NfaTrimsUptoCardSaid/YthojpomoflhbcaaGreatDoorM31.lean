/- tseq.node. -/
import Derived.Test.YthojpomoflhbcaaGreatDoorM30
set_option linter.unusedSimpArgs false
set_option linter.unusedVariables false
set_option linter.unnecessarySimpa false
namespace Go.Proofs.YthojpomoflhbcaaGreatDoor
open Go.RowKit
attribute [local go_sem ↓] Go.wp_at_zero Go.wp_at_succ
theorem name_ne {s:ByteArray} (h:¬ s.size=0):¬ s.toList=[]:=fun e=>h (by
 have:s.toList.length=0:=by rw[e];rfl
 rwa [ByteArray.toList_eq,Array.length_toList] at this)
theorem name_mt {s:ByteArray} (h:s.size=0):s=⟨#[]⟩:=by
 have:s.data.size=0:=h
 exact ByteArray.ext (Array.eq_empty_of_size_eq_zero this)
def nodeV (op:Int) (bs wr zx nb st below:Bool) (mt:Prop) [Decidable mt] (vv:Int):Int :=
 if bs=false∨(wr=false∧zx=false)∨(op≠6∧¬ mt) then 1
 else if op=6∧nb=false then 7
 else if wr=true∧vv≠0 then vv
 else if op=6∧below=true then 13
 else if op=7∧st=true then 13
 else 0
theorem nodeT_V (s:Tq) (below:Bool):nodeT s below=nodeV s.op (shapeB s) (writtenB s.op) (zeroX s.expr) (nameB s.name.data.toList) (setIn s) below (s.name.size=0) (validS s.expr):=rfl
theorem shape_at (s:Tq) (ae:Option Addr) (ce:Nat) (a:Option Addr) (cap:Nat) (w:World):∀ W,Below w.heap.size w W→Calls Tryz.prog 197 #[tqVal s ae ce a cap] W fun e w'=>e=.returned (.bool (shapeB s))∧Below W.heap.size W w':=fun W hW=>by
 first
  | exact shape_any s ae ce a cap W
  | exact zero_any s.expr ae ce W
theorem zero_at (s:Tq) (ae:Option Addr) (ce:Nat) (a:Option Addr) (cap:Nat) (w:World):∀ W,Below w.heap.size w W→Calls Tryz.prog 199 #[exVal s.expr ae ce] W fun e w'=>e=.returned (.bool (zeroX s.expr))∧Below W.heap.size W w':=fun W hW=>by
 first
  | exact shape_any s ae ce a cap W
  | exact zero_any s.expr ae ce W
set_option maxHeartbeats 16000000 in
set_option maxRecDepth 100000 in
theorem tnode_any (s:Tq) (below:Bool) (p:Nat→Bool) (ae:Option Addr) (ce:Nat) (a:Option Addr) (cap:Nat) (w:World) (hX:TqIn (World.hide w p) s ae ce a cap) (hp:∀ j,p j=true→j < w.heap.size) (hn:s.nodes≤1000000000) (hxn:s.expr.nodes.length≤1000000000) (hG:Glob w) :
  Calls Tryz.prog 135 #[tqVal s ae ce a cap,.bool below] w fun e w'=>e=.returned (.int .i64 (nodeT s below))∧Below w.heap.size w w':=by
 have HSh:=Lib.hid (shape_at s ae ce a cap w)
 have HZ:=Lib.hid (zero_at s ae ce a cap w)
 have HIs:=Lib.hid fun W (hW:Below w.heap.size w W)=>isName_any s.name W hX.nm (hG.below hW)
 have hEx:ExIn w s.expr ae ce:=hX.ex.keep hide_cell
 have HVa:=Lib.hid fun W (hW:Below w.heap.size w W)=>valid_ex s.expr ae ce W (hG.below hW) (hEx.keep (keeps_of_below hW)) hxn
 have HWr:Hid (∀ W,Below w.heap.size w W→Calls Tryz.prog 198 #[.int .i64 s.op] W fun e w'=>e=.returned (.bool (writtenB s.op))∧Below W.heap.size W w'):=fun W hW=>(written_any s.op W).mono fun e w' h=>⟨h.1,by rw[h.2];exact Below.refl _ _⟩
 have HNm:Hid (∀ W,Below w.heap.size w W→Calls Tryz.prog 160 #[.agg #[.int .i64 s.expr.op,.int .i64 s.expr.n,.string s.expr.name,.slice ae s.expr.args.length ce]] W fun e w'=>(∃ a' c',e=.returned (.slice a' (namesS [2] s.expr).length c')∧StrsIn w' (namesS [2] s.expr) a' c')∧Below W.heap.size W w'):=fun W hW=>by
  have h2:=hEx.keep (keeps_of_below hW)
  have h3:=hxn
  generalize s.expr=x at h2 h3
  obtain⟨op,n,nm,args⟩:=x
  exact Names_any op n nm args ae ce W h2 (by omega)
 have HSet:Hid (∀ (h7:s.op=7),shapeB s=true→s.args.length=1):=fun h7 hb=>by
  rcases shapeB_true hb with h | h | h | ⟨h | h,_⟩ | ⟨_,h,_⟩
  ·omega
  ·omega
  ·omega
  ·omega
  ·omega
  ·exact h
 have HSI:Hid (∀ y r,s.args=y::r→setIn s=(namesS [2] s.expr).any fun nm=>Lib.containsS (setNm y) nm):=fun y r h=>by
  unfold setIn;rw[h]
 have HX:=Lib.hid hX
 have Hp:=Lib.hid hp
 have HN:=Lib.hid hn
 have hlen:=hX.ar.2.1
 have hwr:writtenB s.op=(s.op == 1 || s.op == 6 || s.op == 7):=rfl
 rw[nodeT_V,tqVal_eqF]
 rw[tqVal_eqF] at HSh
 unfold exVal at HZ HVa
 obtain⟨R,HR⟩:∃ R,Hid (nodeV s.op (shapeB s) (writtenB s.op) (zeroX s.expr) (nameB s.name.data.toList) (setIn s) below (s.name.size=0) (validS s.expr)=R):=⟨_,rfl⟩
 rw[HR.out]
 unfold nodeV at HR
 have HXA:Hid (s.args.length=0∨∃ b off,a=some ⟨b,off,none⟩):=SliceIn.addr hX.ar
 clear hX hp hn hxn hG hEx
 go_enter Tryz.func135, Tryz.ntmps135
 go_upto_region 1 with fail
 generalize hBx:World.alloc w _=Bx
 have HB0:Hid (Below w.heap.size w Bx):=by show Below _ _ _;rw[← hBx];exact(Below.refl _ _).alloc (Nat.le_refl _) _
 have hzB:=HB0.out.size
 have HC:Hid (∀ W,Below Bx.heap.size Bx W→W.cell? ⟨w.heap.size,0,none⟩=some (.int .i64 s.op)∧W.cell? ⟨w.heap.size,1,none⟩=some (.int .i64 s.lo)∧W.cell? ⟨w.heap.size,2,none⟩=some (.int .i64 s.hi)∧W.cell? ⟨w.heap.size,3,none⟩=some (.int .i64 s.expr.op)∧W.cell? ⟨w.heap.size,4,none⟩=some (.int .i64 s.expr.n)∧W.cell? ⟨w.heap.size,5,none⟩=some (.string s.expr.name)∧W.cell? ⟨w.heap.size,6,none⟩=some (.slice ae s.expr.args.length ce)∧W.cell? ⟨w.heap.size,7,none⟩=some (.string s.name)∧W.cell? ⟨w.heap.size,8,none⟩=some (.slice a s.args.length cap)):=fun W hW=>by
  have h0:Bx.heap[w.heap.size]? = some (tqBoxF s ae ce a cap):=by rw[← hBx];exact hx_newT rfl
  exact cell9TF ((hW.block _ (lt_of_block h0)).trans h0)
 clear hBx
 have HT:Hid (∀ (f:FuncId) (args:Array Value) (v:Value),(∀ W,Below w.heap.size w W→Calls Tryz.prog f args W fun e w'=>e=.returned v∧Below W.heap.size W w')→∀ W,Below Bx.heap.size Bx W→Calls Tryz.prog f args W fun e w'=>e=.returned v∧Below Bx.heap.size Bx w'):=fun f args v h W hW=>(h W (HB0.out.trans (hW.mono hzB))).mono fun e w' hq=>⟨hq.1,hW.trans (hq.2.mono hW.size)⟩
 replace HSh:=Lib.hid (HT.out _ _ _ HSh.out)
 replace HZ:=Lib.hid (HT.out _ _ _ HZ.out)
 replace HIs:=Lib.hid (HT.out _ _ _ HIs.out)
 replace HVa:=Lib.hid (HT.out _ _ _ HVa.out)
 replace HWr:=Lib.hid (HT.out _ _ _ HWr.out)
 clear HT
 have hbx:=Below.refl Bx.heap.size Bx
 obtain⟨b0,b1,b2,b3,b4,b5,b6,b7,b8⟩:=HC.out _ hbx
 clear hbx
 generalize zeroX s.expr=zx at HZ HR
 generalize nameB s.name.data.toList=nb at HIs HR
 generalize validS s.expr=vv at HVa HR
 generalize shapeB s=bs at HSh HR HSet
 generalize hst:setIn s=st at HR HSI
 clear hst
 cases bs with
 | false =>
  obtain rfl:R=1:=by rw[← HR.out];simp[]
  go_wp2_with (first | (go_at_call 197;go_must (refine(HSh.out _ (by first | exact hb1 | exact Below.refl _ _)).mono ?_;rintro e w1 ⟨rfl,hb1⟩;(try clear b0 b1 b2 b3 b4 b5 b6 b7 b8);obtain⟨b0,b1,b2,b3,b4,b5,b6,b7,b8⟩:=HC.out _ hb1)) | (go_at_call 198;go_must (refine(HWr.out _ (by first | exact hb1 | exact Below.refl _ _)).mono ?_;rintro e w1 ⟨rfl,hb1⟩;(try clear b0 b1 b2 b3 b4 b5 b6 b7 b8);obtain⟨b0,b1,b2,b3,b4,b5,b6,b7,b8⟩:=HC.out _ hb1)) | (go_at_call 199;go_must (refine(HZ.out _ (by first | exact hb1 | exact Below.refl _ _)).mono ?_;rintro e w1 ⟨rfl,hb1⟩;(try clear b0 b1 b2 b3 b4 b5 b6 b7 b8);obtain⟨b0,b1,b2,b3,b4,b5,b6,b7,b8⟩:=HC.out _ hb1)) | (go_at_call 122;go_must (refine(HIs.out _ (by first | exact hb1 | exact Below.refl _ _)).mono ?_;rintro e w1 ⟨rfl,hb1⟩;(try clear b0 b1 b2 b3 b4 b5 b6 b7 b8);obtain⟨b0,b1,b2,b3,b4,b5,b6,b7,b8⟩:=HC.out _ hb1)) | (go_at_call 121;go_must (refine(HVa.out _ (by first | exact hb1 | exact Below.refl _ _)).mono ?_;rintro e w1 ⟨rfl,hb1⟩;(try clear b0 b1 b2 b3 b4 b5 b6 b7 b8);obtain⟨b0,b1,b2,b3,b4,b5,b6,b7,b8⟩:=HC.out _ hb1)))
  go_ret
  exact⟨rfl,HB0.out.trans (hb1.mono hzB)⟩
 | true =>
  have hopc:s.op=1∨s.op=6∨s.op=7∨(¬ s.op=1∧¬ s.op=6∧¬ s.op=7):=by omega
  rcases hopc with h | h | h | ⟨n1,n6,n7⟩
  ·have hw:writtenB s.op=true:=by rw[h];rfl
   rw[hw] at HWr HR
   rw[h] at HC HWr HR b0 HSh
   clear HSet hw hwr HSI h
   by_cases hm:s.name.size=0
   ·have he:=name_mt hm
    rw[he] at HC b7 HSh
    have HM:=Lib.hid hm
    clear hm
    by_cases hv:vv=0
    ·subst hv
     obtain rfl:R=0:=by rw[← HR.out];simp[HM.out]
     go_wp2_with (first | (go_at_call 197;go_must (refine(HSh.out _ (by first | exact hb1 | exact Below.refl _ _)).mono ?_;rintro e w1 ⟨rfl,hb1⟩;(try clear b0 b1 b2 b3 b4 b5 b6 b7 b8);obtain⟨b0,b1,b2,b3,b4,b5,b6,b7,b8⟩:=HC.out _ hb1)) | (go_at_call 198;go_must (refine(HWr.out _ (by first | exact hb1 | exact Below.refl _ _)).mono ?_;rintro e w1 ⟨rfl,hb1⟩;(try clear b0 b1 b2 b3 b4 b5 b6 b7 b8);obtain⟨b0,b1,b2,b3,b4,b5,b6,b7,b8⟩:=HC.out _ hb1)) | (go_at_call 199;go_must (refine(HZ.out _ (by first | exact hb1 | exact Below.refl _ _)).mono ?_;rintro e w1 ⟨rfl,hb1⟩;(try clear b0 b1 b2 b3 b4 b5 b6 b7 b8);obtain⟨b0,b1,b2,b3,b4,b5,b6,b7,b8⟩:=HC.out _ hb1)) | (go_at_call 122;go_must (refine(HIs.out _ (by first | exact hb1 | exact Below.refl _ _)).mono ?_;rintro e w1 ⟨rfl,hb1⟩;(try clear b0 b1 b2 b3 b4 b5 b6 b7 b8);obtain⟨b0,b1,b2,b3,b4,b5,b6,b7,b8⟩:=HC.out _ hb1)) | (go_at_call 121;go_must (refine(HVa.out _ (by first | exact hb1 | exact Below.refl _ _)).mono ?_;rintro e w1 ⟨rfl,hb1⟩;(try clear b0 b1 b2 b3 b4 b5 b6 b7 b8);obtain⟨b0,b1,b2,b3,b4,b5,b6,b7,b8⟩:=HC.out _ hb1)))
     go_ret
     exact⟨rfl,HB0.out.trans (hb1.mono hzB)⟩
    ·have hvb:(vv == 0)=false:=by simp[hv]
     obtain rfl:R=vv:=by rw[← HR.out];simp[HM.out,hv]
     go_wp2_with (first | (go_at_call 197;go_must (refine(HSh.out _ (by first | exact hb1 | exact Below.refl _ _)).mono ?_;rintro e w1 ⟨rfl,hb1⟩;(try clear b0 b1 b2 b3 b4 b5 b6 b7 b8);obtain⟨b0,b1,b2,b3,b4,b5,b6,b7,b8⟩:=HC.out _ hb1)) | (go_at_call 198;go_must (refine(HWr.out _ (by first | exact hb1 | exact Below.refl _ _)).mono ?_;rintro e w1 ⟨rfl,hb1⟩;(try clear b0 b1 b2 b3 b4 b5 b6 b7 b8);obtain⟨b0,b1,b2,b3,b4,b5,b6,b7,b8⟩:=HC.out _ hb1)) | (go_at_call 199;go_must (refine(HZ.out _ (by first | exact hb1 | exact Below.refl _ _)).mono ?_;rintro e w1 ⟨rfl,hb1⟩;(try clear b0 b1 b2 b3 b4 b5 b6 b7 b8);obtain⟨b0,b1,b2,b3,b4,b5,b6,b7,b8⟩:=HC.out _ hb1)) | (go_at_call 122;go_must (refine(HIs.out _ (by first | exact hb1 | exact Below.refl _ _)).mono ?_;rintro e w1 ⟨rfl,hb1⟩;(try clear b0 b1 b2 b3 b4 b5 b6 b7 b8);obtain⟨b0,b1,b2,b3,b4,b5,b6,b7,b8⟩:=HC.out _ hb1)) | (go_at_call 121;go_must (refine(HVa.out _ (by first | exact hb1 | exact Below.refl _ _)).mono ?_;rintro e w1 ⟨rfl,hb1⟩;(try clear b0 b1 b2 b3 b4 b5 b6 b7 b8);obtain⟨b0,b1,b2,b3,b4,b5,b6,b7,b8⟩:=HC.out _ hb1)))
     go_ret
     exact⟨rfl,HB0.out.trans (hb1.mono hzB)⟩
   ·have he:=name_ne hm
    have he2:(s.name.toList == [])=false:=by simpa using he
    have he3:(s.name.toList != [])=true:=by simpa using he
    have he4:s.name.toList.isEmpty=false:=by simpa using he
    have HM:=Lib.hid hm
    clear hm
    obtain rfl:R=1:=by rw[← HR.out];simp[HM.out]
    go_wp2_with (first | (go_at_call 197;go_must (refine(HSh.out _ (by first | exact hb1 | exact Below.refl _ _)).mono ?_;rintro e w1 ⟨rfl,hb1⟩;(try clear b0 b1 b2 b3 b4 b5 b6 b7 b8);obtain⟨b0,b1,b2,b3,b4,b5,b6,b7,b8⟩:=HC.out _ hb1)) | (go_at_call 198;go_must (refine(HWr.out _ (by first | exact hb1 | exact Below.refl _ _)).mono ?_;rintro e w1 ⟨rfl,hb1⟩;(try clear b0 b1 b2 b3 b4 b5 b6 b7 b8);obtain⟨b0,b1,b2,b3,b4,b5,b6,b7,b8⟩:=HC.out _ hb1)) | (go_at_call 199;go_must (refine(HZ.out _ (by first | exact hb1 | exact Below.refl _ _)).mono ?_;rintro e w1 ⟨rfl,hb1⟩;(try clear b0 b1 b2 b3 b4 b5 b6 b7 b8);obtain⟨b0,b1,b2,b3,b4,b5,b6,b7,b8⟩:=HC.out _ hb1)) | (go_at_call 122;go_must (refine(HIs.out _ (by first | exact hb1 | exact Below.refl _ _)).mono ?_;rintro e w1 ⟨rfl,hb1⟩;(try clear b0 b1 b2 b3 b4 b5 b6 b7 b8);obtain⟨b0,b1,b2,b3,b4,b5,b6,b7,b8⟩:=HC.out _ hb1)) | (go_at_call 121;go_must (refine(HVa.out _ (by first | exact hb1 | exact Below.refl _ _)).mono ?_;rintro e w1 ⟨rfl,hb1⟩;(try clear b0 b1 b2 b3 b4 b5 b6 b7 b8);obtain⟨b0,b1,b2,b3,b4,b5,b6,b7,b8⟩:=HC.out _ hb1)))
    go_ret
    exact⟨rfl,HB0.out.trans (hb1.mono hzB)⟩
  ·have hw:writtenB s.op=true:=by rw[h];rfl
   rw[hw] at HWr HR
   rw[h] at HC HWr HR b0 HSh
   clear HSet hw hwr HSI h
   cases nb with
   | false =>
    obtain rfl:R=7:=by rw[← HR.out];simp[]
    go_wp2_with (first | (go_at_call 197;go_must (refine(HSh.out _ (by first | exact hb1 | exact Below.refl _ _)).mono ?_;rintro e w1 ⟨rfl,hb1⟩;(try clear b0 b1 b2 b3 b4 b5 b6 b7 b8);obtain⟨b0,b1,b2,b3,b4,b5,b6,b7,b8⟩:=HC.out _ hb1)) | (go_at_call 198;go_must (refine(HWr.out _ (by first | exact hb1 | exact Below.refl _ _)).mono ?_;rintro e w1 ⟨rfl,hb1⟩;(try clear b0 b1 b2 b3 b4 b5 b6 b7 b8);obtain⟨b0,b1,b2,b3,b4,b5,b6,b7,b8⟩:=HC.out _ hb1)) | (go_at_call 199;go_must (refine(HZ.out _ (by first | exact hb1 | exact Below.refl _ _)).mono ?_;rintro e w1 ⟨rfl,hb1⟩;(try clear b0 b1 b2 b3 b4 b5 b6 b7 b8);obtain⟨b0,b1,b2,b3,b4,b5,b6,b7,b8⟩:=HC.out _ hb1)) | (go_at_call 122;go_must (refine(HIs.out _ (by first | exact hb1 | exact Below.refl _ _)).mono ?_;rintro e w1 ⟨rfl,hb1⟩;(try clear b0 b1 b2 b3 b4 b5 b6 b7 b8);obtain⟨b0,b1,b2,b3,b4,b5,b6,b7,b8⟩:=HC.out _ hb1)) | (go_at_call 121;go_must (refine(HVa.out _ (by first | exact hb1 | exact Below.refl _ _)).mono ?_;rintro e w1 ⟨rfl,hb1⟩;(try clear b0 b1 b2 b3 b4 b5 b6 b7 b8);obtain⟨b0,b1,b2,b3,b4,b5,b6,b7,b8⟩:=HC.out _ hb1)))
    go_ret
    exact⟨rfl,HB0.out.trans (hb1.mono hzB)⟩
   | true =>
    by_cases hv:vv=0
    ·subst hv
     cases below with
     | true =>
      obtain rfl:R=13:=by rw[← HR.out];simp[]
      go_wp2_with (first | (go_at_call 197;go_must (refine(HSh.out _ (by first | exact hb1 | exact Below.refl _ _)).mono ?_;rintro e w1 ⟨rfl,hb1⟩;(try clear b0 b1 b2 b3 b4 b5 b6 b7 b8);obtain⟨b0,b1,b2,b3,b4,b5,b6,b7,b8⟩:=HC.out _ hb1)) | (go_at_call 198;go_must (refine(HWr.out _ (by first | exact hb1 | exact Below.refl _ _)).mono ?_;rintro e w1 ⟨rfl,hb1⟩;(try clear b0 b1 b2 b3 b4 b5 b6 b7 b8);obtain⟨b0,b1,b2,b3,b4,b5,b6,b7,b8⟩:=HC.out _ hb1)) | (go_at_call 199;go_must (refine(HZ.out _ (by first | exact hb1 | exact Below.refl _ _)).mono ?_;rintro e w1 ⟨rfl,hb1⟩;(try clear b0 b1 b2 b3 b4 b5 b6 b7 b8);obtain⟨b0,b1,b2,b3,b4,b5,b6,b7,b8⟩:=HC.out _ hb1)) | (go_at_call 122;go_must (refine(HIs.out _ (by first | exact hb1 | exact Below.refl _ _)).mono ?_;rintro e w1 ⟨rfl,hb1⟩;(try clear b0 b1 b2 b3 b4 b5 b6 b7 b8);obtain⟨b0,b1,b2,b3,b4,b5,b6,b7,b8⟩:=HC.out _ hb1)) | (go_at_call 121;go_must (refine(HVa.out _ (by first | exact hb1 | exact Below.refl _ _)).mono ?_;rintro e w1 ⟨rfl,hb1⟩;(try clear b0 b1 b2 b3 b4 b5 b6 b7 b8);obtain⟨b0,b1,b2,b3,b4,b5,b6,b7,b8⟩:=HC.out _ hb1)))
      go_ret
      exact⟨rfl,HB0.out.trans (hb1.mono hzB)⟩
     | false =>
      obtain rfl:R=0:=by rw[← HR.out];simp[]
      go_wp2_with (first | (go_at_call 197;go_must (refine(HSh.out _ (by first | exact hb1 | exact Below.refl _ _)).mono ?_;rintro e w1 ⟨rfl,hb1⟩;(try clear b0 b1 b2 b3 b4 b5 b6 b7 b8);obtain⟨b0,b1,b2,b3,b4,b5,b6,b7,b8⟩:=HC.out _ hb1)) | (go_at_call 198;go_must (refine(HWr.out _ (by first | exact hb1 | exact Below.refl _ _)).mono ?_;rintro e w1 ⟨rfl,hb1⟩;(try clear b0 b1 b2 b3 b4 b5 b6 b7 b8);obtain⟨b0,b1,b2,b3,b4,b5,b6,b7,b8⟩:=HC.out _ hb1)) | (go_at_call 199;go_must (refine(HZ.out _ (by first | exact hb1 | exact Below.refl _ _)).mono ?_;rintro e w1 ⟨rfl,hb1⟩;(try clear b0 b1 b2 b3 b4 b5 b6 b7 b8);obtain⟨b0,b1,b2,b3,b4,b5,b6,b7,b8⟩:=HC.out _ hb1)) | (go_at_call 122;go_must (refine(HIs.out _ (by first | exact hb1 | exact Below.refl _ _)).mono ?_;rintro e w1 ⟨rfl,hb1⟩;(try clear b0 b1 b2 b3 b4 b5 b6 b7 b8);obtain⟨b0,b1,b2,b3,b4,b5,b6,b7,b8⟩:=HC.out _ hb1)) | (go_at_call 121;go_must (refine(HVa.out _ (by first | exact hb1 | exact Below.refl _ _)).mono ?_;rintro e w1 ⟨rfl,hb1⟩;(try clear b0 b1 b2 b3 b4 b5 b6 b7 b8);obtain⟨b0,b1,b2,b3,b4,b5,b6,b7,b8⟩:=HC.out _ hb1)))
      go_ret
      exact⟨rfl,HB0.out.trans (hb1.mono hzB)⟩
    ·have hvb:(vv == 0)=false:=by simp[hv]
     obtain rfl:R=vv:=by rw[← HR.out];simp[hv]
     go_wp2_with (first | (go_at_call 197;go_must (refine(HSh.out _ (by first | exact hb1 | exact Below.refl _ _)).mono ?_;rintro e w1 ⟨rfl,hb1⟩;(try clear b0 b1 b2 b3 b4 b5 b6 b7 b8);obtain⟨b0,b1,b2,b3,b4,b5,b6,b7,b8⟩:=HC.out _ hb1)) | (go_at_call 198;go_must (refine(HWr.out _ (by first | exact hb1 | exact Below.refl _ _)).mono ?_;rintro e w1 ⟨rfl,hb1⟩;(try clear b0 b1 b2 b3 b4 b5 b6 b7 b8);obtain⟨b0,b1,b2,b3,b4,b5,b6,b7,b8⟩:=HC.out _ hb1)) | (go_at_call 199;go_must (refine(HZ.out _ (by first | exact hb1 | exact Below.refl _ _)).mono ?_;rintro e w1 ⟨rfl,hb1⟩;(try clear b0 b1 b2 b3 b4 b5 b6 b7 b8);obtain⟨b0,b1,b2,b3,b4,b5,b6,b7,b8⟩:=HC.out _ hb1)) | (go_at_call 122;go_must (refine(HIs.out _ (by first | exact hb1 | exact Below.refl _ _)).mono ?_;rintro e w1 ⟨rfl,hb1⟩;(try clear b0 b1 b2 b3 b4 b5 b6 b7 b8);obtain⟨b0,b1,b2,b3,b4,b5,b6,b7,b8⟩:=HC.out _ hb1)) | (go_at_call 121;go_must (refine(HVa.out _ (by first | exact hb1 | exact Below.refl _ _)).mono ?_;rintro e w1 ⟨rfl,hb1⟩;(try clear b0 b1 b2 b3 b4 b5 b6 b7 b8);obtain⟨b0,b1,b2,b3,b4,b5,b6,b7,b8⟩:=HC.out _ hb1)))
     go_ret
     exact⟨rfl,HB0.out.trans (hb1.mono hzB)⟩
  ·have hw:writtenB s.op=true:=by rw[h];rfl
   have h1:s.args.length=1:=HSet.out h rfl
   obtain⟨y,hy⟩:∃ y,s.args=[y]:=by
    match hs:s.args,h1 with
    | [y],_=>exact⟨y,rfl⟩
   have HST:=Lib.hid (HSI.out y [] hy)
   have HY:=Lib.hid hy
   have hN0:0 < s.args.length:=by omega
   have hN0i:(0:Int) < (s.args.length:Int):=by omega
   clear h1 hy
   rw[hw] at HWr HR
   rw[h] at HC HWr HR b0 HSh
   clear HSet hw hwr HSI h
   by_cases hm:s.name.size=0
   ·have he:=name_mt hm
    rw[he] at HC b7 HSh
    have HM:=Lib.hid hm
    clear hm
    by_cases hv:vv=0
    ·subst hv
     go_upto_region 12 with (first | (go_at_call 197;go_must (refine(HSh.out _ (by first | exact hb1 | exact Below.refl _ _)).mono ?_;rintro e w1 ⟨rfl,hb1⟩;(try clear b0 b1 b2 b3 b4 b5 b6 b7 b8);obtain⟨b0,b1,b2,b3,b4,b5,b6,b7,b8⟩:=HC.out _ hb1)) | (go_at_call 198;go_must (refine(HWr.out _ (by first | exact hb1 | exact Below.refl _ _)).mono ?_;rintro e w1 ⟨rfl,hb1⟩;(try clear b0 b1 b2 b3 b4 b5 b6 b7 b8);obtain⟨b0,b1,b2,b3,b4,b5,b6,b7,b8⟩:=HC.out _ hb1)) | (go_at_call 199;go_must (refine(HZ.out _ (by first | exact hb1 | exact Below.refl _ _)).mono ?_;rintro e w1 ⟨rfl,hb1⟩;(try clear b0 b1 b2 b3 b4 b5 b6 b7 b8);obtain⟨b0,b1,b2,b3,b4,b5,b6,b7,b8⟩:=HC.out _ hb1)) | (go_at_call 122;go_must (refine(HIs.out _ (by first | exact hb1 | exact Below.refl _ _)).mono ?_;rintro e w1 ⟨rfl,hb1⟩;(try clear b0 b1 b2 b3 b4 b5 b6 b7 b8);obtain⟨b0,b1,b2,b3,b4,b5,b6,b7,b8⟩:=HC.out _ hb1)) | (go_at_call 121;go_must (refine(HVa.out _ (by first | exact hb1 | exact Below.refl _ _)).mono ?_;rintro e w1 ⟨rfl,hb1⟩;(try clear b0 b1 b2 b3 b4 b5 b6 b7 b8);obtain⟨b0,b1,b2,b3,b4,b5,b6,b7,b8⟩:=HC.out _ hb1)))
     obtain⟨bE,oE,hEa⟩:=HXA.out.resolve_left (by omega)
     subst hEa
     have HBw:Hid (Below w.heap.size w w1):=HB0.out.trans (hb1.mono hzB)
     have hHX:=TqsIn.keep (w':=World.hide w1 p) (hide_below HBw.out fun _ _ h=>h) HX.out.ar
     obtain⟨xe,xc,xa,xk,gc,hXy⟩:=hHX.get rfl hN0
     have hy0:s.args[0]=y:=by have:=HY.out;simp[this]
     have hyn:y.nodes≤1000000000:=by
      have:=tq_nodes_arg (s:=s) (x:=y) (by rw[HY.out];exact List.mem_singleton.2 rfl)
      have:=HN.out
      omega
     rw[hy0] at gc hXy
     obtain⟨g0,g1,g2,g3,g4,g5,g6,g7,g8⟩:=cell9F gc
     rw[Nat.zero_mul,Nat.add_zero] at g0 g1 g2 g3 g4 g5 g6 g7 g8
     have f0:=hide_cell _ _ g0
     have f1:=hide_cell _ _ g1
     have f2:=hide_cell _ _ g2
     have f3:=hide_cell _ _ g3
     have f4:=hide_cell _ _ g4
     have f5:=hide_cell _ _ g5
     have f6:=hide_cell _ _ g6
     have f7:=hide_cell _ _ g7
     have f8:=hide_cell _ _ g8
     have HNs:=Lib.hid (tqnames_any y p xe xc xa xk w1 hXy (fun j hj=>by have:=Hp.out j hj;have:=HBw.out.size;omega) hyn)
     rw[tqVal_eqF] at HNs
     clear gc g0 g1 g2 g3 g4 g5 g6 g7 g8 hXy hHX hy0 hyn
     go_upto_region 13 with (go_at_call 200;go_must (refine HNs.out.mono ?_;rintro e w2 ⟨sa,sc,rfl,hs2,hb2⟩))
     generalize hW3:World.alloc w2 _=W3
     have hc3:W3.cell? ⟨w2.heap.size,0,none⟩=some (.slice sa (setNm y).length sc):=by rw[← hW3];simp
     have hB23:Below w2.heap.size w2 W3:=by rw[← hW3];exact(Below.refl _ _).alloc (Nat.le_refl _) _
     have hB3:Below w1.heap.size w1 W3:=hb2.trans (hB23.mono hb2.size)
     have HS3:Hid (StrsIn W3 (setNm y) sa sc):=hs2.keep (keeps_of_below hB23)
     have HBx3:Hid (Below Bx.heap.size Bx W3):=hb1.trans (hB3.mono hb1.size)
     have HN3:=Lib.hid (HNm.out W3 (HB0.out.trans (HBx3.out.mono hzB)))
     have eg:∀ args w,(callFunc 202 args).run Tryz.prog w=.ok (.enter 202 args) w:=enters_of Tryz.func202 (by kernel_rfl) rfl
     have HC3:=Lib.hid hc3
     have HCF:Hid (∀ W a' c',Below W3.heap.size W3 W→StrsIn W (namesS [2] s.expr) a' c'→Calls Tryz.prog 201 #[.slice a' (namesS [2] s.expr).length c',.func (.func 202) #[] #[.pointer (some ⟨w2.heap.size,0,none⟩)]] W fun e w'=>e=.returned (.bool st)∧Below W.heap.size W w'):=fun W a' c' hW hs=>by
      rw[HST.out]
      exact containsFS_any _ eg _ _ _ (node1_any w2.heap.size (setNm y) sa sc) (fun W1 W2 h h2=>⟨keeps_of_below h2 _ _ h.1,h.2.keep (keeps_of_below h2)⟩) _ a' c' W hs ⟨keeps_of_below hW _ _ HC3.out,HS3.out.keep (keeps_of_below hW)⟩
     clear b0 b1 b2 b3 b4 b5 b6 b7 b8
     obtain⟨b0,b1,b2,b3,b4,b5,b6,b7,b8⟩:=HC.out _ HBx3.out
     have hz3:=HBx3.out.size
     clear hW3 hc3 hB23 hB3 hs2 hb2 eg f0 f1 f2 f3 f4 f5 f6 f7 f8
     have HR0:Hid (R=if st=true then 13 else 0):=by show _=_;rw[← HR.out];simp[HM.out]
     go_wp2_with (go_at_call 160;go_must (refine HN3.out.mono ?_;rintro e w4 ⟨⟨na,nc,rfl,hs4⟩,hb4⟩))
     have HB4:=Lib.hid hb4
     have hz4:=hb4.size
     refine(HCF.out _ _ _ hb4 hs4).mono ?_
     rintro e w5 ⟨rfl,hb5⟩
     have HB5:Hid (Below w.heap.size w w5):=HB0.out.trans ((HBx3.out.trans ((HB4.out.trans (hb5.mono hz4)).mono hz3)).mono hzB)
     clear hb4 hs4 hb5
     cases st with
     | true =>
      obtain rfl:R=13:=by rw[HR0.out];rfl
      go_wp2_with fail
      go_ret
      exact⟨rfl,HB5.out⟩
     | false =>
      obtain rfl:R=0:=by rw[HR0.out];rfl
      go_wp2_with fail
      go_ret
      exact⟨rfl,HB5.out⟩
    ·have hvb:(vv == 0)=false:=by simp[hv]
     obtain rfl:R=vv:=by rw[← HR.out];simp[HM.out,hv]
     go_wp2_with (first | (go_at_call 197;go_must (refine(HSh.out _ (by first | exact hb1 | exact Below.refl _ _)).mono ?_;rintro e w1 ⟨rfl,hb1⟩;(try clear b0 b1 b2 b3 b4 b5 b6 b7 b8);obtain⟨b0,b1,b2,b3,b4,b5,b6,b7,b8⟩:=HC.out _ hb1)) | (go_at_call 198;go_must (refine(HWr.out _ (by first | exact hb1 | exact Below.refl _ _)).mono ?_;rintro e w1 ⟨rfl,hb1⟩;(try clear b0 b1 b2 b3 b4 b5 b6 b7 b8);obtain⟨b0,b1,b2,b3,b4,b5,b6,b7,b8⟩:=HC.out _ hb1)) | (go_at_call 199;go_must (refine(HZ.out _ (by first | exact hb1 | exact Below.refl _ _)).mono ?_;rintro e w1 ⟨rfl,hb1⟩;(try clear b0 b1 b2 b3 b4 b5 b6 b7 b8);obtain⟨b0,b1,b2,b3,b4,b5,b6,b7,b8⟩:=HC.out _ hb1)) | (go_at_call 122;go_must (refine(HIs.out _ (by first | exact hb1 | exact Below.refl _ _)).mono ?_;rintro e w1 ⟨rfl,hb1⟩;(try clear b0 b1 b2 b3 b4 b5 b6 b7 b8);obtain⟨b0,b1,b2,b3,b4,b5,b6,b7,b8⟩:=HC.out _ hb1)) | (go_at_call 121;go_must (refine(HVa.out _ (by first | exact hb1 | exact Below.refl _ _)).mono ?_;rintro e w1 ⟨rfl,hb1⟩;(try clear b0 b1 b2 b3 b4 b5 b6 b7 b8);obtain⟨b0,b1,b2,b3,b4,b5,b6,b7,b8⟩:=HC.out _ hb1)))
     go_ret
     exact⟨rfl,HB0.out.trans (hb1.mono hzB)⟩
   ·have he:=name_ne hm
    have he2:(s.name.toList == [])=false:=by simpa using he
    have he3:(s.name.toList != [])=true:=by simpa using he
    have he4:s.name.toList.isEmpty=false:=by simpa using he
    have HM:=Lib.hid hm
    clear hm
    obtain rfl:R=1:=by rw[← HR.out];simp[HM.out]
    go_wp2_with (first | (go_at_call 197;go_must (refine(HSh.out _ (by first | exact hb1 | exact Below.refl _ _)).mono ?_;rintro e w1 ⟨rfl,hb1⟩;(try clear b0 b1 b2 b3 b4 b5 b6 b7 b8);obtain⟨b0,b1,b2,b3,b4,b5,b6,b7,b8⟩:=HC.out _ hb1)) | (go_at_call 198;go_must (refine(HWr.out _ (by first | exact hb1 | exact Below.refl _ _)).mono ?_;rintro e w1 ⟨rfl,hb1⟩;(try clear b0 b1 b2 b3 b4 b5 b6 b7 b8);obtain⟨b0,b1,b2,b3,b4,b5,b6,b7,b8⟩:=HC.out _ hb1)) | (go_at_call 199;go_must (refine(HZ.out _ (by first | exact hb1 | exact Below.refl _ _)).mono ?_;rintro e w1 ⟨rfl,hb1⟩;(try clear b0 b1 b2 b3 b4 b5 b6 b7 b8);obtain⟨b0,b1,b2,b3,b4,b5,b6,b7,b8⟩:=HC.out _ hb1)) | (go_at_call 122;go_must (refine(HIs.out _ (by first | exact hb1 | exact Below.refl _ _)).mono ?_;rintro e w1 ⟨rfl,hb1⟩;(try clear b0 b1 b2 b3 b4 b5 b6 b7 b8);obtain⟨b0,b1,b2,b3,b4,b5,b6,b7,b8⟩:=HC.out _ hb1)) | (go_at_call 121;go_must (refine(HVa.out _ (by first | exact hb1 | exact Below.refl _ _)).mono ?_;rintro e w1 ⟨rfl,hb1⟩;(try clear b0 b1 b2 b3 b4 b5 b6 b7 b8);obtain⟨b0,b1,b2,b3,b4,b5,b6,b7,b8⟩:=HC.out _ hb1)))
    go_ret
    exact⟨rfl,HB0.out.trans (hb1.mono hzB)⟩
  ·have hw:writtenB s.op=false:=by rw[hwr];simp[n1,n6,n7]
   rw[hw] at HWr HR
   have N1:=Lib.hid n1
   have N6:=Lib.hid n6
   have N7:=Lib.hid n7
   clear HSet hw hwr HSI
   cases zx with
   | false =>
    obtain rfl:R=1:=by rw[← HR.out];simp[]
    go_wp2_with (first | (go_at_call 197;go_must (refine(HSh.out _ (by first | exact hb1 | exact Below.refl _ _)).mono ?_;rintro e w1 ⟨rfl,hb1⟩;(try clear b0 b1 b2 b3 b4 b5 b6 b7 b8);obtain⟨b0,b1,b2,b3,b4,b5,b6,b7,b8⟩:=HC.out _ hb1)) | (go_at_call 198;go_must (refine(HWr.out _ (by first | exact hb1 | exact Below.refl _ _)).mono ?_;rintro e w1 ⟨rfl,hb1⟩;(try clear b0 b1 b2 b3 b4 b5 b6 b7 b8);obtain⟨b0,b1,b2,b3,b4,b5,b6,b7,b8⟩:=HC.out _ hb1)) | (go_at_call 199;go_must (refine(HZ.out _ (by first | exact hb1 | exact Below.refl _ _)).mono ?_;rintro e w1 ⟨rfl,hb1⟩;(try clear b0 b1 b2 b3 b4 b5 b6 b7 b8);obtain⟨b0,b1,b2,b3,b4,b5,b6,b7,b8⟩:=HC.out _ hb1)) | (go_at_call 122;go_must (refine(HIs.out _ (by first | exact hb1 | exact Below.refl _ _)).mono ?_;rintro e w1 ⟨rfl,hb1⟩;(try clear b0 b1 b2 b3 b4 b5 b6 b7 b8);obtain⟨b0,b1,b2,b3,b4,b5,b6,b7,b8⟩:=HC.out _ hb1)) | (go_at_call 121;go_must (refine(HVa.out _ (by first | exact hb1 | exact Below.refl _ _)).mono ?_;rintro e w1 ⟨rfl,hb1⟩;(try clear b0 b1 b2 b3 b4 b5 b6 b7 b8);obtain⟨b0,b1,b2,b3,b4,b5,b6,b7,b8⟩:=HC.out _ hb1)))
    go_ret
    exact⟨rfl,HB0.out.trans (hb1.mono hzB)⟩
   | true =>
    by_cases hm:s.name.size=0
    ·have he:=name_mt hm
     rw[he] at HC b7 HSh
     have HM:=Lib.hid hm
     clear hm
     obtain rfl:R=0:=by rw[← HR.out];simp[HM.out,N6.out,N7.out]
     go_wp2_with (first | (go_at_call 197;go_must (refine(HSh.out _ (by first | exact hb1 | exact Below.refl _ _)).mono ?_;rintro e w1 ⟨rfl,hb1⟩;(try clear b0 b1 b2 b3 b4 b5 b6 b7 b8);obtain⟨b0,b1,b2,b3,b4,b5,b6,b7,b8⟩:=HC.out _ hb1)) | (go_at_call 198;go_must (refine(HWr.out _ (by first | exact hb1 | exact Below.refl _ _)).mono ?_;rintro e w1 ⟨rfl,hb1⟩;(try clear b0 b1 b2 b3 b4 b5 b6 b7 b8);obtain⟨b0,b1,b2,b3,b4,b5,b6,b7,b8⟩:=HC.out _ hb1)) | (go_at_call 199;go_must (refine(HZ.out _ (by first | exact hb1 | exact Below.refl _ _)).mono ?_;rintro e w1 ⟨rfl,hb1⟩;(try clear b0 b1 b2 b3 b4 b5 b6 b7 b8);obtain⟨b0,b1,b2,b3,b4,b5,b6,b7,b8⟩:=HC.out _ hb1)) | (go_at_call 122;go_must (refine(HIs.out _ (by first | exact hb1 | exact Below.refl _ _)).mono ?_;rintro e w1 ⟨rfl,hb1⟩;(try clear b0 b1 b2 b3 b4 b5 b6 b7 b8);obtain⟨b0,b1,b2,b3,b4,b5,b6,b7,b8⟩:=HC.out _ hb1)) | (go_at_call 121;go_must (refine(HVa.out _ (by first | exact hb1 | exact Below.refl _ _)).mono ?_;rintro e w1 ⟨rfl,hb1⟩;(try clear b0 b1 b2 b3 b4 b5 b6 b7 b8);obtain⟨b0,b1,b2,b3,b4,b5,b6,b7,b8⟩:=HC.out _ hb1)))
     go_ret
     exact⟨rfl,HB0.out.trans (hb1.mono hzB)⟩
    ·have he:=name_ne hm
     have he2:(s.name.toList == [])=false:=by simpa using he
     have he3:(s.name.toList != [])=true:=by simpa using he
     have he4:s.name.toList.isEmpty=false:=by simpa using he
     have HM:=Lib.hid hm
     clear hm
     obtain rfl:R=1:=by rw[← HR.out];simp[HM.out,N6.out]
     go_wp2_with (first | (go_at_call 197;go_must (refine(HSh.out _ (by first | exact hb1 | exact Below.refl _ _)).mono ?_;rintro e w1 ⟨rfl,hb1⟩;(try clear b0 b1 b2 b3 b4 b5 b6 b7 b8);obtain⟨b0,b1,b2,b3,b4,b5,b6,b7,b8⟩:=HC.out _ hb1)) | (go_at_call 198;go_must (refine(HWr.out _ (by first | exact hb1 | exact Below.refl _ _)).mono ?_;rintro e w1 ⟨rfl,hb1⟩;(try clear b0 b1 b2 b3 b4 b5 b6 b7 b8);obtain⟨b0,b1,b2,b3,b4,b5,b6,b7,b8⟩:=HC.out _ hb1)) | (go_at_call 199;go_must (refine(HZ.out _ (by first | exact hb1 | exact Below.refl _ _)).mono ?_;rintro e w1 ⟨rfl,hb1⟩;(try clear b0 b1 b2 b3 b4 b5 b6 b7 b8);obtain⟨b0,b1,b2,b3,b4,b5,b6,b7,b8⟩:=HC.out _ hb1)) | (go_at_call 122;go_must (refine(HIs.out _ (by first | exact hb1 | exact Below.refl _ _)).mono ?_;rintro e w1 ⟨rfl,hb1⟩;(try clear b0 b1 b2 b3 b4 b5 b6 b7 b8);obtain⟨b0,b1,b2,b3,b4,b5,b6,b7,b8⟩:=HC.out _ hb1)) | (go_at_call 121;go_must (refine(HVa.out _ (by first | exact hb1 | exact Below.refl _ _)).mono ?_;rintro e w1 ⟨rfl,hb1⟩;(try clear b0 b1 b2 b3 b4 b5 b6 b7 b8);obtain⟨b0,b1,b2,b3,b4,b5,b6,b7,b8⟩:=HC.out _ hb1)))
     go_ret
     exact⟨rfl,HB0.out.trans (hb1.mono hzB)⟩
end Go.Proofs.YthojpomoflhbcaaGreatDoor
namespace Go.Proofs.YthojpomoflhbcaaGreatDoor
open Go.RowKit
attribute [local go_sem ↓] Go.wp_at_zero Go.wp_at_succ
noncomputable def SmT (s:Tq):Prop:=s.para fun s l=>s.expr.nodes.length≤1000000000∧∀ x∈l,x
theorem SmT_iff (s:Tq):SmT s↔s.expr.nodes.length≤1000000000∧∀ a∈s.args,SmT a:=by
 unfold SmT
 rw[Tq.para_eq]
 exact and_congr_right fun _=>⟨fun h a ha=>h _ (List.mem_map.2 ⟨a,ha,rfl⟩),fun h x hx=>by obtain⟨a,ha,rfl⟩:=List.mem_map.1 hx;exact h a ha⟩
theorem firstZ_hit:∀ {l:List Int} {k:Nat} (hk:k < l.length),(∀ j (hj:j < l.length),j < k→l[j]'hj=0)→l[k]'hk≠0→firstZ l=l[k]'hk:=by
 intro l
 induction l with
 | nil=>intro k hk;simp at hk
 | cons a l ih =>
  intro k hk hb h
  cases k with
  | zero =>
   have h':a≠0:=h
   rw[firstZ,if_neg h'];rfl
  | succ k =>
   have h0:a=0:=hb 0 (by simp) (by omega)
   rw[firstZ,if_pos h0]
   exact ih (by simpa using hk) (fun j hj hjk=>hb (j+1) (by simpa using hj) (by omega)) h
set_option maxHeartbeats 8000000 in
set_option maxRecDepth 100000 in
theorem tcheck_any (s:Tq):∀ (below:Bool) (p:Nat→Bool) (ae:Option Addr) (ce:Nat) (a:Option Addr) (cap:Nat) (w:World),TqIn (World.hide w p) s ae ce a cap→(∀ j,p j=true→j < w.heap.size)→s.nodes≤1000000000→SmT s→Glob w →
  Calls Tryz.prog 83 #[tqVal s ae ce a cap,.bool below] w fun e w'=>e=.returned (.int .i64 (checkT s below))∧Below w.heap.size w w':=by
 induction s using Tq.ind with
 | h s ih =>
  intro below p ae ce a cap w hX hp hn hsm hG
  obtain⟨hxn,hsa⟩:=(SmT_iff s).1 hsm
  have HIH:Hid (∀ k (hk:k < s.args.length),∀ (xe:Option Addr) (xc:Nat) (xa:Option Addr) (xk:Nat) (W:World),TqIn (World.hide W p) (s.args[k]'hk) xe xc xa xk→Below w.heap.size w W→Calls Tryz.prog 83 #[tqVal (s.args[k]'hk) xe xc xa xk,.bool (below || s.op == 5)] W fun e w'=>e=.returned (.int .i64 (checkT (s.args[k]'hk) (below || s.op == 5)))∧Below W.heap.size W w'):=fun k hk xe xc xa xk W h1 hW=>ih _ (List.getElem_mem hk) _ p xe xc xa xk W h1 (fun j hj=>by have:=hp j hj;have:=hW.size;omega) (Nat.le_trans (Nat.le_of_lt (tq_nodes_arg (List.getElem_mem hk))) hn) (hsa _ (List.getElem_mem hk)) (hG.below hW)
  have HNd:Hid (∀ W,Below w.heap.size w W→Calls Tryz.prog 135 #[tqVal s ae ce a cap,.bool below] W fun e w'=>e=.returned (.int .i64 (nodeT s below))∧Below W.heap.size W w'):=fun W hW=>tnode_any s below p ae ce a cap W (hX.keep (hide_below hW fun _ _ h=>h)) (fun j hj=>by have:=hp j hj;have:=hW.size;omega) hn hxn (hG.below hW)
  have hlen:=hX.ar.2.1
  have HX:=Lib.hid hX.ar
  have HXA:Hid (s.args.length=0∨∃ b off,a=some ⟨b,off,none⟩):=SliceIn.addr hX.ar
  have HR1:Hid (nodeT s below≠0→checkT s below=nodeT s below):=fun h=>by rw[checkT_eq,if_neg h]
  have HR2:Hid (nodeT s below=0→∀ k (hk:k < s.args.length),(∀ j (hj:j < s.args.length),j < k→checkT (s.args[j]'hj) (below || s.op == 5)=0)→checkT (s.args[k]'hk) (below || s.op == 5)≠0→checkT s below=checkT (s.args[k]'hk) (below || s.op == 5)):=fun h k hk hb hne=>by
   rw[checkT_eq,if_pos h,firstZ_hit (k:=k) (by simpa using hk) (fun j hj hjk=>by simpa using hb j (by simpa using hj) hjk) (by simpa using hne)]
   simp
  have HR3:Hid (nodeT s below=0→(∀ j (hj:j < s.args.length),checkT (s.args[j]'hj) (below || s.op == 5)=0)→checkT s below=0):=fun h hb=>by
   rw[checkT_eq,if_pos h]
   refine firstZ_zero.2 fun x hx=>?_
   obtain⟨y,hy,rfl⟩:=List.mem_map.1 hx
   obtain⟨j,hj,rfl⟩:=List.getElem_of_mem hy
   exact hb j hj
  generalize checkT s below=R at HR1 HR2 HR3⊢
  generalize nodeT s below=nv at HNd HR1 HR2 HR3
  clear hX hp hn hsm hG hxn hsa ih
  rw[tqVal_eqF] at HNd⊢
  go_enter Tryz.func83, Tryz.ntmps83
  go_upto_region 1 with fail
  generalize hBx:World.alloc w _=Bx
  have HB0:Hid (Below w.heap.size w Bx):=by show Below _ _ _;rw[← hBx];exact(Below.refl _ _).alloc (Nat.le_refl _) _
  have hzB:=HB0.out.size
  have HBX:Hid (Bx.heap[w.heap.size]? = some (tqBoxF s ae ce a cap)):=by show _=_;rw[← hBx];exact hx_newT rfl
  obtain⟨b0,b1,b2,b3,b4,b5,b6,b7,b8⟩:=cell9TF HBX.out
  clear hBx
  go_wp2_with fail
  refine(HNd.out _ HB0.out).mono ?_
  rintro e w1 ⟨rfl,hb1⟩
  have HB1:Hid (Below w.heap.size w w1):=HB0.out.trans (hb1.mono hzB)
  have HBX1:Hid (w1.heap[w.heap.size]? = some (tqBoxF s ae ce a cap)):=(hb1.block _ (lt_of_block HBX.out)).trans HBX.out
  have hz1:=HB1.out.size
  clear hb1 b0 b1 b2 b3 b4 b5 b6 b7 b8
  by_cases hv:nv=0
  ·subst hv
   replace HR2:=Lib.hid (HR2.out rfl)
   replace HR3:=Lib.hid (HR3.out rfl)
   clear HR1 HNd
   obtain⟨b0,-,-,-,-,-,-,-,b8⟩:=cell9TF HBX1.out
   go_wp2_with fail
   clear b0 b8
   go_loopw [18,7,8] (fun i _ _ wr=>∃ k:Nat,i=.int .i64 k∧k≤s.args.length∧Hid (∀ j (hj:j < s.args.length),j < k→checkT (s.args[j]'hj) (below || s.op == 5)=0)∧Hid (Below w1.heap.size w1 wr)) (fun i _ _ _=>s.args.length - (intOf i).toNat)
   case atStart=>exact⟨0,rfl,Nat.zero_le _,fun _ _ h=>absurd h (by omega),Below.refl _ _⟩
   case round =>
    obtain⟨k,rfl,hk,HAl,HBr⟩:=hrel
    have hzr:=HBr.out.size
    have HBw:Hid (Below w.heap.size w wr):=HB1.out.trans (HBr.out.mono hz1)
    by_cases hlt:k < s.args.length
    ·obtain⟨bE,oE,hEa⟩:=HXA.out.resolve_left (by omega)
     subst hEa
     obtain⟨xe,xc,xa,xk,gc,hXy⟩:=(TqsIn.keep (w':=World.hide wr p) (hide_below HBw.out fun _ _ h=>h) HX.out).get rfl hlt
     obtain⟨g0,g1,g2,g3,g4,g5,g6,g7,g8⟩:=cell9F gc
     have f0:=hide_cell _ _ g0
     have f1:=hide_cell _ _ g1
     have f2:=hide_cell _ _ g2
     have f3:=hide_cell _ _ g3
     have f4:=hide_cell _ _ g4
     have f5:=hide_cell _ _ g5
     have f6:=hide_cell _ _ g6
     have f7:=hide_cell _ _ g7
     have f8:=hide_cell _ _ g8
     have HC:=Lib.hid fun W (hW:Below wr.heap.size wr W)=>HIH.out k hlt xe xc xa xk W (hXy.keep (hide_below hW fun _ _ h=>h)) (HBw.out.trans (hW.mono HBw.out.size))
     have HNx:Hid (checkT (s.args[k]'hlt) (below || s.op == 5)=0→∀ j (hj:j < s.args.length),j < k+1→checkT (s.args[j]'hj) (below || s.op == 5)=0):=fun hv j hj hjk=>by
      by_cases e:j=k
      ·subst e;exact hv
      ·exact HAl.out j hj (by omega)
     have HYx:Hid (checkT (s.args[k]'hlt) (below || s.op == 5)≠0→R=checkT (s.args[k]'hlt) (below || s.op == 5)):=fun h=>HR2.out k hlt HAl.out h
     have hbx:=(HBr.out.block _ (lt_of_block HBX1.out)).trans HBX1.out
     have b0:∀ o,(wr.alloc o).cell? ⟨w.heap.size,0,none⟩=some (.int .i64 s.op):=fun o=>by rw[cell_of_blkT (hx_oldT (o:=o) hbx)];rfl
     clear gc g0 g1 g2 g3 g4 g5 g6 g7 g8 hXy hbx
     generalize (s.args[k]'hlt)=y at f0 f1 f2 f3 f4 f5 f6 f7 f8 HC HNx HYx
     rw[tqVal_eqF] at HC
     obtain⟨q,hq⟩:∃ q,(below || s.op == 5)=q:=⟨_,rfl⟩
     have hbq:(below=true∧q=true)∨(below=false∧(s.op == 5)=q):=by
      cases below with
      | true=>left;exact⟨rfl,by rw[← hq];rfl⟩
      | false=>right;exact⟨rfl,by rw[← hq];rfl⟩
     generalize hcv:checkT y (below || s.op == 5)=cv at HC HNx HYx
     rw[hq] at HC
     clear hq hcv
     have HCf:Hid (∀ W,Below wr.heap.size wr W→Calls Tryz.prog 83 #[.agg #[.int .i64 y.op,.int .i64 y.lo,.int .i64 y.hi,.int .i64 y.expr.op,.int .i64 y.expr.n,.string y.expr.name,.slice xe y.expr.args.length xc,.string y.name,.slice xa y.args.length xk],.bool q] W fun e w'=>e=.returned (.int .i64 cv)∧Below w1.heap.size w1 w'):=fun W hW=>(HC.out W hW).mono fun e w' h=>⟨h.1,HBr.out.trans ((hW.trans (h.2.mono hW.size)).mono hzr)⟩
     clear HC
     rcases hbq with ⟨hb,hq⟩ | ⟨hb,hq⟩
     all_goals
      subst hb
      subst hq
      by_cases hv:cv=0
      ·subst hv
       replace HNx:=Lib.hid (HNx.out rfl)
       go_wp2_with (go_at_call 83;go_must (refine(HCf.out _ belR).mono ?_;rintro e w5 ⟨rfl,hb5⟩;have HB5:=Lib.hid hb5;clear hb5))
       go_roundw
       case rel=>exact⟨k+1,by go_num,by omega,HNx.out,HB5.out⟩
       case measure=>(simp[intOf];try omega)
      ·obtain rfl:=HYx.out hv
       have hvb:(R == 0)=false:=by simp[hv]
       go_wp2_with (go_at_call 83;go_must (refine(HCf.out _ belR).mono ?_;rintro e w5 ⟨rfl,hb5⟩;have HB5:=Lib.hid hb5;clear hb5))
       go_ret
       exact⟨rfl,HB1.out.trans (HB5.out.mono hz1)⟩
    ·obtain rfl:k=s.args.length:=by omega
     obtain rfl:R=0:=HR3.out fun j hj=>HAl.out j hj hj
     go_wp2_with fail
     go_ret
     exact⟨rfl,HBw.out⟩
  ·obtain rfl:R=nv:=HR1.out hv
   have hvb:(R == 0)=false:=by simp[hv]
   clear HR2 HR3
   go_wp2_with fail
   go_ret
   exact⟨rfl,HB1.out⟩
theorem tvalid_any (s:Tq) (p:Nat→Bool) (ae:Option Addr) (ce:Nat) (a:Option Addr) (cap:Nat) (w:World) (hX:TqIn (World.hide w p) s ae ce a cap) (hp:∀ j,p j=true→j < w.heap.size) (hn:s.nodes≤1000000000) (hs:SmT s) (hG:Glob w) :
  Calls Tryz.prog 42 #[tqVal s ae ce a cap] w fun e w'=>e=.returned (.int .i64 (validT s))∧Below w.heap.size w w':=by
 have hpW:∀ W,Below w.heap.size w W→∀ j,p j=true→j < W.heap.size:=fun W hW j hj=>by have:=hp j hj;have:=hW.size;omega
 have HD:=Lib.hid fun W (hW:Below w.heap.size w W)=>tqdepth_any s p ae ce a cap W (hX.keep (hide_below hW fun _ _ h=>h)) (hpW W hW) hn
 have HS:=Lib.hid fun W (hW:Below w.heap.size w W)=>tqSize_any s p ae ce a cap W (hX.keep (hide_below hW fun _ _ h=>h)) (hpW W hW) hn
 have HC:=Lib.hid fun W (hW:Below w.heap.size w W)=>tcheck_any s false p ae ce a cap W (hX.keep (hide_below hW fun _ _ h=>h)) (hpW W hW) hn hs (hG.below hW)
 have HR:Hid (validT s=if 8 < s.depth∨100 < s.nodes then 2 else checkT s false):=rfl
 generalize validT s=R at HR⊢
 generalize checkT s false=cv at HC HR
 generalize s.depth=d at HD HR
 generalize s.nodes=m at HS HR
 clear hX hp hn hs hG hpW
 rw[tqVal_eqF] at HD HS HC⊢
 go_enter Tryz.func42, Tryz.ntmps42
 go_upto_region 1 with fail
 generalize hBx:World.alloc w _=Bx
 have HB0:Hid (Below w.heap.size w Bx):=by show Below _ _ _;rw[← hBx];exact(Below.refl _ _).alloc (Nat.le_refl _) _
 have hzB:=HB0.out.size
 have HBX:Hid (∀ W,Below Bx.heap.size Bx W→W.heap[w.heap.size]? = some (tqBoxF s ae ce a cap)):=fun W hW=>by
  have h0:Bx.heap[w.heap.size]? = some (tqBoxF s ae ce a cap):=by rw[← hBx];exact hx_newT rfl
  exact(hW.block _ (lt_of_block h0)).trans h0
 clear hBx
 have HT:Hid (∀ (f:FuncId) (args:Array Value) (v:Value),(∀ W,Below w.heap.size w W→Calls Tryz.prog f args W fun e w'=>e=.returned v∧Below W.heap.size W w')→∀ W,Below Bx.heap.size Bx W→Calls Tryz.prog f args W fun e w'=>e=.returned v∧Below Bx.heap.size Bx w'):=fun f args v h W hW=>(h W (HB0.out.trans (hW.mono hzB))).mono fun e w' hq=>⟨hq.1,hW.trans (hq.2.mono hW.size)⟩
 replace HD:=Lib.hid (HT.out _ _ _ HD.out)
 replace HS:=Lib.hid (HT.out _ _ _ HS.out)
 replace HC:=Lib.hid (HT.out _ _ _ HC.out)
 clear HT
 have hbx:=Below.refl Bx.heap.size Bx
 obtain⟨b0,b1,b2,b3,b4,b5,b6,b7,b8⟩:=cell9TF (HBX.out _ hbx)
 clear hbx
 by_cases hd:8 < d
 ·obtain rfl:R=2:=by rw[HR.out,if_pos (Or.inl hd)]
  have hd2:(8:Int) < (d:Int):=by omega
  go_wp2_with (go_at_call 81;go_must (refine(HD.out _ (Below.refl _ _)).mono ?_;rintro e w1 ⟨rfl,hb1⟩;have HB1:=Lib.hid hb1;clear hb1))
  go_ret
  exact⟨rfl,HB0.out.trans (HB1.out.mono hzB)⟩
 ·have hd2:¬ (8:Int) < (d:Int):=by omega
  by_cases hm:100 < m
  ·obtain rfl:R=2:=by rw[HR.out,if_pos (Or.inr hm)]
   have hm2:(100:Int) < (m:Int):=by omega
   go_wp2_with (go_at_call 81;go_must (refine(HD.out _ (Below.refl _ _)).mono ?_;rintro e w1 ⟨rfl,hb1⟩;clear b0 b1 b2 b3 b4 b5 b6 b7 b8;obtain⟨b0,b1,b2,b3,b4,b5,b6,b7,b8⟩:=cell9TF (HBX.out _ hb1);have HB1:=Lib.hid hb1;clear hb1))
   refine(HS.out _ HB1.out).mono ?_
   rintro e w2 ⟨rfl,hb2⟩
   have HB2:=Lib.hid hb2
   clear hb2
   go_wp2_with fail
   go_ret
   exact⟨rfl,HB0.out.trans (HB2.out.mono hzB)⟩
  ·obtain rfl:R=cv:=by rw[HR.out,if_neg (by omega)]
   have hm2:¬ (100:Int) < (m:Int):=by omega
   go_wp2_with (go_at_call 81;go_must (refine(HD.out _ (Below.refl _ _)).mono ?_;rintro e w1 ⟨rfl,hb1⟩;clear b0 b1 b2 b3 b4 b5 b6 b7 b8;obtain⟨b0,b1,b2,b3,b4,b5,b6,b7,b8⟩:=cell9TF (HBX.out _ hb1);have HB1:=Lib.hid hb1;clear hb1))
   refine(HS.out _ HB1.out).mono ?_
   rintro e w2 ⟨rfl,hb2⟩
   clear b0 b1 b2 b3 b4 b5 b6 b7 b8
   obtain⟨b0,b1,b2,b3,b4,b5,b6,b7,b8⟩:=cell9TF (HBX.out _ hb2)
   have HB2:=Lib.hid hb2
   clear hb2
   go_wp2_with fail
   refine(HC.out _ HB2.out).mono ?_
   rintro e w3 ⟨rfl,hb3⟩
   have HB3:=Lib.hid hb3
   clear hb3
   go_wp2_with fail
   go_ret
   exact⟨rfl,HB0.out.trans (HB3.out.mono hzB)⟩
end Go.Proofs.YthojpomoflhbcaaGreatDoor
