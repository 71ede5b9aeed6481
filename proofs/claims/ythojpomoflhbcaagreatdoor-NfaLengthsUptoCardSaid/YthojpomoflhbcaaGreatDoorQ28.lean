/- tseq.node. -/
import Derived.Test.YthojpomoflhbcaaGreatDoorQ27
import Derived.Test.YthojpomoflhbcaaGreatDoorQ23
import Derived.Test.YthojpomoflhbcaaGreatDoorQ26
set_option maxHeartbeats 16000000
set_option maxRecDepth 100000
set_option linter.unusedSimpArgs false
set_option linter.unusedVariables false
set_option linter.unnecessarySimpa false
namespace Go.Proofs.YthojpomoflhbcaaGreatDoor
open Go.RowKit
attribute [local go_sem ↓] Go.wp_at_zero Go.wp_at_succ
theorem XV {s:ByteArray} (h:¬s.size=0):¬s.toList=[]:=λe=>h (by
 have:s.toList.length=0:=by rw[e];rfl
 rwa [ByteArray.toList_eq,Array.length_toList]at this)
theorem Q9 {s:ByteArray} (h:s.size=0):s=⟨#[]⟩:=by have:s.data.size=0:=h;exact ByteArray.ext (Array.eq_empty_of_size_eq_zero this)
def zly (op:Int) (bs wr zx nb st below:Bool) (mt:Prop) [Decidable mt] (vv:Int):Int :=
 if bs=false\/(wr=false/\zx=false)\/(op≠6/\¬mt) then 1
 else if op=6/\nb=false then 7
 else if wr=true/\vv≠0 then vv
 else if op=6/\below=true then 13
 else if op=7/\st=true then 13
 else 0
theorem zlw (s:Tq) (below:Bool):xZ s below=zly s.op (qJ s) (zS s.op) (YK s.expr) (yW s.name.data.toList) (XB s) below (s.name.size=0) (zZ s.expr):=rfl
theorem zjY (s:Tq) (ae:Option Addr) (ce:Nat) (a:Option Addr) (cap:Nat) (w:World):∀W,Below w.heap.size w W->Calls Tryz.prog 197 #[ym s ae ce a cap] W λe w'=>e=.returned (.bool (qJ s))/\Below W.heap.size W w':=λW hW=>by
 first
  |exact zcZ s ae ce a cap W
  |exact ze4 s.expr ae ce W
theorem zmc (s:Tq) (ae:Option Addr) (ce:Nat) (a:Option Addr) (cap:Nat) (w:World):∀W,Below w.heap.size w W->Calls Tryz.prog 199 #[yu s.expr ae ce] W λe w'=>e=.returned (.bool (YK s.expr))/\Below W.heap.size W w':=λW hW=>by
 first
  |exact zcZ s ae ce a cap W
  |exact ze4 s.expr ae ce W
theorem zim (s:Tq) (below:Bool) (p:Nat->Bool) (ae:Option Addr) (ce:Nat) (a:Option Addr) (cap:Nat) (w:World) (hX:Zr (World.hide w p) s ae ce a cap) (hp:∀j,p j=true->j<w.heap.size) (hn:s.nodes<=1000000000) (hxn:s.expr.nodes.length<=1000000000) (hG:ZW w) :
 Calls Tryz.prog 135 #[ym s ae ce a cap,.bool below] w λe w'=>e=.returned (.int .i64 (xZ s below))/\Below w.heap.size w w':=by
 have HSh:=Lib.hid (zjY s ae ce a cap w);have HZ:=Lib.hid (zmc s ae ce a cap w);have HIs:=Lib.hid λW (hW:Below w.heap.size w W)=>Zw s.name W hX.nm (hG.below hW);have hEx:yY w s.expr ae ce:=hX.ex.keep zb;have HVa:=Lib.hid λW (hW:Below w.heap.size w W)=>zbW s.expr ae ce W (hG.below hW) (hEx.keep (za hW)) hxn;have HWr:Hid (∀W,Below w.heap.size w W->Calls Tryz.prog 198 #[.int .i64 s.op] W λe w'=>e=.returned (.bool (zS s.op))/\Below W.heap.size W w'):=λW hW=>(zec s.op W).mono λe w' h=>⟨h.1,by rw[h.2];exact Below.refl _ _⟩;have HNm:Hid (∀W,Below w.heap.size w W->Calls Tryz.prog 160 #[.agg #[.int .i64 s.expr.op,.int .i64 s.expr.n,.string s.expr.name,.slice ae s.expr.args.length ce]] W λe w'=>(∃a' c',e=.returned (.slice a' (zG [2] s.expr).length c')/\zE w' (zG [2] s.expr) a' c')/\Below W.heap.size W w'):=λW hW=>by have h2:=hEx.keep (za hW);have h3:=hxn;generalize s.expr=x at h2 h3;obtain⟨op,n,nm,args⟩:=x;exact QH op n nm args ae ce W h2 (by omega)
 have HSet:Hid (∀(h7:s.op=7),qJ s=true->s.args.length=1):=λh7 hb=>by
  rcases xy hb with h|h|h|⟨h|h,_⟩|⟨_,h,_⟩
  ·omega
  ·omega
  ·omega
  ·omega
  ·omega
  ·exact h
 have HSI:Hid (∀y r,s.args=y::r->XB s=(zG [2] s.expr).any λnm=>Lib.containsS (xd y) nm):=λy r h=>by unfold XB;rw[h]
 have HX:=Lib.hid hX;have Hp:=Lib.hid hp;have HN:=Lib.hid hn;have hlen:=hX.ar.2.1;have hwr:zS s.op=(s.op==1||s.op==6||s.op==7):=rfl;rw[zlw,zo];rw[zo]at HSh;unfold yu at HZ HVa;obtain⟨R,HR⟩:∃R,Hid (zly s.op (qJ s) (zS s.op) (YK s.expr) (yW s.name.data.toList) (XB s) below (s.name.size=0) (zZ s.expr)=R):=⟨_,rfl⟩;rw[HR.out];unfold zly at HR;have HXA:Hid (s.args.length=0\/∃b off,a=some ⟨b,off,none⟩):=zr.addr hX.ar;clear hX hp hn hxn hG hEx;go_enter Tryz.func135, Tryz.ntmps135;go_upto_region 1 with fail;generalize hBx:World.alloc w _=Bx;have HB0:Hid (Below w.heap.size w Bx):=by show Below _ _ _;rw[←hBx];exact(Below.refl _ _).alloc (Nat.le_refl _) _
 have hzB:=HB0.out.size;have HC:Hid (∀W,Below Bx.heap.size Bx W->W.cell? ⟨w.heap.size,0,none⟩=some (.int .i64 s.op)/\W.cell? ⟨w.heap.size,1,none⟩=some (.int .i64 s.lo)/\W.cell? ⟨w.heap.size,2,none⟩=some (.int .i64 s.hi)/\W.cell? ⟨w.heap.size,3,none⟩=some (.int .i64 s.expr.op)/\W.cell? ⟨w.heap.size,4,none⟩=some (.int .i64 s.expr.n)/\W.cell? ⟨w.heap.size,5,none⟩=some (.string s.expr.name)/\W.cell? ⟨w.heap.size,6,none⟩=some (.slice ae s.expr.args.length ce)/\W.cell? ⟨w.heap.size,7,none⟩=some (.string s.name)/\W.cell? ⟨w.heap.size,8,none⟩=some (.slice a s.args.length cap)):=λW hW=>by
  have h0:Bx.heap[w.heap.size]? = some (ye s ae ce a cap):=by rw[←hBx];exact zh rfl
  exact zt ((hW.block _ (lt_of_block h0)).trans h0)
 clear hBx;have HT:Hid (∀(f:FuncId) (args:Array Value) (v:Value),(∀W,Below w.heap.size w W->Calls Tryz.prog f args W λe w'=>e=.returned v/\Below W.heap.size W w')->∀W,Below Bx.heap.size Bx W->Calls Tryz.prog f args W λe w'=>e=.returned v/\Below Bx.heap.size Bx w'):=λf args v h W hW=>(h W (HB0.out.trans (hW.mono hzB))).mono λe w' hq=>⟨hq.1,hW.trans (hq.2.mono hW.size)⟩;replace HSh:=Lib.hid (HT.out _ _ _ HSh.out);replace HZ:=Lib.hid (HT.out _ _ _ HZ.out);replace HIs:=Lib.hid (HT.out _ _ _ HIs.out);replace HVa:=Lib.hid (HT.out _ _ _ HVa.out);replace HWr:=Lib.hid (HT.out _ _ _ HWr.out);clear HT;have hbx:=Below.refl Bx.heap.size Bx;obtain⟨b0,b1,b2,b3,b4,b5,b6,b7,b8⟩:=HC.out _ hbx;clear hbx;generalize YK s.expr=zx at HZ HR;generalize yW s.name.data.toList=nb at HIs HR;generalize zZ s.expr=vv at HVa HR;generalize qJ s=bs at HSh HR HSet;generalize hst:XB s=st at HR HSI;clear hst;cases bs with
 |false =>
  obtain rfl:R=1:=by rw[←HR.out];simp[]
  go_wp2_with (first|(go_at_call 197;go_must (refine(HSh.out _ (by first|exact hb1|exact Below.refl _ _)).mono ?_;rintro e w1 ⟨rfl,hb1⟩;(try clear b0 b1 b2 b3 b4 b5 b6 b7 b8);obtain⟨b0,b1,b2,b3,b4,b5,b6,b7,b8⟩:=HC.out _ hb1))|(go_at_call 198;go_must (refine(HWr.out _ (by first|exact hb1|exact Below.refl _ _)).mono ?_;rintro e w1 ⟨rfl,hb1⟩;(try clear b0 b1 b2 b3 b4 b5 b6 b7 b8);obtain⟨b0,b1,b2,b3,b4,b5,b6,b7,b8⟩:=HC.out _ hb1))|(go_at_call 199;go_must (refine(HZ.out _ (by first|exact hb1|exact Below.refl _ _)).mono ?_;rintro e w1 ⟨rfl,hb1⟩;(try clear b0 b1 b2 b3 b4 b5 b6 b7 b8);obtain⟨b0,b1,b2,b3,b4,b5,b6,b7,b8⟩:=HC.out _ hb1))|(go_at_call 122;go_must (refine(HIs.out _ (by first|exact hb1|exact Below.refl _ _)).mono ?_;rintro e w1 ⟨rfl,hb1⟩;(try clear b0 b1 b2 b3 b4 b5 b6 b7 b8);obtain⟨b0,b1,b2,b3,b4,b5,b6,b7,b8⟩:=HC.out _ hb1))|(go_at_call 121;go_must (refine(HVa.out _ (by first|exact hb1|exact Below.refl _ _)).mono ?_;rintro e w1 ⟨rfl,hb1⟩;(try clear b0 b1 b2 b3 b4 b5 b6 b7 b8);obtain⟨b0,b1,b2,b3,b4,b5,b6,b7,b8⟩:=HC.out _ hb1)));go_ret;exact⟨rfl,HB0.out.trans (hb1.mono hzB)⟩
 |true =>
  have hopc:s.op=1\/s.op=6\/s.op=7\/(¬s.op=1/\¬s.op=6/\¬s.op=7):=by omega
  rcases hopc with h|h|h|⟨n1,n6,n7⟩
  ·have hw:zS s.op=true:=by rw[h];rfl
   rw[hw]at HWr HR;rw[h]at HC HWr HR b0 HSh;clear HSet hw hwr HSI h;by_cases hm:s.name.size=0
   ·have he:=Q9 hm;rw[he]at HC b7 HSh;have HM:=Lib.hid hm;clear hm;by_cases hv:vv=0
    ·subst hv;obtain rfl:R=0:=by rw[←HR.out];simp[HM.out]
     go_wp2_with (first|(go_at_call 197;go_must (refine(HSh.out _ (by first|exact hb1|exact Below.refl _ _)).mono ?_;rintro e w1 ⟨rfl,hb1⟩;(try clear b0 b1 b2 b3 b4 b5 b6 b7 b8);obtain⟨b0,b1,b2,b3,b4,b5,b6,b7,b8⟩:=HC.out _ hb1))|(go_at_call 198;go_must (refine(HWr.out _ (by first|exact hb1|exact Below.refl _ _)).mono ?_;rintro e w1 ⟨rfl,hb1⟩;(try clear b0 b1 b2 b3 b4 b5 b6 b7 b8);obtain⟨b0,b1,b2,b3,b4,b5,b6,b7,b8⟩:=HC.out _ hb1))|(go_at_call 199;go_must (refine(HZ.out _ (by first|exact hb1|exact Below.refl _ _)).mono ?_;rintro e w1 ⟨rfl,hb1⟩;(try clear b0 b1 b2 b3 b4 b5 b6 b7 b8);obtain⟨b0,b1,b2,b3,b4,b5,b6,b7,b8⟩:=HC.out _ hb1))|(go_at_call 122;go_must (refine(HIs.out _ (by first|exact hb1|exact Below.refl _ _)).mono ?_;rintro e w1 ⟨rfl,hb1⟩;(try clear b0 b1 b2 b3 b4 b5 b6 b7 b8);obtain⟨b0,b1,b2,b3,b4,b5,b6,b7,b8⟩:=HC.out _ hb1))|(go_at_call 121;go_must (refine(HVa.out _ (by first|exact hb1|exact Below.refl _ _)).mono ?_;rintro e w1 ⟨rfl,hb1⟩;(try clear b0 b1 b2 b3 b4 b5 b6 b7 b8);obtain⟨b0,b1,b2,b3,b4,b5,b6,b7,b8⟩:=HC.out _ hb1)));go_ret;exact⟨rfl,HB0.out.trans (hb1.mono hzB)⟩
    ·have hvb:(vv==0)=false:=by simp[hv]
     obtain rfl:R=vv:=by rw[←HR.out];simp[HM.out,hv]
     go_wp2_with (first|(go_at_call 197;go_must (refine(HSh.out _ (by first|exact hb1|exact Below.refl _ _)).mono ?_;rintro e w1 ⟨rfl,hb1⟩;(try clear b0 b1 b2 b3 b4 b5 b6 b7 b8);obtain⟨b0,b1,b2,b3,b4,b5,b6,b7,b8⟩:=HC.out _ hb1))|(go_at_call 198;go_must (refine(HWr.out _ (by first|exact hb1|exact Below.refl _ _)).mono ?_;rintro e w1 ⟨rfl,hb1⟩;(try clear b0 b1 b2 b3 b4 b5 b6 b7 b8);obtain⟨b0,b1,b2,b3,b4,b5,b6,b7,b8⟩:=HC.out _ hb1))|(go_at_call 199;go_must (refine(HZ.out _ (by first|exact hb1|exact Below.refl _ _)).mono ?_;rintro e w1 ⟨rfl,hb1⟩;(try clear b0 b1 b2 b3 b4 b5 b6 b7 b8);obtain⟨b0,b1,b2,b3,b4,b5,b6,b7,b8⟩:=HC.out _ hb1))|(go_at_call 122;go_must (refine(HIs.out _ (by first|exact hb1|exact Below.refl _ _)).mono ?_;rintro e w1 ⟨rfl,hb1⟩;(try clear b0 b1 b2 b3 b4 b5 b6 b7 b8);obtain⟨b0,b1,b2,b3,b4,b5,b6,b7,b8⟩:=HC.out _ hb1))|(go_at_call 121;go_must (refine(HVa.out _ (by first|exact hb1|exact Below.refl _ _)).mono ?_;rintro e w1 ⟨rfl,hb1⟩;(try clear b0 b1 b2 b3 b4 b5 b6 b7 b8);obtain⟨b0,b1,b2,b3,b4,b5,b6,b7,b8⟩:=HC.out _ hb1)));go_ret;exact⟨rfl,HB0.out.trans (hb1.mono hzB)⟩
   ·have he:=XV hm;have he2:(s.name.toList==[])=false:=by simpa using he
    have he3:(s.name.toList != [])=true:=by simpa using he
    have he4:s.name.toList.isEmpty=false:=by simpa using he
    have HM:=Lib.hid hm;clear hm;obtain rfl:R=1:=by rw[←HR.out];simp[HM.out]
    go_wp2_with (first|(go_at_call 197;go_must (refine(HSh.out _ (by first|exact hb1|exact Below.refl _ _)).mono ?_;rintro e w1 ⟨rfl,hb1⟩;(try clear b0 b1 b2 b3 b4 b5 b6 b7 b8);obtain⟨b0,b1,b2,b3,b4,b5,b6,b7,b8⟩:=HC.out _ hb1))|(go_at_call 198;go_must (refine(HWr.out _ (by first|exact hb1|exact Below.refl _ _)).mono ?_;rintro e w1 ⟨rfl,hb1⟩;(try clear b0 b1 b2 b3 b4 b5 b6 b7 b8);obtain⟨b0,b1,b2,b3,b4,b5,b6,b7,b8⟩:=HC.out _ hb1))|(go_at_call 199;go_must (refine(HZ.out _ (by first|exact hb1|exact Below.refl _ _)).mono ?_;rintro e w1 ⟨rfl,hb1⟩;(try clear b0 b1 b2 b3 b4 b5 b6 b7 b8);obtain⟨b0,b1,b2,b3,b4,b5,b6,b7,b8⟩:=HC.out _ hb1))|(go_at_call 122;go_must (refine(HIs.out _ (by first|exact hb1|exact Below.refl _ _)).mono ?_;rintro e w1 ⟨rfl,hb1⟩;(try clear b0 b1 b2 b3 b4 b5 b6 b7 b8);obtain⟨b0,b1,b2,b3,b4,b5,b6,b7,b8⟩:=HC.out _ hb1))|(go_at_call 121;go_must (refine(HVa.out _ (by first|exact hb1|exact Below.refl _ _)).mono ?_;rintro e w1 ⟨rfl,hb1⟩;(try clear b0 b1 b2 b3 b4 b5 b6 b7 b8);obtain⟨b0,b1,b2,b3,b4,b5,b6,b7,b8⟩:=HC.out _ hb1)));go_ret;exact⟨rfl,HB0.out.trans (hb1.mono hzB)⟩
  ·have hw:zS s.op=true:=by rw[h];rfl
   rw[hw]at HWr HR;rw[h]at HC HWr HR b0 HSh;clear HSet hw hwr HSI h;cases nb with
   |false =>
    obtain rfl:R=7:=by rw[←HR.out];simp[]
    go_wp2_with (first|(go_at_call 197;go_must (refine(HSh.out _ (by first|exact hb1|exact Below.refl _ _)).mono ?_;rintro e w1 ⟨rfl,hb1⟩;(try clear b0 b1 b2 b3 b4 b5 b6 b7 b8);obtain⟨b0,b1,b2,b3,b4,b5,b6,b7,b8⟩:=HC.out _ hb1))|(go_at_call 198;go_must (refine(HWr.out _ (by first|exact hb1|exact Below.refl _ _)).mono ?_;rintro e w1 ⟨rfl,hb1⟩;(try clear b0 b1 b2 b3 b4 b5 b6 b7 b8);obtain⟨b0,b1,b2,b3,b4,b5,b6,b7,b8⟩:=HC.out _ hb1))|(go_at_call 199;go_must (refine(HZ.out _ (by first|exact hb1|exact Below.refl _ _)).mono ?_;rintro e w1 ⟨rfl,hb1⟩;(try clear b0 b1 b2 b3 b4 b5 b6 b7 b8);obtain⟨b0,b1,b2,b3,b4,b5,b6,b7,b8⟩:=HC.out _ hb1))|(go_at_call 122;go_must (refine(HIs.out _ (by first|exact hb1|exact Below.refl _ _)).mono ?_;rintro e w1 ⟨rfl,hb1⟩;(try clear b0 b1 b2 b3 b4 b5 b6 b7 b8);obtain⟨b0,b1,b2,b3,b4,b5,b6,b7,b8⟩:=HC.out _ hb1))|(go_at_call 121;go_must (refine(HVa.out _ (by first|exact hb1|exact Below.refl _ _)).mono ?_;rintro e w1 ⟨rfl,hb1⟩;(try clear b0 b1 b2 b3 b4 b5 b6 b7 b8);obtain⟨b0,b1,b2,b3,b4,b5,b6,b7,b8⟩:=HC.out _ hb1)));go_ret;exact⟨rfl,HB0.out.trans (hb1.mono hzB)⟩
   |true =>
    by_cases hv:vv=0
    ·subst hv;cases below with
     |true =>
      obtain rfl:R=13:=by rw[←HR.out];simp[]
      go_wp2_with (first|(go_at_call 197;go_must (refine(HSh.out _ (by first|exact hb1|exact Below.refl _ _)).mono ?_;rintro e w1 ⟨rfl,hb1⟩;(try clear b0 b1 b2 b3 b4 b5 b6 b7 b8);obtain⟨b0,b1,b2,b3,b4,b5,b6,b7,b8⟩:=HC.out _ hb1))|(go_at_call 198;go_must (refine(HWr.out _ (by first|exact hb1|exact Below.refl _ _)).mono ?_;rintro e w1 ⟨rfl,hb1⟩;(try clear b0 b1 b2 b3 b4 b5 b6 b7 b8);obtain⟨b0,b1,b2,b3,b4,b5,b6,b7,b8⟩:=HC.out _ hb1))|(go_at_call 199;go_must (refine(HZ.out _ (by first|exact hb1|exact Below.refl _ _)).mono ?_;rintro e w1 ⟨rfl,hb1⟩;(try clear b0 b1 b2 b3 b4 b5 b6 b7 b8);obtain⟨b0,b1,b2,b3,b4,b5,b6,b7,b8⟩:=HC.out _ hb1))|(go_at_call 122;go_must (refine(HIs.out _ (by first|exact hb1|exact Below.refl _ _)).mono ?_;rintro e w1 ⟨rfl,hb1⟩;(try clear b0 b1 b2 b3 b4 b5 b6 b7 b8);obtain⟨b0,b1,b2,b3,b4,b5,b6,b7,b8⟩:=HC.out _ hb1))|(go_at_call 121;go_must (refine(HVa.out _ (by first|exact hb1|exact Below.refl _ _)).mono ?_;rintro e w1 ⟨rfl,hb1⟩;(try clear b0 b1 b2 b3 b4 b5 b6 b7 b8);obtain⟨b0,b1,b2,b3,b4,b5,b6,b7,b8⟩:=HC.out _ hb1)));go_ret;exact⟨rfl,HB0.out.trans (hb1.mono hzB)⟩
     |false =>
      obtain rfl:R=0:=by rw[←HR.out];simp[]
      go_wp2_with (first|(go_at_call 197;go_must (refine(HSh.out _ (by first|exact hb1|exact Below.refl _ _)).mono ?_;rintro e w1 ⟨rfl,hb1⟩;(try clear b0 b1 b2 b3 b4 b5 b6 b7 b8);obtain⟨b0,b1,b2,b3,b4,b5,b6,b7,b8⟩:=HC.out _ hb1))|(go_at_call 198;go_must (refine(HWr.out _ (by first|exact hb1|exact Below.refl _ _)).mono ?_;rintro e w1 ⟨rfl,hb1⟩;(try clear b0 b1 b2 b3 b4 b5 b6 b7 b8);obtain⟨b0,b1,b2,b3,b4,b5,b6,b7,b8⟩:=HC.out _ hb1))|(go_at_call 199;go_must (refine(HZ.out _ (by first|exact hb1|exact Below.refl _ _)).mono ?_;rintro e w1 ⟨rfl,hb1⟩;(try clear b0 b1 b2 b3 b4 b5 b6 b7 b8);obtain⟨b0,b1,b2,b3,b4,b5,b6,b7,b8⟩:=HC.out _ hb1))|(go_at_call 122;go_must (refine(HIs.out _ (by first|exact hb1|exact Below.refl _ _)).mono ?_;rintro e w1 ⟨rfl,hb1⟩;(try clear b0 b1 b2 b3 b4 b5 b6 b7 b8);obtain⟨b0,b1,b2,b3,b4,b5,b6,b7,b8⟩:=HC.out _ hb1))|(go_at_call 121;go_must (refine(HVa.out _ (by first|exact hb1|exact Below.refl _ _)).mono ?_;rintro e w1 ⟨rfl,hb1⟩;(try clear b0 b1 b2 b3 b4 b5 b6 b7 b8);obtain⟨b0,b1,b2,b3,b4,b5,b6,b7,b8⟩:=HC.out _ hb1)));go_ret;exact⟨rfl,HB0.out.trans (hb1.mono hzB)⟩
    ·have hvb:(vv==0)=false:=by simp[hv]
     obtain rfl:R=vv:=by rw[←HR.out];simp[hv]
     go_wp2_with (first|(go_at_call 197;go_must (refine(HSh.out _ (by first|exact hb1|exact Below.refl _ _)).mono ?_;rintro e w1 ⟨rfl,hb1⟩;(try clear b0 b1 b2 b3 b4 b5 b6 b7 b8);obtain⟨b0,b1,b2,b3,b4,b5,b6,b7,b8⟩:=HC.out _ hb1))|(go_at_call 198;go_must (refine(HWr.out _ (by first|exact hb1|exact Below.refl _ _)).mono ?_;rintro e w1 ⟨rfl,hb1⟩;(try clear b0 b1 b2 b3 b4 b5 b6 b7 b8);obtain⟨b0,b1,b2,b3,b4,b5,b6,b7,b8⟩:=HC.out _ hb1))|(go_at_call 199;go_must (refine(HZ.out _ (by first|exact hb1|exact Below.refl _ _)).mono ?_;rintro e w1 ⟨rfl,hb1⟩;(try clear b0 b1 b2 b3 b4 b5 b6 b7 b8);obtain⟨b0,b1,b2,b3,b4,b5,b6,b7,b8⟩:=HC.out _ hb1))|(go_at_call 122;go_must (refine(HIs.out _ (by first|exact hb1|exact Below.refl _ _)).mono ?_;rintro e w1 ⟨rfl,hb1⟩;(try clear b0 b1 b2 b3 b4 b5 b6 b7 b8);obtain⟨b0,b1,b2,b3,b4,b5,b6,b7,b8⟩:=HC.out _ hb1))|(go_at_call 121;go_must (refine(HVa.out _ (by first|exact hb1|exact Below.refl _ _)).mono ?_;rintro e w1 ⟨rfl,hb1⟩;(try clear b0 b1 b2 b3 b4 b5 b6 b7 b8);obtain⟨b0,b1,b2,b3,b4,b5,b6,b7,b8⟩:=HC.out _ hb1)));go_ret;exact⟨rfl,HB0.out.trans (hb1.mono hzB)⟩
  ·have hw:zS s.op=true:=by rw[h];rfl
   have h1:s.args.length=1:=HSet.out h rfl;obtain⟨y,hy⟩:∃y,s.args=[y]:=by
    match hs:s.args,h1 with
    | [y],_=>exact⟨y,rfl⟩
   have HST:=Lib.hid (HSI.out y [] hy);have HY:=Lib.hid hy;have hN0:0<s.args.length:=by omega
   have hN0i:(0:Int)<(s.args.length:Int):=by omega
   clear h1 hy;rw[hw]at HWr HR;rw[h]at HC HWr HR b0 HSh;clear HSet hw hwr HSI h;by_cases hm:s.name.size=0
   ·have he:=Q9 hm;rw[he]at HC b7 HSh;have HM:=Lib.hid hm;clear hm;by_cases hv:vv=0
    ·subst hv;go_upto_region 12 with (first|(go_at_call 197;go_must (refine(HSh.out _ (by first|exact hb1|exact Below.refl _ _)).mono ?_;rintro e w1 ⟨rfl,hb1⟩;(try clear b0 b1 b2 b3 b4 b5 b6 b7 b8);obtain⟨b0,b1,b2,b3,b4,b5,b6,b7,b8⟩:=HC.out _ hb1))|(go_at_call 198;go_must (refine(HWr.out _ (by first|exact hb1|exact Below.refl _ _)).mono ?_;rintro e w1 ⟨rfl,hb1⟩;(try clear b0 b1 b2 b3 b4 b5 b6 b7 b8);obtain⟨b0,b1,b2,b3,b4,b5,b6,b7,b8⟩:=HC.out _ hb1))|(go_at_call 199;go_must (refine(HZ.out _ (by first|exact hb1|exact Below.refl _ _)).mono ?_;rintro e w1 ⟨rfl,hb1⟩;(try clear b0 b1 b2 b3 b4 b5 b6 b7 b8);obtain⟨b0,b1,b2,b3,b4,b5,b6,b7,b8⟩:=HC.out _ hb1))|(go_at_call 122;go_must (refine(HIs.out _ (by first|exact hb1|exact Below.refl _ _)).mono ?_;rintro e w1 ⟨rfl,hb1⟩;(try clear b0 b1 b2 b3 b4 b5 b6 b7 b8);obtain⟨b0,b1,b2,b3,b4,b5,b6,b7,b8⟩:=HC.out _ hb1))|(go_at_call 121;go_must (refine(HVa.out _ (by first|exact hb1|exact Below.refl _ _)).mono ?_;rintro e w1 ⟨rfl,hb1⟩;(try clear b0 b1 b2 b3 b4 b5 b6 b7 b8);obtain⟨b0,b1,b2,b3,b4,b5,b6,b7,b8⟩:=HC.out _ hb1)));obtain⟨bE,oE,hEa⟩:=HXA.out.resolve_left (by omega);subst hEa;have HBw:Hid (Below w.heap.size w w1):=HB0.out.trans (hb1.mono hzB);have hHX:=qL.keep (w':=World.hide w1 p) (zg HBw.out λ_ _ h=>h) HX.out.ar
     obtain⟨xe,xc,xa,xk,gc,hXy⟩:=hHX.get rfl hN0;have hy0:s.args[0]=y:=by have:=HY.out;simp[this]
     have hyn:y.nodes<=1000000000:=by have:=xY (s:=s) (x:=y) (by rw[HY.out];exact List.mem_singleton.2 rfl);have:=HN.out;omega
     rw[hy0]at gc hXy;obtain⟨g0,g1,g2,g3,g4,g5,g6,g7,g8⟩:=Zu gc;rw[Nat.zero_mul,Nat.add_zero]at g0 g1 g2 g3 g4 g5 g6 g7 g8;have f0:=zb _ _ g0;have f1:=zb _ _ g1;have f2:=zb _ _ g2;have f3:=zb _ _ g3;have f4:=zb _ _ g4;have f5:=zb _ _ g5;have f6:=zb _ _ g6;have f7:=zb _ _ g7;have f8:=zb _ _ g8;have HNs:=Lib.hid (zd6 y p xe xc xa xk w1 hXy (λj hj=>by have:=Hp.out j hj;have:=HBw.out.size;omega) hyn);rw[zo]at HNs;clear gc g0 g1 g2 g3 g4 g5 g6 g7 g8 hXy hHX hy0 hyn;go_upto_region 13 with (go_at_call 200;go_must (refine HNs.out.mono ?_;rintro e w2 ⟨sa,sc,rfl,hs2,hb2⟩));generalize hW3:World.alloc w2 _=W3;have hc3:W3.cell? ⟨w2.heap.size,0,none⟩=some (.slice sa (xd y).length sc):=by rw[←hW3];simp
     have hB23:Below w2.heap.size w2 W3:=by rw[←hW3];exact(Below.refl _ _).alloc (Nat.le_refl _) _
     have hB3:Below w1.heap.size w1 W3:=hb2.trans (hB23.mono hb2.size);have HS3:Hid (zE W3 (xd y) sa sc):=hs2.keep (za hB23);have HBx3:Hid (Below Bx.heap.size Bx W3):=hb1.trans (hB3.mono hb1.size);have HN3:=Lib.hid (HNm.out W3 (HB0.out.trans (HBx3.out.mono hzB)));have eg:∀args w,(callFunc 202 args).run Tryz.prog w=.ok (.enter 202 args) w:=enters_of Tryz.func202 (by kernel_rfl) rfl;have HC3:=Lib.hid hc3;have HCF:Hid (∀W a' c',Below W3.heap.size W3 W->zE W (zG [2] s.expr) a' c'->Calls Tryz.prog 201 #[.slice a' (zG [2] s.expr).length c',.func (.func 202) #[] #[.pointer (some ⟨w2.heap.size,0,none⟩)]] W λe w'=>e=.returned (.bool st)/\Below W.heap.size W w'):=λW a' c' hW hs=>by rw[HST.out];exact zaA _ eg _ _ _ (zhv w2.heap.size (xd y) sa sc) (λW1 W2 h h2=>⟨za h2 _ _ h.1,h.2.keep (za h2)⟩) _ a' c' W hs ⟨za hW _ _ HC3.out,HS3.out.keep (za hW)⟩
     clear b0 b1 b2 b3 b4 b5 b6 b7 b8;obtain⟨b0,b1,b2,b3,b4,b5,b6,b7,b8⟩:=HC.out _ HBx3.out;have hz3:=HBx3.out.size;clear hW3 hc3 hB23 hB3 hs2 hb2 eg f0 f1 f2 f3 f4 f5 f6 f7 f8;have HR0:Hid (R=if st=true then 13 else 0):=by show _=_;rw[←HR.out];simp[HM.out]
     go_wp2_with (go_at_call 160;go_must (refine HN3.out.mono ?_;rintro e w4 ⟨⟨na,nc,rfl,hs4⟩,hb4⟩));have HB4:=Lib.hid hb4;have hz4:=hb4.size;refine(HCF.out _ _ _ hb4 hs4).mono ?_;rintro e w5 ⟨rfl,hb5⟩;have HB5:Hid (Below w.heap.size w w5):=HB0.out.trans ((HBx3.out.trans ((HB4.out.trans (hb5.mono hz4)).mono hz3)).mono hzB);clear hb4 hs4 hb5;cases st with
     |true =>
      obtain rfl:R=13:=by rw[HR0.out];rfl
      go_wp2_with fail;go_ret;exact⟨rfl,HB5.out⟩
     |false =>
      obtain rfl:R=0:=by rw[HR0.out];rfl
      go_wp2_with fail;go_ret;exact⟨rfl,HB5.out⟩
    ·have hvb:(vv==0)=false:=by simp[hv]
     obtain rfl:R=vv:=by rw[←HR.out];simp[HM.out,hv]
     go_wp2_with (first|(go_at_call 197;go_must (refine(HSh.out _ (by first|exact hb1|exact Below.refl _ _)).mono ?_;rintro e w1 ⟨rfl,hb1⟩;(try clear b0 b1 b2 b3 b4 b5 b6 b7 b8);obtain⟨b0,b1,b2,b3,b4,b5,b6,b7,b8⟩:=HC.out _ hb1))|(go_at_call 198;go_must (refine(HWr.out _ (by first|exact hb1|exact Below.refl _ _)).mono ?_;rintro e w1 ⟨rfl,hb1⟩;(try clear b0 b1 b2 b3 b4 b5 b6 b7 b8);obtain⟨b0,b1,b2,b3,b4,b5,b6,b7,b8⟩:=HC.out _ hb1))|(go_at_call 199;go_must (refine(HZ.out _ (by first|exact hb1|exact Below.refl _ _)).mono ?_;rintro e w1 ⟨rfl,hb1⟩;(try clear b0 b1 b2 b3 b4 b5 b6 b7 b8);obtain⟨b0,b1,b2,b3,b4,b5,b6,b7,b8⟩:=HC.out _ hb1))|(go_at_call 122;go_must (refine(HIs.out _ (by first|exact hb1|exact Below.refl _ _)).mono ?_;rintro e w1 ⟨rfl,hb1⟩;(try clear b0 b1 b2 b3 b4 b5 b6 b7 b8);obtain⟨b0,b1,b2,b3,b4,b5,b6,b7,b8⟩:=HC.out _ hb1))|(go_at_call 121;go_must (refine(HVa.out _ (by first|exact hb1|exact Below.refl _ _)).mono ?_;rintro e w1 ⟨rfl,hb1⟩;(try clear b0 b1 b2 b3 b4 b5 b6 b7 b8);obtain⟨b0,b1,b2,b3,b4,b5,b6,b7,b8⟩:=HC.out _ hb1)));go_ret;exact⟨rfl,HB0.out.trans (hb1.mono hzB)⟩
   ·have he:=XV hm;have he2:(s.name.toList==[])=false:=by simpa using he
    have he3:(s.name.toList != [])=true:=by simpa using he
    have he4:s.name.toList.isEmpty=false:=by simpa using he
    have HM:=Lib.hid hm;clear hm;obtain rfl:R=1:=by rw[←HR.out];simp[HM.out]
    go_wp2_with (first|(go_at_call 197;go_must (refine(HSh.out _ (by first|exact hb1|exact Below.refl _ _)).mono ?_;rintro e w1 ⟨rfl,hb1⟩;(try clear b0 b1 b2 b3 b4 b5 b6 b7 b8);obtain⟨b0,b1,b2,b3,b4,b5,b6,b7,b8⟩:=HC.out _ hb1))|(go_at_call 198;go_must (refine(HWr.out _ (by first|exact hb1|exact Below.refl _ _)).mono ?_;rintro e w1 ⟨rfl,hb1⟩;(try clear b0 b1 b2 b3 b4 b5 b6 b7 b8);obtain⟨b0,b1,b2,b3,b4,b5,b6,b7,b8⟩:=HC.out _ hb1))|(go_at_call 199;go_must (refine(HZ.out _ (by first|exact hb1|exact Below.refl _ _)).mono ?_;rintro e w1 ⟨rfl,hb1⟩;(try clear b0 b1 b2 b3 b4 b5 b6 b7 b8);obtain⟨b0,b1,b2,b3,b4,b5,b6,b7,b8⟩:=HC.out _ hb1))|(go_at_call 122;go_must (refine(HIs.out _ (by first|exact hb1|exact Below.refl _ _)).mono ?_;rintro e w1 ⟨rfl,hb1⟩;(try clear b0 b1 b2 b3 b4 b5 b6 b7 b8);obtain⟨b0,b1,b2,b3,b4,b5,b6,b7,b8⟩:=HC.out _ hb1))|(go_at_call 121;go_must (refine(HVa.out _ (by first|exact hb1|exact Below.refl _ _)).mono ?_;rintro e w1 ⟨rfl,hb1⟩;(try clear b0 b1 b2 b3 b4 b5 b6 b7 b8);obtain⟨b0,b1,b2,b3,b4,b5,b6,b7,b8⟩:=HC.out _ hb1)));go_ret;exact⟨rfl,HB0.out.trans (hb1.mono hzB)⟩
  ·have hw:zS s.op=false:=by rw[hwr];simp[n1,n6,n7]
   rw[hw]at HWr HR;have N1:=Lib.hid n1;have N6:=Lib.hid n6;have N7:=Lib.hid n7;clear HSet hw hwr HSI;cases zx with
   |false =>
    obtain rfl:R=1:=by rw[←HR.out];simp[]
    go_wp2_with (first|(go_at_call 197;go_must (refine(HSh.out _ (by first|exact hb1|exact Below.refl _ _)).mono ?_;rintro e w1 ⟨rfl,hb1⟩;(try clear b0 b1 b2 b3 b4 b5 b6 b7 b8);obtain⟨b0,b1,b2,b3,b4,b5,b6,b7,b8⟩:=HC.out _ hb1))|(go_at_call 198;go_must (refine(HWr.out _ (by first|exact hb1|exact Below.refl _ _)).mono ?_;rintro e w1 ⟨rfl,hb1⟩;(try clear b0 b1 b2 b3 b4 b5 b6 b7 b8);obtain⟨b0,b1,b2,b3,b4,b5,b6,b7,b8⟩:=HC.out _ hb1))|(go_at_call 199;go_must (refine(HZ.out _ (by first|exact hb1|exact Below.refl _ _)).mono ?_;rintro e w1 ⟨rfl,hb1⟩;(try clear b0 b1 b2 b3 b4 b5 b6 b7 b8);obtain⟨b0,b1,b2,b3,b4,b5,b6,b7,b8⟩:=HC.out _ hb1))|(go_at_call 122;go_must (refine(HIs.out _ (by first|exact hb1|exact Below.refl _ _)).mono ?_;rintro e w1 ⟨rfl,hb1⟩;(try clear b0 b1 b2 b3 b4 b5 b6 b7 b8);obtain⟨b0,b1,b2,b3,b4,b5,b6,b7,b8⟩:=HC.out _ hb1))|(go_at_call 121;go_must (refine(HVa.out _ (by first|exact hb1|exact Below.refl _ _)).mono ?_;rintro e w1 ⟨rfl,hb1⟩;(try clear b0 b1 b2 b3 b4 b5 b6 b7 b8);obtain⟨b0,b1,b2,b3,b4,b5,b6,b7,b8⟩:=HC.out _ hb1)));go_ret;exact⟨rfl,HB0.out.trans (hb1.mono hzB)⟩
   |true =>
    by_cases hm:s.name.size=0
    ·have he:=Q9 hm;rw[he]at HC b7 HSh;have HM:=Lib.hid hm;clear hm;obtain rfl:R=0:=by rw[←HR.out];simp[HM.out,N6.out,N7.out]
     go_wp2_with (first|(go_at_call 197;go_must (refine(HSh.out _ (by first|exact hb1|exact Below.refl _ _)).mono ?_;rintro e w1 ⟨rfl,hb1⟩;(try clear b0 b1 b2 b3 b4 b5 b6 b7 b8);obtain⟨b0,b1,b2,b3,b4,b5,b6,b7,b8⟩:=HC.out _ hb1))|(go_at_call 198;go_must (refine(HWr.out _ (by first|exact hb1|exact Below.refl _ _)).mono ?_;rintro e w1 ⟨rfl,hb1⟩;(try clear b0 b1 b2 b3 b4 b5 b6 b7 b8);obtain⟨b0,b1,b2,b3,b4,b5,b6,b7,b8⟩:=HC.out _ hb1))|(go_at_call 199;go_must (refine(HZ.out _ (by first|exact hb1|exact Below.refl _ _)).mono ?_;rintro e w1 ⟨rfl,hb1⟩;(try clear b0 b1 b2 b3 b4 b5 b6 b7 b8);obtain⟨b0,b1,b2,b3,b4,b5,b6,b7,b8⟩:=HC.out _ hb1))|(go_at_call 122;go_must (refine(HIs.out _ (by first|exact hb1|exact Below.refl _ _)).mono ?_;rintro e w1 ⟨rfl,hb1⟩;(try clear b0 b1 b2 b3 b4 b5 b6 b7 b8);obtain⟨b0,b1,b2,b3,b4,b5,b6,b7,b8⟩:=HC.out _ hb1))|(go_at_call 121;go_must (refine(HVa.out _ (by first|exact hb1|exact Below.refl _ _)).mono ?_;rintro e w1 ⟨rfl,hb1⟩;(try clear b0 b1 b2 b3 b4 b5 b6 b7 b8);obtain⟨b0,b1,b2,b3,b4,b5,b6,b7,b8⟩:=HC.out _ hb1)));go_ret;exact⟨rfl,HB0.out.trans (hb1.mono hzB)⟩
    ·have he:=XV hm;have he2:(s.name.toList==[])=false:=by simpa using he
     have he3:(s.name.toList != [])=true:=by simpa using he
     have he4:s.name.toList.isEmpty=false:=by simpa using he
     have HM:=Lib.hid hm;clear hm;obtain rfl:R=1:=by rw[←HR.out];simp[HM.out,N6.out]
     go_wp2_with (first|(go_at_call 197;go_must (refine(HSh.out _ (by first|exact hb1|exact Below.refl _ _)).mono ?_;rintro e w1 ⟨rfl,hb1⟩;(try clear b0 b1 b2 b3 b4 b5 b6 b7 b8);obtain⟨b0,b1,b2,b3,b4,b5,b6,b7,b8⟩:=HC.out _ hb1))|(go_at_call 198;go_must (refine(HWr.out _ (by first|exact hb1|exact Below.refl _ _)).mono ?_;rintro e w1 ⟨rfl,hb1⟩;(try clear b0 b1 b2 b3 b4 b5 b6 b7 b8);obtain⟨b0,b1,b2,b3,b4,b5,b6,b7,b8⟩:=HC.out _ hb1))|(go_at_call 199;go_must (refine(HZ.out _ (by first|exact hb1|exact Below.refl _ _)).mono ?_;rintro e w1 ⟨rfl,hb1⟩;(try clear b0 b1 b2 b3 b4 b5 b6 b7 b8);obtain⟨b0,b1,b2,b3,b4,b5,b6,b7,b8⟩:=HC.out _ hb1))|(go_at_call 122;go_must (refine(HIs.out _ (by first|exact hb1|exact Below.refl _ _)).mono ?_;rintro e w1 ⟨rfl,hb1⟩;(try clear b0 b1 b2 b3 b4 b5 b6 b7 b8);obtain⟨b0,b1,b2,b3,b4,b5,b6,b7,b8⟩:=HC.out _ hb1))|(go_at_call 121;go_must (refine(HVa.out _ (by first|exact hb1|exact Below.refl _ _)).mono ?_;rintro e w1 ⟨rfl,hb1⟩;(try clear b0 b1 b2 b3 b4 b5 b6 b7 b8);obtain⟨b0,b1,b2,b3,b4,b5,b6,b7,b8⟩:=HC.out _ hb1)));go_ret;exact⟨rfl,HB0.out.trans (hb1.mono hzB)⟩
noncomputable def SmT (s:Tq):Prop:=s.para λs l=>s.expr.nodes.length<=1000000000/\∀x∈l,x
theorem QI (s:Tq):SmT s<->s.expr.nodes.length<=1000000000/\∀a∈s.args,SmT a:=by unfold SmT;rw[Tq.para_eq];exact and_congr_right λ_=>⟨λh a ha=>h _ (List.mem_map.2 ⟨a,ha,rfl⟩),λh x hx=>by obtain⟨a,ha,rfl⟩:=List.mem_map.1 hx;exact h a ha⟩
theorem zaV:∀{l:List Int} {k:Nat} (hk:k<l.length),(∀j (hj:j<l.length),j<k->l[j]'hj=0)->l[k]'hk≠0->YN l=l[k]'hk:=by
 intro l
 induction l with
 |nil=>intro k hk;simp at hk
 |cons a l ih =>
  intro k hk hb h;cases k with
  |zero =>have h':a≠0:=h;rw[YN,if_neg h'];rfl
  |succ k =>have h0:a=0:=hb 0 (by simp) (by omega);rw[YN,if_pos h0];exact ih (by simpa using hk) (λj hj hjk=>hb (j+1) (by simpa using hj) (by omega)) h
theorem zgd (s:Tq):∀(below:Bool) (p:Nat->Bool) (ae:Option Addr) (ce:Nat) (a:Option Addr) (cap:Nat) (w:World),Zr (World.hide w p) s ae ce a cap->(∀j,p j=true->j<w.heap.size)->s.nodes<=1000000000->SmT s->ZW w ->
 Calls Tryz.prog 83 #[ym s ae ce a cap,.bool below] w λe w'=>e=.returned (.int .i64 (zC s below))/\Below w.heap.size w w':=by
 induction s using Tq.ind with
 |h s ih =>
  intro below p ae ce a cap w hX hp hn hsm hG;obtain⟨hxn,hsa⟩:=(QI s).1 hsm;have HIH:Hid (∀k (hk:k<s.args.length),∀(xe:Option Addr) (xc:Nat) (xa:Option Addr) (xk:Nat) (W:World),Zr (World.hide W p) (s.args[k]'hk) xe xc xa xk->Below w.heap.size w W->Calls Tryz.prog 83 #[ym (s.args[k]'hk) xe xc xa xk,.bool (below||s.op==5)] W λe w'=>e=.returned (.int .i64 (zC (s.args[k]'hk) (below||s.op==5)))/\Below W.heap.size W w'):=λk hk xe xc xa xk W h1 hW=>ih _ (List.getElem_mem hk) _ p xe xc xa xk W h1 (λj hj=>by have:=hp j hj;have:=hW.size;omega) (Nat.le_trans (Nat.le_of_lt (xY (List.getElem_mem hk))) hn) (hsa _ (List.getElem_mem hk)) (hG.below hW);have HNd:Hid (∀W,Below w.heap.size w W->Calls Tryz.prog 135 #[ym s ae ce a cap,.bool below] W λe w'=>e=.returned (.int .i64 (xZ s below))/\Below W.heap.size W w'):=λW hW=>zim s below p ae ce a cap W (hX.keep (zg hW λ_ _ h=>h)) (λj hj=>by have:=hp j hj;have:=hW.size;omega) hn hxn (hG.below hW);have hlen:=hX.ar.2.1;have HX:=Lib.hid hX.ar;have HXA:Hid (s.args.length=0\/∃b off,a=some ⟨b,off,none⟩):=zr.addr hX.ar;have HR1:Hid (xZ s below≠0->zC s below=xZ s below):=λh=>by rw[qe,if_neg h]
  have HR2:Hid (xZ s below=0->∀k (hk:k<s.args.length),(∀j (hj:j<s.args.length),j<k->zC (s.args[j]'hj) (below||s.op==5)=0)->zC (s.args[k]'hk) (below||s.op==5)≠0->zC s below=zC (s.args[k]'hk) (below||s.op==5)):=λh k hk hb hne=>by rw[qe,if_pos h,zaV (k:=k) (by simpa using hk) (λj hj hjk=>by simpa using hb j (by simpa using hj) hjk) (by simpa using hne)];simp
  have HR3:Hid (xZ s below=0->(∀j (hj:j<s.args.length),zC (s.args[j]'hj) (below||s.op==5)=0)->zC s below=0):=λh hb=>by rw[qe,if_pos h];refine YU.2 λx hx=>?_;obtain⟨y,hy,rfl⟩:=List.mem_map.1 hx;obtain⟨j,hj,rfl⟩:=List.getElem_of_mem hy;exact hb j hj
  generalize zC s below=R at HR1 HR2 HR3⊢;generalize xZ s below=nv at HNd HR1 HR2 HR3;clear hX hp hn hsm hG hxn hsa ih;rw[zo]at HNd⊢;go_enter Tryz.func83, Tryz.ntmps83;go_upto_region 1 with fail;generalize hBx:World.alloc w _=Bx;have HB0:Hid (Below w.heap.size w Bx):=by show Below _ _ _;rw[←hBx];exact(Below.refl _ _).alloc (Nat.le_refl _) _
  have hzB:=HB0.out.size;have HBX:Hid (Bx.heap[w.heap.size]? = some (ye s ae ce a cap)):=by show _=_;rw[←hBx];exact zh rfl
  obtain⟨b0,b1,b2,b3,b4,b5,b6,b7,b8⟩:=zt HBX.out;clear hBx;go_wp2_with fail;refine(HNd.out _ HB0.out).mono ?_;rintro e w1 ⟨rfl,hb1⟩;have HB1:Hid (Below w.heap.size w w1):=HB0.out.trans (hb1.mono hzB);have HBX1:Hid (w1.heap[w.heap.size]? = some (ye s ae ce a cap)):=(hb1.block _ (lt_of_block HBX.out)).trans HBX.out;have hz1:=HB1.out.size;clear hb1 b0 b1 b2 b3 b4 b5 b6 b7 b8;by_cases hv:nv=0
  ·subst hv;replace HR2:=Lib.hid (HR2.out rfl);replace HR3:=Lib.hid (HR3.out rfl);clear HR1 HNd;obtain⟨b0,-,-,-,-,-,-,-,b8⟩:=zt HBX1.out;go_wp2_with fail;clear b0 b8;go_loopw [18,7,8] (λi _ _ wr=>∃k:Nat,i=.int .i64 k/\k<=s.args.length/\Hid (∀j (hj:j<s.args.length),j<k->zC (s.args[j]'hj) (below||s.op==5)=0)/\Hid (Below w1.heap.size w1 wr)) (λi _ _ _=>s.args.length-(intOf i).toNat);case atStart=>exact⟨0,rfl,Nat.zero_le _,λ_ _ h=>absurd h (by omega),Below.refl _ _⟩
   case round =>
    obtain⟨k,rfl,hk,HAl,HBr⟩:=hrel;have hzr:=HBr.out.size;have HBw:Hid (Below w.heap.size w wr):=HB1.out.trans (HBr.out.mono hz1);by_cases hlt:k<s.args.length
    ·obtain⟨bE,oE,hEa⟩:=HXA.out.resolve_left (by omega);subst hEa;obtain⟨xe,xc,xa,xk,gc,hXy⟩:=(qL.keep (w':=World.hide wr p) (zg HBw.out λ_ _ h=>h) HX.out).get rfl hlt;obtain⟨g0,g1,g2,g3,g4,g5,g6,g7,g8⟩:=Zu gc;have f0:=zb _ _ g0;have f1:=zb _ _ g1;have f2:=zb _ _ g2;have f3:=zb _ _ g3;have f4:=zb _ _ g4;have f5:=zb _ _ g5;have f6:=zb _ _ g6;have f7:=zb _ _ g7;have f8:=zb _ _ g8;have HC:=Lib.hid λW (hW:Below wr.heap.size wr W)=>HIH.out k hlt xe xc xa xk W (hXy.keep (zg hW λ_ _ h=>h)) (HBw.out.trans (hW.mono HBw.out.size));have HNx:Hid (zC (s.args[k]'hlt) (below||s.op==5)=0->∀j (hj:j<s.args.length),j<k+1->zC (s.args[j]'hj) (below||s.op==5)=0):=λhv j hj hjk=>by
      by_cases e:j=k
      ·subst e;exact hv
      ·exact HAl.out j hj (by omega)
     have HYx:Hid (zC (s.args[k]'hlt) (below||s.op==5)≠0->R=zC (s.args[k]'hlt) (below||s.op==5)):=λh=>HR2.out k hlt HAl.out h;have hbx:=(HBr.out.block _ (lt_of_block HBX1.out)).trans HBX1.out;have b0:∀o,(wr.alloc o).cell? ⟨w.heap.size,0,none⟩=some (.int .i64 s.op):=λo=>by rw[zc (zk (o:=o) hbx)];rfl
     clear gc g0 g1 g2 g3 g4 g5 g6 g7 g8 hXy hbx;generalize (s.args[k]'hlt)=y at f0 f1 f2 f3 f4 f5 f6 f7 f8 HC HNx HYx;rw[zo]at HC;obtain⟨q,hq⟩:∃q,(below||s.op==5)=q:=⟨_,rfl⟩;have hbq:(below=true/\q=true)\/(below=false/\(s.op==5)=q):=by
      cases below with
      |true=>left;exact⟨rfl,by rw[←hq];rfl⟩
      |false=>right;exact⟨rfl,by rw[←hq];rfl⟩
     generalize hcv:zC y (below||s.op==5)=cv at HC HNx HYx;rw[hq]at HC;clear hq hcv;have HCf:Hid (∀W,Below wr.heap.size wr W->Calls Tryz.prog 83 #[.agg #[.int .i64 y.op,.int .i64 y.lo,.int .i64 y.hi,.int .i64 y.expr.op,.int .i64 y.expr.n,.string y.expr.name,.slice xe y.expr.args.length xc,.string y.name,.slice xa y.args.length xk],.bool q] W λe w'=>e=.returned (.int .i64 cv)/\Below w1.heap.size w1 w'):=λW hW=>(HC.out W hW).mono λe w' h=>⟨h.1,HBr.out.trans ((hW.trans (h.2.mono hW.size)).mono hzr)⟩;clear HC;rcases hbq with ⟨hb,hq⟩|⟨hb,hq⟩
     all_goals
      subst hb;subst hq;by_cases hv:cv=0
      ·subst hv;replace HNx:=Lib.hid (HNx.out rfl);go_wp2_with (go_at_call 83;go_must (refine(HCf.out _ yx).mono ?_;rintro e w5 ⟨rfl,hb5⟩;have HB5:=Lib.hid hb5;clear hb5));go_roundw;case rel=>exact⟨k+1,by go_num,by omega,HNx.out,HB5.out⟩
       case measure=>(simp[intOf];try omega)
      ·obtain rfl:=HYx.out hv;have hvb:(R==0)=false:=by simp[hv]
       go_wp2_with (go_at_call 83;go_must (refine(HCf.out _ yx).mono ?_;rintro e w5 ⟨rfl,hb5⟩;have HB5:=Lib.hid hb5;clear hb5));go_ret;exact⟨rfl,HB1.out.trans (HB5.out.mono hz1)⟩
    ·obtain rfl:k=s.args.length:=by omega
     obtain rfl:R=0:=HR3.out λj hj=>HAl.out j hj hj;go_wp2_with fail;go_ret;exact⟨rfl,HBw.out⟩
  ·obtain rfl:R=nv:=HR1.out hv;have hvb:(R==0)=false:=by simp[hv]
   clear HR2 HR3;go_wp2_with fail;go_ret;exact⟨rfl,HB1.out⟩
theorem zgf (s:Tq) (p:Nat->Bool) (ae:Option Addr) (ce:Nat) (a:Option Addr) (cap:Nat) (w:World) (hX:Zr (World.hide w p) s ae ce a cap) (hp:∀j,p j=true->j<w.heap.size) (hn:s.nodes<=1000000000) (hs:SmT s) (hG:ZW w) :
 Calls Tryz.prog 42 #[ym s ae ce a cap] w λe w'=>e=.returned (.int .i64 (yG s))/\Below w.heap.size w w':=by
 have hpW:∀W,Below w.heap.size w W->∀j,p j=true->j<W.heap.size:=λW hW j hj=>by have:=hp j hj;have:=hW.size;omega
 have HD:=Lib.hid λW (hW:Below w.heap.size w W)=>zd5 s p ae ce a cap W (hX.keep (zg hW λ_ _ h=>h)) (hpW W hW) hn;have HS:=Lib.hid λW (hW:Below w.heap.size w W)=>zge s p ae ce a cap W (hX.keep (zg hW λ_ _ h=>h)) (hpW W hW) hn;have HC:=Lib.hid λW (hW:Below w.heap.size w W)=>zgd s false p ae ce a cap W (hX.keep (zg hW λ_ _ h=>h)) (hpW W hW) hn hs (hG.below hW);have HR:Hid (yG s=if 8<s.depth\/100<s.nodes then 2 else zC s false):=rfl;generalize yG s=R at HR⊢;generalize zC s false=cv at HC HR;generalize s.depth=d at HD HR;generalize s.nodes=m at HS HR;clear hX hp hn hs hG hpW;rw[zo]at HD HS HC⊢;go_enter Tryz.func42, Tryz.ntmps42;go_upto_region 1 with fail;generalize hBx:World.alloc w _=Bx;have HB0:Hid (Below w.heap.size w Bx):=by show Below _ _ _;rw[←hBx];exact(Below.refl _ _).alloc (Nat.le_refl _) _
 have hzB:=HB0.out.size;have HBX:Hid (∀W,Below Bx.heap.size Bx W->W.heap[w.heap.size]? = some (ye s ae ce a cap)):=λW hW=>by
  have h0:Bx.heap[w.heap.size]? = some (ye s ae ce a cap):=by rw[←hBx];exact zh rfl
  exact(hW.block _ (lt_of_block h0)).trans h0
 clear hBx;have HT:Hid (∀(f:FuncId) (args:Array Value) (v:Value),(∀W,Below w.heap.size w W->Calls Tryz.prog f args W λe w'=>e=.returned v/\Below W.heap.size W w')->∀W,Below Bx.heap.size Bx W->Calls Tryz.prog f args W λe w'=>e=.returned v/\Below Bx.heap.size Bx w'):=λf args v h W hW=>(h W (HB0.out.trans (hW.mono hzB))).mono λe w' hq=>⟨hq.1,hW.trans (hq.2.mono hW.size)⟩;replace HD:=Lib.hid (HT.out _ _ _ HD.out);replace HS:=Lib.hid (HT.out _ _ _ HS.out);replace HC:=Lib.hid (HT.out _ _ _ HC.out);clear HT;have hbx:=Below.refl Bx.heap.size Bx;obtain⟨b0,b1,b2,b3,b4,b5,b6,b7,b8⟩:=zt (HBX.out _ hbx);clear hbx;by_cases hd:8<d
 ·obtain rfl:R=2:=by rw[HR.out,if_pos (Or.inl hd)]
  have hd2:(8:Int)<(d:Int):=by omega
  go_wp2_with (go_at_call 81;go_must (refine(HD.out _ (Below.refl _ _)).mono ?_;rintro e w1 ⟨rfl,hb1⟩;have HB1:=Lib.hid hb1;clear hb1));go_ret;exact⟨rfl,HB0.out.trans (HB1.out.mono hzB)⟩
 ·have hd2:¬(8:Int)<(d:Int):=by omega
  by_cases hm:100<m
  ·obtain rfl:R=2:=by rw[HR.out,if_pos (Or.inr hm)]
   have hm2:(100:Int)<(m:Int):=by omega
   go_wp2_with (go_at_call 81;go_must (refine(HD.out _ (Below.refl _ _)).mono ?_;rintro e w1 ⟨rfl,hb1⟩;clear b0 b1 b2 b3 b4 b5 b6 b7 b8;obtain⟨b0,b1,b2,b3,b4,b5,b6,b7,b8⟩:=zt (HBX.out _ hb1);have HB1:=Lib.hid hb1;clear hb1));refine(HS.out _ HB1.out).mono ?_;rintro e w2 ⟨rfl,hb2⟩;have HB2:=Lib.hid hb2;clear hb2;go_wp2_with fail;go_ret;exact⟨rfl,HB0.out.trans (HB2.out.mono hzB)⟩
  ·obtain rfl:R=cv:=by rw[HR.out,if_neg (by omega)]
   have hm2:¬(100:Int)<(m:Int):=by omega
   go_wp2_with (go_at_call 81;go_must (refine(HD.out _ (Below.refl _ _)).mono ?_;rintro e w1 ⟨rfl,hb1⟩;clear b0 b1 b2 b3 b4 b5 b6 b7 b8;obtain⟨b0,b1,b2,b3,b4,b5,b6,b7,b8⟩:=zt (HBX.out _ hb1);have HB1:=Lib.hid hb1;clear hb1));refine(HS.out _ HB1.out).mono ?_;rintro e w2 ⟨rfl,hb2⟩;clear b0 b1 b2 b3 b4 b5 b6 b7 b8;obtain⟨b0,b1,b2,b3,b4,b5,b6,b7,b8⟩:=zt (HBX.out _ hb2);have HB2:=Lib.hid hb2;clear hb2;go_wp2_with fail;refine(HC.out _ HB2.out).mono ?_;rintro e w3 ⟨rfl,hb3⟩;have HB3:=Lib.hid hb3;clear hb3;go_wp2_with fail;go_ret;exact⟨rfl,HB0.out.trans (HB3.out.mono hzB)⟩
noncomputable def ZX (s:Tq):Option zm×Int:=if yG s≠0 then (none,1) else match yz s with|none=>(none,2)|some n=>(some (trimS n),0)
def ze7 (p:Nat->Bool) (r:Option zm×Int) (w:World) (e:Ending) (w':World):Prop :=
 (match r.1 with
  |some m=>∃y:YL,e=.returned (.tuple #[.agg #[.int .i64 m.states,.slice y.ae m.edges.length y.ce,.slice y.aa m.accept.length y.ca],.int .i64 r.2])/\xS (World.hide w' p) m y
  |none=>e=.returned (.tuple #[.agg #[.int .i64 0,.slice none 0 0,.slice none 0 0],.int .i64 r.2]))/\Below w.heap.size w w'
theorem QG (s:Tq) (p:Nat->Bool) (ae:Option Addr) (ce:Nat) (a:Option Addr) (cap:Nat) (w:World) (hX:Zr (World.hide w p) s ae ce a cap) (hp:∀j,p j=true->j<w.heap.size) (hn:s.nodes<=1000000000) (hs:SmT s) (hG:ZW w) :
 Calls Tryz.prog 13 #[ym s ae ce a cap] w (ze7 p (ZX s) w):=by
 have hpW:∀W,Below w.heap.size w W->∀j,p j=true->j<W.heap.size:=λW hW j hj=>by have:=hp j hj;have:=hW.size;omega
 have HV:=Lib.hid λW (hW:Below w.heap.size w W)=>zgf s p ae ce a cap W (hX.keep (zg hW λ_ _ h=>h)) (hpW W hW) hn hs (hG.below hW);have HC:Hid (yG s=0->∀q W,Below w.heap.size w W->(∀k,k<w.heap.size->q k=true->p k=true)->(∀j,q j=true->j<W.heap.size)->Calls Tryz.prog 43 #[ym s ae ce a cap] W (yA q (yz s) W)):=λhv q W hW hq1 hq2=>by
  have hb:¬(8<s.depth\/100<s.nodes):=λh=>by unfold yG at hv;rw[if_pos h]at hv;cases hv
  have hc:zC s false=0:=by unfold yG at hv;rwa [if_neg hb]at hv
  exact zds s false hc (by omega) q ae ce a cap W (hX.keep (zg hW hq1)) hq2 (hG.below hW)
 have HOk:Hid (yG s=0->∀n,yz s=some n->zY n=true):=λhv n h=>by
  have hb:¬(8<s.depth\/100<s.nodes):=λh=>by unfold yG at hv;rw[if_pos h]at hv;cases hv
  have hc:zC s false=0:=by unfold yG at hv;rwa [if_neg hb]at hv
  exact(ZG s false hc n h).ok
 have HPW:=Lib.hid hpW;have HG:=Lib.hid hG;have HR:Hid (ZX s=(if yG s≠0 then (none,1) else match yz s with|none=>(none,2)|some n=>(some (trimS n),0):Option zm×Int)):=rfl;generalize ZX s=R at HR⊢;generalize yG s=v at HV HC HOk HR;generalize hPo:ze7 p R w=Po;have HPo:Hid (∀r,R=r->∀e W,ze7 p r w e W->Po e W):=λr h e W h2=>by rw[←hPo,h];exact h2
 clear hPo hX hp hn hs hG hpW;rw[zo]at HV HC⊢;go_enter Tryz.func13, Tryz.ntmps13;go_upto_region 1 with fail;generalize hW2:World.alloc (World.alloc w _) _=W2;have HB2:Hid (Below w.heap.size w W2):=by show Below _ _ _;rw[←hW2];exact((Below.refl _ _).alloc (Nat.le_refl _) _).alloc (by simp) _
 have HX2:Hid (W2.heap[w.heap.size]? = some (ye s ae ce a cap)):=by show _=_;rw[←hW2];exact zk (zh rfl)
 have HY2:Hid (W2.heap[w.heap.size+1]? = some qz):=by show _=_;rw[←hW2];exact zh (by simp)
 have hz2:w.heap.size+2<=W2.heap.size:=by rw[←hW2];simp
 clear hW2;obtain⟨b0,b1,b2,b3,b4,b5,b6,b7,b8⟩:=zt HX2.out;go_wp2_with fail;refine(HV.out _ HB2.out).mono ?_;rintro e w3 ⟨rfl,hb3⟩;have HB3:Hid (Below w.heap.size w w3):=HB2.out.trans (hb3.mono HB2.out.size);have HX3:Hid (w3.heap[w.heap.size]? = some (ye s ae ce a cap)):=(hb3.block _ (by omega)).trans HX2.out;have HY3:Hid (w3.heap[w.heap.size+1]? = some qz):=(hb3.block _ (by omega)).trans HY2.out;have hz3:w.heap.size+2<=w3.heap.size:=by have:=hb3.size;omega
 clear hb3 HX2 HY2 HB2 HV b0 b1 b2 b3 b4 b5 b6 b7 b8 hz2;by_cases hv:v=0
 ·subst hv;obtain⟨b0,b1,b2,b3,b4,b5,b6,b7,b8⟩:=zt HX3.out;obtain⟨q,hq⟩:∃q:Nat->Bool,(λj=>p j||(j==w.heap.size+1))=q:=⟨_,rfl⟩;have Q:Hid (∀j,q j=true<->p j=true\/j=w.heap.size+1):=λj=>by rw[←hq];simp
  have HQl:Hid (∀W:World,w.heap.size+2<=W.heap.size->∀j,q j=true->j<W.heap.size):=λW hW j hj=>by
   rcases (Q.out j).1 hj with h|h
   ·have:=HPW.out w (Below.refl _ _) j h;omega
   ·omega
  have HCc:=Lib.hid (HC.out rfl q w3 HB3.out (λk hk h=>((Q.out k).1 h).elim id λe=>by omega) (HQl.out w3 hz3));clear hq;have HOk2:=Lib.hid (HOk.out rfl);clear HC HOk;go_wp2_with fail;refine HCc.out.mono ?_;intro e w5 h5;cases hr:yz s with
  |none =>
   rw[hr]at h5;obtain⟨rfl,hb5⟩:=h5.outNo;have HRe:Hid (R=(none,2)):=by show _=_;rw[HR.out,if_neg (by simp),hr]
   have HB5:Hid (Below w.heap.size w w5):=HB3.out.trans (hb5.mono HB3.out.size);have hy5:w5.heap[w.heap.size+1]? = some qz:=(hb5.block _ (by omega)).trans HY3.out;obtain⟨⟨c0,c1,c2⟩,⟨d0,d1,d2⟩⟩:=zgF hy5;have HY5:=Lib.hid hy5;clear h5 hb5 hy5 hr HR HOk2 b0 b1 b2 b3 b4 b5 b6 b7 b8;go_wp2_with fail;refine bodyPost_ret (v:=.tuple #[.agg #[.int .i64 0,.slice none 0 0,.slice none 0 0],.int .i64 2]) (xL _ rfl _ _ (w.heap.size+1) _ _ _ _ (zb1 (zk HY5.out)) rfl rfl) rfl ?_;refine HPo.out _ HRe.out _ _ ⟨rfl,?_⟩;have hz:=HB5.out.size;exact(((HB5.out.alloc hz _).setCell (by simp) _).setCell (by simp) _).setCell (by simp) _
  |some n =>
   rw[hr]at h5;obtain⟨x,rfl,hn5,hb5⟩:=h5.outYes;have HRe:Hid (R=(some (trimS n),0)):=by show _=_;rw[HR.out,if_neg (by simp),hr]
   have HB5:Hid (Below w.heap.size w w5):=HB3.out.trans (hb5.mono HB3.out.size);have hok:=HOk2.out n hr;have hy5:w5.heap[w.heap.size+1]? = some qz:=(hb5.block _ (by omega)).trans HY3.out;have HN5:=Lib.hid hn5;have hz5:w.heap.size+2<=w5.heap.size:=by have:=hb5.size;omega
   have HY5:=Lib.hid hy5;clear h5 hb5 hy5 hr HR HOk2 hn5 b0 b1 b2 b3 b4 b5 b6 b7 b8;go_upto_region 6 with fail;generalize hW6:World.alloc w5 _=W6;have hB6:Below w5.heap.size w5 W6:=by rw[←hW6];exact(Below.refl _ _).alloc (Nat.le_refl _) _
   have hx6:W6.heap[w5.heap.size]? = some (Zq n x):=by rw[←hW6];exact zh rfl
   obtain⟨n0,n1,n2⟩:=zv hx6;have HB6:Hid (Below w.heap.size w W6):=HB5.out.trans (hB6.mono HB5.out.size);have HY6:Hid (W6.heap[w.heap.size+1]? = some qz):=(hB6.block _ (by omega)).trans HY5.out;have hz6:=hB6.size;have HT:=Lib.hid (zj7 q n x W6 (HN5.out.keep (zg hB6 λ_ _ h=>h)) (HQl.out W6 (by omega)) (HG.out.below HB6.out) (Xv hok));rw[zH]at HT;clear hW6 hB6 hx6 hok;go_wp2_with fail;refine HT.out.mono ?_;rintro e w7 ⟨⟨y,rfl,hn7⟩,hb7⟩;have HB7:Hid (Below w.heap.size w w7):=HB6.out.trans (hb7.mono HB6.out.size);have hy7:w7.heap[w.heap.size+1]? = some (.cells #[.int .i64 0,.slice none 0 0,.slice none 0 0] 33 (0,0)):=(hb7.block _ (by omega)).trans HY6.out;obtain⟨r0,r1,r2⟩:=zv hy7;have r0f:w7.frozen? ⟨w.heap.size+1,0,none⟩=false:=by simp[World.frozen?,hy7]
   have r1f:w7.frozen? ⟨w.heap.size+1,1,none⟩=false:=by simp[World.frozen?,hy7]
   have r2f:w7.frozen? ⟨w.heap.size+1,2,none⟩=false:=by simp[World.frozen?,hy7]
   have HY7:=Lib.hid hy7;have HN7:=Lib.hid hn7;clear hb7 hy7 hn7 n0 n1 n2;go_wp2_with fail;refine bodyPost_ret (v:=.tuple #[.agg #[.int .i64 (trimS n).states,.slice y.ae (trimS n).edges.length y.ce,.slice y.aa (trimS n).accept.length y.ca],.int .i64 0]) (xL _ rfl _ _ (w.heap.size+1) _ _ _ _ (zb1 HY7.out) rfl rfl) rfl ?_;have hq1:q (w.heap.size+1)=true:=(Q.out _).2 (Or.inr rfl);refine HPo.out _ HRe.out _ _ ⟨⟨y,rfl,HN7.out.keep (Kp.trans (zj hq1) (Kp.trans (zj hq1) (Kp.trans (zj hq1) (zR λj hj=>(Q.out j).2 (Or.inl hj)))))⟩,?_⟩;exact((HB7.out.setCell (by simp) _).setCell (by simp) _).setCell (by simp) _
 ·have HRe:Hid (R=(none,1)):=by show _=_;rw[HR.out,if_pos hv]
  have hvb:(v==0)=false:=by simp[hv]
  have hy:w3.heap[w.heap.size+1]? = some (.cells #[.int .i64 0,.slice none 0 0,.slice none 0 0] 33 (0,0)):=HY3.out;obtain⟨r0,r1,r2⟩:=zv hy;have r0f:w3.frozen? ⟨w.heap.size+1,0,none⟩=false:=by simp[World.frozen?,hy]
  have r1f:w3.frozen? ⟨w.heap.size+1,1,none⟩=false:=by simp[World.frozen?,hy]
  have r2f:w3.frozen? ⟨w.heap.size+1,2,none⟩=false:=by simp[World.frozen?,hy]
  have HY:=Lib.hid hy;clear hy HR HC HOk;go_wp2_with fail;refine bodyPost_ret (v:=.tuple #[.agg #[.int .i64 0,.slice none 0 0,.slice none 0 0],.int .i64 1]) (xL _ rfl _ _ (w.heap.size+1) _ _ _ _ (zb1 HY.out) rfl rfl) rfl ?_;refine HPo.out _ HRe.out _ _ ⟨rfl,((HB3.out.setCell (by simp) _).setCell (by simp) _).setCell (by simp) _⟩
end Go.Proofs.YthojpomoflhbcaaGreatDoor
