
import Derived.Test.YtnfkbliokjjggaaGreatDoorH00
import Derived.Lib.Tables
import Derived.Laws.EntriesVeiled
set_option maxRecDepth 10000
set_option maxHeartbeats 2000000
set_option linter.unusedSimpArgs false
set_option linter.unusedVariables false
set_option linter.unnecessarySimpa false
namespace Go.Proofs.YtnfkbliokjjggaaGreatDoor
open Go.RowKit
theorem tabF:∀x:Fin 256,(Lib.pop8tab.data.toList.getD x.val 0).toNat=Yk x.val:=by decide +kernel
theorem popF:∀x:Fin 256,Lib.pop8 (x.val:Int)=(Yk x.val:Int):=by decide +kernel
theorem tabN (x:Nat) (hx:x<256) (h:x<Lib.pop8tab.size):(Lib.pop8tab[x]'h).toNat=Yk x:=by have h1:=tabF ⟨x,hx⟩;simp only at h1;rw[←h1,List.getD_eq_getElem?_getD,List.getElem?_eq_getElem (by simpa using h)];rfl
theorem zdt (n:Nat) (h:n<65536) (w:World):Calls Tryz.prog 343 #[.int .u16 n] w λe w'=>e=.returned (.int .i64 (Yk n:Nat))/\Below w.heap.size w w':=by
 have h1:(n:Int) / 256<256:=by omega
 have h2:0<=(n:Int) / 256:=by omega
 have hb:bits .and .u16 (n:Int) 255=((n % 256:Nat):Int):=by rw[show (255:Int)=((255:Nat):Int) from rfl,u16_and_nat _ _ h (by decide)];exact congrArg _ (Nat.and_two_pow_sub_one_eq_mod n 8)
 have h3:(n:Int) % 256<256:=by omega
 have h4:0<=(n:Int) % 256:=by omega
 have hs:Lib.pop8tab.size=256:=by decide +kernel
 go_enter Tryz.func343, Tryz.ntmps343;go_wp2_with fail;go_quiet (fail);go_wp2_with fail;go_ret;refine⟨?_,below_drewN (Below.refl _ _) _⟩;have e1:=tabN (n / 256) (by omega) (by rw[hs];omega);have e2:=popF ⟨n % 256,by omega⟩;simp only[Int.natCast_emod]at e2;have e3:=zdu n h;have e4:Yk (n / 256)<=16:=by unfold Yk zY;omega
 have e5:Yk (n % 256)<=16:=by unfold Yk zY;omega
 show Ending.returned (.int .i64 ((((Lib.pop8tab[n / 256]'(by rw[hs];omega)).toNat:Int)+Lib.pop8 ((n:Int) % ((256:Nat):Int))) % 256))=_;rw[e1,e2,e3];congr 2;omega
theorem zeg (a:Int) (w:World):Calls Tryz.prog 331 #[.int .i64 a] w λe w'=>e=.returned (.int .i64 (zfk a))/\Below w.heap.size w w':=by
 obtain⟨A,hA⟩:∃A:Nat,(A:Int)=a % 65536:=⟨(a % 65536).toNat,by omega⟩;have hlt:A<65536:=by omega
 have hC:=zdt A hlt w;have HC:=Lib.hid hC;have HA:=Lib.hid hA;clear hC hA;go_enter Tryz.func331, Tryz.ntmps331;go_wp2_with (first|(go_at_call 137;refine(xD _ _).mono ?_;rintro e w' ⟨rfl,rfl⟩;rw[←HA.out])|(go_at_call 343;refine HC.out.mono ?_;rintro e w1 ⟨rfl,hb1⟩));go_ret;exact⟨by unfold zfk;rw[←HA.out];simp,by assumption⟩
def Qd (op:Int):Int :=
 if op=1\/op=2\/op=24 then 0 else if op=3\/op=4\/op=5\/op=6\/op=25 then 1 else if op=22 then 3 else if op=23 then -1 else if op<1\/25<op then -1 else 2
def xJ (op:Int) (n:Nat):Bool:=if op=23 then decide (n % 2=1/\3<=n/\n<=33) else decide ((n:Int)=Qd op)
def Z9 (l:List UInt8):Bool:=match l with
 | [x,y]=>y==93&&decide (48<=x)&&decide (x<56)
 |_=>false
def ZK (l:List UInt8):Bool:=(Lib.cut l [91]).2.2&&yQ (Lib.cut l [91]).1&&Z9 (Lib.cut l [91]).2.1
def zjz (l:List UInt8):Bool:=ZK l||yQ l
def xQ (e:Ex):Int :=
 if e.op<1\/25<e.op then 1
 else if e.op=1/\(e.n<0\/65535<e.n)\/e.op≠1/\e.n≠0 then 1
 else if ¬(e.op=2\/e.op=3\/e.op=24)/\e.name.data.toList≠[]\/xJ e.op e.args.length=false then 1
 else if e.op=2/\zjz e.name.data.toList=false\/(e.op=3\/e.op=24)/\yQ e.name.data.toList=false then 7
 else 0
theorem zek (op:Int) (w:World) :
 Calls Tryz.prog 271 #[.int .i64 op] w λe w'=>e=.returned (.int .i64 (Qd op))/\w=w':=by
 go_enter Tryz.func271, Tryz.ntmps271;go_wp2;all_goals go_ret
 all_goals refine⟨?_,rfl⟩
 all_goals simp_all [Qd]
 all_goals omega
theorem za2 (op n:Int) (s:ByteArray) (a:Option Addr) (len cap:Nat) (w:World) (hl:len<=1073741824) :
 Calls Tryz.prog 231 #[.agg #[.int .i64 op,.int .i64 n,.string s,.slice a len cap]] w λe w'=>e=.returned (.bool (xJ op len))/\Below w.heap.size w w':=by
 have hB:Hid (∀o,Below w.heap.size w (w.alloc o)):=λo=>(Below.refl _ _).alloc (Nat.le_refl _) _;go_enter Tryz.func231, Tryz.ntmps231;go_wp2_with (go_at_call 271;refine(zek _ _).mono ?_;rintro e w' ⟨rfl,rfl⟩);all_goals go_ret
 all_goals refine⟨?_,hB.out _⟩
 all_goals simp_all [xJ]
 all_goals first|omega|(rw[Bool.eq_iff_iff];simp;done)|(rw[Bool.eq_iff_iff];simp;omega)
theorem zi2 (l:List UInt8):(Lib.cut l [91]).1.length<=l.length:=by
 unfold Lib.cut;split
 ·show (List.take _ _).length<=_;rw[List.length_take];omega
 ·exact Nat.le_refl _
theorem Zb (x y:UInt8):Z9 [x,y]=decide (y.toNat=93/\48<=x.toNat/\x.toNat<56):=by show (y==93&&decide (48<=x)&&decide (x<56))=_;rw[Bool.eq_iff_iff];simp[UInt8.le_iff_toNat_le,UInt8.lt_iff_toNat_lt,←UInt8.toNat_inj,and_assoc]
theorem zg6 (x y:UInt8) (h):(⟨#[x,y]⟩:ByteArray)[0]'h=x:=rfl
theorem zg7 (x y:UInt8) (h):(⟨#[x,y]⟩:ByteArray)[1]'h=y:=rfl
theorem Xw {l:List UInt8} (h:l.length≠2):Z9 l=false:=by
 unfold Z9;split
 ·simp at h
 ·rfl
theorem zbG (s:ByteArray) (w:World) (hs:s.size<=1073741824) (hG:qW w) :
 Calls Tryz.prog 272 #[.string s] w λe w'=>(∃(t:ByteArray) (i:Int),e=.returned (.tuple #[.string t,.int .i64 i,.bool (ZK s.data.toList)]))/\Below w.heap.size w w':=by
 obtain⟨m,hm⟩:=hG.1;have hC:=Tryz.strings_Cut s ⟨#[91]⟩ m w (by omega) hm;have hsz:(Lib.cut s.data.toList [91]).1.length<=s.size:=by rw[Lib.size_eq];exact zi2 _
 have hE:ZK s.data.toList=((Lib.cut s.data.toList [91]).2.2&&yQ (Lib.cut s.data.toList [91]).1&&Z9 (Lib.cut s.data.toList [91]).2.1):=rfl;have e91:(⟨#[91]⟩:ByteArray).data.toList=[91]:=rfl;rw[e91]at hC;clear e91;generalize Lib.cut s.data.toList [91]=c at hC hsz hE;obtain⟨nm,idx,ok⟩:=c;dsimp only at hC hsz hE;have HE:=Lib.hid hE;have HC:=Lib.hid hC;have HG:=Lib.hid hG;have hsz':(⟨nm.toArray⟩:ByteArray).size<=1073741824:=by show nm.toArray.size<=_;simp;omega
 have Hsz:=Lib.hid hsz';clear hC hG hm hsz hsz' hE;go_enter Tryz.func272, Tryz.ntmps272;go_wp2_with fail;refine HC.out.mono ?_;rintro e w1 ⟨rfl,k,rfl⟩;have hB1:Below w.heap.size w (w.drewN k):=below_drewN (Below.refl _ _) k;have hN:=Lib.hid ((qx ⟨nm.toArray⟩ (w.drewN k) Hsz.out (HG.out.below hB1)).mono λe w' h=>(⟨h.1,hB1.trans h.2⟩:_/\Below w.heap.size w w'));have HB1:=Lib.hid hB1;clear hB1;cases ok
 ·go_wp2_with fail;go_ret3;exact⟨⟨.empty,0,by rw[HE.out];rfl⟩,HB1.out⟩
 ·cases hn:yQ nm
  ·go_wp2_with (go_at_call 102;refine hN.out.mono ?_;rintro e w2 ⟨rfl,hb2⟩;rw[hn]);go_ret3;exact⟨⟨.empty,0,by rw[HE.out,hn];rfl⟩,by assumption⟩
  ·by_cases h2:idx.length=2
   ·obtain⟨x,y,rfl⟩:∃x y,idx=[x,y]:=by
     match idx,h2 with
     | [x,y],_=>exact⟨x,y,rfl⟩
    clear h2;have hx:=zg6 x y;have hy:=zg7 x y;have HT:Hid (ZK s.data.toList=decide (y.toNat=93/\48<=x.toNat/\x.toNat<56)):=by show _=_;rw[HE.out,hn,Zb];rfl
    by_cases h93:y.toNat=93
    ·by_cases h48:48<=x.toNat
     ·by_cases h56:x.toNat<56
      ·have HX:=Lib.hid (HT.out.trans (decide_eq_true ⟨h93,h48,h56⟩));go_wp2_with (go_at_call 102;refine hN.out.mono ?_;rintro e w2 ⟨rfl,hb2⟩;rw[hn]);go_quiet (fail);go_wp2_with fail;go_ret3;exact⟨⟨⟨nm.toArray⟩,(x.toNat:Int)-48,by rw[HX.out];rfl⟩,below_drewN (by assumption) _⟩
      ·have HX:=Lib.hid (HT.out.trans (decide_eq_false (λh=>h56 h.2.2)));go_wp2_with (go_at_call 102;refine hN.out.mono ?_;rintro e w2 ⟨rfl,hb2⟩;rw[hn]);go_ret3;exact⟨⟨.empty,0,by rw[HX.out];rfl⟩,by assumption⟩
     ·have HX:=Lib.hid (HT.out.trans (decide_eq_false (λh=>h48 h.2.1)));go_wp2_with (go_at_call 102;refine hN.out.mono ?_;rintro e w2 ⟨rfl,hb2⟩;rw[hn]);go_ret3;exact⟨⟨.empty,0,by rw[HX.out];rfl⟩,by assumption⟩
    ·have HX:=Lib.hid (HT.out.trans (decide_eq_false (λh=>h93 h.1)));go_wp2_with (go_at_call 102;refine hN.out.mono ?_;rintro e w2 ⟨rfl,hb2⟩;rw[hn]);go_ret3;exact⟨⟨.empty,0,by rw[HX.out];rfl⟩,by assumption⟩
   ·have ht:=Xw h2;go_wp2_with (go_at_call 102;refine hN.out.mono ?_;rintro e w2 ⟨rfl,hb2⟩;rw[hn]);go_ret3;exact⟨⟨.empty,0,by rw[HE.out,ht,hn];rfl⟩,by assumption⟩
theorem zeZ (s:ByteArray) (w:World) (hs:s.size<=1073741824) (hG:qW w) :
 Calls Tryz.prog 232 #[.string s] w λe w'=>e=.returned (.bool (zjz s.data.toList))/\Below w.heap.size w w':=by
 have hE:=Lib.hid (zbG s w hs hG);have HG:=Lib.hid hG;clear hG;go_enter Tryz.func232, Tryz.ntmps232;go_wp2_with fail;refine hE.out.mono ?_;rintro e w1 ⟨⟨t,i,rfl⟩,hb1⟩;have hN:=Lib.hid ((qx s w1 hs (HG.out.below hb1)).mono λe w' h=>(⟨h.1,hb1.trans (h.2.mono hb1.size)⟩:_/\Below w.heap.size w w'));cases he:ZK s.data.toList;all_goals go_wp2_with (go_at_call 102;refine hN.out.mono ?_;rintro e w2 ⟨rfl,hb2⟩)
 all_goals go_ret
 all_goals exact⟨by unfold zjz;rw[he];rfl,by assumption⟩
theorem zgD (op n:Int) (s:ByteArray) (args:List Ex) (a:Option Addr) (cap:Nat) (w:World) (hs:s.size<=1073741824) (hl:args.length<=1073741824) (hG:qW w) :
 Calls Tryz.prog 171 #[.agg #[.int .i64 op,.int .i64 n,.string s,.slice a args.length cap]] w λe w'=>e=.returned (.int .i64 (xQ (.mk op n s args)))/\Below w.heap.size w w':=by
 have HG:=Lib.hid hG;clear hG;go_enter Tryz.func171, Tryz.ntmps171;go_wp2_with (first|(go_at_call 231;go_must (refine(fr (W0:=w) (B:=w.heap.size) (za2 _ _ _ _ _ _ _ hl) bel sz).mono ?_;rintro e w1 ⟨rfl,hc1,hf1,hz1,hb1⟩;try simp only[World.size_alloc,World.size_setCell,World.size_drew,World.heap_drewN]at hz1;try (have hzl0:w.heap.size<w1.heap.size:=by omega);try (have hzl1:w.heap.size+1<w1.heap.size:=by omega);try (have hzl2:w.heap.size+2<w1.heap.size:=by omega);try (have hzl3:w.heap.size+3<w1.heap.size:=by omega);try (have hzl4:w.heap.size+4<w1.heap.size:=by omega);try (have hzl5:w.heap.size+5<w1.heap.size:=by omega)))|(go_at_call 232;go_must (refine(fr (W0:=w) (B:=w.heap.size) (zeZ _ _ hs (HG.out.below bel)) bel sz).mono ?_;rintro e w1 ⟨rfl,hc1,hf1,hz1,hb1⟩;try simp only[World.size_alloc,World.size_setCell,World.size_drew,World.heap_drewN]at hz1;try (have hzl0:w.heap.size<w1.heap.size:=by omega);try (have hzl1:w.heap.size+1<w1.heap.size:=by omega);try (have hzl2:w.heap.size+2<w1.heap.size:=by omega);try (have hzl3:w.heap.size+3<w1.heap.size:=by omega);try (have hzl4:w.heap.size+4<w1.heap.size:=by omega);try (have hzl5:w.heap.size+5<w1.heap.size:=by omega)))|(go_at_call 102;go_must (refine(fr (W0:=w) (B:=w.heap.size) (qx _ _ hs (HG.out.below bel)) bel sz).mono ?_;rintro e w1 ⟨rfl,hc1,hf1,hz1,hb1⟩;try simp only[World.size_alloc,World.size_setCell,World.size_drew,World.heap_drewN]at hz1;try (have hzl0:w.heap.size<w1.heap.size:=by omega);try (have hzl1:w.heap.size+1<w1.heap.size:=by omega);try (have hzl2:w.heap.size+2<w1.heap.size:=by omega);try (have hzl3:w.heap.size+3<w1.heap.size:=by omega);try (have hzl4:w.heap.size+4<w1.heap.size:=by omega);try (have hzl5:w.heap.size+5<w1.heap.size:=by omega))))
 all_goals go_ret
 all_goals refine⟨?_,bel⟩
 all_goals congr 2
 all_goals simp_all [xQ,Ex.op,Ex.n,Ex.name,Ex.args,ByteArray.toList_eq]
 all_goals (try omega)
def QN (t:TypeId):Prop:=t=24\/t=228
structure KT (B:Nat) (w w':World):Prop where
 os:w'.os=w.os
 tape:w'.tape=w.tape
 output:w'.output=w.output
 size:w.heap.size<=w'.heap.size
 low:∀k,k<w.heap.size->k<B->w'.heap[k]? = w.heap[k]?
 typed:∀(k:Nat) (c:Array Value) (t:TypeId) (z:Nat×Nat),w.heap[k]? = some (.cells c t z)->QN t->w'.heap[k]? = some (.cells c t z)
theorem KT.refl (B:Nat) (w:World):KT B w w:=⟨rfl,rfl,rfl,Nat.le_refl _,λ_ _ _=>rfl,λ_ _ _ _ h _=>h⟩
theorem KT.trans {B:Nat} {a b c:World} (h:KT B a b) (k:KT B b c):KT B a c :=
 ⟨k.os.trans h.os,k.tape.trans h.tape,k.output.trans h.output,Nat.le_trans h.size k.size,λi hi hb=>(k.low i (Nat.lt_of_lt_of_le hi h.size) hb).trans (h.low i hi hb),λi c t z hh ht=>k.typed i c t z (h.typed i c t z hh ht) ht⟩
theorem KT.of_below {B:Nat} {w w':World} (h:Below w.heap.size w w'):KT B w w' :=
 ⟨h.os,h.tape,h.output,h.size,λk hk _=>h.block k hk,λk c t z hh _=>by rw[h.block k (lt_of_block hh)];exact hh⟩
theorem KT.alloc {B:Nat} {a w:World} (h:KT B a w) (o:Obj):KT B a (w.alloc o) :=
 h.trans (KT.of_below ((Below.refl _ _).alloc (Nat.le_refl _) o))
theorem KT.setCell {B:Nat} {a w:World} (h:KT B a w) {p:Addr} {c:Array Value} {t:TypeId} {z:Nat×Nat} (hp:w.heap[p.block]? = some (.cells c t z)) (ht:¬QN t) (hB:B<=p.block) (u:Value):KT B a (w.setCell p u) :=
 h.trans ⟨rfl,rfl,rfl,by simp[World.setCell],λk hk hb=>Below.heap_setCell _ _ _ _ (by omega),λk c' t' z' hh ht'=>by rw[Below.heap_setCell _ _ _ _ (by rintro rfl;rw[hp]at hh;simp only[Option.some.injEq,Obj.cells.injEq]at hh;exact ht (hh.2.1 ▸ ht'))];exact hh⟩
theorem KT.grown {B:Nat} {a w w':World} {row:Option Nat} (h:KT B a w) (hg:w.grownBy w' row) (hB:∀k,row=some k->B<=k) (ht:∀(k:Nat) (c:Array Value) (t:TypeId) (z:Nat×Nat),row=some k->w.heap[k]? = some (.cells c t z)->¬QN t):KT B a w' :=
 h.trans ⟨hg.os,hg.tape,hg.output,hg.size,λk hk hb=>hg.block k hk (λe=>by have:=hB k e.symm;omega),λk c t z hh hs=>by rw[hg.block k (lt_of_block hh) (λe=>ht k c t z e.symm hh hs)];exact hh⟩
theorem KT.below {B:Nat} {w w':World} (h:KT B w w') (hB:B<=w.heap.size):Below B w w' :=
 ⟨h.os,h.tape,h.output,h.size,λk hk=>h.low k (by omega) hk⟩
def xY {α:Type} (step:α->Ex->α×Bool):α->List Ex->α×Bool
 |st,[]=>(st,true)
 |st,e::l=>if (step st e).2=true then xY step (step st e).1 l else ((step st e).1,false)
theorem ZN {α:Type} (step:α->Ex->α×Bool) (l l':List Ex):∀st,xY step st (l++l')=if (xY step st l).2=true then xY step (xY step st l).1 l' else xY step st l:=by
 induction l with
 |nil=>intro st;simp[xY]
 |cons e l ih =>
  intro st;simp only[List.cons_append,xY];by_cases h:(step st e).2=true
  ·simp only[if_pos h];exact ih _
  ·simp[if_neg h]
noncomputable def zy (l:List Ex) (k:Nat):List Ex:=((l.take k).map Ex.nodes).flatten
theorem xI (l:List Ex) (k:Nat) (h:k<l.length):zy l (k+1)=zy l k++(l[k]'h).nodes:=by unfold zy;rw[List.take_succ_eq_append_getElem h,List.map_append,List.flatten_append];simp
theorem XH (l:List Ex) (k:Nat) (h:l.length<=k):zy l k=(l.map Ex.nodes).flatten:=by unfold zy;rw[List.take_of_length_le h]
theorem Yi (l:List Ex) (k:Nat):∃r,zy l l.length=zy l k++r:=by refine⟨((l.drop k).map Ex.nodes).flatten,?_⟩;rw[XH _ _ (Nat.le_refl _)];unfold zy;rw[←List.flatten_append,←List.map_append,List.take_append_drop]
theorem yO (e:Ex):e.nodes=e::zy e.args e.args.length:=by rw[Ex.nodes_eq,XH _ _ (Nat.le_refl _)]
def zL (e:Ex) (a:Option Addr) (cap:Nat):Value:=.agg #[.int .i64 e.op,.int .i64 e.n,.string e.name,.slice a e.args.length cap]
def ZZ (k:FuncId) (caps:Array Value) (w0:World) {α:Type} (Inv:α->World->Prop) (size:α->Nat) (step:α->Ex->α×Bool):Prop :=
 ∀(st:α) (op n:Int) (s:ByteArray) (args:List Ex) (a:Option Addr) (cap:Nat) (w:World),size st<1073741824->Inv st w->Below w0.heap.size w0 w->yA w0 (.mk op n s args) a cap ->
  Calls Tryz.prog k (#[.agg #[.int .i64 op,.int .i64 n,.string s,.slice a args.length cap]]++caps) w λr w'=>r=.returned (.bool (step st (.mk op n s args)).2)/\Inv (step st (.mk op n s args)).1 w'/\KT w0.heap.size w w'
def QO {α:Type} (Inv:α->World->Prop) (step:α->Ex->α×Bool) (w0 w:World) (st:α) (l:List Ex) (r:Ending) (w':World):Prop :=
 r=.returned (.bool (xY step st l).2)/\Inv (xY step st l).1 w'/\KT w0.heap.size w w'
def zbv {α:Type} (Inv:α->World->Prop) (step:α->Ex->α×Bool) (w0 w1:World) (st:α) (args:List Ex) (i:Nat) (wr:World):Prop :=
 i<=args.length/\(xY step st (zy args i)).2=true/\Inv (xY step st (zy args i)).1 wr/\KT w0.heap.size w1 wr
theorem YM {α:Type} {step:α->Ex->α×Bool} {st:α} {e:Ex} (h:(step st e).2=false):xY step st e.nodes=((step st e).1,false):=by rw[yO];simp[xY,h]
theorem Zy {α:Type} {step:α->Ex->α×Bool} {st:α} {e:Ex} (h:(step st e).2=true):xY step st e.nodes=xY step (step st e).1 (zy e.args e.args.length):=by rw[yO];simp[xY,h]
theorem XZ {α:Type} {step:α->Ex->α×Bool} {st:α} {l:List Ex} {k:Nat} (hk:k<l.length) (h1:(xY step st (zy l k)).2=true) (h2:(xY step (xY step st (zy l k)).1 (l[k]'hk).nodes).2=false) :
 xY step st (zy l l.length)=xY step (xY step st (zy l k)).1 (l[k]'hk).nodes:=by
 obtain⟨r,hr⟩:=Yi l (k+1);rw[hr,ZN,xI _ _ hk,ZN,if_pos h1,if_neg (by rw[h2];simp)]
theorem zb8 {α:Type} {step:α->Ex->α×Bool} {st:α} {l:List Ex} {k:Nat} (hk:k<l.length) (h1:(xY step st (zy l k)).2=true) :
 xY step st (zy l (k+1))=xY step (xY step st (zy l k)).1 (l[k]'hk).nodes:=by
 rw[xI _ _ hk,ZN,if_pos h1]
theorem XT {α:Type} {step:α->Ex->α×Bool} {size:α->Nat} (hsz:∀st e,size (step st e).1<=size st+1) (l:List Ex):∀st,size (xY step st l).1<=size st+l.length:=by
 induction l with
 |nil=>intro st;simp[xY]
 |cons e l ih =>
  intro st;simp only[xY,List.length_cons];have h1:=hsz st e;split
  ·have:=ih (step st e).1;omega
  ·show size (step st e).1<=_;omega
theorem xS (args:List Ex) (k:Nat) (h:k<args.length):(zy args k).length+(args[k]'h).nodes.length<=(zy args args.length).length:=by obtain⟨r,hr⟩:=Yi args (k+1);rw[hr,xI _ _ h];simp only[List.length_append];omega
theorem zi (w:World) (o:Obj):(w.alloc o).heap[w.heap.size]? = some o:=by show (w.heap.push o)[w.heap.size]? = _;simp
theorem zm (w:World) (o:Obj) (k:Nat) (h:k=w.heap.size):(w.alloc o).heap[k]? = some o:=by rw[h];exact zi w o
theorem zfU (cb:Nat) {α:Type} (Inv:α->World->Prop) (size:α->Nat) (step:α->Ex->α×Bool) (w0:World) (bv bd:Nat)
 (hsz:∀st e,size (step st e).1<=size st+1)
 (hst:∀st w w',Inv st w->Below w.heap.size w w'->Inv st w')
 (hv:ZZ 170 #[.pointer (some ⟨cb,0,none⟩)] w0 Inv size step) (e:Ex) :
 ∀(st:α) (a:Option Addr) (cap:Nat) (w:World),size st+e.nodes.length<=1073741824->Inv st w->Below w0.heap.size w0 w->yA w0 e a cap ->
  w.heap[bv]? = some (.cells #[.func (.func 170) #[] #[.pointer (some ⟨cb,0,none⟩)]] 228 (0,0)) ->
  w.heap[bd]? = some (.cells #[.func (.func 230) #[] #[.pointer (some ⟨bv,0,none⟩),.pointer (some ⟨bd,0,none⟩)]] 228 (0,0)) ->
  Calls Tryz.prog 230 #[zL e a cap,.pointer (some ⟨bv,0,none⟩),.pointer (some ⟨bd,0,none⟩)] w (QO Inv step w0 w st e.nodes):=by
 induction e using Ex.ind with
 |h e ih =>
  intro st a cap w hroom hI hB hE hbv hbd;obtain⟨op,n,s,args⟩:=e;have hnl:(Ex.mk op n s args).nodes.length=(zy args args.length).length+1:=by rw[yO];simp[Ex.args_mk]
  have hs1:=hsz st (.mk op n s args);have HR:=Lib.hid (⟨hnl,hs1,hroom,hsz⟩:_/\_/\_/\_);have hlen:=hE.2.2.1;simp only[Ex.args_mk]at hlen;have hadr:=hE.2.addr;simp only[Ex.args_mk]at hadr;have HB:=Lib.hid hB;have HE:=Lib.hid hE;have hBB:Below w.heap.size w (w.alloc (.cells #[.int .i64 op,.int .i64 n,.string s,.slice a args.length cap] 24)):=(Below.refl _ _).alloc (Nat.le_refl _) _;have HV:=Lib.hid (hv st op n s args a cap _ (by omega) (hst _ _ _ hI hBB) (hB.trans (hBB.mono hB.size)) hE);have HIH:=Lib.hid ih;have HST:=Lib.hid hst;have HBV:=Lib.hid hbv;have HBD:=Lib.hid hbd;have cv:∀o,(w.alloc o).cell? ⟨bv,0,none⟩=_:=λo=>(World.cell?_alloc_lt _ _ _ (lt_of_block hbv)).trans (cell_of_one hbv);clear hv ih hI hB hE hbv hbd hst hBB hnl hs1 hroom hsz;simp only[zL,Ex.op_mk,Ex.n_mk,Ex.name_mk,Ex.args_mk];have HA:=Lib.hid hadr;clear hadr;go_enter Tryz.func230, Tryz.ntmps230;go_wp2_with fail;refine HV.out.mono ?_;rintro e w1 ⟨rfl,hI1,hK1⟩;have HI1:=Lib.hid hI1;have HK0:Hid (KT w0.heap.size w w1):=(KT.of_below ((Below.refl _ _).alloc (Nat.le_refl _) _)).trans hK1;have hbox:=hK1.typed _ _ _ _ (zi _ _) (Or.inl rfl);have c3:w1.cell? ⟨w.heap.size,3,none⟩=some (.slice a args.length cap):=by simp[World.cell?,hbox]
  clear hI1 hK1 hbox cv HV;cases hs:(step st (.mk op n s args)).2
  ·go_wp2_with fail;go_ret;exact⟨by rw[YM hs];rfl,by rw[YM hs];exact HI1.out,HK0.out⟩
  ·go_wp2_with fail;go_loopw [14] (λi wr=>∃k:Nat,i=.int .i64 k/\zbv Inv step w0 w (step st (.mk op n s args)).1 args k wr) (λi _=>args.length-(intOf i).toNat);case atStart=>exact⟨0,rfl,Nat.zero_le _,rfl,HI1.out,HK0.out⟩
   case round =>
    obtain⟨k,rfl,hR⟩:=hrel;obtain⟨hk,hy,hIr,hKr⟩:=hR;have hBr:=HB.out.trans (hKr.below HB.out.size);by_cases hlt:k<args.length
    ·obtain⟨b,off,ha⟩:=HA.out.resolve_left (by omega);subst ha;obtain⟨a',cap',g0,g1,g2,g3,hX⟩:=HE.out.2.get rfl hlt;have kk:=za hBr;have c0:=kk _ _ g0;have c1:=kk _ _ g1;have c2:=kk _ _ g2;have c3':=kk _ _ g3;simp only[Ex.args_mk]at c0 c1 c2 c3';have hm:args[k]∈(Ex.mk op n s args).args:=List.getElem_mem hlt;have cd:∀o,(wr.alloc o).cell? ⟨bd,0,none⟩=_:=λo=>(World.cell?_alloc_lt _ _ _ (lt_of_block (hKr.typed _ _ _ _ HBD.out (Or.inr rfl)))).trans (cell_of_one (hKr.typed _ _ _ _ HBD.out (Or.inr rfl)));have hBA:Below wr.heap.size wr (wr.alloc (.cells #[.int .i64 (args[k]'hlt).op,.int .i64 (args[k]'hlt).n,.string (args[k]'hlt).name,.slice a' (args[k]'hlt).args.length cap'] 24)):=(Below.refl _ _).alloc (Nat.le_refl _) _;have hKA:=hKr.trans (KT.of_below hBA);have hrm:=xS args k hlt;have hsk:=XT HR.out.2.2.2 (zy args k) (step st (.mk op n s args)).1;have hroom':=HR.out;have hC:=HIH.out _ hm _ a' cap' _ (by omega) (HST.out _ _ _ hIr hBA) (hBr.trans (hBA.mono hBr.size)) hX (hKA.typed _ _ _ _ HBV.out (Or.inr rfl)) (hKA.typed _ _ _ _ HBD.out (Or.inr rfl));have HC:=Lib.hid (hC.mono λe w' h=>(⟨h.1,h.2.1,hKA.trans h.2.2⟩:_/\_/\KT w0.heap.size w w'));simp only[Ex.args_mk,zL]at HC;have Hy:=Lib.hid hy;have Hon:=Lib.hid (zb8 hlt hy);have Hstop:=Lib.hid (XZ hlt hy);clear hIr hKr hBr hy g0 g1 g2 g3 kk hC hBA hKA hrm hsk hroom';go_wp2_with fail;refine HC.out.mono ?_
     rintro e w2 ⟨rfl,hI2,hK2⟩;have HI2:=Lib.hid hI2;have HK2:=Lib.hid hK2;clear hI2 hK2;cases hr:(xY step (xY step (step st (.mk op n s args)).1 (zy args k)).1 (args[k]'hlt).nodes).2
     ·go_wp2_with fail;go_ret;have hw:=Zy hs;simp only[Ex.args_mk]at hw;rw[Hstop.out hr]at hw;exact⟨by rw[hw,hr];rfl,by rw[hw];exact HI2.out,HK2.out⟩
     ·go_wp2_with fail;go_roundw;case rel=>exact⟨k+1,by go_num,by omega,by rw[Hon.out];exact hr,by rw[Hon.out];exact HI2.out,HK2.out⟩
      case measure=>simp[intOf];omega
    ·obtain rfl:k=args.length:=by omega
     have HIr:=Lib.hid hIr;have HKr:=Lib.hid hKr;have Hy:=Lib.hid hy;clear hIr hKr hBr hy;go_wp2_with fail;go_ret;have hw:=Zy hs;simp only[Ex.args_mk]at hw;exact⟨by rw[hw,Hy.out];rfl,by rw[hw];exact HIr.out,HKr.out⟩
theorem zhc (cb:Nat) {α:Type} (Inv:α->World->Prop) (size:α->Nat) (step:α->Ex->α×Bool) (w0:World)
 (hsz:∀st e,size (step st e).1<=size st+1)
 (hst:∀st w w',Inv st w->Below w.heap.size w w'->Inv st w')
 (hv:ZZ 170 #[.pointer (some ⟨cb,0,none⟩)] w0 Inv size step) (op n:Int) (s:ByteArray) (args:List Ex) (st:α) (a:Option Addr) (cap:Nat) (w:World)
 (hroom:size st+(Ex.mk op n s args).nodes.length<=1073741824) (hI:Inv st w) (hB:Below w0.heap.size w0 w) (hE:yA w0 (.mk op n s args) a cap) :
 Calls Tryz.prog 169 #[.agg #[.int .i64 op,.int .i64 n,.string s,.slice a args.length cap],.func (.func 170) #[] #[.pointer (some ⟨cb,0,none⟩)]] w λr w' =>
  r=.returned (.tuple #[])/\Inv (xY step st (Ex.mk op n s args).nodes).1 w'/\KT w0.heap.size w w':=by
 have h1:Below w.heap.size w (((w.alloc (.cells #[.int .i64 op,.int .i64 n,.string s,.slice a args.length cap] 24)).alloc (.cells #[.func (.func 170) #[] #[.pointer (some ⟨cb,0,none⟩)]] 228)).alloc (.cells #[.func (.func 230) #[] #[.pointer (some ⟨w.heap.size+1,0,none⟩),.pointer (some ⟨w.heap.size+1+1,0,none⟩)]] 228)) :=
  ((((Below.refl _ _).alloc (Nat.le_refl _) _).alloc (by simp) _).alloc (by simp;omega) _)
 have hC:=zfU cb Inv size step w0 (w.heap.size+1) (w.heap.size+1+1) hsz hst hv (.mk op n s args) st a cap _ hroom (hst _ _ _ hI h1) (hB.trans (h1.mono hB.size)) hE
  (by rw[Below.heap_alloc _ _ _ (by simp)];exact zm _ _ _ (by simp)) (zm _ _ _ (by simp))
 have HC:=Lib.hid (hC.mono λe w' h=>(⟨h.1,h.2.1,(KT.of_below h1).trans h.2.2⟩:_/\_/\KT w0.heap.size w w'));simp only[zL,Ex.op_mk,Ex.n_mk,Ex.name_mk,Ex.args_mk]at HC;clear hC h1 hI hB hE hv hst hsz hroom;go_enter Tryz.func169, Tryz.ntmps169;go_wp2_with fail;refine HC.out.mono ?_;rintro e w2 ⟨rfl,hI2,hK2⟩;have HI2:=Lib.hid hI2;have HK2:=Lib.hid hK2;clear hI2 hK2;go_wp2_with fail;go_end0;exact⟨rfl,HI2.out,HK2.out⟩
theorem zfV (cb:Nat) {α:Type} (Inv:α->World->Prop) (size:α->Nat) (step:α->Ex->α×Bool) (w0:World) (bv bd:Nat)
 (hsz:∀st e,size (step st e).1<=size st+1)
 (hst:∀st w w',Inv st w->Below w.heap.size w w'->Inv st w')
 (hv:ZZ 233 #[.pointer (some ⟨cb,0,none⟩)] w0 Inv size step) (e:Ex) :
 ∀(st:α) (a:Option Addr) (cap:Nat) (w:World),size st+e.nodes.length<=1073741824->Inv st w->Below w0.heap.size w0 w->yA w0 e a cap ->
  w.heap[bv]? = some (.cells #[.func (.func 233) #[] #[.pointer (some ⟨cb,0,none⟩)]] 228 (0,0)) ->
  w.heap[bd]? = some (.cells #[.func (.func 230) #[] #[.pointer (some ⟨bv,0,none⟩),.pointer (some ⟨bd,0,none⟩)]] 228 (0,0)) ->
  Calls Tryz.prog 230 #[zL e a cap,.pointer (some ⟨bv,0,none⟩),.pointer (some ⟨bd,0,none⟩)] w (QO Inv step w0 w st e.nodes):=by
 induction e using Ex.ind with
 |h e ih =>
  intro st a cap w hroom hI hB hE hbv hbd;obtain⟨op,n,s,args⟩:=e;have hnl:(Ex.mk op n s args).nodes.length=(zy args args.length).length+1:=by rw[yO];simp[Ex.args_mk]
  have hs1:=hsz st (.mk op n s args);have HR:=Lib.hid (⟨hnl,hs1,hroom,hsz⟩:_/\_/\_/\_);have hlen:=hE.2.2.1;simp only[Ex.args_mk]at hlen;have hadr:=hE.2.addr;simp only[Ex.args_mk]at hadr;have HB:=Lib.hid hB;have HE:=Lib.hid hE;have hBB:Below w.heap.size w (w.alloc (.cells #[.int .i64 op,.int .i64 n,.string s,.slice a args.length cap] 24)):=(Below.refl _ _).alloc (Nat.le_refl _) _;have HV:=Lib.hid (hv st op n s args a cap _ (by omega) (hst _ _ _ hI hBB) (hB.trans (hBB.mono hB.size)) hE);have HIH:=Lib.hid ih;have HST:=Lib.hid hst;have HBV:=Lib.hid hbv;have HBD:=Lib.hid hbd;have cv:∀o,(w.alloc o).cell? ⟨bv,0,none⟩=_:=λo=>(World.cell?_alloc_lt _ _ _ (lt_of_block hbv)).trans (cell_of_one hbv);clear hv ih hI hB hE hbv hbd hst hBB hnl hs1 hroom hsz;simp only[zL,Ex.op_mk,Ex.n_mk,Ex.name_mk,Ex.args_mk];have HA:=Lib.hid hadr;clear hadr;go_enter Tryz.func230, Tryz.ntmps230;go_wp2_with fail;refine HV.out.mono ?_;rintro e w1 ⟨rfl,hI1,hK1⟩;have HI1:=Lib.hid hI1;have HK0:Hid (KT w0.heap.size w w1):=(KT.of_below ((Below.refl _ _).alloc (Nat.le_refl _) _)).trans hK1;have hbox:=hK1.typed _ _ _ _ (zi _ _) (Or.inl rfl);have c3:w1.cell? ⟨w.heap.size,3,none⟩=some (.slice a args.length cap):=by simp[World.cell?,hbox]
  clear hI1 hK1 hbox cv HV;cases hs:(step st (.mk op n s args)).2
  ·go_wp2_with fail;go_ret;exact⟨by rw[YM hs];rfl,by rw[YM hs];exact HI1.out,HK0.out⟩
  ·go_wp2_with fail;go_loopw [14] (λi wr=>∃k:Nat,i=.int .i64 k/\zbv Inv step w0 w (step st (.mk op n s args)).1 args k wr) (λi _=>args.length-(intOf i).toNat);case atStart=>exact⟨0,rfl,Nat.zero_le _,rfl,HI1.out,HK0.out⟩
   case round =>
    obtain⟨k,rfl,hR⟩:=hrel;obtain⟨hk,hy,hIr,hKr⟩:=hR;have hBr:=HB.out.trans (hKr.below HB.out.size);by_cases hlt:k<args.length
    ·obtain⟨b,off,ha⟩:=HA.out.resolve_left (by omega);subst ha;obtain⟨a',cap',g0,g1,g2,g3,hX⟩:=HE.out.2.get rfl hlt;have kk:=za hBr;have c0:=kk _ _ g0;have c1:=kk _ _ g1;have c2:=kk _ _ g2;have c3':=kk _ _ g3;simp only[Ex.args_mk]at c0 c1 c2 c3';have hm:args[k]∈(Ex.mk op n s args).args:=List.getElem_mem hlt;have cd:∀o,(wr.alloc o).cell? ⟨bd,0,none⟩=_:=λo=>(World.cell?_alloc_lt _ _ _ (lt_of_block (hKr.typed _ _ _ _ HBD.out (Or.inr rfl)))).trans (cell_of_one (hKr.typed _ _ _ _ HBD.out (Or.inr rfl)));have hBA:Below wr.heap.size wr (wr.alloc (.cells #[.int .i64 (args[k]'hlt).op,.int .i64 (args[k]'hlt).n,.string (args[k]'hlt).name,.slice a' (args[k]'hlt).args.length cap'] 24)):=(Below.refl _ _).alloc (Nat.le_refl _) _;have hKA:=hKr.trans (KT.of_below hBA);have hrm:=xS args k hlt;have hsk:=XT HR.out.2.2.2 (zy args k) (step st (.mk op n s args)).1;have hroom':=HR.out;have hC:=HIH.out _ hm _ a' cap' _ (by omega) (HST.out _ _ _ hIr hBA) (hBr.trans (hBA.mono hBr.size)) hX (hKA.typed _ _ _ _ HBV.out (Or.inr rfl)) (hKA.typed _ _ _ _ HBD.out (Or.inr rfl));have HC:=Lib.hid (hC.mono λe w' h=>(⟨h.1,h.2.1,hKA.trans h.2.2⟩:_/\_/\KT w0.heap.size w w'));simp only[Ex.args_mk,zL]at HC;have Hy:=Lib.hid hy;have Hon:=Lib.hid (zb8 hlt hy);have Hstop:=Lib.hid (XZ hlt hy);clear hIr hKr hBr hy g0 g1 g2 g3 kk hC hBA hKA hrm hsk hroom';go_wp2_with fail;refine HC.out.mono ?_
     rintro e w2 ⟨rfl,hI2,hK2⟩;have HI2:=Lib.hid hI2;have HK2:=Lib.hid hK2;clear hI2 hK2;cases hr:(xY step (xY step (step st (.mk op n s args)).1 (zy args k)).1 (args[k]'hlt).nodes).2
     ·go_wp2_with fail;go_ret;have hw:=Zy hs;simp only[Ex.args_mk]at hw;rw[Hstop.out hr]at hw;exact⟨by rw[hw,hr];rfl,by rw[hw];exact HI2.out,HK2.out⟩
     ·go_wp2_with fail;go_roundw;case rel=>exact⟨k+1,by go_num,by omega,by rw[Hon.out];exact hr,by rw[Hon.out];exact HI2.out,HK2.out⟩
      case measure=>simp[intOf];omega
    ·obtain rfl:k=args.length:=by omega
     have HIr:=Lib.hid hIr;have HKr:=Lib.hid hKr;have Hy:=Lib.hid hy;clear hIr hKr hBr hy;go_wp2_with fail;go_ret;have hw:=Zy hs;simp only[Ex.args_mk]at hw;exact⟨by rw[hw,Hy.out];rfl,by rw[hw];exact HIr.out,HKr.out⟩
theorem zhd (cb:Nat) {α:Type} (Inv:α->World->Prop) (size:α->Nat) (step:α->Ex->α×Bool) (w0:World)
 (hsz:∀st e,size (step st e).1<=size st+1)
 (hst:∀st w w',Inv st w->Below w.heap.size w w'->Inv st w')
 (hv:ZZ 233 #[.pointer (some ⟨cb,0,none⟩)] w0 Inv size step) (op n:Int) (s:ByteArray) (args:List Ex) (st:α) (a:Option Addr) (cap:Nat) (w:World)
 (hroom:size st+(Ex.mk op n s args).nodes.length<=1073741824) (hI:Inv st w) (hB:Below w0.heap.size w0 w) (hE:yA w0 (.mk op n s args) a cap) :
 Calls Tryz.prog 169 #[.agg #[.int .i64 op,.int .i64 n,.string s,.slice a args.length cap],.func (.func 233) #[] #[.pointer (some ⟨cb,0,none⟩)]] w λr w' =>
  r=.returned (.tuple #[])/\Inv (xY step st (Ex.mk op n s args).nodes).1 w'/\KT w0.heap.size w w':=by
 have h1:Below w.heap.size w (((w.alloc (.cells #[.int .i64 op,.int .i64 n,.string s,.slice a args.length cap] 24)).alloc (.cells #[.func (.func 233) #[] #[.pointer (some ⟨cb,0,none⟩)]] 228)).alloc (.cells #[.func (.func 230) #[] #[.pointer (some ⟨w.heap.size+1,0,none⟩),.pointer (some ⟨w.heap.size+1+1,0,none⟩)]] 228)) :=
  ((((Below.refl _ _).alloc (Nat.le_refl _) _).alloc (by simp) _).alloc (by simp;omega) _)
 have hC:=zfV cb Inv size step w0 (w.heap.size+1) (w.heap.size+1+1) hsz hst hv (.mk op n s args) st a cap _ hroom (hst _ _ _ hI h1) (hB.trans (h1.mono hB.size)) hE
  (by rw[Below.heap_alloc _ _ _ (by simp)];exact zm _ _ _ (by simp)) (zm _ _ _ (by simp))
 have HC:=Lib.hid (hC.mono λe w' h=>(⟨h.1,h.2.1,(KT.of_below h1).trans h.2.2⟩:_/\_/\KT w0.heap.size w w'));simp only[zL,Ex.op_mk,Ex.n_mk,Ex.name_mk,Ex.args_mk]at HC;clear hC h1 hI hB hE hv hst hsz hroom;go_enter Tryz.func169, Tryz.ntmps169;go_wp2_with fail;refine HC.out.mono ?_;rintro e w2 ⟨rfl,hI2,hK2⟩;have HI2:=Lib.hid hI2;have HK2:=Lib.hid hK2;clear hI2 hK2;go_wp2_with fail;go_end0;exact⟨rfl,HI2.out,HK2.out⟩
theorem zfW (ca cb:Nat) {α:Type} (Inv:α->World->Prop) (size:α->Nat) (step:α->Ex->α×Bool) (w0:World) (bv bd:Nat)
 (hsz:∀st e,size (step st e).1<=size st+1)
 (hst:∀st w w',Inv st w->Below w.heap.size w w'->Inv st w')
 (hv:ZZ 291 #[.pointer (some ⟨ca,0,none⟩),.pointer (some ⟨cb,0,none⟩)] w0 Inv size step) (e:Ex) :
 ∀(st:α) (a:Option Addr) (cap:Nat) (w:World),size st+e.nodes.length<=1073741824->Inv st w->Below w0.heap.size w0 w->yA w0 e a cap ->
  w.heap[bv]? = some (.cells #[.func (.func 291) #[] #[.pointer (some ⟨ca,0,none⟩),.pointer (some ⟨cb,0,none⟩)]] 228 (0,0)) ->
  w.heap[bd]? = some (.cells #[.func (.func 230) #[] #[.pointer (some ⟨bv,0,none⟩),.pointer (some ⟨bd,0,none⟩)]] 228 (0,0)) ->
  Calls Tryz.prog 230 #[zL e a cap,.pointer (some ⟨bv,0,none⟩),.pointer (some ⟨bd,0,none⟩)] w (QO Inv step w0 w st e.nodes):=by
 induction e using Ex.ind with
 |h e ih =>
  intro st a cap w hroom hI hB hE hbv hbd;obtain⟨op,n,s,args⟩:=e;have hnl:(Ex.mk op n s args).nodes.length=(zy args args.length).length+1:=by rw[yO];simp[Ex.args_mk]
  have hs1:=hsz st (.mk op n s args);have HR:=Lib.hid (⟨hnl,hs1,hroom,hsz⟩:_/\_/\_/\_);have hlen:=hE.2.2.1;simp only[Ex.args_mk]at hlen;have hadr:=hE.2.addr;simp only[Ex.args_mk]at hadr;have HB:=Lib.hid hB;have HE:=Lib.hid hE;have hBB:Below w.heap.size w (w.alloc (.cells #[.int .i64 op,.int .i64 n,.string s,.slice a args.length cap] 24)):=(Below.refl _ _).alloc (Nat.le_refl _) _;have HV:=Lib.hid (hv st op n s args a cap _ (by omega) (hst _ _ _ hI hBB) (hB.trans (hBB.mono hB.size)) hE);have HIH:=Lib.hid ih;have HST:=Lib.hid hst;have HBV:=Lib.hid hbv;have HBD:=Lib.hid hbd;have cv:∀o,(w.alloc o).cell? ⟨bv,0,none⟩=_:=λo=>(World.cell?_alloc_lt _ _ _ (lt_of_block hbv)).trans (cell_of_one hbv);clear hv ih hI hB hE hbv hbd hst hBB hnl hs1 hroom hsz;simp only[zL,Ex.op_mk,Ex.n_mk,Ex.name_mk,Ex.args_mk];have HA:=Lib.hid hadr;clear hadr;go_enter Tryz.func230, Tryz.ntmps230;go_wp2_with fail;refine HV.out.mono ?_;rintro e w1 ⟨rfl,hI1,hK1⟩;have HI1:=Lib.hid hI1;have HK0:Hid (KT w0.heap.size w w1):=(KT.of_below ((Below.refl _ _).alloc (Nat.le_refl _) _)).trans hK1;have hbox:=hK1.typed _ _ _ _ (zi _ _) (Or.inl rfl);have c3:w1.cell? ⟨w.heap.size,3,none⟩=some (.slice a args.length cap):=by simp[World.cell?,hbox]
  clear hI1 hK1 hbox cv HV;cases hs:(step st (.mk op n s args)).2
  ·go_wp2_with fail;go_ret;exact⟨by rw[YM hs];rfl,by rw[YM hs];exact HI1.out,HK0.out⟩
  ·go_wp2_with fail;go_loopw [14] (λi wr=>∃k:Nat,i=.int .i64 k/\zbv Inv step w0 w (step st (.mk op n s args)).1 args k wr) (λi _=>args.length-(intOf i).toNat);case atStart=>exact⟨0,rfl,Nat.zero_le _,rfl,HI1.out,HK0.out⟩
   case round =>
    obtain⟨k,rfl,hR⟩:=hrel;obtain⟨hk,hy,hIr,hKr⟩:=hR;have hBr:=HB.out.trans (hKr.below HB.out.size);by_cases hlt:k<args.length
    ·obtain⟨b,off,ha⟩:=HA.out.resolve_left (by omega);subst ha;obtain⟨a',cap',g0,g1,g2,g3,hX⟩:=HE.out.2.get rfl hlt;have kk:=za hBr;have c0:=kk _ _ g0;have c1:=kk _ _ g1;have c2:=kk _ _ g2;have c3':=kk _ _ g3;simp only[Ex.args_mk]at c0 c1 c2 c3';have hm:args[k]∈(Ex.mk op n s args).args:=List.getElem_mem hlt;have cd:∀o,(wr.alloc o).cell? ⟨bd,0,none⟩=_:=λo=>(World.cell?_alloc_lt _ _ _ (lt_of_block (hKr.typed _ _ _ _ HBD.out (Or.inr rfl)))).trans (cell_of_one (hKr.typed _ _ _ _ HBD.out (Or.inr rfl)));have hBA:Below wr.heap.size wr (wr.alloc (.cells #[.int .i64 (args[k]'hlt).op,.int .i64 (args[k]'hlt).n,.string (args[k]'hlt).name,.slice a' (args[k]'hlt).args.length cap'] 24)):=(Below.refl _ _).alloc (Nat.le_refl _) _;have hKA:=hKr.trans (KT.of_below hBA);have hrm:=xS args k hlt;have hsk:=XT HR.out.2.2.2 (zy args k) (step st (.mk op n s args)).1;have hroom':=HR.out;have hC:=HIH.out _ hm _ a' cap' _ (by omega) (HST.out _ _ _ hIr hBA) (hBr.trans (hBA.mono hBr.size)) hX (hKA.typed _ _ _ _ HBV.out (Or.inr rfl)) (hKA.typed _ _ _ _ HBD.out (Or.inr rfl));have HC:=Lib.hid (hC.mono λe w' h=>(⟨h.1,h.2.1,hKA.trans h.2.2⟩:_/\_/\KT w0.heap.size w w'));simp only[Ex.args_mk,zL]at HC;have Hy:=Lib.hid hy;have Hon:=Lib.hid (zb8 hlt hy);have Hstop:=Lib.hid (XZ hlt hy);clear hIr hKr hBr hy g0 g1 g2 g3 kk hC hBA hKA hrm hsk hroom';go_wp2_with fail;refine HC.out.mono ?_
     rintro e w2 ⟨rfl,hI2,hK2⟩;have HI2:=Lib.hid hI2;have HK2:=Lib.hid hK2;clear hI2 hK2;cases hr:(xY step (xY step (step st (.mk op n s args)).1 (zy args k)).1 (args[k]'hlt).nodes).2
     ·go_wp2_with fail;go_ret;have hw:=Zy hs;simp only[Ex.args_mk]at hw;rw[Hstop.out hr]at hw;exact⟨by rw[hw,hr];rfl,by rw[hw];exact HI2.out,HK2.out⟩
     ·go_wp2_with fail;go_roundw;case rel=>exact⟨k+1,by go_num,by omega,by rw[Hon.out];exact hr,by rw[Hon.out];exact HI2.out,HK2.out⟩
      case measure=>simp[intOf];omega
    ·obtain rfl:k=args.length:=by omega
     have HIr:=Lib.hid hIr;have HKr:=Lib.hid hKr;have Hy:=Lib.hid hy;clear hIr hKr hBr hy;go_wp2_with fail;go_ret;have hw:=Zy hs;simp only[Ex.args_mk]at hw;exact⟨by rw[hw,Hy.out];rfl,by rw[hw];exact HIr.out,HKr.out⟩
theorem zcP (ca cb:Nat) {α:Type} (Inv:α->World->Prop) (size:α->Nat) (step:α->Ex->α×Bool) (w0:World)
 (hsz:∀st e,size (step st e).1<=size st+1)
 (hst:∀st w w',Inv st w->Below w.heap.size w w'->Inv st w')
 (hv:ZZ 291 #[.pointer (some ⟨ca,0,none⟩),.pointer (some ⟨cb,0,none⟩)] w0 Inv size step) (op n:Int) (s:ByteArray) (args:List Ex) (st:α) (a:Option Addr) (cap:Nat) (w:World)
 (hroom:size st+(Ex.mk op n s args).nodes.length<=1073741824) (hI:Inv st w) (hB:Below w0.heap.size w0 w) (hE:yA w0 (.mk op n s args) a cap) :
 Calls Tryz.prog 169 #[.agg #[.int .i64 op,.int .i64 n,.string s,.slice a args.length cap],.func (.func 291) #[] #[.pointer (some ⟨ca,0,none⟩),.pointer (some ⟨cb,0,none⟩)]] w λr w' =>
  r=.returned (.tuple #[])/\Inv (xY step st (Ex.mk op n s args).nodes).1 w'/\KT w0.heap.size w w':=by
 have h1:Below w.heap.size w (((w.alloc (.cells #[.int .i64 op,.int .i64 n,.string s,.slice a args.length cap] 24)).alloc (.cells #[.func (.func 291) #[] #[.pointer (some ⟨ca,0,none⟩),.pointer (some ⟨cb,0,none⟩)]] 228)).alloc (.cells #[.func (.func 230) #[] #[.pointer (some ⟨w.heap.size+1,0,none⟩),.pointer (some ⟨w.heap.size+1+1,0,none⟩)]] 228)) :=
  ((((Below.refl _ _).alloc (Nat.le_refl _) _).alloc (by simp) _).alloc (by simp;omega) _)
 have hC:=zfW ca cb Inv size step w0 (w.heap.size+1) (w.heap.size+1+1) hsz hst hv (.mk op n s args) st a cap _ hroom (hst _ _ _ hI h1) (hB.trans (h1.mono hB.size)) hE
  (by rw[Below.heap_alloc _ _ _ (by simp)];exact zm _ _ _ (by simp)) (zm _ _ _ (by simp))
 have HC:=Lib.hid (hC.mono λe w' h=>(⟨h.1,h.2.1,(KT.of_below h1).trans h.2.2⟩:_/\_/\KT w0.heap.size w w'));simp only[zL,Ex.op_mk,Ex.n_mk,Ex.name_mk,Ex.args_mk]at HC;clear hC h1 hI hB hE hv hst hsz hroom;go_enter Tryz.func169, Tryz.ntmps169;go_wp2_with fail;refine HC.out.mono ?_;rintro e w2 ⟨rfl,hI2,hK2⟩;have HI2:=Lib.hid hI2;have HK2:=Lib.hid hK2;clear hI2 hK2;go_wp2_with fail;go_end0;exact⟨rfl,HI2.out,HK2.out⟩
def zgV (st:Int) (_:Ex):Int×Bool:=(wrap64 (st+1),true)
theorem runS (l:List Ex):∀st:Int,0<=st->st+l.length<=1073741824->xY zgV st l=(st+l.length,true):=by
 induction l with
 |nil=>intro st _ _;simp[xY]
 |cons e l ih =>
  intro st h0 h;simp only[List.length_cons,Int.natCast_add,Int.natCast_one]at h;have hw:wrap64 (st+1)=st+1:=by unfold wrap64;omega
  simp only[xY,zgV,if_true,hw];rw[ih (st+1) (by omega) (by omega)];simp;omega
def ziM (B cb:Nat) (st:Int) (w:World):Prop:=B<=cb/\w.heap[cb]? = some (.cells #[.int .i64 st] 3 (0,0))
theorem ziM.keep {B cb:Nat} (st:Int) (w w':World) (h:ziM B cb st w) (hb:Below w.heap.size w w'):ziM B cb st w' :=
 ⟨h.1,by rw[hb.block _ (lt_of_block h.2)];exact h.2⟩
theorem zjA (w0:World) (cb:Nat):ZZ 233 #[.pointer (some ⟨cb,0,none⟩)] w0 (ziM w0.heap.size cb) (λ_=>0) zgV:=by
 intro st op n s args a cap w _ hI hB hE;have hcb:=lt_of_block hI.2;have c0:∀o,(w.alloc o).cell? ⟨cb,0,none⟩=_:=λo=>(World.cell?_alloc_lt _ _ _ hcb).trans (cell_of_one hI.2);have f0:∀o,(w.alloc o).frozen? ⟨cb,0,none⟩=_:=λo=>(World.frozen?_alloc_old _ _ _ (Nat.ne_of_lt hcb)).trans (free_of_one hI.2);have HI:=Lib.hid hI;clear hI hB hE hcb;show Calls _ _ #[_,_] _ _;go_enter Tryz.func233, Tryz.ntmps233;go_wp2_with fail;go_ret;have hb:∀o,(w.alloc o).heap[cb]? = _:=λo=>(Below.heap_alloc _ _ _ (lt_of_block HI.out.2)).trans HI.out.2;refine⟨rfl,⟨HI.out.1,?_⟩,?_⟩
 ·exact one_setCell (hb _)
 ·exact((KT.refl _ _).alloc _).setCell (hb _) (by unfold QN;decide) HI.out.1 _
theorem zcJ (op n:Int) (s:ByteArray) (args:List Ex) (a:Option Addr) (cap:Nat) (w:World) (hE:yA w (.mk op n s args) a cap) (hn:(Ex.mk op n s args).nodes.length<=1073741824) :
 Calls Tryz.prog 173 #[.agg #[.int .i64 op,.int .i64 n,.string s,.slice a args.length cap]] w λe w'=>e=.returned (.int .i64 (Ex.mk op n s args).nodes.length)/\Below w.heap.size w w':=by
 have hB:Below w.heap.size w ((w.alloc (.cells #[.int .i64 op,.int .i64 n,.string s,.slice a args.length cap] 24)).alloc (.cells #[.int .i64 0] 3)):=bel;have hC:=zhd (w.heap.size+1) (ziM w.heap.size (w.heap.size+1)) (λ_=>0) zgV w (λ_ _=>by simp) ziM.keep (zjA w (w.heap.size+1)) op n s args 0 a cap _ (by omega) ⟨by omega,zm _ _ _ (by simp)⟩ hB hE;rw[runS _ 0 (by omega) (by omega)]at hC;have HB:=Lib.hid hB;have HC:=Lib.hid hC;clear hC hB hE;go_enter Tryz.func173, Tryz.ntmps173;go_wp2_with fail;refine HC.out.mono ?_;rintro e w2 ⟨rfl,hI2,hK2⟩;have c0:=cell_of_one hI2.2;have HK2:=Lib.hid hK2;clear hI2 hK2;go_wp2_with fail;go_ret;exact⟨by simp,HB.out.trans (HK2.out.below (by simp;omega))⟩
theorem zeU (l:List Nat):∀a,l.foldl max a=max a (l.foldl max 0):=by
 induction l with
 |nil=>intro a;simp
 |cons x l ih=>intro a;simp only[List.foldl_cons];rw[ih (max a x),ih (max 0 x)];omega
noncomputable def xA (l:List Ex) (k:Nat):Nat:=((l.take k).map Ex.depth).foldl max 0
theorem Za (l:List Ex) (k:Nat) (h:k<l.length):xA l (k+1)=max (xA l k) (l[k]'h).depth:=by unfold xA;rw[List.take_succ_eq_append_getElem h,List.map_append,List.foldl_append];simp
theorem Z8 (e:Ex):e.depth=xA e.args e.args.length+1:=by rw[Ex.depth_eq];unfold xA;rw[List.take_of_length_le (Nat.le_refl _)]
theorem zaY (l:List Ex) (k:Nat) (h:k<l.length):(zy l (k+1)).length=(zy l k).length+(l[k]'h).nodes.length:=by rw[xI _ _ h,List.length_append]
theorem xE (e:Ex):e.depth<=e.nodes.length:=by
 induction e using Ex.ind with
 |h e ih =>
  have h:∀k,k<=e.args.length->xA e.args k<=(zy e.args k).length:=by
   intro k
   induction k with
   |zero=>intro _;simp[xA]
   |succ k ihk =>intro hk;have h1:=ihk (by omega);have h2:=ih (e.args[k]'(by omega)) (List.getElem_mem _);rw[Za _ _ (by omega),zaY _ _ (by omega)];omega
  have:=h _ (Nat.le_refl _);rw[Z8,yO];simp;omega
theorem zeI (e:Ex):∀(a:Option Addr) (cap:Nat) (w:World),e.nodes.length<=1073741824->yA w e a cap ->
 Calls Tryz.prog 172 #[zL e a cap] w λr w'=>r=.returned (.int .i64 e.depth)/\Below w.heap.size w w':=by
 induction e using Ex.ind with
 |h e ih =>
  intro a cap w hn hE;obtain⟨op,n,s,args⟩:=e;have hlen:=hE.2.2.1;have hadr:=hE.2.addr;have hnl:(Ex.mk op n s args).nodes.length=(zy args args.length).length+1:=by rw[yO];simp[Ex.args_mk]
  simp only[Ex.args_mk]at hlen hadr;have HN:=Lib.hid (⟨hn,hnl⟩:_/\_);have HE:=Lib.hid hE;have HIH:=Lib.hid ih;have HA:=Lib.hid hadr;clear hn hE ih hadr hnl;simp only[zL,Ex.op_mk,Ex.n_mk,Ex.name_mk,Ex.args_mk];go_enter Tryz.func172, Tryz.ntmps172;go_wp2_with fail;go_loopw [3,9] (λd i wr=>∃k:Nat,i=.int .i64 k/\k<=args.length/\d=.int .i64 (xA args k)/\Below w.heap.size w wr) (λ_ i _=>args.length-(intOf i).toNat);case atStart=>exact⟨0,rfl,Nat.zero_le _,rfl,bel⟩
  case round =>
   obtain⟨k,rfl,hk,rfl,hBr⟩:=hrel;have HBr:=Lib.hid hBr;clear hBr;by_cases hlt:k<args.length
   ·obtain⟨b,off,ha⟩:=HA.out.resolve_left (by omega);subst ha;obtain⟨a',cap',g0,g1,g2,g3,hX⟩:=HE.out.2.get rfl hlt;have kk:=za HBr.out;have c0:=kk _ _ g0;have c1:=kk _ _ g1;have c2:=kk _ _ g2;have c3:=kk _ _ g3;have hrm:=xS args k hlt;have hd:=xE (args[k]'hlt);have hn':=HN.out;have hX':=hX.keep kk;simp only[Ex.args_mk]at c0 c1 c2 c3 hX';have hm:args[k]∈(Ex.mk op n s args).args:=List.getElem_mem hlt;have hBA:Below wr.heap.size wr (wr.alloc (.cells #[.int .i64 (args[k]'hlt).op,.int .i64 (args[k]'hlt).n,.string (args[k]'hlt).name,.slice a' (args[k]'hlt).args.length cap'] 24)):=(Below.refl _ _).alloc (Nat.le_refl _) _;have hC:=HIH.out _ hm a' cap' _ (by omega) (hX'.keep (za hBA));have HC:=Lib.hid (hC.mono λe w' h=>(⟨h.1,HBr.out.trans ((hBA.trans (h.2.mono hBA.size)).mono HBr.out.size)⟩:_/\Below w.heap.size w w'));simp only[Ex.args_mk,zL]at HC;have Hon:=Lib.hid (Za args k hlt);have hdk:xA args k<=1073741824:=by
     have h1:xA args k<=(Ex.mk op n s args).depth:=by
      rw[Z8,Ex.args_mk];have h2:∀j,k+j<=args.length->xA args k<=xA args (k+j):=by
       intro j
       induction j with
       |zero=>intro _;exact Nat.le_refl _
       |succ j ihj =>intro hj;have:=ihj (by omega);rw[←Nat.add_assoc,Za _ _ (by omega)];omega
      have:=h2 (args.length-k) (by omega);rw[show k+(args.length-k)=args.length from by omega]at this;omega
     have:=xE (Ex.mk op n s args);omega
    have hdd:(args[k]'hlt).depth<=1073741824:=by omega
    clear g0 g1 g2 g3 kk hC hBA hrm hn' hX hX' hd hm;go_wp2_with fail;refine HC.out.mono ?_;rintro e w2 ⟨rfl,hb2⟩;have HB2:=Lib.hid hb2;clear hb2;go_wp2_with fail;go_roundw;case rel=>exact⟨k+1,by go_num,by omega,by rw[Hon.out];go_num,HB2.out⟩
    case measure=>simp[intOf];omega
   ·obtain rfl:k=args.length:=by omega
    have hd:xA args args.length+1<=1073741824:=by have:=xE (Ex.mk op n s args);rw[Z8,Ex.args_mk]at this;have:=HN.out;omega
    have hall:=Z8 (Ex.mk op n s args);simp only[Ex.args_mk]at hall;have Hall:=Lib.hid hall;clear hall;go_wp2_with fail;go_ret;exact⟨by rw[Hall.out];simp,HBr.out⟩
end Go.Proofs.YtnfkbliokjjggaaGreatDoor
