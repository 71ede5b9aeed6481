/- The walk over the nodes of an expression, with a visitor that is a closure. -/
import Derived.Test.YthojpomoflhbcaaGreatDoorQ00
import Derived.Laws.EntriesVeiled
set_option maxHeartbeats 4000000
set_option linter.unusedSimpArgs false
set_option linter.unusedVariables false
set_option linter.unnecessarySimpa false
namespace Go.Proofs.YthojpomoflhbcaaGreatDoor
open Go.RowKit
def zbj (t:TypeId):Prop:=t=24\/t=211
structure KT (B:Nat) (w w':World):Prop where
 os:w'.os=w.os
 tape:w'.tape=w.tape
 output:w'.output=w.output
 size:w.heap.size<=w'.heap.size
 low:∀k,k<w.heap.size->k<B->w'.heap[k]? = w.heap[k]?
 typed:∀(k:Nat) (c:Array Value) (t:TypeId) (z:Nat×Nat),w.heap[k]? = some (.cells c t z)->zbj t->w'.heap[k]? = some (.cells c t z)
theorem KT.refl (B:Nat) (w:World):KT B w w:=⟨rfl,rfl,rfl,Nat.le_refl _,λ_ _ _=>rfl,λ_ _ _ _ h _=>h⟩
theorem KT.trans {B:Nat} {a b c:World} (h:KT B a b) (k:KT B b c):KT B a c :=
 ⟨k.os.trans h.os,k.tape.trans h.tape,k.output.trans h.output,Nat.le_trans h.size k.size,λi hi hb=>(k.low i (Nat.lt_of_lt_of_le hi h.size) hb).trans (h.low i hi hb),λi c t z hh ht=>k.typed i c t z (h.typed i c t z hh ht) ht⟩
theorem KT.of_below {B:Nat} {w w':World} (h:Below w.heap.size w w'):KT B w w' :=
 ⟨h.os,h.tape,h.output,h.size,λk hk _=>h.block k hk,λk c t z hh _=>by rw[h.block k (lt_of_block hh)];exact hh⟩
theorem KT.alloc {B:Nat} {a w:World} (h:KT B a w) (o:Obj):KT B a (w.alloc o) :=
 h.trans (KT.of_below ((Below.refl _ _).alloc (Nat.le_refl _) o))
theorem KT.setCell {B:Nat} {a w:World} (h:KT B a w) {p:Addr} {c:Array Value} {t:TypeId} {z:Nat×Nat} (hp:w.heap[p.block]? = some (.cells c t z)) (ht:¬zbj t) (hB:B<=p.block) (u:Value):KT B a (w.setCell p u) :=
 h.trans ⟨rfl,rfl,rfl,by simp[World.setCell],λk hk hb=>Below.heap_setCell _ _ _ _ (by omega),λk c' t' z' hh ht'=>by rw[Below.heap_setCell _ _ _ _ (by rintro rfl;rw[hp]at hh;simp only[Option.some.injEq,Obj.cells.injEq]at hh;exact ht (hh.2.1 ▸ ht'))];exact hh⟩
theorem KT.grown {B:Nat} {a w w':World} {row:Option Nat} (h:KT B a w) (hg:w.grownBy w' row) (hB:∀k,row=some k->B<=k) (ht:∀(k:Nat) (c:Array Value) (t:TypeId) (z:Nat×Nat),row=some k->w.heap[k]? = some (.cells c t z)->¬zbj t):KT B a w' :=
 h.trans ⟨hg.os,hg.tape,hg.output,hg.size,λk hk hb=>hg.block k hk (λe=>by have:=hB k e.symm;omega),λk c t z hh hs=>by rw[hg.block k (lt_of_block hh) (λe=>ht k c t z e.symm hh hs)];exact hh⟩
theorem KT.below {B:Nat} {w w':World} (h:KT B w w') (hB:B<=w.heap.size):Below B w w' :=
 ⟨h.os,h.tape,h.output,h.size,λk hk=>h.low k (by omega) hk⟩
def qY {α:Type} (step:α->Ex->α×Bool):α->List Ex->α×Bool
 |st,[]=>(st,true)
 |st,e::l=>if (step st e).2=true then qY step (step st e).1 l else ((step st e).1,false)
theorem YX {α:Type} (step:α->Ex->α×Bool) (l l':List Ex):∀st,qY step st (l++l')=if (qY step st l).2=true then qY step (qY step st l).1 l' else qY step st l:=by
 induction l with
 |nil=>intro st;simp[qY]
 |cons e l ih =>
  intro st;simp only[List.cons_append,qY];by_cases h:(step st e).2=true
  ·simp only[if_pos h];exact ih _
  ·simp[if_neg h]
noncomputable def zD (l:List Ex) (k:Nat):List Ex:=((l.take k).map Ex.nodes).flatten
theorem qC (l:List Ex) (k:Nat) (h:k<l.length):zD l (k+1)=zD l k++(l[k]'h).nodes:=by unfold zD;rw[List.take_succ_eq_append_getElem h,List.map_append,List.flatten_append];simp
theorem zaa (l:List Ex) (k:Nat) (h:l.length<=k):zD l k=(l.map Ex.nodes).flatten:=by unfold zD;rw[List.take_of_length_le h]
theorem Xt (l:List Ex) (k:Nat):∃r,zD l l.length=zD l k++r:=by refine⟨((l.drop k).map Ex.nodes).flatten,?_⟩;rw[zaa _ _ (Nat.le_refl _)];unfold zD;rw[←List.flatten_append,←List.map_append,List.take_append_drop]
theorem xF (e:Ex):e.nodes=e::zD e.args e.args.length:=by rw[Ex.nodes_eq,zaa _ _ (Nat.le_refl _)]
def yu (e:Ex) (a:Option Addr) (cap:Nat):Value:=.agg #[.int .i64 e.op,.int .i64 e.n,.string e.name,.slice a e.args.length cap]
def Y9 (k:FuncId) (caps:Array Value) (w0:World) {α:Type} (Inv:α->World->Prop) (size:α->Nat) (step:α->Ex->α×Bool):Prop :=
 ∀(st:α) (op n:Int) (s:ByteArray) (args:List Ex) (a:Option Addr) (cap:Nat) (w:World),size st<1073741824->Inv st w->Below w0.heap.size w0 w->yY w0 (.mk op n s args) a cap ->
  Calls Tryz.prog k (#[.agg #[.int .i64 op,.int .i64 n,.string s,.slice a args.length cap]]++caps) w λr w'=>r=.returned (.bool (step st (.mk op n s args)).2)/\Inv (step st (.mk op n s args)).1 w'/\KT w0.heap.size w w'
def zbk {α:Type} (Inv:α->World->Prop) (step:α->Ex->α×Bool) (w0 w:World) (st:α) (l:List Ex) (r:Ending) (w':World):Prop :=
 r=.returned (.bool (qY step st l).2)/\Inv (qY step st l).1 w'/\KT w0.heap.size w w'
def zdd {α:Type} (Inv:α->World->Prop) (step:α->Ex->α×Bool) (w0 w1:World) (st:α) (args:List Ex) (i:Nat) (wr:World):Prop :=
 i<=args.length/\(qY step st (zD args i)).2=true/\Inv (qY step st (zD args i)).1 wr/\KT w0.heap.size w1 wr
theorem Qd {α:Type} {step:α->Ex->α×Bool} {st:α} {e:Ex} (h:(step st e).2=false):qY step st e.nodes=((step st e).1,false):=by rw[xF];simp[qY,h]
theorem YG {α:Type} {step:α->Ex->α×Bool} {st:α} {e:Ex} (h:(step st e).2=true):qY step st e.nodes=qY step (step st e).1 (zD e.args e.args.length):=by rw[xF];simp[qY,h]
theorem zau {α:Type} {step:α->Ex->α×Bool} {st:α} {l:List Ex} {k:Nat} (hk:k<l.length) (h1:(qY step st (zD l k)).2=true) (h2:(qY step (qY step st (zD l k)).1 (l[k]'hk).nodes).2=false) :
 qY step st (zD l l.length)=qY step (qY step st (zD l k)).1 (l[k]'hk).nodes:=by
 obtain⟨r,hr⟩:=Xt l (k+1);rw[hr,YX,qC _ _ hk,YX,if_pos h1,if_neg (by rw[h2];simp)]
theorem zea {α:Type} {step:α->Ex->α×Bool} {st:α} {l:List Ex} {k:Nat} (hk:k<l.length) (h1:(qY step st (zD l k)).2=true) :
 qY step st (zD l (k+1))=qY step (qY step st (zD l k)).1 (l[k]'hk).nodes:=by
 rw[qC _ _ hk,YX,if_pos h1]
theorem zak {α:Type} {step:α->Ex->α×Bool} {size:α->Nat} (hsz:∀st e,size (step st e).1<=size st+1) (l:List Ex):∀st,size (qY step st l).1<=size st+l.length:=by
 induction l with
 |nil=>intro st;simp[qY]
 |cons e l ih =>
  intro st;simp only[qY,List.length_cons];have h1:=hsz st e;split
  ·have:=ih (step st e).1;omega
  ·show size (step st e).1<=_;omega
theorem qQ (args:List Ex) (k:Nat) (h:k<args.length):(zD args k).length+(args[k]'h).nodes.length<=(zD args args.length).length:=by obtain⟨r,hr⟩:=Xt args (k+1);rw[hr,qC _ _ h];simp only[List.length_append];omega
theorem zi (w:World) (o:Obj):(w.alloc o).heap[w.heap.size]? = some o:=by show (w.heap.push o)[w.heap.size]? = _;simp
theorem zq (w:World) (o:Obj) (k:Nat) (h:k=w.heap.size):(w.alloc o).heap[k]? = some o:=by rw[h];exact zi w o
theorem zit (cb:Nat) {α:Type} (Inv:α->World->Prop) (size:α->Nat) (step:α->Ex->α×Bool) (w0:World) (bv bd:Nat)
 (hsz:∀st e,size (step st e).1<=size st+1)
 (hst:∀st w w',Inv st w->Below w.heap.size w w'->Inv st w')
 (hv:Y9 184 #[.pointer (some ⟨cb,0,none⟩)] w0 Inv size step) (e:Ex) :
 ∀(st:α) (a:Option Addr) (cap:Nat) (w:World),size st+e.nodes.length<=1073741824->Inv st w->Below w0.heap.size w0 w->yY w0 e a cap ->
  w.heap[bv]? = some (.cells #[.func (.func 184) #[] #[.pointer (some ⟨cb,0,none⟩)]] 211 (0,0)) ->
  w.heap[bd]? = some (.cells #[.func (.func 230) #[] #[.pointer (some ⟨bv,0,none⟩),.pointer (some ⟨bd,0,none⟩)]] 211 (0,0)) ->
  Calls Tryz.prog 230 #[yu e a cap,.pointer (some ⟨bv,0,none⟩),.pointer (some ⟨bd,0,none⟩)] w (zbk Inv step w0 w st e.nodes):=by
 induction e using Ex.ind with
 |h e ih =>
  intro st a cap w hroom hI hB hE hbv hbd;obtain⟨op,n,s,args⟩:=e;have hnl:(Ex.mk op n s args).nodes.length=(zD args args.length).length+1:=by rw[xF];simp[Ex.args_mk]
  have hs1:=hsz st (.mk op n s args);have HR:=Lib.hid (⟨hnl,hs1,hroom,hsz⟩:_/\_/\_/\_);have hlen:=hE.2.2.1;simp only[Ex.args_mk]at hlen;have hadr:=hE.2.addr;simp only[Ex.args_mk]at hadr;have HB:=Lib.hid hB;have HE:=Lib.hid hE;have hBB:Below w.heap.size w (w.alloc (.cells #[.int .i64 op,.int .i64 n,.string s,.slice a args.length cap] 24)):=(Below.refl _ _).alloc (Nat.le_refl _) _;have HV:=Lib.hid (hv st op n s args a cap _ (by omega) (hst _ _ _ hI hBB) (hB.trans (hBB.mono hB.size)) hE);have HIH:=Lib.hid ih;have HST:=Lib.hid hst;have HBV:=Lib.hid hbv;have HBD:=Lib.hid hbd;have cv:∀o,(w.alloc o).cell? ⟨bv,0,none⟩=_:=λo=>(World.cell?_alloc_lt _ _ _ (lt_of_block hbv)).trans (cell_of_one hbv);clear hv ih hI hB hE hbv hbd hst hBB hnl hs1 hroom hsz;simp only[yu,Ex.op_mk,Ex.n_mk,Ex.name_mk,Ex.args_mk];have HA:=Lib.hid hadr;clear hadr;go_enter Tryz.func230, Tryz.ntmps230;go_wp2_with fail;refine HV.out.mono ?_;rintro e w1 ⟨rfl,hI1,hK1⟩;have HI1:=Lib.hid hI1;have HK0:Hid (KT w0.heap.size w w1):=(KT.of_below ((Below.refl _ _).alloc (Nat.le_refl _) _)).trans hK1;have hbox:=hK1.typed _ _ _ _ (zi _ _) (Or.inl rfl);have c3:w1.cell? ⟨w.heap.size,3,none⟩=some (.slice a args.length cap):=by simp[World.cell?,hbox]
  clear hI1 hK1 hbox cv HV;cases hs:(step st (.mk op n s args)).2
  ·go_wp2_with fail;go_ret;exact⟨by rw[Qd hs];rfl,by rw[Qd hs];exact HI1.out,HK0.out⟩
  ·go_wp2_with fail;go_loopw [14] (λi wr=>∃k:Nat,i=.int .i64 k/\zdd Inv step w0 w (step st (.mk op n s args)).1 args k wr) (λi _=>args.length-(intOf i).toNat);case atStart=>exact⟨0,rfl,Nat.zero_le _,rfl,HI1.out,HK0.out⟩
   case round =>
    obtain⟨k,rfl,hR⟩:=hrel;obtain⟨hk,hy,hIr,hKr⟩:=hR;have hBr:=HB.out.trans (hKr.below HB.out.size);by_cases hlt:k<args.length
    ·obtain⟨b,off,ha⟩:=HA.out.resolve_left (by omega);subst ha;obtain⟨a',cap',g0,g1,g2,g3,hX⟩:=HE.out.2.get rfl hlt;have kk:=za hBr;have c0:=kk _ _ g0;have c1:=kk _ _ g1;have c2:=kk _ _ g2;have c3':=kk _ _ g3;simp only[Ex.args_mk]at c0 c1 c2 c3';have hm:args[k]∈(Ex.mk op n s args).args:=List.getElem_mem hlt;have cd:∀o,(wr.alloc o).cell? ⟨bd,0,none⟩=_:=λo=>(World.cell?_alloc_lt _ _ _ (lt_of_block (hKr.typed _ _ _ _ HBD.out (Or.inr rfl)))).trans (cell_of_one (hKr.typed _ _ _ _ HBD.out (Or.inr rfl)));have hBA:Below wr.heap.size wr (wr.alloc (.cells #[.int .i64 (args[k]'hlt).op,.int .i64 (args[k]'hlt).n,.string (args[k]'hlt).name,.slice a' (args[k]'hlt).args.length cap'] 24)):=(Below.refl _ _).alloc (Nat.le_refl _) _;have hKA:=hKr.trans (KT.of_below hBA);have hrm:=qQ args k hlt;have hsk:=zak HR.out.2.2.2 (zD args k) (step st (.mk op n s args)).1;have hroom':=HR.out;have hC:=HIH.out _ hm _ a' cap' _ (by omega) (HST.out _ _ _ hIr hBA) (hBr.trans (hBA.mono hBr.size)) hX (hKA.typed _ _ _ _ HBV.out (Or.inr rfl)) (hKA.typed _ _ _ _ HBD.out (Or.inr rfl));have HC:=Lib.hid (hC.mono λe w' h=>(⟨h.1,h.2.1,hKA.trans h.2.2⟩:_/\_/\KT w0.heap.size w w'));simp only[Ex.args_mk,yu]at HC;have Hy:=Lib.hid hy;have Hon:=Lib.hid (zea hlt hy);have Hstop:=Lib.hid (zau hlt hy);clear hIr hKr hBr hy g0 g1 g2 g3 kk hC hBA hKA hrm hsk hroom';go_wp2_with fail;refine HC.out.mono ?_
     rintro e w2 ⟨rfl,hI2,hK2⟩;have HI2:=Lib.hid hI2;have HK2:=Lib.hid hK2;clear hI2 hK2;cases hr:(qY step (qY step (step st (.mk op n s args)).1 (zD args k)).1 (args[k]'hlt).nodes).2
     ·go_wp2_with fail;go_ret;have hw:=YG hs;simp only[Ex.args_mk]at hw;rw[Hstop.out hr]at hw;exact⟨by rw[hw,hr];rfl,by rw[hw];exact HI2.out,HK2.out⟩
     ·go_wp2_with fail;go_roundw;case rel=>exact⟨k+1,by go_num,by omega,by rw[Hon.out];exact hr,by rw[Hon.out];exact HI2.out,HK2.out⟩
      case measure=>simp[intOf];omega
    ·obtain rfl:k=args.length:=by omega
     have HIr:=Lib.hid hIr;have HKr:=Lib.hid hKr;have Hy:=Lib.hid hy;clear hIr hKr hBr hy;go_wp2_with fail;go_ret;have hw:=YG hs;simp only[Ex.args_mk]at hw;exact⟨by rw[hw,Hy.out];rfl,by rw[hw];exact HIr.out,HKr.out⟩
theorem zkf (cb:Nat) {α:Type} (Inv:α->World->Prop) (size:α->Nat) (step:α->Ex->α×Bool) (w0:World)
 (hsz:∀st e,size (step st e).1<=size st+1)
 (hst:∀st w w',Inv st w->Below w.heap.size w w'->Inv st w')
 (hv:Y9 184 #[.pointer (some ⟨cb,0,none⟩)] w0 Inv size step) (op n:Int) (s:ByteArray) (args:List Ex) (st:α) (a:Option Addr) (cap:Nat) (w:World)
 (hroom:size st+(Ex.mk op n s args).nodes.length<=1073741824) (hI:Inv st w) (hB:Below w0.heap.size w0 w) (hE:yY w0 (.mk op n s args) a cap) :
 Calls Tryz.prog 183 #[.agg #[.int .i64 op,.int .i64 n,.string s,.slice a args.length cap],.func (.func 184) #[] #[.pointer (some ⟨cb,0,none⟩)]] w λr w' =>
  r=.returned (.tuple #[])/\Inv (qY step st (Ex.mk op n s args).nodes).1 w'/\KT w0.heap.size w w':=by
 have h1:Below w.heap.size w (((w.alloc (.cells #[.int .i64 op,.int .i64 n,.string s,.slice a args.length cap] 24)).alloc (.cells #[.func (.func 184) #[] #[.pointer (some ⟨cb,0,none⟩)]] 211)).alloc (.cells #[.func (.func 230) #[] #[.pointer (some ⟨w.heap.size+1,0,none⟩),.pointer (some ⟨w.heap.size+1+1,0,none⟩)]] 211)) :=
  ((((Below.refl _ _).alloc (Nat.le_refl _) _).alloc (by simp) _).alloc (by simp;omega) _)
 have hC:=zit cb Inv size step w0 (w.heap.size+1) (w.heap.size+1+1) hsz hst hv (.mk op n s args) st a cap _ hroom (hst _ _ _ hI h1) (hB.trans (h1.mono hB.size)) hE
  (by rw[Below.heap_alloc _ _ _ (by simp)];exact zq _ _ _ (by simp)) (zq _ _ _ (by simp))
 have HC:=Lib.hid (hC.mono λe w' h=>(⟨h.1,h.2.1,(KT.of_below h1).trans h.2.2⟩:_/\_/\KT w0.heap.size w w'));simp only[yu,Ex.op_mk,Ex.n_mk,Ex.name_mk,Ex.args_mk]at HC;clear hC h1 hI hB hE hv hst hsz hroom;go_enter Tryz.func183, Tryz.ntmps183;go_wp2_with fail;refine HC.out.mono ?_;rintro e w2 ⟨rfl,hI2,hK2⟩;have HI2:=Lib.hid hI2;have HK2:=Lib.hid hK2;clear hI2 hK2;go_wp2_with fail;go_end0;exact⟨rfl,HI2.out,HK2.out⟩
theorem ziu (cb:Nat) {α:Type} (Inv:α->World->Prop) (size:α->Nat) (step:α->Ex->α×Bool) (w0:World) (bv bd:Nat)
 (hsz:∀st e,size (step st e).1<=size st+1)
 (hst:∀st w w',Inv st w->Below w.heap.size w w'->Inv st w')
 (hv:Y9 233 #[.pointer (some ⟨cb,0,none⟩)] w0 Inv size step) (e:Ex) :
 ∀(st:α) (a:Option Addr) (cap:Nat) (w:World),size st+e.nodes.length<=1073741824->Inv st w->Below w0.heap.size w0 w->yY w0 e a cap ->
  w.heap[bv]? = some (.cells #[.func (.func 233) #[] #[.pointer (some ⟨cb,0,none⟩)]] 211 (0,0)) ->
  w.heap[bd]? = some (.cells #[.func (.func 230) #[] #[.pointer (some ⟨bv,0,none⟩),.pointer (some ⟨bd,0,none⟩)]] 211 (0,0)) ->
  Calls Tryz.prog 230 #[yu e a cap,.pointer (some ⟨bv,0,none⟩),.pointer (some ⟨bd,0,none⟩)] w (zbk Inv step w0 w st e.nodes):=by
 induction e using Ex.ind with
 |h e ih =>
  intro st a cap w hroom hI hB hE hbv hbd;obtain⟨op,n,s,args⟩:=e;have hnl:(Ex.mk op n s args).nodes.length=(zD args args.length).length+1:=by rw[xF];simp[Ex.args_mk]
  have hs1:=hsz st (.mk op n s args);have HR:=Lib.hid (⟨hnl,hs1,hroom,hsz⟩:_/\_/\_/\_);have hlen:=hE.2.2.1;simp only[Ex.args_mk]at hlen;have hadr:=hE.2.addr;simp only[Ex.args_mk]at hadr;have HB:=Lib.hid hB;have HE:=Lib.hid hE;have hBB:Below w.heap.size w (w.alloc (.cells #[.int .i64 op,.int .i64 n,.string s,.slice a args.length cap] 24)):=(Below.refl _ _).alloc (Nat.le_refl _) _;have HV:=Lib.hid (hv st op n s args a cap _ (by omega) (hst _ _ _ hI hBB) (hB.trans (hBB.mono hB.size)) hE);have HIH:=Lib.hid ih;have HST:=Lib.hid hst;have HBV:=Lib.hid hbv;have HBD:=Lib.hid hbd;have cv:∀o,(w.alloc o).cell? ⟨bv,0,none⟩=_:=λo=>(World.cell?_alloc_lt _ _ _ (lt_of_block hbv)).trans (cell_of_one hbv);clear hv ih hI hB hE hbv hbd hst hBB hnl hs1 hroom hsz;simp only[yu,Ex.op_mk,Ex.n_mk,Ex.name_mk,Ex.args_mk];have HA:=Lib.hid hadr;clear hadr;go_enter Tryz.func230, Tryz.ntmps230;go_wp2_with fail;refine HV.out.mono ?_;rintro e w1 ⟨rfl,hI1,hK1⟩;have HI1:=Lib.hid hI1;have HK0:Hid (KT w0.heap.size w w1):=(KT.of_below ((Below.refl _ _).alloc (Nat.le_refl _) _)).trans hK1;have hbox:=hK1.typed _ _ _ _ (zi _ _) (Or.inl rfl);have c3:w1.cell? ⟨w.heap.size,3,none⟩=some (.slice a args.length cap):=by simp[World.cell?,hbox]
  clear hI1 hK1 hbox cv HV;cases hs:(step st (.mk op n s args)).2
  ·go_wp2_with fail;go_ret;exact⟨by rw[Qd hs];rfl,by rw[Qd hs];exact HI1.out,HK0.out⟩
  ·go_wp2_with fail;go_loopw [14] (λi wr=>∃k:Nat,i=.int .i64 k/\zdd Inv step w0 w (step st (.mk op n s args)).1 args k wr) (λi _=>args.length-(intOf i).toNat);case atStart=>exact⟨0,rfl,Nat.zero_le _,rfl,HI1.out,HK0.out⟩
   case round =>
    obtain⟨k,rfl,hR⟩:=hrel;obtain⟨hk,hy,hIr,hKr⟩:=hR;have hBr:=HB.out.trans (hKr.below HB.out.size);by_cases hlt:k<args.length
    ·obtain⟨b,off,ha⟩:=HA.out.resolve_left (by omega);subst ha;obtain⟨a',cap',g0,g1,g2,g3,hX⟩:=HE.out.2.get rfl hlt;have kk:=za hBr;have c0:=kk _ _ g0;have c1:=kk _ _ g1;have c2:=kk _ _ g2;have c3':=kk _ _ g3;simp only[Ex.args_mk]at c0 c1 c2 c3';have hm:args[k]∈(Ex.mk op n s args).args:=List.getElem_mem hlt;have cd:∀o,(wr.alloc o).cell? ⟨bd,0,none⟩=_:=λo=>(World.cell?_alloc_lt _ _ _ (lt_of_block (hKr.typed _ _ _ _ HBD.out (Or.inr rfl)))).trans (cell_of_one (hKr.typed _ _ _ _ HBD.out (Or.inr rfl)));have hBA:Below wr.heap.size wr (wr.alloc (.cells #[.int .i64 (args[k]'hlt).op,.int .i64 (args[k]'hlt).n,.string (args[k]'hlt).name,.slice a' (args[k]'hlt).args.length cap'] 24)):=(Below.refl _ _).alloc (Nat.le_refl _) _;have hKA:=hKr.trans (KT.of_below hBA);have hrm:=qQ args k hlt;have hsk:=zak HR.out.2.2.2 (zD args k) (step st (.mk op n s args)).1;have hroom':=HR.out;have hC:=HIH.out _ hm _ a' cap' _ (by omega) (HST.out _ _ _ hIr hBA) (hBr.trans (hBA.mono hBr.size)) hX (hKA.typed _ _ _ _ HBV.out (Or.inr rfl)) (hKA.typed _ _ _ _ HBD.out (Or.inr rfl));have HC:=Lib.hid (hC.mono λe w' h=>(⟨h.1,h.2.1,hKA.trans h.2.2⟩:_/\_/\KT w0.heap.size w w'));simp only[Ex.args_mk,yu]at HC;have Hy:=Lib.hid hy;have Hon:=Lib.hid (zea hlt hy);have Hstop:=Lib.hid (zau hlt hy);clear hIr hKr hBr hy g0 g1 g2 g3 kk hC hBA hKA hrm hsk hroom';go_wp2_with fail;refine HC.out.mono ?_
     rintro e w2 ⟨rfl,hI2,hK2⟩;have HI2:=Lib.hid hI2;have HK2:=Lib.hid hK2;clear hI2 hK2;cases hr:(qY step (qY step (step st (.mk op n s args)).1 (zD args k)).1 (args[k]'hlt).nodes).2
     ·go_wp2_with fail;go_ret;have hw:=YG hs;simp only[Ex.args_mk]at hw;rw[Hstop.out hr]at hw;exact⟨by rw[hw,hr];rfl,by rw[hw];exact HI2.out,HK2.out⟩
     ·go_wp2_with fail;go_roundw;case rel=>exact⟨k+1,by go_num,by omega,by rw[Hon.out];exact hr,by rw[Hon.out];exact HI2.out,HK2.out⟩
      case measure=>simp[intOf];omega
    ·obtain rfl:k=args.length:=by omega
     have HIr:=Lib.hid hIr;have HKr:=Lib.hid hKr;have Hy:=Lib.hid hy;clear hIr hKr hBr hy;go_wp2_with fail;go_ret;have hw:=YG hs;simp only[Ex.args_mk]at hw;exact⟨by rw[hw,Hy.out];rfl,by rw[hw];exact HIr.out,HKr.out⟩
theorem zkg (cb:Nat) {α:Type} (Inv:α->World->Prop) (size:α->Nat) (step:α->Ex->α×Bool) (w0:World)
 (hsz:∀st e,size (step st e).1<=size st+1)
 (hst:∀st w w',Inv st w->Below w.heap.size w w'->Inv st w')
 (hv:Y9 233 #[.pointer (some ⟨cb,0,none⟩)] w0 Inv size step) (op n:Int) (s:ByteArray) (args:List Ex) (st:α) (a:Option Addr) (cap:Nat) (w:World)
 (hroom:size st+(Ex.mk op n s args).nodes.length<=1073741824) (hI:Inv st w) (hB:Below w0.heap.size w0 w) (hE:yY w0 (.mk op n s args) a cap) :
 Calls Tryz.prog 183 #[.agg #[.int .i64 op,.int .i64 n,.string s,.slice a args.length cap],.func (.func 233) #[] #[.pointer (some ⟨cb,0,none⟩)]] w λr w' =>
  r=.returned (.tuple #[])/\Inv (qY step st (Ex.mk op n s args).nodes).1 w'/\KT w0.heap.size w w':=by
 have h1:Below w.heap.size w (((w.alloc (.cells #[.int .i64 op,.int .i64 n,.string s,.slice a args.length cap] 24)).alloc (.cells #[.func (.func 233) #[] #[.pointer (some ⟨cb,0,none⟩)]] 211)).alloc (.cells #[.func (.func 230) #[] #[.pointer (some ⟨w.heap.size+1,0,none⟩),.pointer (some ⟨w.heap.size+1+1,0,none⟩)]] 211)) :=
  ((((Below.refl _ _).alloc (Nat.le_refl _) _).alloc (by simp) _).alloc (by simp;omega) _)
 have hC:=ziu cb Inv size step w0 (w.heap.size+1) (w.heap.size+1+1) hsz hst hv (.mk op n s args) st a cap _ hroom (hst _ _ _ hI h1) (hB.trans (h1.mono hB.size)) hE
  (by rw[Below.heap_alloc _ _ _ (by simp)];exact zq _ _ _ (by simp)) (zq _ _ _ (by simp))
 have HC:=Lib.hid (hC.mono λe w' h=>(⟨h.1,h.2.1,(KT.of_below h1).trans h.2.2⟩:_/\_/\KT w0.heap.size w w'));simp only[yu,Ex.op_mk,Ex.n_mk,Ex.name_mk,Ex.args_mk]at HC;clear hC h1 hI hB hE hv hst hsz hroom;go_enter Tryz.func183, Tryz.ntmps183;go_wp2_with fail;refine HC.out.mono ?_;rintro e w2 ⟨rfl,hI2,hK2⟩;have HI2:=Lib.hid hI2;have HK2:=Lib.hid hK2;clear hI2 hK2;go_wp2_with fail;go_end0;exact⟨rfl,HI2.out,HK2.out⟩
theorem ziv (ca cb:Nat) {α:Type} (Inv:α->World->Prop) (size:α->Nat) (step:α->Ex->α×Bool) (w0:World) (bv bd:Nat)
 (hsz:∀st e,size (step st e).1<=size st+1)
 (hst:∀st w w',Inv st w->Below w.heap.size w w'->Inv st w')
 (hv:Y9 256 #[.pointer (some ⟨ca,0,none⟩),.pointer (some ⟨cb,0,none⟩)] w0 Inv size step) (e:Ex) :
 ∀(st:α) (a:Option Addr) (cap:Nat) (w:World),size st+e.nodes.length<=1073741824->Inv st w->Below w0.heap.size w0 w->yY w0 e a cap ->
  w.heap[bv]? = some (.cells #[.func (.func 256) #[] #[.pointer (some ⟨ca,0,none⟩),.pointer (some ⟨cb,0,none⟩)]] 211 (0,0)) ->
  w.heap[bd]? = some (.cells #[.func (.func 230) #[] #[.pointer (some ⟨bv,0,none⟩),.pointer (some ⟨bd,0,none⟩)]] 211 (0,0)) ->
  Calls Tryz.prog 230 #[yu e a cap,.pointer (some ⟨bv,0,none⟩),.pointer (some ⟨bd,0,none⟩)] w (zbk Inv step w0 w st e.nodes):=by
 induction e using Ex.ind with
 |h e ih =>
  intro st a cap w hroom hI hB hE hbv hbd;obtain⟨op,n,s,args⟩:=e;have hnl:(Ex.mk op n s args).nodes.length=(zD args args.length).length+1:=by rw[xF];simp[Ex.args_mk]
  have hs1:=hsz st (.mk op n s args);have HR:=Lib.hid (⟨hnl,hs1,hroom,hsz⟩:_/\_/\_/\_);have hlen:=hE.2.2.1;simp only[Ex.args_mk]at hlen;have hadr:=hE.2.addr;simp only[Ex.args_mk]at hadr;have HB:=Lib.hid hB;have HE:=Lib.hid hE;have hBB:Below w.heap.size w (w.alloc (.cells #[.int .i64 op,.int .i64 n,.string s,.slice a args.length cap] 24)):=(Below.refl _ _).alloc (Nat.le_refl _) _;have HV:=Lib.hid (hv st op n s args a cap _ (by omega) (hst _ _ _ hI hBB) (hB.trans (hBB.mono hB.size)) hE);have HIH:=Lib.hid ih;have HST:=Lib.hid hst;have HBV:=Lib.hid hbv;have HBD:=Lib.hid hbd;have cv:∀o,(w.alloc o).cell? ⟨bv,0,none⟩=_:=λo=>(World.cell?_alloc_lt _ _ _ (lt_of_block hbv)).trans (cell_of_one hbv);clear hv ih hI hB hE hbv hbd hst hBB hnl hs1 hroom hsz;simp only[yu,Ex.op_mk,Ex.n_mk,Ex.name_mk,Ex.args_mk];have HA:=Lib.hid hadr;clear hadr;go_enter Tryz.func230, Tryz.ntmps230;go_wp2_with fail;refine HV.out.mono ?_;rintro e w1 ⟨rfl,hI1,hK1⟩;have HI1:=Lib.hid hI1;have HK0:Hid (KT w0.heap.size w w1):=(KT.of_below ((Below.refl _ _).alloc (Nat.le_refl _) _)).trans hK1;have hbox:=hK1.typed _ _ _ _ (zi _ _) (Or.inl rfl);have c3:w1.cell? ⟨w.heap.size,3,none⟩=some (.slice a args.length cap):=by simp[World.cell?,hbox]
  clear hI1 hK1 hbox cv HV;cases hs:(step st (.mk op n s args)).2
  ·go_wp2_with fail;go_ret;exact⟨by rw[Qd hs];rfl,by rw[Qd hs];exact HI1.out,HK0.out⟩
  ·go_wp2_with fail;go_loopw [14] (λi wr=>∃k:Nat,i=.int .i64 k/\zdd Inv step w0 w (step st (.mk op n s args)).1 args k wr) (λi _=>args.length-(intOf i).toNat);case atStart=>exact⟨0,rfl,Nat.zero_le _,rfl,HI1.out,HK0.out⟩
   case round =>
    obtain⟨k,rfl,hR⟩:=hrel;obtain⟨hk,hy,hIr,hKr⟩:=hR;have hBr:=HB.out.trans (hKr.below HB.out.size);by_cases hlt:k<args.length
    ·obtain⟨b,off,ha⟩:=HA.out.resolve_left (by omega);subst ha;obtain⟨a',cap',g0,g1,g2,g3,hX⟩:=HE.out.2.get rfl hlt;have kk:=za hBr;have c0:=kk _ _ g0;have c1:=kk _ _ g1;have c2:=kk _ _ g2;have c3':=kk _ _ g3;simp only[Ex.args_mk]at c0 c1 c2 c3';have hm:args[k]∈(Ex.mk op n s args).args:=List.getElem_mem hlt;have cd:∀o,(wr.alloc o).cell? ⟨bd,0,none⟩=_:=λo=>(World.cell?_alloc_lt _ _ _ (lt_of_block (hKr.typed _ _ _ _ HBD.out (Or.inr rfl)))).trans (cell_of_one (hKr.typed _ _ _ _ HBD.out (Or.inr rfl)));have hBA:Below wr.heap.size wr (wr.alloc (.cells #[.int .i64 (args[k]'hlt).op,.int .i64 (args[k]'hlt).n,.string (args[k]'hlt).name,.slice a' (args[k]'hlt).args.length cap'] 24)):=(Below.refl _ _).alloc (Nat.le_refl _) _;have hKA:=hKr.trans (KT.of_below hBA);have hrm:=qQ args k hlt;have hsk:=zak HR.out.2.2.2 (zD args k) (step st (.mk op n s args)).1;have hroom':=HR.out;have hC:=HIH.out _ hm _ a' cap' _ (by omega) (HST.out _ _ _ hIr hBA) (hBr.trans (hBA.mono hBr.size)) hX (hKA.typed _ _ _ _ HBV.out (Or.inr rfl)) (hKA.typed _ _ _ _ HBD.out (Or.inr rfl));have HC:=Lib.hid (hC.mono λe w' h=>(⟨h.1,h.2.1,hKA.trans h.2.2⟩:_/\_/\KT w0.heap.size w w'));simp only[Ex.args_mk,yu]at HC;have Hy:=Lib.hid hy;have Hon:=Lib.hid (zea hlt hy);have Hstop:=Lib.hid (zau hlt hy);clear hIr hKr hBr hy g0 g1 g2 g3 kk hC hBA hKA hrm hsk hroom';go_wp2_with fail;refine HC.out.mono ?_
     rintro e w2 ⟨rfl,hI2,hK2⟩;have HI2:=Lib.hid hI2;have HK2:=Lib.hid hK2;clear hI2 hK2;cases hr:(qY step (qY step (step st (.mk op n s args)).1 (zD args k)).1 (args[k]'hlt).nodes).2
     ·go_wp2_with fail;go_ret;have hw:=YG hs;simp only[Ex.args_mk]at hw;rw[Hstop.out hr]at hw;exact⟨by rw[hw,hr];rfl,by rw[hw];exact HI2.out,HK2.out⟩
     ·go_wp2_with fail;go_roundw;case rel=>exact⟨k+1,by go_num,by omega,by rw[Hon.out];exact hr,by rw[Hon.out];exact HI2.out,HK2.out⟩
      case measure=>simp[intOf];omega
    ·obtain rfl:k=args.length:=by omega
     have HIr:=Lib.hid hIr;have HKr:=Lib.hid hKr;have Hy:=Lib.hid hy;clear hIr hKr hBr hy;go_wp2_with fail;go_ret;have hw:=YG hs;simp only[Ex.args_mk]at hw;exact⟨by rw[hw,Hy.out];rfl,by rw[hw];exact HIr.out,HKr.out⟩
theorem ze1 (ca cb:Nat) {α:Type} (Inv:α->World->Prop) (size:α->Nat) (step:α->Ex->α×Bool) (w0:World)
 (hsz:∀st e,size (step st e).1<=size st+1)
 (hst:∀st w w',Inv st w->Below w.heap.size w w'->Inv st w')
 (hv:Y9 256 #[.pointer (some ⟨ca,0,none⟩),.pointer (some ⟨cb,0,none⟩)] w0 Inv size step) (op n:Int) (s:ByteArray) (args:List Ex) (st:α) (a:Option Addr) (cap:Nat) (w:World)
 (hroom:size st+(Ex.mk op n s args).nodes.length<=1073741824) (hI:Inv st w) (hB:Below w0.heap.size w0 w) (hE:yY w0 (.mk op n s args) a cap) :
 Calls Tryz.prog 183 #[.agg #[.int .i64 op,.int .i64 n,.string s,.slice a args.length cap],.func (.func 256) #[] #[.pointer (some ⟨ca,0,none⟩),.pointer (some ⟨cb,0,none⟩)]] w λr w' =>
  r=.returned (.tuple #[])/\Inv (qY step st (Ex.mk op n s args).nodes).1 w'/\KT w0.heap.size w w':=by
 have h1:Below w.heap.size w (((w.alloc (.cells #[.int .i64 op,.int .i64 n,.string s,.slice a args.length cap] 24)).alloc (.cells #[.func (.func 256) #[] #[.pointer (some ⟨ca,0,none⟩),.pointer (some ⟨cb,0,none⟩)]] 211)).alloc (.cells #[.func (.func 230) #[] #[.pointer (some ⟨w.heap.size+1,0,none⟩),.pointer (some ⟨w.heap.size+1+1,0,none⟩)]] 211)) :=
  ((((Below.refl _ _).alloc (Nat.le_refl _) _).alloc (by simp) _).alloc (by simp;omega) _)
 have hC:=ziv ca cb Inv size step w0 (w.heap.size+1) (w.heap.size+1+1) hsz hst hv (.mk op n s args) st a cap _ hroom (hst _ _ _ hI h1) (hB.trans (h1.mono hB.size)) hE
  (by rw[Below.heap_alloc _ _ _ (by simp)];exact zq _ _ _ (by simp)) (zq _ _ _ (by simp))
 have HC:=Lib.hid (hC.mono λe w' h=>(⟨h.1,h.2.1,(KT.of_below h1).trans h.2.2⟩:_/\_/\KT w0.heap.size w w'));simp only[yu,Ex.op_mk,Ex.n_mk,Ex.name_mk,Ex.args_mk]at HC;clear hC h1 hI hB hE hv hst hsz hroom;go_enter Tryz.func183, Tryz.ntmps183;go_wp2_with fail;refine HC.out.mono ?_;rintro e w2 ⟨rfl,hI2,hK2⟩;have HI2:=Lib.hid hI2;have HK2:=Lib.hid hK2;clear hI2 hK2;go_wp2_with fail;go_end0;exact⟨rfl,HI2.out,HK2.out⟩
def zj1 (st:Int) (_:Ex):Int×Bool:=(wrap64 (st+1),true)
theorem runS (l:List Ex):∀st:Int,0<=st->st+l.length<=1073741824->qY zj1 st l=(st+l.length,true):=by
 induction l with
 |nil=>intro st _ _;simp[qY]
 |cons e l ih =>
  intro st h0 h;simp only[List.length_cons,Int.natCast_add,Int.natCast_one]at h;have hw:wrap64 (st+1)=st+1:=by unfold wrap64;omega
  simp only[qY,zj1,if_true,hw];rw[ih (st+1) (by omega) (by omega)];simp;omega
def zmd (B cb:Nat) (st:Int) (w:World):Prop:=B<=cb/\w.heap[cb]? = some (.cells #[.int .i64 st] 3 (0,0))
theorem zmd.keep {B cb:Nat} (st:Int) (w w':World) (h:zmd B cb st w) (hb:Below w.heap.size w w'):zmd B cb st w' :=
 ⟨h.1,by rw[hb.block _ (lt_of_block h.2)];exact h.2⟩
theorem znb (w0:World) (cb:Nat):Y9 233 #[.pointer (some ⟨cb,0,none⟩)] w0 (zmd w0.heap.size cb) (λ_=>0) zj1:=by
 intro st op n s args a cap w _ hI hB hE;have hcb:=lt_of_block hI.2;have c0:∀o,(w.alloc o).cell? ⟨cb,0,none⟩=_:=λo=>(World.cell?_alloc_lt _ _ _ hcb).trans (cell_of_one hI.2);have f0:∀o,(w.alloc o).frozen? ⟨cb,0,none⟩=_:=λo=>(World.frozen?_alloc_old _ _ _ (Nat.ne_of_lt hcb)).trans (free_of_one hI.2);have HI:=Lib.hid hI;clear hI hB hE hcb;show Calls _ _ #[_,_] _ _;go_enter Tryz.func233, Tryz.ntmps233;go_wp2_with fail;go_ret;have hb:∀o,(w.alloc o).heap[cb]? = _:=λo=>(Below.heap_alloc _ _ _ (lt_of_block HI.out.2)).trans HI.out.2;refine⟨rfl,⟨HI.out.1,?_⟩,?_⟩
 ·exact one_setCell (hb _)
 ·exact((KT.refl _ _).alloc _).setCell (hb _) (by unfold zbj;decide) HI.out.1 _
theorem zeU (op n:Int) (s:ByteArray) (args:List Ex) (a:Option Addr) (cap:Nat) (w:World) (hE:yY w (.mk op n s args) a cap) (hn:(Ex.mk op n s args).nodes.length<=1073741824) :
 Calls Tryz.prog 187 #[.agg #[.int .i64 op,.int .i64 n,.string s,.slice a args.length cap]] w λe w'=>e=.returned (.int .i64 (Ex.mk op n s args).nodes.length)/\Below w.heap.size w w':=by
 have hB:Below w.heap.size w ((w.alloc (.cells #[.int .i64 op,.int .i64 n,.string s,.slice a args.length cap] 24)).alloc (.cells #[.int .i64 0] 3)):=bel;have hC:=zkg (w.heap.size+1) (zmd w.heap.size (w.heap.size+1)) (λ_=>0) zj1 w (λ_ _=>by simp) zmd.keep (znb w (w.heap.size+1)) op n s args 0 a cap _ (by omega) ⟨by omega,zq _ _ _ (by simp)⟩ hB hE;rw[runS _ 0 (by omega) (by omega)]at hC;have HB:=Lib.hid hB;have HC:=Lib.hid hC;clear hC hB hE;go_enter Tryz.func187, Tryz.ntmps187;go_wp2_with fail;refine HC.out.mono ?_;rintro e w2 ⟨rfl,hI2,hK2⟩;have c0:=cell_of_one hI2.2;have HK2:=Lib.hid hK2;clear hI2 hK2;go_wp2_with fail;go_ret;exact⟨by simp,HB.out.trans (HK2.out.below (by simp;omega))⟩
theorem zg7 (l:List Nat):∀a,l.foldl max a=max a (l.foldl max 0):=by
 induction l with
 |nil=>intro a;simp
 |cons x l ih=>intro a;simp only[List.foldl_cons];rw[ih (max a x),ih (max 0 x)];omega
noncomputable def qs (l:List Ex) (k:Nat):Nat:=((l.take k).map Ex.depth).foldl max 0
theorem Ya (l:List Ex) (k:Nat) (h:k<l.length):qs l (k+1)=max (qs l k) (l[k]'h).depth:=by unfold qs;rw[List.take_succ_eq_append_getElem h,List.map_append,List.foldl_append];simp
theorem Xi (e:Ex):e.depth=qs e.args e.args.length+1:=by rw[Ex.depth_eq];unfold qs;rw[List.take_of_length_le (Nat.le_refl _)]
theorem zcF (l:List Ex) (k:Nat) (h:k<l.length):(zD l (k+1)).length=(zD l k).length+(l[k]'h).nodes.length:=by rw[qC _ _ h,List.length_append]
theorem qv (e:Ex):e.depth<=e.nodes.length:=by
 induction e using Ex.ind with
 |h e ih =>
  have h:∀k,k<=e.args.length->qs e.args k<=(zD e.args k).length:=by
   intro k
   induction k with
   |zero=>intro _;simp[qs]
   |succ k ihk =>intro hk;have h1:=ihk (by omega);have h2:=ih (e.args[k]'(by omega)) (List.getElem_mem _);rw[Ya _ _ (by omega),zcF _ _ (by omega)];omega
  have:=h _ (Nat.le_refl _);rw[Xi,xF];simp;omega
theorem zgU (e:Ex):∀(a:Option Addr) (cap:Nat) (w:World),e.nodes.length<=1073741824->yY w e a cap ->
 Calls Tryz.prog 186 #[yu e a cap] w λr w'=>r=.returned (.int .i64 e.depth)/\Below w.heap.size w w':=by
 induction e using Ex.ind with
 |h e ih =>
  intro a cap w hn hE;obtain⟨op,n,s,args⟩:=e;have hlen:=hE.2.2.1;have hadr:=hE.2.addr;have hnl:(Ex.mk op n s args).nodes.length=(zD args args.length).length+1:=by rw[xF];simp[Ex.args_mk]
  simp only[Ex.args_mk]at hlen hadr;have HN:=Lib.hid (⟨hn,hnl⟩:_/\_);have HE:=Lib.hid hE;have HIH:=Lib.hid ih;have HA:=Lib.hid hadr;clear hn hE ih hadr hnl;simp only[yu,Ex.op_mk,Ex.n_mk,Ex.name_mk,Ex.args_mk];go_enter Tryz.func186, Tryz.ntmps186;go_wp2_with fail;go_loopw [3,9] (λd i wr=>∃k:Nat,i=.int .i64 k/\k<=args.length/\d=.int .i64 (qs args k)/\Below w.heap.size w wr) (λ_ i _=>args.length-(intOf i).toNat);case atStart=>exact⟨0,rfl,Nat.zero_le _,rfl,bel⟩
  case round =>
   obtain⟨k,rfl,hk,rfl,hBr⟩:=hrel;have HBr:=Lib.hid hBr;clear hBr;by_cases hlt:k<args.length
   ·obtain⟨b,off,ha⟩:=HA.out.resolve_left (by omega);subst ha;obtain⟨a',cap',g0,g1,g2,g3,hX⟩:=HE.out.2.get rfl hlt;have kk:=za HBr.out;have c0:=kk _ _ g0;have c1:=kk _ _ g1;have c2:=kk _ _ g2;have c3:=kk _ _ g3;have hrm:=qQ args k hlt;have hd:=qv (args[k]'hlt);have hn':=HN.out;have hX':=hX.keep kk;simp only[Ex.args_mk]at c0 c1 c2 c3 hX';have hm:args[k]∈(Ex.mk op n s args).args:=List.getElem_mem hlt;have hBA:Below wr.heap.size wr (wr.alloc (.cells #[.int .i64 (args[k]'hlt).op,.int .i64 (args[k]'hlt).n,.string (args[k]'hlt).name,.slice a' (args[k]'hlt).args.length cap'] 24)):=(Below.refl _ _).alloc (Nat.le_refl _) _;have hC:=HIH.out _ hm a' cap' _ (by omega) (hX'.keep (za hBA));have HC:=Lib.hid (hC.mono λe w' h=>(⟨h.1,HBr.out.trans ((hBA.trans (h.2.mono hBA.size)).mono HBr.out.size)⟩:_/\Below w.heap.size w w'));simp only[Ex.args_mk,yu]at HC;have Hon:=Lib.hid (Ya args k hlt);have hdk:qs args k<=1073741824:=by
     have h1:qs args k<=(Ex.mk op n s args).depth:=by
      rw[Xi,Ex.args_mk];have h2:∀j,k+j<=args.length->qs args k<=qs args (k+j):=by
       intro j
       induction j with
       |zero=>intro _;exact Nat.le_refl _
       |succ j ihj =>intro hj;have:=ihj (by omega);rw[←Nat.add_assoc,Ya _ _ (by omega)];omega
      have:=h2 (args.length-k) (by omega);rw[show k+(args.length-k)=args.length from by omega]at this;omega
     have:=qv (Ex.mk op n s args);omega
    have hdd:(args[k]'hlt).depth<=1073741824:=by omega
    clear g0 g1 g2 g3 kk hC hBA hrm hn' hX hX' hd hm;go_wp2_with fail;refine HC.out.mono ?_;rintro e w2 ⟨rfl,hb2⟩;have HB2:=Lib.hid hb2;clear hb2;go_wp2_with fail;go_roundw;case rel=>exact⟨k+1,by go_num,by omega,by rw[Hon.out];go_num,HB2.out⟩
    case measure=>simp[intOf];omega
   ·obtain rfl:k=args.length:=by omega
    have hd:qs args args.length+1<=1073741824:=by have:=qv (Ex.mk op n s args);rw[Xi,Ex.args_mk]at this;have:=HN.out;omega
    have hall:=Xi (Ex.mk op n s args);simp only[Ex.args_mk]at hall;have Hall:=Lib.hid hall;clear hall;go_wp2_with fail;go_ret;exact⟨by rw[Hall.out];simp,HBr.out⟩
def zf9 (_:Int) (e:Ex):Int×Bool:=(qO e,qO e==0)
def yI:List Ex->Int
 | []=>0
 |e::l=>if qO e=0 then yI l else qO e
theorem zf3 (l:List Ex):(qY zf9 0 l).1=yI l:=by
 induction l with
 |nil=>rfl
 |cons e l ih =>
  by_cases h:qO e=0
  ·simp only[qY,zf9,h,yI,if_true];simpa [zf9] using ih
  ·simp[qY,zf9,h,yI]
noncomputable def zZ (e:Ex):Int:=if yI e.nodes=0/\(24<e.depth\/400<e.nodes.length) then 2 else yI e.nodes
def InvV (B cb:Nat) (st:Int) (w:World):Prop:=B<=cb/\w.heap[cb]? = some (.cells #[.int .i64 st] 34 (0,0))/\ZW w
theorem InvV.keep {B cb:Nat} (st:Int) (w w':World) (h:InvV B cb st w) (hb:Below w.heap.size w w'):InvV B cb st w' :=
 ⟨h.1,by rw[hb.block _ (lt_of_block h.2.1)];exact h.2.1,h.2.2.below hb⟩
theorem znc (w0:World) (hG0:ZW w0) (cb:Nat):Y9 184 #[.pointer (some ⟨cb,0,none⟩)] w0 (λst w=>InvV w0.heap.size cb st w) (λ_=>0) zf9:=by
 intro st op n s args a cap w _ hI hB hE;have hcb:=lt_of_block hI.2.1;have hBA:Below w.heap.size w (w.alloc (.cells #[.int .i64 op,.int .i64 n,.string s,.slice a args.length cap] 24)):=(Below.refl _ _).alloc (Nat.le_refl _) _;have hC:=zjE op n s args a cap _ hE.1 hE.2.2.1 (hI.2.2.below hBA);have HC:=Lib.hid (hC.mono λe w' h=>(⟨h.1,hBA.trans (h.2.mono hBA.size)⟩:_/\Below w.heap.size w w'));have HI:=Lib.hid hI;have HB:=Lib.hid hB;clear hI hB hE hC hBA;show Calls _ _ #[_,_] _ _;go_enter Tryz.func184, Tryz.ntmps184;go_wp2_with fail;refine HC.out.mono ?_;rintro e w2 ⟨rfl,hb2⟩;have hb:w2.heap[cb]? = _:=(hb2.block _ hcb).trans HI.out.2.1;have c0:=cell_of_one hb;have f0:=free_of_one hb;have HH:=Lib.hid hb;have HB2:=Lib.hid hb2;clear hb hb2 hcb;go_wp2_with fail;go_ret;have hlow:∀p v,w0.cell? p=some v->(w2.setCell ⟨cb,0,none⟩ (.int .i64 (qO (.mk op n s args)))).cell? p=some v:=by intro p v hp;have h1:=za HB.out _ _ hp;have h2:=za HB2.out _ _ h1;have h3:=World.block_lt_of_cell? _ _ hp;rw[World.cell?_setCell_other _ _ _ _ (by rintro rfl;exact absurd HI.out.1 (by simpa using h3))];exact h2
 exact⟨rfl,⟨HI.out.1,one_setCell HH.out,hG0.keep hlow⟩,(KT.of_below HB2.out).setCell HH.out (by unfold zbj;decide) HI.out.1 _⟩
theorem zc7 (op n:Int) (s:ByteArray) (args:List Ex) (a:Option Addr) (cap:Nat) (w:World) (hG:ZW w) (hE:yY w (.mk op n s args) a cap) (hn:(Ex.mk op n s args).nodes.length<=1073741824) :
 Calls Tryz.prog 121 #[.agg #[.int .i64 op,.int .i64 n,.string s,.slice a args.length cap]] w λe w'=>e=.returned (.int .i64 (zZ (.mk op n s args)))/\Below w.heap.size w w':=by
 have hB:Below w.heap.size w ((w.alloc (.cells #[.int .i64 op,.int .i64 n,.string s,.slice a args.length cap] 24)).alloc (.cells #[.int .i64 0] 34)):=bel;have hC:=zkf (w.heap.size+1) (λst w'=>InvV w.heap.size (w.heap.size+1) st w') (λ_=>0) zf9 w (λ_ _=>by simp) InvV.keep (znc w hG (w.heap.size+1)) op n s args 0 a cap _ (by omega) ⟨by omega,zq _ _ _ (by simp),hG.below hB⟩ hB hE;rw[zf3]at hC;have HB:=Lib.hid hB;have HC:=Lib.hid hC;have HE:=Lib.hid hE;have Hn:=Lib.hid hn;have hbox:((w.alloc (.cells #[.int .i64 op,.int .i64 n,.string s,.slice a args.length cap] 24)).alloc (.cells #[.int .i64 0] 34)).heap[w.heap.size]? = some (.cells #[.int .i64 op,.int .i64 n,.string s,.slice a args.length cap] 24):=by rw[Below.heap_alloc _ _ _ (by simp)];exact zi _ _
 have HX:=Lib.hid hbox;clear hC hB hE hn hG hbox;go_enter Tryz.func121, Tryz.ntmps121;go_wp2_with fail;refine HC.out.mono ?_;rintro e w2 ⟨rfl,hI2,hK2⟩;have c0:=cell_of_one hI2.2.1;have hx2:=hK2.typed _ _ _ _ HX.out (Or.inl rfl);have b0:w2.cell? ⟨w.heap.size,0,none⟩=some (.int .i64 op):=by simp[World.cell?,hx2]
 have b1:w2.cell? ⟨w.heap.size,1,none⟩=some (.int .i64 n):=by simp[World.cell?,hx2]
 have b2:w2.cell? ⟨w.heap.size,2,none⟩=some (.string s):=by simp[World.cell?,hx2]
 have b3:w2.cell? ⟨w.heap.size,3,none⟩=some (.slice a args.length cap):=by simp[World.cell?,hx2]
 have hb2:Below w.heap.size w w2:=HB.out.trans (hK2.below (by simp;omega));have hz2:=hK2.size;simp only[World.size_alloc]at hz2;have hzl0:w.heap.size<w2.heap.size:=by omega
 have hzl1:w.heap.size+1<w2.heap.size:=by omega
 have HD:=Lib.hid (fr (W0:=w) (B:=w.heap.size) (zgU (.mk op n s args) a cap w2 Hn.out (HE.out.keep (za hb2))) hb2 (by omega));simp only[yu,Ex.op_mk,Ex.n_mk,Ex.name_mk,Ex.args_mk]at HD;have HB2:=Lib.hid hb2;clear hI2 hK2 hx2 hb2 hz2;by_cases h0:yI (Ex.mk op n s args).nodes=0
 ·have hv:Hid (zZ (.mk op n s args)=if (24<(Ex.mk op n s args).depth\/400<(Ex.mk op n s args).nodes.length) then 2 else 0):=by
   show _=_;unfold zZ;simp[h0]
  have c0':w2.cell? ⟨w.heap.size+1,0,none⟩=some (.int .i64 0):=by rw[c0,h0]
  have h0':=Lib.hid h0;clear h0 c0;by_cases hd:24<(Ex.mk op n s args).depth
  ·go_wp2_with (go_at_call 186;refine HD.out.mono ?_;rintro e w3 ⟨rfl,hc3,hf3,hz3,hb3⟩);go_ret;exact⟨by rw[hv.out,if_pos (Or.inl hd)];rfl,by assumption⟩
  ·have hs:=λw3 (hb3:Below w.heap.size w w3) (hz3:w.heap.size<=w3.heap.size)=>fr (W0:=w) (B:=w.heap.size) (zeU op n s args a cap w3 (HE.out.keep (za hb3)) Hn.out) hb3 hz3;have HS:=Lib.hid hs;clear hs;by_cases hs:400<(Ex.mk op n s args).nodes.length
   ·go_wp2_with (first|(go_at_call 186;refine HD.out.mono ?_;rintro e w3 ⟨rfl,hc3,hf3,hz3,hb3⟩;have hzl3:w.heap.size<w3.heap.size:=(by omega);have hzl4:w.heap.size+1<w3.heap.size:=(by omega))|(go_at_call 187;go_must (refine(HS.out _ (by assumption) (by omega)).mono ?_;rintro e w4 ⟨rfl,hc4,hf4,hz4,hb4⟩)));go_ret;exact⟨by rw[hv.out,if_pos (Or.inr hs)];rfl,by assumption⟩
   ·go_wp2_with (first|(go_at_call 186;refine HD.out.mono ?_;rintro e w3 ⟨rfl,hc3,hf3,hz3,hb3⟩;have hzl3:w.heap.size<w3.heap.size:=(by omega);have hzl4:w.heap.size+1<w3.heap.size:=(by omega))|(go_at_call 187;go_must (refine(HS.out _ (by assumption) (by omega)).mono ?_;rintro e w4 ⟨rfl,hc4,hf4,hz4,hb4⟩)));go_ret;exact⟨by rw[hv.out,if_neg (by omega)];rfl,by assumption⟩
 ·have hv:Hid (zZ (.mk op n s args)=yI (Ex.mk op n s args).nodes):=by
   show _=_;unfold zZ;simp[h0]
  go_wp2_with fail;go_ret;exact⟨by rw[hv.out];rfl,HB2.out⟩
theorem zhG {P:Program} {ops:Array Oper} {rest:List Oper} {o:Oper} {a:Act} {Q:Exit->Act->World->Prop} {t e:TypeId} {size:Nat} (he:Elem P t e size) (w:World) (hgd:o.guard=none) (s x:Operand)
 (ho:o.op=.call { callee:=.builtin .append,args:=#[s,x],argTypes:=#[t,t] })
 (base:Nat) (v:Value) (n:Nat) (xs:List Value) (hs:a.eval s=v) (hown:w.ownsRow base e size v n xs)
 (news:List Value) (hl:news.length=size) (h1:∀u∈news,u.oneCell'=true) (k c:Nat) (hx:a.eval x=.slice (some ⟨k,0,none⟩) 1 c) (hk:k=w.heap.size) (hn:n<=1073741824) (hbase:base<=w.heap.size)
 (h:∀v' w',w'.ownsRow base e size v' (n+1) (xs++news)->(w.alloc (.cells news.toArray e)).grownBy w' v.ownBlock->wpList P ops Q rest (a.put o.dst v') w'):wpList P ops Q (o::rest) a (w.alloc (.cells news.toArray e)):=by
 subst hk;exact zdQ he w hgd s x ho base v n xs hs hown news hl h1 c hx hn hbase h
theorem ZL {w:World} {base:Nat} {e:TypeId} {size:Nat} {v:Value} {n:Nat} {xs:List Value} (h:w.ownsRow base e size v n xs) {k:Nat} {c:Array Value} {t:TypeId} {z:Nat×Nat} (hk:w.heap[k]? = some (.cells c t z)) (ht:t≠e) (o:Nat) (u:Value):(w.setCell ⟨k,o,none⟩ u).ownsRow base e size v n xs :=
 ownsRow_setCell_other h (λh'=>zX h hk ht h'.symm) u
def zV (ops:List Int) (st:List ByteArray) (e:Ex):List ByteArray:=if ops.contains e.op=true/\Lib.containsS st e.name=false then st++[e.name] else st
def zii (ops:List Int) (st:List ByteArray) (e:Ex):List ByteArray×Bool:=(zV ops st e,true)
theorem runN (ops:List Int) (l:List Ex):∀st,qY (zii ops) st l=(l.foldl (zV ops) st,true):=by
 induction l with
 |nil=>intro st;rfl
 |cons e l ih=>intro st;simp only[qY,zii,if_true,List.foldl_cons];exact ih _
noncomputable def zG (ops:List Int) (e:Ex):List ByteArray:=e.nodes.foldl (zV ops) []
theorem qT (ops:List Int) (st:List ByteArray) (e:Ex):(zV ops st e).length<=st.length+1:=by unfold zV;split<;>simp
theorem Zx (ops:List Int) (l:List Ex):∀st:List ByteArray,(l.foldl (zV ops) st).length<=st.length+l.length:=by
 induction l with
 |nil=>intro st;simp
 |cons e l ih =>intro st;have h1:=ih (zV ops st e);have h2:=qT ops st e;simp only[List.foldl_cons,List.length_cons];omega
theorem zjd:Elem Tryz.prog 51 9 1:=Elem.of Tryz.underlying51 (by kernel_rfl) (z:=.string .empty) (bytes:=16) rfl (by decide) (by decide)
def zgg (B ca cb bo cap:Nat) (ops:List Int) (st:List ByteArray) (w:World):Prop :=
 (B<=cb/\B<=ca/\B<=bo)/\(∃v,w.heap[cb]? = some (.cells #[v] 51 (0,0))/\w.ownsRow B 9 1 v st.length (st.map Value.string)) /\
  w.heap[ca]? = some (.cells #[.slice (some ⟨bo,0,none⟩) ops.length cap] 31 (0,0))/\w.heap[bo]? = some (.cells (ops.map (Value.int .i64)).toArray 3 (0,0))
theorem zgg.keep {B ca cb bo cap:Nat} {ops:List Int} (st:List ByteArray) (w w':World) (h:zgg B ca cb bo cap ops st w) (hb:Below w.heap.size w w'):zgg B ca cb bo cap ops st w':=by obtain⟨h0,⟨v,h1,h2⟩,h3,h4⟩:=h;exact⟨h0,⟨v,by rw[hb.block _ (lt_of_block h1)];exact h1,ownsRow_below h2 hb⟩,by rw[hb.block _ (lt_of_block h3)];exact h3,by rw[hb.block _ (lt_of_block h4)];exact h4⟩
theorem zjJ {w:World} {bo:Nat} {ops:List Int} (h:w.heap[bo]? = some (.cells (ops.map (Value.int .i64)).toArray 3 (0,0))) (j:Nat) (hj:j<ops.length):w.cell? ⟨bo,0+j,none⟩=some (.int .i64 (ops.getD j 0)):=by simp[World.cell?,h,hj]
theorem zdt (w:World) (B:Nat) (v:Value) (st:List ByteArray) (x:ByteArray) (hown:w.ownsRow B 9 1 v st.length (st.map Value.string)) (hn:st.length<=1073741824) :
 Calls Tryz.prog 203 #[v,.string x] w λe w'=>e=.returned (.bool (Lib.containsS st x))/\w=w':=by
 obtain⟨a,cap,rfl,hs⟩:=xz hown hn;by_cases h0:st=[]
 ·subst h0;exact(Tryz.slices_Contains_string_empty a cap x w).mono λe w' h=>⟨h.1,h.2.symm⟩
 ·obtain⟨b,off,rfl⟩:=hs.addr.resolve_left (by simpa using h0);have:=Tryz.slices_Contains_string b off st.length cap st x w (Nat.le_refl _) (by omega) (λj hj=>by
   rw[hs.get rfl hj];simp[hj])
  rw[List.take_of_length_le (Nat.le_refl _)]at this;exact this.mono λe w' h=>⟨h.1,h.2.symm⟩
theorem zkR (w0:World) (ca cb bo cap:Nat) (ops:List Int) (hol:0<ops.length/\ops.length<=1000):Y9 256 #[.pointer (some ⟨ca,0,none⟩),.pointer (some ⟨cb,0,none⟩)] w0 (zgg w0.heap.size ca cb bo cap ops) List.length (zii ops):=by
 intro st op n s args a cap' w hroom hI hB hE;have hBA:Below w.heap.size w (w.alloc (.cells #[.int .i64 op,.int .i64 n,.string s,.slice a args.length cap'] 24)):=(Below.refl _ _).alloc (Nat.le_refl _) _;have hI2:=zgg.keep st w _ hI hBA;have HKA:Hid (KT w0.heap.size w (w.alloc (.cells #[.int .i64 op,.int .i64 n,.string s,.slice a args.length cap'] 24))):=KT.of_below hBA;obtain⟨⟨hb1,hb2,hb3⟩,⟨v,hv,hown⟩,hca,hbo⟩:=hI;have cA:∀o,(w.alloc o).cell? ⟨ca,0,none⟩=_:=λo=>(World.cell?_alloc_lt _ _ _ (lt_of_block hca)).trans (cell_of_one hca);have cB:∀o,(w.alloc o).cell? ⟨cb,0,none⟩=_:=λo=>(World.cell?_alloc_lt _ _ _ (lt_of_block hv)).trans (cell_of_one hv);have hci:=Tryz.slices_Contains_int bo 0 ops.length cap ops op (w.alloc (.cells #[.int .i64 op,.int .i64 n,.string s,.slice a args.length cap'] 24)) (Nat.le_refl _) (by omega) (λj hj=>(World.cell?_alloc_lt _ _ _ (lt_of_block hbo)).trans (zjJ hbo j hj));rw[List.take_of_length_le (Nat.le_refl _)]at hci;have HCI:=Lib.hid hci;have HCS:=Lib.hid (zdt _ _ v st s (ownsRow_below hown hBA) (by omega));have HI2:=Lib.hid hI2;have HV:=Lib.hid (⟨hv,hown,hca,hbo,hb1,hb2,hb3⟩:_/\_/\_/\_/\_/\_/\_);clear hI2 hBA hE hci hv hown hca hbo hb1 hb2 hb3 hB;show Calls _ _ #[.agg #[_,_,_,_],.pointer (some ⟨ca,0,none⟩),.pointer (some ⟨cb,0,none⟩)] _ _;go_enter Tryz.func256, Tryz.ntmps256
 go_wp2_with fail;refine HCI.out.mono ?_;rintro e w2 ⟨rfl,rfl⟩;cases hc:ops.contains op
 ·go_wp2_with fail;go_ret;refine⟨rfl,?_,HKA.out⟩;have:zV ops st (.mk op n s args)=st:=by unfold zV;rw[if_neg (by rw[Ex.op_mk,hc];simp)]
  show zgg _ _ _ _ _ _ (zV ops st (.mk op n s args)) _;rw[this];exact HI2.out
 ·cases hs:Lib.containsS st s
  ·have Hc:=Lib.hid hc;have Hs:=Lib.hid hs;clear hs hc;have hO:=ownsRow_below HV.out.2.1 ((Below.refl _ _).alloc (Nat.le_refl _) (.cells #[.int .i64 op,.int .i64 n,.string s,.slice a args.length cap'] 24));have HO:=Lib.hid hO;clear hO;have hroom':st.length<=1073741824:=by omega
   have hsz:w0.heap.size<=w.heap.size:=by have:=HV.out.2.2.2.2.1;have:=lt_of_block HV.out.1;omega
   go_wp2_with (first|(go_at_call 203;refine HCS.out.mono ?_;rintro e w2 ⟨rfl,rfl⟩;rw[Hs.out])|(at_builtin;go_must (refine zhG zjd _ rfl (.tmp 16) (.tmp 19) rfl w0.heap.size v st.length (st.map Value.string) rfl HO.out [.string s] rfl (by simp[Value.oneCell']) _ 1 rfl (by simp) hroom' (by simp;omega) ?_)));intro v' w3 hown3 hg3;have hW:((w.alloc (.cells #[.int .i64 op,.int .i64 n,.string s,.slice a args.length cap'] 24)).alloc (.cells #[.string s] 9)).heap[cb]? = some (.cells #[v] 51 (0,0)):=by rw[Below.heap_alloc _ _ _ (by have:=lt_of_block HV.out.1;simp;omega),Below.heap_alloc _ _ _ (lt_of_block HV.out.1)];exact HV.out.1
   have hne:=zX HV.out.2.1 HV.out.1 (by decide);have h3:w3.heap[cb]? = some (.cells #[v] 51 (0,0)):=(hg3.block _ (lt_of_block hW) hne).trans hW;have c3:=cell_of_one h3;have f3:=free_of_one h3;obtain⟨a3,k3,hv3,_⟩:=xX hown3 (by omega);subst hv3;have H3:=Lib.hid (⟨hown3,hg3,h3,hne⟩:_/\_/\_/\_);clear hown3 hg3 hW hne h3;go_wp2_with fail;go_ret;have hadd:zV ops st (.mk op n s args)=st++[s]:=by unfold zV;rw[if_pos ⟨Hc.out,Hs.out⟩,Ex.name_mk]
   obtain⟨hv,hown,hca,hbo,hb1,hb2,hb3⟩:=HV.out;obtain⟨hown3,hg3,h3,hne⟩:=H3.out;have hB2:Below w.heap.size w ((w.alloc (.cells #[.int .i64 op,.int .i64 n,.string s,.slice a args.length cap'] 24)).alloc (.cells #[.string s] 9)):=((Below.refl _ _).alloc (Nat.le_refl _) _).alloc (by simp) _;have old:∀(k:Nat) (c:Array Value) (t:TypeId),w.heap[k]? = some (.cells c t (0,0))->t≠9->k≠cb->(w3.setCell ⟨cb,0,none⟩ (.slice a3 (st.length+1) k3)).heap[k]? = some (.cells c t (0,0)):=by intro k c t hk ht hkb;have h1:=(hB2.block _ (lt_of_block hk)).trans hk;rw[Below.heap_setCell _ _ _ _ hkb,hg3.block _ (lt_of_block h1) (zX hown hk ht)];exact h1
   refine⟨rfl,?_,?_⟩
   ·show zgg _ _ _ _ _ _ (zV ops st (.mk op n s args)) _;rw[hadd];refine⟨⟨hb1,hb2,hb3⟩,⟨_,one_setCell h3,?_⟩,old _ _ _ hca (by decide) (by rintro rfl;rw[hv]at hca;simp at hca),old _ _ _ hbo (by decide) (by rintro rfl;rw[hv]at hbo;simp at hbo)⟩;have:=ZL hown3 h3 (by decide) 0 (.slice a3 (st.length+1) k3);simpa using this
   ·refine KT.setCell (KT.grown (HKA.out.alloc (.cells #[.string s] 9)) hg3 (λk hk=>by obtain⟨_,_,h⟩:=Zg hown hk;exact h) ?_) h3 (by unfold zbj;decide) hb1 _;intro k c t z hk hh hs;obtain⟨cur,hcur,_⟩:=Zg hown hk;rw[(hB2.block _ (lt_of_block hcur)).trans hcur]at hh;simp only[Option.some.injEq,Obj.cells.injEq]at hh;rw[←hh.2.1]at hs;exact absurd hs (by unfold zbj;decide)
  ·go_wp2_with (go_at_call 203;refine HCS.out.mono ?_;rintro e w2 ⟨rfl,rfl⟩);go_ret;refine⟨rfl,?_,HKA.out⟩;have:zV ops st (.mk op n s args)=st:=by unfold zV;rw[if_neg (by rw[Ex.name_mk,hs];simp)]
   show zgg _ _ _ _ _ _ (zV ops st (.mk op n s args)) _;rw[this];exact HI2.out
theorem zcD (op n:Int) (s:ByteArray) (args:List Ex) (a:Option Addr) (cap bo oc:Nat) (ops:List Int) (w:World) (hE:yY w (.mk op n s args) a cap) (hn:(Ex.mk op n s args).nodes.length<=1073741824)
 (B:Nat) (w0:World) (hw0:B=w0.heap.size) (hW:Below B w0 w) (hbB:B<=bo) (hbo:w.heap[bo]? = some (.cells (ops.map (Value.int .i64)).toArray 3 (0,0))) (hol:0<ops.length/\ops.length<=1000) (hE0:yY w0 (.mk op n s args) a cap) :
 Calls Tryz.prog 219 #[.agg #[.int .i64 op,.int .i64 n,.string s,.slice a args.length cap],.slice (some ⟨bo,0,none⟩) ops.length oc] w λe w' =>
  (∃a' cap',e=.returned (.slice a' (zG ops (.mk op n s args)).length cap')/\zE w' (zG ops (.mk op n s args)) a' cap')/\Below B w0 w':=by
 subst hw0;have hB:Below w.heap.size w (((w.alloc (.cells #[.int .i64 op,.int .i64 n,.string s,.slice a args.length cap] 24)).alloc (.cells #[.slice (some ⟨bo,0,none⟩) ops.length oc] 31)).alloc (.cells #[.slice none 0 0] 51)):=bel;have hws:=hW.size
 have hC:=ze1 (w.heap.size+1) (w.heap.size+1+1) (zgg w0.heap.size (w.heap.size+1) (w.heap.size+1+1) bo oc ops) List.length (zii ops) w0 (λst e=>qT ops st e) zgg.keep (zkR w0 _ _ bo oc ops hol) op n s args [] a cap _ (by simpa using hn)
  ⟨⟨by omega,by omega,hbB⟩,⟨_,zq _ _ _ (by simp),World.ownsRow_nil _ _ _ _⟩,by rw[Below.heap_alloc _ _ _ (by simp)];exact zq _ _ _ (by simp),by rw[hB.block _ (lt_of_block hbo)];exact hbo⟩ (hW.trans (hB.mono hws)) hE0
 rw[runN]at hC;have HB:=Lib.hid hB;have HC:=Lib.hid hC;have HW:=Lib.hid hW;have Hn:=Lib.hid hn;have Hws:=Lib.hid hws;clear hC hB hE hn hW hbo hE0 hbB hws;go_enter Tryz.func219, Tryz.ntmps219;go_wp2_with fail;refine HC.out.mono ?_;rintro e w2 ⟨rfl,hI2,hK2⟩;obtain⟨_,⟨v,hv,hown⟩,_⟩:=hI2;have c0:=cell_of_one hv;have HK2:=Lib.hid hK2;have HO:=Lib.hid hown;clear hK2 hv hown;go_wp2_with fail;go_ret;obtain⟨a',cap',rfl,hs⟩:=xz HO.out (by have:=Zx ops (Ex.mk op n s args).nodes [];have:=Hn.out;simp at *;omega);exact⟨⟨a',cap',rfl,hs⟩,HW.out.trans ((HB.out.mono Hws.out).trans (HK2.out.below (by have:=HB.out.size;have:=Hws.out;omega)))⟩
theorem QH (op n:Int) (s:ByteArray) (args:List Ex) (a:Option Addr) (cap:Nat) (w:World) (hE:yY w (.mk op n s args) a cap) (hn:(Ex.mk op n s args).nodes.length<=1073741824) :
 Calls Tryz.prog 160 #[.agg #[.int .i64 op,.int .i64 n,.string s,.slice a args.length cap]] w λe w' =>
  (∃a' cap',e=.returned (.slice a' (zG [2] (.mk op n s args)).length cap')/\zE w' (zG [2] (.mk op n s args)) a' cap')/\Below w.heap.size w w':=by
 have hB:Below w.heap.size w ((w.alloc (.cells #[.int .i64 op,.int .i64 n,.string s,.slice a args.length cap] 24)).alloc (.cells (([2]:List Int).map (Value.int .i64)).toArray 3)):=bel;have hC:=zcD op n s args a cap (w.heap.size+1) ([2]:List Int).length [2] _ (hE.keep (za hB)) hn _ w rfl hB (by omega) (zq _ _ _ (by simp)) (by decide) hE;have HC:=Lib.hid hC;clear hC hB hE hn;go_enter Tryz.func160, Tryz.ntmps160;go_wp2_with fail;refine HC.out.mono ?_;rintro e w2 ⟨⟨a',cap',rfl,hs⟩,hb⟩;have HS:=Lib.hid (⟨hs,hb⟩:_/\_);clear hs hb;go_wp2_with fail;go_ret;exact⟨⟨a',cap',rfl,HS.out.1⟩,HS.out.2⟩
theorem ze6 (op n:Int) (s:ByteArray) (args:List Ex) (a:Option Addr) (cap:Nat) (w:World) (hE:yY w (.mk op n s args) a cap) (hn:(Ex.mk op n s args).nodes.length<=1073741824) :
 Calls Tryz.prog 161 #[.agg #[.int .i64 op,.int .i64 n,.string s,.slice a args.length cap]] w λe w' =>
  (∃a' cap',e=.returned (.slice a' (zG [3,24] (.mk op n s args)).length cap')/\zE w' (zG [3,24] (.mk op n s args)) a' cap')/\Below w.heap.size w w':=by
 have hB:Below w.heap.size w ((w.alloc (.cells #[.int .i64 op,.int .i64 n,.string s,.slice a args.length cap] 24)).alloc (.cells (([3,24]:List Int).map (Value.int .i64)).toArray 3)):=bel;have hC:=zcD op n s args a cap (w.heap.size+1) ([3,24]:List Int).length [3,24] _ (hE.keep (za hB)) hn _ w rfl hB (by omega) (zq _ _ _ (by simp)) (by decide) hE;have HC:=Lib.hid hC;clear hC hB hE hn;go_enter Tryz.func161, Tryz.ntmps161;go_wp2_with fail;refine HC.out.mono ?_;rintro e w2 ⟨⟨a',cap',rfl,hs⟩,hb⟩;have HS:=Lib.hid (⟨hs,hb⟩:_/\_);clear hs hb;go_wp2_with fail;go_ret;exact⟨⟨a',cap',rfl,HS.out.1⟩,HS.out.2⟩
def Yr (b:Bool):Int:=if b then 1 else 0
def Qa (op a:Int):Int:=if op=4 then Yr (a==0) else if op=5 then zng a else if op=6 then znh a else zhE a
def znf (a b:Int):Int:=((a.toNat &&& b.toNat:Nat):Int)
def orW (a b:Int):Int:=((a.toNat ||| b.toNat:Nat):Int)
def zni (a b:Int):Int:=((a.toNat ^^^ b.toNat:Nat):Int)
def XR (op a b:Int):Int :=
 if op=7 then ziy a b else if op=8 then znA a b else if op=9 then znv a b else if op=10 then znf a b else if op=11 then orW a b else if op=12 then zni a b
 else if op=13 then zmg a b else if op=14 then zmh a b else if op=15 then Yr (a==b) else if op=16 then Yr (a != b) else if op=17 then Yr (decide (a<b)) else if op=18 then Yr (decide (a<=b))
 else if op=19 then Yr (a != 0&&b != 0) else if op=20 then Yr (a != 0||b != 0) else Yr (a==0||b != 0)
theorem zc5 (b:Bool) (w:World):Calls Tryz.prog 293 #[.bool b] w λe w'=>e=.returned (.int .i64 (Yr b))/\w=w':=by
 cases b
 all_goals
  go_enter Tryz.func293, Tryz.ntmps293;go_wp2_with fail;go_ret;exact⟨rfl,rfl⟩
theorem zlm (a b:Int) (ha:0<=a) (ha':a<65536) (hb:0<=b) (hb':b<65536):bits .and .i64 a b=znf a b:=by obtain⟨A,rfl⟩:=Int.eq_ofNat_of_zero_le ha;obtain⟨B,rfl⟩:=Int.eq_ofNat_of_zero_le hb;have h1:bits .and .i64 (A:Int) (B:Int)=IntKind.i64.wrap ((BitVec.ofInt 64 A &&& BitVec.ofInt 64 B).toNat:Int):=rfl;have hl:A &&& B<=A:=Nat.and_le_left;rw[h1,BitVec.toNat_and,ofInt_u64 _ (by omega),ofInt_u64 _ (by omega),IntKind.wrap_i64];unfold znf;simp only[Int.toNat_natCast];omega
theorem zmG (a b:Int) (ha:0<=a) (ha':a<65536) (hb:0<=b) (hb':b<65536):bits .or .i64 a b=orW a b:=by obtain⟨A,rfl⟩:=Int.eq_ofNat_of_zero_le ha;obtain⟨B,rfl⟩:=Int.eq_ofNat_of_zero_le hb;have h1:bits .or .i64 (A:Int) (B:Int)=IntKind.i64.wrap ((BitVec.ofInt 64 A ||| BitVec.ofInt 64 B).toNat:Int):=rfl;have hl:A ||| B<2 ^ 16:=Nat.or_lt_two_pow (by omega) (by omega);rw[h1,BitVec.toNat_or,ofInt_u64 _ (by omega),ofInt_u64 _ (by omega),IntKind.wrap_i64];unfold orW;simp only[Int.toNat_natCast];omega
theorem zln (a b:Int) (ha:0<=a) (ha':a<65536) (hb:0<=b) (hb':b<65536):bits .xor .i64 a b=zni a b:=by obtain⟨A,rfl⟩:=Int.eq_ofNat_of_zero_le ha;obtain⟨B,rfl⟩:=Int.eq_ofNat_of_zero_le hb;have h1:bits .xor .i64 (A:Int) (B:Int)=IntKind.i64.wrap ((BitVec.ofInt 64 A ^^^ BitVec.ofInt 64 B).toNat:Int):=rfl;have hl:A ^^^ B<2 ^ 16:=Nat.xor_lt_two_pow (by omega) (by omega);rw[h1,BitVec.toNat_xor,ofInt_u64 _ (by omega),ofInt_u64 _ (by omega),IntKind.wrap_i64];unfold zni;simp only[Int.toNat_natCast];omega
theorem zf8 (op a:Int) (w:World):Calls Tryz.prog 279 #[.int .i64 op,.int .i64 a] w λe w'=>e=.returned (.int .i64 (Qa op a))/\Below w.heap.size w w':=by
 have HS:Hid (Qa op a=if op=4 then Yr (a==0) else if op=5 then zng a else if op=6 then znh a else zhE a):=rfl;go_enter Tryz.func279, Tryz.ntmps279;go_wp2_with (first|(go_at_call 293;refine(zc5 _ _).mono ?_;rintro e w' ⟨rfl,rfl⟩)|(go_at_call 294;refine(ziF _ _).mono ?_;rintro e w' ⟨rfl,rfl⟩)|(go_at_call 295;refine(ziH _ _).mono ?_;rintro e w' ⟨rfl,rfl⟩)|(go_at_call 296;go_must (refine(fr (W0:=w) (B:=w.heap.size) (zgu _ _) bel sz).mono ?_;rintro e w1 ⟨rfl,hc1,hf1,hz1,hb1⟩;try simp only[World.size_alloc,World.size_setCell,World.size_drew,World.heap_drewN]at hz1;try (have hzl0:w.heap.size<w1.heap.size:=by omega);try (have hzl1:w.heap.size+1<w1.heap.size:=by omega);try (have hzl2:w.heap.size+2<w1.heap.size:=by omega);try (have hzl3:w.heap.size+3<w1.heap.size:=by omega);try (have hzl4:w.heap.size+4<w1.heap.size:=by omega);try (have hzl5:w.heap.size+5<w1.heap.size:=by omega))));all_goals go_ret
 all_goals refine⟨?_,bel⟩
 all_goals rw[HS.out]
 all_goals simp_all
theorem zfs (op a b:Int) (ha:0<=a) (ha':a<65536) (hb:0<=b) (hb':b<65536) (w:World):Calls Tryz.prog 280 #[.int .i64 op,.int .i64 a,.int .i64 b] w λe w'=>e=.returned (.int .i64 (XR op a b))/\w=w':=by
 have h1:=zlm a b ha ha' hb hb';have h2:=zmG a b ha ha' hb hb';have h3:=zln a b ha ha' hb hb';go_enter Tryz.func280, Tryz.ntmps280;go_wp2_with (first|(go_at_call 293;refine(zc5 _ _).mono ?_;rintro e w' ⟨rfl,rfl⟩)|(go_at_call 278;refine(zed _ _ _).mono ?_;rintro e w' ⟨rfl,rfl⟩)|(go_at_call 297;refine(ziK _ _ _).mono ?_;rintro e w' ⟨rfl,rfl⟩)|(go_at_call 298;refine(ziG _ _ _).mono ?_;rintro e w' ⟨rfl,rfl⟩)|(go_at_call 299;refine(ziI _ _ _).mono ?_;rintro e w' ⟨rfl,rfl⟩)|(go_at_call 300;refine(ziJ _ _ _).mono ?_;rintro e w' ⟨rfl,rfl⟩));all_goals go_ret
 all_goals refine⟨?_,rfl⟩
 all_goals congr 2
 all_goals unfold XR
 all_goals simp_all
 rename_i h;have h':(a != 0)=true:=by simpa using h
 rw[h',Bool.true_or]
end Go.Proofs.YthojpomoflhbcaaGreatDoor
