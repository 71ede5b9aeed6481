/- law08: count, Few, for automata. -/
import Derived.Test.YthojpomoflhbcaaGreatDoorQ30
import Derived.Test.YthojpomoflhbcaaGreatDoorQ10
import Derived.Deep.AppendLies
import Derived.Test.YthojpomoflhbcaaGreatDoorQ05
set_option maxRecDepth 100000
set_option maxHeartbeats 8000000
set_option linter.unusedSimpArgs false
set_option linter.unusedVariables false
set_option linter.unnecessarySimpa false
namespace Go.Proofs.YthojpomoflhbcaaGreatDoor
open Go.RowKit
theorem znn {w W:World} (o:Obj) (hW:Below (w.heap.size+1) (w.alloc o) W):Below w.heap.size w W:=((Below.refl _ _).alloc (Nat.le_refl _) _).trans (hW.mono (by simp))
theorem zgG {w wr:World} {c:Array Value} {t:TypeId} (h:Below (w.heap.size+1) (w.alloc (.cells c t)) wr) (j:Nat):wr.cell? ⟨w.heap.size,j,none⟩=c[j]? :=
 (h.cell (p:=⟨w.heap.size,j,none⟩) (by simp)).trans (by simp)
noncomputable def zlH (l:List Ex) (k:Nat):Nat:=1+(((l.take k).map Ex.nodes).flatten).length
theorem zhS (l:List Ex) {k:Nat} (h:k<l.length):zlH l (k+1)=zlH l k+(l[k]'h).nodes.length:=by unfold zlH;rw[List.take_succ_eq_append_getElem h];simp only[List.map_append,List.map_cons,List.map_nil,List.flatten_append,List.length_append,List.flatten_cons,List.flatten_nil,List.append_nil];omega
theorem zjM (e:Ex):zlH e.args e.args.length=e.nodes.length:=by unfold zlH;rw[Ex.nodes_eq e,List.take_of_length_le (Nat.le_refl _)];simp only[List.length_cons];omega
def Qw (e:Ex) (n:Int) (r:Ending):Prop:=∃c:Int,r=.returned (.int .i64 c)/\1<=c/\c<=n+1/\(c<=n->c=e.nodes.length)
theorem zgQ (e:Ex):∀(n:Int) (a:Option Addr) (cap:Nat) (w:World),yY w e a cap->0<=n->n<=1000 ->
 Calls Tryz.prog 101 #[.agg #[.int .i64 e.op,.int .i64 e.n,.string e.name,.slice a e.args.length cap],.int .i64 n] w λr w'=>Qw e n r/\Below w.heap.size w w':=by
 induction e using Ex.ind with
 |_ e ih =>
  intro n a cap w hE h0 h1;have HE:=Lib.hid hE.2;have HA:=Lib.hid hE.2.addr;have hlen:=hE.2.2.1;have HI:=Lib.hid ih;have HAll:=Lib.hid (zjM e);have HSu:=Lib.hid (λk (h:k<e.args.length)=>zhS e.args h);have HMem:Hid (∀k (h:k<e.args.length),(e.args[k]'h)∈e.args):=λk h=>List.getElem_mem h;clear ih hE;unfold Qw;generalize e.nodes.length=N at HAll⊢;obtain⟨op,nn,s,args⟩:=e;simp only[Ex.op_mk,Ex.n_mk,Ex.name_mk,Ex.args_mk]at HE HA hlen HI HAll HSu HMem⊢;go_enter Tryz.func101, Tryz.ntmps101;go_wp2_with fail;go_loopw [6,5] (λi k wr=>∃(j:Nat) (c:Int),i=.int .i64 j/\k=.int .i64 c/\j<=args.length/\1<=c/\c<=n+1/\Hid (c<=n->c=zlH args j)/\Hid (Below (w.heap.size+1) (w.alloc (.cells #[.int .i64 op,.int .i64 nn,.string s,.slice a args.length cap] 24)) wr)) (λi _ _=>args.length-(intOf i).toNat);case atStart=>exact⟨0,1,rfl,rfl,Nat.zero_le _,by omega,by omega,λ_=>by simp[zlH],Below.refl _ _⟩
  case round =>
   obtain⟨j,c,rfl,rfl,hj,hc1,hc2,HP,HB⟩:=hrel;have HBw:=Lib.hid (znn _ HB.out);have hzr:=HB.out.size;simp only[World.size_alloc]at hzr;have hzl:w.heap.size<wr.heap.size:=by omega
   have b0:=zgG HB.out 3
   (try simp at b0)
   by_cases hlt:j<args.length
   ·by_cases hcn:c<=n
    ·have hd:decide (c<=n)=true:=decide_eq_true hcn;obtain⟨b,off,ha⟩:=HA.out.resolve_left (by omega);subst ha;obtain⟨a',cap',g0,g1,g2,g3,hX⟩:=HE.out.get rfl hlt;have kk:=za HBw.out;have HC:=Lib.hid (HI.out _ (HMem.out j hlt) (n-c) a' cap' wr (hX.keep kk) (by omega) (by omega));have HPs:=Lib.hid (HSu.out j hlt);have HP':=Lib.hid (HP.out hcn);generalize (args[j]'hlt)=e at g0 g1 g2 g3 hX HC HPs;obtain⟨op',n',s',args'⟩:=e;unfold Qw at HC;generalize (Ex.mk op' n' s' args').nodes.length=M at HC HPs;simp only[Ex.op_mk,Ex.n_mk,Ex.name_mk,Ex.args_mk]at g0 g1 g2 g3 HC;have c0:=kk _ _ g0;have c1:=kk _ _ g1;have c2:=kk _ _ g2;have c3:=kk _ _ g3;clear g0 g1 g2 g3 hX kk;go_wp2_with fail;refine HC.out.mono ?_;rintro r w2 ⟨⟨d,rfl,hd1,hd2,hd3⟩,hb2⟩;have HD:=Lib.hid hd3;have HB2:Hid (Below (w.heap.size+1) (w.alloc (.cells #[.int .i64 op,.int .i64 nn,.string s,.slice (some ⟨b,off,none⟩) args.length cap] 24)) w2):=HB.out.trans (hb2.mono (by simpa using hzr));clear hb2 c0 c1 c2 c3 b0 hd3 hd;go_wp2_with fail;go_roundw;case rel=>exact⟨j+1,c+d,by go_num,rfl,by omega,by omega,by omega,(λh=>by rw[HD.out (by omega),HP'.out,HPs.out];omega),HB2.out⟩
     case measure=>simp[intOf];omega
    ·have hd:decide (c<=n)=false:=decide_eq_false hcn;go_wp2_with fail;go_ret;exact⟨⟨c,rfl,hc1,hc2,λh=>absurd h (by omega)⟩,HBw.out⟩
   ·obtain rfl:j=args.length:=by omega
    go_wp2_with fail;go_ret;exact⟨⟨c,rfl,hc1,hc2,λh=>by rw[HP.out h,HAll.out]⟩,HBw.out⟩
theorem zkS (e:Ex) (n:Int) (a:Option Addr) (cap:Nat) (w:World) (hE:yY w e a cap) (h0:0<=n) (h1:n<=1000) :
 Calls Tryz.prog 47 #[.agg #[.int .i64 e.op,.int .i64 e.n,.string e.name,.slice a e.args.length cap],.int .i64 n] w λr w'=>(∃b:Bool,r=.returned (.bool b)/\(b=true->(e.nodes.length:Int)<=n))/\Below w.heap.size w w':=by
 have hB:Below w.heap.size w (w.alloc (.cells #[.int .i64 e.op,.int .i64 e.n,.string e.name,.slice a e.args.length cap] 24)):=(Below.refl _ _).alloc (Nat.le_refl _) _;have HC:=Lib.hid (zgQ e n a cap _ (hE.keep (za hB)) h0 h1);have HB:=Lib.hid hB;clear hE hB;unfold Qw at HC;generalize e.nodes.length=N at HC⊢;obtain⟨op,nn,s,args⟩:=e;simp only[Ex.op_mk,Ex.n_mk,Ex.name_mk,Ex.args_mk]at HC HB⊢;go_enter Tryz.func47, Tryz.ntmps47;go_wp2_with fail;refine HC.out.mono ?_;rintro r w2 ⟨⟨d,rfl,hd1,hd2,hd3⟩,hb2⟩;have HD:=Lib.hid hd3;have HB2:Hid (Below w.heap.size w w2):=HB.out.trans (hb2.mono (by simp));clear hb2 hd3;go_wp2_with fail;go_ret;exact⟨⟨_,rfl,λh=>by have h':=of_decide_eq_true h;rw[←HD.out h'];exact h'⟩,HB2.out⟩
attribute [local go_sem ↓] Go.wp_at_zero Go.wp_at_succ
noncomputable def Qp (l:List Tq) (k:Nat):Nat:=1+((l.take k).map Tq.nodes).sum
theorem Ym (l:List Tq) {k:Nat} (h:k<l.length):Qp l (k+1)=Qp l k+(l[k]'h).nodes:=by unfold Qp;rw[List.take_succ_eq_append_getElem h];simp only[List.map_append,List.map_cons,List.map_nil,List.sum_append,List.sum_cons,List.sum_nil];omega
theorem QD (s:Tq):Qp s.args s.args.length=s.nodes:=by unfold Qp;rw[Tq.nodes_eq s,List.take_of_length_le (Nat.le_refl _)]
def Z5 (s:Tq) (n:Int) (r:Ending):Prop:=∃c:Int,r=.returned (.int .i64 c)/\1<=c/\c<=n+1/\(c<=n->c=s.nodes/\SmT s)
theorem zfq (s:Tq):∀(n:Int) (ae:Option Addr) (ce:Nat) (a:Option Addr) (cap:Nat) (w:World),Zr w s ae ce a cap->0<=n->n<=1000 ->
 Calls Tryz.prog 40 #[ym s ae ce a cap,.int .i64 n] w λr w'=>Z5 s n r/\Below w.heap.size w w':=by
 induction s using Tq.ind with
 |h s ih =>
  intro n ae ce a cap w hX h0 h1;have HFw:Hid (∀W,Below w.heap.size w W->Calls Tryz.prog 47 #[.agg #[.int .i64 s.expr.op,.int .i64 s.expr.n,.string s.expr.name,.slice ae s.expr.args.length ce],.int .i64 40] W λr w'=>(∃b:Bool,r=.returned (.bool b)/\(b=true->(s.expr.nodes.length:Int)<=40))/\Below W.heap.size W w'):=λW hW=>zkS s.expr 40 ae ce W (hX.ex.keep (za hW)) (by omega) (by omega);have HAr:=Lib.hid hX.ar;have HAa:Hid (s.args.length=0\/∃b off,a=some ⟨b,off,none⟩):=zr.addr hX.ar;have hlen:=hX.ar.2.1;have hnm:=hX.nm;have HI:Hid (∀k (hk:k<s.args.length) n ae ce a cap w,Zr w (s.args[k]'hk) ae ce a cap->0<=n->n<=1000->Calls Tryz.prog 40 #[ym (s.args[k]'hk) ae ce a cap,.int .i64 n] w λr w'=>Z5 (s.args[k]'hk) n r/\Below w.heap.size w w'):=λk hk=>ih _ (List.getElem_mem hk);have HAll:Hid (Qp s.args s.args.length=s.nodes):=QD s;have HSu:Hid (∀k (h:k<s.args.length),Qp s.args (k+1)=Qp s.args k+(s.args[k]'h).nodes):=λk h=>Ym s.args h;have HSm:Hid (s.expr.nodes.length<=1000000000->(∀j (hj:j<s.args.length),SmT (s.args[j]'hj))->SmT s):=λh1 h2=>(QI s).2 ⟨h1,λx hx=>by obtain⟨j,hj,rfl⟩:=List.getElem_of_mem hx;exact h2 j hj⟩;have HPo:Hid (∀c:Int,1<=c->c<=n+1->(c<=n->c=s.nodes/\SmT s)->∀W,Below w.heap.size w W->(λr w'=>Z5 s n r/\Below w.heap.size w w') (.returned (.int .i64 c)) W):=λc a1 a2 a3 W hW=>⟨⟨c,rfl,a1,a2,a3⟩,hW⟩
  generalize (λr w'=>Z5 s n r/\Below w.heap.size w w')=Po at HPo⊢;rw[zo];clear ih hX;have hpre0:Qp s.args 0=1:=by unfold Qp;simp
  go_enter Tryz.func40, Tryz.ntmps40;go_upto_region 1 with fail;generalize hW2:World.alloc w _=W2;have HB2:Hid (Below w.heap.size w W2):=by show Below _ _ _;rw[←hW2];exact(Below.refl _ _).alloc (Nat.le_refl _) _
  have HX2:Hid (W2.heap[w.heap.size]? = some (ye s ae ce a cap)):=by show _=_;rw[←hW2];exact zh rfl
  have hz2:w.heap.size+1<=W2.heap.size:=by rw[←hW2];simp
  clear hW2;obtain⟨b0,b1,b2,b3,b4,b5,b6,b7,b8⟩:=zt HX2.out;have HF2:=Lib.hid (HFw.out W2 HB2.out);have HXw:Hid (∀W,Below W2.heap.size W2 W->W.heap[w.heap.size]? = some (ye s ae ce a cap)):=λW hW=>(hW.block _ (by omega)).trans HX2.out;have hwn:IntKind.i64.wrap (n+1)=n+1:=by rw[IntKind.wrap_i64];omega
  go_wp2_with fail;refine HF2.out.mono ?_;rintro r w3 ⟨⟨b,rfl,hfew⟩,hb3⟩;have HB3:Hid (Below w.heap.size w w3):=HB2.out.trans (hb3.mono HB2.out.size);have HBy3:Hid (Below W2.heap.size W2 w3):=hb3;obtain⟨-,-,-,-,-,-,-,c7,c8⟩:=zt (HXw.out w3 hb3);have HFew:=Lib.hid hfew;clear hb3 hfew b0 b1 b2 b3 b4 b5 b6 b7 b8 HF2 HFw;cases b with
  |false =>have HE:=Lib.hid (HPo.out (n+1) (by omega) (by omega) (λh=>absurd h (by omega)) w3 HB3.out);go_wp2_with fail;first|exact HE.out|(go_ret2;exact HE.out)
  |true =>
   by_cases hs40:s.name.size<=40
   ·have hsI:¬((40:Int)<(s.name.size:Int)):=by omega
    go_wp2_with fail;clear c7 c8;go_loopw [6,5] (λi k wr=>∃(j:Nat) (c:Int),i=.int .i64 j/\k=.int .i64 c/\j<=s.args.length/\1<=c/\c<=n+1/\Hid (c<=n->c=Qp s.args j/\∀q (hq:q<s.args.length),q<j->SmT (s.args[q]'hq))/\Hid (Below W2.heap.size W2 wr)) (λi _ _=>s.args.length-(intOf i).toNat);case atStart=>exact⟨0,1,rfl,rfl,Nat.zero_le _,by omega,by omega,λ_=>⟨by rw[hpre0];rfl,λq _ h=>absurd h (by omega)⟩,HBy3.out⟩
    case round =>
     (try rename World=>wr)
     obtain⟨j,c,rfl,rfl,hj,hc1,hc2,HP,HB⟩:=hrel;have HBw:Hid (Below w.heap.size w wr):=HB2.out.trans (HB.out.mono HB2.out.size);have hzr:=HB.out.size;obtain⟨-,-,-,-,-,-,-,-,b8⟩:=zt (HXw.out wr HB.out);by_cases hlt:j<s.args.length
     ·by_cases hcn:c<=n
      ·have hd:decide (c<=n)=true:=decide_eq_true hcn;obtain⟨b,off,ha⟩:=HAa.out.resolve_left (by omega);subst ha;obtain⟨ae',ce',a',cap',hcell,hX⟩:=(HAr.out.keep (za HBw.out)).get rfl hlt;have HC:=HI.out j hlt (n-c) ae' ce' a' cap' wr hX (by omega) (by omega);have HPs:=Lib.hid (HSu.out j hlt);have HP':=HP.out hcn;have HNx:Hid (SmT (s.args[j]'hlt)->∀q (hq:q<s.args.length),q<j+1->SmT (s.args[q]'hq)):=λh q hq hqj=>by
        by_cases e:q=j
        ·subst e;exact h
        ·exact HP'.2 q hq (by omega)
       have HP1:=Lib.hid HP'.1;generalize (s.args[j]'hlt)=t at hcell hX HC HPs HNx;rw[zo]at HC;have HC2:=Lib.hid HC;obtain⟨g0,g1,g2,g3,g4,g5,g6,g7,g8⟩:=Zu hcell;have hwc:IntKind.i64.wrap (n-c)=n-c:=by rw[IntKind.wrap_i64];omega
       clear HC hcell hX HP';go_wp2_with fail;refine HC2.out.mono ?_;rintro r w5 ⟨⟨d,rfl,hd1,hd2,hd3⟩,hb5⟩;have HD:=Lib.hid hd3;have HB5:Hid (Below W2.heap.size W2 w5):=HB.out.trans (hb5.mono hzr);clear hb5 g0 g1 g2 g3 g4 g5 g6 g7 g8 b8 hd3 hd HC2;go_wp2_with fail;go_roundw;case rel=>exact⟨j+1,c+d,by go_num,rfl,by omega,by omega,by omega,(λh=>by obtain⟨e1,e2⟩:=HD.out (by omega);exact⟨by rw[HPs.out,e1,HP1.out];omega,HNx.out e2⟩),HB5.out⟩
       case measure=>(simp[intOf];try omega)
      ·have hd:decide (c<=n)=false:=decide_eq_false hcn;have HE:=Lib.hid (HPo.out c hc1 hc2 (λh=>absurd h hcn) wr HBw.out);go_wp2_with fail;first|exact HE.out|(go_ret2;exact HE.out)
     ·obtain rfl:j=s.args.length:=by omega
      have HE:=Lib.hid (HPo.out c hc1 hc2 (λh=>by obtain⟨e1,e2⟩:=HP.out h;exact⟨by rw[e1,HAll.out],HSm.out (by have:=HFew.out (by first|rfl|trivial);omega) λq hq=>e2 q hq hq⟩) wr HBw.out);go_wp2_with fail;first|exact HE.out|(go_ret2;exact HE.out)
   ·have HE:=Lib.hid (HPo.out (n+1) (by omega) (by omega) (λh=>absurd h (by omega)) w3 HB3.out);have hsI:((40:Int)<(s.name.size:Int)):=by omega
    go_wp2_with fail;first|exact HE.out|(go_ret2;exact HE.out)
def ziB (s:Tq) (w:World) (r:Ending) (w':World):Prop:=(∃b:Bool,r=.returned (.bool b)/\(b=true->s.nodes<=24/\SmT s))/\Below w.heap.size w w'
theorem zjk (s:Tq) (ae:Option Addr) (ce:Nat) (a:Option Addr) (cap:Nat) (w:World) (hX:Zr w s ae ce a cap) :
 Calls Tryz.prog 11 #[ym s ae ce a cap] w (ziB s w):=by
 have HC:Hid (∀W,Below w.heap.size w W->Calls Tryz.prog 40 #[ym s ae ce a cap,.int .i64 24] W λr w'=>Z5 s 24 r/\Below W.heap.size W w'):=λW hW=>zfq s 24 ae ce a cap W (hX.keep (za hW)) (by omega) (by omega);have HPo:Hid (∀c:Int,(c<=24->c=s.nodes/\SmT s)->∀W,Below w.heap.size w W->ziB s w (.returned (.bool (decide (c<=24)))) W):=λc a1 W hW=>⟨⟨_,rfl,λh=>by have h2:=of_decide_eq_true h;obtain⟨e1,e2⟩:=a1 h2;exact⟨by omega,e2⟩⟩,hW⟩;generalize ziB s w=Po at HPo⊢;rw[zo]at HC⊢;clear hX;go_enter Tryz.func11, Tryz.ntmps11;go_upto_region 1 with fail;generalize hW2:World.alloc w _=W2;have HB2:Hid (Below w.heap.size w W2):=by show Below _ _ _;rw[←hW2];exact(Below.refl _ _).alloc (Nat.le_refl _) _
 have HX2:W2.heap[w.heap.size]? = some (ye s ae ce a cap):=by rw[←hW2];exact zh rfl
 clear hW2;obtain⟨b0,b1,b2,b3,b4,b5,b6,b7,b8⟩:=zt HX2;have HC2:=Lib.hid (HC.out W2 HB2.out);go_wp2_with fail;refine HC2.out.mono ?_;rintro r w5 ⟨⟨d,rfl,hd1,hd2,hd3⟩,hb5⟩;have HE:=Lib.hid (HPo.out d hd3 w5 (HB2.out.trans (hb5.mono HB2.out.size)));clear hb5 hd3 HC2 b0 b1 b2 b3 b4 b5 b6 b7 b8;go_wp2_with fail;first|exact HE.out|(go_ret2;exact HE.out)
theorem zh6 (x:Ex) (a:Option Addr) (c:Nat) (w:World):Calls Tryz.prog 213 #[yu x a c] w λe w'=>e=.returned (.bool (YK x))/\Below w.heap.size w w':=by
 obtain⟨op,n,s,args⟩:=x;have e:YK (.mk op n s args)=decide (op=0/\n=0/\s.size=0/\args.length=0):=rfl;rw[e];unfold yu;simp only[Ex.op_mk,Ex.n_mk,Ex.name_mk,Ex.args_mk];generalize args.length=m;clear e;by_cases h1:op=0
 ·subst h1;by_cases h2:n=0
  ·subst h2;by_cases h3:s.size=0
   ·have hs:s=⟨#[]⟩:=by
     have:s.data.size=0:=h3;exact ByteArray.ext (Array.eq_empty_of_size_eq_zero this)
    subst hs;by_cases h4:m=0
    ·subst h4;go_enter Tryz.func213, Tryz.ntmps213;go_wp2_with fail;go_ret;exact⟨rfl,bel⟩
    ·go_enter Tryz.func213, Tryz.ntmps213;go_wp2_with fail;go_ret;exact⟨by simp[h4],bel⟩
   ·have hs:¬s.toList=[]:=λh=>h3 (by
     have:s.toList.length=0:=by rw[h];rfl
     rwa [ByteArray.toList_eq,Array.length_toList]at this)
    have hsb:(s.toList==[])=false:=by simpa using hs
    go_enter Tryz.func213, Tryz.ntmps213;go_wp2_with fail;go_ret;exact⟨by simp[h3],bel⟩
  ·go_enter Tryz.func213, Tryz.ntmps213;go_wp2_with fail;go_ret;exact⟨by simp[h2],bel⟩
 ·go_enter Tryz.func213, Tryz.ntmps213;go_wp2_with fail;go_ret;exact⟨by simp[h1],bel⟩
theorem zco:∀(l:List Nat) (m b:Nat),l.foldl max m<=b<->m<=b/\∀x∈l,x<=b
 | [],m,b=>by simp
 |a::l,m,b=>by
  rw[List.foldl_cons,zco l];constructor
  ·rintro ⟨h1,h2⟩;exact⟨by omega,λx hx=>by
    rcases List.mem_cons.1 hx with rfl|h;· omega
    ·exact h2 x h⟩
  ·rintro ⟨h1,h2⟩;have:=h2 a (by simp);exact⟨by omega,λx hx=>h2 x (by simp[hx])⟩
theorem xV (s:Tq) (b:Nat):s.depth<=b+1<->∀a∈s.args,a.depth<=b:=by
 rw[Tq.depth_eq];have h:=zco (s.args.map Tq.depth) 0 b;constructor
 ·intro h1 a ha;exact(h.1 (by omega)).2 _ (List.mem_map.2 ⟨a,ha,rfl⟩)
 ·intro h1;have:=h.2 ⟨Nat.zero_le _,λx hx=>by obtain⟨a,ha,rfl⟩:=List.mem_map.1 hx;exact h1 a ha⟩;omega
theorem zhT (l:List Tq):∀(d k:Nat),k+d<=l.length->Qp l k<=Qp l (k+d):=by
 intro d
 induction d with
 |zero=>intro k _;exact Nat.le_refl _
 |succ d ih =>intro k h;have h1:=ih k (by omega);have h2:=Ym l (k:=k+d) (by omega);have h3:Qp l (k+d+1)=Qp l (k+(d+1)):=rfl;omega
noncomputable def zaD (s:Tq) (n d:Int):Int:=if n<s.nodes\/d<s.depth then -1 else n-s.nodes
theorem zeP (s:Tq):∀(n d:Int) (p:Nat->Bool) (ae:Option Addr) (ce:Nat) (a:Option Addr) (cap:Nat) (w:World),Zr (World.hide w p) s ae ce a cap->(∀j,p j=true->j<w.heap.size)->0<=n->n<=1000->0<=d->d<=1000 ->
 Calls Tryz.prog 91 #[ym s ae ce a cap,.int .i64 n,.int .i64 d] w λr w'=>r=.returned (.int .i64 (zaD s n d))/\Below w.heap.size w w':=by
 induction s using Tq.ind with
 |h s ih =>
  intro n d p ae ce a cap w hX hp h0 h1 hd0 hd1;have HAr:=Lib.hid hX.ar;have HAa:Hid (s.args.length=0\/∃b off,a=some ⟨b,off,none⟩):=zr.addr hX.ar;have hlen:=hX.ar.2.1;have hpos:=Yq s;have HI:Hid (∀k (hk:k<s.args.length) n d (xe:Option Addr) (xc:Nat) (xa:Option Addr) (xk:Nat) W,Zr (World.hide W p) (s.args[k]'hk) xe xc xa xk->Below w.heap.size w W->0<=n->n<=1000->0<=d->d<=1000->Calls Tryz.prog 91 #[ym (s.args[k]'hk) xe xc xa xk,.int .i64 n,.int .i64 d] W λr w'=>r=.returned (.int .i64 (zaD (s.args[k]'hk) n d))/\Below W.heap.size W w'):=λk hk n d xe xc xa xk W hx hW=>ih _ (List.getElem_mem hk) n d p xe xc xa xk W hx λj hj=>by have:=hp j hj;have:=hW.size;omega
  have HAll:Hid (Qp s.args s.args.length=s.nodes):=QD s;have HSu:Hid (∀k (h:k<s.args.length),Qp s.args (k+1)=Qp s.args k+(s.args[k]'h).nodes):=λk h=>Ym s.args h;have HLe:Hid (∀k,k<=s.args.length->Qp s.args k<=s.nodes):=λk h=>by have e:=zhT s.args (s.args.length-k) k (by omega);rw[show k+(s.args.length-k)=s.args.length from by omega,QD]at e;exact e
  have HDe:Hid (∀k (h:k<s.args.length),(s.args[k]'h).depth+1<=s.depth):=λk h=>by
   have e:=(xV s (s.depth-1)).1 (by omega) _ (List.getElem_mem h);have:1<=s.depth:=by rw[Tq.depth_eq];omega
   omega
  have hdp:1<=s.depth:=by rw[Tq.depth_eq];omega
  have HDa:Hid (1<=d->(∀q (h:q<s.args.length),((s.args[q]'h).depth:Int)<=d-1)->(s.depth:Int)<=d):=λh1 h2=>by
   have:=(xV s (d.toNat-1)).2 λx hx=>by obtain⟨q,hq,rfl⟩:=List.getElem_of_mem hx;have:=h2 q hq;omega
   omega
  have HR1:Hid (n<s.nodes\/d<s.depth->zaD s n d=-1):=λh=>if_pos h;have HR2:Hid (¬(n<s.nodes\/d<s.depth)->zaD s n d=n-s.nodes):=λh=>if_neg h;generalize zaD s n d=R at HR1 HR2⊢;have hpre0:Qp s.args 0=1:=by unfold Qp;simp
  rw[zo];clear ih hX hp;go_enter Tryz.func91, Tryz.ntmps91;go_upto_region 1 with fail;generalize hW2:World.alloc w _=W2;have HB2:Hid (Below w.heap.size w W2):=by show Below _ _ _;rw[←hW2];exact(Below.refl _ _).alloc (Nat.le_refl _) _
  have HX2:Hid (W2.heap[w.heap.size]? = some (ye s ae ce a cap)):=by show _=_;rw[←hW2];exact zh rfl
  have hz2:w.heap.size+1<=W2.heap.size:=by rw[←hW2];simp
  clear hW2;have HXw:Hid (∀W,Below W2.heap.size W2 W->W.heap[w.heap.size]? = some (ye s ae ce a cap)):=λW hW=>(hW.block _ (by omega)).trans HX2.out;by_cases hn1:n<1
  ·obtain rfl:=HR1.out (Or.inl (by omega));go_wp2_with fail;go_ret;exact⟨rfl,HB2.out⟩
  by_cases hdd:d<1
  ·obtain rfl:=HR1.out (Or.inr (by omega));go_wp2_with fail;go_ret;exact⟨rfl,HB2.out⟩
  have hwn:IntKind.i64.wrap (n-1)=n-1:=by rw[IntKind.wrap_i64];omega
  go_wp2_with fail;go_loopw [7,1] (λi c wr=>∃(j:Nat) (m:Int),i=.int .i64 j/\c=.int .i64 m/\j<=s.args.length/\0<=m/\m<=n/\Hid (m=n-Qp s.args j/\∀q (hq:q<s.args.length),q<j->((s.args[q]'hq).depth:Int)<=d-1)/\Hid (Below W2.heap.size W2 wr)) (λi _ _=>s.args.length-(intOf i).toNat);case atStart=>exact⟨0,n-1,rfl,by first|rfl|rw[hwn],Nat.zero_le _,by omega,by omega,⟨by rw[hpre0];rfl,λq _ h=>absurd h (by omega)⟩,Below.refl _ _⟩
  case round =>
   (try rename World=>wr)
   obtain⟨j,m,rfl,rfl,hj,hm0,hm1,HP,HB⟩:=hrel;have HBw:Hid (Below w.heap.size w wr):=HB2.out.trans (HB.out.mono HB2.out.size);have hzr:=HB.out.size;obtain⟨-,-,-,-,-,-,-,-,b8⟩:=zt (HXw.out wr HB.out);by_cases hlt:j<s.args.length
   ·obtain⟨b,off,ha⟩:=HAa.out.resolve_left (by omega);subst ha;obtain⟨xe,xc,xa,xk,hcell,hX⟩:=(qL.keep (w':=World.hide wr p) (zg HBw.out λ_ _ h=>h) HAr.out).get rfl hlt;have HC:=HI.out j hlt m (d-1) xe xc xa xk wr hX HBw.out hm0 (by omega) (by omega) (by omega);have HPs:=Lib.hid (HSu.out j hlt);have HLs:=Lib.hid (HLe.out (j+1) (by omega));have HDs:=Lib.hid (HDe.out j hlt);have HNx:Hid (((s.args[j]'hlt).depth:Int)<=d-1->∀q (hq:q<s.args.length),q<j+1->((s.args[q]'hq).depth:Int)<=d-1):=λh q hq hqj=>by
     by_cases e:q=j
     ·subst e;exact h
     ·exact HP.out.2 q hq (by omega)
    have HP1:=Lib.hid HP.out.1;obtain⟨g0,g1,g2,g3,g4,g5,g6,g7,g8⟩:=Zu hcell;have f0:=zb _ _ g0;have f1:=zb _ _ g1;have f2:=zb _ _ g2;have f3:=zb _ _ g3;have f4:=zb _ _ g4;have f5:=zb _ _ g5;have f6:=zb _ _ g6;have f7:=zb _ _ g7;have f8:=zb _ _ g8;clear g0 g1 g2 g3 g4 g5 g6 g7 g8 hcell hX;generalize (s.args[j]'hlt)=t at f0 f1 f2 f3 f4 f5 f6 f7 f8 HC HPs HDs HNx;rw[zo]at HC;have hT1:(m<t.nodes\/d-1<t.depth)->zaD t m (d-1)=-1:=λh=>if_pos h;have hT2:¬(m<t.nodes\/d-1<t.depth)->zaD t m (d-1)=m-t.nodes:=λh=>if_neg h;have hwd:IntKind.i64.wrap (d-1)=d-1:=by rw[IntKind.wrap_i64];omega
    by_cases hbad:m<t.nodes\/d-1<t.depth
    ·rw[hT1 hbad]at HC;have HC2:=Lib.hid HC;obtain rfl:=HR1.out (by
      have e1:=HP1.out;have e2:=HPs.out;have e3:=HLs.out;have e4:=HDs.out;omega)
     clear HC hT1 hT2;go_wp2_with fail;refine HC2.out.mono ?_;rintro r w5 ⟨rfl,hb5⟩;have HE:=Lib.hid (HBw.out.trans (hb5.mono HBw.out.size));clear hb5 b8 f0 f1 f2 f3 f4 f5 f6 f7 f8;go_wp2_with fail;go_ret;exact⟨rfl,HE.out⟩
    ·rw[hT2 hbad]at HC;have HC2:=Lib.hid HC;obtain⟨v,hv⟩:∃v:Int,v=m-t.nodes:=⟨_,rfl⟩;have hv0:0<=v:=by omega
     have hv1:v<=n:=by omega
     rw[←hv]at HC2;have HV:=Lib.hid hv;clear HC hT1 hT2 hv;go_wp2_with fail;refine HC2.out.mono ?_;rintro r w5 ⟨rfl,hb5⟩;have HB5:Hid (Below W2.heap.size W2 w5):=HB.out.trans (hb5.mono hzr);clear hb5 b8 f0 f1 f2 f3 f4 f5 f6 f7 f8;go_wp2_with fail;go_roundw;case rel=>exact⟨j+1,v,by go_num,rfl,by omega,hv0,hv1,⟨by rw[HV.out,HPs.out,HP1.out];omega,HNx.out (by omega)⟩,HB5.out⟩
     case measure=>(simp[intOf];try omega)
   ·obtain rfl:j=s.args.length:=by omega
    have HE:R=m:=by have e1:=HP.out.1;have e2:=HAll.out;have e3:=HDa.out (by omega) λq hq=>HP.out.2 q hq hq;rw[HR2.out (by omega)];omega
    subst HE;go_wp2_with fail;go_ret;exact⟨rfl,HBw.out⟩
theorem zfY (l:List ByteArray) (a:Option Addr) (cap:Nat) (s:ByteArray) (w:World) (hE:zE w l a cap) :
 Calls Tryz.prog 150 #[.slice a l.length cap,.string s] w λe w'=>e=.returned (.bool (Lib.containsS l s))/\w=w':=by
 have hlen:=hE.2.1;have HA:=Lib.hid hE.addr;have HE:=Lib.hid hE;clear hE;go_enter Tryz.func150, Tryz.ntmps150;go_wp2_with fail;go_loop [5] (λi=>∃k:Nat,i=.int .i64 k/\k<=l.length/\∀j (hj:j<l.length),j<k->((l[j]'hj).toList==s.toList)=false) (λi=>l.length-(intOf i).toNat);case atStart=>exact⟨0,rfl,Nat.zero_le _,λ_ _ h=>absurd h (by omega)⟩
 case round =>
  obtain⟨k,rfl,hk,hall⟩:=hrel;have HAl:=Lib.hid hall;clear hall;by_cases hlt:k<l.length
  ·obtain⟨b,off,ha⟩:=HA.out.resolve_left (by omega);subst ha;have c0:=HE.out.get rfl hlt;cases he:((l[k]'hlt).toList==s.toList)
   ·go_wp2_with fail;go_round;case rel=>exact⟨k+1,by go_num,by omega,λj hj hjk=>by
     by_cases e:j=k
     ·subst e;exact he
     ·exact HAl.out j hj (by omega)⟩
    case measure=>simp[intOf];omega
   ·have HY:=Lib.hid (Z9 hlt he);go_wp2_with fail;go_ret;exact⟨by rw[HY.out];rfl,rfl⟩
  ·obtain rfl:k=l.length:=by omega
   have HN:=Lib.hid (YR (l:=l) (s:=s) (λj hj=>HAl.out j hj hj));go_wp2_with fail;go_ret;exact⟨by rw[HN.out];rfl,rfl⟩
def Zn (op lo hi:Int) (n:Nat) (zx:Bool) (mt:Bool):Bool:=Zz op lo hi n&&(zS op||zx)&&(op==6||mt)
noncomputable def qH (s:Tq):Bool:=Zn s.op s.lo s.hi s.args.length (YK s.expr) (decide (s.name.size=0))
theorem zdW (s:Tq) (ae:Option Addr) (ce:Nat) (a:Option Addr) (cap:Nat) (w:World) (hlen:s.args.length<4294967296):Calls Tryz.prog 147 #[ym s ae ce a cap] w λe w'=>e=.returned (.bool (qH s))/\Below w.heap.size w w':=by
 have HZ:Hid (∀W,Calls Tryz.prog 213 #[.agg #[.int .i64 s.expr.op,.int .i64 s.expr.n,.string s.expr.name,.slice ae s.expr.args.length ce]] W λe w'=>e=.returned (.bool (YK s.expr))/\Below W.heap.size W w'):=λW=>zh6 s.expr ae ce W;have e:qH s=Zn s.op s.lo s.hi s.args.length (YK s.expr) (decide (s.name.size=0)):=rfl;rw[e,zo];clear e;generalize YK s.expr=zx at HZ⊢;generalize s.op=op;generalize s.lo=lo;generalize s.hi=hi;generalize s.args.length=n at hlen⊢;generalize s.expr.op=xo at HZ⊢;generalize s.expr.n=xn at HZ⊢;generalize s.expr.name=xs at HZ⊢;generalize s.expr.args.length=xl at HZ⊢;generalize s.name=nm;have HPo:Hid (∀z,z=Zn op lo hi n zx (decide (nm.size=0))->∀W,Below w.heap.size w W->(λe w'=>e=Ending.returned (.bool (Zn op lo hi n zx (decide (nm.size=0))))/\Below w.heap.size w w') (Ending.returned (.bool z)) W):=λz hz W hW=>⟨by rw[hz],hW⟩;generalize (λe w'=>e=Ending.returned (.bool (Zn op lo hi n zx (decide (nm.size=0))))/\Below w.heap.size w w')=Po at HPo⊢;go_enter Tryz.func147, Tryz.ntmps147;go_upto_region 1 with fail;generalize hBx:World.alloc w _=Bx;have HB0:Hid (Below w.heap.size w Bx):=by show Below _ _ _;rw[←hBx];exact(Below.refl _ _).alloc (Nat.le_refl _) _
 have hzB:=HB0.out.size;have HBX:Hid (∀W,Below Bx.heap.size Bx W->∀o,(W.alloc o).cell? ⟨w.heap.size,0,none⟩=some (.int .i64 op)/\(W.alloc o).cell? ⟨w.heap.size,1,none⟩=some (.int .i64 lo)/\(W.alloc o).cell? ⟨w.heap.size,7,none⟩=some (.string nm)):=λW hW o=>by
  have h0:Bx.heap[w.heap.size]? = some (.cells #[.int .i64 op,.int .i64 lo,.int .i64 hi,.int .i64 xo,.int .i64 xn,.string xs,.slice ae xl ce,.string nm,.slice a n cap] 27 (0,0)):=by rw[←hBx];exact zh rfl
  have h1:=(hW.block _ (lt_of_block h0)).trans h0;refine⟨?_,?_,?_⟩<;>(rw[zc (zk (o:=o) h1)];rfl)
 have HBY:Hid (Bx.heap[w.heap.size]? = some (.cells #[.int .i64 op,.int .i64 lo,.int .i64 hi,.int .i64 xo,.int .i64 xn,.string xs,.slice ae xl ce,.string nm,.slice a n cap] 27 (0,0))):=by show _=_;rw[←hBx];exact zh rfl
 clear hBx;obtain⟨b0,b1,b2,b3,b4,b5,b6,b7,b8⟩:=zt HBY.out;go_upto_region 2 with fail;go_cut [4] from 10 to 24 (λs4 wx=>s4=.bool (decide (0<=lo/\lo<=hi/\hi<=16))/\wx=Bx);case first =>
  by_cases h1:0<=lo
  ·by_cases h2:lo<=hi
   ·go_wp2_with fail;go_meet;case rel=>exact⟨congrArg Value.bool (Bool.eq_iff_iff.2 (by simp;try omega)),rfl⟩
   ·go_wp2_with fail;go_meet;case rel=>exact⟨congrArg Value.bool (Bool.eq_iff_iff.2 (by simp;try omega)),rfl⟩
  ·go_wp2_with fail;go_meet;case rel=>exact⟨congrArg Value.bool (Bool.eq_iff_iff.2 (by simp;try omega)),rfl⟩
 case rest =>
  obtain⟨e4,ew⟩:=hcut;subst ew;generalize hbd:decide (0<=lo/\lo<=hi/\hi<=16)=bd at e4;have HBD:=Lib.hid hbd;subst e4;clear hbd;go_upto_region 3 with fail;go_cut [5] from 25 to 32 (λs5 wx=>s5=.bool (decide (lo=0/\hi=0))/\wx=wc);case first =>
   by_cases h1:lo=0
   ·go_wp2_with fail;go_meet;case rel=>exact⟨congrArg Value.bool (Bool.eq_iff_iff.2 (by simp;try omega)),rfl⟩
   ·go_wp2_with fail;go_meet;case rel=>exact⟨congrArg Value.bool (Bool.eq_iff_iff.2 (by simp;try omega)),rfl⟩
  case rest =>
   obtain⟨e5,ew⟩:=hcut;subst ew;generalize hbp:decide (lo=0/\hi=0)=bp at e5;have HBP:=Lib.hid hbp;subst e5;clear hbp;go_upto_region 4 with fail;have HZc:=Lib.hid (HZ.out wc);go_cut [6] from 33 to 40 (λs6 wx=>s6=.bool (zx&&decide (nm.size=0))/\Hid (Below wc.heap.size wc wx));case first =>
    go_wp2_with fail;refine HZc.out.mono ?_;rintro r w5 ⟨rfl,hb5⟩;have HB5:=Lib.hid hb5;have hbx:=(hb5.block _ (lt_of_block HBY.out)).trans HBY.out;clear hb5 b0 b1 b2 b3 b4 b5 b6 b7 b8;obtain⟨b0,b1,b2,b3,b4,b5,b6,b7,b8⟩:=zt hbx;cases zx with
    |false =>go_wp2_with fail;go_meet;case rel=>exact⟨rfl,HB5.out⟩
    |true =>
     by_cases hn:nm.size=0
     ·obtain rfl:=Q9 hn;go_wp2_with fail;go_meet;case rel=>exact⟨rfl,HB5.out⟩
     ·have hs:=XV hn;have hsb:(nm.toList==[])=false:=by simpa using hs
      go_wp2_with fail;go_meet;case rel=>exact⟨congrArg Value.bool (by simp[hn]),HB5.out⟩
   case rest =>
    (try rename World=>wd)
    obtain⟨e6,HBd⟩:=hcut;obtain⟨mt,hmt⟩:∃mt,decide (nm.size=0)=mt:=⟨_,rfl⟩;rw[hmt]at e6;generalize hbb:(zx&&mt)=bb at e6;have HBB:=Lib.hid hbb;subst e6;have hbx:=(HBd.out.block _ (lt_of_block HBY.out)).trans HBY.out;have HE:Hid (Below w.heap.size w wd):=HB0.out.trans (HBd.out.mono hzB);clear b0 b1 b2 b3 b4 b5 b6 b7 b8 hbb HZ HZc HBX;obtain⟨b0,b1,-,-,-,-,-,b7,-⟩:=zt hbx;clear hbx HBY HBd;have HR:=Lib.hid λz hz=>HPo.out z hz wd HE.out;rw[hmt]at HR;clear HE HPo;have hops:op=1\/op=2\/op=3\/op=4\/op=5\/op=6\/op=7\/(¬op=1/\¬op=2/\¬op=3/\¬op=4/\¬op=5/\¬op=6/\¬op=7):=by omega
    have hn2:mt=true/\nm=⟨#[]⟩\/mt=false/\(nm.toList==[])=false/\¬nm.toList=[]:=by
     by_cases hn:nm.size=0
     ·left;exact⟨by rw[←hmt];simp[hn],Q9 hn⟩
     ·right;exact⟨by rw[←hmt];simp[hn],by simpa using XV hn,XV hn⟩
    clear hmt;rcases hops with h|h|h|h|h|h|h|⟨n1,n2,n3,n4,n5,n6,n7⟩
    case inr.inr.inr.inr.inr.inr.inr =>
     go_wp2_with fail;first|done|skip
     exact HR.out _ (by simp[Zn,Zz,n1,n2,n3,n4,n5,n6,n7])
    all_goals
     subst h;rcases hn2 with ⟨rfl,rfl⟩|⟨rfl,hnm,hnm'⟩
     all_goals
      go_wp2_with fail
    all_goals try skip
    all_goals refine HR.out _ ?_
    all_goals
     have e1:=HBB.out;have e2:=HBD.out;have e3:=HBP.out;clear HR b0 b1 b7 HBB HBD HBP HB0 hzB hlen
     (try clear hnm hnm')
     cases zx<;>simp only[Zn,Zz,zS]<;>simp_all<;>omega
theorem zjK {P:Program} {ops:Array Oper} {rest:List Oper} {o:Oper} {a:Act} {Q:Exit->Act->World->Prop} {t e:TypeId} {size:Nat} (he:Elem P t e size) (w:World) (hgd:o.guard=none) (s x:Operand)
 (ho:o.op=.call { callee:=.builtin .append,args:=#[s,x],argTypes:=#[t,t] })
 (base:Nat) (v:Value) (n:Nat) (xs:List Value) (hs:a.eval s=v) (hown:w.ownsRow base e size v n xs)
 (news:List Value) (m k c:Nat) (hl:news.length=m*size) (h1:∀u∈news,u.oneCell'=true) (hx:a.eval x=.slice (some ⟨k,0,none⟩) m c) (hk:k=w.heap.size) (hm:0<m) (hn:n+m<=1073741824) (hbase:base<=w.heap.size)
 (h:∀g cap w',w'.ownsRow base e size (.slice (some ⟨g,0,none⟩) (n+m) cap) (n+m) (xs++news)->(w.alloc (.cells news.toArray e)).grownBy w' v.ownBlock->(v.ownBlock=some g\/w.heap.size<g)->wpList P ops Q rest (a.put o.dst (.slice (some ⟨g,0,none⟩) (n+m) cap)) w') :
 wpList P ops Q (o::rest) a (w.alloc (.cells news.toArray e)):=by
 subst hk;obtain⟨ht,i,z,bytes,hi,hz,hsz,hby,hzs,h0,hb⟩:=he;refine wpList_append_lies (w.alloc (.cells news.toArray e)) hgd s x t ho base e i z size bytes ht hi hz hsz hby hzs h0 v n xs hs (hown.alloc _) ⟨w.heap.size,0,none⟩ m c news hx hl ?_ h1 hm (by unfold maxLen;omega) ?_ (by simp;omega) (w.heap.size+1) (by simp) (λg cap w' h2 h3 h4 _=>h g cap w' h2 h3 (h4.imp id (by omega)))
 ·have:=World.news_of_block (zi w (.cells news.toArray e));simpa using this
 ·calc (n+m)*bytes<=1073741824*1024:=Nat.mul_le_mul hn hb
   _<=_:=by decide
noncomputable def zam (s:Tq):List ByteArray:=s.para λs l=>(if s.op=6 then [s.name] else [])++l.flatten
theorem zdX (s:Tq):zam s=(if s.op=6 then [s.name] else [])++(s.args.map zam).flatten:=by unfold zam;rw[Tq.para_eq]
theorem zjV (s:Tq):∀x,x∈zam s<->x∈xd s:=by
 induction s using Tq.ind with
 |h s ih =>
  intro x;rw[zdX,ZO,List.mem_append,List.mem_append,or_comm];refine or_congr ?_ Iff.rfl;simp only[List.mem_flatten,List.mem_map];constructor
  ·rintro ⟨l,⟨a,ha,rfl⟩,hx⟩;exact⟨_,⟨a,ha,rfl⟩,(ih a ha x).1 hx⟩
  ·rintro ⟨l,⟨a,ha,rfl⟩,hx⟩;exact⟨_,⟨a,ha,rfl⟩,(ih a ha x).2 hx⟩
theorem zeR (s:Tq):(zam s).length<=s.nodes:=by
 induction s using Tq.ind with
 |h s ih =>
  rw[zdX,Tq.nodes_eq,List.length_append];have h1:(if s.op=6 then [s.name] else []).length<=1:=by split<;>simp
  have h2:∀l:List Tq,(∀a∈l,(zam a).length<=a.nodes)->((l.map zam).flatten).length<=(l.map Tq.nodes).sum:=by
   intro l
   induction l with
   |nil=>intro _;simp
   |cons a l ih2 =>intro h;have:=ih2 λb hb=>h b (by simp[hb]);have:=h a (by simp);simp only[List.map_cons,List.flatten_cons,List.length_append,List.sum_cons];omega
  have:=h2 s.args ih;omega
noncomputable def zbQ (l:List ByteArray) (s:Tq) (k:Nat):List ByteArray:=l++(if s.op=6 then [s.name] else [])++((s.args.take k).map zam).flatten
theorem zcW (l:List ByteArray) (s:Tq) {k:Nat} (h:k<s.args.length):zbQ l s (k+1)=zbQ l s k++zam (s.args[k]'h):=by unfold zbQ;rw[List.take_succ_eq_append_getElem h];simp only[List.map_append,List.map_cons,List.map_nil,List.flatten_append,List.flatten_cons,List.flatten_nil,List.append_nil,List.append_assoc]
theorem zjS (l:List ByteArray) (s:Tq):zbQ l s s.args.length=l++zam s:=by unfold zbQ;rw[zdX s,List.take_of_length_le (Nat.le_refl _),List.append_assoc]
theorem zjT (l:List ByteArray) (s:Tq):∀k,k<=s.args.length->(zbQ l s k).length<=l.length+Qp s.args k:=by
 intro k
 induction k with
 |zero =>
  intro _;unfold zbQ Qp;have h1:(if s.op=6 then [s.name] else []).length<=1:=by split<;>simp
  simp only[List.length_append,List.take_zero,List.map_nil,List.flatten_nil,List.length_nil,List.sum_nil];omega
 |succ k ih =>intro h;have:=ih (by omega);have h2:=Ym s.args (k:=k) (by omega);have h3:=zeR (s.args[k]'(by omega));rw[zcW l s (by omega),List.length_append,h2];omega
structure qo (B:Nat) (w:World) (v:Value) (w':World) (v':Value) (M:List ByteArray):Prop where
 own:w'.ownsRow B 9 1 v' M.length (M.map Value.string)
 gr:w.grownBy w' v.ownBlock
 hat:v'.ownBlock=v.ownBlock\/∃g,v'.ownBlock=some g/\w.heap.size<=g
theorem qo.refl {B:Nat} {w:World} {v:Value} {M:List ByteArray} (h:w.ownsRow B 9 1 v M.length (M.map Value.string)):qo B w v w v M:=⟨h,zbA _ _,Or.inl rfl⟩
theorem qo.below {B:Nat} {w w1 w2:World} {v v':Value} {M:List ByteArray} (h:qo B w v w1 v' M) (hb:Below w1.heap.size w1 w2):qo B w v w2 v' M :=
 ⟨ownsRow_below h.own hb,Xm h.gr hb,h.hat⟩
theorem qo.trans {B:Nat} {w w1 w2:World} {v v1 v2:Value} {M M2:List ByteArray} (h:qo B w v w1 v1 M) (h2:qo B w1 v1 w2 v2 M2):qo B w v w2 v2 M2:=by
 have hs:=h.gr.size;refine⟨h2.own,?_,?_⟩
 ·rcases h.hat with e|⟨g,e,hg⟩
  ·have:=h2.gr;rw[e]at this;exact Xn h.gr this
  ·exact⟨h2.gr.os.trans h.gr.os,h2.gr.tape.trans h.gr.tape,h2.gr.output.trans h.gr.output,Nat.le_trans hs h2.gr.size,λk hk hn=>(h2.gr.block k (by omega) (by rw[e];intro x;have:=Option.some.inj x;omega)).trans (h.gr.block k hk hn)⟩
 ·rcases h2.hat with e|⟨g,e,hg⟩
  ·rw[e];exact h.hat
  ·exact Or.inr ⟨g,e,by omega⟩
theorem qo.block {B:Nat} {w w1:World} {v v1:Value} {M:List ByteArray} (h:qo B w v w1 v1 M) {k:Nat} {o:Obj} (hk:w.heap[k]? = some o) (hn:v.ownBlock≠some k):w1.heap[k]? = some o :=
 (h.gr.block k (lt_of_block hk) λe=>hn e.symm).trans hk
def setH (p:Nat->Bool) (v:Value) (j:Nat):Bool:=p j||decide (v.ownBlock=some j)
theorem qo.kp {B:Nat} {w w1:World} {v v1:Value} {M:List ByteArray} {p:Nat->Bool} (h:qo B w v w1 v1 M) (hp:∀j,v.ownBlock=some j->p j=true):Kp (World.hide w p) (World.hide w1 (setH p v1)):=by
 intro a u ha;obtain⟨h1,h2⟩:=zy.1 ha;have hlt:=qF h2;have hne:v.ownBlock≠some a.block:=λe=>by have:=hp _ e;rw[h1]at this;simp at this
 refine zy.2 ⟨?_,by rw[World.cell?_of_block (h.gr.block _ hlt λe=>hne e.symm)];exact h2⟩;unfold setH;rw[h1,Bool.false_or];refine decide_eq_false λe=>?_;rcases h.hat with e2|⟨g,e2,hg⟩
 ·exact hne (e2 ▸ e)
 ·rw[e]at e2;have:=Option.some.inj e2;omega
theorem qo.hpH {B:Nat} {w w1:World} {v v1:Value} {M:List ByteArray} {p:Nat->Bool} (h:qo B w v w1 v1 M) (hp:∀j,p j=true->j<w.heap.size):∀j,setH p v1 j=true->j<w1.heap.size:=by
 intro j hj;unfold setH at hj;rw[Bool.or_eq_true]at hj;rcases hj with hj|hj
 ·have:=hp j hj;have:=h.gr.size;omega
 ·exact(h.own.lt j (of_decide_eq_true hj)).2
theorem zjR (p:Nat->Bool) (v:Value) (j:Nat) (h:v.ownBlock=some j):setH p v j=true:=by unfold setH;rw[decide_eq_true h];simp
def zbi (B:Nat) (v:Value) (M:List ByteArray) (w:World) (e:Ending) (w':World):Prop:=∃v',e=.returned v'/\qo B w v w' v' M
theorem zh2 (B:Nat) (s:Tq):∀(l:List ByteArray) (v:Value) (p:Nat->Bool) (ae:Option Addr) (ce:Nat) (a:Option Addr) (cap:Nat) (w:World),Zr (World.hide w p) s ae ce a cap->(∀j,p j=true->j<w.heap.size)->(∀j,v.ownBlock=some j->p j=true)->B<=w.heap.size->s.nodes<=100->s.depth<=8->l.length+s.nodes<=100000->w.ownsRow B 9 1 v l.length (l.map Value.string) ->
 Calls Tryz.prog 149 #[ym s ae ce a cap,v] w (zbi B v (l++zam s) w):=by
 induction s using Tq.ind with
 |h s ih =>
  intro l v p ae ce a cap w hX hp hv hB hn hd hl hO;have hlen:=hX.ar.2.1;have HAa:Hid (s.args.length=0\/∃b off,a=some ⟨b,off,none⟩):=zr.addr hX.ar;have HAll:Hid (zbQ l s s.args.length=l++zam s):=zjS l s;have HSu:Hid (∀k (h:k<s.args.length),zbQ l s (k+1)=zbQ l s k++zam (s.args[k]'h)):=λk h=>zcW l s h;have HNo:Hid (∀k (h:k<s.args.length),(s.args[k]'h).nodes<=100/\(s.args[k]'h).depth<=8/\(zbQ l s k).length+(s.args[k]'h).nodes<=100000):=λk h=>by
   have e1:=zjT l s k (by omega);have e2:=Ym s.args h;have e3:=zhT s.args (s.args.length-(k+1)) (k+1) (by omega);rw[show k+1+(s.args.length-(k+1))=s.args.length from by omega,QD]at e3;have e4:=(xV s 7).1 (by omega) _ (List.getElem_mem h);have e5:1<=Qp s.args k:=by unfold Qp;omega
   exact⟨by omega,by omega,by omega⟩
  have hroom:zaD s 100 8=100-s.nodes:=if_neg (by omega);have hr0:0<=(100:Int)-s.nodes:=by omega
  have HRm:Hid (∀W,Below w.heap.size w W->Calls Tryz.prog 91 #[ym s ae ce a cap,.int .i64 100,.int .i64 8] W λr w'=>r=.returned (.int .i64 (100-s.nodes))/\Below W.heap.size W w'):=λW hW=>by have:=zeP s 100 8 p ae ce a cap W (hX.keep (zg hW λ_ _ h=>h)) (λj hj=>by have:=hp j hj;have:=hW.size;omega) (by omega) (by omega) (by omega) (by omega);rw[hroom]at this;exact this
  have HIH:Hid (∀k (hk:k<s.args.length),∀(l:List ByteArray) (v:Value) (p:Nat->Bool) (ae:Option Addr) (ce:Nat) (a:Option Addr) (cap:Nat) (w:World),Zr (World.hide w p) (s.args[k]'hk) ae ce a cap->(∀j,p j=true->j<w.heap.size)->(∀j,v.ownBlock=some j->p j=true)->B<=w.heap.size->(s.args[k]'hk).nodes<=100->(s.args[k]'hk).depth<=8->l.length+(s.args[k]'hk).nodes<=100000->w.ownsRow B 9 1 v l.length (l.map Value.string) ->
   Calls Tryz.prog 149 #[ym (s.args[k]'hk) ae ce a cap,v] w (zbi B v (l++zam (s.args[k]'hk)) w)):=λk hk=>ih _ (List.getElem_mem hk)
  have HAr:=Lib.hid hX.ar;have HNm:Hid (zbQ l s 0=if s.op=6 then l++[s.name] else l):=by show _=_;unfold zbQ;split<;>simp
  have HPo:Hid (∀v' W,qo B w v W v' (zbQ l s s.args.length)->zbi B v (l++zam s) w (.returned v') W):=λv' W h=>⟨v',rfl,HAll.out ▸ h⟩;generalize zbi B v (l++zam s) w=Po at HPo⊢;have HVp:=Lib.hid hv;have HPp:=Lib.hid hp;have HO:=Lib.hid hO;have hnn:∀m,¬v.ownBlock=some m\/m<w.heap.size:=λm=>by
   by_cases h:v.ownBlock=some m
   ·exact Or.inr (hO.lt m h).2
   ·exact Or.inl h
  have HVn:Hid (v.ownBlock≠some w.heap.size):=λe=>by have:=(hO.lt _ e).2;omega
  have hll:l.length<=100000:=by omega
  clear ih hX hp hv hO hroom hnn hd hl;rw[zo]at HRm⊢;go_enter Tryz.func149, Tryz.ntmps149;go_upto_region 1 with fail;generalize hBx:World.alloc w _=Bx;have HB0:Hid (Below w.heap.size w Bx):=by show Below _ _ _;rw[←hBx];exact(Below.refl _ _).alloc (Nat.le_refl _) _
  have hzB:=HB0.out.size;have hzB1:w.heap.size<Bx.heap.size:=by rw[←hBx];simp
  have HBX:Hid (Bx.heap[w.heap.size]? = some (ye s ae ce a cap)):=by show _=_;rw[←hBx];exact zh rfl
  have HS0:Hid (qo B w v Bx v l):=(qo.refl HO.out).below HB0.out;clear hBx;obtain⟨b0,b1,b2,b3,b4,b5,b6,b7,b8⟩:=zt HBX.out;have HRm1:=Lib.hid (HRm.out Bx HB0.out);go_wp2_with fail;refine HRm1.out.mono ?_;rintro r w1 ⟨rfl,hb1⟩;have HS1:Hid (qo B Bx v w1 v l):=(qo.refl HS0.out.own).below hb1;have HBX1:Hid (w1.heap[w.heap.size]? = some (ye s ae ce a cap)):=(hb1.block _ (lt_of_block HBX.out)).trans HBX.out;have hz1:Bx.heap.size<=w1.heap.size:=hb1.size;have HAB:Hid (qL (World.hide Bx p) s.args a cap):=HAr.out.keep (zg HB0.out λ_ _ h=>h);have HPB:Hid (∀j,p j=true->j<Bx.heap.size):=λj hj=>by have:=HPp.out j hj;omega
  have HBB:Hid (B<=Bx.heap.size):=by show _<=_;omega
  have HEn:Hid (∀u W,qo B Bx v W u (zbQ l s s.args.length)->Po (.returned u) W):=λu W h=>HPo.out u W (HS0.out.trans h);have HBk:Hid (∀u W M,qo B Bx v W u M->u.ownBlock≠some w.heap.size):=λu W M h e=>by
   rcases h.hat with e2|⟨g,e2,hg⟩
   ·exact HVn.out (e2 ▸ e)
   ·rw[e]at e2;have:=Option.some.inj e2;omega
  clear hb1 b0 b1 b2 b3 b4 b5 b6 b7 b8 HRm1 HRm HAr HPp HPo HO;obtain⟨b0,-,-,-,-,-,-,b7,-⟩:=zt HBX1.out;go_upto_region 3 with fail;rcases Decidable.em (s.op=6) with h6|h6
  case' inl =>
   have HN6:Hid (zbQ l s 0=l++[s.name]):=by show _=_;rw[HNm.out,if_pos h6]
   go_wp2_with (at_builtin;go_must (refine zjK zjd _ rfl (.tmp 13) (.tmp 16) rfl B v l.length (l.map Value.string) rfl HS1.out.own [.string s.name] 1 _ 1 rfl (by simp[Value.oneCell']) rfl (by first|rfl|simp) (by omega) (by omega) (by omega) ?_));intro g cap' w5 ho hg hat
   have HS2:Hid (qo B Bx v w5 (.slice (some ⟨g,0,none⟩) (l.length+1) cap') (zbQ l s 0)):=by
    show qo _ _ _ _ _ _;refine HS1.out.trans ⟨?_,QZ hg λj hj=>(HS1.out.own.lt j hj).2,?_⟩
    ·rw[HN6.out];simpa using ho
    ·rcases hat with hat|hat
     ·exact Or.inl hat.symm
     ·exact Or.inr ⟨g,rfl,by omega⟩
   have HX2:Hid (w5.heap[w.heap.size]? = some (ye s ae ce a cap)):=by show _=_;rw[hg.block w.heap.size (by simp;omega) (λe=>HVn.out e.symm),Below.heap_alloc _ _ _ (by omega)];exact HBX1.out
   clear ho hg hat
   go_upto_region 5 with fail
  case' inr =>
   have hb6:(s.op==6)=false:=by simp[h6]
   have HS2:Hid (qo B Bx v w1 v (zbQ l s 0)):=by show qo _ _ _ _ _ _;rw[HNm.out,if_neg h6];exact HS1.out
   have HX2:=Lib.hid HBX1.out;go_upto_region 5 with fail
  all_goals
   clear b0 b7 HS1 HBX1 hz1 h6;go_wp2_with fail;go_loopw [5,1] (λi u wr=>∃k:Nat,i=.int .i64 k/\k<=s.args.length/\Hid (qo B Bx v wr u (zbQ l s k))/\Hid (wr.heap[w.heap.size]? = some (ye s ae ce a cap))) (λi _ _=>s.args.length-(intOf i).toNat);case atStart=>exact⟨0,rfl,Nat.zero_le _,HS2.out,HX2.out⟩
   case round =>
    obtain⟨k,rfl,hk,HS,HX⟩:=hrel;have hzr:=HS.out.gr.size;obtain⟨-,-,-,-,-,-,-,-,b8⟩:=zt HX.out;by_cases hlt:k<s.args.length
    ·obtain⟨b,off,ha⟩:=HAa.out.resolve_left (by omega);subst ha;obtain⟨xe,xc,xa,xk,hcell,hX⟩:=(qL.keep (HS.out.kp HVp.out) HAB.out).get rfl hlt;obtain⟨n1,n2,n3⟩:=HNo.out k hlt;have HC:=Lib.hid (HIH.out k hlt _ _ _ _ _ _ _ _ hX (HS.out.hpH HPB.out) (zjR p _) (by omega) n1 n2 n3 HS.out.own);have HSk:=Lib.hid (HSu.out k hlt);obtain⟨g0,g1,g2,g3,g4,g5,g6,g7,g8⟩:=Zu hcell;have f0:=zb _ _ g0;have f1:=zb _ _ g1;have f2:=zb _ _ g2;have f3:=zb _ _ g3;have f4:=zb _ _ g4;have f5:=zb _ _ g5;have f6:=zb _ _ g6;have f7:=zb _ _ g7;have f8:=zb _ _ g8;clear g0 g1 g2 g3 g4 g5 g6 g7 g8 hcell hX n1 n2 n3;generalize (s.args[k]'hlt)=t at f0 f1 f2 f3 f4 f5 f6 f7 f8 HC HSk;rw[zo]at HC;go_wp2_with fail;refine HC.out.mono ?_;rintro r w5 ⟨v5,rfl,hS5⟩;have HB5:Hid (w5.heap[w.heap.size]? = some (ye s ae ce (some ⟨b,off,none⟩) cap)):=hS5.block HX.out (HBk.out _ _ _ HS.out);have HS5:=Lib.hid (HS.out.trans hS5);clear hS5 b8 f0 f1 f2 f3 f4 f5 f6 f7 f8;go_wp2_with fail;go_roundw;case rel=>exact⟨k+1,by go_num,by omega,Lib.hid (by rw[HSk.out];exact HS5.out),HB5.out⟩
     case measure=>(simp[intOf];try omega)
    ·obtain rfl:k=s.args.length:=by omega
     have HE:=Lib.hid (HEn.out _ _ HS.out);go_wp2_with fail;first|exact HE.out|(go_ret2;exact HE.out)
theorem zdT (op n:Int) (s:ByteArray) (args:List Ex) (a:Option Addr) (cap:Nat) (w:World) (hE:yY w (.mk op n s args) a cap) (hn:(Ex.mk op n s args).nodes.length<=1000000000) :
 Calls Tryz.prog 148 #[.agg #[.int .i64 op,.int .i64 n,.string s,.slice a args.length cap]] w λe w' =>
  (∃a' cap',e=.returned (.slice a' (zG [2] (.mk op n s args)).length cap')/\zE w' (zG [2] (.mk op n s args)) a' cap'/\∀p:Addr,a'=some p->w.heap.size<=p.block)/\Below w.heap.size w w':=by
 have hB:Below w.heap.size w (w.alloc (.cells #[.int .i64 op,.int .i64 n,.string s,.slice a args.length cap] 24)):=bel;have HC:=Lib.hid (zeG op n s args a cap _ (hE.keep (za hB)) hn);have HB:=Lib.hid hB;have HN:=Lib.hid (Zx [2] (Ex.mk op n s args).nodes []);have Hn:=Lib.hid hn;clear hB hE hn;go_enter Tryz.func148, Tryz.ntmps148;go_wp2_with fail;refine HC.out.mono ?_;rintro e w2 ⟨rfl,hI,hb⟩;obtain⟨_,v1,v2,hp,o1,o2,_⟩:=hI;simp only[World.size_alloc]at hp;have c3:w2.cell? ⟨w.heap.size+1+1,3,none⟩=some v1:=by simp[World.cell?,hp]
 have c4:w2.cell? ⟨w.heap.size+1+1,4,none⟩=some v2:=by simp[World.cell?,hp]
 have H2:Hid (Below w.heap.size w w2):=HB.out.trans (hb.mono (by simp));have HL1:Hid (∀j,v1.ownBlock=some j->w.heap.size<=j):=λj hj=>by have:=(o1.lt j hj).1;simp at this;omega
 have HL2:Hid (∀j,v2.ownBlock=some j->w.heap.size<=j):=λj hj=>by have:=(o2.lt j hj).1;simp at this;omega
 have H1:=Lib.hid (⟨o1,o2⟩:_/\_);clear hp hb o1 o2;go_wp2_with fail;go_ret;refine⟨?_,H2.out⟩;have hl:(zG [2] (.mk op n s args)).length<=1073741824:=by have:=HN.out;have:=Hn.out;unfold zG;simp only[List.length_nil]at *;omega
 first
  |(obtain⟨a',cap',rfl,hs⟩:=xz H1.out.1 hl;exact⟨a',cap',rfl,hs,λp hp=>HL1.out p.block (by rw[hp];rfl)⟩)
  |(obtain⟨a',cap',rfl,hs⟩:=xz H1.out.2 hl;exact⟨a',cap',rfl,hs,λp hp=>HL2.out p.block (by rw[hp];rfl)⟩)
end Go.Proofs.YthojpomoflhbcaaGreatDoor
