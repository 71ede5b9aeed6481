/- nfa.take. -/
import Derived.Test.YtnfkbliokjjggaaGreatDoorH27
import Derived.Test.YtnfkbliokjjggaaGreatDoorH29
import Derived.Test.YtnfkbliokjjggaaGreatDoorH12
import Derived.Deep.CutRange
import Derived.Test.YtnfkbliokjjggaaGreatDoorH20
import Derived.Deep.LoopGhost
import Derived.Deep.RegionHeld3
import Derived.BigQuiet
set_option maxHeartbeats 16000000
set_option maxRecDepth 100000
set_option linter.unusedSimpArgs false
set_option linter.unusedVariables false
set_option linter.unnecessarySimpa false
namespace Go.Proofs.YtnfkbliokjjggaaGreatDoor
open Go.RowKit
attribute [local go_sem ↓] Go.wp_at_zero Go.wp_at_succ
theorem zhF (fn:Func) (hr:fn.results=#[.cell 6 134,.tmp 7]) (W:World) (tm:Array Value) (b:Nat) (m0 m1 e:Value) (hW:W.heap[b]? = some (.cells #[m0,m1] 134 (0,0))) (h0:tm.getD 6 undef=.pointer (some ⟨b,0,none⟩)) (h1:tm.getD 7 undef=e) :
 (results fn tm).run Tryz.prog W=.ok (.tuple #[.agg #[m0,m1],e]) W:=by
 have c0:=zb hW 0;have c1:=zb hW 1;simp at c0 c1;rw[results_cell_tmp hr,h0,h1];simp[asAddr];go_simp
theorem ziA {w:World} {b:Nat} {z0 z1 u0 u1:Value} {t:TypeId} (h:w.heap[b]? = some (.cells #[z0,z1] t (0,0))) :
 ((w.setCell ⟨b,0,none⟩ u0).setCell ⟨b,1,none⟩ u1).heap[b]? = some (.cells #[u0,u1] t (0,0)):=by
 have h0:=heap_setCell_same _ b 0 _ t u0 h;have h1:=heap_setCell_same _ b 1 _ t u1 h0;simpa using h1
theorem xy {w:World} {b:Nat} {z0 z1:Value} {t:TypeId} (h:w.heap[b]? = some (.cells #[z0,z1] t (0,0))):w.cell? ⟨b,0,none⟩=some z0/\w.cell? ⟨b,1,none⟩=some z1/\∀o,w.frozen? ⟨b,o,none⟩=false:=by
 refine⟨?_,?_,λo=>?_⟩
 ·rw[zb h];rfl
 ·rw[zb h];rfl
 ·simp[World.frozen?,h]
theorem Yn {t:TypeId} {p:Nat->Bool} {w:World} {B:Nat} {v:Value} {l:List Sg} (h:sgE.Own t p w B v l) (hn:l.length<=1073741824):∃a cap,v=.slice a l.length cap/\∀q:Nat->Bool,(∀k,B<=k->k<w.heap.size->q k=false)->sgE.In (World.hide w q) l a cap:=by have hlt:=zq h;obtain⟨a,cap,rfl,h1,h2,h3⟩:=h.slice hn;refine⟨a,cap,rfl,λq hq=>⟨h1,h2,h3.imp id ?_⟩⟩;rintro ⟨b,off,rfl,hc⟩;have hb:=hlt b rfl;refine⟨b,off,rfl,λi hi=>?_⟩;obtain⟨x,hx,vs,hr,hv⟩:=hc i hi;exact⟨x,hx,vs,hr,λj v hj=>zr.2 ⟨hq b hb.1 hb.2,hv j v hj⟩⟩
def zef (p:Nat->Bool) (r:Option (List Sg)) (tt:Int) (w:World) (e:Ending) (w':World):Prop :=
 (match r with
  |none=>e=.returned (.tuple #[.agg #[.int .i64 0,.slice none 0 0],.bool false])
  |some l=>∃a c,e=.returned (.tuple #[.agg #[.int .i64 tt,.slice a l.length c],.bool true])/\sgE.In (World.hide w' p) l a c)/\Below w.heap.size w w'
theorem YI {l:List xG} {env loc:List Sg} {k:Nat} (h:k<l.length):zN l env loc (k+1)=YG (zN l env loc k) (l[k]'h).name (Yt (l[k]'h).expr (zN l env loc k) env):=by unfold zN;rw[List.take_succ_eq_append_getElem h,List.foldl_append];rfl
theorem ZO {l:List xG} {env loc:List Sg} (ha:zbq loc):∀k,zbq (zN l env loc k)
 |0=>by unfold zN;simpa using ha
 |k+1=>by
  by_cases h:k<l.length
  ·rw[YI h];exact zaf (ZO ha k)
  ·have:zN l env loc (k+1)=zN l env loc k:=by
    unfold zN;rw[List.take_of_length_le (by omega),List.take_of_length_le (by omega)]
   rw[this];exact ZO ha k
theorem xZ {l:List xG} {env loc:List Sg}:∀k,(zN l env loc k).length<=loc.length+k
 |0=>by unfold zN;simp
 |k+1=>by
  by_cases h:k<l.length
  ·rw[YI h];have h1:=zcD (zN l env loc k) (l[k]'h).name (Yt (l[k]'h).expr (zN l env loc k) env);have h2:=xZ (l:=l) (env:=env) (loc:=loc) k;omega
  ·have:zN l env loc (k+1)=zN l env loc k:=by
    unfold zN;rw[List.take_of_length_le (by omega),List.take_of_length_le (by omega)]
   rw[this];have h2:=xZ (l:=l) (env:=env) (loc:=loc) k;omega
structure zce (e:zk):Prop where
 gs:∀g∈e.guards,g.nodes.length<=1000000
 ss:∀b∈e.sets,b.expr.nodes.length<=1000000
 sl:e.sets.length<=20000
theorem zg0 (p:Nat->Bool) (t:yV) (al:Option Addr) (cl:Nat) (x:zk) (ag:Option Addr) (cg:Nat) (aS:Option Addr) (cs:Nat) (env:List Sg) (ae:Option Addr) (ce:Nat) (w:World) (hp:∀j,p j=true->j<w.heap.size) (hG:qW w)
 (hL:sgE.In w t.env al cl) (hg:exE.In w x.guards ag cg) (hs:bdE.In w x.sets aS cs) (hE:sgE.In w env ae ce) (ha:zbq t.env) (hl:t.env.length<=50000) (he:env.length<=50000) (hx:zce x) :
 Calls Tryz.prog 72 #[.agg #[.int .i64 t.state,.slice al t.env.length cl],yX x ag cg aS cs,.slice ae env.length ce] w (zef p (x7 x t.env env) x.to w):=by
 have HVg:Hid (∀k (hk:k<x.guards.length) W ax cx,Below w.heap.size w W->yA W (x.guards[k]'hk) ax cx->Calls Tryz.prog 127 #[.agg #[.int .i64 (x.guards[k]'hk).op,.int .i64 (x.guards[k]'hk).n,.string (x.guards[k]'hk).name,.slice ax (x.guards[k]'hk).args.length cx],.slice al t.env.length cl,.slice ae env.length ce] W λe w'=>e=.returned (.int .i64 (Yt (x.guards[k]'hk) t.env env))/\Below W.heap.size W w'):=λk hk W ax cx hW hX =>
  Qu _ t.env env ax cx al cl ae ce W (hG.below hW) hX (hx.gs _ (List.getElem_mem hk)) (hL.keep (za hW)) (hE.keep (za hW)) (by omega) (by omega)
 have HVs:Hid (∀k (hk:k<x.sets.length) W ax cx al cl,Below w.heap.size w W->yA W (x.sets[k]'hk).expr ax cx->sgE.In W (zN x.sets env t.env k) al cl->Calls Tryz.prog 127 #[.agg #[.int .i64 (x.sets[k]'hk).expr.op,.int .i64 (x.sets[k]'hk).expr.n,.string (x.sets[k]'hk).expr.name,.slice ax (x.sets[k]'hk).expr.args.length cx],.slice al (zN x.sets env t.env k).length cl,.slice ae env.length ce] W λe w'=>e=.returned (.int .i64 (Yt (x.sets[k]'hk).expr (zN x.sets env t.env k) env))/\Below W.heap.size W w'):=λk hk W ax cx al cl hW hX hL =>
  Qu _ _ env ax cx al cl ae ce W (hG.below hW) hX (hx.ss _ (List.getElem_mem hk)) hL (hE.keep (za hW)) (by have:=xZ (l:=x.sets) (env:=env) (loc:=t.env) k;have:=hx.sl;omega) (by omega)
 have HWi:Hid (∀k (hk:k<x.sets.length) (q:Nat->Bool) W al cl v,sgE.In (World.hide W q) (zN x.sets env t.env k) al cl->(∀j,q j=true->j<W.heap.size)->v=Yt (x.sets[k]'hk).expr (zN x.sets env t.env k) env->Calls Tryz.prog 76 #[.slice al (zN x.sets env t.env k).length cl,.string (x.sets[k]'hk).name,.int .i64 v] W (Z3 q (zN x.sets env t.env (k+1)) W)):=λk hk q W al cl v h1 h2 h3=>by subst h3;rw[YI hk];exact zcQ q _ al cl _ _ W h1 h2 (ZO ha k) (by have:=xZ (l:=x.sets) (env:=env) (loc:=t.env) k;have:=hx.sl;omega)
 have HLn:Hid (∀k,k<=x.sets.length->(zN x.sets env t.env k).length<=100000):=λk hk=>by have:=xZ (l:=x.sets) (env:=env) (loc:=t.env) k;have:=hx.sl;omega
 have H0:Hid (zN x.sets env t.env 0=t.env):=by show _=_;unfold zN;simp
 have HNo:Hid (∀k (hk:k<x.guards.length),Yt (x.guards[k]'hk) t.env env=0->∀W,Below w.heap.size w W->zef p (x7 x t.env env) x.to w (.returned (.tuple #[.agg #[.int .i64 0,.slice none 0 0],.bool false])) W):=λk hk h W hW=>by
  have:x7 x t.env env=none:=by unfold x7;rw[if_neg];rw[List.all_eq_true];intro h2;have:=h2 _ (List.getElem_mem hk);rw[h]at this;simp at this
  rw[this];exact⟨rfl,hW⟩
 have HYes:Hid ((∀k (hk:k<x.guards.length),Yt (x.guards[k]'hk) t.env env≠0)->∀W a c,Below w.heap.size w W->sgE.In (World.hide W p) (zN x.sets env t.env x.sets.length) a c->zef p (x7 x t.env env) x.to w (.returned (.tuple #[.agg #[.int .i64 x.to,.slice a (zN x.sets env t.env x.sets.length).length c],.bool true])) W):=λh W a c hW hin=>by
  have:x7 x t.env env=some (zN x.sets env t.env x.sets.length):=by unfold x7;rw[if_pos];rw[List.all_eq_true];intro g hg;obtain⟨k,hk,rfl⟩:=List.getElem_of_mem hg;have:=h k hk;simpa using this
  rw[this];exact⟨⟨a,c,rfl,hin⟩,hW⟩
 have HCl:Hid (∀W,Below w.heap.size w W->Calls Tryz.prog 79 #[.slice al t.env.length cl] W (yR sgE 68 x9 t.env W)):=λW hW=>zbB x9 t.env al cl W ((hL.keep (za hW)).keep xC);have HGs:=Lib.hid hg;have HSs:=Lib.hid hs;have Hp:=Lib.hid hp;have HGa:Hid (x.guards.length=0\/∃b off,ag=some ⟨b,off,none⟩):=hg.addr;have HSa:Hid (x.sets.length=0\/∃b off,aS=some ⟨b,off,none⟩):=hs.addr;have hgl:=hg.len;have hsl:=hx.sl;unfold yX;generalize zef p (x7 x t.env env) x.to w=Po at HNo HYes⊢;generalize zN x.sets env t.env=CU at *;clear hp hG hL hg hs hE ha hx;go_enter Tryz.func72, Tryz.ntmps72;go_upto_region 1 with fail;generalize hW2:World.alloc (World.alloc (World.alloc w _) _) _=W2;have HB2:Hid (Below w.heap.size w W2):=by show Below _ _ _;rw[←hW2];exact(((Below.refl _ _).alloc (Nat.le_refl _) _).alloc (by simp) _).alloc (by simp;omega) _
 have HT2:Hid (W2.heap[w.heap.size]? = some (.cells #[.int .i64 t.state,.slice al t.env.length cl] 134 (0,0))):=by show _=_;rw[←hW2];exact zl (zl (zh rfl))
 have HE2:Hid (W2.heap[w.heap.size+1]? = some (.cells #[.int .i64 x.fr,.int .i64 x.to,.slice ag x.guards.length cg,.slice aS x.sets.length cs] 77 (0,0))):=by show _=_;rw[←hW2];exact zl (zh (by simp))
 have HR2:Hid (W2.heap[w.heap.size+2]? = some (.cells #[.int .i64 0,.slice none 0 0] 134 (0,0))):=by show _=_;rw[←hW2];exact zh (by simp)
 have hz2:w.heap.size+3<=W2.heap.size:=by rw[←hW2];simp
 clear hW2;obtain⟨-,-,b2,-,-⟩:=zR HE2.out;go_wp2_with fail;clear b2;go_loopw [16,9] (λi _ wr=>∃k:Nat,i=.int .i64 k/\k<=x.guards.length/\Hid (∀j (hj:j<x.guards.length),j<k->Yt (x.guards[j]'hj) t.env env≠0)/\Hid (Below W2.heap.size W2 wr)) (λi _ _=>x.guards.length-(intOf i).toNat);case atStart=>exact⟨0,rfl,Nat.zero_le _,λj _ h=>absurd h (by omega),Below.refl _ _⟩
 case round =>
  (try rename World=>wr)
  obtain⟨k,rfl,hk,HN,HBr⟩:=hrel;have hzr:=HBr.out.size;have HBw:Hid (Below w.heap.size w wr):=HB2.out.trans (HBr.out.mono HB2.out.size);have HTr:Hid (wr.heap[w.heap.size]? = some (.cells #[.int .i64 t.state,.slice al t.env.length cl] 134 (0,0))):=(HBr.out.block _ (by omega)).trans HT2.out;have HEr:Hid (wr.heap[w.heap.size+1]? = some (.cells #[.int .i64 x.fr,.int .i64 x.to,.slice ag x.guards.length cg,.slice aS x.sets.length cs] 77 (0,0))):=(HBr.out.block _ (by omega)).trans HE2.out;have HRr:Hid (wr.heap[w.heap.size+2]? = some (.cells #[.int .i64 0,.slice none 0 0] 134 (0,0))):=(HBr.out.block _ (by omega)).trans HR2.out;by_cases hlt:k<x.guards.length
  ·obtain⟨bg,og,hga⟩:=HGa.out.resolve_left (by omega);subst hga;obtain⟨xa,xc,g0,g1,g2,g3,hX⟩:=Zc (HGs.out.keep (za HBw.out)) rfl hlt;have HV1:=λW hW hX=>HVg.out k hlt W xa xc hW hX;have HN0:=Lib.hid (HNo.out k hlt);have HNs:Hid (Yt (x.guards[k]'hlt) t.env env≠0->∀j (hj:j<x.guards.length),j<k+1->Yt (x.guards[j]'hj) t.env env≠0):=λh j hj hjk=>by
    by_cases e:j=k
    ·subst e;exact h
    ·exact HN.out j hj (by omega)
   generalize (x.guards[k]'hlt)=y at HV1 HN0 HNs g0 g1 g2 g3 hX;have HXy:=Lib.hid hX;have HV2:=Lib.hid HV1;generalize Yt y t.env env=vy at HV1 HV2 HN0 HNs;clear hX HV1;go_upto_region 4 with fail;generalize hW5:World.alloc wr _=W5;have hB5:Below wr.heap.size wr W5:=by rw[←hW5];exact(Below.refl _ _).alloc (Nat.le_refl _) _
   have hy5:W5.heap[wr.heap.size]? = some (.cells #[.int .i64 y.op,.int .i64 y.n,.string y.name,.slice xa y.args.length xc] 24 (0,0)):=by rw[←hW5];exact zh rfl
   have HT5:Hid (W5.heap[w.heap.size]? = some (.cells #[.int .i64 t.state,.slice al t.env.length cl] 134 (0,0))):=(hB5.block _ (by omega)).trans HTr.out;have HR5:Hid (W5.heap[w.heap.size+2]? = some (.cells #[.int .i64 0,.slice none 0 0] 134 (0,0))):=(hB5.block _ (by omega)).trans HRr.out;have HBw5:Hid (Below w.heap.size w W5):=HBw.out.trans (hB5.mono HBw.out.size);have HBr5:Hid (Below W2.heap.size W2 W5):=HBr.out.trans (hB5.mono hzr);have HV3:=Lib.hid (HV2.out W5 HBw5.out (HXy.out.keep (za hB5)));obtain⟨y0,y1,y2,y3,-⟩:=zR hy5;obtain⟨-,t1,-⟩:=xy HT5.out;clear hW5 hB5 hy5 g0 g1 g2 g3 HV2;by_cases hv:vy=0
   ·have hN:=HN0.out hv;have HNN:=Lib.hid hN;have hvb:(vy==0)=true:=by simp[hv]
    clear hv hN HN0 HNs;go_upto_region 5 with (go_at_call 127;go_must (refine HV3.out.mono ?_;rintro e w6 ⟨rfl,hb6⟩));have hr6:=(hb6.block _ (by have:=lt_of_block HR5.out;omega)).trans HR5.out;obtain⟨r0,r1,rf⟩:=xy hr6;have rf0:=rf 0;have rf1:=rf 1;have HR6:=Lib.hid hr6;have HB6:Hid (Below w.heap.size w w6):=HBw5.out.trans (hb6.mono HBw5.out.size);clear rf hb6 hr6;go_wp2_with fail;refine bodyPost_ret (v:=.tuple #[.agg #[.int .i64 0,.slice none 0 0],.bool false]) (zhF _ rfl _ _ (w.heap.size+2) _ _ _ (ziA HR6.out) rfl rfl) rfl ?_;exact HNN.out _ ((HB6.out.setCell (by simp;omega) _).setCell (by simp;omega) _)
   ·have hvb:(vy==0)=false:=by simp[hv]
    have HNs2:=Lib.hid (HNs.out hv);clear hv HN0 HNs;go_wp2_with (go_at_call 127;go_must (refine HV3.out.mono ?_;rintro e w6 ⟨rfl,hb6⟩;have HB6:=Lib.hid hb6;clear hb6));go_roundw;case rel=>exact⟨k+1,by go_num,by omega,HNs2.out,HBr5.out.trans (HB6.out.mono HBr5.out.size)⟩
    case measure=>(simp[intOf];try omega)
  ·obtain rfl:k=x.guards.length:=by omega
   have HY:=Lib.hid (HYes.out λj hj=>HN.out j hj hj);have HP0:Hid (∀k,w.heap.size<=k->p k=false):=λk hk=>by
    cases hq:p k with
    |false=>rfl
    |true=>have:=Hp.out k hq;omega
   have HCl2:Hid (∀W,Below wr.heap.size wr W->Calls Tryz.prog 79 #[.slice al t.env.length cl] W λe w'=>(∃a c,e=.returned (.slice a t.env.length c)/\∀q:Nat->Bool,(∀k,W.heap.size<=k->k<w'.heap.size->q k=false)->sgE.In (World.hide w' q) t.env a c)/\Below W.heap.size W w'/\Below wr.heap.size wr w'):=λW hW=>(HCl.out W (HBw.out.trans (hW.mono HBw.out.size))).mono λe w' ⟨⟨v,h1,h2⟩,h3⟩=>by obtain⟨a,c,rfl,h6⟩:=Yn h2 (by omega);exact⟨⟨a,c,h1,h6⟩,h3,hW.trans (h3.mono hW.size)⟩
   have HZ:Hid (∀W,Below wr.heap.size wr W->W.cell? ⟨w.heap.size,1,none⟩=some (.slice al t.env.length cl)/\W.cell? ⟨w.heap.size+1,1,none⟩=some (.int .i64 x.to)):=λW hW=>by obtain⟨-,h1,-⟩:=xy ((hW.block _ (by omega)).trans HTr.out);obtain⟨-,h2,-,-,-⟩:=zR ((hW.block _ (by omega)).trans HEr.out);exact⟨h1,h2⟩
   obtain⟨z1,z2⟩:=HZ.out wr (Below.refl _ _);have Z1:∀o,(wr.alloc o).cell? ⟨w.heap.size,1,none⟩=some (.slice al t.env.length cl):=λo=>Lib.cell?_alloc_some _ z1;have Z2:∀o,(wr.alloc o).cell? ⟨w.heap.size+1,1,none⟩=some (.int .i64 x.to):=λo=>Lib.cell?_alloc_some _ z2;clear HNo HYes HVg HCl HN HGs HGa;go_upto_region 7 with fail;go_cut [10] from 28 to 33 (λs10 wx=>∃(k10:Nat) (a:Option Addr) (c:Nat),s10=.pointer (some ⟨k10,0,none⟩)/\Hid (wx.heap[k10]? = some (.cells #[.int .i64 x.to,.slice a t.env.length c] 134 (0,0)))/\Hid (wr.heap.size<=k10)/\Hid (sgE.In (World.hide wx (λj=>p j||j==k10||j==w.heap.size+2)) t.env a c)/\Hid (Below wr.heap.size wr wx));case first =>
    go_region_law (go_simp;go_at_call 79;(with_reducible refine(HCl2.out _ (by first|with_reducible assumption|exact zW)).mono ?_);rintro e v1 ⟨⟨ac,cc,rfl,hin1⟩,hb1,hB1⟩;have HI1:=Lib.hid hin1;have HB1:=Lib.hid hB1;have hs1:=hb1.size;obtain⟨j1,j2⟩:=HZ.out _ hB1;have J1:=λo=>Lib.cell?_alloc_some o j1;have J2:=λo=>Lib.cell?_alloc_some o j2;(try (have hk6:v1.heap[wr.heap.size]? = some (.cells #[.int .i64 0,.slice none 0 0] 134 (0,0)):=(by first|exact hbT hb1 (zh rfl)|exact hbT hb1 (xP (zh rfl))|exact hbT hb1 (zh (by simp)));have HK6:=Lib.hid hk6;obtain⟨k0,k1,kf⟩:=xy hk6;have kf0:=kf 0;have kf1:=kf 1;clear hk6 kf));clear hin1 hb1 hB1)
    all_goals
     go_wp2_with fail;go_meet;case rel =>
      first
      |exact⟨wr.heap.size,ac,cc,rfl,ziA HK6.out,Nat.le_refl _,((HI1.out (λj=>p j||j==wr.heap.size||j==w.heap.size+2) (λk hk hk2=>by have:=HP0.out k (by simp at hk;omega);simp at hk;simp[this];omega)).keep (zj (by simp))).keep (zj (by simp)),(HB1.out.setCell (Nat.le_refl _) _).setCell (Nat.le_refl _) _⟩
      |exact⟨v1.heap.size,ac,cc,rfl,zh rfl,HB1.out.size,(HI1.out (λj=>p j||j==v1.heap.size||j==w.heap.size+2) (λk hk hk2=>by have:=HP0.out k (by simp at hk;omega);simp at hk;simp[this];omega)).keep (zg ((Below.refl _ _).alloc (Nat.le_refl _) _) (λk _ h=>h)),HB1.out.alloc HB1.out.size _⟩
   case rest =>
    obtain⟨kb,ac,cc,e10,HKb,HkG,HI,HBx⟩:=hcut;subst e10;clear HCl2 HZ z1 z2 Z1 Z2;obtain⟨q,hq⟩:∃q:Nat->Bool,(λj=>p j||j==kb||j==w.heap.size+2)=q:=⟨_,rfl⟩;have Q:Hid (∀j,q j=true<->p j=true\/j=kb\/j=w.heap.size+2):=λj=>by rw[←hq];simp[or_assoc]
    rw[hq]at HI;clear hq;have HEc:Hid (wc.heap[w.heap.size+1]? = some (.cells #[.int .i64 x.fr,.int .i64 x.to,.slice ag x.guards.length cg,.slice aS x.sets.length cs] 77 (0,0))):=(HBx.out.block _ (by omega)).trans HEr.out;obtain⟨-,-,-,b3,-⟩:=zR HEc.out;have HBx2:Hid (Below wr.heap.size wr wc):=HBx.out;have HkG2:=HkG.out;rw[←H0.out]at HKb HI;go_wp2_with fail;clear b3;go_loopw [37,12] (λi _ wd=>∃(k:Nat) (a:Option Addr) (c:Nat),i=.int .i64 k/\k<=x.sets.length/\Hid (wd.heap[kb]? = some (.cells #[.int .i64 x.to,.slice a (CU k).length c] 134 (0,0)))/\Hid (sgE.In (World.hide wd q) (CU k) a c)/\Hid (Below wr.heap.size wr wd)) (λi _ _=>x.sets.length-(intOf i).toNat);case atStart=>exact⟨0,ac,cc,rfl,Nat.zero_le _,HKb.out,HI.out,HBx2.out⟩
    case round =>
     (try rename World=>wd)
     obtain⟨k,ak,ck,rfl,hkk,HKd,HId,HBd⟩:=hrel;have hzd:=HBd.out.size;have hkd:=lt_of_block HKd.out;have HBwd:Hid (Below w.heap.size w wd):=HBw.out.trans (HBd.out.mono HBw.out.size);by_cases hltk:k<x.sets.length
     ·obtain⟨bs,os,hsa⟩:=HSa.out.resolve_left (by omega);subst hsa;obtain⟨xa,xc,g0,g1,g2,g3,g4,hnm,hX⟩:=qY (HSs.out.keep (za HBwd.out)) rfl hltk;have HV1:=λW a c hW hX hL=>HVs.out k hltk W xa xc a c hW hX hL;have HW1:=λW a c v h1 h2 h3=>HWi.out k hltk q W a c v h1 h2 h3;have hln:=HLn.out (k+1) (by omega);generalize (x.sets[k]'hltk)=y at HV1 HW1 g0 g1 g2 g3 g4 hnm hX;obtain⟨nm,y⟩:=y;simp only at HV1 HW1 g0 g1 g2 g3 g4 hnm hX;have HXy:=Lib.hid hX;have HV2:=Lib.hid HV1;have HW2:=Lib.hid HW1;generalize Yt y (CU k) env=vy at HV1 HV2 HW1 HW2;clear hX HV1 HW1;go_upto_region 11 with fail;generalize hW5:World.alloc wd _=W5;have hB5:Below wd.heap.size wd W5:=by rw[←hW5];exact(Below.refl _ _).alloc (Nat.le_refl _) _
      have hy5:W5.heap[wd.heap.size]? = some (.cells #[.string nm,.int .i64 y.op,.int .i64 y.n,.string y.name,.slice xa y.args.length xc] 80 (0,0)):=by rw[←hW5];exact zh rfl
      have hk5:W5.heap[kb]? = some (.cells #[.int .i64 x.to,.slice ak (CU k).length ck] 134 (0,0)):=(hB5.block _ hkd).trans HKd.out;have HBw5:Hid (Below w.heap.size w W5):=HBwd.out.trans (hB5.mono HBwd.out.size);have HBr5:Hid (Below wr.heap.size wr W5):=HBd.out.trans (hB5.mono hzd);have HX5:Hid (yA W5 y xa xc):=HXy.out.keep (za hB5);have HI5:Hid (sgE.In (World.hide W5 q) (CU k) ak ck):=HId.out.keep (zg hB5 λ_ _ h=>h);have hz5:=hB5.size;have HQ5:Hid (∀W:World,W5.heap.size<=W.heap.size->∀j,q j=true->j<W.heap.size):=λW hW j hj=>by
       rcases (Q.out j).1 hj with h|h|h
       ·have:=Hp.out j h;have:=HBw5.out.size;omega
       ·omega
       ·omega
      have HV5:Hid (∀W,Below W5.heap.size W5 W->Calls Tryz.prog 127 #[.agg #[.int .i64 y.op,.int .i64 y.n,.string y.name,.slice xa y.args.length xc],.slice ak (CU k).length ck,.slice ae env.length ce] W λe w'=>e=.returned (.int .i64 vy)/\Below W5.heap.size W5 w'):=λW hW=>(HV2.out W ak ck (HBw5.out.trans (hW.mono HBw5.out.size)) (HX5.out.keep (za hW)) ((HI5.out.keep (zg hW λ_ _ h=>h)).keep zc)).mono λe w' h=>⟨h.1,hW.trans (h.2.mono hW.size)⟩;have HW5:Hid (∀W,Below W5.heap.size W5 W->Calls Tryz.prog 76 #[.slice ak (CU k).length ck,.string nm,.int .i64 vy] W λe w'=>(∃a c,e=.returned (.slice a (CU (k+1)).length c)/\sgE.In (World.hide w' q) (CU (k+1)) a c)/\Below W5.heap.size W5 w'):=λW hW=>(HW2.out W ak ck vy (HI5.out.keep (zg hW λ_ _ h=>h)) (HQ5.out W hW.size) rfl).mono λe w' ⟨⟨v,h1,h2⟩,h3⟩=>by
       obtain⟨a,c,rfl,h6⟩:=Yn h2 (by omega);exact⟨⟨a,c,h1,h6 q λk hk _=>by
        cases hqk:q k with
        |false=>rfl
        |true=>have:=HQ5.out W hW.size k hqk;omega⟩,hW.trans (h3.mono hW.size)⟩
      have HZb:Hid (∀W,Below W5.heap.size W5 W->W.heap[kb]? = some (.cells #[.int .i64 x.to,.slice ak (CU k).length ck] 134 (0,0))):=λW hW=>(hW.block _ (lt_of_block hk5)).trans hk5;have HZy:Hid (∀W,Below W5.heap.size W5 W->W.heap[wd.heap.size]? = some (.cells #[.string nm,.int .i64 y.op,.int .i64 y.n,.string y.name,.slice xa y.args.length xc] 80 (0,0))):=λW hW=>(hW.block _ (lt_of_block hy5)).trans hy5;obtain⟨-,k1,kf⟩:=xy hk5;have kf1:=kf 1;obtain⟨y0,y1,y2,y3,y4⟩:=zer hy5;clear hW5 hB5 hy5 hk5 g0 g1 g2 g3 g4 kf HV2 HW2 HVs HWi
      go_region_law (first
       |(go_simp;go_at_call 127;(with_reducible refine(HV5.out _ (by first|with_reducible assumption|exact zW)).mono ?_);rintro e v1 ⟨rfl,hB1⟩;obtain⟨-,i1,i_f⟩:=xy (HZb.out _ hB1);have if1:=i_f 1;obtain⟨m0,m1,m2,m3,m4⟩:=zer (HZy.out _ hB1);clear i_f)
       |(go_simp;go_at_call 76;(with_reducible refine(HW5.out _ (by first|with_reducible assumption|exact zW)).mono ?_);rintro e v2 ⟨⟨a2,c2,rfl,hin2⟩,hB2⟩;obtain⟨-,l1,lf⟩:=xy (HZb.out _ hB2);have lf1:=lf 1;have HIn2:=Lib.hid hin2;have HB2v:=Lib.hid hB2;clear hin2 hB2 lf))
      all_goals
       have HK9:Hid ((v2.setCell ⟨kb,1,none⟩ (.slice a2 (CU (k+1)).length c2)).heap[kb]? = some (.cells #[.int .i64 x.to,.slice a2 (CU (k+1)).length c2] 134 (0,0))):=by show _=_;rw[heap_setCell_same v2 kb 1 _ _ _ (HZb.out v2 HB2v.out)];rfl
       have HI9:Hid (sgE.In (World.hide (v2.setCell ⟨kb,1,none⟩ (.slice a2 (CU (k+1)).length c2)) q) (CU (k+1)) a2 c2):=HIn2.out.keep (zj ((Q.out kb).2 (Or.inr (Or.inl rfl))));have HB9:Hid (Below wr.heap.size wr (v2.setCell ⟨kb,1,none⟩ (.slice a2 (CU (k+1)).length c2))):=(HBr5.out.trans (HB2v.out.mono HBr5.out.size)).setCell HkG2 _;go_wp2_with fail;go_roundw;case rel=>exact⟨k+1,a2,c2,by go_num,by omega,HK9.out,HI9.out,HB9.out⟩
       case measure=>(simp[intOf];try omega)
     ·obtain rfl:k=x.sets.length:=by omega
      have hr6:=(HBd.out.block (w.heap.size+2) (by omega)).trans HRr.out;obtain⟨r0,r1,rf⟩:=xy hr6;have rf0:=rf 0;have rf1:=rf 1;obtain⟨k0,k1,-⟩:=xy HKd.out;have HR6:=Lib.hid hr6;clear rf hr6;go_wp2_with fail;refine bodyPost_ret (v:=.tuple #[.agg #[.int .i64 x.to,.slice ak (CU x.sets.length).length ck],.bool true]) (zhF _ rfl _ _ (w.heap.size+2) _ _ _ (ziA HR6.out) rfl rfl) rfl ?_;refine HY.out _ ak ck ((HBwd.out.setCell (by simp;omega) _).setCell (by simp;omega) _) ?_;have hq2:q (w.heap.size+2)=true:=(Q.out _).2 (Or.inr (Or.inr rfl));exact((HId.out.keep (zj hq2)).keep (zj hq2)).keep (zB λj hj=>(Q.out j).2 (Or.inl hj))
theorem QT (y:yV) (ay:Option Addr) (cy:Nat) (l:List yV) (a:Option Addr) (cap:Nat) (w:World) (hE:thE.In w l a cap) (hY:yi w y.env ay cy)
 (hmono:∀i j (hi:i<l.length) (hj:j<l.length),i<=j->zu (l[j]'hj) y<0->zu (l[i]'hi) y<0) :
 Calls Tryz.prog 73 #[.slice a l.length cap,.agg #[.int .i64 y.state,.slice ay y.env.length cy],.func (.func 74) #[] #[]] w (ZW (λx=>zu x y) l w):=by
 have HC:Hid (∀(x:yV) ax cx W,Below w.heap.size w W->yi W x.env ax cx->Calls Tryz.prog 74 #[.agg #[.int .i64 x.state,.slice ax x.env.length cx],.agg #[.int .i64 y.state,.slice ay y.env.length cy]] W λe w'=>e=.returned (.int .i64 (zu x y))/\Below W.heap.size W w'):=λx ax cx W hW hx=>zc8 x y ax ay cx cy W hx (hY.keep (za hW));have HE:=Lib.hid hE;have HM:=Lib.hid hmono;have hlen:=hE.len;have HA:Hid (l.length=0\/∃b off,a=some ⟨b,off,none⟩):=hE.addr;have HPo:Hid (∀i,i<=l.length->(∀t (ht:t<l.length),t<i->zu (l[t]'ht) y<0)->(∀t (ht:t<l.length),i<=t->0<=zu (l[t]'ht) y)->∀W,Below w.heap.size w W->(∀(h:i<l.length),ZW (λx=>zu x y) l w (.returned (.tuple #[.int .i64 i,.bool (decide (zu (l[i]'h) y=0))])) W)/\(¬i<l.length->ZW (λx=>zu x y) l w (.returned (.tuple #[.int .i64 i,.bool false])) W)):=λi hi h1 h2 W hb=>by
  have e:bsP (λx=>zu x y) l=i:=Ql _ l i hi (λt ht hti=>decide_eq_true (h1 t ht hti)) (λt ht hti=>decide_eq_false (show ¬zu (l[t]'ht) y<0 by have:=h2 t ht hti;omega));refine⟨λh=>⟨?_,hb⟩,λh=>⟨?_,hb⟩⟩
  ·unfold bsF;rw[e,List.getElem?_eq_getElem h]
  ·unfold bsF;rw[e,List.getElem?_eq_none (by omega)]
 generalize ZW (λx=>zu x y) l w=Po at HPo⊢;clear hE hY hmono;go_enter Tryz.func73, Tryz.ntmps73;go_upto_region 1 with fail;generalize hW2:World.alloc w _=W2;have HB2:Hid (Below w.heap.size w W2):=by show Below _ _ _;rw[←hW2];exact(Below.refl _ _).alloc (Nat.le_refl _) _
 have HX2:Hid (W2.heap[w.heap.size]? = some (.cells #[.int .i64 y.state,.slice ay y.env.length cy] 134 (0,0))):=by show _=_;rw[←hW2];exact zh rfl
 have hz2:w.heap.size+1<=W2.heap.size:=by rw[←hW2];simp
 clear hW2;go_wp2_with fail;go_loopg [9,10,11] l.length (λkx s9 s10 _ wr=>∃lo hi:Nat,s9=.int .i64 lo/\s10=.int .i64 hi/\lo<=hi/\hi<=l.length/\hi-lo<=kx/\Hid ((∀t (ht:t<l.length),t<lo->zu (l[t]'ht) y<0)/\(∀t (ht:t<l.length),hi<=t->0<=zu (l[t]'ht) y))/\Hid (Below W2.heap.size W2 wr));case atStart=>exact⟨0,l.length,rfl,rfl,Nat.zero_le _,Nat.le_refl _,by omega,⟨λt ht h=>absurd h (by omega),λt ht h=>absurd h (by omega)⟩,Below.refl _ _⟩
 case round =>
  (try rename World=>wr)
  obtain⟨lo,hi,rfl,rfl,hlh,hin,hg,HI,HBr⟩:=hrel;have hzr:=HBr.out.size;have HBw:Hid (Below w.heap.size w wr):=HB2.out.trans (HBr.out.mono HB2.out.size);obtain⟨x0,x1,-⟩:=xy ((HBr.out.block w.heap.size (by omega)).trans HX2.out);by_cases hlt:lo<hi
  ·have hmn:(lo+hi) / 2<l.length:=by omega
   have hm1:lo<=(lo+hi) / 2:=by omega
   have hm2:(lo+hi) / 2<hi:=by omega
   have hmi:((lo:Int)+(hi:Int)) / 2<(l.length:Int):=by omega
   have hltI:(lo:Int)<(hi:Int):=by omega
   have hm0:(0:Int)<=((lo:Int)+(hi:Int)) / 2:=by omega
   have htn:(((lo:Int)+(hi:Int)) / 2).toNat=(lo+hi) / 2:=by omega
   obtain⟨b,off,ha⟩:=HA.out.resolve_left (by omega);subst ha;obtain⟨xa,xc,g0,g1,hx⟩:=XY (HE.out.keep (za HBw.out)) rfl hmn;have hC:=λW (hW:Below wr.heap.size wr W)=>(HC.out (l[(lo+hi) / 2]'hmn) xa xc W (HBw.out.trans (Below.mono hW HBw.out.size)) (yi.keep (za hW) hx)).mono λe w' h=>(⟨h.1,hW.trans (h.2.mono hW.size)⟩:_/\Below wr.heap.size wr w');have HY1:Hid (zu (l[(lo+hi) / 2]'hmn) y<0->∀t (ht:t<l.length),t<(lo+hi) / 2+1->zu (l[t]'ht) y<0):=λh t ht htm=>HM.out t ((lo+hi) / 2) ht hmn (by omega) h;have HY2:Hid (¬zu (l[(lo+hi) / 2]'hmn) y<0->∀t (ht:t<l.length),(lo+hi) / 2<=t->0<=zu (l[t]'ht) y):=λh t ht htm=>Int.not_lt.1 λh2=>h (HM.out ((lo+hi) / 2) t hmn ht htm h2);generalize (l[(lo+hi) / 2]'hmn)=x at *;have HCc:=Lib.hid hC;clear hC hx;generalize zu x y=cv at HCc HY1 HY2;by_cases hcv:cv<0
   ·have HN:=Lib.hid (HY1.out hcv);go_upto_region 5 with fail;go_region_law (go_simp;(with_reducible refine(HCc.out _ (by first|with_reducible assumption|exact zW)).mono ?_);rintro e w5 ⟨rfl,hb5⟩)
    all_goals
     have HB5:Hid (Below W2.heap.size W2 w5):=HBr.out.trans (Below.mono hb5 hzr);clear hb5;go_wp2_with fail;go_roundg (hi-((lo+hi) / 2+1));case measure=>omega
     case rel=>exact⟨(lo+hi) / 2+1,hi,by rw[show ((lo:Int)+(hi:Int)) / 2+1=(((lo+hi) / 2+1:Nat):Int) by omega],rfl,by omega,hin,Nat.le_refl _,⟨HN.out,HI.out.2⟩,HB5.out⟩
   ·have HN:=Lib.hid (HY2.out hcv);go_upto_region 5 with fail;go_region_law (go_simp;(with_reducible refine(HCc.out _ (by first|with_reducible assumption|exact zW)).mono ?_);rintro e w5 ⟨rfl,hb5⟩)
    all_goals
     have HB5:Hid (Below W2.heap.size W2 w5):=HBr.out.trans (Below.mono hb5 hzr);clear hb5;go_wp2_with fail;go_roundg ((lo+hi) / 2-lo);case measure=>omega
     case rel=>exact⟨lo,(lo+hi) / 2,rfl,by rw[show ((lo:Int)+(hi:Int)) / 2=(((lo+hi) / 2:Nat):Int) by omega],by omega,by omega,Nat.le_refl _,⟨HI.out.1,HN.out⟩,HB5.out⟩
  ·obtain rfl:hi=lo:=by omega
   have HF:=Lib.hid (HPo.out hi hin HI.out.1 HI.out.2);by_cases hmn:hi<l.length
   ·have hmnI:(hi:Int)<(l.length:Int):=by omega
    obtain⟨b,off,ha⟩:=HA.out.resolve_left (by omega);subst ha;obtain⟨xa,xc,g0,g1,hx⟩:=XY (HE.out.keep (za HBw.out)) rfl hmn;have hC:=λW (hW:Below wr.heap.size wr W)=>(HC.out (l[hi]'hmn) xa xc W (HBw.out.trans (Below.mono hW HBw.out.size)) (yi.keep (za hW) hx)).mono λe w' h=>(⟨h.1,hW.trans (h.2.mono hW.size)⟩:_/\Below wr.heap.size wr w');have HF2:Hid (∀W,Below w.heap.size w W->Po (.returned (.tuple #[.int .i64 hi,.bool (decide (zu (l[hi]'hmn) y=0))])) W):=λW hW=>(HF.out W hW).1 hmn;clear HF;generalize (l[hi]'hmn)=x at *;have HCc:=Lib.hid hC;clear hC hx;have HALL:Hid (∀W,Below wr.heap.size wr W->W.cell? ⟨w.heap.size,0,none⟩=some (.int .i64 y.state)/\W.cell? ⟨w.heap.size,1,none⟩=some (.slice ay y.env.length cy)/\W.cell? ⟨b,off+hi*2,none⟩=some (.int .i64 x.state)/\W.cell? ⟨b,off+hi*2+1,none⟩=some (.slice xa x.env.length xc)):=λW hW=>⟨za hW _ _ x0,za hW _ _ x1,za hW _ _ g0,za hW _ _ g1⟩;generalize zu x y=cv at HCc HF2;by_cases hcv:cv=0
    ·subst hcv;go_wp2_with fail
     go_region_held3 (λw'=>Below wr.heap.size wr w'/\w'.cell? ⟨w.heap.size,0,none⟩=some (.int .i64 y.state)/\w'.cell? ⟨w.heap.size,1,none⟩=some (.slice ay y.env.length cy)/\w'.cell? ⟨b,off+hi*2,none⟩=some (.int .i64 x.state)/\w'.cell? ⟨b,off+hi*2+1,none⟩=some (.slice xa x.env.length xc))
      ((refine(λh=>⟨h,HALL.out _ h⟩) ?_;first|with_reducible assumption|exact zW))
      (first|(go_at_fn 74;(with_reducible refine(HCc.out _ (by first|with_reducible assumption|exact zW)).mono ?_);rintro e w5 ⟨rfl,hb5⟩)|((with_reducible refine(HCc.out _ (by first|with_reducible assumption|exact zW)).mono ?_);rintro e w5 ⟨rfl,hb5⟩))
     all_goals
      have HB5:Hid (Below w.heap.size w w5):=HBw.out.trans (Below.mono hb5 HBw.out.size);have HF3:=Lib.hid (HF2.out w5 HB5.out);clear hb5;go_wp2_with fail;first|exact HF3.out|(go_ret2;exact HF3.out)
    ·have hcb:(cv==0)=false:=by simp[hcv]
     have HF4:Hid (∀W,Below w.heap.size w W->Po (.returned (.tuple #[.int .i64 hi,.bool false])) W):=λW hW=>by have:=HF2.out W hW;rwa [decide_eq_false hcv]at this
     go_wp2_with fail
     go_region_held3 (λw'=>Below wr.heap.size wr w'/\w'.cell? ⟨w.heap.size,0,none⟩=some (.int .i64 y.state)/\w'.cell? ⟨w.heap.size,1,none⟩=some (.slice ay y.env.length cy)/\w'.cell? ⟨b,off+hi*2,none⟩=some (.int .i64 x.state)/\w'.cell? ⟨b,off+hi*2+1,none⟩=some (.slice xa x.env.length xc))
      ((refine(λh=>⟨h,HALL.out _ h⟩) ?_;first|with_reducible assumption|exact zW))
      (first|(go_at_fn 74;(with_reducible refine(HCc.out _ (by first|with_reducible assumption|exact zW)).mono ?_);rintro e w5 ⟨rfl,hb5⟩)|((with_reducible refine(HCc.out _ (by first|with_reducible assumption|exact zW)).mono ?_);rintro e w5 ⟨rfl,hb5⟩))
     all_goals
      have HB5:Hid (Below w.heap.size w w5):=HBw.out.trans (Below.mono hb5 HBw.out.size);have HF3:=Lib.hid (HF4.out w5 HB5.out);clear hb5;go_wp2_with fail;first|exact HF3.out|(go_ret2;exact HF3.out)
   ·have HF3:=Lib.hid ((HF.out wr HBw.out).2 hmn);have hmnI:decide ((hi:Int)<(l.length:Int))=false:=decide_eq_false (by omega);go_wp2_with fail;go_quiet (fail);go_wp2_with fail;have HF5:Hid (∀W,Below w.heap.size w W->Po (.returned (.tuple #[.int .i64 hi,.bool false])) W):=λW hW=>(HF.out W hW).2 hmn;first|exact HF5.out _ (HBw.out.trans (below_drewN (Below.refl _ _) _))|exact HF5.out _ (below_drewN HBw.out _)|exact HF3.out|(go_ret2;exact HF5.out _ (below_drewN HBw.out _))
theorem zfI (env:List Sg) (t:yV) (out:List yV) (e:zk):(x4 env t out e).length<=out.length+1:=by
 unfold x4;split
 ·split
  ·exact zgv _ _
  ·omega
 ·omega
theorem QD (n:zt) (env:List Sg) (out:List yV) (t:yV):stepT n env out t 0=out:=by unfold stepT;simp
theorem zcL (n:zt) (env:List Sg) (out:List yV) (t:yV) {k:Nat} (h:k<n.edges.length):stepT n env out t (k+1)=x4 env t (stepT n env out t k) (n.edges[k]'h):=by unfold stepT;rw[List.take_succ_eq_append_getElem h,List.foldl_append];rfl
theorem ZR (n:zt) (env:List Sg) (out:List yV) (t:yV) (ha:Asc zu out):∀k,k<=n.edges.length->Asc zu (stepT n env out t k)/\(stepT n env out t k).length<=out.length+k
 |0,_=>by rw[QD];exact⟨ha,by omega⟩
 |k+1,h=>by obtain⟨h1,h2⟩:=ZR n env out t ha k (by omega);rw[zcL n env out t (by omega:k<n.edges.length)];have:=zfI env t (stepT n env out t k) (n.edges[k]'(by omega));exact⟨zaw h1,by omega⟩
theorem XW (n:zt) (env:List Sg) (l:List yV):yw n env l 0=[]:=by unfold yw;simp
theorem zbj (n:zt) (env:List Sg) (l:List yV) {k:Nat} (h:k<l.length):yw n env l (k+1)=stepT n env (yw n env l k) (l[k]'h) n.edges.length:=by unfold yw;rw[List.take_succ_eq_append_getElem h,List.foldl_append];rfl
theorem Yp (n:zt) (env:List Sg) (l:List yV):∀k,k<=l.length->Asc zu (yw n env l k)/\(yw n env l k).length<=k*n.edges.length
 |0,_=>by rw[XW];exact⟨List.Pairwise.nil,by simp⟩
 |k+1,h=>by obtain⟨h1,h2⟩:=Yp n env l k (by omega);rw[zbj n env l (by omega:k<l.length)];obtain⟨h3,h4⟩:=ZR n env (yw n env l k) (l[k]'(by omega)) h1 n.edges.length (Nat.le_refl _);exact⟨h3,by rw[Nat.add_mul];omega⟩
theorem zhU {l:List yV} {y:yV} (ha:Asc zu l):(bsF (λx:yV=>zu x y) l=true->X8 zu l y=l)/\(bsF (λx:yV=>zu x y) l=false->bsP (λx:yV=>zu x y) l<=l.length/\X8 zu l y=l.take (bsP (λx:yV=>zu x y) l)++y::l.drop (bsP (λx:yV=>zu x y) l)):=by
 have e:bsP (λx:yV=>zu x y) l=zd7 zu l y:=rfl;have hle:zd7 zu l y<=l.length:=List.countP_le_length;unfold bsF;rw[e,zic QV ha];cases hx:l[zd7 zu l y]? with
 |none=>simp[hle]
 |some x =>simp only[Option.any_some,decide_eq_true_eq,decide_eq_false_iff_not];exact⟨λh=>by rw[if_pos h],λh=>⟨hle,by rw[if_neg h]⟩⟩
theorem zel {l:List yV} {y:yV} (h:Asc zu l):∀i j (hi:i<l.length) (hj:j<l.length),i<=j->zu (l[j]'hj) y<0->zu (l[i]'hi) y<0:=λi j hi hj hij h2=>by
 by_cases e:i=j
 ·subst e;exact h2
 ·exact QV.trans _ _ _ (List.pairwise_iff_getElem.1 h i j hi hj (by omega)) h2
theorem zdo {l:List Sg} (h:xm l=true):zbq l:=by have h1:=XE.1 h;exact h1.1
end Go.Proofs.YtnfkbliokjjggaaGreatDoor
