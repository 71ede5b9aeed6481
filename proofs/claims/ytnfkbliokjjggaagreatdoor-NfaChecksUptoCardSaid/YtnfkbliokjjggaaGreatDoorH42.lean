/- ref41: Start, Accepting. -/
import Derived.Test.YtnfkbliokjjggaaGreatDoorH40
import Derived.Test.YtnfkbliokjjggaaGreatDoorH08
import Derived.Test.YtnfkbliokjjggaaGreatDoorH03
set_option maxHeartbeats 8000000
set_option maxRecDepth 100000
set_option linter.unusedSimpArgs false
set_option linter.unusedVariables false
set_option linter.unnecessarySimpa false
namespace Go.Proofs.YtnfkbliokjjggaaGreatDoor
open Go.RowKit
attribute [local go_sem ↓] Go.wp_at_zero Go.wp_at_succ
theorem zba (e:Ex) (a:Option Addr) (c:Nat) (w:World) (h:yA w e a c) (hn:e.nodes.length<=1000000000):Calls Tryz.prog 103 #[zL e a c] w λe' w'=>e'=.returned (.int .i64 (zD e))/\Below w.heap.size w w':=by obtain⟨op,n,s,args⟩:=e;exact zdG op n s args a c w h (by omega)
theorem zdI (e:zk) (ag:Option Addr) (cg:Nat) (aS:Option Addr) (cs:Nat) (w:World) (h1:exE.In w e.guards ag cg) (h2:bdE.In w e.sets aS cs) (hs:ZJ e) :
 Calls Tryz.prog 43 #[yX e ag cg aS cs] w (yW (e.guards.all okX&&e.sets.all YT) w):=by
 have H1:=Lib.hid h1;have H2:=Lib.hid h2;have HS:=Lib.hid hs;have hl1:=h1.len;have hl2:=h2.len;have HA1:Hid (e.guards.length=0\/∃b off,ag=some ⟨b,off,none⟩):=h1.addr;have HA2:Hid (e.sets.length=0\/∃b off,aS=some ⟨b,off,none⟩):=h2.addr;unfold yX;obtain⟨fr,tt,gs,ss⟩:=e;simp only at H1 H2 hl1 hl2 HA1 HA2⊢;have HNo1:Hid (∀k (hk:k<gs.length),okX (gs[k]'hk)=false->∀W,Below w.heap.size w W->yW (gs.all okX&&ss.all YT) w (.returned (.bool false)) W):=λk hk h W hW=>⟨by rw[Qc hk h];rfl,hW⟩;have HNo2:Hid (∀k (hk:k<ss.length),YT (ss[k]'hk)=false->∀W,Below w.heap.size w W->yW (gs.all okX&&ss.all YT) w (.returned (.bool false)) W):=λk hk h W hW=>⟨by rw[Qc hk h,Bool.and_false],hW⟩;have HYes:Hid ((∀k (hk:k<gs.length),okX (gs[k]'hk)=true)->(∀k (hk:k<ss.length),YT (ss[k]'hk)=true)->∀W,Below w.heap.size w W->yW (gs.all okX&&ss.all YT) w (.returned (.bool true)) W):=λh3 h4 W hW=>⟨by rw[Yv h3,Yv h4];rfl,hW⟩;generalize yW (gs.all okX&&ss.all YT) w=Po at HNo1 HNo2 HYes⊢;clear h1 h2 hs;go_enter Tryz.func43, Tryz.ntmps43;go_upto_region 1 with fail;generalize hW2:World.alloc w _=W2;have HB2:Hid (Below w.heap.size w W2):=by show Below _ _ _;rw[←hW2];exact(Below.refl _ _).alloc (Nat.le_refl _) _
 have HX2:Hid (W2.heap[w.heap.size]? = some (.cells #[.int .i64 fr,.int .i64 tt,.slice ag gs.length cg,.slice aS ss.length cs] 77 (0,0))):=by show _=_;rw[←hW2];exact zh rfl
 have hz2:w.heap.size+1<=W2.heap.size:=by rw[←hW2];simp
 have HXw:Hid (∀W,Below W2.heap.size W2 W->W.cell? ⟨w.heap.size,2,none⟩=some (.slice ag gs.length cg)/\W.cell? ⟨w.heap.size,3,none⟩=some (.slice aS ss.length cs)):=λW hW=>by obtain⟨-,-,x2,x3,-⟩:=zR ((hW.block _ (by omega)).trans HX2.out);exact⟨x2,x3⟩
 clear hW2 HX2;go_wp2_with fail;go_loopw [3] (λi wr=>∃k:Nat,i=.int .i64 k/\k<=gs.length/\Hid (∀j (hj:j<gs.length),j<k->okX (gs[j]'hj)=true)/\Hid (Below W2.heap.size W2 wr)) (λi _=>gs.length-(intOf i).toNat);case atStart=>exact⟨0,rfl,Nat.zero_le _,λ_ _ h=>absurd h (Nat.not_lt_zero _),Below.refl _ _⟩
 case round =>
  (try rename World=>wr)
  obtain⟨k,rfl,hk,HAl,HBr⟩:=hrel;have HBw:Hid (Below w.heap.size w wr):=HB2.out.trans (HBr.out.mono HB2.out.size);have hzr:=HBr.out.size;obtain⟨x2,x3⟩:=HXw.out wr HBr.out;by_cases hlt:k<gs.length
  ·have hkl:(k:Int)<gs.length:=by omega
   obtain⟨b,off,ha⟩:=HA1.out.resolve_left (by omega);subst ha;obtain⟨a',cap',g0,g1,g2,g3,hX⟩:=Zc (H1.out.keep (za HBw.out)) rfl hlt;have hn:=HS.out.gs _ (List.getElem_mem hlt);have HNx:Hid (okX (gs[k]'hlt)=true->∀j (hj:j<gs.length),j<k+1->okX (gs[j]'hj)=true):=λhv j hj hjk=>by
    by_cases e:j=k
    ·subst e;exact hv
    ·exact HAl.out j hj (by omega)
   have HNn:=Lib.hid (HNo1.out k hlt);have HV:=Lib.hid (zba (gs[k]'hlt) a' cap' wr hX hn);have HOk:Hid (okX (gs[k]'hlt)=(zD (gs[k]'hlt)==0)):=rfl;clear hX hn;generalize (gs[k]'hlt)=y at g0 g1 g2 g3 HNx HNn HV HOk;unfold zL at HV;by_cases hv:zD y=0
   ·have HOk2:=Lib.hid (HNx.out (by rw[HOk.out,hv];rfl));rw[hv]at HV;clear HNx HNn HOk hv;go_wp2_with (go_at_call 103;go_must (refine HV.out.mono ?_;rintro e w5 ⟨rfl,hb5⟩));have HB5:Hid (Below W2.heap.size W2 w5):=HBr.out.trans (hb5.mono hzr);clear hb5;go_roundw;case rel=>exact⟨k+1,by go_num,by omega,HOk2.out,HB5.out⟩
    case measure=>(simp[intOf];try omega)
   ·have HF:=Lib.hid (HNn.out (by rw[HOk.out];exact beq_eq_false_iff_ne.2 hv));have hv':(zD y != 0)=true:=by simpa using hv
    generalize zD y=vv at HV hv hv';clear HNx HNn HOk hv;go_wp2_with (go_at_call 103;go_must (refine HV.out.mono ?_;rintro e w5 ⟨rfl,hb5⟩));have HF2:=Lib.hid (HF.out w5 (HBw.out.trans (hb5.mono HBw.out.size)));clear hb5;first|exact HF2.out|(go_ret2;exact HF2.out)
  ·obtain rfl:k=gs.length:=by omega
   have HAg:Hid (∀j (hj:j<gs.length),okX (gs[j]'hj)=true):=λj hj=>HAl.out j hj hj;clear HAl;go_wp2_with fail;go_loopw [4] (λi wq=>∃k:Nat,i=.int .i64 k/\k<=ss.length/\Hid (∀j (hj:j<ss.length),j<k->YT (ss[j]'hj)=true)/\Hid (Below W2.heap.size W2 wq)) (λi _=>ss.length-(intOf i).toNat);case atStart=>exact⟨0,rfl,Nat.zero_le _,λ_ _ h=>absurd h (Nat.not_lt_zero _),HBr.out⟩
   case round =>
    (try rename World=>wq)
    obtain⟨m,rfl,hm,HAm,HBq⟩:=hrel;have HBw2:Hid (Below w.heap.size w wq):=HB2.out.trans (HBq.out.mono HB2.out.size);have hzq:=HBq.out.size;obtain⟨x2,x3⟩:=HXw.out wq HBq.out;by_cases hlt2:m<ss.length
    ·have hkl:(m:Int)<ss.length:=by omega
     obtain⟨b,off,ha⟩:=HA2.out.resolve_left (by omega);subst ha;obtain⟨a',cap',g0,g1,g2,g3,g4,hns,hX⟩:=qY (H2.out.keep (za HBw2.out)) rfl hlt2;have hn:=HS.out.ss _ (List.getElem_mem hlt2);have HNx:Hid (YT (ss[m]'hlt2)=true->∀j (hj:j<ss.length),j<m+1->YT (ss[j]'hj)=true):=λhv j hj hjk=>by
      by_cases e:j=m
      ·subst e;exact hv
      ·exact HAm.out j hj (by omega)
     have HNn:=Lib.hid (HNo2.out m hlt2);have HV:=Lib.hid (λW (hW:Below wq.heap.size wq W)=>zba (ss[m]'hlt2).expr a' cap' W (hX.keep (za hW)) hn);have HNm:=Lib.hid (qM (ss[m]'hlt2).name wq hns);have HOk:Hid (YT (ss[m]'hlt2)=(yQ (ss[m]'hlt2).name.data.toList&&(zD (ss[m]'hlt2).expr==0))):=rfl;clear hX hn hns;generalize (ss[m]'hlt2)=y at g0 g1 g2 g3 g4 HNx HNn HV HOk HNm;obtain⟨nm,x⟩:=y;simp only at g0 g1 g2 g3 g4 HV HOk HNm;unfold zL at HV;generalize yQ nm.data.toList=nb at HNm HOk;cases nb
     ·have HF:=Lib.hid (HNn.out (by rw[HOk.out];rfl));clear HNx HNn HOk HV;go_wp2_with (go_at_call 104;go_must (refine HNm.out.mono ?_;rintro e w5 ⟨rfl,hb5⟩));have HF2:=Lib.hid (HF.out w5 (HBw2.out.trans (hb5.mono HBw2.out.size)));clear hb5;first|exact HF2.out|(go_ret2;exact HF2.out)
     ·by_cases hv:zD x=0
      ·have HOk2:=Lib.hid (HNx.out (by rw[HOk.out,hv];rfl));rw[hv]at HV;clear HNx HNn HOk hv
       go_wp2_with (first
        |(go_at_call 104;go_must (refine HNm.out.mono ?_;rintro e w5 ⟨rfl,hb5⟩;have HB5:=Lib.hid hb5;have e0:=za hb5 _ _ x3;have e1:=za hb5 _ _ g1;have e2:=za hb5 _ _ g2;have e3:=za hb5 _ _ g3;have e4:=za hb5 _ _ g4;clear hb5))
        |(go_at_call 103;go_must (refine(HV.out _ HB5.out).mono ?_;rintro e w6 ⟨rfl,hb6⟩)))
       have HB6:Hid (Below W2.heap.size W2 w6):=HBq.out.trans ((HB5.out.trans (hb6.mono HB5.out.size)).mono hzq);clear hb6;go_roundw;case rel=>exact⟨m+1,by go_num,by omega,HOk2.out,HB6.out⟩
       case measure=>(simp[intOf];try omega)
      ·have HF:=Lib.hid (HNn.out (by rw[HOk.out];exact beq_eq_false_iff_ne.2 hv));have hv':(zD x != 0)=true:=by simpa using hv
       generalize zD x=vv at HV hv hv';clear HNx HNn HOk hv
       go_wp2_with (first
        |(go_at_call 104;go_must (refine HNm.out.mono ?_;rintro e w5 ⟨rfl,hb5⟩;have HB5:=Lib.hid hb5;have e0:=za hb5 _ _ x3;have e1:=za hb5 _ _ g1;have e2:=za hb5 _ _ g2;have e3:=za hb5 _ _ g3;have e4:=za hb5 _ _ g4;clear hb5))
        |(go_at_call 103;go_must (refine(HV.out _ HB5.out).mono ?_;rintro e w6 ⟨rfl,hb6⟩)))
       have HF2:=Lib.hid (HF.out w6 (HBw2.out.trans ((HB5.out.trans (hb6.mono HB5.out.size)).mono HBw2.out.size)));clear hb6;first|exact HF2.out|(go_ret2;exact HF2.out)
    ·obtain rfl:m=ss.length:=by omega
     have HF:=Lib.hid (HYes.out HAg.out (λj hj=>HAm.out j hj hj) wq HBw2.out);go_wp2_with fail;first|exact HF.out|(go_ret2;exact HF.out)
theorem zcw (w:World):Calls Tryz.prog 42 #[] w λe w'=>e=.returned (.int .i64 4096)/\w'=w:=by go_enter Tryz.func42, Tryz.ntmps42;go_wp2_with fail;go_ret;exact⟨rfl,rfl⟩
theorem ZM (n:zt) (x:qn) (w:World) (hE:yb w n x) (hs:qq n) :
 Calls Tryz.prog 15 #[ye n x] w (yW (zC n) w):=by
 have H1:=Lib.hid hE.es;have H2:=Lib.hid hE.ac;have HS:=Lib.hid hs;have hl1:=hE.es.len;have hl2:=hE.ac.2.1;have HA1:Hid (n.edges.length=0\/∃b off,x.ae=some ⟨b,off,none⟩):=hE.es.addr;have HA2:Hid (n.accept.length=0\/∃b off,x.aa=some ⟨b,off,none⟩):=zw.addr hE.ac;have HR0:Hid (¬(1<=n.states/\n.states<=256/\n.edges.length<=4096)->zC n=false):=λh=>by unfold zC;rw[decide_eq_false h];rfl
 have HR1:Hid ((1<=n.states/\n.states<=256/\n.edges.length<=4096)->zC n=(n.edges.all (edgeOk n.states)&&X5 n.states n.accept n.accept.length)):=λh=>by unfold zC;rw[decide_eq_true h,Bool.true_and]
 have HEx:Hid (∀k (hk:k<n.edges.length) W ag cg aS cs,exE.In W (n.edges[k]'hk).guards ag cg->bdE.In W (n.edges[k]'hk).sets aS cs->Calls Tryz.prog 43 #[.agg #[.int .i64 (n.edges[k]'hk).fr,.int .i64 (n.edges[k]'hk).to,.slice ag (n.edges[k]'hk).guards.length cg,.slice aS (n.edges[k]'hk).sets.length cs]] W (yW ((n.edges[k]'hk).guards.all okX&&(n.edges[k]'hk).sets.all YT) W)):=λk hk W ag cg aS cs h1 h2=>zdI (n.edges[k]'hk) ag cg aS cs W h1 h2 (hs _ (List.getElem_mem hk));clear hE hs;rw[zz];have HPo:Hid (∀b,b=zC n->∀W,Below w.heap.size w W->yW (zC n) w (.returned (.bool b)) W):=λb h W hW=>⟨by rw[h],hW⟩;generalize yW (zC n) w=Po at HPo⊢;generalize zC n=R at HR0 HR1 HPo;obtain⟨st,es,ac⟩:=n;obtain⟨ae,ce,aa,ca⟩:=x;simp only at H1 H2 hl1 hl2 HA1 HA2 HR0 HR1 HEx⊢;have HB0:Hid (Below w.heap.size w (w.alloc (.cells #[.int .i64 st,.slice ae es.length ce,.slice aa ac.length ca] 33))):=by show Below _ _ _;exact bel
 by_cases hA:st<1
 ·have hd1:decide (st<1)=true:=decide_eq_true hA;have HF:=Lib.hid (HPo.out false (HR0.out (by omega)).symm);clear HR0 HR1 HS;go_enter Tryz.func15, Tryz.ntmps15;go_upto_region 1 with fail;go_quiet (fail);go_wp2_with fail;first|exact HF.out _ (below_drewN HB0.out _)|(go_ret2;exact HF.out _ (below_drewN HB0.out _))
 have hd1:decide (st<1)=false:=decide_eq_false hA;by_cases hB:256<st
 ·have hd2:decide (256<st)=true:=decide_eq_true hB;have HF:=Lib.hid (HPo.out false (HR0.out (by omega)).symm);clear HR0 HR1 HS;go_enter Tryz.func15, Tryz.ntmps15;go_upto_region 1 with fail;go_quiet (fail);go_wp2_with fail;first|exact HF.out _ (below_drewN HB0.out _)|(go_ret2;exact HF.out _ (below_drewN HB0.out _))
 have hd2:decide (256<st)=false:=decide_eq_false hB;by_cases hC:4096<es.length
 ·have HF:=Lib.hid (HPo.out false (HR0.out (by omega)).symm);have hC2:(4096:Int)<(es.length:Int):=by omega
  have hC3:decide ((4096:Int)<(es.length:Int))=true:=decide_eq_true hC2;have hC4:decide (4096<es.length)=true:=decide_eq_true hC;clear HR0 HR1 HS;go_enter Tryz.func15, Tryz.ntmps15;go_upto_region 1 with fail;go_quiet ((go_at_call 42;exact Calls.quiet_of_same ((zcw _).mono λe w' h=>⟨h.1,h.2⟩)));go_wp2_with fail;first|exact HF.out _ (below_drewN HB0.out _)|(go_ret2;exact HF.out _ (below_drewN HB0.out _))
 have HRt:=Lib.hid (HR1.out ⟨by omega,by omega,by omega⟩);have hC2:¬(4096:Int)<(es.length:Int):=by omega
 have hC3:decide ((4096:Int)<(es.length:Int))=false:=decide_eq_false hC2;have hC4:decide (4096<es.length)=false:=decide_eq_false hC;have HSt:Hid (∀e∈es,ZJ e):=HS.out;clear HR0 HR1 HS;go_enter Tryz.func15, Tryz.ntmps15;go_upto_region 1 with fail;generalize hW1:w.alloc (.cells #[.int .i64 st,.slice ae es.length ce,.slice aa ac.length ca] 33)=W1 at HB0⊢;have HX1:Hid (W1.heap[w.heap.size]? = some (.cells #[.int .i64 st,.slice ae es.length ce,.slice aa ac.length ca] 33 (0,0))):=by show _=_;rw[←hW1];exact zh rfl
 have hz1:w.heap.size+1<=W1.heap.size:=by rw[←hW1];simp
 obtain⟨x0,x1,x2⟩:=zo HX1.out;clear hW1;go_quiet ((go_at_call 42;exact Calls.quiet_of_same ((zcw _).mono λe w' h=>⟨h.1,h.2⟩)));go_wp2_with fail;clear x0 x1 x2 hC hC2 hC3 hC4 hd1 hd2;go_loopw [3,4] (λi _ wr=>∃k:Nat,i=.int .i64 k/\k<=es.length/\Hid (∀j (hj:j<es.length),j<k->edgeOk st (es[j]'hj)=true)/\Hid (Below W1.heap.size W1 wr)) (λi _ _=>es.length-(intOf i).toNat);case atStart=>exact⟨0,rfl,Nat.zero_le _,λ_ _ h=>absurd h (Nat.not_lt_zero _),below_drewN (Below.refl _ _) _⟩
 case round =>
  (try rename World=>wr)
  obtain⟨k,rfl,hk,HAl,HBr⟩:=hrel;have HBw:Hid (Below w.heap.size w wr):=HB0.out.trans (HBr.out.mono HB0.out.size);have hzr:=HBr.out.size;have HXr:Hid (wr.heap[w.heap.size]? = some (.cells #[.int .i64 st,.slice ae es.length ce,.slice aa ac.length ca] 33 (0,0))):=(HBr.out.block _ (by omega)).trans HX1.out;obtain⟨x0,x1,x2⟩:=zo HXr.out;by_cases hlt:k<es.length
  ·have hkl:(k:Int)<es.length:=by omega
   obtain⟨b,off,ha⟩:=HA1.out.resolve_left (by omega);subst ha;obtain⟨ag,cg,aS,cs,g0,g1,g2,g3,h1,h2⟩:=yz (H1.out.keep (za HBw.out)) rfl hlt;have HNx:Hid (edgeOk st (es[k]'hlt)=true->∀j (hj:j<es.length),j<k+1->edgeOk st (es[j]'hj)=true):=λhv j hj hjk=>by
    by_cases e:j=k
    ·subst e;exact hv
    ·exact HAl.out j hj (by omega)
   have HNo:Hid (edgeOk st (es[k]'hlt)=false->∀W,Below w.heap.size w W->Po (.returned (.bool false)) W):=λh=>HPo.out false (by rw[HRt.out,Qc hlt h];rfl);have HV:=Lib.hid (λW (hW:Below wr.heap.size wr W)=>HEx.out k hlt W ag cg aS cs (h1.keep (za hW)) (h2.keep (za hW)));have HE0:Hid (¬(0<=(es[k]'hlt).fr/\(es[k]'hlt).fr<st/\0<=(es[k]'hlt).to/\(es[k]'hlt).to<st)->edgeOk st (es[k]'hlt)=false):=λh=>by unfold edgeOk;rw[decide_eq_false h];rfl
   have HE1:Hid ((0<=(es[k]'hlt).fr/\(es[k]'hlt).fr<st/\0<=(es[k]'hlt).to/\(es[k]'hlt).to<st)->edgeOk st (es[k]'hlt)=((es[k]'hlt).guards.all okX&&(es[k]'hlt).sets.all YT)):=λh=>by unfold edgeOk;rw[decide_eq_true h];rfl
   clear h1 h2;generalize (es[k]'hlt)=y at g0 g1 g2 g3 HNx HNo HV HE0 HE1;go_upto_region 7 with fail;generalize hW6:World.alloc wr _=W6;have hB6:Below wr.heap.size wr W6:=by rw[←hW6];exact(Below.refl _ _).alloc (Nat.le_refl _) _
   have he6:W6.heap[wr.heap.size]? = some (.cells #[.int .i64 y.fr,.int .i64 y.to,.slice ag y.guards.length cg,.slice aS y.sets.length cs] 77 (0,0)):=by rw[←hW6];exact zh rfl
   have HB6:=Lib.hid hB6;obtain⟨y0,y1,y2⟩:=zo ((hB6.block _ (lt_of_block HXr.out)).trans HXr.out);obtain⟨e0,e1,e2,e3,-⟩:=zR he6;have HBw6:Hid (Below w.heap.size w W6):=HBw.out.trans (hB6.mono HBw.out.size);have HB16:Hid (Below W1.heap.size W1 W6):=HBr.out.trans (hB6.mono hzr);have HV6:=Lib.hid (HV.out W6 hB6);clear hW6 hB6 he6 HV g0 g1 g2 g3 x0 x1 x2;by_cases hA:y.fr<0
   ·have HF:=Lib.hid (HNo.out (HE0.out (by omega)) W6 HBw6.out);go_wp2_with fail;first|exact HF.out|(go_ret2;exact HF.out)
   ·by_cases hB:st<=y.fr
    ·have HF:=Lib.hid (HNo.out (HE0.out (by omega)) W6 HBw6.out);go_wp2_with fail;first|exact HF.out|(go_ret2;exact HF.out)
    ·by_cases hC:y.to<0
     ·have HF:=Lib.hid (HNo.out (HE0.out (by omega)) W6 HBw6.out);go_wp2_with fail;first|exact HF.out|(go_ret2;exact HF.out)
     ·by_cases hD:st<=y.to
      ·have HF:=Lib.hid (HNo.out (HE0.out (by omega)) W6 HBw6.out);go_wp2_with fail;first|exact HF.out|(go_ret2;exact HF.out)
      ·have HE2:=Lib.hid (HE1.out ⟨by omega,by omega,by omega,by omega⟩);unfold yW at HV6;generalize (y.guards.all okX&&y.sets.all YT)=ok at HV6 HE2;clear HE0 HE1;cases ok with
       |true =>
        have HOk2:=Lib.hid (HNx.out HE2.out);go_wp2_with (go_at_call 43;go_must (refine HV6.out.mono ?_;rintro e w5 ⟨rfl,hb5⟩));have HB5:Hid (Below W1.heap.size W1 w5):=HB16.out.trans (hb5.mono HB16.out.size);clear hb5;go_roundw;case rel=>exact⟨k+1,by go_num,by omega,HOk2.out,HB5.out⟩
        case measure=>(simp[intOf];try omega)
       |false =>have HF:=Lib.hid (HNo.out HE2.out);go_wp2_with (go_at_call 43;go_must (refine HV6.out.mono ?_;rintro e w5 ⟨rfl,hb5⟩));have HF2:=Lib.hid (HF.out w5 (HBw6.out.trans (hb5.mono HBw6.out.size)));clear hb5;first|exact HF2.out|(go_ret2;exact HF2.out)
  ·obtain rfl:k=es.length:=by omega
   have HR2:Hid (R=X5 st ac ac.length):=by show R=_;rw[HRt.out,Yv λj hj=>HAl.out j hj hj,Bool.true_and]
   clear HAl HRt HA1 H1 HEx HSt;go_wp2_with fail;go_loopw [5] (λi wq=>∃k:Nat,i=.int .i64 k/\k<=ac.length/\Hid (X5 st ac k=true)/\Hid (Below wr.heap.size wr wq)) (λi _=>ac.length-(intOf i).toNat);case atStart=>exact⟨0,rfl,Nat.zero_le _,rfl,Below.refl _ _⟩
   case round =>
    (try rename World=>wq)
    obtain⟨m,rfl,hm,HAm,HBq⟩:=hrel;have HBwq:Hid (Below w.heap.size w wq):=HBw.out.trans (HBq.out.mono HBw.out.size);obtain⟨z0,z1,z2⟩:=zo ((HBq.out.block _ (lt_of_block HXr.out)).trans HXr.out);by_cases hlt2:m<ac.length
    ·have hkl:(m:Int)<ac.length:=by omega
     obtain⟨b,off,ha⟩:=HA2.out.resolve_left (by omega);subst ha;have g0:=(za HBwq.out) _ _ (H2.out.get rfl hlt2);have HNo:Hid (decide (0<=ac.getD m 0/\ac.getD m 0<st/\(0<m->ac.getD (m-1) 0<ac.getD m 0))=false->∀W,Below w.heap.size w W->Po (.returned (.bool false)) W):=λh=>HPo.out false (by rw[HR2.out];exact(zeh hlt2 h).symm);have HNx:Hid ((0<=ac.getD m 0/\ac.getD m 0<st/\(0<m->ac.getD (m-1) 0<ac.getD m 0))->X5 st ac (m+1)=true):=λh=>by rw[Xd,HAm.out,decide_eq_true h];rfl
     cases m with
     |zero =>
      rw[Nat.add_zero]at g0;generalize ac.getD 0 0=y at g0 HNo HNx;by_cases h1:y<0
      ·have HF:=Lib.hid (HNo.out (decide_eq_false (by omega)));have hd1:decide (y<0)=true:=decide_eq_true h1;clear HNo HNx;go_wp2_with fail;go_quiet (fail);go_wp2_with fail;first|exact HF.out _ (below_drewN HBwq.out _)|(go_ret2;exact HF.out _ (below_drewN HBwq.out _))
      have hd1:decide (y<0)=false:=decide_eq_false h1;by_cases h2:st<=y
      ·have HF:=Lib.hid (HNo.out (decide_eq_false (by omega)));have hd2:decide (st<=y)=true:=decide_eq_true h2;clear HNo HNx;go_wp2_with fail;go_quiet (fail);go_wp2_with fail;first|exact HF.out _ (below_drewN HBwq.out _)|(go_ret2;exact HF.out _ (below_drewN HBwq.out _))
      have hd2:decide (st<=y)=false:=decide_eq_false h2;have HA2':=Lib.hid (HNx.out ⟨by omega,by omega,λh=>absurd h (Nat.lt_irrefl 0)⟩);clear HNo HNx;go_wp2_with fail;go_quiet (fail);go_wp2_with fail;go_roundw;case rel=>exact⟨1,by go_num,by omega,HA2'.out,below_drewN HBq.out _⟩
      case measure=>(simp[intOf];try omega)
     |succ m =>
      have hlm:m<ac.length:=by omega
      have hlmI:(m:Int)<ac.length:=by omega
      have g1:=(za HBwq.out) _ _ (H2.out.get rfl hlm);rw[Nat.add_sub_cancel]at HNo HNx;generalize ac.getD (m+1) 0=y at g0 HNo HNx;generalize ac.getD m 0=z at g1 HNo HNx;have hd0:decide ((0:Int)<((m+1:Nat):Int))=true:=decide_eq_true (by omega);have e2:IntKind.i64.wrap (m:Int)=(m:Int):=by rw[IntKind.wrap_i64];omega
      by_cases h1:y<0
      ·have HF:=Lib.hid (HNo.out (decide_eq_false (by omega)));have hd1:decide (y<0)=true:=decide_eq_true h1;clear HNo HNx;go_wp2_with fail;go_quiet (fail);go_wp2_with fail;first|exact HF.out _ (below_drewN HBwq.out _)|(go_ret2;exact HF.out _ (below_drewN HBwq.out _))
      have hd1:decide (y<0)=false:=decide_eq_false h1;by_cases h2:st<=y
      ·have HF:=Lib.hid (HNo.out (decide_eq_false (by omega)));have hd2:decide (st<=y)=true:=decide_eq_true h2;clear HNo HNx;go_wp2_with fail;go_quiet (fail);go_wp2_with fail;first|exact HF.out _ (below_drewN HBwq.out _)|(go_ret2;exact HF.out _ (below_drewN HBwq.out _))
      have hd2:decide (st<=y)=false:=decide_eq_false h2;by_cases h3:y<=z
      ·have HF:=Lib.hid (HNo.out (decide_eq_false (by omega)));have hd3:decide (y<=z)=true:=decide_eq_true h3;clear HNo HNx;go_wp2_with fail;go_quiet (fail);go_wp2_with fail;first|exact HF.out _ (below_drewN HBwq.out _)|(go_ret2;exact HF.out _ (below_drewN HBwq.out _))
      have hd3:decide (y<=z)=false:=decide_eq_false h3;have HA2':=Lib.hid (HNx.out ⟨by omega,by omega,λ_=>by omega⟩);clear HNo HNx;go_wp2_with fail;go_quiet (fail);go_wp2_with fail;go_roundw;case rel=>exact⟨m+1+1,by go_num,by omega,HA2'.out,below_drewN HBq.out _⟩
      case measure=>(simp[intOf];try omega)
    ·obtain rfl:m=ac.length:=by omega
     have HF:=Lib.hid (HPo.out true (by rw[HR2.out,HAm.out]) wq HBwq.out);go_wp2_with fail;first|exact HF.out|(go_ret2;exact HF.out)
end Go.Proofs.YtnfkbliokjjggaaGreatDoor
