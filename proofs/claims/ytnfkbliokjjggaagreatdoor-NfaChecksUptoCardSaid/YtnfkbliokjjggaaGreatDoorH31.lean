/- nfa.Step. -/
import Derived.Test.YtnfkbliokjjggaaGreatDoorH30
import Derived.Test.YtnfkbliokjjggaaGreatDoorH25
set_option maxHeartbeats 16000000
set_option maxRecDepth 100000
set_option linter.unusedSimpArgs false
set_option linter.unusedVariables false
set_option linter.unnecessarySimpa false
namespace Go.Proofs.YtnfkbliokjjggaaGreatDoor
open Go.RowKit
attribute [local go_sem ↓] Go.wp_at_zero Go.wp_at_succ
def zee (p:Nat->Bool) (r:List yV×Int) (w:World) (e:Ending) (w':World):Prop:=(∃a c,e=.returned (.tuple #[.slice a r.1.length c,.int .i64 r.2])/\thE.In (World.hide w' p) r.1 a c)/\Below w.heap.size w w'
theorem Xh {w wr w':World} {row:Option Nat} (h:Below w.heap.size w wr) (hg:wr.grownBy w' row) (hr:∀k,row=some k->w.heap.size<=k):Below w.heap.size w w':=Zp h hg h.size hr
theorem zgW (p:Nat->Bool) (n:zt) (x:qn) (l:List yV) (al:Option Addr) (cl:Nat) (env:List Sg) (ae:Option Addr) (ce:Nat) (w:World) (hp:∀j,p j=true->j<w.heap.size) (hG:qW w) (hN:yb w n x) (hs:qq n) (hse:∀e∈n.edges,zce e)
 (hL:thE.In w l al cl) (hll:l.length<=1000) (hlt:∀t∈l,t.env.length<=50000) (hE:sgE.In w env ae ce) (he:env.length<=50000) :
 Calls Tryz.prog 32 #[ye n x,.slice al l.length cl,.slice ae env.length ce] w (zee p (qz n l env) w):=by
 have HV:=Lib.hid λW (hW:Below w.heap.size w W)=>qA n x W (hG.below hW) (hN.keep (za hW)) hs;have HSo:Hid (∀(k:Nat) (hk:k<l.length) (W:World) (at_:Option Addr) (ct:Nat),yi W (l[k]'hk).env at_ ct->Calls Tryz.prog 71 #[.slice at_ (l[k]'hk).env.length ct] W λe w'=>e=.returned (.bool (xm (l[k]'hk).env))/\Below W.heap.size W w'):=λk hk W a c h=>zbP _ a c W h
 have HTk:Hid (∀(k:Nat) (hk:k<l.length) (m:Nat) (hm:m<n.edges.length) (q:Nat->Bool) (W:World) (at_:Option Addr) (ct:Nat) (ag:Option Addr) (cg:Nat) (aS:Option Addr) (cs:Nat),Below w.heap.size w W->(∀j,q j=true->j<W.heap.size)->xm (l[k]'hk).env=true->yi W (l[k]'hk).env at_ ct->exE.In W (n.edges[m]'hm).guards ag cg->bdE.In W (n.edges[m]'hm).sets aS cs ->
  Calls Tryz.prog 72 #[.agg #[.int .i64 (l[k]'hk).state,.slice at_ (l[k]'hk).env.length ct],.agg #[.int .i64 (n.edges[m]'hm).fr,.int .i64 (n.edges[m]'hm).to,.slice ag (n.edges[m]'hm).guards.length cg,.slice aS (n.edges[m]'hm).sets.length cs],.slice ae env.length ce] W (zef q (x7 (n.edges[m]'hm) (l[k]'hk).env env) (n.edges[m]'hm).to W)) :=
  λk hk m hm q W at_ ct ag cg aS cs hW hq hlo h1 h2 h3=>zg0 q (l[k]'hk) at_ ct (n.edges[m]'hm) ag cg aS cs env ae ce W hq (hG.below hW) (Zm.2 h1) h2 h3 (hE.keep (za hW)) (zdo hlo) (hlt _ (List.getElem_mem hk)) he (hse _ (List.getElem_mem hm))
 have HNo:Hid (zC n=false\/l.all (ZB n)=false->∀W,Below w.heap.size w W->zee p (qz n l env) w (.returned (.tuple #[.slice none 0 0,.int .i64 1])) W):=λh W hW=>by
  have:qz n l env=([],1):=by
   unfold qz;rcases h with h|h
   ·rw[if_pos h]
   ·by_cases h2:zC n=false
    ·rw[if_pos h2]
    ·rw[if_neg h2,if_pos h]
  rw[this];exact⟨⟨none,0,rfl,Enc.In.nil _⟩,hW⟩
 have HBig:Hid (zC n=true->l.all (ZB n)=true->256<(yw n env l l.length).length->∀W,Below w.heap.size w W->zee p (qz n l env) w (.returned (.tuple #[.slice none 0 0,.int .i64 2])) W):=λh1 h2 h3 W hW=>by
  have:qz n l env=([],2):=by unfold qz;rw[if_neg (by simp[h1]),if_neg (by simp[h2]),if_pos h3]
  rw[this];exact⟨⟨none,0,rfl,Enc.In.nil _⟩,hW⟩
 have HYes:Hid (zC n=true->l.all (ZB n)=true->¬256<(yw n env l l.length).length->∀W a c,Below w.heap.size w W->thE.In (World.hide W p) (yw n env l l.length) a c->zee p (qz n l env) w (.returned (.tuple #[.slice a (yw n env l l.length).length c,.int .i64 0])) W):=λh1 h2 h3 W a c hW hin=>by
  have:qz n l env=(yw n env l l.length,0):=by unfold qz;rw[if_neg (by simp[h1]),if_neg (by simp[h2]),if_neg h3]
  rw[this];exact⟨⟨a,c,rfl,hin⟩,hW⟩
 have HNs:=Lib.hid hN.es;have HLs:=Lib.hid hL;have Hp:=Lib.hid hp;have HNa:Hid (n.edges.length=0\/∃b off,x.ae=some ⟨b,off,none⟩):=hN.es.addr;have HLa:Hid (l.length=0\/∃b off,al=some ⟨b,off,none⟩):=hL.addr;have hel:=hN.es.len;rw[zz]at HV⊢;generalize hPo:zee p (qz n l env) w=Po at HNo HBig HYes⊢;clear hPo hp hG hN hs hse hL hlt hE he;obtain⟨xae,xce,xaa,xca⟩:=x;simp only at HV HNs HNa⊢;go_enter Tryz.func32, Tryz.ntmps32;go_upto_region 1 with fail;generalize hW2:World.alloc w _=W2;have HB2:Hid (Below w.heap.size w W2):=by show Below _ _ _;rw[←hW2];exact(Below.refl _ _).alloc (Nat.le_refl _) _
 have HX2:Hid (W2.heap[w.heap.size]? = some (.cells #[.int .i64 n.states,.slice xae n.edges.length xce,.slice xaa n.accept.length xca] 33 (0,0))):=by show _=_;rw[←hW2];exact zh rfl
 have hz2:w.heap.size+1<=W2.heap.size:=by rw[←hW2];simp
 clear hW2;obtain⟨b0,b1,b2⟩:=zo HX2.out;go_wp2_with fail;refine(HV.out _ HB2.out).mono ?_;rintro e w3 ⟨rfl,hb3⟩;have HB3:Hid (Below w.heap.size w w3):=HB2.out.trans (hb3.mono HB2.out.size);have HX3:Hid (w3.heap[w.heap.size]? = some (.cells #[.int .i64 n.states,.slice xae n.edges.length xce,.slice xaa n.accept.length xca] 33 (0,0))):=(hb3.block _ (by omega)).trans HX2.out;have hz3:w.heap.size+1<=w3.heap.size:=by have:=hb3.size;omega
 clear hb3 HX2 HB2 HV b0 b1 b2 hz2;cases hok:zC n with
 |false =>have HN:=Lib.hid (HNo.out (Or.inl hok));clear hok HNo HYes HBig;go_wp2_with fail;have HN2:=Lib.hid (HN.out w3 HB3.out);first|exact HN2.out|(go_ret2;exact HN2.out)
 |true =>
  have HOk:=Lib.hid hok;have hne:n.edges.length<=4096:=(zA.1 hok).1.2.2;clear hok;go_wp2_with fail;go_loopw [24,9] (λi _ wr=>∃k:Nat,i=.int .i64 k/\k<=l.length/\Hid (∀j (hj:j<l.length),j<k->ZB n (l[j]'hj)=true)/\Hid (Below w3.heap.size w3 wr)) (λi _ _=>l.length-(intOf i).toNat);case atStart=>exact⟨0,rfl,Nat.zero_le _,λj _ h=>absurd h (by omega),Below.refl _ _⟩
  case round =>
   (try rename World=>wr)
   obtain⟨k,rfl,hk,HN,HBr⟩:=hrel;have hzr:=HBr.out.size;have HBw:Hid (Below w.heap.size w wr):=HB3.out.trans (HBr.out.mono HB3.out.size);have HXr:Hid (wr.heap[w.heap.size]? = some (.cells #[.int .i64 n.states,.slice xae n.edges.length xce,.slice xaa n.accept.length xca] 33 (0,0))):=(HBr.out.block _ (by omega)).trans HX3.out;by_cases hltk:k<l.length
   ·obtain⟨bl,ol,hla⟩:=HLa.out.resolve_left (by omega);subst hla;obtain⟨ta,tc,g0,g1,ht⟩:=XY (HLs.out.keep (za HBw.out)) rfl hltk;have HS1:=λW h=>HSo.out k hltk W ta tc h;have HBad:Hid (ZB n (l[k]'hltk)=false->l.all (ZB n)=false):=λh=>by
     rw[←Bool.not_eq_true,List.all_eq_true];intro h2;rw[h2 _ (List.getElem_mem hltk)]at h;cases h
    have HGo:Hid (ZB n (l[k]'hltk)=true->∀j (hj:j<l.length),j<k+1->ZB n (l[j]'hj)=true):=λh j hj hjk=>by
     by_cases e:j=k
     ·subst e;exact h
     ·exact HN.out j hj (by omega)
    generalize (l[k]'hltk)=t at HS1 HBad HGo g0 g1 ht;have HOk1:Hid (ZB n t=(decide (0<=t.state/\t.state<n.states)&&xm t.env)):=rfl;have HT:=Lib.hid ht;have HS2:=Lib.hid HS1;generalize ZB n t=okt at HOk1 HBad HGo;generalize xm t.env=lo at HS1 HS2 HOk1;clear ht HS1;go_upto_region 6 with fail;generalize hW5:World.alloc wr _=W5;have hB5:Below wr.heap.size wr W5:=by rw[←hW5];exact(Below.refl _ _).alloc (Nat.le_refl _) _
    have hy5:W5.heap[wr.heap.size]? = some (.cells #[.int .i64 t.state,.slice ta t.env.length tc] 134 (0,0)):=by rw[←hW5];exact zh rfl
    have hx5:=(hB5.block _ (lt_of_block HXr.out)).trans HXr.out;have HBw5:Hid (Below w.heap.size w W5):=HBw.out.trans (hB5.mono HBw.out.size);have HBr5:Hid (Below w3.heap.size w3 W5):=HBr.out.trans (hB5.mono hzr);have HS3:=Lib.hid (HS2.out W5 (yi.keep (za hB5) HT.out));obtain⟨y0,y1,-⟩:=xy hy5;obtain⟨x0,-,-⟩:=zo hx5;clear hW5 hB5 hy5 hx5 g0 g1 HS2;by_cases hr1:t.state<0
    ·have HE1:=Lib.hid (HNo.out (Or.inr (HBad.out (by rw[HOk1.out,decide_eq_false (by omega)];rfl))) W5 HBw5.out);go_wp2_with fail;first|exact HE1.out|(go_ret2;exact HE1.out)
    ·by_cases hr2:n.states<=t.state
     ·have HE1:=Lib.hid (HNo.out (Or.inr (HBad.out (by rw[HOk1.out,decide_eq_false (by omega)];rfl))) W5 HBw5.out);go_wp2_with fail;first|exact HE1.out|(go_ret2;exact HE1.out)
     ·cases lo with
      |true =>
       have HN2:=Lib.hid (HGo.out (by rw[HOk1.out,decide_eq_true (by omega)];rfl));go_wp2_with (go_at_call 71;go_must (refine HS3.out.mono ?_;rintro e w6 ⟨rfl,hb6⟩;have HB6:=Lib.hid hb6;clear hb6));go_roundw;case rel=>exact⟨k+1,by go_num,by omega,HN2.out,HBr5.out.trans (HB6.out.mono HBr5.out.size)⟩
       case measure=>(simp[intOf];try omega)
      |false =>have HE1:=Lib.hid (HNo.out (Or.inr (HBad.out (by rw[HOk1.out];simp))));go_wp2_with (go_at_call 71;go_must (refine HS3.out.mono ?_;rintro e w6 ⟨rfl,hb6⟩;have HB6:Hid (Below w.heap.size w w6):=HBw5.out.trans (hb6.mono HBw5.out.size);clear hb6));have HE2:=Lib.hid (HE1.out w6 HB6.out);first|exact HE2.out|(go_ret2;exact HE2.out)
   ·obtain rfl:k=l.length:=by omega
    have HAll:Hid (l.all (ZB n)=true):=by show _=_;rw[List.all_eq_true];intro t ht;obtain⟨j,hj,rfl⟩:=List.getElem_of_mem ht;exact HN.out j hj hj
    have HThr:Hid (∀j (hj:j<l.length),xm (l[j]'hj).env=true):=λj hj=>by have:=HN.out j hj hj;unfold ZB at this;exact(Bool.and_eq_true_iff.1 this).2
    have HBg:=Lib.hid (HBig.out HOk.out HAll.out);have HYs:=Lib.hid (HYes.out HOk.out HAll.out);clear HNo HBig HYes HN HOk HAll HSo;have H0:=XW n env l;have HFt:Hid (∀k,k<=l.length->Asc zu (yw n env l k)/\(yw n env l k).length<=4096000):=λk hk=>by
     obtain⟨h1,h2⟩:=Yp n env l k hk;exact⟨h1,by
      calc _<=k*n.edges.length:=h2
      _<=1000*4096:=Nat.mul_le_mul (by omega) hne⟩
    have HTs:Hid (∀k (hk:k<l.length),yw n env l (k+1)=stepT n env (yw n env l k) (l[k]'hk) n.edges.length):=λk hk=>zbj n env l hk;generalize yw n env l=OT at HBg HYs H0 HFt HTs;have HOw0:Hid (thE.Own 134 p wr (w.heap.size+1) (.slice none 0 0) (OT 0)):=by show thE.Own _ _ _ _ _ _;rw[H0];exact Enc.Own.nil _ _ _ _ _
    clear H0;obtain⟨x0,x1,x2⟩:=zo HXr.out;go_wp2_with fail;clear x0 x1 x2;go_loopw [47,10,12,14,15,16,17,18] (λi o _ _ _ _ _ _ wd=>∃m:Nat,i=.int .i64 m/\m<=l.length/\Hid (thE.Own 134 p wd (w.heap.size+1) o (OT m))/\Hid (wd.heap[w.heap.size]? = some (.cells #[.int .i64 n.states,.slice xae n.edges.length xce,.slice xaa n.accept.length xca] 33 (0,0)))/\Hid (Below w.heap.size w wd)) (λi _ _ _ _ _ _ _ _=>l.length-(intOf i).toNat);case atStart=>exact⟨0,rfl,Nat.zero_le _,HOw0.out,HXr.out,HBw.out⟩
    case round =>
     (try rename World=>wd)
     obtain⟨m,rfl,hm,HO,HXd,HBd⟩:=hrel;have hzd:=lt_of_block HXd.out;have hfm:=HFt.out m hm;obtain⟨ha,hlen⟩:=hfm;by_cases hltm:m<l.length
     ·obtain⟨bl,ol,hla⟩:=HLa.out.resolve_left (by omega);subst hla;obtain⟨ta,tc,g0w,g1w,ht⟩:=XY HLs.out rfl hltm;have g0:=za HBd.out _ _ g0w;have g1:=za HBd.out _ _ g1w;clear g0w g1w;have HTk1:=λm2 hm2 q W ag cg aS cs h1 h2 h3=>HTk.out m hltm m2 hm2 q W ta tc ag cg aS cs h1 h2 (HThr.out m hltm) h3;have HT1:=HTs.out m hltm;generalize (l[m]'hltm)=t at HTk1 HT1 g0 g1 ht;have HTk2:=Lib.hid HTk1;have HT:=Lib.hid ht;have HF2:Hid (∀k,k<=n.edges.length->Asc zu (stepT n env (OT m) t k)/\(stepT n env (OT m) t k).length<=5000000):=λk hk=>by
       obtain⟨h1,h2⟩:=ZR n env (OT m) t ha k hk;exact⟨h1,by omega⟩
      have HDs:Hid (∀k (hk:k<n.edges.length),stepT n env (OT m) t (k+1)=x4 env t (stepT n env (OT m) t k) (n.edges[k]'hk)):=λk hk=>zcL n env (OT m) t hk;have HD0:=QD n env (OT m) t;generalize stepT n env (OT m) t=D at HT1 HF2 HDs HD0;have HT2:=Lib.hid HT1;clear HTk1 ht HT1;go_upto_region 13 with fail;generalize hW5:World.alloc wd _=W5;have hB5:Below wd.heap.size wd W5:=by rw[←hW5];exact(Below.refl _ _).alloc (Nat.le_refl _) _
      have HY5:Hid (W5.heap[wd.heap.size]? = some (.cells #[.int .i64 t.state,.slice ta t.env.length tc] 134 (0,0))):=by show _=_;rw[←hW5];exact zh rfl
      have HX5:Hid (W5.heap[w.heap.size]? = some (.cells #[.int .i64 n.states,.slice xae n.edges.length xce,.slice xaa n.accept.length xca] 33 (0,0))):=(hB5.block _ hzd).trans HXd.out;have HBw5:Hid (Below w.heap.size w W5):=HBd.out.trans (hB5.mono HBd.out.size);have HO5:Hid (thE.Own 134 p W5 (w.heap.size+1) u10 (D 0)):=by show thE.Own _ _ _ _ _ _;rw[HD0];exact HO.out.below hB5
      have HNe5:Hid (u10.ownBlock≠some wd.heap.size):=λe=>by have:=(zq HO.out _ e).2;omega
      obtain⟨x0,x1,x2⟩:=zo HX5.out;clear hW5 hB5 g0 g1 HD0 HO HXd;go_wp2_with fail;clear x0 x1 x2;go_loopw [54,10,14,15,16,17,18] (λi o _ _ _ _ _ we=>∃k:Nat,i=.int .i64 k/\k<=n.edges.length/\Hid (thE.Own 134 p we (w.heap.size+1) o (D k))/\Hid (we.heap[w.heap.size]? = some (.cells #[.int .i64 n.states,.slice xae n.edges.length xce,.slice xaa n.accept.length xca] 33 (0,0)))/\Hid (we.heap[wd.heap.size]? = some (.cells #[.int .i64 t.state,.slice ta t.env.length tc] 134 (0,0)))/\Hid (o.ownBlock≠some wd.heap.size)/\Hid (Below w.heap.size w we)) (λi _ _ _ _ _ _ _=>n.edges.length-(intOf i).toNat);case atStart=>exact⟨0,rfl,Nat.zero_le _,HO5.out,HX5.out,HY5.out,HNe5.out,HBw5.out⟩
      case round =>
       (try rename World=>we)
       obtain⟨k,rfl,hk,HOe,HXe,HYe,HNe,HBe⟩:=hrel;have hze:=lt_of_block HXe.out;have hye:=lt_of_block HYe.out;by_cases hltk:k<n.edges.length
       ·obtain⟨bE,oE,hEa⟩:=HNa.out.resolve_left (by omega);subst hEa;obtain⟨ag,cg,aS,cs,f0w,f1w,f2w,f3w,hg,hs⟩:=yz HNs.out rfl hltk;have f0:=za HBe.out _ _ f0w;have f1:=za HBe.out _ _ f1w;have f2:=za HBe.out _ _ f2w;have f3:=za HBe.out _ _ f3w;clear f0w f1w f2w f3w;have HTk3:=λq W hW hq=>HTk2.out k hltk q W ag cg aS cs hW hq (yi.keep (za hW) HT.out) (hg.keep (za hW)) (hs.keep (za hW));obtain⟨hak,hlk⟩:=HF2.out k hk;have HD1:=HDs.out k hltk;generalize (n.edges[k]'hltk)=e at HTk3 HD1 f0 f1 f2 f3 hg hs;have HTk4:=Lib.hid HTk3;have HD2:=Lib.hid HD1;clear HTk3 HD1 hg hs;obtain⟨ao,co,hov,hin⟩:=HOe.out.slice (by omega);subst hov;go_upto_region 16 with fail;generalize hW6:World.alloc we _=W6;have hB6:Below we.heap.size we W6:=by rw[←hW6];exact(Below.refl _ _).alloc (Nat.le_refl _) _
        have he6:W6.heap[we.heap.size]? = some (.cells #[.int .i64 e.fr,.int .i64 e.to,.slice ag e.guards.length cg,.slice aS e.sets.length cs] 77 (0,0)):=by rw[←hW6];exact zh rfl
        have HX6:Hid (W6.heap[w.heap.size]? = some (.cells #[.int .i64 n.states,.slice (some ⟨bE,oE,none⟩) n.edges.length xce,.slice xaa n.accept.length xca] 33 (0,0))):=(hB6.block _ hze).trans HXe.out;have HY6:Hid (W6.heap[wd.heap.size]? = some (.cells #[.int .i64 t.state,.slice ta t.env.length tc] 134 (0,0))):=(hB6.block _ hye).trans HYe.out;have HB6:Hid (Below w.heap.size w W6):=HBe.out.trans (hB6.mono HBe.out.size);have HO6:Hid (thE.Own 134 p W6 (w.heap.size+1) (.slice ao (D k).length co) (D k)):=HOe.out.below hB6;have HI6:Hid (thE.In W6 (D k) ao co):=hin.keep (za hB6);obtain⟨e0,e1,e2,e3,-⟩:=zR he6;obtain⟨t0,t1,-⟩:=xy HY6.out;clear hW6 hB6 he6 f0 f1 f2 f3 hin HOe HXe HYe;by_cases hfr:e.fr=t.state
        ·have HD3:Hid (D (k+1)=match x7 e t.env env with|some loc=>X8 zu (D k) ⟨e.to,loc⟩|none=>D k):=by show _=_;rw[HD2.out];unfold x4;rw[if_pos hfr];cases x7 e t.env env<;>rfl
         have hqlt:∀j,hid p (.slice ao (D k).length co) j=true->j<W6.heap.size:=λj hj=>(ze.1 hj).elim (λh=>by have:=Hp.out j h;have:=HB6.out.size;omega) λh=>(zq HO6.out j h).2;have HTk5:=Lib.hid (HTk4.out (hid p (.slice ao (D k).length co)) W6 HB6.out hqlt);generalize x7 e t.env env=tk at HTk5 HD3;have hfb:(e.fr != t.state)=false:=by simp[hfr]
         clear hqlt HD2 hfr;have HYb:Hid (∀W,Below W6.heap.size W6 W->W.heap[wd.heap.size]? = some (.cells #[.int .i64 t.state,.slice ta t.env.length tc] 134 (0,0))):=λW hW=>(hW.block _ (lt_of_block HY6.out)).trans HY6.out;have HXb:Hid (∀W,Below W6.heap.size W6 W->W.heap[w.heap.size]? = some (.cells #[.int .i64 n.states,.slice (some ⟨bE,oE,none⟩) n.edges.length xce,.slice xaa n.accept.length xca] 33 (0,0))):=λW hW=>(hW.block _ (lt_of_block HX6.out)).trans HX6.out;have hs6:=HB6.out.size;cases tk with
         |none =>
          have HO7:Hid (∀W,Below W6.heap.size W6 W->thE.Own 134 p W (w.heap.size+1) (.slice ao (D k).length co) (D (k+1))):=λW hW=>by rw[HD3.out];exact HO6.out.below hW
          go_wp2_with (go_at_call 72;go_must (refine HTk5.out.mono ?_;rintro e7 w7 ⟨rfl,hb7⟩;have HB7:=Lib.hid hb7;clear hb7));have hA:Below W6.heap.size W6 (w7.alloc (.cells #[.int .i64 0,.slice none 0 0] 134)):=HB7.out.alloc HB7.out.size _;have HA:=Lib.hid hA;clear hA;go_roundw;case rel=>exact⟨k+1,by go_num,by omega,HO7.out _ HA.out,HXb.out _ HA.out,HYb.out _ HA.out,HNe.out,HB6.out.trans (HA.out.mono hs6)⟩
          case measure=>(simp[intOf];try omega)
         |some loc =>
          go_upto_region 19 with (go_at_call 72;go_must (refine HTk5.out.mono ?_;rintro e7 w7 ⟨⟨a7,c7,rfl,hin7⟩,hb7⟩));generalize hW8:World.alloc w7 _=W8;have hB8:Below W6.heap.size W6 W8:=by rw[←hW8];exact hb7.alloc hb7.size _
          have hB78:Below w7.heap.size w7 W8:=by rw[←hW8];exact(Below.refl _ _).alloc (Nat.le_refl _) _
          have hy8:W8.heap[w7.heap.size]? = some (.cells #[.int .i64 e.to,.slice a7 loc.length c7] 134 (0,0)):=by rw[←hW8];exact zh rfl
          have HIn8:Hid (sgE.In (World.hide W8 (hid p (.slice ao (D k).length co))) loc a7 c7):=hin7.keep (zg hB78 λ_ _ h=>h);have HB8:=Lib.hid hB8;have HY8:=Lib.hid hy8;obtain⟨q0,q1,-⟩:=xy hy8;obtain⟨hi1,hi2⟩:=zhU (y:=⟨e.to,loc⟩) hak;have HBs:Hid (Calls Tryz.prog 73 #[.slice ao (D k).length co,.agg #[.int .i64 e.to,.slice a7 loc.length c7],.func (.func 74) #[] #[]] W8 λe' w'=>e'=.returned (.tuple #[.int .i64 (bsP (λz=>zu z ⟨e.to,loc⟩) (D k):Nat),.bool (bsF (λz=>zu z ⟨e.to,loc⟩) (D k))])/\Below W8.heap.size W8 w'):=QT ⟨e.to,loc⟩ a7 c7 (D k) ao co W8 (HI6.out.keep (za hB8)) (Zm.1 (HIn8.out.keep zc)) (zel hak);generalize bsP (λz=>zu z ⟨e.to,loc⟩) (D k)=ps at HBs hi1 hi2;generalize bsF (λz=>zu z ⟨e.to,loc⟩) (D k)=fd at HBs hi1 hi2;have HI1:=Lib.hid hi1;have HI2:=Lib.hid hi2;clear hW8 hB8 hB78 hy8 hin7 hb7 hi1 hi2 t0 t1 e0 e1 e2 e3;cases fd with
          |true =>
           have HO7:Hid (∀W,Below W6.heap.size W6 W->thE.Own 134 p W (w.heap.size+1) (.slice ao (D k).length co) (D (k+1))):=λW hW=>by rw[HD3.out];show thE.Own _ _ _ _ _ (X8 zu (D k) _);rw[HI1.out rfl];exact HO6.out.below hW
           go_wp2_with (go_at_call 73;go_must (refine HBs.out.mono ?_;rintro e9 w9 ⟨rfl,hb9⟩;have HA:Hid (Below W6.heap.size W6 w9):=HB8.out.trans (hb9.mono HB8.out.size);clear hb9));go_roundw;case rel=>exact⟨k+1,by go_num,by omega,HO7.out _ HA.out,HXb.out _ HA.out,HYb.out _ HA.out,HNe.out,HB6.out.trans (HA.out.mono hs6)⟩
           case measure=>(simp[intOf];try omega)
          |false =>
           obtain⟨hps,hins⟩:=HI2.out rfl;have HD4:Hid (D (k+1)=(D k).take ps++⟨e.to,loc⟩::(D k).drop ps):=by show _=_;rw[HD3.out];exact hins
           clear hins;go_upto_region 21 with (go_at_call 73;go_must (refine HBs.out.mono ?_;rintro e9 w9 ⟨rfl,hb9⟩));have HA:Hid (Below W6.heap.size W6 w9):=HB8.out.trans (hb9.mono HB8.out.size);have hs9:=HA.out.size;have hy9:=(hb9.block _ (lt_of_block HY8.out)).trans HY8.out;obtain⟨z0,z1,-⟩:=xy hy9;have HOv:Hid (∀j,(Value.slice ao (D k).length co).ownBlock=some j->w.heap.size+1<=j/\j<W6.heap.size):=zq HO6.out
           have HIns:=Lib.hid (zaQ p (w.heap.size+1) ps (.slice ao (D k).length co) (D k) ⟨e.to,loc⟩ w9.heap.size 1 [.int .i64 e.to,.slice a7 loc.length c7] (w9.alloc (.cells #[.int .i64 e.to,.slice a7 loc.length c7] 134)) (HO6.out.below (HA.out.alloc hs9 _)) hps
            ⟨a7,c7,rfl,(Zm.1 HIn8.out).keep (zg ((hb9).alloc hb9.size _) λ_ _ h=>h)⟩ (zi w9 _)
            (by
             cases hq:p w9.heap.size with
             |false=>rfl
             |true=>have:=Hp.out _ hq;omega) (λe'=>by have:=(HOv.out _ e').2;omega) (by omega) (by simp;omega) (by omega))
           clear q0 q1 hy9 hb9 hps;go_wp2_with (go_at_call 75;go_must (refine HIns.out.mono ?_;rintro e3 w3' ⟨v3,rfl,ho3,hg3,hat3⟩;have HO3:=Lib.hid ho3;have HG3:=Lib.hid hg3;have HAt3:=Lib.hid hat3;clear ho3 hg3 hat3));have HA9:Hid (Below W6.heap.size W6 (w9.alloc (.cells #[.int .i64 e.to,.slice a7 loc.length c7] 134))):=HA.out.alloc hs9 _;have hlX:w.heap.size<(w9.alloc (.cells #[.int .i64 e.to,.slice a7 loc.length c7] 134)).heap.size:=by simp;omega
           have hyl:=lt_of_block HY6.out;have hlY:wd.heap.size<(w9.alloc (.cells #[.int .i64 e.to,.slice a7 loc.length c7] 134)).heap.size:=by simp;omega
           have HX9:Hid (w3'.heap[w.heap.size]? = some (.cells #[.int .i64 n.states,.slice (some ⟨bE,oE,none⟩) n.edges.length xce,.slice xaa n.accept.length xca] 33 (0,0))):=(HG3.out.block _ hlX (λe'=>by have:=(HOv.out _ e'.symm).1;omega)).trans (HXb.out _ HA9.out);have HY9:Hid (w3'.heap[wd.heap.size]? = some (.cells #[.int .i64 t.state,.slice ta t.env.length tc] 134 (0,0))):=(HG3.out.block _ hlY (λe'=>HNe.out e'.symm)).trans (HYb.out _ HA9.out);have HN9:Hid (v3.ownBlock≠some wd.heap.size):=by
            rcases HAt3.out with h|⟨g,h,hg⟩
            ·rw[h];exact HNe.out
            ·rw[h];intro e';have:=Option.some.inj e';omega
           have HB9:Hid (Below w.heap.size w w3'):=Xh (HB6.out.trans (HA9.out.mono hs6)) HG3.out λj hj=>by have:=(HOv.out j hj).1;omega
           have HO9:Hid (thE.Own 134 p w3' (w.heap.size+1) v3 (D (k+1))):=by show thE.Own _ _ _ _ _ _;rw[HD4.out];exact HO3.out
           go_roundw;case rel=>exact⟨k+1,by go_num,by omega,HO9.out,HX9.out,HY9.out,HN9.out,HB9.out⟩
           case measure=>(simp[intOf];try omega)
        ·have HD3:Hid (D (k+1)=D k):=by show _=_;rw[HD2.out];unfold x4;rw[if_neg hfr]
         have hfb:(e.fr != t.state)=true:=by simp[hfr]
         have HO7:Hid (thE.Own 134 p W6 (w.heap.size+1) (.slice ao (D k).length co) (D (k+1))):=by show thE.Own _ _ _ _ _ _;rw[HD3.out];exact HO6.out
         clear hfr;go_wp2_with fail;go_roundw;case rel=>exact⟨k+1,by go_num,by omega,HO7.out,HX6.out,HY6.out,HNe.out,HB6.out⟩
         case measure=>(simp[intOf];try omega)
       ·obtain rfl:k=n.edges.length:=by omega
        have HO7:Hid (thE.Own 134 p we (w.heap.size+1) u10 (OT (m+1))):=by show thE.Own _ _ _ _ _ _;rw[HT2.out];exact HOe.out
        go_wp2_with fail;go_roundw;case rel=>exact⟨m+1,by go_num,by omega,HO7.out,HXe.out,HBe.out⟩
        case measure=>(simp[intOf];try omega)
     ·obtain rfl:m=l.length:=by omega
      obtain⟨ao,co,hov,hin⟩:=HO.out.sliceP (by omega) (λj hj=>by
       cases hq:p j with
       |false=>rfl
       |true=>have:=Hp.out _ hq;omega)
      subst hov;by_cases hbig:256<(OT l.length).length
      ·have HE1:=Lib.hid (HBg.out hbig _ HBd.out);have hbI:((256:Int)<((OT l.length).length:Int)):=by omega
       go_wp2_with fail;first|exact HE1.out|(go_ret2;exact HE1.out)
      ·have HE1:=Lib.hid (HYs.out hbig _ _ _ HBd.out hin);have hbI:¬((256:Int)<((OT l.length).length:Int)):=by omega
       go_wp2_with fail;first|exact HE1.out|(go_ret2;exact HE1.out)
theorem YK:∀l:List Sg,zbq (xz l)/\(xz l).length<=l.length
 | []=>⟨List.Pairwise.nil,by simp[xz]⟩
 |x::r=>by obtain⟨h1,h2⟩:=YK r;have e:xz (x::r)=YG (xz r) x.1 (Ys x.2):=rfl;rw[e];have:=zcD (xz r) x.1 (Ys x.2);exact⟨zaf h1,by rw[List.length_cons];omega⟩
def zcV (p:Nat->Bool) (r:List yV) (w:World) (e:Ending) (w':World):Prop:=(∃a c,e=.returned (.slice a r.length c)/\thE.In (World.hide w' p) r a c)/\Below w.heap.size w w'
theorem zfH (p:Nat->Bool) (env:List Sg) (ae:Option Addr) (ce:Nat) (w:World) (hp:∀j,p j=true->j<w.heap.size) (hE:sgE.In w env ae ce) (he:env.length<=50000) :
 Calls Tryz.prog 33 #[.slice ae env.length ce] w (zcV p [⟨0,xz env⟩] w):=by
 have HEn:=Lib.hid hE;have Hp:=Lib.hid hp;have HEa:Hid (env.length=0\/∃b off,ae=some ⟨b,off,none⟩):=hE.addr;have HWi:Hid (∀k (hk:k<env.length) (q:Nat->Bool) W a c,sgE.In (World.hide W q) (xz (env.drop (k+1))) a c->(∀j,q j=true->j<W.heap.size)->Calls Tryz.prog 76 #[.slice a (xz (env.drop (k+1))).length c,.string (env[k]'hk).1,.int .i64 (Ys (env[k]'hk).2)] W (Z3 q (xz (env.drop k)) W)):=λk hk q W a c h1 h2=>by
  have e:xz (env.drop k)=YG (xz (env.drop (k+1))) (env[k]'hk).1 (Ys (env[k]'hk).2):=by rw[List.drop_eq_getElem_cons hk];rfl
  rw[e];obtain⟨h3,h4⟩:=YK (env.drop (k+1));rw[List.length_drop]at h4;exact zcQ q _ a c _ _ W h1 h2 h3 (by omega)
 have HLn:Hid (∀k,(xz (env.drop k)).length<=50000):=λk=>by have:=(YK (env.drop k)).2;rw[List.length_drop]at this;omega
 have HLe:xz (env.drop env.length)=[]:=by rw[List.drop_length];rfl
 have HL0:xz (env.drop 0)=xz env:=rfl;rw[←HL0];clear hp hE HL0;generalize hS:(λk=>xz (env.drop k))=S at *;have hSe:∀k,xz (env.drop k)=S k:=λk=>by rw[←hS]
 simp only[hSe]at HWi HLn HLe⊢;clear hSe hS;have HPo:Hid (∀W a c,Below w.heap.size w W->thE.In (World.hide W p) [⟨0,S 0⟩] a c->zcV p [⟨0,S 0⟩] w (.returned (.slice a 1 c)) W):=λW a c h1 h2=>⟨⟨a,c,rfl,h2⟩,h1⟩;generalize zcV p [⟨0,S 0⟩] w=Po at HPo⊢;go_enter Tryz.func33, Tryz.ntmps33;go_upto_region 2 with fail;generalize hW2:World.alloc w _=W2;have HB2:Hid (Below w.heap.size w W2):=by show Below _ _ _;rw[←hW2];exact(Below.refl _ _).alloc (Nat.le_refl _) _
 have HX2:Hid (W2.heap[w.heap.size]? = some (.cells #[.int .i64 0,.slice none 0 0] 134 (0,0))):=by show _=_;rw[←hW2];exact zh rfl
 have hz2:w.heap.size+1<=W2.heap.size:=by rw[←hW2];simp
 clear hW2;obtain⟨q,hq⟩:∃q:Nat->Bool,(λj=>p j||j==w.heap.size)=q:=⟨_,rfl⟩;have Q:Hid (∀j,q j=true<->p j=true\/j=w.heap.size):=λj=>by rw[←hq];simp
 clear hq;have HX0:Hid (W2.heap[w.heap.size]? = some (.cells #[.int .i64 0,.slice none (S env.length).length 0] 134 (0,0))):=by show _=_;rw[HLe];exact HX2.out
 have HI0:Hid (sgE.In (World.hide W2 q) (S env.length) none 0):=by show sgE.In _ _ _ _;rw[HLe];exact Enc.In.nil _
 clear HLe;go_wp2_with fail;go_loopw [4] (λi wr=>∃(k:Nat) (a:Option Addr) (c:Nat),i=.int .i64 ((k:Int)-1)/\k<=env.length/\Hid (wr.heap[w.heap.size]? = some (.cells #[.int .i64 0,.slice a (S k).length c] 134 (0,0)))/\Hid (sgE.In (World.hide wr q) (S k) a c)/\Hid (Below w.heap.size w wr)) (λi _=>(intOf i+1).toNat);case atStart=>exact⟨env.length,none,0,rfl,Nat.le_refl _,HX0.out,HI0.out,HB2.out⟩
 case round =>
  (try rename World=>wr)
  obtain⟨k,a,c,hi,hk,HX,HI,HB⟩:=hrel;have hzr:=lt_of_block HX.out;cases k with
  |zero =>
   rw[show (((0:Nat):Int)-1)=-1 by omega]at hi;subst hi;obtain⟨x0,x1,-⟩:=xy HX.out;go_wp2_with fail;have hI9:thE.In (World.hide (wr.alloc (.cells #[.int .i64 0,.slice a (S 0).length c] 134)) p) [⟨0,S 0⟩] (some ⟨wr.heap.size,0,none⟩) 1:=by
    have hb:Below wr.heap.size wr (wr.alloc (.cells #[.int .i64 0,.slice a (S 0).length c] 134)):=(Below.refl _ _).alloc (Nat.le_refl _) _;refine(Enc.Vals.one (E:=thE) (x:=⟨0,S 0⟩) (vs:=[.int .i64 0,.slice a (S 0).length c]) ⟨a,c,rfl,(Zm.1 HI.out).keep (zg hb λj _ hj=>(Q.out j).2 (Or.inl hj))⟩).in (λj u hj=>?_) (by simp) (by simp);refine zr.2 ⟨?_,?_⟩
    ·show p wr.heap.size=false;cases hq:p wr.heap.size with
     |false=>rfl
     |true=>have:=Hp.out _ hq;omega
    ·rw[zb (zh rfl)];simpa using hj
   have HE1:=Lib.hid (HPo.out _ _ _ (HB.out.alloc HB.out.size _) hI9);first|exact HE1.out|(go_ret2;exact HE1.out)
  |succ k =>
   rw[show (((k+1:Nat):Int)-1)=(k:Int) by omega]at hi;subst hi;have hltk:k<env.length:=by omega
   have hltI:(k:Int)<(env.length:Int):=by omega
   obtain⟨bE,oE,hEa⟩:=HEa.out.resolve_left (by omega);subst hEa;obtain⟨g0,g1⟩:=ZP (Zm.1 (HEn.out.keep (za HB.out))) rfl hltk;have HW1:=λq W a c h1 h2=>HWi.out k hltk q W a c h1 h2;generalize (env[k]'hltk)=y at HW1 g0 g1;obtain⟨nm,yv⟩:=y;simp only at HW1 g0 g1;have HQl:Hid (∀W:World,wr.heap.size<=W.heap.size->∀j,q j=true->j<W.heap.size):=λW hW j hj=>by
    rcases (Q.out j).1 hj with h|h
    ·have:=Hp.out j h;omega
    ·omega
   have HW5:Hid (∀W,Below wr.heap.size wr W->Calls Tryz.prog 76 #[.slice a (S (k+1)).length c,.string nm,.int .i64 (Ys yv)] W λe w'=>(∃a c,e=.returned (.slice a (S k).length c)/\sgE.In (World.hide w' q) (S k) a c)/\Below wr.heap.size wr w'):=λW hW=>(HW1 q W a c (HI.out.keep (zg hW λ_ _ h=>h)) (HQl.out W hW.size)).mono λe w' ⟨⟨v,h1,h2⟩,h3⟩=>by
    obtain⟨a,c,rfl,h6⟩:=Yn h2 (by have:=HLn.out k;omega);exact⟨⟨a,c,h1,h6 q λj hj _=>by
     cases hqk:q j with
     |false=>rfl
     |true=>have:=HQl.out W hW.size j hqk;omega⟩,hW.trans (h3.mono hW.size)⟩
   have HZb:Hid (∀W,Below wr.heap.size wr W->W.heap[w.heap.size]? = some (.cells #[.int .i64 0,.slice a (S (k+1)).length c] 134 (0,0))):=λW hW=>(hW.block _ hzr).trans HX.out;have HWr:Hid (∀W,Calls Tryz.prog 77 #[.int .i64 yv] W λe w'=>e=.returned (.int .i64 (Ys yv))/\w'=W):=λW=>(zat yv W).mono λe w' h=>⟨h.1,h.2.symm⟩;obtain⟨-,x1,xf⟩:=xy HX.out;have xf1:=xf 1;generalize Ys yv=wv at HWr HW5;clear HW1 xf;go_upto_region 5 with fail
   go_region_law (first
    |(go_simp;go_at_call 77;(with_reducible refine(HWr.out _).mono ?_);rintro e v1 ⟨rfl,rfl⟩)
    |(go_simp;go_at_call 76;(with_reducible refine(HW5.out _ (by first|with_reducible assumption|exact zW)).mono ?_);rintro e v2 ⟨⟨a2,c2,rfl,hin2⟩,hB2⟩;obtain⟨-,l1,lf⟩:=xy (HZb.out _ hB2);have lf1:=lf 1;have HIn2:=Lib.hid hin2;have HB2v:=Lib.hid hB2;clear hin2 hB2 lf))
   all_goals
    have HK9:Hid ((v2.setCell ⟨w.heap.size,1,none⟩ (.slice a2 (S k).length c2)).heap[w.heap.size]? = some (.cells #[.int .i64 0,.slice a2 (S k).length c2] 134 (0,0))):=by show _=_;rw[heap_setCell_same v2 w.heap.size 1 _ _ _ (HZb.out v2 HB2v.out)];rfl
    have HI9:Hid (sgE.In (World.hide (v2.setCell ⟨w.heap.size,1,none⟩ (.slice a2 (S k).length c2)) q) (S k) a2 c2):=HIn2.out.keep (zj ((Q.out w.heap.size).2 (Or.inr rfl)));have HB9:Hid (Below w.heap.size w (v2.setCell ⟨w.heap.size,1,none⟩ (.slice a2 (S k).length c2))):=(HB.out.trans (HB2v.out.mono HB.out.size)).setCell (Nat.le_refl _) _;go_wp2_with fail;go_roundw;case rel=>exact⟨k,a2,c2,by go_num,by omega,HK9.out,HI9.out,HB9.out⟩
    case measure=>(simp[intOf];try omega)
end Go.Proofs.YtnfkbliokjjggaaGreatDoor
