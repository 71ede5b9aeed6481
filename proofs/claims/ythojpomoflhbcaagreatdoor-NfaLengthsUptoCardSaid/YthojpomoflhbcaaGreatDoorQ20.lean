/- nfa.copied. -/
import Derived.Test.YthojpomoflhbcaaGreatDoorQ13
import Derived.Test.YthojpomoflhbcaaGreatDoorQ06
import Derived.Test.YthojpomoflhbcaaGreatDoorQ19
import Derived.Test.YthojpomoflhbcaaGreatDoorQ18
import Derived.Test.YthojpomoflhbcaaGreatDoorQ09
import Derived.Deep.CutRange
set_option maxHeartbeats 16000000
set_option maxRecDepth 100000
set_option linter.unusedSimpArgs false
set_option linter.unusedVariables false
set_option linter.unnecessarySimpa false
namespace Go.Proofs.YthojpomoflhbcaaGreatDoor
open Go.RowKit
attribute [local go_sem ↓] Go.wp_at_zero Go.wp_at_succ
def ZU (f t:Int) (vg vs:Value):Obj:=.cells #[.int .i64 f,.int .i64 t,vg,vs] 69 (0,0)
theorem zeq (y:Ex) (xa:Option Addr) (xc:Nat) (W5:World) (h:yY W5 y xa xc):∀W,Below W5.heap.size W5 W->Calls Tryz.prog 123 #[.agg #[.int .i64 y.op,.int .i64 y.n,.string y.name,.slice xa y.args.length xc]] W λe w'=>(∃a c,e=.returned (.agg #[.int .i64 y.op,.int .i64 y.n,.string y.name,.slice a y.args.length c])/\yY (World.hide w' (old W5.heap.size)) y a c)/\Below W.heap.size W w'/\Below W5.heap.size W5 w':=λW hW=>by refine(zfx y xa xc W (h.keep (za hW))).mono ?_;rintro e w' ⟨⟨a,c,rfl,h1⟩,h2⟩;exact⟨⟨a,c,rfl,h1.keep (zR λk hk=>yh.2 (by have:=yh.1 hk;have:=hW.size;omega))⟩,h2,hW.trans (h2.mono hW.size)⟩
theorem zlf (fn:Func) (hr:fn.results=#[.cell 6 69]) (W:World) (tm:Array Value) (b:Nat) (m0 m1 m2 m3:Value) (hW:W.heap[b]? = some (.cells #[m0,m1,m2,m3] 69 (0,0))) (h0:tm.getD 6 undef=.pointer (some ⟨b,0,none⟩)) :
 (results fn tm).run Tryz.prog W=.ok (.agg #[m0,m1,m2,m3]) W:=by
 have c0:=zc hW 0;have c1:=zc hW 1;have c2:=zc hW 2;have c3:=zc hW 3;simp at c0 c1 c2 c3;rw[xH hr,h0];simp[asAddr];go_simp
theorem zdu {W3 wr W5 cur wg:World} {N:Nat} {row:Option Nat} (h:Below N W3 wr) (h5:Below wr.heap.size wr W5) (hc:Below W5.heap.size W5 cur) (hg:cur.grownBy wg row) (hN:N<=wr.heap.size) (hr:∀j,row=some j->N<=j):Below N W3 wg:=by have h1:=h5.size;have h2:=hc.size;exact(h.trans ((h5.trans (hc.mono h1)).mono hN)).grown hg (by omega) hr
theorem zno {wr W5 cur wg:World} {row:Option Nat} {s t:Nat->Bool} (h5:Below wr.heap.size wr W5) (hc:Below W5.heap.size W5 cur) (hg:cur.grownBy wg row) (hs:∀j,row=some j->s j=true) (ht:∀k,k<cur.heap.size->t k=true->s k=true):Kp (World.hide wr s) (World.hide wg t) :=
 Kp.trans (zg (p:=s) (q:=s) (h5.trans (hc.mono h5.size)) λ_ _ h=>h) (yV hg hs ht)
theorem zgH {w:World} {b:Nat} {z0 z1 z2 z3 z4:Value} {t:TypeId} (h:w.heap[b]? = some (.cells #[z0,z1,z2,z3,z4] t (0,0))):w.cell? ⟨b,0,none⟩=some z0/\w.cell? ⟨b,1,none⟩=some z1/\w.cell? ⟨b,2,none⟩=some z2/\w.cell? ⟨b,3,none⟩=some z3/\w.cell? ⟨b,4,none⟩=some z4:=by refine⟨?_,?_,?_,?_,?_⟩<;>(rw[zc h];rfl)
theorem zdH (p:Nat->Bool) (e:zn) (ag:Option Addr) (cg:Nat) (aS:Option Addr) (cs:Nat) (f t:Int) (w:World) (hp:∀j,p j=true->j<w.heap.size) (h1:exE.In (World.hide w p) e.guards ag cg) (h2:bdE.In (World.hide w p) e.sets aS cs) :
 Calls Tryz.prog 71 #[yT e ag cg aS cs,.int .i64 f,.int .i64 t] w (zda p (mvE e f t) w):=by
 have H1:=Lib.hid h1;have H2:=Lib.hid h2;have Hp:=Lib.hid hp;have hgl:=h1.len;have hsl:=h2.len;have H1A:Hid (e.guards.length=0\/∃b off,ag=some ⟨b,off,none⟩):=h1.addr;have H2A:Hid (e.sets.length=0\/∃b off,aS=some ⟨b,off,none⟩):=h2.addr;have HPo:Hid (∀W a c a' c',exE.In (World.hide W p) e.guards a c->bdE.In (World.hide W p) e.sets a' c'->Below w.heap.size w W->zda p (mvE e f t) w (.returned (.agg #[.int .i64 f,.int .i64 t,.slice a e.guards.length c,.slice a' e.sets.length c'])) W):=λW a c a' c' h3 h4 hb=>⟨⟨a,c,a',c',rfl,h3,h4⟩,hb⟩;generalize zda p (mvE e f t) w=Po at HPo⊢;obtain⟨fr0,to0,gs,ss⟩:=e;unfold yT;simp only at H1 H2 hgl hsl H1A H2A HPo⊢;clear h1 h2 hp;go_enter Tryz.func71, Tryz.ntmps71;go_wp2_with fail;generalize hW3:World.alloc (World.alloc (World.alloc w _) _) _=W3;have HB3:Hid (Below w.heap.size w W3):=by show Below _ _ _;rw[←hW3];exact(((Below.refl _ _).alloc (Nat.le_refl _) _).alloc (by simp) _).alloc (by simp;omega) _
 have HX3:Hid (W3.heap[w.heap.size]? = some (ZU fr0 to0 (.slice ag gs.length cg) (.slice aS ss.length cs))):=by show _=_;rw[←hW3];exact zk (zk (zh rfl))
 have HY3:Hid (W3.heap[w.heap.size+1]? = some (ZU 0 0 (.slice none 0 0) (.slice none 0 0))):=by show _=_;rw[←hW3];exact zk (zh (by simp))
 have HZ3:Hid (W3.heap[w.heap.size+2]? = some (ZU f t (.slice none 0 0) (.slice none 0 0))):=by show _=_;rw[←hW3];exact zh (by simp)
 have hz3:w.heap.size+3<=W3.heap.size:=by rw[←hW3];simp
 have hz3b:W3.heap.size<=w.heap.size+3:=by rw[←hW3];simp
 clear hW3;obtain⟨q,hq⟩:∃q:Nat->Bool,(λj=>p j||(j==w.heap.size+1)||(j==w.heap.size+2))=q:=⟨_,rfl⟩;have Q:Hid (∀j,q j=true<->p j=true\/j=w.heap.size+1\/j=w.heap.size+2):=λj=>by rw[←hq];simp[or_assoc]
 have HQl:Hid (∀j,q j=true->j<w.heap.size+3):=λj hj=>by
  rcases (Q.out j).1 hj with h|h|h
  ·have:=Hp.out j h;omega
  ·omega
  ·omega
 have HKq:Hid (∀W v,Below w.heap.size w W->(∀j,Value.ownBlock v=some j->w.heap.size<=j)->Kp (World.hide w p) (World.hide W (hid q v))):=λW v hb hv=>zg hb λj hj h=>(ze.1 h).elim (λh=>((Q.out j).1 h).elim id λe=>by omega) λe=>by have:=hv j e;omega
 clear hq;obtain⟨-,-,b2,-,-⟩:=zN HX3.out;go_wp2_with fail;clear b2;go_loopw [18,9] (λi _ wr=>∃(k:Nat) (vg:Value),i=.int .i64 k/\k<=gs.length/\Hid (wr.heap[w.heap.size+2]? = some (ZU f t vg (.slice none 0 0)))/\Hid (exE.Own 24 q wr (w.heap.size+3) vg (gs.take k))/\Hid (Below (w.heap.size+2) W3 wr)) (λi _ _=>gs.length-(intOf i).toNat);case atStart=>exact⟨0,.slice none 0 0,rfl,Nat.zero_le _,HZ3,Enc.Own.nil _ _ _ _ _,Below.refl _ _⟩
 case round =>
  obtain⟨k,vg,rfl,hk,HZ,HO,HBr⟩:=hrel;have hzr:=lt_of_block HZ.out;have HBw:Hid (Below w.heap.size w wr):=HB3.out.trans (HBr.out.mono (by omega));have HLk:Hid ((gs.take k).length=k):=List.length_take_of_le hk;obtain⟨va,vc,hv,_⟩:=HO.out.slice (by rw[HLk.out];omega);rw[HLk.out]at hv;subst hv;have HVo:Hid (∀j,(Value.slice va k vc).ownBlock=some j->w.heap.size+3<=j/\j<wr.heap.size):=zl HO.out;have HQw:Hid (∀j,hid q (.slice va k vc) j=true->j<wr.heap.size):=λj hj=>(ze.1 hj).elim (λh=>by have:=HQl.out j h;have:=HBr.out.size;omega) λe=>(HVo.out j e).2;by_cases hlt:k<gs.length
  ·obtain⟨bE,oE,hEa⟩:=H1A.out.resolve_left (by omega);subst hEa;obtain⟨xa,xc,g0,g1,g2,g3,hX⟩:=zbw (H1.out.keep (HKq.out wr _ HBw.out λj hj=>by have:=(HVo.out j hj).1;omega)) rfl hlt;have f0:=zb _ _ g0;have f1:=zb _ _ g1;have f2:=zb _ _ g2;have f3:=zb _ _ g3;have HLx:Hid (gs.take k++[gs[k]'hlt]=gs.take (k+1)):=(List.take_succ_eq_append_getElem hlt).symm;have hX':=hX.keep zb;clear g0 g1 g2 g3 hX;generalize (gs[k]'hlt)=y at f0 f1 f2 f3 HLx hX';have HXy:=Lib.hid hX';clear hX';go_upto_region 5 with fail;generalize hW5:World.alloc wr _=W5;have hB5:Below wr.heap.size wr W5:=by rw[←hW5];exact(Below.refl _ _).alloc (Nat.le_refl _) _
   have hy5:W5.heap[wr.heap.size]? = some (.cells #[.int .i64 y.op,.int .i64 y.n,.string y.name,.slice xa y.args.length xc] 24 (0,0)):=by rw[←hW5];exact zh rfl
   have hz5:W5.heap[w.heap.size+2]? = some (ZU f t (.slice va k vc) (.slice none 0 0)):=(hB5.block _ hzr).trans HZ.out;have hs5:=lt_of_block hy5;have HFr:=Lib.hid (zeq y xa xc W5 (HXy.out.keep (za hB5)));have HO5:=Lib.hid (HO.out.below hB5);have HRx:Hid (∀v1 W a1 k1,yY (World.hide v1 (old W5.heap.size)) y a1 k1->Below v1.heap.size v1 W->exE.R (World.hide W (hid q (.slice va k vc))) y [.int .i64 y.op,.int .i64 y.n,.string y.name,.slice a1 y.args.length k1]):=λv1 W a1 k1 h1 h2=>⟨a1,k1,rfl,h1.keep (zg h2 λj hj h=>yh.2 (by have:=HQw.out j h;omega))⟩;have HZ5:=Lib.hid hz5;have HB5:=Lib.hid hB5;obtain⟨-,-,z2,-,zF⟩:=zN hz5;have z2f:=zF 2;obtain⟨y0,y1,y2,y3,-⟩:=zN hy5;have HZ2:Hid (∀W,Below W5.heap.size W5 W->W.cell? ⟨w.heap.size+2,2,none⟩=some (.slice va k vc)/\W.cell? ⟨wr.heap.size,0,none⟩=some (.int .i64 y.op)/\W.cell? ⟨wr.heap.size,1,none⟩=some (.int .i64 y.n)/\W.cell? ⟨wr.heap.size,2,none⟩=some (.string y.name)/\W.cell? ⟨wr.heap.size,3,none⟩=some (.slice xa y.args.length xc)):=λW hW=>⟨za hW _ _ z2,za hW _ _ y0,za hW _ _ y1,za hW _ _ y2,za hW _ _ y3⟩;clear hW5 hB5 hy5 hz5 zF f0 f1 f2 f3
   go_region_law (first
    |(go_simp;go_at_call 123;(with_reducible refine(HFr.out _ (by first|with_reducible assumption|exact yx)).mono ?_);rintro e v1 ⟨⟨a1,k1,rfl,hc1⟩,hb1,hB1⟩;have hs1:=hB1.size;have HC1:=Lib.hid hc1;obtain⟨j0,j1,j2,j3,j4⟩:=HZ2.out _ hB1;have J0:=λo=>Lib.cell?_alloc_some o j0;clear hc1)
    |(refine xR (E:=exE) Xk (by rfl) _ _ (by rfl) q (w.heap.size+3) (.slice va k vc) (by rfl) (HO5.out.below (by first|exact Below.refl _ _|exact yx)) y [.int .i64 y.op,.int .i64 y.n,.string y.name,.slice a1 y.args.length k1] (HRx.out _ _ _ _ HC1.out (by first|with_reducible assumption|exact yx)) _ 1 (by rfl) (by first|exact zi _ _|exact hbT hb1 (zh rfl)) k HLk.out (by omega) (by first|omega|(simp;omega)) _ rfl ?_;intro gg gcap wg hownG hgrow hatG hltG;have hbg:wg.heap[w.heap.size+2]? = some (ZU f t (.slice va k vc) (.slice none 0 0)):=((hgrow.block (w.heap.size+2) (by first|omega|(simp;omega)) (λe=>by have:=(HVo.out _ e.symm).1;omega)).trans ((Below.block (B:=W5.heap.size) (by first|with_reducible assumption|exact yx) _ (by omega)).trans HZ5.out));obtain⟨i0,i1,i2,i3,iF⟩:=zN hbg;have iF2:=iF 2))
   all_goals
    have hNew:=zdu HBr.out HB5.out (by first|with_reducible assumption|exact yx) hgrow (by omega) (λj hj=>by have:=(HVo.out j hj).1;omega);have hgg:=(zl hownG gg rfl).1;have hq2:q (w.heap.size+2)=true:=(Q.out _).2 (Or.inr (Or.inr rfl));have HO9:Hid (exE.Own 24 q (wg.setCell ⟨w.heap.size+2,2,none⟩ (.slice (some ⟨gg,0,none⟩) (k+1) gcap)) (w.heap.size+3) (.slice (some ⟨gg,0,none⟩) (k+1) gcap) (gs.take (k+1))):=by show exE.Own _ _ _ _ _ _;rw[←HLx.out];exact qR hq2 (λe=>by have:=Option.some.inj e;simp only at this;omega) hownG
    have HZ9:Hid ((wg.setCell ⟨w.heap.size+2,2,none⟩ (.slice (some ⟨gg,0,none⟩) (k+1) gcap)).heap[w.heap.size+2]? = some (ZU f t (.slice (some ⟨gg,0,none⟩) (k+1) gcap) (.slice none 0 0))):=by show _=_;rw[qc hbg 2];rfl
    have HB9:Hid (Below (w.heap.size+2) W3 (wg.setCell ⟨w.heap.size+2,2,none⟩ (.slice (some ⟨gg,0,none⟩) (k+1) gcap))):=hNew.setCell (Nat.le_refl _) _;clear hNew hownG hgrow hatG hltG hbg hgg;go_wp2_with fail;go_roundw;case rel=>exact⟨k+1,_,by go_num,by omega,HZ9.out,HO9.out,HB9.out⟩
    case measure=>(simp[intOf];try omega)
  ·obtain rfl:k=gs.length:=by omega
   have hx:=(HBr.out.block w.heap.size (by omega)).trans HX3.out;obtain⟨-,-,-,x3,-⟩:=zN hx;have HG0:Hid (exE.In (World.hide wr q) gs va vc):=by obtain⟨a',c',hv',hin⟩:=HO.out.sliceR (by rw[HLk.out];omega) (λ_ h=>h) HQl.out;rw[HLk.out]at hv';injection hv' with e1 e2 e3;subst e1 e3;rw[List.take_length]at hin;exact hin
   clear hx HO HLk HVo HQw;go_wp2_with fail;clear x3;rename World=>w4;have HS0:Hid (Below (w.heap.size+2) W3 w4):=HBr;have HZ0:Hid (w4.heap[w.heap.size+2]? = some (ZU f t (.slice va gs.length vc) (.slice none 0 0))):=HZ;clear HBr HZ HBw hzr;go_loopw [33,11] (λi _ wr=>∃(k:Nat) (vs:Value),i=.int .i64 k/\k<=ss.length/\Hid (wr.heap[w.heap.size+2]? = some (ZU f t (.slice va gs.length vc) vs))/\Hid (exE.In (World.hide wr (hid q vs)) gs va vc)/\Hid (bdE.Own 85 q wr (w.heap.size+3) vs (ss.take k))/\Hid (Below (w.heap.size+2) W3 wr)) (λi _ _=>ss.length-(intOf i).toNat);case atStart=>exact⟨0,.slice none 0 0,rfl,Nat.zero_le _,HZ0,HG0.out.keep (zR λk hk=>(ze.1 hk).elim id λe=>by simp[Value.ownBlock]at e),Enc.Own.nil _ _ _ _ _,HS0⟩
   case round =>
    clear HZ0 HG0 HS0;obtain⟨k,vs,rfl,hk2,HZ,HG,HO,HBr⟩:=hrel;have hzr:=lt_of_block HZ.out;have HBw:Hid (Below w.heap.size w wr):=HB3.out.trans (HBr.out.mono (by omega));have HLk:Hid ((ss.take k).length=k):=List.length_take_of_le hk2;obtain⟨vb,vc2,hv,_⟩:=HO.out.slice (by rw[HLk.out];omega);rw[HLk.out]at hv;subst hv;have HVo:Hid (∀j,(Value.slice vb k vc2).ownBlock=some j->w.heap.size+3<=j/\j<wr.heap.size):=zl HO.out;have HQw:Hid (∀j,hid q (.slice vb k vc2) j=true->j<wr.heap.size):=λj hj=>(ze.1 hj).elim (λh=>by have:=HQl.out j h;have:=HBr.out.size;omega) λe=>(HVo.out j e).2;by_cases hlt:k<ss.length
    ·obtain⟨bE,oE,hEa⟩:=H2A.out.resolve_left (by omega);subst hEa;obtain⟨xa,xc,g4,g0,g1,g2,g3,hnm,hX⟩:=zbo (H2.out.keep (HKq.out wr _ HBw.out λj hj=>by have:=(HVo.out j hj).1;omega)) rfl hlt;have f4:=zb _ _ g4;have f0:=zb _ _ g0;have f1:=zb _ _ g1;have f2:=zb _ _ g2;have f3:=zb _ _ g3;have HLx:Hid (ss.take k++[ss[k]'hlt]=ss.take (k+1)):=(List.take_succ_eq_append_getElem hlt).symm;have hX':=hX.keep zb;clear g0 g1 g2 g3 g4 hX;generalize (ss[k]'hlt)=z at f0 f1 f2 f3 f4 HLx hX' hnm;obtain⟨nm,y⟩:=z;simp only at f0 f1 f2 f3 f4 hX' hnm;have HXy:=Lib.hid hX';have HNm:=Lib.hid hnm;clear hX' hnm;go_upto_region 10 with fail;generalize hW5:World.alloc wr _=W5;have hB5:Below wr.heap.size wr W5:=by rw[←hW5];exact(Below.refl _ _).alloc (Nat.le_refl _) _
     have hy5:W5.heap[wr.heap.size]? = some (.cells #[.string nm,.int .i64 y.op,.int .i64 y.n,.string y.name,.slice xa y.args.length xc] 85 (0,0)):=by rw[←hW5];exact zh rfl
     have hz5:W5.heap[w.heap.size+2]? = some (ZU f t (.slice va gs.length vc) (.slice vb k vc2)):=(hB5.block _ hzr).trans HZ.out;have hs5:=lt_of_block hy5;have HFr:=Lib.hid (zeq y xa xc W5 (HXy.out.keep (za hB5)));have HO5:=Lib.hid (HO.out.below hB5);have HRx:Hid (∀v1 W a1 k1,yY (World.hide v1 (old W5.heap.size)) y a1 k1->Below v1.heap.size v1 W->bdE.R (World.hide W (hid q (.slice vb k vc2))) ⟨nm,y⟩ [.string nm,.int .i64 y.op,.int .i64 y.n,.string y.name,.slice a1 y.args.length k1]):=λv1 W a1 k1 h1 h2=>⟨a1,k1,rfl,HNm.out,h1.keep (zg h2 λj hj h=>yh.2 (by have:=HQw.out j h;omega))⟩;have HZ5:=Lib.hid hz5;have HB5:=Lib.hid hB5;obtain⟨-,-,-,z2,zF⟩:=zN hz5;have z2f:=zF 3;obtain⟨y4,y0,y1,y2,y3⟩:=zgH hy5;have HZ2:Hid (∀W,Below W5.heap.size W5 W->W.cell? ⟨w.heap.size+2,3,none⟩=some (.slice vb k vc2)/\W.cell? ⟨wr.heap.size,0,none⟩=some (.string nm)/\W.cell? ⟨wr.heap.size,1,none⟩=some (.int .i64 y.op)/\W.cell? ⟨wr.heap.size,2,none⟩=some (.int .i64 y.n)/\W.cell? ⟨wr.heap.size,3,none⟩=some (.string y.name)/\W.cell? ⟨wr.heap.size,4,none⟩=some (.slice xa y.args.length xc)):=λW hW=>⟨za hW _ _ z2,za hW _ _ y4,za hW _ _ y0,za hW _ _ y1,za hW _ _ y2,za hW _ _ y3⟩;clear hW5 hB5 hy5 hz5 zF f0 f1 f2 f3 f4;go_region_law (first
    |(go_simp;go_at_call 123;(with_reducible refine(HFr.out _ (by first|with_reducible assumption|exact yx)).mono ?_);rintro e v1 ⟨⟨a1,k1,rfl,hc1⟩,hb1,hB1⟩;have hs1:=hB1.size;have HC1:=Lib.hid hc1;obtain⟨j5,j0,j1,j2,j3,j4⟩:=HZ2.out _ hB1;have J5:=λo=>Lib.cell?_alloc_some o j5;clear hc1)
    |
     (refine xR (E:=bdE) zci (by rfl) _ _ (by rfl) q (w.heap.size+3) (.slice vb k vc2) (by rfl) (HO5.out.below (by first|exact Below.refl _ _|exact yx)) ⟨nm,y⟩ [.string nm,.int .i64 y.op,.int .i64 y.n,.string y.name,.slice a1 y.args.length k1] (HRx.out _ _ _ _ HC1.out (by first|with_reducible assumption|exact yx)) _ 1 (by rfl) (by first|exact zi _ _|exact hbT hb1 (zh rfl)) k HLk.out (by omega) (by first|omega|(simp;omega)) _ rfl ?_;intro gg gcap wg hownG hgrow hatG hltG;have hbg:wg.heap[w.heap.size+2]? = some (ZU f t (.slice va gs.length vc) (.slice vb k vc2)):=((hgrow.block (w.heap.size+2) (by first|omega|(simp;omega)) (λe=>by have:=(HVo.out _ e.symm).1;omega)).trans ((Below.block (B:=W5.heap.size) (by first|with_reducible assumption|exact yx) _ (by omega)).trans HZ5.out));obtain⟨i0,i1,i2,i3,iF⟩:=zN hbg;have iF3:=iF 3))
     all_goals
      have hcur:=Below.refl w.heap.size w;clear hcur;have hNew:=zdu HBr.out HB5.out (by first|with_reducible assumption|exact yx) hgrow (by omega) (λj hj=>by have:=(HVo.out j hj).1;omega);have hgg:=(zl hownG gg rfl).1;have hq2:q (w.heap.size+2)=true:=(Q.out _).2 (Or.inr (Or.inr rfl));have hKp:=zno (s:=hid q (.slice vb k vc2)) (t:=hid q (.slice (some ⟨gg,0,none⟩) (k+1) gcap)) HB5.out (by first|with_reducible assumption|exact yx) hgrow (λj hj=>ze.2 (Or.inr hj)) (λj hj h=>by
       rcases ze.1 h with h|h
       ·exact ze.2 (Or.inl h)
       ·have e:=Option.some.inj h;simp only at e;subst e;rcases hatG with h2|h2
        ·exact ze.2 (Or.inr h2)
        ·omega)
      have HG9:Hid (exE.In (World.hide (wg.setCell ⟨w.heap.size+2,3,none⟩ (.slice (some ⟨gg,0,none⟩) (k+1) gcap)) (hid q (.slice (some ⟨gg,0,none⟩) (k+1) gcap))) gs va vc):=(HG.out.keep hKp).keep (zj (ze.2 (Or.inl hq2)));have HO9:Hid (bdE.Own 85 q (wg.setCell ⟨w.heap.size+2,3,none⟩ (.slice (some ⟨gg,0,none⟩) (k+1) gcap)) (w.heap.size+3) (.slice (some ⟨gg,0,none⟩) (k+1) gcap) (ss.take (k+1))):=by show bdE.Own _ _ _ _ _ _;rw[←HLx.out];exact qR hq2 (λe=>by have:=Option.some.inj e;simp only at this;omega) hownG
      have HZ9:Hid ((wg.setCell ⟨w.heap.size+2,3,none⟩ (.slice (some ⟨gg,0,none⟩) (k+1) gcap)).heap[w.heap.size+2]? = some (ZU f t (.slice va gs.length vc) (.slice (some ⟨gg,0,none⟩) (k+1) gcap))):=by show _=_;rw[qc hbg 3];rfl
      have HB9:Hid (Below (w.heap.size+2) W3 (wg.setCell ⟨w.heap.size+2,3,none⟩ (.slice (some ⟨gg,0,none⟩) (k+1) gcap))):=hNew.setCell (Nat.le_refl _) _;clear hNew hownG hgrow hatG hltG hbg hgg hKp;go_wp2_with fail;go_roundw;case rel=>exact⟨k+1,_,by go_num,by omega,HZ9.out,HG9.out,HO9.out,HB9.out⟩
      case measure=>(simp[intOf];try omega)
    ·obtain rfl:k=ss.length:=by omega
     obtain⟨a',c',hv',hin⟩:=HO.out.sliceR (by rw[HLk.out];omega) (λ_ h=>h) HQl.out;rw[HLk.out]at hv';injection hv' with e1 e2 e3;subst e1 e3;rw[List.take_length]at hin;have HS9:=Lib.hid hin;have hy:=(HBr.out.block (w.heap.size+1) (by omega)).trans HY3.out;obtain⟨z0,z1,z2,z3,-⟩:=zN HZ.out;obtain⟨r0,r1,r2,r3,rF⟩:=zN hy;have r0f:=rF 0;have r1f:=rF 1;have r2f:=rF 2;have r3f:=rF 3;have HY:=Lib.hid hy;clear hy hin rF;go_wp2_with fail;refine bodyPost_ret (v:=.agg #[.int .i64 f,.int .i64 t,.slice va gs.length vc,.slice vb ss.length vc2]) (zlf _ rfl _ _ (w.heap.size+1) _ _ _ _ (zal HY.out) rfl) rfl ?_;have hq1:q (w.heap.size+1)=true:=(Q.out _).2 (Or.inr (Or.inl rfl));have hkp:∀(s:Nat->Bool) (u0 u1 u2 u3:Value),(∀j,q j=true->s j=true)->Kp (World.hide wr s) (World.hide ((((wr.setCell ⟨w.heap.size+1,0,none⟩ u0).setCell ⟨w.heap.size+1,1,none⟩ u1).setCell ⟨w.heap.size+1,2,none⟩ u2).setCell ⟨w.heap.size+1,3,none⟩ u3) p):=λs u0 u1 u2 u3 hs =>
      Kp.trans (zj (hs _ hq1)) (Kp.trans (zj (hs _ hq1)) (Kp.trans (zj (hs _ hq1)) (Kp.trans (zj (hs _ hq1)) (zR λj hj=>hs _ ((Q.out j).2 (Or.inl hj))))))
     exact HPo.out _ va vc vb vc2 (HG.out.keep (hkp _ _ _ _ _ λj hj=>ze.2 (Or.inl hj))) (HS9.out.keep (hkp _ _ _ _ _ λ_ h=>h)) ((((HBw.out.setCell (by simp) _).setCell (by simp) _).setCell (by simp) _).setCell (by simp) _)
theorem zkP (fn:Func) (hr:fn.results=#[.cell 6 49,.tmp 7]) (W:World) (tm:Array Value) (b:Nat) (m0 m1 e:Value) (hW:W.heap[b]? = some (.cells #[m0,m1] 49 (0,0))) (h0:tm.getD 6 undef=.pointer (some ⟨b,0,none⟩)) (h1:tm.getD 7 undef=e) :
 (results fn tm).run Tryz.prog W=.ok (.tuple #[.agg #[m0,m1],e]) W:=by
 have c0:=zc hW 0;have c1:=zc hW 1;simp at c0 c1;rw[results_cell_tmp hr,h0,h1];simp[asAddr];go_simp
theorem zlT {w:World} {b:Nat} {z0 z1 u0 u1:Value} {t:TypeId} (h:w.heap[b]? = some (.cells #[z0,z1] t (0,0))) :
 ((w.setCell ⟨b,0,none⟩ u0).setCell ⟨b,1,none⟩ u1).heap[b]? = some (.cells #[u0,u1] t (0,0)):=by
 have h0:=heap_setCell_same _ b 0 _ t u0 h;have h1:=heap_setCell_same _ b 1 _ t u1 h0;simpa using h1
theorem xm {w:World} {b:Nat} {z0 z1:Value} {t:TypeId} (h:w.heap[b]? = some (.cells #[z0,z1] t (0,0))):w.cell? ⟨b,0,none⟩=some z0/\w.cell? ⟨b,1,none⟩=some z1/\∀o,w.frozen? ⟨b,o,none⟩=false:=by
 refine⟨?_,?_,λo=>?_⟩
 ·rw[zc h];rfl
 ·rw[zc h];rfl
 ·simp[World.frozen?,h]
theorem XD {t:TypeId} {p:Nat->Bool} {w:World} {B:Nat} {v:Value} {l:List Sg} (h:sgE.Own t p w B v l) (hn:l.length<=1073741824):∃a cap,v=.slice a l.length cap/\∀q:Nat->Bool,(∀k,B<=k->k<w.heap.size->q k=false)->sgE.In (World.hide w q) l a cap:=by have hlt:=zl h;obtain⟨a,cap,rfl,h1,h2,h3⟩:=h.slice hn;refine⟨a,cap,rfl,λq hq=>⟨h1,h2,h3.imp id ?_⟩⟩;rintro ⟨b,off,rfl,hc⟩;have hb:=hlt b rfl;refine⟨b,off,rfl,λi hi=>?_⟩;obtain⟨x,hx,vs,hr,hv⟩:=hc i hi;exact⟨x,hx,vs,hr,λj v hj=>zy.2 ⟨hq b hb.1 hb.2,hv j v hj⟩⟩
def zgt (p:Nat->Bool) (r:Option (List Sg)) (tt:Int) (w:World) (e:Ending) (w':World):Prop :=
 (match r with
  |none=>e=.returned (.tuple #[.agg #[.int .i64 0,.slice none 0 0],.bool false])
  |some l=>∃a c,e=.returned (.tuple #[.agg #[.int .i64 tt,.slice a l.length c],.bool true])/\sgE.In (World.hide w' p) l a c)/\Below w.heap.size w w'
theorem X9 {l:List qi} {env loc:List Sg} {k:Nat} (h:k<l.length):zI l env loc (k+1)=Z4 (zI l env loc k) (l[k]'h).name (qK (l[k]'h).expr (zI l env loc k) env):=by unfold zI;rw[List.take_succ_eq_append_getElem h,List.foldl_append];rfl
theorem YY {l:List qi} {env loc:List Sg} (ha:zbm loc):∀k,zbm (zI l env loc k)
 |0=>by unfold zI;simpa using ha
 |k+1=>by
  by_cases h:k<l.length
  ·rw[X9 h];exact zbO (YY ha k)
  ·have:zI l env loc (k+1)=zI l env loc k:=by
    unfold zI;rw[List.take_of_length_le (by omega),List.take_of_length_le (by omega)]
   rw[this];exact YY ha k
theorem qt {l:List qi} {env loc:List Sg}:∀k,(zI l env loc k).length<=loc.length+k
 |0=>by unfold zI;simp
 |k+1=>by
  by_cases h:k<l.length
  ·rw[X9 h];have h1:=zeK (zI l env loc k) (l[k]'h).name (qK (l[k]'h).expr (zI l env loc k) env);have h2:=qt (l:=l) (env:=env) (loc:=loc) k;omega
  ·have:zI l env loc (k+1)=zI l env loc k:=by
    unfold zI;rw[List.take_of_length_le (by omega),List.take_of_length_le (by omega)]
   rw[this];have h2:=qt (l:=l) (env:=env) (loc:=loc) k;omega
structure Qf (e:zn):Prop where
 gs:∀g∈e.guards,g.nodes.length<=1000000
 ss:∀b∈e.sets,b.expr.nodes.length<=1000000
 sl:e.sets.length<=20000
theorem zj4 (p:Nat->Bool) (t:yU) (al:Option Addr) (cl:Nat) (x:zn) (ag:Option Addr) (cg:Nat) (aS:Option Addr) (cs:Nat) (env:List Sg) (ae:Option Addr) (ce:Nat) (w:World) (hp:∀j,p j=true->j<w.heap.size) (hG:ZW w)
 (hL:sgE.In w t.env al cl) (hg:exE.In w x.guards ag cg) (hs:bdE.In w x.sets aS cs) (hE:sgE.In w env ae ce) (ha:zbm t.env) (hl:t.env.length<=50000) (he:env.length<=50000) (hx:Qf x) :
 Calls Tryz.prog 49 #[.agg #[.int .i64 t.state,.slice al t.env.length cl],yT x ag cg aS cs,.slice ae env.length ce] w (zgt p (xj x t.env env) x.to w):=by
 have HVg:Hid (∀k (hk:k<x.guards.length) W ax cx,Below w.heap.size w W->yY W (x.guards[k]'hk) ax cx->Calls Tryz.prog 102 #[.agg #[.int .i64 (x.guards[k]'hk).op,.int .i64 (x.guards[k]'hk).n,.string (x.guards[k]'hk).name,.slice ax (x.guards[k]'hk).args.length cx],.slice al t.env.length cl,.slice ae env.length ce] W λe w'=>e=.returned (.int .i64 (qK (x.guards[k]'hk) t.env env))/\Below W.heap.size W w'):=λk hk W ax cx hW hX =>
  za1 _ t.env env ax cx al cl ae ce W (hG.below hW) hX (hx.gs _ (List.getElem_mem hk)) (hL.keep (za hW)) (hE.keep (za hW)) (by omega) (by omega)
 have HVs:Hid (∀k (hk:k<x.sets.length) W ax cx al cl,Below w.heap.size w W->yY W (x.sets[k]'hk).expr ax cx->sgE.In W (zI x.sets env t.env k) al cl->Calls Tryz.prog 102 #[.agg #[.int .i64 (x.sets[k]'hk).expr.op,.int .i64 (x.sets[k]'hk).expr.n,.string (x.sets[k]'hk).expr.name,.slice ax (x.sets[k]'hk).expr.args.length cx],.slice al (zI x.sets env t.env k).length cl,.slice ae env.length ce] W λe w'=>e=.returned (.int .i64 (qK (x.sets[k]'hk).expr (zI x.sets env t.env k) env))/\Below W.heap.size W w'):=λk hk W ax cx al cl hW hX hL =>
  za1 _ _ env ax cx al cl ae ce W (hG.below hW) hX (hx.ss _ (List.getElem_mem hk)) hL (hE.keep (za hW)) (by have:=qt (l:=x.sets) (env:=env) (loc:=t.env) k;have:=hx.sl;omega) (by omega)
 have HWi:Hid (∀k (hk:k<x.sets.length) (q:Nat->Bool) W al cl v,sgE.In (World.hide W q) (zI x.sets env t.env k) al cl->(∀j,q j=true->j<W.heap.size)->v=qK (x.sets[k]'hk).expr (zI x.sets env t.env k) env->Calls Tryz.prog 56 #[.slice al (zI x.sets env t.env k).length cl,.string (x.sets[k]'hk).name,.int .i64 v] W (Xa q (zI x.sets env t.env (k+1)) W)):=λk hk q W al cl v h1 h2 h3=>by subst h3;rw[X9 hk];exact ze3 q _ al cl _ _ W h1 h2 (YY ha k) (by have:=qt (l:=x.sets) (env:=env) (loc:=t.env) k;have:=hx.sl;omega)
 have HLn:Hid (∀k,k<=x.sets.length->(zI x.sets env t.env k).length<=100000):=λk hk=>by have:=qt (l:=x.sets) (env:=env) (loc:=t.env) k;have:=hx.sl;omega
 have H0:Hid (zI x.sets env t.env 0=t.env):=by show _=_;unfold zI;simp
 have HNo:Hid (∀k (hk:k<x.guards.length),qK (x.guards[k]'hk) t.env env=0->∀W,Below w.heap.size w W->zgt p (xj x t.env env) x.to w (.returned (.tuple #[.agg #[.int .i64 0,.slice none 0 0],.bool false])) W):=λk hk h W hW=>by
  have:xj x t.env env=none:=by unfold xj;rw[if_neg];rw[List.all_eq_true];intro h2;have:=h2 _ (List.getElem_mem hk);rw[h]at this;simp at this
  rw[this];exact⟨rfl,hW⟩
 have HYes:Hid ((∀k (hk:k<x.guards.length),qK (x.guards[k]'hk) t.env env≠0)->∀W a c,Below w.heap.size w W->sgE.In (World.hide W p) (zI x.sets env t.env x.sets.length) a c->zgt p (xj x t.env env) x.to w (.returned (.tuple #[.agg #[.int .i64 x.to,.slice a (zI x.sets env t.env x.sets.length).length c],.bool true])) W):=λh W a c hW hin=>by
  have:xj x t.env env=some (zI x.sets env t.env x.sets.length):=by unfold xj;rw[if_pos];rw[List.all_eq_true];intro g hg;obtain⟨k,hk,rfl⟩:=List.getElem_of_mem hg;have:=h k hk;simpa using this
  rw[this];exact⟨⟨a,c,rfl,hin⟩,hW⟩
 have HCl:Hid (∀W,Below w.heap.size w W->Calls Tryz.prog 61 #[.slice al t.env.length cl] W (yS sgE 78 y8 t.env W)):=λW hW=>zdo y8 t.env al cl W ((hL.keep (za hW)).keep xW);have HGs:=Lib.hid hg;have HSs:=Lib.hid hs;have Hp:=Lib.hid hp;have HGa:Hid (x.guards.length=0\/∃b off,ag=some ⟨b,off,none⟩):=hg.addr;have HSa:Hid (x.sets.length=0\/∃b off,aS=some ⟨b,off,none⟩):=hs.addr;have hgl:=hg.len;have hsl:=hx.sl;unfold yT;generalize zgt p (xj x t.env env) x.to w=Po at HNo HYes⊢;generalize zI x.sets env t.env=CU at *;clear hp hG hL hg hs hE ha hx;go_enter Tryz.func49, Tryz.ntmps49;go_upto_region 1 with fail;generalize hW2:World.alloc (World.alloc (World.alloc w _) _) _=W2;have HB2:Hid (Below w.heap.size w W2):=by show Below _ _ _;rw[←hW2];exact(((Below.refl _ _).alloc (Nat.le_refl _) _).alloc (by simp) _).alloc (by simp;omega) _
 have HT2:Hid (W2.heap[w.heap.size]? = some (.cells #[.int .i64 t.state,.slice al t.env.length cl] 49 (0,0))):=by show _=_;rw[←hW2];exact zk (zk (zh rfl))
 have HE2:Hid (W2.heap[w.heap.size+1]? = some (.cells #[.int .i64 x.fr,.int .i64 x.to,.slice ag x.guards.length cg,.slice aS x.sets.length cs] 69 (0,0))):=by show _=_;rw[←hW2];exact zk (zh (by simp))
 have HR2:Hid (W2.heap[w.heap.size+2]? = some (.cells #[.int .i64 0,.slice none 0 0] 49 (0,0))):=by show _=_;rw[←hW2];exact zh (by simp)
 have hz2:w.heap.size+3<=W2.heap.size:=by rw[←hW2];simp
 clear hW2;obtain⟨-,-,b2,-,-⟩:=zN HE2.out;go_wp2_with fail;clear b2;go_loopw [16,9] (λi _ wr=>∃k:Nat,i=.int .i64 k/\k<=x.guards.length/\Hid (∀j (hj:j<x.guards.length),j<k->qK (x.guards[j]'hj) t.env env≠0)/\Hid (Below W2.heap.size W2 wr)) (λi _ _=>x.guards.length-(intOf i).toNat);case atStart=>exact⟨0,rfl,Nat.zero_le _,λj _ h=>absurd h (by omega),Below.refl _ _⟩
 case round =>
  (try rename World=>wr)
  obtain⟨k,rfl,hk,HN,HBr⟩:=hrel;have hzr:=HBr.out.size;have HBw:Hid (Below w.heap.size w wr):=HB2.out.trans (HBr.out.mono HB2.out.size);have HTr:Hid (wr.heap[w.heap.size]? = some (.cells #[.int .i64 t.state,.slice al t.env.length cl] 49 (0,0))):=(HBr.out.block _ (by omega)).trans HT2.out;have HEr:Hid (wr.heap[w.heap.size+1]? = some (.cells #[.int .i64 x.fr,.int .i64 x.to,.slice ag x.guards.length cg,.slice aS x.sets.length cs] 69 (0,0))):=(HBr.out.block _ (by omega)).trans HE2.out;have HRr:Hid (wr.heap[w.heap.size+2]? = some (.cells #[.int .i64 0,.slice none 0 0] 49 (0,0))):=(HBr.out.block _ (by omega)).trans HR2.out;by_cases hlt:k<x.guards.length
  ·obtain⟨bg,og,hga⟩:=HGa.out.resolve_left (by omega);subst hga;obtain⟨xa,xc,g0,g1,g2,g3,hX⟩:=zbw (HGs.out.keep (za HBw.out)) rfl hlt;have HV1:=λW hW hX=>HVg.out k hlt W xa xc hW hX;have HN0:=Lib.hid (HNo.out k hlt);have HNs:Hid (qK (x.guards[k]'hlt) t.env env≠0->∀j (hj:j<x.guards.length),j<k+1->qK (x.guards[j]'hj) t.env env≠0):=λh j hj hjk=>by
    by_cases e:j=k
    ·subst e;exact h
    ·exact HN.out j hj (by omega)
   generalize (x.guards[k]'hlt)=y at HV1 HN0 HNs g0 g1 g2 g3 hX;have HXy:=Lib.hid hX;have HV2:=Lib.hid HV1;generalize qK y t.env env=vy at HV1 HV2 HN0 HNs;clear hX HV1;go_upto_region 4 with fail;generalize hW5:World.alloc wr _=W5;have hB5:Below wr.heap.size wr W5:=by rw[←hW5];exact(Below.refl _ _).alloc (Nat.le_refl _) _
   have hy5:W5.heap[wr.heap.size]? = some (.cells #[.int .i64 y.op,.int .i64 y.n,.string y.name,.slice xa y.args.length xc] 24 (0,0)):=by rw[←hW5];exact zh rfl
   have HT5:Hid (W5.heap[w.heap.size]? = some (.cells #[.int .i64 t.state,.slice al t.env.length cl] 49 (0,0))):=(hB5.block _ (by omega)).trans HTr.out;have HR5:Hid (W5.heap[w.heap.size+2]? = some (.cells #[.int .i64 0,.slice none 0 0] 49 (0,0))):=(hB5.block _ (by omega)).trans HRr.out;have HBw5:Hid (Below w.heap.size w W5):=HBw.out.trans (hB5.mono HBw.out.size);have HBr5:Hid (Below W2.heap.size W2 W5):=HBr.out.trans (hB5.mono hzr);have HV3:=Lib.hid (HV2.out W5 HBw5.out (HXy.out.keep (za hB5)));obtain⟨y0,y1,y2,y3,-⟩:=zN hy5;obtain⟨-,t1,-⟩:=xm HT5.out;clear hW5 hB5 hy5 g0 g1 g2 g3 HV2;by_cases hv:vy=0
   ·have hN:=HN0.out hv;have HNN:=Lib.hid hN;have hvb:(vy==0)=true:=by simp[hv]
    clear hv hN HN0 HNs;go_upto_region 5 with (go_at_call 102;go_must (refine HV3.out.mono ?_;rintro e w6 ⟨rfl,hb6⟩));have hr6:=(hb6.block _ (by have:=lt_of_block HR5.out;omega)).trans HR5.out;obtain⟨r0,r1,rf⟩:=xm hr6;have rf0:=rf 0;have rf1:=rf 1;have HR6:=Lib.hid hr6;have HB6:Hid (Below w.heap.size w w6):=HBw5.out.trans (hb6.mono HBw5.out.size);clear rf hb6 hr6;go_wp2_with fail;refine bodyPost_ret (v:=.tuple #[.agg #[.int .i64 0,.slice none 0 0],.bool false]) (zkP _ rfl _ _ (w.heap.size+2) _ _ _ (zlT HR6.out) rfl rfl) rfl ?_;exact HNN.out _ ((HB6.out.setCell (by simp;omega) _).setCell (by simp;omega) _)
   ·have hvb:(vy==0)=false:=by simp[hv]
    have HNs2:=Lib.hid (HNs.out hv);clear hv HN0 HNs;go_wp2_with (go_at_call 102;go_must (refine HV3.out.mono ?_;rintro e w6 ⟨rfl,hb6⟩;have HB6:=Lib.hid hb6;clear hb6));go_roundw;case rel=>exact⟨k+1,by go_num,by omega,HNs2.out,HBr5.out.trans (HB6.out.mono HBr5.out.size)⟩
    case measure=>(simp[intOf];try omega)
  ·obtain rfl:k=x.guards.length:=by omega
   have HY:=Lib.hid (HYes.out λj hj=>HN.out j hj hj);have HP0:Hid (∀k,w.heap.size<=k->p k=false):=λk hk=>by
    cases hq:p k with
    |false=>rfl
    |true=>have:=Hp.out k hq;omega
   have HCl2:Hid (∀W,Below wr.heap.size wr W->Calls Tryz.prog 61 #[.slice al t.env.length cl] W λe w'=>(∃a c,e=.returned (.slice a t.env.length c)/\∀q:Nat->Bool,(∀k,W.heap.size<=k->k<w'.heap.size->q k=false)->sgE.In (World.hide w' q) t.env a c)/\Below W.heap.size W w'/\Below wr.heap.size wr w'):=λW hW=>(HCl.out W (HBw.out.trans (hW.mono HBw.out.size))).mono λe w' ⟨⟨v,h1,h2⟩,h3⟩=>by obtain⟨a,c,rfl,h6⟩:=XD h2 (by omega);exact⟨⟨a,c,h1,h6⟩,h3,hW.trans (h3.mono hW.size)⟩
   have HZ:Hid (∀W,Below wr.heap.size wr W->W.cell? ⟨w.heap.size,1,none⟩=some (.slice al t.env.length cl)/\W.cell? ⟨w.heap.size+1,1,none⟩=some (.int .i64 x.to)):=λW hW=>by obtain⟨-,h1,-⟩:=xm ((hW.block _ (by omega)).trans HTr.out);obtain⟨-,h2,-,-,-⟩:=zN ((hW.block _ (by omega)).trans HEr.out);exact⟨h1,h2⟩
   obtain⟨z1,z2⟩:=HZ.out wr (Below.refl _ _);have Z1:∀o,(wr.alloc o).cell? ⟨w.heap.size,1,none⟩=some (.slice al t.env.length cl):=λo=>Lib.cell?_alloc_some _ z1;have Z2:∀o,(wr.alloc o).cell? ⟨w.heap.size+1,1,none⟩=some (.int .i64 x.to):=λo=>Lib.cell?_alloc_some _ z2;clear HNo HYes HVg HCl HN HGs HGa;go_upto_region 7 with fail;go_cut [10] from 28 to 33 (λs10 wx=>∃(k10:Nat) (a:Option Addr) (c:Nat),s10=.pointer (some ⟨k10,0,none⟩)/\Hid (wx.heap[k10]? = some (.cells #[.int .i64 x.to,.slice a t.env.length c] 49 (0,0)))/\Hid (wr.heap.size<=k10)/\Hid (sgE.In (World.hide wx (λj=>p j||j==k10||j==w.heap.size+2)) t.env a c)/\Hid (Below wr.heap.size wr wx));case first =>
    go_region_law (go_simp;go_at_call 61;(with_reducible refine(HCl2.out _ (by first|with_reducible assumption|exact yx)).mono ?_);rintro e v1 ⟨⟨ac,cc,rfl,hin1⟩,hb1,hB1⟩;have HI1:=Lib.hid hin1;have HB1:=Lib.hid hB1;have hs1:=hb1.size;obtain⟨j1,j2⟩:=HZ.out _ hB1;have J1:=λo=>Lib.cell?_alloc_some o j1;have J2:=λo=>Lib.cell?_alloc_some o j2;(try (have hk6:v1.heap[wr.heap.size]? = some (.cells #[.int .i64 0,.slice none 0 0] 49 (0,0)):=(by first|exact hbT hb1 (zh rfl)|exact hbT hb1 (qN (zh rfl))|exact hbT hb1 (zh (by simp)));have HK6:=Lib.hid hk6;obtain⟨k0,k1,kf⟩:=xm hk6;have kf0:=kf 0;have kf1:=kf 1;clear hk6 kf));clear hin1 hb1 hB1)
    all_goals
     go_wp2_with fail;go_meet;case rel =>
      first
      |exact⟨wr.heap.size,ac,cc,rfl,zlT HK6.out,Nat.le_refl _,((HI1.out (λj=>p j||j==wr.heap.size||j==w.heap.size+2) (λk hk hk2=>by have:=HP0.out k (by simp at hk;omega);simp at hk;simp[this];omega)).keep (zj (by simp))).keep (zj (by simp)),(HB1.out.setCell (Nat.le_refl _) _).setCell (Nat.le_refl _) _⟩
      |exact⟨v1.heap.size,ac,cc,rfl,zh rfl,HB1.out.size,(HI1.out (λj=>p j||j==v1.heap.size||j==w.heap.size+2) (λk hk hk2=>by have:=HP0.out k (by simp at hk;omega);simp at hk;simp[this];omega)).keep (zg ((Below.refl _ _).alloc (Nat.le_refl _) _) (λk _ h=>h)),HB1.out.alloc HB1.out.size _⟩
   case rest =>
    obtain⟨kb,ac,cc,e10,HKb,HkG,HI,HBx⟩:=hcut;subst e10;clear HCl2 HZ z1 z2 Z1 Z2;obtain⟨q,hq⟩:∃q:Nat->Bool,(λj=>p j||j==kb||j==w.heap.size+2)=q:=⟨_,rfl⟩;have Q:Hid (∀j,q j=true<->p j=true\/j=kb\/j=w.heap.size+2):=λj=>by rw[←hq];simp[or_assoc]
    rw[hq]at HI;clear hq;have HEc:Hid (wc.heap[w.heap.size+1]? = some (.cells #[.int .i64 x.fr,.int .i64 x.to,.slice ag x.guards.length cg,.slice aS x.sets.length cs] 69 (0,0))):=(HBx.out.block _ (by omega)).trans HEr.out;obtain⟨-,-,-,b3,-⟩:=zN HEc.out;have HBx2:Hid (Below wr.heap.size wr wc):=HBx.out;have HkG2:=HkG.out;rw[←H0.out]at HKb HI;go_wp2_with fail;clear b3;go_loopw [37,12] (λi _ wd=>∃(k:Nat) (a:Option Addr) (c:Nat),i=.int .i64 k/\k<=x.sets.length/\Hid (wd.heap[kb]? = some (.cells #[.int .i64 x.to,.slice a (CU k).length c] 49 (0,0)))/\Hid (sgE.In (World.hide wd q) (CU k) a c)/\Hid (Below wr.heap.size wr wd)) (λi _ _=>x.sets.length-(intOf i).toNat);case atStart=>exact⟨0,ac,cc,rfl,Nat.zero_le _,HKb.out,HI.out,HBx2.out⟩
    case round =>
     (try rename World=>wd)
     obtain⟨k,ak,ck,rfl,hkk,HKd,HId,HBd⟩:=hrel;have hzd:=HBd.out.size;have hkd:=lt_of_block HKd.out;have HBwd:Hid (Below w.heap.size w wd):=HBw.out.trans (HBd.out.mono HBw.out.size);by_cases hltk:k<x.sets.length
     ·obtain⟨bs,os,hsa⟩:=HSa.out.resolve_left (by omega);subst hsa;obtain⟨xa,xc,g0,g1,g2,g3,g4,hnm,hX⟩:=zbo (HSs.out.keep (za HBwd.out)) rfl hltk;have HV1:=λW a c hW hX hL=>HVs.out k hltk W xa xc a c hW hX hL;have HW1:=λW a c v h1 h2 h3=>HWi.out k hltk q W a c v h1 h2 h3;have hln:=HLn.out (k+1) (by omega);generalize (x.sets[k]'hltk)=y at HV1 HW1 g0 g1 g2 g3 g4 hnm hX;obtain⟨nm,y⟩:=y;simp only at HV1 HW1 g0 g1 g2 g3 g4 hnm hX;have HXy:=Lib.hid hX;have HV2:=Lib.hid HV1;have HW2:=Lib.hid HW1;generalize qK y (CU k) env=vy at HV1 HV2 HW1 HW2;clear hX HV1 HW1;go_upto_region 11 with fail;generalize hW5:World.alloc wd _=W5;have hB5:Below wd.heap.size wd W5:=by rw[←hW5];exact(Below.refl _ _).alloc (Nat.le_refl _) _
      have hy5:W5.heap[wd.heap.size]? = some (.cells #[.string nm,.int .i64 y.op,.int .i64 y.n,.string y.name,.slice xa y.args.length xc] 85 (0,0)):=by rw[←hW5];exact zh rfl
      have hk5:W5.heap[kb]? = some (.cells #[.int .i64 x.to,.slice ak (CU k).length ck] 49 (0,0)):=(hB5.block _ hkd).trans HKd.out;have HBw5:Hid (Below w.heap.size w W5):=HBwd.out.trans (hB5.mono HBwd.out.size);have HBr5:Hid (Below wr.heap.size wr W5):=HBd.out.trans (hB5.mono hzd);have HX5:Hid (yY W5 y xa xc):=HXy.out.keep (za hB5);have HI5:Hid (sgE.In (World.hide W5 q) (CU k) ak ck):=HId.out.keep (zg hB5 λ_ _ h=>h);have hz5:=hB5.size;have HQ5:Hid (∀W:World,W5.heap.size<=W.heap.size->∀j,q j=true->j<W.heap.size):=λW hW j hj=>by
       rcases (Q.out j).1 hj with h|h|h
       ·have:=Hp.out j h;have:=HBw5.out.size;omega
       ·omega
       ·omega
      have HV5:Hid (∀W,Below W5.heap.size W5 W->Calls Tryz.prog 102 #[.agg #[.int .i64 y.op,.int .i64 y.n,.string y.name,.slice xa y.args.length xc],.slice ak (CU k).length ck,.slice ae env.length ce] W λe w'=>e=.returned (.int .i64 vy)/\Below W5.heap.size W5 w'):=λW hW=>(HV2.out W ak ck (HBw5.out.trans (hW.mono HBw5.out.size)) (HX5.out.keep (za hW)) ((HI5.out.keep (zg hW λ_ _ h=>h)).keep zb)).mono λe w' h=>⟨h.1,hW.trans (h.2.mono hW.size)⟩;have HW5:Hid (∀W,Below W5.heap.size W5 W->Calls Tryz.prog 56 #[.slice ak (CU k).length ck,.string nm,.int .i64 vy] W λe w'=>(∃a c,e=.returned (.slice a (CU (k+1)).length c)/\sgE.In (World.hide w' q) (CU (k+1)) a c)/\Below W5.heap.size W5 w'):=λW hW=>(HW2.out W ak ck vy (HI5.out.keep (zg hW λ_ _ h=>h)) (HQ5.out W hW.size) rfl).mono λe w' ⟨⟨v,h1,h2⟩,h3⟩=>by
       obtain⟨a,c,rfl,h6⟩:=XD h2 (by omega);exact⟨⟨a,c,h1,h6 q λk hk _=>by
        cases hqk:q k with
        |false=>rfl
        |true=>have:=HQ5.out W hW.size k hqk;omega⟩,hW.trans (h3.mono hW.size)⟩
      have HZb:Hid (∀W,Below W5.heap.size W5 W->W.heap[kb]? = some (.cells #[.int .i64 x.to,.slice ak (CU k).length ck] 49 (0,0))):=λW hW=>(hW.block _ (lt_of_block hk5)).trans hk5;have HZy:Hid (∀W,Below W5.heap.size W5 W->W.heap[wd.heap.size]? = some (.cells #[.string nm,.int .i64 y.op,.int .i64 y.n,.string y.name,.slice xa y.args.length xc] 85 (0,0))):=λW hW=>(hW.block _ (lt_of_block hy5)).trans hy5;obtain⟨-,k1,kf⟩:=xm hk5;have kf1:=kf 1;obtain⟨y0,y1,y2,y3,y4⟩:=zgH hy5;clear hW5 hB5 hy5 hk5 g0 g1 g2 g3 g4 kf HV2 HW2 HVs HWi
      go_region_law (first
       |(go_simp;go_at_call 102;(with_reducible refine(HV5.out _ (by first|with_reducible assumption|exact yx)).mono ?_);rintro e v1 ⟨rfl,hB1⟩;obtain⟨-,i1,i_f⟩:=xm (HZb.out _ hB1);have if1:=i_f 1;obtain⟨m0,m1,m2,m3,m4⟩:=zgH (HZy.out _ hB1);clear i_f)
       |(go_simp;go_at_call 56;(with_reducible refine(HW5.out _ (by first|with_reducible assumption|exact yx)).mono ?_);rintro e v2 ⟨⟨a2,c2,rfl,hin2⟩,hB2⟩;obtain⟨-,l1,lf⟩:=xm (HZb.out _ hB2);have lf1:=lf 1;have HIn2:=Lib.hid hin2;have HB2v:=Lib.hid hB2;clear hin2 hB2 lf))
      all_goals
       have HK9:Hid ((v2.setCell ⟨kb,1,none⟩ (.slice a2 (CU (k+1)).length c2)).heap[kb]? = some (.cells #[.int .i64 x.to,.slice a2 (CU (k+1)).length c2] 49 (0,0))):=by show _=_;rw[heap_setCell_same v2 kb 1 _ _ _ (HZb.out v2 HB2v.out)];rfl
       have HI9:Hid (sgE.In (World.hide (v2.setCell ⟨kb,1,none⟩ (.slice a2 (CU (k+1)).length c2)) q) (CU (k+1)) a2 c2):=HIn2.out.keep (zj ((Q.out kb).2 (Or.inr (Or.inl rfl))));have HB9:Hid (Below wr.heap.size wr (v2.setCell ⟨kb,1,none⟩ (.slice a2 (CU (k+1)).length c2))):=(HBr5.out.trans (HB2v.out.mono HBr5.out.size)).setCell HkG2 _;go_wp2_with fail;go_roundw;case rel=>exact⟨k+1,a2,c2,by go_num,by omega,HK9.out,HI9.out,HB9.out⟩
       case measure=>(simp[intOf];try omega)
     ·obtain rfl:k=x.sets.length:=by omega
      have hr6:=(HBd.out.block (w.heap.size+2) (by omega)).trans HRr.out;obtain⟨r0,r1,rf⟩:=xm hr6;have rf0:=rf 0;have rf1:=rf 1;obtain⟨k0,k1,-⟩:=xm HKd.out;have HR6:=Lib.hid hr6;clear rf hr6;go_wp2_with fail;refine bodyPost_ret (v:=.tuple #[.agg #[.int .i64 x.to,.slice ak (CU x.sets.length).length ck],.bool true]) (zkP _ rfl _ _ (w.heap.size+2) _ _ _ (zlT HR6.out) rfl rfl) rfl ?_;refine HY.out _ ak ck ((HBwd.out.setCell (by simp;omega) _).setCell (by simp;omega) _) ?_;have hq2:q (w.heap.size+2)=true:=(Q.out _).2 (Or.inr (Or.inr rfl));exact((HId.out.keep (zj hq2)).keep (zj hq2)).keep (zR λj hj=>(Q.out j).2 (Or.inl hj))
end Go.Proofs.YthojpomoflhbcaaGreatDoor
