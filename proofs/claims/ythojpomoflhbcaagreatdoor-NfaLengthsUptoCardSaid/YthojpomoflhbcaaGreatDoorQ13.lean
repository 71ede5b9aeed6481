/- nfa.builder: hold. -/
import Derived.Test.YthojpomoflhbcaaGreatDoorQ12
import Derived.Deep.RegionHeld3
import Derived.Deep.CutRange
import Derived.Test.YthojpomoflhbcaaGreatDoorQSh
import Derived.Test.YthojpomoflhbcaaGreatDoorQ00
import Derived.Maps.OwnOps
import Derived.Maps.OwnSet
import Derived.Lib.SlKeysI
import Derived.WideKeyPair
import Derived.DeepKeys4
set_option maxHeartbeats 8000000
set_option maxRecDepth 100000
set_option linter.unusedSimpArgs false
set_option linter.unusedVariables false
set_option linter.unnecessarySimpa false
namespace Go.Proofs.YthojpomoflhbcaaGreatDoor
open Go.RowKit
attribute [local go_sem ↓] Go.wp_at_zero Go.wp_at_succ
theorem hbT {X X':World} {o:Obj} {b:Nat} (hb:Below X.heap.size X X') (h:X.heap[b]? = some o):X'.heap[b]? = some o:=(hb.block b (lt_of_block h)).trans h
theorem zeH {τ:Type} {E:Enc τ} {t:TypeId} {p:Nat->Bool} {w:World} {B B':Nat} {v:Value} {l:List τ} (h:E.Own t p w B v l) (hB:B'<=B):E.Own t p w B' v l:=by obtain⟨xs,h1,h2⟩:=h;refine⟨xs,⟨h1.1,h1.2.imp id ?_⟩,h2⟩;rintro ⟨g,cap,cur,q1,q2,q3⟩;exact⟨g,cap,cur,q1,by omega,q3⟩
theorem zN {w:World} {b:Nat} {z0 z1 z2 z3:Value} {t:TypeId} (h:w.heap[b]? = some (.cells #[z0,z1,z2,z3] t (0,0))):w.cell? ⟨b,0,none⟩=some z0/\w.cell? ⟨b,1,none⟩=some z1/\w.cell? ⟨b,2,none⟩=some z2/\w.cell? ⟨b,3,none⟩=some z3/\∀o,w.frozen? ⟨b,o,none⟩=false:=by
 refine⟨?_,?_,?_,?_,λo=>?_⟩
 ·rw[zc h];rfl
 ·rw[zc h];rfl
 ·rw[zc h];rfl
 ·rw[zc h];rfl
 ·simp[World.frozen?,h]
theorem zg9 {wr W5 cur wg:World} {row:Option Nat} (hg:cur.grownBy wg row) (h5:Below wr.heap.size wr W5) (hc:Below W5.heap.size W5 cur) (hr:∀j,row=some j->W5.heap.size<=j):Below wr.heap.size wr wg:=by have h1:=h5.size;have h2:=hc.size;exact(h5.trans (hc.mono h1)).grown hg (by omega) λj hj=>by have:=hr j hj;omega
theorem qR {τ:Type} {E:Enc τ} {t:TypeId} {q:Nat->Bool} {k o:Nat} {w:World} {B:Nat} {l:List τ} {v u:Value} (hq:q k=true) (hne:some k≠v.ownBlock) (h:E.Own t q w B v l):E.Own t q (w.setCell ⟨k,o,none⟩ u) B v l:=by obtain⟨xs,h1,h2⟩:=h;exact⟨xs,ownsRow_setCell_other h1 (λe=>hne e.symm) u,h2.keep (zj (ze.2 (Or.inl hq)))⟩
theorem zkI {τ:Type} {E:Enc τ} {t:TypeId} {q p:Nat->Bool} {w:World} {B g n cap:Nat} {l:List τ} (h:E.Own t q w B (.slice (some ⟨g,0,none⟩) n cap) l) (hn:l.length<=1073741824) (hpq:∀k,p k=true->q k=true) (hp:∀k,p k=true->k<B):E.In (World.hide w p) l (some ⟨g,0,none⟩) cap:=by obtain⟨a,c,hv,hin⟩:=h.sliceR hn hpq hp;simp only[Value.slice.injEq]at hv;obtain⟨rfl,_,rfl⟩:=hv;exact hin
theorem QO {w:World} {b:Nat} {z0 z1 z2 z3 z4 z5 z6 z7 z8:Value} {t:TypeId} (h:w.heap[b]? = some (.cells #[z0,z1,z2,z3,z4,z5,z6,z7,z8] t (0,0))):w.cell? ⟨b,0,none⟩=some z0/\w.cell? ⟨b,1,none⟩=some z1/\w.cell? ⟨b,2,none⟩=some z2/\w.cell? ⟨b,3,none⟩=some z3/\w.cell? ⟨b,4,none⟩=some z4/\w.cell? ⟨b,5,none⟩=some z5/\w.cell? ⟨b,6,none⟩=some z6/\w.cell? ⟨b,7,none⟩=some z7/\w.cell? ⟨b,8,none⟩=some z8:=by refine⟨?_,?_,?_,?_,?_,?_,?_,?_,?_⟩<;>(rw[zc h];rfl)
theorem zv {w:World} {b:Nat} {z0 z1 z2:Value} {t:TypeId} (h:w.heap[b]? = some (.cells #[z0,z1,z2] t (0,0))):w.cell? ⟨b,0,none⟩=some z0/\w.cell? ⟨b,1,none⟩=some z1/\w.cell? ⟨b,2,none⟩=some z2:=by refine⟨?_,?_,?_⟩<;>(rw[zc h];rfl)
theorem qy (s:Tq) (ae:Option Addr) (ce:Nat) (a:Option Addr) (cap:Nat):ym s ae ce a cap=.agg #[.int .i64 s.op,.int .i64 s.lo,.int .i64 s.hi,.int .i64 s.expr.op,.int .i64 s.expr.n,.string s.expr.name,.slice ae s.expr.args.length ce,.string s.name,.slice a s.args.length cap]:=rfl
theorem ziW {p:Nat->Bool} {k:Nat} {w0 w:World} {st:Int} {L:List zn} {ve va:Value} (h:xI (qk p k) k w0 w st L ve va):Kp (World.hide w0 p) (World.hide w (hid (qk p k) ve)):=zg h.bel λj hj hq=>by
 rcases ze.1 hq with h1|h1
 ·exact zcM h.kB j hj h1
 ·have:=(h.vlt j h1).1;omega
def zlk (x:Ex) (e:zn):zn:=⟨e.fr,e.to,e.guards++[x],e.sets⟩
def zhb (x:Ex) (l:List zn):List zn:=l.map (zlk x)
theorem zhc (x:Ex) {l:List zn} {m:Nat} (h:m<l.length):zhb x (l.take (m+1))=zhb x (l.take m)++[zlk x (l[m]'h)]:=by unfold zhb;rw[List.take_succ_eq_append_getElem h,List.map_append];rfl
theorem zjr {p:Nat->Bool} {k:Nat} {w0 w:World} (hk:w0.heap.size<=k) (hblk:w.heap[k]? = some (.cells #[.int .i64 0,.slice none 0 0,.slice none 0 0,.bool false] 134 (0,0))) (hb:Below w0.heap.size w0 w) (hp:∀j,p j=true->j<w0.heap.size)
 (s:Tq) (ae:Option Addr) (ce:Nat) (a:Option Addr) (cap:Nat) (x:zm) (ax:YL) {K:Nat} (hr:qn K x) (hK:K<=1000000) (hE:yY (World.hide w0 p) s.expr ae ce) (hx:xS (World.hide w0 p) x ax) :
 Calls Tryz.prog 89 #[.pointer (some ⟨k,0,none⟩),ym s ae ce a cap,xq x ax] w (XI p k w0 (Qs s.expr x)):=by
 have hkw:=lt_of_block hblk;have hel:=hx.es.len;have hacl:=hx.ac.2.1;have HXE:=Lib.hid hx.es;have HXA:Hid (x.edges.length=0\/∃b off,ax.ae=some ⟨b,off,none⟩):=hx.es.addr;have HSE:=Lib.hid hE;have Hp:=Lib.hid hp;have HGl:Hid (∀m (h:m<x.edges.length),(x.edges[m]'h).guards.length+1<=1073741824):=λm h=>by have:=(hr.es _ (List.getElem_mem h)).2.1;omega
 have HPo:Hid (∀ve W,xI (qk p k) k w0 W x.states (zhb s.expr x.edges) ve (.slice ax.aa x.accept.length ax.ca)->XI p k w0 (Qs s.expr x) (.returned (.tuple #[])) W):=λve W h =>
  ⟨rfl,_,ve,ax.aa,ax.ca,λj hj=>xw.2 (Or.inl hj),h,hx.ac.keep (zg h.bel λ_ _ h=>h)⟩
 clear hx hE hp hr;generalize XI p k w0 (Qs s.expr x)=Po at HPo⊢;rw[qy,zH];obtain⟨xs,xE,xA⟩:=x;obtain⟨xae,xce,xaa,xca⟩:=ax;simp only at hel hacl HXE HXA HGl HPo⊢;obtain⟨c0,c1,c2,c3,f0⟩:=zN hblk;have f00:=f0 0;have f02:=f0 2;have HBlk:=Lib.hid hblk;clear f0 c1 c3 hblk;go_enter Tryz.func89, Tryz.ntmps89;go_wp2_with fail;generalize hW4:World.alloc (World.alloc (World.setCell (World.setCell w _ _) _ _) _) _=W4;have hblk4:W4.heap[k]? = some (.cells #[.int .i64 xs,.slice none 0 0,.slice xaa xA.length xca,.bool false] 134 (0,0)):=by rw[←hW4];refine zk (zk ?_);rw[heap_setCell_same _ k 2 _ _ _ (qc HBlk.out 0)];rfl
 have hbx4:W4.heap[w.heap.size]? = some (.cells #[.int .i64 s.op,.int .i64 s.lo,.int .i64 s.hi,.int .i64 s.expr.op,.int .i64 s.expr.n,.string s.expr.name,.slice ae s.expr.args.length ce,.string s.name,.slice a s.args.length cap] 27 (0,0)):=by rw[←hW4];exact zk (zh (by simp))
 have hb4:Below w0.heap.size w0 W4:=by rw[←hW4];have hz:=hb.size;exact(((hb.setCell hk _).setCell hk _).alloc (by simp;omega) _).alloc (by simp;omega) _
 have hz4:w.heap.size+2<=W4.heap.size:=by rw[←hW4];simp
 clear hW4 c0 c2 f00 f02;have HE4:=Lib.hid (xI.mk0 (q:=qk p k) hk (xw.2 (Or.inr rfl)) hblk4 hb4);have HBX4:=Lib.hid hbx4;have hwk:w.heap.size≠k:=by omega
 clear hblk4 hbx4 hb4 hb HBlk;go_loopw [23,7] (λi _ wr=>∃(m:Nat) (ve:Value),i=.int .i64 m/\m<=xE.length/\Hid (xI (qk p k) k w0 wr xs (zhb s.expr (xE.take m)) ve (.slice xaa xA.length xca))/\Hid (BF k W4 ve (.slice none 0 0) wr)) (λi _ _=>xE.length-(intOf i).toNat);case atStart=>exact⟨0,.slice none 0 0,rfl,Nat.zero_le _,by simpa [zhb] using HE4,BF.refl _ _⟩
 case round =>
  obtain⟨m,ve,rfl,hm,HD,HF⟩:=hrel;have hzr:=HF.out.size;by_cases hlt:m<xE.length
  ·obtain⟨bf,of,hfa⟩:=HXA.out.resolve_left (by omega);subst hfa;have HK0:Hid (Kp (World.hide w0 p) (World.hide wr (hid (qk p k) ve))):=ziW HD.out;obtain⟨ag,cg,aS,cs,g0,g1,g2,g3,h1,h2⟩:=yR (HXE.out.keep HK0.out) rfl hlt;have e0:=zb _ _ g0;have e1:=zb _ _ g1;have e2:=zb _ _ g2;have e3:=zb _ _ g3;have hgl:=HGl.out m hlt;have HTn:Hid (zhb s.expr (xE.take m)++[zlk s.expr (xE[m]'hlt)]=zhb s.expr (xE.take (m+1))):=(zhc s.expr hlt).symm;have HH1:=Lib.hid h1;have HH2:=Lib.hid h2;have HSE1:=Lib.hid (HSE.out.keep HK0.out);clear g0 g1 g2 g3 h1 h2;generalize (xE[m]'hlt)=y at e0 e1 e2 e3 hgl HTn HH1 HH2;have hbx:=(HF.out.block w.heap.size (by omega) hwk).trans HBX4.out;obtain⟨-,-,-,x3,x4,x5,x6,-,-⟩:=QO hbx;have X3:∀o,(wr.alloc o).cell? ⟨w.heap.size,3,none⟩=some (.int .i64 s.expr.op):=λo=>Lib.cell?_alloc_some _ x3;have X4:∀o,(wr.alloc o).cell? ⟨w.heap.size,4,none⟩=some (.int .i64 s.expr.n):=λo=>Lib.cell?_alloc_some _ x4;have X5:∀o,(wr.alloc o).cell? ⟨w.heap.size,5,none⟩=some (.string s.expr.name):=λo=>Lib.cell?_alloc_some _ x5;have X6:∀o,(wr.alloc o).cell? ⟨w.heap.size,6,none⟩=some (.slice ae s.expr.args.length ce):=λo=>Lib.cell?_alloc_some _ x6;clear hbx;go_upto_region 6 with fail;generalize hW5:World.alloc wr _=W5;have hbw5:W5.heap[wr.heap.size]? = some (.cells #[.int .i64 y.fr,.int .i64 y.to,.slice ag y.guards.length cg,.slice aS y.sets.length cs] 69 (0,0)):=by rw[←hW5];exact zh rfl
   have hB5:Below wr.heap.size wr W5:=by rw[←hW5];exact(Below.refl _ _).alloc (Nat.le_refl _) _
   have hz5:wr.heap.size<W5.heap.size:=by rw[←hW5];simp
   have x3:W5.cell? ⟨w.heap.size,3,none⟩=some (.int .i64 s.expr.op):=by rw[←hW5];exact X3 _
   have x4:W5.cell? ⟨w.heap.size,4,none⟩=some (.int .i64 s.expr.n):=by rw[←hW5];exact X4 _
   have x5:W5.cell? ⟨w.heap.size,5,none⟩=some (.string s.expr.name):=by rw[←hW5];exact X5 _
   have x6:W5.cell? ⟨w.heap.size,6,none⟩=some (.slice ae s.expr.args.length ce):=by rw[←hW5];exact X6 _
   obtain⟨b0,b1,b2,b3,bF⟩:=zN hbw5;clear hW5 X3 X4 X5 X6 e0 e1 e2 e3;obtain⟨q6,hq6⟩:∃q6:Nat->Bool,(λj=>hid (qk p k) ve j||j==wr.heap.size)=q6:=⟨_,rfl⟩;have Q6:Hid (∀j,q6 j=true<->hid (qk p k) ve j=true\/j=wr.heap.size):=λj=>by rw[←hq6];simp
   have HQlt:Hid (∀j,hid (qk p k) ve j=true->j<wr.heap.size):=HD.out.hlt λj hj=>by
    rcases xw.1 hj with h|h
    ·have:=Hp.out j h;have:=HD.out.bel.size;omega
    ·subst h;exact HD.out.klt
   have hk65:Kp (World.hide wr (hid (qk p k) ve)) (World.hide W5 q6):=zg hB5 λj hj h=>((Q6.out j).1 h).elim id λe=>by omega
   clear hq6;have HCl:Hid (∀W,Below W5.heap.size W5 W->Calls Tryz.prog 146 #[.slice ag y.guards.length cg] W λe w'=>(∃a c,e=.returned (.slice a y.guards.length c)/\exE.Own 24 q6 w' W5.heap.size (.slice a y.guards.length c) y.guards)/\Below W.heap.size W w'/\Below W5.heap.size W5 w'):=λW hW=>by refine(zgI q6 y.guards ag cg W (HH1.out.keep (hk65.trans (zg hW λ_ _ h=>h)))).mono ?_;rintro e w' ⟨⟨v,rfl,h1⟩,h2⟩;obtain⟨a,c,rfl,_⟩:=h1.slice (by omega);exact⟨⟨a,c,rfl,zeH h1 hW.size⟩,h2,hW.trans (h2.mono hW.size)⟩
   have HRx:Hid (∀W v,Below W5.heap.size W5 W->(∀j,Value.ownBlock v=some j->W5.heap.size<=j)->exR (World.hide W (hid q6 v)) s.expr [.int .i64 s.expr.op,.int .i64 s.expr.n,.string s.expr.name,.slice ae s.expr.args.length ce]):=λW v hW hv=>⟨ae,ce,rfl,HSE1.out.keep (hk65.trans (zg hW λj hj h=>(ze.1 h).elim id λe=>by have:=hv j e;omega))⟩;have HS5:Hid (∀W,Below W5.heap.size W5 W->W.cell? ⟨wr.heap.size,2,none⟩=some (.slice ag y.guards.length cg)/\W.cell? ⟨w.heap.size,3,none⟩=some (.int .i64 s.expr.op)/\W.cell? ⟨w.heap.size,4,none⟩=some (.int .i64 s.expr.n)/\W.cell? ⟨w.heap.size,5,none⟩=some (.string s.expr.name)/\W.cell? ⟨w.heap.size,6,none⟩=some (.slice ae s.expr.args.length ce)):=λW hW=>⟨za hW _ _ b2,za hW _ _ x3,za hW _ _ x4,za hW _ _ x5,za hW _ _ x6⟩;have HBw5:=Lib.hid hbw5;have HB5:=Lib.hid hB5;have Hk65:=Lib.hid hk65;have hs5:Below W5.heap.size W5 W5:=Below.refl _ _;have X3:∀o,(W5.alloc o).cell? ⟨w.heap.size,3,none⟩=some (.int .i64 s.expr.op):=λo=>Lib.cell?_alloc_some _ x3;have X4:∀o,(W5.alloc o).cell? ⟨w.heap.size,4,none⟩=some (.int .i64 s.expr.n):=λo=>Lib.cell?_alloc_some _ x4;have X5:∀o,(W5.alloc o).cell? ⟨w.heap.size,5,none⟩=some (.string s.expr.name):=λo=>Lib.cell?_alloc_some _ x5;have X6:∀o,(W5.alloc o).cell? ⟨w.heap.size,6,none⟩=some (.slice ae s.expr.args.length ce):=λo=>Lib.cell?_alloc_some _ x6
   have B2:∀o,(W5.alloc o).cell? ⟨wr.heap.size,2,none⟩=some (.slice ag y.guards.length cg):=λo=>Lib.cell?_alloc_some _ b2;clear hbw5 hB5 hk65 bF b0 b1 b3
   go_region_law (first
    |(go_simp;go_at_call 146;(with_reducible refine(HCl.out _ (by first|with_reducible assumption|exact yx)).mono ?_);rintro e v1 ⟨⟨a1,k1,rfl,hc1⟩,hb1,hB1⟩;have hs1:=hB1.size;have HC1:=Lib.hid hc1;obtain⟨j2,j3,j4,j5,j6⟩:=HS5.out _ hB1;clear hc1)
    |(refine xR (E:=exE) Xk (by rfl) _ _ (by rfl) q6 W5.heap.size (.slice a1 y.guards.length k1) (by rfl) (HC1.out.below (by first|exact Below.refl _ _|exact yx)) s.expr [.int .i64 s.expr.op,.int .i64 s.expr.n,.string s.expr.name,.slice ae s.expr.args.length ce] (HRx.out _ _ (by first|with_reducible assumption|exact yx) (λj hj=>(zl HC1.out j hj).1)) _ 1 (by rfl) (by first|exact zi _ _|exact hbT hb1 (zh rfl)) y.guards.length rfl hgl (by first|omega|(simp;omega)) _ rfl ?_;intro gg gcap wg hownG hgrow hatG hltG;have hbg:wg.heap[wr.heap.size]? = some (.cells #[.int .i64 y.fr,.int .i64 y.to,.slice ag y.guards.length cg,.slice aS y.sets.length cs] 69 (0,0)):=((hgrow.block wr.heap.size (by first|omega|(simp;omega)) (λe=>by have:=(zl HC1.out _ e.symm).1;omega)).trans ((Below.block (B:=W5.heap.size) (by first|with_reducible assumption|exact yx) _ hz5).trans HBw5.out));obtain⟨i0,i1,i2,i3,iF⟩:=zN hbg))
   all_goals
    have hBg:=zg9 hgrow HB5.out (by first|with_reducible assumption|exact yx) (λj hj=>(zl HC1.out j hj).1);have hgg:=zl hownG gg rfl;have hq6b:q6 wr.heap.size=true:=(Q6.out _).2 (Or.inr rfl);have hown9:=qR (o:=2) (u:=.slice (some ⟨gg,0,none⟩) (y.guards.length+1) gcap) hq6b (λe=>by have:=Option.some.inj e;simp only at this;omega) hownG;have hIn9:exE.In (World.hide (wg.setCell ⟨wr.heap.size,2,none⟩ (.slice (some ⟨gg,0,none⟩) (y.guards.length+1) gcap)) (hid (qk p k) ve)) (y.guards++[s.expr]) (some ⟨gg,0,none⟩) gcap:=zkI hown9 (by rw[List.length_append];simpa using hgl) (λj hj=>(Q6.out j).2 (Or.inl hj)) λj hj=>by have:=HQlt.out j hj;omega
    have hB9:Below wr.heap.size wr (wg.setCell ⟨wr.heap.size,2,none⟩ (.slice (some ⟨gg,0,none⟩) (y.guards.length+1) gcap)):=hBg.setCell (Nat.le_refl _) _;have HM:Hid (Calls Tryz.prog 136 #[.pointer (some ⟨k,0,none⟩),.agg #[.int .i64 y.fr,.int .i64 y.to,.slice (some ⟨gg,0,none⟩) (y.guards.length+1) gcap,.slice aS y.sets.length cs]] (wg.setCell ⟨wr.heap.size,2,none⟩ (.slice (some ⟨gg,0,none⟩) (y.guards.length+1) gcap)) (yl (qk p k) k w0 (wg.setCell ⟨wr.heap.size,2,none⟩ (.slice (some ⟨gg,0,none⟩) (y.guards.length+1) gcap)) xs (zhb s.expr (xE.take m)++[zlk s.expr y]) ve (.slice xaa xA.length xca))):=by
     have h:=ZF (HD.out.below hB9) (zlk s.expr y) (some ⟨gg,0,none⟩) gcap aS cs hIn9 (HH2.out.keep (zP hB9));have e:(zlk s.expr y).guards.length=y.guards.length+1:=by simp[zlk]
     unfold yT at h;rw[e]at h;exact h
    have HB9:=Lib.hid hB9;clear hBg hgg hq6b hown9 hIn9 hB9 hownG hgrow hatG hltG hbg;go_wp2_with fail;refine HM.out.mono ?_;rintro e w7 ⟨rfl,u',hD7,hS7⟩;have HD7:Hid (xI (qk p k) k w0 w7 xs (zhb s.expr (xE.take (m+1))) u' (.slice xaa xA.length xca)):=by show xI _ _ _ _ _ _ _ _;rw[←HTn.out];exact hD7
    have HF7:Hid (BF k W4 u' (.slice none 0 0) w7):=(HF.out.below HB9.out).step hS7;clear hD7 hS7;go_wp2_with fail;go_roundw;case rel=>exact⟨m+1,u',by go_num,by omega,HD7.out,HF7.out⟩
    case measure=>(simp[intOf];try omega)
  ·obtain rfl:m=xE.length:=by omega
   have HDf:Hid (xI (qk p k) k w0 wr xs (zhb s.expr xE) ve (.slice xaa xA.length xca)):=by show xI _ _ _ _ _ _ _ _;have:=HD.out;rwa [List.take_length]at this
   go_wp2_with fail;first|exact HPo.out _ _ HDf.out|(refine bodyPost_ret (results_none rfl _ _ _) rfl ?_;exact HPo.out _ _ HDf.out)
theorem zch (l:List Int) (a:Option Addr) (c:Nat) (x:Int) (w:World) (h:IntsIn w l a c):Calls Tryz.prog 60 #[.slice a l.length c,.int .i64 x] w λe w'=>e=.returned (.bool (l.contains x))/\w'=w:=by
 rcases Nat.eq_zero_or_pos l.length with h0|h0
 ·obtain rfl:l=[]:=List.eq_nil_of_length_eq_zero h0;exact(Tryz.slices_Contains_int_empty a c x w).mono λe w' h=>⟨h.1,h.2⟩
 ·obtain⟨b,off,rfl⟩:=(zr.addr h).resolve_left (by omega);have:=Tryz.slices_Contains_int b off l.length c l x w (Nat.le_refl _) (by have:=h.2.1;omega) (λj hj=>h.get rfl hj);rw[List.take_length]at this;exact this
def zkz (l:List Int) (x:Int):Int:=if l.contains x=true then (l.idxOf x:Nat) else -1
theorem zfB (x:Int):∀(l:List Int) (i:Nat),Lib.idxFrom l x i=if l.contains x=true then ((i+l.idxOf x:Nat):Int) else -1:=by
 intro l
 induction l with
 |nil=>intro i;simp[Lib.idxFrom]
 |cons y l ih =>
  intro i;unfold Lib.idxFrom;by_cases h:y=x
  ·subst h;simp
  ·have h2:(y==x)=false:=by simp[h]
   have h3:¬x=y:=λe=>h e.symm;rw[List.idxOf_cons,h2];simp only[h,if_false,cond_false,ih,List.contains_cons,beq_eq_false_iff_ne.2 h3,Bool.false_or];split
   ·omega
   ·rfl
theorem zjv (l:List Int) (a:Option Addr) (c:Nat) (x:Int) (w:World) (h:IntsIn w l a c):Calls Tryz.prog 116 #[.slice a l.length c,.int .i64 x] w λe w'=>e=.returned (.int .i64 (zkz l x))/\w'=w:=by
 have e:Lib.idxOf l x=zkz l x:=by unfold Lib.idxOf zkz;rw[zfB,Nat.zero_add]
 rw[←e];rcases Nat.eq_zero_or_pos l.length with h0|h0
 ·obtain rfl:l=[]:=List.eq_nil_of_length_eq_zero h0;exact Tryz.slices_Index_int_empty a c x w
 ·obtain⟨b,off,rfl⟩:=(zr.addr h).resolve_left (by omega);have:=Tryz.slices_Index_int b off l.length c l x w (Nat.le_refl _) (by have:=h.2.1;omega) (λj hj=>h.get rfl hj);rw[List.take_length]at this;exact this
theorem ZE (n:zm) (x:YL) (s:Int) (w:World) (h:IntsIn w n.accept x.aa x.ca):Calls Tryz.prog 138 #[xq n x,.int .i64 s] w λe w'=>e=.returned (.bool (n.accept.contains s))/\Below w.heap.size w w':=by have HC:Hid (∀W,Below w.heap.size w W->Calls Tryz.prog 60 #[.slice x.aa n.accept.length x.ca,.int .i64 s] W λe w'=>e=.returned (.bool (n.accept.contains s))/\w'=W):=λW hW=>zch _ _ _ _ W (h.keep (za hW));clear h;rw[zH];generalize n.accept.contains s=R at HC⊢;go_enter Tryz.func138, Tryz.ntmps138;go_wp2_with fail;refine(HC.out _ bel).mono ?_;rintro e w1 ⟨rfl,rfl⟩;go_wp2_with fail;go_ret;exact⟨rfl,bel⟩
structure BG (k:Nat) (W:World) (v0 a0:Value) (wr:World) (v a:Value):Prop where
 size:W.heap.size<=wr.heap.size
 block:∀j,j<W.heap.size->j≠k->v0.ownBlock≠some j->a0.ownBlock≠some j->wr.heap[j]? = W.heap[j]?
 vrow:v.ownBlock=v0.ownBlock\/∀g,v.ownBlock=some g->W.heap.size<=g
 arow:a.ownBlock=a0.ownBlock\/∀g,a.ownBlock=some g->W.heap.size<=g
section
variable {k : Nat} {W wr wr' : World} {v0 a0 v a v' a' : Value}
theorem BG.refl (k:Nat) (W:World) (v a:Value):BG k W v a W v a:=⟨Nat.le_refl _,λ_ _ _ _ _=>rfl,Or.inl rfl,Or.inl rfl⟩
theorem BG.vne (h:BG k W v0 a0 wr v a) {j:Nat} (hj:j<W.heap.size) (hv:v0.ownBlock≠some j):v.ownBlock≠some j:=λe=>by
 rcases h.vrow with e2|e2
 ·rw[e2]at e;exact hv e
 ·have:=e2 j e;omega
theorem BG.ane (h:BG k W v0 a0 wr v a) {j:Nat} (hj:j<W.heap.size) (hv:a0.ownBlock≠some j):a.ownBlock≠some j:=λe=>by
 rcases h.arow with e2|e2
 ·rw[e2]at e;exact hv e
 ·have:=e2 j e;omega
theorem BG.step (h:BG k W v0 a0 wr v a) (hs:yw k wr v wr' v'):BG k W v0 a0 wr' v' a:=by
 refine⟨Nat.le_trans h.size hs.size,λj hj hk h1 h2=>?_,?_,h.arow⟩
 ·exact(hs.block j (Nat.lt_of_lt_of_le hj h.size) hk (h.vne hj h1)).trans (h.block j hj hk h1 h2)
 ·rcases hs.row with e|e
  ·rw[e];exact h.vrow
  ·exact Or.inr λg hg=>Nat.le_trans h.size (e g hg)
theorem BG.below (h:BG k W v0 a0 wr v a) (hb:Below wr.heap.size wr wr'):BG k W v0 a0 wr' v a:=h.step (yw.below v hb)
theorem BG.acc (h:BG k W v0 a0 wr v a) (hg:wr.grownBy wr' a.ownBlock) (hat:a'.ownBlock=a.ownBlock\/∃g,a'.ownBlock=some g/\wr.heap.size<=g) (u:Value) (o:Nat):BG k W v0 a0 (wr'.setCell ⟨k,o,none⟩ u) v a':=by
 refine⟨by rw[World.size_setCell];exact Nat.le_trans h.size hg.size,λj hj hk h1 h2=>?_,h.vrow,?_⟩
 ·exact(Below.heap_setCell _ _ _ _ (λe=>hk (by simpa using e))).trans ((hg.block j (Nat.lt_of_lt_of_le hj h.size) λe=>h.ane hj h2 e.symm).trans (h.block j hj hk h1 h2))
 ·rcases hat with e|⟨g,e,hgs⟩
  ·rw[e];exact h.arow
  ·exact Or.inr λg' hg'=>by rw[e]at hg';have:=Option.some.inj hg';have:=h.size;omega
theorem BG.setSt (h:BG k W v0 a0 wr v a) (u:Value) (o:Nat):BG k W v0 a0 (wr.setCell ⟨k,o,none⟩ u) v a :=
 ⟨by rw[World.size_setCell];exact h.size,λj hj hk h1 h2=>(Below.heap_setCell _ _ _ _ (λe=>hk (by simpa using e))).trans (h.block j hj hk h1 h2),h.vrow,h.arow⟩
theorem BG.kp {q:Nat->Bool} (h:BG k W v0 a wr v a) (hk:q k=true):Kp (World.hide W (hid (hid q a) v0)) (World.hide wr (hid (hid q a) v)):=by
 intro ad u ha;obtain⟨h1,h2⟩:=zy.1 ha;have hlt:=qF h2;have hn:∀j,hid (hid q a) v0 j=true->ad.block≠j:=λj hj e=>by rw[e,hj]at h1;simp at h1
 have hvn:v0.ownBlock≠some ad.block:=λe=>hn _ (ze.2 (Or.inr e)) rfl;have han:a.ownBlock≠some ad.block:=λe=>hn _ (ze.2 (Or.inl (ze.2 (Or.inr e)))) rfl;refine zy.2 ⟨?_,by rw[World.cell?_of_block (h.block _ hlt (hn _ (ze.2 (Or.inl (ze.2 (Or.inl hk))))) hvn han)];exact h2⟩;cases e:hid (hid q a) v ad.block with
 |false=>rfl
 |true =>
  rcases ze.1 e with e2|e2
  ·exact absurd rfl (hn _ (ze.2 (Or.inl e2)))
  ·exact absurd e2 (h.vne hlt hvn)
theorem zM.accKp {q:Nat->Bool} {w0 w w':World} {st:Int} {L:List zn} {A:List Int} {ve va u':Value} (h:zM q k w0 w st L A ve va) (hg:w.grownBy w' va.ownBlock) (hat:u'.ownBlock=va.ownBlock\/∃g,u'.ownBlock=some g/\w.heap.size<=g) (o:Nat) (u:Value):Kp (World.hide w (hid (hid q va) ve)) (World.hide (w'.setCell ⟨k,o,none⟩ u) (hid (hid q u') ve)):=by
 have hk:hid (hid q u') ve k=true:=by
  rcases ze.1 h.e.qk with e|e
  ·exact ze.2 (Or.inl (ze.2 (Or.inl e)))
  ·exact absurd e.symm h.ane
 refine Kp.trans (yV (q:=hid (hid q u') ve) hg (λj hj=>ze.2 (Or.inl (ze.2 (Or.inr hj)))) λj hj hq=>?_) (zj hk);rcases ze.1 hq with h3|h3
 ·rcases ze.1 h3 with h4|h4
  ·exact ze.2 (Or.inl (ze.2 (Or.inl h4)))
  ·rcases hat with e|⟨g,e,hgs⟩
   ·exact ze.2 (Or.inl (ze.2 (Or.inr (by rw[←e];exact h4))))
   ·rw[e]at h4;have:=Option.some.inj h4;omega
 ·exact ze.2 (Or.inr h3)
theorem BF.then (h:BF k W v0 a0 wr) (g:BG k wr v0 a0 wr' v a):BF k W v a wr':=by
 refine⟨Nat.le_trans h.size g.size,λj hj hk=>?_,λj hj=>?_,λj hj=>?_⟩
 ·exact(g.block j (Nat.lt_of_lt_of_le hj h.size) hk (λe=>by have:=h.vlt j e;omega) λe=>by have:=h.alt j e;omega).trans (h.block j hj hk)
 ·rcases g.vrow with e|e
  ·exact h.vlt j (by rw[←e];exact hj)
  ·exact Nat.le_trans h.size (e j hj)
 ·rcases g.arow with e|e
  ·exact h.alt j (by rw[←e];exact hj)
  ·exact Nat.le_trans h.size (e j hj)
theorem BG.trans {wr2:World} {v2 a2:Value} (h:BG k W v0 a0 wr v a) (g:BG k wr v a wr2 v2 a2):BG k W v0 a0 wr2 v2 a2:=by
 refine⟨Nat.le_trans h.size g.size,λj hj hk h1 h2=>?_,?_,?_⟩
 ·exact(g.block j (Nat.lt_of_lt_of_le hj h.size) hk (h.vne hj h1) (h.ane hj h2)).trans (h.block j hj hk h1 h2)
 ·rcases g.vrow with e|e
  ·rw[e];exact h.vrow
  ·exact Or.inr λj hj=>Nat.le_trans h.size (e j hj)
 ·rcases g.arow with e|e
  ·rw[e];exact h.arow
  ·exact Or.inr λj hj=>Nat.le_trans h.size (e j hj)
end
open Go.RowKit Go.WideMaps
def zdz (v:Value):Option (DataW Value×List MemPlace):=some (.held v,[])
def xT (w:World) (P:Program) (k:TypeId) (b m:Nat) (f:Lit->Option Value):Prop :=
 ∃D:DataW Value,w.ownsMap P k zdz b m D/\Maps.Tidy D/\Maps.size D=m/\∀kl,Maps.has D kl=(f kl).isSome/\∀v,f kl=some v->∀z,D.atKey kl z=.held v
noncomputable def zhU (f:Lit->Option Value) (kl:Lit) (v:Option Value):Lit->Option Value:=λx=>@ite _ (x=kl) (Classical.propDecidable _) v (f x)
theorem zaf (f:Lit->Option Value) (kl:Lit) (v:Option Value):zhU f kl v kl=v:=by unfold zhU;exact if_pos rfl
theorem XZ {f:Lit->Option Value} {kl x:Lit} (v:Option Value) (h:x≠kl):zhU f kl v x=f x:=by unfold zhU;exact if_neg h
theorem zbM {H:Type} {w:World} {P:Program} {k:TypeId} {R:Value->Option (DataW H×List MemPlace)} {b n:Nat} {D:DataW H} (h:w.ownsMap P k R b n D):w.ownsMap P k R b (Maps.size D) D:=by obtain⟨es,clock,hb,F,_,rfl⟩:=h;exact⟨es,clock,hb,F,by simp[Maps.size,length_sorted],rfl⟩
section
variable {w : World} {P : Program} {k : TypeId} {b m : Nat} {f : Lit → Option Value}
theorem xT.made (w:World) (P:Program) (k:TypeId):xT (w.alloc (.map #[] 0)) P k w.heap.size 0 (λ_=>none) :=
 ⟨.map [],World.ownsMap_made w _ _ _,Maps.tidy_empty,rfl,λkl=>⟨rfl,λv h=>by cases h⟩⟩
theorem xT.lt (h:xT w P k b m f):b<w.heap.size:=by obtain⟨D,h1,_⟩:=h;exact h1.lt
theorem xT.kept {w':World} {row:Option Nat} (h:xT w P k b m f) (hg:w.grownBy w' row) (hne:some b≠row):xT w' P k b m f:=by obtain⟨D,h1,r⟩:=h;exact⟨D,h1.kept hg hne,r⟩
theorem xT.alloc (h:xT w P k b m f) (o:Obj):xT (w.alloc o) P k b m f:=h.kept (World.grownBy_alloc w o none) (by simp)
theorem xT.setCell (h:xT w P k b m f) {a:Addr} (ha:b≠a.block) (u:Value):xT (w.setCell a u) P k b m f:=by obtain⟨D,h1,r⟩:=h;exact⟨D,h1.setCell ha u,r⟩
theorem xT.block {w':World} (h:xT w P k b m f) (hb:w'.heap[b]? = w.heap[b]?):xT w' P k b m f:=by obtain⟨D,⟨es,clock,g1,g2⟩,r⟩:=h;exact⟨D,⟨es,clock,hb.trans g1,g2⟩,r⟩
theorem xT.below {w':World} (h:xT w P k b m f) (hb:Below w.heap.size w w'):xT w' P k b m f:=h.block (hb.block _ h.lt)
theorem xT.belowB {w':World} {B:Nat} (h:xT w P k b m f) (hb:Below B w w') (hB:b<B):xT w' P k b m f:=h.block (hb.block _ hB)
theorem xT.cells {w':World} (h:xT w P k b m f) (hg:w.grownBy w' (some b)):∀a v,w.cell? a=some v->w'.cell? a=some v:=by
 intro a v hc;obtain⟨D,⟨es,clock,g1,_⟩,_⟩:=h;have hlt:=World.block_lt_of_cell? _ _ hc;have hne:a.block≠b:=λe=>by subst e;unfold World.cell? at hc;rw[g1]at hc;simp at hc
 have hh:=hg.block a.block hlt (λe=>hne (by injection e));unfold World.cell? at hc⊢;rw[hh];exact hc
theorem xT.congr {g:Lit->Option Value} (h:xT w P k b m f) (hfg:∀x,f x=g x):xT w P k b m g:=by have:f=g:=funext hfg;rw[←this];exact h
theorem xT.put {w':World} {D:DataW Value} {kl:Lit} {v:Value} (hk:WideAt.IsKeyLit kl) (ht:Maps.Tidy D) (hf:∀kl,Maps.has D kl=(f kl).isSome/\∀v,f kl=some v->∀z,D.atKey kl z=.held v) {n:Nat} (h:w'.ownsMap P k zdz b n (D.put kl (.held v))) :
 xT w' P k b (Maps.size D+if (f kl).isSome then 0 else 1) (zhU f kl (some v)):=by
 have hs:=Maps.size_put (k:=kl) ht (.held v);rw[(hf kl).1]at hs;have hs':Maps.size (D.put kl (.held v))=Maps.size D+if (f kl).isSome then 0 else 1:=by rw[hs];split<;>simp
 refine⟨_,?_,ht.put hk _,hs',λx=>?_⟩
 ·rw[←hs'];exact zbM h
 ·by_cases hx:x=kl
  ·subst hx;rw[zaf];refine⟨Maps.has_put_same ht.isMap hk _,λu hu z=>?_⟩;obtain rfl:=Option.some.inj hu;exact Maps.atKey_put_same ht.isMap hk _ _
  ·rw[XZ _ hx];refine⟨(Maps.has_put_other hx _).trans (hf x).1,λu hu z=>?_⟩;rw[Maps.atKey_put_other hx];exact(hf x).2 u hu z
theorem zha {v:Value} {d:DataW Value} {ps:List MemPlace} (h:zdz v=some (d,ps)):d=.held v:=by unfold zdz at h;injection h with h;injection h with h _;exact h.symm
end
section
variable {P : Program} {w : World} {ops : Array Oper} {rest : List Oper} {o : Oper} {a : Act} {Q : Exit → Act → World → Prop} {k : TypeId} {b n : Nat} {f : Lit → Option Value}
theorem Y4 (w:World) (hg:o.guard=none) (m x v:Operand) (t e:TypeId) (hop:o.op=Op.mapUpdate t m x v) (K:Maps.Keyed P k) (ht:P.underlying t=some (.map k e)) (hm:a.eval m=.map (some b)) (hown:xT w P k b n f) (hn:n<1000000000)
 (key val:Value) (kl:Lit) (hx:a.eval x=key) (hv:a.eval v=val) (hkey:keyOf P k key=some kl) (hk:WideAt.IsKeyLit kl)
 (hK:∀w',xT w' P k b (n+if (f kl).isSome then 0 else 1) (zhU f kl (some val))->w.grownBy w' (some b)->wpList P ops Q rest (a.put o.dst undef) w'):wpList P ops Q (o::rest) a w:=by
 obtain⟨D,h1,h2,h3,h4⟩:=hown;refine wpList_mapUpdate_own w hg m x v t hop k e K ht zdz b n D hm h1 (by unfold maxLen;omega) key val kl hx hv hkey (.held val) [] rfl ?_;intro w' h5 h6;have:=xT.put hk h2 h4 h5;rw[h3]at this;exact hK w' this h6
theorem Q8 (hown:xT w P k b n f) {t e:TypeId} (K:Maps.Keyed P k) (ht:P.underlying t=some (.map k e)) {z:Value} (hz:(zeroValue e).run P w=.ok z w) {key:Value} {kl:Lit} (hkey:keyOf P k key=some kl) :
 (Instr.lookup t (.map (some b)) key true).run P w=.ok (.tuple #[(f kl).getD z,.bool (f kl).isSome]) w:=by
 obtain⟨D,h1,h2,h3,h4⟩:=hown;obtain⟨u,ps,hrun,hR⟩:=h1.look_ok K ht hz (zd:=.held z) (zp:=[]) rfl hkey;have hu:=zha hR;rw[(h4 kl).1]at hrun;cases hf:f kl with
 |none =>have hh:=(h4 kl).1;rw[hf]at hh hrun;rw[Maps.atKey_of_not_has (by simpa using hh)]at hu;injection hu with hu;subst hu;simpa using hrun
 |some v =>rw[(h4 kl).2 v hf]at hu;injection hu with hu;subst hu;rw[hf]at hrun;simpa using hrun
theorem y6 (w:World) (hg:o.guard=none) (m x:Operand) (t e:TypeId) (hop:o.op=Op.lookup t m x true) (K:Maps.Keyed P k) (ht:P.underlying t=some (.map k e)) {z:Value} (hz:(zeroValue e).run P w=.ok z w) (hm:a.eval m=.map (some b)) (hown:xT w P k b n f)
 (key:Value) (kl:Lit) (hx:a.eval x=key) (hkey:keyOf P k key=some kl) (v:Value) (hf:f kl=some v)
 (hK:wpList P ops Q rest (a.put o.dst (.tuple #[v,.bool true])) w):wpList P ops Q (o::rest) a w:=by
 have hrun:=Q8 hown K ht hz hkey;rw[hf]at hrun;refine wpList_plain hg λK' hK'=>?_;unfold Oper.wp;simp[execOp,hop,hm,hx,hrun,Result.andThen];exact hK' _ _ hK
theorem yZ (w:World) (hg:o.guard=none) (m x:Operand) (t e:TypeId) (hop:o.op=Op.lookup t m x true) (K:Maps.Keyed P k) (ht:P.underlying t=some (.map k e)) {z:Value} (hz:(zeroValue e).run P w=.ok z w) (hm:a.eval m=.map (some b)) (hown:xT w P k b n f)
 (key:Value) (kl:Lit) (hx:a.eval x=key) (hkey:keyOf P k key=some kl) (hf:f kl=none)
 (hK:wpList P ops Q rest (a.put o.dst (.tuple #[z,.bool false])) w):wpList P ops Q (o::rest) a w:=by
 have hrun:=Q8 hown K ht hz hkey;rw[hf]at hrun;refine wpList_plain hg λK' hK'=>?_;unfold Oper.wp;simp[execOp,hop,hm,hx,hrun,Result.andThen];exact hK' _ _ hK
theorem Y3 (w:World) (hg:o.guard=none) (m:Operand) (t k e:TypeId) (hop:o.op=Op.call { callee:=Callee.builtin Builtin.len,args:=#[m],argTypes:=#[t] }) (ht:P.underlying t=some (.map k e)) (hm:a.eval m=.map (some b)) (hown:xT w P k b n f)
 (hK:wpList P ops Q rest (a.put o.dst (.int .i64 n)) w):wpList P ops Q (o::rest) a w:=by
 obtain⟨D,h1,h2,h3,h4⟩:=hown;refine wpList_len_own w hg m t hop k e ht zdz b n D hm h1 ?_;rw[h3];exact hK
end
def prR (_:World) (p:Int×Int) (vs:List Value):Prop:=vs=[.int .i64 p.1,.int .i64 p.2]
def prE:Enc (Int×Int) where
 sz:=2
 R:=prR
 pos:=by decide
 len:=by rintro _ _ _ rfl;rfl
 keep:=by rintro _ _ _ _ _ h;exact h
 one:=by rintro _ _ _ rfl v hv;simp at hv;rcases hv with rfl|rfl<;>rfl
theorem zmV {w:World} {p:Int×Int} {b o:Nat} (h:prE.At w p b o):w.cell? ⟨b,o,none⟩=some (.int .i64 p.1)/\w.cell? ⟨b,o+1,none⟩=some (.int .i64 p.2):=by obtain⟨vs,rfl,hc⟩:=h;exact⟨hc 0 _ rfl,hc 1 _ rfl⟩
theorem zg0:Elem Tryz.prog 108 109 2:=Elem.of Tryz.underlying108 (by kernel_rfl) (z:=.agg #[.int .i64 0,.int .i64 0]) (bytes:=16) rfl (by decide) (by decide)
theorem zjL {w w':World} {l:List (Int×Int)} {xs:List Value} (h:prE.Vals w l xs):prE.Vals w' l xs:=⟨h.1,λi hi=>by obtain⟨vs,h1,h2⟩:=h.2 i hi;exact⟨vs,h1,h2⟩⟩
theorem Yl {p:Nat->Bool} {w:World} {B:Nat} {v:Value} {l:List (Int×Int)}:prE.Own 109 p w B v l<->∃xs,w.ownsRow B 109 2 v l.length xs/\prE.Vals w l xs :=
 ⟨λ⟨xs,h1,h2⟩=>⟨xs,h1,zjL h2⟩,λ⟨xs,h1,h2⟩=>⟨xs,h1,zjL h2⟩⟩
def prV (p:Int×Int):Value:=.agg #[.int .i64 p.1,.int .i64 p.2]
def prL (p:Int×Int):Lit:=.string (keyBytes [.int .i64 p.1,.int .i64 p.2])
def SmP (p:Int×Int):Prop:=(-1<=p.1/\p.1<=100000)/\-1<=p.2/\p.2<=100000
theorem znm:ArrKey Tryz.prog 109 3 2:=⟨Tryz.underlying109,by kernel_rfl,by kernel_rfl,by kernel_rfl⟩
theorem zmK:laidOutB Tryz.prog=true:=by kernel_rfl
theorem zny:(109:TypeId) < Tryz.prog.types.size:=of_decide_eq_true (by kernel_rfl)
theorem znB : Tryz.prog.keyTypeAt 2 109=true:=by kernel_rfl
theorem ZJ:Maps.Keyed Tryz.prog 109:=Maps.Keyed.of_law (deep_law_laid zmK (m:=2) (by omega) zny znB (by rw[Tryz.underlying109]))
theorem szPR:∃m, Tryz.prog.types.size=m+1:=⟨Tryz.prog.types.size-1,by have:0 < Tryz.prog.types.size:=of_decide_eq_true (by kernel_rfl);omega⟩
theorem zcy {p:Int×Int} (h:SmP p):keyOf Tryz.prog 109 (prV p)=some (prL p):=by obtain⟨⟨h1,h2⟩,h3,h4⟩:=h;exact keyOf_pair znm Tryz.underlying3 szPR (WalkArith.wf_i64 (by omega)) (WalkArith.wf_i64 (by omega))
theorem zlG {p q:Int×Int} (hp:SmP p) (hq:SmP q) (h:prL p=prL q):p=q:=by have h1:=zcy hp;have h2:=zcy hq;rw[←h]at h2;have:=ZJ.inj h1 h2;unfold prV at this;obtain⟨a,b⟩:=p;obtain⟨c,d⟩:=q;simp only[Value.agg.injEq]at this;have h3:=congrArg Array.toList this;simp only[List.cons.injEq,Value.int.injEq,true_and,and_true]at h3;rw[h3.1,h3.2]
theorem XH (w:World):(zeroValue 3).run Tryz.prog w=.ok (.int .i64 0) w:=by kernel_rfl
def zbZ (w:World) (b:Nat) (ps:List (Int×Int)):Prop :=
 ∃(m:Nat) (f:Lit->Option Value),xT w Tryz.prog 109 b m f/\m<=ps.length/\∀p,SmP p->f (prL p)=if ps.contains p then some (.int .i64 (ps.idxOf p:Nat)) else none
section
variable {w w' : World} {b : Nat} {ps : List (Int × Int)}
theorem zbZ.lt (h:zbZ w b ps):b<w.heap.size:=by obtain⟨m,f,h1,_⟩:=h;exact h1.lt
theorem zbZ.block (h:zbZ w b ps) (hb:w'.heap[b]? = w.heap[b]?):zbZ w' b ps:=by obtain⟨m,f,h1,h2⟩:=h;exact⟨m,f,h1.block hb,h2⟩
theorem zbu {p q:Int×Int}:(ps++[q]).contains p=(ps.contains p||p==q):=by rw[Bool.eq_iff_iff];simp
theorem zbZ.put {m:Nat} {f:Lit->Option Value} {q:Int×Int} {n:Nat} (h2:m<=ps.length) (h3:∀p,SmP p->f (prL p)=if ps.contains p then some (.int .i64 (ps.idxOf p:Nat)) else none) (hq:SmP q) (hn:ps.contains q=false) (hnl:n=ps.length) (h:xT w' Tryz.prog 109 b (m+if (f (prL q)).isSome then 0 else 1) (zhU f (prL q) (some (.int .i64 n)))):zbZ w' b (ps++[q]):=by
 subst hnl;refine⟨_,_,h,?_,λp hp=>?_⟩
 ·rw[List.length_append,List.length_singleton];split<;>omega
 ·have hni:q∉ps:=λe=>by rw[List.contains_iff_mem.2 e]at hn;cases hn
  rw[zbu];by_cases e:p=q
  ·subst e;rw[zaf,beq_self_eq_true,Bool.or_true,if_pos rfl,List.idxOf_append,if_neg hni];simp
  ·rw[XZ _ (λe2=>e (zlG hp hq e2)),h3 p hp,beq_eq_false_iff_ne.2 e,Bool.or_false];by_cases hc:ps.contains p=true
   ·rw[if_pos hc,if_pos hc,List.idxOf_append,if_pos (List.contains_iff_mem.1 hc)]
   ·rw[if_neg hc,if_neg hc]
end
structure JB where
 k:Nat
 m:Nat
 r:Nat
 b:Nat
 h:Nat
def qj (p:Nat->Bool) (Q:JB):Nat->Bool:=λj=>p j||j==Q.k||j==Q.m||j==Q.r||j==Q.b||j==Q.h
theorem Zm {p:Nat->Bool} {Q:JB} {j:Nat}:qj p Q j=true<->p j=true\/j=Q.k\/j=Q.m\/j=Q.r\/j=Q.b\/j=Q.h:=by simp only[qj,Bool.or_eq_true,beq_iff_eq,or_assoc]
structure JnS (p:Nat->Bool) (Q:JB) (w0 w:World) (j:zU) (ve vp:Value):Prop where
 e:xI (hid (qj p Q) vp) Q.k w0 w 0 j.edges ve (.slice none 0 0)
 pr:prE.Own 109 (qj p Q) w w0.heap.size vp j.pairs
 bm:w.heap[Q.m]? = some (.cells #[.map (some Q.h)] 227 (0,0))
 br:w.heap[Q.r]? = some (.cells #[vp] 108 (0,0))
 bb:w.heap[Q.b]? = some (.cells #[.pointer (some ⟨Q.k,0,none⟩)] 132 (0,0))
 mp:zbZ w Q.h j.pairs
 ir:w0.heap.size<=Q.r
 ih:w0.heap.size<=Q.h
structure JG (Q:JB) (W:World) (v0 p0:Value) (wr:World) (v pv:Value):Prop where
 size:W.heap.size<=wr.heap.size
 block:∀j,j<W.heap.size->j≠Q.k->j≠Q.r->j≠Q.h->v0.ownBlock≠some j->p0.ownBlock≠some j->wr.heap[j]? = W.heap[j]?
 vrow:v.ownBlock=v0.ownBlock\/∀g,v.ownBlock=some g->W.heap.size<=g
 prow:pv.ownBlock=p0.ownBlock\/∀g,pv.ownBlock=some g->W.heap.size<=g
section
variable {p : Nat → Bool} {Q : JB} {w0 w w' W wr wr' : World} {j j' : zU} {ve ve' vp vp' v0 p0 v pv v' pv' : Value}
theorem JG.refl (Q:JB) (W:World) (v p:Value):JG Q W v p W v p:=⟨Nat.le_refl _,λ_ _ _ _ _ _ _=>rfl,Or.inl rfl,Or.inl rfl⟩
theorem JG.vne (h:JG Q W v0 p0 wr v pv) {i:Nat} (hi:i<W.heap.size) (hv:v0.ownBlock≠some i):v.ownBlock≠some i:=λe=>by
 rcases h.vrow with e2|e2
 ·rw[e2]at e;exact hv e
 ·have:=e2 i e;omega
theorem JG.pne (h:JG Q W v0 p0 wr v pv) {i:Nat} (hi:i<W.heap.size) (hv:p0.ownBlock≠some i):pv.ownBlock≠some i:=λe=>by
 rcases h.prow with e2|e2
 ·rw[e2]at e;exact hv e
 ·have:=e2 i e;omega
theorem JG.trans (h:JG Q W v0 p0 wr v pv) (g:JG Q wr v pv wr' v' pv'):JG Q W v0 p0 wr' v' pv':=by
 refine⟨Nat.le_trans h.size g.size,λi hi h1 h2 h3 h4 h5=>(g.block i (Nat.lt_of_lt_of_le hi h.size) h1 h2 h3 (h.vne hi h4) (h.pne hi h5)).trans (h.block i hi h1 h2 h3 h4 h5),?_,?_⟩
 ·rcases g.vrow with e|e
  ·rw[e];exact h.vrow
  ·exact Or.inr λi hi=>Nat.le_trans h.size (e i hi)
 ·rcases g.prow with e|e
  ·rw[e];exact h.prow
  ·exact Or.inr λi hi=>Nat.le_trans h.size (e i hi)
theorem JG.ofBelow (Q:JB) (v p:Value) (hb:Below W.heap.size W wr):JG Q W v p wr v p:=⟨hb.size,λi hi _ _ _ _ _=>hb.block i hi,Or.inl rfl,Or.inl rfl⟩
theorem JG.ofStep (p:Value) (hs:yw Q.k W v0 wr v):JG Q W v0 p wr v p:=⟨hs.size,λi hi h1 _ _ h4 _=>hs.block i hi h1 h4,hs.row,Or.inl rfl⟩
theorem JG.below (h:JG Q W v0 p0 wr v pv) (hb:Below wr.heap.size wr wr'):JG Q W v0 p0 wr' v pv:=h.trans (JG.ofBelow Q v pv hb)
theorem JG.kp (h:JG Q W v0 p0 wr v pv):Kp (World.hide W (hid (hid (qj p Q) p0) v0)) (World.hide wr (hid (hid (qj p Q) pv) v)):=by
 intro ad u ha;obtain⟨h1,h2⟩:=zy.1 ha;have hlt:=qF h2;have hn:∀i,hid (hid (qj p Q) p0) v0 i=true->ad.block≠i:=λi hi e=>by rw[e,hi]at h1;simp at h1
 have hq:∀i,qj p Q i=true->ad.block≠i:=λi hi=>hn i (ze.2 (Or.inl (ze.2 (Or.inl hi))));have hvn:v0.ownBlock≠some ad.block:=λe=>hn _ (ze.2 (Or.inr e)) rfl;have hpn:p0.ownBlock≠some ad.block:=λe=>hn _ (ze.2 (Or.inl (ze.2 (Or.inr e)))) rfl;refine zy.2 ⟨?_,by rw[World.cell?_of_block (h.block _ hlt (hq _ (Zm.2 (Or.inr (Or.inl rfl)))) (hq _ (Zm.2 (Or.inr (Or.inr (Or.inr (Or.inl rfl)))))) (hq _ (Zm.2 (Or.inr (Or.inr (Or.inr (Or.inr (Or.inr rfl))))))) hvn hpn)];exact h2⟩;cases e:hid (hid (qj p Q) pv) v ad.block with
 |false=>rfl
 |true =>
  rcases ze.1 e with e2|e2
  ·rcases ze.1 e2 with e3|e3
   ·exact absurd rfl (hq _ e3)
   ·exact absurd e3 (h.pne hlt hpn)
  ·exact absurd e2 (h.vne hlt hvn)
theorem zbZ.obj {b:Nat} {ps:List (Int×Int)} (h:zbZ w b ps):∃es c,w.heap[b]? = some (.map es c):=by obtain⟨m,f,⟨D,⟨es,clock,hb,_⟩,_⟩,_⟩:=h;exact⟨es,clock,hb⟩
theorem zcT {B:Nat} {t:TypeId} {z n:Nat} {v:Value} {xs:List Value} {b:Nat} {ps:List (Int×Int)} (h:w.ownsRow B t z v n xs) (hm:zbZ w b ps):v.ownBlock≠some b:=by
 obtain⟨es,c,hb⟩:=hm.obj;rcases h.2 with ⟨rfl,_⟩|⟨g,cap,cur,rfl,_,hg,_⟩
 ·simp[Value.ownBlock]
 ·intro e;have:=Option.some.inj e;simp only at this;subst this;rw[hb]at hg;cases hg
theorem qb {b k:Nat} {cs:Array Value} {t:TypeId} {z:Nat×Nat} {ps:List (Int×Int)} (hm:zbZ w b ps) (hk:w.heap[k]? = some (.cells cs t z)):k≠b:=by rintro rfl;obtain⟨es,c,hb⟩:=hm.obj;rw[hb]at hk;cases hk
theorem Xe {a b:Nat} {cs ds:Array Value} {s t:TypeId} {y z:Nat×Nat} (ha:w.heap[a]? = some (.cells cs s y)) (hb:w.heap[b]? = some (.cells ds t z)) (h:s≠t):a≠b:=by rintro rfl;rw[hb]at ha;simp only[Option.some.injEq,Obj.cells.injEq]at ha;exact h ha.2.1.symm
theorem JnS.vne (h:JnS p Q w0 w j ve vp) {a:Nat} {cs:Array Value} {t:TypeId} {z:Nat×Nat} (ha:w.heap[a]? = some (.cells cs t z)) (ht:t≠69):ve.ownBlock≠some a:=λe=>by obtain⟨xs,h1,_⟩:=h.e.es;exact zX h1 ha ht e.symm
theorem JnS.pne (h:JnS p Q w0 w j ve vp) {a:Nat} {cs:Array Value} {t:TypeId} {z:Nat×Nat} (ha:w.heap[a]? = some (.cells cs t z)) (ht:t≠109):vp.ownBlock≠some a:=λe=>by obtain⟨xs,h1,_⟩:=h.pr;exact zX h1 ha ht e.symm
theorem JnS.vnm (h:JnS p Q w0 w j ve vp):ve.ownBlock≠some Q.h:=by obtain⟨xs,h1,_⟩:=h.e.es;exact zcT h1 h.mp
theorem JnS.pnm (h:JnS p Q w0 w j ve vp):vp.ownBlock≠some Q.h:=by obtain⟨xs,h1,_⟩:=h.pr;exact zcT h1 h.mp
theorem JnS.plt (h:JnS p Q w0 w j ve vp):∀i,vp.ownBlock=some i->w0.heap.size<=i/\i<w.heap.size:=zl h.pr
theorem JnS.vp_ne (h:JnS p Q w0 w j ve vp):∀i,ve.ownBlock=some i->vp.ownBlock≠some i:=by
 intro i hi e;obtain⟨xs,h1,_⟩:=h.e.es;obtain⟨ys,h2,_⟩:=h.pr;rcases h2.2 with ⟨rfl,_⟩|⟨g,cap,cur,rfl,hb,hg,_⟩
 ·simp[Value.ownBlock]at e
 ·exact zX h1 hg (by decide) (by rw[hi];exact e)
theorem JnS.step {E':List zn} (h:JnS p Q w0 w j ve vp) (he:xI (hid (qj p Q) vp) Q.k w0 w' 0 E' ve' (.slice none 0 0)) (hs:yw Q.k w ve w' ve'):JnS p Q w0 w' ⟨j.pairs,E'⟩ ve' vp:=by
 have hk:=h.e.blk;have b1:=Xe h.bm hk (by decide);have b2:=Xe h.br hk (by decide);have b3:=Xe h.bb hk (by decide);have b4:=qb h.mp hk;refine⟨he,?_,?_,?_,?_,?_,h.ir,h.ih⟩
 ·obtain⟨xs,h1,h2⟩:=Yl.1 h.pr;obtain⟨ys,h3,_⟩:=h.e.es;exact Yl.2 ⟨xs,hs.own h1 h3 hk (by decide) (by decide),zjL h2⟩
 ·rw[hs.block Q.m (lt_of_block h.bm) b1 (h.vne h.bm (by decide))];exact h.bm
 ·rw[hs.block Q.r (lt_of_block h.br) b2 (h.vne h.br (by decide))];exact h.br
 ·rw[hs.block Q.b (lt_of_block h.bb) b3 (h.vne h.bb (by decide))];exact h.bb
 ·exact h.mp.block (hs.block Q.h h.mp.lt (Ne.symm b4) h.vnm)
theorem JnS.below (h:JnS p Q w0 w j ve vp) (hb:Below w.heap.size w w'):JnS p Q w0 w' j ve vp:=h.step (h.e.below hb) (yw.below ve hb)
theorem JnS.push {PS PS':List (Int×Int)} {ES:List zn} {wm wg:World} (h:JnS p Q w0 w ⟨PS,ES⟩ ve vp) (hg1:w.grownBy wm (some Q.h)) (hm:zbZ wm Q.h PS') (ho:prE.Own 109 (qj p Q) wg w0.heap.size vp' PS') (hg2:wm.grownBy wg vp.ownBlock)
 (hat:vp'.ownBlock=vp.ownBlock\/∃g,vp'.ownBlock=some g/\wm.heap.size<=g):JnS p Q w0 (wg.setCell ⟨Q.r,0,none⟩ vp') ⟨PS',ES⟩ ve vp'/\JG Q w ve vp (wg.setCell ⟨Q.r,0,none⟩ vp') ve vp':=by
 have hs:∀i,i<w.heap.size->i≠Q.r->i≠Q.h->vp.ownBlock≠some i->(wg.setCell ⟨Q.r,0,none⟩ vp').heap[i]? = w.heap[i]?:=λi hi h1 h2 h3 =>
  (Below.heap_setCell _ _ _ _ (λe=>h1 (by simpa using e))).trans ((hg2.block i (Nat.lt_of_lt_of_le hi hg1.size) (Ne.symm h3)).trans (hg1.block i hi (λe=>h2 (Option.some.inj e))))
 have hG:JG Q w ve vp (wg.setCell ⟨Q.r,0,none⟩ vp') ve vp':=by refine⟨by rw[World.size_setCell];exact Nat.le_trans hg1.size hg2.size,λi hi _ h2 h3 _ h5=>hs i hi h2 h3 h5,Or.inl rfl,hat.imp id ?_⟩;rintro ⟨g,e,hg⟩ i hi;rw[e]at hi;have:=Option.some.inj hi;have:=hg1.size;omega
 have hk:=h.e.blk;have b1:=Xe h.bm h.br (by decide);have b2:=Xe h.br hk (by decide);have b3:=Xe h.bb h.br (by decide);have n1:=qb h.mp h.bm;have n2:=qb h.mp h.br;have n3:=qb h.mp h.bb;have n4:=qb h.mp hk;have hrw:wg.heap[Q.r]? = some (.cells #[vp] 108 (0,0)):=((hg2.block Q.r (Nat.lt_of_lt_of_le (lt_of_block h.br) hg1.size) (Ne.symm (h.pne h.br (by decide)))).trans (hg1.block Q.r (lt_of_block h.br) (λe=>n2 (Option.some.inj e)))).trans h.br;have hrn:some Q.r≠vp'.ownBlock:=by obtain⟨xs,h1,_⟩:=ho;exact zX h1 hrw (by decide)
 refine⟨⟨⟨h.e.kB,?_,?_,?_,?_⟩,?_,?_,?_,?_,?_,h.ir,h.ih⟩,hG⟩
 ·exact ze.2 (Or.inl (Zm.2 (Or.inr (Or.inl rfl))))
 ·rw[hs Q.k (lt_of_block hk) (Ne.symm b2) n4 (h.pne hk (by decide))];exact hk
 ·obtain⟨xs,h1,h2⟩:=h.e.es;refine⟨xs,⟨h1.1,h1.2.imp id ?_⟩,h2.keep hG.kp⟩;rintro ⟨g,cap,cur,q1,q2,q3,q4⟩;have e1:ve.ownBlock=some g:=by rw[q1];rfl
  refine⟨g,cap,cur,q1,q2,?_,q4⟩;rw[hs g (lt_of_block q3) (λe=>h.vne h.br (by decide) (by rw[←e];exact e1)) (λe=>h.vnm (by rw[←e];exact e1)) (h.vp_ne g e1)];exact q3
 ·have hsz:=h.e.bel.size;refine Below.setCell ?_ h.ir _;refine Below.grown (Below.grown h.e.bel hg1 hsz λi hi=>?_) hg2 (Nat.le_trans hsz hg1.size) λi hi=>(h.plt i hi).1;have:=Option.some.inj hi;have:=h.ih;omega
 ·obtain⟨xs,h1,h2⟩:=Yl.1 ho;exact Yl.2 ⟨xs,ownsRow_setCell_other h1 (λe=>hrn e.symm) _,zjL h2⟩
 ·rw[hs Q.m (lt_of_block h.bm) b1 n1 (h.pne h.bm (by decide))];exact h.bm
 ·exact heap_setCell_same _ Q.r 0 _ _ vp' hrw
 ·rw[hs Q.b (lt_of_block h.bb) b3 n3 (h.pne h.bb (by decide))];exact h.bb
 ·exact hm.block ((Below.heap_setCell _ _ _ _ (λe=>n2 (by simpa using e.symm))).trans (hg2.block Q.h hm.lt (Ne.symm h.pnm)))
end
theorem QN {w:World} {b:Nat} {z0:Value} {t:TypeId} (h:w.heap[b]? = some (.cells #[z0] t (0,0))):w.cell? ⟨b,0,none⟩=some z0/\∀o,w.frozen? ⟨b,o,none⟩=false:=⟨by rw[zc h];rfl,λo=>by simp[World.frozen?,h]⟩
end Go.Proofs.YthojpomoflhbcaaGreatDoor
