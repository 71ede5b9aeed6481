/- nfa.compile. -/
import Derived.Test.YthojpomoflhbcaaGreatDoorQ17
import Derived.Test.YthojpomoflhbcaaGreatDoorQ07
import Derived.Test.YthojpomoflhbcaaGreatDoorQ24
import Derived.Test.YthojpomoflhbcaaGreatDoorQ25
import Derived.Test.YthojpomoflhbcaaGreatDoorQ16
import Derived.Test.YthojpomoflhbcaaGreatDoorQSh
set_option maxHeartbeats 32000000
set_option maxRecDepth 100000
set_option linter.unusedSimpArgs false
set_option linter.unusedVariables false
set_option linter.unnecessarySimpa false
namespace Go.Proofs.YthojpomoflhbcaaGreatDoor
open Go.RowKit
attribute [local go_sem ↓] Go.wp_at_zero Go.wp_at_succ
theorem zmz:Elem Tryz.prog 131 33 3:=Elem.of Tryz.underlying131 (by kernel_rfl) (z:=.agg #[.int .i64 0,.slice none 0 0,.slice none 0 0]) (bytes:=56) rfl (by decide) (by decide)
theorem zfP (ps:List zm):qW (ps.map some)=some ps:=by
 induction ps with
 |nil=>rfl
 |cons p ps ih=>simp only[List.map_cons,qW,ih,Option.map_some]
theorem zdR:∀{l:List (Option zm)} {k:Nat} (hk:k<l.length),l[k]'hk=none->qW l=none:=by
 intro l
 induction l with
 |nil=>intro k hk;simp at hk
 |cons a l ih =>
  intro k hk h;cases a with
  |none=>rfl
  |some n =>
   cases k with
   |zero=>simp at h
   |succ k =>rw[qW,ih (k:=k) (by simpa using hk) (by simpa using h)];rfl
theorem zlt {α:Type} {l:List α} (h:l.length=1):∃x,l=[x]:=by
 match l with
 | [x]=>exact⟨x,rfl⟩
theorem znt {α:Type} {l:List α} (h:l.length=2):∃x y,l=[x,y]:=by
 match l with
 | [x,y]=>exact⟨x,y,rfl⟩
theorem zmL {α:Type} {l:List α} (h:1<=l.length):∃x r,l=x::r:=by
 match l with
 |x::r=>exact⟨x,r,rfl⟩
theorem zhV {ks:List Nat} {x:zm} {r:List zm} (h:RegL ks (x::r)):∃k0 ks',qn k0 x/\RegL ks' r/\ks=k0::ks':=by
 cases h with
 |cons h hs=>exact⟨_,_,h,hs,rfl⟩
theorem hs3 {W:World} {k g:Nat} {o:Obj} {u0 u1 u2:Value} (h:W.heap[g]? = some o) (hne:g≠k):(((W.setCell ⟨k,0,none⟩ u0).setCell ⟨k,1,none⟩ u1).setCell ⟨k,2,none⟩ u2).heap[g]? = some o:=by rw[Below.heap_setCell _ _ _ _ hne,Below.heap_setCell _ _ _ _ hne,Below.heap_setCell _ _ _ _ hne];exact h
theorem hs34 {W:World} {k:Nat} {t:TypeId} {z0 z1 z2 z3 u0 u1 u2:Value} (h:W.heap[k]? = some (.cells #[z0,z1,z2,z3] t (0,0))):(((W.setCell ⟨k,0,none⟩ u0).setCell ⟨k,1,none⟩ u1).setCell ⟨k,2,none⟩ u2).heap[k]? = some (.cells #[u0,u1,u2,z3] t (0,0)):=by have h0:=heap_setCell_same _ k 0 _ t u0 h;have h1:=heap_setCell_same _ k 1 _ t u1 h0;have h2:=heap_setCell_same _ k 2 _ t u2 h1;rw[h2];rfl
theorem yA.fin {q:Nat->Bool} {r:Option zm} {w7 w8:World} {e:Ending} (h:yA q r w7 e w8):∃(st:Int) (ea:Option Addr) (en ec:Nat) (aa:Option Addr) (an ac:Nat) (er:Int),e=.returned (.tuple #[.agg #[.int .i64 st,.slice ea en ec,.slice aa an ac],.int .i64 er])/\Below w7.heap.size w7 w8 /\
 ∀(p:Nat->Bool) (w0 W:World),Kp (World.hide w8 q) (World.hide W p)->Below w0.heap.size w0 W->yA p r w0 (.returned (.tuple #[.agg #[.int .i64 st,.slice ea en ec,.slice aa an ac],.int .i64 er])) W:=by
 cases r with
 |none =>obtain⟨rfl,hb⟩:=h.outNo;exact⟨_,_,_,_,_,_,_,_,rfl,hb,λp w0 W _ hb2=>yA.no hb2⟩
 |some n =>obtain⟨x,rfl,hn,hb⟩:=h.outYes;exact⟨_,_,_,_,_,_,_,_,rfl,hb,λp w0 W hk hb2=>yA.yes (hn.keep hk) hb2⟩
theorem zds (s:Tq):∀(b:Bool),zC s b=0->s.nodes<=1000->∀(p:Nat->Bool) (ae:Option Addr) (ce:Nat) (a:Option Addr) (cap:Nat) (w:World),Zr (World.hide w p) s ae ce a cap->(∀j,p j=true->j<w.heap.size)->ZW w ->
 Calls Tryz.prog 43 #[ym s ae ce a cap] w (yA p (yz s) w):=by
 induction s using Tq.ind with
 |h s ih =>
  intro b hc hn p ae ce a cap w hX hp hG;obtain⟨hnode,harg⟩:=xC hc;obtain⟨hshape,-,-,-,hval,-⟩:=xD hnode;have HVal:Hid (zS s.op=true->zZ s.expr=0):=hval;clear hval;have HSh:=Lib.hid (xy hshape);have HIH:Hid (∀k (hk:k<s.args.length),∀(q:Nat->Bool) (ae:Option Addr) (ce:Nat) (a:Option Addr) (cap:Nat) (W:World),Zr (World.hide W q) (s.args[k]'hk) ae ce a cap->(∀j,q j=true->j<W.heap.size)->ZW W->Calls Tryz.prog 43 #[ym (s.args[k]'hk) ae ce a cap] W (yA q (yz (s.args[k]'hk)) W)):=λk hk q ae ce a cap W h1 h2 h3=>ih _ (List.getElem_mem hk) _ (harg _ (List.getElem_mem hk)) (Nat.le_trans (Nat.le_of_lt (xY (List.getElem_mem hk))) hn) q ae ce a cap W h1 h2 h3;have hlen:=hX.ar.2.1;have HX:=Lib.hid hX;have HAd:Hid (s.args.length=0\/∃b off,a=some ⟨b,off,none⟩):=zr.addr hX.ar;have HG:=Lib.hid hG;have Hp:=Lib.hid hp;have HReg:Hid (∀a∈s.args,∀n,yz a=some n->qn a.nodes n):=λa ha n h=>ZG a _ (harg a ha) n h;have HSum:Hid (1+(s.args.map Tq.nodes).sum<=1000):=by show _<=_;rw[←Tq.nodes_eq];exact hn
  have HCe:Hid (yz s=match qW (s.args.map yz) with|none=>none|some l=>Zb s l):=Yx s;clear hc hn hX hp hG ih hnode harg hshape;generalize hPo:yA p (yz s) w=Po;have HPo:Hid (∀r,yz s=r->∀e W,yA p r w e W->Po e W):=λr h e W h2=>by rw[←hPo,h];exact h2
  clear hPo;rw[qy];go_enter Tryz.func43, Tryz.ntmps43;go_upto_region 2 with fail;generalize hW2:World.alloc (World.alloc w _) _=W2;have HB2:Hid (Below w.heap.size w W2):=by show Below _ _ _;rw[←hW2];exact((Below.refl _ _).alloc (Nat.le_refl _) _).alloc (by simp) _
  have hx2:W2.heap[w.heap.size]? = some (ye s ae ce a cap):=by rw[←hW2];exact zk (zh rfl)
  have hy2:W2.heap[w.heap.size+1]? = some qz:=by rw[←hW2];exact zh (by simp)
  have hz2:W2.heap.size=w.heap.size+2:=by rw[←hW2];simp
  obtain⟨-,-,-,-,-,-,-,-,b8⟩:=zt hx2;have HX2:=Lib.hid hx2;have HY2:=Lib.hid hy2;obtain⟨q,hq⟩:∃q:Nat->Bool,(λj=>p j||(j==w.heap.size)||(j==w.heap.size+1))=q:=⟨_,rfl⟩;have Q:Hid (∀j,q j=true<->p j=true\/j=w.heap.size\/j=w.heap.size+1):=λj=>by rw[←hq];simp[or_assoc]
  have HQB:Hid (∀j,q j=true->j<w.heap.size+2):=λj hj=>by
   rcases (Q.out j).1 hj with h|h
   ·have:=Hp.out j h;omega
   ·omega
  clear hW2 hq hx2 hy2;go_wp2_with fail;clear b8;go_loopw [13,4,6,7,8] (λi v _ _ _ wr=>∃(k:Nat) (ps:List zm),i=.int .i64 k/\k<=s.args.length/\ps.length=k/\Hid ((s.args.take k).map yz=ps.map some)/\Hid (nfE.Own 33 q wr (w.heap.size+2) v ps)/\Hid (Below W2.heap.size W2 wr)) (λi _ _ _ _ _=>s.args.length-(intOf i).toNat);case atStart=>exact⟨0,[],rfl,Nat.zero_le _,rfl,rfl,Enc.Own.nil _ _ _ _ _,Below.refl _ _⟩
  case round =>
   (try rename World=>wr)
   obtain⟨k,ps,rfl,hk,hpl,HPs,HO,HBr⟩:=hrel;have hzr:=HBr.out.size;obtain⟨va,vc,hv,hsl⟩:=HO.out.slice (by omega);rw[hpl]at hv;subst hv;have HVo:Hid (∀j,(Value.slice va k vc).ownBlock=some j->w.heap.size+2<=j/\j<wr.heap.size):=zl HO.out;have HBw:Hid (Below w.heap.size w wr):=HB2.out.trans (HBr.out.mono (by omega));have HBx:Hid (wr.heap[w.heap.size]? = some (ye s ae ce a cap)):=(HBr.out.block _ (by omega)).trans HX2.out;have HBy:Hid (wr.heap[w.heap.size+1]? = some qz):=(HBr.out.block _ (by omega)).trans HY2.out;by_cases hlt:k<s.args.length
   ·obtain⟨bE,oE,hEa⟩:=HAd.out.resolve_left (by omega);have HKp:Hid (Kp (World.hide w p) (World.hide wr (hid q (.slice va k vc)))):=zg HBw.out λj hj hq=>(ze.1 hq).elim (λh=>((Q.out j).1 h).elim id λe=>by omega) λe=>by have:=(HVo.out j e).1;omega
    have HA':Hid (qL (World.hide w p) s.args (some ⟨bE,oE,none⟩) cap):=by show qL _ _ _ _;rw[←hEa];exact HX.out.ar
    obtain⟨xe,xc,xa,xk,gc,hX⟩:=(qL.keep HKp.out HA'.out).get rfl hlt;obtain⟨g0,g1,g2,g3,g4,g5,g6,g7,g8⟩:=Zu gc;have f0:=zb _ _ g0;have f1:=zb _ _ g1;have f2:=zb _ _ g2;have f3:=zb _ _ g3;have f4:=zb _ _ g4;have f5:=zb _ _ g5;have f6:=zb _ _ g6;have f7:=zb _ _ g7;have f8:=zb _ _ g8;have HC:=Lib.hid (λW (hW:Below wr.heap.size wr W)=>HIH.out k hlt (hid q (.slice va k vc)) xe xc xa xk W (hX.keep (zg hW λ_ _ h=>h)) (λj hj=>(ze.1 hj).elim (λh=>by have:=HQB.out j h;have:=hW.size;omega) λe=>by have:=(HVo.out j e).2;have:=hW.size;omega) (HG.out.below (HBw.out.trans (hW.mono HBw.out.size))));have HPn:Hid (yz (s.args[k]'hlt)=none->yz s=none):=λh=>by rw[HCe.out,zdR (k:=k) (by simpa using hlt) (by rw[List.getElem_map];exact h)]
    have HPs':Hid (∀n,yz (s.args[k]'hlt)=some n->(s.args.take (k+1)).map yz=(ps++[n]).map some):=λn h=>by rw[List.take_succ_eq_append_getElem hlt,List.map_append,HPs.out,List.map_append,List.map_singleton,List.map_singleton,h]
    subst hEa;clear hX gc g0 g1 g2 g3 g4 g5 g6 g7 g8 hsl;generalize (s.args[k]'hlt)=y at f0 f1 f2 f3 f4 f5 f6 f7 f8 HC HPn HPs';rw[qy]at HC;generalize hr:yz y=r at HC;go_wp2_with fail;refine(HC.out _ yx).mono ?_;intro e w5 h5;cases r with
    |none =>obtain⟨rfl,hb5⟩:=h5.outNo;have HN:Hid (yz s=none):=HPn.out hr;have HB5:Hid (Below wr.heap.size wr w5):=((Below.refl wr.heap.size wr).alloc (Nat.le_refl _) _).trans (hb5.mono (by simp));have hbx5:w5.heap[w.heap.size+1]? = some qz:=(HB5.out.block _ (by omega)).trans HBy.out;obtain⟨⟨c0,c1,c2⟩,⟨d0,d1,d2⟩⟩:=zgF hbx5;have HBx5:=Lib.hid hbx5;clear h5 hb5 hbx5 hr f0 f1 f2 f3 f4 f5 f6 f7 f8;go_wp2_with fail;refine bodyPost_ret (v:=.tuple #[.agg #[.int .i64 0,.slice none 0 0,.slice none 0 0],.int .i64 2]) (xL _ rfl _ _ (w.heap.size+1) _ _ _ _ (zb1 (zk HBx5.out)) rfl rfl) rfl ?_;have hbw:=HBw.out.trans (HB5.out.mono HBw.out.size);have hbz:=hbw.size;exact HPo.out none HN.out _ _ (yA.no ((((hbw.alloc (by omega) _).setCell (by simp) _).setCell (by simp) _).setCell (by simp) _))
    |some n =>
     obtain⟨x,rfl,hn5,hb5⟩:=h5.outYes;have HB5:Hid (Below wr.heap.size wr w5):=((Below.refl wr.heap.size wr).alloc (Nat.le_refl _) _).trans (hb5.mono (by simp));have hz5:=HB5.out.size;have HO5:=Lib.hid (HO.out.below HB5.out);have HN5:=Lib.hid hn5;have HPq:=Lib.hid (HPs'.out n hr);clear h5 hb5 hr hn5 f0 f1 f2 f3 f4 f5 f6 f7 f8;go_upto_region 8 with fail;generalize hW6:World.alloc w5 _=W6;have hx6:W6.heap[w5.heap.size]? = some (Zq n x):=by rw[←hW6];exact zh rfl
     have hB6:Below w5.heap.size w5 W6:=by rw[←hW6];exact(Below.refl _ _).alloc (Nat.le_refl _) _
     have hz6:=hB6.size;obtain⟨b0,b1,b2⟩:=zv hx6;have HO6:=Lib.hid (HO5.out.below hB6);have HB6:Hid (Below wr.heap.size wr W6):=HB5.out.trans (hB6.mono hz5);have HR6:Hid (nfE.R (World.hide W6 (hid q (.slice va k vc))) n [.int .i64 n.states,.slice x.ae n.edges.length x.ce,.slice x.aa n.accept.length x.ca]):=⟨x,rfl,HN5.out.keep (zg hB6 λ_ _ h=>h)⟩;clear hW6 hx6 hB6 HO5 HN5;go_wp2_with (at_builtin;go_must (refine yi (E:=nfE) zmz _ rfl (.tmp 26) (.tmp 28) rfl q (w.heap.size+2) _ rfl HO6.out n _ HR6.out _ _ rfl rfl k hpl (by omega) (by omega) ?_));intro g9 cap9 w7 ho hg hat
     have HO7:=Lib.hid ho;have HB7:Hid (Below W2.heap.size W2 w7):=(HBr.out.trans (HB6.out.mono hzr)).grown hg (by omega) λj hj=>by have:=(HVo.out j hj).1;omega
     clear ho hg hat
     go_wp2_with fail;go_roundw;case rel=>exact⟨k+1,ps++[n],by go_num,by omega,by rw[List.length_append,hpl];rfl,HPq.out,HO7.out,HB7.out⟩
     case measure=>(simp[intOf];try omega)
   ·obtain rfl:k=s.args.length:=by omega
    have HPf:Hid (s.args.map yz=ps.map some):=by show _=_;have:=HPs.out;rwa [List.take_length]at this
    have HCs:Hid (yz s=Zb s ps):=by show _=_;rw[HCe.out,HPf.out,zfP]
    have HRL:Hid (RegL (s.args.map Tq.nodes) ps):=Xx HPf.out HReg.out;have HRa:Hid (∀n∈ps,qn 1000 n):=zcq HRL.out λk hk=>by have:=zkC hk;have:=HSum.out;omega
    obtain⟨a',c',hv',hin⟩:=HO.out.sliceP (by omega) λj hj=>by
     cases h:q j with
     |false=>rfl
     |true=>have:=HQB.out j h;omega
    rw[hpl]at hv';injection hv' with e1 e2 e3;subst e1 e3;have HPin:Hid (nfE.In (World.hide wr q) ps va vc):=hin;have HKp:Hid (Kp (World.hide w p) (World.hide wr q)):=zg HBw.out λj hj h=>((Q.out j).1 h).elim id λe=>by omega
    have HXq:Hid (Zr (World.hide wr q) s ae ce a cap):=HX.out.keep HKp.out;have HPad:Hid (s.args.length=0\/∃b off,va=some ⟨b,off,none⟩):=by show _\/_;rw[←hpl];exact hin.addr
    clear hin hsl HO HPs HIH;go_upto_region 11 with fail;generalize hW5:World.alloc wr _=W5;have hB5:Below wr.heap.size wr W5:=by rw[←hW5];exact(Below.refl _ _).alloc (Nat.le_refl _) _
    have hkb:W5.heap[wr.heap.size]? = some (.cells #[.int .i64 0,.slice none 0 0,.slice none 0 0,.bool false] 134 (0,0)):=by rw[←hW5];exact zh rfl
    have hbx:W5.heap[w.heap.size]? = some (ye s ae ce a cap):=(hB5.block _ (by omega)).trans HBx.out;have hz5:wr.heap.size<W5.heap.size:=by rw[←hW5];simp
    have HQl:Hid (∀j,q j=true->j<wr.heap.size):=λj hj=>by have:=HQB.out j hj;omega
    obtain⟨b0,b1,b2,b3,b4,b5,b6,b7,b8⟩:=zt hbx;have HB5:=Lib.hid hB5;have HKb:=Lib.hid hkb;have HBX5:=Lib.hid hbx
    have HEnd:Hid (∀(r:Option zm) (w7:World) (e:Ending) (w8:World),yz s=r->Below wr.heap.size wr w7->yA q r w7 e w8->∃(st:Int) (ea:Option Addr) (en ec:Nat) (aa:Option Addr) (an ac:Nat) (er:Int),e=.returned (.tuple #[.agg #[.int .i64 st,.slice ea en ec,.slice aa an ac],.int .i64 er])/\w8.heap[w.heap.size+1]? = some qz /\
     Hid (Po (.returned (.tuple #[.agg #[.int .i64 st,.slice ea en ec,.slice aa an ac],.int .i64 er])) (((w8.setCell ⟨w.heap.size+1,0,none⟩ (.int .i64 st)).setCell ⟨w.heap.size+1,1,none⟩ (.slice ea en ec)).setCell ⟨w.heap.size+1,2,none⟩ (.slice aa an ac)))):=λr w7 e w8 hr h7 h8=>by
     obtain⟨st,ea,en,ec,aa,an,ac,er,rfl,hb8,hf8⟩:=h8.fin;have hb:=h7.trans (hb8.mono h7.size);have hq1:q (w.heap.size+1)=true:=(Q.out _).2 (Or.inr (Or.inr rfl));refine⟨st,ea,en,ec,aa,an,ac,er,rfl,(hb.block _ (by omega)).trans HBy.out,HPo.out r hr _ _ (hf8 p w _ ?_ ?_)⟩
     ·exact Kp.trans (zj hq1) (Kp.trans (zj hq1) (Kp.trans (zj hq1) (zR λj hj=>(Q.out j).2 (Or.inl hj))))
     ·have hbw:=HBw.out.trans (hb.mono HBw.out.size);exact((hbw.setCell (by simp) _).setCell (by simp) _).setCell (by simp) _
    have HDone:Hid (∀(n:zm) (e7:Ending) (w7 W:World),yz s=doneN n->yH n->XI q wr.heap.size wr n e7 w7->Below w7.heap.size w7 W->Calls Tryz.prog 90 #[.pointer (some ⟨wr.heap.size,0,none⟩)] W λe w8=>∃(st:Int) (ea:Option Addr) (en ec:Nat) (aa:Option Addr) (an ac:Nat) (er:Int),e=.returned (.tuple #[.agg #[.int .i64 st,.slice ea en ec,.slice aa an ac],.int .i64 er])/\w8.heap[w.heap.size+1]? = some qz /\
     Hid (Po (.returned (.tuple #[.agg #[.int .i64 st,.slice ea en ec,.slice aa an ac],.int .i64 er])) (((w8.setCell ⟨w.heap.size+1,0,none⟩ (.int .i64 st)).setCell ⟨w.heap.size+1,1,none⟩ (.slice ea en ec)).setCell ⟨w.heap.size+1,2,none⟩ (.slice aa an ac)))):=λn e7 w7 W hc hs hB hW=>by
     obtain⟨-,q7,ve,aa,ca,hq7,hB7,hA7⟩:=hB;have hbW:=hB7.bel.trans (hW.mono hB7.bel.size);refine(zep (hB7.below hW) hq7 HQl.out (hA7.keep (zg hW λ_ _ h=>h)) (HG.out.below (HBw.out.trans (hbW.mono HBw.out.size))) hs).mono λe w8 h8=>HEnd.out _ W e w8 hc hbW h8
    clear hW5 hB5 hkb hbx;rcases HSh.out with ⟨ho,h1,h2,h3⟩|⟨ho,h1,h2,h3,h4⟩|⟨ho,h1,h2,h3,h4⟩|⟨ho|ho,h1,h2,h3,h4⟩|⟨ho|ho,h1,h2,h3⟩
    ·have HN:Hid (yz s=doneN ⟨2,[⟨0,1,[s.expr],[]⟩],[1]⟩):=by show _=_;rw[HCs.out];simp only[Zb,ho,if_true]
     have h400:s.expr.nodes.length<=400:=Zy (by unfold okX;rw[HVal.out (by rw[ho];rfl)];rfl);have F:∀j o o' o'',((((W5.alloc o).alloc o').alloc o'')).frozen? ⟨wr.heap.size,j,none⟩=false:=λj o o' o''=>by simp[World.frozen?,zk (o:=o'') (zk (o:=o') (zk (o:=o) HKb.out))]
     have F0:=F 0;have F1:=F 1;have F2:=F 2;have C:∀j (v:Value),(#[.int .i64 0,.slice none 0 0,.slice none 0 0,.bool false]:Array Value)[j]? = some v->∀o o' o'',((((W5.alloc o).alloc o').alloc o'')).cell? ⟨wr.heap.size,j,none⟩=some v:=λj v hv o o' o''=>by rw[zc (zk (o:=o'') (zk (o:=o') (zk (o:=o) HKb.out)))];exact hv
     have C0:=C 0 _ rfl;have C1:=C 1 _ rfl;have C2:=C 2 _ rfl;clear F C;rw[ho]at b0;go_wp2_with fail;refine(HDone.out ⟨2,[⟨0,1,[s.expr],[]⟩],[1]⟩ (.returned (.tuple #[])) _ _ HN.out (zk8 h400) (ziX (g1:=W5.heap.size) (g2:=W5.heap.size+1) (g3:=W5.heap.size+2) (x:=s.expr) (xa:=ae) (xc:=ce) (Nat.le_refl _) (hs3 (zk (zk (zh rfl))) (by omega)) (hs3 (zk (zh (by simp))) (by omega)) (hs3 (zh (by simp)) (by omega)) (hs34 (zk (zk (zk HKb.out)))) (by have hz:=HB5.out.size;exact(((((HB5.out.alloc hz _).alloc (by simp;omega) _).alloc (by simp;omega) _).setCell (Nat.le_refl _) _).setCell (Nat.le_refl _) _).setCell (Nat.le_refl _) _) HXq.out.ex HQl.out ⟨by omega,by omega,by omega⟩) (Below.refl _ _)).mono ?_;rintro e w8 ⟨st,ea,en,ec,aa,an,ac,er,rfl,hby8,HQ8⟩;have hby8':w8.heap[w.heap.size+1]? = some (.cells #[.int .i64 0,.slice none 0 0,.slice none 0 0] 33 (0,0)):=hby8;obtain⟨c0,c1,c2⟩:=zv hby8';have d0:w8.frozen? ⟨w.heap.size+1,0,none⟩=false:=by simp[World.frozen?,hby8']
     have d1:w8.frozen? ⟨w.heap.size+1,1,none⟩=false:=by simp[World.frozen?,hby8']
     have d2:w8.frozen? ⟨w.heap.size+1,2,none⟩=false:=by simp[World.frozen?,hby8']
     have HBy8:=Lib.hid hby8';clear hby8 hby8';go_wp2_with fail;refine bodyPost_ret (xL _ rfl _ _ (w.heap.size+1) _ _ _ _ (zb1 HBy8.out) rfl rfl) rfl ?_;exact HQ8.out
    ·obtain⟨x,y,rfl⟩:∃x y,ps=[x,y]:=znt (by omega);have HN:Hid (yz s=doneN (yC s.lo s.hi x y)):=by show _=_;rw[HCs.out];simp only[Zb,ho,Int.reduceEq,if_false,if_true];rfl
     obtain⟨bp,op,hpa⟩:=HPad.out.resolve_left (by omega);subst hpa;obtain⟨ax,x0,x1,x2,hx⟩:=Yi HPin.out rfl (i:=0) (by simp);have krx:=HRa.out x (by simp);obtain⟨ay,y0,y1,y2,hy⟩:=Yi HPin.out rfl (i:=1) (by simp);have kry:=HRa.out y (by simp);simp only[List.getElem_cons_zero,List.getElem_cons_succ,Nat.zero_mul,Nat.add_zero,Nat.one_mul]at x0 x1 x2 y0 y1 y2 hx hy;have xc0:=za HB5.out _ _ (zb _ _ x0);have xc1:=za HB5.out _ _ (zb _ _ x1);have xc2:=za HB5.out _ _ (zb _ _ x2);have yc0:=za HB5.out _ _ (zb _ _ y0);have yc1:=za HB5.out _ _ (zb _ _ y1);have yc2:=za HB5.out _ _ (zb _ _ y2);have HSM:Hid (yH (yC s.lo s.hi x y)):=zi8 (X8 (HRa.out x (by simp))) (X8 (HRa.out y (by simp)));have HCa:Hid (∀W,Below W5.heap.size W5 W->Calls Tryz.prog 84 #[.pointer (some ⟨wr.heap.size,0,none⟩),.agg #[.int .i64 2,.int .i64 s.lo,.int .i64 s.hi,.int .i64 s.expr.op,.int .i64 s.expr.n,.string s.expr.name,.slice ae s.expr.args.length ce,.string s.name,.slice a s.args.length cap],.agg #[.int .i64 x.states,.slice ax.ae x.edges.length ax.ce,.slice ax.aa x.accept.length ax.ca],.agg #[.int .i64 y.states,.slice ay.ae y.edges.length ay.ce,.slice ay.aa y.accept.length ay.ca]] W (XI q wr.heap.size wr (yC s.lo s.hi x y))):=λW hW=>by have h:=zgS (p:=q) (k:=wr.heap.size) (w0:=wr) (w:=W) (Nat.le_refl _) ((hW.block _ hz5).trans HKb.out) (HB5.out.trans (hW.mono HB5.out.size)) HQl.out s ae ce a cap x y ax ay krx kry (by omega) h2 h3 h4 (hx.keep (λ_ _ h=>h)) (hy.keep (λ_ _ h=>h));rw[qy,ho]at h;exact h
     have hN0:1<s.args.length:=by omega
     have hN0i:(1:Int)<(s.args.length:Int):=by omega
     have hM0:0<s.args.length:=by omega
     have hM0i:(0:Int)<(s.args.length:Int):=by omega
     rw[ho]at b0;clear h1 h2 h3 h4 HPf HRL HCs HKb x0 x1 x2 y0 y1 y2;go_upto_region 15 with fail;go_region_with (go_at_call 84;go_must (refine(HCa.out _ (by first|with_reducible assumption|exact Below.refl _ _|exact yx)).mono ?_;rintro e w7 h7;obtain rfl:=h7.1;have HB7:=Lib.hid h7;clear h7))
     all_goals
      go_wp2_with fail;refine(HDone.out _ _ w7 _ HN.out HSM.out HB7.out (by first|exact Below.refl _ _|exact yx)).mono ?_;rintro e w8 ⟨st,ea,en,ec,aa,an,ac,er,rfl,hby8,HQ8⟩;have hby8':w8.heap[w.heap.size+1]? = some (.cells #[.int .i64 0,.slice none 0 0,.slice none 0 0] 33 (0,0)):=hby8;obtain⟨c0,c1,c2⟩:=zv hby8';have d0:w8.frozen? ⟨w.heap.size+1,0,none⟩=false:=by simp[World.frozen?,hby8']
      have d1:w8.frozen? ⟨w.heap.size+1,1,none⟩=false:=by simp[World.frozen?,hby8']
      have d2:w8.frozen? ⟨w.heap.size+1,2,none⟩=false:=by simp[World.frozen?,hby8']
      have HBy8:=Lib.hid hby8';clear hby8 hby8';go_wp2_with fail;refine bodyPost_ret (xL _ rfl _ _ (w.heap.size+1) _ _ _ _ (zb1 HBy8.out) rfl rfl) rfl ?_;exact HQ8.out
    ·obtain⟨x,rfl⟩:∃x,ps=[x]:=zlt (by omega);have HN:Hid (yz s=doneN (zcP s.lo s.hi x)):=by show _=_;rw[HCs.out];simp only[Zb,ho,Int.reduceEq,if_false,if_true];rfl
     obtain⟨bp,op,hpa⟩:=HPad.out.resolve_left (by omega);subst hpa;obtain⟨ax,x0,x1,x2,hx⟩:=Yi HPin.out rfl (i:=0) (by simp);have krx:=HRa.out x (by simp);simp only[List.getElem_cons_zero,List.getElem_cons_succ,Nat.zero_mul,Nat.add_zero,Nat.one_mul]at x0 x1 x2 hx;have xc0:=za HB5.out _ _ (zb _ _ x0);have xc1:=za HB5.out _ _ (zb _ _ x1);have xc2:=za HB5.out _ _ (zb _ _ x2);have HSM:Hid (yH (zcP s.lo s.hi x)):=zmW (X8 (HRa.out x (by simp)));have HCa:Hid (∀W,Below W5.heap.size W5 W->Calls Tryz.prog 85 #[.pointer (some ⟨wr.heap.size,0,none⟩),.agg #[.int .i64 3,.int .i64 s.lo,.int .i64 s.hi,.int .i64 s.expr.op,.int .i64 s.expr.n,.string s.expr.name,.slice ae s.expr.args.length ce,.string s.name,.slice a s.args.length cap],.agg #[.int .i64 x.states,.slice ax.ae x.edges.length ax.ce,.slice ax.aa x.accept.length ax.ca]] W (XI q wr.heap.size wr (zcP s.lo s.hi x))):=λW hW=>by have h:=zfX (p:=q) (k:=wr.heap.size) (w0:=wr) (w:=W) (Nat.le_refl _) ((hW.block _ hz5).trans HKb.out) (HB5.out.trans (hW.mono HB5.out.size)) HQl.out s ae ce a cap x ax krx h2 h3 h4 hx;rw[qy,ho]at h;exact h
     have hN0:0<s.args.length:=by omega
     have hN0i:(0:Int)<(s.args.length:Int):=by omega
     have hM0:0<s.args.length:=by omega
     have hM0i:(0:Int)<(s.args.length:Int):=by omega
     rw[ho]at b0;clear h1 h2 h3 h4 HPf HRL HCs HKb x0 x1 x2;go_upto_region 17 with fail;go_region_with (go_at_call 85;go_must (refine(HCa.out _ (by first|with_reducible assumption|exact Below.refl _ _|exact yx)).mono ?_;rintro e w7 h7;obtain rfl:=h7.1;have HB7:=Lib.hid h7;clear h7))
     all_goals
      go_wp2_with fail;refine(HDone.out _ _ w7 _ HN.out HSM.out HB7.out (by first|exact Below.refl _ _|exact yx)).mono ?_;rintro e w8 ⟨st,ea,en,ec,aa,an,ac,er,rfl,hby8,HQ8⟩;have hby8':w8.heap[w.heap.size+1]? = some (.cells #[.int .i64 0,.slice none 0 0,.slice none 0 0] 33 (0,0)):=hby8;obtain⟨c0,c1,c2⟩:=zv hby8';have d0:w8.frozen? ⟨w.heap.size+1,0,none⟩=false:=by simp[World.frozen?,hby8']
      have d1:w8.frozen? ⟨w.heap.size+1,1,none⟩=false:=by simp[World.frozen?,hby8']
      have d2:w8.frozen? ⟨w.heap.size+1,2,none⟩=false:=by simp[World.frozen?,hby8']
      have HBy8:=Lib.hid hby8';clear hby8 hby8';go_wp2_with fail;refine bodyPost_ret (xL _ rfl _ _ (w.heap.size+1) _ _ _ _ (zb1 HBy8.out) rfl rfl) rfl ?_;exact HQ8.out
    ·have HN:Hid (yz s=doneN (orN ps)):=by show _=_;rw[HCs.out];simp only[Zb,ho,Int.reduceEq,if_false,if_true]
     have HSM:Hid (yH (orN ps)):=znw ps _ (λn hn=>X8 (HRa.out n hn)) λe he=>(by cases he);have HCa:Hid (Calls Tryz.prog 86 #[.pointer (some ⟨wr.heap.size,0,none⟩),.slice va s.args.length vc] W5 (XI q wr.heap.size wr (orN ps))):=by show Calls _ _ _ _ _;rw[←hpl];exact zmS (p:=q) (k:=wr.heap.size) (w0:=wr) (w:=W5) (Nat.le_refl _) HKb.out HB5.out HQl.out ps va vc HRa.out (by omega) HPin.out
     rw[ho]at b0;clear h1 h2 h3 h4 HPf HRL HCs HKb hpl;go_wp2_with (go_at_call 86;go_must (refine HCa.out.mono ?_;rintro e w7 h7;obtain rfl:=h7.1;have HB7:=Lib.hid h7;clear h7));refine(HDone.out _ _ w7 _ HN.out HSM.out HB7.out (by first|exact Below.refl _ _|exact yx)).mono ?_;rintro e w8 ⟨st,ea,en,ec,aa,an,ac,er,rfl,hby8,HQ8⟩;have hby8':w8.heap[w.heap.size+1]? = some (.cells #[.int .i64 0,.slice none 0 0,.slice none 0 0] 33 (0,0)):=hby8;obtain⟨c0,c1,c2⟩:=zv hby8';have d0:w8.frozen? ⟨w.heap.size+1,0,none⟩=false:=by simp[World.frozen?,hby8']
     have d1:w8.frozen? ⟨w.heap.size+1,1,none⟩=false:=by simp[World.frozen?,hby8']
     have d2:w8.frozen? ⟨w.heap.size+1,2,none⟩=false:=by simp[World.frozen?,hby8']
     have HBy8:=Lib.hid hby8';clear hby8 hby8';go_wp2_with fail;refine bodyPost_ret (xL _ rfl _ _ (w.heap.size+1) _ _ _ _ (zb1 HBy8.out) rfl rfl) rfl ?_;exact HQ8.out
    ·obtain⟨x,r,rfl⟩:∃x r,ps=x::r:=zmL (by omega);have HN:Hid (yz s=Xd x r):=by show _=_;rw[HCs.out];simp only[Zb,ho,Int.reduceEq,if_false,if_true];rfl
     have HCa:Hid (Calls Tryz.prog 87 #[.slice va s.args.length vc] W5 (yA q (Xd x r) W5)):=by show Calls _ _ _ _ _;rw[←hpl];obtain⟨k0,ks,e1,e2,e3⟩:=zhV HRL.out;exact ziY q x r k0 ks e1 e2 (by have:=HSum.out;rw[e3,List.sum_cons]at this;omega) va vc W5 (HG.out.below (HBw.out.trans (HB5.out.mono HBw.out.size))) (λj hj=>by have:=HQl.out j hj;omega) (HPin.out.keep (zg HB5.out λ_ _ h=>h))
     rw[ho]at b0;clear h1 h2 h3 h4 HPf HRL HCs HKb hpl;go_wp2_with fail;refine HCa.out.mono ?_;intro e8 w8' h8;have h9:=HEnd.out _ W5 _ _ HN.out HB5.out h8;clear h8;revert h9 e8 w8';intro e w8 h9;revert h9;rintro ⟨st,ea,en,ec,aa,an,ac,er,rfl,hby8,HQ8⟩;have hby8':w8.heap[w.heap.size+1]? = some (.cells #[.int .i64 0,.slice none 0 0,.slice none 0 0] 33 (0,0)):=hby8;obtain⟨c0,c1,c2⟩:=zv hby8';have d0:w8.frozen? ⟨w.heap.size+1,0,none⟩=false:=by simp[World.frozen?,hby8']
     have d1:w8.frozen? ⟨w.heap.size+1,1,none⟩=false:=by simp[World.frozen?,hby8']
     have d2:w8.frozen? ⟨w.heap.size+1,2,none⟩=false:=by simp[World.frozen?,hby8']
     have HBy8:=Lib.hid hby8';clear hby8 hby8';go_wp2_with fail;refine bodyPost_ret (xL _ rfl _ _ (w.heap.size+1) _ _ _ _ (zb1 HBy8.out) rfl rfl) rfl ?_;exact HQ8.out
    ·obtain⟨x,rfl⟩:∃x,ps=[x]:=zlt (by omega);have HN:Hid (yz s=doneN (zax s.name s.expr x)):=by show _=_;rw[HCs.out];simp only[Zb,ho,Int.reduceEq,if_false,if_true];rfl
     obtain⟨bp,op,hpa⟩:=HPad.out.resolve_left (by omega);subst hpa;obtain⟨ax,x0,x1,x2,hx⟩:=Yi HPin.out rfl (i:=0) (by simp);have krx:=HRa.out x (by simp);simp only[List.getElem_cons_zero,List.getElem_cons_succ,Nat.zero_mul,Nat.add_zero,Nat.one_mul]at x0 x1 x2 hx;have xc0:=za HB5.out _ _ (zb _ _ x0);have xc1:=za HB5.out _ _ (zb _ _ x1);have xc2:=za HB5.out _ _ (zb _ _ x2);have HSM:Hid (yH (zax s.name s.expr x)):=zm3 (X8 (HRa.out x (by simp))) (Zy (by unfold okX;rw[HVal.out (by rw[ho];rfl)];rfl));have HCa:Hid (∀W,Below W5.heap.size W5 W->Calls Tryz.prog 88 #[.pointer (some ⟨wr.heap.size,0,none⟩),.agg #[.int .i64 6,.int .i64 s.lo,.int .i64 s.hi,.int .i64 s.expr.op,.int .i64 s.expr.n,.string s.expr.name,.slice ae s.expr.args.length ce,.string s.name,.slice a s.args.length cap],.agg #[.int .i64 x.states,.slice ax.ae x.edges.length ax.ce,.slice ax.aa x.accept.length ax.ca]] W (XI q wr.heap.size wr (zax s.name s.expr x))):=λW hW=>by have h:=zlW (p:=q) (k:=wr.heap.size) (w0:=wr) (w:=W) (Nat.le_refl _) ((hW.block _ hz5).trans HKb.out) (HB5.out.trans (hW.mono HB5.out.size)) HQl.out s ae ce a cap x ax krx (by omega) HXq.out.nm HXq.out.ex hx;rw[qy,ho]at h;exact h
     have hN0:0<s.args.length:=by omega
     have hN0i:(0:Int)<(s.args.length:Int):=by omega
     have hM0:0<s.args.length:=by omega
     have hM0i:(0:Int)<(s.args.length:Int):=by omega
     rw[ho]at b0;clear h1 h2 h3 HPf HRL HCs HKb x0 x1 x2;go_upto_region 23 with fail;go_region_with (go_at_call 88;go_must (refine(HCa.out _ (by first|with_reducible assumption|exact Below.refl _ _|exact yx)).mono ?_;rintro e w7 h7;obtain rfl:=h7.1;have HB7:=Lib.hid h7;clear h7))
     all_goals
      go_wp2_with fail;refine(HDone.out _ _ w7 _ HN.out HSM.out HB7.out (by first|exact Below.refl _ _|exact yx)).mono ?_;rintro e w8 ⟨st,ea,en,ec,aa,an,ac,er,rfl,hby8,HQ8⟩;have hby8':w8.heap[w.heap.size+1]? = some (.cells #[.int .i64 0,.slice none 0 0,.slice none 0 0] 33 (0,0)):=hby8;obtain⟨c0,c1,c2⟩:=zv hby8';have d0:w8.frozen? ⟨w.heap.size+1,0,none⟩=false:=by simp[World.frozen?,hby8']
      have d1:w8.frozen? ⟨w.heap.size+1,1,none⟩=false:=by simp[World.frozen?,hby8']
      have d2:w8.frozen? ⟨w.heap.size+1,2,none⟩=false:=by simp[World.frozen?,hby8']
      have HBy8:=Lib.hid hby8';clear hby8 hby8';go_wp2_with fail;refine bodyPost_ret (xL _ rfl _ _ (w.heap.size+1) _ _ _ _ (zb1 HBy8.out) rfl rfl) rfl ?_;exact HQ8.out
    ·obtain⟨x,rfl⟩:∃x,ps=[x]:=zlt (by omega);have HN:Hid (yz s=doneN (Qs s.expr x)):=by show _=_;rw[HCs.out];simp only[Zb,ho,Int.reduceEq,if_false,if_true];rfl
     obtain⟨bp,op,hpa⟩:=HPad.out.resolve_left (by omega);subst hpa;obtain⟨ax,x0,x1,x2,hx⟩:=Yi HPin.out rfl (i:=0) (by simp);have krx:=HRa.out x (by simp);simp only[List.getElem_cons_zero,List.getElem_cons_succ,Nat.zero_mul,Nat.add_zero,Nat.one_mul]at x0 x1 x2 hx;have xc0:=za HB5.out _ _ (zb _ _ x0);have xc1:=za HB5.out _ _ (zb _ _ x1);have xc2:=za HB5.out _ _ (zb _ _ x2);have HSM:Hid (yH (Qs s.expr x)):=zll (X8 (HRa.out x (by simp))) (Zy (by unfold okX;rw[HVal.out (by rw[ho];rfl)];rfl));have HCa:Hid (∀W,Below W5.heap.size W5 W->Calls Tryz.prog 89 #[.pointer (some ⟨wr.heap.size,0,none⟩),.agg #[.int .i64 7,.int .i64 s.lo,.int .i64 s.hi,.int .i64 s.expr.op,.int .i64 s.expr.n,.string s.expr.name,.slice ae s.expr.args.length ce,.string s.name,.slice a s.args.length cap],.agg #[.int .i64 x.states,.slice ax.ae x.edges.length ax.ce,.slice ax.aa x.accept.length ax.ca]] W (XI q wr.heap.size wr (Qs s.expr x))):=λW hW=>by have h:=zjr (p:=q) (k:=wr.heap.size) (w0:=wr) (w:=W) (Nat.le_refl _) ((hW.block _ hz5).trans HKb.out) (HB5.out.trans (hW.mono HB5.out.size)) HQl.out s ae ce a cap x ax krx (by omega) HXq.out.ex hx;rw[qy,ho]at h;exact h
     have hN0:0<s.args.length:=by omega
     have hN0i:(0:Int)<(s.args.length:Int):=by omega
     have hM0:0<s.args.length:=by omega
     have hM0i:(0:Int)<(s.args.length:Int):=by omega
     rw[ho]at b0;clear h1 h2 h3 HPf HRL HCs HKb x0 x1 x2;go_upto_region 25 with fail;go_region_with (go_at_call 89;go_must (refine(HCa.out _ (by first|with_reducible assumption|exact Below.refl _ _|exact yx)).mono ?_;rintro e w7 h7;obtain rfl:=h7.1;have HB7:=Lib.hid h7;clear h7))
     all_goals
      go_wp2_with fail;refine(HDone.out _ _ w7 _ HN.out HSM.out HB7.out (by first|exact Below.refl _ _|exact yx)).mono ?_;rintro e w8 ⟨st,ea,en,ec,aa,an,ac,er,rfl,hby8,HQ8⟩;have hby8':w8.heap[w.heap.size+1]? = some (.cells #[.int .i64 0,.slice none 0 0,.slice none 0 0] 33 (0,0)):=hby8;obtain⟨c0,c1,c2⟩:=zv hby8';have d0:w8.frozen? ⟨w.heap.size+1,0,none⟩=false:=by simp[World.frozen?,hby8']
      have d1:w8.frozen? ⟨w.heap.size+1,1,none⟩=false:=by simp[World.frozen?,hby8']
      have d2:w8.frozen? ⟨w.heap.size+1,2,none⟩=false:=by simp[World.frozen?,hby8']
      have HBy8:=Lib.hid hby8';clear hby8 hby8';go_wp2_with fail;refine bodyPost_ret (xL _ rfl _ _ (w.heap.size+1) _ _ _ _ (zb1 HBy8.out) rfl rfl) rfl ?_;exact HQ8.out
theorem zbR (l:List Int) {k:Nat} (h:k<l.length):(l.take (k+1)).sum=(l.take k).sum+l[k]'h:=by rw[List.take_succ_eq_append_getElem h,List.sum_append];simp
theorem zj9 (l:List Int) (a:Option Addr) (c:Nat) (w:World) (h:IntsIn w l a c) (hb:∀k,k<=l.length->0<=(l.take k).sum/\(l.take k).sum<=1000000000) :
 Calls Tryz.prog 134 #[.slice a l.length c] w λe w'=>e=.returned (.int .i64 l.sum)/\w'=w:=by
 have hlen:=h.2.1;have H:=Lib.hid h;have HB:=Lib.hid hb;have HA:Hid (l.length=0\/∃b off,a=some ⟨b,off,none⟩):=zr.addr h;clear h hb;go_enter Tryz.func134, Tryz.ntmps134;go_wp2_with fail;go_loop [8,3,5] (λi n _=>∃k:Nat,i=.int .i64 k/\k<=l.length/\n=.int .i64 (l.take k).sum) (λi _ _=>l.length-(intOf i).toNat);case atStart=>exact⟨0,rfl,Nat.zero_le _,by simp⟩
 case round =>
  obtain⟨k,rfl,hk,rfl⟩:=hrel;by_cases hlt:k<l.length
  ·obtain⟨b,off,ha⟩:=HA.out.resolve_left (by omega);subst ha;have g0:w.cell? ⟨b,off+k,none⟩=some (.int .i64 (l[k]'hlt)):=by
    have:=H.out.get rfl hlt;rwa [List.getD_eq_getElem?_getD,List.getElem?_eq_getElem hlt,Option.getD_some]at this
   have HS:Hid ((l.take (k+1)).sum=(l.take k).sum+l[k]'hlt):=zbR l hlt;obtain⟨s1,s2⟩:=HB.out (k+1) hlt;rw[HS.out]at s1 s2;generalize (l[k]'hlt)=x at g0 HS s1 s2;have HE:Hid (∀y,y=(l.take k).sum+x->(Value.int .i64 y:Value)=.int .i64 (l.take (k+1)).sum):=λy hy=>by rw[HS.out,hy]
   generalize (l.take k).sum=s at s1 s2 HE;clear HS;go_wp2_with fail;go_round;case rel=>exact⟨k+1,by go_num,by omega,HE.out _ rfl⟩
   case measure=>(simp[intOf];try omega)
  ·obtain rfl:k=l.length:=by omega
   go_wp2_with fail;go_ret;exact⟨rfl,rfl⟩
theorem zk6 (s:Tq):s.args.length<=s.nodes:=by
 rw[Tq.nodes_eq];have:∀l:List Tq,l.length<=(l.map Tq.nodes).sum:=by
  intro l
  induction l with
  |nil=>simp
  |cons a l ih=>rw[List.length_cons,List.map_cons,List.sum_cons];have:=Yq a;omega
 have:=this s.args;omega
theorem zfH (s:Tq):((s.args.map λa=>(a.nodes:Int)).sum:Int)+1=s.nodes:=by
 rw[Tq.nodes_eq];have:∀l:List Tq,(l.map λa=>(a.nodes:Int)).sum=((l.map Tq.nodes).sum:Nat):=by
  intro l
  induction l with
  |nil=>rfl
  |cons a l ih=>rw[List.map_cons,List.sum_cons,ih,List.map_cons,List.sum_cons];omega
 rw[this];omega
theorem zl4:∀(l:List Int),(∀x∈l,0<=x)->∀k,0<=(l.take k).sum/\(l.take k).sum<=l.sum:=by
 intro l
 induction l with
 |nil=>intro _ k;simp
 |cons a l ih =>
  intro h k;have h0:=h a (List.mem_cons_self ..);have h1:=ih (λx hx=>h x (List.mem_cons_of_mem _ hx));cases k with
  |zero =>have:=h1 l.length;rw[List.take_length]at this;simp only[List.take_zero,List.sum_nil,List.sum_cons];omega
  |succ k=>rw[List.take_succ_cons,List.sum_cons,List.sum_cons];have:=h1 k;omega
theorem zib:zgq inE 3 133 (λs=>(s.nodes:Int)):=by
 intro p B s ae ce a cap v W hO hp hB hn hal;have hl:(s.args.map λa=>(a.nodes:Int)).length=s.args.length:=List.length_map _;obtain⟨va,vc,rfl,hI⟩:=hO.slice (by omega);have hs:=zfH s;have HS:=Lib.hid λW' (hW:Below W.heap.size W W')=>zj9 _ va vc W' ((qI.1 hI).keep (za hW)) λk hk=>by have:=zl4 (s.args.map λa=>(a.nodes:Int)) (λx hx=>by obtain⟨a,_,rfl⟩:=List.mem_map.1 hx;omega) k;omega
 have HPo:Hid (∀n w',n=(s.nodes:Int)->Below W.heap.size W w'->(λ(e:Ending) (w':World)=>(∃u,e=.returned u/\inE.R (World.hide w' p) (s.nodes:Int) [u])/\Below B W w') (.returned (.int .i64 n)) w'):=λn w' h hb=>⟨⟨_,rfl,by rw[h];rfl⟩,hb.mono hB⟩;generalize hPo:(λ(e:Ending) (w':World)=>(∃u,e=.returned u/\inE.R (World.hide w' p) (s.nodes:Int) [u])/\Below B W w')=Po at HPo;clear hPo;have hsn:0<=(s.args.map λa=>(a.nodes:Int)).sum:=by have:=Yq s;omega
 have hsm:(s.args.map λa=>(a.nodes:Int)).sum<=1000000000:=by omega
 have HE:Hid (1+(s.args.map λa=>(a.nodes:Int)).sum=(s.nodes:Int)):=by show _=_;omega
 rw[hl]at HS⊢;generalize (s.args.map λa=>(a.nodes:Int)).sum=n at HS hsn hsm HE;clear hs hO hI;rw[zo];go_enter Tryz.func133, Tryz.ntmps133;go_wp2_with (go_at_call 134;go_must (refine(HS.out _ bel).mono ?_;rintro e w' ⟨rfl,rfl⟩));first|exact HPo.out _ _ HE.out bel|(go_ret;exact HPo.out _ _ HE.out bel)
theorem zdF:∀(l:List Int) (m:Int),(∀x∈l,0<=x)->0<=m->(l++[0]).foldl max m=l.foldl max m:=by
 intro l m h h0;rw[List.foldl_append];have:0<=l.foldl max m:=by
  clear h
  induction l generalizing m with
  |nil=>exact h0
  |cons a l ih=>rw[List.foldl_cons];exact ih _ (by omega)
 show max (l.foldl max m) 0=_;omega
theorem zfw:∀(l:List Tq) (m:Nat),(l.map λa=>(a.depth:Int)).foldl max (m:Int)=((l.map Tq.depth).foldl max m:Nat):=by
 intro l
 induction l with
 |nil=>intro m;rfl
 |cons a l ih =>intro m;rw[List.map_cons,List.foldl_cons,List.map_cons,List.foldl_cons,←ih];congr 1;omega
theorem zgV (s:Tq):1+Lib.maxOf ((s.args.map λa=>(a.depth:Int))++[0])=s.depth:=by
 rw[Tq.depth_eq];have e:Lib.maxOf ((s.args.map λa=>(a.depth:Int))++[0])=((s.args.map λa=>(a.depth:Int))).foldl max 0:=by
  unfold Lib.maxOf;cases h:s.args with
  |nil=>rfl
  |cons a l =>simp only[List.map_cons,List.cons_append,List.headD_cons,List.foldl_cons];rw[zdF _ _ (λx hx=>by obtain⟨y,_,rfl⟩:=List.mem_map.1 hx;omega) (by omega)];congr 1;omega
 rw[e];have:=zfw s.args 0;rw[show ((0:Nat):Int)=0 from rfl]at this;rw[this];omega
theorem zi9 (s:Tq):s.depth<=s.nodes:=by
 induction s using Tq.ind with
 |h s ih =>
  rw[Tq.depth_eq,Tq.nodes_eq];have:∀(l:List Tq) (m:Nat),(∀a∈l,a.depth<=a.nodes)->(l.map Tq.depth).foldl max m<=max m (l.map Tq.nodes).sum:=by
   intro l
   induction l with
   |nil=>intro m _;simp
   |cons a l ih2 =>intro m h;rw[List.map_cons,List.foldl_cons,List.map_cons,List.sum_cons];have h1:=ih2 (max m a.depth) λb hb=>h b (List.mem_cons_of_mem _ hb);have h2:=h a (List.mem_cons_self ..);omega
  have:=this s.args 0 ih;omega
theorem zfr:zgq inE 3 131 (λs=>(s.depth:Int)):=by
 intro p B s ae ce a cap v W hO hp hB hn hal;have hl:(s.args.map λa=>(a.depth:Int)).length=s.args.length:=List.length_map _;obtain⟨va,vc,hv,-⟩:=hO.slice (by omega);have HO:=Lib.hid hO;have hal2:s.args.length<=1000000000:=Nat.le_trans (zk6 s) hn;have hd:=zi9 s;have HE:Hid (1+Lib.maxOf ((s.args.map λa=>(a.depth:Int))++[0])=(s.depth:Int)):=zgV s;have hd0:0<=Lib.maxOf ((s.args.map λa=>(a.depth:Int))++[0]):=by
  have h1:=HE.out;have:1<=s.depth:=by rw[Tq.depth_eq];omega
  omega
 have hd1:Lib.maxOf ((s.args.map λa=>(a.depth:Int))++[0])<=1000000000:=by have h1:=HE.out;omega
 have HPo:Hid (∀n w',n=(s.depth:Int)->Below B W w'->(λ(e:Ending) (w':World)=>(∃u,e=.returned u/\inE.R (World.hide w' p) (s.depth:Int) [u])/\Below B W w') (.returned (.int .i64 n)) w'):=λn w' h hb=>⟨⟨_,rfl,by rw[h];rfl⟩,hb⟩;generalize hPo:(λ(e:Ending) (w':World)=>(∃u,e=.returned u/\inE.R (World.hide w' p) (s.depth:Int) [u])/\Below B W w')=Po at HPo;have HB:Hid (B<=W.heap.size):=hB;rw[hl]at hv;generalize hL:(s.args.map λa=>(a.depth:Int))=L at HO hl HE hd0 hd1;have HMx:Hid (∀(b n c:Nat) (W':World),n=L.length+1->IntsIn W' (L++[0]) (some ⟨b,0,none⟩) c->Calls Tryz.prog 132 #[.slice (some ⟨b,0,none⟩) n c] W' λe w'=>e=.returned (.int .i64 (Lib.maxOf (L++[0])))/\w'=W'):=λb n c W' hn' hI=>by
  have hll:(L++[0]).length=n:=by simp[hn']
  refine(Tryz.slices_Max_int b 0 n c (L++[0]) W' (by omega) (by omega) (by have:=hI.2.1;omega) λj hj=>?_).mono λe w' h=>⟨by rw[h.1,←hll,List.take_length],h.2⟩;have:=hI.get rfl hj;rw[this,List.getD_eq_getElem?_getD,List.getElem?_eq_getElem hj]
 generalize Lib.maxOf (L++[0])=mx at HE hd0 hd1 HMx;subst hv;have HLl:Hid (L.length=s.args.length):=hl;clear hPo hL hO hl hd hB;rw[zo];go_enter Tryz.func131, Tryz.ntmps131;have HO1:Hid (∀o,inE.Own 3 p (W.alloc o) B (.slice va s.args.length vc) L):=λo=>HO.out.below ((Below.refl _ _).alloc (Nat.le_refl _) _);go_wp2_with (at_builtin;go_must (refine yi (E:=inE) zgZ _ rfl (.tmp 5) (.tmp 6) rfl p B _ rfl (HO1.out _) 0 [.int .i64 0] rfl _ _ rfl (by simp) s.args.length HLl.out (by omega) (by have:=HB.out;simp only[World.size_alloc];omega) ?_));intro g9 cap9 w7 ho hg hat
 have hg0:=zl HO.out;have HB7:Hid (Below B W w7):=(((Below.refl B W).alloc HB.out _)).grown hg (by have:=HB.out;simp only[World.size_alloc];omega) λj hj=>(hg0 j hj).1;have HI7:Hid (IntsIn w7 (L++[0]) (some ⟨g9,0,none⟩) cap9):=by obtain⟨a9,c9,hv9,hi9⟩:=ho.slice (by rw[List.length_append,HLl.out];simp;omega);simp only[Value.slice.injEq]at hv9;obtain⟨rfl,_,rfl⟩:=hv9;exact qI.1 hi9
 clear ho hg hat hg0;go_wp2_with (go_at_call 132;go_must (refine(HMx.out _ _ _ _ (by rw[HLl.out]) HI7.out).mono ?_;rintro e w' ⟨rfl,rfl⟩));first|exact HPo.out _ _ HE.out HB7.out|(go_ret;exact HPo.out _ _ HE.out HB7.out)
theorem zge (s:Tq) (p:Nat->Bool) (ae:Option Addr) (ce:Nat) (a:Option Addr) (cap:Nat) (w:World) (h:Zr (World.hide w p) s ae ce a cap) (hp:∀j,p j=true->j<w.heap.size) (hn:s.nodes<=1000000000) :
 Calls Tryz.prog 82 #[ym s ae ce a cap] w λe w'=>e=.returned (.int .i64 (s.nodes:Int))/\Below w.heap.size w w':=by
 have eg:∀args w,(callFunc 133 args).run Tryz.prog w=.ok (.enter 133 args) w:=enters_of Tryz.func133 (by kernel_rfl) rfl;have HF:=Lib.hid λW (hW:Below w.heap.size w W)=>zcn 133 eg _ zib s p ae ce a cap W (h.keep (zg hW λ_ _ h=>h)) (λj hj=>by have:=hp j hj;have:=hW.size;omega) hn;clear h hp hn eg;rw[zo]at HF⊢;go_enter Tryz.func82, Tryz.ntmps82;go_wp2_with fail;refine(HF.out _ bel).mono ?_;rintro e w' ⟨⟨u,rfl,hu⟩,hb⟩;have hu2:u=.int .i64 (s.nodes:Int):=(List.cons.inj hu).1;subst hu2;have HB:Hid (Below w.heap.size w w'):=((Below.refl w.heap.size w).alloc (Nat.le_refl _) _).trans (hb.mono (by simp));clear hb hu;go_wp2_with fail;go_ret;exact⟨rfl,HB.out⟩
theorem zd5 (s:Tq) (p:Nat->Bool) (ae:Option Addr) (ce:Nat) (a:Option Addr) (cap:Nat) (w:World) (h:Zr (World.hide w p) s ae ce a cap) (hp:∀j,p j=true->j<w.heap.size) (hn:s.nodes<=1000000000) :
 Calls Tryz.prog 81 #[ym s ae ce a cap] w λe w'=>e=.returned (.int .i64 (s.depth:Int))/\Below w.heap.size w w':=by
 have eg:∀args w,(callFunc 131 args).run Tryz.prog w=.ok (.enter 131 args) w:=enters_of Tryz.func131 (by kernel_rfl) rfl;have HF:=Lib.hid λW (hW:Below w.heap.size w W)=>zcn 131 eg _ zfr s p ae ce a cap W (h.keep (zg hW λ_ _ h=>h)) (λj hj=>by have:=hp j hj;have:=hW.size;omega) hn;clear h hp hn eg;rw[zo]at HF⊢;go_enter Tryz.func81, Tryz.ntmps81;go_wp2_with fail;refine(HF.out _ bel).mono ?_;rintro e w' ⟨⟨u,rfl,hu⟩,hb⟩;have hu2:u=.int .i64 (s.depth:Int):=(List.cons.inj hu).1;subst hu2;have HB:Hid (Below w.heap.size w w'):=((Below.refl w.heap.size w).alloc (Nat.le_refl _) _).trans (hb.mono (by simp));clear hb hu;go_wp2_with fail;go_ret;exact⟨rfl,HB.out⟩
end Go.Proofs.YthojpomoflhbcaaGreatDoor
