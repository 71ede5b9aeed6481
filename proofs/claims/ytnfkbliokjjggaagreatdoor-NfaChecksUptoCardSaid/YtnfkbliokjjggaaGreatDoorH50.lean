/- nfa.compile, of sequences that are built of Bool and Delay alone (the sample of awake). -/
import Derived.Test.YtnfkbliokjjggaaGreatDoorH36
import Derived.Test.YtnfkbliokjjggaaGreatDoorH39
import Derived.Test.YtnfkbliokjjggaaGreatDoorH40
set_option maxHeartbeats 32000000
set_option maxRecDepth 100000
set_option linter.unusedSimpArgs false
set_option linter.unusedVariables false
set_option linter.unnecessarySimpa false
namespace Go.Proofs.YtnfkbliokjjggaaGreatDoor
open Go.RowKit
attribute [local go_sem ↓] Go.wp_at_zero Go.wp_at_succ
inductive OpD:Tq->Prop where
 |mk {s:Tq} (h:s.op=1\/s.op=2) (ha:∀a,a∈s.args->OpD a):OpD s
theorem OpD.out {s:Tq} (h:OpD s):(s.op=1\/s.op=2)/\∀a∈s.args,OpD a:=by
 cases h with
 |mk h ha=>exact⟨h,ha⟩
theorem zaD (s:Tq):OpD s->∀(b:Bool),yc s b=0->s.nodes<=1000->∀(p:Nat->Bool) (ae:Option Addr) (ce:Nat) (a:Option Addr) (cap:Nat) (w:World),X4 (World.hide w p) s ae ce a cap->(∀j,p j=true->j<w.heap.size)->qW w ->
 Calls Tryz.prog 36 #[xw s ae ce a cap] w (yy p (yJ s) w):=by
 induction s using Tq.ind with
 |h s ih =>
  intro hD b hc hn p ae ce a cap w hX hp hG;obtain⟨hop,hda⟩:=hD.out;have HOp:Hid (s.op=1\/s.op=2):=hop;clear hD hop;obtain⟨hnode,harg⟩:=Qj hc;obtain⟨hshape,-,-,-,hval,-⟩:=Qt hnode;have HVal:Hid (yh s.op=true->zD s.expr=0):=hval;clear hval;have HSh:=Lib.hid (ZQ hshape);have HIH:Hid (∀k (hk:k<s.args.length),∀(q:Nat->Bool) (ae:Option Addr) (ce:Nat) (a:Option Addr) (cap:Nat) (W:World),X4 (World.hide W q) (s.args[k]'hk) ae ce a cap->(∀j,q j=true->j<W.heap.size)->qW W->Calls Tryz.prog 36 #[xw (s.args[k]'hk) ae ce a cap] W (yy q (yJ (s.args[k]'hk)) W)):=λk hk q ae ce a cap W h1 h2 h3=>ih _ (List.getElem_mem hk) (hda _ (List.getElem_mem hk)) _ (harg _ (List.getElem_mem hk)) (Nat.le_trans (Nat.le_of_lt (xK (List.getElem_mem hk))) hn) q ae ce a cap W h1 h2 h3;have hlen:=hX.ar.2.1;have HX:=Lib.hid hX;have HAd:Hid (s.args.length=0\/∃b off,a=some ⟨b,off,none⟩):=zw.addr hX.ar;have HG:=Lib.hid hG;have Hp:=Lib.hid hp;have HReg:Hid (∀a∈s.args,∀n,yJ a=some n->qO a.nodes n):=λa ha n h=>zcm a _ (harg a ha) n h;have HSum:Hid (1+(s.args.map Tq.nodes).sum<=1000):=by show _<=_;rw[←Tq.nodes_eq];exact hn
  have HCe:Hid (yJ s=match qB (s.args.map yJ) with|none=>none|some l=>ZL s l):=Y6 s;clear hc hn hX hp hG ih hnode harg hshape hda;generalize hPo:yy p (yJ s) w=Po;have HPo:Hid (∀r,yJ s=r->∀e W,yy p r w e W->Po e W):=λr h e W h2=>by rw[←hPo,h];exact h2
  clear hPo;rw[Y9];go_enter Tryz.func36, Tryz.ntmps36;go_upto_region 2 with fail;generalize hW2:World.alloc (World.alloc w _) _=W2;have HB2:Hid (Below w.heap.size w W2):=by show Below _ _ _;rw[←hW2];exact((Below.refl _ _).alloc (Nat.le_refl _) _).alloc (by simp) _
  have hx2:W2.heap[w.heap.size]? = some (xr s ae ce a cap):=by rw[←hW2];exact zl (zh rfl)
  have hy2:W2.heap[w.heap.size+1]? = some xO:=by rw[←hW2];exact zh (by simp)
  have hz2:W2.heap.size=w.heap.size+2:=by rw[←hW2];simp
  obtain⟨-,-,-,-,-,-,-,-,b8⟩:=yI hx2;have HX2:=Lib.hid hx2;have HY2:=Lib.hid hy2;obtain⟨q,hq⟩:∃q:Nat->Bool,(λj=>p j||(j==w.heap.size)||(j==w.heap.size+1))=q:=⟨_,rfl⟩;have Q:Hid (∀j,q j=true<->p j=true\/j=w.heap.size\/j=w.heap.size+1):=λj=>by rw[←hq];simp[or_assoc]
  have HQB:Hid (∀j,q j=true->j<w.heap.size+2):=λj hj=>by
   rcases (Q.out j).1 hj with h|h
   ·have:=Hp.out j h;omega
   ·omega
  clear hW2 hq hx2 hy2;go_wp2_with fail;clear b8;go_loopw [13,4,6,7,8] (λi v _ _ _ wr=>∃(k:Nat) (ps:List zt),i=.int .i64 k/\k<=s.args.length/\ps.length=k/\Hid ((s.args.take k).map yJ=ps.map some)/\Hid (nfE.Own 33 q wr (w.heap.size+2) v ps)/\Hid (Below W2.heap.size W2 wr)) (λi _ _ _ _ _=>s.args.length-(intOf i).toNat);case atStart=>exact⟨0,[],rfl,Nat.zero_le _,rfl,rfl,Enc.Own.nil _ _ _ _ _,Below.refl _ _⟩
  case round =>
   (try rename World=>wr)
   obtain⟨k,ps,rfl,hk,hpl,HPs,HO,HBr⟩:=hrel;have hzr:=HBr.out.size;obtain⟨va,vc,hv,hsl⟩:=HO.out.slice (by omega);rw[hpl]at hv;subst hv;have HVo:Hid (∀j,(Value.slice va k vc).ownBlock=some j->w.heap.size+2<=j/\j<wr.heap.size):=zq HO.out;have HBw:Hid (Below w.heap.size w wr):=HB2.out.trans (HBr.out.mono (by omega));have HBx:Hid (wr.heap[w.heap.size]? = some (xr s ae ce a cap)):=(HBr.out.block _ (by omega)).trans HX2.out;have HBy:Hid (wr.heap[w.heap.size+1]? = some xO):=(HBr.out.block _ (by omega)).trans HY2.out;by_cases hlt:k<s.args.length
   ·obtain⟨bE,oE,hEa⟩:=HAd.out.resolve_left (by omega);have HKp:Hid (Kp (World.hide w p) (World.hide wr (hid q (.slice va k vc)))):=zg HBw.out λj hj hq=>(ze.1 hq).elim (λh=>((Q.out j).1 h).elim id λe=>by omega) λe=>by have:=(HVo.out j e).1;omega
    have HA':Hid (qX (World.hide w p) s.args (some ⟨bE,oE,none⟩) cap):=by show qX _ _ _ _;rw[←hEa];exact HX.out.ar
    obtain⟨xe,xc,xa,xk,gc,hX⟩:=(qX.keep HKp.out HA'.out).get rfl hlt;obtain⟨g0,g1,g2,g3,g4,g5,g6,g7,g8⟩:=zay gc;have f0:=zc _ _ g0;have f1:=zc _ _ g1;have f2:=zc _ _ g2;have f3:=zc _ _ g3;have f4:=zc _ _ g4;have f5:=zc _ _ g5;have f6:=zc _ _ g6;have f7:=zc _ _ g7;have f8:=zc _ _ g8;have HC:=Lib.hid (λW (hW:Below wr.heap.size wr W)=>HIH.out k hlt (hid q (.slice va k vc)) xe xc xa xk W (hX.keep (zg hW λ_ _ h=>h)) (λj hj=>(ze.1 hj).elim (λh=>by have:=HQB.out j h;have:=hW.size;omega) λe=>by have:=(HVo.out j e).2;have:=hW.size;omega) (HG.out.below (HBw.out.trans (hW.mono HBw.out.size))));have HPn:Hid (yJ (s.args[k]'hlt)=none->yJ s=none):=λh=>by rw[HCe.out,zbW (k:=k) (by simpa using hlt) (by rw[List.getElem_map];exact h)]
    have HPs':Hid (∀n,yJ (s.args[k]'hlt)=some n->(s.args.take (k+1)).map yJ=(ps++[n]).map some):=λn h=>by rw[List.take_succ_eq_append_getElem hlt,List.map_append,HPs.out,List.map_append,List.map_singleton,List.map_singleton,h]
    subst hEa;clear hX gc g0 g1 g2 g3 g4 g5 g6 g7 g8 hsl;generalize (s.args[k]'hlt)=y at f0 f1 f2 f3 f4 f5 f6 f7 f8 HC HPn HPs';rw[Y9]at HC;generalize hr:yJ y=r at HC;go_wp2_with fail;refine(HC.out _ zW).mono ?_;intro e w5 h5;cases r with
    |none =>obtain⟨rfl,hb5⟩:=h5.outNo;have HN:Hid (yJ s=none):=HPn.out hr;have HB5:Hid (Below wr.heap.size wr w5):=((Below.refl wr.heap.size wr).alloc (Nat.le_refl _) _).trans (hb5.mono (by simp));have hbx5:w5.heap[w.heap.size+1]? = some xO:=(HB5.out.block _ (by omega)).trans HBy.out;obtain⟨⟨c0,c1,c2⟩,⟨d0,d1,d2⟩⟩:=ziX hbx5;have HBx5:=Lib.hid hbx5;clear h5 hb5 hbx5 hr f0 f1 f2 f3 f4 f5 f6 f7 f8;go_wp2_with fail;refine bodyPost_ret (v:=.tuple #[.agg #[.int .i64 0,.slice none 0 0,.slice none 0 0],.int .i64 2]) (qK _ rfl _ _ (w.heap.size+1) _ _ _ _ (zdQ (zl HBx5.out)) rfl rfl) rfl ?_;have hbw:=HBw.out.trans (HB5.out.mono HBw.out.size);have hbz:=hbw.size;exact HPo.out none HN.out _ _ (yy.no ((((hbw.alloc (by omega) _).setCell (by simp) _).setCell (by simp) _).setCell (by simp) _))
    |some n =>
     obtain⟨x,rfl,hn5,hb5⟩:=h5.outYes;have HB5:Hid (Below wr.heap.size wr w5):=((Below.refl wr.heap.size wr).alloc (Nat.le_refl _) _).trans (hb5.mono (by simp));have hz5:=HB5.out.size;have HO5:=Lib.hid (HO.out.below HB5.out);have HN5:=Lib.hid hn5;have HPq:=Lib.hid (HPs'.out n hr);clear h5 hb5 hr hn5 f0 f1 f2 f3 f4 f5 f6 f7 f8;go_upto_region 8 with fail;generalize hW6:World.alloc w5 _=W6;have hx6:W6.heap[w5.heap.size]? = some (zbt n x):=by rw[←hW6];exact zh rfl
     have hB6:Below w5.heap.size w5 W6:=by rw[←hW6];exact(Below.refl _ _).alloc (Nat.le_refl _) _
     have hz6:=hB6.size;obtain⟨b0,b1,b2⟩:=zo hx6;have HO6:=Lib.hid (HO5.out.below hB6);have HB6:Hid (Below wr.heap.size wr W6):=HB5.out.trans (hB6.mono hz5);have HR6:Hid (nfE.R (World.hide W6 (hid q (.slice va k vc))) n [.int .i64 n.states,.slice x.ae n.edges.length x.ce,.slice x.aa n.accept.length x.ca]):=⟨x,rfl,HN5.out.keep (zg hB6 λ_ _ h=>h)⟩;clear hW6 hx6 hB6 HO5 HN5;go_wp2_with (at_builtin;go_must (refine yr (E:=nfE) zi4 _ rfl (.tmp 26) (.tmp 28) rfl q (w.heap.size+2) _ rfl HO6.out n _ HR6.out _ _ rfl rfl k hpl (by omega) (by omega) ?_));intro g9 cap9 w7 ho hg hat
     have HO7:=Lib.hid ho;have HB7:Hid (Below W2.heap.size W2 w7):=(HBr.out.trans (HB6.out.mono hzr)).grown hg (by omega) λj hj=>by have:=(HVo.out j hj).1;omega
     clear ho hg hat
     go_wp2_with fail;go_roundw;case rel=>exact⟨k+1,ps++[n],by go_num,by omega,by rw[List.length_append,hpl];rfl,HPq.out,HO7.out,HB7.out⟩
     case measure=>(simp[intOf];try omega)
   ·obtain rfl:k=s.args.length:=by omega
    have HPf:Hid (s.args.map yJ=ps.map some):=by show _=_;have:=HPs.out;rwa [List.take_length]at this
    have HCs:Hid (yJ s=ZL s ps):=by show _=_;rw[HCe.out,HPf.out,zdB]
    have HRL:Hid (RegL (s.args.map Tq.nodes) ps):=za3 HPf.out HReg.out;have HRa:Hid (∀n∈ps,qO 1000 n):=zaL HRL.out λk hk=>by have:=zhz hk;have:=HSum.out;omega
    obtain⟨a',c',hv',hin⟩:=HO.out.sliceP (by omega) λj hj=>by
     cases h:q j with
     |false=>rfl
     |true=>have:=HQB.out j h;omega
    rw[hpl]at hv';injection hv' with e1 e2 e3;subst e1 e3;have HPin:Hid (nfE.In (World.hide wr q) ps va vc):=hin;have HKp:Hid (Kp (World.hide w p) (World.hide wr q)):=zg HBw.out λj hj h=>((Q.out j).1 h).elim id λe=>by omega
    have HXq:Hid (X4 (World.hide wr q) s ae ce a cap):=HX.out.keep HKp.out;have HPad:Hid (s.args.length=0\/∃b off,va=some ⟨b,off,none⟩):=by show _\/_;rw[←hpl];exact hin.addr
    clear hin hsl HO HPs HIH;go_upto_region 11 with fail;generalize hW5:World.alloc wr _=W5;have hB5:Below wr.heap.size wr W5:=by rw[←hW5];exact(Below.refl _ _).alloc (Nat.le_refl _) _
    have hkb:W5.heap[wr.heap.size]? = some (.cells #[.int .i64 0,.slice none 0 0,.slice none 0 0,.bool false] 150 (0,0)):=by rw[←hW5];exact zh rfl
    have hbx:W5.heap[w.heap.size]? = some (xr s ae ce a cap):=(hB5.block _ (by omega)).trans HBx.out;have hz5:wr.heap.size<W5.heap.size:=by rw[←hW5];simp
    have HQl:Hid (∀j,q j=true->j<wr.heap.size):=λj hj=>by have:=HQB.out j hj;omega
    obtain⟨b0,b1,b2,b3,b4,b5,b6,b7,b8⟩:=yI hbx;have HB5:=Lib.hid hB5;have HKb:=Lib.hid hkb;have HBX5:=Lib.hid hbx
    have HEnd:Hid (∀(r:Option zt) (w7:World) (e:Ending) (w8:World),yJ s=r->Below wr.heap.size wr w7->yy q r w7 e w8->∃(st:Int) (ea:Option Addr) (en ec:Nat) (aa:Option Addr) (an ac:Nat) (er:Int),e=.returned (.tuple #[.agg #[.int .i64 st,.slice ea en ec,.slice aa an ac],.int .i64 er])/\w8.heap[w.heap.size+1]? = some xO /\
     Hid (Po (.returned (.tuple #[.agg #[.int .i64 st,.slice ea en ec,.slice aa an ac],.int .i64 er])) (((w8.setCell ⟨w.heap.size+1,0,none⟩ (.int .i64 st)).setCell ⟨w.heap.size+1,1,none⟩ (.slice ea en ec)).setCell ⟨w.heap.size+1,2,none⟩ (.slice aa an ac)))):=λr w7 e w8 hr h7 h8=>by
     obtain⟨st,ea,en,ec,aa,an,ac,er,rfl,hb8,hf8⟩:=h8.fin;have hb:=h7.trans (hb8.mono h7.size);have hq1:q (w.heap.size+1)=true:=(Q.out _).2 (Or.inr (Or.inr rfl));refine⟨st,ea,en,ec,aa,an,ac,er,rfl,(hb.block _ (by omega)).trans HBy.out,HPo.out r hr _ _ (hf8 p w _ ?_ ?_)⟩
     ·exact Kp.trans (zj hq1) (Kp.trans (zj hq1) (Kp.trans (zj hq1) (zB λj hj=>(Q.out j).2 (Or.inl hj))))
     ·have hbw:=HBw.out.trans (hb.mono HBw.out.size);exact((hbw.setCell (by simp) _).setCell (by simp) _).setCell (by simp) _
    have HDone:Hid (∀(n:zt) (e7:Ending) (w7 W:World),yJ s=doneN n->qq n->zhI q wr.heap.size wr n e7 w7->Below w7.heap.size w7 W->Calls Tryz.prog 89 #[.pointer (some ⟨wr.heap.size,0,none⟩)] W λe w8=>∃(st:Int) (ea:Option Addr) (en ec:Nat) (aa:Option Addr) (an ac:Nat) (er:Int),e=.returned (.tuple #[.agg #[.int .i64 st,.slice ea en ec,.slice aa an ac],.int .i64 er])/\w8.heap[w.heap.size+1]? = some xO /\
     Hid (Po (.returned (.tuple #[.agg #[.int .i64 st,.slice ea en ec,.slice aa an ac],.int .i64 er])) (((w8.setCell ⟨w.heap.size+1,0,none⟩ (.int .i64 st)).setCell ⟨w.heap.size+1,1,none⟩ (.slice ea en ec)).setCell ⟨w.heap.size+1,2,none⟩ (.slice aa an ac)))):=λn e7 w7 W hc hs hB hW=>by
     obtain⟨-,q7,ve,aa,ca,hq7,hB7,hA7⟩:=hB;have hbW:=hB7.bel.trans (hW.mono hB7.bel.size);refine(zgl (hB7.below hW) hq7 HQl.out (hA7.keep (zg hW λ_ _ h=>h)) (HG.out.below (HBw.out.trans (hbW.mono HBw.out.size))) hs).mono λe w8 h8=>HEnd.out _ W e w8 hc hbW h8
    clear hW5 hB5 hkb hbx;rcases HSh.out with ⟨ho,h1,h2,h3⟩|⟨ho,h1,h2,h3,h4⟩|⟨ho,-⟩|⟨ho|ho,-⟩|⟨ho|ho,-⟩
    ·have HN:Hid (yJ s=doneN ⟨2,[⟨0,1,[s.expr],[]⟩],[1]⟩):=by show _=_;rw[HCs.out];simp only[ZL,ho,if_true]
     have h400:s.expr.nodes.length<=400:=XM (by unfold okX;rw[HVal.out (by rw[ho];rfl)];rfl);have F:∀j o o' o'',((((W5.alloc o).alloc o').alloc o'')).frozen? ⟨wr.heap.size,j,none⟩=false:=λj o o' o''=>by simp[World.frozen?,zl (o:=o'') (zl (o:=o') (zl (o:=o) HKb.out))]
     have F0:=F 0;have F1:=F 1;have F2:=F 2;have C:∀j (v:Value),(#[.int .i64 0,.slice none 0 0,.slice none 0 0,.bool false]:Array Value)[j]? = some v->∀o o' o'',((((W5.alloc o).alloc o').alloc o'')).cell? ⟨wr.heap.size,j,none⟩=some v:=λj v hv o o' o''=>by rw[zb (zl (o:=o'') (zl (o:=o') (zl (o:=o) HKb.out)))];exact hv
     have C0:=C 0 _ rfl;have C1:=C 1 _ rfl;have C2:=C 2 _ rfl;clear F C;rw[ho]at b0;go_wp2_with fail;refine(HDone.out ⟨2,[⟨0,1,[s.expr],[]⟩],[1]⟩ (.returned (.tuple #[])) _ _ HN.out (zhT h400) (zf9 (g1:=W5.heap.size) (g2:=W5.heap.size+1) (g3:=W5.heap.size+2) (x:=s.expr) (xa:=ae) (xc:=ce) (Nat.le_refl _) (hs3 (zl (zl (zh rfl))) (by omega)) (hs3 (zl (zh (by simp))) (by omega)) (hs3 (zh (by simp)) (by omega)) (hs34 (zl (zl (zl HKb.out)))) (by have hz:=HB5.out.size;exact(((((HB5.out.alloc hz _).alloc (by simp;omega) _).alloc (by simp;omega) _).setCell (Nat.le_refl _) _).setCell (Nat.le_refl _) _).setCell (Nat.le_refl _) _) HXq.out.ex HQl.out ⟨by omega,by omega,by omega⟩) (Below.refl _ _)).mono ?_;rintro e w8 ⟨st,ea,en,ec,aa,an,ac,er,rfl,hby8,HQ8⟩;have hby8':w8.heap[w.heap.size+1]? = some (.cells #[.int .i64 0,.slice none 0 0,.slice none 0 0] 33 (0,0)):=hby8;obtain⟨c0,c1,c2⟩:=zo hby8';have d0:w8.frozen? ⟨w.heap.size+1,0,none⟩=false:=by simp[World.frozen?,hby8']
     have d1:w8.frozen? ⟨w.heap.size+1,1,none⟩=false:=by simp[World.frozen?,hby8']
     have d2:w8.frozen? ⟨w.heap.size+1,2,none⟩=false:=by simp[World.frozen?,hby8']
     have HBy8:=Lib.hid hby8';clear hby8 hby8';go_wp2_with fail;refine bodyPost_ret (qK _ rfl _ _ (w.heap.size+1) _ _ _ _ (zdQ HBy8.out) rfl rfl) rfl ?_;exact HQ8.out
    ·obtain⟨x,y,rfl⟩:∃x y,ps=[x,y]:=zjT (by omega);have HN:Hid (yJ s=doneN (y5 s.lo s.hi x y)):=by show _=_;rw[HCs.out];simp only[ZL,ho,Int.reduceEq,if_false,if_true];rfl
     obtain⟨bp,op,hpa⟩:=HPad.out.resolve_left (by omega);subst hpa;obtain⟨ax,x0,x1,x2,hx⟩:=ze8 HPin.out rfl (i:=0) (by simp);have krx:=HRa.out x (by simp);obtain⟨ay,y0,y1,y2,hy⟩:=ze8 HPin.out rfl (i:=1) (by simp);have kry:=HRa.out y (by simp);simp only[List.getElem_cons_zero,List.getElem_cons_succ,Nat.zero_mul,Nat.add_zero,Nat.one_mul]at x0 x1 x2 y0 y1 y2 hx hy;have xc0:=za HB5.out _ _ (zc _ _ x0);have xc1:=za HB5.out _ _ (zc _ _ x1);have xc2:=za HB5.out _ _ (zc _ _ x2);have yc0:=za HB5.out _ _ (zc _ _ y0);have yc1:=za HB5.out _ _ (zc _ _ y1);have yc2:=za HB5.out _ _ (zc _ _ y2);have HSM:Hid (qq (y5 s.lo s.hi x y)):=zgi (zfw (HRa.out x (by simp))) (zfw (HRa.out y (by simp)));have HCa:Hid (∀W,Below W5.heap.size W5 W->Calls Tryz.prog 83 #[.pointer (some ⟨wr.heap.size,0,none⟩),.agg #[.int .i64 2,.int .i64 s.lo,.int .i64 s.hi,.int .i64 s.expr.op,.int .i64 s.expr.n,.string s.expr.name,.slice ae s.expr.args.length ce,.string s.name,.slice a s.args.length cap],.agg #[.int .i64 x.states,.slice ax.ae x.edges.length ax.ce,.slice ax.aa x.accept.length ax.ca],.agg #[.int .i64 y.states,.slice ay.ae y.edges.length ay.ce,.slice ay.aa y.accept.length ay.ca]] W (zhI q wr.heap.size wr (y5 s.lo s.hi x y))):=λW hW=>by have h:=zeG (p:=q) (k:=wr.heap.size) (w0:=wr) (w:=W) (Nat.le_refl _) ((hW.block _ hz5).trans HKb.out) (HB5.out.trans (hW.mono HB5.out.size)) HQl.out s ae ce a cap x y ax ay krx kry (by omega) h2 h3 h4 (hx.keep (λ_ _ h=>h)) (hy.keep (λ_ _ h=>h));rw[Y9,ho]at h;exact h
     have hN0:1<s.args.length:=by omega
     have hN0i:(1:Int)<(s.args.length:Int):=by omega
     have hM0:0<s.args.length:=by omega
     have hM0i:(0:Int)<(s.args.length:Int):=by omega
     rw[ho]at b0;clear h1 h2 h3 h4 HPf HRL HCs HKb x0 x1 x2 y0 y1 y2;go_upto_region 15 with fail;go_region_with (go_at_call 83;go_must (refine(HCa.out _ (by first|with_reducible assumption|exact Below.refl _ _|exact zW)).mono ?_;rintro e w7 h7;obtain rfl:=h7.1;have HB7:=Lib.hid h7;clear h7))
     all_goals
      go_wp2_with fail;refine(HDone.out _ _ w7 _ HN.out HSM.out HB7.out (by first|exact Below.refl _ _|exact zW)).mono ?_;rintro e w8 ⟨st,ea,en,ec,aa,an,ac,er,rfl,hby8,HQ8⟩;have hby8':w8.heap[w.heap.size+1]? = some (.cells #[.int .i64 0,.slice none 0 0,.slice none 0 0] 33 (0,0)):=hby8;obtain⟨c0,c1,c2⟩:=zo hby8';have d0:w8.frozen? ⟨w.heap.size+1,0,none⟩=false:=by simp[World.frozen?,hby8']
      have d1:w8.frozen? ⟨w.heap.size+1,1,none⟩=false:=by simp[World.frozen?,hby8']
      have d2:w8.frozen? ⟨w.heap.size+1,2,none⟩=false:=by simp[World.frozen?,hby8']
      have HBy8:=Lib.hid hby8';clear hby8 hby8';go_wp2_with fail;refine bodyPost_ret (qK _ rfl _ _ (w.heap.size+1) _ _ _ _ (zdQ HBy8.out) rfl rfl) rfl ?_;exact HQ8.out
    ·exact absurd HOp.out (by omega)
    ·exact absurd HOp.out (by omega)
    ·exact absurd HOp.out (by omega)
    ·exact absurd HOp.out (by omega)
    ·exact absurd HOp.out (by omega)
theorem zao (s:Tq) (hD:OpD s) (p:Nat->Bool) (ae:Option Addr) (ce:Nat) (a:Option Addr) (cap:Nat) (w:World) (hX:X4 (World.hide w p) s ae ce a cap) (hp:∀j,p j=true->j<w.heap.size) (hn:s.nodes<=1000000000) (hs:SmT s) (hG:qW w) :
 Calls Tryz.prog 10 #[xw s ae ce a cap] w (zhJ p (zeA s) w):=by
 have hpW:∀W,Below w.heap.size w W->∀j,p j=true->j<W.heap.size:=λW hW j hj=>by have:=hp j hj;have:=hW.size;omega
 have HV:=Lib.hid λW (hW:Below w.heap.size w W)=>zd0 s p ae ce a cap W (hX.keep (zg hW λ_ _ h=>h)) (hpW W hW) hn hs (hG.below hW);have HC:Hid (qi s=0->∀q W,Below w.heap.size w W->(∀k,k<w.heap.size->q k=true->p k=true)->(∀j,q j=true->j<W.heap.size)->Calls Tryz.prog 36 #[xw s ae ce a cap] W (yy q (yJ s) W)):=λhv q W hW hq1 hq2=>by
  have hb:¬(8<s.depth\/100<s.nodes):=λh=>by unfold qi at hv;rw[if_pos h]at hv;cases hv
  have hc:yc s false=0:=by unfold qi at hv;rwa [if_neg hb]at hv
  exact zaD s hD false hc (by omega) q ae ce a cap W (hX.keep (zg hW hq1)) hq2 (hG.below hW)
 have HOk:Hid (qi s=0->∀n,yJ s=some n->zC n=true):=λhv n h=>by
  have hb:¬(8<s.depth\/100<s.nodes):=λh=>by unfold qi at hv;rw[if_pos h]at hv;cases hv
  have hc:yc s false=0:=by unfold qi at hv;rwa [if_neg hb]at hv
  exact(zcm s false hc n h).ok
 have HPW:=Lib.hid hpW;have HG:=Lib.hid hG;have HR:Hid (zeA s=(if qi s≠0 then (none,1) else match yJ s with|none=>(none,2)|some n=>(some (trimS n),0):Option zt×Int)):=rfl;generalize zeA s=R at HR⊢;generalize qi s=v at HV HC HOk HR;generalize hPo:zhJ p R w=Po;have HPo:Hid (∀r,R=r->∀e W,zhJ p r w e W->Po e W):=λr h e W h2=>by rw[←hPo,h];exact h2
 clear hPo hX hp hn hs hG hpW hD;rw[zK]at HV HC⊢;go_enter Tryz.func10, Tryz.ntmps10;go_upto_region 1 with fail;generalize hW2:World.alloc (World.alloc w _) _=W2;have HB2:Hid (Below w.heap.size w W2):=by show Below _ _ _;rw[←hW2];exact((Below.refl _ _).alloc (Nat.le_refl _) _).alloc (by simp) _
 have HX2:Hid (W2.heap[w.heap.size]? = some (xr s ae ce a cap)):=by show _=_;rw[←hW2];exact zl (zh rfl)
 have HY2:Hid (W2.heap[w.heap.size+1]? = some xO):=by show _=_;rw[←hW2];exact zh (by simp)
 have hz2:w.heap.size+2<=W2.heap.size:=by rw[←hW2];simp
 clear hW2;obtain⟨b0,b1,b2,b3,b4,b5,b6,b7,b8⟩:=yI HX2.out;go_wp2_with fail;refine(HV.out _ HB2.out).mono ?_;rintro e w3 ⟨rfl,hb3⟩;have HB3:Hid (Below w.heap.size w w3):=HB2.out.trans (hb3.mono HB2.out.size);have HX3:Hid (w3.heap[w.heap.size]? = some (xr s ae ce a cap)):=(hb3.block _ (by omega)).trans HX2.out;have HY3:Hid (w3.heap[w.heap.size+1]? = some xO):=(hb3.block _ (by omega)).trans HY2.out;have hz3:w.heap.size+2<=w3.heap.size:=by have:=hb3.size;omega
 clear hb3 HX2 HY2 HB2 HV b0 b1 b2 b3 b4 b5 b6 b7 b8 hz2;by_cases hv:v=0
 ·subst hv;obtain⟨b0,b1,b2,b3,b4,b5,b6,b7,b8⟩:=yI HX3.out;obtain⟨q,hq⟩:∃q:Nat->Bool,(λj=>p j||(j==w.heap.size+1))=q:=⟨_,rfl⟩;have Q:Hid (∀j,q j=true<->p j=true\/j=w.heap.size+1):=λj=>by rw[←hq];simp
  have HQl:Hid (∀W:World,w.heap.size+2<=W.heap.size->∀j,q j=true->j<W.heap.size):=λW hW j hj=>by
   rcases (Q.out j).1 hj with h|h
   ·have:=HPW.out w (Below.refl _ _) j h;omega
   ·omega
  have HCc:=Lib.hid (HC.out rfl q w3 HB3.out (λk hk h=>((Q.out k).1 h).elim id λe=>by omega) (HQl.out w3 hz3));clear hq;have HOk2:=Lib.hid (HOk.out rfl);clear HC HOk;go_wp2_with fail;refine HCc.out.mono ?_;intro e w5 h5;cases hr:yJ s with
  |none =>
   rw[hr]at h5;obtain⟨rfl,hb5⟩:=h5.outNo;have HRe:Hid (R=(none,2)):=by show _=_;rw[HR.out,if_neg (by simp),hr]
   have HB5:Hid (Below w.heap.size w w5):=HB3.out.trans (hb5.mono HB3.out.size);have hy5:w5.heap[w.heap.size+1]? = some xO:=(hb5.block _ (by omega)).trans HY3.out;obtain⟨⟨c0,c1,c2⟩,⟨d0,d1,d2⟩⟩:=ziX hy5;have HY5:=Lib.hid hy5;clear h5 hb5 hy5 hr HR HOk2 b0 b1 b2 b3 b4 b5 b6 b7 b8;go_wp2_with fail;refine bodyPost_ret (v:=.tuple #[.agg #[.int .i64 0,.slice none 0 0,.slice none 0 0],.int .i64 2]) (qK _ rfl _ _ (w.heap.size+1) _ _ _ _ (zdQ (zl HY5.out)) rfl rfl) rfl ?_;refine HPo.out _ HRe.out _ _ ⟨rfl,?_⟩;have hz:=HB5.out.size;exact(((HB5.out.alloc hz _).setCell (by simp) _).setCell (by simp) _).setCell (by simp) _
  |some n =>
   rw[hr]at h5;obtain⟨x,rfl,hn5,hb5⟩:=h5.outYes;have HRe:Hid (R=(some (trimS n),0)):=by show _=_;rw[HR.out,if_neg (by simp),hr]
   have HB5:Hid (Below w.heap.size w w5):=HB3.out.trans (hb5.mono HB3.out.size);have hok:=HOk2.out n hr;have hy5:w5.heap[w.heap.size+1]? = some xO:=(hb5.block _ (by omega)).trans HY3.out;have HN5:=Lib.hid hn5;have hz5:w.heap.size+2<=w5.heap.size:=by have:=hb5.size;omega
   have HY5:=Lib.hid hy5;clear h5 hb5 hy5 hr HR HOk2 hn5 b0 b1 b2 b3 b4 b5 b6 b7 b8;go_upto_region 6 with fail;generalize hW6:World.alloc w5 _=W6;have hB6:Below w5.heap.size w5 W6:=by rw[←hW6];exact(Below.refl _ _).alloc (Nat.le_refl _) _
   have hx6:W6.heap[w5.heap.size]? = some (zbt n x):=by rw[←hW6];exact zh rfl
   obtain⟨n0,n1,n2⟩:=zo hx6;have HB6:Hid (Below w.heap.size w W6):=HB5.out.trans (hB6.mono HB5.out.size);have HY6:Hid (W6.heap[w.heap.size+1]? = some xO):=(hB6.block _ (by omega)).trans HY5.out;have hz6:=hB6.size;have HT:=Lib.hid (zcM q n x W6 (HN5.out.keep (zg hB6 λ_ _ h=>h)) (HQl.out W6 (by omega)) (HG.out.below HB6.out) (zfj hok));rw[zz]at HT;clear hW6 hB6 hx6 hok;go_wp2_with fail;refine HT.out.mono ?_;rintro e w7 ⟨⟨y,rfl,hn7⟩,hb7⟩;have HB7:Hid (Below w.heap.size w w7):=HB6.out.trans (hb7.mono HB6.out.size);have hy7:w7.heap[w.heap.size+1]? = some (.cells #[.int .i64 0,.slice none 0 0,.slice none 0 0] 33 (0,0)):=(hb7.block _ (by omega)).trans HY6.out;obtain⟨r0,r1,r2⟩:=zo hy7;have r0f:w7.frozen? ⟨w.heap.size+1,0,none⟩=false:=by simp[World.frozen?,hy7]
   have r1f:w7.frozen? ⟨w.heap.size+1,1,none⟩=false:=by simp[World.frozen?,hy7]
   have r2f:w7.frozen? ⟨w.heap.size+1,2,none⟩=false:=by simp[World.frozen?,hy7]
   have HY7:=Lib.hid hy7;have HN7:=Lib.hid hn7;clear hb7 hy7 hn7 n0 n1 n2;go_wp2_with fail;refine bodyPost_ret (v:=.tuple #[.agg #[.int .i64 (trimS n).states,.slice y.ae (trimS n).edges.length y.ce,.slice y.aa (trimS n).accept.length y.ca],.int .i64 0]) (qK _ rfl _ _ (w.heap.size+1) _ _ _ _ (zdQ HY7.out) rfl rfl) rfl ?_;have hq1:q (w.heap.size+1)=true:=(Q.out _).2 (Or.inr rfl);refine HPo.out _ HRe.out _ _ ⟨⟨y,rfl,HN7.out.keep (Kp.trans (zj hq1) (Kp.trans (zj hq1) (Kp.trans (zj hq1) (zB λj hj=>(Q.out j).2 (Or.inl hj)))))⟩,?_⟩;exact((HB7.out.setCell (by simp) _).setCell (by simp) _).setCell (by simp) _
 ·have HRe:Hid (R=(none,1)):=by show _=_;rw[HR.out,if_pos hv]
  have hvb:(v==0)=false:=by simp[hv]
  have hy:w3.heap[w.heap.size+1]? = some (.cells #[.int .i64 0,.slice none 0 0,.slice none 0 0] 33 (0,0)):=HY3.out;obtain⟨r0,r1,r2⟩:=zo hy;have r0f:w3.frozen? ⟨w.heap.size+1,0,none⟩=false:=by simp[World.frozen?,hy]
  have r1f:w3.frozen? ⟨w.heap.size+1,1,none⟩=false:=by simp[World.frozen?,hy]
  have r2f:w3.frozen? ⟨w.heap.size+1,2,none⟩=false:=by simp[World.frozen?,hy]
  have HY:=Lib.hid hy;clear hy HR HC HOk;go_wp2_with fail;refine bodyPost_ret (v:=.tuple #[.agg #[.int .i64 0,.slice none 0 0,.slice none 0 0],.int .i64 1]) (qK _ rfl _ _ (w.heap.size+1) _ _ _ _ (zdQ HY.out) rfl rfl) rfl ?_;refine HPo.out _ HRe.out _ _ ⟨rfl,((HB3.out.setCell (by simp) _).setCell (by simp) _).setCell (by simp) _⟩
theorem zim:OpD smN:=.mk (Or.inr rfl) λa ha=>by
 have:a=isN 97\/a=isN 98:=by simpa [smN,Tq.args] using ha
 rcases this with rfl|rfl<;>exact .mk (Or.inl rfl) λb hb=>by simp[isN,Tq.args]at hb
theorem zc0 (w:World) (hG:qW w):Calls Tryz.prog 9 #[] w λe w'=>e=.returned (.bool true)/\Below w.heap.size w w':=by
 have HG:=Lib.hid hG;have HI7:Hid (∀W,Calls Tryz.prog 31 #[.string ⟨#[97]⟩] W λe w'=>e=.returned (xw (isN 97) none 0 none 0)/\Below W.heap.size W w'):=λW=>zhw 97 W;have HI8:Hid (∀W,Calls Tryz.prog 31 #[.string ⟨#[98]⟩] W λe w'=>e=.returned (xw (isN 98) none 0 none 0)/\Below W.heap.size W w'):=λW=>zhw 98 W;rw[zK]at HI7 HI8;have HPo:Hid (∀W,Below w.heap.size w W->(λ(e:Ending) (w':World)=>e=.returned (.bool true)/\Below w.heap.size w w') (.returned (.bool true)) W):=λW hW=>⟨rfl,hW⟩;generalize (λ(e:Ending) (w':World)=>e=.returned (.bool true)/\Below w.heap.size w w')=Po at HPo⊢;clear hG;go_enter Tryz.func9, Tryz.ntmps9;go_wp2_with fail;refine(HI7.out _).mono ?_;rintro e w1 ⟨rfl,hb1⟩;have HB1:=Lib.hid hb1;clear hb1;go_wp2_with fail;refine(HI8.out _).mono ?_;rintro e w2 ⟨rfl,hb2⟩;have HB2:Hid (Below w.heap.size w w2):=HB1.out.trans (hb2.mono HB1.out.size);clear hb2 HB1;go_wp2_with fail;generalize hW3:World.alloc w2 _=W3;have hB3:Below w2.heap.size w2 W3:=by rw[←hW3];exact(Below.refl _ _).alloc (Nat.le_refl _) _
 have hk3:W3.heap[w2.heap.size]? = some (.cells ((yZ (isN 97) none 0 none 0)++(yZ (isN 98) none 0 none 0)).toArray 27 (0,0)):=by rw[←hW3];exact zh rfl
 have HB3:Hid (Below w.heap.size w W3):=HB2.out.trans (hB3.mono HB2.out.size);have HC:=zao smN zim x9 none 0 (some ⟨w2.heap.size,0,none⟩) 2 W3 ((zjb hk3).keep xC) (λj hj=>by cases hj) zfe ziC (HG.out.below HB3.out);rw[zeB]at HC;have HC2:=Lib.hid HC;clear hW3 hB3 hk3 HC;refine HC2.out.mono ?_;rintro e w4 ⟨⟨y,he,hy⟩,hb4⟩;obtain rfl:e=.returned (.tuple #[.agg #[.int .i64 3,.slice y.ae 3 y.ce,.slice y.aa 1 y.ca],.int .i64 0]):=he;have HB4:Hid (Below w.heap.size w w4):=HB3.out.trans (hb4.mono HB3.out.size);have HN4:Hid (yb w4 smO y):=hy.keep zc;clear hb4 hy HC2 HB3 HB2 HI7 HI8;obtain⟨xae,xce,xaa,xca⟩:=y;go_upto_region 2 with fail;generalize hW5:World.alloc w4 _=W5;have hB5:Below w4.heap.size w4 W5:=by rw[←hW5];exact(Below.refl _ _).alloc (Nat.le_refl _) _
 have HX5:Hid (W5.heap[w4.heap.size]? = some (.cells #[.int .i64 3,.slice xae 3 xce,.slice xaa 1 xca] 33 (0,0))):=by show _=_;rw[←hW5];exact zh rfl
 have HB5:Hid (Below w.heap.size w W5):=HB4.out.trans (hB5.mono HB4.out.size);have HN5:Hid (yb W5 smO ⟨xae,xce,xaa,xca⟩):=HN4.out.keep (za hB5);clear hW5 hB5 HN4 HB4;have HStt:Hid (∀W,Below W5.heap.size W5 W->Calls Tryz.prog 33 #[.slice none 0 0] W λe w'=>(∃a c,e=.returned (.slice a 1 c)/\thE.In w' [⟨0,[]⟩] a c)/\Below W.heap.size W w'/\Below W5.heap.size W5 w'):=λW hW=>(zfH x9 [] none 0 W (λj hj=>by cases hj) (Enc.In.nil _) (by simp)).mono λe w' ⟨⟨a,c,h1,h2⟩,h3⟩=>⟨⟨a,c,h1,h2.keep zc⟩,h3,hW.trans (h3.mono hW.size)⟩;have HSte:Hid (∀W a c ae ce,Below W5.heap.size W5 W->thE.In W [⟨0,[]⟩] a c->sgE.In W smE ae ce->Calls Tryz.prog 32 #[.agg #[.int .i64 3,.slice xae 3 xce,.slice xaa 1 xca],.slice a 1 c,.slice ae 2 ce] W λe w'=>(∃a c,e=.returned (.tuple #[.slice a 2 c,.int .i64 0])/\thE.In w' [⟨1,[]⟩,⟨2,[]⟩] a c)/\Below W5.heap.size W5 w'):=λW a c ae ce hW h1 h2=>(zgW x9 smO ⟨xae,xce,xaa,xca⟩ [⟨0,[]⟩] a c smE ae ce W (λj hj=>by cases hj) (HG.out.below (HB5.out.trans (hW.mono HB5.out.size))) (HN5.out.keep (za hW)) zbh.1 zbh.2 h1 (by simp) (by simp) h2 (by simp[smE])).mono λe w' h=>by rw[zgX]at h;obtain⟨⟨a,c,h3,h4⟩,h5⟩:=h;exact⟨⟨a,c,h3,h4.keep zc⟩,hW.trans (h5.mono hW.size)⟩
 have HAcc:Hid (∀W a c,Below W5.heap.size W5 W->thE.In W [⟨1,[]⟩,⟨2,[]⟩] a c->Calls Tryz.prog 34 #[.agg #[.int .i64 3,.slice xae 3 xce,.slice xaa 1 xca],.slice a 2 c] W λe w'=>(∃a c,e=.returned (.slice a 1 c))/\Below W5.heap.size W5 w'):=λW a c hW h1=>(QQ x9 smO ⟨xae,xce,xaa,xca⟩ [⟨1,[]⟩,⟨2,[]⟩] a c W (λj hj=>by cases hj) (HN5.out.keep (za hW)) h1 (by simp) (by simp)).mono λe w' h=>by rw[zhN]at h;obtain⟨⟨a,c,h3,h4⟩,h5⟩:=h;exact⟨⟨a,c,h3⟩,hW.trans (h5.mono hW.size)⟩
 have HZ:Hid (∀W,Below W5.heap.size W5 W->W.cell? ⟨w4.heap.size,0,none⟩=some (.int .i64 3)/\W.cell? ⟨w4.heap.size,1,none⟩=some (.slice xae 3 xce)/\W.cell? ⟨w4.heap.size,2,none⟩=some (.slice xaa 1 xca)):=λW hW=>by obtain⟨h0,h1,h2⟩:=zo ((hW.block _ (lt_of_block HX5.out)).trans HX5.out);exact⟨h0,h1,h2⟩
 obtain⟨z0,z1,z2⟩:=HZ.out W5 (Below.refl _ _);have Z0:∀o,(W5.alloc o).cell? ⟨w4.heap.size,0,none⟩=some (.int .i64 3):=λo=>Lib.cell?_alloc_some _ z0;have Z1:∀o,(W5.alloc o).cell? ⟨w4.heap.size,1,none⟩=some (.slice xae 3 xce):=λo=>Lib.cell?_alloc_some _ z1;have Z2:∀o,(W5.alloc o).cell? ⟨w4.heap.size,2,none⟩=some (.slice xaa 1 xca):=λo=>Lib.cell?_alloc_some _ z2;go_cut [3,4] from 13 to 21 (λs3 s4 wx=>∃(a:Option Addr) (c:Nat),s3=.slice a 2 c/\s4=.int .i64 0/\Hid (thE.In wx [⟨1,[]⟩,⟨2,[]⟩] a c)/\Hid (Below W5.heap.size W5 wx));case first =>
  go_region_law (first
   |(go_simp;go_at_call 33;(with_reducible refine(HStt.out _ (by first|with_reducible assumption|exact zW)).mono ?_);rintro e v1 ⟨⟨a1,c1,rfl,hin1⟩,hb1,hB1⟩;have hs1:=hB1.size;have HT1:=Lib.hid hin1;obtain⟨j0,j1,j2⟩:=HZ.out _ hB1;have J0:=λo=>Lib.cell?_alloc_some o j0;have J1:=λo=>Lib.cell?_alloc_some o j1;have J2:=λo=>Lib.cell?_alloc_some o j2;clear hin1)
   |(go_simp;go_at_call 32;(with_reducible refine(HSte.out _ _ _ _ _ ?hb ?ht ?hs).mono ?_);(case hb=>first|with_reducible assumption|exact zW);(case ht=>first|exact HT1.out|exact HT1.out.keep (za ((Below.refl _ _).alloc (Nat.le_refl _) _))|exact HT1.out.keep (λa v h=>Lib.cell?_alloc_some _ h));(case hs=>first|exact zfG (zh rfl)|exact zfG (hbT hb1 (zh rfl))|exact zfG (hbT hb1 (xP (zh rfl))));rintro e v2 ⟨⟨a2,c2,rfl,hin2⟩,hB2⟩;have HT2:=Lib.hid hin2;have HB2v:=Lib.hid hB2;clear hin2 hB2))
  all_goals
   go_wp2_with fail;go_meet;case rel=>exact⟨a2,c2,rfl,rfl,HT2.out,HB2v.out⟩
 case rest =>obtain⟨a2,c2,e3,e4,HT2,HBx⟩:=hcut;subst e3 e4;obtain⟨k0,k1,k2⟩:=HZ.out _ HBx.out;have HAc2:=Lib.hid (HAcc.out _ a2 c2 HBx.out HT2.out);clear z0 z1 z2 Z0 Z1 Z2 HStt HSte HAcc;go_wp2_with (go_at_call 34;go_must (refine HAc2.out.mono ?_;rintro e w7 ⟨⟨a7,c7,rfl⟩,hb7⟩;have HB7:Hid (Below w.heap.size w w7):=HB5.out.trans (hb7.mono HB5.out.size);clear hb7));have HF:=Lib.hid (HPo.out _ HB7.out);first|exact HF.out|(go_ret2;exact HF.out)
end Go.Proofs.YtnfkbliokjjggaaGreatDoor
