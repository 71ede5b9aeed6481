/- nfa.behind: the edge that takes two edges in the same cycle. -/
import Derived.Test.YtnfkbliokjjggaaGreatDoorH16
import Derived.Test.YtnfkbliokjjggaaGreatDoorH10
import Derived.Test.YtnfkbliokjjggaaGreatDoorH24
import Derived.Test.YtnfkbliokjjggaaGreatDoorH15
import Derived.Deep.RegionHeld3
import Derived.Deep.CutRange
set_option maxHeartbeats 16000000
set_option maxRecDepth 100000
set_option linter.unusedSimpArgs false
set_option linter.unusedVariables false
set_option linter.unnecessarySimpa false
namespace Go.Proofs.YtnfkbliokjjggaaGreatDoor
open Go.RowKit
attribute [local go_sem ↓] Go.wp_at_zero Go.wp_at_succ
def zbs (p:Nat->Bool) (r:zk) (w:World) (e:Ending) (w':World):Prop:=(∃ag cg aS cs,e=.returned (yX r ag cg aS cs)/\exE.In (World.hide w' p) r.guards ag cg/\bdE.In (World.hide w' p) r.sets aS cs)/\Below w.heap.size w w'
structure qo (p:Nat->Bool) (W2:World) (b:Nat) (fr tt:Int) (G:List Ex) (S:List xG) (v:Value) (wr:World):Prop where
 bB:W2.heap.size<=b
 blk:∃a c,wr.heap[b]? = some (.cells #[.int .i64 fr,.int .i64 tt,v,.slice a S.length c] 77 (0,0))/\bdE.In (World.hide wr (hid (λj=>p j||j==b) v)) S a c
 own:exE.Own 24 (λj=>p j||j==b) wr W2.heap.size v G
 bel:Below W2.heap.size W2 wr
def BehC (p:Nat->Bool) (W2:World) (fr tt:Int) (G:List Ex) (S:List xG) (s7:Value) (wr:World):Prop:=∃b v,s7=.pointer (some ⟨b,0,none⟩)/\qo p W2 b fr tt G S v wr
theorem zfm {τ:Type} {E:Enc τ} {t:TypeId} {p:Nat->Bool} {w:World} {B B':Nat} {v:Value} {l:List τ} (h:E.Own t p w B v l) (hB:B'<=B):E.Own t p w B' v l:=by obtain⟨xs,h1,h2⟩:=h;refine⟨xs,⟨h1.1,h1.2.imp id ?_⟩,h2⟩;rintro ⟨g,cap,cur,q1,q2,q3⟩;exact⟨g,cap,cur,q1,by omega,q3⟩
def ZG (p:Nat->Bool) (W2 W:World):Nat->Bool:=λj=>p j||(decide (W2.heap.size<=j)&&decide (j<W.heap.size))
theorem qD {p:Nat->Bool} {W2 W:World} {j:Nat}:ZG p W2 W j=true<->p j=true\/(W2.heap.size<=j/\j<W.heap.size):=by simp[ZG]
theorem zcI {p:Nat->Bool} {W2 W:World} (h:Below W2.heap.size W2 W):Kp (World.hide W2 p) (World.hide W (ZG p W2 W)):=zg h λk hk hq=>(qD.1 hq).elim id λh=>by omega
theorem ze1 {w w':World} {b:Nat} {s t:Nat->Bool} (h:w.grownBy w' (some b)) (hb:b<w.heap.size->s b=true) (ht:∀k,k<w.heap.size->t k=true->s k=true):Kp (World.hide w s) (World.hide w' t):=by
 intro a v ha;obtain⟨h1,h2⟩:=zr.1 ha;have hlt:=xV h2;have hne:a.block≠b:=λe=>by have:=hb (by rw[←e];exact hlt);rw[←e,h1]at this;simp at this
 refine zr.2 ⟨?_,by rw[World.cell?_of_block (h.block _ hlt (λe=>hne (Option.some.inj e)))];exact h2⟩;cases e:t a.block with
 |false=>rfl
 |true=>have:=ht _ hlt e;rw[h1]at this;simp at this
theorem zep {p:Nat->Bool} {W2 W v1 V v2 wx:World} {fr tt:Int} {G:List Ex} {S:List xG} {va vs:Value} {b:Nat} (hp:∀j,p j=true->j<W2.heap.size) (hW:Below W2.heap.size W2 W) (hO:exE.Own 24 (ZG p W2 W) v1 W.heap.size va G) (h1:Below W.heap.size W v1)
 (hV:Below v1.heap.size v1 V) (hS:bdE.Own 80 (ZG p W2 V) v2 V.heap.size vs S) (hSl:S.length<=1073741824) (h2:Below V.heap.size V v2) (hx:v2.grownBy wx (some b)) (hb:W2.heap.size<=b) (hb1:b<W.heap.size\/v1.heap.size<=b) (hb2:b<V.heap.size\/v2.heap.size<=b) (hblk:wx.heap[b]? = some (.cells #[.int .i64 fr,.int .i64 tt,va,vs] 77 (0,0))) (s7:Value) (hs7:s7=.pointer (some ⟨b,0,none⟩)):BehC p W2 fr tt G S s7 wx:=by
 subst hs7;have hz0:=hW.size;have hz1:=h1.size;have hzV:=hV.size;have hz2:=h2.size;have hzx:=hx.size;have hlO:=zq hO;have hlS:=zq hS;have hv12:Below v1.heap.size v1 v2:=hV.trans (h2.mono hzV);have hbO:∀j,va.ownBlock=some j->j≠b:=λj hj e=>by have:=hlO j hj;omega
 have hbS:∀j,vs.ownBlock=some j->j≠b:=λj hj e=>by have:=hlS j hj;omega
 refine⟨b,va,rfl,hb,?_,?_,?_⟩
 ·obtain⟨xs,q1,q2⟩:=hS;have q3:=q1.kept hx (by
   cases e:vs.ownBlock with
   |none=>exact Or.inl rfl
   |some k=>exact Or.inr λe2=>hbS k e (Option.some.inj e2))
  obtain⟨a,c,rfl,hs⟩:=y6 q3 hSl;refine⟨a,c,hblk,hs.1,hs.2.1,hs.2.2.imp id ?_⟩;rintro ⟨k,off,rfl,hq⟩;have hk:=hlS k rfl;have hkb:=hbS k rfl;refine⟨k,off,rfl,λi hi=>?_⟩;obtain⟨ws,h3,h4⟩:=q2.2 i hi;have hkp:Kp (World.hide v2 (hid (ZG p W2 V) (.slice (some ⟨k,off,none⟩) S.length c))) (World.hide wx (hid (λj=>p j||j==b) va)):=ze1 hx (λhlt=>ze.2 (Or.inl (qD.2 (Or.inr ⟨hb,by omega⟩)))) λj hj hqj=>by
   refine ze.2 (Or.inl (qD.2 ?_));rcases ze.1 hqj with h5|h5
   ·simp only[Bool.or_eq_true,beq_iff_eq]at h5;rcases h5 with h5|rfl
    ·exact Or.inl h5
    ·exact Or.inr ⟨hb,by omega⟩
   ·have:=hlO j h5;exact Or.inr ⟨by omega,by omega⟩
  refine⟨_,List.getElem?_eq_getElem hi,ws,bdE.keep hkp h3,λj u hu=>?_⟩;refine zr.2 ⟨?_,(hq i hi j (by have:=bdE.len h3;have:=(List.getElem?_eq_some_iff.1 hu).1;omega)).trans (h4 j u hu)⟩;cases e:hid (λj=>p j||j==b) va k with
  |false=>rfl
  |true =>
   rcases ze.1 e with h5|h5
   ·simp only[Bool.or_eq_true,beq_iff_eq]at h5;rcases h5 with h5|h5
    ·have:=hp k h5;omega
    ·exact absurd h5 hkb
   ·have:=hlO k h5;omega
 ·obtain⟨xs,q1,q2⟩:=hO;have q3:=(ownsRow_below q1 hv12).kept hx (by
   cases e:va.ownBlock with
   |none=>exact Or.inl rfl
   |some k=>exact Or.inr λe2=>hbO k e (Option.some.inj e2))
  have hx1:v1.grownBy wx (some b):=⟨hx.os.trans hv12.os,hx.tape.trans hv12.tape,hx.output.trans hv12.output,Nat.le_trans hv12.size hx.size,λk hk hn=>(hx.block k (Nat.lt_of_lt_of_le hk hv12.size) hn).trans (hv12.block k hk)⟩;refine zfm (B:=W.heap.size) ⟨xs,q3,q2.keep (ze1 hx1 (λhlt=>ze.2 (Or.inl (qD.2 (Or.inr ⟨hb,by omega⟩)))) λj hj hqj=>?_)⟩ hz0;rcases ze.1 hqj with h5|h5
  ·simp only[Bool.or_eq_true,beq_iff_eq]at h5;refine ze.2 (Or.inl (qD.2 ?_));rcases h5 with h5|rfl
   ·exact Or.inl h5
   ·exact Or.inr ⟨hb,by omega⟩
  ·exact ze.2 (Or.inr h5)
 ·exact(hW.trans ((h1.trans (hv12.mono hz1)).mono hz0)).grown hx (by omega) λk hk=>by rw[←Option.some.inj hk];exact hb
theorem zfo {τ:Type} {E:Enc τ} {t:TypeId} {q:Nat->Bool} {k o:Nat} {w:World} {B:Nat} {l:List τ} {v u:Value} (hq:q k=true) (hne:some k≠v.ownBlock) (h:E.Own t q w B v l):E.Own t q (w.setCell ⟨k,o,none⟩ u) B v l:=by obtain⟨xs,h1,h2⟩:=h;exact⟨xs,ownsRow_setCell_other h1 (λe=>hne e.symm) u,h2.keep (zj (ze.2 (Or.inl hq)))⟩
section
variable {p : Nat → Bool} {W2 wr wq w' : World} {b : Nat} {fr tt : Int} {G : List Ex} {S : List xG} {v : Value}
theorem qo.below (h:qo p W2 b fr tt G S v wr) (hb:Below wr.heap.size wr wq):qo p W2 b fr tt G S v wq:=by obtain⟨a,c,h1,h2⟩:=h.blk;exact⟨h.bB,⟨a,c,(hb.block b (lt_of_block h1)).trans h1,h2.keep (zg hb λ_ _ h=>h)⟩,h.own.below hb,h.bel.trans (hb.mono h.bel.size)⟩
theorem qo.blt (h:qo p W2 b fr tt G S v wr):b<wr.heap.size:=by obtain⟨a,c,h1,_⟩:=h.blk;exact lt_of_block h1
theorem qo.bne (h:qo p W2 b fr tt G S v wr):some b≠v.ownBlock:=by obtain⟨a,c,h1,_⟩:=h.blk;obtain⟨xs,h2,_⟩:=h.own;exact zv h2 h1 (by decide)
theorem qo.add (h:qo p W2 b fr tt G S v wr) {g n cap:Nat} {e:Ex} (hO:exE.Own 24 (λj=>p j||j==b) w' W2.heap.size (.slice (some ⟨g,0,none⟩) n cap) (G++[e])) (hg:wr.grownBy w' v.ownBlock) (hat:v.ownBlock=some g\/wr.heap.size<g) :
 qo p W2 b fr tt (G++[e]) S (.slice (some ⟨g,0,none⟩) n cap) (w'.setCell ⟨b,2,none⟩ (.slice (some ⟨g,0,none⟩) n cap)):=by
 obtain⟨a,c,h1,h2⟩:=h.blk;have hb:=h.blt;have hgb:b≠g:=by
  rcases hat with e|e
  ·exact λe2=>h.bne (by rw[e,e2])
  ·omega
 have h3:w'.heap[b]? = some (.cells #[.int .i64 fr,.int .i64 tt,v,.slice a S.length c] 77 (0,0)):=(hg.block b hb h.bne).trans h1;have hqb:(λj=>p j||j==b) b=true:=by simp
 refine⟨h.bB,⟨a,c,?_,?_⟩,zfo hqb (λe=>hgb (Option.some.inj e)) hO,?_⟩
 ·rw[heap_setCell_same _ b 2 _ _ _ h3];rfl
 ·refine h2.keep (Kp.trans (yE hg (λk hk=>ze.2 (Or.inr hk)) λk hk hq=>?_) (zj (ze.2 (Or.inl hqb))));rcases ze.1 hq with e|e
  ·exact ze.2 (Or.inl e)
  ·have e2:=Option.some.inj e;simp only at e2;subst e2;rcases hat with e3|e3
   ·exact ze.2 (Or.inr e3)
   ·omega
 ·refine Below.setCell (h.bel.grown hg h.bel.size λk hk=>?_) h.bB _;exact(zq h.own k hk).1
end
theorem ziN {p q:Prop} (h:p) (k:p->q):q:=k h
theorem xP {X:World} {o:Obj} {b:Nat} (h:X.heap[b]? = some o):X.drew.heap[b]? = some o:=h
theorem zh8 {X X':World} {o:Obj} {b:Nat} (hb:Below X.heap.size X X') (h:X.heap[b]? = some o):X'.heap[b]? = some o:=(hb.block b (lt_of_block h)).trans h
theorem qu {w:World} {b:Nat} {z0 z1 z2 z3:Value} {t:TypeId} (h:w.heap[b]? = some (.cells #[z0,z1,z2,z3] t (0,0))):w.cell? ⟨b,0,none⟩=some z0/\w.cell? ⟨b,1,none⟩=some z1/\w.cell? ⟨b,2,none⟩=some z2/\w.cell? ⟨b,3,none⟩=some z3/\∀o,w.frozen? ⟨b,o,none⟩=false:=by
 refine⟨?_,?_,?_,?_,λo=>?_⟩
 ·rw[zb h];rfl
 ·rw[zb h];rfl
 ·rw[zb h];rfl
 ·rw[zb h];rfl
 ·simp[World.frozen?,h]
theorem Xz {w:World} {b:Nat} (u0 u1 u2 u3:Value):w.grownBy ((((w.setCell ⟨b,0,none⟩ u0).setCell ⟨b,1,none⟩ u1).setCell ⟨b,2,none⟩ u2).setCell ⟨b,3,none⟩ u3) (some b):=by refine⟨rfl,rfl,rfl,by simp,λk hk hn=>?_⟩;have hne:k≠b:=λe=>hn (by rw[e]);rw[Below.heap_setCell _ _ _ _ hne,Below.heap_setCell _ _ _ _ hne,Below.heap_setCell _ _ _ _ hne,Below.heap_setCell _ _ _ _ hne]
theorem zbH {w w':World} {row:Option Nat} (h:Below w.heap.size w w'):w.grownBy w' row:=⟨h.os,h.tape,h.output,h.size,λk hk _=>h.block k hk⟩
theorem qo.facts {p:Nat->Bool} {W2 wr:World} {b:Nat} {fr tt:Int} {G:List Ex} {S:List xG} {v:Value} (h:qo p W2 b fr tt G S v wr) {n:Nat} (hG:G.length=n) (hn:n<=1073741824) :
 ∃va vc,v=.slice va n vc/\wr.cell? ⟨b,2,none⟩=some (.slice va n vc)/\wr.frozen? ⟨b,2,none⟩=false/\b<wr.heap.size/\W2.heap.size<=wr.heap.size:=by
 subst hG;obtain⟨sa,sc,hbk,_⟩:=h.blk;obtain⟨va,vc,hva,_⟩:=h.own.slice hn;subst hva;obtain⟨d0,d1,d2,d3,df⟩:=qu hbk;exact⟨va,vc,rfl,d2,df 2,lt_of_block hbk,h.bel.size⟩
theorem zgn {p:Nat->Bool} {b c:Nat} {v:Value} {w:World} {cur:Ex} {a:Option Addr} {cap:Nat} (h:yA (World.hide w (hid (λj=>p j||j==b||j==c) v)) cur a cap):exR (World.hide w (hid (λj=>p j||j==b) v)) cur [.int .i64 cur.op,.int .i64 cur.n,.string cur.name,.slice a cur.args.length cap] :=
 ⟨a,cap,rfl,h.keep (zB λj hj=>by
  rcases ze.1 hj with h5|h5
  ·simp only[Bool.or_eq_true]at h5;exact ze.2 (Or.inl (by simp only[Bool.or_eq_true];exact Or.inl h5))
  ·exact ze.2 (Or.inr h5))⟩
theorem zi3 (fn:Func) (c:Nat) (hr:fn.results=#[.cell c 77]) (W:World) (tm:Array Value) (b:Nat) (m0 m1 m2 m3:Value) (hW:W.heap[b]? = some (.cells #[m0,m1,m2,m3] 77 (0,0))) (h0:tm.getD c undef=.pointer (some ⟨b,0,none⟩)) :
 (results fn tm).run Tryz.prog W=.ok (.agg #[m0,m1,m2,m3]) W:=by
 have c0:=zb hW 0;have c1:=zb hW 1;have c2:=zb hW 2;have c3:=zb hW 3;simp at c0 c1 c2 c3;rw[ym hr,h0];simp[asAddr];go_simp
def CutX (q:Nat->Bool) (wt:World) (cur:Ex) (a:Option Addr) (c:Nat) (wx:World):Prop:=wx.heap[wt.heap.size]? = some (.cells #[.int .i64 cur.op,.int .i64 cur.n,.string cur.name,.slice a cur.args.length c] 24 (0,0))/\yA (World.hide wx q) cur a c/\Below wt.heap.size wt wx
theorem zhY {q:Nat->Bool} {wt w5 w5' w7:World} {cur:Ex} {a:Option Addr} {c:Nat} (hX:yA (World.hide w7 (old w5'.heap.size)) cur a c) (hb5:Below wt.heap.size wt w5) (he:w5'.heap=w5.heap) (hb:Below w5'.heap.size w5' w7) (hd:Below w5.heap.size w5 w5') (hq:∀j,q j=true->j<w5.heap.size) (hqw:q wt.heap.size=true) {z0 z1 z2 z3:Value}
 (hx:w7.heap[wt.heap.size]? = some (.cells #[z0,z1,z2,z3] 24 (0,0))) :
 CutX q wt cur a c ((((w7.setCell ⟨wt.heap.size,0,none⟩ (.int .i64 cur.op)).setCell ⟨wt.heap.size,1,none⟩ (.int .i64 cur.n)).setCell ⟨wt.heap.size,2,none⟩ (.string cur.name)).setCell ⟨wt.heap.size,3,none⟩ (.slice a cur.args.length c)):=by
 have hsz:w5'.heap.size=w5.heap.size:=by rw[he]
 refine⟨YX hx,hX.keep (Kp.trans (zB λj hj=>zH.2 (by rw[hsz];exact hq j hj)) (ze1 (Xz _ _ _ _) (λ_=>hqw) λ_ _ h=>h)),?_⟩;refine(hb5.trans ((hd.trans (hb.mono (by rw[hsz];exact Nat.le_refl _))).mono hb5.size)).grown (Xz _ _ _ _) ?_ ?_
 ·have:=hb.size;have:=hb5.size;omega
 ·intro j hj;have:=Option.some.inj hj;omega
theorem zc2 (p:Nat->Bool) (x y:zk) (ag:Option Addr) (cg:Nat) (aS:Option Addr) (cs:Nat) (bg:Option Addr) (dg:Nat) (bs:Option Addr) (ds:Nat) (tt:Int) (w:World) (hp:∀j,p j=true->j<w.heap.size)
 (hx1:exE.In (World.hide w p) x.guards ag cg) (hx2:bdE.In (World.hide w p) x.sets aS cs) (hy1:exE.In (World.hide w p) y.guards bg dg) (hy2:bdE.In (World.hide w p) y.sets bs ds)
 (hgy:∀g∈y.guards,g.nodes.length<=400) (hsx:∀b∈x.sets,b.expr.nodes.length<=400) (hl1:x.guards.length+y.guards.length<=1000000) (hl2:x.sets.length+y.sets.length<=1000000) :
 Calls Tryz.prog 149 #[yX x ag cg aS cs,yX y bg dg bs ds,.int .i64 tt] w (zbs p (zQ x y tt) w):=by
 have HX1:=Lib.hid hx1;have HX2:=Lib.hid hx2;have HY1:=Lib.hid hy1;have HY2:=Lib.hid hy2;have Hp:=Lib.hid hp;have HSx:=Lib.hid hsx;have HGy:=Lib.hid hgy;have hlx:=hx1.len;have hly:=hy1.len;have hlsx:=hx2.len;have hlsy:=hy2.len
 have HPo:Hid (∀(a:Option Addr) (c:Nat) (a2:Option Addr) (c2:Nat) W,exE.In (World.hide W p) (x.guards++y.guards.map (xL x.sets x.sets.length)) a c->bdE.In (World.hide W p) (x.sets++y.sets) a2 c2->Below w.heap.size w W ->
  zbs p (zQ x y tt) w (.returned (.agg #[.int .i64 x.fr,.int .i64 tt,.slice a (x.guards++y.guards.map (xL x.sets x.sets.length)).length c,.slice a2 (x.sets++y.sets).length c2])) W):=λa c a2 c2 W h1 h2 h3=>⟨⟨a,c,a2,c2,rfl,h1,h2⟩,h3⟩
 clear hx1 hx2 hy1 hy2 hp hsx hgy;generalize zbs p (zQ x y tt) w=Po at HPo⊢;obtain⟨xf,xt,xg,xs⟩:=x;obtain⟨yf,yt,yg,ys⟩:=y;unfold yX;simp only at HX1 HX2 HY1 HY2 HSx HGy hlx hly hlsx hlsy hl1 hl2 HPo⊢;go_enter Tryz.func149, Tryz.ntmps149;go_wp2_with fail;generalize hW2:((w.alloc (.cells #[.int .i64 xf,.int .i64 xt,.slice ag xg.length cg,.slice aS xs.length cs] 77)).alloc (.cells #[.int .i64 yf,.int .i64 yt,.slice bg yg.length dg,.slice bs ys.length ds] 77)).alloc (.cells #[.int .i64 0,.int .i64 0,.slice none 0 0,.slice none 0 0] 77)=W2;have HB2:Hid (Below w.heap.size w W2):=by show Below _ _ _;rw[←hW2];exact zW
 have HBx:Hid (W2.heap[w.heap.size]? = some (.cells #[.int .i64 xf,.int .i64 xt,.slice ag xg.length cg,.slice aS xs.length cs] 77 (0,0))):=by show _=_;rw[←hW2];exact zl (zl (zh rfl))
 have HBy:Hid (W2.heap[w.heap.size+1]? = some (.cells #[.int .i64 yf,.int .i64 yt,.slice bg yg.length dg,.slice bs ys.length ds] 77 (0,0))):=by show _=_;rw[←hW2];exact zl (zh (by simp))
 have HBr:Hid (W2.heap[w.heap.size+2]? = some (.cells #[.int .i64 0,.int .i64 0,.slice none 0 0,.slice none 0 0] 77 (0,0))):=by show _=_;rw[←hW2];exact zh (by simp)
 have hz2:w.heap.size+3<=W2.heap.size:=by rw[←hW2];simp
 clear hW2;obtain⟨p',hp'⟩:∃p':Nat->Bool,(λj=>p j||j==w.heap.size+2)=p':=⟨_,rfl⟩;have HP1:Hid (∀j,p' j=true<->p j=true\/j=w.heap.size+2):=λj=>by rw[←hp'];simp
 clear hp';have HP2:Hid (∀j,p' j=true->j<W2.heap.size):=λj hj=>((HP1.out j).1 hj).elim (λh=>by have:=Hp.out j h;omega) λh=>by omega
 have HP3:Hid (∀j,j<w.heap.size->p' j=true->p j=true):=λj hj h=>((HP1.out j).1 h).elim id λe=>by omega
 have HALL:Hid (∀w',Below W2.heap.size W2 w'->w'.cell? ⟨w.heap.size,0,none⟩=some (.int .i64 xf)/\w'.cell? ⟨w.heap.size,2,none⟩=some (.slice ag xg.length cg)/\w'.cell? ⟨w.heap.size,3,none⟩=some (.slice aS xs.length cs)/\w'.cell? ⟨w.heap.size+1,3,none⟩=some (.slice bs ys.length ds)):=λw' h=>by have e1:=(h.block w.heap.size (by omega)).trans HBx.out;have e2:=(h.block (w.heap.size+1) (by omega)).trans HBy.out;have a0:=zb e1 0;have a2:=zb e1 2;have a3:=zb e1 3;have b3:=zb e2 3;simp at a0 a2 a3 b3;exact⟨a0,a2,a3,b3⟩
 obtain⟨a0,a2,a3,b3⟩:=HALL.out W2 (Below.refl _ _);have HCl:Hid (∀W,Below W2.heap.size W2 W->Calls Tryz.prog 156 #[.slice ag xg.length cg] W λe w'=>(∃a c,e=.returned (.slice a xg.length c)/\exE.Own 24 (ZG p' W2 W) w' W.heap.size (.slice a xg.length c) xg)/\Below W.heap.size W w'/\Below W2.heap.size W2 w'):=λW hW=>by refine(zhW (ZG p' W2 W) xg ag cg W (HX1.out.keep (Kp.trans (zg HB2.out HP3.out) (zcI hW)))).mono ?_;rintro e w' ⟨⟨v,rfl,h1⟩,h2⟩;obtain⟨a,c,rfl,_⟩:=h1.slice hlx;exact⟨⟨a,c,rfl,h1⟩,h2,hW.trans (h2.mono hW.size)⟩
 have HCo:Hid (∀W bo,Below W2.heap.size W2 W->W.heap[bo]? = some (.cells #[.slice aS xs.length cs,.slice bs ys.length ds] 75 (0,0))->Calls Tryz.prog 218 #[.slice (some ⟨bo,0,none⟩) 2 2] W λe w'=>(∃a c,e=.returned (.slice a (xs.length+ys.length) c)/\bdE.Own 80 (ZG p' W2 W) w' W.heap.size (.slice a (xs.length+ys.length) c) (xs++ys))/\Below W.heap.size W w'/\Below W2.heap.size W2 w'):=λW bo hW hbo=>by have c0:=zb hbo 0;have c1:=zb hbo 1;simp at c0 c1;have hkk:=Kp.trans (zg (p:=p) (q:=p') HB2.out HP3.out) (zcI hW);refine(zge (ZG p' W2 W) xs ys aS bs cs ds bo W c0 c1 (HX2.out.keep hkk) (HY2.out.keep hkk) (by rw[List.length_append];omega)).mono ?_;rintro e w' ⟨⟨v,rfl,h1⟩,h2⟩;obtain⟨a,c,hv,_⟩:=h1.slice (by rw[List.length_append];omega);rw[List.length_append]at hv;subst hv;exact⟨⟨a,c,rfl,h1⟩,h2,hW.trans (h2.mono hW.size)⟩
 go_cut [7] from 24 (λs wx=>BehC p' W2 xf tt xg (xs++ys) s wx);case first =>
  go_region_held3 (λw'=>Below W2.heap.size W2 w'/\w'.cell? ⟨w.heap.size,0,none⟩=some (.int .i64 xf)/\w'.cell? ⟨w.heap.size,2,none⟩=some (.slice ag xg.length cg)/\w'.cell? ⟨w.heap.size,3,none⟩=some (.slice aS xs.length cs)/\w'.cell? ⟨w.heap.size+1,3,none⟩=some (.slice bs ys.length ds))
   ((refine(λh=>⟨h,HALL.out _ h⟩) ?_;first|with_reducible assumption|exact zW))
   (first
    |(go_at_call 156;(with_reducible refine(HCl.out _ (by first|with_reducible assumption|exact zW)).mono ?_);rintro e v1 ⟨⟨a1,k1,rfl,hc1⟩,hb1,hB1⟩;have hy1:=hb1.size;have hs1:=hB1.size;have HC1:=Lib.hid hc1;clear hc1;(try (refine ziN (p:=v1.heap[W2.heap.size]? = some (.cells #[.int .i64 0,.int .i64 0,.slice none 0 0,.slice none 0 0] 77 (0,0))) ?pr (λh6=>?_);(case pr=>iterate 9 (first|done|assumption|with_reducible exact zh rfl|(with_reducible refine zh ?_;(first|(simp only[World.size_alloc,World.size_drew];done)|rfl))|with_reducible refine zl ?_|with_reducible refine xP ?_|with_reducible refine zh8 hb1 ?_))));(try (refine ziN (p:=v1.heap[W2.heap.size+1]? = some (.cells #[.int .i64 0,.int .i64 0,.slice none 0 0,.slice none 0 0] 77 (0,0))) ?pr (λh6=>?_);(case pr=>iterate 9 (first|done|assumption|with_reducible exact zh rfl|(with_reducible refine zh ?_;(first|(simp only[World.size_alloc,World.size_drew];done)|rfl))|with_reducible refine zl ?_|with_reducible refine xP ?_|with_reducible refine zh8 hb1 ?_)))))
    |(go_at_call 218;(with_reducible refine(HCo.out _ _ (by first|with_reducible assumption|exact zW) ?hbo).mono ?_);(case hbo=>iterate 9 (first|done|assumption|with_reducible exact zh rfl|(with_reducible refine zh ?_;(first|(simp only[World.size_alloc,World.size_drew];done)|rfl))|with_reducible refine zl ?_|with_reducible refine xP ?_|with_reducible refine zh8 hb1 ?_));rintro e v2 ⟨⟨a2,k2,rfl,hc2⟩,hb2,hB2⟩;have hy2:=hb2.size;have hs2:=hB2.size;have HC2:=Lib.hid hc2;clear hc2;(try (refine ziN (p:=v2.heap[W2.heap.size]? = some (.cells #[.int .i64 0,.int .i64 0,.slice none 0 0,.slice none 0 0] 77 (0,0))) ?pr (λh7=>?_);(case pr=>iterate 9 (first|done|assumption|with_reducible exact zh rfl|(with_reducible refine zh ?_;(first|(simp only[World.size_alloc,World.size_drew];done)|rfl))|with_reducible refine zl ?_|with_reducible refine xP ?_|with_reducible refine zh8 hb2 ?_));obtain⟨g0,g1,g2,g3,gf⟩:=qu h7;have hbk:W2.heap.size<v2.heap.size:=lt_of_block h7));(try (refine ziN (p:=v2.heap[W2.heap.size+1]? = some (.cells #[.int .i64 0,.int .i64 0,.slice none 0 0,.slice none 0 0] 77 (0,0))) ?pr (λh7=>?_);(case pr=>iterate 9 (first|done|assumption|with_reducible exact zh rfl|(with_reducible refine zh ?_;(first|(simp only[World.size_alloc,World.size_drew];done)|rfl))|with_reducible refine zl ?_|with_reducible refine xP ?_|with_reducible refine zh8 hb2 ?_));obtain⟨g0,g1,g2,g3,gf⟩:=qu h7;have hbk:W2.heap.size+1<v2.heap.size:=lt_of_block h7));(try (refine ziN (p:=v2.heap[v1.heap.size]? = some (.cells #[.int .i64 0,.int .i64 0,.slice none 0 0,.slice none 0 0] 77 (0,0))) ?pr (λh7=>?_);(case pr=>iterate 9 (first|done|assumption|with_reducible exact zh rfl|(with_reducible refine zh ?_;(first|(simp only[World.size_alloc,World.size_drew];done)|rfl))|with_reducible refine zl ?_|with_reducible refine xP ?_|with_reducible refine zh8 hb2 ?_));obtain⟨g0,g1,g2,g3,gf⟩:=qu h7;have hbk:v1.heap.size<v2.heap.size:=lt_of_block h7));(try (refine ziN (p:=v2.heap[v1.heap.size+1]? = some (.cells #[.int .i64 0,.int .i64 0,.slice none 0 0,.slice none 0 0] 77 (0,0))) ?pr (λh7=>?_);(case pr=>iterate 9 (first|done|assumption|with_reducible exact zh rfl|(with_reducible refine zh ?_;(first|(simp only[World.size_alloc,World.size_drew];done)|rfl))|with_reducible refine zl ?_|with_reducible refine xP ?_|with_reducible refine zh8 hb2 ?_));obtain⟨g0,g1,g2,g3,gf⟩:=qu h7;have hbk:v1.heap.size+1<v2.heap.size:=lt_of_block h7))))
  all_goals (go_wp2_with fail;go_meet)
  all_goals
   have hHp:∀j,p' j=true->j<W2.heap.size:=HP2.out;have hsl:(xs++ys).length<=1073741824:=by rw[List.length_append];omega
  all_goals first
   |(
    refine zep hHp ?p0 HC1.out hb1 ?p1 HC2.out hsl hb2 (Xz _ _ _ _) ?q0 ?q1 ?q2 (YX h7) _ rfl;case p0=>exact zW
    case p1=>exact zW
    case q0=>(first|omega|(simp only[World.size_alloc,World.size_drew];omega)|(simp only[World.size_alloc,World.size_drew]at *;omega))
    case q1=>first|(left;(first|omega|(simp only[World.size_alloc,World.size_drew];omega)|(simp only[World.size_alloc,World.size_drew]at *;omega)))|(right;(first|omega|(simp only[World.size_alloc,World.size_drew];omega)|(simp only[World.size_alloc,World.size_drew]at *;omega)))
    case q2=>first|(left;(first|omega|(simp only[World.size_alloc,World.size_drew];omega)|(simp only[World.size_alloc,World.size_drew]at *;omega)))|(right;(first|omega|(simp only[World.size_alloc,World.size_drew];omega)|(simp only[World.size_alloc,World.size_drew]at *;omega))))
   |(
    refine zep hHp ?p0 HC1.out hb1 ?p1 HC2.out hsl hb2 ?p2 ?q0 ?q1 ?q2 (zh rfl) _ rfl;case p0=>exact zW
    case p1=>exact zW
    case p2=>exact zbH zW
    case q0=>(first|omega|(simp only[World.size_alloc,World.size_drew];omega)|(simp only[World.size_alloc,World.size_drew]at *;omega))
    case q1=>first|(left;(first|omega|(simp only[World.size_alloc,World.size_drew];omega)|(simp only[World.size_alloc,World.size_drew]at *;omega)))|(right;(first|omega|(simp only[World.size_alloc,World.size_drew];omega)|(simp only[World.size_alloc,World.size_drew]at *;omega)))
    case q2=>first|(left;(first|omega|(simp only[World.size_alloc,World.size_drew];omega)|(simp only[World.size_alloc,World.size_drew]at *;omega)))|(right;(first|omega|(simp only[World.size_alloc,World.size_drew];omega)|(simp only[World.size_alloc,World.size_drew]at *;omega))))
 case rest =>
  obtain⟨b,v,rfl,hSt⟩:=hcut;have HSt:=Lib.hid hSt;have hbW:=hSt.bB;have e2:=(hSt.bel.block (w.heap.size+1) (by omega)).trans HBy.out;have y2:=zb e2 2;simp at y2;have HYA:Hid (yg.length=0\/∃b off,bg=some ⟨b,off,none⟩):=HY1.out.addr;clear hSt HCl HCo HALL a0 a2 a3 b3 e2;go_wp2_with fail;clear y2;go_loopw [27,9,10] (λi _ _ wr=>∃(k:Nat) (v:Value),i=.int .i64 k/\k<=yg.length/\Hid (qo p' W2 b xf tt (xg++(yg.take k).map (xL xs xs.length)) (xs++ys) v wr)) (λi _ _ _=>yg.length-(intOf i).toNat);case atStart=>exact⟨0,v,rfl,Nat.zero_le _,by simpa using HSt⟩
  case round =>
   clear HSt;obtain⟨k,v,rfl,hk,HSt⟩:=hrel;rename World=>wt;obtain⟨GK,HGK⟩:∃GK,Hid (xg++(yg.take k).map (xL xs xs.length)=GK):=⟨_,rfl⟩;have HSt0:=HSt;clear HSt;have HSt:Hid (qo p' W2 b xf tt GK (xs++ys) v wt):=by show qo _ _ _ _ _ _ _ _ _;rw[←HGK.out];exact HSt0.out
   have hGl:GK.length=xg.length+k:=by rw[←HGK.out,List.length_append,List.length_map,List.length_take];omega
   have HGl:=Lib.hid hGl;clear HSt0 hGl;have HBw:Hid (Below w.heap.size w wt):=HB2.out.trans (HSt.out.bel.mono (by omega));have hzr:=HSt.out.bel.size;by_cases hlt:k<yg.length
   ·obtain⟨by1,oy,hya⟩:=HYA.out.resolve_left (by omega);subst hya;obtain⟨ga,gc,q0,q1,q2,q3,hgX⟩:=Zc HY1.out rfl hlt;have kk:Kp (World.hide w p) wt:=λa u h=>za HBw.out _ _ (zc _ _ h);have c0:=kk _ _ q0;have c1:=kk _ _ q1;have c2:=kk _ _ q2;have c3:=kk _ _ q3;have HgN:=HGy.out _ (List.getElem_mem hlt);have HTk:Hid (xg++(yg.take (k+1)).map (xL xs xs.length)=GK++[xL xs xs.length (yg[k]'hlt)]):=by
     show _=_;rw[←HGK.out,List.take_succ_eq_append_getElem hlt,List.map_append,List.append_assoc];rfl
    have hex:=(HSt.out.bel.block w.heap.size (by omega)).trans HBx.out;have x3:=zb hex 3;simp at x3;have x3o:∀o,(wt.alloc o).cell? ⟨w.heap.size,3,none⟩=some (.slice aS xs.length cs):=λo=>Lib.cell?_alloc_some _ x3;have HgX:Hid (yA (World.hide wt (hid (λj=>p' j||j==b) v)) (yg[k]'hlt) ga gc):=hgX.keep (zg HBw.out λj hj hq=>by
     rcases ze.1 hq with h5|h5
     ·simp only[Bool.or_eq_true,beq_iff_eq]at h5;rcases h5 with h5|h5
      ·exact HP3.out j hj h5
      ·omega
     ·have:=(zq HSt.out.own j h5).1;omega)
    clear q0 q1 q2 q3 kk hgX;generalize (yg[k]'hlt)=y at c0 c1 c2 c3 HgN HTk HgX;go_wp2_with fail;generalize hW4:wt.alloc (.cells #[.int .i64 y.op,.int .i64 y.n,.string y.name,.slice ga y.args.length gc] 24)=W4;have hbx0:W4.heap[wt.heap.size]? = some (.cells #[.int .i64 y.op,.int .i64 y.n,.string y.name,.slice ga y.args.length gc] 24 (0,0)):=by rw[←hW4];exact zh rfl
    have HB4:Hid (Below wt.heap.size wt W4):=by show Below _ _ _;rw[←hW4];exact(Below.refl _ _).alloc (Nat.le_refl _) _
    have hz4:wt.heap.size<W4.heap.size:=by rw[←hW4];simp
    have HQ4:Hid (yA (World.hide W4 (hid (λj=>p' j||j==b||j==wt.heap.size) v)) y ga gc):=HgX.out.keep (zg HB4.out λj hj hq=>by
     rcases ze.1 hq with h5|h5
     ·simp only[Bool.or_eq_true,beq_iff_eq]at h5;rcases h5 with h5|h5
      ·exact ze.2 (Or.inl (by simpa using h5))
      ·omega
     ·exact ze.2 (Or.inr h5))
    clear hW4 x3o c0 c1 c2 c3 HgX;have hxl:((xs.length:Int)-1=(xs.length:Int)-1):=rfl;go_loopw [10] (λi wq=>∃(m:Nat) (cur:Ex) (a:Option Addr) (c:Nat),i=.int .i64 ((m:Int)-1)/\m<=xs.length/\Hid (xL xs m cur=xL xs xs.length y)/\Hid (cur.nodes.length<=160000)/\Hid (wq.heap[wt.heap.size]? = some (.cells #[.int .i64 cur.op,.int .i64 cur.n,.string cur.name,.slice a cur.args.length c] 24 (0,0)))/\Hid (yA (World.hide wq (hid (λj=>p' j||j==b||j==wt.heap.size) v)) cur a c)/\Hid (Below wt.heap.size wt wq)) (λi _=>((intOf i)+1).toNat);case atStart=>exact⟨xs.length,y,ga,gc,rfl,Nat.le_refl _,rfl,Nat.le_trans HgN (by decide),hbx0,HQ4,HB4⟩
    case round =>
     obtain⟨m,cur,a,c,rfl,hm,HU,HN,HX,HC,HBq⟩:=hrel;have hzq:=HBq.out.size;have hxlt:=lt_of_block HX.out;by_cases hm0:m=0
     ·subst hm0;have HE:Hid (cur=xL xs xs.length y):=by show _=_;rw[←HU.out,zd2]
      have hneg:¬(0:Int)<=((0:Nat):Int)-1:=by omega
      have x3q:=(HBq.out.cell (p:=⟨w.heap.size,3,none⟩) (xV x3)).trans x3;obtain⟨e0,e1,e2,e3,ef⟩:=qu HX.out;have HSq:=Lib.hid (HSt.out.below HBq.out);obtain⟨sa,sc,hbk,_⟩:=HSq.out.blk;obtain⟨va,vc,hva,_⟩:=HSq.out.own.slice (by rw[HGl.out];omega);rw[HGl.out]at hva;subst hva;obtain⟨d0,d1,d2,d3,df⟩:=qu hbk;have df2:=df 2;have hblt:=lt_of_block hbk;have hbv:=HSq.out.bne;have d2o:∀o,(wr.alloc o).cell? ⟨b,2,none⟩=some (.slice va (xg.length+k) vc):=λo=>Lib.cell?_alloc_some _ d2;have df2o:∀o,(wr.alloc o).frozen? ⟨b,2,none⟩=false:=λo=>(World.frozen?_alloc_old _ _ _ (Nat.ne_of_lt hblt)).trans df2;have hzB:W2.heap.size<=wr.heap.size:=HSq.out.bel.size;have HRc:Hid (exR (World.hide wr (hid (λj=>p' j||j==b) (.slice va (xg.length+k) vc))) cur [.int .i64 cur.op,.int .i64 cur.n,.string cur.name,.slice a cur.args.length c]):=⟨a,c,rfl,HC.out.keep (zB λj hj=>by
       rcases ze.1 hj with h5|h5
       ·simp only[Bool.or_eq_true]at h5;exact ze.2 (Or.inl (by simp only[Bool.or_eq_true];exact Or.inl h5))
       ·exact ze.2 (Or.inr h5))⟩
      clear hbk df d0 d1 d3 ef;go_wp2_with (at_builtin;go_must (refine yr (E:=exE) Qm _ rfl (.tmp 59) (.tmp 61) rfl (λj=>p' j||j==b) W2.heap.size _ rfl HSq.out.own cur [.int .i64 cur.op,.int .i64 cur.n,.string cur.name,.slice a cur.args.length c] HRc.out _ _ rfl rfl (xg.length+k) HGl.out (by omega) hzB ?_));intro g cap w7 ho hg hat
      have g2:w7.cell? ⟨b,2,none⟩=some (.slice va (xg.length+k) vc):=(hg.cell_far ⟨b,2,none⟩ hblt hbv).trans d2;have gf2:w7.frozen? ⟨b,2,none⟩=false:=(hg.frozen_far ⟨b,2,none⟩ hblt hbv).trans df2;have HA9:=Lib.hid (HSq.out.add ho hg hat);clear ho hg hat d2o df2o d2 df2;go_wp2_with fail;have HA8:Hid (qo p' W2 b xf tt (xg++(yg.take (k+1)).map (xL xs xs.length)) (xs++ys) (.slice (some ⟨g,0,none⟩) (xg.length+k+1) cap) (w7.setCell ⟨b,2,none⟩ (.slice (some ⟨g,0,none⟩) (xg.length+k+1) cap))):=by show qo _ _ _ _ _ _ _ _ _;rw[HTk.out,←HE.out];exact HA9.out
      go_roundw;case rel=>exact⟨k+1,_,by go_num,by omega,HA8.out⟩
      case measure=>(simp[intOf];try omega)
     ·obtain⟨m',rfl⟩:∃m',m=m'+1:=⟨m-1,by omega⟩;have hi:((m'+1:Nat):Int)-1=(m':Int):=by omega
      rw[hi];have hpos:(0:Int)<=(m':Int):=by omega
      obtain⟨z0,z1,z2,z3,zf⟩:=qu HX.out;have HSz:Hid (∀W,Below wr.heap.size wr W->Calls Tryz.prog 173 #[.agg #[.int .i64 cur.op,.int .i64 cur.n,.string cur.name,.slice a cur.args.length c]] W λe w'=>e=.returned (.int .i64 (cur.nodes.length:Nat))/\Below W.heap.size W w'):=λW hW=>by have h:=HC.out.keep (λx u h=>za hW _ _ (zc _ _ h));have hn:=HN.out;obtain⟨o,n,t,l⟩:=cur;exact zcJ o n t l a c W h (by omega)
      by_cases hbig:cur.nodes.length<=400
      ·have hb2:((cur.nodes.length:Nat):Int)<=400:=by omega
       have hlt3:m'<xs.length:=by omega
       have HUn:Hid (xL xs m' (yU (xs[m']'hlt3).name (xs[m']'hlt3).expr cur)=xL xs xs.length y):=by show _=_;rw[←HU.out,zd1 hlt3 hbig]
       have HNn:Hid ((yU (xs[m']'hlt3).name (xs[m']'hlt3).expr cur).nodes.length<=160000):=Nat.le_trans (XJ _ _ _) (Nat.le_trans (Nat.mul_le_mul hbig (HSx.out _ (List.getElem_mem hlt3))) (by decide));have HXSA:Hid (xs.length=0\/∃b off,aS=some ⟨b,off,none⟩):=HX2.out.addr;obtain⟨bS,oS,haS⟩:=HXSA.out.resolve_left (by omega);subst haS;obtain⟨na,nc,q0,q1,q2,q3,q4,_,hqX⟩:=qY HX2.out rfl hlt3;have HBwq:Hid (Below w.heap.size w wr):=HBw.out.trans (HBq.out.mono HBw.out.size);have kk:Kp (World.hide w p) wr:=λa u h=>za HBwq.out _ _ (zc _ _ h);have s0:=kk _ _ q0;have s1:=kk _ _ q1;have s2:=kk _ _ q2;have s3:=kk _ _ q3;have s4:=kk _ _ q4;have x3q:=(HBq.out.cell (p:=⟨w.heap.size,3,none⟩) (xV x3)).trans x3;have HCx:=Lib.hid (HC.out.keep λx u h=>zc _ _ h);have HqX:=Lib.hid (hqX.keep kk);clear q0 q1 q2 q3 q4 kk hqX hbig HN HU hi HXSA;have HSub:Hid (∀W,Below wr.heap.size wr W->Calls Tryz.prog 219 #[.agg #[.int .i64 cur.op,.int .i64 cur.n,.string cur.name,.slice a cur.args.length c],.string (xs[m']'hlt3).name,.agg #[.int .i64 (xs[m']'hlt3).expr.op,.int .i64 (xs[m']'hlt3).expr.n,.string (xs[m']'hlt3).expr.name,.slice na (xs[m']'hlt3).expr.args.length nc]] W (zP W (yU (xs[m']'hlt3).name (xs[m']'hlt3).expr cur))):=λW hW=>zfL (xs[m']'hlt3).name (xs[m']'hlt3).expr na nc cur a c W (HCx.out.keep (za hW)) (HqX.out.keep (za hW))
       generalize yU (xs[m']'hlt3).name (xs[m']'hlt3).expr cur=cur' at HUn HNn HSub;generalize (xs[m']'hlt3)=sm at s0 s1 s2 s3 s4 HSub;generalize cur.nodes.length=nl at HSz hb2;clear HqX HCx;have hm2:(m':Int)<(xs.length:Int):=by omega
       unfold zP zL at HSub;go_upto_region 8 with (go_at_call 173;go_must (refine(HSz.out wr (Below.refl _ _)).mono ?_;rintro e w5 ⟨rfl,hb5⟩);have hz5:=hb5.size;have kk:=za hb5;have t0:=kk _ _ s0;have t1:=kk _ _ s1;have t2:=kk _ _ s2;have t3:=kk _ _ s3;have t4:=kk _ _ s4;have y3:=kk _ _ x3q;obtain⟨e0,e1,e2,e3,ef⟩:=qu ((hb5.block _ hxlt).trans HX.out);clear kk);clear s0 s1 s2 s3 s4 x3q z0 z1 z2 z3 zf;have HX5:Hid (w5.heap[wt.heap.size]? = some (.cells #[.int .i64 cur.op,.int .i64 cur.n,.string cur.name,.slice a cur.args.length c] 24 (0,0))):=(hb5.block _ hxlt).trans HX.out;have HB5:=Lib.hid hb5;have Hs5:Below w5.heap.size w5 w5:=Below.refl _ _;have hlt5:wt.heap.size<w5.heap.size:=by omega
       have HqL:Hid (∀j,hid (λj=>p' j||j==b||j==wt.heap.size) v j=true->j<w5.heap.size):=λj hj=>by
        have hbl:=HSt.out.blt;rcases ze.1 hj with h5|h5
        ·simp only[Bool.or_eq_true,beq_iff_eq]at h5;rcases h5 with (h5|h5)|h5
         ·have:=HP2.out j h5;omega
         ·omega
         ·omega
        ·have:=(zq HSt.out.own j h5).2;omega
       have HBt5:Hid (Below wt.heap.size wt w5):=HBq.out.trans (HB5.out.mono hzq);have HqW:Hid (hid (λj=>p' j||j==b||j==wt.heap.size) v wt.heap.size=true):=ze.2 (Or.inl (by simp));go_region_with (go_at_call 219;go_must (refine(HSub.out _ (HB5.out.trans (Below.mono (by exact zW) hz5))).mono ?_;rintro e w7 ⟨⟨a7,c7,rfl,hX7⟩,hb7⟩);have hbx7:=(hb7.block wt.heap.size hlt5).trans HX5.out;obtain⟨j0,j1,j2,j3,jf⟩:=qu hbx7)
       all_goals
        have HCX:=Lib.hid (zhY hX7 HBt5.out rfl hb7 zW HqL.out HqW.out hbx7);clear hX7 hb7 hbx7 j0 j1 j2 j3 jf;go_wp2_with fail;go_roundw;case rel=>exact⟨m',cur',a7,c7,by go_num,by omega,HUn.out,HNn.out,HCX.out.1,HCX.out.2.1,HCX.out.2.2⟩
        case measure=>(simp[intOf];try omega)
      ·have HE:Hid (cur=xL xs xs.length y):=by show _=_;rw[←HU.out,zfR hbig]
       have hb2:¬((cur.nodes.length:Nat):Int)<=400:=by omega
       generalize cur.nodes.length=nl at HSz hb2 HN hbig;clear hbig HN hi;go_upto_region 9 with (go_at_call 173;go_must (refine(HSz.out wr (Below.refl _ _)).mono ?_;rintro e w5 ⟨rfl,hb5⟩);have HB5:Hid (Below wt.heap.size wt w5):=HBq.out.trans (hb5.mono hzq);have HC5:=Lib.hid (HC.out.keep (zg hb5 λ_ _ h=>h));obtain⟨e0,e1,e2,e3,ef⟩:=qu ((hb5.block _ hxlt).trans HX.out);have HSq:=Lib.hid (HSt.out.below HB5.out);obtain⟨va,vc,hva,d2,df2,hblt,hzB⟩:=HSq.out.facts HGl.out (by omega);subst hva;have hbv:=HSq.out.bne;have d2o:∀o,(w5.alloc o).cell? ⟨b,2,none⟩=some (.slice va (xg.length+k) vc):=(λo=>Lib.cell?_alloc_some _ d2);have df2o:∀o,(w5.alloc o).frozen? ⟨b,2,none⟩=false:=(λo=>(World.frozen?_alloc_old _ _ _ (Nat.ne_of_lt hblt)).trans df2);have HRc:=Lib.hid (zgn HC5.out));go_wp2_with (at_builtin;go_must (refine yr (E:=exE) Qm _ rfl (.tmp 59) (.tmp 61) rfl (λj=>p' j||j==b) W2.heap.size _ rfl HSq.out.own cur [.int .i64 cur.op,.int .i64 cur.n,.string cur.name,.slice a cur.args.length c] HRc.out _ _ rfl rfl (xg.length+k) HGl.out (by omega) hzB ?_));intro g cap w7 ho hg hat
       have g2:w7.cell? ⟨b,2,none⟩=some (.slice va (xg.length+k) vc):=(hg.cell_far ⟨b,2,none⟩ hblt hbv).trans d2;have gf2:w7.frozen? ⟨b,2,none⟩=false:=(hg.frozen_far ⟨b,2,none⟩ hblt hbv).trans df2;have HA9:=Lib.hid (HSq.out.add ho hg hat);clear ho hg hat d2o df2o d2 df2;go_wp2_with fail;have HA8:Hid (qo p' W2 b xf tt (xg++(yg.take (k+1)).map (xL xs xs.length)) (xs++ys) (.slice (some ⟨g,0,none⟩) (xg.length+k+1) cap) (w7.setCell ⟨b,2,none⟩ (.slice (some ⟨g,0,none⟩) (xg.length+k+1) cap))):=by show qo _ _ _ _ _ _ _ _ _;rw[HTk.out,←HE.out];exact HA9.out
       go_roundw;case rel=>exact⟨k+1,_,by go_num,by omega,HA8.out⟩
       case measure=>(simp[intOf];try omega)
   ·obtain rfl:k=yg.length:=by omega
    have HGf:Hid (GK=xg++yg.map (xL xs xs.length)):=by show _=_;rw[←HGK.out,List.take_length]
    obtain⟨sa,sc,hbk,hS⟩:=HSt.out.blk;obtain⟨va,vc,hva,hGin⟩:=HSt.out.own.sliceR (p:=p') (by rw[HGl.out];omega) (λj hj=>by simp[hj]) HP2.out;have HVA:=Lib.hid hva;rw[HGl.out]at hva;subst hva;obtain⟨d0,d1,d2,d3,df⟩:=qu hbk;have hres:wt.heap[w.heap.size+1+1]? = _:=(HSt.out.bel.block (w.heap.size+2) (by omega)).trans HBr.out;obtain⟨r0,r1,r2,r3,rf⟩:=qu hres;have rf0:=rf 0;have rf1:=rf 1;have rf2:=rf 2;have rf3:=rf 3;have HRes:=Lib.hid hres;have HGin:=Lib.hid hGin;have HSin:=Lib.hid (hS.keep (zB (p:=p') λj hj=>ze.2 (Or.inl (by simp[hj]))));have HBe:Hid (Below w.heap.size w wt):=HBw;have hne:w.heap.size+1+1≠b:=by have:=HSt.out.bB;omega
    have hw2:w.heap.size<=w.heap.size+1+1:=by omega
    have hp'r:p' (w.heap.size+1+1)=true:=(HP1.out _).2 (Or.inr rfl);have hlS:(xs++ys).length=xs.length+ys.length:=List.length_append;rw[hlS]at d3;clear hbk hres hGin hS rf df;go_wp2_with fail;refine bodyPost_ret (v:=.agg #[.int .i64 xf,.int .i64 tt,.slice va (xg.length+yg.length) vc,.slice sa (xs.length+ys.length) sc]) (zi3 _ 6 rfl _ _ (w.heap.size+1+1) _ _ _ _ (YX HRes.out) rfl) rfl ?_;have hl:(xg++yg.map (xL xs xs.length)).length=xg.length+yg.length:=by rw[List.length_append,List.length_map]
    have h9:=HPo.out va vc sa sc ((((wt.setCell ⟨w.heap.size+1+1,0,none⟩ (.int .i64 xf)).setCell ⟨w.heap.size+1+1,1,none⟩ (.int .i64 tt)).setCell ⟨w.heap.size+1+1,2,none⟩ (.slice va (xg.length+yg.length) vc)).setCell ⟨w.heap.size+1+1,3,none⟩ (.slice sa (xs.length+ys.length) sc)) (by
     rw[←HGf.out];exact HGin.out.keep (Kp.trans (ze1 (Xz _ _ _ _) (λ_=>hp'r) λ_ _ h=>h) (zB λj hj=>(HP1.out j).2 (Or.inl hj))))
     (HSin.out.keep (Kp.trans (ze1 (Xz _ _ _ _) (λ_=>hp'r) λ_ _ h=>h) (zB λj hj=>(HP1.out j).2 (Or.inl hj))))
     ((((HBe.out.setCell hw2 _).setCell hw2 _).setCell hw2 _).setCell hw2 _)
    rw[hl,hlS]at h9;exact h9
end Go.Proofs.YtnfkbliokjjggaaGreatDoor
