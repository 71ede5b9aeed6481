/- What nfa.builder.and holds: the builder, the map of the pairs' places, the row of pairs. -/
import Derived.Test.YtnfkbliokjjggaaGreatDoorH18
import Derived.Deep.RegionLawGrows
import Derived.Test.YtnfkbliokjjggaaGreatDoorH15
set_option linter.unusedSimpArgs false
set_option linter.unusedVariables false
set_option linter.unnecessarySimpa false
namespace Go.Proofs.YtnfkbliokjjggaaGreatDoor
open Go.RowKit
structure JB where
 k:Nat
 m:Nat
 r:Nat
 b:Nat
 h:Nat
def qj (p:Nat->Bool) (Q:JB):Nat->Bool:=λj=>p j||j==Q.k||j==Q.m||j==Q.r||j==Q.b||j==Q.h
theorem YH {p:Nat->Bool} {Q:JB} {j:Nat}:qj p Q j=true<->p j=true\/j=Q.k\/j=Q.m\/j=Q.r\/j=Q.b\/j=Q.h:=by simp only[qj,Bool.or_eq_true,beq_iff_eq,or_assoc]
structure JnS (p:Nat->Bool) (Q:JB) (w0 w:World) (j:xu) (ve vp:Value):Prop where
 e:xN (hid (qj p Q) vp) Q.k w0 w 0 j.edges ve (.slice none 0 0)
 pr:prE.Own 96 (qj p Q) w w0.heap.size vp j.pairs
 bm:w.heap[Q.m]? = some (.cells #[.map (some Q.h)] 261 (0,0))
 br:w.heap[Q.r]? = some (.cells #[vp] 95 (0,0))
 bb:w.heap[Q.b]? = some (.cells #[.pointer (some ⟨Q.k,0,none⟩)] 148 (0,0))
 mp:zcd w Q.h j.pairs
 ir:w0.heap.size<=Q.r
 ih:w0.heap.size<=Q.h
structure JG (Q:JB) (W:World) (v0 p0:Value) (wr:World) (v pv:Value):Prop where
 size:W.heap.size<=wr.heap.size
 block:∀j,j<W.heap.size->j≠Q.k->j≠Q.r->j≠Q.h->v0.ownBlock≠some j->p0.ownBlock≠some j->wr.heap[j]? = W.heap[j]?
 vrow:v.ownBlock=v0.ownBlock\/∀g,v.ownBlock=some g->W.heap.size<=g
 prow:pv.ownBlock=p0.ownBlock\/∀g,pv.ownBlock=some g->W.heap.size<=g
section
variable {p : Nat → Bool} {Q : JB} {w0 w w' W wr wr' : World} {j j' : xu} {ve ve' vp vp' v0 p0 v pv v' pv' : Value}
theorem JG.refl (Q:JB) (W:World) (v p:Value):JG Q W v p W v p:=⟨Nat.le_refl _,λ_ _ _ _ _ _ _=>rfl,Or.inl rfl,Or.inl rfl⟩
theorem JG.vne (h:JG Q W v0 p0 wr v pv) {i:Nat} (hi:i<W.heap.size) (hv:v0.ownBlock≠some i):v.ownBlock≠some i:=λe=>by
 rcases h.vrow with e2|e2
 ·rw[e2]at e;exact hv e
 ·have:=e2 i e;omega
theorem JG.pne (h:JG Q W v0 p0 wr v pv) {i:Nat} (hi:i<W.heap.size) (hv:p0.ownBlock≠some i):pv.ownBlock≠some i:=λe=>by
 rcases h.prow with e2|e2
 ·rw[e2]at e;exact hv e
 ·have:=e2 i e;omega
theorem JG.trans (h:JG Q W v0 p0 wr v pv) (g:JG Q wr v pv wr' v' pv'):JG Q W v0 p0 wr' v' pv':=by
 refine⟨Nat.le_trans h.size g.size,λi hi h1 h2 h3 h4 h5=>(g.block i (Nat.lt_of_lt_of_le hi h.size) h1 h2 h3 (h.vne hi h4) (h.pne hi h5)).trans (h.block i hi h1 h2 h3 h4 h5),?_,?_⟩
 ·rcases g.vrow with e|e
  ·rw[e];exact h.vrow
  ·exact Or.inr λi hi=>Nat.le_trans h.size (e i hi)
 ·rcases g.prow with e|e
  ·rw[e];exact h.prow
  ·exact Or.inr λi hi=>Nat.le_trans h.size (e i hi)
theorem JG.ofBelow (Q:JB) (v p:Value) (hb:Below W.heap.size W wr):JG Q W v p wr v p:=⟨hb.size,λi hi _ _ _ _ _=>hb.block i hi,Or.inl rfl,Or.inl rfl⟩
theorem JG.below (h:JG Q W v0 p0 wr v pv) (hb:Below wr.heap.size wr wr'):JG Q W v0 p0 wr' v pv:=h.trans (JG.ofBelow Q v pv hb)
theorem JG.kp (h:JG Q W v0 p0 wr v pv):Kp (World.hide W (hid (hid (qj p Q) p0) v0)) (World.hide wr (hid (hid (qj p Q) pv) v)):=by
 intro ad u ha;obtain⟨h1,h2⟩:=zr.1 ha;have hlt:=xV h2;have hn:∀i,hid (hid (qj p Q) p0) v0 i=true->ad.block≠i:=λi hi e=>by rw[e,hi]at h1;simp at h1
 have hq:∀i,qj p Q i=true->ad.block≠i:=λi hi=>hn i (ze.2 (Or.inl (ze.2 (Or.inl hi))));have hvn:v0.ownBlock≠some ad.block:=λe=>hn _ (ze.2 (Or.inr e)) rfl;have hpn:p0.ownBlock≠some ad.block:=λe=>hn _ (ze.2 (Or.inl (ze.2 (Or.inr e)))) rfl;refine zr.2 ⟨?_,by rw[World.cell?_of_block (h.block _ hlt (hq _ (YH.2 (Or.inr (Or.inl rfl)))) (hq _ (YH.2 (Or.inr (Or.inr (Or.inr (Or.inl rfl)))))) (hq _ (YH.2 (Or.inr (Or.inr (Or.inr (Or.inr (Or.inr rfl))))))) hvn hpn)];exact h2⟩;cases e:hid (hid (qj p Q) pv) v ad.block with
 |false=>rfl
 |true =>
  rcases ze.1 e with e2|e2
  ·rcases ze.1 e2 with e3|e3
   ·exact absurd rfl (hq _ e3)
   ·exact absurd e3 (h.pne hlt hpn)
  ·exact absurd e2 (h.vne hlt hvn)
theorem zcd.obj {b:Nat} {ps:List (Int×Int)} (h:zcd w b ps):∃es c,w.heap[b]? = some (.map es c):=by obtain⟨m,f,⟨D,⟨es,clock,hb,_⟩,_⟩,_⟩:=h;exact⟨es,clock,hb⟩
theorem za8 {B:Nat} {t:TypeId} {z n:Nat} {v:Value} {xs:List Value} {b:Nat} {ps:List (Int×Int)} (h:w.ownsRow B t z v n xs) (hm:zcd w b ps):v.ownBlock≠some b:=by
 obtain⟨es,c,hb⟩:=hm.obj;rcases h.2 with ⟨rfl,_⟩|⟨g,cap,cur,rfl,_,hg,_⟩
 ·simp[Value.ownBlock]
 ·intro e;have:=Option.some.inj e;simp only at this;subst this;rw[hb]at hg;cases hg
theorem qZ {b k:Nat} {cs:Array Value} {t:TypeId} {z:Nat×Nat} {ps:List (Int×Int)} (hm:zcd w b ps) (hk:w.heap[k]? = some (.cells cs t z)):k≠b:=by rintro rfl;obtain⟨es,c,hb⟩:=hm.obj;rw[hb]at hk;cases hk
theorem Qg {a b:Nat} {cs ds:Array Value} {s t:TypeId} {y z:Nat×Nat} (ha:w.heap[a]? = some (.cells cs s y)) (hb:w.heap[b]? = some (.cells ds t z)) (h:s≠t):a≠b:=by rintro rfl;rw[hb]at ha;simp only[Option.some.injEq,Obj.cells.injEq]at ha;exact h ha.2.1.symm
theorem JnS.vne (h:JnS p Q w0 w j ve vp) {a:Nat} {cs:Array Value} {t:TypeId} {z:Nat×Nat} (ha:w.heap[a]? = some (.cells cs t z)) (ht:t≠77):ve.ownBlock≠some a:=λe=>by obtain⟨xs,h1,_⟩:=h.e.es;exact zv h1 ha ht e.symm
theorem JnS.pne (h:JnS p Q w0 w j ve vp) {a:Nat} {cs:Array Value} {t:TypeId} {z:Nat×Nat} (ha:w.heap[a]? = some (.cells cs t z)) (ht:t≠96):vp.ownBlock≠some a:=λe=>by obtain⟨xs,h1,_⟩:=h.pr;exact zv h1 ha ht e.symm
theorem JnS.vnm (h:JnS p Q w0 w j ve vp):ve.ownBlock≠some Q.h:=by obtain⟨xs,h1,_⟩:=h.e.es;exact za8 h1 h.mp
theorem JnS.pnm (h:JnS p Q w0 w j ve vp):vp.ownBlock≠some Q.h:=by obtain⟨xs,h1,_⟩:=h.pr;exact za8 h1 h.mp
theorem JnS.plt (h:JnS p Q w0 w j ve vp):∀i,vp.ownBlock=some i->w0.heap.size<=i/\i<w.heap.size:=zq h.pr
theorem JnS.vp_ne (h:JnS p Q w0 w j ve vp):∀i,ve.ownBlock=some i->vp.ownBlock≠some i:=by
 intro i hi e;obtain⟨xs,h1,_⟩:=h.e.es;obtain⟨ys,h2,_⟩:=h.pr;rcases h2.2 with ⟨rfl,_⟩|⟨g,cap,cur,rfl,hb,hg,_⟩
 ·simp[Value.ownBlock]at e
 ·exact zv h1 hg (by decide) (by rw[hi];exact e)
theorem JnS.step {E':List zk} (h:JnS p Q w0 w j ve vp) (he:xN (hid (qj p Q) vp) Q.k w0 w' 0 E' ve' (.slice none 0 0)) (hs:zU Q.k w ve w' ve'):JnS p Q w0 w' ⟨j.pairs,E'⟩ ve' vp:=by
 have hk:=h.e.blk;have b1:=Qg h.bm hk (by decide);have b2:=Qg h.br hk (by decide);have b3:=Qg h.bb hk (by decide);have b4:=qZ h.mp hk;refine⟨he,?_,?_,?_,?_,?_,h.ir,h.ih⟩
 ·obtain⟨xs,h1,h2⟩:=Zk.1 h.pr;obtain⟨ys,h3,_⟩:=h.e.es;exact Zk.2 ⟨xs,hs.own h1 h3 hk (by decide) (by decide),zgK h2⟩
 ·rw[hs.block Q.m (lt_of_block h.bm) b1 (h.vne h.bm (by decide))];exact h.bm
 ·rw[hs.block Q.r (lt_of_block h.br) b2 (h.vne h.br (by decide))];exact h.br
 ·rw[hs.block Q.b (lt_of_block h.bb) b3 (h.vne h.bb (by decide))];exact h.bb
 ·exact h.mp.block (hs.block Q.h h.mp.lt (Ne.symm b4) h.vnm)
theorem JnS.below (h:JnS p Q w0 w j ve vp) (hb:Below w.heap.size w w'):JnS p Q w0 w' j ve vp:=h.step (h.e.below hb) (zU.below ve hb)
theorem JnS.push {PS PS':List (Int×Int)} {ES:List zk} {wm wg:World} (h:JnS p Q w0 w ⟨PS,ES⟩ ve vp) (hg1:w.grownBy wm (some Q.h)) (hm:zcd wm Q.h PS') (ho:prE.Own 96 (qj p Q) wg w0.heap.size vp' PS') (hg2:wm.grownBy wg vp.ownBlock)
 (hat:vp'.ownBlock=vp.ownBlock\/∃g,vp'.ownBlock=some g/\wm.heap.size<=g):JnS p Q w0 (wg.setCell ⟨Q.r,0,none⟩ vp') ⟨PS',ES⟩ ve vp'/\JG Q w ve vp (wg.setCell ⟨Q.r,0,none⟩ vp') ve vp':=by
 have hs:∀i,i<w.heap.size->i≠Q.r->i≠Q.h->vp.ownBlock≠some i->(wg.setCell ⟨Q.r,0,none⟩ vp').heap[i]? = w.heap[i]?:=λi hi h1 h2 h3 =>
  (Below.heap_setCell _ _ _ _ (λe=>h1 (by simpa using e))).trans ((hg2.block i (Nat.lt_of_lt_of_le hi hg1.size) (Ne.symm h3)).trans (hg1.block i hi (λe=>h2 (Option.some.inj e))))
 have hG:JG Q w ve vp (wg.setCell ⟨Q.r,0,none⟩ vp') ve vp':=by refine⟨by rw[World.size_setCell];exact Nat.le_trans hg1.size hg2.size,λi hi _ h2 h3 _ h5=>hs i hi h2 h3 h5,Or.inl rfl,hat.imp id ?_⟩;rintro ⟨g,e,hg⟩ i hi;rw[e]at hi;have:=Option.some.inj hi;have:=hg1.size;omega
 have hk:=h.e.blk;have b1:=Qg h.bm h.br (by decide);have b2:=Qg h.br hk (by decide);have b3:=Qg h.bb h.br (by decide);have n1:=qZ h.mp h.bm;have n2:=qZ h.mp h.br;have n3:=qZ h.mp h.bb;have n4:=qZ h.mp hk;have hrw:wg.heap[Q.r]? = some (.cells #[vp] 95 (0,0)):=((hg2.block Q.r (Nat.lt_of_lt_of_le (lt_of_block h.br) hg1.size) (Ne.symm (h.pne h.br (by decide)))).trans (hg1.block Q.r (lt_of_block h.br) (λe=>n2 (Option.some.inj e)))).trans h.br;have hrn:some Q.r≠vp'.ownBlock:=by obtain⟨xs,h1,_⟩:=ho;exact zv h1 hrw (by decide)
 refine⟨⟨⟨h.e.kB,?_,?_,?_,?_⟩,?_,?_,?_,?_,?_,h.ir,h.ih⟩,hG⟩
 ·exact ze.2 (Or.inl (YH.2 (Or.inr (Or.inl rfl))))
 ·rw[hs Q.k (lt_of_block hk) (Ne.symm b2) n4 (h.pne hk (by decide))];exact hk
 ·obtain⟨xs,h1,h2⟩:=h.e.es;refine⟨xs,⟨h1.1,h1.2.imp id ?_⟩,h2.keep hG.kp⟩;rintro ⟨g,cap,cur,q1,q2,q3,q4⟩;have e1:ve.ownBlock=some g:=by rw[q1];rfl
  refine⟨g,cap,cur,q1,q2,?_,q4⟩;rw[hs g (lt_of_block q3) (λe=>h.vne h.br (by decide) (by rw[←e];exact e1)) (λe=>h.vnm (by rw[←e];exact e1)) (h.vp_ne g e1)];exact q3
 ·have hsz:=h.e.bel.size;refine Below.setCell ?_ h.ir _;refine Below.grown (Below.grown h.e.bel hg1 hsz λi hi=>?_) hg2 (Nat.le_trans hsz hg1.size) λi hi=>(h.plt i hi).1;have:=Option.some.inj hi;have:=h.ih;omega
 ·obtain⟨xs,h1,h2⟩:=Zk.1 ho;exact Zk.2 ⟨xs,ownsRow_setCell_other h1 (λe=>hrn e.symm) _,zgK h2⟩
 ·rw[hs Q.m (lt_of_block h.bm) b1 n1 (h.pne h.bm (by decide))];exact h.bm
 ·exact heap_setCell_same _ Q.r 0 _ _ vp' hrw
 ·rw[hs Q.b (lt_of_block h.bb) b3 n3 (h.pne h.bb (by decide))];exact h.bb
 ·exact hm.block ((Below.heap_setCell _ _ _ _ (λe=>n2 (by simpa using e.symm))).trans (hg2.block Q.h hm.lt (Ne.symm h.pnm)))
end
attribute [local go_sem ↓] Go.wp_at_zero Go.wp_at_succ
theorem JnS.hlt {p:Nat->Bool} {Q:JB} {w0 w:World} {j:xu} {ve vp:Value} (h:JnS p Q w0 w j ve vp) (hp:∀i,p i=true->i<w0.heap.size):∀i,hid (hid (qj p Q) vp) ve i=true->i<w.heap.size:=by
 have hsz:=h.e.bel.size;intro i hi;rcases ze.1 hi with h1|h1
 ·rcases ze.1 h1 with h2|h2
  ·rcases YH.1 h2 with h3|rfl|rfl|rfl|rfl|rfl
   ·exact Nat.lt_of_lt_of_le (hp i h3) hsz
   ·exact lt_of_block h.e.blk
   ·exact lt_of_block h.bm
   ·exact lt_of_block h.br
   ·exact lt_of_block h.bb
   ·exact h.mp.lt
  ·exact(h.plt i h2).2
 ·exact(zq h.e.es i h1).2
def JLe (j j':xu):Prop:=j.pairs.length<=j'.pairs.length/\j.edges.length<=j'.edges.length
theorem JLe.refl (j:xu):JLe j j:=⟨Nat.le_refl _,Nat.le_refl _⟩
theorem JLe.trans {a b c:xu} (h:JLe a b) (g:JLe b c):JLe a c:=⟨Nat.le_trans h.1 g.1,Nat.le_trans h.2 g.2⟩
end Go.Proofs.YtnfkbliokjjggaaGreatDoor
