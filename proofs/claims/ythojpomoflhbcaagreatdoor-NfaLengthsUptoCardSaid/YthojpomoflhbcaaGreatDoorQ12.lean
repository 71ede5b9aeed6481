/- nfa.builder: done. -/
import Derived.Test.YthojpomoflhbcaaGreatDoorQ11
import Derived.Laws.ResultCell
import Derived.Test.YthojpomoflhbcaaGreatDoorQ06
set_option maxHeartbeats 8000000
set_option maxRecDepth 100000
set_option linter.unusedSimpArgs false
set_option linter.unusedVariables false
set_option linter.unnecessarySimpa false
namespace Go.Proofs.YthojpomoflhbcaaGreatDoor
open Go.RowKit
attribute [local go_sem ↓] Go.wp_at_zero Go.wp_at_succ
theorem xL (fn:Func) (hr:fn.results=#[.cell 2 33,.tmp 3]) (W:World) (tm:Array Value) (b:Nat) (m0 m1 m2 e:Value) (hW:W.heap[b]? = some (.cells #[m0,m1,m2] 33 (0,0))) (h0:tm.getD 2 undef=.pointer (some ⟨b,0,none⟩)) (h1:tm.getD 3 undef=e) :
 (results fn tm).run Tryz.prog W=.ok (.tuple #[.agg #[m0,m1,m2],e]) W:=by
 have c0:=zc hW 0;have c1:=zc hW 1;have c2:=zc hW 2;simp at c0 c1 c2;rw[results_cell_tmp hr,h0,h1];simp[asAddr];go_simp
theorem zb1 {w:World} {b:Nat} {z0 z1 z2 u0 u1 u2:Value} {t:TypeId} (h:w.heap[b]? = some (.cells #[z0,z1,z2] t (0,0))) :
 (((w.setCell ⟨b,0,none⟩ u0).setCell ⟨b,1,none⟩ u1).setCell ⟨b,2,none⟩ u2).heap[b]? = some (.cells #[u0,u1,u2] t (0,0)):=by
 have h0:=heap_setCell_same _ b 0 _ t u0 h;have h1:=heap_setCell_same _ b 1 _ t u1 h0;have h2:=heap_setCell_same _ b 2 _ t u2 h1;rw[h2];rfl
theorem Enc.Own.sliceR {τ:Type} {E:Enc τ} {t:TypeId} {q p:Nat->Bool} {w:World} {B:Nat} {v:Value} {l:List τ} (h:E.Own t q w B v l) (hn:l.length<=1073741824) (hpq:∀k,p k=true->q k=true) (hp:∀k,p k=true->k<B):∃a cap,v=.slice a l.length cap/\E.In (World.hide w p) l a cap:=by
 obtain⟨xs,h1,h2⟩:=h;refine Enc.Own.sliceP (t:=t) (B:=B) ⟨xs,h1,h2.keep (zR λk hk=>?_)⟩ hn λk hk=>?_
 ·exact(ze.1 hk).elim (λh=>ze.2 (Or.inl (hpq k h))) λh=>ze.2 (Or.inr h)
 ·cases e:p k with
  |false=>rfl
  |true=>have:=hp k e;omega
def yA (p:Nat->Bool) (r:Option zm) (w:World) (e:Ending) (w':World):Prop :=
 (match r with
  |some n=>∃x,e=.returned (.tuple #[xq n x,.int .i64 0])/\xS (World.hide w' p) n x
  |none=>e=.returned (.tuple #[.agg #[.int .i64 0,.slice none 0 0,.slice none 0 0],.int .i64 2]))/\Below w.heap.size w w'
theorem yA.yes {p:Nat->Bool} {n:zm} {x:YL} {w w':World} (h:xS (World.hide w' p) n x) (hb:Below w.heap.size w w'):yA p (some n) w (.returned (.tuple #[xq n x,.int .i64 0])) w':=⟨⟨x,rfl,h⟩,hb⟩
theorem yA.no {p:Nat->Bool} {w w':World} (hb:Below w.heap.size w w'):yA p none w (.returned (.tuple #[.agg #[.int .i64 0,.slice none 0 0,.slice none 0 0],.int .i64 2])) w':=⟨rfl,hb⟩
theorem zep {q p:Nat->Bool} {k:Nat} {w0 w:World} {st:Int} {L:List zn} {A:List Int} {ve:Value} {aa:Option Addr} {ca:Nat} (hB:xI q k w0 w st L ve (.slice aa A.length ca)) (hpq:∀j,p j=true->q j=true) (hp:∀j,p j=true->j<w0.heap.size)
 (hA:IntsIn (World.hide w p) A aa ca) (hG:ZW w) (hs:yH ⟨st,L,A⟩) :
 Calls Tryz.prog 90 #[.pointer (some ⟨k,0,none⟩)] w (yA p (doneN ⟨st,L,A⟩) w):=by
 have hLl:(L.take 4097).length=min 4097 L.length:=List.length_take;obtain⟨ea,ec,hv,hEp⟩:=hB.es.sliceR (by omega) hpq hp;have hblk:=hB.blk;have hk:=hB.klt;have c0:w.cell? ⟨k,0,none⟩=some (.int .i64 st):=by simp[World.cell?,hblk]
 have c1:w.cell? ⟨k,1,none⟩=some ve:=by simp[World.cell?,hblk]
 have c2:w.cell? ⟨k,2,none⟩=some (.slice aa A.length ca):=by simp[World.cell?,hblk]
 have c3:w.cell? ⟨k,3,none⟩=some (.bool (decide (4097<L.length))):=by simp[World.cell?,hblk]
 rw[hv]at c1;have HNo:Hid (zY ⟨st,L,A⟩=false->∀w',Below w.heap.size w w'->yA p (doneN ⟨st,L,A⟩) w (.returned (.tuple #[.agg #[.int .i64 0,.slice none 0 0,.slice none 0 0],.int .i64 2])) w'):=λh w' hb=>by unfold doneN;rw[h];exact yA.no hb
 have HYes:Hid (zY ⟨st,L,A⟩=true->L.take 4097=L->∀w',Below w.heap.size w w'->yA p (doneN ⟨st,L,A⟩) w (.returned (.tuple #[.agg #[.int .i64 st,.slice ea (L.take 4097).length ec,.slice aa A.length ca],.int .i64 0])) w'):=λh ht w' hb=>by unfold doneN;rw[if_pos h,ht];have hkk:=zg (p:=p) (q:=p) hb λ_ _ h=>h;rw[ht]at hEp;exact yA.yes (n:=⟨st,L,A⟩) (x:=⟨ea,ec,aa,ca⟩) ⟨hEp.keep hkk,hA.keep hkk⟩ hb
 have hbig:4096<L.length->zY ⟨st,L,A⟩=false:=λh=>by
  cases e:zY ⟨st,L,A⟩ with
  |false=>rfl
  |true=>have:=(zz.1 e).1.2.2;simp only at this;omega
 generalize yA p (doneN ⟨st,L,A⟩) w=Po at HNo HYes⊢;have hz0:(w.alloc (.cells #[.int .i64 0,.slice none 0 0,.slice none 0 0] 33)).heap[w.heap.size]? = some (.cells #[.int .i64 0,.slice none 0 0,.slice none 0 0] 33 (0,0)):=zh rfl;by_cases hf:4097<L.length
 ·have HN:=Lib.hid (HNo.out (hbig (by omega)));rw[decide_eq_true hf]at c3;clear HNo HYes hbig hLl hv hEp hB hA hs hpq hp hblk hf;go_enter Tryz.func90, Tryz.ntmps90;go_wp2_with fail;refine bodyPost_ret (v:=.tuple #[.agg #[.int .i64 0,.slice none 0 0,.slice none 0 0],.int .i64 2]) (xL _ rfl _ _ w.heap.size _ _ _ _ hz0 rfl rfl) rfl ?_;exact HN.out _ ((Below.refl _ _).alloc (Nat.le_refl _) _)
 ·rw[decide_eq_false hf]at c3;have hnx:zY ⟨st,L,A⟩=zY ⟨st,L.take 4097,A⟩:=by rw[List.take_of_length_le (by omega)]
  have HV:Hid (∀W,Below w.heap.size w W->Calls Tryz.prog 32 #[.agg #[.int .i64 st,.slice ea (L.take 4097).length ec,.slice aa A.length ca]] W λe' w'=>e'=.returned (.bool (zY ⟨st,L,A⟩))/\Below W.heap.size W w'):=λW hW=>by rw[hnx];exact XX ⟨st,L.take 4097,A⟩ ⟨ea,ec,aa,ca⟩ W (hG.below hW) ⟨hEp.keep (λa u h=>za hW _ _ (zb _ _ h)),hA.keep (λa u h=>za hW _ _ (zb _ _ h))⟩ λe he=>hs e (List.mem_of_mem_take he)
  have HT:Hid (zY ⟨st,L,A⟩=true->L.take 4097=L):=λh=>List.take_of_length_le (by have:=(zz.1 h).1.2.2;simp only at this;omega);clear hbig hLl hv hEp hB hA hs hpq hp hblk hf hnx;have HY0:Hid (zY ⟨st,L,A⟩=true->∀w',Below w.heap.size w w'->Po (.returned (.tuple #[.agg #[.int .i64 st,.slice ea (L.take 4097).length ec,.slice aa A.length ca],.int .i64 0])) w'):=λh=>HYes.out h (HT.out h);clear HYes HT;generalize (L.take 4097).length=n4 at c1 HV HY0;cases hn:zY ⟨st,L,A⟩ with
  |false =>have HN:=Lib.hid (HNo.out hn);rw[hn]at HV;clear HNo HY0 hn;go_enter Tryz.func90, Tryz.ntmps90;go_wp2_with (go_at_call 32;go_must (refine(HV.out _ bel).mono ?_;rintro e w5 ⟨rfl,hb5⟩;have hB5:Below w.heap.size w w5:=((Below.refl w.heap.size w).alloc (Nat.le_refl _) _).trans (hb5.mono (by simp));have e0:=(hB5.cell (p:=⟨k,0,none⟩) hk).trans c0;have e1:=(hB5.cell (p:=⟨k,1,none⟩) hk).trans c1;have e2:=(hB5.cell (p:=⟨k,2,none⟩) hk).trans c2;have r5:=(hb5.block w.heap.size (by simp)).trans hz0;have f0:w5.frozen? ⟨w.heap.size,0,none⟩=false:=(by simp[World.frozen?,r5]);have f1:w5.frozen? ⟨w.heap.size,1,none⟩=false:=(by simp[World.frozen?,r5]);have f2:w5.frozen? ⟨w.heap.size,2,none⟩=false:=(by simp[World.frozen?,r5]);have d0:=zc r5 0;have d1:=zc r5 1;have d2:=zc r5 2;(simp at d0 d1 d2);have HR5:=Lib.hid r5;have HB5:=Lib.hid hB5;clear r5 hB5 hb5));refine bodyPost_ret (v:=.tuple #[.agg #[.int .i64 0,.slice none 0 0,.slice none 0 0],.int .i64 2]) (xL _ rfl _ _ w.heap.size _ _ _ _ (zb1 HR5.out) rfl rfl) rfl ?_;exact HN.out _ (((HB5.out.setCell (Nat.le_refl _) _).setCell (Nat.le_refl _) _).setCell (Nat.le_refl _) _)
  |true =>have HY:=Lib.hid (HY0.out hn);rw[hn]at HV;clear HNo HY0 hn;go_enter Tryz.func90, Tryz.ntmps90;go_wp2_with (go_at_call 32;go_must (refine(HV.out _ bel).mono ?_;rintro e w5 ⟨rfl,hb5⟩;have hB5:Below w.heap.size w w5:=((Below.refl w.heap.size w).alloc (Nat.le_refl _) _).trans (hb5.mono (by simp));have e0:=(hB5.cell (p:=⟨k,0,none⟩) hk).trans c0;have e1:=(hB5.cell (p:=⟨k,1,none⟩) hk).trans c1;have e2:=(hB5.cell (p:=⟨k,2,none⟩) hk).trans c2;have r5:=(hb5.block w.heap.size (by simp)).trans hz0;have f0:w5.frozen? ⟨w.heap.size,0,none⟩=false:=(by simp[World.frozen?,r5]);have f1:w5.frozen? ⟨w.heap.size,1,none⟩=false:=(by simp[World.frozen?,r5]);have f2:w5.frozen? ⟨w.heap.size,2,none⟩=false:=(by simp[World.frozen?,r5]);have d0:=zc r5 0;have d1:=zc r5 1;have d2:=zc r5 2;(simp at d0 d1 d2);have HR5:=Lib.hid r5;have HB5:=Lib.hid hB5;clear r5 hB5 hb5));refine bodyPost_ret (v:=.tuple #[.agg #[.int .i64 st,.slice ea n4 ec,.slice aa A.length ca],.int .i64 0]) (xL _ rfl _ _ w.heap.size _ _ _ _ (zb1 HR5.out) rfl rfl) rfl ?_;exact HY.out _ (((HB5.out.setCell (Nat.le_refl _) _).setCell (Nat.le_refl _) _).setCell (Nat.le_refl _) _)
theorem zaR:Elem Tryz.prog 31 3 1:=Elem.of Tryz.underlying31 (by kernel_rfl) (z:=.int .i64 0) (bytes:=8) rfl (by decide) (by decide)
theorem zhf {w w':World} {l:List Int} {xs:List Value} (h:inE.Vals w l xs):inE.Vals w' l xs:=⟨h.1,λi hi=>by obtain⟨vs,h1,h2⟩:=h.2 i hi;exact⟨vs,h1,h2⟩⟩
theorem qB {p:Nat->Bool} {w:World} {B:Nat} {v:Value} {l:List Int}:inE.Own 3 p w B v l<->∃xs,w.ownsRow B 3 1 v l.length xs/\inE.Vals w l xs :=
 ⟨λ⟨xs,h1,h2⟩=>⟨xs,h1,zhf h2⟩,λ⟨xs,h1,h2⟩=>⟨xs,h1,zhf h2⟩⟩
theorem zlo {p q:Nat->Bool} {w:World} {B:Nat} {v:Value} {l:List Int} (h:inE.Own 3 p w B v l):inE.Own 3 q w B v l:=qB.2 (qB.1 h)
structure zM (q:Nat->Bool) (k:Nat) (w0 w:World) (st:Int) (L:List zn) (A:List Int) (ve va:Value):Prop where
 e:xI (hid q va) k w0 w st L ve va
 a:inE.Own 3 q w w0.heap.size va A
section
variable {q : Nat → Bool} {k : Nat} {w0 w w' : World} {st : Int} {L L' : List zn} {A : List Int} {ve ve' va : Value}
theorem zM.alt (h:zM q k w0 w st L A ve va):∀j,va.ownBlock=some j->w0.heap.size<=j/\j<w.heap.size:=zl h.a
theorem zM.ane (h:zM q k w0 w st L A ve va):some k≠va.ownBlock:=by obtain⟨xs,h1,_⟩:=h.a;exact zX h1 h.e.blk (by decide)
theorem zM.eane (h:zM q k w0 w st L A ve va):∀j,ve.ownBlock=some j->va.ownBlock≠some j:=by
 intro j hj e;obtain⟨xs,h1,_⟩:=h.e.es;obtain⟨ys,h2,_⟩:=h.a;rcases h2.2 with ⟨rfl,_⟩|⟨g,cap,cur,rfl,hb,hg,_⟩
 ·simp[Value.ownBlock]at e
 ·have:=zX h1 hg (by decide);exact this (by rw[hj];exact e)
theorem zM.step (h:zM q k w0 w st L A ve va) (he:xI (hid q va) k w0 w' st L' ve' va) (hs:yw k w ve w' ve'):zM q k w0 w' st L' A ve' va:=by refine⟨he,?_⟩;obtain⟨xs,h1,h2⟩:=qB.1 h.a;obtain⟨ys,h3,_⟩:=h.e.es;exact qB.2 ⟨xs,hs.own h1 h3 h.e.blk (by decide) (by decide),zhf h2⟩
theorem zM.below (h:zM q k w0 w st L A ve va) (hb:Below w.heap.size w w'):zM q k w0 w' st L A ve va:=h.step (h.e.below hb) (yw.below ve hb)
theorem zM.sz (h:zM q k w0 w st L A ve va):w0.heap.size<=w.heap.size:=h.e.bel.size
theorem zM.kp {p:Nat->Bool} (h:zM q k w0 w st L A ve va) (hqp:∀j,j<w0.heap.size->q j=true->p j=true):Kp (World.hide w0 p) (World.hide w (hid (hid q va) ve)):=zg h.e.bel λj hj hq=>by
 rcases ze.1 hq with h1|h1
 ·rcases ze.1 h1 with h2|h2
  ·exact hqp j hj h2
  ·have:=(h.alt j h2).1;omega
 ·have:=(h.e.vlt j h1).1;omega
theorem xI.eq {va:Value} (h:xI q k w0 w st L ve va) (h1:L'.take 4097=L.take 4097) (h2:4097<L'.length<->4097<L.length):xI q k w0 w st L' ve va:=by
 refine⟨h.kB,h.qk,?_,by rw[h1];exact h.es,h.bel⟩;rw[h.blk];by_cases hc:4097<L.length
 ·rw[decide_eq_true hc,decide_eq_true (h2.2 hc)]
 ·rw[decide_eq_false hc,decide_eq_false (λe=>hc (h2.1 e))]
theorem xI.full {va:Value} (h:xI q k w0 w st L ve va) (hL:4097<L.length) (M:List zn):xI q k w0 w st (L++M) ve va :=
 h.eq (List.take_append_of_le_length (by omega)) (by rw[List.length_append];omega)
theorem zM.full (h:zM q k w0 w st L A ve va) (hL:4097<L.length) (M:List zn):zM q k w0 w st (L++M) A ve va:=⟨h.e.full hL M,h.a⟩
theorem zM.setSt (h:zM q k w0 w st L A ve va) (s2:Int):zM q k w0 (w.setCell ⟨k,0,none⟩ (.int .i64 s2)) s2 L A ve va:=by
 refine⟨⟨h.e.kB,h.e.qk,?_,xI.esSet h.e.qk h.e.ne h.e.es,h.e.bel.setCell h.e.kB _⟩,?_⟩
 ·rw[qc h.e.blk 0];rfl
 ·obtain⟨xs,h1,h2⟩:=qB.1 h.a;exact qB.2 ⟨xs,ownsRow_setCell_other h1 (λe=>h.ane e.symm) _,zhf h2⟩
theorem zM.acc {A':List Int} {v':Value} (h:zM q k w0 w st L A ve va) (ho:inE.Own 3 q w' w0.heap.size v' A') (hg:w.grownBy w' va.ownBlock) (hat:v'.ownBlock=va.ownBlock\/∃g,v'.ownBlock=some g/\w.heap.size<=g):zM q k w0 (w'.setCell ⟨k,2,none⟩ v') st L A' ve v':=by
 have hk:=h.e.klt;have hkn:some k≠v'.ownBlock:=by
  rcases hat with e|⟨g,e,hgs⟩
  ·rw[e];exact h.ane
  ·rw[e];intro e2;have:=Option.some.inj e2;omega
 have hblk:w'.heap[k]? = some (.cells #[.int .i64 st,ve,va,.bool (decide (4097<L.length))] 134 (0,0)):=(hg.block k hk h.ane).trans h.e.blk;have hve:∀j,ve.ownBlock=some j->v'.ownBlock≠some j:=λj hj e2=>by
  rcases hat with e|⟨g,e,hgs⟩
  ·exact h.eane j hj (by rw[←e,e2])
  ·rw[e2]at e;have:=(h.e.vlt j hj).2;have:=Option.some.inj e;omega
 have hes:edE.Own 69 (hid q v') w' w0.heap.size ve (L.take 4097):=by
  obtain⟨xs,h1,h2⟩:=h.e.es;refine⟨xs,h1.kept hg ?_,h2.keep (yV hg (λj hj=>ze.2 (Or.inl (ze.2 (Or.inr hj)))) λj hj hq=>?_)⟩
  ·cases e:ve.ownBlock with
   |none=>exact Or.inl rfl
   |some j=>exact Or.inr λe2=>h.eane j e e2.symm
  ·rcases ze.1 hq with h3|h3
   ·rcases ze.1 h3 with h4|h4
    ·exact ze.2 (Or.inl (ze.2 (Or.inl h4)))
    ·rcases hat with e|⟨g,e,hgs⟩
     ·exact ze.2 (Or.inl (ze.2 (Or.inr (by rw[←e];exact h4))))
     ·rw[e]at h4;have:=Option.some.inj h4;omega
   ·exact ze.2 (Or.inr h3)
 have hqk:hid q v' k=true:=by
  rcases ze.1 h.e.qk with e|e
  ·exact ze.2 (Or.inl e)
  ·exact absurd e.symm h.ane
 refine⟨⟨h.e.kB,hqk,?_,xI.esSet hqk h.e.ne hes,?_⟩,?_⟩
 ·rw[qc hblk 2];rfl
 ·exact(h.e.bel.grown hg h.sz λj hj=>(h.alt j hj).1).setCell h.e.kB _
 ·obtain⟨xs,h1,h2⟩:=qB.1 ho;exact qB.2 ⟨xs,ownsRow_setCell_other h1 (λe=>hkn e.symm) _,zhf h2⟩
end
structure BF (k:Nat) (W:World) (ve va:Value) (wr:World):Prop where
 size:W.heap.size<=wr.heap.size
 block:∀j,j<W.heap.size->j≠k->wr.heap[j]? = W.heap[j]?
 vlt:∀j,ve.ownBlock=some j->W.heap.size<=j
 alt:∀j,va.ownBlock=some j->W.heap.size<=j
section
variable {k : Nat} {W wr wr' : World} {ve ve' va va' : Value}
theorem BF.refl (k:Nat) (W:World):BF k W (.slice none 0 0) (.slice none 0 0) W:=⟨Nat.le_refl _,λ_ _ _=>rfl,λj h=>by simp[Value.ownBlock]at h,λj h=>by simp[Value.ownBlock]at h⟩
theorem BF.step (h:BF k W ve va wr) (hs:yw k wr ve wr' ve'):BF k W ve' va wr':=by
 refine⟨Nat.le_trans h.size hs.size,λj hj hk=>?_,λj hj=>?_,h.alt⟩
 ·exact(hs.block j (Nat.lt_of_lt_of_le hj h.size) hk λe=>by have:=h.vlt j e;omega).trans (h.block j hj hk)
 ·rcases hs.row with e|e
  ·exact h.vlt j (by rw[←e];exact hj)
  ·exact Nat.le_trans h.size (e j hj)
theorem BF.below (h:BF k W ve va wr) (hb:Below wr.heap.size wr wr'):BF k W ve va wr':=h.step (yw.below ve hb)
theorem BF.acc (h:BF k W ve va wr) (hg:wr.grownBy wr' va.ownBlock) (hat:va'.ownBlock=va.ownBlock\/∃g,va'.ownBlock=some g/\wr.heap.size<=g) (u:Value) (o:Nat):BF k W ve va' (wr'.setCell ⟨k,o,none⟩ u):=by
 refine⟨by rw[World.size_setCell];exact Nat.le_trans h.size hg.size,λj hj hk=>?_,h.vlt,λj hj=>?_⟩
 ·refine(Below.heap_setCell _ _ _ _ (λe=>hk (by simpa using e))).trans ((hg.block j (Nat.lt_of_lt_of_le hj h.size) λe=>?_).trans (h.block j hj hk));have:=h.alt j e.symm;omega
 ·rcases hat with e|⟨g,e,hgs⟩
  ·exact h.alt j (by rw[←e];exact hj)
  ·rw[e]at hj;have:=Option.some.inj hj;have:=h.size;omega
theorem BF.setSt (h:BF k W ve va wr) (u:Value) (o:Nat):BF k W ve va (wr.setCell ⟨k,o,none⟩ u) :=
 ⟨by rw[World.size_setCell];exact h.size,λj hj hk=>(Below.heap_setCell _ _ _ _ (λe=>hk (by simpa using e))).trans (h.block j hj hk),h.vlt,h.alt⟩
end
def qk (p:Nat->Bool) (k:Nat):Nat->Bool:=λj=>p j||j==k
theorem xw {p:Nat->Bool} {k j:Nat}:qk p k j=true<->p j=true\/j=k:=by simp[qk]
theorem xI.mk0 {q:Nat->Bool} {k:Nat} {w0 W:World} {st:Int} {va:Value} (hk:w0.heap.size<=k) (hq:q k=true) (hblk:W.heap[k]? = some (.cells #[.int .i64 st,.slice none 0 0,va,.bool false] 134 (0,0))) (hb:Below w0.heap.size w0 W):xI q k w0 W st [] (.slice none 0 0) va :=
 ⟨hk,hq,hblk,Enc.Own.nil _ _ _ _ _,hb⟩
theorem zM.mk0 {p:Nat->Bool} {k:Nat} {w0 W:World} {st:Int} (hk:w0.heap.size<=k) (hblk:W.heap[k]? = some (.cells #[.int .i64 st,.slice none 0 0,.slice none 0 0,.bool false] 134 (0,0))) (hb:Below w0.heap.size w0 W):zM (qk p k) k w0 W st [] [] (.slice none 0 0) (.slice none 0 0) :=
 ⟨xI.mk0 hk (ze.2 (Or.inl (xw.2 (Or.inr rfl)))) hblk hb,Enc.Own.nil _ _ _ _ _⟩
theorem zcM {p:Nat->Bool} {k:Nat} {w0:World} (hk:w0.heap.size<=k):∀j,j<w0.heap.size->qk p k j=true->p j=true:=λj hj h=>(xw.1 h).elim id λe=>by omega
def XI (p:Nat->Bool) (k:Nat) (w0:World) (n:zm) (e:Ending) (w':World):Prop :=
 e=.returned (.tuple #[])/\∃(q:Nat->Bool) (ve:Value) (aa:Option Addr) (ca:Nat),(∀j,p j=true->q j=true)/\xI q k w0 w' n.states n.edges ve (.slice aa n.accept.length ca)/\IntsIn (World.hide w' p) n.accept aa ca
theorem zM.post {p:Nat->Bool} {k:Nat} {w0 w':World} {n:zm} {st:Int} {L:List zn} {A:List Int} {ve va:Value} (h:zM (qk p k) k w0 w' st L A ve va) (hp:∀j,p j=true->j<w0.heap.size) (h1:n.states=st) (h2:n.edges=L) (h3:n.accept=A) (hA:A.length<=1073741824):XI p k w0 n (.returned (.tuple #[])) w':=by subst h1 h2 h3;obtain⟨a,c,rfl,hin⟩:=h.a.sliceR hA (λj hj=>xw.2 (Or.inl hj)) hp;exact⟨rfl,_,ve,a,c,λj hj=>ze.2 (Or.inl (xw.2 (Or.inl hj))),h.e,qI.1 hin⟩
theorem qn.ends {K:Nat} {n:zm} (h:qn K n):zmi n:=λe he=>by have h1:=(yj.1 ((zz.1 h.ok).2.1 e he)).1;have:=h.st;omega
theorem qn.acc {K:Nat} {n:zm} (h:qn K n):∀a∈n.accept,1<=a/\a<=256:=λa ha=>by have h1:=((qM.1 (zz.1 h.ok).2.2).1 a ha);have:=h.st;have:=h.ac a ha;omega
theorem zaS (fn:Func) (c:Nat) (hr:fn.results=#[.cell c 24]) (W:World) (tm:Array Value) (b:Nat) (m0 m1 m2 m3:Value) (hW:W.heap[b]? = some (.cells #[m0,m1,m2,m3] 24 (0,0))) (h0:tm.getD c undef=.pointer (some ⟨b,0,none⟩)) :
 (results fn tm).run Tryz.prog W=.ok (.agg #[m0,m1,m2,m3]) W:=by
 have c0:=zc hW 0;have c1:=zc hW 1;have c2:=zc hW 2;have c3:=zc hW 3;simp at c0 c1 c2 c3;rw[xH hr,h0];simp[asAddr];go_simp
theorem zah (g:FuncId) (eg:∀args w,(callFunc g args).run Tryz.prog w=.ok (.enter g args) w) (lb:Array Value) (F:Ex->Ex) (op n:Int) (s:ByteArray) (args:List Ex) (ea:Option Addr) (ec:Nat) (w:World) (hX:yY w (.mk op n s args) ea ec)
 (hP:∀k (hk:k<args.length),∀a c W,Below w.heap.size w W->yY W (args[k]'hk) a c->Calls Tryz.prog g (#[yu (args[k]'hk) a c]++lb) W (yp W (F (args[k]'hk)))) :
 Calls Tryz.prog 250 #[.agg #[.int .i64 op,.int .i64 n,.string s,.slice ea args.length ec],.func (.func g) #[] lb] w (yp w (.mk op n s (args.map F))):=by
 have hsz:=hX.1;have hE:=hX.2;simp only[Ex.name_mk,Ex.args_mk]at hsz hE;have HIH:Hid (∀k (hk:k<args.length),∀a c W,Below w.heap.size w W->yY W (args[k]'hk) a c->Calls Tryz.prog g (#[yu (args[k]'hk) a c]++lb) W (yp W (F (args[k]'hk)))):=hP;have hlen:=hE.2.1;have HEl:Hid (args.length=0\/∃b off,ea=some ⟨b,off,none⟩):=hE.addr;have HE:=Lib.hid hE;have HP:Hid (∀a c W,Z6 (World.hide W (old w.heap.size)) (args.map F) a c->Below w.heap.size w W->yp w (.mk op n s (args.map F)) (.returned (.agg #[.int .i64 op,.int .i64 n,.string s,.slice a args.length c])) W):=λa c W h1 h2=>⟨⟨a,c,by unfold yu;simp only[Ex.op_mk,Ex.n_mk,Ex.name_mk,Ex.args_mk,List.length_map],hsz,h1⟩,h2⟩;clear hX hE hP hsz;unfold yp at HIH;generalize yp w (.mk op n s (args.map F))=Po at HP⊢;have HFLl:Hid ((args.map F).length=args.length):=List.length_map _;have HFLg:Hid (∀k (hk:k<args.length) (h:k<(args.map F).length),(args.map F)[k]'h=F (args[k]'hk)):=λk hk h=>List.getElem_map _;generalize args.map F=FL at HP HFLl HFLg;go_enter Tryz.func250, Tryz.ntmps250;go_wp2_with fail;generalize hW2:(w.alloc (.cells #[.int .i64 op,.int .i64 n,.string s,.slice ea args.length ec] 24)).alloc (.cells #[.int .i64 0,.int .i64 0,.string ⟨#[]⟩,.slice none 0 0] 24)=W2;have hz2:w.heap.size+2<=W2.heap.size:=by rw[←hW2];simp
 have hz2b:W2.heap.size<=w.heap.size+2:=by rw[←hW2];simp
 have HB2:Hid (Below w.heap.size w W2):=by show Below _ _ _;rw[←hW2];exact yx
 have HX2:Hid (W2.heap[w.heap.size]? = some (.cells #[.int .i64 op,.int .i64 n,.string s,.slice ea args.length ec] 24 (0,0))):=by show _=_;rw[←hW2];exact zk (zh rfl)
 have HR2:Hid (W2.heap[w.heap.size+1]? = some (.cells #[.int .i64 0,.int .i64 0,.string ⟨#[]⟩,.slice none 0 0] 24 (0,0))):=by show _=_;rw[←hW2];exact zh (by simp)
 clear hW2;have b3:=zc HX2.out 3;simp at b3;go_wp2_with fail;clear b3;go_loopw [11,5,7] (λi v _ wr=>∃(k:Nat),i=.int .i64 k/\k<=args.length/\Hid (exE.Own 24 (old W2.heap.size) wr W2.heap.size v (FL.take k))/\Hid (Below W2.heap.size W2 wr)) (λi _ _ _=>args.length-(intOf i).toNat);case atStart=>exact⟨0,rfl,Nat.zero_le _,Enc.Own.nil _ _ _ _ _,Below.refl _ _⟩
 case round =>
  obtain⟨k,rfl,hk,HO,HBr⟩:=hrel;have HBw:=Lib.hid (HB2.out.trans (HBr.out.mono (by omega)));have hzr:=HBr.out.size;have HLk:Hid ((FL.take k).length=k):=List.length_take_of_le (by rw[HFLl.out];exact hk);by_cases hlt:k<args.length
  ·obtain⟨bE,oE,hEa⟩:=HEl.out.resolve_left (by omega);have HE':Hid (Z6 w args (some ⟨bE,oE,none⟩) ec):=by show Z6 _ _ _ _;rw[←hEa];exact HE.out
   obtain⟨xa,xc,g0,g1,g2,g3,hX⟩:=(HE'.out.keep (za HBw.out)).get rfl hlt;have HXe:=Lib.hid hX;have HC:=Lib.hid (λW (hW:Below wr.heap.size wr W)=>HIH.out k hlt xa xc W (HBw.out.trans (hW.mono HBw.out.size)) (hX.keep (za hW)));subst hEa;have HLx:Hid (FL.take k++[F (args[k]'hlt)]=FL.take (k+1)):=by show _=_;rw[List.take_succ_eq_append_getElem (by rw[HFLl.out];exact hlt),HFLg.out k hlt]
   obtain⟨va,vc,hv,_⟩:=HO.out.slice (by rw[HLk.out];omega);rw[HLk.out]at hv;subst hv;have HVo:Hid (∀q,(Value.slice va k vc).ownBlock=some q->W2.heap.size<=q/\q<wr.heap.size):=by obtain⟨xs,h1,_⟩:=HO.out;exact h1.lt
   clear hX;generalize (args[k]'hlt)=y at g0 g1 g2 g3 HXe HC HLx;unfold yu at HC;generalize F y=fy at HC HLx;go_wp2_with fail;refine(HC.out _ yx).mono ?_;rintro r w5 ⟨⟨a',c',rfl,hx5⟩,hb5⟩;have HX5:=Lib.hid hx5;have hz5:=hb5.size;simp only[World.size_alloc]at hz5;have HW5:Hid (Below wr.heap.size wr w5):=((Below.refl wr.heap.size wr).alloc (Nat.le_refl _) _).trans (hb5.mono (by simp));have HO5:=Lib.hid (HO.out.below HW5.out);clear hx5 hb5 g0 g1 g2 g3;go_wp2_with (at_builtin;go_must (refine yi (E:=exE) Xk _ rfl (.tmp 15) (.tmp 19) rfl (old W2.heap.size) W2.heap.size _ rfl HO5.out fy [.int .i64 fy.op,.int .i64 fy.n,.string fy.name,.slice a' fy.args.length c'] ⟨a',c',rfl,HX5.out.keep (zR ?hm)⟩ _ _ rfl rfl k HLk.out (by omega) (by omega) ?_));case hm =>
    intro q hq;rcases ze.1 hq with hq|hq
    ·have:=yh.1 hq;exact yh.2 (by simp;omega)
    ·have:=(HVo.out q hq).2;exact yh.2 (by simp;omega)
   intro g cap w7 ho hg hat
   rw[HLx.out]at ho;have HO7:=Lib.hid ho;have HB7:Hid (Below W2.heap.size W2 w7):=Below.grown (HBr.out.trans (HW5.out.mono hzr)) hg (by omega) (λq hq=>(HVo.out q hq).1);clear ho hg hat HLx;go_wp2_with fail;go_roundw;case rel=>exact⟨k+1,by go_num,by omega,HO7.out,HB7.out⟩
   case measure=>(simp[intOf];try omega)
  ·obtain rfl:k=args.length:=by omega
   obtain⟨va,vc,hv,hes⟩:=HO.out.sliceP (by rw[HLk.out];omega) (λk hk=>by
    cases h9:old W2.heap.size k with
    |false=>rfl
    |true=>have:=yh.1 h9;omega)
   rw[HLk.out]at hv;subst hv;rw[←HFLl.out,List.take_length]at hes;have HS:Hid (Z6 (World.hide wr (old W2.heap.size)) FL va vc):=zg3.1 hes;have hx:wr.heap[w.heap.size]? = some (.cells #[.int .i64 op,.int .i64 n,.string s,.slice ea args.length ec] 24 (0,0)):=(HBr.out.block _ (by omega)).trans HX2.out;have hr:wr.heap[w.heap.size+1]? = some (.cells #[.int .i64 0,.int .i64 0,.string ⟨#[]⟩,.slice none 0 0] 24 (0,0)):=(HBr.out.block _ (by omega)).trans HR2.out;have HR:=Lib.hid hr;have HBe:=Lib.hid HBw.out;have b0:=zc hx 0;have b1:=zc hx 1;have b2:=zc hx 2;have b3:=zc hx 3;have r0:=zc hr 0;have r1:=zc hr 1;have r2:=zc hr 2;have r3:=zc hr 3;simp at b0 b1 b2 b3 r0 r1 r2 r3;have q3:wr.frozen? ⟨w.heap.size,3,none⟩=false:=by simp[World.frozen?,hx]
   have f0:wr.frozen? ⟨w.heap.size+1,0,none⟩=false:=by simp[World.frozen?,hr]
   have f1:wr.frozen? ⟨w.heap.size+1,1,none⟩=false:=by simp[World.frozen?,hr]
   have f2:wr.frozen? ⟨w.heap.size+1,2,none⟩=false:=by simp[World.frozen?,hr]
   have f3:wr.frozen? ⟨w.heap.size+1,3,none⟩=false:=by simp[World.frozen?,hr]
   clear hx hr hes;have HRb:=Lib.hid HR.out;go_wp2_with fail;have hrb:(wr.setCell ⟨w.heap.size,3,none⟩ (.slice va args.length vc)).heap[w.heap.size+1]? = some (.cells #[.int .i64 0,.int .i64 0,.string ⟨#[]⟩,.slice none 0 0] 24 (0,0)):=by rw[Below.heap_setCell _ ⟨w.heap.size,3,none⟩ _ (w.heap.size+1) (by show w.heap.size+1≠w.heap.size;omega)];exact HRb.out
   have o0:old W2.heap.size w.heap.size=true:=yh.2 (by omega);have o1:old W2.heap.size (w.heap.size+1)=true:=yh.2 (by omega);refine bodyPost_ret (v:=.agg #[.int .i64 op,.int .i64 n,.string s,.slice va args.length vc]) (zaS _ 4 rfl _ _ (w.heap.size+1) _ _ _ _ (zal hrb) rfl) rfl ?_;refine HP.out va vc _ ?_ ?_
   ·exact HS.out.keep (Kp.trans (zj o0) (Kp.trans (zj o1) (Kp.trans (zj o1) (Kp.trans (zj o1) (Kp.trans (zj o1) (zR λk hk=>yh.2 (by have:=yh.1 hk;omega)))))))
   ·exact((((HBe.out.setCell (Nat.le_refl _) _).setCell (by simp) _).setCell (by simp) _).setCell (by simp) _).setCell (by simp) _
theorem QT {w W w':World} {e:Ex} {a:Option Addr} {c b:Nat} (hb:Below w.heap.size w W) (hbk:w.heap.size<=b) (hbW:b<W.heap.size) (h2:yY (World.hide w' (old W.heap.size)) e a c) (h3:Below W.heap.size W w') (u0 u1 u2 u3:Value) :
 yY (World.hide ((((w'.setCell ⟨b,0,none⟩ u0).setCell ⟨b,1,none⟩ u1).setCell ⟨b,2,none⟩ u2).setCell ⟨b,3,none⟩ u3) (old w.heap.size)) e a c/\Below w.heap.size w ((((w'.setCell ⟨b,0,none⟩ u0).setCell ⟨b,1,none⟩ u1).setCell ⟨b,2,none⟩ u2).setCell ⟨b,3,none⟩ u3):=by
 have o1:old W.heap.size b=true:=yh.2 hbW;refine⟨h2.keep (Kp.trans (zj o1) (Kp.trans (zj o1) (Kp.trans (zj o1) (Kp.trans (zj o1) (zR λk hk=>yh.2 (by have:=yh.1 hk;have:=hb.size;omega)))))),?_⟩;exact((((hb.trans (h3.mono hb.size)).setCell hbk _).setCell hbk _).setCell hbk _).setCell hbk _
theorem zfp (e:Ex):∀(ea:Option Addr) (ec:Nat) (w:World),yY w e ea ec->Calls Tryz.prog 249 #[yu e ea ec] w (yp w e):=by
 have eg:∀args w,(callFunc 249 args).run Tryz.prog w=.ok (.enter 249 args) w:=enters_of Tryz.func249 (by kernel_rfl) rfl
 induction e using Ex.ind with
 |h e ih =>
  intro ea ec w hX;obtain⟨op,n,s,args⟩:=e;simp only[Ex.args_mk]at ih;have HR:Hid (∀W,Below w.heap.size w W->Calls Tryz.prog 250 #[.agg #[.int .i64 op,.int .i64 n,.string s,.slice ea args.length ec],.func (.func 249) #[] #[]] W (yp W (.mk op n s args))):=λW hW=>by
   have:=zah 249 eg #[] id op n s args ea ec W (hX.keep (za hW)) λk hk a c W2 _ h=>by have h2:=ih _ (List.getElem_mem hk) a c W2 h;exact h2
   rwa [List.map_id]at this
  have HP:Hid (∀a c W,yY (World.hide W (old w.heap.size)) (.mk op n s args) a c->Below w.heap.size w W->yp w (.mk op n s args) (.returned (.agg #[.int .i64 op,.int .i64 n,.string s,.slice a args.length c])) W):=λa c W h1 h2=>⟨⟨a,c,rfl,h1⟩,h2⟩;clear ih eg;have HX:=Lib.hid hX;clear hX;unfold yp at HR;simp only[yu,Ex.op_mk,Ex.n_mk,Ex.name_mk,Ex.args_mk]at HR⊢;generalize yp w (.mk op n s args)=Po at HP⊢;go_enter Tryz.func249, Tryz.ntmps249;go_wp2_with fail;generalize hW2:(w.alloc (.cells #[.int .i64 op,.int .i64 n,.string s,.slice ea args.length ec] 24)).alloc (.cells #[.int .i64 0,.int .i64 0,.string ⟨#[]⟩,.slice none 0 0] 24)=W2;have HB2:Hid (Below w.heap.size w W2):=by show Below _ _ _;rw[←hW2];exact yx
  have hr:W2.heap[w.heap.size+1]? = some (.cells #[.int .i64 0,.int .i64 0,.string ⟨#[]⟩,.slice none 0 0] 24 (0,0)):=by rw[←hW2];exact zh (by simp)
  have hz2:w.heap.size+1<W2.heap.size:=by rw[←hW2];simp
  clear hW2;refine(HR.out _ HB2.out).mono ?_;rintro r w5 ⟨⟨a',c',rfl,hx5⟩,hb5⟩;have r5:=(hb5.block _ hz2).trans hr;have d0:=zc r5 0;have d1:=zc r5 1;have d2:=zc r5 2;have d3:=zc r5 3;simp at d0 d1 d2 d3;have f0:w5.frozen? ⟨w.heap.size+1,0,none⟩=false:=by simp[World.frozen?,r5]
  have f1:w5.frozen? ⟨w.heap.size+1,1,none⟩=false:=by simp[World.frozen?,r5]
  have f2:w5.frozen? ⟨w.heap.size+1,2,none⟩=false:=by simp[World.frozen?,r5]
  have f3:w5.frozen? ⟨w.heap.size+1,3,none⟩=false:=by simp[World.frozen?,r5]
  have HR5:=Lib.hid r5;have HO:=Lib.hid (QT HB2.out (by omega) hz2 hx5 hb5);clear r5 hx5 hb5 hr;go_wp2_with fail;refine bodyPost_ret (v:=.agg #[.int .i64 op,.int .i64 n,.string s,.slice a' args.length c']) (zaS _ 2 rfl _ _ (w.heap.size+1) _ _ _ _ (zal HR5.out) rfl) rfl ?_;exact HP.out _ _ _ (HO.out _ _ _ _).1 (HO.out _ _ _ _).2
theorem zgb (nm:ByteArray) (by_:Ex) (ba:Option Addr) (bc b1 b2:Nat) (x R:Ex) (a:Option Addr) (c:Nat) (w:World) (h1:w.cell? ⟨b1,0,none⟩=some (.string nm)) (h2:w.heap[b2]? = some (.cells #[.int .i64 by_.op,.int .i64 by_.n,.string by_.name,.slice ba by_.args.length bc] 24 (0,0)))
 (hS:∀W,Below w.heap.size w W->Calls Tryz.prog 208 #[yu x a c,.string nm,yu by_ ba bc] W (yp W R)) :
 Calls Tryz.prog 251 #[yu x a c,.pointer (some ⟨b1,0,none⟩),.pointer (some ⟨b2,0,none⟩)] w (yp w R):=by
 have HS:=Lib.hid hS;have HP:Hid (∀a c W,yY (World.hide W (old w.heap.size)) R a c->Below w.heap.size w W->yp w R (.returned (.agg #[.int .i64 R.op,.int .i64 R.n,.string R.name,.slice a R.args.length c])) W):=λa c W h1 h2=>⟨⟨a,c,rfl,h1⟩,h2⟩;clear hS;have q0:=zc h2 0;have q1:=zc h2 1;have q2:=zc h2 2;have q3:=zc h2 3;simp at q0 q1 q2 q3;have hb1:=qF h1;have hb2:=lt_of_block h2;simp only at hb1;unfold yp at HS;unfold yu at HS⊢;generalize yp w R=Po at HP⊢;have m1:∀o o2,((w.alloc o).alloc o2).cell? ⟨b1,0,none⟩=some (.string nm):=λo o2=>Lib.cell?_alloc_some _ (Lib.cell?_alloc_some _ h1);have m2:∀o o2,((w.alloc o).alloc o2).cell? ⟨b2,0,none⟩=some (.int .i64 by_.op):=λo o2=>Lib.cell?_alloc_some _ (Lib.cell?_alloc_some _ q0);have m3:∀o o2,((w.alloc o).alloc o2).cell? ⟨b2,1,none⟩=some (.int .i64 by_.n):=λo o2=>Lib.cell?_alloc_some _ (Lib.cell?_alloc_some _ q1);have m4:∀o o2,((w.alloc o).alloc o2).cell? ⟨b2,2,none⟩=some (.string by_.name):=λo o2=>Lib.cell?_alloc_some _ (Lib.cell?_alloc_some _ q2);have m5:∀o o2,((w.alloc o).alloc o2).cell? ⟨b2,3,none⟩=some (.slice ba by_.args.length bc):=λo o2=>Lib.cell?_alloc_some _ (Lib.cell?_alloc_some _ q3);clear q0 q1 q2 q3 h1 h2;go_enter Tryz.func251, Tryz.ntmps251;go_wp2_with fail;generalize hW2:(w.alloc (.cells #[.int .i64 x.op,.int .i64 x.n,.string x.name,.slice a x.args.length c] 24)).alloc (.cells #[.int .i64 0,.int .i64 0,.string ⟨#[]⟩,.slice none 0 0] 24)=W2
 have HB2:Hid (Below w.heap.size w W2):=by show Below _ _ _;rw[←hW2];exact yx
 have hr:W2.heap[w.heap.size+1]? = some (.cells #[.int .i64 0,.int .i64 0,.string ⟨#[]⟩,.slice none 0 0] 24 (0,0)):=by rw[←hW2];exact zh (by simp)
 have hz2:w.heap.size+1<W2.heap.size:=by rw[←hW2];simp
 clear hW2 m1 m2 m3 m4 m5;refine(HS.out _ HB2.out).mono ?_;rintro r w5 ⟨⟨a',c',rfl,hx5⟩,hb5⟩;have r5:=(hb5.block _ hz2).trans hr;have d0:=zc r5 0;have d1:=zc r5 1;have d2:=zc r5 2;have d3:=zc r5 3;simp at d0 d1 d2 d3;have f0:w5.frozen? ⟨w.heap.size+1,0,none⟩=false:=by simp[World.frozen?,r5]
 have f1:w5.frozen? ⟨w.heap.size+1,1,none⟩=false:=by simp[World.frozen?,r5]
 have f2:w5.frozen? ⟨w.heap.size+1,2,none⟩=false:=by simp[World.frozen?,r5]
 have f3:w5.frozen? ⟨w.heap.size+1,3,none⟩=false:=by simp[World.frozen?,r5]
 have HR5:=Lib.hid r5;have HO:=Lib.hid (QT HB2.out (by omega) hz2 hx5 hb5);clear r5 hx5 hb5 hr;go_wp2_with fail;refine bodyPost_ret (v:=.agg #[.int .i64 R.op,.int .i64 R.n,.string R.name,.slice a' R.args.length c']) (zaS _ 4 rfl _ _ (w.heap.size+1) _ _ _ _ (zal HR5.out) rfl) rfl ?_;exact HP.out _ _ _ (HO.out _ _ _ _).1 (HO.out _ _ _ _).2
theorem zij (nm:ByteArray) (by_:Ex) (ba:Option Addr) (bc:Nat) (e:Ex):∀(ea:Option Addr) (ec:Nat) (w:World),yY w e ea ec->yY w by_ ba bc->Calls Tryz.prog 208 #[yu e ea ec,.string nm,yu by_ ba bc] w (yp w (xB nm by_ e)):=by
 have eg:∀args w,(callFunc 251 args).run Tryz.prog w=.ok (.enter 251 args) w:=enters_of Tryz.func251 (by kernel_rfl) rfl
 induction e using Ex.ind with
 |h e ih =>
  intro ea ec w hX hBy;obtain⟨op,n,s,args⟩:=e;simp only[Ex.args_mk]at ih;have HC:Hid (∀W,Below w.heap.size w W->Calls Tryz.prog 249 #[yu by_ ba bc] W (yp W by_)):=λW hW=>zfp by_ ba bc W (hBy.keep (za hW));have HR:Hid (∀W,Below w.heap.size w W->∀b1 b2,W.cell? ⟨b1,0,none⟩=some (.string nm)->W.heap[b2]? = some (.cells #[.int .i64 by_.op,.int .i64 by_.n,.string by_.name,.slice ba by_.args.length bc] 24 (0,0))->Calls Tryz.prog 250 #[.agg #[.int .i64 op,.int .i64 n,.string s,.slice ea args.length ec],.func (.func 251) #[] #[.pointer (some ⟨b1,0,none⟩),.pointer (some ⟨b2,0,none⟩)]] W (yp W (.mk op n s (args.map (xB nm by_))))):=λW hW b1 b2 h1 h2=>by refine zah 251 eg _ (xB nm by_) op n s args ea ec W (hX.keep (za hW)) λk hk a c W2 hW2 h=>?_;refine zgb nm by_ ba bc b1 b2 (args[k]'hk) _ a c W2 (za hW2 _ _ h1) ((hW2.block b2 (lt_of_block h2)).trans h2) λW3 hW3=>?_;exact ih _ (List.getElem_mem hk) a c W3 (h.keep (za hW3)) (hBy.keep (za (hW.trans ((hW2.trans (hW3.mono hW2.size)).mono hW.size))))
  have hsub:=zas nm by_ (.mk op n s args);simp only[Ex.op_mk,Ex.n_mk,Ex.name_mk,Ex.args_mk]at hsub;have HP:Hid (∀(R:Ex) a c W,xB nm by_ (.mk op n s args)=R->yY (World.hide W (old w.heap.size)) R a c->Below w.heap.size w W->yp w (xB nm by_ (.mk op n s args)) (.returned (.agg #[.int .i64 R.op,.int .i64 R.n,.string R.name,.slice a R.args.length c])) W):=λR a c W h0 h1 h2=>by subst h0;exact⟨⟨a,c,rfl,h1⟩,h2⟩
  have HSub:Hid (xB nm by_ (.mk op n s args)=if op=2/\s=nm then by_ else .mk op n s (args.map (xB nm by_))):=hsub;clear ih eg hX hBy hsub;unfold yp at HR HC;unfold yu at HR HC⊢;simp only[Ex.op_mk,Ex.n_mk,Ex.name_mk,Ex.args_mk]at HR⊢;generalize args.map (xB nm by_)=L2 at HR HSub;generalize hsb:xB nm by_ (.mk op n s args)=SB at HP HSub;generalize yp w SB=Po at HP⊢;clear hsb;by_cases hyes:op=2/\s=nm
  ·have HE:Hid (SB=by_):=by show _=_;rw[HSub.out,if_pos hyes]
   obtain⟨rfl,rfl⟩:=hyes;clear HR HSub;go_enter Tryz.func208, Tryz.ntmps208;go_wp2_with fail;generalize hW2:(((w.alloc (.cells #[.int .i64 2,.int .i64 n,.string s,.slice ea args.length ec] 24)).alloc (.cells #[.string s] 9)).alloc (.cells #[.int .i64 by_.op,.int .i64 by_.n,.string by_.name,.slice ba by_.args.length bc] 24)).alloc (.cells #[.int .i64 0,.int .i64 0,.string ⟨#[]⟩,.slice none 0 0] 24)=W2;have HB2:Hid (Below w.heap.size w W2):=by show Below _ _ _;rw[←hW2];exact yx
   have hr:W2.heap[w.heap.size+3]? = some (.cells #[.int .i64 0,.int .i64 0,.string ⟨#[]⟩,.slice none 0 0] 24 (0,0)):=by rw[←hW2];exact zh (by simp)
   have hz2:w.heap.size+3<W2.heap.size:=by rw[←hW2];simp
   clear hW2;refine(HC.out _ HB2.out).mono ?_;rintro r w5 ⟨⟨a',c',rfl,hx5⟩,hb5⟩;have r5:=(hb5.block _ hz2).trans hr;have d0:=zc r5 0;have d1:=zc r5 1;have d2:=zc r5 2;have d3:=zc r5 3;simp at d0 d1 d2 d3;have f0:w5.frozen? ⟨w.heap.size+3,0,none⟩=false:=by simp[World.frozen?,r5]
   have f1:w5.frozen? ⟨w.heap.size+3,1,none⟩=false:=by simp[World.frozen?,r5]
   have f2:w5.frozen? ⟨w.heap.size+3,2,none⟩=false:=by simp[World.frozen?,r5]
   have f3:w5.frozen? ⟨w.heap.size+3,3,none⟩=false:=by simp[World.frozen?,r5]
   have HR5:=Lib.hid r5;have HO:=Lib.hid (QT HB2.out (by omega) hz2 hx5 hb5);clear r5 hx5 hb5 hr;go_wp2_with fail;refine bodyPost_ret (v:=.agg #[.int .i64 by_.op,.int .i64 by_.n,.string by_.name,.slice a' by_.args.length c']) (zaS _ 6 rfl _ _ (w.heap.size+3) _ _ _ _ (zal HR5.out) rfl) rfl ?_;exact HP.out _ _ _ _ HE.out (HO.out _ _ _ _).1 (HO.out _ _ _ _).2
  ·have HE:Hid (SB=.mk op n s L2):=by show _=_;rw[HSub.out,if_neg hyes]
   clear HC HSub;have hcase:op≠2\/(op=2/\¬s.toList=nm.toList):=by
    by_cases h:op=2
    ·exact Or.inr ⟨h,λh2=>hyes ⟨h,by rw[ByteArray.toList_eq,ByteArray.toList_eq]at h2;exact zgC h2⟩⟩
    ·exact Or.inl h
   clear hyes;have hc2:op=2->(s.toList==nm.toList)=false:=λh=>by
    rcases hcase with h2|h2
    ·exact absurd h h2
    ·exact beq_eq_false_iff_ne.2 h2.2
   rcases hcase with hc|⟨rfl,hc⟩
   ·go_enter Tryz.func208, Tryz.ntmps208;go_wp2_with fail;generalize hW2:(((w.alloc (.cells #[.int .i64 op,.int .i64 n,.string s,.slice ea args.length ec] 24)).alloc (.cells #[.string nm] 9)).alloc (.cells #[.int .i64 by_.op,.int .i64 by_.n,.string by_.name,.slice ba by_.args.length bc] 24)).alloc (.cells #[.int .i64 0,.int .i64 0,.string ⟨#[]⟩,.slice none 0 0] 24)=W2;have HB2:Hid (Below w.heap.size w W2):=by show Below _ _ _;rw[←hW2];exact yx
    have hr:W2.heap[w.heap.size+3]? = some (.cells #[.int .i64 0,.int .i64 0,.string ⟨#[]⟩,.slice none 0 0] 24 (0,0)):=by rw[←hW2];exact zh (by simp)
    have hz2:w.heap.size+3<W2.heap.size:=by rw[←hW2];simp
    have hn1:W2.cell? ⟨w.heap.size+1,0,none⟩=some (.string nm):=by rw[←hW2];exact Lib.cell?_alloc_some _ (Lib.cell?_alloc_some _ (by rw[zc (zh (by simp)) 0];rfl))
    have hn2:W2.heap[w.heap.size+2]? = some (.cells #[.int .i64 by_.op,.int .i64 by_.n,.string by_.name,.slice ba by_.args.length bc] 24 (0,0)):=by rw[←hW2];exact zk (zh (by simp))
    clear hW2;refine(HR.out _ HB2.out _ _ hn1 hn2).mono ?_;rintro r w5 ⟨⟨a',c',rfl,hx5⟩,hb5⟩;have r5:=(hb5.block _ hz2).trans hr;have d0:=zc r5 0;have d1:=zc r5 1;have d2:=zc r5 2;have d3:=zc r5 3;simp at d0 d1 d2 d3;have f0:w5.frozen? ⟨w.heap.size+3,0,none⟩=false:=by simp[World.frozen?,r5]
    have f1:w5.frozen? ⟨w.heap.size+3,1,none⟩=false:=by simp[World.frozen?,r5]
    have f2:w5.frozen? ⟨w.heap.size+3,2,none⟩=false:=by simp[World.frozen?,r5]
    have f3:w5.frozen? ⟨w.heap.size+3,3,none⟩=false:=by simp[World.frozen?,r5]
    have HR5:=Lib.hid r5;have HO:=Lib.hid (QT HB2.out (by omega) hz2 hx5 hb5);clear r5 hx5 hb5 hr;go_wp2_with fail;refine bodyPost_ret (v:=.agg #[.int .i64 (Ex.mk op n s L2).op,.int .i64 (Ex.mk op n s L2).n,.string (Ex.mk op n s L2).name,.slice a' (Ex.mk op n s L2).args.length c']) (zaS _ 6 rfl _ _ (w.heap.size+3) _ _ _ _ (zal HR5.out) rfl) rfl ?_;exact HP.out _ _ _ _ HE.out (HO.out _ _ _ _).1 (HO.out _ _ _ _).2
   ·have hc3:=hc2 rfl;clear hc2;go_enter Tryz.func208, Tryz.ntmps208;go_wp2_with fail;generalize hW2:(((w.alloc (.cells #[.int .i64 2,.int .i64 n,.string s,.slice ea args.length ec] 24)).alloc (.cells #[.string nm] 9)).alloc (.cells #[.int .i64 by_.op,.int .i64 by_.n,.string by_.name,.slice ba by_.args.length bc] 24)).alloc (.cells #[.int .i64 0,.int .i64 0,.string ⟨#[]⟩,.slice none 0 0] 24)=W2;have HB2:Hid (Below w.heap.size w W2):=by show Below _ _ _;rw[←hW2];exact yx
    have hr:W2.heap[w.heap.size+3]? = some (.cells #[.int .i64 0,.int .i64 0,.string ⟨#[]⟩,.slice none 0 0] 24 (0,0)):=by rw[←hW2];exact zh (by simp)
    have hz2:w.heap.size+3<W2.heap.size:=by rw[←hW2];simp
    have hn1:W2.cell? ⟨w.heap.size+1,0,none⟩=some (.string nm):=by rw[←hW2];exact Lib.cell?_alloc_some _ (Lib.cell?_alloc_some _ (by rw[zc (zh (by simp)) 0];rfl))
    have hn2:W2.heap[w.heap.size+2]? = some (.cells #[.int .i64 by_.op,.int .i64 by_.n,.string by_.name,.slice ba by_.args.length bc] 24 (0,0)):=by rw[←hW2];exact zk (zh (by simp))
    clear hW2;refine(HR.out _ HB2.out _ _ hn1 hn2).mono ?_;rintro r w5 ⟨⟨a',c',rfl,hx5⟩,hb5⟩;have r5:=(hb5.block _ hz2).trans hr;have d0:=zc r5 0;have d1:=zc r5 1;have d2:=zc r5 2;have d3:=zc r5 3;simp at d0 d1 d2 d3;have f0:w5.frozen? ⟨w.heap.size+3,0,none⟩=false:=by simp[World.frozen?,r5]
    have f1:w5.frozen? ⟨w.heap.size+3,1,none⟩=false:=by simp[World.frozen?,r5]
    have f2:w5.frozen? ⟨w.heap.size+3,2,none⟩=false:=by simp[World.frozen?,r5]
    have f3:w5.frozen? ⟨w.heap.size+3,3,none⟩=false:=by simp[World.frozen?,r5]
    have HR5:=Lib.hid r5;have HO:=Lib.hid (QT HB2.out (by omega) hz2 hx5 hb5);clear r5 hx5 hb5 hr;go_wp2_with fail;refine bodyPost_ret (v:=.agg #[.int .i64 (Ex.mk 2 n s L2).op,.int .i64 (Ex.mk 2 n s L2).n,.string (Ex.mk 2 n s L2).name,.slice a' (Ex.mk 2 n s L2).args.length c']) (zaS _ 6 rfl _ _ (w.heap.size+3) _ _ _ _ (zal HR5.out) rfl) rfl ?_;exact HP.out _ _ _ _ HE.out (HO.out _ _ _ _).1 (HO.out _ _ _ _).2
end Go.Proofs.YthojpomoflhbcaaGreatDoor
