/- nfa.builder: done. -/
import Derived.Test.YthojpomoflhbcaaGreatDoorN14
import Derived.Laws.ResultCell
import Derived.Test.YthojpomoflhbcaaGreatDoorN08
set_option linter.unusedSimpArgs false
set_option linter.unusedVariables false
set_option linter.unnecessarySimpa false
namespace Go.Proofs.YthojpomoflhbcaaGreatDoor
open Go.RowKit
attribute [local go_sem ↓] Go.wp_at_zero Go.wp_at_succ
theorem nfa_res (fn:Func) (hr:fn.results=#[.cell 2 33,.tmp 3]) (W:World) (tm:Array Value) (b:Nat) (m0 m1 m2 e:Value) (hW:W.heap[b]? = some (.cells #[m0,m1,m2] 33 (0,0))) (h0:tm.getD 2 undef=.pointer (some ⟨b,0,none⟩)) (h1:tm.getD 3 undef=e) :
  (results fn tm).run Tryz.prog W=.ok (.tuple #[.agg #[m0,m1,m2],e]) W:=by
 have c0:=cell_of_blkT hW 0
 have c1:=cell_of_blkT hW 1
 have c2:=cell_of_blkT hW 2
 simp at c0 c1 c2
 rw[results_cell_tmp hr,h0,h1]
 simp[asAddr]
 go_simp
theorem set3 {w:World} {b:Nat} {z0 z1 z2 u0 u1 u2:Value} {t:TypeId} (h:w.heap[b]? = some (.cells #[z0,z1,z2] t (0,0))) :
  (((w.setCell ⟨b,0,none⟩ u0).setCell ⟨b,1,none⟩ u1).setCell ⟨b,2,none⟩ u2).heap[b]? = some (.cells #[u0,u1,u2] t (0,0)):=by
 have h0:=heap_setCell_same _ b 0 _ t u0 h
 have h1:=heap_setCell_same _ b 1 _ t u1 h0
 have h2:=heap_setCell_same _ b 2 _ t u2 h1
 rw[h2];rfl
theorem Enc.Own.sliceR {τ:Type} {E:Enc τ} {t:TypeId} {q p:Nat→Bool} {w:World} {B:Nat} {v:Value} {l:List τ} (h:E.Own t q w B v l) (hn:l.length≤1073741824) (hpq:∀ k,p k=true→q k=true) (hp:∀ k,p k=true→k < B):∃ a cap,v=.slice a l.length cap∧E.In (World.hide w p) l a cap:=by
 obtain⟨xs,h1,h2⟩:=h
 refine Enc.Own.sliceP (t:=t) (B:=B) ⟨xs,h1,h2.keep (hide_mono fun k hk=>?_)⟩ hn fun k hk=>?_
 ·exact(hid_true.1 hk).elim (fun h=>hid_true.2 (Or.inl (hpq k h))) fun h=>hid_true.2 (Or.inr h)
 ·cases e:p k with
  | false=>rfl
  | true=>have:=hp k e;omega
def NfaRet (p:Nat→Bool) (r:Option NfaD) (w:World) (e:Ending) (w':World):Prop :=
 (match r with
  | some n=>∃ x,e=.returned (.tuple #[nfaVal n x,.int .i64 0])∧NfaIn (World.hide w' p) n x
  | none=>e=.returned (.tuple #[.agg #[.int .i64 0,.slice none 0 0,.slice none 0 0],.int .i64 2]))∧Below w.heap.size w w'
theorem NfaRet.yes {p:Nat→Bool} {n:NfaD} {x:NfaA} {w w':World} (h:NfaIn (World.hide w' p) n x) (hb:Below w.heap.size w w'):NfaRet p (some n) w (.returned (.tuple #[nfaVal n x,.int .i64 0])) w':=⟨⟨x,rfl,h⟩,hb⟩
theorem NfaRet.no {p:Nat→Bool} {w w':World} (hb:Below w.heap.size w w'):NfaRet p none w (.returned (.tuple #[.agg #[.int .i64 0,.slice none 0 0,.slice none 0 0],.int .i64 2])) w':=⟨rfl,hb⟩
set_option maxHeartbeats 8000000 in
set_option maxRecDepth 100000 in
theorem done_any {q p:Nat→Bool} {k:Nat} {w0 w:World} {st:Int} {L:List EdgeD} {A:List Int} {ve:Value} {aa:Option Addr} {ca:Nat} (hB:BldE q k w0 w st L ve (.slice aa A.length ca)) (hpq:∀ j,p j=true→q j=true) (hp:∀ j,p j=true→j < w0.heap.size)
  (hA:IntsIn (World.hide w p) A aa ca) (hG:Glob w) (hs:SmallN ⟨st,L,A⟩) :
  Calls Tryz.prog 90 #[.pointer (some ⟨k,0,none⟩)] w (NfaRet p (doneN ⟨st,L,A⟩) w):=by
 have hLl:(L.take 4097).length=min 4097 L.length:=List.length_take
 obtain⟨ea,ec,hv,hEp⟩:=hB.es.sliceR (by omega) hpq hp
 have hblk:=hB.blk
 have hk:=hB.klt
 have c0:w.cell? ⟨k,0,none⟩=some (.int .i64 st):=by simp[World.cell?,hblk]
 have c1:w.cell? ⟨k,1,none⟩=some ve:=by simp[World.cell?,hblk]
 have c2:w.cell? ⟨k,2,none⟩=some (.slice aa A.length ca):=by simp[World.cell?,hblk]
 have c3:w.cell? ⟨k,3,none⟩=some (.bool (decide (4097 < L.length))):=by simp[World.cell?,hblk]
 rw[hv] at c1
 have HNo:Hid (nfaOk ⟨st,L,A⟩=false→∀ w',Below w.heap.size w w'→NfaRet p (doneN ⟨st,L,A⟩) w (.returned (.tuple #[.agg #[.int .i64 0,.slice none 0 0,.slice none 0 0],.int .i64 2])) w'):=fun h w' hb=>by
  unfold doneN;rw[h];exact NfaRet.no hb
 have HYes:Hid (nfaOk ⟨st,L,A⟩=true→L.take 4097=L→∀ w',Below w.heap.size w w'→NfaRet p (doneN ⟨st,L,A⟩) w (.returned (.tuple #[.agg #[.int .i64 st,.slice ea (L.take 4097).length ec,.slice aa A.length ca],.int .i64 0])) w'):=fun h ht w' hb=>by
  unfold doneN;rw[if_pos h,ht]
  have hkk:=hide_below (p:=p) (q:=p) hb fun _ _ h=>h
  rw[ht] at hEp
  exact NfaRet.yes (n:=⟨st,L,A⟩) (x:=⟨ea,ec,aa,ca⟩) ⟨hEp.keep hkk,hA.keep hkk⟩ hb
 have hbig:4096 < L.length→nfaOk ⟨st,L,A⟩=false:=fun h=>by
  cases e:nfaOk ⟨st,L,A⟩ with
  | false=>rfl
  | true=>have:=(nfaOk_iff.1 e).1.2.2;simp only at this;omega
 generalize NfaRet p (doneN ⟨st,L,A⟩) w=Po at HNo HYes⊢
 have hz0:(w.alloc (.cells #[.int .i64 0,.slice none 0 0,.slice none 0 0] 33)).heap[w.heap.size]? = some (.cells #[.int .i64 0,.slice none 0 0,.slice none 0 0] 33 (0,0)):=hx_newT rfl
 by_cases hf:4097 < L.length
 ·have HN:=Lib.hid (HNo.out (hbig (by omega)))
  rw[decide_eq_true hf] at c3
  clear HNo HYes hbig hLl hv hEp hB hA hs hpq hp hblk hf
  go_enter Tryz.func90, Tryz.ntmps90
  go_wp2_with fail
  refine bodyPost_ret (v:=.tuple #[.agg #[.int .i64 0,.slice none 0 0,.slice none 0 0],.int .i64 2]) (nfa_res _ rfl _ _ w.heap.size _ _ _ _ hz0 rfl rfl) rfl ?_
  exact HN.out _ ((Below.refl _ _).alloc (Nat.le_refl _) _)
 ·rw[decide_eq_false hf] at c3
  have hnx:nfaOk ⟨st,L,A⟩=nfaOk ⟨st,L.take 4097,A⟩:=by rw[List.take_of_length_le (by omega)]
  have HV:Hid (∀ W,Below w.heap.size w W→Calls Tryz.prog 32 #[.agg #[.int .i64 st,.slice ea (L.take 4097).length ec,.slice aa A.length ca]] W fun e' w'=>e'=.returned (.bool (nfaOk ⟨st,L,A⟩))∧Below W.heap.size W w'):=fun W hW=>by
   rw[hnx]
   exact nvalid_any ⟨st,L.take 4097,A⟩ ⟨ea,ec,aa,ca⟩ W (hG.below hW) ⟨hEp.keep (fun a u h=>keeps_of_below hW _ _ (hide_cell _ _ h)),hA.keep (fun a u h=>keeps_of_below hW _ _ (hide_cell _ _ h))⟩ fun e he=>hs e (List.mem_of_mem_take he)
  have HT:Hid (nfaOk ⟨st,L,A⟩=true→L.take 4097=L):=fun h=>List.take_of_length_le (by have:=(nfaOk_iff.1 h).1.2.2;simp only at this;omega)
  clear hbig hLl hv hEp hB hA hs hpq hp hblk hf hnx
  have HY0:Hid (nfaOk ⟨st,L,A⟩=true→∀ w',Below w.heap.size w w'→Po (.returned (.tuple #[.agg #[.int .i64 st,.slice ea (L.take 4097).length ec,.slice aa A.length ca],.int .i64 0])) w'):=fun h=>HYes.out h (HT.out h)
  clear HYes HT
  generalize (L.take 4097).length=n4 at c1 HV HY0
  cases hn:nfaOk ⟨st,L,A⟩ with
  | false =>
   have HN:=Lib.hid (HNo.out hn)
   rw[hn] at HV
   clear HNo HY0 hn
   go_enter Tryz.func90, Tryz.ntmps90
   go_wp2_with (go_at_call 32;go_must (refine(HV.out _ bel).mono ?_;rintro e w5 ⟨rfl,hb5⟩;have hB5:Below w.heap.size w w5:=((Below.refl w.heap.size w).alloc (Nat.le_refl _) _).trans (hb5.mono (by simp));have e0:=(hB5.cell (p:=⟨k,0,none⟩) hk).trans c0;have e1:=(hB5.cell (p:=⟨k,1,none⟩) hk).trans c1;have e2:=(hB5.cell (p:=⟨k,2,none⟩) hk).trans c2;have r5:=(hb5.block w.heap.size (by simp)).trans hz0;have f0:w5.frozen? ⟨w.heap.size,0,none⟩=false:=(by simp[World.frozen?,r5]);have f1:w5.frozen? ⟨w.heap.size,1,none⟩=false:=(by simp[World.frozen?,r5]);have f2:w5.frozen? ⟨w.heap.size,2,none⟩=false:=(by simp[World.frozen?,r5]);have d0:=cell_of_blkT r5 0;have d1:=cell_of_blkT r5 1;have d2:=cell_of_blkT r5 2;(simp at d0 d1 d2);have HR5:=Lib.hid r5;have HB5:=Lib.hid hB5;clear r5 hB5 hb5))
   refine bodyPost_ret (v:=.tuple #[.agg #[.int .i64 0,.slice none 0 0,.slice none 0 0],.int .i64 2]) (nfa_res _ rfl _ _ w.heap.size _ _ _ _ (set3 HR5.out) rfl rfl) rfl ?_
   exact HN.out _ (((HB5.out.setCell (Nat.le_refl _) _).setCell (Nat.le_refl _) _).setCell (Nat.le_refl _) _)
  | true =>
   have HY:=Lib.hid (HY0.out hn)
   rw[hn] at HV
   clear HNo HY0 hn
   go_enter Tryz.func90, Tryz.ntmps90
   go_wp2_with (go_at_call 32;go_must (refine(HV.out _ bel).mono ?_;rintro e w5 ⟨rfl,hb5⟩;have hB5:Below w.heap.size w w5:=((Below.refl w.heap.size w).alloc (Nat.le_refl _) _).trans (hb5.mono (by simp));have e0:=(hB5.cell (p:=⟨k,0,none⟩) hk).trans c0;have e1:=(hB5.cell (p:=⟨k,1,none⟩) hk).trans c1;have e2:=(hB5.cell (p:=⟨k,2,none⟩) hk).trans c2;have r5:=(hb5.block w.heap.size (by simp)).trans hz0;have f0:w5.frozen? ⟨w.heap.size,0,none⟩=false:=(by simp[World.frozen?,r5]);have f1:w5.frozen? ⟨w.heap.size,1,none⟩=false:=(by simp[World.frozen?,r5]);have f2:w5.frozen? ⟨w.heap.size,2,none⟩=false:=(by simp[World.frozen?,r5]);have d0:=cell_of_blkT r5 0;have d1:=cell_of_blkT r5 1;have d2:=cell_of_blkT r5 2;(simp at d0 d1 d2);have HR5:=Lib.hid r5;have HB5:=Lib.hid hB5;clear r5 hB5 hb5))
   refine bodyPost_ret (v:=.tuple #[.agg #[.int .i64 st,.slice ea n4 ec,.slice aa A.length ca],.int .i64 0]) (nfa_res _ rfl _ _ w.heap.size _ _ _ _ (set3 HR5.out) rfl rfl) rfl ?_
   exact HY.out _ (((HB5.out.setCell (Nat.le_refl _) _).setCell (Nat.le_refl _) _).setCell (Nat.le_refl _) _)
end Go.Proofs.YthojpomoflhbcaaGreatDoor
namespace Go.Proofs.YthojpomoflhbcaaGreatDoor
open Go.RowKit
theorem elemIN:Elem Tryz.prog 31 3 1:=Elem.of Tryz.underlying31 (by kernel_rfl) (z:=.int .i64 0) (bytes:=8) rfl (by decide) (by decide)
theorem inR_w {w w':World} {l:List Int} {xs:List Value} (h:inE.Vals w l xs):inE.Vals w' l xs:=⟨h.1,fun i hi=>by obtain⟨vs,h1,h2⟩:=h.2 i hi;exact⟨vs,h1,h2⟩⟩
theorem inOwn_iff {p:Nat→Bool} {w:World} {B:Nat} {v:Value} {l:List Int}:inE.Own 3 p w B v l↔∃ xs,w.ownsRow B 3 1 v l.length xs∧inE.Vals w l xs :=
 ⟨fun ⟨xs,h1,h2⟩=>⟨xs,h1,inR_w h2⟩,fun ⟨xs,h1,h2⟩=>⟨xs,h1,inR_w h2⟩⟩
theorem inOwn_q {p q:Nat→Bool} {w:World} {B:Nat} {v:Value} {l:List Int} (h:inE.Own 3 p w B v l):inE.Own 3 q w B v l:=inOwn_iff.2 (inOwn_iff.1 h)
structure BldS (q:Nat→Bool) (k:Nat) (w0 w:World) (st:Int) (L:List EdgeD) (A:List Int) (ve va:Value):Prop where
 e:BldE (hid q va) k w0 w st L ve va
 a:inE.Own 3 q w w0.heap.size va A
section
variable {q : Nat → Bool} {k : Nat} {w0 w w' : World} {st : Int} {L L' : List EdgeD} {A : List Int} {ve ve' va : Value}
theorem BldS.alt (h:BldS q k w0 w st L A ve va):∀ j,va.ownBlock=some j→w0.heap.size≤j∧j < w.heap.size:=own_vlt h.a
theorem BldS.ane (h:BldS q k w0 w st L A ve va):some k≠va.ownBlock:=by
 obtain⟨xs,h1,_⟩:=h.a
 exact ownsRow_ne h1 h.e.blk (by decide)
theorem BldS.eane (h:BldS q k w0 w st L A ve va):∀ j,ve.ownBlock=some j→va.ownBlock≠some j:=by
 intro j hj e
 obtain⟨xs,h1,_⟩:=h.e.es
 obtain⟨ys,h2,_⟩:=h.a
 rcases h2.2 with ⟨rfl,_⟩ | ⟨g,cap,cur,rfl,hb,hg,_⟩
 ·simp[Value.ownBlock] at e
 ·have:=ownsRow_ne h1 hg (by decide)
  exact this (by rw[hj];exact e)
theorem BldS.step (h:BldS q k w0 w st L A ve va) (he:BldE (hid q va) k w0 w' st L' ve' va) (hs:BStep k w ve w' ve'):BldS q k w0 w' st L' A ve' va:=by
 refine⟨he,?_⟩
 obtain⟨xs,h1,h2⟩:=inOwn_iff.1 h.a
 obtain⟨ys,h3,_⟩:=h.e.es
 exact inOwn_iff.2 ⟨xs,hs.own h1 h3 h.e.blk (by decide) (by decide),inR_w h2⟩
theorem BldS.below (h:BldS q k w0 w st L A ve va) (hb:Below w.heap.size w w'):BldS q k w0 w' st L A ve va:=h.step (h.e.below hb) (BStep.below ve hb)
theorem BldS.sz (h:BldS q k w0 w st L A ve va):w0.heap.size≤w.heap.size:=h.e.bel.size
theorem BldS.kp {p:Nat→Bool} (h:BldS q k w0 w st L A ve va) (hqp:∀ j,j < w0.heap.size→q j=true→p j=true):Kp (World.hide w0 p) (World.hide w (hid (hid q va) ve)):=hide_below h.e.bel fun j hj hq=>by
 rcases hid_true.1 hq with h1 | h1
 ·rcases hid_true.1 h1 with h2 | h2
  ·exact hqp j hj h2
  ·have:=(h.alt j h2).1;omega
 ·have:=(h.e.vlt j h1).1;omega
theorem BldE.eq {va:Value} (h:BldE q k w0 w st L ve va) (h1:L'.take 4097=L.take 4097) (h2:4097 < L'.length↔4097 < L.length):BldE q k w0 w st L' ve va:=by
 refine⟨h.kB,h.qk,?_,by rw[h1];exact h.es,h.bel⟩
 rw[h.blk]
 by_cases hc:4097 < L.length
 ·rw[decide_eq_true hc,decide_eq_true (h2.2 hc)]
 ·rw[decide_eq_false hc,decide_eq_false (fun e=>hc (h2.1 e))]
theorem BldE.full {va:Value} (h:BldE q k w0 w st L ve va) (hL:4097 < L.length) (M:List EdgeD):BldE q k w0 w st (L++M) ve va :=
 h.eq (List.take_append_of_le_length (by omega)) (by rw[List.length_append];omega)
theorem BldS.full (h:BldS q k w0 w st L A ve va) (hL:4097 < L.length) (M:List EdgeD):BldS q k w0 w st (L++M) A ve va:=⟨h.e.full hL M,h.a⟩
theorem BldS.setSt (h:BldS q k w0 w st L A ve va) (s2:Int):BldS q k w0 (w.setCell ⟨k,0,none⟩ (.int .i64 s2)) s2 L A ve va:=by
 refine⟨⟨h.e.kB,h.e.qk,?_,BldE.esSet h.e.qk h.e.ne h.e.es,h.e.bel.setCell h.e.kB _⟩,?_⟩
 ·rw[blk_set h.e.blk 0];rfl
 ·obtain⟨xs,h1,h2⟩:=inOwn_iff.1 h.a
  exact inOwn_iff.2 ⟨xs,ownsRow_setCell_other h1 (fun e=>h.ane e.symm) _,inR_w h2⟩
theorem BldS.acc {A':List Int} {v':Value} (h:BldS q k w0 w st L A ve va) (ho:inE.Own 3 q w' w0.heap.size v' A') (hg:w.grownBy w' va.ownBlock) (hat:v'.ownBlock=va.ownBlock∨∃ g,v'.ownBlock=some g∧w.heap.size≤g):BldS q k w0 (w'.setCell ⟨k,2,none⟩ v') st L A' ve v':=by
 have hk:=h.e.klt
 have hkn:some k≠v'.ownBlock:=by
  rcases hat with e | ⟨g,e,hgs⟩
  ·rw[e];exact h.ane
  ·rw[e];intro e2;have:=Option.some.inj e2;omega
 have hblk:w'.heap[k]? = some (.cells #[.int .i64 st,ve,va,.bool (decide (4097 < L.length))] 134 (0,0)):=(hg.block k hk h.ane).trans h.e.blk
 have hve:∀ j,ve.ownBlock=some j→v'.ownBlock≠some j:=fun j hj e2=>by
  rcases hat with e | ⟨g,e,hgs⟩
  ·exact h.eane j hj (by rw[← e,e2])
  ·rw[e2] at e
   have:=(h.e.vlt j hj).2
   have:=Option.some.inj e
   omega
 have hes:edE.Own 69 (hid q v') w' w0.heap.size ve (L.take 4097):=by
  obtain⟨xs,h1,h2⟩:=h.e.es
  refine⟨xs,h1.kept hg ?_,h2.keep (hide_grown hg (fun j hj=>hid_true.2 (Or.inl (hid_true.2 (Or.inr hj)))) fun j hj hq=>?_)⟩
  ·cases e:ve.ownBlock with
   | none=>exact Or.inl rfl
   | some j=>exact Or.inr fun e2=>h.eane j e e2.symm
  ·rcases hid_true.1 hq with h3 | h3
   ·rcases hid_true.1 h3 with h4 | h4
    ·exact hid_true.2 (Or.inl (hid_true.2 (Or.inl h4)))
    ·rcases hat with e | ⟨g,e,hgs⟩
     ·exact hid_true.2 (Or.inl (hid_true.2 (Or.inr (by rw[← e];exact h4))))
     ·rw[e] at h4;have:=Option.some.inj h4;omega
   ·exact hid_true.2 (Or.inr h3)
 have hqk:hid q v' k=true:=by
  rcases hid_true.1 h.e.qk with e | e
  ·exact hid_true.2 (Or.inl e)
  ·exact absurd e.symm h.ane
 refine⟨⟨h.e.kB,hqk,?_,BldE.esSet hqk h.e.ne hes,?_⟩,?_⟩
 ·rw[blk_set hblk 2];rfl
 ·exact(h.e.bel.grown hg h.sz fun j hj=>(h.alt j hj).1).setCell h.e.kB _
 ·obtain⟨xs,h1,h2⟩:=inOwn_iff.1 ho
  exact inOwn_iff.2 ⟨xs,ownsRow_setCell_other h1 (fun e=>hkn e.symm) _,inR_w h2⟩
end
structure BF (k:Nat) (W:World) (ve va:Value) (wr:World):Prop where
 size:W.heap.size≤wr.heap.size
 block:∀ j,j < W.heap.size→j≠k→wr.heap[j]? = W.heap[j]?
 vlt:∀ j,ve.ownBlock=some j→W.heap.size≤j
 alt:∀ j,va.ownBlock=some j→W.heap.size≤j
section
variable {k : Nat} {W wr wr' : World} {ve ve' va va' : Value}
theorem BF.refl (k:Nat) (W:World):BF k W (.slice none 0 0) (.slice none 0 0) W:=⟨Nat.le_refl _,fun _ _ _=>rfl,fun j h=>by simp[Value.ownBlock] at h,fun j h=>by simp[Value.ownBlock] at h⟩
theorem BF.step (h:BF k W ve va wr) (hs:BStep k wr ve wr' ve'):BF k W ve' va wr':=by
 refine⟨Nat.le_trans h.size hs.size,fun j hj hk=>?_,fun j hj=>?_,h.alt⟩
 ·exact(hs.block j (Nat.lt_of_lt_of_le hj h.size) hk fun e=>by have:=h.vlt j e;omega).trans (h.block j hj hk)
 ·rcases hs.row with e | e
  ·exact h.vlt j (by rw[← e];exact hj)
  ·exact Nat.le_trans h.size (e j hj)
theorem BF.below (h:BF k W ve va wr) (hb:Below wr.heap.size wr wr'):BF k W ve va wr':=h.step (BStep.below ve hb)
theorem BF.acc (h:BF k W ve va wr) (hg:wr.grownBy wr' va.ownBlock) (hat:va'.ownBlock=va.ownBlock∨∃ g,va'.ownBlock=some g∧wr.heap.size≤g) (u:Value) (o:Nat):BF k W ve va' (wr'.setCell ⟨k,o,none⟩ u):=by
 refine⟨by rw[World.size_setCell];exact Nat.le_trans h.size hg.size,fun j hj hk=>?_,h.vlt,fun j hj=>?_⟩
 ·refine(Below.heap_setCell _ _ _ _ (fun e=>hk (by simpa using e))).trans ((hg.block j (Nat.lt_of_lt_of_le hj h.size) fun e=>?_).trans (h.block j hj hk))
  have:=h.alt j e.symm;omega
 ·rcases hat with e | ⟨g,e,hgs⟩
  ·exact h.alt j (by rw[← e];exact hj)
  ·rw[e] at hj;have:=Option.some.inj hj;have:=h.size;omega
theorem BF.setSt (h:BF k W ve va wr) (u:Value) (o:Nat):BF k W ve va (wr.setCell ⟨k,o,none⟩ u) :=
 ⟨by rw[World.size_setCell];exact h.size,fun j hj hk=>(Below.heap_setCell _ _ _ _ (fun e=>hk (by simpa using e))).trans (h.block j hj hk),h.vlt,h.alt⟩
end
def qk (p:Nat→Bool) (k:Nat):Nat→Bool:=fun j=>p j || j == k
theorem qk_true {p:Nat→Bool} {k j:Nat}:qk p k j=true↔p j=true∨j=k:=by simp[qk]
theorem BldE.mk0 {q:Nat→Bool} {k:Nat} {w0 W:World} {st:Int} {va:Value} (hk:w0.heap.size≤k) (hq:q k=true) (hblk:W.heap[k]? = some (.cells #[.int .i64 st,.slice none 0 0,va,.bool false] 134 (0,0))) (hb:Below w0.heap.size w0 W):BldE q k w0 W st [] (.slice none 0 0) va :=
 ⟨hk,hq,hblk,Enc.Own.nil _ _ _ _ _,hb⟩
theorem BldS.mk0 {p:Nat→Bool} {k:Nat} {w0 W:World} {st:Int} (hk:w0.heap.size≤k) (hblk:W.heap[k]? = some (.cells #[.int .i64 st,.slice none 0 0,.slice none 0 0,.bool false] 134 (0,0))) (hb:Below w0.heap.size w0 W):BldS (qk p k) k w0 W st [] [] (.slice none 0 0) (.slice none 0 0) :=
 ⟨BldE.mk0 hk (hid_true.2 (Or.inl (qk_true.2 (Or.inr rfl)))) hblk hb,Enc.Own.nil _ _ _ _ _⟩
theorem qk_old {p:Nat→Bool} {k:Nat} {w0:World} (hk:w0.heap.size≤k):∀ j,j < w0.heap.size→qk p k j=true→p j=true:=fun j hj h=>(qk_true.1 h).elim id fun e=>by omega
def BldP (p:Nat→Bool) (k:Nat) (w0:World) (n:NfaD) (e:Ending) (w':World):Prop :=
 e=.returned (.tuple #[])∧∃ (q:Nat→Bool) (ve:Value) (aa:Option Addr) (ca:Nat),(∀ j,p j=true→q j=true)∧BldE q k w0 w' n.states n.edges ve (.slice aa n.accept.length ca)∧IntsIn (World.hide w' p) n.accept aa ca
theorem BldS.post {p:Nat→Bool} {k:Nat} {w0 w':World} {n:NfaD} {st:Int} {L:List EdgeD} {A:List Int} {ve va:Value} (h:BldS (qk p k) k w0 w' st L A ve va) (hp:∀ j,p j=true→j < w0.heap.size) (h1:n.states=st) (h2:n.edges=L) (h3:n.accept=A) (hA:A.length≤1073741824):BldP p k w0 n (.returned (.tuple #[])) w':=by
 subst h1 h2 h3
 obtain⟨a,c,rfl,hin⟩:=h.a.sliceR hA (fun j hj=>qk_true.2 (Or.inl hj)) hp
 exact⟨rfl,_,ve,a,c,fun j hj=>hid_true.2 (Or.inl (qk_true.2 (Or.inl hj))),h.e,inE_in.1 hin⟩
theorem RegN.ends {K:Nat} {n:NfaD} (h:RegN K n):EndsN n:=fun e he=>by
 have h1:=(edgeOk_iff.1 ((nfaOk_iff.1 h.ok).2.1 e he)).1
 have:=h.st
 omega
theorem RegN.acc {K:Nat} {n:NfaD} (h:RegN K n):∀ a∈n.accept,1≤a∧a≤256:=fun a ha=>by
 have h1:=((accB_iff.1 (nfaOk_iff.1 h.ok).2.2).1 a ha)
 have:=h.st
 have:=h.ac a ha
 omega
end Go.Proofs.YthojpomoflhbcaaGreatDoor
