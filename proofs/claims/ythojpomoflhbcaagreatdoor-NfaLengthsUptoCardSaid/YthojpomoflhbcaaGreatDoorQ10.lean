/- nfa.builder: an automaton under construction; add, moved. -/
import Derived.Test.YthojpomoflhbcaaGreatDoorQ09
import Derived.Test.YthojpomoflhbcaaGreatDoorQ06
import Derived.Deep.Cut
import Derived.Deep.RegionLaw
import Derived.Laws.OwnMore
import Derived.Lib.SliceRun
import Derived.Deep.LoopGhost
import Derived.Test.YthojpomoflhbcaaGreatDoorQ05
import Derived.Laws.IdiomCopy
set_option maxHeartbeats 8000000
set_option maxRecDepth 100000
set_option linter.unusedSimpArgs false
set_option linter.unusedVariables false
set_option linter.unnecessarySimpa false
namespace Go.Proofs.YthojpomoflhbcaaGreatDoor
open Go.RowKit
attribute [local go_sem ↓] Go.wp_at_zero Go.wp_at_succ
section
variable {τ : Type} {E : Enc τ} {w w' : World} {l : List τ}
theorem xR {P:Program} {ops:Array Oper} {o:Oper} {a:Act} {K:Act->World->Prop} {Q:Exit->Act->World->Prop} {X:Prop} {t e:TypeId} (he:Elem P t e E.sz) (hgd:o.guard=none) (s x:Operand)
 (ho:o.op=.call { callee:=.builtin .append,args:=#[s,x],argTypes:=#[t,t] })
 (p:Nat->Bool) (B:Nat) (v:Value) (hs:a.eval s=v) (hown:E.Own e p w B v l) (y:τ) (vs:List Value) (hR:E.R (World.hide w (hid p v)) y vs)
 (k c:Nat) (hx:a.eval x=.slice (some ⟨k,0,none⟩) 1 c) (hk:w.heap[k]? = some (.cells vs.toArray e (0,0))) (n:Nat) (hln:l.length=n) (hn:n+1<=1073741824) (hB:B<=w.heap.size) (H:Nat) (hH:w.heap.size=H)
 (h:∀g cap w',E.Own e p w' B (.slice (some ⟨g,0,none⟩) (n+1) cap) (l++[y])->w.grownBy w' v.ownBlock->(v.ownBlock=some g\/g=H)->g<w'.heap.size->K (a.put o.dst (.slice (some ⟨g,0,none⟩) (n+1) cap)) w') :
 if Region.wanted o (yielded ops a.tmps)=true then Oper.wp P o a w K Q else X:=by
 subst hln;obtain⟨ht,i,z,bytes,hi,hz,hsz,hby,hzs,h0,hb⟩:=he;obtain⟨xs,h1,h2⟩:=hown;refine step_append_lies w hgd s x t ho B e i z E.sz bytes ht hi hz hsz hby hzs h0 v l.length xs hs h1 ⟨k,0,none⟩ 1 c vs hx (by rw[E.len hR,Nat.one_mul]) ?_ (E.one hR) (by omega) (by unfold maxLen;omega) ?_ hB H hH (λg cap w' h3 h4 h5 h6=>?_)
 ·have:=World.news_of_block hk;simpa using this
 ·calc (l.length+1)*bytes<=1073741824*1024:=Nat.mul_le_mul hn hb
   _<=_:=by decide
 ·exact h g cap w' (Enc.Own.put h2 (Enc.Vals.one hR) h4 (h5.imp id (by omega)) h3 (by simp)) h4 h5 h6
end
structure xI (q:Nat->Bool) (k:Nat) (w0 w:World) (st:Int) (L:List zn) (ve va:Value):Prop where
 kB:w0.heap.size<=k
 qk:q k=true
 blk:w.heap[k]? = some (.cells #[.int .i64 st,ve,va,.bool (decide (4097<L.length))] 134 (0,0))
 es:edE.Own 69 q w w0.heap.size ve (L.take 4097)
 bel:Below w0.heap.size w0 w
structure yw (k:Nat) (w:World) (ve:Value) (w':World) (ve':Value):Prop where
 size:w.heap.size<=w'.heap.size
 block:∀j,j<w.heap.size->j≠k->ve.ownBlock≠some j->w'.heap[j]? = w.heap[j]?
 row:ve'.ownBlock=ve.ownBlock\/∀g,ve'.ownBlock=some g->w.heap.size<=g
theorem yw.refl (k:Nat) (w:World) (ve:Value):yw k w ve w ve:=⟨Nat.le_refl _,λ_ _ _ _=>rfl,Or.inl rfl⟩
theorem yw.trans {k:Nat} {w w1 w2:World} {v v1 v2:Value} (h:yw k w v w1 v1) (h2:yw k w1 v1 w2 v2):yw k w v w2 v2:=by
 refine⟨Nat.le_trans h.size h2.size,λj hj hk hv=>?_,?_⟩
 ·refine(h2.block j (Nat.lt_of_lt_of_le hj h.size) hk ?_).trans (h.block j hj hk hv);rcases h.row with e|e
  ·rw[e];exact hv
  ·intro e2;have:=e j e2;omega
 ·rcases h2.row with e|e
  ·rw[e];exact h.row
  ·exact Or.inr λg hg=>Nat.le_trans h.size (e g hg)
theorem yw.below {k:Nat} {w w':World} (v:Value) (hb:Below w.heap.size w w'):yw k w v w' v:=⟨hb.size,λj hj _ _=>hb.block j hj,Or.inl rfl⟩
theorem yw.kp {k:Nat} {w w':World} {v v':Value} {q q':Nat->Bool} (h:yw k w v w' v') (hk:q k=true) (hq:∀j,j<w.heap.size->q' j=true->q j=true):Kp (World.hide w (hid q v)) (World.hide w' (hid q' v')):=by
 intro a u ha;obtain⟨h1,h2⟩:=zy.1 ha;have hlt:=qF h2;have hne:a.block≠k:=λe=>by rw[e]at h1;have:hid q v k=true:=ze.2 (Or.inl hk);rw[this]at h1;simp at h1
 have hnv:v.ownBlock≠some a.block:=λe=>by have:hid q v a.block=true:=ze.2 (Or.inr e);rw[this]at h1;simp at h1
 refine zy.2 ⟨?_,?_⟩
 ·cases hp:hid q' v' a.block with
  |false=>rfl
  |true =>
   rcases ze.1 hp with e|e
   ·have:hid q v a.block=true:=ze.2 (Or.inl (hq _ hlt e));rw[this]at h1;simp at h1
   ·rcases h.row with e2|e2
    ·rw[e2]at e;exact absurd e hnv
    ·have:=e2 _ e;omega
 ·rw[World.cell?_of_block (h.block _ hlt hne hnv)];exact h2
theorem yw.own {k:Nat} {w w':World} {v v':Value} (h:yw k w v w' v') {B B':Nat} {t te:TypeId} {size:Nat} {u:Value} {n m:Nat} {xs ys:List Value} {z:Nat} {cs:Array Value} {tk:TypeId} {fz:Nat×Nat} (ho:w.ownsRow B t size u n xs) (he:w.ownsRow B' te z v m ys) (hk:w.heap[k]? = some (.cells cs tk fz)) (h1:te≠t) (h2:tk≠t):w'.ownsRow B t size u n xs:=by
 obtain⟨g1,g2⟩:=ho;refine⟨g1,g2.imp id ?_⟩;rintro ⟨g,cap,cur,hv,hg,hh,r⟩;refine⟨g,cap,cur,hv,hg,?_,r⟩;rw[h.block g (lt_of_block hh) ?_ ?_]
 ·exact hh
 ·rintro rfl;rw[hk]at hh;simp only[Option.some.injEq,Obj.cells.injEq]at hh;exact h2 hh.2.1
 ·intro e;exact zX he hh h1.symm e.symm
theorem xI.below {q:Nat->Bool} {k:Nat} {w0 w w':World} {st:Int} {L:List zn} {ve va:Value} (h:xI q k w0 w st L ve va) (hb:Below w.heap.size w w'):xI q k w0 w' st L ve va :=
 ⟨h.kB,h.qk,(hb.block k (lt_of_block h.blk)).trans h.blk,h.es.below hb,h.bel.trans (hb.mono h.bel.size)⟩
theorem xI.klt {q:Nat->Bool} {k:Nat} {w0 w:World} {st:Int} {L:List zn} {ve va:Value} (h:xI q k w0 w st L ve va):k<w.heap.size:=lt_of_block h.blk
theorem xI.ne {q:Nat->Bool} {k:Nat} {w0 w:World} {st:Int} {L:List zn} {ve va:Value} (h:xI q k w0 w st L ve va):some k≠ve.ownBlock:=by obtain⟨xs,h1,_⟩:=h.es;exact zX h1 h.blk (by decide)
theorem qc {w:World} {k:Nat} {c0 c1 c2 c3 u:Value} {t:TypeId} (h:w.heap[k]? = some (.cells #[c0,c1,c2,c3] t (0,0))) (o:Nat):(w.setCell ⟨k,o,none⟩ u).heap[k]? = some (.cells (#[c0,c1,c2,c3].setIfInBounds o u) t (0,0)):=heap_setCell_same _ k o _ t u h
theorem xI.esSet {q:Nat->Bool} {k:Nat} {w:World} {B:Nat} {L:List zn} {ve u:Value} {o:Nat} (hq:q k=true) (hne:some k≠ve.ownBlock) (h:edE.Own 69 q w B ve L):edE.Own 69 q (w.setCell ⟨k,o,none⟩ u) B ve L:=by obtain⟨xs,h1,h2⟩:=h;exact⟨xs,ownsRow_setCell_other h1 (λe=>hne e.symm) u,h2.keep (zj (ze.2 (Or.inl hq)))⟩
theorem yw.set {k:Nat} {w w':World} {v v':Value} (h:yw k w v w' v') (o:Nat) (u:Value):yw k w v (w'.setCell ⟨k,o,none⟩ u) v' :=
 ⟨by rw[World.size_setCell];exact h.size,λj hj hk hv=>(Below.heap_setCell _ _ _ _ (λe=>hk (by simpa using e))).trans (h.block j hj hk hv),h.row⟩
theorem yw.grown {k:Nat} {w w1 w':World} {v:Value} {g n cap:Nat} (hb:Below w.heap.size w w1) (hg:w1.grownBy w' v.ownBlock) (hat:v.ownBlock=some g\/w.heap.size<=g):yw k w v w' (.slice (some ⟨g,0,none⟩) n cap) :=
 ⟨Nat.le_trans hb.size hg.size,λj hj _ hv=>(hg.block j (Nat.lt_of_lt_of_le hj hb.size) (Ne.symm hv)).trans (hb.block j hj),hat.imp (λe=>e.symm) λe g' hg'=>by have:=Option.some.inj hg';simp only at this;omega⟩
def yl (q:Nat->Bool) (k:Nat) (w0 w:World) (st:Int) (L:List zn) (ve va:Value) (e:Ending) (w':World):Prop:=e=.returned (.tuple #[])/\∃ve',xI q k w0 w' st L ve' va/\yw k w ve w' ve'
theorem ZF {q:Nat->Bool} {k:Nat} {w0 w:World} {st:Int} {L:List zn} {ve va:Value} (hB:xI q k w0 w st L ve va) (e:zn) (ag:Option Addr) (cg:Nat) (aS:Option Addr) (cs:Nat)
 (h1:exE.In (World.hide w (hid q ve)) e.guards ag cg) (h2:bdE.In (World.hide w (hid q ve)) e.sets aS cs) :
 Calls Tryz.prog 136 #[.pointer (some ⟨k,0,none⟩),yT e ag cg aS cs] w (yl q k w0 w st (L++[e]) ve va):=by
 have hLl:(L.take 4097).length=min 4097 L.length:=List.length_take;obtain⟨a,cap,hv,_⟩:=hB.es.slice (by omega);have HB:=Lib.hid hB;have hk:=hB.klt;have hblk:=hB.blk;have HNe:=Lib.hid hB.ne;have HP:Hid (∀ve' w',xI q k w0 w' st (L++[e]) ve' va->yw k w ve w' ve'->yl q k w0 w st (L++[e]) ve va (.returned (.tuple #[])) w'):=λve' w' g1 g2=>⟨rfl,ve',g1,g2⟩;have HR:Hid (∀w',Below w.heap.size w w'->edR (World.hide w' (hid q ve)) e [.int .i64 e.fr,.int .i64 e.to,.slice ag e.guards.length cg,.slice aS e.sets.length cs]):=λw' hb=>by have hkk:=zg (p:=hid q ve) (q:=hid q ve) hb λ_ _ h=>h;exact⟨ag,cg,aS,cs,rfl,h1.keep hkk,h2.keep hkk⟩
 clear hB h1 h2;generalize yl q k w0 w st (L++[e]) ve va=Po at HP⊢;unfold yT;have c1:w.cell? ⟨k,1,none⟩=some ve:=by simp[World.cell?,hblk]
 rw[hv]at c1;have f1:w.frozen? ⟨k,1,none⟩=false:=by simp[World.frozen?,hblk]
 have f3:w.frozen? ⟨k,3,none⟩=false:=by simp[World.frozen?,hblk]
 have c3:w.cell? ⟨k,3,none⟩=some (.bool (decide (4097<L.length))):=by simp[World.cell?,hblk]
 have HBlk:=Lib.hid hblk;clear hblk;by_cases hbig:4096<L.length
 ·have hlt:¬((L.take 4097).length:Int)<=4096:=by omega
  have hlt2:(4096:Int)<((L.take 4097).length:Int):=by omega
  have HF:Hid (decide (4097<(L++[e]).length)=true):=decide_eq_true (by rw[List.length_append,List.length_singleton];omega);have HT:Hid ((L++[e]).take 4097=L.take 4097):=List.take_append_of_le_length (by omega);have HV:=Lib.hid hv;clear hv;generalize (L.take 4097).length=n at c1 hlt hlt2 HV;clear hLl hbig;go_enter Tryz.func136, Tryz.ntmps136;go_wp2_with fail;have HD:Hid (xI q k w0 ((w.setCell ⟨k,3,none⟩ (.bool true)).alloc (.cells #[.int .i64 e.fr,.int .i64 e.to,.slice ag e.guards.length cg,.slice aS e.sets.length cs] 69)) st (L++[e]) ve va):=by
   have hB1:=HB.out;have h:xI q k w0 (w.setCell ⟨k,3,none⟩ (.bool true)) st (L++[e]) ve va:=by
    refine⟨hB1.kB,hB1.qk,?_,?_,hB1.bel.setCell hB1.kB _⟩
    ·rw[qc hB1.blk 3,HF.out];rfl
    ·rw[HT.out];exact xI.esSet hB1.qk hB1.ne hB1.es
   exact h.below ((Below.refl _ _).alloc (Nat.le_refl _) _)
  have HS:Hid (yw k w ve ((w.setCell ⟨k,3,none⟩ (.bool true)).alloc (.cells #[.int .i64 e.fr,.int .i64 e.to,.slice ag e.guards.length cg,.slice aS e.sets.length cs] 69)) ve) :=
   ((yw.refl k w ve).set 3 _).trans (yw.below ve ((Below.refl _ _).alloc (Nat.le_refl _) _))
  first|exact HP.out _ _ HD.out HS.out|(refine bodyPost_ret (results_none rfl _ _ _) rfl ?_;exact HP.out _ _ HD.out HS.out)
 ·have hlt:((L.take 4097).length:Int)<=4096:=by omega
  have hlt2:¬(4096:Int)<((L.take 4097).length:Int):=by omega
  have HF:Hid (decide (4097<(L++[e]).length)=decide (4097<L.length)):=by show _=_;rw[List.length_append,List.length_singleton,decide_eq_false (by omega),decide_eq_false (by omega)]
  have HT:Hid ((L++[e]).take 4097=L.take 4097++[e]):=by show _=_;rw[List.take_of_length_le (by rw[List.length_append,List.length_singleton];omega),List.take_of_length_le (by omega)]
  have HLn:Hid ((L.take 4097).length=(L.take 4097).length):=rfl;have hn:(L.take 4097).length+1<=1073741824:=by omega
  have HV:=Lib.hid hv;clear hv;have c1o:∀o,(w.alloc o).cell? ⟨k,1,none⟩=some (.slice a (L.take 4097).length cap):=λo=>Lib.cell?_alloc_some _ c1;have f1o:∀o,(w.alloc o).frozen? ⟨k,1,none⟩=false:=λo=>(World.frozen?_alloc_old _ _ _ (Nat.ne_of_lt hk)).trans f1;have c1p:∀o o2,((w.alloc o).alloc o2).cell? ⟨k,1,none⟩=some (.slice a (L.take 4097).length cap):=λo o2=>Lib.cell?_alloc_some _ (c1o o);have hvn:¬(some k=ve.ownBlock):=HNe.out;obtain⟨L4,hL4⟩:∃L4,L.take 4097=L4:=⟨_,rfl⟩;rw[hL4]at c1 hlt hlt2 HT HLn hn HV c1o c1p;have HL4:=Lib.hid hL4;clear hL4 hLl;obtain⟨n,hnl⟩:∃n,L4.length=n:=⟨_,rfl⟩;rw[hnl]at c1 hlt hlt2 HLn hn HV c1o c1p;have HNl:=Lib.hid hnl;clear hnl hbig;go_enter Tryz.func136, Tryz.ntmps136;go_wp2_with fail;generalize hWc:w.alloc (.cells #[.int .i64 e.fr,.int .i64 e.to,.slice ag e.guards.length cg,.slice aS e.sets.length cs] 69)=wc;have hbc:Below w.heap.size w wc:=by rw[←hWc];exact(Below.refl _ _).alloc (Nat.le_refl _) _
  have b0:wc.cell? ⟨w.heap.size,0,none⟩=some (.int .i64 e.fr):=by rw[←hWc];simp
  have b1:wc.cell? ⟨w.heap.size,1,none⟩=some (.int .i64 e.to):=by rw[←hWc];simp
  have b2:wc.cell? ⟨w.heap.size,2,none⟩=some (.slice ag e.guards.length cg):=by rw[←hWc];simp
  have b3:wc.cell? ⟨w.heap.size,3,none⟩=some (.slice aS e.sets.length cs):=by rw[←hWc];simp
  have c1:wc.cell? ⟨k,1,none⟩=some (.slice a n cap):=by rw[←hWc];exact c1o _
  have f1:wc.frozen? ⟨k,1,none⟩=false:=by rw[←hWc];exact f1o _
  have hkc:k<wc.heap.size:=Nat.lt_of_lt_of_le hk hbc.size;have HBc:=Lib.hid (HB.out.below hbc);have Hbc:=Lib.hid hbc;have hzc:w.heap.size<wc.heap.size:=by rw[←hWc];simp
  have HRc:Hid (∀o,edR (World.hide ((wc.alloc o).drew) (hid q ve)) e [.int .i64 e.fr,.int .i64 e.to,.slice ag e.guards.length cg,.slice aS e.sets.length cs]):=λo=>HR.out _ (hbc.trans ((Below.drew ((Below.refl wc.heap.size wc).alloc (Nat.le_refl _) o)).mono hbc.size));have HOc:Hid (∀o,edE.Own 69 q ((wc.alloc o).drew) w0.heap.size ve L4):=λo=>by have:=(HBc.out.es).below (Below.drew ((Below.refl wc.heap.size wc).alloc (Nat.le_refl _) o));rwa [HL4.out]at this
  have c1o:∀o,(wc.alloc o).cell? ⟨k,1,none⟩=some (.slice a n cap):=λo=>Lib.cell?_alloc_some _ c1;have hBz:w0.heap.size<=wc.heap.size:=by have:=HBc.out.kB;omega
  clear hWc c1p HB HR HBlk f1o f3 c3 hbc;go_region_law ((refine xR (E:=edE) zgY (by rfl) _ _ (by rfl) q w0.heap.size (.slice a n cap) (by rfl) (by rw[←HV.out];exact HOc.out _) e [.int .i64 e.fr,.int .i64 e.to,.slice ag e.guards.length cg,.slice aS e.sets.length cs] (by rw[←HV.out];exact HRc.out _) wc.heap.size 1 (by rfl) (zi wc _) n HNl.out hn (by simp;omega) (wc.heap.size+1) (by simp) ?_;intro gg gcap wg hownG hgrow hatG hltG;have f1g:wg.frozen? ⟨k,1,none⟩=false:=((hgrow.frozen_far ⟨k,1,none⟩ (by simp;omega) (by rw[←HV.out];exact hvn)).trans (World.frozen?_alloc_old _ _ _ (Nat.ne_of_lt hkc))).trans f1;have c1g:wg.cell? ⟨k,1,none⟩=some (.slice a n cap):=(hgrow.cell_far ⟨k,1,none⟩ (by simp;omega) (by rw[←HV.out];exact hvn)).trans (c1o _)));all_goals go_wp2_with fail
  all_goals
   have hkg:k≠gg:=by
    rcases hatG with h|h
    ·rintro rfl;exact hvn (by rw[HV.out];exact h.symm)
    ·omega
   have hblk:wg.heap[k]? = some (.cells #[.int .i64 st,ve,va,.bool (decide (4097<L.length))] 134 (0,0)):=by rw[hgrow.block k (by simp;omega) (by rw[←HV.out];exact hvn)];exact(Below.drew ((Below.refl wc.heap.size wc).alloc (Nat.le_refl _) _)).block k hkc ▸ HBc.out.blk
   have hD:xI q k w0 (wg.setCell ⟨k,1,none⟩ (.slice (some ⟨gg,0,none⟩) (n+1) gcap)) st (L++[e]) (.slice (some ⟨gg,0,none⟩) (n+1) gcap) va:=by
    refine⟨HBc.out.kB,HBc.out.qk,?_,?_,?_⟩
    ·rw[qc hblk 1,HF.out];rfl
    ·rw[HT.out];exact xI.esSet HBc.out.qk (λh=>hkg (Option.some.inj h)) hownG
    ·refine Below.setCell ?_ HBc.out.kB _;refine Below.grown (Below.drew (HBc.out.bel.alloc hBz _)) hgrow (by simp;omega) λj hj=>?_;obtain⟨xs,hx,_⟩:=HBc.out.es;rw[←HV.out]at hj;exact(hx.lt j hj).1
   have hS:yw k w ve (wg.setCell ⟨k,1,none⟩ (.slice (some ⟨gg,0,none⟩) (n+1) gcap)) (.slice (some ⟨gg,0,none⟩) (n+1) gcap):=by
    refine yw.set (yw.grown (w1:=(wc.alloc _).drew) (Hbc.out.trans ((Below.drew ((Below.refl wc.heap.size wc).alloc (Nat.le_refl _) _)).mono Hbc.out.size)) (by rw[HV.out];exact hgrow) ?_) 1 _;rcases hatG with h|h
    ·exact Or.inl (by rw[HV.out];exact h)
    ·exact Or.inr (by omega)
   have HD:=Lib.hid hD;have HS:=Lib.hid hS;first|exact HP.out _ _ HD.out HS.out|(refine bodyPost_ret (results_none rfl _ _ _) rfl ?_;exact HP.out _ _ HD.out HS.out)
theorem yl.from {q:Nat->Bool} {k:Nat} {w0 w W w':World} {st:Int} {L:List zn} {ve va:Value} {e:Ending} (hb:Below w.heap.size w W) (h:yl q k w0 W st L ve va e w'):yl q k w0 w st L ve va e w':=by obtain⟨h1,ve',h2,h3⟩:=h;exact⟨h1,ve',h2,(yw.below ve hb).trans h3⟩
theorem Yg {q:Nat->Bool} {k:Nat} {w0 w:World} {st:Int} {L:List zn} {ve va:Value} (hB:xI q k w0 w st L ve va) (e:zn) (ag:Option Addr) (cg:Nat) (aS:Option Addr) (cs:Nat) (f t:Int)
 (h1:exE.In (World.hide w (hid q ve)) e.guards ag cg) (h2:bdE.In (World.hide w (hid q ve)) e.sets aS cs) :
 Calls Tryz.prog 142 #[.pointer (some ⟨k,0,none⟩),yT e ag cg aS cs,.int .i64 f,.int .i64 t] w (yl q k w0 w st (L++[mvE e f t]) ve va):=by
 have HA:Hid (∀W,Below w.heap.size w W->Calls Tryz.prog 136 #[.pointer (some ⟨k,0,none⟩),yT (mvE e f t) ag cg aS cs] W (yl q k w0 w st (L++[mvE e f t]) ve va)):=λW hW=>by have hkk:=zg (p:=hid q ve) (q:=hid q ve) hW λ_ _ h=>h;exact(ZF (hB.below hW) (mvE e f t) ag cg aS cs (h1.keep hkk) (h2.keep hkk)).mono λ_ _ h=>h.from hW
 have HV:Hid (∀e' w',yl q k w0 w st (L++[mvE e f t]) ve va e' w'->e'=.returned (.tuple #[])):=λe' w' h=>h.1;clear hB h1 h2;generalize yl q k w0 w st (L++[mvE e f t]) ve va=Po at HA HV⊢;unfold yT at HA⊢;simp only[mvE]at HA;go_enter Tryz.func142, Tryz.ntmps142;go_wp2_with fail;refine(HA.out _ bel).mono ?_;intro e5 w5 h5;have H5:=Lib.hid h5;obtain rfl:=HV.out _ _ h5;clear h5;go_wp2_with fail;first|exact H5.out|(refine bodyPost_ret (results_none rfl _ _ _) rfl ?_;exact H5.out)
def zgm (g:FuncId) (lb:Array Value) (d:zn->Bool) (K:World->Prop):Prop :=
 ∀(W:World) (x:zn) (vs:List Value),K W->edR W x vs->Calls Tryz.prog g (#[.agg vs.toArray]++lb) W λe W'=>e=.returned (.bool (d x))/\Below W.heap.size W W'
def zgi (d:zn->Bool) (l:List zn):Int:=match l.findIdx? d with|some i=>(i:Int)|none=>-1
theorem zju {d:zn->Bool} {l:List zn} {k:Nat} (hk:k<l.length) (h:d (l[k]'hk)=true) (hb:∀j (hj:j<l.length),j<k->d (l[j]'hj)=false):zgi d l=k:=by
 have:l.findIdx? d=some k:=by rw[List.findIdx?_eq_some_iff_getElem];exact⟨hk,h,λj hj=>by simpa using hb j (by omega) hj⟩
 unfold zgi;rw[this]
theorem zhe {d:zn->Bool} {l:List zn} (hb:∀j (hj:j<l.length),d (l[j]'hj)=false):zgi d l=-1:=by
 have:l.findIdx? d=none:=by rw[List.findIdx?_eq_none_iff];intro x hx;obtain⟨j,hj,rfl⟩:=List.getElem_of_mem hx;exact hb j hj
 unfold zgi;rw[this]
theorem zfC (g:FuncId) (eg:∀args w,(callFunc g args).run Tryz.prog w=.ok (.enter g args) w) (lb:Array Value) (d:zn->Bool) (K:World->Prop) (hP:zgm g lb d K) (hKb:∀W W',K W->Below W.heap.size W W'->K W') (l:List zn) (a:Option Addr) (cap:Nat) (w:World) (hE:edE.In w l a cap) (hK:K w) :
 Calls Tryz.prog 247 #[.slice a l.length cap,.func (.func g) #[] lb] w λe w'=>e=.returned (.int .i64 (zgi d l))/\Below w.heap.size w w':=by
 have HP:=Lib.hid hP;have HE:=Lib.hid hE;have HKb:=Lib.hid hKb;have HK:=Lib.hid hK;have hlen:=hE.len;have HA:=Lib.hid hE.addr;have HY:Hid (∀k (hk:k<l.length),d (l[k]'hk)=true->(∀j (hj:j<l.length),j<k->d (l[j]'hj)=false)->zgi d l=k):=λk hk h hb=>zju hk h hb;have HN:Hid ((∀j (hj:j<l.length),d (l[j]'hj)=false)->zgi d l=-1):=zhe;clear hP hE hKb hK;generalize zgi d l=R at HY HN⊢;go_enter Tryz.func247, Tryz.ntmps247;go_wp2_with fail;go_loopw [8,5] (λi _ wr=>∃k:Nat,i=.int .i64 k/\k<=l.length/\Hid (∀j (hj:j<l.length),j<k->d (l[j]'hj)=false)/\Hid (Below w.heap.size w wr)) (λi _ _=>l.length-(intOf i).toNat);case atStart=>exact⟨0,rfl,Nat.zero_le _,λ_ _ h=>absurd h (by omega),Below.refl _ _⟩
 case round =>
  obtain⟨k,rfl,hk,HAl,HBr⟩:=hrel;have hzr:=HBr.out.size;by_cases hlt:k<l.length
  ·obtain⟨b,off,ha⟩:=HA.out.resolve_left (by omega);subst ha;obtain⟨ag,cg,aS,cs,g0,g1,g2,g3,h1,h2⟩:=yR HE.out rfl hlt;have HNx:Hid (d (l[k]'hlt)=false->∀j (hj:j<l.length),j<k+1->d (l[j]'hj)=false):=λhv j hj hjk=>by
    by_cases e:j=k
    ·subst e;exact hv
    ·exact HAl.out j hj (by omega)
   have HYx:Hid (d (l[k]'hlt)=true->R=k):=λh=>HY.out k hlt h HAl.out;have hC:=HP.out wr (l[k]'hlt) _ (HKb.out _ _ HK.out HBr.out) ⟨ag,cg,aS,cs,rfl,h1.keep (za HBr.out),h2.keep (za HBr.out)⟩;have kk:=za HBr.out;have c0:=kk _ _ g0;have c1:=kk _ _ g1;have c2:=kk _ _ g2;have c3:=kk _ _ g3;clear g0 g1 g2 g3 kk h1 h2;generalize (l[k]'hlt)=y at c0 c1 c2 c3 HNx HYx hC;cases hd:d y with
   |false =>
    have HAl2:=Lib.hid (HNx.out hd);rw[hd]at hC;have HC:=Lib.hid hC;clear HNx HYx hC hd;go_wp2_with (go_at_fn g;go_must (refine HC.out.mono ?_;rintro e w5 ⟨rfl,hb5⟩));have HB5:=Lib.hid hb5;go_roundw;case rel=>exact⟨k+1,by go_num,by omega,HAl2.out,HBr.out.trans (HB5.out.mono hzr)⟩
    case measure=>(simp[intOf];try omega)
   |true =>have hR:=HYx.out hd;subst hR;rw[hd]at hC;have HC:=Lib.hid hC;clear HNx HYx hC hd;go_wp2_with (go_at_fn g;go_must (refine HC.out.mono ?_;rintro e w5 ⟨rfl,hb5⟩));have HB5:=Lib.hid hb5;go_ret;exact⟨rfl,HBr.out.trans (HB5.out.mono hzr)⟩
  ·obtain rfl:k=l.length:=by omega
   have hR:=HN.out λj hj=>HAl.out j hj hj;subst hR;go_wp2_with fail;go_ret;exact⟨rfl,HBr.out⟩
section
variable {τ : Type} {E : Enc τ} {w w' : World} {l : List τ} {xs : List Value}
abbrev Zl (τ:Type):=List (τ×List Value)
def qd (zs:Zl τ):List Value:=zs.flatMap Prod.snd
def RZ (E:Enc τ) (w:World) (zs:Zl τ):Prop:=∀z∈zs,E.R w z.1 z.2
theorem RZ.keep {zs:Zl τ} (h:RZ E w zs) (hk:Kp w w'):RZ E w' zs:=λz hz=>E.keep hk (h z hz)
theorem XN {zs:Zl τ} (h:∀z∈zs,z.2.length=E.sz):(qd zs).length=zs.length*E.sz:=by
 induction zs with
 |nil=>simp[qd]
 |cons z zs ih =>have:=ih λy hy=>h y (List.mem_cons_of_mem _ hy);have h2:=h z (List.mem_cons_self ..);unfold qd at this⊢;rw[List.flatMap_cons,List.length_append,this,h2,List.length_cons,Nat.add_mul,Nat.one_mul];omega
theorem RZ.lens {zs:Zl τ} (h:RZ E w zs):∀z∈zs,z.2.length=E.sz:=λz hz=>E.len (h z hz)
theorem Yw {zs:Zl τ} (h:∀z∈zs,z.2.length=E.sz):∀{i:Nat} (hi:i<zs.length) {j:Nat},j<E.sz->(qd zs)[i*E.sz+j]? = (zs[i]'hi).2[j]?:=by
 induction zs with
 |nil=>intro i hi;simp at hi
 |cons z zs ih =>
  intro i hi j hj;have h2:=h z (List.mem_cons_self ..);unfold qd at ih⊢;rw[List.flatMap_cons];cases i with
  |zero=>rw[List.getElem?_append_left (by omega)];simp
  |succ i =>rw[List.getElem?_append_right (by rw[Nat.add_mul,Nat.one_mul];omega),show (i+1)*E.sz+j-z.2.length=i*E.sz+j by rw[Nat.add_mul,Nat.one_mul];omega,ih (λy hy=>h y (List.mem_cons_of_mem _ hy)) (by simpa using hi) hj];simp
theorem RZ.vals {zs:Zl τ} (h:RZ E w zs):E.Vals w (zs.map Prod.fst) (qd zs):=by
 refine⟨by rw[XN h.lens,List.length_map],λi hi=>?_⟩;have hi':i<zs.length:=by simpa using hi
 refine⟨(zs[i]'hi').2,by rw[List.getElem_map];exact h _ (List.getElem_mem hi'),λj v hv=>?_⟩;have hj:j<E.sz:=by rw[←h.lens _ (List.getElem_mem hi')];exact(List.getElem?_eq_some_iff.1 hv).1
 rw[Yw h.lens hi' hj];exact hv
theorem Enc.Vals.zs:∀{l:List τ} {xs:List Value},E.Vals w l xs->∃zs:Zl τ,RZ E w zs/\zs.map Prod.fst=l/\qd zs=xs:=by
 intro l
 induction l with
 |nil =>intro xs h;have:=h.1;simp at this;subst this;exact⟨[],λz hz=>(by cases hz),rfl,rfl⟩
 |cons x l ih =>
  intro xs h;obtain⟨vs,h1,h2⟩:=h.2 0 (by simp);have hl:=E.len h1;have hx:=h.1;rw[List.length_cons,Nat.add_mul,Nat.one_mul]at hx;have e1:xs.take E.sz=vs:=by
   refine List.ext_getElem? λj=>?_;by_cases hj:j<E.sz
   ·have hj':j<vs.length:=by omega
    have:=h2 j _ (List.getElem?_eq_getElem hj');rw[Nat.zero_mul,Nat.zero_add]at this;rw[List.getElem?_take,if_pos hj,this,List.getElem?_eq_getElem hj']
   ·rw[List.getElem?_eq_none (by rw[List.length_take];omega),List.getElem?_eq_none (by omega)]
  have hr:E.Vals w l (xs.drop E.sz):=by refine⟨by rw[List.length_drop];omega,λi hi=>?_⟩;obtain⟨vs2,g1,g2⟩:=h.2 (i+1) (by simpa using hi);refine⟨vs2,by simpa using g1,λj v hv=>?_⟩;have:=g2 j v hv;rw[List.getElem?_drop,show E.sz+(i*E.sz+j)=(i+1)*E.sz+j by rw[Nat.add_mul,Nat.one_mul];omega];exact this
  obtain⟨zs,g1,g2,g3⟩:=ih hr;refine⟨(x,vs)::zs,λz hz=>?_,by rw[List.map_cons,g2],?_⟩
  ·rcases List.mem_cons.1 hz with rfl|hz
   ·exact h1
   ·exact g1 z hz
  ·unfold qd at g3⊢;rw[List.flatMap_cons,g3,←e1,List.take_append_drop]
theorem zdh {zs:Zl τ} (h:∀z∈zs,z.2.length=E.sz):∀{i:Nat},i<=zs.length->(qd zs).take (i*E.sz)=qd (zs.take i):=by
 induction zs with
 |nil=>intro i hi;simp[qd]
 |cons z zs ih =>
  intro i hi;cases i with
  |zero=>simp[qd]
  |succ i =>have h2:=h z (List.mem_cons_self ..);have:=ih (λy hy=>h y (List.mem_cons_of_mem _ hy)) (i:=i) (by simpa using hi);unfold qd at this⊢;rw[List.flatMap_cons,List.take_succ_cons,List.flatMap_cons,List.take_append,List.take_of_length_le (by rw[Nat.add_mul,Nat.one_mul];omega),show (i+1)*E.sz-z.2.length=i*E.sz by rw[Nat.add_mul,Nat.one_mul];omega,this]
def zan (xs:List Value) (o:Nat):List Value->List Value
 | []=>xs
 |v::r=>zan (xs.set o v) (o+1) r
theorem zbb (vs:List Value):∀(xs:List Value) (o j:Nat),(zan xs o vs)[j]? = if o<=j/\j<o+vs.length/\j<xs.length then vs[j-o]? else xs[j]?:=by
 induction vs with
 |nil=>intro xs o j;rw[zan,if_neg (by simp;omega)]
 |cons v r ih =>
  intro xs o j;rw[zan,ih,List.length_set,List.length_cons];by_cases h1:o+1<=j/\j<o+1+r.length/\j<xs.length
  ·rw[if_pos h1,if_pos (by omega),show j-o=j-(o+1)+1 by omega,List.getElem?_cons_succ]
  ·rw[if_neg h1,List.getElem?_set];by_cases h2:o=j
   ·subst h2;rw[if_pos rfl];by_cases h3:o<xs.length
    ·rw[if_pos h3,if_pos (by omega)];simp
    ·rw[if_neg h3,if_neg (by omega),List.getElem?_eq_none (by omega)]
   ·rw[if_neg h2,if_neg (by omega)]
theorem zfi {zs:Zl τ} (h:∀z∈zs,z.2.length=E.sz) {i:Nat} (hi:i<zs.length) {z:τ×List Value} (hz:z.2.length=E.sz):zan (qd zs) (i*E.sz) z.2=qd (zs.set i z):=by
 have hp:=E.pos;have h':∀y∈zs.set i z,y.2.length=E.sz:=by
  intro y hy;rcases List.mem_or_eq_of_mem_set hy with hy|rfl
  ·exact h y hy
  ·exact hz
 refine List.ext_getElem? λj=>?_;have hl:=XN h;have hl':=XN h';rw[List.length_set]at hl';rw[zbb];by_cases hj:j<zs.length*E.sz
 ·have hq:j / E.sz<zs.length:=(Nat.div_lt_iff_lt_mul hp).2 hj;have hm:j % E.sz<E.sz:=Nat.mod_lt _ hp;have e:j / E.sz*E.sz+j % E.sz=j:=by rw[Nat.mul_comm];exact Nat.div_add_mod _ _
  have g1:=Yw h hq hm;have g2:=Yw h' (i:=j / E.sz) (by rw[List.length_set];exact hq) hm;rw[e]at g1 g2;rw[g1,g2];by_cases hc:i=j / E.sz
  ·subst hc;rw[if_pos (by rw[hz,hl];omega),List.getElem_set_self];congr 1;omega
  ·rw[List.getElem_set_ne hc,if_neg];rw[hz];rintro ⟨h1,h2,_⟩;apply hc;have a1:i<=j / E.sz:=(Nat.le_div_iff_mul_le hp).2 h1;have a2:j / E.sz<i+1:=(Nat.div_lt_iff_lt_mul hp).2 (by rw[Nat.add_mul,Nat.one_mul];omega);omega
 ·rw[if_neg (by omega),List.getElem?_eq_none (by omega),List.getElem?_eq_none (by omega)]
end
theorem Yk {B:Nat} {e:TypeId} {size g n cap:Nat}:∀(vs:List Value) (o:Nat) (w:World) (xs:List Value),w.ownsRow B e size (.slice (some ⟨g,0,none⟩) n cap) n xs->(w.setCells g o vs).ownsRow B e size (.slice (some ⟨g,0,none⟩) n cap) n (zan xs o vs)/\w.grownBy (w.setCells g o vs) (some g):=by
 intro vs
 induction vs with
 |nil=>intro o w xs h;exact⟨h,World.grownBy.refl _ _⟩
 |cons v r ih =>intro o w xs h;obtain⟨h1,h2⟩:=h.stored o v;obtain⟨h3,h4⟩:=ih (o+1) _ _ h1;exact⟨h3,⟨h4.os.trans h2.os,h4.tape.trans h2.tape,h4.output.trans h2.output,Nat.le_trans h2.size h4.size,λk hk hn=>(h4.block k (Nat.lt_of_lt_of_le hk h2.size) hn).trans (h2.block k hk hn)⟩⟩
theorem zlC {w:World} {B:Nat} {e:TypeId} {size g n cap i:Nat} {xs:List Value} (h:w.ownsRow B e size (.slice (some ⟨g,0,none⟩) n cap) n xs) (hi:i<=n):w.ownsRow B e size (.slice (some ⟨g,0,none⟩) i cap) i (xs.take (i*size)):=by
 have hm:i*size<=n*size:=Nat.mul_le_mul_right _ hi;rcases h.2 with ⟨h',_⟩|⟨g',cap',cur,h',hb,hg,hnc,hcm,hcs,htake⟩
 ·simp at h'
 ·simp only[Value.slice.injEq,Option.some.injEq,Addr.mk.injEq,and_true,true_and]at h';obtain⟨rfl,rfl⟩:=h';refine⟨by rw[List.length_take,h.1];omega,Or.inr ⟨g,cap,cur,rfl,hb,hg,by omega,hcm,hcs,?_⟩⟩;rw[←htake,List.take_take,Nat.min_eq_left hm]
theorem zbA (w:World) (row:Option Nat):w.grownBy w row:=⟨rfl,rfl,rfl,Nat.le_refl _,λ_ _ _=>rfl⟩
theorem Xm {w w' w2:World} {row:Option Nat} (h:w.grownBy w' row) (hb:Below w'.heap.size w' w2):w.grownBy w2 row :=
 ⟨hb.os.trans h.os,hb.tape.trans h.tape,hb.output.trans h.output,Nat.le_trans h.size hb.size,λk hk hn=>(hb.block k (Nat.lt_of_lt_of_le hk h.size)).trans (h.block k hk hn)⟩
theorem Xn {w w' w2:World} {row:Option Nat} (h:w.grownBy w' row) (h2:w'.grownBy w2 row):w.grownBy w2 row :=
 ⟨h2.os.trans h.os,h2.tape.trans h.tape,h2.output.trans h.output,Nat.le_trans h.size h2.size,λk hk hn=>(h2.block k (Nat.lt_of_lt_of_le hk h.size) hn).trans (h.block k hk hn)⟩
theorem zms {w:World} {g o n c:Nat} (hn:0<n) (hc:∀j,j<n*4->(w.cell? ⟨g,o+j,none⟩).isSome=true) (hf:∀j,j<n*4->w.frozen? ⟨g,o+j,none⟩=false) :
 ∃vs:List Value,∀ty,(Builtin.clear_ #[30] ty #[.slice (some ⟨g,o,none⟩) n c]).run Tryz.prog w=.ok (.tuple #[]) (w.setCells g o vs):=by
 have hz:∀w,(zeroValue 69).run Tryz.prog w=.ok (.agg #[.int .i64 0,.int .i64 0,.slice none 0 0,.slice none 0 0]) w:=λw=>Tryz.zeroValue69 w;have hl:(Builtin.zeroCells (Value.agg #[.int .i64 0,.int .i64 0,.slice none 0 0,.slice none 0 0]).cells n).toList.length=n*4:=by rw[Array.length_toList,size_zeroCells];rfl
 have h1:∀v∈(Builtin.zeroCells (Value.agg #[.int .i64 0,.int .i64 0,.slice none 0 0,.slice none 0 0]).cells n).toList,v.oneCell'=true:=by
  intro v hv;simp only[Builtin.zeroCells,Array.toList_map,List.mem_map,Array.toList_range]at hv;obtain⟨i,_,rfl⟩:=hv;have hm:i % 4=0\/i % 4=1\/i % 4=2\/i % 4=3:=by omega
  rw[show (Value.agg #[.int .i64 0,.int .i64 0,.slice none 0 0,.slice none 0 0]).cells=#[.int .i64 0,.int .i64 0,.slice none 0 0,.slice none 0 0] from rfl];rw[show (#[Value.int .i64 0,.int .i64 0,.slice none 0 0,.slice none 0 0]:Array Value).size=4 from rfl];rcases hm with h|h|h|h<;>rw[h]<;>rfl
 have hst:=run_storeCells_cells (P:=Tryz.prog) g o _ 0 w (by rw[hl];simpa using hc) (by rw[hl];simpa using hf) h1;simp only[Nat.add_zero]at hst;obtain⟨m,rfl⟩:∃m,n=m+1:=⟨n-1,by omega⟩;refine⟨(Builtin.zeroCells (Value.agg #[.int .i64 0,.int .i64 0,.slice none 0 0,.slice none 0 0]).cells (m+1)).toList,λty=>?_⟩;simp[Builtin.clear_,run_underlying Tryz.underlying30,hz,hst]
structure Zp (p:Nat->Bool) (B g n cap:Nat) (w0:World) (zs0:Zl zn) (d:zn->Bool) (i j:Nat) (W:World) (zs:Zl zn):Prop where
 row:W.ownsRow B 69 4 (.slice (some ⟨g,0,none⟩) n cap) n (qd zs)
 len:zs.length=n
 lens:∀z∈zs,z.2.length=4
 kept:zs.take i=(zs0.take j).filter λz=>!d z.1
 rest:zs.drop j=zs0.drop j
 ij:i=((zs0.take j).filter λz=>!d z.1).length
 gr:w0.grownBy W (some g)
section
variable {p : Nat → Bool} {B g n cap : Nat} {w0 W W' : World} {zs0 zs : Zl zn} {d : zn → Bool} {i j : Nat}
theorem Zp.below (h:Zp p B g n cap w0 zs0 d i j W zs) (hb:Below W.heap.size W W'):Zp p B g n cap w0 zs0 d i j W' zs :=
 ⟨ownsRow_below h.row hb,h.len,h.lens,h.kept,h.rest,h.ij,Xm h.gr hb⟩
theorem Zp.at (h:Zp p B g n cap w0 zs0 d i j W zs) (hl:zs0.length=n) (hj:j<n):∃hj0:j<zs0.length,∃hj1:j<zs.length,zs[j]'hj1=zs0[j]'hj0:=by
 have h1:j<zs0.length:=by omega
 have h2:j<zs.length:=by have:=h.len;omega
 refine⟨h1,h2,?_⟩;have e:=congrArg (λl=>l[0]?) h.rest;simp only[List.getElem?_drop,Nat.add_zero,List.getElem?_eq_getElem h1,List.getElem?_eq_getElem h2,Option.some.injEq]at e;exact e
theorem Zp.skip (h:Zp p B g n cap w0 zs0 d i j W zs) (hj:j<zs0.length) (hd:d (zs0[j]'hj).1=true):Zp p B g n cap w0 zs0 d i (j+1) W zs:=by
 have e:(zs0.take (j+1)).filter (λz=>!d z.1)=(zs0.take j).filter λz=>!d z.1:=by rw[List.take_succ_eq_append_getElem hj,List.filter_append];simp[hd]
 refine⟨h.row,h.len,h.lens,by rw[e];exact h.kept,?_,by rw[e];exact h.ij,h.gr⟩;have:=congrArg (List.drop 1) h.rest;simpa only [List.drop_drop] using this
theorem Zp.keepIt (h:Zp p B g n cap w0 zs0 d i j W zs) (hl:zs0.length=n) (hj:j<zs0.length) (hij:i<j) (hd:d (zs0[j]'hj).1=false) (h4:(zs0[j]'hj).2.length=4):Zp p B g n cap w0 zs0 d (i+1) (j+1) (W.setCells g (i*4) (zs0[j]'hj).2) (zs.set i (zs0[j]'hj)):=by
 have e:(zs0.take (j+1)).filter (λz=>!d z.1)=((zs0.take j).filter λz=>!d z.1)++[zs0[j]'hj]:=by rw[List.take_succ_eq_append_getElem hj,List.filter_append];simp[hd]
 have hlen:=h.len;have hi:i<zs.length:=by omega
 obtain⟨h1,h2⟩:=Yk (zs0[j]'hj).2 (i*4) W _ h.row;refine⟨?_,by rw[List.length_set];exact h.len,?_,?_,?_,by rw[e,List.length_append,←h.ij];rfl,Xn h.gr h2⟩
 ·have:=zfi (E:=edE) h.lens hi (z:=zs0[j]'hj) h4;rw[←this];exact h1
 ·intro y hy;rcases List.mem_or_eq_of_mem_set hy with hy|rfl
  ·exact h.lens y hy
  ·exact h4
 ·rw[e,←h.kept,List.take_succ_eq_append_getElem (by rw[List.length_set];exact hi),List.getElem_set_self,List.take_set_of_le (Nat.le_refl _)]
 ·have:=congrArg (List.drop 1) h.rest;simp only[List.drop_drop]at this;rw[List.drop_set_of_lt (by omega)];exact this
end
theorem zdY (xs:List Value) (o:Nat) (vs:List Value):(zan xs o vs).take o=xs.take o:=by
 refine List.ext_getElem? λj=>?_;rw[List.getElem?_take,List.getElem?_take];by_cases h:j<o
 ·rw[if_pos h,if_pos h,zbb,if_neg (by omega)]
 ·rw[if_neg h,if_neg h]
theorem Zp.fin {p:Nat->Bool} {B g n cap:Nat} {w0 W W':World} {zs0 zs:Zl zn} {d:zn->Bool} {i:Nat} {l:List zn} {xs':List Value} (h:Zp p B g n cap w0 zs0 d i n W zs) (hln:zs0.length=n) (hz0:RZ edE (World.hide w0 (hid p (.slice (some ⟨g,0,none⟩) n cap))) zs0) (hzl:zs0.map Prod.fst=l)
 (hr:W'.ownsRow B 69 4 (.slice (some ⟨g,0,none⟩) n cap) n xs') (ht:xs'.take (i*4)=(qd zs).take (i*4)) (hg:W.grownBy W' (some g)):edE.Own 69 p W' B (.slice (some ⟨g,0,none⟩) i cap) (l.filter λx=>!d x):=by
 have hkp:=yV (p:=hid p (.slice (some ⟨g,0,none⟩) n cap)) (q:=hid p (.slice (some ⟨g,0,none⟩) i cap)) (Xn h.gr hg) (λk hk=>ze.2 (Or.inr hk)) λ_ _ h=>h;have ht0:zs0.take n=zs0:=List.take_of_length_le (by omega);have hk:=h.kept;have hi:=h.ij;rw[ht0]at hk hi;have hle:i<=n:=by rw[hi,←hln];exact List.length_filter_le _ _
 have hmap:(zs0.filter λz=>!d z.1).map Prod.fst=l.filter λx=>!d x:=by rw[←hzl,List.filter_map];rfl
 have hR:RZ edE (World.hide W' (hid p (.slice (some ⟨g,0,none⟩) i cap))) (zs0.filter λz=>!d z.1):=λz hz=>edE.keep hkp (hz0 z (List.mem_filter.1 hz).1);have hc:=zlC hr hle;rw[ht,show i*4=i*edE.sz from rfl,zdh (E:=edE) h.lens (by have:=h.len;omega),hk]at hc;refine⟨qd (zs0.filter λz=>!d z.1),?_,?_⟩
 ·rw[←hmap,List.length_map,←hi];exact hc
 ·rw[←hmap];exact hR.vals
def XJ (p:Nat->Bool) (B:Nat) (v:Value) (l:List zn) (w:World) (e:Ending) (w':World):Prop:=∃v',e=.returned v'/\edE.Own 69 p w' B v' l/\w.grownBy w' v.ownBlock
theorem YS (g:FuncId) (eg:∀args w,(callFunc g args).run Tryz.prog w=.ok (.enter g args) w) (lb:Array Value) (d:zn->Bool) (K:World->Prop) (hP:zgm g lb d K) (hKb:∀W W',K W->Below W.heap.size W W'->K W') (p:Nat->Bool) (B:Nat) (v:Value) (hKs:∀W W',K W->W.grownBy W' v.ownBlock->K W') (l:List zn) (w:World)
 (hO:edE.Own 69 p w B v l) (hK:K w) (hl:l.length<=1073741824) :
 Calls Tryz.prog 204 #[v,.func (.func g) #[] lb] w (XJ p B v (l.filter λx=>!d x) w):=by
 obtain⟨a,cap,hv,hE⟩:=hO.slice hl;subst hv;have HI:=Lib.hid (zfC g eg lb d K hP hKb l a cap w hE hK);have HO:=Lib.hid hO;have HP:=Lib.hid hP;have HKb:=Lib.hid hKb;have HKs:=Lib.hid hKs;have HK:=Lib.hid hK;have HPo:Hid (∀v' w',edE.Own 69 p w' B v' (l.filter λx=>!d x)->w.grownBy w' (Value.slice a l.length cap).ownBlock->XJ p B (.slice a l.length cap) (l.filter λx=>!d x) w (.returned v') w'):=λv' w' h1 h2=>⟨v',rfl,h1,h2⟩;clear hP hKb hKs hK hE hO;generalize XJ p B (.slice a l.length cap) (l.filter λx=>!d x) w=Po at HPo⊢;rcases hf:l.findIdx? d with _|k0
 ·have hno:∀x∈l,d x=false:=List.findIdx?_eq_none_iff.1 hf;have e1:zgi d l=-1:=by unfold zgi;rw[hf]
  have HFl:Hid (l.filter (λx=>!d x)=l):=List.filter_eq_self.2 λx hx=>by rw[hno x hx];rfl
  rw[e1]at HI;clear hf hno e1;go_enter Tryz.func204, Tryz.ntmps204;go_wp2_with (go_at_call 247;go_must (refine HI.out.mono ?_;rintro e w5 ⟨rfl,hb5⟩));have HD:Hid (edE.Own 69 p w5 B (.slice a l.length cap) (l.filter λx=>!d x)):=by show edE.Own _ _ _ _ _ _;rw[HFl.out];exact HO.out.below hb5
  have HG:Hid (w.grownBy w5 (Value.slice a l.length cap).ownBlock):=Xm (zbA _ _) hb5;first|exact HPo.out _ _ HD.out HG.out|(go_ret;exact HPo.out _ _ HD.out HG.out)
 ·obtain⟨hk0,hd0,hb0⟩:=List.findIdx?_eq_some_iff_getElem.1 hf;have e1:zgi d l=(k0:Int):=by unfold zgi;rw[hf]
  obtain⟨xs,hx,hv⟩:=HO.out;obtain⟨bk,hga⟩:∃bk,a=some ⟨bk,0,none⟩:=by
   rcases hx.2 with ⟨h1,h2⟩|⟨b9,cap',cur,h1,_⟩
   ·omega
   ·simp only[Value.slice.injEq]at h1;exact⟨b9,h1.1⟩
  subst hga;obtain⟨zs0,hz0,hzl,rfl⟩:=hv.zs;have hln:zs0.length=l.length:=by rw[←hzl,List.length_map]
  have HZ0:=Lib.hid hz0;have HZl:=Lib.hid hzl;have hget:∀j (h0:j<zs0.length) (h1:j<l.length),(zs0[j]'h0).1=l[j]'h1:=λj h0 h1=>by simp only[←hzl,List.getElem_map]
  have hfil:(zs0.take (k0+1)).filter (λz=>!d z.1)=zs0.take k0:=by
   rw[List.take_succ_eq_append_getElem (by omega),List.filter_append,List.filter_eq_self.2 (λz hz=>?_),List.filter_eq_nil_iff.2 (λz hz=>?_),List.append_nil]
   ·obtain rfl:=List.mem_singleton.1 hz;rw[hget k0 (by omega) hk0,hd0];simp
   ·obtain⟨j,hj,rfl⟩:=List.getElem_of_mem hz;rw[List.getElem_take,hget j (by simp at hj;omega) (by simp at hj;omega)];have:=hb0 j (by simp at hj;omega);simpa using this
  have HS0:Hid (Zp p B bk l.length cap w zs0 d k0 (k0+1) w zs0) :=
   ⟨hx,hln,λz hz=>edE.len (hz0 z hz),hfil.symm,rfl,by rw[hfil,List.length_take];omega,zbA _ _⟩
  have HDg:Hid (∀j (h0:j<zs0.length),j<l.length):=λj h=>by omega
  rw[e1]at HI;have hgb:=(hx.lt bk rfl).2;have hk0p:(k0:Int)+1<=(l.length:Int):=by omega
  have hne1:((k0:Int)==-1)=false:=beq_eq_false_iff_ne.2 (by omega);have HFin:Hid (∀i W zs W' xs',Zp p B bk l.length cap w zs0 d i l.length W zs->W'.ownsRow B 69 4 (.slice (some ⟨bk,0,none⟩) l.length cap) l.length xs'->xs'.take (i*4)=(qd zs).take (i*4)->W.grownBy W' (some bk)->edE.Own 69 p W' B (.slice (some ⟨bk,0,none⟩) i cap) (l.filter λx=>!d x)):=λi W zs W' xs' h h1 h2 h3=>h.fin hln hz0 hzl h1 h2 h3;have hlt0:k0<l.length:=hk0;clear hf hd0 hb0 hx hv hz0 hzl hfil e1 hget hk0;have HCall:Hid (∀W zs i j (hj:j<zs0.length),Zp p B bk l.length cap w zs0 d i j W zs->∃(y0 y1:Int) (a2:Option Addr) (n2 k2:Nat) (a3:Option Addr) (n3 k3:Nat),(zs0[j]'hj).2=[.int .i64 y0,.int .i64 y1,.slice a2 n2 k2,.slice a3 n3 k3]/\(W.cell? ⟨bk,j*4,none⟩=some (.int .i64 y0)/\W.cell? ⟨bk,j*4+1,none⟩=some (.int .i64 y1)/\W.cell? ⟨bk,j*4+2,none⟩=some (.slice a2 n2 k2)/\W.cell? ⟨bk,j*4+3,none⟩=some (.slice a3 n3 k3))/\∀W',Below W.heap.size W W'->Calls Tryz.prog g (#[.agg #[.int .i64 y0,.int .i64 y1,.slice a2 n2 k2,.slice a3 n3 k3]]++lb) W' λe w'=>e=.returned (.bool (d (zs0[j]'hj).1))/\Below W'.heap.size W' w'):=λW zs i j hj h=>by
   have hjn:j<l.length:=by omega
   obtain⟨_,hj1,he⟩:=h.at hln hjn;have hR:=HZ0.out _ (List.getElem_mem hj);obtain⟨a2,k2,a3,k3,hy,_⟩:=id hR;have hcell:∀t (ht:t<4),W.cell? ⟨bk,j*4+t,none⟩=(zs0[j]'hj).2[t]?:=λt ht=>by rw[h.row.cellAt (j*4+t) (by omega),←he];exact Yw (E:=edE) h.lens hj1 ht
   have h0:=hcell 0 (by omega);have h1:=hcell 1 (by omega);have h2:=hcell 2 (by omega);have h3:=hcell 3 (by omega);rw[hy]at h0 h1 h2 h3;refine⟨_,_,a2,_,k2,a3,_,k3,hy,⟨h0,h1,h2,h3⟩,λW' hW'=>?_⟩;have hkp:=yV (p:=hid p (.slice (some ⟨bk,0,none⟩) l.length cap)) (q:=hid p (.slice (some ⟨bk,0,none⟩) l.length cap)) h.gr (λk hk=>ze.2 (Or.inr hk)) λ_ _ h=>h;have:=HP.out W' (zs0[j]'hj).1 _ (HKb.out _ _ (HKs.out _ _ HK.out h.gr) hW') (by have:=edE.keep (λa v ha=>za hW' _ _ (zb _ _ (hkp a v ha))) hR;rw[hy]at this;exact this);exact this
  go_enter Tryz.func204, Tryz.ntmps204;go_wp2_with (go_at_call 247;go_must (refine HI.out.mono ?_;rintro e w5 ⟨rfl,hb5⟩));have HS5:=Lib.hid (HS0.out.below hb5);have hz5:=hb5.size;clear hb5 HS0 HI;go_loopg [5,6,7] l.length (λgg s5 s6 _ wr=>∃(i j:Nat) (zs:Zl zn),s5=.int .i64 i/\s6=.int .i64 j/\j<=l.length/\i<j/\l.length-j<=gg/\Hid (Zp p B bk l.length cap w zs0 d i j wr zs));case atStart=>exact⟨k0,k0+1,zs0,rfl,by go_num,by omega,by omega,by omega,HS5⟩
  case round =>
   clear HS5;obtain⟨i,j,zs,rfl,rfl,hjl,hij,hgg,HS⟩:=hrel;by_cases hlt:j<l.length
   ·have hj0:j<zs0.length:=by omega
    obtain⟨y0,y1,a2,n2,k2,a3,n3,k3,hy,⟨c0,c1,c2,c3⟩,hcall⟩:=HCall.out wr zs i j hj0 HS.out;have HSk:Hid (d (zs0[j]'hj0).1=true->Zp p B bk l.length cap w zs0 d i (j+1) wr zs):=λh=>HS.out.skip hj0 h;have HKp:Hid (∀W,Below wr.heap.size wr W->d (zs0[j]'hj0).1=false->Zp p B bk l.length cap w zs0 d (i+1) (j+1) (W.setCells bk (i*4) [.int .i64 y0,.int .i64 y1,.slice a2 n2 k2,.slice a3 n3 k3]) (zs.set i (zs0[j]'hj0))):=λW hW h=>by rw[←hy];exact(HS.out.below hW).keepIt hln hj0 hij h (by rw[hy];rfl)
    have HFz:Hid (∀W,Below wr.heap.size wr W->∀t,W.frozen? ⟨bk,t,none⟩=false):=λW hW t=>(HS.out.below hW).row.frozenAt t;have HCi:Hid (∀W,Below wr.heap.size wr W->∀t,t<4->∃u,W.cell? ⟨bk,i*4+t,none⟩=some u):=λW hW t ht=>by
     have h:=HS.out.below hW;have hi:i*4+t<l.length*4:=by omega
     rw[h.row.cellAt _ hi];have:=h.row.1;exact⟨_,List.getElem?_eq_getElem (by omega)⟩
    have HC:=Lib.hid hcall;have hgr:bk<wr.heap.size:=qF c0;clear hcall hy;generalize zs0[j]'hj0=y at HSk HKp HC;cases hd:d y.1 with
    |true =>
     have HSk2:=Lib.hid (HSk.out hd);rw[hd]at HC;clear HSk HKp HFz HCi hd;go_wp2_with (go_at_fn g;go_must (refine(HC.out _ bel).mono ?_;rintro e w7 ⟨rfl,hb7⟩));have HB7:Hid (Below wr.heap.size wr w7):=((Below.refl wr.heap.size wr).alloc (Nat.le_refl _) _).trans (hb7.mono (by simp));go_roundg (l.length-(j+1));case measure=>omega
     case rel=>exact⟨i,j+1,zs,rfl,by go_num,by omega,by omega,Nat.le_refl _,HSk2.out.below HB7.out⟩
    |false =>
     rw[hd]at HC;have HKp2:Hid (∀W,Below wr.heap.size wr W->Zp p B bk l.length cap w zs0 d (i+1) (j+1) (W.setCells bk (i*4) [.int .i64 y0,.int .i64 y1,.slice a2 n2 k2,.slice a3 n3 k3]) (zs.set i y)):=λW hW=>HKp.out W hW hd;clear HSk HKp hd;go_wp2_with (go_at_fn g;go_must (refine(HC.out _ bel).mono ?_;rintro e w7 ⟨rfl,hb7⟩);have HB7:Hid (Below wr.heap.size wr w7):=((Below.refl wr.heap.size wr).alloc (Nat.le_refl _) _).trans (hb7.mono (by simp));have k7:=za hb7;have e0:=k7 ⟨wr.heap.size,0,none⟩ (.int .i64 y0) (by simp);have e1:=k7 ⟨wr.heap.size,1,none⟩ (.int .i64 y1) (by simp);have e2:=k7 ⟨wr.heap.size,2,none⟩ (.slice a2 n2 k2) (by simp);have e3:=k7 ⟨wr.heap.size,3,none⟩ (.slice a3 n3 k3) (by simp);obtain⟨u0,q0⟩:=HCi.out w7 HB7.out 0 (by omega);obtain⟨u1,q1⟩:=HCi.out w7 HB7.out 1 (by omega);obtain⟨u2,q2⟩:=HCi.out w7 HB7.out 2 (by omega);obtain⟨u3,q3⟩:=HCi.out w7 HB7.out 3 (by omega);rw[Nat.add_zero]at q0;have f0:=HFz.out w7 HB7.out (i*4);have f1:=HFz.out w7 HB7.out (i*4+1);have f2:=HFz.out w7 HB7.out (i*4+2);have f3:=HFz.out w7 HB7.out (i*4+3);have hil:(i:Int)<(l.length:Int):=(by omega);clear k7);go_roundg (l.length-(j+1));case measure=>omega
     case rel=>exact⟨i+1,j+1,zs.set i y,by go_num,by go_num,by omega,by omega,Nat.le_refl _,HKp2.out w7 HB7.out⟩
   ·obtain rfl:j=l.length:=by omega
    have hil:i<=l.length:=by omega
    have hrow:=HS.out.row;have hfz:=λt=>hrow.frozenAt t;have hsome:∀t,t<l.length*4->(wr.cell? ⟨bk,t,none⟩).isSome=true:=λt ht=>by rw[hrow.cellAt t ht,List.getElem?_eq_getElem (by rw[hrow.1];exact ht)];rfl
    obtain⟨vs,hcl⟩:=zms (w:=wr) (g:=bk) (o:=i*4) (n:=l.length-i) (c:=cap-i) (by omega) (λj hj=>hsome _ (by omega)) (λj hj=>hfz _);have HRes:Hid (edE.Own 69 p (wr.setCells bk (i*4) vs) B (.slice (some ⟨bk,0,none⟩) i cap) (l.filter λx=>!d x)):=by have h9:=Yk vs (i*4) wr _ hrow;exact HFin.out i wr zs _ _ HS.out h9.1 (zdY _ _ _) h9.2
    have HG:Hid (w.grownBy (wr.setCells bk (i*4) vs) (Value.slice (some ⟨bk,0,none⟩) l.length cap).ownBlock):=Xn HS.out.gr (Yk vs (i*4) wr _ hrow).2;have hilz:(i:Int)<=(l.length:Int):=by omega
    have hcap:l.length<=cap:=by
     rcases hrow.2 with ⟨h,_⟩|⟨g9,cap',cur,h,_,_,hc,_⟩
     ·simp at h
     ·simp only[Value.slice.injEq]at h;omega
    clear hrow hfz hsome HCall HFin;go_wp2_with fail;first|exact HPo.out _ _ HRes.out HG.out|(go_ret;exact HPo.out _ _ HRes.out HG.out)
end Go.Proofs.YthojpomoflhbcaaGreatDoor
