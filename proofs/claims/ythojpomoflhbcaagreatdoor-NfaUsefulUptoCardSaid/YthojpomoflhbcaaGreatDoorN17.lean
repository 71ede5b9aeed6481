/- nfa.builder: hold. -/
import Derived.Test.YthojpomoflhbcaaGreatDoorN15
import Derived.Test.YthojpomoflhbcaaGreatDoorN16
import Derived.Deep.RegionHeld3
import Derived.Deep.CutRange
import Derived.Test.YthojpomoflhbcaaGreatDoorNSh
import Derived.Test.YthojpomoflhbcaaGreatDoorN00
import Derived.Maps.OwnOps
import Derived.Maps.OwnSet
import Derived.Lib.SlKeysI
import Derived.WideKeyPair
import Derived.DeepKeys4
set_option linter.unusedSimpArgs false
set_option linter.unusedVariables false
set_option linter.unnecessarySimpa false
namespace Go.Proofs.YthojpomoflhbcaaGreatDoor
open Go.RowKit
attribute [local go_sem ↓] Go.wp_at_zero Go.wp_at_succ
theorem hbT {X X':World} {o:Obj} {b:Nat} (hb:Below X.heap.size X X') (h:X.heap[b]? = some o):X'.heap[b]? = some o:=(hb.block b (lt_of_block h)).trans h
theorem own_base {τ:Type} {E:Enc τ} {t:TypeId} {p:Nat→Bool} {w:World} {B B':Nat} {v:Value} {l:List τ} (h:E.Own t p w B v l) (hB:B'≤B):E.Own t p w B' v l:=by
 obtain⟨xs,h1,h2⟩:=h
 refine⟨xs,⟨h1.1,h1.2.imp id ?_⟩,h2⟩
 rintro ⟨g,cap,cur,q1,q2,q3⟩
 exact⟨g,cap,cur,q1,by omega,q3⟩
theorem cell4B {w:World} {b:Nat} {z0 z1 z2 z3:Value} {t:TypeId} (h:w.heap[b]? = some (.cells #[z0,z1,z2,z3] t (0,0))):w.cell? ⟨b,0,none⟩=some z0∧w.cell? ⟨b,1,none⟩=some z1∧w.cell? ⟨b,2,none⟩=some z2∧w.cell? ⟨b,3,none⟩=some z3∧∀ o,w.frozen? ⟨b,o,none⟩=false:=by
 refine⟨?_,?_,?_,?_,fun o=>?_⟩
 ·rw[cell_of_blkT h];rfl
 ·rw[cell_of_blkT h];rfl
 ·rw[cell_of_blkT h];rfl
 ·rw[cell_of_blkT h];rfl
 ·simp[World.frozen?,h]
theorem gr_bel5 {wr W5 cur wg:World} {row:Option Nat} (hg:cur.grownBy wg row) (h5:Below wr.heap.size wr W5) (hc:Below W5.heap.size W5 cur) (hr:∀ j,row=some j→W5.heap.size≤j):Below wr.heap.size wr wg:=by
 have h1:=h5.size
 have h2:=hc.size
 exact(h5.trans (hc.mono h1)).grown hg (by omega) fun j hj=>by have:=hr j hj;omega
theorem own_storeB {τ:Type} {E:Enc τ} {t:TypeId} {q:Nat→Bool} {k o:Nat} {w:World} {B:Nat} {l:List τ} {v u:Value} (hq:q k=true) (hne:some k≠v.ownBlock) (h:E.Own t q w B v l):E.Own t q (w.setCell ⟨k,o,none⟩ u) B v l:=by
 obtain⟨xs,h1,h2⟩:=h
 exact⟨xs,ownsRow_setCell_other h1 (fun e=>hne e.symm) u,h2.keep (hide_store (hid_true.2 (Or.inl hq)))⟩
theorem own_in {τ:Type} {E:Enc τ} {t:TypeId} {q p:Nat→Bool} {w:World} {B g n cap:Nat} {l:List τ} (h:E.Own t q w B (.slice (some ⟨g,0,none⟩) n cap) l) (hn:l.length≤1073741824) (hpq:∀ k,p k=true→q k=true) (hp:∀ k,p k=true→k < B):E.In (World.hide w p) l (some ⟨g,0,none⟩) cap:=by
 obtain⟨a,c,hv,hin⟩:=h.sliceR hn hpq hp
 simp only[Value.slice.injEq] at hv
 obtain⟨rfl,_,rfl⟩:=hv
 exact hin
theorem cell9T {w:World} {b:Nat} {z0 z1 z2 z3 z4 z5 z6 z7 z8:Value} {t:TypeId} (h:w.heap[b]? = some (.cells #[z0,z1,z2,z3,z4,z5,z6,z7,z8] t (0,0))):w.cell? ⟨b,0,none⟩=some z0∧w.cell? ⟨b,1,none⟩=some z1∧w.cell? ⟨b,2,none⟩=some z2∧w.cell? ⟨b,3,none⟩=some z3∧w.cell? ⟨b,4,none⟩=some z4∧w.cell? ⟨b,5,none⟩=some z5∧w.cell? ⟨b,6,none⟩=some z6∧w.cell? ⟨b,7,none⟩=some z7∧w.cell? ⟨b,8,none⟩=some z8:=by
 refine⟨?_,?_,?_,?_,?_,?_,?_,?_,?_⟩<;>(rw[cell_of_blkT h];rfl)
theorem cell3T {w:World} {b:Nat} {z0 z1 z2:Value} {t:TypeId} (h:w.heap[b]? = some (.cells #[z0,z1,z2] t (0,0))):w.cell? ⟨b,0,none⟩=some z0∧w.cell? ⟨b,1,none⟩=some z1∧w.cell? ⟨b,2,none⟩=some z2:=by
 refine⟨?_,?_,?_⟩<;>(rw[cell_of_blkT h];rfl)
theorem tqVal_eq (s:Tq) (ae:Option Addr) (ce:Nat) (a:Option Addr) (cap:Nat):tqVal s ae ce a cap=.agg #[.int .i64 s.op,.int .i64 s.lo,.int .i64 s.hi,.int .i64 s.expr.op,.int .i64 s.expr.n,.string s.expr.name,.slice ae s.expr.args.length ce,.string s.name,.slice a s.args.length cap]:=rfl
theorem bldE_kp0 {p:Nat→Bool} {k:Nat} {w0 w:World} {st:Int} {L:List EdgeD} {ve va:Value} (h:BldE (qk p k) k w0 w st L ve va):Kp (World.hide w0 p) (World.hide w (hid (qk p k) ve)):=hide_below h.bel fun j hj hq=>by
 rcases hid_true.1 hq with h1 | h1
 ·exact qk_old h.kB j hj h1
 ·have:=(h.vlt j h1).1;omega
def hldE (x:Ex) (e:EdgeD):EdgeD:=⟨e.fr,e.to,e.guards++[x],e.sets⟩
def hldL (x:Ex) (l:List EdgeD):List EdgeD:=l.map (hldE x)
theorem hldL_succ (x:Ex) {l:List EdgeD} {m:Nat} (h:m < l.length):hldL x (l.take (m+1))=hldL x (l.take m)++[hldE x (l[m]'h)]:=by
 unfold hldL;rw[List.take_succ_eq_append_getElem h,List.map_append];rfl
set_option maxHeartbeats 8000000 in
set_option maxRecDepth 100000 in
theorem hold_any {p:Nat→Bool} {k:Nat} {w0 w:World} (hk:w0.heap.size≤k) (hblk:w.heap[k]? = some (.cells #[.int .i64 0,.slice none 0 0,.slice none 0 0,.bool false] 134 (0,0))) (hb:Below w0.heap.size w0 w) (hp:∀ j,p j=true→j < w0.heap.size)
  (s:Tq) (ae:Option Addr) (ce:Nat) (a:Option Addr) (cap:Nat) (x:NfaD) (ax:NfaA) {K:Nat} (hr:RegN K x) (hK:K≤1000000) (hE:ExIn (World.hide w0 p) s.expr ae ce) (hx:NfaIn (World.hide w0 p) x ax) :
  Calls Tryz.prog 89 #[.pointer (some ⟨k,0,none⟩),tqVal s ae ce a cap,nfaVal x ax] w (BldP p k w0 (holdN s.expr x)):=by
 have hkw:=lt_of_block hblk
 have hel:=hx.es.len
 have hacl:=hx.ac.2.1
 have HXE:=Lib.hid hx.es
 have HXA:Hid (x.edges.length=0∨∃ b off,ax.ae=some ⟨b,off,none⟩):=hx.es.addr
 have HSE:=Lib.hid hE
 have Hp:=Lib.hid hp
 have HGl:Hid (∀ m (h:m < x.edges.length),(x.edges[m]'h).guards.length+1≤1073741824):=fun m h=>by have:=(hr.es _ (List.getElem_mem h)).2.1;omega
 have HPo:Hid (∀ ve W,BldE (qk p k) k w0 W x.states (hldL s.expr x.edges) ve (.slice ax.aa x.accept.length ax.ca)→BldP p k w0 (holdN s.expr x) (.returned (.tuple #[])) W):=fun ve W h =>
  ⟨rfl,_,ve,ax.aa,ax.ca,fun j hj=>qk_true.2 (Or.inl hj),h,hx.ac.keep (hide_below h.bel fun _ _ h=>h)⟩
 clear hx hE hp hr
 generalize BldP p k w0 (holdN s.expr x)=Po at HPo⊢
 rw[tqVal_eq,nfaVal_eq]
 obtain⟨xs,xE,xA⟩:=x
 obtain⟨xae,xce,xaa,xca⟩:=ax
 simp only at hel hacl HXE HXA HGl HPo⊢
 obtain⟨c0,c1,c2,c3,f0⟩:=cell4B hblk
 have f00:=f0 0
 have f02:=f0 2
 have HBlk:=Lib.hid hblk
 clear f0 c1 c3 hblk
 go_enter Tryz.func89, Tryz.ntmps89
 go_wp2_with fail
 generalize hW4:World.alloc (World.alloc (World.setCell (World.setCell w _ _) _ _) _) _=W4
 have hblk4:W4.heap[k]? = some (.cells #[.int .i64 xs,.slice none 0 0,.slice xaa xA.length xca,.bool false] 134 (0,0)):=by
  rw[← hW4]
  refine hx_oldT (hx_oldT ?_)
  rw[heap_setCell_same _ k 2 _ _ _ (blk_set HBlk.out 0)];rfl
 have hbx4:W4.heap[w.heap.size]? = some (.cells #[.int .i64 s.op,.int .i64 s.lo,.int .i64 s.hi,.int .i64 s.expr.op,.int .i64 s.expr.n,.string s.expr.name,.slice ae s.expr.args.length ce,.string s.name,.slice a s.args.length cap] 27 (0,0)):=by
  rw[← hW4]
  exact hx_oldT (hx_newT (by simp))
 have hb4:Below w0.heap.size w0 W4:=by
  rw[← hW4]
  have hz:=hb.size
  exact(((hb.setCell hk _).setCell hk _).alloc (by simp;omega) _).alloc (by simp;omega) _
 have hz4:w.heap.size+2≤W4.heap.size:=by rw[← hW4];simp
 clear hW4 c0 c2 f00 f02
 have HE4:=Lib.hid (BldE.mk0 (q:=qk p k) hk (qk_true.2 (Or.inr rfl)) hblk4 hb4)
 have HBX4:=Lib.hid hbx4
 have hwk:w.heap.size≠k:=by omega
 clear hblk4 hbx4 hb4 hb HBlk
 go_loopw [23,7] (fun i _ wr=>∃ (m:Nat) (ve:Value),i=.int .i64 m∧m≤xE.length∧Hid (BldE (qk p k) k w0 wr xs (hldL s.expr (xE.take m)) ve (.slice xaa xA.length xca))∧Hid (BF k W4 ve (.slice none 0 0) wr)) (fun i _ _=>xE.length - (intOf i).toNat)
 case atStart=>exact⟨0,.slice none 0 0,rfl,Nat.zero_le _,by simpa [hldL] using HE4,BF.refl _ _⟩
 case round =>
  obtain⟨m,ve,rfl,hm,HD,HF⟩:=hrel
  have hzr:=HF.out.size
  by_cases hlt:m < xE.length
  ·obtain⟨bf,of,hfa⟩:=HXA.out.resolve_left (by omega)
   subst hfa
   have HK0:Hid (Kp (World.hide w0 p) (World.hide wr (hid (qk p k) ve))):=bldE_kp0 HD.out
   obtain⟨ag,cg,aS,cs,g0,g1,g2,g3,h1,h2⟩:=edE_get (HXE.out.keep HK0.out) rfl hlt
   have e0:=hide_cell _ _ g0
   have e1:=hide_cell _ _ g1
   have e2:=hide_cell _ _ g2
   have e3:=hide_cell _ _ g3
   have hgl:=HGl.out m hlt
   have HTn:Hid (hldL s.expr (xE.take m)++[hldE s.expr (xE[m]'hlt)]=hldL s.expr (xE.take (m+1))):=(hldL_succ s.expr hlt).symm
   have HH1:=Lib.hid h1
   have HH2:=Lib.hid h2
   have HSE1:=Lib.hid (HSE.out.keep HK0.out)
   clear g0 g1 g2 g3 h1 h2
   generalize (xE[m]'hlt)=y at e0 e1 e2 e3 hgl HTn HH1 HH2
   have hbx:=(HF.out.block w.heap.size (by omega) hwk).trans HBX4.out
   obtain⟨-,-,-,x3,x4,x5,x6,-,-⟩:=cell9T hbx
   have X3:∀ o,(wr.alloc o).cell? ⟨w.heap.size,3,none⟩=some (.int .i64 s.expr.op):=fun o=>Lib.cell?_alloc_some _ x3
   have X4:∀ o,(wr.alloc o).cell? ⟨w.heap.size,4,none⟩=some (.int .i64 s.expr.n):=fun o=>Lib.cell?_alloc_some _ x4
   have X5:∀ o,(wr.alloc o).cell? ⟨w.heap.size,5,none⟩=some (.string s.expr.name):=fun o=>Lib.cell?_alloc_some _ x5
   have X6:∀ o,(wr.alloc o).cell? ⟨w.heap.size,6,none⟩=some (.slice ae s.expr.args.length ce):=fun o=>Lib.cell?_alloc_some _ x6
   clear hbx
   go_upto_region 6 with fail
   generalize hW5:World.alloc wr _=W5
   have hbw5:W5.heap[wr.heap.size]? = some (.cells #[.int .i64 y.fr,.int .i64 y.to,.slice ag y.guards.length cg,.slice aS y.sets.length cs] 69 (0,0)):=by rw[← hW5];exact hx_newT rfl
   have hB5:Below wr.heap.size wr W5:=by rw[← hW5];exact(Below.refl _ _).alloc (Nat.le_refl _) _
   have hz5:wr.heap.size < W5.heap.size:=by rw[← hW5];simp
   have x3:W5.cell? ⟨w.heap.size,3,none⟩=some (.int .i64 s.expr.op):=by rw[← hW5];exact X3 _
   have x4:W5.cell? ⟨w.heap.size,4,none⟩=some (.int .i64 s.expr.n):=by rw[← hW5];exact X4 _
   have x5:W5.cell? ⟨w.heap.size,5,none⟩=some (.string s.expr.name):=by rw[← hW5];exact X5 _
   have x6:W5.cell? ⟨w.heap.size,6,none⟩=some (.slice ae s.expr.args.length ce):=by rw[← hW5];exact X6 _
   obtain⟨b0,b1,b2,b3,bF⟩:=cell4B hbw5
   clear hW5 X3 X4 X5 X6 e0 e1 e2 e3
   obtain⟨q6,hq6⟩:∃ q6:Nat→Bool,(fun j=>hid (qk p k) ve j || j == wr.heap.size)=q6:=⟨_,rfl⟩
   have Q6:Hid (∀ j,q6 j=true↔hid (qk p k) ve j=true∨j=wr.heap.size):=fun j=>by rw[← hq6];simp
   have HQlt:Hid (∀ j,hid (qk p k) ve j=true→j < wr.heap.size):=HD.out.hlt fun j hj=>by
    rcases qk_true.1 hj with h | h
    ·have:=Hp.out j h;have:=HD.out.bel.size;omega
    ·subst h;exact HD.out.klt
   have hk65:Kp (World.hide wr (hid (qk p k) ve)) (World.hide W5 q6):=hide_below hB5 fun j hj h=>((Q6.out j).1 h).elim id fun e=>by omega
   clear hq6
   have HCl:Hid (∀ W,Below W5.heap.size W5 W→Calls Tryz.prog 146 #[.slice ag y.guards.length cg] W fun e w'=>(∃ a c,e=.returned (.slice a y.guards.length c)∧exE.Own 24 q6 w' W5.heap.size (.slice a y.guards.length c) y.guards)∧Below W.heap.size W w'∧Below W5.heap.size W5 w'):=fun W hW=>by
    refine(cloneEX q6 y.guards ag cg W (HH1.out.keep (hk65.trans (hide_below hW fun _ _ h=>h)))).mono ?_
    rintro e w' ⟨⟨v,rfl,h1⟩,h2⟩
    obtain⟨a,c,rfl,_⟩:=h1.slice (by omega)
    exact⟨⟨a,c,rfl,own_base h1 hW.size⟩,h2,hW.trans (h2.mono hW.size)⟩
   have HRx:Hid (∀ W v,Below W5.heap.size W5 W→(∀ j,Value.ownBlock v=some j→W5.heap.size≤j)→exR (World.hide W (hid q6 v)) s.expr [.int .i64 s.expr.op,.int .i64 s.expr.n,.string s.expr.name,.slice ae s.expr.args.length ce]):=fun W v hW hv=>⟨ae,ce,rfl,HSE1.out.keep (hk65.trans (hide_below hW fun j hj h=>(hid_true.1 h).elim id fun e=>by have:=hv j e;omega))⟩
   have HS5:Hid (∀ W,Below W5.heap.size W5 W→W.cell? ⟨wr.heap.size,2,none⟩=some (.slice ag y.guards.length cg)∧W.cell? ⟨w.heap.size,3,none⟩=some (.int .i64 s.expr.op)∧W.cell? ⟨w.heap.size,4,none⟩=some (.int .i64 s.expr.n)∧W.cell? ⟨w.heap.size,5,none⟩=some (.string s.expr.name)∧W.cell? ⟨w.heap.size,6,none⟩=some (.slice ae s.expr.args.length ce)):=fun W hW=>⟨keeps_of_below hW _ _ b2,keeps_of_below hW _ _ x3,keeps_of_below hW _ _ x4,keeps_of_below hW _ _ x5,keeps_of_below hW _ _ x6⟩
   have HBw5:=Lib.hid hbw5
   have HB5:=Lib.hid hB5
   have Hk65:=Lib.hid hk65
   have hs5:Below W5.heap.size W5 W5:=Below.refl _ _
   have X3:∀ o,(W5.alloc o).cell? ⟨w.heap.size,3,none⟩=some (.int .i64 s.expr.op):=fun o=>Lib.cell?_alloc_some _ x3
   have X4:∀ o,(W5.alloc o).cell? ⟨w.heap.size,4,none⟩=some (.int .i64 s.expr.n):=fun o=>Lib.cell?_alloc_some _ x4
   have X5:∀ o,(W5.alloc o).cell? ⟨w.heap.size,5,none⟩=some (.string s.expr.name):=fun o=>Lib.cell?_alloc_some _ x5
   have X6:∀ o,(W5.alloc o).cell? ⟨w.heap.size,6,none⟩=some (.slice ae s.expr.args.length ce):=fun o=>Lib.cell?_alloc_some _ x6
   have B2:∀ o,(W5.alloc o).cell? ⟨wr.heap.size,2,none⟩=some (.slice ag y.guards.length cg):=fun o=>Lib.cell?_alloc_some _ b2
   clear hbw5 hB5 hk65 bF b0 b1 b3
   go_region_law (first
    | (go_simp;go_at_call 146;(with_reducible refine(HCl.out _ (by first | with_reducible assumption | exact belR)).mono ?_);rintro e v1 ⟨⟨a1,k1,rfl,hc1⟩,hb1,hB1⟩;have hs1:=hB1.size;have HC1:=Lib.hid hc1;obtain⟨j2,j3,j4,j5,j6⟩:=HS5.out _ hB1;clear hc1)
    | (refine step_addE (E:=exE) elemEX (by rfl) _ _ (by rfl) q6 W5.heap.size (.slice a1 y.guards.length k1) (by rfl) (HC1.out.below (by first | exact Below.refl _ _ | exact belR)) s.expr [.int .i64 s.expr.op,.int .i64 s.expr.n,.string s.expr.name,.slice ae s.expr.args.length ce] (HRx.out _ _ (by first | with_reducible assumption | exact belR) (fun j hj=>(own_vlt HC1.out j hj).1)) _ 1 (by rfl) (by first | exact heap_alloc_new' _ _ | exact hbT hb1 (hx_newT rfl)) y.guards.length rfl hgl (by first | omega | (simp;omega)) _ rfl ?_;intro gg gcap wg hownG hgrow hatG hltG;have hbg:wg.heap[wr.heap.size]? = some (.cells #[.int .i64 y.fr,.int .i64 y.to,.slice ag y.guards.length cg,.slice aS y.sets.length cs] 69 (0,0)):=((hgrow.block wr.heap.size (by first | omega | (simp;omega)) (fun e=>by have:=(own_vlt HC1.out _ e.symm).1;omega)).trans ((Below.block (B:=W5.heap.size) (by first | with_reducible assumption | exact belR) _ hz5).trans HBw5.out));obtain⟨i0,i1,i2,i3,iF⟩:=cell4B hbg))
   all_goals
    have hBg:=gr_bel5 hgrow HB5.out (by first | with_reducible assumption | exact belR) (fun j hj=>(own_vlt HC1.out j hj).1)
    have hgg:=own_vlt hownG gg rfl
    have hq6b:q6 wr.heap.size=true:=(Q6.out _).2 (Or.inr rfl)
    have hown9:=own_storeB (o:=2) (u:=.slice (some ⟨gg,0,none⟩) (y.guards.length+1) gcap) hq6b (fun e=>by have:=Option.some.inj e;simp only at this;omega) hownG
    have hIn9:exE.In (World.hide (wg.setCell ⟨wr.heap.size,2,none⟩ (.slice (some ⟨gg,0,none⟩) (y.guards.length+1) gcap)) (hid (qk p k) ve)) (y.guards++[s.expr]) (some ⟨gg,0,none⟩) gcap:=own_in hown9 (by rw[List.length_append];simpa using hgl) (fun j hj=>(Q6.out j).2 (Or.inl hj)) fun j hj=>by have:=HQlt.out j hj;omega
    have hB9:Below wr.heap.size wr (wg.setCell ⟨wr.heap.size,2,none⟩ (.slice (some ⟨gg,0,none⟩) (y.guards.length+1) gcap)):=hBg.setCell (Nat.le_refl _) _
    have HM:Hid (Calls Tryz.prog 136 #[.pointer (some ⟨k,0,none⟩),.agg #[.int .i64 y.fr,.int .i64 y.to,.slice (some ⟨gg,0,none⟩) (y.guards.length+1) gcap,.slice aS y.sets.length cs]] (wg.setCell ⟨wr.heap.size,2,none⟩ (.slice (some ⟨gg,0,none⟩) (y.guards.length+1) gcap)) (AddPost (qk p k) k w0 (wg.setCell ⟨wr.heap.size,2,none⟩ (.slice (some ⟨gg,0,none⟩) (y.guards.length+1) gcap)) xs (hldL s.expr (xE.take m)++[hldE s.expr y]) ve (.slice xaa xA.length xca))):=by
     have h:=add_any (HD.out.below hB9) (hldE s.expr y) (some ⟨gg,0,none⟩) gcap aS cs hIn9 (HH2.out.keep (hid_below hB9))
     have e:(hldE s.expr y).guards.length=y.guards.length+1:=by simp[hldE]
     unfold edVal at h
     rw[e] at h
     exact h
    have HB9:=Lib.hid hB9
    clear hBg hgg hq6b hown9 hIn9 hB9 hownG hgrow hatG hltG hbg
    go_wp2_with fail
    refine HM.out.mono ?_
    rintro e w7 ⟨rfl,u',hD7,hS7⟩
    have HD7:Hid (BldE (qk p k) k w0 w7 xs (hldL s.expr (xE.take (m+1))) u' (.slice xaa xA.length xca)):=by show BldE _ _ _ _ _ _ _ _;rw[← HTn.out];exact hD7
    have HF7:Hid (BF k W4 u' (.slice none 0 0) w7):=(HF.out.below HB9.out).step hS7
    clear hD7 hS7
    go_wp2_with fail
    go_roundw
    case rel=>exact⟨m+1,u',by go_num,by omega,HD7.out,HF7.out⟩
    case measure=>(simp[intOf];try omega)
  ·obtain rfl:m=xE.length:=by omega
   have HDf:Hid (BldE (qk p k) k w0 wr xs (hldL s.expr xE) ve (.slice xaa xA.length xca)):=by
    show BldE _ _ _ _ _ _ _ _
    have:=HD.out
    rwa [List.take_length] at this
   go_wp2_with fail
   first | exact HPo.out _ _ HDf.out | (refine bodyPost_ret (results_none rfl _ _ _) rfl ?_;exact HPo.out _ _ HDf.out)
end Go.Proofs.YthojpomoflhbcaaGreatDoor
namespace Go.Proofs.YthojpomoflhbcaaGreatDoor
open Go.RowKit
attribute [local go_sem ↓] Go.wp_at_zero Go.wp_at_succ
theorem contI_any (l:List Int) (a:Option Addr) (c:Nat) (x:Int) (w:World) (h:IntsIn w l a c):Calls Tryz.prog 60 #[.slice a l.length c,.int .i64 x] w fun e w'=>e=.returned (.bool (l.contains x))∧w'=w:=by
 rcases Nat.eq_zero_or_pos l.length with h0 | h0
 ·obtain rfl:l=[]:=List.eq_nil_of_length_eq_zero h0
  exact(Tryz.slices_Contains_int_empty a c x w).mono fun e w' h=>⟨h.1,h.2⟩
 ·obtain⟨b,off,rfl⟩:=(SliceIn.addr h).resolve_left (by omega)
  have:=Tryz.slices_Contains_int b off l.length c l x w (Nat.le_refl _) (by have:=h.2.1;omega) (fun j hj=>h.get rfl hj)
  rw[List.take_length] at this
  exact this
def idxZ (l:List Int) (x:Int):Int:=if l.contains x=true then (l.idxOf x:Nat) else -1
theorem idxFrom_eq (x:Int):∀ (l:List Int) (i:Nat),Lib.idxFrom l x i=if l.contains x=true then ((i+l.idxOf x:Nat):Int) else -1:=by
 intro l
 induction l with
 | nil=>intro i;simp[Lib.idxFrom]
 | cons y l ih =>
  intro i
  unfold Lib.idxFrom
  by_cases h:y=x
  ·subst h
   simp
  ·have h2:(y == x)=false:=by simp[h]
   have h3:¬ x=y:=fun e=>h e.symm
   rw[List.idxOf_cons,h2]
   simp only[h,if_false,cond_false,ih,List.contains_cons,beq_eq_false_iff_ne.2 h3,Bool.false_or]
   split
   ·omega
   ·rfl
theorem idxI_any (l:List Int) (a:Option Addr) (c:Nat) (x:Int) (w:World) (h:IntsIn w l a c):Calls Tryz.prog 116 #[.slice a l.length c,.int .i64 x] w fun e w'=>e=.returned (.int .i64 (idxZ l x))∧w'=w:=by
 have e:Lib.idxOf l x=idxZ l x:=by
  unfold Lib.idxOf idxZ
  rw[idxFrom_eq,Nat.zero_add]
 rw[← e]
 rcases Nat.eq_zero_or_pos l.length with h0 | h0
 ·obtain rfl:l=[]:=List.eq_nil_of_length_eq_zero h0
  exact Tryz.slices_Index_int_empty a c x w
 ·obtain⟨b,off,rfl⟩:=(SliceIn.addr h).resolve_left (by omega)
  have:=Tryz.slices_Index_int b off l.length c l x w (Nat.le_refl _) (by have:=h.2.1;omega) (fun j hj=>h.get rfl hj)
  rw[List.take_length] at this
  exact this
theorem accepts_any (n:NfaD) (x:NfaA) (s:Int) (w:World) (h:IntsIn w n.accept x.aa x.ca):Calls Tryz.prog 138 #[nfaVal n x,.int .i64 s] w fun e w'=>e=.returned (.bool (n.accept.contains s))∧Below w.heap.size w w':=by
 have HC:Hid (∀ W,Below w.heap.size w W→Calls Tryz.prog 60 #[.slice x.aa n.accept.length x.ca,.int .i64 s] W fun e w'=>e=.returned (.bool (n.accept.contains s))∧w'=W):=fun W hW=>contI_any _ _ _ _ W (h.keep (keeps_of_below hW))
 clear h
 rw[nfaVal_eq]
 generalize n.accept.contains s=R at HC⊢
 go_enter Tryz.func138, Tryz.ntmps138
 go_wp2_with fail
 refine(HC.out _ bel).mono ?_
 rintro e w1 ⟨rfl,rfl⟩
 go_wp2_with fail
 go_ret
 exact⟨rfl,bel⟩
end Go.Proofs.YthojpomoflhbcaaGreatDoor
namespace Go.Proofs.YthojpomoflhbcaaGreatDoor
open Go.RowKit
structure BG (k:Nat) (W:World) (v0 a0:Value) (wr:World) (v a:Value):Prop where
 size:W.heap.size≤wr.heap.size
 block:∀ j,j < W.heap.size→j≠k→v0.ownBlock≠some j→a0.ownBlock≠some j→wr.heap[j]? = W.heap[j]?
 vrow:v.ownBlock=v0.ownBlock∨∀ g,v.ownBlock=some g→W.heap.size≤g
 arow:a.ownBlock=a0.ownBlock∨∀ g,a.ownBlock=some g→W.heap.size≤g
section
variable {k : Nat} {W wr wr' : World} {v0 a0 v a v' a' : Value}
theorem BG.refl (k:Nat) (W:World) (v a:Value):BG k W v a W v a:=⟨Nat.le_refl _,fun _ _ _ _ _=>rfl,Or.inl rfl,Or.inl rfl⟩
theorem BG.vne (h:BG k W v0 a0 wr v a) {j:Nat} (hj:j < W.heap.size) (hv:v0.ownBlock≠some j):v.ownBlock≠some j:=fun e=>by
 rcases h.vrow with e2 | e2
 ·rw[e2] at e;exact hv e
 ·have:=e2 j e;omega
theorem BG.ane (h:BG k W v0 a0 wr v a) {j:Nat} (hj:j < W.heap.size) (hv:a0.ownBlock≠some j):a.ownBlock≠some j:=fun e=>by
 rcases h.arow with e2 | e2
 ·rw[e2] at e;exact hv e
 ·have:=e2 j e;omega
theorem BG.step (h:BG k W v0 a0 wr v a) (hs:BStep k wr v wr' v'):BG k W v0 a0 wr' v' a:=by
 refine⟨Nat.le_trans h.size hs.size,fun j hj hk h1 h2=>?_,?_,h.arow⟩
 ·exact(hs.block j (Nat.lt_of_lt_of_le hj h.size) hk (h.vne hj h1)).trans (h.block j hj hk h1 h2)
 ·rcases hs.row with e | e
  ·rw[e];exact h.vrow
  ·exact Or.inr fun g hg=>Nat.le_trans h.size (e g hg)
theorem BG.below (h:BG k W v0 a0 wr v a) (hb:Below wr.heap.size wr wr'):BG k W v0 a0 wr' v a:=h.step (BStep.below v hb)
theorem BG.acc (h:BG k W v0 a0 wr v a) (hg:wr.grownBy wr' a.ownBlock) (hat:a'.ownBlock=a.ownBlock∨∃ g,a'.ownBlock=some g∧wr.heap.size≤g) (u:Value) (o:Nat):BG k W v0 a0 (wr'.setCell ⟨k,o,none⟩ u) v a':=by
 refine⟨by rw[World.size_setCell];exact Nat.le_trans h.size hg.size,fun j hj hk h1 h2=>?_,h.vrow,?_⟩
 ·exact(Below.heap_setCell _ _ _ _ (fun e=>hk (by simpa using e))).trans ((hg.block j (Nat.lt_of_lt_of_le hj h.size) fun e=>h.ane hj h2 e.symm).trans (h.block j hj hk h1 h2))
 ·rcases hat with e | ⟨g,e,hgs⟩
  ·rw[e];exact h.arow
  ·exact Or.inr fun g' hg'=>by rw[e] at hg';have:=Option.some.inj hg';have:=h.size;omega
theorem BG.setSt (h:BG k W v0 a0 wr v a) (u:Value) (o:Nat):BG k W v0 a0 (wr.setCell ⟨k,o,none⟩ u) v a :=
 ⟨by rw[World.size_setCell];exact h.size,fun j hj hk h1 h2=>(Below.heap_setCell _ _ _ _ (fun e=>hk (by simpa using e))).trans (h.block j hj hk h1 h2),h.vrow,h.arow⟩
theorem BG.kp {q:Nat→Bool} (h:BG k W v0 a wr v a) (hk:q k=true):Kp (World.hide W (hid (hid q a) v0)) (World.hide wr (hid (hid q a) v)):=by
 intro ad u ha
 obtain⟨h1,h2⟩:=cell_hide.1 ha
 have hlt:=lt_cell h2
 have hn:∀ j,hid (hid q a) v0 j=true→ad.block≠j:=fun j hj e=>by rw[e,hj] at h1;simp at h1
 have hvn:v0.ownBlock≠some ad.block:=fun e=>hn _ (hid_true.2 (Or.inr e)) rfl
 have han:a.ownBlock≠some ad.block:=fun e=>hn _ (hid_true.2 (Or.inl (hid_true.2 (Or.inr e)))) rfl
 refine cell_hide.2 ⟨?_,by rw[World.cell?_of_block (h.block _ hlt (hn _ (hid_true.2 (Or.inl (hid_true.2 (Or.inl hk))))) hvn han)];exact h2⟩
 cases e:hid (hid q a) v ad.block with
 | false=>rfl
 | true =>
  rcases hid_true.1 e with e2 | e2
  ·exact absurd rfl (hn _ (hid_true.2 (Or.inl e2)))
  ·exact absurd e2 (h.vne hlt hvn)
theorem BldS.accKp {q:Nat→Bool} {w0 w w':World} {st:Int} {L:List EdgeD} {A:List Int} {ve va u':Value} (h:BldS q k w0 w st L A ve va) (hg:w.grownBy w' va.ownBlock) (hat:u'.ownBlock=va.ownBlock∨∃ g,u'.ownBlock=some g∧w.heap.size≤g) (o:Nat) (u:Value):Kp (World.hide w (hid (hid q va) ve)) (World.hide (w'.setCell ⟨k,o,none⟩ u) (hid (hid q u') ve)):=by
 have hk:hid (hid q u') ve k=true:=by
  rcases hid_true.1 h.e.qk with e | e
  ·exact hid_true.2 (Or.inl (hid_true.2 (Or.inl e)))
  ·exact absurd e.symm h.ane
 refine Kp.trans (hide_grown (q:=hid (hid q u') ve) hg (fun j hj=>hid_true.2 (Or.inl (hid_true.2 (Or.inr hj)))) fun j hj hq=>?_) (hide_store hk)
 rcases hid_true.1 hq with h3 | h3
 ·rcases hid_true.1 h3 with h4 | h4
  ·exact hid_true.2 (Or.inl (hid_true.2 (Or.inl h4)))
  ·rcases hat with e | ⟨g,e,hgs⟩
   ·exact hid_true.2 (Or.inl (hid_true.2 (Or.inr (by rw[← e];exact h4))))
   ·rw[e] at h4;have:=Option.some.inj h4;omega
 ·exact hid_true.2 (Or.inr h3)
theorem BF.then (h:BF k W v0 a0 wr) (g:BG k wr v0 a0 wr' v a):BF k W v a wr':=by
 refine⟨Nat.le_trans h.size g.size,fun j hj hk=>?_,fun j hj=>?_,fun j hj=>?_⟩
 ·exact(g.block j (Nat.lt_of_lt_of_le hj h.size) hk (fun e=>by have:=h.vlt j e;omega) fun e=>by have:=h.alt j e;omega).trans (h.block j hj hk)
 ·rcases g.vrow with e | e
  ·exact h.vlt j (by rw[← e];exact hj)
  ·exact Nat.le_trans h.size (e j hj)
 ·rcases g.arow with e | e
  ·exact h.alt j (by rw[← e];exact hj)
  ·exact Nat.le_trans h.size (e j hj)
theorem BG.trans {wr2:World} {v2 a2:Value} (h:BG k W v0 a0 wr v a) (g:BG k wr v a wr2 v2 a2):BG k W v0 a0 wr2 v2 a2:=by
 refine⟨Nat.le_trans h.size g.size,fun j hj hk h1 h2=>?_,?_,?_⟩
 ·exact(g.block j (Nat.lt_of_lt_of_le hj h.size) hk (h.vne hj h1) (h.ane hj h2)).trans (h.block j hj hk h1 h2)
 ·rcases g.vrow with e | e
  ·rw[e];exact h.vrow
  ·exact Or.inr fun j hj=>Nat.le_trans h.size (e j hj)
 ·rcases g.arow with e | e
  ·rw[e];exact h.arow
  ·exact Or.inr fun j hj=>Nat.le_trans h.size (e j hj)
end
end Go.Proofs.YthojpomoflhbcaaGreatDoor
namespace Go.Proofs.YthojpomoflhbcaaGreatDoor
open Go.RowKit Go.WideMaps
def heldR (v:Value):Option (DataW Value × List MemPlace):=some (.held v,[])
def MapV (w:World) (P:Program) (k:TypeId) (b m:Nat) (f:Lit→Option Value):Prop :=
 ∃ D:DataW Value,w.ownsMap P k heldR b m D∧Maps.Tidy D∧Maps.size D=m∧∀ kl,Maps.has D kl=(f kl).isSome∧∀ v,f kl=some v→∀ z,D.atKey kl z=.held v
noncomputable def putL (f:Lit→Option Value) (kl:Lit) (v:Option Value):Lit→Option Value:=fun x=>@ite _ (x=kl) (Classical.propDecidable _) v (f x)
theorem putL_same (f:Lit→Option Value) (kl:Lit) (v:Option Value):putL f kl v kl=v:=by unfold putL;exact if_pos rfl
theorem putL_other {f:Lit→Option Value} {kl x:Lit} (v:Option Value) (h:x≠kl):putL f kl v x=f x:=by unfold putL;exact if_neg h
theorem ownsMap_tight {H:Type} {w:World} {P:Program} {k:TypeId} {R:Value→Option (DataW H × List MemPlace)} {b n:Nat} {D:DataW H} (h:w.ownsMap P k R b n D):w.ownsMap P k R b (Maps.size D) D:=by
 obtain⟨es,clock,hb,F,_,rfl⟩:=h
 exact⟨es,clock,hb,F,by simp[Maps.size,length_sorted],rfl⟩
section
variable {w : World} {P : Program} {k : TypeId} {b m : Nat} {f : Lit → Option Value}
theorem MapV.made (w:World) (P:Program) (k:TypeId):MapV (w.alloc (.map #[] 0)) P k w.heap.size 0 (fun _=>none) :=
 ⟨.map [],World.ownsMap_made w _ _ _,Maps.tidy_empty,rfl,fun kl=>⟨rfl,fun v h=>by cases h⟩⟩
theorem MapV.lt (h:MapV w P k b m f):b < w.heap.size:=by
 obtain⟨D,h1,_⟩:=h
 exact h1.lt
theorem MapV.kept {w':World} {row:Option Nat} (h:MapV w P k b m f) (hg:w.grownBy w' row) (hne:some b≠row):MapV w' P k b m f:=by
 obtain⟨D,h1,r⟩:=h
 exact⟨D,h1.kept hg hne,r⟩
theorem MapV.alloc (h:MapV w P k b m f) (o:Obj):MapV (w.alloc o) P k b m f:=h.kept (World.grownBy_alloc w o none) (by simp)
theorem MapV.setCell (h:MapV w P k b m f) {a:Addr} (ha:b≠a.block) (u:Value):MapV (w.setCell a u) P k b m f:=by
 obtain⟨D,h1,r⟩:=h
 exact⟨D,h1.setCell ha u,r⟩
theorem MapV.block {w':World} (h:MapV w P k b m f) (hb:w'.heap[b]? = w.heap[b]?):MapV w' P k b m f:=by
 obtain⟨D,⟨es,clock,g1,g2⟩,r⟩:=h
 exact⟨D,⟨es,clock,hb.trans g1,g2⟩,r⟩
theorem MapV.below {w':World} (h:MapV w P k b m f) (hb:Below w.heap.size w w'):MapV w' P k b m f:=h.block (hb.block _ h.lt)
theorem MapV.belowB {w':World} {B:Nat} (h:MapV w P k b m f) (hb:Below B w w') (hB:b < B):MapV w' P k b m f:=h.block (hb.block _ hB)
theorem MapV.cells {w':World} (h:MapV w P k b m f) (hg:w.grownBy w' (some b)):∀ a v,w.cell? a=some v→w'.cell? a=some v:=by
 intro a v hc
 obtain⟨D,⟨es,clock,g1,_⟩,_⟩:=h
 have hlt:=World.block_lt_of_cell? _ _ hc
 have hne:a.block≠b:=fun e=>by
  subst e
  unfold World.cell? at hc
  rw[g1] at hc
  simp at hc
 have hh:=hg.block a.block hlt (fun e=>hne (by injection e))
 unfold World.cell? at hc⊢
 rw[hh]
 exact hc
theorem MapV.congr {g:Lit→Option Value} (h:MapV w P k b m f) (hfg:∀ x,f x=g x):MapV w P k b m g:=by
 have:f=g:=funext hfg
 rw[← this];exact h
theorem MapV.put {w':World} {D:DataW Value} {kl:Lit} {v:Value} (hk:WideAt.IsKeyLit kl) (ht:Maps.Tidy D) (hf:∀ kl,Maps.has D kl=(f kl).isSome∧∀ v,f kl=some v→∀ z,D.atKey kl z=.held v) {n:Nat} (h:w'.ownsMap P k heldR b n (D.put kl (.held v))) :
  MapV w' P k b (Maps.size D+if (f kl).isSome then 0 else 1) (putL f kl (some v)):=by
 have hs:=Maps.size_put (k:=kl) ht (.held v)
 rw[(hf kl).1] at hs
 have hs':Maps.size (D.put kl (.held v))=Maps.size D+if (f kl).isSome then 0 else 1:=by rw[hs];split<;>simp
 refine⟨_,?_,ht.put hk _,hs',fun x=>?_⟩
 ·rw[← hs'];exact ownsMap_tight h
 ·by_cases hx:x=kl
  ·subst hx
   rw[putL_same]
   refine⟨Maps.has_put_same ht.isMap hk _,fun u hu z=>?_⟩
   obtain rfl:=Option.some.inj hu
   exact Maps.atKey_put_same ht.isMap hk _ _
  ·rw[putL_other _ hx]
   refine⟨(Maps.has_put_other hx _).trans (hf x).1,fun u hu z=>?_⟩
   rw[Maps.atKey_put_other hx]
   exact(hf x).2 u hu z
theorem heldR_inv {v:Value} {d:DataW Value} {ps:List MemPlace} (h:heldR v=some (d,ps)):d=.held v:=by
 unfold heldR at h
 injection h with h
 injection h with h _
 exact h.symm
end
section
variable {P : Program} {w : World} {ops : Array Oper} {rest : List Oper} {o : Oper} {a : Act} {Q : Exit → Act → World → Prop} {k : TypeId} {b n : Nat} {f : Lit → Option Value}
theorem wp_mapV_put (w:World) (hg:o.guard=none) (m x v:Operand) (t e:TypeId) (hop:o.op=Op.mapUpdate t m x v) (K:Maps.Keyed P k) (ht:P.underlying t=some (.map k e)) (hm:a.eval m=.map (some b)) (hown:MapV w P k b n f) (hn:n < 1000000000)
  (key val:Value) (kl:Lit) (hx:a.eval x=key) (hv:a.eval v=val) (hkey:keyOf P k key=some kl) (hk:WideAt.IsKeyLit kl)
  (hK:∀ w',MapV w' P k b (n+if (f kl).isSome then 0 else 1) (putL f kl (some val))→w.grownBy w' (some b)→wpList P ops Q rest (a.put o.dst undef) w'):wpList P ops Q (o::rest) a w:=by
 obtain⟨D,h1,h2,h3,h4⟩:=hown
 refine wpList_mapUpdate_own w hg m x v t hop k e K ht heldR b n D hm h1 (by unfold maxLen;omega) key val kl hx hv hkey (.held val) [] rfl ?_
 intro w' h5 h6
 have:=MapV.put hk h2 h4 h5
 rw[h3] at this
 exact hK w' this h6
theorem mapV_ok_run (hown:MapV w P k b n f) {t e:TypeId} (K:Maps.Keyed P k) (ht:P.underlying t=some (.map k e)) {z:Value} (hz:(zeroValue e).run P w=.ok z w) {key:Value} {kl:Lit} (hkey:keyOf P k key=some kl) :
  (Instr.lookup t (.map (some b)) key true).run P w=.ok (.tuple #[(f kl).getD z,.bool (f kl).isSome]) w:=by
 obtain⟨D,h1,h2,h3,h4⟩:=hown
 obtain⟨u,ps,hrun,hR⟩:=h1.look_ok K ht hz (zd:=.held z) (zp:=[]) rfl hkey
 have hu:=heldR_inv hR
 rw[(h4 kl).1] at hrun
 cases hf:f kl with
 | none =>
  have hh:=(h4 kl).1
  rw[hf] at hh hrun
  rw[Maps.atKey_of_not_has (by simpa using hh)] at hu
  injection hu with hu
  subst hu
  simpa using hrun
 | some v =>
  rw[(h4 kl).2 v hf] at hu
  injection hu with hu
  subst hu
  rw[hf] at hrun
  simpa using hrun
theorem wp_mapV_some (w:World) (hg:o.guard=none) (m x:Operand) (t e:TypeId) (hop:o.op=Op.lookup t m x true) (K:Maps.Keyed P k) (ht:P.underlying t=some (.map k e)) {z:Value} (hz:(zeroValue e).run P w=.ok z w) (hm:a.eval m=.map (some b)) (hown:MapV w P k b n f)
  (key:Value) (kl:Lit) (hx:a.eval x=key) (hkey:keyOf P k key=some kl) (v:Value) (hf:f kl=some v)
  (hK:wpList P ops Q rest (a.put o.dst (.tuple #[v,.bool true])) w):wpList P ops Q (o::rest) a w:=by
 have hrun:=mapV_ok_run hown K ht hz hkey
 rw[hf] at hrun
 refine wpList_plain hg fun K' hK'=>?_
 unfold Oper.wp
 simp[execOp,hop,hm,hx,hrun,Result.andThen]
 exact hK' _ _ hK
theorem wp_mapV_none (w:World) (hg:o.guard=none) (m x:Operand) (t e:TypeId) (hop:o.op=Op.lookup t m x true) (K:Maps.Keyed P k) (ht:P.underlying t=some (.map k e)) {z:Value} (hz:(zeroValue e).run P w=.ok z w) (hm:a.eval m=.map (some b)) (hown:MapV w P k b n f)
  (key:Value) (kl:Lit) (hx:a.eval x=key) (hkey:keyOf P k key=some kl) (hf:f kl=none)
  (hK:wpList P ops Q rest (a.put o.dst (.tuple #[z,.bool false])) w):wpList P ops Q (o::rest) a w:=by
 have hrun:=mapV_ok_run hown K ht hz hkey
 rw[hf] at hrun
 refine wpList_plain hg fun K' hK'=>?_
 unfold Oper.wp
 simp[execOp,hop,hm,hx,hrun,Result.andThen]
 exact hK' _ _ hK
theorem wp_mapV_len (w:World) (hg:o.guard=none) (m:Operand) (t k e:TypeId) (hop:o.op=Op.call { callee:=Callee.builtin Builtin.len,args:=#[m],argTypes:=#[t] }) (ht:P.underlying t=some (.map k e)) (hm:a.eval m=.map (some b)) (hown:MapV w P k b n f)
  (hK:wpList P ops Q rest (a.put o.dst (.int .i64 n)) w):wpList P ops Q (o::rest) a w:=by
 obtain⟨D,h1,h2,h3,h4⟩:=hown
 refine wpList_len_own w hg m t hop k e ht heldR b n D hm h1 ?_
 rw[h3]
 exact hK
end
end Go.Proofs.YthojpomoflhbcaaGreatDoor
namespace Go.Proofs.YthojpomoflhbcaaGreatDoor
open Go.RowKit Go.WideMaps
def prR (_:World) (p:Int × Int) (vs:List Value):Prop:=vs=[.int .i64 p.1,.int .i64 p.2]
def prE:Enc (Int × Int) where
 sz:=2
 R:=prR
 pos:=by decide
 len:=by rintro _ _ _ rfl;rfl
 keep:=by rintro _ _ _ _ _ h;exact h
 one:=by rintro _ _ _ rfl v hv;simp at hv;rcases hv with rfl | rfl<;>rfl
theorem prE_at {w:World} {p:Int × Int} {b o:Nat} (h:prE.At w p b o):w.cell? ⟨b,o,none⟩=some (.int .i64 p.1)∧w.cell? ⟨b,o+1,none⟩=some (.int .i64 p.2):=by
 obtain⟨vs,rfl,hc⟩:=h
 exact⟨hc 0 _ rfl,hc 1 _ rfl⟩
theorem elemPR:Elem Tryz.prog 108 109 2:=Elem.of Tryz.underlying108 (by kernel_rfl) (z:=.agg #[.int .i64 0,.int .i64 0]) (bytes:=16) rfl (by decide) (by decide)
theorem prR_w {w w':World} {l:List (Int × Int)} {xs:List Value} (h:prE.Vals w l xs):prE.Vals w' l xs:=⟨h.1,fun i hi=>by obtain⟨vs,h1,h2⟩:=h.2 i hi;exact⟨vs,h1,h2⟩⟩
theorem prOwn_iff {p:Nat→Bool} {w:World} {B:Nat} {v:Value} {l:List (Int × Int)}:prE.Own 109 p w B v l↔∃ xs,w.ownsRow B 109 2 v l.length xs∧prE.Vals w l xs :=
 ⟨fun ⟨xs,h1,h2⟩=>⟨xs,h1,prR_w h2⟩,fun ⟨xs,h1,h2⟩=>⟨xs,h1,prR_w h2⟩⟩
def prV (p:Int × Int):Value:=.agg #[.int .i64 p.1,.int .i64 p.2]
def prL (p:Int × Int):Lit:=.string (keyBytes [.int .i64 p.1,.int .i64 p.2])
def SmP (p:Int × Int):Prop:=(-1≤p.1∧p.1≤100000)∧-1≤p.2∧p.2≤100000
theorem arrPR:ArrKey Tryz.prog 109 3 2:=⟨Tryz.underlying109,by kernel_rfl,by kernel_rfl,by kernel_rfl⟩
theorem laidPR:laidOutB Tryz.prog=true:=by kernel_rfl
theorem rowPR:(109:TypeId) < Tryz.prog.types.size:=of_decide_eq_true (by kernel_rfl)
theorem typPR : Tryz.prog.keyTypeAt 2 109=true:=by kernel_rfl
theorem keyed_pr:Maps.Keyed Tryz.prog 109:=Maps.Keyed.of_law (deep_law_laid laidPR (m:=2) (by omega) rowPR typPR (by rw[Tryz.underlying109]))
theorem szPR:∃ m, Tryz.prog.types.size=m+1:=⟨Tryz.prog.types.size - 1,by have:0 < Tryz.prog.types.size:=of_decide_eq_true (by kernel_rfl);omega⟩
theorem key_pr {p:Int × Int} (h:SmP p):keyOf Tryz.prog 109 (prV p)=some (prL p):=by
 obtain⟨⟨h1,h2⟩,h3,h4⟩:=h
 exact keyOf_pair arrPR Tryz.underlying3 szPR (WalkArith.wf_i64 (by omega)) (WalkArith.wf_i64 (by omega))
theorem prL_inj {p q:Int × Int} (hp:SmP p) (hq:SmP q) (h:prL p=prL q):p=q:=by
 have h1:=key_pr hp
 have h2:=key_pr hq
 rw[← h] at h2
 have:=keyed_pr.inj h1 h2
 unfold prV at this
 obtain⟨a,b⟩:=p
 obtain⟨c,d⟩:=q
 simp only[Value.agg.injEq] at this
 have h3:=congrArg Array.toList this
 simp only[List.cons.injEq,Value.int.injEq,true_and,and_true] at h3
 rw[h3.1,h3.2]
theorem zero_intP (w:World):(zeroValue 3).run Tryz.prog w=.ok (.int .i64 0) w:=by kernel_rfl
def MapJ (w:World) (b:Nat) (ps:List (Int × Int)):Prop :=
 ∃ (m:Nat) (f:Lit→Option Value),MapV w Tryz.prog 109 b m f∧m≤ps.length∧∀ p,SmP p→f (prL p)=if ps.contains p then some (.int .i64 (ps.idxOf p:Nat)) else none
section
variable {w w' : World} {b : Nat} {ps : List (Int × Int)}
theorem MapJ.lt (h:MapJ w b ps):b < w.heap.size:=by obtain⟨m,f,h1,_⟩:=h;exact h1.lt
theorem MapJ.block (h:MapJ w b ps) (hb:w'.heap[b]? = w.heap[b]?):MapJ w' b ps:=by
 obtain⟨m,f,h1,h2⟩:=h
 exact⟨m,f,h1.block hb,h2⟩
theorem contains_snoc {p q:Int × Int}:(ps++[q]).contains p=(ps.contains p || p == q):=by rw[Bool.eq_iff_iff];simp
theorem MapJ.put {m:Nat} {f:Lit→Option Value} {q:Int × Int} {n:Nat} (h2:m≤ps.length) (h3:∀ p,SmP p→f (prL p)=if ps.contains p then some (.int .i64 (ps.idxOf p:Nat)) else none) (hq:SmP q) (hn:ps.contains q=false) (hnl:n=ps.length) (h:MapV w' Tryz.prog 109 b (m+if (f (prL q)).isSome then 0 else 1) (putL f (prL q) (some (.int .i64 n)))):MapJ w' b (ps++[q]):=by
 subst hnl
 refine⟨_,_,h,?_,fun p hp=>?_⟩
 ·rw[List.length_append,List.length_singleton];split<;>omega
 ·have hni:q∉ps:=fun e=>by rw[List.contains_iff_mem.2 e] at hn;cases hn
  rw[contains_snoc]
  by_cases e:p=q
  ·subst e
   rw[putL_same,beq_self_eq_true,Bool.or_true,if_pos rfl,List.idxOf_append,if_neg hni]
   simp
  ·rw[putL_other _ (fun e2=>e (prL_inj hp hq e2)),h3 p hp,beq_eq_false_iff_ne.2 e,Bool.or_false]
   by_cases hc:ps.contains p=true
   ·rw[if_pos hc,if_pos hc,List.idxOf_append,if_pos (List.contains_iff_mem.1 hc)]
   ·rw[if_neg hc,if_neg hc]
end
end Go.Proofs.YthojpomoflhbcaaGreatDoor
