/- nfa.copied. -/
import Derived.Test.YthojpomoflhbcaaGreatDoorN17
import Derived.Test.YthojpomoflhbcaaGreatDoorN08
import Derived.Test.YthojpomoflhbcaaGreatDoorN24
set_option linter.unusedSimpArgs false
set_option linter.unusedVariables false
set_option linter.unnecessarySimpa false
namespace Go.Proofs.YthojpomoflhbcaaGreatDoor
open Go.RowKit
attribute [local go_sem ↓] Go.wp_at_zero Go.wp_at_succ
def edBoxC (f t:Int) (vg vs:Value):Obj:=.cells #[.int .i64 f,.int .i64 t,vg,vs] 69 (0,0)
theorem fresh_at (y:Ex) (xa:Option Addr) (xc:Nat) (W5:World) (h:ExIn W5 y xa xc):∀ W,Below W5.heap.size W5 W→Calls Tryz.prog 123 #[.agg #[.int .i64 y.op,.int .i64 y.n,.string y.name,.slice xa y.args.length xc]] W fun e w'=>(∃ a c,e=.returned (.agg #[.int .i64 y.op,.int .i64 y.n,.string y.name,.slice a y.args.length c])∧ExIn (World.hide w' (old W5.heap.size)) y a c)∧Below W.heap.size W w'∧Below W5.heap.size W5 w':=fun W hW=>by
 refine(freshN_any y xa xc W (h.keep (keeps_of_below hW))).mono ?_
 rintro e w' ⟨⟨a,c,rfl,h1⟩,h2⟩
 exact⟨⟨a,c,rfl,h1.keep (hide_mono fun k hk=>old_true.2 (by have:=old_true.1 hk;have:=hW.size;omega))⟩,h2,hW.trans (h2.mono hW.size)⟩
theorem ed_resC (fn:Func) (hr:fn.results=#[.cell 6 69]) (W:World) (tm:Array Value) (b:Nat) (m0 m1 m2 m3:Value) (hW:W.heap[b]? = some (.cells #[m0,m1,m2,m3] 69 (0,0))) (h0:tm.getD 6 undef=.pointer (some ⟨b,0,none⟩)) :
  (results fn tm).run Tryz.prog W=.ok (.agg #[m0,m1,m2,m3]) W:=by
 have c0:=cell_of_blkT hW 0
 have c1:=cell_of_blkT hW 1
 have c2:=cell_of_blkT hW 2
 have c3:=cell_of_blkT hW 3
 simp at c0 c1 c2 c3
 rw[results_cellC hr,h0]
 simp[asAddr]
 go_simp
theorem cp_step {W3 wr W5 cur wg:World} {N:Nat} {row:Option Nat} (h:Below N W3 wr) (h5:Below wr.heap.size wr W5) (hc:Below W5.heap.size W5 cur) (hg:cur.grownBy wg row) (hN:N≤wr.heap.size) (hr:∀ j,row=some j→N≤j):Below N W3 wg:=by
 have h1:=h5.size
 have h2:=hc.size
 exact(h.trans ((h5.trans (hc.mono h1)).mono hN)).grown hg (by omega) hr
theorem cp_kp {wr W5 cur wg:World} {row:Option Nat} {s t:Nat→Bool} (h5:Below wr.heap.size wr W5) (hc:Below W5.heap.size W5 cur) (hg:cur.grownBy wg row) (hs:∀ j,row=some j→s j=true) (ht:∀ k,k < cur.heap.size→t k=true→s k=true):Kp (World.hide wr s) (World.hide wg t) :=
 Kp.trans (hide_below (p:=s) (q:=s) (h5.trans (hc.mono h5.size)) fun _ _ h=>h) (hide_grown hg hs ht)
theorem cell5T {w:World} {b:Nat} {z0 z1 z2 z3 z4:Value} {t:TypeId} (h:w.heap[b]? = some (.cells #[z0,z1,z2,z3,z4] t (0,0))):w.cell? ⟨b,0,none⟩=some z0∧w.cell? ⟨b,1,none⟩=some z1∧w.cell? ⟨b,2,none⟩=some z2∧w.cell? ⟨b,3,none⟩=some z3∧w.cell? ⟨b,4,none⟩=some z4:=by
 refine⟨?_,?_,?_,?_,?_⟩<;>(rw[cell_of_blkT h];rfl)
set_option maxHeartbeats 8000000 in
set_option maxRecDepth 100000 in
theorem ncopied_any (p:Nat→Bool) (e:EdgeD) (ag:Option Addr) (cg:Nat) (aS:Option Addr) (cs:Nat) (f t:Int) (w:World) (hp:∀ j,p j=true→j < w.heap.size) (h1:exE.In (World.hide w p) e.guards ag cg) (h2:bdE.In (World.hide w p) e.sets aS cs) :
  Calls Tryz.prog 71 #[edVal e ag cg aS cs,.int .i64 f,.int .i64 t] w (EdRet p (mvE e f t) w):=by
 have H1:=Lib.hid h1
 have H2:=Lib.hid h2
 have Hp:=Lib.hid hp
 have hgl:=h1.len
 have hsl:=h2.len
 have H1A:Hid (e.guards.length=0∨∃ b off,ag=some ⟨b,off,none⟩):=h1.addr
 have H2A:Hid (e.sets.length=0∨∃ b off,aS=some ⟨b,off,none⟩):=h2.addr
 have HPo:Hid (∀ W a c a' c',exE.In (World.hide W p) e.guards a c→bdE.In (World.hide W p) e.sets a' c'→Below w.heap.size w W→EdRet p (mvE e f t) w (.returned (.agg #[.int .i64 f,.int .i64 t,.slice a e.guards.length c,.slice a' e.sets.length c'])) W):=fun W a c a' c' h3 h4 hb=>⟨⟨a,c,a',c',rfl,h3,h4⟩,hb⟩
 generalize EdRet p (mvE e f t) w=Po at HPo⊢
 obtain⟨fr0,to0,gs,ss⟩:=e
 unfold edVal
 simp only at H1 H2 hgl hsl H1A H2A HPo⊢
 clear h1 h2 hp
 go_enter Tryz.func71, Tryz.ntmps71
 go_wp2_with fail
 generalize hW3:World.alloc (World.alloc (World.alloc w _) _) _=W3
 have HB3:Hid (Below w.heap.size w W3):=by show Below _ _ _;rw[← hW3];exact(((Below.refl _ _).alloc (Nat.le_refl _) _).alloc (by simp) _).alloc (by simp;omega) _
 have HX3:Hid (W3.heap[w.heap.size]? = some (edBoxC fr0 to0 (.slice ag gs.length cg) (.slice aS ss.length cs))):=by show _=_;rw[← hW3];exact hx_oldT (hx_oldT (hx_newT rfl))
 have HY3:Hid (W3.heap[w.heap.size+1]? = some (edBoxC 0 0 (.slice none 0 0) (.slice none 0 0))):=by show _=_;rw[← hW3];exact hx_oldT (hx_newT (by simp))
 have HZ3:Hid (W3.heap[w.heap.size+2]? = some (edBoxC f t (.slice none 0 0) (.slice none 0 0))):=by show _=_;rw[← hW3];exact hx_newT (by simp)
 have hz3:w.heap.size+3≤W3.heap.size:=by rw[← hW3];simp
 have hz3b:W3.heap.size≤w.heap.size+3:=by rw[← hW3];simp
 clear hW3
 obtain⟨q,hq⟩:∃ q:Nat→Bool,(fun j=>p j || (j == w.heap.size+1) || (j == w.heap.size+2))=q:=⟨_,rfl⟩
 have Q:Hid (∀ j,q j=true↔p j=true∨j=w.heap.size+1∨j=w.heap.size+2):=fun j=>by rw[← hq];simp[or_assoc]
 have HQl:Hid (∀ j,q j=true→j < w.heap.size+3):=fun j hj=>by
  rcases (Q.out j).1 hj with h | h | h
  ·have:=Hp.out j h;omega
  ·omega
  ·omega
 have HKq:Hid (∀ W v,Below w.heap.size w W→(∀ j,Value.ownBlock v=some j→w.heap.size≤j)→Kp (World.hide w p) (World.hide W (hid q v))):=fun W v hb hv=>hide_below hb fun j hj h=>(hid_true.1 h).elim (fun h=>((Q.out j).1 h).elim id fun e=>by omega) fun e=>by have:=hv j e;omega
 clear hq
 obtain⟨-,-,b2,-,-⟩:=cell4B HX3.out
 go_wp2_with fail
 clear b2
 go_loopw [18,9] (fun i _ wr=>∃ (k:Nat) (vg:Value),i=.int .i64 k∧k≤gs.length∧Hid (wr.heap[w.heap.size+2]? = some (edBoxC f t vg (.slice none 0 0)))∧Hid (exE.Own 24 q wr (w.heap.size+3) vg (gs.take k))∧Hid (Below (w.heap.size+2) W3 wr)) (fun i _ _=>gs.length - (intOf i).toNat)
 case atStart=>exact⟨0,.slice none 0 0,rfl,Nat.zero_le _,HZ3,Enc.Own.nil _ _ _ _ _,Below.refl _ _⟩
 case round =>
  obtain⟨k,vg,rfl,hk,HZ,HO,HBr⟩:=hrel
  have hzr:=lt_of_block HZ.out
  have HBw:Hid (Below w.heap.size w wr):=HB3.out.trans (HBr.out.mono (by omega))
  have HLk:Hid ((gs.take k).length=k):=List.length_take_of_le hk
  obtain⟨va,vc,hv,_⟩:=HO.out.slice (by rw[HLk.out];omega)
  rw[HLk.out] at hv
  subst hv
  have HVo:Hid (∀ j,(Value.slice va k vc).ownBlock=some j→w.heap.size+3≤j∧j < wr.heap.size):=own_vlt HO.out
  have HQw:Hid (∀ j,hid q (.slice va k vc) j=true→j < wr.heap.size):=fun j hj=>(hid_true.1 hj).elim (fun h=>by have:=HQl.out j h;have:=HBr.out.size;omega) fun e=>(HVo.out j e).2
  by_cases hlt:k < gs.length
  ·obtain⟨bE,oE,hEa⟩:=H1A.out.resolve_left (by omega)
   subst hEa
   obtain⟨xa,xc,g0,g1,g2,g3,hX⟩:=exE_get (H1.out.keep (HKq.out wr _ HBw.out fun j hj=>by have:=(HVo.out j hj).1;omega)) rfl hlt
   have f0:=hide_cell _ _ g0
   have f1:=hide_cell _ _ g1
   have f2:=hide_cell _ _ g2
   have f3:=hide_cell _ _ g3
   have HLx:Hid (gs.take k++[gs[k]'hlt]=gs.take (k+1)):=(List.take_succ_eq_append_getElem hlt).symm
   have hX':=hX.keep hide_cell
   clear g0 g1 g2 g3 hX
   generalize (gs[k]'hlt)=y at f0 f1 f2 f3 HLx hX'
   have HXy:=Lib.hid hX'
   clear hX'
   go_upto_region 5 with fail
   generalize hW5:World.alloc wr _=W5
   have hB5:Below wr.heap.size wr W5:=by rw[← hW5];exact(Below.refl _ _).alloc (Nat.le_refl _) _
   have hy5:W5.heap[wr.heap.size]? = some (.cells #[.int .i64 y.op,.int .i64 y.n,.string y.name,.slice xa y.args.length xc] 24 (0,0)):=by rw[← hW5];exact hx_newT rfl
   have hz5:W5.heap[w.heap.size+2]? = some (edBoxC f t (.slice va k vc) (.slice none 0 0)):=(hB5.block _ hzr).trans HZ.out
   have hs5:=lt_of_block hy5
   have HFr:=Lib.hid (fresh_at y xa xc W5 (HXy.out.keep (keeps_of_below hB5)))
   have HO5:=Lib.hid (HO.out.below hB5)
   have HRx:Hid (∀ v1 W a1 k1,ExIn (World.hide v1 (old W5.heap.size)) y a1 k1→Below v1.heap.size v1 W→exE.R (World.hide W (hid q (.slice va k vc))) y [.int .i64 y.op,.int .i64 y.n,.string y.name,.slice a1 y.args.length k1]):=fun v1 W a1 k1 h1 h2=>⟨a1,k1,rfl,h1.keep (hide_below h2 fun j hj h=>old_true.2 (by have:=HQw.out j h;omega))⟩
   have HZ5:=Lib.hid hz5
   have HB5:=Lib.hid hB5
   obtain⟨-,-,z2,-,zF⟩:=cell4B hz5
   have z2f:=zF 2
   obtain⟨y0,y1,y2,y3,-⟩:=cell4B hy5
   have HZ2:Hid (∀ W,Below W5.heap.size W5 W→W.cell? ⟨w.heap.size+2,2,none⟩=some (.slice va k vc)∧W.cell? ⟨wr.heap.size,0,none⟩=some (.int .i64 y.op)∧W.cell? ⟨wr.heap.size,1,none⟩=some (.int .i64 y.n)∧W.cell? ⟨wr.heap.size,2,none⟩=some (.string y.name)∧W.cell? ⟨wr.heap.size,3,none⟩=some (.slice xa y.args.length xc)):=fun W hW=>⟨keeps_of_below hW _ _ z2,keeps_of_below hW _ _ y0,keeps_of_below hW _ _ y1,keeps_of_below hW _ _ y2,keeps_of_below hW _ _ y3⟩
   clear hW5 hB5 hy5 hz5 zF f0 f1 f2 f3
   go_region_law (first
    | (go_simp;go_at_call 123;(with_reducible refine(HFr.out _ (by first | with_reducible assumption | exact belR)).mono ?_);rintro e v1 ⟨⟨a1,k1,rfl,hc1⟩,hb1,hB1⟩;have hs1:=hB1.size;have HC1:=Lib.hid hc1;obtain⟨j0,j1,j2,j3,j4⟩:=HZ2.out _ hB1;have J0:=fun o=>Lib.cell?_alloc_some o j0;clear hc1)
    | (refine step_addE (E:=exE) elemEX (by rfl) _ _ (by rfl) q (w.heap.size+3) (.slice va k vc) (by rfl) (HO5.out.below (by first | exact Below.refl _ _ | exact belR)) y [.int .i64 y.op,.int .i64 y.n,.string y.name,.slice a1 y.args.length k1] (HRx.out _ _ _ _ HC1.out (by first | with_reducible assumption | exact belR)) _ 1 (by rfl) (by first | exact heap_alloc_new' _ _ | exact hbT hb1 (hx_newT rfl)) k HLk.out (by omega) (by first | omega | (simp;omega)) _ rfl ?_;intro gg gcap wg hownG hgrow hatG hltG;have hbg:wg.heap[w.heap.size+2]? = some (edBoxC f t (.slice va k vc) (.slice none 0 0)):=((hgrow.block (w.heap.size+2) (by first | omega | (simp;omega)) (fun e=>by have:=(HVo.out _ e.symm).1;omega)).trans ((Below.block (B:=W5.heap.size) (by first | with_reducible assumption | exact belR) _ (by omega)).trans HZ5.out));obtain⟨i0,i1,i2,i3,iF⟩:=cell4B hbg;have iF2:=iF 2))
   all_goals
    have hNew:=cp_step HBr.out HB5.out (by first | with_reducible assumption | exact belR) hgrow (by omega) (fun j hj=>by have:=(HVo.out j hj).1;omega)
    have hgg:=(own_vlt hownG gg rfl).1
    have hq2:q (w.heap.size+2)=true:=(Q.out _).2 (Or.inr (Or.inr rfl))
    have HO9:Hid (exE.Own 24 q (wg.setCell ⟨w.heap.size+2,2,none⟩ (.slice (some ⟨gg,0,none⟩) (k+1) gcap)) (w.heap.size+3) (.slice (some ⟨gg,0,none⟩) (k+1) gcap) (gs.take (k+1))):=by
     show exE.Own _ _ _ _ _ _
     rw[← HLx.out]
     exact own_storeB hq2 (fun e=>by have:=Option.some.inj e;simp only at this;omega) hownG
    have HZ9:Hid ((wg.setCell ⟨w.heap.size+2,2,none⟩ (.slice (some ⟨gg,0,none⟩) (k+1) gcap)).heap[w.heap.size+2]? = some (edBoxC f t (.slice (some ⟨gg,0,none⟩) (k+1) gcap) (.slice none 0 0))):=by show _=_;rw[blk_set hbg 2];rfl
    have HB9:Hid (Below (w.heap.size+2) W3 (wg.setCell ⟨w.heap.size+2,2,none⟩ (.slice (some ⟨gg,0,none⟩) (k+1) gcap))):=hNew.setCell (Nat.le_refl _) _
    clear hNew hownG hgrow hatG hltG hbg hgg
    go_wp2_with fail
    go_roundw
    case rel=>exact⟨k+1,_,by go_num,by omega,HZ9.out,HO9.out,HB9.out⟩
    case measure=>(simp[intOf];try omega)
  ·obtain rfl:k=gs.length:=by omega
   have hx:=(HBr.out.block w.heap.size (by omega)).trans HX3.out
   obtain⟨-,-,-,x3,-⟩:=cell4B hx
   have HG0:Hid (exE.In (World.hide wr q) gs va vc):=by
    obtain⟨a',c',hv',hin⟩:=HO.out.sliceR (by rw[HLk.out];omega) (fun _ h=>h) HQl.out
    rw[HLk.out] at hv'
    injection hv' with e1 e2 e3
    subst e1 e3
    rw[List.take_length] at hin
    exact hin
   clear hx HO HLk HVo HQw
   go_wp2_with fail
   clear x3
   rename World=>w4
   have HS0:Hid (Below (w.heap.size+2) W3 w4):=HBr
   have HZ0:Hid (w4.heap[w.heap.size+2]? = some (edBoxC f t (.slice va gs.length vc) (.slice none 0 0))):=HZ
   clear HBr HZ HBw hzr
   go_loopw [33,11] (fun i _ wr=>∃ (k:Nat) (vs:Value),i=.int .i64 k∧k≤ss.length∧Hid (wr.heap[w.heap.size+2]? = some (edBoxC f t (.slice va gs.length vc) vs))∧Hid (exE.In (World.hide wr (hid q vs)) gs va vc)∧Hid (bdE.Own 85 q wr (w.heap.size+3) vs (ss.take k))∧Hid (Below (w.heap.size+2) W3 wr)) (fun i _ _=>ss.length - (intOf i).toNat)
   case atStart=>exact⟨0,.slice none 0 0,rfl,Nat.zero_le _,HZ0,HG0.out.keep (hide_mono fun k hk=>(hid_true.1 hk).elim id fun e=>by simp[Value.ownBlock] at e),Enc.Own.nil _ _ _ _ _,HS0⟩
   case round =>
    clear HZ0 HG0 HS0
    obtain⟨k,vs,rfl,hk2,HZ,HG,HO,HBr⟩:=hrel
    have hzr:=lt_of_block HZ.out
    have HBw:Hid (Below w.heap.size w wr):=HB3.out.trans (HBr.out.mono (by omega))
    have HLk:Hid ((ss.take k).length=k):=List.length_take_of_le hk2
    obtain⟨vb,vc2,hv,_⟩:=HO.out.slice (by rw[HLk.out];omega)
    rw[HLk.out] at hv
    subst hv
    have HVo:Hid (∀ j,(Value.slice vb k vc2).ownBlock=some j→w.heap.size+3≤j∧j < wr.heap.size):=own_vlt HO.out
    have HQw:Hid (∀ j,hid q (.slice vb k vc2) j=true→j < wr.heap.size):=fun j hj=>(hid_true.1 hj).elim (fun h=>by have:=HQl.out j h;have:=HBr.out.size;omega) fun e=>(HVo.out j e).2
    by_cases hlt:k < ss.length
    ·obtain⟨bE,oE,hEa⟩:=H2A.out.resolve_left (by omega)
     subst hEa
     obtain⟨xa,xc,g4,g0,g1,g2,g3,hnm,hX⟩:=bdE_get (H2.out.keep (HKq.out wr _ HBw.out fun j hj=>by have:=(HVo.out j hj).1;omega)) rfl hlt
     have f4:=hide_cell _ _ g4
     have f0:=hide_cell _ _ g0
     have f1:=hide_cell _ _ g1
     have f2:=hide_cell _ _ g2
     have f3:=hide_cell _ _ g3
     have HLx:Hid (ss.take k++[ss[k]'hlt]=ss.take (k+1)):=(List.take_succ_eq_append_getElem hlt).symm
     have hX':=hX.keep hide_cell
     clear g0 g1 g2 g3 g4 hX
     generalize (ss[k]'hlt)=z at f0 f1 f2 f3 f4 HLx hX' hnm
     obtain⟨nm,y⟩:=z
     simp only at f0 f1 f2 f3 f4 hX' hnm
     have HXy:=Lib.hid hX'
     have HNm:=Lib.hid hnm
     clear hX' hnm
     go_upto_region 10 with fail
     generalize hW5:World.alloc wr _=W5
     have hB5:Below wr.heap.size wr W5:=by rw[← hW5];exact(Below.refl _ _).alloc (Nat.le_refl _) _
     have hy5:W5.heap[wr.heap.size]? = some (.cells #[.string nm,.int .i64 y.op,.int .i64 y.n,.string y.name,.slice xa y.args.length xc] 85 (0,0)):=by rw[← hW5];exact hx_newT rfl
     have hz5:W5.heap[w.heap.size+2]? = some (edBoxC f t (.slice va gs.length vc) (.slice vb k vc2)):=(hB5.block _ hzr).trans HZ.out
     have hs5:=lt_of_block hy5
     have HFr:=Lib.hid (fresh_at y xa xc W5 (HXy.out.keep (keeps_of_below hB5)))
     have HO5:=Lib.hid (HO.out.below hB5)
     have HRx:Hid (∀ v1 W a1 k1,ExIn (World.hide v1 (old W5.heap.size)) y a1 k1→Below v1.heap.size v1 W→bdE.R (World.hide W (hid q (.slice vb k vc2))) ⟨nm,y⟩ [.string nm,.int .i64 y.op,.int .i64 y.n,.string y.name,.slice a1 y.args.length k1]):=fun v1 W a1 k1 h1 h2=>⟨a1,k1,rfl,HNm.out,h1.keep (hide_below h2 fun j hj h=>old_true.2 (by have:=HQw.out j h;omega))⟩
     have HZ5:=Lib.hid hz5
     have HB5:=Lib.hid hB5
     obtain⟨-,-,-,z2,zF⟩:=cell4B hz5
     have z2f:=zF 3
     obtain⟨y4,y0,y1,y2,y3⟩:=cell5T hy5
     have HZ2:Hid (∀ W,Below W5.heap.size W5 W→W.cell? ⟨w.heap.size+2,3,none⟩=some (.slice vb k vc2)∧W.cell? ⟨wr.heap.size,0,none⟩=some (.string nm)∧W.cell? ⟨wr.heap.size,1,none⟩=some (.int .i64 y.op)∧W.cell? ⟨wr.heap.size,2,none⟩=some (.int .i64 y.n)∧W.cell? ⟨wr.heap.size,3,none⟩=some (.string y.name)∧W.cell? ⟨wr.heap.size,4,none⟩=some (.slice xa y.args.length xc)):=fun W hW=>⟨keeps_of_below hW _ _ z2,keeps_of_below hW _ _ y4,keeps_of_below hW _ _ y0,keeps_of_below hW _ _ y1,keeps_of_below hW _ _ y2,keeps_of_below hW _ _ y3⟩
     clear hW5 hB5 hy5 hz5 zF f0 f1 f2 f3 f4
     go_region_law (first
    | (go_simp;go_at_call 123;(with_reducible refine(HFr.out _ (by first | with_reducible assumption | exact belR)).mono ?_);rintro e v1 ⟨⟨a1,k1,rfl,hc1⟩,hb1,hB1⟩;have hs1:=hB1.size;have HC1:=Lib.hid hc1;obtain⟨j5,j0,j1,j2,j3,j4⟩:=HZ2.out _ hB1;have J5:=fun o=>Lib.cell?_alloc_some o j5;clear hc1)
    | (refine step_addE (E:=bdE) elemBD (by rfl) _ _ (by rfl) q (w.heap.size+3) (.slice vb k vc2) (by rfl) (HO5.out.below (by first | exact Below.refl _ _ | exact belR)) ⟨nm,y⟩ [.string nm,.int .i64 y.op,.int .i64 y.n,.string y.name,.slice a1 y.args.length k1] (HRx.out _ _ _ _ HC1.out (by first | with_reducible assumption | exact belR)) _ 1 (by rfl) (by first | exact heap_alloc_new' _ _ | exact hbT hb1 (hx_newT rfl)) k HLk.out (by omega) (by first | omega | (simp;omega)) _ rfl ?_;intro gg gcap wg hownG hgrow hatG hltG;have hbg:wg.heap[w.heap.size+2]? = some (edBoxC f t (.slice va gs.length vc) (.slice vb k vc2)):=((hgrow.block (w.heap.size+2) (by first | omega | (simp;omega)) (fun e=>by have:=(HVo.out _ e.symm).1;omega)).trans ((Below.block (B:=W5.heap.size) (by first | with_reducible assumption | exact belR) _ (by omega)).trans HZ5.out));obtain⟨i0,i1,i2,i3,iF⟩:=cell4B hbg;have iF3:=iF 3))
     all_goals
      have hcur:=Below.refl w.heap.size w
      clear hcur
      have hNew:=cp_step HBr.out HB5.out (by first | with_reducible assumption | exact belR) hgrow (by omega) (fun j hj=>by have:=(HVo.out j hj).1;omega)
      have hgg:=(own_vlt hownG gg rfl).1
      have hq2:q (w.heap.size+2)=true:=(Q.out _).2 (Or.inr (Or.inr rfl))
      have hKp:=cp_kp (s:=hid q (.slice vb k vc2)) (t:=hid q (.slice (some ⟨gg,0,none⟩) (k+1) gcap)) HB5.out (by first | with_reducible assumption | exact belR) hgrow (fun j hj=>hid_true.2 (Or.inr hj)) (fun j hj h=>by
       rcases hid_true.1 h with h | h
       ·exact hid_true.2 (Or.inl h)
       ·have e:=Option.some.inj h
        simp only at e
        subst e
        rcases hatG with h2 | h2
        ·exact hid_true.2 (Or.inr h2)
        ·omega)
      have HG9:Hid (exE.In (World.hide (wg.setCell ⟨w.heap.size+2,3,none⟩ (.slice (some ⟨gg,0,none⟩) (k+1) gcap)) (hid q (.slice (some ⟨gg,0,none⟩) (k+1) gcap))) gs va vc):=(HG.out.keep hKp).keep (hide_store (hid_true.2 (Or.inl hq2)))
      have HO9:Hid (bdE.Own 85 q (wg.setCell ⟨w.heap.size+2,3,none⟩ (.slice (some ⟨gg,0,none⟩) (k+1) gcap)) (w.heap.size+3) (.slice (some ⟨gg,0,none⟩) (k+1) gcap) (ss.take (k+1))):=by
       show bdE.Own _ _ _ _ _ _
       rw[← HLx.out]
       exact own_storeB hq2 (fun e=>by have:=Option.some.inj e;simp only at this;omega) hownG
      have HZ9:Hid ((wg.setCell ⟨w.heap.size+2,3,none⟩ (.slice (some ⟨gg,0,none⟩) (k+1) gcap)).heap[w.heap.size+2]? = some (edBoxC f t (.slice va gs.length vc) (.slice (some ⟨gg,0,none⟩) (k+1) gcap))):=by show _=_;rw[blk_set hbg 3];rfl
      have HB9:Hid (Below (w.heap.size+2) W3 (wg.setCell ⟨w.heap.size+2,3,none⟩ (.slice (some ⟨gg,0,none⟩) (k+1) gcap))):=hNew.setCell (Nat.le_refl _) _
      clear hNew hownG hgrow hatG hltG hbg hgg hKp
      go_wp2_with fail
      go_roundw
      case rel=>exact⟨k+1,_,by go_num,by omega,HZ9.out,HG9.out,HO9.out,HB9.out⟩
      case measure=>(simp[intOf];try omega)
    ·obtain rfl:k=ss.length:=by omega
     obtain⟨a',c',hv',hin⟩:=HO.out.sliceR (by rw[HLk.out];omega) (fun _ h=>h) HQl.out
     rw[HLk.out] at hv'
     injection hv' with e1 e2 e3
     subst e1 e3
     rw[List.take_length] at hin
     have HS9:=Lib.hid hin
     have hy:=(HBr.out.block (w.heap.size+1) (by omega)).trans HY3.out
     obtain⟨z0,z1,z2,z3,-⟩:=cell4B HZ.out
     obtain⟨r0,r1,r2,r3,rF⟩:=cell4B hy
     have r0f:=rF 0
     have r1f:=rF 1
     have r2f:=rF 2
     have r3f:=rF 3
     have HY:=Lib.hid hy
     clear hy hin rF
     go_wp2_with fail
     refine bodyPost_ret (v:=.agg #[.int .i64 f,.int .i64 t,.slice va gs.length vc,.slice vb ss.length vc2]) (ed_resC _ rfl _ _ (w.heap.size+1) _ _ _ _ (set4M HY.out) rfl) rfl ?_
     have hq1:q (w.heap.size+1)=true:=(Q.out _).2 (Or.inr (Or.inl rfl))
     have hkp:∀ (s:Nat→Bool) (u0 u1 u2 u3:Value),(∀ j,q j=true→s j=true)→Kp (World.hide wr s) (World.hide ((((wr.setCell ⟨w.heap.size+1,0,none⟩ u0).setCell ⟨w.heap.size+1,1,none⟩ u1).setCell ⟨w.heap.size+1,2,none⟩ u2).setCell ⟨w.heap.size+1,3,none⟩ u3) p):=fun s u0 u1 u2 u3 hs =>
      Kp.trans (hide_store (hs _ hq1)) (Kp.trans (hide_store (hs _ hq1)) (Kp.trans (hide_store (hs _ hq1)) (Kp.trans (hide_store (hs _ hq1)) (hide_mono fun j hj=>hs _ ((Q.out j).2 (Or.inl hj))))))
     exact HPo.out _ va vc vb vc2 (HG.out.keep (hkp _ _ _ _ _ fun j hj=>hid_true.2 (Or.inl hj))) (HS9.out.keep (hkp _ _ _ _ _ fun _ h=>h)) ((((HBw.out.setCell (by simp) _).setCell (by simp) _).setCell (by simp) _).setCell (by simp) _)
end Go.Proofs.YthojpomoflhbcaaGreatDoor
