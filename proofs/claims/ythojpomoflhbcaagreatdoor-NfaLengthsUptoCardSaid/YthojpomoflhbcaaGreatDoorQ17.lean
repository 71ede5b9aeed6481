/- nfa.both. -/
import Derived.Test.YthojpomoflhbcaaGreatDoorQ15
import Derived.Test.YthojpomoflhbcaaGreatDoorQ12
import Derived.Test.YthojpomoflhbcaaGreatDoorQ16
import Derived.Laws.Rows
import Derived.Test.YthojpomoflhbcaaGreatDoorQ09
import Derived.Shelf.Spec.SlicesInsert
import Derived.Test.YthojpomoflhbcaaGreatDoorQ07
import Derived.Test.YthojpomoflhbcaaGreatDoorQ01
set_option maxHeartbeats 16000000
set_option maxRecDepth 100000
set_option linter.unusedSimpArgs false
set_option linter.unusedVariables false
set_option linter.unnecessarySimpa false
namespace Go.Proofs.YthojpomoflhbcaaGreatDoor
open Go.RowKit
attribute [local go_sem ↓] Go.wp_at_zero Go.wp_at_succ
theorem zkT {τ:Type} {E:Enc τ} {w:World} {x:τ} {l:List τ} {b off cap:Nat} (h:E.In w (x::l) (some ⟨b,off,none⟩) cap) {c2:Nat} (hc:l.length<=c2):E.In w l (some ⟨b,off+E.sz,none⟩) c2:=by refine⟨hc,by have:=h.len;simp only[List.length_cons]at this;omega,Or.inr ⟨b,off+E.sz,rfl,λi hi=>?_⟩⟩;have:=h.get rfl (i:=i+1) (by simpa using hi);refine⟨l[i]'hi,List.getElem?_eq_getElem hi,?_⟩;rw[show off+E.sz+i*E.sz=off+(i+1)*E.sz by rw[Nat.add_mul,Nat.one_mul];omega];simpa using this
theorem zlN {w:World} {x:zm} {l:List zm} {b off cap:Nat} (h:nfE.In w (x::l) (some ⟨b,off,none⟩) cap) :
 ∃a2 c2,(∀W:World,(Instr.sliceAt 131 (.slice (some ⟨b,off,none⟩) (l.length+1) cap) (some (.int .i64 1)) none none).run Tryz.prog W=.ok (.slice a2 l.length c2) W)/\nfE.In w l a2 c2:=by
 have hcp:=h.cap;rw[List.length_cons]at hcp;have hrun:∀W:World,(Instr.sliceAt 131 (.slice (some ⟨b,off,none⟩) (l.length+1) cap) (some (.int .i64 ((1:Nat):Int))) none none).run Tryz.prog W=.ok (sliced (some ⟨b,off,none⟩) 1 (l.length+1) cap 3) W:=λW=>by
  have ht : Tryz.prog.underlying 131=some (.slice (Tryz.prog.elem 131)):=by kernel_rfl
  rw[run_sliceAt_slice (h:=ht),run_slice_l (ht:=ht) (h0:=by omega) (h1:=by omega)];have hs:(Go.sizeOf (Tryz.prog.elem 131)).run Tryz.prog W=.ok 3 W:=by kernel_rfl
  rw[hs];simp[Result.andThen]
 unfold sliced at hrun;rw[Nat.add_sub_cancel]at hrun;by_cases hck:cap=1
 ·rw[if_pos hck]at hrun;obtain rfl:l=[]:=List.eq_nil_of_length_eq_zero (by omega);exact⟨_,_,hrun,Nat.zero_le _,Nat.zero_le _,Or.inl rfl⟩
 ·rw[if_neg hck]at hrun;refine⟨_,_,hrun,?_⟩;have h3:nfE.In w l (some ⟨b,off+3,none⟩) (cap-1):=zkT h (c2:=cap-1) (by omega);simpa [Addr.add] using h3
theorem Xv {n:zm} (h:zY n=true):yH n:=λe he=>by obtain⟨h1,h2⟩:=ZK h he;exact⟨λg hg=>by have:=h1 g hg;omega,λb hb=>by have:=h2 b hb;omega⟩
theorem yA.outNo {p:Nat->Bool} {w w':World} {e:Ending} (h:yA p none w e w'):e=.returned (.tuple #[.agg #[.int .i64 0,.slice none 0 0,.slice none 0 0],.int .i64 2])/\Below w.heap.size w w':=h
theorem yA.outYes {p:Nat->Bool} {n:zm} {w w':World} {e:Ending} (h:yA p (some n) w e w'):∃x:YL,e=.returned (.tuple #[.agg #[.int .i64 n.states,.slice x.ae n.edges.length x.ce,.slice x.aa n.accept.length x.ca],.int .i64 0])/\xS (World.hide w' p) n x/\Below w.heap.size w w':=by obtain⟨⟨x,h1,h2⟩,h3⟩:=h;exact⟨x,h1,h2,h3⟩
theorem zlK {ks:List Nat} {ps:List zm} (h:RegL ks ps):∀m (hm:m<ps.length),∃k,qn k (ps[m]'hm)/\(ks.drop m).sum=k+(ks.drop (m+1)).sum:=by
 induction h with
 |nil=>intro m hm;simp at hm
 |cons h hs ih =>
  intro m hm;cases m with
  |zero=>exact⟨_,h,by simp⟩
  |succ m =>obtain⟨k,h1,h2⟩:=ih m (by simpa using hm);exact⟨k,by simpa using h1,by simpa using h2⟩
theorem zgF {w:World} {b:Nat} {z0 z1 z2:Value} {t:TypeId} (h:w.heap[b]? = some (.cells #[z0,z1,z2] t (0,0))) :
 ((∀o,(w.alloc o).cell? ⟨b,0,none⟩=some z0)/\(∀o,(w.alloc o).cell? ⟨b,1,none⟩=some z1)/\(∀o,(w.alloc o).cell? ⟨b,2,none⟩=some z2))/\((∀o,(w.alloc o).frozen? ⟨b,0,none⟩=false)/\(∀o,(w.alloc o).frozen? ⟨b,1,none⟩=false)/\∀o,(w.alloc o).frozen? ⟨b,2,none⟩=false):=by
 have h2:∀o,(w.alloc o).heap[b]? = _:=λo=>zk (o:=o) h;refine⟨⟨λo=>?_,λo=>?_,λo=>?_⟩,λo=>?_,λo=>?_,λo=>?_⟩
 ·rw[zc (h2 o)];rfl
 ·rw[zc (h2 o)];rfl
 ·rw[zc (h2 o)];rfl
 ·simp[World.frozen?,h2 o]
 ·simp[World.frozen?,h2 o]
 ·simp[World.frozen?,h2 o]
def qz:Obj:=.cells #[.int .i64 0,.slice none 0 0,.slice none 0 0] 33 (0,0)
structure zaF (q:Nat->Bool) (n0:zm) (rest:List zm) (ks:List Nat) (w wr:World) (m:Nat) (cur:zm) (x:YL) (K:Nat):Prop where
 blk0:wr.heap[w.heap.size]? = some qz
 blk1:wr.heap[w.heap.size+1]? = some (Zq cur x)
 nin:xS (World.hide wr q) cur x
 reg:qn K cur
 sum:K+(ks.drop m).sum<=1000000
 eq:Xd n0 rest=Xd cur (rest.drop m)
 bel:Below w.heap.size w wr
 sz:w.heap.size+2<=wr.heap.size
theorem zaF.next {q:Nat->Bool} {n0:zm} {rest:List zm} {ks:List Nat} {w wr w8:World} {m:Nat} {cur n':zm} {x x':YL} {K ky:Nat} (h:zaF q n0 rest ks w wr m cur x K) (hb:Below wr.heap.size wr w8) (hk:(ks.drop m).sum=ky+(ks.drop (m+1)).sum) (hr:qn (K+ky) n')
 (he:Xd n0 rest=Xd n' (rest.drop (m+1))) (hn:xS (World.hide w8 q) n' x') (hq:q (w.heap.size+1)=true) (hql:∀j,q j=true->j<wr.heap.size) (o:Obj) :
 zaF q n0 rest ks w ((((w8.alloc o).setCell ⟨w.heap.size+1,0,none⟩ (.int .i64 n'.states)).setCell ⟨w.heap.size+1,1,none⟩ (.slice x'.ae n'.edges.length x'.ce)).setCell ⟨w.heap.size+1,2,none⟩ (.slice x'.aa n'.accept.length x'.ca)) (m+1) n' x' (K+ky):=by
 have hz:=h.sz;have hz8:=hb.size;have hba:Below wr.heap.size wr (w8.alloc o):=hb.alloc hz8 _;have h1:(w8.alloc o).heap[w.heap.size+1]? = some (Zq cur x):=(hba.block _ (by omega)).trans h.blk1;have h0:(w8.alloc o).heap[w.heap.size]? = some qz:=(hba.block _ (by omega)).trans h.blk0;refine⟨?_,zb1 h1,?_,hr,by have:=h.sum;omega,he,?_,by simp only[World.size_setCell,World.size_alloc];omega⟩
 ·rw[Below.heap_setCell _ _ _ _ (by show w.heap.size≠w.heap.size+1;omega),Below.heap_setCell _ _ _ _ (by show w.heap.size≠w.heap.size+1;omega),Below.heap_setCell _ _ _ _ (by show w.heap.size≠w.heap.size+1;omega)];exact h0
 ·refine hn.keep (Kp.trans (zg (q:=q) ((Below.refl _ w8).alloc (Nat.le_refl _) o) λ_ _ h=>h) ?_);exact Kp.trans (zj hq) (Kp.trans (zj hq) (zj hq))
 ·have hbw:=h.bel.trans (hba.mono h.bel.size);exact((hbw.setCell (by show _<=w.heap.size+1;omega) _).setCell (by show _<=w.heap.size+1;omega) _).setCell (by show _<=w.heap.size+1;omega) _
theorem ziY (p:Nat->Bool) (n0:zm) (rest:List zm) (k0:Nat) (ks:List Nat) (h0:qn k0 n0) (hreg:RegL ks rest) (hK:k0+ks.sum<=1000000) (a:Option Addr) (c:Nat) (w:World) (hG:ZW w) (hp:∀j,p j=true->j<w.heap.size) (hL:nfE.In (World.hide w p) (n0::rest) a c) :
 Calls Tryz.prog 87 #[.slice a (rest.length+1) c] w (yA p (Xd n0 rest) w):=by
 obtain⟨b,off,rfl⟩:=hL.addr.resolve_left (by simp);obtain⟨a2,c2,hrun,hR⟩:=zlN hL;obtain⟨x0,g0,g1,g2,hx0⟩:=Yi hL rfl (i:=0) (by simp);simp only[List.getElem_cons_zero,Nat.zero_mul,Nat.add_zero]at g0 g1 g2 hx0;have e0:=zb _ _ g0;have e1:=zb _ _ g1;have e2:=zb _ _ g2;have HX0:=Lib.hid hx0;have HR:=Lib.hid hR;have hlr:=hR.len;have HRA:Hid (rest.length=0\/∃b off,a2=some ⟨b,off,none⟩):=hR.addr;have HG:=Lib.hid hG;have Hp:=Lib.hid hp;have H0:=Lib.hid h0;have HRg:=Lib.hid hreg;have HKK:=Lib.hid hK;have HNo:Hid (∀W,Xd n0 rest=none->Below w.heap.size w W->yA p (Xd n0 rest) w (.returned (.tuple #[.agg #[.int .i64 0,.slice none 0 0,.slice none 0 0],.int .i64 2])) W):=λW h hb=>by rw[h];exact yA.no hb
 have HYes:Hid (∀W m x,Xd n0 rest=some m->xS (World.hide W p) m x->Below w.heap.size w W->yA p (Xd n0 rest) w (.returned (.tuple #[.agg #[.int .i64 m.states,.slice x.ae m.edges.length x.ce,.slice x.aa m.accept.length x.ca],.int .i64 0])) W):=λW m x h h1 hb=>by rw[h];exact yA.yes h1 hb
 generalize yA p (Xd n0 rest) w=Po at HNo HYes⊢;have E0:∀o,(w.alloc o).cell? ⟨b,off,none⟩=some (.int .i64 n0.states):=λo=>Lib.cell?_alloc_some _ e0;have E1:∀o,(w.alloc o).cell? ⟨b,off+1,none⟩=some (.slice x0.ae n0.edges.length x0.ce):=λo=>Lib.cell?_alloc_some _ e1;have E2:∀o,(w.alloc o).cell? ⟨b,off+2,none⟩=some (.slice x0.aa n0.accept.length x0.ca):=λo=>Lib.cell?_alloc_some _ e2;clear g0 g1 g2 hx0 hL hR hG hp h0 hreg hK;obtain⟨N1,hN1⟩:∃N1,rest.length+1=N1:=⟨_,rfl⟩;rw[hN1]at hrun⊢;have hN0:0<N1:=by omega
 have hN0i:(0:Int)<(N1:Int):=by omega
 clear hN1;go_enter Tryz.func87, Tryz.ntmps87;go_wp2_with fail;generalize hW2:World.alloc (World.alloc w _) _=W2;have hB2:Below w.heap.size w W2:=by rw[←hW2];exact((Below.refl _ _).alloc (Nat.le_refl _) _).alloc (by simp) _
 obtain⟨q,hq⟩:∃q:Nat->Bool,(λj=>p j||(j==w.heap.size)||(j==w.heap.size+1))=q:=⟨_,rfl⟩;have Q:Hid (∀j,q j=true<->p j=true\/j=w.heap.size\/j=w.heap.size+1):=λj=>by rw[←hq];simp[or_assoc]
 have HKq:Hid (∀W,Below w.heap.size w W->Kp (World.hide w p) (World.hide W q)):=λW hb=>zg hb λj hj h=>((Q.out j).1 h).elim id λe=>by omega
 have HS2:Hid (zaF q n0 rest ks w W2 0 n0 x0 k0):=by
  refine⟨?_,?_,HX0.out.keep (HKq.out _ hB2),H0.out,by simpa using HKK.out,by simp,hB2,by rw[←hW2];simp⟩
  ·rw[←hW2];exact zk (zh rfl)
  ·rw[←hW2];exact zh (by simp)
 clear hW2 hq hB2 e0 e1 e2 E0 E1 E2;go_loopw [16,6,7,8,9] (λi _ _ _ _ wr=>∃(m:Nat) (cur:zm) (x:YL) (K:Nat),i=.int .i64 m/\m<=rest.length/\Hid (zaF q n0 rest ks w wr m cur x K)) (λi _ _ _ _ _=>rest.length-(intOf i).toNat);case atStart=>exact⟨0,n0,x0,k0,rfl,Nat.zero_le _,HS2⟩
 case round =>
  (try rename World=>wr)
  obtain⟨m,cur,x,K,rfl,hm,HS⟩:=hrel;have hzr:=HS.out.sz;by_cases hlt:m<rest.length
  ·obtain⟨bf,of,hfa⟩:=HRA.out.resolve_left (by omega);subst hfa;obtain⟨ay,g0,g1,g2,hy⟩:=Yi (HR.out.keep (HKq.out wr HS.out.bel)) rfl hlt;have f0:=zb _ _ g0;have f1:=zb _ _ g1;have f2:=zb _ _ g2;obtain⟨ky,hky,hks⟩:=zlK HRg.out m hlt;have HY:=Lib.hid hy;have HKy:=Lib.hid hky;have HKs:=Lib.hid hks;have HEq:Hid (∀r,zb9 cur (rest[m]'hlt)=r->Xd n0 rest=match r with|some k=>Xd k (rest.drop (m+1))|none=>none):=λr hr=>by
    rw[HS.out.eq,List.drop_eq_getElem_cons hlt,Xd,hr];cases r<;>rfl
   clear g0 g1 g2 hy hky hks;generalize (rest[m]'hlt)=y at f0 f1 f2 HY HKy HEq;obtain⟨⟨r0,r1,r2⟩,-⟩:=zgF HS.out.blk1;go_upto_region 6 with fail;generalize hW5:World.alloc (World.alloc wr _) _=W5;have hB5:Below wr.heap.size wr W5:=by rw[←hW5];exact((Below.refl _ _).alloc (Nat.le_refl _) _).alloc (by simp) _
   have hy5:W5.heap[wr.heap.size]? = some (Zq y ay):=by rw[←hW5];exact zk (zh rfl)
   have hk5:W5.heap[wr.heap.size+1]? = some (.cells #[.int .i64 0,.slice none 0 0,.slice none 0 0,.bool false] 134 (0,0)):=by rw[←hW5];exact zh (by simp)
   have hn5:W5.heap[w.heap.size+1]? = some (Zq cur x):=(hB5.block _ (by omega)).trans HS.out.blk1;obtain⟨y0,y1,y2⟩:=zv hy5;obtain⟨x0',x1',x2'⟩:=zv hn5;have HQl:Hid (∀j,q j=true->j<wr.heap.size):=λj hj=>by
    rcases (Q.out j).1 hj with h|h
    ·have:=Hp.out j h;omega
    ·omega
   have HAnd:=Lib.hid (zk3 (p:=q) (k:=wr.heap.size+1) (w0:=wr) (w:=W5) (by omega) hk5 hB5 HQl.out cur y x ay HS.out.reg HKy.out (by have:=HS.out.sum;have:=HKs.out;omega) HS.out.nin HY.out);have HSm:Hid (∀m,yH (xv (yc cur y m))):=λm=>zhh (Xv HS.out.reg.ok) (Xv HKy.out.ok) m;have HReg:Hid (∀n',zb9 cur y=some n'->qn (K+ky) n'):=λn' h=>zdf HS.out.reg HKy.out h;simp only[zH]at HAnd;have HB5:=Lib.hid hB5;clear hW5 hB5 hy5 hk5 hn5 f0 f1 f2 r0 r1 r2;go_wp2_with fail;refine HAnd.out.mono ?_;rintro e w7 ⟨mm,⟨rfl,q7,ve,aa,ca,hq7,hB7,hA7⟩,hd7⟩;have HG7:Hid (ZW w7):=HG.out.below (HS.out.bel.trans (hB7.bel.mono HS.out.bel.size));have HB7:=Lib.hid hB7.bel;have HD:Hid (Calls Tryz.prog 90 #[.pointer (some ⟨wr.heap.size+1,0,none⟩)] w7 (yA q (zb9 cur y) w7)):=by have h:=zep hB7 hq7 HQl.out hA7 HG7.out (HSm.out mm);show Calls _ _ _ _ _;rw[←hd7];exact h
   clear hq7 hB7 hA7 hd7 HSm HAnd y0 y1 y2 x0' x1' x2';cases hr:zb9 cur y with
   |none =>have HN:Hid (Xd n0 rest=none):=HEq.out none hr;rw[hr]at HD;clear HEq HReg hr;go_wp2_with fail;refine HD.out.mono ?_;intro e w8 h8;obtain⟨rfl,hb8⟩:=h8.outNo;have HB8:Hid (Below wr.heap.size wr w8):=HB7.out.trans (hb8.mono HB7.out.size);have hz8:=HB8.out.size;have hbx8:w8.heap[w.heap.size]? = some qz:=(HB8.out.block _ (by omega)).trans HS.out.blk0;obtain⟨⟨c0,c1,c2⟩,⟨d0,d1,d2⟩⟩:=zgF hbx8;have HBx8:=Lib.hid hbx8;clear h8 hb8 hbx8;go_wp2_with fail;refine bodyPost_ret (v:=.tuple #[.agg #[.int .i64 0,.slice none 0 0,.slice none 0 0],.int .i64 2]) (xL _ rfl _ _ w.heap.size _ _ _ _ (zb1 (zk HBx8.out)) rfl rfl) rfl ?_;have hbw:=HS.out.bel.trans (HB8.out.mono HS.out.bel.size);exact HNo.out _ HN.out ((((hbw.alloc (by omega) _).setCell (Nat.le_refl _) _).setCell (Nat.le_refl _) _).setCell (Nat.le_refl _) _)
   |some n' =>
    have HE':Hid (Xd n0 rest=Xd n' (rest.drop (m+1))):=HEq.out _ hr;have HR':=Lib.hid (HReg.out _ hr);rw[hr]at HD;clear HEq HReg hr;go_wp2_with fail;refine HD.out.mono ?_;intro e w8 h8;obtain⟨x',rfl,hn8,hb8⟩:=h8.outYes;have HB8:Hid (Below wr.heap.size wr w8):=HB7.out.trans (hb8.mono HB7.out.size);have HN8:=Lib.hid hn8;have hz8:=HB8.out.size;have hbx8:w8.heap[w.heap.size+1]? = some (Zq cur x):=(HB8.out.block _ (by omega)).trans HS.out.blk1;obtain⟨⟨c0,c1,c2⟩,⟨d0,d1,d2⟩⟩:=zgF hbx8;have HNx:Hid (∀o,zaF q n0 rest ks w ((((w8.alloc o).setCell ⟨w.heap.size+1,0,none⟩ (.int .i64 n'.states)).setCell ⟨w.heap.size+1,1,none⟩ (.slice x'.ae n'.edges.length x'.ce)).setCell ⟨w.heap.size+1,2,none⟩ (.slice x'.aa n'.accept.length x'.ca)) (m+1) n' x' (K+ky)):=λo=>HS.out.next HB8.out HKs.out HR'.out HE'.out hn8 ((Q.out _).2 (Or.inr (Or.inr rfl))) HQl.out o;clear h8 hb8 hn8 hbx8;go_wp2_with fail;go_roundw;case rel=>exact⟨m+1,n',x',K+ky,by go_num,by omega,HNx.out _⟩
    case measure=>(simp[intOf];try omega)
  ·obtain rfl:m=rest.length:=by omega
   have HE':Hid (Xd n0 rest=some cur):=by show _=_;have:=HS.out.eq;rwa [List.drop_length]at this
   obtain⟨c0,c1,c2⟩:=zv HS.out.blk1;have hb0:wr.heap[w.heap.size]? = some (.cells #[.int .i64 0,.slice none 0 0,.slice none 0 0] 33 (0,0)):=HS.out.blk0;obtain⟨e0,e1,e2⟩:=zv hb0;have f0:wr.frozen? ⟨w.heap.size,0,none⟩=false:=by simp[World.frozen?,hb0]
   have f1:wr.frozen? ⟨w.heap.size,1,none⟩=false:=by simp[World.frozen?,hb0]
   have f2:wr.frozen? ⟨w.heap.size,2,none⟩=false:=by simp[World.frozen?,hb0]
   have HB0:=Lib.hid hb0;clear hb0;go_wp2_with fail;refine bodyPost_ret (v:=.tuple #[.agg #[.int .i64 cur.states,.slice x.ae cur.edges.length x.ce,.slice x.aa cur.accept.length x.ca],.int .i64 0]) (xL _ rfl _ _ w.heap.size _ _ _ _ (zb1 HB0.out) rfl rfl) rfl ?_;have hqb:q w.heap.size=true:=(Q.out _).2 (Or.inr (Or.inl rfl));refine HYes.out _ cur x HE'.out ?_ (((HS.out.bel.setCell (Nat.le_refl _) _).setCell (Nat.le_refl _) _).setCell (Nat.le_refl _) _);exact HS.out.nin.keep (Kp.trans (zj hqb) (Kp.trans (zj hqb) (Kp.trans (zj hqb) (zR λj hj=>(Q.out j).2 (Or.inl hj)))))
theorem zg1:Elem Tryz.prog 38 49 2:=Elem.of Tryz.underlying38 (by kernel_rfl) (z:=.agg #[.int .i64 0,.slice none 0 0]) (bytes:=32) rfl (by decide) (by decide)
def xi {τ:Type} (E:Enc τ) (t:TypeId) (p:Nat->Bool) (B:Nat) (v:Value) (l:List τ) (w:World) (e:Ending) (w':World):Prop :=
 ∃v',e=.returned v'/\E.Own t p w' B v' l/\w.grownBy w' v.ownBlock/\(v'.ownBlock=v.ownBlock\/∃g,v'.ownBlock=some g/\w.heap.size<=g)
theorem zev {τ:Type} {E:Enc τ} {t:TypeId} {p:Nat->Bool} {w:World} {B g n cap i:Nat} {l:List τ} {xs:List Value} {cur:Array Value} {x:τ} {vs:List Value} (hs:E.sz=2)
 (hV:E.Vals (World.hide w (hid p (.slice (some ⟨g,0,none⟩) n cap))) l xs) (hn:l.length=n) (hB:B<=g) (hg:w.heap[g]? = some (.cells cur t (0,0))) (hc:n+1<=cap) (hm:cap<=maxLen) (hz:cur.size=cap*2) (hx:cur.toList.take (n*2)=xs) (hi:i<n)
 (hR:E.R (World.hide w (hid p (.slice (some ⟨g,0,none⟩) n cap))) x vs) :
 xi E t p B (.slice (some ⟨g,0,none⟩) n cap) (l.take i++x::l.drop i) w (.returned (.slice (some ⟨g,0,none⟩) (n+1) cap)) ((w.drew.setRow g (splice cur.toList ((i+1)*2) (xs.drop (i*2))).toArray).setRow g (splice (splice cur.toList ((i+1)*2) (xs.drop (i*2))) (i*2) vs).toArray):=by
 have hvl:vs.length=2:=by rw[E.len hR,hs]
 have hxl:xs.length=n*2:=by rw[hV.1,hn,hs]
 have hal:(xs.take (i*2)).length=i*2:=by rw[List.length_take];omega
 have hrow:splice (splice cur.toList ((i+1)*2) (xs.drop (i*2))) (i*2) vs=(xs.take (i*2)++(vs++xs.drop (i*2)))++(cur.toList.drop (n*2)).drop 2:=by have:=zd1 (xs.take (i*2)) (xs.drop (i*2)) (cur.toList.drop (n*2)) vs 2 hvl (by rw[List.length_drop,Array.length_toList,hz];omega);rw[hal,List.take_append_drop,←hx,List.take_append_drop,show i*2+2=(i+1)*2 by omega]at this;rw[←hx];exact this
 rw[hrow]
 have hg1:w.grownBy ((w.drew.setRow g (splice cur.toList ((i+1)*2) (xs.drop (i*2))).toArray).setRow g ((xs.take (i*2)++(vs++xs.drop (i*2)))++(cur.toList.drop (n*2)).drop 2).toArray) (some g) :=
  Q1 (Q1 (zfA w _) (Qn _ _ _)) (Qn _ _ _)
 refine⟨_,rfl,⟨xs.take (i*2)++(vs++xs.drop (i*2)),⟨?_,Or.inr ⟨g,cap,_,?_,hB,setRow_heap _ g _ _ t _ (setRow_heap _ g cur _ t _ hg),?_,hm,?_,?_⟩⟩,?_⟩,hg1,Or.inl rfl⟩
 ·rw[hs];simp;omega
 ·simp[hn];omega
 ·simp[hn];omega
 ·rw[hs];simp[hz];omega
 ·rw[hs,List.toList_toArray,List.take_append_of_le_length (by simp;omega),List.take_of_length_le (by simp;omega)]
 ·have h:=hV.ins (i:=i) (by omega) hR;rw[hs]at h;exact h.keep (yV hg1 (λk hk=>by obtain rfl:=Option.some.inj hk;exact ze.2 (Or.inr rfl)) λk _ hk=>by
   rcases ze.1 hk with hk|hk
   ·exact ze.2 (Or.inl hk)
   ·exact ze.2 (Or.inr hk))
theorem zeu {τ:Type} {E:Enc τ} {t:TypeId} {p:Nat->Bool} {w:World} {B g n cap i c2:Nat} {l:List τ} {xs R:List Value} {x:τ} {vs:List Value} (hs:E.sz=2)
 (hV:E.Vals (World.hide w (hid p (.slice (some ⟨g,0,none⟩) n cap))) l xs) (hn:l.length=n) (hB:B<=w.heap.size) (hgz:g<w.heap.size) (hc:n+1<=c2) (hm:c2<=maxLen) (hz:i*2+R.length=c2*2) (hi:i<n)
 (hR:E.R (World.hide w (hid p (.slice (some ⟨g,0,none⟩) n cap))) x vs) :
 xi E t p B (.slice (some ⟨g,0,none⟩) n cap) (l.take i++x::l.drop i) w (.returned (.slice (some ⟨w.heap.size,0,none⟩) (n+1) c2)) ((((w.drew.alloc (.cells (xs.take (i*2)++R).toArray t)).setRow w.heap.size (splice (xs.take (i*2)++R) (i*2) vs).toArray).drew).setRow w.heap.size (splice (splice (xs.take (i*2)++R) (i*2) vs) ((i+1)*2) (xs.drop (i*2))).toArray):=by
 have hvl:vs.length=2:=by rw[E.len hR,hs]
 have hxl:xs.length=n*2:=by rw[hV.1,hn,hs]
 have hal:(xs.take (i*2)).length=i*2:=by rw[List.length_take];omega
 have hbl:(xs.drop (i*2)).length=(n-i)*2:=by rw[List.length_drop];omega
 have hrow:splice (splice (xs.take (i*2)++R) (i*2) vs) ((i+1)*2) (xs.drop (i*2))=(xs.take (i*2)++(vs++xs.drop (i*2)))++R.drop (2+(xs.drop (i*2)).length):=by have:=zd0 (xs.take (i*2)) (xs.drop (i*2)) R vs 2 hvl (by rw[hbl];omega);rw[hal,show i*2+2=(i+1)*2 by omega]at this;exact this
 rw[hrow]
 have hb1:Below w.heap.size w ((((w.drew.alloc (.cells (xs.take (i*2)++R).toArray t)).setRow w.heap.size (splice (xs.take (i*2)++R) (i*2) vs).toArray).drew).setRow w.heap.size ((xs.take (i*2)++(vs++xs.drop (i*2)))++R.drop (2+(xs.drop (i*2)).length)).toArray) :=
  below_setRow (Below.drew (below_setRow ((Below.refl w.heap.size w).drew.alloc (Nat.le_refl _) _) (Nat.le_refl _) _)) (Nat.le_refl _) _
 refine⟨_,rfl,⟨xs.take (i*2)++(vs++xs.drop (i*2)),⟨?_,Or.inr ⟨w.heap.size,c2,_,?_,hB,setRow_heap _ _ _ _ t (0,0) (setRow_heap _ _ _ _ t (0,0) (zi w.drew _)),?_,hm,?_,?_⟩⟩,?_⟩,Xm (World.grownBy.refl _ _) hb1,Or.inr ⟨_,rfl,Nat.le_refl _⟩⟩
 ·rw[hs];simp;omega
 ·simp[hn];omega
 ·simp[hn];omega
 ·rw[hs];simp;omega
 ·rw[hs,List.toList_toArray,List.take_append_of_le_length (by simp;omega),List.take_of_length_le (by simp;omega)]
 ·have h:=hV.ins (i:=i) (by omega) hR;rw[hs]at h;exact h.keep (zg hb1 λk hk hq=>by
   rcases ze.1 hq with hq|hq
   ·exact ze.2 (Or.inl hq)
   ·have:=Option.some.inj hq;simp only at this;omega)
theorem XA {P:Program} {t tn e:TypeId} {size:Nat} {kn:IntKind} (he:Elem P t e size) (htn:P.underlying tn=some (.int kn)) (w:World) (g cap i k:Nat) (olds:List Value) (hl:olds.length=i*size) (ho:∀j v,olds[j]? = some v->w.cell? ⟨g,j,none⟩=some v)
 (hk:0<k) (hg:cap<i+k) (hb:i+k<=1073741824):∃c2 R,i+k<=c2/\c2<=maxLen/\i*size+R.length=c2*size/\∀ty,(Builtin.append_ #[t,tn] ty #[.slice (some ⟨g,0,none⟩) i cap,.int .i64 (k:Int)]).run P w=.ok (.slice (some ⟨w.heap.size,0,none⟩) (i+k) c2) (w.drew.alloc (.cells (olds++R).toArray e)):=by
 obtain⟨ht,f,z,bytes,hi,hz,hsz,hby,hzs,h0,hbb⟩:=he;have hold:(Builtin.firstCells f.size i (.slice (some ⟨g,0,none⟩) i cap)).run P w.drew=.ok olds.toArray w.drew:=by
  rw[hsz];refine run_firstCells_some w.drew size i ⟨g,0,none⟩ i cap olds hl λj v hj=>?_;have:((⟨g,0,none⟩:Addr).add j)=⟨g,j,none⟩:=by unfold Addr.add;split<;>simp_all
  rw[this];exact ho j v hj
 have hfit:(i+k)*bytes<=140737488355328:=by
  calc (i+k)*bytes<=1073741824*1024:=Nat.mul_le_mul hb hbb
   _<=_:=by decide
 have hfit2:k*bytes<=281474976710656:=by
  calc k*bytes<=1073741824*1024:=Nat.mul_le_mul (by omega) hbb
   _<=_:=by decide
 have h:=λty=>Lib.run_append_grow_zeros w t tn ty e f z .i64 kn ht htn hi hz (some ⟨g,0,none⟩) i cap olds hold k hk (by omega) hg (by omega) (by rw[hby];exact hfit2) (by rw[hby];exact growslice_fits hg hfit);refine⟨grownCap w (i+k) cap e,(Builtin.zeroCells z.cells k++Builtin.zeroCells z.cells (grownCap w (i+k) cap e-(i+k))).toList,grownCap_ge _ _ _ _,grownCap_le_maxLen _ _ _ _ (by unfold maxLen;omega),?_,λty=>?_⟩
 ·have:=grownCap_ge w (i+k) cap e;simp only[Array.toList_append,List.length_append,Array.length_toList,Builtin.zeroCells,Array.size_map,Array.size_range,hzs];rw[←Nat.add_mul,←Nat.add_mul];congr 1;omega
 ·rw[h ty];congr 3;apply Array.ext';simp
theorem zcu (p:Nat->Bool) (B:Nat) (v:Value) (l:List _) (x:_) (vb vc:Nat) (vs:List Value) (w:World) (ho:sgE.Own 78 p w B v l) (hR:sgE.In (World.hide w (hid p v)) [x] (some ⟨vb,0,none⟩) vc) (hB:B<=w.heap.size) (hn:l.length<=100000000) :
 Calls Tryz.prog 113 #[v,.int .i64 l.length,.slice (some ⟨vb,0,none⟩) 1 vc] w (xi sgE 78 p B v (l++[x]) w):=by
 obtain⟨a,cap,hv,hin⟩:=ho.slice (by omega);have HK:Hid (∀v' w',sgE.Own 78 p w' B v' (l++[x])->w.grownBy w' v.ownBlock->(v'.ownBlock=v.ownBlock\/∃g,v'.ownBlock=some g/\w.heap.size<=g)->xi sgE 78 p B v (l++[x]) w (.returned v') w'):=λv' w' h1 h2 h3=>⟨v',rfl,h1,h2,h3⟩;generalize xi sgE 78 p B v (l++[x]) w=Po at HK⊢;have hcp:=hin.cap;have HO:=Lib.hid ho;have HR:=Lib.hid hR;have H1:Hid (∀W,(Instr.sliceAt 39 v (some (.int .i64 (l.length:Int))) none none).run Tryz.prog W=.ok (sliced a l.length l.length cap 2) W):=λW=>by
  have ht : Tryz.prog.underlying 39=some (.slice (Tryz.prog.elem 39)):=by kernel_rfl
  rw[hv,run_sliceAt_slice (h:=ht),run_slice_l (ht:=ht) (h0:=by omega) (h1:=by omega)];have hs:(Go.sizeOf (Tryz.prog.elem 39)).run Tryz.prog W=.ok 2 W:=by kernel_rfl
  rw[hs];simp[Result.andThen]
 clear ho hR hin;subst hv;go_enter Tryz.func113, Tryz.ntmps113;go_wp2_with (at_builtin;refine xu Qm _ rfl _ _ rfl p B _ rfl HO.out _ _ HR.out rfl (by simp;omega) hB (λv' w' h1 h2 h3=>?_);have HK2:=Lib.hid (HK.out v' w' h1 h2 h3);clear h1 h2 h3);all_goals exact HK2.out
theorem zbD (p:Nat->Bool) (B g n cap i:Nat) (l:List _) (xs:List Value) (cur:Array Value) (x:_) (vb vc:Nat) (vs:List Value) (w:World)
 (hV:sgE.Vals (World.hide w (hid p (.slice (some ⟨g,0,none⟩) n cap))) l xs) (hl:l.length=n) (hB:B<=g) (hg:w.heap[g]? = some (.cells cur 78 (0,0))) (hc:n+1<=cap) (hm:cap<=maxLen) (hz:cur.size=cap*2) (hx:cur.toList.take (n*2)=xs) (hi:i<n)
 (hR:sgE.R (World.hide w (hid p (.slice (some ⟨g,0,none⟩) n cap))) x vs) (hvb:w.heap[vb]? = some (.cells vs.toArray 78 (0,0))) (hne:vb≠g) :
 Calls Tryz.prog 113 #[.slice (some ⟨g,0,none⟩) n cap,.int .i64 i,.slice (some ⟨vb,0,none⟩) 1 vc] w (xi sgE 78 p B (.slice (some ⟨g,0,none⟩) n cap) (l.take i++x::l.drop i) w):=by
 have HK:=Lib.hid (zev (E:=sgE) rfl hV hl hB hg hc hm hz hx hi hR);have hvl:vs.length=2:=sgE.len hR;have hxl:xs.length=n*2:=by rw[hV.1,hl];rfl
 have h1v:=sgE.one hR;have h1c:=hV.cells;have ht : Tryz.prog.underlying 39=some (.slice 78):=by kernel_rfl
 have hsz:(Tryz.prog.info? 78).map (·.size)=some 2:=by kernel_rfl
 have hso:∀w,(Go.sizeOf 78).run Tryz.prog w=.ok 2 w:=λw=>by kernel_rfl
 have HOV:Hid (∀lb cb,(callFunc 172 #[.slice (some ⟨vb,0,none⟩) 1 vc,.slice (some ⟨g,(i+1)*2,none⟩) lb cb]).run Tryz.prog w=.ok (.value (.bool false)) w):=λlb cb=>by
  rw[run_callFunc_extern Tryz.func172 (by kernel_rfl) (by kernel_rfl) (by kernel_rfl) (e:=Extern.SlicesOverlaps.overlaps #[39, 39] #[4]) (by kernel_rfl),
   Lib.run_overlaps_apart w 39 4 78 ht 2 hso ⟨vb,0,none⟩ ⟨g,(i+1)*2,none⟩ 1 vc lb cb hne 78 78 2 (cap*2) (by simp[World.shape?,hvb,hvl]) (by simp[World.shape?,hg,hz]) (by omega) (by simp[World.frozen?,hvb]) (by simp[World.frozen?,hvb])]
  rfl
 have hmin1:Nat.min (n+1-i) (n-i)=n-i:=by simp only[Nat.min_def];split<;>omega
 have hmin2:Nat.min 1 (n+1-i)=1:=by simp only[Nat.min_def];split<;>omega
 have hdl:(xs.drop (i*2)).length=(n-i)*2:=by rw[List.length_drop,hxl];omega
 have HC1:Hid (∀ty dc sc,(Builtin.copy_ #[39, 39] ty #[.slice (some ⟨g,(i+1)*2,none⟩) (n-i) dc,.slice (some ⟨g,i*2,none⟩) (n+1-i) sc]).run Tryz.prog w.drew=.ok (goInt (n-i:Nat)) (w.drew.setRow g (splice cur.toList ((i+1)*2) (xs.drop (i*2))).toArray)):=λty dc sc=>by
  have h:=yN (P:=Tryz.prog) w.drew 39 39 ty 78 2 g ((i+1)*2) (n-i) dc ⟨g,i*2,none⟩ (n+1-i) sc cur 78 (xs.drop (i*2)) (n-i) ht hsz hg hmin1 hdl (λj v hj=>by
   rw[List.getElem?_drop]at hj;have hj1:=(List.getElem?_eq_some_iff.1 hj).1;have hj2:cur[i*2+j]? = some v:=by rw[←hx,List.getElem?_take_of_lt (by omega)]at hj;simpa using hj
   rw[Addr.add_lit];show w.cell? _=_;rw[zc hg];exact hj2) (by rw[hdl,hz];omega) (λv hv=>h1c v (List.mem_of_mem_drop hv))
  rw[h];simp[splice]
 have HC2:Hid (∀ty dc,(Builtin.copy_ #[39, 39] ty #[.slice (some ⟨g,i*2,none⟩) (n+1-i) dc,.slice (some ⟨vb,0,none⟩) 1 vc]).run Tryz.prog (w.drew.setRow g (splice cur.toList ((i+1)*2) (xs.drop (i*2))).toArray)=.ok (goInt 1) ((w.drew.setRow g (splice cur.toList ((i+1)*2) (xs.drop (i*2))).toArray).setRow g (splice (splice cur.toList ((i+1)*2) (xs.drop (i*2))) (i*2) vs).toArray)):=λty dc=>by have h:=yN (P:=Tryz.prog) (w.drew.setRow g (splice cur.toList ((i+1)*2) (xs.drop (i*2))).toArray) 39 39 ty 78 2 g (i*2) (n+1-i) dc ⟨vb,0,none⟩ 1 vc _ 78 vs 1 ht hsz (setRow_heap _ g cur _ _ _ hg) hmin2 (by rw[hvl]) (λj v hj=>by rw[Addr.add_lit,zc (by rw[setRow_other _ _ _ _ hne];exact hvb)];simpa using hj) (by rw[hvl];simp[splice];omega) h1v;rw[h];simp[splice]
 generalize splice (splice cur.toList ((i+1)*2) (xs.drop (i*2))) (i*2) vs=row2 at HK HC2;generalize (w.drew.setRow g (splice cur.toList ((i+1)*2) (xs.drop (i*2))).toArray)=W1 at HK HC1 HC2;generalize xi sgE 78 p B (.slice (some ⟨g,0,none⟩) n cap) (l.take i++x::l.drop i) w=Po at HK⊢;clear hV hR hvb hg hz hx h1v h1c;have hw1:IntKind.i64.wrap ((i:Int)+1)=(i:Int)+1:=by unfold maxLen at hm;rw[IntKind.wrap_i64];omega
 have hw2:IntKind.i64.wrap ((n:Int)+1)=(n:Int)+1:=by unfold maxLen at hm;rw[IntKind.wrap_i64];omega
 have hz2:¬((i:Int)=(n:Int)):=by omega
 have hin:i<=n:=by omega
 have htn:((i:Int)+1).toNat=i+1:=by omega
 have htn2:((n:Int)+1).toNat=n+1:=by omega
 have hb1:(0:Int)<=(i:Int)+1:=by omega
 have hb2:¬(cap=i+1):=by omega
 have hb3:(i:Int)<=(n:Int)+1:=by omega
 have hb4:¬(cap=i):=by omega
 have hb5:¬((cap:Int)<(n:Int)+1):=by omega
 have mixed : Tryz.prog.follows .mixedOrders=true:=by kernel_rfl
 have hov:=HOV.out;have hcp1:=HC1.out;have hcp2:=HC2.out;go_enter Tryz.func113, Tryz.ntmps113;go_wp2_with (simp only[hov]);go_region_law_o (refine step_copy_runI rfl _ _ 39 39 rfl _ _ (by simp[Act.eval,Act.put]) (by simp[Act.eval,Act.put]) (hcp1 _ _ _) ?_);go_wp2_with (at_builtin;refine wpList_copy_runI _ rfl _ _ 39 39 rfl _ _ rfl rfl (hcp2 _ _) ?_);exact HK.out
theorem zbC (p:Nat->Bool) (B g n cap i:Nat) (l:List _) (xs:List Value) (cur:Array Value) (x:_) (vb vc:Nat) (vs:List Value) (w:World)
 (hV:sgE.Vals (World.hide w (hid p (.slice (some ⟨g,0,none⟩) n cap))) l xs) (hl:l.length=n) (hB:B<=w.heap.size) (hg:w.heap[g]? = some (.cells cur 78 (0,0))) (hc:cap=n) (hn:n<=100000000) (hx:cur.toList.take (n*2)=xs) (hi:i<n)
 (hR:sgE.R (World.hide w (hid p (.slice (some ⟨g,0,none⟩) n cap))) x vs) (hvb:w.heap[vb]? = some (.cells vs.toArray 78 (0,0))) :
 Calls Tryz.prog 113 #[.slice (some ⟨g,0,none⟩) n cap,.int .i64 i,.slice (some ⟨vb,0,none⟩) 1 vc] w (xi sgE 78 p B (.slice (some ⟨g,0,none⟩) n cap) (l.take i++x::l.drop i) w):=by
 have hvl:vs.length=2:=sgE.len hR;have hxl:xs.length=n*2:=by rw[hV.1,hl];rfl
 have h1v:=sgE.one hR;have h1c:=hV.cells;have hgz:g<w.heap.size:=(Array.getElem?_eq_some_iff.1 hg).1;have hvz:vb<w.heap.size:=(Array.getElem?_eq_some_iff.1 hvb).1;have hcell:∀j v,xs[j]? = some v->w.cell? ⟨g,j,none⟩=some v:=λj v hj=>by
  have hj1:=(List.getElem?_eq_some_iff.1 hj).1;have hj2:cur[j]? = some v:=by rw[←hx,List.getElem?_take_of_lt (by omega)]at hj;simpa using hj
  rw[zc hg];exact hj2
 have ht : Tryz.prog.underlying 39=some (.slice 78):=by kernel_rfl
 have hsz:(Tryz.prog.info? 78).map (·.size)=some 2:=by kernel_rfl
 obtain⟨c2,R,hc2,hm2,hRl,hap⟩:=XA (P:=Tryz.prog) Qm (tn:=3) (kn:=.i64) (by kernel_rfl) w g cap i (n+1-i) (xs.take (i*2)) (by rw[List.length_take];omega) (λj v hj=>by have hj1:=(List.getElem?_eq_some_iff.1 hj).1;rw[List.length_take]at hj1;rw[List.getElem?_take_of_lt (by omega)]at hj;exact hcell j v hj) (by omega) (by omega) (by omega);rw[show i+(n+1-i)=n+1 by omega]at hap hc2;have HK:=Lib.hid (zeu (E:=sgE) (t:=78) (c2:=c2) (R:=R) rfl hV hl hB hgz hc2 hm2 hRl hi hR);have hkk:(n:Int)+1-(i:Int)=((n+1-i:Nat):Int):=by omega
 have hal:(xs.take (i*2)).length=i*2:=by rw[List.length_take];omega
 have hmin1:Nat.min (n-i) (n-i)=n-i:=by simp only[Nat.min_def];split<;>omega
 have hmin2:Nat.min 1 (n+1-i)=1:=by simp only[Nat.min_def];split<;>omega
 have hdl:(xs.drop (i*2)).length=(n-i)*2:=by rw[List.length_drop,hxl];omega
 have HC1:Hid (∀ty dc,(Builtin.copy_ #[39, 39] ty #[.slice (some ⟨w.heap.size,i*2,none⟩) (n+1-i) dc,.slice (some ⟨vb,0,none⟩) 1 vc]).run Tryz.prog (w.drew.alloc (.cells (xs.take (i*2)++R).toArray 78))=.ok (goInt 1) ((w.drew.alloc (.cells (xs.take (i*2)++R).toArray 78)).setRow w.heap.size (splice (xs.take (i*2)++R) (i*2) vs).toArray)):=λty dc=>by have h:=yN (P:=Tryz.prog) (w.drew.alloc (.cells (xs.take (i*2)++R).toArray 78)) 39 39 ty 78 2 w.heap.size (i*2) (n+1-i) dc ⟨vb,0,none⟩ 1 vc _ 78 vs 1 ht hsz (zi w.drew _) hmin2 (by rw[hvl]) (λj v hj=>by rw[Addr.add_lit,zc (zk (show w.drew.heap[vb]? = _ from hvb))];simpa using hj) (by rw[hvl];simp;omega) h1v;rw[h];simp[splice]
 have HC2:Hid (∀ty dc sc,(Builtin.copy_ #[39, 39] ty #[.slice (some ⟨w.heap.size,(i+1)*2,none⟩) (n-i) dc,.slice (some ⟨g,i*2,none⟩) (n-i) sc]).run Tryz.prog (((w.drew.alloc (.cells (xs.take (i*2)++R).toArray 78)).setRow w.heap.size (splice (xs.take (i*2)++R) (i*2) vs).toArray).drew)=.ok (goInt (n-i:Nat)) ((((w.drew.alloc (.cells (xs.take (i*2)++R).toArray 78)).setRow w.heap.size (splice (xs.take (i*2)++R) (i*2) vs).toArray).drew).setRow w.heap.size (splice (splice (xs.take (i*2)++R) (i*2) vs) ((i+1)*2) (xs.drop (i*2))).toArray)):=λty dc sc=>by have h:=yN (P:=Tryz.prog) (((w.drew.alloc (.cells (xs.take (i*2)++R).toArray 78)).setRow w.heap.size (splice (xs.take (i*2)++R) (i*2) vs).toArray).drew) 39 39 ty 78 2 w.heap.size ((i+1)*2) (n-i) dc ⟨g,i*2,none⟩ (n-i) sc _ 78 (xs.drop (i*2)) (n-i) ht hsz (setRow_heap _ _ _ _ _ (0,0) (zi w.drew _)) hmin1 hdl (λj v hj=>by rw[List.getElem?_drop]at hj;rw[Addr.add_lit];show ((w.drew.alloc _).setRow w.heap.size _).cell? _=_;rw[zc (by rw[setRow_other _ _ _ _ (by omega:g≠w.heap.size)];exact zk (show w.drew.heap[g]? = _ from hg))];have:=hcell _ _ hj;rw[zc hg]at this;exact this) (by rw[hdl];simp[splice,hvl];omega) (λv hv=>h1c v (List.mem_of_mem_drop hv));rw[h];simp[splice]
 generalize splice (splice (xs.take (i*2)++R) (i*2) vs) ((i+1)*2) (xs.drop (i*2))=row2 at HK HC2;generalize hW1:w.drew.alloc (.cells (xs.take (i*2)++R).toArray 78)=W1 at HK HC1 HC2 hap;generalize hW2:W1.setRow w.heap.size (splice (xs.take (i*2)++R) (i*2) vs).toArray=W2 at HK HC1 HC2;generalize xi sgE 78 p B (.slice (some ⟨g,0,none⟩) n cap) (l.take i++x::l.drop i) w=Po at HK⊢;clear hV hR hvb hg hx h1v h1c hW1 hW2 hcell;subst hc;have hw1:IntKind.i64.wrap ((i:Int)+1)=(i:Int)+1:=by rw[IntKind.wrap_i64];omega
 have hw2:IntKind.i64.wrap ((cap:Int)+1)=(cap:Int)+1:=by rw[IntKind.wrap_i64];omega
 have hw3:IntKind.i64.wrap ((cap:Int)+1-(i:Int))=(cap:Int)+1-(i:Int):=by rw[IntKind.wrap_i64];omega
 have hz2:¬((i:Int)=(cap:Int)):=by omega
 have hin:i<=cap:=by omega
 have htn:((i:Int)+1).toNat=i+1:=by omega
 have hb1:(0:Int)<=(i:Int)+1:=by omega
 have hb2:¬(c2=i+1):=by omega
 have hb3:(i:Int)<=(cap:Int)+1:=by omega
 have hb4:¬(c2=i):=by omega
 have hb5:¬(cap=i):=by omega
 have hb6:((cap:Int)<(cap:Int)+1):=by omega
 have mixed : Tryz.prog.follows .mixedOrders=true:=by kernel_rfl
 have hcp1:=HC1.out;have hcp2:=HC2.out;go_enter Tryz.func113, Tryz.ntmps113;go_wp2_with (at_builtin;first|(refine Lib.wpList_append_run _ rfl _ _ _ _ rfl _ _ rfl rfl _ _ (hap _) ?_)|(refine wpList_copy_runI _ rfl _ _ 39 39 rfl _ _ rfl rfl (hcp1 _ _) ?_));go_region_law_o (refine step_copy_runI rfl _ _ 39 39 rfl _ _ (by simp[Act.eval,Act.put]) (by simp[Act.eval,Act.put]) (hcp2 _ _ _) ?_);go_wp2_with fail;exact HK.out
theorem zct (p:Nat->Bool) (B i:Nat) (v:Value) (l:List _) (x:_) (vb vc:Nat) (vs:List Value) (w:World) (ho:sgE.Own 78 p w B v l) (hi:i<=l.length)
 (hR:sgE.R (World.hide w (hid p v)) x vs) (hvb:w.heap[vb]? = some (.cells vs.toArray 78 (0,0))) (hp:p vb=false) (hne:v.ownBlock≠some vb) (hvc:1<=vc) (hB:B<=w.heap.size) (hn:l.length<=100000000) :
 Calls Tryz.prog 113 #[v,.int .i64 i,.slice (some ⟨vb,0,none⟩) 1 vc] w (xi sgE 78 p B v (l.take i++x::l.drop i) w):=by
 by_cases h:i=l.length
 ·subst h;rw[List.take_of_length_le (Nat.le_refl _),List.drop_eq_nil_of_le (Nat.le_refl _)];refine zcu p B v l x vb vc vs w ho ((Enc.Vals.one hR).in (λj u hj=>?_) (by simp) (by simpa using hvc)) hB hn;rw[Nat.zero_add];refine zy.2 ⟨?_,?_⟩
  ·cases hq:hid p v vb with
   |false=>rfl
   |true=>exact absurd (ze.1 hq) (by simp[hp,hne])
  ·rw[zc hvb];simpa using hj
 ·obtain⟨xs,⟨h1,h2⟩,hV⟩:=ho;rcases h2 with ⟨rfl,h0⟩|⟨g,cap,cur,rfl,hBg,hg,hnc,hm,hz,hx⟩
  ·omega
  ·have hz':cur.size=cap*2:=hz;have hx':cur.toList.take (l.length*2)=xs:=hx;by_cases hc:l.length+1<=cap
   ·exact zbD p B g l.length cap i l xs cur x vb vc vs w hV rfl hBg hg hc hm hz' hx' (by omega) hR hvb (λe=>hne (by rw[e];rfl))
   ·exact zbC p B g l.length cap i l xs cur x vb vc vs w hV rfl hB hg (by omega) hn hx' (by omega) hR hvb
theorem zcw (p:Nat->Bool) (B:Nat) (v:Value) (l:List _) (x:_) (vb vc:Nat) (vs:List Value) (w:World) (ho:thE.Own 49 p w B v l) (hR:thE.In (World.hide w (hid p v)) [x] (some ⟨vb,0,none⟩) vc) (hB:B<=w.heap.size) (hn:l.length<=100000000) :
 Calls Tryz.prog 52 #[v,.int .i64 l.length,.slice (some ⟨vb,0,none⟩) 1 vc] w (xi thE 49 p B v (l++[x]) w):=by
 obtain⟨a,cap,hv,hin⟩:=ho.slice (by omega);have HK:Hid (∀v' w',thE.Own 49 p w' B v' (l++[x])->w.grownBy w' v.ownBlock->(v'.ownBlock=v.ownBlock\/∃g,v'.ownBlock=some g/\w.heap.size<=g)->xi thE 49 p B v (l++[x]) w (.returned v') w'):=λv' w' h1 h2 h3=>⟨v',rfl,h1,h2,h3⟩;generalize xi thE 49 p B v (l++[x]) w=Po at HK⊢;have hcp:=hin.cap;have HO:=Lib.hid ho;have HR:=Lib.hid hR;have H1:Hid (∀W,(Instr.sliceAt 38 v (some (.int .i64 (l.length:Int))) none none).run Tryz.prog W=.ok (sliced a l.length l.length cap 2) W):=λW=>by
  have ht : Tryz.prog.underlying 38=some (.slice (Tryz.prog.elem 38)):=by kernel_rfl
  rw[hv,run_sliceAt_slice (h:=ht),run_slice_l (ht:=ht) (h0:=by omega) (h1:=by omega)];have hs:(Go.sizeOf (Tryz.prog.elem 38)).run Tryz.prog W=.ok 2 W:=by kernel_rfl
  rw[hs];simp[Result.andThen]
 clear ho hR hin;subst hv;go_enter Tryz.func52, Tryz.ntmps52;go_wp2_with (at_builtin;refine xu zg1 _ rfl _ _ rfl p B _ rfl HO.out _ _ HR.out rfl (by simp;omega) hB (λv' w' h1 h2 h3=>?_);have HK2:=Lib.hid (HK.out v' w' h1 h2 h3);clear h1 h2 h3);all_goals exact HK2.out
theorem zbF (p:Nat->Bool) (B g n cap i:Nat) (l:List _) (xs:List Value) (cur:Array Value) (x:_) (vb vc:Nat) (vs:List Value) (w:World)
 (hV:thE.Vals (World.hide w (hid p (.slice (some ⟨g,0,none⟩) n cap))) l xs) (hl:l.length=n) (hB:B<=g) (hg:w.heap[g]? = some (.cells cur 49 (0,0))) (hc:n+1<=cap) (hm:cap<=maxLen) (hz:cur.size=cap*2) (hx:cur.toList.take (n*2)=xs) (hi:i<n)
 (hR:thE.R (World.hide w (hid p (.slice (some ⟨g,0,none⟩) n cap))) x vs) (hvb:w.heap[vb]? = some (.cells vs.toArray 49 (0,0))) (hne:vb≠g) :
 Calls Tryz.prog 52 #[.slice (some ⟨g,0,none⟩) n cap,.int .i64 i,.slice (some ⟨vb,0,none⟩) 1 vc] w (xi thE 49 p B (.slice (some ⟨g,0,none⟩) n cap) (l.take i++x::l.drop i) w):=by
 have HK:=Lib.hid (zev (E:=thE) rfl hV hl hB hg hc hm hz hx hi hR);have hvl:vs.length=2:=thE.len hR;have hxl:xs.length=n*2:=by rw[hV.1,hl];rfl
 have h1v:=thE.one hR;have h1c:=hV.cells;have ht : Tryz.prog.underlying 38=some (.slice 49):=by kernel_rfl
 have hsz:(Tryz.prog.info? 49).map (·.size)=some 2:=by kernel_rfl
 have hso:∀w,(Go.sizeOf 49).run Tryz.prog w=.ok 2 w:=λw=>by kernel_rfl
 have HOV:Hid (∀lb cb,(callFunc 106 #[.slice (some ⟨vb,0,none⟩) 1 vc,.slice (some ⟨g,(i+1)*2,none⟩) lb cb]).run Tryz.prog w=.ok (.value (.bool false)) w):=λlb cb=>by
  rw[run_callFunc_extern Tryz.func106 (by kernel_rfl) (by kernel_rfl) (by kernel_rfl) (e:=Extern.SlicesOverlaps.overlaps #[38, 38] #[4]) (by kernel_rfl),
   Lib.run_overlaps_apart w 38 4 49 ht 2 hso ⟨vb,0,none⟩ ⟨g,(i+1)*2,none⟩ 1 vc lb cb hne 49 49 2 (cap*2) (by simp[World.shape?,hvb,hvl]) (by simp[World.shape?,hg,hz]) (by omega) (by simp[World.frozen?,hvb]) (by simp[World.frozen?,hvb])]
  rfl
 have hmin1:Nat.min (n+1-i) (n-i)=n-i:=by simp only[Nat.min_def];split<;>omega
 have hmin2:Nat.min 1 (n+1-i)=1:=by simp only[Nat.min_def];split<;>omega
 have hdl:(xs.drop (i*2)).length=(n-i)*2:=by rw[List.length_drop,hxl];omega
 have HC1:Hid (∀ty dc sc,(Builtin.copy_ #[38, 38] ty #[.slice (some ⟨g,(i+1)*2,none⟩) (n-i) dc,.slice (some ⟨g,i*2,none⟩) (n+1-i) sc]).run Tryz.prog w.drew=.ok (goInt (n-i:Nat)) (w.drew.setRow g (splice cur.toList ((i+1)*2) (xs.drop (i*2))).toArray)):=λty dc sc=>by
  have h:=yN (P:=Tryz.prog) w.drew 38 38 ty 49 2 g ((i+1)*2) (n-i) dc ⟨g,i*2,none⟩ (n+1-i) sc cur 49 (xs.drop (i*2)) (n-i) ht hsz hg hmin1 hdl (λj v hj=>by
   rw[List.getElem?_drop]at hj;have hj1:=(List.getElem?_eq_some_iff.1 hj).1;have hj2:cur[i*2+j]? = some v:=by rw[←hx,List.getElem?_take_of_lt (by omega)]at hj;simpa using hj
   rw[Addr.add_lit];show w.cell? _=_;rw[zc hg];exact hj2) (by rw[hdl,hz];omega) (λv hv=>h1c v (List.mem_of_mem_drop hv))
  rw[h];simp[splice]
 have HC2:Hid (∀ty dc,(Builtin.copy_ #[38, 38] ty #[.slice (some ⟨g,i*2,none⟩) (n+1-i) dc,.slice (some ⟨vb,0,none⟩) 1 vc]).run Tryz.prog (w.drew.setRow g (splice cur.toList ((i+1)*2) (xs.drop (i*2))).toArray)=.ok (goInt 1) ((w.drew.setRow g (splice cur.toList ((i+1)*2) (xs.drop (i*2))).toArray).setRow g (splice (splice cur.toList ((i+1)*2) (xs.drop (i*2))) (i*2) vs).toArray)):=λty dc=>by have h:=yN (P:=Tryz.prog) (w.drew.setRow g (splice cur.toList ((i+1)*2) (xs.drop (i*2))).toArray) 38 38 ty 49 2 g (i*2) (n+1-i) dc ⟨vb,0,none⟩ 1 vc _ 49 vs 1 ht hsz (setRow_heap _ g cur _ _ _ hg) hmin2 (by rw[hvl]) (λj v hj=>by rw[Addr.add_lit,zc (by rw[setRow_other _ _ _ _ hne];exact hvb)];simpa using hj) (by rw[hvl];simp[splice];omega) h1v;rw[h];simp[splice]
 generalize splice (splice cur.toList ((i+1)*2) (xs.drop (i*2))) (i*2) vs=row2 at HK HC2;generalize (w.drew.setRow g (splice cur.toList ((i+1)*2) (xs.drop (i*2))).toArray)=W1 at HK HC1 HC2;generalize xi thE 49 p B (.slice (some ⟨g,0,none⟩) n cap) (l.take i++x::l.drop i) w=Po at HK⊢;clear hV hR hvb hg hz hx h1v h1c;have hw1:IntKind.i64.wrap ((i:Int)+1)=(i:Int)+1:=by unfold maxLen at hm;rw[IntKind.wrap_i64];omega
 have hw2:IntKind.i64.wrap ((n:Int)+1)=(n:Int)+1:=by unfold maxLen at hm;rw[IntKind.wrap_i64];omega
 have hz2:¬((i:Int)=(n:Int)):=by omega
 have hin:i<=n:=by omega
 have htn:((i:Int)+1).toNat=i+1:=by omega
 have htn2:((n:Int)+1).toNat=n+1:=by omega
 have hb1:(0:Int)<=(i:Int)+1:=by omega
 have hb2:¬(cap=i+1):=by omega
 have hb3:(i:Int)<=(n:Int)+1:=by omega
 have hb4:¬(cap=i):=by omega
 have hb5:¬((cap:Int)<(n:Int)+1):=by omega
 have mixed : Tryz.prog.follows .mixedOrders=true:=by kernel_rfl
 have hov:=HOV.out;have hcp1:=HC1.out;have hcp2:=HC2.out;go_enter Tryz.func52, Tryz.ntmps52;go_wp2_with (simp only[hov]);go_region_law_o (refine step_copy_runI rfl _ _ 38 38 rfl _ _ (by simp[Act.eval,Act.put]) (by simp[Act.eval,Act.put]) (hcp1 _ _ _) ?_);go_wp2_with (at_builtin;refine wpList_copy_runI _ rfl _ _ 38 38 rfl _ _ rfl rfl (hcp2 _ _) ?_);exact HK.out
theorem zbE (p:Nat->Bool) (B g n cap i:Nat) (l:List _) (xs:List Value) (cur:Array Value) (x:_) (vb vc:Nat) (vs:List Value) (w:World)
 (hV:thE.Vals (World.hide w (hid p (.slice (some ⟨g,0,none⟩) n cap))) l xs) (hl:l.length=n) (hB:B<=w.heap.size) (hg:w.heap[g]? = some (.cells cur 49 (0,0))) (hc:cap=n) (hn:n<=100000000) (hx:cur.toList.take (n*2)=xs) (hi:i<n)
 (hR:thE.R (World.hide w (hid p (.slice (some ⟨g,0,none⟩) n cap))) x vs) (hvb:w.heap[vb]? = some (.cells vs.toArray 49 (0,0))) :
 Calls Tryz.prog 52 #[.slice (some ⟨g,0,none⟩) n cap,.int .i64 i,.slice (some ⟨vb,0,none⟩) 1 vc] w (xi thE 49 p B (.slice (some ⟨g,0,none⟩) n cap) (l.take i++x::l.drop i) w):=by
 have hvl:vs.length=2:=thE.len hR;have hxl:xs.length=n*2:=by rw[hV.1,hl];rfl
 have h1v:=thE.one hR;have h1c:=hV.cells;have hgz:g<w.heap.size:=(Array.getElem?_eq_some_iff.1 hg).1;have hvz:vb<w.heap.size:=(Array.getElem?_eq_some_iff.1 hvb).1;have hcell:∀j v,xs[j]? = some v->w.cell? ⟨g,j,none⟩=some v:=λj v hj=>by
  have hj1:=(List.getElem?_eq_some_iff.1 hj).1;have hj2:cur[j]? = some v:=by rw[←hx,List.getElem?_take_of_lt (by omega)]at hj;simpa using hj
  rw[zc hg];exact hj2
 have ht : Tryz.prog.underlying 38=some (.slice 49):=by kernel_rfl
 have hsz:(Tryz.prog.info? 49).map (·.size)=some 2:=by kernel_rfl
 obtain⟨c2,R,hc2,hm2,hRl,hap⟩:=XA (P:=Tryz.prog) zg1 (tn:=3) (kn:=.i64) (by kernel_rfl) w g cap i (n+1-i) (xs.take (i*2)) (by rw[List.length_take];omega) (λj v hj=>by have hj1:=(List.getElem?_eq_some_iff.1 hj).1;rw[List.length_take]at hj1;rw[List.getElem?_take_of_lt (by omega)]at hj;exact hcell j v hj) (by omega) (by omega) (by omega);rw[show i+(n+1-i)=n+1 by omega]at hap hc2;have HK:=Lib.hid (zeu (E:=thE) (t:=49) (c2:=c2) (R:=R) rfl hV hl hB hgz hc2 hm2 hRl hi hR);have hkk:(n:Int)+1-(i:Int)=((n+1-i:Nat):Int):=by omega
 have hal:(xs.take (i*2)).length=i*2:=by rw[List.length_take];omega
 have hmin1:Nat.min (n-i) (n-i)=n-i:=by simp only[Nat.min_def];split<;>omega
 have hmin2:Nat.min 1 (n+1-i)=1:=by simp only[Nat.min_def];split<;>omega
 have hdl:(xs.drop (i*2)).length=(n-i)*2:=by rw[List.length_drop,hxl];omega
 have HC1:Hid (∀ty dc,(Builtin.copy_ #[38, 38] ty #[.slice (some ⟨w.heap.size,i*2,none⟩) (n+1-i) dc,.slice (some ⟨vb,0,none⟩) 1 vc]).run Tryz.prog (w.drew.alloc (.cells (xs.take (i*2)++R).toArray 49))=.ok (goInt 1) ((w.drew.alloc (.cells (xs.take (i*2)++R).toArray 49)).setRow w.heap.size (splice (xs.take (i*2)++R) (i*2) vs).toArray)):=λty dc=>by have h:=yN (P:=Tryz.prog) (w.drew.alloc (.cells (xs.take (i*2)++R).toArray 49)) 38 38 ty 49 2 w.heap.size (i*2) (n+1-i) dc ⟨vb,0,none⟩ 1 vc _ 49 vs 1 ht hsz (zi w.drew _) hmin2 (by rw[hvl]) (λj v hj=>by rw[Addr.add_lit,zc (zk (show w.drew.heap[vb]? = _ from hvb))];simpa using hj) (by rw[hvl];simp;omega) h1v;rw[h];simp[splice]
 have HC2:Hid (∀ty dc sc,(Builtin.copy_ #[38, 38] ty #[.slice (some ⟨w.heap.size,(i+1)*2,none⟩) (n-i) dc,.slice (some ⟨g,i*2,none⟩) (n-i) sc]).run Tryz.prog (((w.drew.alloc (.cells (xs.take (i*2)++R).toArray 49)).setRow w.heap.size (splice (xs.take (i*2)++R) (i*2) vs).toArray).drew)=.ok (goInt (n-i:Nat)) ((((w.drew.alloc (.cells (xs.take (i*2)++R).toArray 49)).setRow w.heap.size (splice (xs.take (i*2)++R) (i*2) vs).toArray).drew).setRow w.heap.size (splice (splice (xs.take (i*2)++R) (i*2) vs) ((i+1)*2) (xs.drop (i*2))).toArray)):=λty dc sc=>by have h:=yN (P:=Tryz.prog) (((w.drew.alloc (.cells (xs.take (i*2)++R).toArray 49)).setRow w.heap.size (splice (xs.take (i*2)++R) (i*2) vs).toArray).drew) 38 38 ty 49 2 w.heap.size ((i+1)*2) (n-i) dc ⟨g,i*2,none⟩ (n-i) sc _ 49 (xs.drop (i*2)) (n-i) ht hsz (setRow_heap _ _ _ _ _ (0,0) (zi w.drew _)) hmin1 hdl (λj v hj=>by rw[List.getElem?_drop]at hj;rw[Addr.add_lit];show ((w.drew.alloc _).setRow w.heap.size _).cell? _=_;rw[zc (by rw[setRow_other _ _ _ _ (by omega:g≠w.heap.size)];exact zk (show w.drew.heap[g]? = _ from hg))];have:=hcell _ _ hj;rw[zc hg]at this;exact this) (by rw[hdl];simp[splice,hvl];omega) (λv hv=>h1c v (List.mem_of_mem_drop hv));rw[h];simp[splice]
 generalize splice (splice (xs.take (i*2)++R) (i*2) vs) ((i+1)*2) (xs.drop (i*2))=row2 at HK HC2;generalize hW1:w.drew.alloc (.cells (xs.take (i*2)++R).toArray 49)=W1 at HK HC1 HC2 hap;generalize hW2:W1.setRow w.heap.size (splice (xs.take (i*2)++R) (i*2) vs).toArray=W2 at HK HC1 HC2;generalize xi thE 49 p B (.slice (some ⟨g,0,none⟩) n cap) (l.take i++x::l.drop i) w=Po at HK⊢;clear hV hR hvb hg hx h1v h1c hW1 hW2 hcell;subst hc;have hw1:IntKind.i64.wrap ((i:Int)+1)=(i:Int)+1:=by rw[IntKind.wrap_i64];omega
 have hw2:IntKind.i64.wrap ((cap:Int)+1)=(cap:Int)+1:=by rw[IntKind.wrap_i64];omega
 have hw3:IntKind.i64.wrap ((cap:Int)+1-(i:Int))=(cap:Int)+1-(i:Int):=by rw[IntKind.wrap_i64];omega
 have hz2:¬((i:Int)=(cap:Int)):=by omega
 have hin:i<=cap:=by omega
 have htn:((i:Int)+1).toNat=i+1:=by omega
 have hb1:(0:Int)<=(i:Int)+1:=by omega
 have hb2:¬(c2=i+1):=by omega
 have hb3:(i:Int)<=(cap:Int)+1:=by omega
 have hb4:¬(c2=i):=by omega
 have hb5:¬(cap=i):=by omega
 have hb6:((cap:Int)<(cap:Int)+1):=by omega
 have mixed : Tryz.prog.follows .mixedOrders=true:=by kernel_rfl
 have hcp1:=HC1.out;have hcp2:=HC2.out;go_enter Tryz.func52, Tryz.ntmps52;go_wp2_with (at_builtin;first|(refine Lib.wpList_append_run _ rfl _ _ _ _ rfl _ _ rfl rfl _ _ (hap _) ?_)|(refine wpList_copy_runI _ rfl _ _ 38 38 rfl _ _ rfl rfl (hcp1 _ _) ?_));go_region_law_o (refine step_copy_runI rfl _ _ 38 38 rfl _ _ (by simp[Act.eval,Act.put]) (by simp[Act.eval,Act.put]) (hcp2 _ _ _) ?_);go_wp2_with fail;exact HK.out
theorem zcv (p:Nat->Bool) (B i:Nat) (v:Value) (l:List _) (x:_) (vb vc:Nat) (vs:List Value) (w:World) (ho:thE.Own 49 p w B v l) (hi:i<=l.length)
 (hR:thE.R (World.hide w (hid p v)) x vs) (hvb:w.heap[vb]? = some (.cells vs.toArray 49 (0,0))) (hp:p vb=false) (hne:v.ownBlock≠some vb) (hvc:1<=vc) (hB:B<=w.heap.size) (hn:l.length<=100000000) :
 Calls Tryz.prog 52 #[v,.int .i64 i,.slice (some ⟨vb,0,none⟩) 1 vc] w (xi thE 49 p B v (l.take i++x::l.drop i) w):=by
 by_cases h:i=l.length
 ·subst h;rw[List.take_of_length_le (Nat.le_refl _),List.drop_eq_nil_of_le (Nat.le_refl _)];refine zcw p B v l x vb vc vs w ho ((Enc.Vals.one hR).in (λj u hj=>?_) (by simp) (by simpa using hvc)) hB hn;rw[Nat.zero_add];refine zy.2 ⟨?_,?_⟩
  ·cases hq:hid p v vb with
   |false=>rfl
   |true=>exact absurd (ze.1 hq) (by simp[hp,hne])
  ·rw[zc hvb];simpa using hj
 ·obtain⟨xs,⟨h1,h2⟩,hV⟩:=ho;rcases h2 with ⟨rfl,h0⟩|⟨g,cap,cur,rfl,hBg,hg,hnc,hm,hz,hx⟩
  ·omega
  ·have hz':cur.size=cap*2:=hz;have hx':cur.toList.take (l.length*2)=xs:=hx;by_cases hc:l.length+1<=cap
   ·exact zbF p B g l.length cap i l xs cur x vb vc vs w hV rfl hBg hg hc hm hz' hx' (by omega) hR hvb (λe=>hne (by rw[e];rfl))
   ·exact zbE p B g l.length cap i l xs cur x vb vc vs w hV rfl hB hg (by omega) hn hx' (by omega) hR hvb
theorem ziw (x:Sg) (nm:ByteArray) (w:World):Calls Tryz.prog 111 #[.agg #[.string x.1,.int .i64 x.2],.string nm] w λe w'=>e=.returned (.int .i64 (Zj x.1 nm))/\Below w.heap.size w w':=by have HS:Hid (∀W,Calls Tryz.prog 112 #[.string x.1,.string nm] W λe w'=>e=.returned (.int .i64 (Zj x.1 nm))/\w'=W):=λW=>Tryz.strings_Compare x.1 nm W;generalize Zj x.1 nm=c at HS⊢;go_enter Tryz.func111, Tryz.ntmps111;go_wp2_with (go_at_call 112;refine(HS.out _).mono ?_;rintro e w1 ⟨rfl,rfl⟩);first|exact⟨rfl,bel⟩|(go_ret;exact⟨rfl,bel⟩)
theorem zlb (l:List Sg) (nm:ByteArray):bsP (λx:Sg=>Zj x.1 nm) l=za3 l nm:=rfl
theorem ziT {l:List Sg} {nm:ByteArray} (h:zbm l):∀i j (hi:i<l.length) (hj:j<l.length),i<=j->Zj (l[j]'hj).1 nm<0->Zj (l[i]'hi).1 nm<0:=λi j hi hj hij h2=>by
 by_cases e:i=j
 ·subst e;exact h2
 ·exact XQ.trans _ _ _ (List.pairwise_iff_getElem.1 h i j hi hj (by omega)) h2
theorem ziZ {l:List Sg} {nm:ByteArray} {v:Int} (h:zbm l):(bsF (λx:Sg=>Zj x.1 nm) l=true->za3 l nm<l.length/\Z4 l nm v=l.set (za3 l nm) (nm,v)/\(l[za3 l nm]?).map Prod.fst=some nm)/\(bsF (λx:Sg=>Zj x.1 nm) l=false->Z4 l nm v=l.take (za3 l nm)++(nm,v)::l.drop (za3 l nm)):=by
 unfold bsF;rw[zlb,zlI h];cases hx:l[za3 l nm]? with
 |none=>simp
 |some x =>obtain⟨hlt,_⟩:=List.getElem?_eq_some_iff.1 hx;have e:=XQ.zero x.1 nm;simp only[decide_eq_true_eq,decide_eq_false_iff_not,Option.map_some,Option.some.injEq];exact⟨λh0=>⟨hlt,by rw[if_pos (e.1 h0)],e.1 h0⟩,λh0=>by rw[if_neg (λh1=>h0 (e.2 h1))]⟩
theorem zf7 {W W':World} {l:List Sg} {xs:List Value} {k:Nat} {nm:ByteArray} {v:Int} (h:sgE.Vals W l xs) (hk:(l[k]?).map Prod.fst=some nm):sgE.Vals W' (l.set k (nm,v)) (xs.set (k*2+1) (.int .i64 v)):=by
 refine⟨by rw[List.length_set,List.length_set];exact h.1,λi hi0=>?_⟩;have hi:i<l.length:=by rwa [List.length_set]at hi0
 obtain⟨vs,h1,h2⟩:=h.2 i hi;obtain rfl:vs=[.string (l[i]'hi).1,.int .i64 (l[i]'hi).2]:=h1;have hx:=h.1;have hx2:xs.length=l.length*2:=hx;by_cases hik:i=k
 ·subst hik;rw[List.getElem?_eq_getElem (l:=l) hi]at hk;have hnm:(l[i]'hi).1=nm:=by simpa using hk
  refine⟨[.string nm,.int .i64 v],by rw[List.getElem_set_self];rfl,λj u hj=>?_⟩
  match j with
  |0 =>have:=h2 0 _ rfl;rw[hnm]at this;simp at hj;subst hj;show (xs.set _ _)[i*2+0]? = _;rw[List.getElem?_set_ne (by omega)];exact this
  |1 =>simp at hj;subst hj;show (xs.set _ _)[i*2+1]? = _;rw[List.getElem?_set_self (by omega)]
  |j+2=>simp at hj
 ·refine⟨_,by rw[List.getElem_set_ne (by omega)];rfl,λj u hj=>?_⟩;have h3:=h2 j u hj;have hj2:=(List.getElem?_eq_some_iff.1 hj).1;simp at hj2;show (xs.set _ _)[i*2+j]? = _;rw[List.getElem?_set_ne (by omega)];exact h3
theorem zhI {t:TypeId} {p:Nat->Bool} {W:World} {B k:Nat} {v:Value} {l:List Sg} {nm:ByteArray} {x:Int} (h:sgE.Own t p W B v l) (hk:(l[k]?).map Prod.fst=some nm) (hlt:k<l.length) :
 ∃g cap,v=.slice (some ⟨g,0,none⟩) l.length cap/\l.length<=cap/\B<=g/\g<W.heap.size/\(∃u,W.cell? ⟨g,k*2+1,none⟩=some u)/\W.frozen? ⟨g,k*2+1,none⟩=false/\sgE.Own t p (W.setCell ⟨g,k*2+1,none⟩ (.int .i64 x)) B v (l.set k (nm,x)):=by
 obtain⟨xs,h1,h2⟩:=h;have hx:xs.length=l.length*2:=h2.1;obtain⟨hc,h3⟩:=id h1;rcases h3 with ⟨rfl,h0⟩|⟨g,cap,cur,rfl,hBg,hg,hnc,hm,hz,htk⟩
 ·omega
 ·refine⟨g,cap,rfl,hnc,hBg,(Array.getElem?_eq_some_iff.1 hg).1,⟨xs[k*2+1]'(by omega),?_⟩,h1.frozenAt _,xs.set (k*2+1) (.int .i64 x),?_,?_⟩
  ·have:=h1.cellAt (k*2+1) (by show _<_*2;omega);rw[this];exact List.getElem?_eq_getElem _
  ·have:=(h1.stored (k*2+1) (.int .i64 x)).1;rwa [List.length_set]
  ·exact zf7 h2 hk
def Xa (p:Nat->Bool) (r:List Sg) (w:World) (e:Ending) (w':World):Prop:=(∃v',e=.returned v'/\sgE.Own 78 p w' w.heap.size v' r)/\Below w.heap.size w w'
theorem ze3 (p:Nat->Bool) (l:List Sg) (a:Option Addr) (c:Nat) (nm:ByteArray) (v:Int) (w:World) (h:sgE.In (World.hide w p) l a c) (hp:∀j,p j=true->j<w.heap.size) (ha:zbm l) (hl:l.length<=100000) :
 Calls Tryz.prog 56 #[.slice a l.length c,.string nm,.int .i64 v] w (Xa p (Z4 l nm v) w):=by
 have HB:Hid (Calls Tryz.prog 110 #[.slice a l.length c,.string nm,.func (.func 111) #[] #[]] w (Y6 (λx:Sg=>Zj x.1 nm) l w)) :=
  zbp _ (λ_ _=>by kernel_rfl) (.string nm) (λx:Sg=>Zj x.1 nm) (λ_=>True) (λW x vs _ hx=>by obtain rfl:vs=_:=hx;exact ziw x nm W) (λ_ _ _ _=>trivial) l a c w (h.keep zb) trivial (ziT ha)
 have HC:Hid (∀W,Below w.heap.size w W->Calls Tryz.prog 61 #[.slice a l.length c] W (yS sgE 78 p l W)):=λW hW=>zdo p l a c W (h.keep (zg hW λ_ _ h=>h));have HP:=Lib.hid hp;obtain⟨hf1,hf2⟩:=ziZ (nm:=nm) (v:=v) ha;have HF1:=Lib.hid hf1;have HF2:=Lib.hid hf2;have hpl:=zlE l nm;have HB1:Hid (Calls Tryz.prog 110 #[.slice a l.length c,.string nm,.func (.func 111) #[] #[]] w λe w'=>e=.returned (.tuple #[.int .i64 (za3 l nm:Nat),.bool (bsF (λx:Sg=>Zj x.1 nm) l)])/\Below w.heap.size w w'):=HB.out;have HPo:Hid (∀v' W,sgE.Own 78 p W w.heap.size v' (Z4 l nm v)->Below w.heap.size w W->Xa p (Z4 l nm v) w (.returned v') W):=λv' W h1 h2=>⟨⟨v',rfl,h1⟩,h2⟩;generalize Xa p (Z4 l nm v) w=Po at HPo⊢;generalize bsF (λx:Sg=>Zj x.1 nm) l=fd at HB1 HF1 HF2;generalize za3 l nm=ps at HB1 HF1 HF2 hpl;generalize Z4 l nm v=R at HF1 HF2 HPo;clear hf1 hf2 HB h hp ha;have hpc:(0:Int)<=ps:=by omega
 cases fd with
 |true =>
  obtain⟨hlt,hR,hnm⟩:=HF1.out rfl;subst hR;have HN:=Lib.hid hnm;clear HF1 HF2 hnm;have hltI:(ps:Int)<l.length:=by omega
  go_enter Tryz.func56, Tryz.ntmps56;go_wp2_with fail;refine HB1.out.mono ?_;rintro e w1 ⟨rfl,hb1⟩;have HB1':=Lib.hid hb1;clear hb1 HB1;go_wp2_with fail;refine(HC.out _ HB1'.out).mono ?_;rintro e w2 ⟨⟨v',rfl,ho⟩,hb2⟩;have HB2:Hid (Below w.heap.size w w2):=HB1'.out.trans (hb2.mono HB1'.out.size);have ho2:sgE.Own 78 p w2 w.heap.size v' l:=Yj ho HB1'.out.size;obtain⟨g,cap,rfl,hcap,hg1,hg2,⟨u,hu⟩,hfz,hos⟩:=zhI (x:=v) ho2 HN.out hlt;have HO:=Lib.hid hos;clear hb2 ho ho2 hos;go_wp2_with fail;have HE:=Lib.hid (HPo.out _ _ HO.out (HB2.out.setCell hg1 _));first|exact HE.out|(go_ret;exact HE.out)
 |false =>
  have hR:=HF2.out rfl;subst hR;clear HF1 HF2;go_enter Tryz.func56, Tryz.ntmps56;go_wp2_with fail;refine HB1.out.mono ?_;rintro e w1 ⟨rfl,hb1⟩;have HB1':=Lib.hid hb1;clear hb1 HB1;go_wp2_with fail;refine(HC.out _ HB1'.out).mono ?_;rintro e w2 ⟨⟨v',rfl,ho⟩,hb2⟩;have HB2:Hid (Below w.heap.size w w2):=HB1'.out.trans (hb2.mono HB1'.out.size);have ho2:sgE.Own 78 p w2 w.heap.size v' l:=Yj ho HB1'.out.size;have hvlt:∀j,v'.ownBlock=some j->w.heap.size<=j/\j<w2.heap.size:=zl ho2
  have HI:=Lib.hid (zct p w.heap.size ps v' l (nm,v) w2.heap.size 1 [.string nm,.int .i64 v] (w2.alloc (.cells #[.string nm,.int .i64 v] 78)) (ho2.below ((Below.refl _ _).alloc (Nat.le_refl _) _)) hpl rfl (zi w2 _)
   (by
    cases hq:p w2.heap.size with
    |false=>rfl
    |true=>have:=HP.out _ hq;have:=HB2.out.size;omega) (λe=>by have:=(hvlt _ e).2;omega) (by omega) (by have:=HB2.out.size;simp;omega) (by omega))
  have HV:=Lib.hid hvlt;clear hb2 ho ho2 hvlt;go_wp2_with (go_at_call 113;go_must (refine HI.out.mono ?_;rintro e w3 ⟨v3,rfl,ho3,hg3,hat3⟩;have HO3:=Lib.hid ho3;have HG3:=Lib.hid hg3;clear ho3 hg3 hat3));have HE:=Lib.hid (HPo.out _ _ HO3.out (Yv (HB2.out.alloc HB2.out.size _) HG3.out (by have:=HB2.out.size;simp;omega) λk hk=>(HV.out k hk).1));first|exact HE.out|(go_ret;exact HE.out)
theorem zaZ (op n:Int) (s:ByteArray) (args:List Ex) (a:Option Addr) (cap bo oc:Nat) (ops:List Int) (w:World) (hE:yY w (.mk op n s args) a cap) (hn:(Ex.mk op n s args).nodes.length<=1073741824)
 (B:Nat) (w0:World) (hw0:B=w0.heap.size) (hW:Below B w0 w) (hbB:B<=bo) (hbo:w.heap[bo]? = some (.cells (ops.map (Value.int .i64)).toArray 3 (0,0))) (hol:0<ops.length/\ops.length<=1000) (hE0:yY w0 (.mk op n s args) a cap) :
 Calls Tryz.prog 219 #[.agg #[.int .i64 op,.int .i64 n,.string s,.slice a args.length cap],.slice (some ⟨bo,0,none⟩) ops.length oc] w λe w' =>
  (∃a' cap',e=.returned (.slice a' (zG ops (.mk op n s args)).length cap')/\zE w' (zG ops (.mk op n s args)) a' cap'/\∀p:Addr,a'=some p->B<=p.block)/\Below B w0 w':=by
 subst hw0;have hB:Below w.heap.size w (((w.alloc (.cells #[.int .i64 op,.int .i64 n,.string s,.slice a args.length cap] 24)).alloc (.cells #[.slice (some ⟨bo,0,none⟩) ops.length oc] 31)).alloc (.cells #[.slice none 0 0] 51)):=bel;have hws:=hW.size
 have hC:=ze1 (w.heap.size+1) (w.heap.size+1+1) (zgg w0.heap.size (w.heap.size+1) (w.heap.size+1+1) bo oc ops) List.length (zii ops) w0 (λst e=>qT ops st e) zgg.keep (zkR w0 _ _ bo oc ops hol) op n s args [] a cap _ (by simpa using hn)
  ⟨⟨by omega,by omega,hbB⟩,⟨_,zq _ _ _ (by simp),World.ownsRow_nil _ _ _ _⟩,by rw[Below.heap_alloc _ _ _ (by simp)];exact zq _ _ _ (by simp),by rw[hB.block _ (lt_of_block hbo)];exact hbo⟩ (hW.trans (hB.mono hws)) hE0
 rw[runN]at hC;have HB:=Lib.hid hB;have HC:=Lib.hid hC;have HW:=Lib.hid hW;have Hn:=Lib.hid hn;have Hws:=Lib.hid hws;clear hC hB hE hn hW hbo hE0 hbB hws;go_enter Tryz.func219, Tryz.ntmps219;go_wp2_with fail;refine HC.out.mono ?_;rintro e w2 ⟨rfl,hI2,hK2⟩;obtain⟨_,⟨v,hv,hown⟩,_⟩:=hI2;have c0:=cell_of_one hv;have HK2:=Lib.hid hK2;have HO:=Lib.hid hown;clear hK2 hv hown;go_wp2_with fail;go_ret;have hlt:=HO.out.lt;obtain⟨a',cap',rfl,hs⟩:=xz HO.out (by have:=Zx ops (Ex.mk op n s args).nodes [];have:=Hn.out;simp at *;omega);exact⟨⟨a',cap',rfl,hs,λp hp=>(hlt p.block (by rw[hp];rfl)).1⟩,HW.out.trans ((HB.out.mono Hws.out).trans (HK2.out.below (by have:=HB.out.size;have:=Hws.out;omega)))⟩
theorem ze8 (op n:Int) (s:ByteArray) (args:List Ex) (a:Option Addr) (cap:Nat) (w:World) (hE:yY w (.mk op n s args) a cap) (hn:(Ex.mk op n s args).nodes.length<=1073741824) :
 Calls Tryz.prog 160 #[.agg #[.int .i64 op,.int .i64 n,.string s,.slice a args.length cap]] w λe w' =>
  (∃a' cap',e=.returned (.slice a' (zG [2] (.mk op n s args)).length cap')/\zE w' (zG [2] (.mk op n s args)) a' cap'/\∀p:Addr,a'=some p->w.heap.size<=p.block)/\Below w.heap.size w w':=by
 have hB:Below w.heap.size w ((w.alloc (.cells #[.int .i64 op,.int .i64 n,.string s,.slice a args.length cap] 24)).alloc (.cells (([2]:List Int).map (Value.int .i64)).toArray 3)):=bel;have hC:=zaZ op n s args a cap (w.heap.size+1) ([2]:List Int).length [2] _ (hE.keep (za hB)) hn _ w rfl hB (by omega) (zq _ _ _ (by simp)) (by decide) hE;have HC:=Lib.hid hC;clear hC hB hE hn;go_enter Tryz.func160, Tryz.ntmps160;go_wp2_with fail;refine HC.out.mono ?_;rintro e w2 ⟨⟨a',cap',rfl,hs,hf⟩,hb⟩;have HS:=Lib.hid (⟨hs,hb,hf⟩:_/\_/\_);clear hs hb hf;go_wp2_with fail;go_ret;exact⟨⟨a',cap',rfl,HS.out.1,HS.out.2.2⟩,HS.out.2.1⟩
theorem zc9 (op n:Int) (s:ByteArray) (args:List Ex) (a:Option Addr) (cap:Nat) (w:World) (hE:yY w (.mk op n s args) a cap) (hn:(Ex.mk op n s args).nodes.length<=1073741824) :
 Calls Tryz.prog 161 #[.agg #[.int .i64 op,.int .i64 n,.string s,.slice a args.length cap]] w λe w' =>
  (∃a' cap',e=.returned (.slice a' (zG [3,24] (.mk op n s args)).length cap')/\zE w' (zG [3,24] (.mk op n s args)) a' cap'/\∀p:Addr,a'=some p->w.heap.size<=p.block)/\Below w.heap.size w w':=by
 have hB:Below w.heap.size w ((w.alloc (.cells #[.int .i64 op,.int .i64 n,.string s,.slice a args.length cap] 24)).alloc (.cells (([3,24]:List Int).map (Value.int .i64)).toArray 3)):=bel;have hC:=zaZ op n s args a cap (w.heap.size+1) ([3,24]:List Int).length [3,24] _ (hE.keep (za hB)) hn _ w rfl hB (by omega) (zq _ _ _ (by simp)) (by decide) hE;have HC:=Lib.hid hC;clear hC hB hE hn;go_enter Tryz.func161, Tryz.ntmps161;go_wp2_with fail;refine HC.out.mono ?_;rintro e w2 ⟨⟨a',cap',rfl,hs,hf⟩,hb⟩;have HS:=Lib.hid (⟨hs,hb,hf⟩:_/\_/\_);clear hs hb hf;go_wp2_with fail;go_ret;exact⟨⟨a',cap',rfl,HS.out.1,HS.out.2.2⟩,HS.out.2.1⟩
end Go.Proofs.YthojpomoflhbcaaGreatDoor
