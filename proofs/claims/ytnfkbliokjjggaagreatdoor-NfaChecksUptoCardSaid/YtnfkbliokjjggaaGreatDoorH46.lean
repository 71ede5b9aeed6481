/- ref41: Trim. -/
import Derived.Test.YtnfkbliokjjggaaGreatDoorH19
import Derived.Test.YtnfkbliokjjggaaGreatDoorH42
import Derived.Test.YtnfkbliokjjggaaGreatDoorH45
import Derived.Test.YtnfkbliokjjggaaGreatDoorH33
import Derived.Deep.CutRange
set_option maxHeartbeats 32000000
set_option maxRecDepth 100000
set_option linter.unusedSimpArgs false
set_option linter.unusedVariables false
set_option linter.unnecessarySimpa false
namespace Go.Proofs.YtnfkbliokjjggaaGreatDoor
open Go.RowKit
attribute [local go_sem ↓] Go.wp_at_zero Go.wp_at_succ
def Y2 (w:World) (b:Nat) (l:List Int):Prop:=w.heap[b]? = some (.cells (l.map λz=>Value.int .i64 z).toArray 3 (0,0))
theorem Y2.cell {w:World} {b:Nat} {l:List Int} (h:Y2 w b l) {i:Nat} (hi:i<l.length):w.cell? ⟨b,i,none⟩=some (.int .i64 (l.getD i 0)):=by unfold Y2 at h;rw[zb h,List.getElem?_toArray,List.getElem?_map,List.getElem?_eq_getElem hi,List.getD_eq_getElem?_getD,List.getElem?_eq_getElem hi];rfl
theorem Y2.free {w:World} {b:Nat} {l:List Int} (h:Y2 w b l) (i:Nat):w.frozen? ⟨b,i,none⟩=false:=by unfold Y2 at h;simp[World.frozen?,h]
theorem Y2.set {w:World} {b:Nat} {l:List Int} (h:Y2 w b l) (i:Nat) (z:Int):Y2 (w.setCell ⟨b,i,none⟩ (.int .i64 z)) b (l.set i z):=by unfold Y2 at h⊢;rw[heap_setCell_same w b i _ _ _ h];congr 2;apply Array.ext';simp[List.map_set]
theorem Y2.below {w w':World} {b:Nat} {l:List Int} (h:Y2 w b l) (hb:Below w.heap.size w w'):Y2 w' b l:=(hb.block _ (lt_of_block h)).trans h
theorem Y2.other {w:World} {b k o:Nat} {l:List Int} {v:Value} (h:Y2 w b l) (hne:b≠k):Y2 (w.setCell ⟨k,o,none⟩ v) b l:=(Below.heap_setCell _ _ _ _ hne).trans h
theorem zjU (n:Nat) (h:n<=1073741824) (w:World):(Instr.makeSlice 31 (.int .i64 n) (.int .i64 n)).run Tryz.prog w=.ok (.slice (some ⟨w.heap.size,0,none⟩) n n) (w.alloc (.cells (Array.replicate n (.int .i64 0)) 3)):=by obtain⟨i,h1,h2,h3,h4⟩:=info_parts (show (Tryz.prog.info? 3).map (λi=>(i.zero,i.size,i.bytes))=some (some (.int .i64 0),1,8) from by kernel_rfl);have:=run_make (P:=Tryz.prog) w 31 3 i _ Tryz.underlying31 h1 h2 .i64 .i64 n n (by omega) (by omega) (by rw[h4];omega) (by omega);rw[this,h3,show (Value.int .i64 0).cells=#[Value.int .i64 0] from rfl,Int.toNat_natCast,Nat.mul_one,←List.toArray_replicate,←toList_madeCells_one]
def zab (a b:List Bool) (st k:Nat):List Int:=(List.range st).map λs=>if s<k then (if yd a b s then (yp a b s:Int) else -1) else 0
theorem Yj (a b:List Bool) (st k:Nat):(zab a b st k).length=st:=by simp[zab]
theorem zfi (a b:List Bool) (st:Nat):zab a b st 0=List.replicate st 0:=by unfold zab;apply List.ext_getElem (by simp);intro i h1 h2;simp
theorem zik (a b:List Bool) {st s:Nat} (h:s<st):(zab a b st st).getD s 0=if yd a b s then (yp a b s:Int) else -1:=by unfold zab;rw[List.getD_eq_getElem?_getD,List.getElem?_map,List.getElem?_range h];simp[h]
theorem zcz (a b:List Bool) (st k:Nat) {i:Nat} (h:i<(zab a b st k).length):(zab a b st k)[i]'h=if i<k then (if yd a b i then (yp a b i:Int) else -1) else 0:=by simp[zab]
theorem zfh (a b:List Bool) {st k:Nat} (h:k<st):zab a b st (k+1)=(zab a b st k).set k (if yd a b k then (yp a b k:Int) else -1):=by
 apply List.ext_getElem (by rw[List.length_set,Yj,Yj]);intro i h1 h2;rw[List.getElem_set,zcz];by_cases e:k=i
 ·subst e;rw[if_pos rfl,if_pos (by omega)]
 ·rw[if_neg e,zcz];by_cases h3:i<k
  ·rw[if_pos h3,if_pos (by omega)]
  ·rw[if_neg h3,if_neg (by omega)]
theorem zgq (a b:List Bool) (e:zk):Zd a b e=(a.getD e.fr.toNat false&&b.getD e.fr.toNat false&&a.getD e.to.toNat false&&b.getD e.to.toNat false):=rfl
theorem Qp {a b:List Bool} {e:zk} (h:Zd a b e=true):yd a b e.fr.toNat=true/\yd a b e.to.toNat=true:=by rw[zgq]at h;simp only[Bool.and_eq_true]at h;obtain⟨⟨⟨h1,h2⟩,h3⟩,h4⟩:=h;unfold yd;rw[h1,h2,h3,h4];simp
theorem zhu {u W:World} {b:Nat} {o:Obj} {row:Option Nat} (h:u.heap[b]? = some o) (hg:u.grownBy W row) (hn:some b≠row):W.heap[b]? = some o:=(hg.block _ (lt_of_block h) hn).trans h
structure TrQ (wc:World) (NL:List Int) (z:Int) (wr:World):Prop where
 nr:Y2 wr wc.heap.size NL
 box:wr.heap[wc.heap.size+1]? = some (xW z (.slice none 0 0) (.slice none 0 0))
 bel:Below wc.heap.size wc wr
theorem TrQ.setN {wc:World} {NL:List Int} {z:Int} {wr:World} (h:TrQ wc NL z wr) (i:Nat) (v:Int):TrQ wc (NL.set i v) z (wr.setCell ⟨wc.heap.size,i,none⟩ (.int .i64 v)) :=
 ⟨h.nr.set i v,(Below.heap_setCell _ _ _ _ (by simp)).trans h.box,h.bel.setCell (Nat.le_refl _) _⟩
theorem TrQ.setZ {wc:World} {NL:List Int} {z:Int} {wr:World} (h:TrQ wc NL z wr) (v:Int):TrQ wc NL v (wr.setCell ⟨wc.heap.size+1,0,none⟩ (.int .i64 v)) :=
 ⟨h.nr.other (by simp),heap_setCell_same _ _ 0 _ _ (.int .i64 v) h.box,h.bel.setCell (by simp) _⟩
theorem zfv (p:Nat->Bool) (n:zt) (x:qn) (w:World) (hx:yb (World.hide w p) n x) (hp:∀j,p j=true->j<w.heap.size) (hs:qq n) :
 Calls Tryz.prog 19 #[ye n x] w (zas p (trimS n) w):=by
 have HV:=Lib.hid λW (hW:Below w.heap.size w W)=>ZM n x W ((hx.keep zc).keep (za hW)) hs;have HXI:=Lib.hid hx;have HXE:=Lib.hid hx.es;have HXC:=Lib.hid hx.ac;have hel:=hx.es.len;have hal:=hx.ac.2.1;have HEA:Hid (n.edges.length=0\/∃b off,x.ae=some ⟨b,off,none⟩):=hx.es.addr;have HCA:Hid (n.accept.length=0\/∃b off,x.aa=some ⟨b,off,none⟩):=zw.addr hx.ac;have Hp:=Lib.hid hp;have HNo:Hid (zC n=false->∀W,Below w.heap.size w W->zas p (trimS n) w (.returned (.agg #[.int .i64 0,.slice none 0 0,.slice none 0 0])) W):=λh W hb=>by unfold trimS;rw[h];exact⟨⟨⟨none,0,none,0⟩,rfl,⟨Enc.In.nil _,⟨Nat.le_refl _,by simp,Or.inl rfl⟩⟩⟩,hb⟩
 have HYes:Hid (zC n=true->∀W (y:qn),yb (World.hide W p) (y7 n (yl n) (zX n)) y->Below w.heap.size w W->zas p (trimS n) w (.returned (.agg #[.int .i64 (y7 n (yl n) (zX n)).states,.slice y.ae (y7 n (yl n) (zX n)).edges.length y.ce,.slice y.aa (y7 n (yl n) (zX n)).accept.length y.ca])) W):=λh W y h1 hb=>by unfold trimS;rw[if_pos h];exact⟨⟨y,rfl,h1⟩,hb⟩
 generalize zas p (trimS n) w=Po at HNo HYes⊢;clear hx hp hs;unfold yW at HV;simp only[zz]at HV⊢;obtain⟨xae,xce,xaa,xca⟩:=x;simp only at HXE HXC HXI hel hal HEA HCA HV⊢;go_enter Tryz.func19, Tryz.ntmps19;go_upto_region 1 with fail;generalize hW2:World.alloc (World.alloc w _) _=W2;have HB2:Hid (Below w.heap.size w W2):=by show Below _ _ _;rw[←hW2];exact((Below.refl _ _).alloc (Nat.le_refl _) _).alloc (by simp) _
 have HX2:Hid (W2.heap[w.heap.size]? = some (xW n.states (.slice xae n.edges.length xce) (.slice xaa n.accept.length xca))):=by show _=_;rw[←hW2];exact zl (zh rfl)
 have HY2:Hid (W2.heap[w.heap.size+1]? = some (xW 0 (.slice none 0 0) (.slice none 0 0))):=by show _=_;rw[←hW2];exact zh (by simp)
 have hz2:w.heap.size+2<=W2.heap.size:=by rw[←hW2];simp
 clear hW2;obtain⟨b0,b1,b2⟩:=zo HX2.out;go_wp2_with fail;refine(HV.out _ HB2.out).mono ?_;rintro e w3 ⟨rfl,hb3⟩;have HB3:Hid (Below w.heap.size w w3):=HB2.out.trans (hb3.mono HB2.out.size);have HX3:Hid (w3.heap[w.heap.size]? = some (xW n.states (.slice xae n.edges.length xce) (.slice xaa n.accept.length xca))):=(hb3.block _ (by omega)).trans HX2.out;have HY3:Hid (w3.heap[w.heap.size+1]? = some (xW 0 (.slice none 0 0) (.slice none 0 0))):=(hb3.block _ (by omega)).trans HY2.out;have hz3:w.heap.size+2<=w3.heap.size:=by have:=hb3.size;omega
 clear hb3 HX2 HY2 HB2 HV b0 b1 b2 hz2;cases hok:zC n with
 |false =>
  have HN:=Lib.hid (HNo.out hok);have hy:=HY3.out;obtain⟨r0,r1,r2⟩:=zo hy;have r0f:w3.frozen? ⟨w.heap.size+1,0,none⟩=false:=by simp[World.frozen?,hy,xW]
  have r1f:w3.frozen? ⟨w.heap.size+1,1,none⟩=false:=by simp[World.frozen?,hy,xW]
  have r2f:w3.frozen? ⟨w.heap.size+1,2,none⟩=false:=by simp[World.frozen?,hy,xW]
  clear hy HYes HNo hok;go_wp2_with fail;refine bodyPost_ret (v:=.agg #[.int .i64 0,.slice none 0 0,.slice none 0 0]) (ze9 _ 2 rfl _ _ (w.heap.size+1) _ _ _ (zdQ HY3.out) rfl) rfl ?_;exact HN.out _ (((HB3.out.setCell (by simp) _).setCell (by simp) _).setCell (by simp) _)
 |true =>
  have HY:=Lib.hid (HYes.out hok);have hst:=(zA.1 hok).1;obtain⟨st,hste⟩:=Int.eq_ofNat_of_zero_le (show 0<=n.states by omega);have hst1:1<=st:=by omega
  have hst2:st<=256:=by omega
  have hel2:n.edges.length<=4096:=hst.2.2;have HEd:Hid (∀e∈n.edges,(0<=e.fr/\e.fr<(st:Int))/\0<=e.to/\e.to<(st:Int)):=λe he=>by have:=(zZ.1 ((zA.1 hok).2.1 e he)).1;omega
  have HAc:Hid (∀a∈n.accept,0<=a/\a<(st:Int)):=λa ha=>by have:=((Z4.1 (zA.1 hok).2.2).1 a ha);omega
  have HSt:=Lib.hid hste;have hx3:=HX3.out;rw[hste]at hx3;have HX3':=Lib.hid hx3;have HRe:Hid (∀(bk:Bool) (fr:List Int) (fa:Option Addr) (fc:Nat) W,Below w3.heap.size w3 W->IntsIn W fr fa fc->(∀x∈fr,0<=x/\x<(st:Int))->Calls Tryz.prog 50 #[.agg #[.int .i64 st,.slice xae n.edges.length xce,.slice xaa n.accept.length xca],.slice fa fr.length fc,.bool bk] W λe w'=>∃bA,e=.returned (.slice (some ⟨bA,0,none⟩) st st)/\w3.heap.size<=bA/\xx w' bA (yT (XX n bk) (YC st (fr.map Int.toNat)))/\Below W.heap.size W w'/\Below w3.heap.size w3 w'):=λbk fr fa fc W hW hf hb=>by have h:=za9 bk st hst2 n ⟨xae,xce,xaa,xca⟩ hste fr fa fc W ((HXI.out.keep zc).keep (za (HB3.out.trans (hW.mono HB3.out.size)))) HEd.out hf hb;rw[zz,hste]at h;refine h.mono ?_;rintro e w' ⟨rfl,h1,h2⟩;exact⟨_,rfl,by have:=hW.size;omega,h1,h2,hW.trans (h2.mono hW.size)⟩
  obtain⟨A,hA⟩:∃A,yl n=A:=⟨_,rfl⟩;obtain⟨Z,hZ⟩:∃Z,zX n=Z:=⟨_,rfl⟩;have HAl:Hid (A.length=st/\Z.length=st):=by rw[←hA,←hZ,zau,Qf,hste,Int.toNat_natCast];exact⟨rfl,rfl⟩
  rw[hA,hZ]at HY;have HRe1:Hid (∀W (k:Nat),Below w3.heap.size w3 W->W.cell? ⟨k,0,none⟩=some (.int .i64 0)->Calls Tryz.prog 50 #[.agg #[.int .i64 st,.slice xae n.edges.length xce,.slice xaa n.accept.length xca],.slice (some ⟨k,0,none⟩) 1 1,.bool false] W λe w'=>∃bA,e=.returned (.slice (some ⟨bA,0,none⟩) st st)/\w3.heap.size<=bA/\xx w' bA A/\Below W.heap.size W w'/\Below w3.heap.size w3 w'):=λW k hW hc=>by
   have h:=HRe.out false [0] (some ⟨k,0,none⟩) 1 W hW ⟨Nat.le_refl _,by simp,Or.inr ⟨k,0,rfl,λi hi=>by
    have hi0:i=0:=by simpa using hi
    subst hi0;exact⟨0,rfl,hc⟩⟩⟩ (λx hx=>by obtain rfl:=List.mem_singleton.1 hx;omega)
   have e:yT (XX n false) (YC st ([(0:Int)].map Int.toNat))=A:=by rw[←hA];unfold yl;rw[hste,Int.toNat_natCast];rfl
   rw[e]at h;exact h
  have HRe2:Hid (∀W,Below w3.heap.size w3 W->Calls Tryz.prog 50 #[.agg #[.int .i64 st,.slice xae n.edges.length xce,.slice xaa n.accept.length xca],.slice xaa n.accept.length xca,.bool true] W λe w'=>∃bA,e=.returned (.slice (some ⟨bA,0,none⟩) st st)/\w3.heap.size<=bA/\xx w' bA Z/\Below W.heap.size W w'/\Below w3.heap.size w3 w'):=λW hW=>by
   have h:=HRe.out true n.accept xaa xca W hW ((HXC.out.keep zc).keep (za (HB3.out.trans (hW.mono HB3.out.size)))) (λx hx=>HAc.out x hx);have e:yT (XX n true) (YC st (n.accept.map Int.toNat))=Z:=by rw[←hZ];unfold zX;rw[hste,Int.toNat_natCast];rfl
   rw[e]at h;exact h
  obtain⟨b0,b1,b2⟩:=zo HX3'.out;have HCs:Hid (∀W,Below w3.heap.size w3 W->W.cell? ⟨w.heap.size,0,none⟩=some (.int .i64 st)/\W.cell? ⟨w.heap.size,1,none⟩=some (.slice xae n.edges.length xce)/\W.cell? ⟨w.heap.size,2,none⟩=some (.slice xaa n.accept.length xca)):=λW hW=>⟨za hW _ _ b0,za hW _ _ b1,za hW _ _ b2⟩;have B0:∀o,(w3.alloc o).cell? ⟨w.heap.size,0,none⟩=some (.int .i64 st):=λo=>Lib.cell?_alloc_some _ b0;have B1:∀o,(w3.alloc o).cell? ⟨w.heap.size,1,none⟩=some (.slice xae n.edges.length xce):=λo=>Lib.cell?_alloc_some _ b1;have B2:∀o,(w3.alloc o).cell? ⟨w.heap.size,2,none⟩=some (.slice xaa n.accept.length xca):=λo=>Lib.cell?_alloc_some _ b2;clear HYes HNo hok hst hste hx3 hA hZ HRe HX3;go_upto_region 3 with fail;go_cut [3,4] from 15 to 22 (λs7 s8 wx=>∃bA bB:Nat,s7=.slice (some ⟨bA,0,none⟩) st st/\s8=.slice (some ⟨bB,0,none⟩) st st/\Hid (xx wx bA A)/\Hid (xx wx bB Z)/\Hid (w3.heap.size<=bA/\w3.heap.size<=bB)/\Hid (Below w3.heap.size w3 wx));case first =>
   go_region_law (first
    |(go_simp;(fail_if_success (have q9:=hb1));go_at_call 50;(with_reducible refine(HRe1.out _ _ (by first|with_reducible assumption|exact zW) (by first|(simp;done)|(simp[World.cell?];done))).mono ?_);rintro e v1 ⟨bA,rfl,hbA,hrA,hb1,hB1⟩;obtain⟨j0,j1,j2⟩:=HCs.out _ hB1;have J0:=λo=>Lib.cell?_alloc_some o j0;have J1:=λo=>Lib.cell?_alloc_some o j1;have J2:=λo=>Lib.cell?_alloc_some o j2;have HRA:=Lib.hid hrA;clear hrA)
    |(go_simp;(have q9:=hb1);go_at_call 50;(with_reducible refine(HRe2.out _ (by first|with_reducible assumption|exact zW)).mono ?_);rintro e v2 ⟨bB,rfl,hbB,hrB,hb2,hB2⟩;have HRB:=Lib.hid hrB;clear hrB q9))
   all_goals
    have HRA2:Hid (xx v2 bA A):=HRA.out.below (by first|with_reducible assumption|(refine Below.trans ?_ (Below.mono hb2 ?_);· exact zW;· first|omega|(simp;omega)|simp));have HB2f:=Lib.hid hB2;go_wp2_with fail;go_meet;case rel=>exact⟨bA,bB,rfl,rfl,HRA2,HRB,⟨hbA,hbB⟩,HB2f⟩
  case rest =>
   obtain⟨bA,bB,e7,e8,HRA,HRB,HbA,HBc⟩:=hcut;subst e7 e8;clear HRe1 HRe2 HCs B0 B1 B2 b0 b1 b2;have hmk:=zjU st (by omega);have HXc:=Lib.hid ((HBc.out.block _ (lt_of_block HX3'.out)).trans HX3'.out);have HYc:=Lib.hid ((HBc.out.block _ (lt_of_block HY3.out)).trans HY3.out);have HBwc:Hid (Below w.heap.size w wc):=HB3.out.trans (HBc.out.mono (by omega));have hzc:w.heap.size+2<=wc.heap.size:=by have:=HBc.out.size;omega
   have hAlt:bA<wc.heap.size:=lt_of_block HRA.out;have hBlt:bB<wc.heap.size:=lt_of_block HRB.out;obtain⟨b0,b1,b2⟩:=zo HXc.out;go_wp2_with fail;generalize hW6:World.alloc (World.alloc wc _) _=W6;have HT0:Hid (TrQ wc (zab A Z st 0) (yp A Z 0:Nat) W6):=by
    refine⟨?_,?_,?_⟩
    ·unfold Y2;rw[←hW6,zfi,List.map_replicate,List.toArray_replicate];exact zl (zh rfl)
    ·rw[←hW6,za1];exact zh (by simp)
    ·rw[←hW6];exact((Below.refl _ _).alloc (Nat.le_refl _) _).alloc (by simp) _
   clear hW6 b0 b1 b2 hmk;go_loopw [7] (λi wr=>∃k:Nat,i=.int .i64 k/\k<=st/\Hid (TrQ wc (zab A Z st k) (yp A Z k:Nat) wr)) (λi _=>st-(intOf i).toNat);case atStart=>exact⟨0,rfl,Nat.zero_le _,HT0⟩
   case round =>
    clear HT0;obtain⟨k,rfl,hk,HT⟩:=hrel;obtain⟨b0,b1,b2⟩:=zo ((HT.out.bel.block _ (by omega)).trans HXc.out);by_cases hlt:k<st
    ·have d0:=HT.out.nr.free k;have e0:=HT.out.nr.cell (i:=k) (by rw[Yj];exact hlt);go_upto_region 10 with fail;generalize hW7:World.setCell wr _ _=W7;have HT7:Hid (TrQ wc ((zab A Z st k).set k (-1)) (yp A Z k:Nat) W7):=by show TrQ _ _ _ _;rw[←hW7];exact HT.out.setN k (-1)
     have c0:=xx.cell (w:=W7) (b:=bA) (o:=A) ((HT7.out.bel.block _ hAlt).trans HRA.out) (i:=k) (by rw[HAl.out.1];exact hlt);have c1:=xx.cell (w:=W7) (b:=bB) (o:=Z) ((HT7.out.bel.block _ hBlt).trans HRB.out) (i:=k) (by rw[HAl.out.2];exact hlt);have HKs:=Lib.hid (za0 A Z k);have HNs:=Lib.hid (zfh A Z hlt);have HKd:Hid (yd A Z k=(k==0||(A.getD k false&&Z.getD k false))):=rfl;have hnl:=XL A Z k;clear hW7 b0 b1 b2 d0 e0 HT;generalize A.getD k false=va at c0 HKd;generalize Z.getD k false=vz at c1 HKd;have hgo:((k=0\/(¬k=0/\va=true/\vz=true))/\yd A Z k=true)\/(((¬k=0/\va=true/\vz=false)\/(¬k=0/\va=false))/\yd A Z k=false):=by
      rw[HKd.out];by_cases h0:k=0
      ·subst h0;left;exact⟨Or.inl rfl,by simp⟩
      ·cases va<;>cases vz<;>simp[h0]
     clear HKd;rcases hgo with ⟨hc,hkp⟩|⟨hc,hkp⟩
     ·have HNk:Hid (yp A Z (k+1)=yp A Z k+1):=by show _=_;rw[HKs.out,if_pos hkp]
      have HNt:Hid (zab A Z st (k+1)=((zab A Z st k).set k (-1)).set k (yp A Z k:Nat)):=by show _=_;rw[HNs.out,if_pos hkp,List.set_set]
      obtain⟨d0,d1,d2⟩:=zo HT7.out.box;have df:W7.frozen? ⟨wc.heap.size+1,0,none⟩=false:=by simp[World.frozen?,HT7.out.box,xW]
      have dn:=HT7.out.nr.free k;have e0:=HT7.out.nr.cell (i:=k) (by rw[List.length_set,Yj];exact hlt);have HT9:=Lib.hid ((HT7.out.setN k (yp A Z k:Nat)).setZ ((yp A Z k:Nat)+1));clear HKs HNs hkp d1 d2 HT7;generalize yp A Z k=nk at HNk HNt d0 HT9 hnl;have HT10:Hid (TrQ wc (zab A Z st (k+1)) (yp A Z (k+1):Nat) ((W7.setCell ⟨wc.heap.size,k,none⟩ (.int .i64 nk)).setCell ⟨wc.heap.size+1,0,none⟩ (.int .i64 ((nk:Int)+1)))):=by show TrQ _ _ _ _;rw[HNk.out,HNt.out];exact HT9.out
      clear HT9;rcases hc with h0|⟨h0,h1,h2⟩
      ·subst h0;go_wp2_with fail;go_roundw;case rel=>exact⟨1,by go_num,by omega,HT10⟩
       case measure=>(simp[intOf];try omega)
      ·subst h1 h2;have h0b:((k:Int)==0)=false:=by simp;omega
       have h0c:¬((k:Int)=0):=by omega
       go_wp2_with fail;go_roundw;case rel=>exact⟨k+1,by go_num,by omega,HT10⟩
       case measure=>(simp[intOf];try omega)
     ·have HT10:Hid (TrQ wc (zab A Z st (k+1)) (yp A Z (k+1):Nat) W7):=by
       show TrQ _ _ _ _;rw[HKs.out,HNs.out,if_neg (by rw[hkp];simp),if_neg (by rw[hkp];simp),Nat.add_zero];exact HT7.out
      have h0:¬k=0:=by rcases hc with h|h<;>exact h.1
      have h0b:((k:Int)==0)=false:=by simp;omega
      have h0c:¬((k:Int)=0):=by omega
      clear HKs HNs hkp HT7;rcases hc with ⟨-,h1,h2⟩|⟨-,h1⟩
      ·subst h1 h2;go_wp2_with fail;go_roundw;case rel=>exact⟨k+1,by go_num,by omega,HT10⟩
       case measure=>(simp[intOf];try omega)
      ·subst h1;go_wp2_with fail;go_roundw;case rel=>exact⟨k+1,by go_num,by omega,HT10⟩
       case measure=>(simp[intOf];try omega)
    ·obtain rfl:st=k:=by omega
     go_wp2_with fail;generalize wr=w6 at HT⊢;clear b0 b1 b2;obtain⟨NL,hNL⟩:∃NL,zab A Z st st=NL:=⟨_,rfl⟩;have HNLl:Hid (NL.length=st):=by show _=_;rw[←hNL,Yj]
     have HNLa:Hid (∀s,s<st->NL.getD s 0=if yd A Z s then (yp A Z s:Int) else -1):=λs h=>by rw[←hNL];exact zik A Z h
     rw[hNL]at HT;clear hNL;obtain⟨KN,hKN⟩:∃KN:Int,(yp A Z st:Nat)=KN:=⟨_,rfl⟩;have HKN:=Lib.hid hKN;rw[hKN]at HT;clear hKN;obtain⟨p1,hp1⟩:∃p1:Nat->Bool,qk p (w.heap.size+1)=p1:=⟨_,rfl⟩;have HP1:Hid (∀j,p1 j=true<->p j=true\/j=w.heap.size+1):=λj=>by rw[←hp1];exact yY
     obtain⟨q,hq⟩:∃q:Nat->Bool,qk p1 (wc.heap.size+1)=q:=⟨_,rfl⟩;have hqk:q (wc.heap.size+1)=true:=by rw[←hq];exact yY.2 (Or.inr rfl)
     have HQp:Hid (∀j,p1 j=true->q j=true):=λj hj=>by rw[←hq];exact yY.2 (Or.inl hj)
     have HQ2:Hid (∀j,j<wc.heap.size->q j=true->p1 j=true):=λj hj h=>by rw[←hq]at h;exact(yY.1 h).elim id λe=>by omega
     have HPl:Hid (∀j,p1 j=true->j<wc.heap.size):=λj hj=>((HP1.out j).1 hj).elim (λh=>by have:=Hp.out j h;omega) λh=>by omega
     obtain⟨q2,hq2⟩:∃q2:Nat->Bool,hid q (.slice none 0 0)=q2:=⟨_,rfl⟩;have HH:Hid (∀j,q2 j=true<->q j=true):=λj=>by rw[←hq2];exact ze.trans ⟨λh=>h.elim id λe=>by simp[Value.ownBlock]at e,Or.inl⟩
     have HE2:=Lib.hid hq2;have HS0:Hid (NbE q2 (wc.heap.size+1) wc w6 KN [] (.slice none 0 0) (.slice none 0 0)):=NbE.mk0 (by omega) ((HH.out _).2 hqk) HT.out.box HT.out.bel;have HN0:=Lib.hid HT.out.nr;clear hp1 hq hq2 HT;have HKx:Hid (∀{W st L ve},NbE q2 (wc.heap.size+1) wc W st L ve (.slice none 0 0)->∀r,(∀j,r j=true->hid q2 ve j=true)->Kp (World.hide w p) (World.hide W r)):=λ{W st L ve} h r hr=>Kp.trans (zg (q:=p1) HBwc.out λj hj h=>((HP1.out j).1 h).elim id λe=>by omega) (Kp.trans (h.kp λj hj h2=>HQ2.out j hj ((HH.out j).1 h2)) (zB hr));obtain⟨EL,HEL⟩:∃EL:Nat->List zk,Hid (∀m,EL m=((n.edges.take m).filter (Zd A Z)).map (zg2 A Z)):=⟨_,λ_=>rfl⟩;have HEL0:Hid (EL 0=[]):=by show _=_;rw[HEL.out];simp
     have HELs:Hid (∀m (h:m<n.edges.length),EL (m+1)=EL m++(if Zd A Z (n.edges[m]'h)=true then [zg2 A Z (n.edges[m]'h)] else [])):=λm h=>by
      rw[HEL.out,HEL.out,List.take_succ_eq_append_getElem h,List.filter_append,List.map_append];congr 1;by_cases hg:Zd A Z (n.edges[m]'h)=true
      ·rw[List.filter_cons,if_pos hg,if_pos hg];rfl
      ·rw[List.filter_cons,if_neg hg,if_neg hg];rfl
     have HELl:Hid (∀m,(EL m).length<=m):=λm=>by rw[HEL.out,List.length_map];exact Nat.le_trans (List.length_filter_le _ _) (by rw[List.length_take];omega)
     have HELe:Hid (EL n.edges.length=(y7 n A Z).edges):=by show _=_;rw[HEL.out,List.take_length];rfl
     clear HEL;go_loopw [8,9] (λi _ wr=>∃(m:Nat) (ve:Value),i=.int .i64 m/\m<=n.edges.length/\Hid (NbE q2 (wc.heap.size+1) wc wr KN (EL m) ve (.slice none 0 0))/\Hid (Y2 wr wc.heap.size NL)) (λi _ _=>n.edges.length-(intOf i).toNat);case atStart=>exact⟨0,_,rfl,Nat.zero_le _,by show NbE _ _ _ _ _ _ _ _;rw[HEL0.out];exact HS0.out,HN0⟩
     case round =>
      (try rename World=>wr)
      obtain⟨m,ve,rfl,hm,HD,HN⟩:=hrel;have hell:=HELl.out m;obtain⟨va,vc,hv,_⟩:=HD.out.es.slice (by omega);obtain⟨L,HL⟩:∃L,Hid ((EL m).length=L):=⟨_,rfl⟩;rw[HL.out]at hv hell;subst hv;have hbel:=HD.out.bel;obtain⟨b0,b1,b2⟩:=zo ((hbel.block _ (by omega)).trans HXc.out);have hzB:=hbel.size;have HBl:=Lib.hid hbel;clear hbel b0;by_cases hlt:m<n.edges.length
      ·obtain⟨bE,oE,hb⟩:=HEA.out.resolve_left (by omega);subst hb;obtain⟨yg,ycg,yS,ycs,g0,g1,g2,g3,hG2,hS2⟩:=yz (HXE.out.keep (HKx.out HD.out _ λ_ h=>h)) rfl hlt;have f0:=zc _ _ g0;have f1:=zc _ _ g1;have f2:=zc _ _ g2;have f3:=zc _ _ g3;have HEs:=Lib.hid (HELs.out m hlt);obtain⟨⟨x0,x1⟩,y0,y1⟩:=HEd.out _ (List.getElem_mem hlt);clear g0 g1 g2 g3;generalize (n.edges[m]'hlt)=y at f0 f1 f2 f3 hG2 hS2 HEs x0 x1 y0 y1;obtain⟨yf,yt,yG,yS'⟩:=y;simp only at f0 f1 f2 f3 hG2 hS2 x0 x1 y0 y1;obtain⟨f,rfl⟩:=Int.eq_ofNat_of_zero_le x0;obtain⟨t,rfl⟩:=Int.eq_ofNat_of_zero_le y0;have hf:f<st:=by omega
       have ht:t<st:=by omega
       clear x0 x1 y0 y1;go_upto_region 17 with fail;generalize hW5:World.alloc wr _=W5;have hB5:Below wr.heap.size wr W5:=by rw[←hW5];exact(Below.refl _ _).alloc (Nat.le_refl _) _
       have hy5:W5.heap[wr.heap.size]? = some (.cells #[.int .i64 (f:Int),.int .i64 (t:Int),.slice yg yG.length ycg,.slice yS yS'.length ycs] 77 (0,0)):=by rw[←hW5];exact zh rfl
       have HD5:=Lib.hid (HD.out.below hB5);have HN5:=Lib.hid (HN.out.below hB5);obtain⟨e0,e1,e2,e3,-⟩:=zR hy5;have HY5:=Lib.hid hy5;have HA5:Hid (xx W5 bA A):=((HD5.out.bel.block _ hAlt).trans HRA.out);have HZ5:Hid (xx W5 bB Z):=((HD5.out.bel.block _ hBlt).trans HRB.out);have c1:=HA5.out.cell (i:=f) (by rw[HAl.out.1];exact hf);have c2:=HZ5.out.cell (i:=f) (by rw[HAl.out.2];exact hf);have c3:=HA5.out.cell (i:=t) (by rw[HAl.out.1];exact ht);have c4:=HZ5.out.cell (i:=t) (by rw[HAl.out.2];exact ht);have HgE:Hid (Zd A Z ⟨f,t,yG,yS'⟩=(A.getD f false&&Z.getD f false&&A.getD t false&&Z.getD t false)):=rfl;have hs5:=lt_of_block hy5;clear hW5 f0 f1 f2 f3 b1 b2;generalize A.getD f false=v1 at c1 HgE;generalize Z.getD f false=v2 at c2 HgE;generalize A.getD t false=v3 at c3 HgE;generalize Z.getD t false=v4 at c4 HgE;have hgo:(v1=true/\v2=true/\v3=true/\v4=true)\/(v1=false\/(v1=true/\v2=false)\/(v1=true/\v2=true/\v3=false)\/(v1=true/\v2=true/\v3=true/\v4=false)):=by cases v1<;>cases v2<;>cases v3<;>cases v4<;>simp
       rcases hgo with ⟨rfl,rfl,rfl,rfl⟩|hgo
       ·have HGd:Hid (Zd A Z ⟨f,t,yG,yS'⟩=true):=by show _=_;rw[HgE.out];rfl
        have HEx:Hid (EL (m+1)=EL m++[⟨(yp A Z f:Nat),(yp A Z t:Nat),yG,yS'⟩]):=by show _=_;rw[HEs.out,if_pos HGd.out];rfl
        have n1:=HN5.out.cell (i:=f) (by rw[HNLl.out];exact hf);have n2:=HN5.out.cell (i:=t) (by rw[HNLl.out];exact ht);have hk1:=(Qp HGd.out).1;have hk2:=(Qp HGd.out).2;simp only[Int.toNat_natCast]at hk1 hk2;rw[HNLa.out f hf,if_pos hk1]at n1;rw[HNLa.out t ht,if_pos hk2]at n2;have hnf:((yp A Z f:Nat):Int)<=256:=by have:=XL A Z f;omega
        have hnt:((yp A Z t:Nat):Int)<=256:=by have:=XL A Z t;omega
        clear HgE HEs HGd hk1 hk2;generalize ((yp A Z f:Nat):Int)=nf at n1 HEx hnf;generalize ((yp A Z t:Nat):Int)=nt at n2 HEx hnt;obtain⟨⟨d0,d1,d2⟩,df⟩:=HD5.out.cells;have HRx:Hid (∀W,Below W5.heap.size W5 W->edE.R (World.hide W (hid q2 (.slice va L vc))) ⟨nf,nt,yG,yS'⟩ [.int .i64 nf,.int .i64 nt,.slice yg yG.length ycg,.slice yS yS'.length ycs]):=λW h3=>⟨yg,ycg,yS,ycs,rfl,hG2.keep (zg (hB5.trans (h3.mono hB5.size)) λ_ _ h=>h),hS2.keep (zg (hB5.trans (h3.mono hB5.size)) λ_ _ h=>h)⟩;have HMv:Hid (∀W,Below W5.heap.size W5 W->Calls Tryz.prog 51 #[.agg #[.int .i64 (f:Int),.int .i64 (t:Int),.slice yg yG.length ycg,.slice yS yS'.length ycs],.int .i64 nf,.int .i64 nt] W λe w'=>e=.returned (.agg #[.int .i64 nf,.int .i64 nt,.slice yg yG.length ycg,.slice yS yS'.length ycs])/\Below W5.heap.size W5 w'):=λW hW=>(zdJ _ _ _ _ _ _ _ _ nf nt W).mono λe w' h=>⟨h.1,hW.trans (h.2.mono hW.size)⟩;have HBu:Hid (∀u W,u.grownBy W (Value.slice va L vc).ownBlock->Below W5.heap.size W5 u->Below W5.heap.size W5 u):=λ_ _ _ h=>h;obtain⟨SC,hSC⟩:∃SC:World->Prop,SC=λW=>W.cell? ⟨wc.heap.size+1,1,none⟩=some (.slice va L vc)/\W.cell? ⟨wr.heap.size,0,none⟩=some (.int .i64 (f:Int))/\W.cell? ⟨wr.heap.size,1,none⟩=some (.int .i64 (t:Int))/\W.cell? ⟨wr.heap.size,2,none⟩=some (.slice yg yG.length ycg)/\W.cell? ⟨wr.heap.size,3,none⟩=some (.slice yS yS'.length ycs)/\W.cell? ⟨wc.heap.size,f,none⟩=some (.int .i64 nf)/\W.cell? ⟨wc.heap.size,t,none⟩=some (.int .i64 nt):=⟨_,rfl⟩
        have HSB:Hid (∀W,Below W5.heap.size W5 W->SC W):=λW hW=>by rw[hSC];exact⟨za hW _ _ d1,za hW _ _ e0,za hW _ _ e1,za hW _ _ e2,za hW _ _ e3,za hW _ _ n1,za hW _ _ n2⟩
        have hBr:Below W5.heap.size W5 W5:=Below.refl _ _;have hHeld:SC W5.drew:=HSB.out _ (Below.drew hBr);have HSC:Hid (∀W,SC W->W.cell? ⟨wc.heap.size+1,1,none⟩=some (.slice va L vc)/\W.cell? ⟨wr.heap.size,0,none⟩=some (.int .i64 (f:Int))/\W.cell? ⟨wr.heap.size,1,none⟩=some (.int .i64 (t:Int))/\W.cell? ⟨wr.heap.size,2,none⟩=some (.slice yg yG.length ycg)/\W.cell? ⟨wr.heap.size,3,none⟩=some (.slice yS yS'.length ycs)/\W.cell? ⟨wc.heap.size,f,none⟩=some (.int .i64 nf)/\W.cell? ⟨wc.heap.size,t,none⟩=some (.int .i64 nt)):=λW h=>by rw[hSC]at h;exact h
        clear hSC;clear df hG2 hS2 d0 d2 HA5 HZ5 hy5;go_upto_region 18 with fail;clear c1 c2 c3 c4;refine ziw (n:=18) SC [15,16,17] (by kernel_rfl) rfl ?_;refine YL 0 (v:=?_) hHeld rfl (by kernel_rfl) rfl (λ_ _ _ h=>h) ?_ ?_;rotate_left;(intro W hSw;obtain⟨k1,k2,k3,k4,k5,k6,k7⟩:=HSC.out W hSw;go_simp;try with_reducible rfl);simp only[Act.put,List.setIfInBounds_toArray,List.set_cons_zero,List.set_cons_succ];refine YL 1 (v:=?_) hHeld rfl (by kernel_rfl) rfl (λ_ _ _ h=>h) ?_ ?_;rotate_left;(intro W hSw;obtain⟨k1,k2,k3,k4,k5,k6,k7⟩:=HSC.out W hSw;go_simp;try with_reducible rfl);simp only[Act.put,List.setIfInBounds_toArray,List.set_cons_zero,List.set_cons_succ];refine YL 2 (v:=?_) hHeld rfl (by kernel_rfl) rfl (λ_ _ _ h=>h) ?_ ?_;rotate_left;(intro W hSw;obtain⟨k1,k2,k3,k4,k5,k6,k7⟩:=HSC.out W hSw;go_simp;try with_reducible rfl);simp only[Act.put,List.setIfInBounds_toArray,List.set_cons_zero,List.set_cons_succ];refine YL 3 (v:=?_) hHeld rfl (by kernel_rfl) rfl (λ_ _ _ h=>h) ?_ ?_;rotate_left;(intro W hSw;obtain⟨k1,k2,k3,k4,k5,k6,k7⟩:=HSC.out W hSw;go_simp;try with_reducible rfl);simp only[Act.put,List.setIfInBounds_toArray,List.set_cons_zero,List.set_cons_succ];refine YL 4 (v:=?_) hHeld rfl (by kernel_rfl) rfl (λ_ _ _ h=>h) ?_ ?_;rotate_left;(intro W hSw;obtain⟨k1,k2,k3,k4,k5,k6,k7⟩:=HSC.out W hSw;go_simp;try with_reducible rfl);simp only[Act.put,List.setIfInBounds_toArray,List.set_cons_zero,List.set_cons_succ]
        refine YL 5 (v:=?_) hHeld rfl (by kernel_rfl) rfl (λ_ _ _ h=>h) ?_ ?_;rotate_left;(intro W hSw;obtain⟨k1,k2,k3,k4,k5,k6,k7⟩:=HSC.out W hSw;go_simp;try with_reducible rfl);simp only[Act.put,List.setIfInBounds_toArray,List.set_cons_zero,List.set_cons_succ];refine YL 6 (v:=?_) hHeld rfl (by kernel_rfl) rfl (λ_ _ _ h=>h) ?_ ?_;rotate_left;(intro W hSw;obtain⟨k1,k2,k3,k4,k5,k6,k7⟩:=HSC.out W hSw;go_simp;try with_reducible rfl);simp only[Act.put,List.setIfInBounds_toArray,List.set_cons_zero,List.set_cons_succ];refine YL 7 (v:=?_) hHeld rfl (by kernel_rfl) rfl (λ_ _ _ h=>h) ?_ ?_;rotate_left;(intro W hSw;obtain⟨k1,k2,k3,k4,k5,k6,k7⟩:=HSC.out W hSw;go_simp;try with_reducible rfl);simp only[Act.put,List.setIfInBounds_toArray,List.set_cons_zero,List.set_cons_succ];refine YL 8 (v:=?_) hHeld rfl (by kernel_rfl) rfl (λ_ _ _ h=>h) ?_ ?_;rotate_left;(intro W hSw;obtain⟨k1,k2,k3,k4,k5,k6,k7⟩:=HSC.out W hSw;go_simp;try with_reducible rfl);simp only[Act.put,List.setIfInBounds_toArray,List.set_cons_zero,List.set_cons_succ];refine YL 9 (v:=?_) hHeld rfl (by kernel_rfl) rfl (λ_ _ _ h=>h) ?_ ?_;rotate_left;(intro W hSw;obtain⟨k1,k2,k3,k4,k5,k6,k7⟩:=HSC.out W hSw;go_simp;try with_reducible rfl);simp only[Act.put,List.setIfInBounds_toArray,List.set_cons_zero,List.set_cons_succ];refine YL 10 (v:=?_) hHeld rfl (by kernel_rfl) rfl (λ_ _ _ h=>h) ?_ ?_;rotate_left;(intro W hSw;obtain⟨k1,k2,k3,k4,k5,k6,k7⟩:=HSC.out W hSw;go_simp;try with_reducible rfl)
        simp only[Act.put,List.setIfInBounds_toArray,List.set_cons_zero,List.set_cons_succ];refine YL 11 (v:=?_) hHeld rfl (by kernel_rfl) rfl (λ_ _ _ h=>h) ?_ ?_;rotate_left;(intro W hSw;obtain⟨k1,k2,k3,k4,k5,k6,k7⟩:=HSC.out W hSw;go_simp;try with_reducible rfl);simp only[Act.put,List.setIfInBounds_toArray,List.set_cons_zero,List.set_cons_succ];refine YL 12 (v:=?_) hHeld rfl (by kernel_rfl) rfl (λ_ _ _ h=>h) ?_ ?_;rotate_left;(intro W hSw;obtain⟨k1,k2,k3,k4,k5,k6,k7⟩:=HSC.out W hSw;go_simp;try with_reducible rfl);simp only[Act.put,List.setIfInBounds_toArray,List.set_cons_zero,List.set_cons_succ];refine zfJ 13 rfl (by kernel_rfl) (λK hK=>?_);go_simp;go_at_call 51;refine(HMv.out _ (by first|with_reducible assumption|exact zW)).mono ?_;rintro r v9 ⟨rfl,hB1⟩;have hz1:=hB1.size;dsimp only;refine hK _ _ (λ_=>HSB.out _ hB1) ?_;clear hK K;simp only[Act.put,List.setIfInBounds_toArray,List.set_cons_zero,List.set_cons_succ];refine zfJ 14 rfl (by kernel_rfl) (λK hK=>?_);go_simp;refine hK _ _ (λ_=>HSB.out _ (by first|with_reducible assumption|exact zW)) ?_;clear hK K;simp only[Act.put,List.setIfInBounds_toArray,List.set_cons_zero,List.set_cons_succ];refine zfJ 15 rfl (by kernel_rfl) (λK hK=>?_);refine x5 (E:=edE) zcn (by rfl) _ _ (by rfl) q2 wc.heap.size (.slice va L vc) (by rfl) (HD5.out.es.below (by first|with_reducible assumption|exact zW)) ⟨nf,nt,yG,yS'⟩ [.int .i64 nf,.int .i64 nt,.slice yg yG.length ycg,.slice yS yS'.length ycs] (HRx.out _ (by first|with_reducible assumption|exact zW)) _ 1 (by rfl) (by first|with_reducible exact zi _ _|exact zi _ _) L HL.out (by omega) (by first|omega|(simp;omega)) _ rfl ?_
        intro gg gcap wg hownG hgrow hatG hltG;have hbu:=HBu.out _ _ hgrow (by first|with_reducible assumption|exact zW);have hbk:=(HD5.out.below hbu).at hgrow;obtain⟨i0,i1,i2⟩:=zo hbk;have iF:wg.frozen? ⟨wc.heap.size+1,1,none⟩=false:=by simp[World.frozen?,hbk,xW]
        refine hK _ _ (λh=>absurd (by decide) h) ?_;clear hK K;simp only[Act.put,List.setIfInBounds_toArray,List.set_cons_zero,List.set_cons_succ];refine zfJ 16 rfl (by kernel_rfl) (λK hK=>?_);go_simp;refine hK _ _ (λh=>absurd (by decide) h) ?_;clear hK K;simp only[Act.put,List.setIfInBounds_toArray,List.set_cons_zero,List.set_cons_succ];refine zfJ 17 rfl (by kernel_rfl) (λK hK=>?_);go_simp;refine hK _ _ (λh=>absurd (by decide) h) ?_;clear hK K;simp only[Act.put,List.setIfInBounds_toArray,List.set_cons_zero,List.set_cons_succ];refine zb9 (by kernel_rfl) ?_ _
        all_goals
         have HD9:Hid (NbE q2 (wc.heap.size+1) wc (wg.setCell ⟨wc.heap.size+1,1,none⟩ (.slice (some ⟨gg,0,none⟩) (L+1) gcap)) KN (EL (m+1)) (.slice (some ⟨gg,0,none⟩) (L+1) gcap) (.slice none 0 0)):=by show NbE _ _ _ _ _ _ _ _;rw[HEx.out];exact HD5.out.edge ((xM.refl HD5.out.es).add hbu hownG hgrow (hatG.imp id λe=>by rw[e];first|omega|(simp;omega)))
         have HN9:Hid (Y2 (wg.setCell ⟨wc.heap.size+1,1,none⟩ (.slice (some ⟨gg,0,none⟩) (L+1) gcap)) wc.heap.size NL):=by refine Y2.other (zhu (HN5.out.below hbu) hgrow ?_) (by omega);obtain⟨xs,h1,_⟩:=HD5.out.es;exact zv h1 HN5.out (by decide)
         clear hownG hgrow hatG hltG hbu hbk i0 i1 i2 iF;go_wp2_with fail;go_roundw;case rel=>exact⟨m+1,_,by go_num,by omega,HD9,HN9⟩
         case measure=>(simp[intOf];try omega)
       ·have HEx:Hid (EL (m+1)=EL m):=by
         show _=_;rw[HEs.out,HgE.out,if_neg,List.append_nil];rcases hgo with rfl|⟨rfl,rfl⟩|⟨rfl,rfl,rfl⟩|⟨rfl,rfl,rfl,rfl⟩<;>simp
        have HD9:Hid (NbE q2 (wc.heap.size+1) wc W5 KN (EL (m+1)) (.slice va L vc) (.slice none 0 0)):=by show NbE _ _ _ _ _ _ _ _;rw[HEx.out];exact HD5.out
        clear HgE HEs HEx;rcases hgo with rfl|⟨rfl,rfl⟩|⟨rfl,rfl,rfl⟩|⟨rfl,rfl,rfl,rfl⟩
        all_goals
         go_wp2_with fail;go_roundw;case rel=>exact⟨m+1,_,by go_num,by omega,HD9,HN5⟩
         case measure=>(simp[intOf];try omega)
      ·obtain rfl:m=n.edges.length:=by omega
       rw[HELe.out]at HD HL;obtain⟨LE,hLE⟩:∃LE,(y7 n A Z).edges=LE:=⟨_,rfl⟩;rw[hLE]at HD HL;have HLE:=Lib.hid hLE;have HS5:Hid (NbS q (wc.heap.size+1) wc wr KN LE [] (.slice va L vc) (.slice none 0 0)):=⟨by rw[HE2.out];exact HD.out,hqk,Enc.Own.nil _ _ _ _ _⟩;obtain⟨AL,HAL⟩:∃AL:Nat->List Int,Hid (∀m,AL m=((n.accept.take m).filter λs=>yd A Z s.toNat).map λs=>(yp A Z s.toNat:Int)):=⟨_,λ_=>rfl⟩;have HAL0:Hid (AL 0=[]):=by show _=_;rw[HAL.out];simp
       have HALs:Hid (∀m (h:m<n.accept.length),AL (m+1)=AL m++(if yd A Z (n.accept[m]'h).toNat=true then [(yp A Z (n.accept[m]'h).toNat:Int)] else [])):=λm h=>by
        rw[HAL.out,HAL.out,List.take_succ_eq_append_getElem h,List.filter_append,List.map_append];congr 1;by_cases hg:yd A Z (n.accept[m]'h).toNat=true
        ·rw[List.filter_cons,if_pos hg,if_pos hg];rfl
        ·rw[List.filter_cons,if_neg hg,if_neg hg];rfl
       have HALl:Hid (∀m,(AL m).length<=m):=λm=>by rw[HAL.out,List.length_map];exact Nat.le_trans (List.length_filter_le _ _) (by rw[List.length_take];omega)
       have HALe:Hid (AL n.accept.length=(y7 n A Z).accept):=by show _=_;rw[HAL.out,List.take_length];rfl
       clear HAL hLE HS0 HN0 HD b2;go_wp2_with fail;clear b1;generalize wr=w7 at HS5 HN⊢;go_loopw [10] (λi wr=>∃(m:Nat) (v:Value),i=.int .i64 m/\m<=n.accept.length/\Hid (NbS q (wc.heap.size+1) wc wr KN LE (AL m) (.slice va L vc) v)/\Hid (Y2 wr wc.heap.size NL)/\Hid (v.ownBlock≠some wc.heap.size)) (λi _=>n.accept.length-(intOf i).toNat);case atStart=>exact⟨0,_,rfl,Nat.zero_le _,by show NbS _ _ _ _ _ _ _ _ _;rw[HAL0.out];exact HS5.out,HN,by show _≠_;simp[Value.ownBlock]⟩
       case round =>
        clear HN
        (try rename World=>wr)
        obtain⟨m,v,rfl,hm,HD,HN,HNe⟩:=hrel;have hall:=HALl.out m;obtain⟨va2,vc2,hv,_⟩:=HD.out.ac.slice (by omega);obtain⟨LA,HLA⟩:∃LA,Hid ((AL m).length=LA):=⟨_,rfl⟩;rw[HLA.out]at hv hall;subst hv;have hbel:=HD.out.e.bel;obtain⟨⟨d0,d1,d2⟩,df⟩:=HD.out.e.cells;obtain⟨b0,b1,b2⟩:=zo ((hbel.block _ (by omega)).trans HXc.out);have HR9:=Lib.hid ((hbel.block _ (by omega)).trans HYc.out);have HBl2:=Lib.hid hbel;have hzB2:=hbel.size;clear hbel b0 b1;by_cases hlt:m<n.accept.length
        ·obtain⟨bC,oC,ha⟩:=HCA.out.resolve_left (by omega);subst ha;have ya:=zc _ _ ((HXI.out.ac.keep (Kp.trans (zg (q:=p1) HBwc.out λj hj h=>((HP1.out j).1 h).elim id λe=>by omega) (HD.out.kp λj hj h=>HQ2.out j hj h))).get rfl hlt);have HAx:=Lib.hid (HALs.out m hlt);obtain⟨z1,z2⟩:=HAc.out _ (List.getElem_mem hlt);obtain⟨z,hz⟩:∃z,n.accept[m]'hlt=z:=⟨_,rfl⟩;rw[List.getD_eq_getElem?_getD,List.getElem?_eq_getElem hlt,Option.getD_some,hz]at ya;rw[hz]at HAx z1 z2;obtain⟨s,rfl⟩:=Int.eq_ofNat_of_zero_le z1;rw[Int.toNat_natCast]at HAx;have hs:s<st:=by omega
         have n1:=HN.out.cell (i:=s) (by rw[HNLl.out];exact hs);rw[HNLa.out s hs]at n1;clear hz df z1 z2 d0 d1;cases hkp:yd A Z s with
         |false =>
          rw[hkp]at n1 HAx;have HD9:Hid (NbS q (wc.heap.size+1) wc wr KN LE (AL (m+1)) (.slice va L vc) (.slice va2 LA vc2)):=by show NbS _ _ _ _ _ _ _ _ _;rw[HAx.out];simpa using HD.out
          replace n1:wr.cell? ⟨wc.heap.size,s,none⟩=some (.int .i64 (-1)):=n1;clear hkp HAx;go_wp2_with fail;go_roundw;case rel=>exact⟨m+1,_,by go_num,by omega,HD9,HN,HNe⟩
          case measure=>(simp[intOf];try omega)
         |true =>
          rw[hkp]at n1 HAx;replace n1:wr.cell? ⟨wc.heap.size,s,none⟩=some (.int .i64 (yp A Z s:Nat)):=n1;have HAx2:Hid (AL (m+1)=AL m++[((yp A Z s:Nat):Int)]):=HAx.out;have hn0:(0:Int)<=(yp A Z s:Nat):=by omega
          have hn2:((yp A Z s:Nat):Int)<=256:=by have:=XL A Z s;omega
          clear hkp HAx;generalize ((yp A Z s:Nat):Int)=ns at n1 HAx2 hn0 hn2;have d2o:∀o,(wr.alloc o).cell? ⟨wc.heap.size+1,2,none⟩=some (.slice va2 LA vc2):=λo=>Lib.cell?_alloc_some _ d2;have HBu:Hid (∀u W,u.grownBy W (Value.slice va2 LA vc2).ownBlock->Below wr.heap.size wr u->Below wr.heap.size wr u):=λ_ _ _ h=>h;go_upto_region 23 with fail;go_region_law ((refine x5 (E:=inE) zeN (by rfl) _ _ (by rfl) q wc.heap.size (.slice va2 LA vc2) (by rfl) (HD.out.ac.below zW) ns [.int .i64 ns] rfl wr.heap.size 1 (by rfl) (zi wr _) LA HLA.out (by omega) (by simp;omega) (wr.heap.size+1) (by simp) ?_;intro gg gcap wg hownG hgrow hatG hltG;have hbu:=HBu.out _ _ hgrow (by first|with_reducible assumption|exact zW);have hbk:wg.heap[wc.heap.size+1]? = some (xW KN (.slice va L vc) (.slice va2 LA vc2)):=(hgrow.block _ (Nat.lt_of_lt_of_le HD.out.e.klt hbu.size) HD.out.ane).trans ((hbu.block _ HD.out.e.klt).trans HD.out.e.blk);obtain⟨i0,i1,i2⟩:=zo hbk;have iF:wg.frozen? ⟨wc.heap.size+1,2,none⟩=false:=by simp[World.frozen?,hbk,xW]))
          all_goals
           have HD9:Hid (NbS q (wc.heap.size+1) wc (wg.setCell ⟨wc.heap.size+1,2,none⟩ (.slice (some ⟨gg,0,none⟩) (LA+1) gcap)) KN LE (AL (m+1)) (.slice va L vc) (.slice (some ⟨gg,0,none⟩) (LA+1) gcap)):=by show NbS _ _ _ _ _ _ _ _ _;rw[HAx2.out];exact HD.out.acc ((xM.refl HD.out.ac).add hbu hownG hgrow (hatG.imp id λe=>by rw[e];first|omega|(simp;omega)))
           have HN9:Hid (Y2 (wg.setCell ⟨wc.heap.size+1,2,none⟩ (.slice (some ⟨gg,0,none⟩) (LA+1) gcap)) wc.heap.size NL) :=
            Y2.other (zhu (HN.out.below hbu) hgrow λe=>HNe.out e.symm) (by omega)
           have HNe9:Hid ((Value.slice (some ⟨gg,0,none⟩) (LA+1) gcap).ownBlock≠some wc.heap.size):=by
            show _≠_;rcases hatG with h|h
            ·rw[h]at HNe;exact HNe.out
            ·intro e;have:=Option.some.inj e;simp only at this;omega
           clear hownG hgrow hatG hltG hbu hbk i0 i1 i2 iF;go_wp2_with fail;go_roundw;case rel=>exact⟨m+1,_,by go_num,by omega,HD9,HN9,HNe9⟩
           case measure=>(simp[intOf];try omega)
        ·obtain rfl:m=n.accept.length:=by omega
         rw[HALe.out]at HD HLA;obtain⟨o,ho1,ho2,ho3⟩:=HD.out.out (p:=p1) HQp.out HPl.out (by rw[HL.out];omega) (by rw[HLA.out];omega);rw[HL.out]at ho1;rw[HLA.out]at ho2;have hq:=HR9.out;obtain⟨r0,r1,r2⟩:=zo hq;have e0:wr.frozen? ⟨w.heap.size+1,0,none⟩=false:=by simp[World.frozen?,hq,xW]
         have e1:wr.frozen? ⟨w.heap.size+1,1,none⟩=false:=by simp[World.frozen?,hq,xW]
         have e2:wr.frozen? ⟨w.heap.size+1,2,none⟩=false:=by simp[World.frozen?,hq,xW]
         have HO3:=Lib.hid ho3;have HO1:=Lib.hid ho1;have HO2:=Lib.hid ho2;clear ho1 ho2 ho3 hq df;go_wp2_with fail;refine bodyPost_ret (v:=.agg #[.int .i64 KN,.slice va L vc,.slice va2 LA vc2]) (ze9 _ 2 rfl _ _ (w.heap.size+1) _ _ _ (zdQ HR9.out) rfl) rfl ?_;have o1:p1 (w.heap.size+1)=true:=(HP1.out _).2 (Or.inr rfl);have hk:=HO3.out.keep (Kp.trans (zj (o:=0) (u:=.int .i64 KN) o1) (Kp.trans (zj (o:=1) (u:=.slice va L vc) o1) (Kp.trans (zj (o:=2) (u:=.slice va2 LA vc2) o1) (zB λj hj=>(HP1.out j).2 (Or.inl hj)))));have hB9:Below w.heap.size w (((wr.setCell ⟨w.heap.size+1,0,none⟩ (.int .i64 KN)).setCell ⟨w.heap.size+1,1,none⟩ (.slice va L vc)).setCell ⟨w.heap.size+1,2,none⟩ (.slice va2 LA vc2)):=(((HBwc.out.trans (HBl2.out.mono HBwc.out.size)).setCell (by simp) _).setCell (by simp) _).setCell (by simp) _;have hDe:(⟨KN,LE,(y7 n A Z).accept⟩:zt)=y7 n A Z:=by
          have h1:(y7 n A Z).states=KN:=by show ((yp A Z n.states.toNat:Nat):Int)=KN;rw[HSt.out,Int.toNat_natCast];exact HKN.out
          rw[←HLE.out,←h1]
         rw[hDe]at hk;have h9:=HY.out _ o hk hB9;have hs1:(y7 n A Z).states=KN:=(congrArg zt.states hDe).symm;have hs2:(y7 n A Z).edges.length=L:=by rw[HLE.out];exact HL.out
         rw[hs1,hs2,HLA.out,←HO1.out,←HO2.out]at h9;exact h9
end Go.Proofs.YtnfkbliokjjggaaGreatDoor
