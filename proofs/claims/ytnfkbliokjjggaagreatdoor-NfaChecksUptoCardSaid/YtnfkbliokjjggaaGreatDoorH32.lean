/- nfa.Accepting. -/
import Derived.Test.YtnfkbliokjjggaaGreatDoorH31
import Derived.Test.YtnfkbliokjjggaaGreatDoorH17
import Derived.Test.YtnfkbliokjjggaaGreatDoorH14
import Derived.Test.YtnfkbliokjjggaaGreatDoorH18
set_option maxHeartbeats 8000000
set_option maxRecDepth 100000
set_option linter.unusedSimpArgs false
set_option linter.unusedVariables false
set_option linter.unnecessarySimpa false
namespace Go.Proofs.YtnfkbliokjjggaaGreatDoor
open Go.RowKit
attribute [local go_sem ↓] Go.wp_at_zero Go.wp_at_succ
theorem QQ (p:Nat->Bool) (n:zt) (x:qn) (l:List yV) (al:Option Addr) (cl:Nat) (w:World) (hp:∀j,p j=true->j<w.heap.size) (hN:yb w n x) (hL:thE.In w l al cl) (hlt:∀t∈l,t.env.length<=50000) (hll:l.length<=100000000) :
 Calls Tryz.prog 34 #[ye n x,.slice al l.length cl] w (zcV p (QP n l) w):=by
 have HCo:Hid (∀W,Below w.heap.size w W->∀s,Calls Tryz.prog 78 #[.slice x.aa n.accept.length x.ca,.int .i64 s] W λe w'=>e=.returned (.bool (n.accept.contains s))/\w'=W):=λW hW s=>zaE _ _ _ _ W (hN.ac.keep (za hW));have HLs:=Lib.hid hL;have Hp:=Lib.hid hp;have HLa:Hid (l.length=0\/∃b off,al=some ⟨b,off,none⟩):=hL.addr;have HLt:=Lib.hid hlt;obtain⟨A,hA⟩:∃A:Nat->List yV,A=λk=>(l.take k).filter λt=>n.accept.contains t.state:=⟨_,rfl⟩;have HA0:Hid (A 0=[]):=by show _=_;rw[hA];simp
 have HAl:Hid (∀k,k<=l.length->(A k).length<=k):=λk hk=>by rw[hA];exact Nat.le_trans (List.length_filter_le _ _) (by rw[List.length_take];omega)
 have HAs:Hid (∀k (hk:k<l.length),A (k+1)=if n.accept.contains (l[k]'hk).state=true then A k++[l[k]'hk] else A k):=λk hk=>by rw[hA];simp only[List.take_succ_eq_append_getElem hk,List.filter_append,List.filter_cons,List.filter_nil];split<;>simp
 have hAe:QP n l=A l.length:=by rw[hA];simp[QP]
 rw[hAe];have HPo:Hid (∀W a c,Below w.heap.size w W->thE.In (World.hide W p) (A l.length) a c->zcV p (A l.length) w (.returned (.slice a (A l.length).length c)) W):=λW a c h1 h2=>⟨⟨a,c,rfl,h2⟩,h1⟩;generalize zcV p (A l.length) w=Po at HPo⊢;rw[zz];clear hp hN hL hlt hA hAe;obtain⟨xae,xce,xaa,xca⟩:=x;simp only at HCo⊢;go_enter Tryz.func34, Tryz.ntmps34;go_upto_region 1 with fail;generalize hW2:World.alloc w _=W2;have HB2:Hid (Below w.heap.size w W2):=by show Below _ _ _;rw[←hW2];exact(Below.refl _ _).alloc (Nat.le_refl _) _
 have HX2:Hid (W2.heap[w.heap.size]? = some (.cells #[.int .i64 n.states,.slice xae n.edges.length xce,.slice xaa n.accept.length xca] 33 (0,0))):=by show _=_;rw[←hW2];exact zh rfl
 clear hW2;have HO2:Hid (thE.Own 134 p W2 (w.heap.size+1) (.slice none 0 0) (A 0)):=by show thE.Own _ _ _ _ _ _;rw[HA0.out];exact Enc.Own.nil _ _ _ _ _
 go_wp2_with fail;go_loopw [10,5,7] (λi o _ wr=>∃k:Nat,i=.int .i64 k/\k<=l.length/\Hid (thE.Own 134 p wr (w.heap.size+1) o (A k))/\Hid (wr.heap[w.heap.size]? = some (.cells #[.int .i64 n.states,.slice xae n.edges.length xce,.slice xaa n.accept.length xca] 33 (0,0)))/\Hid (Below w.heap.size w wr)) (λi _ _ _=>l.length-(intOf i).toNat);case atStart=>exact⟨0,rfl,Nat.zero_le _,HO2.out,HX2.out,HB2.out⟩
 case round =>
  (try rename World=>wr)
  obtain⟨k,rfl,hk,HO,HX,HB⟩:=hrel;have hzr:=lt_of_block HX.out;have hAk:=HAl.out k hk;obtain⟨ao,co,hov,hin⟩:=HO.out.sliceP (by omega) (λj hj=>by
   cases hq:p j with
   |false=>rfl
   |true=>have:=Hp.out _ hq;omega)
  subst hov;by_cases hltk:k<l.length
  ·obtain⟨bl,ol,hla⟩:=HLa.out.resolve_left (by omega);subst hla;obtain⟨ta,tc,g0w,g1w,ht⟩:=XY HLs.out rfl hltk;have g0:=za HB.out _ _ g0w;have g1:=za HB.out _ _ g1w;have hlen:=HLt.out _ (List.getElem_mem hltk);have HS1:=Lib.hid (HAs.out k hltk);generalize (l[k]'hltk)=t at HS1 g0 g1 ht hlen;have HT:=Lib.hid ht;clear g0w g1w ht hin;go_upto_region 5 with fail;generalize hW5:World.alloc wr _=W5;have hB5:Below wr.heap.size wr W5:=by rw[←hW5];exact(Below.refl _ _).alloc (Nat.le_refl _) _
   have HY5:Hid (W5.heap[wr.heap.size]? = some (.cells #[.int .i64 t.state,.slice ta t.env.length tc] 134 (0,0))):=by show _=_;rw[←hW5];exact zh rfl
   have HX5:Hid (W5.heap[w.heap.size]? = some (.cells #[.int .i64 n.states,.slice xae n.edges.length xce,.slice xaa n.accept.length xca] 33 (0,0))):=(hB5.block _ hzr).trans HX.out;have HBw5:Hid (Below w.heap.size w W5):=HB.out.trans (hB5.mono HB.out.size);have HO5:Hid (thE.Own 134 p W5 (w.heap.size+1) (.slice ao (A k).length co) (A k)):=HO.out.below hB5;have HVo:Hid (∀j,(Value.slice ao (A k).length co).ownBlock=some j->w.heap.size+1<=j/\j<W5.heap.size):=zq HO5.out;have hs5:=HBw5.out.size;have hs6:=lt_of_block HX5.out;have HC5:=Lib.hid (HCo.out W5 HBw5.out t.state);obtain⟨-,-,x2⟩:=zo HX5.out;obtain⟨y0,y1,-⟩:=xy HY5.out;clear hW5 hB5 g0 g1 HO HX HB;generalize n.accept.contains t.state=ct at HC5 HS1;cases ct with
   |false =>
    have HO9:Hid (thE.Own 134 p W5 (w.heap.size+1) (.slice ao (A k).length co) (A (k+1))):=by show thE.Own _ _ _ _ _ _;rw[HS1.out];exact HO5.out
    go_wp2_with (go_at_call 78;go_must (refine HC5.out.mono ?_;rintro e w6 ⟨rfl,rfl⟩));go_roundw;case rel=>exact⟨k+1,by go_num,by omega,HO9.out,HX5.out,HBw5.out⟩
    case measure=>(simp[intOf];try omega)
   |true =>
    have HS2:Hid (A (k+1)=A k++[t]):=HS1.out;have HCl:Hid (∀W,Below W5.heap.size W5 W->Calls Tryz.prog 79 #[.slice ta t.env.length tc] W λe w'=>(∃a c,e=.returned (.slice a t.env.length c)/\sgE.In (World.hide w' (hid p (.slice ao (A k).length co))) t.env a c)/\Below W.heap.size W w'/\Below W5.heap.size W5 w'):=λW hW=>(zbB x9 t.env ta tc W (((Zm.2 HT.out).keep (za (HBw5.out.trans (hW.mono HBw5.out.size)))).keep xC)).mono λe w' ⟨⟨v,h1,h2⟩,h3⟩=>by
     obtain⟨a,c,rfl,h6⟩:=Yn h2 (by omega);refine⟨⟨a,c,h1,h6 _ λj hj _=>?_⟩,h3,hW.trans (h3.mono hW.size)⟩;have:=hW.size;cases hq:hid p (.slice ao (A k).length co) j with
     |false=>rfl
     |true =>
      rcases ze.1 hq with h|h
      ·have:=Hp.out _ h;omega
      ·have:=(HVo.out _ h).2;omega
    have HZ2:Hid (∀W,Below W5.heap.size W5 W->W.cell? ⟨wr.heap.size,0,none⟩=some (.int .i64 t.state)/\W.cell? ⟨wr.heap.size,1,none⟩=some (.slice ta t.env.length tc)):=λW hW=>⟨za hW _ _ y0,za hW _ _ y1⟩;have HRx:Hid (∀v1 W a1 c1,sgE.In (World.hide v1 (hid p (.slice ao (A k).length co))) t.env a1 c1->Below v1.heap.size v1 W->thE.R (World.hide W (hid p (.slice ao (A k).length co))) t [.int .i64 t.state,.slice a1 t.env.length c1]):=λv1 W a1 c1 h1 h2=>⟨a1,c1,rfl,(Zm.1 h1).keep (zg h2 λ_ _ h=>h)⟩;go_upto_region 6 with (go_at_call 78;go_must (refine HC5.out.mono ?_;rintro e w6 ⟨rfl,h6⟩;have h7:=h6.symm;clear h6;subst h7))
    go_region_law (first
     |(go_simp;go_at_call 79;(with_reducible refine(HCl.out _ (by first|with_reducible assumption|exact zW)).mono ?_);rintro e v1 ⟨⟨a1,k1,rfl,hc1⟩,hb1,hB1⟩;have hs1:=hB1.size;have HC1:=Lib.hid hc1;obtain⟨j0,j1⟩:=HZ2.out _ hB1;have J0:=λo=>Lib.cell?_alloc_some o j0;clear hc1)
     |(refine x5 (E:=thE) zeQ (by rfl) _ _ (by rfl) p (w.heap.size+1) (.slice ao (A k).length co) (by rfl) (HO5.out.below (by first|exact Below.refl _ _|exact zW)) t [.int .i64 t.state,.slice a1 t.env.length k1] (HRx.out _ _ _ _ HC1.out (by first|with_reducible assumption|exact zW)) _ 1 (by rfl) (by first|exact zi _ _|exact hbT hb1 (zh rfl)) (A k).length (by rfl) (by omega) (by first|omega|(simp;omega)) _ rfl ?_;intro gg gcap wg hownG hgrow hatG hltG))
    all_goals
     have HA9:Hid (Below W5.heap.size W5 (v1.alloc (.cells #[.int .i64 t.state,.slice a1 t.env.length k1] 134))):=by show Below _ _ _;first|with_reducible assumption|exact zW
     have HO9:Hid (thE.Own 134 p wg (w.heap.size+1) (.slice (some ⟨gg,0,none⟩) ((A k).length+1) gcap) (A (k+1))):=by show thE.Own _ _ _ _ _ _;rw[HS2.out];exact hownG
     have HX9:Hid (wg.heap[w.heap.size]? = some (.cells #[.int .i64 n.states,.slice xae n.edges.length xce,.slice xaa n.accept.length xca] 33 (0,0))):=(hgrow.block _ (by simp;omega) (λe'=>by have:=(HVo.out _ e'.symm).1;omega)).trans ((HA9.out.block _ hs6).trans HX5.out);have HB9:Hid (Below w.heap.size w wg):=Xh (HBw5.out.trans (HA9.out.mono hs5)) hgrow λj hj=>by have:=(HVo.out j hj).1;omega
     clear hownG hgrow hatG hltG;go_wp2_with fail;go_roundw;case rel=>exact⟨k+1,by go_num,by omega,HO9.out,HX9.out,HB9.out⟩
     case measure=>(simp[intOf];try omega)
  ·obtain rfl:k=l.length:=by omega
   have HE1:=Lib.hid (HPo.out _ _ _ HB.out hin);go_wp2_with fail;first|exact HE1.out|(go_ret2;exact HE1.out)
section
variable {α : Type} (f : α → Int) (y : α)
variable {f y}
end
open Go.RowKit Go.WideMaps
theorem zT:Maps.Keyed Tryz.prog 3:=Maps.int_keyed Tryz.underlying3
theorem yK {i:Nat} (h:i<=1073741824):keyOf Tryz.prog 3 (.int .i64 i)=some (.int .i64 i):=Maps.keyOf_int_mk Tryz.underlying3 (WalkArith.wf_i64 (by omega))
theorem yD (w:World):(zeroValue 3).run Tryz.prog w=.ok (.int .i64 0) w:=by kernel_rfl
theorem ahead_zero {n:zt} (h:zC n=true):(yl n).getD 0 false=true:=(Xg h 0).2 (Rch.refl 0)
theorem zcW {n:zt} (h:zC n=true) {e:zk} (he:e∈n.edges) (ha:(yl n).getD e.fr.toNat false=true):(yl n).getD e.to.toNat false=true :=
 (Xg h _).2 (((Xg h _).1 ha).step (List.mem_map.2 ⟨e,he,rfl⟩))
theorem zfQ {n:zt} (h:zC n=true) {e:zk} (he:e∈n.edges):Zd (yl n) (zX n) e=(yd (yl n) (zX n) e.fr.toNat&&yd (yl n) (zX n) e.to.toNat&&(yl n).getD e.fr.toNat false&&(zX n).getD e.fr.toNat false&&(zX n).getD e.to.toNat false):=by
 have h1:=zcW h he;unfold Zd yd;cases ha:(yl n).getD e.fr.toNat false with
 |false=>simp
 |true =>rw[h1 ha];cases (zX n).getD e.fr.toNat false<;>cases (zX n).getD e.to.toNat false<;>simp
theorem zg3 {n:zt} (h:zC n=true) (s:Nat):yd (yl n) (zX n) s=(yd (yl n) (zX n) s&&(yl n).getD s false):=by
 unfold yd;by_cases h0:s=0
 ·subst h0;rw[ahead_zero h];simp
 ·cases (yl n).getD s false<;>simp[h0]
theorem zau (n:zt):(yl n).length=n.states.toNat:=by unfold yl;rw[Qk,Yg]
theorem Qf (n:zt):(zX n).length=n.states.toNat:=by unfold zX;rw[Qk,Yg]
def XK (a b:List Bool) (k:Nat) (kl:Lit):Option Value:=match kl with
 | .int .i64 z=>if 0<=z/\z<k/\yd a b z.toNat=true then some (.int .i64 (yp a b z.toNat:Nat)) else none
 |_=>none
theorem zfg (a b:List Bool):∀x,(λ_=>none:Lit->Option Value) x=XK a b 0 x:=by
 intro x;unfold XK;split
 ·rw[if_neg (by omega)]
 ·rfl
theorem zaa (a b:List Bool) {k s:Nat} (h:s<k):XK a b k (.int .i64 s)=if yd a b s=true then some (.int .i64 (yp a b s:Nat)) else none:=by
 unfold XK;simp only[Int.toNat_natCast];by_cases hk:yd a b s=true
 ·rw[if_pos ⟨by omega,by omega,hk⟩,if_pos hk]
 ·rw[if_neg (λh=>hk h.2.2),if_neg hk]
theorem zcy (a b:List Bool) (k:Nat):XK a b k (.int .i64 k)=none:=by unfold XK;simp only;rw[if_neg (by omega)]
theorem zff {a b:List Bool} {k:Nat} (h:yd a b k=false):∀x,XK a b k x=XK a b (k+1) x:=by
 intro x;unfold XK;split
 ·rename_i z;by_cases hz:0<=z/\z<(k:Int)/\yd a b z.toNat=true
  ·rw[if_pos hz,if_pos ⟨hz.1,by omega,hz.2.2⟩]
  ·rw[if_neg hz,if_neg];rintro ⟨h1,h2,h3⟩;by_cases e:z=k
   ·subst e;rw[Int.toNat_natCast,h]at h3;cases h3
   ·exact hz ⟨h1,by omega,h3⟩
 ·rfl
theorem zgF {a b:List Bool} {k:Nat} (h:yd a b k=true):∀x,zgM (XK a b k) (.int .i64 k) (some (.int .i64 (yp a b k:Nat))) x=XK a b (k+1) x:=by
 intro x;by_cases hx:x=.int .i64 (k:Int)
 ·subst hx;rw[XP,zaa a b (Nat.lt_succ_self k),if_pos h]
 ·rw[YF _ hx];unfold XK;split
  ·rename_i z;have hz:z≠(k:Int):=λe=>hx (by rw[e]);by_cases hc:0<=z/\z<(k:Int)/\yd a b z.toNat=true
   ·rw[if_pos hc,if_pos ⟨hc.1,by omega,hc.2.2⟩]
   ·rw[if_neg hc,if_neg (λh=>hc ⟨h.1,by omega,h.2.2⟩)]
  ·rfl
theorem zfb (n:zt):(n.edges.map λe=>(e.fr,e.to)).map nnP=Yq n:=by unfold Yq;rw[List.map_map];rfl
theorem zgC (n:zt):(n.edges.map λe=>(e.to,e.fr)).map nnP=zc1 n:=by unfold zc1;rw[List.map_map];rfl
end Go.Proofs.YtnfkbliokjjggaaGreatDoor
