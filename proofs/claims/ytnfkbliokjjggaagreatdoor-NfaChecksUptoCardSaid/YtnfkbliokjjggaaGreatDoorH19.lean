/- ref41: reached. -/
import Derived.Test.YtnfkbliokjjggaaGreatDoorH18
import Derived.BigQuiet
import Derived.Test.YtnfkbliokjjggaaGreatDoorH09
import Derived.Test.YtnfkbliokjjggaaGreatDoorHSh
import Derived.Deep.RegionHeld3
import Derived.Deep.LoopGhost
set_option maxHeartbeats 8000000
set_option maxRecDepth 100000
set_option linter.unusedSimpArgs false
set_option linter.unusedVariables false
set_option linter.unnecessarySimpa false
namespace Go.Proofs.YtnfkbliokjjggaaGreatDoor
open Go.RowKit
attribute [local go_sem ↓] Go.wp_at_zero Go.wp_at_succ
def XX (n:zt) (bk:Bool):List (Nat×Nat):=if bk then zc1 n else Yq n
def zjL (st b:Nat) (o:List Bool) (w:World) (e:Ending) (w':World):Prop:=e=.returned (.slice (some ⟨b,0,none⟩) st st)/\xx w' b o/\Below w.heap.size w w'
structure RSt (w:World) (bx:Obj) (o:List Bool) (wr:World):Prop where
 row:xx wr (w.heap.size+1) o
 box:wr.heap[w.heap.size]? = some bx
 bel:Below w.heap.size w wr
theorem RSt.set {w:World} {bx:Obj} {o:List Bool} {wr:World} (h:RSt w bx o wr) (j:Nat):RSt w bx (o.set j true) (wr.setCell ⟨w.heap.size+1,j,none⟩ (.bool true)) :=
 ⟨h.row.set j,(Below.heap_setCell _ _ _ _ (by simp)).trans h.box,h.bel.setCell (by simp) _⟩
theorem RSt.below {w:World} {bx:Obj} {o:List Bool} {wr w':World} (h:RSt w bx o wr) (hb:Below wr.heap.size wr w'):RSt w bx o w' :=
 ⟨h.row.below hb,(hb.block _ (lt_of_block h.box)).trans h.box,h.bel.trans (hb.mono h.bel.size)⟩
theorem za9 (bk:Bool) (st:Nat) (hst:st<=256) (n:zt) (x:qn) (hn:n.states=(st:Int)) (fr:List Int) (fa:Option Addr) (fc:Nat) (w:World) (hx:yb w n x) (hE:∀e∈n.edges,(0<=e.fr/\e.fr<(st:Int))/\0<=e.to/\e.to<(st:Int)) (hf:IntsIn w fr fa fc) (hfb:∀x∈fr,0<=x/\x<(st:Int)) :
 Calls Tryz.prog 50 #[ye n x,.slice fa fr.length fc,.bool bk] w (zjL st (w.heap.size+1) (yT (XX n bk) (YC st (fr.map Int.toNat))) w):=by
 have HF:=Lib.hid hf;have HXE:=Lib.hid hx.es;have HFb:=Lib.hid hfb;have HEb:=Lib.hid hE;have hfl:=hf.2.1;have hel:=hx.es.len;have HFA:Hid (fr.length=0\/∃b off,fa=some ⟨b,off,none⟩):=zw.addr hf;have HSA:Hid (n.edges.length=0\/∃b off,x.ae=some ⟨b,off,none⟩):=hx.es.addr;have hmk:=zji st (by omega);obtain⟨SP,HSP⟩:∃SP,Hid (XX n bk=SP):=⟨_,rfl⟩;have HSPl:Hid (SP.length=n.edges.length):=by show _=_;rw[←HSP.out];unfold XX Yq zc1;cases bk<;>simp
 have HSPg:Hid (∀k (h:k<n.edges.length) (h2:k<SP.length),SP[k]'h2=if bk=true then ((n.edges[k]'h).to.toNat,(n.edges[k]'h).fr.toNat) else ((n.edges[k]'h).fr.toNat,(n.edges[k]'h).to.toNat)):=λk h h2=>by simp only[←HSP.out,XX,Yq,zc1];cases bk<;>simp
 rw[HSP.out,←Qr];clear hf hx hfb hE HSP;have HPo:Hid (∀W,xx W (w.heap.size+1) (yT SP (yC st fr fr.length))->Below w.heap.size w W->zjL st (w.heap.size+1) (yT SP (yC st fr fr.length)) w (.returned (.slice (some ⟨w.heap.size+1,0,none⟩) st st)) W):=λW h1 h2=>⟨rfl,h1,h2⟩;generalize zjL st (w.heap.size+1) (yT SP (yC st fr fr.length)) w=Po at HPo⊢;rw[zz];obtain⟨xae,xce,xaa,xca⟩:=x;obtain⟨nst,ned,nac⟩:=n;simp only at hn HXE HEb hel HSA HSPl HSPg⊢;subst hn;go_enter Tryz.func50, Tryz.ntmps50;go_wp2_with fail;generalize hW2:World.alloc (World.alloc w _) _=W2;obtain⟨bx,hbx⟩:∃bx,xW st (.slice xae ned.length xce) (.slice xaa nac.length xca)=bx:=⟨_,rfl⟩;have HBX:=Lib.hid hbx;have HR2:Hid (RSt w bx (yC st fr 0) W2):=by
  refine⟨?_,?_,?_⟩
  ·rw[←hW2];unfold xx yC;rw[List.take_zero,List.map_nil,List.foldl_nil,List.map_replicate,List.toArray_replicate];exact zh (by simp)
  ·rw[←hW2,←hbx];exact zl (zh rfl)
  ·rw[←hW2];exact((Below.refl _ _).alloc (Nat.le_refl _) _).alloc (by simp) _
 clear hW2 hmk hbx;go_loopw [8] (λi wr=>∃k:Nat,i=.int .i64 k/\k<=fr.length/\Hid (RSt w bx (yC st fr k) wr)) (λi _=>fr.length-(intOf i).toNat);case atStart=>exact⟨0,rfl,Nat.zero_le _,HR2⟩
 case round =>
  obtain⟨k,rfl,hk,HR⟩:=hrel;by_cases hlt:k<fr.length
  ·obtain⟨bf,of,hfa⟩:=HFA.out.resolve_left (by omega);subst hfa;have g0:=za HR.out.bel _ _ (HF.out.get rfl hlt);rw[List.getD_eq_getElem?_getD,List.getElem?_eq_getElem hlt,Option.getD_some]at g0;have HMk:Hid (yC st fr (k+1)=(yC st fr k).set (fr[k]'hlt).toNat true):=XG st fr hlt;obtain⟨x0,x1⟩:=HFb.out _ (List.getElem_mem hlt);generalize (fr[k]'hlt)=x at g0 HMk x0 x1;obtain⟨m,rfl⟩:=Int.eq_ofNat_of_zero_le x0;rw[Int.toNat_natCast]at HMk;have hm:m<st:=by omega
   have c0:=HR.out.row.cell (i:=m) (by rw[Zv];exact hm);have d0:=HR.out.row.free m;go_wp2_with fail;have HR':Hid (RSt w bx (yC st fr (k+1)) (wr.setCell ⟨w.heap.size+1,m,none⟩ (.bool true))):=by show RSt _ _ _ _;rw[HMk.out];exact HR.out.set m
   go_roundw;case rel=>exact⟨k+1,by go_num,by omega,HR'⟩
   case measure=>(simp[intOf];try omega)
  ·obtain rfl:k=fr.length:=by omega
   obtain⟨o,ho⟩:∃o,yC st fr fr.length=o:=⟨_,rfl⟩;have hol:o.length=st:=by rw[←ho,Zv]
   rw[ho]at HR HPo;have HOl:=Lib.hid hol;clear ho hol;go_wp2_with fail;rename World=>w3;go_loopg [9,10,11,12] (st+1) (λkx m _ _ _ wr=>∃(mo:Bool) (n:Nat) (q:List Bool),m=.bool mo/\Hid (q=yM SP n o)/\Hid (mo=false->zn SP q=q)/\Hid (zV q+(if mo=true then 1 else 0)<=kx)/\Hid (RSt w bx q wr));case atStart=>exact⟨true,0,o,rfl,rfl,λh=>(by cases h),by show zV o+1<=st+1;have:=Ya o;have:=HOl.out;omega,HR⟩
   case round =>
    obtain⟨mo,n,q,rfl,HQn,HQs,HQf,HR⟩:=hrel;have HQl:Hid (q.length=st):=by show _=_;rw[HQn.out,Zr,HOl.out]
    cases mo with
    |false =>
     have HE:Hid (q=yT SP o):=zaA HQn.out (HQs.out rfl);go_wp2_with fail;have HRe:Hid (xx wr (w.heap.size+1) (yT SP o)):=by show xx _ _ _;rw[←HE.out];exact HR.out.row
     first|exact HPo.out _ HRe.out HR.out.bel|(go_ret;exact HPo.out _ HRe.out HR.out.bel)
    |true =>
     have HQf':Hid (zV q+1<=gk):=HQf.out;clear HQs HQf;go_wp2_with fail;generalize wr=w4 at HR⊢;go_loopw [10,9,11,12] (λi m _ _ wr=>∃(k:Nat) (mo:Bool),i=.int .i64 k/\k<=ned.length/\m=.bool mo/\Hid ((mo=false/\zE SP q k=q)\/(mo=true/\zV (zE SP q k)<zV q))/\Hid (RSt w bx (zE SP q k) wr)) (λi _ _ _ _=>ned.length-(intOf i).toNat);case atStart=>exact⟨0,false,rfl,Nat.zero_le _,rfl,Or.inl ⟨rfl,qb _ _⟩,by show RSt _ _ _ _;rw[qb];exact HR.out⟩
     case round =>
      clear HR
      (try rename World=>wr)
      obtain⟨k,mo,rfl,hk,rfl,HMo,HR⟩:=hrel;have hbb:=HR.out.box;rw[←HBX.out]at hbb;obtain⟨b0,b1,b2⟩:=zo hbb;clear hbb;by_cases hlt:k<ned.length
      ·obtain⟨bs,os,hsa⟩:=HSA.out.resolve_left (by omega);subst hsa;obtain⟨ag,cg,aS,cs,g0,g1,-,-,-,-⟩:=yz HXE.out rfl hlt;have f0:=za HR.out.bel _ _ g0;have f1:=za HR.out.bel _ _ g1;have HCk:Hid (zE SP q (k+1)=zJ (zE SP q k) (if bk=true then ((ned[k]'hlt).to.toNat,(ned[k]'hlt).fr.toNat) else ((ned[k]'hlt).fr.toNat,(ned[k]'hlt).to.toNat))):=by show _=_;rw[YP SP q (by rw[HSPl.out];exact hlt),HSPg.out k hlt]
       obtain⟨⟨x0,x1⟩,y0,y1⟩:=HEb.out _ (List.getElem_mem hlt);clear g0 g1;generalize (ned[k]'hlt).fr=x at f0 HCk x0 x1;generalize (ned[k]'hlt).to=y at f1 HCk y0 y1;obtain⟨fx,rfl⟩:=Int.eq_ofNat_of_zero_le x0;obtain⟨ty,rfl⟩:=Int.eq_ofNat_of_zero_le y0;simp only[Int.toNat_natCast]at HCk;have hfx:fx<st:=by omega
       have hty:ty<st:=by omega
       clear x0 x1 y0 y1;obtain⟨i,j,hi,hj,hij⟩:∃i j:Nat,i<st/\j<st/\((bk=true/\i=ty/\j=fx)\/(bk=false/\i=fx/\j=ty)):=by
        cases bk with
        |true=>exact⟨ty,fx,hty,hfx,Or.inl ⟨rfl,rfl,rfl⟩⟩
        |false=>exact⟨fx,ty,hfx,hty,Or.inr ⟨rfl,rfl,rfl⟩⟩
       have HCk2:Hid (zE SP q (k+1)=zJ (zE SP q k) (i,j)):=by show _=_;rw[HCk.out];rcases hij with ⟨rfl,rfl,rfl⟩|⟨rfl,rfl,rfl⟩<;>rfl
       clear HCk hfx hty;have HCl:Hid ((zE SP q k).length=st):=by show _=_;rw[Xq,HQl.out]
       obtain⟨C,hC⟩:∃C,zE SP q k=C:=⟨_,rfl⟩;rw[hC]at HMo HR HCk2 HCl;have Hfs:Hid (C.getD j false=false->zV (C.set j true)+1=zV C):=λh=>YA (by rw[HCl.out];exact hj) h;have HCk:Hid (zE SP q (k+1)=if C.getD i false&&!C.getD j false then C.set j true else C):=HCk2.out;have HCc:Hid (∀W,Below wr.heap.size wr W->W.cell? ⟨w.heap.size+1,i,none⟩=some (.bool (C.getD i false))/\W.cell? ⟨w.heap.size+1,j,none⟩=some (.bool (C.getD j false))/\W.frozen? ⟨w.heap.size+1,j,none⟩=false):=λW hW=>⟨(HR.out.below hW).row.cell (by rw[HCl.out];exact hi),(HR.out.below hW).row.cell (by rw[HCl.out];exact hj),(HR.out.below hW).row.free j⟩;clear hC HCk2;generalize C.getD i false=vi at HCk HCc;generalize C.getD j false=vj at HCk HCc Hfs;rcases hij with ⟨rfl,rfl,rfl⟩|⟨rfl,rfl,rfl⟩
       all_goals
        go_upto_region 12 with fail;go_quiet (fail);generalize hWq:World.drewN wr _=wq;have HBq:Hid (Below wr.heap.size wr wq):=by show Below _ _ _;rw[←hWq];exact below_drewN (Below.refl _ _) _
        obtain⟨C0,C1,D1⟩:=HCc.out wq HBq.out;have HRq:=Lib.hid (HR.out.below HBq.out);clear hWq f0 f1 b0 b1 b2 HCc;cases vi with
        |false =>
         have HCk':Hid (zE SP q (k+1)=C):=HCk.out;clear HCk Hfs D1;go_wp2_with fail;go_roundw;case rel=>exact⟨k+1,mo,by go_num,by omega,rfl,by rw[HCk'.out];exact HMo,by rw[HCk'.out];exact HRq⟩
         case measure=>(simp[intOf];try omega)
        |true =>
         cases vj with
         |true =>
          have HCk':Hid (zE SP q (k+1)=C):=HCk.out;clear HCk Hfs D1;go_wp2_with fail;go_roundw;case rel=>exact⟨k+1,mo,by go_num,by omega,rfl,by rw[HCk'.out];exact HMo,by rw[HCk'.out];exact HRq⟩
          case measure=>(simp[intOf];try omega)
         |false =>
          have HCk':Hid (zE SP q (k+1)=C.set j true):=HCk.out;have HMo':Hid (zV (C.set j true)<zV q):=by
           have h1:=Hfs.out rfl;show _<_;rcases HMo.out with ⟨_,h⟩|⟨_,h⟩
           ·rw[h]at h1⊢;omega
           ·omega
          clear HCk Hfs;go_wp2_with fail;go_roundw;case rel=>exact⟨k+1,true,by go_num,by omega,rfl,by rw[HCk'.out];exact Lib.hid (Or.inr ⟨rfl,HMo'.out⟩),by rw[HCk'.out];exact Lib.hid (HRq.out.set j)⟩
          case measure=>(simp[intOf];try omega)
      ·obtain rfl:k=ned.length:=by omega
       have HCa:Hid (zE SP q ned.length=zn SP q):=by show _=_;rw[←HSPl.out,Xp]
       have HQn':Hid (zn SP q=yM SP (n+1) o):=by show _=_;rw[qG,←HQn.out]
       have HR':Hid (RSt w bx (zn SP q) wr):=by show RSt _ _ _ _;rw[←HCa.out];exact HR.out
       rw[HCa.out]at HMo;have HMs:Hid (mo=false->zn SP (zn SP q)=zn SP q):=λh=>by
        rcases HMo.out with ⟨_,h2⟩|⟨h2,_⟩
        ·rw[h2,h2]
        ·rw[h]at h2;cases h2
       have HMf:Hid (zV (zn SP q)+(if mo=true then 1 else 0)<=zV q):=by
        show _<=_;rcases HMo.out with ⟨h1,h2⟩|⟨h1,h2⟩
        ·rw[h1,h2];simp
        ·rw[h1,if_pos rfl];omega
       go_wp2_with fail;go_roundg (zV q);case measure=>have:=HQf'.out;omega
       case rel=>exact⟨mo,n+1,zn SP q,rfl,HQn'.out,HMs.out,HMf.out,HR'.out⟩
theorem ZS {X:World} {a b:Value} {t:TypeId} {k:Nat} (h:k=X.heap.size):(X.alloc (.cells #[a,b] t)).cell? ⟨k,0,none⟩=some a/\(X.alloc (.cells #[a,b] t)).cell? ⟨k,1,none⟩=some b:=by subst h;have e:=zi X (.cells #[a,b] t);exact⟨by rw[zb e];rfl,by rw[zb e];rfl⟩
theorem Xa {X:World} {a b:Value} {t:TypeId} {k:Nat} (h:k=X.heap.size):(X.alloc (.cells #[a,b] t)).drew.cell? ⟨k,0,none⟩=some a/\(X.alloc (.cells #[a,b] t)).drew.cell? ⟨k,1,none⟩=some b:=ZS h
theorem XC (x:Int) (w:World):Calls Tryz.prog 203 #[.int .i64 x] w λe w'=>e=.returned (.bool false)/\w'=w:=by
 have h:(x != x)=false:=by simp
 go_enter Tryz.func203, Tryz.ntmps203;go_wp2_with fail;go_ret;exact⟨rfl,rfl⟩
theorem zck (x y:Int) (w:World):Calls Tryz.prog 129 #[.int .i64 x,.int .i64 y] w λe w'=>e=.returned (.int .i64 (Lib.compareInt x y))/\w'=w:=by
 by_cases h1:x<y
 ·have hv:Hid (Lib.compareInt x y=-1):=by show _=_;unfold Lib.compareInt;rw[if_pos h1]
  go_enter Tryz.func129, Tryz.ntmps129;go_wp2_with (go_at_call 203;refine(XC _ _).mono ?_;rintro e w1 ⟨rfl,rfl⟩);go_ret;exact⟨by rw[hv.out];rfl,rfl⟩
 ·by_cases h2:y<x
  ·have hv:Hid (Lib.compareInt x y=1):=by show _=_;unfold Lib.compareInt;rw[if_neg h1,if_pos h2]
   go_enter Tryz.func129, Tryz.ntmps129;go_wp2_with (go_at_call 203;refine(XC _ _).mono ?_;rintro e w1 ⟨rfl,rfl⟩);go_ret;exact⟨by rw[hv.out];rfl,rfl⟩
  ·have hv:Hid (Lib.compareInt x y=0):=by show _=_;unfold Lib.compareInt;rw[if_neg h1,if_neg h2]
   go_enter Tryz.func129, Tryz.ntmps129;go_wp2_with (go_at_call 203;refine(XC _ _).mono ?_;rintro e w1 ⟨rfl,rfl⟩);go_ret;exact⟨by rw[hv.out];rfl,rfl⟩
theorem zaC (x y:Int) (b:Nat) (w:World) (h0:w.cell? ⟨b,0,none⟩=some (.int .i64 x)) (h1:w.cell? ⟨b,1,none⟩=some (.int .i64 y)):Calls Tryz.prog 128 #[.slice (some ⟨b,0,none⟩) 2 2] w λe w'=>e=.returned (.int .i64 (orZ x y))/\w'=w:=by
 go_enter Tryz.func128, Tryz.ntmps128;go_wp2_with fail;go_loop [8,5] (λi _=>i=.int .i64 0\/(i=.int .i64 1/\Hid (x=0))\/(i=.int .i64 2/\Hid (x=0)/\Hid (y=0))) (λi _=>2-(intOf i).toNat);case atStart=>exact Or.inl rfl
 case round =>
  rcases hrel with rfl|⟨rfl,HX⟩|⟨rfl,HX,HY⟩
  ·by_cases hx:x=0
   ·have HX:=Lib.hid hx;have hxx:(x != 0)=false:=by simp[hx]
    clear hx;go_wp2_with fail;go_round;case rel=>exact Or.inr (Or.inl ⟨by go_num,HX.out⟩)
    case measure=>simp[intOf]
   ·have hv:Hid (orZ x y=x):=by show _=_;unfold orZ;rw[if_neg hx]
    have hxx:(x != 0)=true:=by simp[hx]
    clear hx;go_wp2_with fail;go_ret;exact⟨by rw[hv.out];rfl,rfl⟩
  ·have hv:Hid (orZ x y=y):=by show _=_;unfold orZ;rw[if_pos HX.out]
   by_cases hy:y=0
   ·have HY:=Lib.hid hy;have hyy:(y != 0)=false:=by simp[hy]
    clear hy hv;go_wp2_with fail;go_round;case rel=>exact Or.inr (Or.inr ⟨by go_num,HX.out,HY.out⟩)
    case measure=>simp[intOf]
   ·have hyy:(y != 0)=true:=by simp[hy]
    clear hy;go_wp2_with fail;go_ret;exact⟨by rw[hv.out];rfl,rfl⟩
  ·have hv:Hid (orZ x y=0):=by show _=_;unfold orZ;rw[if_pos HX.out,HY.out]
   go_wp2_with fail;go_ret;exact⟨by rw[hv.out];rfl,rfl⟩
theorem zez (x y:Sg) (w:World):Calls Tryz.prog 205 #[.agg #[.string x.1,.int .i64 x.2],.agg #[.string y.1,.int .i64 y.2]] w λe w'=>e=.returned (.int .i64 (qH x y))/\Below w.heap.size w w':=by
 have hv:Hid (orZ (qF x.1 y.1) (Lib.compareInt x.2 y.2)=qH x y):=rfl;have HS:Hid (∀W,Calls Tryz.prog 135 #[.string x.1,.string y.1] W λe w'=>e=.returned (.int .i64 (qF x.1 y.1))/\w'=W):=λW=>Tryz.strings_Compare x.1 y.1 W;have HI:Hid (∀W,Calls Tryz.prog 129 #[.int .i64 x.2,.int .i64 y.2] W λe w'=>e=.returned (.int .i64 (Lib.compareInt x.2 y.2))/\w'=W):=λW=>zck x.2 y.2 W;have HO:Hid (∀b W,W.cell? ⟨b,0,none⟩=some (.int .i64 (qF x.1 y.1))->W.cell? ⟨b,1,none⟩=some (.int .i64 (Lib.compareInt x.2 y.2))->Calls Tryz.prog 128 #[.slice (some ⟨b,0,none⟩) 2 2] W λe w'=>e=.returned (.int .i64 (qH x y))/\w'=W):=λb W h0 h1=>zaC _ _ b W h0 h1;clear hv;generalize qH x y=R at HO⊢;generalize qF x.1 y.1=c1 at HS HO;generalize Lib.compareInt x.2 y.2=c2 at HI HO;go_enter Tryz.func205, Tryz.ntmps205;go_wp2_with fail
 go_region_with (first
  |(go_at_call 135;refine(HS.out _).mono ?_;rintro e w1 ⟨rfl,rfl⟩)
  |(go_at_call 129;refine(HI.out _).mono ?_;rintro e w1 ⟨rfl,rfl⟩)
  |(go_at_call 128;refine(HO.out _ _ (by first|exact(ZS (by simp)).1|exact(Xa (by simp)).1) (by first|exact(ZS (by simp)).2|exact(Xa (by simp)).2)).mono ?_;rintro e w1 ⟨rfl,rfl⟩))
 all_goals
  go_wp2_with fail;go_ret;exact⟨rfl,bel⟩
theorem zey {α:Type} {c:α->α->Int}:∀{l m:List α} {k:Nat},k<=l.length->k<=m.length->(∀j (h1:j<l.length) (h2:j<m.length),j<k->c (l[j]'h1) (m[j]'h2)=0)->cmpL c l m=cmpL c (l.drop k) (m.drop k):=by
 intro l
 induction l with
 |nil =>
  intro m k h1 _ _;have h0:k=0:=by simpa using h1
  subst h0;simp
 |cons x l ih =>
  intro m k h1 h2 h;cases k with
  |zero=>simp
  |succ k =>
   cases m with
   |nil=>simp at h2
   |cons y m =>have h0:=h 0 (by simp) (by simp) (by omega);simp only[List.getElem_cons_zero]at h0;rw[cmpL,if_pos h0,List.drop_succ_cons,List.drop_succ_cons];refine ih (by simpa using h1) (by simpa using h2) λj a b hj=>?_;have:=h (j+1) (by simpa using a) (by simpa using b) (by omega);simpa using this
theorem ZP {w:World} {l:List Sg} {a:Option Addr} {cap:Nat} (h:yi w l a cap) {b off:Nat} (ha:a=some ⟨b,off,none⟩) {i:Nat} (hi:i<l.length):w.cell? ⟨b,off+i*2,none⟩=some (.string (l[i]'hi).1)/\w.cell? ⟨b,off+i*2+1,none⟩=some (.int .i64 (l[i]'hi).2):=zbe.1 ((Zm.2 h).get ha hi)
theorem zbC (l m:List Sg) (a b:Option Addr) (ca cb:Nat) (w:World) (hL:yi w l a ca) (hM:yi w m b cb) :
 Calls Tryz.prog 204 #[.slice a l.length ca,.slice b m.length cb,.func (.func 205) #[] #[]] w λe w'=>e=.returned (.int .i64 (ZD l m))/\Below w.heap.size w w':=by
 have HL:=Lib.hid hL;have HM:=Lib.hid hM;have hll:=hL.2.1;have hml:=hM.2.1;have HLA:Hid (l.length=0\/∃b off,a=some ⟨b,off,none⟩):=zw.addr hL;have HMA:Hid (m.length=0\/∃b' off,b=some ⟨b',off,none⟩):=zw.addr hM;have HD:Hid (∀k,k<=l.length->k<=m.length->(∀j (h1:j<l.length) (h2:j<m.length),j<k->qH (l[j]'h1) (m[j]'h2)=0)->ZD l m=cmpL qH (l.drop k) (m.drop k)):=λk h1 h2 h=>zey h1 h2 h;clear hL hM;generalize ZD l m=R at HD⊢;go_enter Tryz.func204, Tryz.ntmps204;go_wp2_with fail;go_loopw [13,7,8,9,10] (λi _ _ _ _ wr=>∃k:Nat,i=.int .i64 k/\k<=l.length/\k<=m.length/\Hid (∀j (h1:j<l.length) (h2:j<m.length),j<k->qH (l[j]'h1) (m[j]'h2)=0)/\Hid (Below w.heap.size w wr)) (λi _ _ _ _ _=>l.length-(intOf i).toNat);case atStart=>exact⟨0,rfl,Nat.zero_le _,Nat.zero_le _,λ_ _ _ h=>absurd h (by omega),Below.refl _ _⟩
 case round =>
  obtain⟨k,rfl,hk,hkm,HAl,HBr⟩:=hrel;have hzr:=HBr.out.size;by_cases hlt:k<l.length
  ·obtain⟨bl,ol,ha⟩:=HLA.out.resolve_left (by omega);subst ha;obtain⟨g0,g1⟩:=ZP HL.out rfl hlt;have c0:=za HBr.out _ _ g0;have c1:=za HBr.out _ _ g1;by_cases hltm:k<m.length
   ·obtain⟨bm,om,hb⟩:=HMA.out.resolve_left (by omega);subst hb;obtain⟨g2,g3⟩:=ZP HM.out rfl hltm;have c2:=za HBr.out _ _ g2;have c3:=za HBr.out _ _ g3;have d2:∀o,(wr.alloc o).cell? ⟨bm,om+k*2,none⟩=_:=λo=>Lib.cell?_alloc_some _ c2;have d3:∀o,(wr.alloc o).cell? ⟨bm,om+k*2+1,none⟩=_:=λo=>Lib.cell?_alloc_some _ c3;have HNx:Hid (qH (l[k]'hlt) (m[k]'hltm)=0->∀j (h1:j<l.length) (h2:j<m.length),j<k+1->qH (l[j]'h1) (m[j]'h2)=0):=λhv j h1 h2 hjk=>by
     by_cases e:j=k
     ·subst e;exact hv
     ·exact HAl.out j h1 h2 (by omega)
    have HYx:Hid (qH (l[k]'hlt) (m[k]'hltm)≠0->R=qH (l[k]'hlt) (m[k]'hltm)):=λh=>by rw[HD.out k hk hkm HAl.out,List.drop_eq_getElem_cons hlt,List.drop_eq_getElem_cons hltm,cmpL,if_neg h]
    have HC:Hid (∀W,Calls Tryz.prog 205 #[.agg #[.string (l[k]'hlt).1,.int .i64 (l[k]'hlt).2],.agg #[.string (m[k]'hltm).1,.int .i64 (m[k]'hltm).2]] W λe w'=>e=.returned (.int .i64 (qH (l[k]'hlt) (m[k]'hltm)))/\Below W.heap.size W w'):=λW=>zez _ _ W;clear g0 g1 g2 g3;generalize (l[k]'hlt)=x at c0 c1 HNx HYx HC;generalize (m[k]'hltm)=y at c2 c3 d2 d3 HNx HYx HC;by_cases hc:qH x y=0
    ·have HAl2:=Lib.hid (HNx.out hc);have hcz:(qH x y != 0)=false:=by simp[hc]
     clear HNx HYx hc;generalize qH x y=cz at HC hcz;go_wp2_with (go_at_call 205;go_must (refine(HC.out _).mono ?_;rintro e w5 ⟨rfl,hb5⟩));have HB5:Hid (Below wr.heap.size wr w5):=(((Below.refl wr.heap.size wr).alloc (Nat.le_refl _) _).alloc sz _).trans (hb5.mono sz);go_roundw;case rel=>exact⟨k+1,by go_num,by omega,by omega,HAl2.out,HBr.out.trans (HB5.out.mono hzr)⟩
     case measure=>(simp[intOf];try omega)
    ·have hR:=Lib.hid (HYx.out hc);have hcz:(qH x y != 0)=true:=by simp[hc]
     clear HNx HYx hc;generalize qH x y=cz at HC hcz hR;go_wp2_with (go_at_call 205;go_must (refine(HC.out _).mono ?_;rintro e w5 ⟨rfl,hb5⟩));have HB5:Hid (Below wr.heap.size wr w5):=(((Below.refl wr.heap.size wr).alloc (Nat.le_refl _) _).alloc sz _).trans (hb5.mono sz);go_ret;exact⟨by rw[hR.out];rfl,HBr.out.trans (HB5.out.mono hzr)⟩
   ·obtain rfl:k=m.length:=by omega
    have hR:R=1:=by rw[HD.out m.length hk hkm HAl.out,List.drop_eq_getElem_cons hlt,List.drop_length];rfl
    subst hR;clear g0 g1;generalize (l[m.length]'hlt)=x at c0 c1;go_wp2_with fail;have HB5:Hid (Below wr.heap.size wr (wr.alloc (.cells #[.string x.1,.int .i64 x.2] 68))):=(Below.refl wr.heap.size wr).alloc (Nat.le_refl _) _;go_ret;exact⟨rfl,HBr.out.trans (HB5.out.mono hzr)⟩
  ·obtain rfl:k=l.length:=by omega
   have hR:=Lib.hid (HD.out l.length hk hkm HAl.out);by_cases hlm:l.length<m.length
   ·have hR2:R=-1:=by rw[hR.out,List.drop_length,List.drop_eq_getElem_cons hlm];rfl
    subst hR2;go_wp2_with fail;go_ret;exact⟨rfl,HBr.out⟩
   ·have hR2:R=0:=by rw[hR.out,List.drop_length,List.drop_eq_nil_of_le (by omega)];rfl
    subst hR2;go_wp2_with fail;go_ret;exact⟨rfl,HBr.out⟩
theorem zc7 (l m:List Sg) (a b:Option Addr) (ca cb:Nat) (w:World) (hL:yi w l a ca) (hM:yi w m b cb) :
 Calls Tryz.prog 130 #[.slice a l.length ca,.slice b m.length cb] w λe w'=>e=.returned (.int .i64 (ZD l m))/\Below w.heap.size w w':=by
 have HC:=Lib.hid (zbC l m a b ca cb w hL hM);clear hL hM;generalize ZD l m=R at HC⊢;go_enter Tryz.func130, Tryz.ntmps130;go_wp2_with fail;refine HC.out.mono ?_;rintro e w1 ⟨rfl,hb⟩;have HB:=Lib.hid hb;clear hb;go_wp2_with fail;go_ret;exact⟨rfl,HB.out⟩
theorem zc8 (x y:yV) (a b:Option Addr) (ca cb:Nat) (w:World) (hL:yi w x.env a ca) (hM:yi w y.env b cb) :
 Calls Tryz.prog 74 #[.agg #[.int .i64 x.state,.slice a x.env.length ca],.agg #[.int .i64 y.state,.slice b y.env.length cb]] w λe w'=>e=.returned (.int .i64 (zu x y))/\Below w.heap.size w w':=by
 have HE:Hid (∀W,Below w.heap.size w W->Calls Tryz.prog 130 #[.slice a x.env.length ca,.slice b y.env.length cb] W λe w'=>e=.returned (.int .i64 (ZD x.env y.env))/\Below W.heap.size W w'/\Below w.heap.size w w'):=λW hW=>(zc7 x.env y.env a b ca cb W (hL.keep (za hW)) (hM.keep (za hW))).mono λe w' h=>⟨h.1,h.2,hW.trans (h.2.mono hW.size)⟩;have HI:Hid (∀W,Calls Tryz.prog 129 #[.int .i64 x.state,.int .i64 y.state] W λe w'=>e=.returned (.int .i64 (Lib.compareInt x.state y.state))/\w'=W):=λW=>zck x.state y.state W;have HO:Hid (∀b W,W.cell? ⟨b,0,none⟩=some (.int .i64 (Lib.compareInt x.state y.state))->W.cell? ⟨b,1,none⟩=some (.int .i64 (ZD x.env y.env))->Calls Tryz.prog 128 #[.slice (some ⟨b,0,none⟩) 2 2] W λe w'=>e=.returned (.int .i64 (zu x y))/\w'=W):=λb W h0 h1=>zaC _ _ b W h0 h1;clear hL hM;generalize zu x y=R at HO⊢;generalize ZD x.env y.env=c1 at HE HO;generalize Lib.compareInt x.state y.state=c2 at HI HO;go_enter Tryz.func74, Tryz.ntmps74;go_wp2_with fail;generalize hW2:(w.alloc (.cells #[.int .i64 x.state,.slice a x.env.length ca] 134)).alloc (.cells #[.int .i64 y.state,.slice b y.env.length cb] 134)=W2;have hB2:Below w.heap.size w W2:=by rw[←hW2];exact((Below.refl _ _).alloc (Nat.le_refl _) _).alloc (by simp) _
 have HX:Hid (W2.heap[w.heap.size]? = some (.cells #[.int .i64 x.state,.slice a x.env.length ca] 134 (0,0))):=by show _=_;rw[←hW2];rw[Below.heap_alloc _ _ _ (by simp)];exact zm _ _ _ rfl
 have HY:Hid (W2.heap[w.heap.size+1]? = some (.cells #[.int .i64 y.state,.slice b y.env.length cb] 134 (0,0))):=by show _=_;rw[←hW2];exact zm _ _ _ (by simp)
 have hz2:w.heap.size+1<W2.heap.size:=by rw[←hW2];simp
 have hz2b:=hB2.size;have HALL:Hid (∀W,Below W2.heap.size W2 W->W.cell? ⟨w.heap.size,0,none⟩=some (.int .i64 x.state)/\W.cell? ⟨w.heap.size,1,none⟩=some (.slice a x.env.length ca)/\W.cell? ⟨w.heap.size+1,0,none⟩=some (.int .i64 y.state)/\W.cell? ⟨w.heap.size+1,1,none⟩=some (.slice b y.env.length cb)):=λW hW=>by
  have e1:=(hW.block w.heap.size (by omega)).trans HX.out;have e2:=(hW.block (w.heap.size+1) (by omega)).trans HY.out;refine⟨?_,?_,?_,?_⟩
  ·simp[World.cell?,e1]
  ·simp[World.cell?,e1]
  ·simp[World.cell?,e2]
  ·simp[World.cell?,e2]
 have HE2:Hid (∀W,Below W2.heap.size W2 W->Calls Tryz.prog 130 #[.slice a x.env.length ca,.slice b y.env.length cb] W λe w'=>e=.returned (.int .i64 c1)/\Below W.heap.size W w'/\Below W2.heap.size W2 w'):=λW hW=>(HE.out W (hB2.trans (hW.mono hz2b))).mono λe w' h=>⟨h.1,h.2.1,hW.trans (h.2.1.mono hW.size)⟩;have HB2:=Lib.hid hB2;obtain⟨b0,b1,b2,b3⟩:=HALL.out W2 (Below.refl _ _);clear hW2 HE hB2
 go_region_held3 (λw'=>Below W2.heap.size W2 w'/\w'.cell? ⟨w.heap.size,0,none⟩=some (.int .i64 x.state)/\w'.cell? ⟨w.heap.size,1,none⟩=some (.slice a x.env.length ca)/\w'.cell? ⟨w.heap.size+1,0,none⟩=some (.int .i64 y.state)/\w'.cell? ⟨w.heap.size+1,1,none⟩=some (.slice b y.env.length cb))
  ((refine(λh=>⟨h,HALL.out _ h⟩) ?_;first|assumption|exact bel))
  (first
   |(go_at_call 130;refine(HE2.out _ bel).mono ?_;rintro e w1 ⟨rfl,hb1,hB1⟩;have hs1:=hB1.size)
   |(go_at_call 129;refine(HI.out _).mono ?_;rintro e w1 ⟨rfl,rfl⟩)
   |(go_at_call 128;refine(HO.out _ _ (by first|exact(ZS (by simp)).1|exact(Xa (by simp)).1) (by first|exact(ZS (by simp)).2|exact(Xa (by simp)).2)).mono ?_;rintro e w1 ⟨rfl,rfl⟩))
 all_goals
  go_wp2_with fail;go_ret;refine⟨rfl,HB2.out.trans (Below.mono ?_ hz2b)⟩;exact bel
end Go.Proofs.YtnfkbliokjjggaaGreatDoor
