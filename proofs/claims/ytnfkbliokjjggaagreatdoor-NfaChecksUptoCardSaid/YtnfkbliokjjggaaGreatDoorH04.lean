/- sum, known, operate. -/
import Derived.Test.YtnfkbliokjjggaaGreatDoorH03
import Derived.StillTailTactics
import Derived.Deep.RegionHeld3
set_option maxHeartbeats 4000000
set_option maxRecDepth 100000
set_option linter.unusedSimpArgs false
set_option linter.unusedVariables false
set_option linter.unnecessarySimpa false
namespace Go.Proofs.YtnfkbliokjjggaaGreatDoor
open Go.RowKit
def sumTo (l:List (ByteArray×Int)) (s:ByteArray):Nat->Int
 |0=>0
 |k+1=>zhn (sumTo l s k) ((atS l s k).getD 0)
def zjt (l:List (ByteArray×Int)) (s:ByteArray):Int:=sumTo l s 8
theorem ziG (l:List (ByteArray×Int)) (a:Option Addr) (cap:Nat) (s:ByteArray) (w:World) (hs:s.size<=1073741824) (hE:yi w l a cap) :
 Calls Tryz.prog 294 #[.agg #[.slice a l.length cap],.string s] w λe w'=>e=.returned (.int .i64 (zjt l s))/\Below w.heap.size w w':=by
 have HE:=Lib.hid hE;clear hE;go_enter Tryz.func294, Tryz.ntmps294;go_wp2_with fail;go_loopw [5,9] (λn i wr=>∃k:Nat,i=.int .i64 k/\k<=8/\n=.int .i64 (sumTo l s k)/\Below w.heap.size w wr/\w.heap.size<wr.heap.size/\wr.cell? ⟨w.heap.size,0,none⟩=some (.slice a l.length cap)) (λ_ i _=>8-(intOf i).toNat);case atStart=>exact⟨0,rfl,by omega,rfl,bel,sz,by simp⟩
 case round =>
  obtain⟨k,rfl,hk,rfl,hBr,hz,hc⟩:=hrel;have HBr:=Lib.hid hBr;clear hBr;by_cases hlt:k<8
  ·have hA:=fr (W0:=w) (B:=w.heap.size) (zem l a cap s k wr hs (HE.out.keep (za HBr.out))) HBr.out (by omega);have HA:=Lib.hid hA;have HSt:Hid (sumTo l s (k+1)=zhn (sumTo l s k) ((atS l s k).getD 0)):=rfl;clear hA;go_wp2_with (first|(go_at_call 293;refine HA.out.mono ?_;rintro e w1 ⟨rfl,hc1,hf1,hz1,hb1⟩)|(go_at_call 314;refine(zcf _ _ _).mono ?_;rintro e w' ⟨rfl,rfl⟩));go_roundw;case rel=>exact⟨k+1,by go_num,by omega,by rw[HSt.out],by assumption,by omega,by simp[*]⟩
   case measure=>simp[intOf];omega
  ·obtain rfl:k=8:=by omega
   go_wp2_with fail;go_ret;exact⟨rfl,HBr.out⟩
def zcS (p:ByteArray->Bool) (l:List ByteArray) (k:Nat):Prop:=∀j (hj:j<l.length),j<k->p (l[j]'hj)=true
theorem zcg {p:ByteArray->Bool} {l:List ByteArray} {k:Nat} (h:zcS p l k) (hk:k<l.length) (hp:p (l[k]'hk)=true):zcS p l (k+1):=by
 intro j hj hjk;by_cases e:j=k
 ·subst e;exact hp
 ·exact h j hj (by omega)
theorem zch {p:ByteArray->Bool} {l:List ByteArray} (h:zcS p l l.length):l.all p=true:=by rw[List.all_eq_true];intro x hx;obtain⟨i,hi,rfl⟩:=List.mem_iff_getElem.1 hx;exact h i hi hi
theorem zav {p:ByteArray->Bool} {l:List ByteArray} {k:Nat} (_h:zcS p l k) (hk:k<l.length) (hp:p (l[k]'hk)=false):l.all p=false:=by rw[List.all_eq_false];exact⟨_,List.getElem_mem hk,by simp[hp]⟩
noncomputable def XD (l:List (ByteArray×Int)) (e:Ex):Bool:=(zG [2] e).all (λs=>(xv l s).isSome)&&(zG [3,24] e).all (λs=>(atS l s 0).isSome)
theorem ze6 (ops:List Int) (l:List Ex):∀(st:List ByteArray) (s:ByteArray),s∈l.foldl (zI ops) st->s∈st\/∃e∈l,e.name=s:=by
 induction l with
 |nil=>intro st s h;exact Or.inl h
 |cons e l ih =>
  intro st s h;rcases ih _ _ h with h|⟨e',he',rfl⟩
  ·unfold zI at h;split at h
   ·rcases List.mem_append.1 h with h|h
    ·exact Or.inl h
    ·exact Or.inr ⟨e,List.mem_cons_self,(List.mem_singleton.1 h).symm⟩
   ·exact Or.inl h
  ·exact Or.inr ⟨e',List.mem_cons_of_mem _ he',rfl⟩
theorem X9 (w:World) (e:Ex):∀(a:Option Addr) (cap:Nat),yA w e a cap->∀x∈e.nodes,x.name.size<=1073741824:=by
 induction e using Ex.ind with
 |h e ih =>
  intro a cap hE x hx;rw[Ex.nodes_eq]at hx;rcases List.mem_cons.1 hx with rfl|hx
  ·exact hE.1
  ·obtain⟨l,hl,hxl⟩:=List.mem_flatten.1 hx;obtain⟨e',he',rfl⟩:=List.mem_map.1 hl;obtain⟨i,hi,rfl⟩:=List.mem_iff_getElem.1 he';obtain⟨b,off,ha⟩:=hE.2.addr.resolve_left (by omega);obtain⟨a',cap',_,_,_,_,hX⟩:=hE.2.get ha hi;exact ih _ he' a' cap' hX x hxl
theorem YD {w:World} {e:Ex} {a:Option Addr} {cap:Nat} (hE:yA w e a cap) (ops:List Int):∀s∈zG ops e,s.size<=1073741824:=by
 intro s hs;rcases ze6 ops _ _ _ hs with h|⟨x,hx,rfl⟩
 ·simp at h
 ·exact X9 w e a cap hE x hx
theorem ze0 (l:List (ByteArray×Int)) (a:Option Addr) (cap:Nat) (op n:Int) (s:ByteArray) (args:List Ex) (ae:Option Addr) (ce:Nat) (w:World) (hS:yi w l a cap) (hE:yA w (.mk op n s args) ae ce) (hn:(Ex.mk op n s args).nodes.length<=1073741824) :
 Calls Tryz.prog 254 #[.agg #[.slice a l.length cap],.agg #[.int .i64 op,.int .i64 n,.string s,.slice ae args.length ce]] w λe w'=>e=.returned (.bool (XD l (.mk op n s args)))/\Below w.heap.size w w':=by
 have HS:=Lib.hid hS;have HE:=Lib.hid hE;have hN:=λW (hW:Below w.heap.size w W) (hz:w.heap.size<=W.heap.size)=>fr (W0:=w) (B:=w.heap.size) (Q:=λ_=>True) ((Xc op n s args ae ce W (hE.keep (za hW)) hn).mono λe w' h=>(⟨trivial,h.2⟩:True/\_)) hW hz;have HNs:=Lib.hid (YD hE [2]);have HAs:=Lib.hid (YD hE [3,24]);have Hn:=Lib.hid hn;have HK:Hid (XD l (.mk op n s args)=((zG [2] (.mk op n s args)).all (λs=>(xv l s).isSome)&&(zG [3,24] (.mk op n s args)).all (λs=>(atS l s 0).isSome))):=rfl;clear hS hE hn hN;go_enter Tryz.func254, Tryz.ntmps254;go_wp2_with fail;refine(Xc op n s args ae ce _ (HE.out.keep (za bel)) Hn.out).mono ?_;rintro e w1 ⟨⟨a1,k1,rfl,hs1⟩,hb1⟩;have hbw:Below w.heap.size w w1:=Below.trans (b:=(w.alloc _).alloc _) bel (hb1.mono sz);have hz1:=hb1.size;simp only[World.size_alloc]at hz1;have hc0:w1.cell? ⟨w.heap.size,0,none⟩=some (.slice a l.length cap):=(hb1.cell (by simp;omega)).trans (by simp);have hbx:w1.heap[w.heap.size+1]? = some (.cells #[.int .i64 op,.int .i64 n,.string s,.slice ae args.length ce] 24):=(hb1.block _ (by simp)).trans (zm _ _ _ (by simp));generalize zG [2] (.mk op n s args)=N at hs1 HNs HK;have hNl:=hs1.2.1;have hNa:=hs1.addr;have HS1:=Lib.hid hs1;have HNa:=Lib.hid hNa;have HBW:=Lib.hid hbw
 have HBX:=Lib.hid hbx;have HC0:=Lib.hid hc0;clear hs1 hbw hb1 hbx hNa hc0;go_wp2_with fail;go_loopw [16] (λi wr=>∃k:Nat,i=.int .i64 k/\k<=N.length/\zcS (λs=>(xv l s).isSome) N k/\Below w1.heap.size w1 wr) (λi _=>N.length-(intOf i).toNat);case atStart=>exact⟨0,rfl,Nat.zero_le _,λ_ _ h=>absurd h (by omega),Below.refl _ _⟩
 case round =>
  obtain⟨k,rfl,hk,hall,hBr⟩:=hrel;have hzr:=hBr.size;have hc0:wr.cell? ⟨w.heap.size,0,none⟩=some (.slice a l.length cap):=(hBr.cell (by simp;omega)).trans HC0.out;by_cases hlt:k<N.length
  ·obtain⟨b1,o1,ha1⟩:=HNa.out.resolve_left (by omega);subst ha1;have hcs:=(HS1.out.keep (za hBr)).get rfl hlt;have hbr':Below w.heap.size w wr:=HBW.out.trans (hBr.mono HBW.out.size);have hF:=fr (W0:=w1) (B:=w1.heap.size) (QY l a cap (N[k]'hlt) wr (HS.out.keep (za hbr'))) hBr hzr;have HF:=Lib.hid hF;have HA:=Lib.hid hall;clear hF hBr hall hbr';cases hf:(xv l (N[k]'hlt)).isSome
   ·have hno:=zav HA.out hlt hf;have HNo:=Lib.hid hno;clear hno;go_wp2_with (go_at_call 292;refine HF.out.mono ?_;rintro e w2 ⟨rfl,hc2,hf2,hz2,hb2⟩;have HB2:=Lib.hid hb2;clear hb2);go_ret;exact⟨by rw[HK.out,HNo.out];rfl,HBW.out.trans ((by assumption:Hid (Below w1.heap.size w1 _)).out.mono HBW.out.size)⟩
   ·have hyes:=zcg HA.out hlt hf;have HYes:=Lib.hid hyes;clear hyes;go_wp2_with (go_at_call 292;refine HF.out.mono ?_;rintro e w2 ⟨rfl,hc2,hf2,hz2,hb2⟩;have HB2:=Lib.hid hb2;clear hb2);go_roundw;case rel=>exact⟨k+1,by go_num,by omega,HYes.out,(by assumption:Hid (Below w1.heap.size w1 _)).out⟩
    case measure=>simp[intOf];omega
  ·obtain rfl:k=N.length:=by omega
   have hall':=zch hall;have HK2:Hid (XD l (.mk op n s args)=(zG [3,24] (.mk op n s args)).all (λs=>(atS l s 0).isSome)):=by show _=_;rw[HK.out,hall'];rfl
   have hbr':Below w.heap.size w wr:=HBW.out.trans (hBr.mono HBW.out.size);have hbx:=(hBr.block _ (by omega)).trans HBX.out;have b0:wr.cell? ⟨w.heap.size+1,0,none⟩=some (.int .i64 op):=by simp[World.cell?,hbx]
   have b1:wr.cell? ⟨w.heap.size+1,1,none⟩=some (.int .i64 n):=by simp[World.cell?,hbx]
   have b2:wr.cell? ⟨w.heap.size+1,2,none⟩=some (.string s):=by simp[World.cell?,hbx]
   have b3:wr.cell? ⟨w.heap.size+1,3,none⟩=some (.slice ae args.length ce):=by simp[World.cell?,hbx]
   have HBr:=Lib.hid hbr';clear hall hall' hBr hbx hbr';go_wp2_with fail;refine(zcT op n s args ae ce _ (HE.out.keep (za HBr.out)) Hn.out).mono ?_;rintro e w3 ⟨⟨a3,k3,rfl,hs3⟩,hb3⟩;have hbw3:Below w.heap.size w w3:=HBr.out.trans (hb3.mono HBr.out.size);have hz3:=hb3.size;have hc3:w3.cell? ⟨w.heap.size,0,none⟩=some (.slice a l.length cap):=(hb3.cell (by simp;omega)).trans hc0;generalize zG [3,24] (.mk op n s args)=M at hs3 HAs HK2;have hMl:=hs3.2.1;have HMa:=Lib.hid hs3.addr;have HS3:=Lib.hid hs3;have HBW3:=Lib.hid hbw3;have HC3:=Lib.hid hc3;have hzw:w.heap.size<w3.heap.size:=by omega
   clear hs3 hbw3 hb3 hc3 b0 b1 b2 b3 hc0;go_wp2_with fail;go_loopw [32] (λi wq=>∃k:Nat,i=.int .i64 k/\k<=M.length/\zcS (λs=>(atS l s 0).isSome) M k/\Below w3.heap.size w3 wq) (λi _=>M.length-(intOf i).toNat);case atStart=>exact⟨0,rfl,Nat.zero_le _,λ_ _ h=>absurd h (by omega),Below.refl _ _⟩
   case round =>
    obtain⟨k,rfl,hk,hall,hBq⟩:=hrel;have hzq:=hBq.size;have hc0:wr.cell? ⟨w.heap.size,0,none⟩=some (.slice a l.length cap):=(hBq.cell (by simp;omega)).trans HC3.out;by_cases hlt:k<M.length
    ·obtain⟨b1,o1,ha1⟩:=HMa.out.resolve_left (by omega);subst ha1;have hcs:=(HS3.out.keep (za hBq)).get rfl hlt;have hbr':Below w.heap.size w wr:=HBW3.out.trans (hBq.mono HBW3.out.size);have hF:=fr (W0:=w3) (B:=w3.heap.size) (zem l a cap (M[k]'hlt) 0 wr (HAs.out _ (List.getElem_mem hlt)) (HS.out.keep (za hbr'))) hBq hzq;have HF:=Lib.hid hF;have HA:=Lib.hid hall;clear hF hBq hall hbr';cases hf:(atS l (M[k]'hlt) 0).isSome
     ·have hno:=zav HA.out hlt hf;have HNo:=Lib.hid hno;clear hno;go_wp2_with (go_at_call 293;refine HF.out.mono ?_;rintro e w4 ⟨rfl,hc2,hf2,hz2,hb2⟩;have HB2:=Lib.hid hb2;clear hb2);go_ret;exact⟨by rw[HK2.out,HNo.out];rfl,HBW3.out.trans ((by assumption:Hid (Below w3.heap.size w3 _)).out.mono HBW3.out.size)⟩
     ·have hyes:=zcg HA.out hlt hf;have HYes:=Lib.hid hyes;clear hyes;go_wp2_with (go_at_call 293;refine HF.out.mono ?_;rintro e w4 ⟨rfl,hc2,hf2,hz2,hb2⟩;have HB2:=Lib.hid hb2;clear hb2);go_roundw;case rel=>exact⟨k+1,by go_num,by omega,HYes.out,(by assumption:Hid (Below w3.heap.size w3 _)).out⟩
      case measure=>simp[intOf];omega
    ·obtain rfl:k=M.length:=by omega
     have hall':=zch hall;have HA:=Lib.hid hall';have HBq:=Lib.hid hBq;clear hall hall' hBq;go_wp2_with fail;go_ret;exact⟨by rw[HK2.out,HA.out];rfl,HBW3.out.trans (HBq.out.mono HBW3.out.size)⟩
def yP (x:Int):List Int->Int
 |a::b::r=>if a<=x/\x<=b then 1 else yP x r
 |_=>0
def yL (op:Int) (l:List Int):Int :=
 if op=22 then (if l.getD 0 0≠0 then l.getD 1 0 else l.getD 2 0)
 else if op=23 then yP (l.getD 0 0) (l.drop 1)
 else if l.length=1 then YJ op (l.getD 0 0) else Yz op (l.getD 0 0) (l.getD 1 0)
def IntsIn (w:World) (l:List Int) (a:Option Addr) (cap:Nat):Prop:=zw 1 l.length a cap (λi b o=>∃n,l[i]? = some n/\w.cell? ⟨b,o,none⟩=some (.int .i64 n))
theorem IntsIn.keep {w w':World} (hk:∀a v,w.cell? a=some v->w'.cell? a=some v) {l:List Int} {a:Option Addr} {cap:Nat} (h:IntsIn w l a cap):IntsIn w' l a cap :=
 h.mono λ_ _ _ _ ⟨s,hs,hp⟩=>⟨s,hs,hk _ _ hp⟩
theorem IntsIn.get {w:World} {l:List Int} {a:Option Addr} {cap:Nat} (h:IntsIn w l a cap) {b off:Nat} (ha:a=some ⟨b,off,none⟩) {i:Nat} (hi:i<l.length):w.cell? ⟨b,off+i,none⟩=some (.int .i64 (l.getD i 0)):=by
 rcases h.2.2 with h|⟨b',off',ha',hq⟩
 ·omega
 ·rw[ha]at ha';simp only[Option.some.injEq,Addr.mk.injEq,and_true]at ha';obtain⟨rfl,rfl⟩:=ha';obtain⟨e',he',hp⟩:=hq i hi;rw[List.getD_eq_getElem?_getD,he'];rw[Nat.mul_one]at hp;exact hp
theorem zbI {w:World} {base:Nat} {e:TypeId} {v:Value} {l:List Int} (h:w.ownsRow base e 1 v l.length (l.map (Value.int .i64))) (hn:l.length<=1073741824):∃a cap,v=.slice a l.length cap/\IntsIn w l a cap:=by obtain⟨a,cap,hv,hs⟩:=y6 h hn;refine⟨a,cap,hv,hs.mono λi b o hi hq=>?_⟩;have:=hq 0 (by omega);exact⟨l[i],List.getElem?_eq_getElem hi,by simpa [hi] using this⟩
theorem zbU (op:Int) (l:List Int) (a:Option Addr) (cap:Nat) (w:World) (hE:IntsIn w l a cap) (h1:1<=l.length) (h22:op=22->3<=l.length) (hr:∀i,0<=l.getD i 0/\l.getD i 0<65536) :
 Calls Tryz.prog 295 #[.int .i64 op,.slice a l.length cap] w λe w'=>e=.returned (.int .i64 (yL op l))/\Below w.heap.size w w':=by
 have hlen:=hE.2.1;obtain⟨b,off,ha⟩:=hE.addr.resolve_left (by omega);subst ha;have g0:=hE.get rfl (show 0<l.length by omega);rw[Nat.add_zero]at g0;by_cases e22:op=22
 ·have h3:=h22 e22;have g1:=hE.get rfl (show 1<l.length by omega);have g2:=hE.get rfl (show 2<l.length by omega);have HO:Hid (yL op l=if l.getD 0 0≠0 then l.getD 1 0 else l.getD 2 0):=if_pos e22;clear hE hr h22;generalize l.getD 0 0=x0 at g0 HO;generalize l.getD 1 0=x1 at g1 HO;generalize l.getD 2 0=x2 at g2 HO;by_cases z:x0=0
  all_goals
   go_enter Tryz.func295, Tryz.ntmps295;go_wp2_with fail;go_ret;exact⟨by rw[HO.out];first|(rw[if_neg (by simpa using z)];rfl)|(rw[if_pos (by simpa using z)];rfl),Below.refl _ _⟩
 ·by_cases e23:op=23
  ·have HO:Hid (yL op l=yP (l.getD 0 0) (l.drop 1)):=by
    show _=_;unfold yL;rw[if_neg e22,if_pos e23]
   have HE:=Lib.hid hE;clear hE hr h22;generalize hx0:l.getD 0 0=x0 at g0 HO;clear hx0 e22;subst e23;go_enter Tryz.func295, Tryz.ntmps295;go_wp2_with fail;go_loopw [5] (λi wr=>∃k:Nat,i=.int .i64 ((2*k+1:Nat):Int)/\2*k+1<=l.length/\yP x0 (l.drop 1)=yP x0 (l.drop (2*k+1))/\Below w.heap.size w wr) (λi _=>l.length-(intOf i).toNat);case atStart=>exact⟨0,rfl,h1,rfl,Below.refl _ _⟩
   case round =>
    obtain⟨k,rfl,hk,hI,hBr⟩:=hrel;have HI:=Lib.hid hI;have HBr:=Lib.hid hBr;have g0':=(hBr.cell (p:=⟨b,off,none⟩) (World.block_lt_of_cell? _ _ g0)).trans g0;clear hI hBr;by_cases hlt:2*k+2<l.length
    ·have kk:=za HBr.out;have hE':=HE.out.keep kk;have gA:=hE'.get rfl (show 2*k+1<l.length by omega);have gB:=hE'.get rfl (show 2*k+1+1<l.length by omega);have hdrop:l.drop (2*k+1)=l.getD (2*k+1) 0::l.getD (2*k+1+1) 0::l.drop (2*(k+1)+1):=by
      rw[List.drop_eq_getElem_cons (by omega),List.drop_eq_getElem_cons (i:=2*k+1+1) (by omega)];rw[List.getD_eq_getElem?_getD,List.getD_eq_getElem?_getD,List.getElem?_eq_getElem (by omega),List.getElem?_eq_getElem (by omega)];rfl
     have HD:=Lib.hid hdrop;clear hE' kk hdrop;generalize l.getD (2*k+1) 0=xa at gA HD;generalize l.getD (2*k+1+1) 0=xb at gB HD;by_cases ca:xa<=x0
     ·by_cases cb:x0<=xb
      ·have hfin:yP x0 (l.drop 1)=1:=by rw[HI.out,HD.out];unfold yP;rw[if_pos ⟨ca,cb⟩]
       have HF:=Lib.hid hfin;clear hfin;go_wp2_with fail;go_quiet (fail);go_wp2_with fail;go_ret;exact⟨by rw[HO.out,HF.out];rfl,below_drewN HBr.out _⟩
      ·have hst:yP x0 (l.drop 1)=yP x0 (l.drop (2*(k+1)+1)):=by rw[HI.out,HD.out,yP,if_neg (λh=>cb h.2)]
       have HF:=Lib.hid hst;clear hst;go_wp2_with fail;go_quiet (fail);go_wp2_with fail;go_roundw;case rel=>exact⟨k+1,by go_num,by omega,HF.out,below_drewN HBr.out _⟩
       case measure=>simp[intOf];omega
     ·have hst:yP x0 (l.drop 1)=yP x0 (l.drop (2*(k+1)+1)):=by rw[HI.out,HD.out,yP,if_neg (λh=>ca h.1)]
      have HF:=Lib.hid hst;have hd:decide (xa<=x0)=false:=by simpa using ca
      clear hst;go_wp2_with fail;go_quiet (fail);go_wp2_with fail;go_roundw;case rel=>exact⟨k+1,by go_num,by omega,HF.out,below_drewN HBr.out _⟩
      case measure=>simp[intOf];omega
    ·have hend:yP x0 (l.drop (2*k+1))=0:=by
      match hm:l.drop (2*k+1) with
      | []=>rfl
      | [_]=>rfl
      |_::_::_ =>have:=congrArg List.length hm;simp at this;omega
     have HD:=Lib.hid hend;clear hend;go_wp2_with fail;go_ret;exact⟨by rw[HO.out,HI.out,HD.out];rfl,HBr.out⟩
  ·by_cases h1':l.length=1
   ·have HO:Hid (yL op l=YJ op (l.getD 0 0)):=by
     show _=_;unfold yL;rw[if_neg e22,if_neg e23,if_pos h1']
    clear hE hr h22;generalize l.getD 0 0=x0 at g0 HO;go_enter Tryz.func295, Tryz.ntmps295;go_wp2_with (go_at_call 315;go_must (refine(fr (W0:=w) (B:=w.heap.size) (zdS _ _ _) bel sz).mono ?_;rintro e w1 ⟨rfl,hc1,hf1,hz1,hb1⟩;try simp only[World.size_alloc,World.size_setCell,World.size_drew,World.heap_drewN]at hz1;try (have hzl0:w.heap.size<w1.heap.size:=by omega);try (have hzl1:w.heap.size+1<w1.heap.size:=by omega);try (have hzl2:w.heap.size+2<w1.heap.size:=by omega);try (have hzl3:w.heap.size+3<w1.heap.size:=by omega);try (have hzl4:w.heap.size+4<w1.heap.size:=by omega);try (have hzl5:w.heap.size+5<w1.heap.size:=by omega)));go_ret;exact⟨by rw[HO.out];rfl,by assumption⟩
   ·have HO:Hid (yL op l=Yz op (l.getD 0 0) (l.getD 1 0)):=by
     show _=_;unfold yL;rw[if_neg e22,if_neg e23,if_neg h1']
    have g1:=hE.get rfl (show 1<l.length by omega);obtain⟨r0,r0'⟩:=hr 0;obtain⟨r1,r1'⟩:=hr 1;clear hE hr h22;generalize l.getD 0 0=x0 at g0 HO r0 r0';generalize l.getD 1 0=x1 at g1 HO r1 r1';go_enter Tryz.func295, Tryz.ntmps295;go_wp2_with fail;go_quiet ((go_at_call 316;exact Calls.quiet_of_same ((zdb op x0 x1 r0 r0' r1 r1' _).mono λe w' h=>⟨h.1,h.2.symm⟩)));go_wp2_with fail;go_ret;exact⟨by rw[HO.out];rfl,below_drewN (Below.refl _ _) _⟩
def OkE (e:Ex):Prop:=∀x∈e.nodes,xQ x=0
theorem Xx (l:List Ex):yj l=0->∀x∈l,xQ x=0:=by
 induction l with
 |nil=>intro _ x hx;cases hx
 |cons e l ih =>
  intro h x hx;unfold yj at h;by_cases he:xQ e=0
  ·rw[if_pos he]at h;rcases List.mem_cons.1 hx with rfl|hx
   ·exact he
   ·exact ih h x hx
  ·rw[if_neg he]at h;exact absurd h he
theorem zg9 {e:Ex} (h:zD e=0):OkE e:=by
 unfold zD at h;split at h
 ·simp at h
 ·exact Xx _ h
theorem OkE.self {e:Ex} (h:OkE e):xQ e=0:=h e (by rw[Ex.nodes_eq];exact List.mem_cons_self)
theorem OkE.arg {e:Ex} (h:OkE e) {a:Ex} (ha:a∈e.args):OkE a:=λx hx=>h x (by rw[Ex.nodes_eq];exact List.mem_cons_of_mem _ (List.mem_flatten.2 ⟨_,List.mem_map.2 ⟨a,ha,rfl⟩,hx⟩))
theorem Q8 {e:Ex} (h:xQ e=0):1<=e.op/\e.op<=25/\(e.op=1->0<=e.n/\e.n<=65535)/\xJ e.op e.args.length=true:=by
 unfold xQ at h;split at h
 ·simp at h
 ·rename_i h1;split at h
  ·simp at h
  ·rename_i h2;split at h
   ·simp at h
   ·rename_i h3;refine⟨by omega,by omega,λe1=>?_,?_⟩
    ·omega
    ·cases hb:xJ e.op e.args.length
     ·exact absurd (Or.inr hb) h3
     ·rfl
theorem zbT {op:Int} {n:Nat} (h:xJ op n=true) (h1:1<=op) (h2:op<=25):(op=3->n=1)/\(op=22->n=3)/\(op≠1->op≠2->op≠24->1<=n):=by
 unfold xJ Qd at h;split at h
 ·rename_i e;have:=of_decide_eq_true h;exact⟨by omega,by omega,by omega⟩
 ·have:=of_decide_eq_true h;refine⟨λe=>?_,λe=>?_,λa b c=>?_⟩<;>(split at this<;>first|omega|(split at this<;>first|omega|(split at this<;>first|omega|(split at this<;>first|omega|(split at this<;>omega)))))
noncomputable def yN (env:List (ByteArray×Int)) (e:Ex):Int :=
 e.para λe vs=>if e.op=1 then e.n else if e.op=2 then (xv env e.name).getD 0 else if e.op=3 then (atS env e.name (vs.getD 0 0)).getD 0 else if e.op=24 then zjt env e.name else yL e.op vs
theorem qE (env:List (ByteArray×Int)) (e:Ex):yN env e=if e.op=1 then e.n else if e.op=2 then (xv env e.name).getD 0 else if e.op=3 then (atS env e.name ((e.args.map (yN env)).getD 0 0)).getD 0 else if e.op=24 then zjt env e.name else yL e.op (e.args.map (yN env)):=by unfold yN;rw[Ex.para_eq]
def Rng (v:Int):Prop:=0<=v/\v<65536
theorem zjq:Rng 0:=⟨Int.le_refl 0,by decide⟩
theorem xU {c:Prop} [Decidable c] {a b:Int} (ha:Rng a) (hb:Rng b):Rng (if c then a else b):=by split<;>assumption
theorem qN (n:Int):Rng (n % 65536):=⟨by omega,by omega⟩
theorem XS (b:Bool):Rng (Zn b):=by cases b<;>exact⟨by decide,by decide⟩
theorem zcF (env:List (ByteArray×Int)) (s:ByteArray):Rng ((xv env s).getD 0):=by
 induction env with
 |nil=>exact zjq
 |cons x l ih =>
  unfold xv;split
  ·exact qN _
  ·exact ih
theorem zjr (env:List (ByteArray×Int)) (s:ByteArray) (i:Int):Rng ((atS env s i).getD 0):=by
 unfold atS;split
 ·exact⟨by decide,by decide⟩
 ·exact zcF _ _
theorem zdM (op a:Int):Rng (YJ op a):=by
 unfold YJ;split
 ·exact XS _
 split
 ·unfold zjF;exact⟨by omega,by omega⟩
 split
 ·exact qN _
 ·unfold zfk Yk zY;exact⟨by omega,by omega⟩
theorem zdL (op a b:Int) (ha:Rng a) (hb:Rng b):Rng (Yz op a b):=by
 obtain⟨A,rfl⟩:=Int.eq_ofNat_of_zero_le ha.1;obtain⟨B,rfl⟩:=Int.eq_ofNat_of_zero_le hb.1;have hA:A<2 ^ 16:=by have:=ha.2;omega
 have hB:B<2 ^ 16:=by have:=hb.2;omega
 unfold Yz;refine xU (qN _) (xU (qN _) (xU (qN _) (xU ?_ (xU ?_ (xU ?_ (xU ?_ (xU ?_ ?_)))))))
 ·unfold zjE;simp only[Int.toNat_natCast];have:A &&& B<=A:=Nat.and_le_left;exact⟨by omega,by omega⟩
 ·unfold orW;simp only[Int.toNat_natCast];have:=Nat.or_lt_two_pow hA hB;exact⟨by omega,by omega⟩
 ·unfold zjJ;simp only[Int.toNat_natCast];have:=Nat.xor_lt_two_pow hA hB;exact⟨by omega,by omega⟩
 ·unfold ziP;exact xU zjq (qN _)
 ·unfold ziQ;refine xU zjq ⟨Int.ediv_nonneg (by omega) (Int.le_of_lt (Int.pow_pos (by decide))),Int.lt_of_le_of_lt (Int.ediv_le_self _ (by omega)) (by omega)⟩
 repeat (first|exact XS _|refine xU (XS _) ?_)
theorem Qy (x:Int) (l:List Int):Rng (yP x l):=by
 match l with
 | []=>exact zjq
 | [_]=>exact zjq
 |a::b::r =>
  unfold yP;split
  ·exact⟨by decide,by decide⟩
  ·exact Qy x r
theorem Yl {l:List Int} (h:∀v∈l,Rng v) (i:Nat):Rng (l.getD i 0):=by
 rw[List.getD_eq_getElem?_getD];rcases Nat.lt_or_ge i l.length with hi|hi
 ·rw[List.getElem?_eq_getElem hi];exact h _ (List.getElem_mem hi)
 ·rw[List.getElem?_eq_none hi];exact⟨by decide,by decide⟩
theorem zbY (op:Int) (l:List Int) (h:∀v∈l,Rng v):Rng (yL op l):=by
 unfold yL;split
 ·split
  ·exact Yl h _
  ·exact Yl h _
 split
 ·exact Qy _ _
 split
 ·exact zdM _ _
 ·exact zdL _ _ _ (Yl h _) (Yl h _)
theorem za6 (env:List (ByteArray×Int)) (e:Ex):OkE e->Rng (yN env e):=by
 induction e using Ex.ind with
 |h e ih =>
  intro hok;rw[qE];split
  ·rename_i h1;have:=(Q8 hok.self).2.2.1 h1;exact⟨by omega,by omega⟩
  split
  ·exact zcF _ _
  split
  ·exact zjr _ _ _
  split
  ·show Rng (zhn _ _);exact qN _
  ·refine zbY _ _ λv hv=>?_;obtain⟨a,ha,rfl⟩:=List.mem_map.1 hv;exact ih a ha (hok.arg ha)
noncomputable def qm (env:List (ByteArray×Int)) (l:List Ex) (k:Nat):List Int:=(l.take k).map (yN env)
theorem zb7 (env:List (ByteArray×Int)) (l:List Ex) (k:Nat) (h:k<l.length):qm env l (k+1)=qm env l k++[yN env (l[k]'h)]:=by unfold qm;rw[List.take_succ_eq_append_getElem h,List.map_append];rfl
theorem QE (env:List (ByteArray×Int)) (l:List Ex) (k:Nat) (h:k<=l.length):(qm env l k).length=k:=by unfold qm;simp;omega
theorem zjR:Elem Tryz.prog 31 3 1:=Elem.of Tryz.underlying31 (by kernel_rfl) (z:=.int .i64 0) (bytes:=8) rfl (by decide) (by decide)
def ziU (env:List (ByteArray×Int)) (w:World) (v1 v2:Array Value) (args:List Ex) (k:Nat) (v:Value) (wr:World):Prop :=
 wr.ownsRow w.heap.size 3 1 v k ((qm env args k).map (Value.int .i64))/\Below w.heap.size w wr/\wr.heap[w.heap.size]? = some (.cells v1 286 (0,0))/\wr.heap[w.heap.size+1]? = some (.cells v2 24 (0,0))
theorem zfT (env:List (ByteArray×Int)) (a:Option Addr) (cap:Nat) (e:Ex):∀(ae:Option Addr) (ce:Nat) (w:World),OkE e->e.nodes.length<=1073741824->yi w env a cap->yA w e ae ce ->
 Calls Tryz.prog 255 #[.agg #[.slice a env.length cap],zL e ae ce] w λr w'=>r=.returned (.int .i64 (yN env e))/\Below w.heap.size w w':=by
 induction e using Ex.ind with
 |h e ih =>
  intro ae ce w hok hn hS hE;obtain⟨op,n,s,args⟩:=e;have hlen:=hE.2.2.1;have hadr:=hE.2.addr;have hnl:(Ex.mk op n s args).nodes.length=(zy args args.length).length+1:=by rw[yO];simp[Ex.args_mk]
  have hsz:=hE.1;simp only[Ex.args_mk,Ex.name_mk]at hlen hadr hsz;have HN:=Lib.hid (⟨hn,hnl⟩:_/\_);have HS:=Lib.hid hS;have HE:=Lib.hid hE;have HOK:=Lib.hid hok;have HIH:=Lib.hid ih;have HA:=Lib.hid hadr;clear hn hS hE ih hadr hnl hok;simp only[zL,Ex.op_mk,Ex.n_mk,Ex.name_mk,Ex.args_mk];go_enter Tryz.func255, Tryz.ntmps255;go_wp2_with fail;go_loopw [5,15] (λv i wr=>∃k:Nat,i=.int .i64 k/\k<=args.length/\ziU env w #[.slice a env.length cap] #[.int .i64 op,.int .i64 n,.string s,.slice ae args.length ce] args k v wr) (λ_ i _=>args.length-(intOf i).toNat);case atStart=>exact⟨0,rfl,Nat.zero_le _,World.ownsRow_nil _ _ _ _,bel,by rw[Below.heap_alloc _ _ _ (by simp)];exact zi _ _,zm _ _ _ (by simp)⟩
  case round =>
   obtain⟨k,rfl,hk,hown,hBr,hb0,hb1⟩:=hrel;have hlt0:=lt_of_block hb0;have hlt1:=lt_of_block hb1;by_cases hlt:k<args.length
   ·obtain⟨b,off,ha⟩:=HA.out.resolve_left (by omega);subst ha;obtain⟨a',cap',g0,g1,g2,g3,hX⟩:=HE.out.2.get rfl hlt;have kk:=za hBr;have c0:=kk _ _ g0;have c1:=kk _ _ g1;have c2:=kk _ _ g2;have c3:=kk _ _ g3;simp only[Ex.args_mk]at c0 c1 c2 c3;have cs:∀o,(wr.alloc o).cell? ⟨w.heap.size,0,none⟩=_:=λo=>(World.cell?_alloc_lt _ _ _ hlt0).trans (by simp[World.cell?,hb0]:wr.cell? ⟨w.heap.size,0,none⟩=some (.slice a env.length cap));have hrm:=xS args k hlt;have hn':=HN.out;have hm:args[k]∈(Ex.mk op n s args).args:=List.getElem_mem hlt;have hBA:Below wr.heap.size wr (wr.alloc (.cells #[.int .i64 (args[k]'hlt).op,.int .i64 (args[k]'hlt).n,.string (args[k]'hlt).name,.slice a' (args[k]'hlt).args.length cap'] 24)):=(Below.refl _ _).alloc (Nat.le_refl _) _;have hBw:Below w.heap.size w (wr.alloc (.cells #[.int .i64 (args[k]'hlt).op,.int .i64 (args[k]'hlt).n,.string (args[k]'hlt).name,.slice a' (args[k]'hlt).args.length cap'] 24)):=hBr.trans (hBA.mono hBr.size);have hC:=HIH.out _ hm a' cap' _ (HOK.out.arg hm) (by omega) (HS.out.keep (za hBw)) (hX.keep (za hBw));have HC:=Lib.hid (hC.mono λe w' h=>(⟨h.1,hBA.trans (h.2.mono hBA.size)⟩:_/\Below wr.heap.size wr w'));simp only[Ex.args_mk,zL]at HC;have Hon:=Lib.hid (zb7 env args k hlt);have HR:=Lib.hid (⟨hown,hBr,hb0,hb1⟩:_/\_/\_/\_);clear g0 g1 g2 g3 kk hC hBA hBw hrm hn' hX hown hBr hb0 hb1 hm
    go_wp2_with fail;refine HC.out.mono ?_;rintro e w2 ⟨rfl,hb2⟩;have HB2:=Lib.hid hb2;have HO2:=Lib.hid (ownsRow_below HR.out.1 hb2);have hz2:=hb2.size;clear hb2 c0 c1 c2 c3 cs;go_wp2_with (at_builtin;go_must (refine zfl zjR _ rfl (.tmp 19) (.tmp 23) rfl w.heap.size _ k _ rfl HO2.out [.int .i64 (yN env (args[k]'hlt))] rfl (by simp[Value.oneCell']) _ 1 rfl (by simp) (by omega) (by omega) ?_));intro v' w3 hown3 hg3;have H3:=Lib.hid (⟨hown3,hg3⟩:_/\_);clear hown3 hg3;go_wp2_with fail;go_roundw;case rel =>
     obtain⟨hown3,hg3⟩:=H3.out;obtain⟨hown,hBr,hb0,hb1⟩:=HR.out;have hold:∀(q:Nat) (c:Array Value) (t:TypeId),wr.heap[q]? = some (.cells c t (0,0))->t≠3->w3.heap[q]? = some (.cells c t (0,0)):=by
      intro q c t hq ht;have h1:=(HB2.out.block _ (lt_of_block hq)).trans hq;have h2:(w2.alloc (.cells #[.int .i64 (yN env (args[k]'hlt))] 3)).heap[q]? = some (.cells c t (0,0)):=by rw[Below.heap_alloc _ _ _ (lt_of_block h1)];exact h1
      exact(hg3.block _ (lt_of_block h2) (zv hown hq ht)).trans h2
     have hz:=hBr.size;refine⟨k+1,by go_num,by omega,by rw[Hon.out,List.map_append];exact hown3,?_,hold _ _ _ hb0 (by decide),hold _ _ _ hb1 (by decide)⟩;refine Below.grown ((hBr.trans (HB2.out.mono hz)).alloc (by omega) _) hg3 (by simp;omega) (λq hq=>(hown.lt q hq).1)
    case measure=>simp[intOf];omega
   ·obtain rfl:k=args.length:=by omega
    have hown':wr.ownsRow w.heap.size 3 1 u5 (qm env args args.length).length ((qm env args args.length).map (Value.int .i64)):=by rw[QE _ _ _ (Nat.le_refl _)];exact hown
    have hV:Hid (yN env (.mk op n s args)=if op=1 then n else if op=2 then (xv env s).getD 0 else if op=3 then (atS env s ((qm env args args.length).getD 0 0)).getD 0 else if op=24 then zjt env s else yL op (qm env args args.length)):=by show _=_;rw[qE];unfold qm;rw[List.take_of_length_le (Nat.le_refl _)];rfl
    have hrng:∀v∈qm env args args.length,Rng v:=by intro v hv;unfold qm at hv;rw[List.take_of_length_le (Nat.le_refl _)]at hv;obtain⟨x,hx,rfl⟩:=List.mem_map.1 hv;exact za6 env x (HOK.out.arg hx)
    have hLl:=QE env args args.length (Nat.le_refl _);have hopk:=zbT (Q8 HOK.out.self).2.2.2 (Q8 HOK.out.self).1 (Q8 HOK.out.self).2.1;simp only[Ex.op_mk,Ex.args_mk]at hopk;generalize qm env args args.length=L at hown' hV hrng hLl;rw[←hLl]at hopk;obtain⟨al,cl,hv,hints⟩:=zbI hown' (by omega);subst hv;have b0:wr.cell? ⟨w.heap.size+1,0,none⟩=some (.int .i64 op):=by simp[World.cell?,hb1]
    have b1:wr.cell? ⟨w.heap.size+1,1,none⟩=some (.int .i64 n):=by simp[World.cell?,hb1]
    have b2:wr.cell? ⟨w.heap.size+1,2,none⟩=some (.string s):=by simp[World.cell?,hb1]
    have bs:wr.cell? ⟨w.heap.size,0,none⟩=some (.slice a env.length cap):=by simp[World.cell?,hb0]
    have hz:=hBr.size;have hSr:=HS.out.keep (za hBr);have HF:=Lib.hid (fr (W0:=w) (B:=w.heap.size) (QY env a cap s wr hSr) hBr hz);have HSu:=Lib.hid (fr (W0:=w) (B:=w.heap.size) (ziG env a cap s wr hsz hSr) hBr hz);have HAt:=Lib.hid (λi W (hW:Below w.heap.size w W) (hzW:w.heap.size<=W.heap.size)=>fr (W0:=w) (B:=w.heap.size) (zem env a cap s i W hsz (HS.out.keep (za hW))) hW hzW);have HOp:=Lib.hid (λh=>fr (W0:=w) (B:=w.heap.size) (zbU op L al cl wr hints h (λh'=>by have:=hopk.2.1 h';omega) (λi=>Yl hrng i)) hBr hz);have HI:=Lib.hid hints;have HB:=Lib.hid hBr;have HK:=Lib.hid hopk;clear hown hown' hints hb0 hb1 hrng hLl hopk hBr hSr;by_cases e1:op=1
    ·have hv:Hid (yN env (.mk op n s args)=n):=by show _=_;rw[hV.out,if_pos e1]
     go_wp2_with fail;go_ret;exact⟨by rw[hv.out];rfl,HB.out⟩
    ·by_cases e2:op=2
     ·have hv:Hid (yN env (.mk op n s args)=(xv env s).getD 0):=by show _=_;rw[hV.out,if_neg e1,if_pos e2]
      go_wp2_with (go_at_call 292;refine HF.out.mono ?_;rintro e w1 ⟨rfl,hc1,hf1,hz1,hb1⟩);go_ret;exact⟨by rw[hv.out];rfl,by assumption⟩
     ·by_cases e3:op=3
      ·have hv:Hid (yN env (.mk op n s args)=(atS env s (L.getD 0 0)).getD 0):=by show _=_;rw[hV.out,if_neg e1,if_neg e2,if_pos e3]
       have hL1:L.length=1:=HK.out.1 e3;obtain⟨bl,ol,hal⟩:=HI.out.addr.resolve_left (by omega);subst hal;have i0:=HI.out.get rfl (show 0<L.length by omega);rw[Nat.add_zero]at i0;generalize L.getD 0 0=x0 at i0 hv;have hL0:(0:Int)<(L.length:Int):=by omega
       have hLn:0<L.length:=by omega
       have hLm:L.length<=1073741824:=by omega
       clear hL1;go_wp2_with fail;have hBr:=HB.out;have hlx:=World.block_lt_of_cell? _ _ i0;simp only at hlx;go_region_held3 (λw'=>w'.cell? ⟨w.heap.size,0,none⟩=some (.slice a env.length cap)/\w'.cell? ⟨w.heap.size+1,2,none⟩=some (.string s)/\w'.cell? ⟨bl,ol,none⟩=some (.int .i64 x0)) (first|go_keep|exact⟨(hc1 _ _ sz).trans bs,(hc1 _ _ sz).trans b2,(hc1 _ _ sz).trans i0⟩) (first|(go_at_call 293;refine(HAt.out x0 _ bel sz).mono ?_;rintro e w1 ⟨rfl,hc1,hf1,hz1,hb1⟩));go_wp2_with fail;go_ret;exact⟨by rw[hv.out];rfl,by assumption⟩
      ·by_cases e24:op=24
       ·have hv:Hid (yN env (.mk op n s args)=zjt env s):=by show _=_;rw[hV.out,if_neg e1,if_neg e2,if_neg e3,if_pos e24]
        go_wp2_with (go_at_call 294;refine HSu.out.mono ?_;rintro e w1 ⟨rfl,hc1,hf1,hz1,hb1⟩);go_ret;exact⟨by rw[hv.out];rfl,by assumption⟩
       ·have hv:Hid (yN env (.mk op n s args)=yL op L):=by show _=_;rw[hV.out,if_neg e1,if_neg e2,if_neg e3,if_neg e24]
        have HO:=Lib.hid (HOp.out (HK.out.2.2 e1 e2 e24));go_wp2_with (go_at_call 295;refine HO.out.mono ?_;rintro e w1 ⟨rfl,hc1,hf1,hz1,hb1⟩);go_ret;exact⟨by rw[hv.out];rfl,by assumption⟩
noncomputable def qU (env:List (ByteArray×Int)) (e:Ex):Int×Int:=if zD e≠0 then (0,1) else if XD env e=false then (0,7) else (yN env e,0)
theorem zgm (env:List (ByteArray×Int)) (a:Option Addr) (cap:Nat) (op n:Int) (s:ByteArray) (args:List Ex) (ae:Option Addr) (ce:Nat) (w:World) (hG:qW w) (hS:yi w env a cap) (hE:yA w (.mk op n s args) ae ce) (hn:(Ex.mk op n s args).nodes.length<=1073741824) :
 Calls Tryz.prog 202 #[.agg #[.int .i64 op,.int .i64 n,.string s,.slice ae args.length ce],.slice a env.length cap] w λe w'=>e=.returned (.tuple #[.int .i64 (qU env (.mk op n s args)).1,.int .i64 (qU env (.mk op n s args)).2])/\Below w.heap.size w w':=by
 have HS:=Lib.hid hS;have HE:=Lib.hid hE;have HG:=Lib.hid hG;have HV:=Lib.hid (λW (hW:Below w.heap.size w W) hz=>fr (W0:=w) (B:=w.heap.size) (zbo op n s args ae ce W (hG.below hW) (hE.keep (za hW)) hn) hW hz);have HK:=Lib.hid (λW (hW:Below w.heap.size w W) hz=>fr (W0:=w) (B:=w.heap.size) (ze0 env a cap op n s args ae ce W (hS.keep (za hW)) (hE.keep (za hW)) hn) hW hz);have HVa:=Lib.hid (λhok W (hW:Below w.heap.size w W) hz=>fr (W0:=w) (B:=w.heap.size) (zfT env a cap (.mk op n s args) ae ce W hok hn (hS.keep (za hW)) (hE.keep (za hW))) hW hz);simp only[zL,Ex.op_mk,Ex.n_mk,Ex.name_mk,Ex.args_mk]at HVa;clear hS hE hG hn;by_cases hv:zD (.mk op n s args)=0
 ·have HVa':=Lib.hid (HVa.out (zg9 hv));cases hk:XD env (.mk op n s args)
  ·have hR:Hid (qU env (.mk op n s args)=(0,7)):=by show _=_;unfold qU;rw[if_neg (by simpa using hv),if_pos hk]
   go_enter Tryz.func202, Tryz.ntmps202;go_wp2_with (first|(go_at_call 101;refine(HV.out _ bel sz).mono ?_;rintro e w1 ⟨rfl,hc1,hf1,hz1,hb1⟩;simp only[World.size_alloc]at hz1;have hzl0:w.heap.size<w1.heap.size:=(by omega);have hzl1:w.heap.size+1<w1.heap.size:=(by omega))|(go_at_call 254;refine(HK.out _ (by assumption) sz).mono ?_;rintro e w1 ⟨rfl,hc1,hf1,hz1,hb1⟩));go_ret2;exact⟨by rw[hR.out];rfl,by assumption⟩
  ·have hR:Hid (qU env (.mk op n s args)=(yN env (.mk op n s args),0)):=by show _=_;unfold qU;rw[if_neg (by simpa using hv),if_neg (by rw[hk];simp)]
   go_enter Tryz.func202, Tryz.ntmps202;go_wp2_with (first|(go_at_call 101;refine(HV.out _ bel sz).mono ?_;rintro e w1 ⟨rfl,hc1,hf1,hz1,hb1⟩;simp only[World.size_alloc]at hz1;have hzl0:w.heap.size<w1.heap.size:=(by omega);have hzl1:w.heap.size+1<w1.heap.size:=(by omega))|(go_at_call 254;refine(HK.out _ (by assumption) sz).mono ?_;rintro e w1 ⟨rfl,hc1,hf1,hz1,hb1⟩;have hzl2:w.heap.size<w1.heap.size:=(by omega);have hzl3:w.heap.size+1<w1.heap.size:=(by omega))|(go_at_call 255;refine(HVa'.out _ (by assumption) sz).mono ?_;rintro e w1 ⟨rfl,hc1,hf1,hz1,hb1⟩));go_ret2;exact⟨by rw[hR.out];rfl,by assumption⟩
 ·have hR:Hid (qU env (.mk op n s args)=(0,1)):=by show _=_;unfold qU;rw[if_pos hv]
  have hv':(zD (.mk op n s args) != 0)=true:=by simpa using hv
  go_enter Tryz.func202, Tryz.ntmps202;go_wp2_with (go_at_call 101;refine(HV.out _ bel sz).mono ?_;rintro e w1 ⟨rfl,hc1,hf1,hz1,hb1⟩);go_ret2;exact⟨by rw[hR.out];rfl,by assumption⟩
end Go.Proofs.YtnfkbliokjjggaaGreatDoor
