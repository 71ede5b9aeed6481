/- ref39: wrong. -/
import Derived.StillTailTactics
import Derived.Test.YthojpomoflhbcaaGreatDoorQ31
import Derived.Test.YthojpomoflhbcaaGreatDoorQ32
import Derived.Test.YthojpomoflhbcaaGreatDoorQ29
set_option maxHeartbeats 16000000
set_option maxRecDepth 100000
set_option linter.unusedSimpArgs false
set_option linter.unusedVariables false
set_option linter.unnecessarySimpa false
namespace Go.Proofs.YthojpomoflhbcaaGreatDoor
open Go.RowKit
attribute [local go_sem ↓] Go.wp_at_zero Go.wp_at_succ
def zdJ (op:Int) (nb:Bool) (v:Int) (below si:Bool):Int :=
 if op=6 then (if nb=false then 7 else if v≠0 then v else if below=true then 13 else 0)
 else if op=7 then (if v≠0 then v else if si=true then 13 else 0)
 else if op=1 then v else 0
theorem zhw (s:Tq) (below:Bool) (h:qH s=false):xZ s below=1:=by unfold xZ;refine if_pos ?_;unfold qH Zn at h;have e:Zz s.op s.lo s.hi s.args.length=qJ s:=rfl;rw[e]at h;revert h;cases qJ s<;>cases zS s.op<;>cases YK s.expr<;>simp
theorem zlx (s:Tq) (below:Bool) (h:qH s=true):xZ s below=zdJ s.op (yW s.name.data.toList) (zZ s.expr) below (XB s):=by
 unfold xZ;unfold qH Zn at h;have e:Zz s.op s.lo s.hi s.args.length=qJ s:=rfl;rw[e]at h;simp only[Bool.and_eq_true]at h;obtain⟨⟨h1,h2⟩,h3⟩:=h;rw[if_neg (by
  rintro (x|⟨x,y⟩|⟨x,y⟩)
  ·rw[h1]at x;simp at x
  ·rw[x,y]at h2;simp at h2
  ·simp[x,y]at h3)]
 unfold zdJ;by_cases h6:s.op=6
 ·have hw:zS s.op=true:=by rw[h6];rfl
  simp[h6,zS]
 ·by_cases h7:s.op=7
  ·simp[h7,zS]
  ·by_cases h1':s.op=1
   ·simp[h1',zS];exact λh=>h.symm
   ·simp[h6,h7,h1',zS]
theorem zdZ (s:Tq) (h:qH s=true) (h7:s.op=7):s.args.length=1:=by unfold qH Zn at h;simp only[Bool.and_eq_true]at h;have:=h.1.1;rw[h7]at this;simp[Zz]at this;exact this.1
theorem zlU (s:Tq) (h:0<s.args.length):XB s=(zG [2] s.expr).any λnm=>Lib.containsS (zam (s.args[0]'h)) nm:=by
 unfold XB;have e:∃a l,s.args=a::l:=by
  cases hs:s.args with
  |nil=>rw[hs]at h;simp at h
  |cons a l=>exact⟨a,l,rfl⟩
 obtain⟨a,l,e⟩:=e;have e0:s.args[0]'h=a:=by simp[e]
 rw[e0];simp only[e];congr 1;funext nm;rw[Bool.eq_iff_iff,Lib.containsS_iff,Lib.containsS_iff];exact(zjV a nm).symm
theorem zk4 {l:List ByteArray} {f:ByteArray->Bool} {k:Nat} (hk:k<l.length) (h:f (l[k]'hk)=true):l.any f=true:=List.any_eq_true.2 ⟨_,List.getElem_mem hk,h⟩
theorem zk5 {l:List ByteArray} {f:ByteArray->Bool} (h:∀j (hj:j<l.length),f (l[j]'hj)=false):l.any f=false:=by refine List.any_eq_false.2 λx hx=>?_;obtain⟨j,hj,rfl⟩:=List.getElem_of_mem hx;rw[h j hj];simp
theorem zh3 (s:Tq) (p:Nat->Bool) (ae:Option Addr) (ce:Nat) (a:Option Addr) (cap:Nat) (w:World) (hX:Zr (World.hide w p) s ae ce a cap) (hp:∀j,p j=true->j<w.heap.size) (hn:s.nodes<=100) (hd:s.depth<=8) :
 Calls Tryz.prog 149 #[ym s ae ce a cap,.slice none 0 0] w λe w'=>(∃a' c',e=.returned (.slice a' (zam s).length c')/\zE w' (zam s) a' c')/\Below w.heap.size w w':=by
 refine(zh2 w.heap.size s [] (.slice none 0 0) p ae ce a cap w hX hp (λj hj=>by simp[Value.ownBlock]at hj) (Nat.le_refl _) hn hd (by simp;omega) (World.ownsRow_nil _ _ _ _)).mono ?_;rintro e w' ⟨v',rfl,h⟩;have h2:=h.own;rw[List.nil_append]at h2;have:=zeR s;obtain⟨a',c',rfl,hs⟩:=xz h2 (by omega);exact⟨⟨a',c',rfl,hs⟩,(Below.refl _ _).grown h.gr (Nat.le_refl _) (λk hk=>by simp[Value.ownBlock]at hk)⟩
theorem zcN (s:Tq):∀(below:Bool) (p:Nat->Bool) (ae:Option Addr) (ce:Nat) (a:Option Addr) (cap:Nat) (w:World),Zr (World.hide w p) s ae ce a cap->(∀j,p j=true->j<w.heap.size)->s.nodes<=100->s.depth<=8->SmT s ->
 Calls Tryz.prog 92 #[ym s ae ce a cap,.bool below] w λe w'=>e=.returned (.int .i64 (zC s below))/\Below w.heap.size w w':=by
 induction s using Tq.ind with
 |h s ih =>
  intro below p ae ce a cap w hX hp hn hd hsm;obtain⟨hxn,hsa⟩:=(QI s).1 hsm;have hpW:∀W,Below w.heap.size w W->∀j,p j=true->j<W.heap.size:=λW hW j hj=>by have:=hp j hj;have:=hW.size;omega
  have hdA:∀x∈s.args,x.depth<=8:=λx hx=>by have:=(xV s 7).1 (by omega) x hx;omega
  have hnA:∀x∈s.args,x.nodes<=100:=λx hx=>Nat.le_trans (Nat.le_of_lt (xY hx)) hn;have HIH:Hid (∀k (hk:k<s.args.length),∀(xe:Option Addr) (xc:Nat) (xa:Option Addr) (xk:Nat) (W:World),Zr (World.hide W p) (s.args[k]'hk) xe xc xa xk->Below w.heap.size w W->Calls Tryz.prog 92 #[ym (s.args[k]'hk) xe xc xa xk,.bool (below||s.op==5)] W λe w'=>e=.returned (.int .i64 (zC (s.args[k]'hk) (below||s.op==5)))/\Below W.heap.size W w'):=λk hk xe xc xa xk W h1 hW=>ih _ (List.getElem_mem hk) _ p xe xc xa xk W h1 (hpW W hW) (hnA _ (List.getElem_mem hk)) (hdA _ (List.getElem_mem hk)) (hsa _ (List.getElem_mem hk));have HSe:Hid (∀k (hk:k<s.args.length),∀(xe:Option Addr) (xc:Nat) (xa:Option Addr) (xk:Nat) (W:World),Zr (World.hide W p) (s.args[k]'hk) xe xc xa xk->Below w.heap.size w W->Calls Tryz.prog 149 #[ym (s.args[k]'hk) xe xc xa xk,.slice none 0 0] W λe w'=>(∃a' c',e=.returned (.slice a' (zam (s.args[k]'hk)).length c')/\zE w' (zam (s.args[k]'hk)) a' c')/\Below W.heap.size W w'):=λk hk xe xc xa xk W h1 hW=>zh3 _ p xe xc xa xk W h1 (hpW W hW) (hnA _ (List.getElem_mem hk)) (hdA _ (List.getElem_mem hk));have hlen:=hX.ar.2.1;have HSh:=Lib.hid λW (_:Below w.heap.size w W)=>zdW s ae ce a cap W (by omega);have HIs:=Lib.hid λW (_:Below w.heap.size w W)=>ZM s.name W hX.nm;have hEx:yY w s.expr ae ce:=hX.ex.keep zb
  have HVa:Hid (∀W,Below w.heap.size w W->Calls Tryz.prog 124 #[.agg #[.int .i64 s.expr.op,.int .i64 s.expr.n,.string s.expr.name,.slice ae s.expr.args.length ce]] W λe w'=>e=.returned (.int .i64 (zZ s.expr))/\Below W.heap.size W w'):=λW hW=>zh5 s.expr ae ce W (hEx.keep (za hW)) hxn;have HNa:Hid (∀W,Below w.heap.size w W->Calls Tryz.prog 148 #[.agg #[.int .i64 s.expr.op,.int .i64 s.expr.n,.string s.expr.name,.slice ae s.expr.args.length ce]] W λe w'=>(∃a' c',e=.returned (.slice a' (zG [2] s.expr).length c')/\zE w' (zG [2] s.expr) a' c')/\Below W.heap.size W w'):=λW hW=>by have h2:=hEx.keep (za hW);have h3:=hxn;revert h2 h3;generalize s.expr=x;intro h2 h3;obtain⟨op,n,nm,args⟩:=x;exact(zdT op n nm args ae ce W h2 (by omega)).mono λe w' ⟨⟨a',c',e1,e2,_⟩,h⟩=>⟨⟨a',c',e1,e2⟩,h⟩
  have HX:=Lib.hid hX.ar;have HXA:Hid (s.args.length=0\/∃b off,a=some ⟨b,off,none⟩):=zr.addr hX.ar;have HR1:Hid (∀e,xZ s below=e->e≠0->zC s below=e):=λe he h=>by rw[qe,if_neg (by rw[he];exact h),he]
  have HR2:Hid (xZ s below=0->∀k (hk:k<s.args.length),(∀j (hj:j<s.args.length),j<k->zC (s.args[j]'hj) (below||s.op==5)=0)->zC (s.args[k]'hk) (below||s.op==5)≠0->zC s below=zC (s.args[k]'hk) (below||s.op==5)):=λh k hk hb hne=>by rw[qe,if_pos h,zaV (k:=k) (by simpa using hk) (λj hj hjk=>by simpa using hb j (by simpa using hj) hjk) (by simpa using hne)];simp
  have HR3:Hid (xZ s below=0->(∀j (hj:j<s.args.length),zC (s.args[j]'hj) (below||s.op==5)=0)->zC s below=0):=λh hb=>by rw[qe,if_pos h];refine YU.2 λx hx=>?_;obtain⟨y,hy,rfl⟩:=List.mem_map.1 hx;obtain⟨j,hj,rfl⟩:=List.getElem_of_mem hy;exact hb j hj
  have HN1:Hid (qH s=false->xZ s below=1):=zhw s below;have HNW:Hid (qH s=true->xZ s below=zdJ s.op (yW s.name.data.toList) (zZ s.expr) below (XB s)):=zlx s below;have HOn:Hid (qH s=true->s.op=7->s.args.length=1):=zdZ s;have HSi:Hid (∀h:0<s.args.length,XB s=(zG [2] s.expr).any λnm=>Lib.containsS (zam (s.args[0]'h)) nm):=zlU s;obtain⟨q,hq⟩:∃q,(below||s.op==5)=q:=⟨_,rfl⟩;have HBQ:Hid ((below=true/\q=true)\/(below=false/\(s.op==5)=q)):=by
   cases below with
   |true=>exact Or.inl ⟨rfl,by rw[←hq];rfl⟩
   |false=>exact Or.inr ⟨rfl,by rw[←hq];rfl⟩
  rw[hq]at HIH HR2 HR3;clear hq;generalize zC s below=R at HR1 HR2 HR3⊢;generalize xZ s below=nv at HR1 HR2 HR3 HN1 HNW;generalize XB s=si at HNW HSi;generalize zG [2] s.expr=A at HNa HSi;generalize zZ s.expr=vs at HVa HNW;generalize yW s.name.data.toList=nb at HIs HNW;generalize qH s=sh at HSh HN1 HNW HOn;clear hX hp hn hsm hxn hsa ih hd hdA hnA hpW hEx;rw[zo]at HSh⊢;go_enter Tryz.func92, Tryz.ntmps92;go_upto_region 1 with fail;generalize hBx:World.alloc w _=Bx;have HB0:Hid (Below w.heap.size w Bx):=by show Below _ _ _;rw[←hBx];exact(Below.refl _ _).alloc (Nat.le_refl _) _
  have hzB:=HB0.out.size;have HBX:Hid (∀W,Below Bx.heap.size Bx W->W.heap[w.heap.size]? = some (ye s ae ce a cap)):=λW hW=>by
   have h0:Bx.heap[w.heap.size]? = some (ye s ae ce a cap):=by rw[←hBx];exact zh rfl
   exact(hW.block _ (lt_of_block h0)).trans h0
  clear hBx;have HSh1:=Lib.hid (HSh.out Bx HB0.out);clear HSh;have hbx:=Below.refl Bx.heap.size Bx;obtain⟨b0,b1,b2,b3,b4,b5,b6,b7,b8⟩:=zt (HBX.out _ hbx);clear hbx;cases sh with
  |false =>obtain rfl:R=1:=HR1.out 1 (HN1.out rfl) (by omega);go_wp2_with fail;refine HSh1.out.mono ?_;rintro e w1 ⟨rfl,hb1⟩;have HE:=Lib.hid (HB0.out.trans (hb1.mono hzB));clear hb1;go_wp2_with fail;go_ret;exact⟨rfl,HE.out⟩
  |true =>
   replace HNW:=Lib.hid (HNW.out rfl);replace HOn:=Lib.hid (HOn.out rfl);clear HN1;go_wp2_with fail;refine HSh1.out.mono ?_;rintro e w1 ⟨rfl,hb1⟩;have HB1:=Lib.hid hb1;clear hb1 b0 b1 b2 b3 b4 b5 b6 b7 b8 HSh1;obtain⟨b0,b1,b2,b3,b4,b5,b6,b7,b8⟩:=zt (HBX.out _ HB1.out);go_upto_region 3 with fail;rcases (by omega:s.op=6\/s.op=7\/s.op=1\/(¬s.op=6/\¬s.op=7/\¬s.op=1)) with h6|h7|h1|⟨n6,n7,n1⟩
   case' inl =>
    have HQ:Hid (nv=if nb=false then 7 else if vs≠0 then vs else if below=true then 13 else 0):=by show _=_;rw[HNW.out];unfold zdJ;rw[if_pos h6]
    rw[h6]at b0;have HI1:=Lib.hid (HIs.out w1 (HB0.out.trans (HB1.out.mono hzB)));cases nb
    ·obtain rfl:R=7:=HR1.out 7 (by rw[HQ.out];rfl) (by omega);go_wp2_with fail;refine HI1.out.mono ?_;rintro e w2 ⟨rfl,hb2⟩;have HE:=Lib.hid (HB0.out.trans ((HB1.out.trans (hb2.mono HB1.out.size)).mono hzB));clear hb2;go_wp2_with fail;go_ret;exact⟨rfl,HE.out⟩
    go_wp2_with fail;refine HI1.out.mono ?_;rintro e w2 ⟨rfl,hb2⟩;have HB2:Hid (Below Bx.heap.size Bx w2):=HB1.out.trans (hb2.mono HB1.out.size);clear hb2 HI1 b0 b1 b2 b3 b4 b5 b6 b7 b8;obtain⟨b0,b1,b2,b3,b4,b5,b6,b7,b8⟩:=zt (HBX.out _ HB2.out);rw[h6]at b0;have HV2:=Lib.hid (HVa.out w2 (HB0.out.trans (HB2.out.mono hzB)));go_wp2_with fail;refine HV2.out.mono ?_;rintro e wd ⟨rfl,hb3⟩;have HBe:Hid (Below Bx.heap.size Bx wd):=HB2.out.trans (hb3.mono HB2.out.size);clear hb3 HV2 b0 b1 b2 b3 b4 b5 b6 b7 b8;obtain⟨b0,b1,b2,b3,b4,b5,b6,b7,b8⟩:=zt (HBX.out _ HBe.out);rw[h6]at b0;rcases Decidable.em (vs=0) with hv|hv
    rotate_left
    ·obtain rfl:R=vs:=HR1.out vs (by rw[HQ.out];try simp[hv]) hv;have hvb:(R==0)=false:=by simp[hv]
     go_wp2_with fail;go_ret;exact⟨rfl,HB0.out.trans (HBe.out.mono hzB)⟩
    obtain rfl:=hv;cases below
    rotate_left
    ·obtain rfl:R=13:=HR1.out 13 (by rw[HQ.out];rfl) (by omega);go_wp2_with fail;go_ret;exact⟨rfl,HB0.out.trans (HBe.out.mono hzB)⟩
    have hn0:nv=0:=by rw[HQ.out];rfl
    go_upto_region 18 with fail;clear h6
   case' inr.inl =>
    have HQ:Hid (nv=if vs≠0 then vs else if si=true then 13 else 0):=by show _=_;rw[HNW.out];unfold zdJ;rw[if_neg (by omega),if_pos h7]
    rw[h7]at b0;have HV1:=Lib.hid (HVa.out w1 (HB0.out.trans (HB1.out.mono hzB)));go_wp2_with fail;refine HV1.out.mono ?_;rintro e w3 ⟨rfl,hb3⟩;have HB3:Hid (Below Bx.heap.size Bx w3):=HB1.out.trans (hb3.mono HB1.out.size);clear hb3 HV1 b0 b1 b2 b3 b4 b5 b6 b7 b8;obtain⟨b0,b1,b2,b3,b4,b5,b6,b7,b8⟩:=zt (HBX.out _ HB3.out);rw[h7]at b0;rcases Decidable.em (vs=0) with hv|hv
    rotate_left
    ·obtain rfl:R=vs:=HR1.out vs (by rw[HQ.out];try simp[hv]) hv;have hvb:(R==0)=false:=by simp[hv]
     go_wp2_with fail;go_ret;exact⟨rfl,HB0.out.trans (HB3.out.mono hzB)⟩
    obtain rfl:=hv;have hl1:=HOn.out h7;have hlt:0<s.args.length:=by omega
    obtain⟨bE,oE,hEa⟩:=HXA.out.resolve_left (by omega);have HB3w:Hid (Below w.heap.size w w3):=HB0.out.trans (HB3.out.mono hzB);obtain⟨xe,xc,xa,xk,gc,hXy⟩:=(qL.keep (w':=World.hide w3 p) (zg HB3w.out λ_ _ h=>h) HX.out).get hEa hlt;obtain⟨g0,g1,g2,g3,g4,g5,g6,g7,g8⟩:=Zu gc;have HS9:=Lib.hid λW (hW:Below w3.heap.size w3 W)=>HSe.out 0 hlt xe xc xa xk W (hXy.keep (zg hW λ_ _ h=>h)) (HB3w.out.trans (hW.mono HB3w.out.size));have HSy:=Lib.hid (HSi.out hlt);generalize (s.args[0]'hlt)=y at g0 g1 g2 g3 g4 g5 g6 g7 g8 HS9 HSy;generalize zam y=M at HS9 HSy;rw[zo]at HS9;have HG:Hid (∀W,Below w3.heap.size w3 W->W.cell? ⟨bE,oE,none⟩=some (.int .i64 y.op)/\W.cell? ⟨bE,oE+1,none⟩=some (.int .i64 y.lo)/\W.cell? ⟨bE,oE+2,none⟩=some (.int .i64 y.hi)/\W.cell? ⟨bE,oE+3,none⟩=some (.int .i64 y.expr.op)/\W.cell? ⟨bE,oE+4,none⟩=some (.int .i64 y.expr.n)/\W.cell? ⟨bE,oE+5,none⟩=some (.string y.expr.name)/\W.cell? ⟨bE,oE+6,none⟩=some (.slice xe y.expr.args.length xc)/\W.cell? ⟨bE,oE+7,none⟩=some (.string y.name)/\W.cell? ⟨bE,oE+8,none⟩=some (.slice xa y.args.length xk)):=λW hW=>by
     refine⟨?_,?_,?_,?_,?_,?_,?_,?_,?_⟩
     ·have:=za hW _ _ (zb _ _ g0);simpa using this
     ·have:=za hW _ _ (zb _ _ g1);simpa using this
     ·have:=za hW _ _ (zb _ _ g2);simpa using this
     ·have:=za hW _ _ (zb _ _ g3);simpa using this
     ·have:=za hW _ _ (zb _ _ g4);simpa using this
     ·have:=za hW _ _ (zb _ _ g5);simpa using this
     ·have:=za hW _ _ (zb _ _ g6);simpa using this
     ·have:=za hW _ _ (zb _ _ g7);simpa using this
     ·have:=za hW _ _ (zb _ _ g8);simpa using this
    have HC9:Hid (∀W,Below w3.heap.size w3 W->W.cell? ⟨w.heap.size,3,none⟩=some (.int .i64 s.expr.op)/\W.cell? ⟨w.heap.size,4,none⟩=some (.int .i64 s.expr.n)/\W.cell? ⟨w.heap.size,5,none⟩=some (.string s.expr.name)/\W.cell? ⟨w.heap.size,6,none⟩=some (.slice ae s.expr.args.length ce)/\W.cell? ⟨w.heap.size,8,none⟩=some (.slice (some ⟨bE,oE,none⟩) s.args.length cap)/\W.cell? ⟨bE,oE,none⟩=some (.int .i64 y.op)/\W.cell? ⟨bE,oE+1,none⟩=some (.int .i64 y.lo)/\W.cell? ⟨bE,oE+2,none⟩=some (.int .i64 y.hi)/\W.cell? ⟨bE,oE+3,none⟩=some (.int .i64 y.expr.op)/\W.cell? ⟨bE,oE+4,none⟩=some (.int .i64 y.expr.n)/\W.cell? ⟨bE,oE+5,none⟩=some (.string y.expr.name)/\W.cell? ⟨bE,oE+6,none⟩=some (.slice xe y.expr.args.length xc)/\W.cell? ⟨bE,oE+7,none⟩=some (.string y.name)/\W.cell? ⟨bE,oE+8,none⟩=some (.slice xa y.args.length xk)):=λW hW=>by obtain⟨-,-,-,c3,c4,c5,c6,-,c8⟩:=zt (HBX.out W (HB3.out.trans (hW.mono HB3.out.size)));rw[hEa]at c8;exact⟨c3,c4,c5,c6,c8,HG.out W hW⟩
    have HS9':Hid (∀W,Below w3.heap.size w3 W->Calls Tryz.prog 149 #[.agg #[.int .i64 y.op,.int .i64 y.lo,.int .i64 y.hi,.int .i64 y.expr.op,.int .i64 y.expr.n,.string y.expr.name,.slice xe y.expr.args.length xc,.string y.name,.slice xa y.args.length xk],.slice none 0 0] W λe w'=>(∃a' c',e=.returned (.slice a' M.length c')/\zE w' M a' c')/\Below w3.heap.size w3 w'/\Below W.heap.size W w'):=λW hW=>(HS9.out W hW).mono λe w' h=>⟨h.1,hW.trans (h.2.mono hW.size),h.2⟩;have HN9:Hid (∀W,Below w3.heap.size w3 W->Calls Tryz.prog 148 #[.agg #[.int .i64 s.expr.op,.int .i64 s.expr.n,.string s.expr.name,.slice ae s.expr.args.length ce]] W λe w'=>(∃a' c',e=.returned (.slice a' A.length c')/\zE w' A a' c')/\Below w3.heap.size w3 w'):=λW hW=>(HNa.out W (HB3w.out.trans (hW.mono HB3w.out.size))).mono λe w' h=>⟨h.1,hW.trans (h.2.mono hW.size)⟩;clear g0 g1 g2 g3 g4 g5 g6 g7 g8 gc hXy HS9 HG;rw[hEa]at b8;go_upto_region 12 with fail;clear b0 b1 b2 b3 b4 b5 b6 b7 b8
    go_region_held3 (λW=>Below w3.heap.size w3 W/\(W.cell? ⟨w.heap.size,3,none⟩=some (.int .i64 s.expr.op)/\W.cell? ⟨w.heap.size,4,none⟩=some (.int .i64 s.expr.n)/\W.cell? ⟨w.heap.size,5,none⟩=some (.string s.expr.name)/\W.cell? ⟨w.heap.size,6,none⟩=some (.slice ae s.expr.args.length ce)/\W.cell? ⟨w.heap.size,8,none⟩=some (.slice (some ⟨bE,oE,none⟩) s.args.length cap)/\W.cell? ⟨bE,oE,none⟩=some (.int .i64 y.op)/\W.cell? ⟨bE,oE+1,none⟩=some (.int .i64 y.lo)/\W.cell? ⟨bE,oE+2,none⟩=some (.int .i64 y.hi)/\W.cell? ⟨bE,oE+3,none⟩=some (.int .i64 y.expr.op)/\W.cell? ⟨bE,oE+4,none⟩=some (.int .i64 y.expr.n)/\W.cell? ⟨bE,oE+5,none⟩=some (.string y.expr.name)/\W.cell? ⟨bE,oE+6,none⟩=some (.slice xe y.expr.args.length xc)/\W.cell? ⟨bE,oE+7,none⟩=some (.string y.name)/\W.cell? ⟨bE,oE+8,none⟩=some (.slice xa y.args.length xk)))
     ((refine(λh=>⟨h,HC9.out _ h⟩) ?_;first|with_reducible assumption|exact yx))
     (first
      |(go_at_call 148;(with_reducible refine(HN9.out _ (by first|with_reducible assumption|exact yx)).mono ?_);rintro e q1 ⟨⟨a1,c1,rfl,i1⟩,hq1⟩;have I1:=Lib.hid i1;clear i1)
      |(go_at_call 149;(with_reducible refine(HS9'.out _ (by first|with_reducible assumption|exact yx)).mono ?_);rintro e q2 ⟨⟨a2,c2,rfl,i2⟩,hq2,hq2'⟩;have I2:=Lib.hid i2;have I12:=Lib.hid ((I1.out.keep (za (by first|exact Below.refl _ _|exact yx))).keep (za hq2'));clear i2 hq2'))
    have HB4:Hid (Below Bx.heap.size Bx q2):=HB3.out.trans (hq2.mono HB3.out.size);have hA:=I12.out.2.1;have HAa:Hid (A.length=0\/∃b off,a1=some ⟨b,off,none⟩):=zr.addr I12.out;have hz4:=HB4.out.size;clear hq1 hq2 HS9' HN9 HC9 I1 HB3w;go_upto_region 13 with fail;go_wp2_with fail;go_loopw [8] (λi wr=>∃k:Nat,i=.int .i64 k/\k<=A.length/\Hid (∀j (hj:j<A.length),j<k->Lib.containsS M (A[j]'hj)=false)/\Hid (Below q2.heap.size q2 wr)) (λi _=>A.length-(intOf i).toNat);case atStart=>exact⟨0,rfl,Nat.zero_le _,λ_ _ h=>absurd h (by omega),Below.refl _ _⟩
    case' round =>
     obtain⟨k,rfl,hk,HAl,HBr⟩:=hrel;have HBw:Hid (Below Bx.heap.size Bx wr):=HB4.out.trans (HBr.out.mono hz4);refine(Nat.lt_or_ge k A.length).elim (λhlt=>?_) (λhge=>?_)
     ·obtain⟨bA,oA,hAa⟩:=HAa.out.resolve_left (by omega);subst hAa;have c0:=(I12.out.keep (za HBr.out)).get rfl hlt;have HHs:=Lib.hid (zfY M a2 c2 (A[k]'hlt) wr (I2.out.keep (za HBr.out)));have HYs:Hid (Lib.containsS M (A[k]'hlt)=true->si=true):=λh=>by rw[HSy.out];exact zk4 hlt h
      have HNx:Hid (Lib.containsS M (A[k]'hlt)=false->∀j (hj:j<A.length),j<k+1->Lib.containsS M (A[j]'hj)=false):=λh j hj hjk=>by
       by_cases e:j=k
       ·subst e;exact h
       ·exact HAl.out j hj (by omega)
      generalize (A[k]'hlt)=z at c0 HHs HYs HNx;generalize Lib.containsS M z=hz at HHs HYs HNx;cases hz with
      |true =>obtain rfl:=HYs.out rfl;obtain rfl:R=13:=HR1.out 13 (by rw[HQ.out];rfl) (by omega);go_wp2_with fail;refine HHs.out.mono ?_;rintro e w6 ⟨rfl,rfl⟩;go_wp2_with fail;go_ret;exact⟨rfl,HB0.out.trans (HBw.out.mono hzB)⟩
      |false =>
       go_wp2_with fail;refine HHs.out.mono ?_;rintro e w6 ⟨rfl,rfl⟩;go_wp2_with fail;go_roundw;case rel=>exact⟨k+1,by go_num,by omega,HNx.out (by first|rfl|trivial),HBr.out⟩
       case measure=>(simp[intOf];try omega)
     obtain rfl:k=A.length:=by omega
     have hn0:nv=0:=by rw[HQ.out,HSy.out,zk5 λj hj=>HAl.out j hj hj];rfl
     rename World=>wd;have HBe:=HBw;clear HBw HBr HAl hge hk hA HAa I12 I2 HB4 hz4 HSy hEa hl1 hlt h7 HB3 HQ;go_upto_region 18 with fail
   case' inr.inr.inl =>
    have HQ:Hid (nv=vs):=by show _=_;rw[HNW.out];unfold zdJ;rw[if_neg (by omega),if_neg (by omega),if_pos h1]
    rw[h1]at b0;have HV1:=Lib.hid (HVa.out w1 (HB0.out.trans (HB1.out.mono hzB)));go_wp2_with fail;refine HV1.out.mono ?_;rintro e wd ⟨rfl,hb3⟩;have HBe:Hid (Below Bx.heap.size Bx wd):=HB1.out.trans (hb3.mono HB1.out.size);clear hb3 HV1 b0 b1 b2 b3 b4 b5 b6 b7 b8;obtain⟨b0,b1,b2,b3,b4,b5,b6,b7,b8⟩:=zt (HBX.out _ HBe.out);rw[h1]at b0;rcases Decidable.em (vs=0) with hv|hv
    rotate_left
    ·obtain rfl:R=vs:=HR1.out vs (by rw[HQ.out];try simp[hv]) hv;have hvb:(R==0)=false:=by simp[hv]
     go_wp2_with fail;go_ret;exact⟨rfl,HB0.out.trans (HBe.out.mono hzB)⟩
    obtain rfl:=hv;have hn0:nv=0:=HQ.out;go_upto_region 18 with fail;clear h1
   case' inr.inr.inr =>
    have hn0:nv=0:=by rw[HNW.out];unfold zdJ;rw[if_neg n6,if_neg n7,if_neg n1]
    have m6:(s.op==6)=false:=by simp[n6]
    have m7:(s.op==7)=false:=by simp[n7]
    have m1:(s.op==1)=false:=by simp[n1]
    go_upto_region 18 with fail;clear n6 n7 n1 m6 m7 m1;rename World=>wd;have HBe:=HB1;clear HB1
   all_goals
    replace HR2:=Lib.hid (HR2.out hn0);replace HR3:=Lib.hid (HR3.out hn0);have HBd:Hid (Below w.heap.size w wd):=HB0.out.trans (HBe.out.mono hzB);have HXd:Hid (wd.heap[w.heap.size]? = some (ye s ae ce a cap)):=HBX.out _ HBe.out;have hzd:=HBd.out.size;clear hn0
    (try clear b0 b1 b2 b3 b4 b5 b6 b7 b8)
    obtain⟨b0,-,-,-,-,-,-,-,b8⟩:=zt HXd.out;go_wp2_with fail;clear b0 b8;go_loopw [9,10] (λi _ wr=>∃k:Nat,i=.int .i64 k/\k<=s.args.length/\Hid (∀j (hj:j<s.args.length),j<k->zC (s.args[j]'hj) q=0)/\Hid (Below wd.heap.size wd wr)) (λi _ _=>s.args.length-(intOf i).toNat);case atStart=>exact⟨0,rfl,Nat.zero_le _,λ_ _ h=>absurd h (by omega),Below.refl _ _⟩
    case round =>
     obtain⟨k,rfl,hk,HAl,HBr⟩:=hrel;have hzr:=HBr.out.size;have HBw:Hid (Below w.heap.size w wr):=HBd.out.trans (HBr.out.mono hzd);have HXr:Hid (∀W,Below wr.heap.size wr W->W.heap[w.heap.size]? = some (ye s ae ce a cap)):=λW hW=>by have h0:=(HBr.out.block _ (lt_of_block HXd.out)).trans HXd.out;exact(hW.block _ (lt_of_block h0)).trans h0
     obtain⟨b0,-,-,-,-,-,-,-,b8⟩:=zt (HXr.out wr (Below.refl _ _));by_cases hlt:k<s.args.length
     ·obtain⟨bE,oE,hEa⟩:=HXA.out.resolve_left (by omega);subst hEa;obtain⟨xe,xc,xa,xk,gc,hXy⟩:=(qL.keep (w':=World.hide wr p) (zg HBw.out λ_ _ h=>h) HX.out).get rfl hlt;obtain⟨g0,g1,g2,g3,g4,g5,g6,g7,g8⟩:=Zu gc;have f0:=zb _ _ g0;have f1:=zb _ _ g1;have f2:=zb _ _ g2;have f3:=zb _ _ g3;have f4:=zb _ _ g4;have f5:=zb _ _ g5;have f6:=zb _ _ g6;have f7:=zb _ _ g7;have f8:=zb _ _ g8;have HC:=Lib.hid λW (hW:Below wr.heap.size wr W)=>HIH.out k hlt xe xc xa xk W (hXy.keep (zg hW λ_ _ h=>h)) (HBw.out.trans (hW.mono HBw.out.size));have HNx:Hid (zC (s.args[k]'hlt) q=0->∀j (hj:j<s.args.length),j<k+1->zC (s.args[j]'hj) q=0):=λhv j hj hjk=>by
       by_cases e:j=k
       ·subst e;exact hv
       ·exact HAl.out j hj (by omega)
      have HYx:Hid (zC (s.args[k]'hlt) q≠0->R=zC (s.args[k]'hlt) q):=λh=>HR2.out k hlt HAl.out h;clear gc g0 g1 g2 g3 g4 g5 g6 g7 g8 hXy;generalize (s.args[k]'hlt)=y at f0 f1 f2 f3 f4 f5 f6 f7 f8 HC HNx HYx;rw[zo]at HC;generalize hcv:zC y q=cv at HC HNx HYx;clear hcv;have HCf:Hid (∀W,Below wr.heap.size wr W->Calls Tryz.prog 92 #[.agg #[.int .i64 y.op,.int .i64 y.lo,.int .i64 y.hi,.int .i64 y.expr.op,.int .i64 y.expr.n,.string y.expr.name,.slice xe y.expr.args.length xc,.string y.name,.slice xa y.args.length xk],.bool q] W λe w'=>e=.returned (.int .i64 cv)/\Below wr.heap.size wr w'):=λW hW=>(HC.out W hW).mono λe w' h=>⟨h.1,hW.trans (h.2.mono hW.size)⟩;clear HC;have HC9:Hid (∀W,Below wr.heap.size wr W->W.cell? ⟨w.heap.size,0,none⟩=some (.int .i64 s.op)/\W.cell? ⟨w.heap.size,8,none⟩=some (.slice (some ⟨bE,oE,none⟩) s.args.length cap)/\W.cell? ⟨bE,oE+k*9,none⟩=some (.int .i64 y.op)/\W.cell? ⟨bE,oE+k*9+1,none⟩=some (.int .i64 y.lo)/\W.cell? ⟨bE,oE+k*9+2,none⟩=some (.int .i64 y.hi)/\W.cell? ⟨bE,oE+k*9+3,none⟩=some (.int .i64 y.expr.op)/\W.cell? ⟨bE,oE+k*9+4,none⟩=some (.int .i64 y.expr.n)/\W.cell? ⟨bE,oE+k*9+5,none⟩=some (.string y.expr.name)/\W.cell? ⟨bE,oE+k*9+6,none⟩=some (.slice xe y.expr.args.length xc)/\W.cell? ⟨bE,oE+k*9+7,none⟩=some (.string y.name)/\W.cell? ⟨bE,oE+k*9+8,none⟩=some (.slice xa y.args.length xk)):=λW hW=>by obtain⟨c0,-,-,-,-,-,-,-,c8⟩:=zt (HXr.out W hW);exact⟨c0,c8,za hW _ _ f0,za hW _ _ f1,za hW _ _ f2,za hW _ _ f3,za hW _ _ f4,za hW _ _ f5,za hW _ _ f6,za hW _ _ f7,za hW _ _ f8⟩
      rcases HBQ.out with ⟨hb,hq⟩|⟨hb,hq⟩;all_goals (try exact absurd hb (by decide))
      all_goals
       (try subst hb)
       subst hq;by_cases hv:cv=0
       ·subst hv;replace HNx:=Lib.hid (HNx.out rfl);go_wp2_with fail;go_still_tail 11,(by kernel_rfl);go_wp2_with fail;refine(HCf.out _ (by first|with_reducible assumption|exact yx)).mono ?_;rintro e w5 ⟨rfl,hb5⟩;clear f0 f1 f2 f3 f4 f5 f6 f7 f8;have HB5:Hid (Below wd.heap.size wd w5):=HBr.out.trans (hb5.mono hzr);clear hb5 b0 b8;go_wp2_with fail;go_roundw;case rel=>exact⟨k+1,by go_num,by omega,HNx.out,HB5.out⟩
        case measure=>(simp[intOf];try omega)
       ·obtain rfl:=HYx.out hv;have hvb:(R==0)=false:=by simp[hv]
        go_wp2_with fail;go_still_tail 11,(by kernel_rfl);go_wp2_with fail;refine(HCf.out _ (by first|with_reducible assumption|exact yx)).mono ?_;rintro e w5 ⟨rfl,hb5⟩;clear f0 f1 f2 f3 f4 f5 f6 f7 f8;have HB5:Hid (Below wd.heap.size wd w5):=HBr.out.trans (hb5.mono hzr);clear hb5 b0 b8;go_wp2_with fail;go_ret;exact⟨rfl,HBd.out.trans (HB5.out.mono hzd)⟩
     ·obtain rfl:k=s.args.length:=by omega
      obtain rfl:R=0:=HR3.out λj hj=>HAl.out j hj hj;go_wp2_with fail;go_ret;exact⟨rfl,HBw.out⟩
theorem Qq (s:Tq) (p:Nat->Bool) (ae:Option Addr) (ce:Nat) (a:Option Addr) (cap:Nat) (w:World) (hX:Zr (World.hide w p) s ae ce a cap) (hp:∀j,p j=true->j<w.heap.size) (hs:SmT s) :
 Calls Tryz.prog 44 #[ym s ae ce a cap] w λe w'=>e=.returned (.int .i64 (yG s))/\Below w.heap.size w w':=by
 have hpW:∀W,Below w.heap.size w W->∀j,p j=true->j<W.heap.size:=λW hW j hj=>by have:=hp j hj;have:=hW.size;omega
 have HRm:=Lib.hid λW (hW:Below w.heap.size w W)=>zeP s 100 8 p ae ce a cap W (hX.keep (zg hW λ_ _ h=>h)) (hpW W hW) (by omega) (by omega) (by omega) (by omega);have HWr:=Lib.hid λ(h1:s.nodes<=100) (h2:s.depth<=8) W (hW:Below w.heap.size w W)=>zcN s false p ae ce a cap W (hX.keep (zg hW λ_ _ h=>h)) (hpW W hW) h1 h2 hs;by_cases hb:8<s.depth\/100<s.nodes
 ·have e1:zaD s 100 8=-1:=if_pos (by omega);have e2:yG s=2:=if_pos hb;rw[e1]at HRm;rw[e2];clear e1 e2 HWr hX hp hs hpW;rw[zo]at HRm⊢;go_enter Tryz.func44, Tryz.ntmps44;go_upto_region 1 with fail;generalize hBx:World.alloc w _=Bx;have HB0:Hid (Below w.heap.size w Bx):=by show Below _ _ _;rw[←hBx];exact(Below.refl _ _).alloc (Nat.le_refl _) _
  have hzB:=HB0.out.size;have h0:Bx.heap[w.heap.size]? = some (ye s ae ce a cap):=by rw[←hBx];exact zh rfl
  clear hBx;obtain⟨b0,b1,b2,b3,b4,b5,b6,b7,b8⟩:=zt h0;have HR1:=Lib.hid (HRm.out Bx HB0.out);go_wp2_with fail;refine HR1.out.mono ?_;rintro e w1 ⟨rfl,hb1⟩;have HE:=Lib.hid (HB0.out.trans (hb1.mono hzB));clear hb1;go_wp2_with fail;go_ret;exact⟨rfl,HE.out⟩
 ·have e1:zaD s 100 8=100-s.nodes:=if_neg (by omega);have e2:yG s=zC s false:=if_neg hb;have hnn:0<=(100:Int)-s.nodes:=by omega
  rw[e1]at HRm;rw[e2];replace HWr:=Lib.hid (HWr.out (by omega) (by omega));generalize zC s false=R at HWr⊢;clear e1 e2 hX hp hs hpW hb;rw[zo]at HRm HWr⊢;go_enter Tryz.func44, Tryz.ntmps44;go_upto_region 1 with fail;generalize hBx:World.alloc w _=Bx;have HB0:Hid (Below w.heap.size w Bx):=by show Below _ _ _;rw[←hBx];exact(Below.refl _ _).alloc (Nat.le_refl _) _
  have hzB:=HB0.out.size;have h0:Bx.heap[w.heap.size]? = some (ye s ae ce a cap):=by rw[←hBx];exact zh rfl
  clear hBx;obtain⟨b0,b1,b2,b3,b4,b5,b6,b7,b8⟩:=zt h0;have HR1:=Lib.hid (HRm.out Bx HB0.out);go_wp2_with fail;refine HR1.out.mono ?_;rintro e w1 ⟨rfl,hb1⟩;have HB1:Hid (Below w.heap.size w w1):=HB0.out.trans (hb1.mono hzB);have h1:=(hb1.block _ (lt_of_block h0)).trans h0;have HW1:=Lib.hid (HWr.out w1 HB1.out);clear hb1 b0 b1 b2 b3 b4 b5 b6 b7 b8;obtain⟨b0,b1,b2,b3,b4,b5,b6,b7,b8⟩:=zt h1;go_wp2_with fail;refine HW1.out.mono ?_;rintro e w2 ⟨rfl,hb2⟩;have HE:=Lib.hid (HB1.out.trans (hb2.mono HB1.out.size));clear hb2;go_wp2_with fail;go_ret;exact⟨rfl,HE.out⟩
def Rn (n:zm) (E:Nat->List Sg):Nat->Nat->Int->List Sg->Int->List Sg->Prop
 |0,_,s,l,t,l'=>s=t/\l=l'
 |k+1,i,s,l,t,l'=>∃e∈n.edges,e.fr=s/\∃l1,xj e l (E i)=some l1/\Rn n E k (i+1) e.to l1 t l'
def Ac (n:zm) (E:Nat->List Sg) (k i:Nat) (l l':List Sg):Prop:=∃a∈n.accept,Rn n E k i 0 l a l'
structure Qe (n:zm):Prop where
 st:1<=n.states
 es:∀e∈n.edges,0<=e.fr/\e.fr<n.states/\1<=e.to/\e.to<n.states
 ac:∀a∈n.accept,1<=a/\a<n.states
theorem qn.nice {K:Nat} {n:zm} (h:qn K n):Qe n:=by
 have hs:=h.st;have hok:=zz.1 h.ok;refine⟨hs.1,λe he=>?_,λa ha=>?_⟩
 ·have h1:=(yj.1 (hok.2.1 e he)).1;exact⟨h1.1,h1.2.1,(h.es e he).1,h1.2.2.2⟩
 ·exact⟨h.ac a ha,((qM.1 hok.2.2).1 a ha).2⟩
variable {E : Nat → List Sg}
theorem znx {n:zm}:∀{k i:Nat} {s:Int} {l:List Sg} {t:Int} {l':List Sg},qm l->Rn n E k i s l t l'->qm l':=by
 intro k
 induction k with
 |zero=>rintro i s l t l' hl ⟨_,rfl⟩;exact hl
 |succ k ih =>rintro i s l t l' hl ⟨e,_,_,l1,h1,h2⟩;exact ih (YF h1 hl) h2
theorem zhZ {M N:zm} {φ:Int->Int} {P:Int->Prop} (hcl:∀f∈N.edges,P f.fr->P f.to) (h:∀s,P s->∀e,(e∈M.edges/\e.fr=φ s)<->∃f∈N.edges,f.fr=s/\e=mvE f (φ s) (φ f.to)) :
 ∀{k i:Nat} {s:Int} {l:List Sg} {t:Int} {l':List Sg},P s->(Rn M E k i (φ s) l t l'<->∃u,P u/\t=φ u/\Rn N E k i s l u l'):=by
 intro k
 induction k with
 |zero =>
  intro i s l t l' hs;constructor
  ·rintro ⟨rfl,rfl⟩;exact⟨s,hs,rfl,rfl,rfl⟩
  ·rintro ⟨u,_,rfl,rfl,rfl⟩;exact⟨rfl,rfl⟩
 |succ k ih =>
  intro i s l t l' hs;constructor
  ·rintro ⟨e,he,hf,l1,h1,h2⟩;obtain⟨f,hfm,hff,rfl⟩:=(h s hs e).1 ⟨he,hf⟩;obtain⟨u,hu,rfl,h3⟩:=(ih (hcl f hfm (by rw[hff];exact hs))).1 h2;exact⟨u,hu,rfl,f,hfm,hff,l1,h1,h3⟩
  ·rintro ⟨u,hu,rfl,f,hfm,hff,l1,h1,h3⟩;obtain⟨he,hfr⟩:=(h s hs (mvE f (φ s) (φ f.to))).2 ⟨f,hfm,hff,rfl⟩;exact⟨_,he,hfr,l1,h1,(ih (hcl f hfm (by rw[hff];exact hs))).2 ⟨u,hu,rfl,h3⟩⟩
theorem zeN {n:zm} (hn:Qe n):∀{k i:Nat} {s:Int} {l:List Sg} {t:Int} {l':List Sg},(1<=s/\s<n.states)->Rn n E k i s l t l'->1<=t/\t<n.states:=by
 intro k
 induction k with
 |zero=>rintro i s l t l' hs ⟨rfl,_⟩;exact hs
 |succ k ih =>rintro i s l t l' hs ⟨e,he,_,l1,_,h2⟩;exact ih (hn.es e he).2.2 h2
theorem Qh {n:zm} (hn:Qe n) {k i:Nat} {l l':List Sg} (h:Ac n E k i l l'):1<=k:=by
 obtain⟨a,ha,h⟩:=h;cases k with
 |zero=>have:=(hn.ac a ha).1;have:=h.1;omega
 |succ k=>omega
theorem zkV (x:Ex) {k i:Nat} {l l':List Sg}:Ac ⟨2,[⟨0,1,[x],[]⟩],[1]⟩ E k i l l'<->k=1/\qK x l (E i)≠0/\l'=l:=by
 have ht:∀r,xj ⟨0,1,[x],[]⟩ l (E i)=some r<->qK x l (E i)≠0/\r=l:=by
  intro r;rw[yD];simp only[List.all_cons,List.all_nil,Bool.and_true,bne_iff_ne,ne_eq,zI,List.take_nil,List.foldl_nil];constructor
  ·rintro ⟨h1,rfl⟩;exact⟨h1,rfl⟩
  ·rintro ⟨h1,rfl⟩;exact⟨h1,rfl⟩
 constructor
 ·rintro ⟨a,ha,h⟩;obtain rfl:=List.mem_singleton.1 ha;cases k with
  |zero=>exact absurd h.1 (by decide)
  |succ k =>
   obtain⟨e,he,_,l1,h1,h2⟩:=h;obtain rfl:=List.mem_singleton.1 he;obtain⟨hv,rfl⟩:=(ht l1).1 h1;cases k with
   |zero=>exact⟨rfl,hv,h2.2.symm⟩
   |succ k =>obtain⟨e,he,hf,_⟩:=h2;obtain rfl:=List.mem_singleton.1 he;exact absurd (show (0:Int)=1 from hf) (by decide)
 ·rintro ⟨rfl,hv,rfl⟩;exact⟨1,List.mem_singleton.2 rfl,_,List.mem_singleton.2 rfl,rfl,l',(ht l').2 ⟨hv,rfl⟩,rfl,rfl⟩
theorem yk {base s:Int} (h:1<=s):xJ base s=base+s:=by unfold xJ;rw[if_neg (by omega)]
theorem YD {base:Int}:xJ base 0=0:=by unfold xJ;rw[if_pos rfl]
theorem zht {out n:zm} (ho:Qe out) (hn:Qe n):Qe (xG out n):=by
 have h1:=ho.st;have h2:=hn.st;refine⟨by simp only[xG];omega,λe he=>?_,λa ha=>?_⟩
 ·simp only[xG,List.mem_append]at he⊢;rcases he with he|he
  ·have:=ho.es e he;omega
  ·obtain⟨f,hf,rfl⟩:=List.mem_map.1 he;have:=hn.es f hf;simp only[mvE];rw[yk this.2.2.1];by_cases h0:f.fr=0
   ·rw[h0,YD];omega
   ·rw[yk (by omega)];omega
 ·simp only[xG,List.mem_append]at ha⊢;rcases ha with ha|ha
  ·have:=ho.ac a ha;omega
  ·obtain⟨b,hb,rfl⟩:=List.mem_map.1 ha;have:=hn.ac b hb;rw[yk this.1];omega
theorem znl {out n:zm} (ho:Qe out) (hn:Qe n) {k i:Nat} {l l':List Sg}:Ac (xG out n) E k i l l'<->Ac out E k i l l'\/Ac n E k i l l':=by
 have h1:=ho.st;have h2:=hn.st;have simO:∀{k i:Nat} {s:Int} {l:List Sg} {t:Int} {l':List Sg},(1<=s/\s<out.states)->(Rn (xG out n) E k i s l t l'<->Rn out E k i s l t l'):=by
  intro k i s l t l' hs;have:=zhZ (E:=E) (M:=xG out n) (N:=out) (φ:=λx=>x) (P:=λs=>1<=s/\s<out.states) (λf hf _=>(ho.es f hf).2.2) (λs hs e=>by
   simp only[xG,List.mem_append];constructor
   ·rintro ⟨he|he,rfl⟩
    ·exact⟨e,he,rfl,rfl⟩
    ·obtain⟨f,hf,rfl⟩:=List.mem_map.1 he;have:=hn.es f hf;simp only[mvE]at hs;by_cases h0:f.fr=0
     ·rw[h0,YD]at hs;omega
     ·rw[yk (by omega)]at hs;omega
   ·rintro ⟨f,hf,rfl,rfl⟩;exact⟨Or.inl hf,rfl⟩) (k:=k) (i:=i) (s:=s) (l:=l) (t:=t) (l':=l') hs
  rw[this];constructor
  ·rintro ⟨u,_,rfl,h⟩;exact h
  ·intro h;exact⟨t,zeN ho hs h,rfl,h⟩
 have simN:∀{k i:Nat} {s:Int} {l:List Sg} {t:Int} {l':List Sg},(1<=s/\s<n.states)->(Rn (xG out n) E k i (xJ (out.states-1) s) l t l'<->∃u,(1<=u/\u<n.states)/\t=xJ (out.states-1) u/\Rn n E k i s l u l'):=by
  intro k i s l t l' hs;refine zhZ (E:=E) (M:=xG out n) (N:=n) (φ:=xJ (out.states-1)) (P:=λs=>1<=s/\s<n.states) (λf hf _=>(hn.es f hf).2.2) (λs hs e=>?_) hs;simp only[xG,List.mem_append];constructor
  ·rintro ⟨he|he,h⟩
   ·have:=ho.es e he;rw[h,yk hs.1]at this;omega
   ·obtain⟨f,hf,rfl⟩:=List.mem_map.1 he;have hff:=hn.es f hf;simp only[mvE]at h;have:f.fr=s:=by
     by_cases h0:f.fr=0
     ·rw[h0,YD,yk hs.1]at h;omega
     ·rw[yk (by omega),yk hs.1]at h;omega
    subst this;exact⟨f,hf,rfl,rfl⟩
  ·rintro ⟨f,hf,rfl,rfl⟩;exact⟨Or.inr (List.mem_map.2 ⟨f,hf,rfl⟩),rfl⟩
 cases k with
 |zero =>
  constructor
  ·intro h;have:=Qh (zht ho hn) h;omega
  ·rintro (h|h)
   ·have:=Qh ho h;omega
   ·have:=Qh hn h;omega
 |succ k =>
  constructor
  ·rintro ⟨a,ha,e,he,hf,l1,h3,h4⟩;simp only[xG,List.mem_append]at he;rcases he with he|he
   ·left;have hto:=(ho.es e he).2.2;have h5:=(simO hto).1 h4;have ha2:=zeN ho hto h5;refine⟨a,?_,e,he,hf,l1,h3,h5⟩;simp only[xG,List.mem_append]at ha;rcases ha with ha|ha
    ·exact ha
    ·obtain⟨b,hb,rfl⟩:=List.mem_map.1 ha;have:=hn.ac b hb;rw[yk this.1]at ha2;omega
   ·right;obtain⟨f,hfm,rfl⟩:=List.mem_map.1 he;have hff:=hn.es f hfm;have h0:f.fr=0:=by
     simp only[mvE]at hf;by_cases h0:f.fr=0
     ·exact h0
     ·rw[yk (by omega)]at hf;omega
    obtain⟨u,hu,rfl,h5⟩:=(simN hff.2.2).1 h4;refine⟨u,?_,f,hfm,h0,l1,h3,h5⟩;simp only[xG,List.mem_append]at ha;rw[yk hu.1]at ha;rcases ha with ha|ha
    ·have:=ho.ac _ ha;omega
    ·obtain⟨b,hb,h6⟩:=List.mem_map.1 ha;have:=hn.ac b hb;rw[yk this.1]at h6;obtain rfl:b=u:=by omega
     exact hb
  ·rintro (⟨a,ha,e,he,hf,l1,h3,h4⟩|⟨a,ha,e,he,hf,l1,h3,h4⟩)
   ·exact⟨a,by simp only[xG,List.mem_append];exact Or.inl ha,e,by simp only[xG,List.mem_append];exact Or.inl he,hf,l1,h3,(simO (ho.es e he).2.2).2 h4⟩
   ·have hee:=hn.es e he;refine⟨xJ (out.states-1) a,by simp only[xG,List.mem_append];exact Or.inr (List.mem_map.2 ⟨a,ha,rfl⟩),mvE e (xJ (out.states-1) e.fr) (xJ (out.states-1) e.to),by simp only[xG,List.mem_append];exact Or.inr (List.mem_map.2 ⟨e,he,rfl⟩),?_,l1,h3,(simN hee.2.2).2 ⟨a,zeN hn hee.2.2 h4,rfl,h4⟩⟩;simp only[mvE];rw[hf,YD]
theorem zmn:∀(ps:List zm) (out:zm),Qe out->(∀p∈ps,Qe p)->∀{k i:Nat} {l l':List Sg},Ac (ps.foldl xG out) E k i l l'<->Ac out E k i l l'\/∃p∈ps,Ac p E k i l l':=by
 intro ps
 induction ps with
 |nil=>intro out _ _ k i l l';simp
 |cons p ps ih =>intro out ho hp k i l l';rw[List.foldl_cons,ih _ (zht ho (hp p (List.mem_cons_self ..))) (λq hq=>hp q (List.mem_cons_of_mem _ hq)),znl ho (hp p (List.mem_cons_self ..))];simp only[List.mem_cons,exists_eq_or_imp,or_assoc]
theorem zmm {ps:List zm} (hp:∀p∈ps,Qe p) {k i:Nat} {l l':List Sg}:Ac (orN ps) E k i l l'<->∃p∈ps,Ac p E k i l l':=by
 unfold orN;rw[zmn ps _ ⟨Int.le_refl 1,λe he=>(by cases he),λa ha=>(by cases ha)⟩ hp];constructor
 ·rintro (⟨a,ha,_⟩|h)
  ·cases ha
  ·exact h
 ·exact Or.inr
theorem zhY {n:zm} {x:Ex} {S:List ByteArray} (hx:okX x=true) (hSn:∀s∈S,yW s.data.toList=true) (hd:∀s∈zG [2] x,¬s∈S) (hS:∀e∈n.edges,∀b∈e.sets,b.name∈S) (l0:List Sg) :
 ∀{k i:Nat} {s:Int} {l:List Sg} {t:Int} {l':List Sg},qm l->Agr S l l0->(Rn (Qs x n) E k i s l t l'<->Rn n E k i s l t l'/\∀j,j<k->qK x l0 (E (i+j))≠0):=by
 intro k
 induction k with
 |zero=>intro i s l t l' _ _;exact⟨λh=>⟨h,λj hj=>absurd hj (Nat.not_lt_zero _)⟩,λh=>h.1⟩
 |succ k ih =>
  intro i s l t l' hl ha;have hv:qK x l (E i)=qK x l0 (E i):=zk1 hx hSn hd ha;constructor
  ·rintro ⟨e,he,hf,l1,h1,h2⟩;obtain⟨f,hfm,rfl⟩:=List.mem_map.1 he;obtain⟨h3,h4⟩:=(zc3 (e:=f) (e':={ f with guards:=f.guards++[x] }) (x:=x) rfl rfl).1 h1;obtain⟨h5,h6⟩:=(ih (YF h3 hl) ((zee (hS f hfm) hl h3).trans ha)).1 h2;refine⟨⟨f,hfm,hf,l1,h3,h5⟩,λj hj=>?_⟩;cases j with
   |zero=>rw[Nat.add_zero,←hv];exact h4
   |succ j=>have:=h6 j (by omega);rwa [show i+1+j=i+(j+1) by omega]at this
  ·rintro ⟨⟨f,hfm,hf,l1,h3,h5⟩,h6⟩;refine⟨{ f with guards:=f.guards++[x] },List.mem_map.2 ⟨f,hfm,rfl⟩,hf,l1,(zc3 (e:=f) (e':={ f with guards:=f.guards++[x] }) (x:=x) rfl rfl).2 ⟨h3,by rw[hv];exact h6 0 (by omega)⟩,?_⟩;refine(ih (YF h3 hl) ((zee (hS f hfm) hl h3).trans ha)).2 ⟨h5,λj hj=>?_⟩;have:=h6 (j+1) (by omega);rwa [show i+(j+1)=i+1+j by omega]at this
theorem zkL {n:zm} (hn:Qe n) (hnd:n.accept.Nodup) {nm:ByteArray} {x:Ex}:∀{k i:Nat} {s:Int} {l:List Sg} {q:Nat} {l':List Sg} (hq:q<n.accept.length),s<n.states ->
 (Rn (zax nm x n) E k i s l (n.states+(q:Nat)) l'<->1<=k/\∃l1,Rn n E k i s l (n.accept[q]'hq) l1/\l'=Z4 l1 nm (qK x l1 (E (i+k-1)))):=by
 intro k
 induction k with
 |zero =>
  intro i s l q l' hq hs;constructor
  ·rintro ⟨h,_⟩;omega
  ·rintro ⟨h,_⟩;omega
 |succ k ih =>
  intro i s l q l' hq hs;constructor
  ·rintro ⟨e,he,hf,l1,h1,h2⟩;simp only[zax,List.mem_append]at he;rcases he with he|he
   ·obtain⟨h3,l2,h4,h5⟩:=(ih hq (hn.es e he).2.2.2).1 h2;refine⟨by omega,l2,⟨e,he,hf,l1,h1,h4⟩,?_⟩;rw[h5,show i+1+k-1=i+(k+1)-1 by omega]
   ·obtain⟨f,hfm,he⟩:=List.mem_filterMap.1 he;split at he
    ·rename_i hc;obtain rfl:=Option.some.inj he;obtain⟨l2,h3,rfl⟩:=(take_set (e:=f) (e':=⟨f.fr,n.states+(n.accept.idxOf f.to:Nat),f.guards,f.sets++[⟨nm,x⟩]⟩) rfl rfl).1 h1;have hm:f.to∈n.accept:=by simpa using hc
     have hix:n.accept.idxOf f.to<n.accept.length:=List.idxOf_lt_length_of_mem hm;cases k with
     |zero =>
      have h4:n.accept.idxOf f.to=q:=by have:=h2.1;simp only at this;omega
      subst h4;refine⟨by omega,l2,⟨f,hfm,hf,l2,h3,?_,rfl⟩,?_⟩
      ·exact(List.getElem_idxOf hix).symm
      ·rw[←h2.2];rfl
     |succ k =>
      obtain⟨e,he,hf2,_⟩:=h2;simp only at hf2;simp only[zax,List.mem_append]at he;rcases he with he|he
      ·have:=(hn.es e he).2.1;omega
      ·obtain⟨g,hg,he⟩:=List.mem_filterMap.1 he;split at he
       ·obtain rfl:=Option.some.inj he;have:=(hn.es g hg).2.1;simp only at hf2;omega
       ·simp at he
    ·simp at he
  ·rintro ⟨_,l2,⟨e,he,hf,l1,h1,h2⟩,h5⟩;cases k with
   |zero =>
    obtain⟨h3,rfl⟩:=h2;have hm:e.to∈n.accept:=by rw[h3];exact List.getElem_mem hq
    have hc:n.accept.contains e.to=true:=by simpa using hm
    refine⟨⟨e.fr,n.states+(n.accept.idxOf e.to:Nat),e.guards,e.sets++[⟨nm,x⟩]⟩,?_,hf,l',?_,?_,rfl⟩
    ·simp only[zax,List.mem_append];refine Or.inr (List.mem_filterMap.2 ⟨e,he,?_⟩);rw[if_pos hc]
    ·refine(take_set (e:=e) (e':=⟨e.fr,n.states+(n.accept.idxOf e.to:Nat),e.guards,e.sets++[⟨nm,x⟩]⟩) rfl rfl).2 ⟨l1,h1,?_⟩;rw[h5];rfl
    ·simp only;rw[h3,List.Nodup.idxOf_getElem hnd]
   |succ k =>refine⟨e,by simp only[zax,List.mem_append];exact Or.inl he,hf,l1,h1,?_⟩;refine(ih hq (hn.es e he).2.2.2).2 ⟨by omega,l2,h2,?_⟩;rw[h5,show i+1+(k+1)-1=i+(k+1+1)-1 by omega]
theorem zmp {n:zm} (hn:Qe n) (hnd:n.accept.Nodup) {nm:ByteArray} {x:Ex} {k i:Nat} {l l':List Sg}:Ac (zax nm x n) E k i l l'<->∃l1,Ac n E k i l l1/\l'=Z4 l1 nm (qK x l1 (E (i+k-1))):=by
 have h1:=hn.st;constructor
 ·rintro ⟨a,ha,h⟩;simp only[zax]at ha;obtain⟨q,hq,rfl⟩:=List.mem_map.1 ha;have hq:=List.mem_range.1 hq;obtain⟨_,l1,h2,h3⟩:=(zkL hn hnd hq (by omega)).1 h;exact⟨l1,⟨_,List.getElem_mem hq,h2⟩,h3⟩
 ·rintro ⟨l1,⟨a,ha,h⟩,h3⟩;have hk:=Qh hn ⟨a,ha,h⟩;obtain⟨q,hq,rfl⟩:=List.getElem_of_mem ha;refine⟨n.states+(q:Nat),?_,(zkL hn hnd hq (by omega)).2 ⟨hk,l1,h,h3⟩⟩;simp only[zax];exact List.mem_map.2 ⟨q,List.mem_range.2 hq,rfl⟩
end Go.Proofs.YthojpomoflhbcaaGreatDoor
