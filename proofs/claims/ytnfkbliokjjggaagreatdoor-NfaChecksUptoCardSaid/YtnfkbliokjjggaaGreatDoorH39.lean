/- tseq.check, tseq.Valid. -/
import Derived.Test.YtnfkbliokjjggaaGreatDoorH38
import Derived.Test.YtnfkbliokjjggaaGreatDoorH33
import Derived.Test.YtnfkbliokjjggaaGreatDoorH36
import Derived.Test.YtnfkbliokjjggaaGreatDoorH20
import Derived.Test.YtnfkbliokjjggaaGreatDoorH24
set_option maxHeartbeats 8000000
set_option maxRecDepth 100000
set_option linter.unusedSimpArgs false
set_option linter.unusedVariables false
set_option linter.unnecessarySimpa false
namespace Go.Proofs.YtnfkbliokjjggaaGreatDoor
open Go.RowKit
attribute [local go_sem ↓] Go.wp_at_zero Go.wp_at_succ
noncomputable def SmT (s:Tq):Prop:=s.para λs l=>s.expr.nodes.length<=1000000000/\∀x∈l,x
theorem zbu (s:Tq):SmT s<->s.expr.nodes.length<=1000000000/\∀a∈s.args,SmT a:=by unfold SmT;rw[Tq.para_eq];exact and_congr_right λ_=>⟨λh a ha=>h _ (List.mem_map.2 ⟨a,ha,rfl⟩),λh x hx=>by obtain⟨a,ha,rfl⟩:=List.mem_map.1 hx;exact h a ha⟩
theorem zde:∀{l:List Int} {k:Nat} (hk:k<l.length),(∀j (hj:j<l.length),j<k->l[j]'hj=0)->l[k]'hk≠0->ZE l=l[k]'hk:=by
 intro l
 induction l with
 |nil=>intro k hk;simp at hk
 |cons a l ih =>
  intro k hk hb h;cases k with
  |zero =>have h':a≠0:=h;rw[ZE,if_neg h'];rfl
  |succ k =>have h0:a=0:=hb 0 (by simp) (by omega);rw[ZE,if_pos h0];exact ih (by simpa using hk) (λj hj hjk=>hb (j+1) (by simpa using hj) (by omega)) h
theorem zdY (s:Tq):∀(below:Bool) (p:Nat->Bool) (ae:Option Addr) (ce:Nat) (a:Option Addr) (cap:Nat) (w:World),X4 (World.hide w p) s ae ce a cap->(∀j,p j=true->j<w.heap.size)->s.nodes<=1000000000->SmT s->qW w ->
 Calls Tryz.prog 82 #[xw s ae ce a cap,.bool below] w λe w'=>e=.returned (.int .i64 (yc s below))/\Below w.heap.size w w':=by
 induction s using Tq.ind with
 |h s ih =>
  intro below p ae ce a cap w hX hp hn hsm hG;obtain⟨hxn,hsa⟩:=(zbu s).1 hsm;have HIH:Hid (∀k (hk:k<s.args.length),∀(xe:Option Addr) (xc:Nat) (xa:Option Addr) (xk:Nat) (W:World),X4 (World.hide W p) (s.args[k]'hk) xe xc xa xk->Below w.heap.size w W->Calls Tryz.prog 82 #[xw (s.args[k]'hk) xe xc xa xk,.bool (below||s.op==5)] W λe w'=>e=.returned (.int .i64 (yc (s.args[k]'hk) (below||s.op==5)))/\Below W.heap.size W w'):=λk hk xe xc xa xk W h1 hW=>ih _ (List.getElem_mem hk) _ p xe xc xa xk W h1 (λj hj=>by have:=hp j hj;have:=hW.size;omega) (Nat.le_trans (Nat.le_of_lt (xK (List.getElem_mem hk))) hn) (hsa _ (List.getElem_mem hk)) (hG.below hW);have HNd:Hid (∀W,Below w.heap.size w W->Calls Tryz.prog 145 #[xw s ae ce a cap,.bool below] W λe w'=>e=.returned (.int .i64 (qy s below))/\Below W.heap.size W w'):=λW hW=>zfP s below p ae ce a cap W (hX.keep (zg hW λ_ _ h=>h)) (λj hj=>by have:=hp j hj;have:=hW.size;omega) hn hxn (hG.below hW);have hlen:=hX.ar.2.1;have HX:=Lib.hid hX.ar;have HXA:Hid (s.args.length=0\/∃b off,a=some ⟨b,off,none⟩):=zw.addr hX.ar;have HR1:Hid (qy s below≠0->yc s below=qy s below):=λh=>by rw[qv,if_neg h]
  have HR2:Hid (qy s below=0->∀k (hk:k<s.args.length),(∀j (hj:j<s.args.length),j<k->yc (s.args[j]'hj) (below||s.op==5)=0)->yc (s.args[k]'hk) (below||s.op==5)≠0->yc s below=yc (s.args[k]'hk) (below||s.op==5)):=λh k hk hb hne=>by rw[qv,if_pos h,zde (k:=k) (by simpa using hk) (λj hj hjk=>by simpa using hb j (by simpa using hj) hjk) (by simpa using hne)];simp
  have HR3:Hid (qy s below=0->(∀j (hj:j<s.args.length),yc (s.args[j]'hj) (below||s.op==5)=0)->yc s below=0):=λh hb=>by rw[qv,if_pos h];refine Xy.2 λx hx=>?_;obtain⟨y,hy,rfl⟩:=List.mem_map.1 hx;obtain⟨j,hj,rfl⟩:=List.getElem_of_mem hy;exact hb j hj
  generalize yc s below=R at HR1 HR2 HR3⊢;generalize qy s below=nv at HNd HR1 HR2 HR3;clear hX hp hn hsm hG hxn hsa ih;rw[zK]at HNd⊢;go_enter Tryz.func82, Tryz.ntmps82;go_upto_region 1 with fail;generalize hBx:World.alloc w _=Bx;have HB0:Hid (Below w.heap.size w Bx):=by show Below _ _ _;rw[←hBx];exact(Below.refl _ _).alloc (Nat.le_refl _) _
  have hzB:=HB0.out.size;have HBX:Hid (Bx.heap[w.heap.size]? = some (xr s ae ce a cap)):=by show _=_;rw[←hBx];exact zh rfl
  obtain⟨b0,b1,b2,b3,b4,b5,b6,b7,b8⟩:=yI HBX.out;clear hBx;go_wp2_with fail;refine(HNd.out _ HB0.out).mono ?_;rintro e w1 ⟨rfl,hb1⟩;have HB1:Hid (Below w.heap.size w w1):=HB0.out.trans (hb1.mono hzB);have HBX1:Hid (w1.heap[w.heap.size]? = some (xr s ae ce a cap)):=(hb1.block _ (lt_of_block HBX.out)).trans HBX.out;have hz1:=HB1.out.size;clear hb1 b0 b1 b2 b3 b4 b5 b6 b7 b8;by_cases hv:nv=0
  ·subst hv;replace HR2:=Lib.hid (HR2.out rfl);replace HR3:=Lib.hid (HR3.out rfl);clear HR1 HNd;obtain⟨b0,-,-,-,-,-,-,-,b8⟩:=yI HBX1.out;go_wp2_with fail;clear b0 b8;go_loopw [18,7,8] (λi _ _ wr=>∃k:Nat,i=.int .i64 k/\k<=s.args.length/\Hid (∀j (hj:j<s.args.length),j<k->yc (s.args[j]'hj) (below||s.op==5)=0)/\Hid (Below w1.heap.size w1 wr)) (λi _ _ _=>s.args.length-(intOf i).toNat);case atStart=>exact⟨0,rfl,Nat.zero_le _,λ_ _ h=>absurd h (by omega),Below.refl _ _⟩
   case round =>
    obtain⟨k,rfl,hk,HAl,HBr⟩:=hrel;have hzr:=HBr.out.size;have HBw:Hid (Below w.heap.size w wr):=HB1.out.trans (HBr.out.mono hz1);by_cases hlt:k<s.args.length
    ·obtain⟨bE,oE,hEa⟩:=HXA.out.resolve_left (by omega);subst hEa;obtain⟨xe,xc,xa,xk,gc,hXy⟩:=(qX.keep (w':=World.hide wr p) (zg HBw.out λ_ _ h=>h) HX.out).get rfl hlt;obtain⟨g0,g1,g2,g3,g4,g5,g6,g7,g8⟩:=zay gc;have f0:=zc _ _ g0;have f1:=zc _ _ g1;have f2:=zc _ _ g2;have f3:=zc _ _ g3;have f4:=zc _ _ g4;have f5:=zc _ _ g5;have f6:=zc _ _ g6;have f7:=zc _ _ g7;have f8:=zc _ _ g8;have HC:=Lib.hid λW (hW:Below wr.heap.size wr W)=>HIH.out k hlt xe xc xa xk W (hXy.keep (zg hW λ_ _ h=>h)) (HBw.out.trans (hW.mono HBw.out.size));have HNx:Hid (yc (s.args[k]'hlt) (below||s.op==5)=0->∀j (hj:j<s.args.length),j<k+1->yc (s.args[j]'hj) (below||s.op==5)=0):=λhv j hj hjk=>by
      by_cases e:j=k
      ·subst e;exact hv
      ·exact HAl.out j hj (by omega)
     have HYx:Hid (yc (s.args[k]'hlt) (below||s.op==5)≠0->R=yc (s.args[k]'hlt) (below||s.op==5)):=λh=>HR2.out k hlt HAl.out h;have hbx:=(HBr.out.block _ (lt_of_block HBX1.out)).trans HBX1.out;have b0:∀o,(wr.alloc o).cell? ⟨w.heap.size,0,none⟩=some (.int .i64 s.op):=λo=>by rw[zb (zl (o:=o) hbx)];rfl
     clear gc g0 g1 g2 g3 g4 g5 g6 g7 g8 hXy hbx;generalize (s.args[k]'hlt)=y at f0 f1 f2 f3 f4 f5 f6 f7 f8 HC HNx HYx;rw[zK]at HC;obtain⟨q,hq⟩:∃q,(below||s.op==5)=q:=⟨_,rfl⟩;have hbq:(below=true/\q=true)\/(below=false/\(s.op==5)=q):=by
      cases below with
      |true=>left;exact⟨rfl,by rw[←hq];rfl⟩
      |false=>right;exact⟨rfl,by rw[←hq];rfl⟩
     generalize hcv:yc y (below||s.op==5)=cv at HC HNx HYx;rw[hq]at HC;clear hq hcv;have HCf:Hid (∀W,Below wr.heap.size wr W->Calls Tryz.prog 82 #[.agg #[.int .i64 y.op,.int .i64 y.lo,.int .i64 y.hi,.int .i64 y.expr.op,.int .i64 y.expr.n,.string y.expr.name,.slice xe y.expr.args.length xc,.string y.name,.slice xa y.args.length xk],.bool q] W λe w'=>e=.returned (.int .i64 cv)/\Below w1.heap.size w1 w'):=λW hW=>(HC.out W hW).mono λe w' h=>⟨h.1,HBr.out.trans ((hW.trans (h.2.mono hW.size)).mono hzr)⟩;clear HC;rcases hbq with ⟨hb,hq⟩|⟨hb,hq⟩
     all_goals
      subst hb;subst hq;by_cases hv:cv=0
      ·subst hv;replace HNx:=Lib.hid (HNx.out rfl);go_wp2_with (go_at_call 82;go_must (refine(HCf.out _ zW).mono ?_;rintro e w5 ⟨rfl,hb5⟩;have HB5:=Lib.hid hb5;clear hb5));go_roundw;case rel=>exact⟨k+1,by go_num,by omega,HNx.out,HB5.out⟩
       case measure=>(simp[intOf];try omega)
      ·obtain rfl:=HYx.out hv;have hvb:(R==0)=false:=by simp[hv]
       go_wp2_with (go_at_call 82;go_must (refine(HCf.out _ zW).mono ?_;rintro e w5 ⟨rfl,hb5⟩;have HB5:=Lib.hid hb5;clear hb5));go_ret;exact⟨rfl,HB1.out.trans (HB5.out.mono hz1)⟩
    ·obtain rfl:k=s.args.length:=by omega
     obtain rfl:R=0:=HR3.out λj hj=>HAl.out j hj hj;go_wp2_with fail;go_ret;exact⟨rfl,HBw.out⟩
  ·obtain rfl:R=nv:=HR1.out hv;have hvb:(R==0)=false:=by simp[hv]
   clear HR2 HR3;go_wp2_with fail;go_ret;exact⟨rfl,HB1.out⟩
theorem zd0 (s:Tq) (p:Nat->Bool) (ae:Option Addr) (ce:Nat) (a:Option Addr) (cap:Nat) (w:World) (hX:X4 (World.hide w p) s ae ce a cap) (hp:∀j,p j=true->j<w.heap.size) (hn:s.nodes<=1000000000) (hs:SmT s) (hG:qW w) :
 Calls Tryz.prog 35 #[xw s ae ce a cap] w λe w'=>e=.returned (.int .i64 (qi s))/\Below w.heap.size w w':=by
 have hpW:∀W,Below w.heap.size w W->∀j,p j=true->j<W.heap.size:=λW hW j hj=>by have:=hp j hj;have:=hW.size;omega
 have HD:=Lib.hid λW (hW:Below w.heap.size w W)=>zb4 s p ae ce a cap W (hX.keep (zg hW λ_ _ h=>h)) (hpW W hW) hn;have HS:=Lib.hid λW (hW:Below w.heap.size w W)=>zdZ s p ae ce a cap W (hX.keep (zg hW λ_ _ h=>h)) (hpW W hW) hn;have HC:=Lib.hid λW (hW:Below w.heap.size w W)=>zdY s false p ae ce a cap W (hX.keep (zg hW λ_ _ h=>h)) (hpW W hW) hn hs (hG.below hW);have HR:Hid (qi s=if 8<s.depth\/100<s.nodes then 2 else yc s false):=rfl;generalize qi s=R at HR⊢;generalize yc s false=cv at HC HR;generalize s.depth=d at HD HR;generalize s.nodes=m at HS HR;clear hX hp hn hs hG hpW;rw[zK]at HD HS HC⊢;go_enter Tryz.func35, Tryz.ntmps35;go_upto_region 1 with fail;generalize hBx:World.alloc w _=Bx;have HB0:Hid (Below w.heap.size w Bx):=by show Below _ _ _;rw[←hBx];exact(Below.refl _ _).alloc (Nat.le_refl _) _
 have hzB:=HB0.out.size;have HBX:Hid (∀W,Below Bx.heap.size Bx W->W.heap[w.heap.size]? = some (xr s ae ce a cap)):=λW hW=>by
  have h0:Bx.heap[w.heap.size]? = some (xr s ae ce a cap):=by rw[←hBx];exact zh rfl
  exact(hW.block _ (lt_of_block h0)).trans h0
 clear hBx;have HT:Hid (∀(f:FuncId) (args:Array Value) (v:Value),(∀W,Below w.heap.size w W->Calls Tryz.prog f args W λe w'=>e=.returned v/\Below W.heap.size W w')->∀W,Below Bx.heap.size Bx W->Calls Tryz.prog f args W λe w'=>e=.returned v/\Below Bx.heap.size Bx w'):=λf args v h W hW=>(h W (HB0.out.trans (hW.mono hzB))).mono λe w' hq=>⟨hq.1,hW.trans (hq.2.mono hW.size)⟩;replace HD:=Lib.hid (HT.out _ _ _ HD.out);replace HS:=Lib.hid (HT.out _ _ _ HS.out);replace HC:=Lib.hid (HT.out _ _ _ HC.out);clear HT;have hbx:=Below.refl Bx.heap.size Bx;obtain⟨b0,b1,b2,b3,b4,b5,b6,b7,b8⟩:=yI (HBX.out _ hbx);clear hbx;by_cases hd:8<d
 ·obtain rfl:R=2:=by rw[HR.out,if_pos (Or.inl hd)]
  have hd2:(8:Int)<(d:Int):=by omega
  go_wp2_with (go_at_call 80;go_must (refine(HD.out _ (Below.refl _ _)).mono ?_;rintro e w1 ⟨rfl,hb1⟩;have HB1:=Lib.hid hb1;clear hb1));go_ret;exact⟨rfl,HB0.out.trans (HB1.out.mono hzB)⟩
 ·have hd2:¬(8:Int)<(d:Int):=by omega
  by_cases hm:100<m
  ·obtain rfl:R=2:=by rw[HR.out,if_pos (Or.inr hm)]
   have hm2:(100:Int)<(m:Int):=by omega
   go_wp2_with (go_at_call 80;go_must (refine(HD.out _ (Below.refl _ _)).mono ?_;rintro e w1 ⟨rfl,hb1⟩;clear b0 b1 b2 b3 b4 b5 b6 b7 b8;obtain⟨b0,b1,b2,b3,b4,b5,b6,b7,b8⟩:=yI (HBX.out _ hb1);have HB1:=Lib.hid hb1;clear hb1));refine(HS.out _ HB1.out).mono ?_;rintro e w2 ⟨rfl,hb2⟩;have HB2:=Lib.hid hb2;clear hb2;go_wp2_with fail;go_ret;exact⟨rfl,HB0.out.trans (HB2.out.mono hzB)⟩
  ·obtain rfl:R=cv:=by rw[HR.out,if_neg (by omega)]
   have hm2:¬(100:Int)<(m:Int):=by omega
   go_wp2_with (go_at_call 80;go_must (refine(HD.out _ (Below.refl _ _)).mono ?_;rintro e w1 ⟨rfl,hb1⟩;clear b0 b1 b2 b3 b4 b5 b6 b7 b8;obtain⟨b0,b1,b2,b3,b4,b5,b6,b7,b8⟩:=yI (HBX.out _ hb1);have HB1:=Lib.hid hb1;clear hb1));refine(HS.out _ HB1.out).mono ?_;rintro e w2 ⟨rfl,hb2⟩;clear b0 b1 b2 b3 b4 b5 b6 b7 b8;obtain⟨b0,b1,b2,b3,b4,b5,b6,b7,b8⟩:=yI (HBX.out _ hb2);have HB2:=Lib.hid hb2;clear hb2;go_wp2_with fail;refine(HC.out _ HB2.out).mono ?_;rintro e w3 ⟨rfl,hb3⟩;have HB3:=Lib.hid hb3;clear hb3;go_wp2_with fail;go_ret;exact⟨rfl,HB0.out.trans (HB3.out.mono hzB)⟩
noncomputable def zeA (s:Tq):Option zt×Int:=if qi s≠0 then (none,1) else match yJ s with|none=>(none,2)|some n=>(some (trimS n),0)
def zhJ (p:Nat->Bool) (r:Option zt×Int) (w:World) (e:Ending) (w':World):Prop :=
 (match r.1 with
  |some m=>∃y:qn,e=.returned (.tuple #[.agg #[.int .i64 m.states,.slice y.ae m.edges.length y.ce,.slice y.aa m.accept.length y.ca],.int .i64 r.2])/\yb (World.hide w' p) m y
  |none=>e=.returned (.tuple #[.agg #[.int .i64 0,.slice none 0 0,.slice none 0 0],.int .i64 r.2]))/\Below w.heap.size w w'
def lkS (env:List Sg) (s:ByteArray):Int:=(xv env s).getD 0
theorem zhG {a b:ByteArray}:(a.toList==b.toList)=true<->a=b:=by
 constructor
 ·intro h;have h2:=eq_of_beq h;rw[ByteArray.toList_eq,ByteArray.toList_eq]at h2;exact zen h2
 ·rintro rfl;simp
theorem xR (x:Sg) (l:List Sg) (s:ByteArray):xv (x::l) s=if x.1=s then some (Ys x.2) else xv l s:=by
 show (if (x.1.toList==s.toList)=true then _ else _)=_;by_cases h:x.1=s
 ·rw[if_pos h,if_pos (zhG.2 h)]
 ·rw[if_neg h,if_neg λe=>h (zhG.1 e)]
theorem zaH (l m:List Sg) (s:ByteArray):xv (l++m) s=(xv l s).or (xv m s):=by
 induction l with
 |nil=>rfl
 |cons x l ih =>rw[List.cons_append,xR,xR,ih];split<;>simp
theorem Qo {l:List Sg} {s:ByteArray} (h:∃v,(s,v)∈l):(xv l s).isSome=true:=by
 induction l with
 |nil=>obtain⟨v,hv⟩:=h;cases hv
 |cons x l ih =>
  rw[xR];by_cases hx:x.1=s
  ·rw[if_pos hx];rfl
  ·rw[if_neg hx];refine ih ?_;obtain⟨v,hv⟩:=h;rcases List.mem_cons.1 hv with h2|h2
   ·rw[←h2]at hx;exact absurd rfl hx
   ·exact⟨v,h2⟩
theorem zdd {l:List Sg} (h:∀x∈l,x.2=0) (s:ByteArray):(xv l s).getD 0=0:=by
 induction l with
 |nil=>rfl
 |cons x l ih =>
  rw[xR];split
  ·rw[h x (List.mem_cons_self ..)];rfl
  ·exact ih λy hy=>h y (List.mem_cons_of_mem _ hy)
def zjC (e:Ex) (s:ByteArray):Prop:=(∃x∈e.nodes,x.op=2/\x.name=s)\/∃x∈e.nodes,(x.op=3\/x.op=24)/\∃i:Nat,i<8/\s=Xu x.name i
theorem zcx {e x y:Ex} (hx:x∈e.args) (hy:y∈x.nodes):y∈e.nodes:=by rw[Ex.nodes_eq];exact List.mem_cons_of_mem _ (List.mem_flatten.2 ⟨_,List.mem_map.2 ⟨x,hx,rfl⟩,hy⟩)
theorem zjC.arg {e x:Ex} {s:ByteArray} (hx:x∈e.args) (h:zjC x s):zjC e s:=by
 rcases h with ⟨y,hy,h⟩|⟨y,hy,h⟩
 ·exact Or.inl ⟨y,zcx hx hy,h⟩
 ·exact Or.inr ⟨y,zcx hx hy,h⟩
theorem zhp (env:List Sg) (s:ByteArray) (i:Int):(atS env s i).getD 0=if i<0\/8<=i then 0 else lkS env (Xu s i):=by unfold atS lkS;split<;>rfl
theorem zha {env env':List Sg} (e:Ex):(∀s,zjC e s->lkS env s=lkS env' s)->yN env e=yN env' e:=by
 induction e using Ex.ind with
 |h e ih =>
  intro hf;have hself:e∈e.nodes:=by rw[Ex.nodes_eq];exact List.mem_cons_self ..
  rw[qE,qE];have hl:e.args.map (yN env)=e.args.map (yN env'):=List.map_congr_left λx hx=>ih x hx λs hs=>hf s (hs.arg hx);rw[hl];have hel:∀i:Int,e.op=3\/e.op=24->(atS env e.name i).getD 0=(atS env' e.name i).getD 0:=by
   intro i ho;rw[zhp,zhp];split
   ·rfl
   ·rename_i hi;refine hf _ (Or.inr ⟨e,hself,ho,i.toNat,by omega,?_⟩);rw[show ((i.toNat:Nat):Int)=i by omega]
  by_cases h1:e.op=1
  ·rw[if_pos h1,if_pos h1]
  rw[if_neg h1,if_neg h1];by_cases h2:e.op=2
  ·rw[if_pos h2,if_pos h2];exact hf _ (Or.inl ⟨e,hself,h2,rfl⟩)
  rw[if_neg h2,if_neg h2];by_cases h3:e.op=3
  ·rw[if_pos h3,if_pos h3];exact hel _ (Or.inl h3)
  rw[if_neg h3,if_neg h3];by_cases h4:e.op=24
  ·rw[if_pos h4,if_pos h4];have:∀k:Nat,sumTo env e.name k=sumTo env' e.name k:=by
    intro k
    induction k with
    |zero=>rfl
    |succ k ih2 =>show zhn (sumTo env e.name k) ((atS env e.name k).getD 0)=zhn (sumTo env' e.name k) ((atS env' e.name k).getD 0);rw[ih2,hel _ (Or.inr h4)]
   exact this 8
  ·rw[if_neg h4,if_neg h4]
theorem zcN {e:Ex} (h:okX e=true) (loc env:List Sg):Yt e loc env=yN (loc++env) e:=by
 have hv:zD e=0:=by unfold okX at h;exact eq_of_beq h
 have hk:XD (loc++env++zi5 e) e=true:=by
  unfold XD;rw[Bool.and_eq_true,List.all_eq_true,List.all_eq_true];refine⟨λs hs=>?_,λs hs=>?_⟩
  ·refine Qo ⟨0,?_⟩;refine List.mem_append_right _ (List.mem_append_left _ (List.mem_map.2 ⟨s,hs,rfl⟩))
  ·show (atS _ s 0).isSome=true;unfold atS;rw[if_neg (by omega)];refine Qo ⟨0,?_⟩;refine List.mem_append_right _ (List.mem_append_right _ (List.mem_map.2 ⟨s,hs,?_⟩));refine Prod.ext ?_ rfl;apply ByteArray.ext;apply Array.ext';simp[Xu]
 unfold Yt qU;rw[if_neg (by simpa using hv),if_neg (by rw[hk];simp)];refine zha e λs _=>?_;unfold lkS;rw[zaH];cases hf:xv (loc++env) s with
 |some v=>rfl
 |none =>
  rw[Option.none_or];refine zdd (λx hx=>?_) s;unfold zi5 at hx;rcases List.mem_append.1 hx with hx|hx
  ·obtain⟨_,_,rfl⟩:=List.mem_map.1 hx;rfl
  ·obtain⟨_,_,rfl⟩:=List.mem_map.1 hx;rfl
def Agr (S:List ByteArray) (l l0:List Sg):Prop:=∀env s,¬s∈S->lkS (l++env) s=lkS (l0++env) s
theorem Agr.refl (S:List ByteArray) (l:List Sg):Agr S l l:=λ_ _ _=>rfl
theorem Agr.trans {S:List ByteArray} {l l1 l2:List Sg} (h:Agr S l l1) (h2:Agr S l1 l2):Agr S l l2:=λenv s hs=>(h env s hs).trans (h2 env s hs)
end Go.Proofs.YtnfkbliokjjggaaGreatDoor
