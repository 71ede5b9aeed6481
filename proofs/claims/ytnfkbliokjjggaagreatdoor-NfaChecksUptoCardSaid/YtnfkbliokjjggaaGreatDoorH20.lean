/- Runs, plainly: a trimmed automaton has the same accepting threads. -/
import Derived.Test.YtnfkbliokjjggaaGreatDoorH14
import Derived.Test.YtnfkbliokjjggaaGreatDoorH19
import Derived.BigQuiet
import Derived.Deep.LoopGhost
import Derived.Test.YtnfkbliokjjggaaGreatDoorH10
import Derived.Lib.AppendZerosOnto
import Derived.Lib.Overlaps
import Derived.Laws.Externs
import Derived.Laws.CopyOwn
set_option maxHeartbeats 8000000
set_option maxRecDepth 100000
set_option linter.unusedSimpArgs false
set_option linter.unusedVariables false
set_option linter.unnecessarySimpa false
namespace Go.Proofs.YtnfkbliokjjggaaGreatDoor
open Go.RowKit
section
variable {α : Type} {c : α → α → Int}
theorem zgB (h:Qb c) {l:List α} {t y:α}:y∈X8 c l t<->y=t\/y∈l:=by
 refine⟨zcr,?_⟩
 induction l with
 |nil=>simp[X8]
 |cons x r ih =>
  rw[X8];rintro (rfl|hy)
  ·split
   ·exact List.mem_cons_of_mem _ (ih (Or.inl rfl))
   ·split<;>exact List.mem_cons_self ..
  ·split
   ·rcases List.mem_cons.1 hy with rfl|hy
    ·exact List.mem_cons_self ..
    ·exact List.mem_cons_of_mem _ (ih (Or.inr hy))
   ·split
    ·rename_i h0;have e:=(h.zero _ _).1 h0;rw[←e];exact hy
    ·exact List.mem_cons_of_mem _ hy
end
theorem zfN {e:zk} {loc env r:List Sg}:x7 e loc env=some r<->e.guards.all (λg=>Yt g loc env != 0)=true/\zN e.sets env loc e.sets.length=r:=by
 unfold x7;by_cases hg:e.guards.all (λg=>Yt g loc env != 0)=true
 ·rw[if_pos hg];simp[hg]
 ·rw[if_neg hg];constructor
  ·intro h;simp at h
  ·intro h;exact absurd h.1 hg
theorem ze4 {env:List Sg} {t:yV} {out:List yV} {e:zk} {y:yV}:y∈x4 env t out e<->y∈out\/(e.fr=t.state/\y.state=e.to/\x7 e t.env env=some y.env):=by
 unfold x4;split
 ·rename_i h;cases ht:x7 e t.env env with
  |none=>simp
  |some loc =>
   simp only[zgB QV];constructor
   ·rintro (rfl|h1)
    ·exact Or.inr ⟨h,rfl,rfl⟩
    ·exact Or.inl h1
   ·rintro (h1|⟨_,h1,h2⟩)
    ·exact Or.inr h1
    ·left;cases y;simp only[Option.some.injEq]at h1 h2;rw[h1,h2]
 ·rename_i h;simp[h]
theorem zaw {env:List Sg} {t:yV} {out:List yV} {e:zk} (h:Asc zu out):Asc zu (x4 env t out e):=by
 unfold x4;split
 ·split
  ·exact zgu QV h
  ·exact h
 ·exact h
theorem zdf {env:List Sg} {t:yV}:∀(es:List zk) (out:List yV),Asc zu out->Asc zu (es.foldl (x4 env t) out)/\∀y,y∈es.foldl (x4 env t) out<->y∈out\/∃e∈es,e.fr=t.state/\y.state=e.to/\x7 e t.env env=some y.env:=by
 intro es
 induction es with
 |nil=>intro out h;exact⟨h,λy=>by simp⟩
 |cons e es ih =>intro out h;rw[List.foldl_cons];obtain⟨h1,h2⟩:=ih _ (zaw (t:=t) (e:=e) (env:=env) h);refine⟨h1,λy=>?_⟩;rw[h2,ze4];simp only[List.mem_cons,exists_eq_or_imp,or_assoc]
theorem zbk (n:zt) (env:List Sg) (l:List yV):Asc zu (yw n env l l.length)/\∀y,y∈yw n env l l.length<->∃t∈l,∃e∈n.edges,e.fr=t.state/\y.state=e.to/\x7 e t.env env=some y.env:=by
 unfold yw stepT;rw[List.take_length,List.take_length];have:∀(l:List yV) (out:List yV),Asc zu out->Asc zu (l.foldl (λout t=>n.edges.foldl (x4 env t) out) out)/\∀y,y∈l.foldl (λout t=>n.edges.foldl (x4 env t) out) out<->y∈out\/∃t∈l,∃e∈n.edges,e.fr=t.state/\y.state=e.to/\x7 e t.env env=some y.env:=by
  intro l
  induction l with
  |nil=>intro out h;exact⟨h,λy=>by simp⟩
  |cons t l ih =>intro out h;rw[List.foldl_cons];obtain⟨h1,h2⟩:=zdf (env:=env) (t:=t) n.edges out h;obtain⟨h3,h4⟩:=ih _ h1;refine⟨h3,λy=>?_⟩;rw[h4,h2];simp only[List.mem_cons,exists_eq_or_imp,or_assoc]
 obtain⟨h1,h2⟩:=this l [] (by simp[Asc]);exact⟨h1,λy=>by rw[h2];simp⟩
theorem zg8 (e:Ex) (loc env:List Sg):0<=Yt e loc env/\Yt e loc env<=65535:=by
 unfold Yt qU;split
 ·exact⟨Int.le_refl 0,by decide⟩
 ·split
  ·exact⟨Int.le_refl 0,by decide⟩
  ·rename_i hv _;have hv:zD e=0:=Decidable.of_not_not hv;have hf:yj e.nodes=0:=by
    unfold zD at hv;split at hv
    ·omega
    ·exact hv
   have:=za6 (loc++env++zi5 e) e (Xx _ hf);exact⟨this.1,Int.le_of_lt_add_one this.2⟩
def QJ (l:List Sg):Prop:=zbq l/\∀x∈l,0<=x.2/\x.2<=65535
theorem XE {l:List Sg}:xm l=true<->QJ l:=by
 have key:xm l=true<->∀i,i<l.length->0<=(l.getD i (.empty,0)).2/\(l.getD i (.empty,0)).2<=65535/\(0<i->qF (l.getD (i-1) (.empty,0)).1 (l.getD i (.empty,0)).1<0):=by unfold xm zcv;simp only[List.all_eq_true,List.mem_range,decide_eq_true_eq]
 rw[key];constructor
 ·intro h;refine⟨?_,λx hx=>?_⟩
  ·unfold zbq;rw[List.pairwise_iff_getElem];intro i j hi hj hij;have step:∀d,0<d->i+d<l.length->qF (l.getD i (.empty,0)).1 (l.getD (i+d) (.empty,0)).1<0:=by
    intro d
    induction d with
    |zero=>intro h0;omega
    |succ d ih =>
     intro _ hd;have h2:=(h (i+d+1) (by omega)).2.2 (by omega);rw[show i+d+1-1=i+d by omega]at h2;rw[←Nat.add_assoc];rcases Nat.eq_zero_or_pos d with h0|h0
     ·subst h0;exact h2
     ·exact X6.trans _ _ _ (ih h0 (by omega)) h2
   have h1:=step (j-i) (by omega) (by omega);rw[show i+(j-i)=j by omega]at h1;simpa only [List.getD_eq_getElem?_getD,List.getElem?_eq_getElem hi,List.getElem?_eq_getElem hj,Option.getD_some] using h1
  ·obtain⟨i,hi,rfl⟩:=List.getElem_of_mem hx;have:=h i hi;simp only[List.getD_eq_getElem?_getD,List.getElem?_eq_getElem hi,Option.getD_some]at this;exact⟨this.1,this.2.1⟩
 ·rintro ⟨h1,h2⟩ i hi;unfold zbq at h1;rw[List.pairwise_iff_getElem]at h1;simp only[List.getD_eq_getElem?_getD,List.getElem?_eq_getElem hi,Option.getD_some];refine⟨(h2 _ (List.getElem_mem hi)).1,(h2 _ (List.getElem_mem hi)).2,λh0=>?_⟩;have:=h1 (i-1) i (by omega) hi (by omega);rw[List.getElem?_eq_getElem (by omega)];exact this
theorem QJ.put {l:List Sg} (h:QJ l) {nm:ByteArray} {v:Int} (hv:0<=v/\v<=65535):QJ (YG l nm v):=by
 refine⟨zaf h.1,λx hx=>?_⟩;rcases zcE hx with rfl|hx
 ·exact hv
 ·exact h.2 x hx
theorem zb1 (l:List xG) (env loc:List Sg) {k:Nat} (h:k<l.length):zN l env loc (k+1)=YG (zN l env loc k) (l[k]'h).name (Yt (l[k]'h).expr (zN l env loc k) env):=by unfold zN;rw[List.take_succ_eq_append_getElem h,List.foldl_append];rfl
theorem zfC (l:List xG) (env loc:List Sg) (h:QJ loc):∀k,k<=l.length->QJ (zN l env loc k):=by
 intro k
 induction k with
 |zero=>intro _;simpa [zN] using h
 |succ k ih=>intro hk;rw[zb1 l env loc hk];exact(ih (by omega)).put (zg8 _ _ _)
theorem zgZ {e:zk} {loc env r:List Sg} (h:x7 e loc env=some r) (hl:QJ loc):QJ r:=by rw[zfN]at h;rw[←h.2];exact zfC _ _ _ hl _ (Nat.le_refl _)
structure zar (n:zt) (l:List yV):Prop where
 asc:Asc zu l
 ok:∀t∈l,(0<=t.state/\t.state<n.states)/\QJ t.env/\Rch (Yq n) 0 t.state.toNat
theorem zar.all {n:zt} {l:List yV} (h:zar n l):l.all (ZB n)=true:=by rw[List.all_eq_true];intro t ht;have:=h.ok t ht;simp only[ZB,Bool.and_eq_true,decide_eq_true_eq];exact⟨this.1,XE.2 this.2.1⟩
theorem zar.step {n:zt} {l:List yV} (h:zar n l) (hn:zC n=true) (env:List Sg):zar n (yw n env l l.length):=by obtain⟨h1,h2⟩:=zbk n env l;refine⟨h1,λy hy=>?_⟩;obtain⟨t,ht,e,he,h3,h4,h5⟩:=(h2 y).1 hy;have hok:=(zZ.1 ((zA.1 hn).2.1 e he)).1;have hti:=h.ok t ht;refine⟨by rw[h4];exact hok.2.2,zgZ h5 hti.2.1,?_⟩;refine hti.2.2.step (List.mem_map.2 ⟨e,he,?_⟩);rw[h3,h4]
section
variable {n : zt}
end
attribute [local go_sem ↓] Go.wp_at_zero Go.wp_at_succ
theorem ZC:∀(x y:List UInt8),Op.bytesLess x y=decide (x<y)
 | [],[]=>by simp[Op.bytesLess]
 | [],_::_=>by simp[Op.bytesLess]
 |_::_,[]=>by simp[Op.bytesLess]
 |a::x,b::y=>by
  rw[Op.bytesLess,ZC x y];by_cases h:a<b
  ·simp[h,List.cons_lt_cons_iff]
  ·by_cases h2:a=b
   ·subst h2;simp[List.cons_lt_cons_iff]
   ·simp[h,h2,List.cons_lt_cons_iff]
theorem zex (a b:ByteArray):Op.bytesLess a.toList b.toList=decide (qF a b<0):=by
 rw[ZC,ByteArray.toList_eq,ByteArray.toList_eq];rcases Zs a b with ⟨h1,h2⟩|⟨h1,h2⟩|⟨h1,h2⟩
 ·rw[h1];simp[h2]
 ·subst h2;rw[h1];simp
 ·rw[h1];have:¬a.data.toList<b.data.toList:=λh=>List.lt_asymm h h2;simp[this]
theorem zid {l:List Sg} {k m:Nat} (h:zcv l m=true) (hk:k<=m):zcv l k=true:=by unfold zcv at h⊢;rw[List.all_eq_true]at h⊢;intro i hi;exact h i (List.mem_range.2 (by have:=List.mem_range.1 hi;omega))
theorem zie {l:List Sg} {k m:Nat} (hk:k<m) (h:decide (0<=(l.getD k (.empty,0)).2/\(l.getD k (.empty,0)).2<=65535/\(0<k->qF (l.getD (k-1) (.empty,0)).1 (l.getD k (.empty,0)).1<0))=false):zcv l m=false:=by
 cases e:zcv l m with
 |false=>rfl
 |true =>have:=zid e (show k+1<=m by omega);rw[zaS,h]at this;simp at this
theorem zbP (l:List Sg) (a:Option Addr) (c:Nat) (w:World) (h:yi w l a c):Calls Tryz.prog 71 #[.slice a l.length c] w λe w'=>e=.returned (.bool (xm l))/\Below w.heap.size w w':=by
 have H:=Lib.hid h;have hlen:=h.2.1;have HA:Hid (l.length=0\/∃b off,a=some ⟨b,off,none⟩):=zw.addr h;have HN:Hid (∀k (hk:k<l.length),decide (0<=(l[k]'hk).2/\(l[k]'hk).2<=65535/\(0<k->qF (l.getD (k-1) (.empty,0)).1 (l[k]'hk).1<0))=false->xm l=false):=λk hk hd=>by refine zie hk ?_;rw[List.getD_eq_getElem?_getD (l:=l) (i:=k),List.getElem?_eq_getElem hk,Option.getD_some];exact hd
 have HY:Hid (∀k (hk:k<l.length),zcv l k=true->decide (0<=(l[k]'hk).2/\(l[k]'hk).2<=65535/\(0<k->qF (l.getD (k-1) (.empty,0)).1 (l[k]'hk).1<0))=true->zcv l (k+1)=true):=λk hk h1 hd=>by rw[zaS,h1,List.getD_eq_getElem?_getD (l:=l) (i:=k),List.getElem?_eq_getElem hk,Option.getD_some,hd];rfl
 have HE:Hid (xm l=zcv l l.length):=rfl;generalize xm l=R at HN HE⊢;clear h;go_enter Tryz.func71, Tryz.ntmps71;go_wp2_with fail;go_loopw [7,3,4] (λi _ _ wr=>∃k:Nat,i=.int .i64 k/\k<=l.length/\Hid (zcv l k=true)/\Hid (Below w.heap.size w wr)) (λi _ _ _=>l.length-(intOf i).toNat);case atStart=>exact⟨0,rfl,Nat.zero_le _,rfl,Below.refl _ _⟩
 case round =>
  obtain⟨k,rfl,hk,HL,HBr⟩:=hrel;have hzr:=HBr.out.size;by_cases hlt:k<l.length
  ·obtain⟨b,off,ha⟩:=HA.out.resolve_left (by omega);subst ha;obtain⟨g0,g1⟩:=ZP H.out rfl hlt;have c0:=za HBr.out _ _ g0;have c1:=za HBr.out _ _ g1;have HN1:=Lib.hid (HN.out k hlt);have HY1:=Lib.hid (HY.out k hlt HL.out);have HPv:Hid (0<k->wr.cell? ⟨b,off+(k-1)*2,none⟩=some (.string (l.getD (k-1) (.empty,0)).1)):=λh0=>by
    have hk1:k-1<l.length:=by omega
    have:=za HBr.out _ _ (ZP H.out rfl hk1).1;rw[List.getD_eq_getElem?_getD,List.getElem?_eq_getElem hk1,Option.getD_some];exact this
   generalize (l[k]'hlt)=x at c0 c1 HN1 HY1;generalize (l.getD (k-1) (.empty,0)).1=pn at HN1 HY1 HPv;obtain⟨nm,v⟩:=x;simp only at c0 c1 HN1 HY1;clear g0 g1;by_cases h1:v<0
   ·have hd1:decide (v<0)=true:=decide_eq_true h1;obtain rfl:R=false:=HN1.out (decide_eq_false (by omega));go_upto_region 4 with fail;go_quiet (fail);go_wp2_with fail;go_ret;exact⟨rfl,bel⟩
   ·have hd1:decide (v<0)=false:=decide_eq_false h1;by_cases h2:65535<v
    ·have hd2:decide (65535<v)=true:=decide_eq_true h2;obtain rfl:R=false:=HN1.out (decide_eq_false (by omega));go_upto_region 4 with fail;go_quiet (fail);go_wp2_with fail;go_ret;exact⟨rfl,bel⟩
    ·have hd2:decide (65535<v)=false:=decide_eq_false h2;by_cases h0:k=0
     ·subst h0;rw[Nat.zero_mul,Nat.add_zero]at c0 c1;have HL1:=Lib.hid (HY1.out (decide_eq_true ⟨by omega,by omega,λh=>absurd h (by omega)⟩));go_upto_region 4 with fail;go_quiet (fail);go_wp2_with fail;go_roundw;case rel=>exact⟨1,by go_num,by omega,HL1.out,bel⟩
      case measure=>(simp[intOf];try omega)
     ·have h0':0<k:=by omega
      have cp:=HPv.out h0';have hd0:decide ((0:Int)<(k:Int))=true:=decide_eq_true (by omega);have hd3:decide (0<k)=true:=decide_eq_true h0';have HLs:=Lib.hid (zex pn nm);obtain⟨k1,rfl⟩:∃k1,k=k1+1:=⟨k-1,by omega⟩;rw[Nat.add_sub_cancel]at cp;have e2:IntKind.i64.wrap (k1:Int)=(k1:Int):=by rw[IntKind.wrap_i64];omega
      have CP:∀o,(wr.alloc o).cell? ⟨b,off+k1*2,none⟩=some (.string pn):=λo=>Lib.cell?_alloc_some _ cp;have hk1:k1<l.length:=by omega
      by_cases hc:qF pn nm<0
      ·have hlt2:Op.bytesLess pn.toList nm.toList=true:=by rw[HLs.out];exact decide_eq_true hc
       have HL1:=Lib.hid (HY1.out (decide_eq_true ⟨by omega,by omega,λ_=>hc⟩));clear hc;go_upto_region 4 with fail;go_quiet (fail);go_wp2_with fail;go_roundw;case rel=>exact⟨k1+1+1,by go_num,by omega,HL1.out,bel⟩
       case measure=>(simp[intOf];try omega)
      ·have hlt2:Op.bytesLess pn.toList nm.toList=false:=by rw[HLs.out];exact decide_eq_false hc
       obtain rfl:R=false:=HN1.out (decide_eq_false (by rintro ⟨_,_,h⟩;exact hc (h (by omega))));clear hc;go_upto_region 4 with fail;go_quiet (fail);go_wp2_with fail;go_ret;exact⟨rfl,bel⟩
  ·obtain rfl:k=l.length:=by omega
   obtain rfl:R=true:=by rw[HE.out];exact HL.out
   go_wp2_with fail;go_ret;exact⟨rfl,HBr.out⟩
theorem XY {w:World} {l:List yV} {a:Option Addr} {cap:Nat} (h:thE.In w l a cap) {b off:Nat} (ha:a=some ⟨b,off,none⟩) {i:Nat} (hi:i<l.length):∃xa xc,w.cell? ⟨b,off+i*2,none⟩=some (.int .i64 (l[i]'hi).state)/\w.cell? ⟨b,off+i*2+1,none⟩=some (.slice xa (l[i]'hi).env.length xc)/\yi w (l[i]'hi).env xa xc:=by obtain⟨vs,⟨xa,xc,rfl,h1⟩,hc⟩:=h.get ha hi;exact⟨xa,xc,hc 0 _ rfl,hc 1 _ rfl,h1⟩
def zjK {τ:Type} (E:Enc τ) (g:FuncId) (tv:Value) (cf:τ->Int) (K:World->Prop):Prop :=
 ∀(W:World) (x:τ) (vs:List Value),K W->E.R W x vs->Calls Tryz.prog g #[.agg vs.toArray,tv] W λe W'=>e=.returned (.int .i64 (cf x))/\Below W.heap.size W W'
theorem Ql {α:Type} (p:α->Bool):∀(l:List α) (i:Nat) (hi:i<=l.length),(∀t (ht:t<l.length),t<i->p (l[t]'ht)=true)->(∀t (ht:t<l.length),i<=t->p (l[t]'ht)=false)->l.countP p=i:=by
 intro l
 induction l with
 |nil=>intro i hi _ _;simp at hi;simp[hi]
 |cons a l ih =>
  intro i hi h1 h2;cases i with
  |zero =>rw[List.countP_eq_zero];intro x hx;obtain⟨t,ht,rfl⟩:=List.getElem_of_mem hx;rw[h2 t ht (Nat.zero_le _)];simp
  |succ i =>have ha:p a=true:=h1 0 (by simp) (by omega);rw[List.countP_cons_of_pos ha,ih i (by simpa using hi) (λt ht hti=>h1 (t+1) (by simpa using ht) (by omega)) (λt ht hti=>h2 (t+1) (by simpa using ht) (by omega))]
def bsP {τ:Type} (cf:τ->Int) (l:List τ):Nat:=l.countP λx=>decide (cf x<0)
def bsF {τ:Type} (cf:τ->Int) (l:List τ):Bool:=match l[bsP cf l]? with|some x=>decide (cf x=0)|none=>false
def ZW {τ:Type} (cf:τ->Int) (l:List τ) (w:World) (e:Ending) (w':World):Prop:=e=.returned (.tuple #[.int .i64 (bsP cf l:Nat),.bool (bsF cf l)])/\Below w.heap.size w w'
theorem QS (g:FuncId) (eg:∀args w,(callFunc g args).run Tryz.prog w=.ok (.enter g args) w) (tv:Value) (cf:Sg->Int) (K:World->Prop) (hP:zjK sgE g tv cf K) (hKb:∀W W',K W->Below W.heap.size W W'->K W') (l:List Sg) (a:Option Addr) (cap:Nat) (w:World) (hE:sgE.In w l a cap) (hK:K w)
 (hmono:∀i j (hi:i<l.length) (hj:j<l.length),i<=j->cf (l[j]'hj)<0->cf (l[i]'hi)<0) :
 Calls Tryz.prog 133 #[.slice a l.length cap,tv,.func (.func g) #[] #[]] w (ZW cf l w):=by
 have HP:=Lib.hid hP;have HE:=Lib.hid hE;have HKb:=Lib.hid hKb;have HK:=Lib.hid hK;have HM:=Lib.hid hmono;have hlen:=hE.len;have HA:Hid (l.length=0\/∃b off,a=some ⟨b,off,none⟩):=hE.addr;have HPo:Hid (∀i,i<=l.length->(∀t (ht:t<l.length),t<i->cf (l[t]'ht)<0)->(∀t (ht:t<l.length),i<=t->0<=cf (l[t]'ht))->∀W,Below w.heap.size w W->(∀(h:i<l.length),ZW cf l w (.returned (.tuple #[.int .i64 i,.bool (decide (cf (l[i]'h)=0))])) W)/\(¬i<l.length->ZW cf l w (.returned (.tuple #[.int .i64 i,.bool false])) W)):=λi hi h1 h2 W hb=>by
  have e:bsP cf l=i:=Ql _ l i hi (λt ht hti=>decide_eq_true (h1 t ht hti)) (λt ht hti=>decide_eq_false (by have:=h2 t ht hti;omega));refine⟨λh=>⟨?_,hb⟩,λh=>⟨?_,hb⟩⟩
  ·unfold bsF;rw[e,List.getElem?_eq_getElem h]
  ·unfold bsF;rw[e,List.getElem?_eq_none (by omega)]
 generalize ZW cf l w=Po at HPo⊢;clear hP hE hKb hK hmono;go_enter Tryz.func133, Tryz.ntmps133;go_wp2_with fail;go_loopg [9,10,11] l.length (λkx s9 s10 _ wr=>∃lo hi:Nat,s9=.int .i64 lo/\s10=.int .i64 hi/\lo<=hi/\hi<=l.length/\hi-lo<=kx/\Hid ((∀t (ht:t<l.length),t<lo->cf (l[t]'ht)<0)/\(∀t (ht:t<l.length),hi<=t->0<=cf (l[t]'ht)))/\Hid (Below w.heap.size w wr));case atStart=>exact⟨0,l.length,rfl,rfl,Nat.zero_le _,Nat.le_refl _,by omega,⟨λt ht h=>absurd h (by omega),λt ht h=>absurd h (by omega)⟩,Below.refl _ _⟩
 case round =>
  (try rename World=>wr)
  obtain⟨lo,hi,rfl,rfl,hlh,hin,hg,HI,HBr⟩:=hrel;have hzr:=HBr.out.size;by_cases hlt:lo<hi
  ·have hmn:(lo+hi) / 2<l.length:=by omega
   have hm1:lo<=(lo+hi) / 2:=by omega
   have hm2:(lo+hi) / 2<hi:=by omega
   have hmi:((lo:Int)+(hi:Int)) / 2<(l.length:Int):=by omega
   have hltI:(lo:Int)<(hi:Int):=by omega
   obtain⟨b,off,ha⟩:=HA.out.resolve_left (by omega);subst ha;obtain⟨g0,g1⟩:=ZP (Zm.1 (HE.out.keep (za HBr.out))) rfl hmn;have HC0:=λvs hr=>HP.out wr (l[(lo+hi) / 2]'hmn) vs (HKb.out _ _ HK.out HBr.out) hr;have HY1:Hid (cf (l[(lo+hi) / 2]'hmn)<0->∀t (ht:t<l.length),t<(lo+hi) / 2+1->cf (l[t]'ht)<0):=λh t ht htm=>HM.out t ((lo+hi) / 2) ht hmn (by omega) h;have HY2:Hid (¬cf (l[(lo+hi) / 2]'hmn)<0->∀t (ht:t<l.length),(lo+hi) / 2<=t->0<=cf (l[t]'ht)):=λh t ht htm=>Int.not_lt.1 λh2=>h (HM.out ((lo+hi) / 2) t hmn ht htm h2);generalize (l[(lo+hi) / 2]'hmn)=y at *;obtain⟨yn,yv⟩:=y;(simp only at g0 g1);have hC:=HC0 _ rfl;have HC:=Lib.hid hC;clear HC0 hC;generalize cf _=cv at HC HY1 HY2;by_cases hcv:cv<0
   ·have HN:=Lib.hid (HY1.out hcv);go_wp2_with (go_at_fn g;go_must (refine HC.out.mono ?_;rintro e w5 ⟨rfl,hb5⟩));have HB5:Hid (Below w.heap.size w w5):=HBr.out.trans (hb5.mono hzr);go_roundg (hi-((lo+hi) / 2+1));case measure=>omega
    case rel=>exact⟨(lo+hi) / 2+1,hi,by rw[show ((lo:Int)+(hi:Int)) / 2+1=(((lo+hi) / 2+1:Nat):Int) by omega],rfl,by omega,hin,Nat.le_refl _,⟨HN.out,HI.out.2⟩,HB5.out⟩
   ·have HN:=Lib.hid (HY2.out hcv);go_wp2_with (go_at_fn g;go_must (refine HC.out.mono ?_;rintro e w5 ⟨rfl,hb5⟩));have HB5:Hid (Below w.heap.size w w5):=HBr.out.trans (hb5.mono hzr);go_roundg ((lo+hi) / 2-lo);case measure=>omega
    case rel=>exact⟨lo,(lo+hi) / 2,rfl,by rw[show ((lo:Int)+(hi:Int)) / 2=(((lo+hi) / 2:Nat):Int) by omega],by omega,by omega,Nat.le_refl _,⟨HI.out.1,HN.out⟩,HB5.out⟩
  ·obtain rfl:hi=lo:=by omega
   have HF:=Lib.hid (HPo.out hi hin HI.out.1 HI.out.2);by_cases hmn:hi<l.length
   ·obtain⟨b,off,ha⟩:=HA.out.resolve_left (by omega);subst ha;obtain⟨g0,g1⟩:=ZP (Zm.1 (HE.out.keep (za HBr.out))) rfl hmn;have HC0:=λvs hr=>HP.out wr (l[hi]'hmn) vs (HKb.out _ _ HK.out HBr.out) hr;have HF2:Hid (∀W,Below w.heap.size w W->Po (.returned (.tuple #[.int .i64 hi,.bool (decide (cf (l[hi]'hmn)=0))])) W):=λW hW=>(HF.out W hW).1 hmn;clear HF;generalize (l[hi]'hmn)=y at *;obtain⟨yn,yv⟩:=y;(simp only at g0 g1);have hC:=HC0 _ rfl;have HC:=Lib.hid hC;clear HC0 hC;generalize cf _=cv at HC HF2;by_cases hcv:cv=0
    ·subst hcv;go_wp2_with (go_at_fn g;go_must (refine HC.out.mono ?_;rintro e w5 ⟨rfl,hb5⟩));have HB5:Hid (Below w.heap.size w w5):=HBr.out.trans (hb5.mono hzr);have HF3:=Lib.hid (HF2.out w5 HB5.out);first|exact HF3.out|(go_ret2;exact HF3.out)
    ·have hcb:(cv==0)=false:=by simp[hcv]
     have HF4:Hid (∀W,Below w.heap.size w W->Po (.returned (.tuple #[.int .i64 hi,.bool false])) W):=λW hW=>by have:=HF2.out W hW;rwa [decide_eq_false hcv]at this
     go_wp2_with (go_at_fn g;go_must (refine HC.out.mono ?_;rintro e w5 ⟨rfl,hb5⟩));have HB5:Hid (Below w.heap.size w w5):=HBr.out.trans (hb5.mono hzr);have HF3:=Lib.hid (HF4.out w5 HB5.out);first|exact HF3.out|(go_ret2;exact HF3.out)
   ·have HF3:=Lib.hid ((HF.out wr HBr.out).2 hmn);have hmnI:¬(hi:Int)<(l.length:Int):=by omega
    go_wp2_with fail;first|exact HF3.out|(go_ret2;exact HF3.out)
section
variable {τ : Type} {E : Enc τ} {w w' : World} {l : List τ} {xs : List Value}
theorem Enc.Vals.take (h:E.Vals w l xs) {i:Nat} (hi:i<=l.length):E.Vals w (l.take i) (xs.take (i*E.sz)):=by have hm:i*E.sz<=l.length*E.sz:=Nat.mul_le_mul_right _ hi;refine⟨by rw[List.length_take,List.length_take,h.1,Nat.min_eq_left hm,Nat.min_eq_left hi],λk hk=>?_⟩;rw[List.length_take]at hk;obtain⟨vs,h1,h2⟩:=h.2 k (by omega);rw[List.getElem_take];refine⟨vs,h1,λj v hv=>?_⟩;have hj:j<vs.length:=(List.getElem?_eq_some_iff.1 hv).1;rw[E.len h1]at hj;have hk2:(k+1)*E.sz<=i*E.sz:=Nat.mul_le_mul_right _ (by omega);rw[Nat.add_mul]at hk2;rw[List.getElem?_take_of_lt (by omega)];exact h2 j v hv
theorem Enc.Vals.drop (h:E.Vals w l xs) {i:Nat} (hi:i<=l.length):E.Vals w (l.drop i) (xs.drop (i*E.sz)):=by refine⟨by rw[List.length_drop,List.length_drop,h.1,Nat.sub_mul],λk hk=>?_⟩;rw[List.length_drop]at hk;obtain⟨vs,h1,h2⟩:=h.2 (i+k) (by omega);rw[List.getElem_drop];refine⟨vs,h1,λj v hv=>?_⟩;rw[List.getElem?_drop,←Nat.add_assoc,←Nat.add_mul];exact h2 j v hv
theorem Enc.Vals.ins (h:E.Vals w l xs) {i:Nat} (hi:i<=l.length) {x:τ} {vs:List Value} (hR:E.R w x vs):E.Vals w (l.take i++x::l.drop i) (xs.take (i*E.sz)++(vs++xs.drop (i*E.sz))) :=
 (h.take hi).append ((Enc.Vals.one hR).append (h.drop hi))
end
theorem zb3 {α:Type} (A B R V:List α) (s:Nat) (hV:V.length=s) (hR:s<=R.length):splice (splice ((A++B)++R) (A.length+s) B) A.length V=(A++(V++B))++R.drop s:=by
 subst hV;have h1:List.take (A.length+V.length) ((A++B)++R)=A++List.take V.length (B++R):=by rw[List.append_assoc,List.take_append,List.take_of_length_le (by omega)];simp
 have h2:(List.take V.length (B++R)).length=V.length:=by rw[List.length_take,List.length_append];omega
 have h3:List.drop (A.length+V.length+B.length) ((A++B)++R)=R.drop V.length:=by rw[List.append_assoc,List.drop_append,List.drop_eq_nil_of_le (by omega),List.drop_append,List.drop_eq_nil_of_le (by omega)];simp;omega
 unfold splice;rw[h1,h3,List.append_assoc,List.take_left,List.drop_append,List.drop_eq_nil_of_le (by omega),List.drop_append,List.drop_eq_nil_of_le (by omega)];rw[show A.length+V.length-A.length-(List.take V.length (B++R)).length=0 by omega];simp
theorem zb2 {α:Type} (A B R V:List α) (s:Nat) (hV:V.length=s) (hR:s+B.length<=R.length):splice (splice (A++R) A.length V) (A.length+s) B=(A++(V++B))++R.drop (s+B.length):=by
 subst hV;have h0:splice (A++R) A.length V=(A++V)++R.drop V.length:=by unfold splice;rw[List.take_left,List.drop_append,List.drop_eq_nil_of_le (by omega),show A.length+V.length-A.length=V.length by omega];simp
 rw[h0];unfold splice;rw[show A.length+V.length=(A++V).length by simp,List.take_left,List.drop_append,List.drop_eq_nil_of_le (by simp),show (A++V).length+B.length-(A++V).length=B.length by omega];simp[List.drop_drop]
theorem yo {P:Program} (w:World) (dT sT ty elem:TypeId) (size g o dLen dCap:Nat) (a:Addr) (sLen sCap:Nat) (cur:Array Value) (t:TypeId) (cs:List Value) (n:Nat)
 (hu:P.underlying dT=some (.slice elem)) (hs:(P.info? elem).map (·.size)=some size)
 (hg:w.heap[g]? = some (.cells cur t (0,0))) (hn:Nat.min sLen dLen=n) (hcs:cs.length=n*size)
 (hsrc:∀j v,cs[j]? = some v->w.cell? (a.add j)=some v) (hfit:o+cs.length<=cur.size) (h1:∀v∈cs,v.oneCell'=true) :
 (Builtin.copy_ #[dT,sT] ty #[.slice (some ⟨g,o,none⟩) dLen dCap,.slice (some a) sLen sCap]).run P w =
  .ok (goInt n) (w.setRow g (cur.toList.take o++cs++cur.toList.drop (o+cs.length)).toArray):=by
 have hl:=run_loadCells_list (P:=P) w a cs hsrc;have hst:=run_storeCells_at P g o t cs 0 cur w hg (by simpa using hfit) h1;rw[hcs]at hl;cases hq:P.info? elem with
 |none=>simp[hq]at hs
 |some i =>
  have hi:i.size=size:=by simpa [hq] using hs
  simp[Builtin.copy_,run_underlying hu,Builtin.lenOf,Builtin.firstCells,sizeOf,typeInfo,hq,hi,hn,hl,hst]
theorem zdk (w:World) (row:Option Nat):w.grownBy w.drew row:=⟨rfl,rfl,rfl,Nat.le_refl _,λ_ _ _=>rfl⟩
theorem YS (w:World) (g:Nat) (c:Array Value):w.grownBy (w.setRow g c) (some g) :=
 ⟨rfl,rfl,rfl,by simp[World.setRow],λk _ hk=>setRow_other w g k c (λe=>hk (by rw[e]))⟩
theorem XA {w w1 w2:World} {row:Option Nat} (h:w.grownBy w1 row) (h':w1.grownBy w2 row):w.grownBy w2 row :=
 ⟨h'.os.trans h.os,h'.tape.trans h.tape,h'.output.trans h.output,Nat.le_trans h.size h'.size,λk hk hn=>(h'.block k (Nat.lt_of_lt_of_le hk h.size) hn).trans (h.block k hk hn)⟩
end Go.Proofs.YtnfkbliokjjggaaGreatDoor
