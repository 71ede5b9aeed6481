/- Runs, plainly: a trimmed automaton has the same accepting threads. -/
import Derived.Test.YthojpomoflhbcaaGreatDoorQ08
import Derived.BigQuiet
import Derived.Deep.LoopGhost
import Derived.Test.YthojpomoflhbcaaGreatDoorQ06
import Derived.Lib.AppendZerosOnto
import Derived.Lib.Overlaps
import Derived.Laws.Externs
import Derived.Laws.CopyOwn
set_option maxHeartbeats 8000000
set_option maxRecDepth 100000
set_option linter.unusedSimpArgs false
set_option linter.unusedVariables false
set_option linter.unnecessarySimpa false
namespace Go.Proofs.YthojpomoflhbcaaGreatDoor
open Go.RowKit
section
variable {α : Type} {c : α → α → Int}
theorem zez (h:zaG c) {l:List α} {t y:α}:y∈Y5 c l t<->y=t\/y∈l:=by
 refine⟨zet,?_⟩
 induction l with
 |nil=>simp[Y5]
 |cons x r ih =>
  rw[Y5];rintro (rfl|hy)
  ·split
   ·exact List.mem_cons_of_mem _ (ih (Or.inl rfl))
   ·split<;>exact List.mem_cons_self ..
  ·split
   ·rcases List.mem_cons.1 hy with rfl|hy
    ·exact List.mem_cons_self ..
    ·exact List.mem_cons_of_mem _ (ih (Or.inr hy))
   ·split
    ·rename_i h0;have e:=(h.zero _ _).1 h0;rw[←e];exact hy
    ·exact List.mem_cons_of_mem _ hy
end
theorem yD {e:zn} {loc env r:List Sg}:xj e loc env=some r<->e.guards.all (λg=>qK g loc env != 0)=true/\zI e.sets env loc e.sets.length=r:=by
 unfold xj;by_cases hg:e.guards.all (λg=>qK g loc env != 0)=true
 ·rw[if_pos hg];simp[hg]
 ·rw[if_neg hg];constructor
  ·intro h;simp at h
  ·intro h;exact absurd h.1 hg
theorem zhn {env:List Sg} {t:yU} {out:List yU} {e:zn} {y:yU}:y∈qZ env t out e<->y∈out\/(e.fr=t.state/\y.state=e.to/\xj e t.env env=some y.env):=by
 unfold qZ;split
 ·rename_i h;cases ht:xj e t.env env with
  |none=>simp
  |some loc =>
   simp only[zez zbs];constructor
   ·rintro (rfl|h1)
    ·exact Or.inr ⟨h,rfl,rfl⟩
    ·exact Or.inl h1
   ·rintro (h1|⟨_,h1,h2⟩)
    ·exact Or.inr h1
    ·left;cases y;simp only[Option.some.injEq]at h1 h2;rw[h1,h2]
 ·rename_i h;simp[h]
theorem zca {env:List Sg} {t:yU} {out:List yU} {e:zn} (h:Asc zB out):Asc zB (qZ env t out e):=by
 unfold qZ;split
 ·split
  ·exact zbB zbs h
  ·exact h
 ·exact h
theorem zfv {env:List Sg} {t:yU}:∀(es:List zn) (out:List yU),Asc zB out->Asc zB (es.foldl (qZ env t) out)/\∀y,y∈es.foldl (qZ env t) out<->y∈out\/∃e∈es,e.fr=t.state/\y.state=e.to/\xj e t.env env=some y.env:=by
 intro es
 induction es with
 |nil=>intro out h;exact⟨h,λy=>by simp⟩
 |cons e es ih =>intro out h;rw[List.foldl_cons];obtain⟨h1,h2⟩:=ih _ (zca (t:=t) (e:=e) (env:=env) h);refine⟨h1,λy=>?_⟩;rw[h2,zhn];simp only[List.mem_cons,exists_eq_or_imp,or_assoc]
theorem Yp (n:zm) (env:List Sg) (l:List yU):Asc zB (yF n env l l.length)/\∀y,y∈yF n env l l.length<->∃t∈l,∃e∈n.edges,e.fr=t.state/\y.state=e.to/\xj e t.env env=some y.env:=by
 unfold yF stepT;rw[List.take_length,List.take_length];have:∀(l:List yU) (out:List yU),Asc zB out->Asc zB (l.foldl (λout t=>n.edges.foldl (qZ env t) out) out)/\∀y,y∈l.foldl (λout t=>n.edges.foldl (qZ env t) out) out<->y∈out\/∃t∈l,∃e∈n.edges,e.fr=t.state/\y.state=e.to/\xj e t.env env=some y.env:=by
  intro l
  induction l with
  |nil=>intro out h;exact⟨h,λy=>by simp⟩
  |cons t l ih =>intro out h;rw[List.foldl_cons];obtain⟨h1,h2⟩:=zfv (env:=env) (t:=t) n.edges out h;obtain⟨h3,h4⟩:=ih _ h1;refine⟨h3,λy=>?_⟩;rw[h4,h2];simp only[List.mem_cons,exists_eq_or_imp,or_assoc]
 obtain⟨h1,h2⟩:=this l [] (by simp[Asc]);exact⟨h1,λy=>by rw[h2];simp⟩
theorem zbV (e:Ex) (loc env:List Sg):0<=qK e loc env/\qK e loc env<=65535:=by
 unfold qK ZZ;split
 ·exact⟨Int.le_refl 0,by decide⟩
 ·split
  ·exact⟨Int.le_refl 0,by decide⟩
  ·rename_i hv _;have hv:zZ e=0:=Decidable.of_not_not hv;have hf:yI e.nodes=0:=by
    unfold zZ at hv;split at hv
    ·omega
    ·exact hv
   have:=zcR (loc++env++zmA e) e (QX _ hf);exact⟨this.1,Int.le_of_lt_add_one this.2⟩
def qm (l:List Sg):Prop:=zbm l/\∀x∈l,0<=x.2/\x.2<=65535
theorem Q7 {l:List Sg}:qf l=true<->qm l:=by
 have key:qf l=true<->∀i,i<l.length->0<=(l.getD i (.empty,0)).2/\(l.getD i (.empty,0)).2<=65535/\(0<i->Zj (l.getD (i-1) (.empty,0)).1 (l.getD i (.empty,0)).1<0):=by unfold qf zey;simp only[List.all_eq_true,List.mem_range,decide_eq_true_eq]
 rw[key];constructor
 ·intro h;refine⟨?_,λx hx=>?_⟩
  ·unfold zbm;rw[List.pairwise_iff_getElem];intro i j hi hj hij;have step:∀d,0<d->i+d<l.length->Zj (l.getD i (.empty,0)).1 (l.getD (i+d) (.empty,0)).1<0:=by
    intro d
    induction d with
    |zero=>intro h0;omega
    |succ d ih =>
     intro _ hd;have h2:=(h (i+d+1) (by omega)).2.2 (by omega);rw[show i+d+1-1=i+d by omega]at h2;rw[←Nat.add_assoc];rcases Nat.eq_zero_or_pos d with h0|h0
     ·subst h0;exact h2
     ·exact XQ.trans _ _ _ (ih h0 (by omega)) h2
   have h1:=step (j-i) (by omega) (by omega);rw[show i+(j-i)=j by omega]at h1;simpa only [List.getD_eq_getElem?_getD,List.getElem?_eq_getElem hi,List.getElem?_eq_getElem hj,Option.getD_some] using h1
  ·obtain⟨i,hi,rfl⟩:=List.getElem_of_mem hx;have:=h i hi;simp only[List.getD_eq_getElem?_getD,List.getElem?_eq_getElem hi,Option.getD_some]at this;exact⟨this.1,this.2.1⟩
 ·rintro ⟨h1,h2⟩ i hi;unfold zbm at h1;rw[List.pairwise_iff_getElem]at h1;simp only[List.getD_eq_getElem?_getD,List.getElem?_eq_getElem hi,Option.getD_some];refine⟨(h2 _ (List.getElem_mem hi)).1,(h2 _ (List.getElem_mem hi)).2,λh0=>?_⟩;have:=h1 (i-1) i (by omega) hi (by omega);rw[List.getElem?_eq_getElem (by omega)];exact this
theorem qm.put {l:List Sg} (h:qm l) {nm:ByteArray} {v:Int} (hv:0<=v/\v<=65535):qm (Z4 l nm v):=by
 refine⟨zbO h.1,λx hx=>?_⟩;rcases zeL hx with rfl|hx
 ·exact hv
 ·exact h.2 x hx
theorem YZ (l:List qi) (env loc:List Sg) {k:Nat} (h:k<l.length):zI l env loc (k+1)=Z4 (zI l env loc k) (l[k]'h).name (qK (l[k]'h).expr (zI l env loc k) env):=by unfold zI;rw[List.take_succ_eq_append_getElem h,List.foldl_append];rfl
theorem zao (l:List qi) (env loc:List Sg) (h:qm loc):∀k,k<=l.length->qm (zI l env loc k):=by
 intro k
 induction k with
 |zero=>intro _;simpa [zI] using h
 |succ k ih=>intro hk;rw[YZ l env loc hk];exact(ih (by omega)).put (zbV _ _ _)
theorem YF {e:zn} {loc env r:List Sg} (h:xj e loc env=some r) (hl:qm loc):qm r:=by rw[yD]at h;rw[←h.2];exact zao _ _ _ hl _ (Nat.le_refl _)
def zgv (n:zm) (l:List yU):List (List Sg):=(yP n l).foldl (λes t=>Y5 zu es t.env) []
noncomputable def qG (n:zm):List (List Sg)->List yU->Option (List (List (List Sg)))
 | [],_=>some []
 |env::r,l=>if (yq n l env).2=0 then (qG n r (yq n l env).1).map (zgv n (yq n l env).1::·) else none
theorem zfb (n:zm) (l:List yU):Asc zu (zgv n l)/\∀x,x∈zgv n l<->∃t∈l,t.state∈n.accept/\t.env=x:=by
 unfold zgv;have:∀(m:List yU) (es:List (List Sg)),Asc zu es->Asc zu (m.foldl (λes t=>Y5 zu es t.env) es)/\∀x,x∈m.foldl (λes t=>Y5 zu es t.env) es<->x∈es\/∃t∈m,t.env=x:=by
  intro m
  induction m with
  |nil=>intro es h;exact⟨h,λx=>by simp⟩
  |cons t m ih =>
   intro es h;rw[List.foldl_cons];obtain⟨h1,h2⟩:=ih _ (zbB Z8 h (t:=t.env));refine⟨h1,λx=>?_⟩;rw[h2,zez Z8];simp only[List.mem_cons,exists_eq_or_imp];constructor
   ·rintro ((rfl|h)|h)
    ·exact Or.inr (Or.inl rfl)
    ·exact Or.inl h
    ·exact Or.inr (Or.inr h)
   ·rintro (h|rfl|h)
    ·exact Or.inl (Or.inr h)
    ·exact Or.inl (Or.inl rfl)
    ·exact Or.inr h
 obtain⟨h1,h2⟩:=this (yP n l) [] (by simp[Asc]);refine⟨h1,λx=>?_⟩;rw[h2];simp only[List.not_mem_nil,false_or,yP,List.mem_filter,List.contains_iff_mem,and_assoc]
structure Qg (n:zm) (l:List yU):Prop where
 asc:Asc zB l
 ok:∀t∈l,(0<=t.state/\t.state<n.states)/\qm t.env/\Rch (qh n) 0 t.state.toNat
theorem zil {n:zm} (h:zY n=true):Qg n [⟨0,[]⟩]:=by refine⟨by simp[Asc],λt ht=>?_⟩;obtain rfl:=List.mem_singleton.1 ht;have:=(zz.1 h).1;exact⟨⟨Int.le_refl 0,by simp only;omega⟩,⟨by simp[zbm],λx hx=>by cases hx⟩,Rch.refl 0⟩
theorem Qg.all {n:zm} {l:List yU} (h:Qg n l):l.all (YI n)=true:=by rw[List.all_eq_true];intro t ht;have:=h.ok t ht;simp only[YI,Bool.and_eq_true,decide_eq_true_eq];exact⟨this.1,Q7.2 this.2.1⟩
theorem Qg.step {n:zm} {l:List yU} (h:Qg n l) (hn:zY n=true) (env:List Sg):Qg n (yF n env l l.length):=by obtain⟨h1,h2⟩:=Yp n env l;refine⟨h1,λy hy=>?_⟩;obtain⟨t,ht,e,he,h3,h4,h5⟩:=(h2 y).1 hy;have hok:=(yj.1 ((zz.1 hn).2.1 e he)).1;have hti:=h.ok t ht;refine⟨by rw[h4];exact hok.2.2,YF h5 hti.2.1,?_⟩;refine hti.2.2.step (List.mem_map.2 ⟨e,he,?_⟩);rw[h3,h4]
theorem zhz {n:zm} {l:List yU} (h:Qg n l) (hn:zY n=true) (env:List Sg):yq n l env=if 256<(yF n env l l.length).length then ([],2) else (yF n env l l.length,0):=by unfold yq;rw[if_neg (by rw[hn];simp),if_neg (by rw[h.all];simp)]
section
variable {n : zm}
end
attribute [local go_sem ↓] Go.wp_at_zero Go.wp_at_succ
theorem YM:∀(x y:List UInt8),Op.bytesLess x y=decide (x<y)
 | [],[]=>by simp[Op.bytesLess]
 | [],_::_=>by simp[Op.bytesLess]
 |_::_,[]=>by simp[Op.bytesLess]
 |a::x,b::y=>by
  rw[Op.bytesLess,YM x y];by_cases h:a<b
  ·simp[h,List.cons_lt_cons_iff]
  ·by_cases h2:a=b
   ·subst h2;simp[List.cons_lt_cons_iff]
   ·simp[h,h2,List.cons_lt_cons_iff]
theorem zce (a b:ByteArray):Op.bytesLess a.toList b.toList=decide (Zj a b<0):=by
 rw[YM,ByteArray.toList_eq,ByteArray.toList_eq];rcases Zv a b with ⟨h1,h2⟩|⟨h1,h2⟩|⟨h1,h2⟩
 ·rw[h1];simp[h2]
 ·subst h2;rw[h1];simp
 ·rw[h1];have:¬a.data.toList<b.data.toList:=λh=>List.lt_asymm h h2;simp[this]
theorem zlu {l:List Sg} {k m:Nat} (h:zey l m=true) (hk:k<=m):zey l k=true:=by unfold zey at h⊢;rw[List.all_eq_true]at h⊢;intro i hi;exact h i (List.mem_range.2 (by have:=List.mem_range.1 hi;omega))
theorem zlv {l:List Sg} {k m:Nat} (hk:k<m) (h:decide (0<=(l.getD k (.empty,0)).2/\(l.getD k (.empty,0)).2<=65535/\(0<k->Zj (l.getD (k-1) (.empty,0)).1 (l.getD k (.empty,0)).1<0))=false):zey l m=false:=by
 cases e:zey l m with
 |false=>rfl
 |true =>have:=zlu e (show k+1<=m by omega);rw[zcz,h]at this;simp at this
theorem zdK (l:List Sg) (a:Option Addr) (c:Nat) (w:World) (h:zT w l a c):Calls Tryz.prog 48 #[.slice a l.length c] w λe w'=>e=.returned (.bool (qf l))/\Below w.heap.size w w':=by
 have H:=Lib.hid h;have hlen:=h.2.1;have HA:Hid (l.length=0\/∃b off,a=some ⟨b,off,none⟩):=zr.addr h;have HN:Hid (∀k (hk:k<l.length),decide (0<=(l[k]'hk).2/\(l[k]'hk).2<=65535/\(0<k->Zj (l.getD (k-1) (.empty,0)).1 (l[k]'hk).1<0))=false->qf l=false):=λk hk hd=>by refine zlv hk ?_;rw[List.getD_eq_getElem?_getD (l:=l) (i:=k),List.getElem?_eq_getElem hk,Option.getD_some];exact hd
 have HY:Hid (∀k (hk:k<l.length),zey l k=true->decide (0<=(l[k]'hk).2/\(l[k]'hk).2<=65535/\(0<k->Zj (l.getD (k-1) (.empty,0)).1 (l[k]'hk).1<0))=true->zey l (k+1)=true):=λk hk h1 hd=>by rw[zcz,h1,List.getD_eq_getElem?_getD (l:=l) (i:=k),List.getElem?_eq_getElem hk,Option.getD_some,hd];rfl
 have HE:Hid (qf l=zey l l.length):=rfl;generalize qf l=R at HN HE⊢;clear h;go_enter Tryz.func48, Tryz.ntmps48;go_wp2_with fail;go_loopw [7,3,4] (λi _ _ wr=>∃k:Nat,i=.int .i64 k/\k<=l.length/\Hid (zey l k=true)/\Hid (Below w.heap.size w wr)) (λi _ _ _=>l.length-(intOf i).toNat);case atStart=>exact⟨0,rfl,Nat.zero_le _,rfl,Below.refl _ _⟩
 case round =>
  obtain⟨k,rfl,hk,HL,HBr⟩:=hrel;have hzr:=HBr.out.size;by_cases hlt:k<l.length
  ·obtain⟨b,off,ha⟩:=HA.out.resolve_left (by omega);subst ha;obtain⟨g0,g1⟩:=ZP H.out rfl hlt;have c0:=za HBr.out _ _ g0;have c1:=za HBr.out _ _ g1;have HN1:=Lib.hid (HN.out k hlt);have HY1:=Lib.hid (HY.out k hlt HL.out);have HPv:Hid (0<k->wr.cell? ⟨b,off+(k-1)*2,none⟩=some (.string (l.getD (k-1) (.empty,0)).1)):=λh0=>by
    have hk1:k-1<l.length:=by omega
    have:=za HBr.out _ _ (ZP H.out rfl hk1).1;rw[List.getD_eq_getElem?_getD,List.getElem?_eq_getElem hk1,Option.getD_some];exact this
   generalize (l[k]'hlt)=x at c0 c1 HN1 HY1;generalize (l.getD (k-1) (.empty,0)).1=pn at HN1 HY1 HPv;obtain⟨nm,v⟩:=x;simp only at c0 c1 HN1 HY1;clear g0 g1;by_cases h1:v<0
   ·have hd1:decide (v<0)=true:=decide_eq_true h1;obtain rfl:R=false:=HN1.out (decide_eq_false (by omega));go_upto_region 4 with fail;go_quiet (fail);go_wp2_with fail;go_ret;exact⟨rfl,bel⟩
   ·have hd1:decide (v<0)=false:=decide_eq_false h1;by_cases h2:65535<v
    ·have hd2:decide (65535<v)=true:=decide_eq_true h2;obtain rfl:R=false:=HN1.out (decide_eq_false (by omega));go_upto_region 4 with fail;go_quiet (fail);go_wp2_with fail;go_ret;exact⟨rfl,bel⟩
    ·have hd2:decide (65535<v)=false:=decide_eq_false h2;by_cases h0:k=0
     ·subst h0;rw[Nat.zero_mul,Nat.add_zero]at c0 c1;have HL1:=Lib.hid (HY1.out (decide_eq_true ⟨by omega,by omega,λh=>absurd h (by omega)⟩));go_upto_region 4 with fail;go_quiet (fail);go_wp2_with fail;go_roundw;case rel=>exact⟨1,by go_num,by omega,HL1.out,bel⟩
      case measure=>(simp[intOf];try omega)
     ·have h0':0<k:=by omega
      have cp:=HPv.out h0';have hd0:decide ((0:Int)<(k:Int))=true:=decide_eq_true (by omega);have hd3:decide (0<k)=true:=decide_eq_true h0';have HLs:=Lib.hid (zce pn nm);obtain⟨k1,rfl⟩:∃k1,k=k1+1:=⟨k-1,by omega⟩;rw[Nat.add_sub_cancel]at cp;have e2:IntKind.i64.wrap (k1:Int)=(k1:Int):=by rw[IntKind.wrap_i64];omega
      have CP:∀o,(wr.alloc o).cell? ⟨b,off+k1*2,none⟩=some (.string pn):=λo=>Lib.cell?_alloc_some _ cp;have hk1:k1<l.length:=by omega
      by_cases hc:Zj pn nm<0
      ·have hlt2:Op.bytesLess pn.toList nm.toList=true:=by rw[HLs.out];exact decide_eq_true hc
       have HL1:=Lib.hid (HY1.out (decide_eq_true ⟨by omega,by omega,λ_=>hc⟩));clear hc;go_upto_region 4 with fail;go_quiet (fail);go_wp2_with fail;go_roundw;case rel=>exact⟨k1+1+1,by go_num,by omega,HL1.out,bel⟩
       case measure=>(simp[intOf];try omega)
      ·have hlt2:Op.bytesLess pn.toList nm.toList=false:=by rw[HLs.out];exact decide_eq_false hc
       obtain rfl:R=false:=HN1.out (decide_eq_false (by rintro ⟨_,_,h⟩;exact hc (h (by omega))));clear hc;go_upto_region 4 with fail;go_quiet (fail);go_wp2_with fail;go_ret;exact⟨rfl,bel⟩
  ·obtain rfl:k=l.length:=by omega
   obtain rfl:R=true:=by rw[HE.out];exact HL.out
   go_wp2_with fail;go_ret;exact⟨rfl,HBr.out⟩
theorem Qc {w:World} {l:List yU} {a:Option Addr} {cap:Nat} (h:thE.In w l a cap) {b off:Nat} (ha:a=some ⟨b,off,none⟩) {i:Nat} (hi:i<l.length):∃xa xc,w.cell? ⟨b,off+i*2,none⟩=some (.int .i64 (l[i]'hi).state)/\w.cell? ⟨b,off+i*2+1,none⟩=some (.slice xa (l[i]'hi).env.length xc)/\zT w (l[i]'hi).env xa xc:=by obtain⟨vs,⟨xa,xc,rfl,h1⟩,hc⟩:=h.get ha hi;exact⟨xa,xc,hc 0 _ rfl,hc 1 _ rfl,h1⟩
def znj {τ:Type} (E:Enc τ) (g:FuncId) (tv:Value) (cf:τ->Int) (K:World->Prop):Prop :=
 ∀(W:World) (x:τ) (vs:List Value),K W->E.R W x vs->Calls Tryz.prog g #[.agg vs.toArray,tv] W λe W'=>e=.returned (.int .i64 (cf x))/\Below W.heap.size W W'
theorem zaO {α:Type} (p:α->Bool):∀(l:List α) (i:Nat) (hi:i<=l.length),(∀t (ht:t<l.length),t<i->p (l[t]'ht)=true)->(∀t (ht:t<l.length),i<=t->p (l[t]'ht)=false)->l.countP p=i:=by
 intro l
 induction l with
 |nil=>intro i hi _ _;simp at hi;simp[hi]
 |cons a l ih =>
  intro i hi h1 h2;cases i with
  |zero =>rw[List.countP_eq_zero];intro x hx;obtain⟨t,ht,rfl⟩:=List.getElem_of_mem hx;rw[h2 t ht (Nat.zero_le _)];simp
  |succ i =>have ha:p a=true:=h1 0 (by simp) (by omega);rw[List.countP_cons_of_pos ha,ih i (by simpa using hi) (λt ht hti=>h1 (t+1) (by simpa using ht) (by omega)) (λt ht hti=>h2 (t+1) (by simpa using ht) (by omega))]
def bsP {τ:Type} (cf:τ->Int) (l:List τ):Nat:=l.countP λx=>decide (cf x<0)
def bsF {τ:Type} (cf:τ->Int) (l:List τ):Bool:=match l[bsP cf l]? with|some x=>decide (cf x=0)|none=>false
def Y6 {τ:Type} (cf:τ->Int) (l:List τ) (w:World) (e:Ending) (w':World):Prop:=e=.returned (.tuple #[.int .i64 (bsP cf l:Nat),.bool (bsF cf l)])/\Below w.heap.size w w'
theorem zbp (g:FuncId) (eg:∀args w,(callFunc g args).run Tryz.prog w=.ok (.enter g args) w) (tv:Value) (cf:Sg->Int) (K:World->Prop) (hP:znj sgE g tv cf K) (hKb:∀W W',K W->Below W.heap.size W W'->K W') (l:List Sg) (a:Option Addr) (cap:Nat) (w:World) (hE:sgE.In w l a cap) (hK:K w)
 (hmono:∀i j (hi:i<l.length) (hj:j<l.length),i<=j->cf (l[j]'hj)<0->cf (l[i]'hi)<0) :
 Calls Tryz.prog 110 #[.slice a l.length cap,tv,.func (.func g) #[] #[]] w (Y6 cf l w):=by
 have HP:=Lib.hid hP;have HE:=Lib.hid hE;have HKb:=Lib.hid hKb;have HK:=Lib.hid hK;have HM:=Lib.hid hmono;have hlen:=hE.len;have HA:Hid (l.length=0\/∃b off,a=some ⟨b,off,none⟩):=hE.addr;have HPo:Hid (∀i,i<=l.length->(∀t (ht:t<l.length),t<i->cf (l[t]'ht)<0)->(∀t (ht:t<l.length),i<=t->0<=cf (l[t]'ht))->∀W,Below w.heap.size w W->(∀(h:i<l.length),Y6 cf l w (.returned (.tuple #[.int .i64 i,.bool (decide (cf (l[i]'h)=0))])) W)/\(¬i<l.length->Y6 cf l w (.returned (.tuple #[.int .i64 i,.bool false])) W)):=λi hi h1 h2 W hb=>by
  have e:bsP cf l=i:=zaO _ l i hi (λt ht hti=>decide_eq_true (h1 t ht hti)) (λt ht hti=>decide_eq_false (by have:=h2 t ht hti;omega));refine⟨λh=>⟨?_,hb⟩,λh=>⟨?_,hb⟩⟩
  ·unfold bsF;rw[e,List.getElem?_eq_getElem h]
  ·unfold bsF;rw[e,List.getElem?_eq_none (by omega)]
 generalize Y6 cf l w=Po at HPo⊢;clear hP hE hKb hK hmono;go_enter Tryz.func110, Tryz.ntmps110;go_wp2_with fail;go_loopg [9,10,11] l.length (λkx s9 s10 _ wr=>∃lo hi:Nat,s9=.int .i64 lo/\s10=.int .i64 hi/\lo<=hi/\hi<=l.length/\hi-lo<=kx/\Hid ((∀t (ht:t<l.length),t<lo->cf (l[t]'ht)<0)/\(∀t (ht:t<l.length),hi<=t->0<=cf (l[t]'ht)))/\Hid (Below w.heap.size w wr));case atStart=>exact⟨0,l.length,rfl,rfl,Nat.zero_le _,Nat.le_refl _,by omega,⟨λt ht h=>absurd h (by omega),λt ht h=>absurd h (by omega)⟩,Below.refl _ _⟩
 case round =>
  (try rename World=>wr)
  obtain⟨lo,hi,rfl,rfl,hlh,hin,hg,HI,HBr⟩:=hrel;have hzr:=HBr.out.size;by_cases hlt:lo<hi
  ·have hmn:(lo+hi) / 2<l.length:=by omega
   have hm1:lo<=(lo+hi) / 2:=by omega
   have hm2:(lo+hi) / 2<hi:=by omega
   have hmi:((lo:Int)+(hi:Int)) / 2<(l.length:Int):=by omega
   have hltI:(lo:Int)<(hi:Int):=by omega
   obtain⟨b,off,ha⟩:=HA.out.resolve_left (by omega);subst ha;obtain⟨g0,g1⟩:=ZP (Yo.1 (HE.out.keep (za HBr.out))) rfl hmn;have HC0:=λvs hr=>HP.out wr (l[(lo+hi) / 2]'hmn) vs (HKb.out _ _ HK.out HBr.out) hr;have HY1:Hid (cf (l[(lo+hi) / 2]'hmn)<0->∀t (ht:t<l.length),t<(lo+hi) / 2+1->cf (l[t]'ht)<0):=λh t ht htm=>HM.out t ((lo+hi) / 2) ht hmn (by omega) h;have HY2:Hid (¬cf (l[(lo+hi) / 2]'hmn)<0->∀t (ht:t<l.length),(lo+hi) / 2<=t->0<=cf (l[t]'ht)):=λh t ht htm=>Int.not_lt.1 λh2=>h (HM.out ((lo+hi) / 2) t hmn ht htm h2);generalize (l[(lo+hi) / 2]'hmn)=y at *;obtain⟨yn,yv⟩:=y;(simp only at g0 g1);have hC:=HC0 _ rfl;have HC:=Lib.hid hC;clear HC0 hC;generalize cf _=cv at HC HY1 HY2;by_cases hcv:cv<0
   ·have HN:=Lib.hid (HY1.out hcv);go_wp2_with (go_at_fn g;go_must (refine HC.out.mono ?_;rintro e w5 ⟨rfl,hb5⟩));have HB5:Hid (Below w.heap.size w w5):=HBr.out.trans (hb5.mono hzr);go_roundg (hi-((lo+hi) / 2+1));case measure=>omega
    case rel=>exact⟨(lo+hi) / 2+1,hi,by rw[show ((lo:Int)+(hi:Int)) / 2+1=(((lo+hi) / 2+1:Nat):Int) by omega],rfl,by omega,hin,Nat.le_refl _,⟨HN.out,HI.out.2⟩,HB5.out⟩
   ·have HN:=Lib.hid (HY2.out hcv);go_wp2_with (go_at_fn g;go_must (refine HC.out.mono ?_;rintro e w5 ⟨rfl,hb5⟩));have HB5:Hid (Below w.heap.size w w5):=HBr.out.trans (hb5.mono hzr);go_roundg ((lo+hi) / 2-lo);case measure=>omega
    case rel=>exact⟨lo,(lo+hi) / 2,rfl,by rw[show ((lo:Int)+(hi:Int)) / 2=(((lo+hi) / 2:Nat):Int) by omega],by omega,by omega,Nat.le_refl _,⟨HI.out.1,HN.out⟩,HB5.out⟩
  ·obtain rfl:hi=lo:=by omega
   have HF:=Lib.hid (HPo.out hi hin HI.out.1 HI.out.2);by_cases hmn:hi<l.length
   ·obtain⟨b,off,ha⟩:=HA.out.resolve_left (by omega);subst ha;obtain⟨g0,g1⟩:=ZP (Yo.1 (HE.out.keep (za HBr.out))) rfl hmn;have HC0:=λvs hr=>HP.out wr (l[hi]'hmn) vs (HKb.out _ _ HK.out HBr.out) hr;have HF2:Hid (∀W,Below w.heap.size w W->Po (.returned (.tuple #[.int .i64 hi,.bool (decide (cf (l[hi]'hmn)=0))])) W):=λW hW=>(HF.out W hW).1 hmn;clear HF;generalize (l[hi]'hmn)=y at *;obtain⟨yn,yv⟩:=y;(simp only at g0 g1);have hC:=HC0 _ rfl;have HC:=Lib.hid hC;clear HC0 hC;generalize cf _=cv at HC HF2;by_cases hcv:cv=0
    ·subst hcv;go_wp2_with (go_at_fn g;go_must (refine HC.out.mono ?_;rintro e w5 ⟨rfl,hb5⟩));have HB5:Hid (Below w.heap.size w w5):=HBr.out.trans (hb5.mono hzr);have HF3:=Lib.hid (HF2.out w5 HB5.out);first|exact HF3.out|(go_ret2;exact HF3.out)
    ·have hcb:(cv==0)=false:=by simp[hcv]
     have HF4:Hid (∀W,Below w.heap.size w W->Po (.returned (.tuple #[.int .i64 hi,.bool false])) W):=λW hW=>by have:=HF2.out W hW;rwa [decide_eq_false hcv]at this
     go_wp2_with (go_at_fn g;go_must (refine HC.out.mono ?_;rintro e w5 ⟨rfl,hb5⟩));have HB5:Hid (Below w.heap.size w w5):=HBr.out.trans (hb5.mono hzr);have HF3:=Lib.hid (HF4.out w5 HB5.out);first|exact HF3.out|(go_ret2;exact HF3.out)
   ·have HF3:=Lib.hid ((HF.out wr HBr.out).2 hmn);have hmnI:¬(hi:Int)<(l.length:Int):=by omega
    go_wp2_with fail;first|exact HF3.out|(go_ret2;exact HF3.out)
section
variable {τ : Type} {E : Enc τ} {w w' : World} {l : List τ} {xs : List Value}
theorem Enc.Vals.take (h:E.Vals w l xs) {i:Nat} (hi:i<=l.length):E.Vals w (l.take i) (xs.take (i*E.sz)):=by have hm:i*E.sz<=l.length*E.sz:=Nat.mul_le_mul_right _ hi;refine⟨by rw[List.length_take,List.length_take,h.1,Nat.min_eq_left hm,Nat.min_eq_left hi],λk hk=>?_⟩;rw[List.length_take]at hk;obtain⟨vs,h1,h2⟩:=h.2 k (by omega);rw[List.getElem_take];refine⟨vs,h1,λj v hv=>?_⟩;have hj:j<vs.length:=(List.getElem?_eq_some_iff.1 hv).1;rw[E.len h1]at hj;have hk2:(k+1)*E.sz<=i*E.sz:=Nat.mul_le_mul_right _ (by omega);rw[Nat.add_mul]at hk2;rw[List.getElem?_take_of_lt (by omega)];exact h2 j v hv
theorem Enc.Vals.drop (h:E.Vals w l xs) {i:Nat} (hi:i<=l.length):E.Vals w (l.drop i) (xs.drop (i*E.sz)):=by refine⟨by rw[List.length_drop,List.length_drop,h.1,Nat.sub_mul],λk hk=>?_⟩;rw[List.length_drop]at hk;obtain⟨vs,h1,h2⟩:=h.2 (i+k) (by omega);rw[List.getElem_drop];refine⟨vs,h1,λj v hv=>?_⟩;rw[List.getElem?_drop,←Nat.add_assoc,←Nat.add_mul];exact h2 j v hv
theorem Enc.Vals.ins (h:E.Vals w l xs) {i:Nat} (hi:i<=l.length) {x:τ} {vs:List Value} (hR:E.R w x vs):E.Vals w (l.take i++x::l.drop i) (xs.take (i*E.sz)++(vs++xs.drop (i*E.sz))) :=
 (h.take hi).append ((Enc.Vals.one hR).append (h.drop hi))
end
theorem zd1 {α:Type} (A B R V:List α) (s:Nat) (hV:V.length=s) (hR:s<=R.length):splice (splice ((A++B)++R) (A.length+s) B) A.length V=(A++(V++B))++R.drop s:=by
 subst hV;have h1:List.take (A.length+V.length) ((A++B)++R)=A++List.take V.length (B++R):=by rw[List.append_assoc,List.take_append,List.take_of_length_le (by omega)];simp
 have h2:(List.take V.length (B++R)).length=V.length:=by rw[List.length_take,List.length_append];omega
 have h3:List.drop (A.length+V.length+B.length) ((A++B)++R)=R.drop V.length:=by rw[List.append_assoc,List.drop_append,List.drop_eq_nil_of_le (by omega),List.drop_append,List.drop_eq_nil_of_le (by omega)];simp;omega
 unfold splice;rw[h1,h3,List.append_assoc,List.take_left,List.drop_append,List.drop_eq_nil_of_le (by omega),List.drop_append,List.drop_eq_nil_of_le (by omega)];rw[show A.length+V.length-A.length-(List.take V.length (B++R)).length=0 by omega];simp
theorem zd0 {α:Type} (A B R V:List α) (s:Nat) (hV:V.length=s) (hR:s+B.length<=R.length):splice (splice (A++R) A.length V) (A.length+s) B=(A++(V++B))++R.drop (s+B.length):=by
 subst hV;have h0:splice (A++R) A.length V=(A++V)++R.drop V.length:=by unfold splice;rw[List.take_left,List.drop_append,List.drop_eq_nil_of_le (by omega),show A.length+V.length-A.length=V.length by omega];simp
 rw[h0];unfold splice;rw[show A.length+V.length=(A++V).length by simp,List.take_left,List.drop_append,List.drop_eq_nil_of_le (by simp),show (A++V).length+B.length-(A++V).length=B.length by omega];simp[List.drop_drop]
theorem yN {P:Program} (w:World) (dT sT ty elem:TypeId) (size g o dLen dCap:Nat) (a:Addr) (sLen sCap:Nat) (cur:Array Value) (t:TypeId) (cs:List Value) (n:Nat)
 (hu:P.underlying dT=some (.slice elem)) (hs:(P.info? elem).map (·.size)=some size)
 (hg:w.heap[g]? = some (.cells cur t (0,0))) (hn:Nat.min sLen dLen=n) (hcs:cs.length=n*size)
 (hsrc:∀j v,cs[j]? = some v->w.cell? (a.add j)=some v) (hfit:o+cs.length<=cur.size) (h1:∀v∈cs,v.oneCell'=true) :
 (Builtin.copy_ #[dT,sT] ty #[.slice (some ⟨g,o,none⟩) dLen dCap,.slice (some a) sLen sCap]).run P w =
  .ok (goInt n) (w.setRow g (cur.toList.take o++cs++cur.toList.drop (o+cs.length)).toArray):=by
 have hl:=run_loadCells_list (P:=P) w a cs hsrc;have hst:=run_storeCells_at P g o t cs 0 cur w hg (by simpa using hfit) h1;rw[hcs]at hl;cases hq:P.info? elem with
 |none=>simp[hq]at hs
 |some i =>
  have hi:i.size=size:=by simpa [hq] using hs
  simp[Builtin.copy_,run_underlying hu,Builtin.lenOf,Builtin.firstCells,sizeOf,typeInfo,hq,hi,hn,hl,hst]
theorem zfA (w:World) (row:Option Nat):w.grownBy w.drew row:=⟨rfl,rfl,rfl,Nat.le_refl _,λ_ _ _=>rfl⟩
theorem Qn (w:World) (g:Nat) (c:Array Value):w.grownBy (w.setRow g c) (some g) :=
 ⟨rfl,rfl,rfl,by simp[World.setRow],λk _ hk=>setRow_other w g k c (λe=>hk (by rw[e]))⟩
theorem Q1 {w w1 w2:World} {row:Option Nat} (h:w.grownBy w1 row) (h':w1.grownBy w2 row):w.grownBy w2 row :=
 ⟨h'.os.trans h.os,h'.tape.trans h.tape,h'.output.trans h.output,Nat.le_trans h.size h'.size,λk hk hn=>(h'.block k (Nat.lt_of_lt_of_le hk h.size) hn).trans (h.block k hk hn)⟩
def zgr (l:List Ex):Prop:=∀g∈l,g.nodes.length<=1000000000
structure XK (e:zn):Prop where
 gs:zgr e.guards
 ss:∀b∈e.sets,b.expr.nodes.length<=1000000000
def yT (e:zn) (ag:Option Addr) (cg:Nat) (aS:Option Addr) (cs:Nat):Value:=.agg #[.int .i64 e.fr,.int .i64 e.to,.slice ag e.guards.length cg,.slice aS e.sets.length cs]
theorem zbw {w:World} {l:List Ex} {a:Option Addr} {cap:Nat} (h:exE.In w l a cap) {b off:Nat} (ha:a=some ⟨b,off,none⟩) {i:Nat} (hi:i<l.length) :
 ∃a' cap',w.cell? ⟨b,off+i*4,none⟩=some (.int .i64 (l[i]'hi).op)/\w.cell? ⟨b,off+i*4+1,none⟩=some (.int .i64 (l[i]'hi).n)/\w.cell? ⟨b,off+i*4+2,none⟩=some (.string (l[i]'hi).name) /\
  w.cell? ⟨b,off+i*4+3,none⟩=some (.slice a' (l[i]'hi).args.length cap')/\yY w (l[i]'hi) a' cap':=(zg3.1 h).get ha hi
theorem zbo {w:World} {l:List qi} {a:Option Addr} {cap:Nat} (h:bdE.In w l a cap) {b off:Nat} (ha:a=some ⟨b,off,none⟩) {i:Nat} (hi:i<l.length) :
 ∃a' cap',w.cell? ⟨b,off+i*5,none⟩=some (.string (l[i]'hi).name)/\w.cell? ⟨b,off+i*5+1,none⟩=some (.int .i64 (l[i]'hi).expr.op)/\w.cell? ⟨b,off+i*5+2,none⟩=some (.int .i64 (l[i]'hi).expr.n)/\w.cell? ⟨b,off+i*5+3,none⟩=some (.string (l[i]'hi).expr.name) /\
  w.cell? ⟨b,off+i*5+4,none⟩=some (.slice a' (l[i]'hi).expr.args.length cap')/\(l[i]'hi).name.size<=1073741824/\yY w (l[i]'hi).expr a' cap':=by
 obtain⟨vs,⟨a',cap',rfl,h1,h2⟩,hc⟩:=h.get ha hi;exact⟨a',cap',hc 0 _ rfl,hc 1 _ rfl,hc 2 _ rfl,hc 3 _ rfl,hc 4 _ rfl,h1,h2⟩
theorem yR {w:World} {l:List zn} {a:Option Addr} {cap:Nat} (h:edE.In w l a cap) {b off:Nat} (ha:a=some ⟨b,off,none⟩) {i:Nat} (hi:i<l.length) :
 ∃ag cg aS cs,w.cell? ⟨b,off+i*4,none⟩=some (.int .i64 (l[i]'hi).fr)/\w.cell? ⟨b,off+i*4+1,none⟩=some (.int .i64 (l[i]'hi).to)/\w.cell? ⟨b,off+i*4+2,none⟩=some (.slice ag (l[i]'hi).guards.length cg) /\
  w.cell? ⟨b,off+i*4+3,none⟩=some (.slice aS (l[i]'hi).sets.length cs)/\exE.In w (l[i]'hi).guards ag cg/\bdE.In w (l[i]'hi).sets aS cs:=by
 obtain⟨vs,⟨ag,cg,aS,cs,rfl,h1,h2⟩,hc⟩:=h.get ha hi;exact⟨ag,cg,aS,cs,hc 0 _ rfl,hc 1 _ rfl,hc 2 _ rfl,hc 3 _ rfl,h1,h2⟩
theorem zb8 {α:Type} {p:α->Bool} {l:List α} {k:Nat} (hk:k<l.length) (h:p (l[k]'hk)=false):l.all p=false:=by rw[←Bool.not_eq_true,List.all_eq_true];intro h2;rw[h2 _ (List.getElem_mem hk)]at h;simp at h
theorem QK {α:Type} {p:α->Bool} {l:List α} (h:∀j (hj:j<l.length),p (l[j]'hj)=true):l.all p=true:=by rw[List.all_eq_true];intro x hx;obtain⟨j,hj,rfl⟩:=List.getElem_of_mem hx;exact h j hj
theorem zbW (e:Ex) (a:Option Addr) (c:Nat) (w:World) (hG:ZW w) (h:yY w e a c) (hn:e.nodes.length<=1000000000):Calls Tryz.prog 121 #[yu e a c] w λe' w'=>e'=.returned (.int .i64 (zZ e))/\Below w.heap.size w w':=by obtain⟨op,n,s,args⟩:=e;exact zc7 op n s args a c w hG h (by omega)
theorem zhr (e:zn) (ag:Option Addr) (cg:Nat) (aS:Option Addr) (cs:Nat) (st:Int) (w:World) (hG:ZW w) (h1:exE.In w e.guards ag cg) (h2:bdE.In w e.sets aS cs) (hs:XK e) :
 Calls Tryz.prog 69 #[yT e ag cg aS cs,.int .i64 st] w λe' w'=>e'=.returned (.bool (edgeOk st e))/\Below w.heap.size w w':=by
 have HG:=Lib.hid hG;have H1:=Lib.hid h1;have H2:=Lib.hid h2;have HS:=Lib.hid hs;have hl1:=h1.len;have hl2:=h2.len;have HA1:=Lib.hid h1.addr;have HA2:=Lib.hid h2.addr;have HR:Hid (∀b,(decide (0<=e.fr/\e.fr<st/\0<=e.to/\e.to<st))=b->(b&&e.guards.all okX&&e.sets.all zcI)=edgeOk st e):=λb hb=>by rw[←hb];rfl
 have HR0:Hid (¬(0<=e.fr/\e.fr<st/\0<=e.to/\e.to<st)->edgeOk st e=false):=λh=>by rw[←HR.out false (decide_eq_false h)];rfl
 have HR1:Hid ((0<=e.fr/\e.fr<st/\0<=e.to/\e.to<st)->edgeOk st e=(e.guards.all okX&&e.sets.all zcI)):=λh=>by rw[←HR.out true (decide_eq_true h)];rfl
 clear h1 h2 hG hs HR;unfold yT;generalize edgeOk st e=R at HR0 HR1⊢;obtain⟨fr,to,gs,ss⟩:=e;simp only at H1 H2 hl1 hl2 HR0 HR1⊢;have HB0:Hid (Below w.heap.size w (w.alloc (.cells #[.int .i64 fr,.int .i64 to,.slice ag gs.length cg,.slice aS ss.length cs] 69))):=by show Below _ _ _;exact bel
 by_cases hA:fr<0
 ·have hR:=HR0.out (by omega);subst hR;go_enter Tryz.func69, Tryz.ntmps69;go_wp2_with fail;go_ret;exact⟨rfl,HB0.out⟩
 by_cases hB:st<=fr
 ·have hR:=HR0.out (by omega);subst hR;go_enter Tryz.func69, Tryz.ntmps69;go_wp2_with fail;go_ret;exact⟨rfl,HB0.out⟩
 by_cases hC:to<0
 ·have hR:=HR0.out (by omega);subst hR;go_enter Tryz.func69, Tryz.ntmps69;go_wp2_with fail;go_ret;exact⟨rfl,HB0.out⟩
 by_cases hD:st<=to
 ·have hR:=HR0.out (by omega);subst hR;go_enter Tryz.func69, Tryz.ntmps69;go_wp2_with fail;go_ret;exact⟨rfl,HB0.out⟩
 have HRt:=Lib.hid (HR1.out ⟨by omega,by omega,by omega,by omega⟩);clear HR0 HR1;go_enter Tryz.func69, Tryz.ntmps69;go_wp2_with fail;generalize hW1:w.alloc (.cells #[.int .i64 fr,.int .i64 to,.slice ag gs.length cg,.slice aS ss.length cs] 69)=W1 at HB0⊢;have hx3:W1.cell? ⟨w.heap.size,3,none⟩=some (.slice aS ss.length cs):=by rw[←hW1];simp
 have hz1:W1.heap.size=w.heap.size+1:=by rw[←hW1];simp
 have HX3:=Lib.hid hx3;have hz1a:w.heap.size<W1.heap.size:=by omega
 have hz1b:=Lib.hid hz1;clear hW1 hx3 hz1 hA hB hC hD;go_loopw [32,6] (λi _ wr=>∃k:Nat,i=.int .i64 k/\k<=gs.length/\Hid (∀j (hj:j<gs.length),j<k->okX (gs[j]'hj)=true)/\Hid (Below W1.heap.size W1 wr)) (λi _ _=>gs.length-(intOf i).toNat);case atStart=>exact⟨0,rfl,Nat.zero_le _,λ_ _ h=>absurd h (by omega),Below.refl _ _⟩
 case round =>
  obtain⟨k,rfl,hk,HAl,HBr⟩:=hrel;have HBw:Hid (Below w.heap.size w wr):=HB0.out.trans (HBr.out.mono (by omega));have hzr:=HBr.out.size;by_cases hlt:k<gs.length
  ·obtain⟨b,off,ha⟩:=HA1.out.resolve_left (by omega);subst ha;obtain⟨a',cap',g0,g1,g2,g3,hX⟩:=zbw H1.out rfl hlt;have hn:=HS.out.gs _ (List.getElem_mem hlt);have HNx:Hid (okX (gs[k]'hlt)=true->∀j (hj:j<gs.length),j<k+1->okX (gs[j]'hj)=true):=λhv j hj hjk=>by
    by_cases e:j=k
    ·subst e;exact hv
    ·exact HAl.out j hj (by omega)
   have HNo:Hid (okX (gs[k]'hlt)=false->R=false):=λh=>by rw[HRt.out,zb8 hlt h];rfl
   have HV:=Lib.hid (λW (hW:Below wr.heap.size wr W)=>zbW (gs[k]'hlt) a' cap' W (HG.out.below (HBw.out.trans (hW.mono HBw.out.size))) (hX.keep (za (HBw.out.trans (hW.mono HBw.out.size)))) hn);have HOk:Hid (okX (gs[k]'hlt)=(zZ (gs[k]'hlt)==0)):=rfl;have kk:=za HBw.out;have c0:=kk _ _ g0;have c1:=kk _ _ g1;have c2:=kk _ _ g2;have c3:=kk _ _ g3;clear g0 g1 g2 g3 kk hX hn;generalize (gs[k]'hlt)=y at c0 c1 c2 c3 HNx HNo HV HOk;unfold yu at HV;by_cases hv:zZ y=0
   ·have HOk2:=Lib.hid (HNx.out (by rw[HOk.out,hv];rfl));rw[hv]at HV;clear HNx HNo HOk hv;go_wp2_with (go_at_call 121;go_must (refine(HV.out _ bel).mono ?_;rintro e w5 ⟨rfl,hb5⟩));have HB5:Hid (Below wr.heap.size wr w5):=((Below.refl wr.heap.size wr).alloc (Nat.le_refl _) _).trans (hb5.mono (by simp));go_roundw;case rel=>exact⟨k+1,by go_num,by omega,HOk2.out,HBr.out.trans (HB5.out.mono hzr)⟩
    case measure=>(simp[intOf];try omega)
   ·have hR:=HNo.out (by rw[HOk.out];exact beq_eq_false_iff_ne.2 hv);have hv':(zZ y != 0)=true:=by simpa using hv
    subst hR;generalize zZ y=vv at HV hv hv';clear HNx HNo HOk hv;go_wp2_with (go_at_call 121;go_must (refine(HV.out _ bel).mono ?_;rintro e w5 ⟨rfl,hb5⟩));have HB5:Hid (Below wr.heap.size wr w5):=((Below.refl wr.heap.size wr).alloc (Nat.le_refl _) _).trans (hb5.mono (by simp));go_ret;exact⟨rfl,HBw.out.trans (HB5.out.mono HBw.out.size)⟩
  ·obtain rfl:k=gs.length:=by omega
   have HR2:Hid (R=ss.all zcI):=by show R=_;rw[HRt.out,QK λj hj=>HAl.out j hj hj,Bool.true_and]
   have hx3:=(HBr.out.cell (p:=⟨w.heap.size,3,none⟩) hz1a).trans HX3.out;clear HAl HRt HX3;go_wp2_with fail;clear hx3;go_loopw [43,8] (λi _ wq=>∃k:Nat,i=.int .i64 k/\k<=ss.length/\Hid (∀j (hj:j<ss.length),j<k->zcI (ss[j]'hj)=true)/\Hid (Below w.heap.size w wq)) (λi _ _=>ss.length-(intOf i).toNat);case atStart=>exact⟨0,rfl,Nat.zero_le _,λ_ _ h=>absurd h (by omega),HBw.out⟩
   case round =>
    obtain⟨m,rfl,hm,HAm,HBq⟩:=hrel;have hzq:=HBq.out.size;by_cases hlt2:m<ss.length
    ·obtain⟨b,off,ha⟩:=HA2.out.resolve_left (by omega);subst ha;obtain⟨a',cap',g0,g1,g2,g3,g4,hns,hX⟩:=zbo H2.out rfl hlt2;have hn:=HS.out.ss _ (List.getElem_mem hlt2);have HNx:Hid (zcI (ss[m]'hlt2)=true->∀j (hj:j<ss.length),j<m+1->zcI (ss[j]'hj)=true):=λhv j hj hjk=>by
      by_cases e:j=m
      ·subst e;exact hv
      ·exact HAm.out j hj (by omega)
     have HNo:Hid (zcI (ss[m]'hlt2)=false->R=false):=λh=>by rw[HR2.out,zb8 hlt2 h]
     have HV:=Lib.hid (λW (hW:Below wr.heap.size wr W)=>zbW (ss[m]'hlt2).expr a' cap' W (HG.out.below (HBq.out.trans (hW.mono hzq))) (hX.keep (za (HBq.out.trans (hW.mono hzq)))) hn);have HNm:=Lib.hid (λW (hW:Below wr.heap.size wr W)=>Zw (ss[m]'hlt2).name W hns (HG.out.below (HBq.out.trans (hW.mono hzq))));have HOk:Hid (zcI (ss[m]'hlt2)=(yW (ss[m]'hlt2).name.data.toList&&(zZ (ss[m]'hlt2).expr==0))):=rfl;have kk:=za HBq.out;have c0:=kk _ _ g0;have c1:=kk _ _ g1;have c2:=kk _ _ g2;have c3:=kk _ _ g3;have c4:=kk _ _ g4;clear g0 g1 g2 g3 g4 kk hX hn hns;generalize (ss[m]'hlt2)=y at c0 c1 c2 c3 c4 HNx HNo HV HOk HNm;obtain⟨nm,x⟩:=y;simp only at c0 c1 c2 c3 c4 HV HOk HNm;unfold yu at HV;generalize yW nm.data.toList=nb at HNm HOk;cases nb
     ·have hR:=HNo.out (by rw[HOk.out];rfl);subst hR;clear HNx HNo HOk HV;go_wp2_with (go_at_call 122;go_must (refine(HNm.out _ bel).mono ?_;rintro e w5 ⟨rfl,hb5⟩));have HB5:Hid (Below wr.heap.size wr w5):=((Below.refl wr.heap.size wr).alloc (Nat.le_refl _) _).trans (hb5.mono (by simp));go_ret;exact⟨rfl,HBq.out.trans (HB5.out.mono hzq)⟩
     ·by_cases hv:zZ x=0
      ·have HOk2:=Lib.hid (HNx.out (by rw[HOk.out,hv];rfl));rw[hv]at HV;clear HNx HNo HOk hv;go_wp2_with (first|(go_at_call 122;go_must (refine(HNm.out _ bel).mono ?_;rintro e w5 ⟨rfl,hb5⟩;have HB5:Hid (Below wr.heap.size wr w5):=((Below.refl wr.heap.size wr).alloc (Nat.le_refl _) _).trans (hb5.mono (by simp));have k5:=za hb5;have e1:=k5 ⟨wr.heap.size,1,none⟩ (.int .i64 x.op) (by simp);have e2:=k5 ⟨wr.heap.size,2,none⟩ (.int .i64 x.n) (by simp);have e3:=k5 ⟨wr.heap.size,3,none⟩ (.string x.name) (by simp);have e4:=k5 ⟨wr.heap.size,4,none⟩ (.slice a' x.args.length cap') (by simp);clear k5))|(go_at_call 121;go_must (refine(HV.out _ HB5.out).mono ?_;rintro e w6 ⟨rfl,hb6⟩;have HB6:Hid (Below wr.heap.size wr w6):=HB5.out.trans (hb6.mono HB5.out.size))));go_roundw;case rel=>exact⟨m+1,by go_num,by omega,HOk2.out,HBq.out.trans (HB6.out.mono hzq)⟩
       case measure=>(simp[intOf];try omega)
      ·have hR:=HNo.out (by rw[HOk.out];exact beq_eq_false_iff_ne.2 hv);have hv':(zZ x != 0)=true:=by simpa using hv
       subst hR;generalize zZ x=vv at HV hv hv';clear HNx HNo HOk hv;go_wp2_with (first|(go_at_call 122;go_must (refine(HNm.out _ bel).mono ?_;rintro e w5 ⟨rfl,hb5⟩;have HB5:Hid (Below wr.heap.size wr w5):=((Below.refl wr.heap.size wr).alloc (Nat.le_refl _) _).trans (hb5.mono (by simp));have k5:=za hb5;have e1:=k5 ⟨wr.heap.size,1,none⟩ (.int .i64 x.op) (by simp);have e2:=k5 ⟨wr.heap.size,2,none⟩ (.int .i64 x.n) (by simp);have e3:=k5 ⟨wr.heap.size,3,none⟩ (.string x.name) (by simp);have e4:=k5 ⟨wr.heap.size,4,none⟩ (.slice a' x.args.length cap') (by simp);clear k5))|(go_at_call 121;go_must (refine(HV.out _ HB5.out).mono ?_;rintro e w6 ⟨rfl,hb6⟩;have HB6:Hid (Below wr.heap.size wr w6):=HB5.out.trans (hb6.mono HB5.out.size))));go_ret;exact⟨rfl,HBq.out.trans (HB6.out.mono hzq)⟩
    ·obtain rfl:m=ss.length:=by omega
     have hR:R=true:=by rw[HR2.out,QK λj hj=>HAm.out j hj hj]
     subst hR;go_wp2_with fail;go_ret;exact⟨rfl,HBq.out⟩
end Go.Proofs.YthojpomoflhbcaaGreatDoor
