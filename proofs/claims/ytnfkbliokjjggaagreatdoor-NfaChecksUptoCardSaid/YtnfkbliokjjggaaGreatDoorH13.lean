/- Rows as lists of things with their cells; stores into rows of one's own; shorter rows. -/
import Derived.Test.YtnfkbliokjjggaaGreatDoorH08
import Derived.Laws.OwnMore
import Derived.Laws.IdiomCopy
import Derived.Test.YtnfkbliokjjggaaGreatDoorH12
set_option maxHeartbeats 8000000
set_option maxRecDepth 100000
set_option linter.unusedSimpArgs false
set_option linter.unusedVariables false
set_option linter.unnecessarySimpa false
namespace Go.Proofs.YtnfkbliokjjggaaGreatDoor
open Go.RowKit
section
variable {τ : Type} {E : Enc τ} {w w' : World} {l : List τ} {xs : List Value}
abbrev Zl (τ:Type):=List (τ×List Value)
def xj (zs:Zl τ):List Value:=zs.flatMap Prod.snd
def RZ (E:Enc τ) (w:World) (zs:Zl τ):Prop:=∀z∈zs,E.R w z.1 z.2
theorem RZ.keep {zs:Zl τ} (h:RZ E w zs) (hk:Kp w w'):RZ E w' zs:=λz hz=>E.keep hk (h z hz)
theorem Yx {zs:Zl τ} (h:∀z∈zs,z.2.length=E.sz):(xj zs).length=zs.length*E.sz:=by
 induction zs with
 |nil=>simp[xj]
 |cons z zs ih =>have:=ih λy hy=>h y (List.mem_cons_of_mem _ hy);have h2:=h z (List.mem_cons_self ..);unfold xj at this⊢;rw[List.flatMap_cons,List.length_append,this,h2,List.length_cons,Nat.add_mul,Nat.one_mul];omega
theorem RZ.lens {zs:Zl τ} (h:RZ E w zs):∀z∈zs,z.2.length=E.sz:=λz hz=>E.len (h z hz)
theorem Zq {zs:Zl τ} (h:∀z∈zs,z.2.length=E.sz):∀{i:Nat} (hi:i<zs.length) {j:Nat},j<E.sz->(xj zs)[i*E.sz+j]? = (zs[i]'hi).2[j]?:=by
 induction zs with
 |nil=>intro i hi;simp at hi
 |cons z zs ih =>
  intro i hi j hj;have h2:=h z (List.mem_cons_self ..);unfold xj at ih⊢;rw[List.flatMap_cons];cases i with
  |zero=>rw[List.getElem?_append_left (by omega)];simp
  |succ i =>rw[List.getElem?_append_right (by rw[Nat.add_mul,Nat.one_mul];omega),show (i+1)*E.sz+j-z.2.length=i*E.sz+j by rw[Nat.add_mul,Nat.one_mul];omega,ih (λy hy=>h y (List.mem_cons_of_mem _ hy)) (by simpa using hi) hj];simp
theorem RZ.vals {zs:Zl τ} (h:RZ E w zs):E.Vals w (zs.map Prod.fst) (xj zs):=by
 refine⟨by rw[Yx h.lens,List.length_map],λi hi=>?_⟩;have hi':i<zs.length:=by simpa using hi
 refine⟨(zs[i]'hi').2,by rw[List.getElem_map];exact h _ (List.getElem_mem hi'),λj v hv=>?_⟩;have hj:j<E.sz:=by rw[←h.lens _ (List.getElem_mem hi')];exact(List.getElem?_eq_some_iff.1 hv).1
 rw[Zq h.lens hi' hj];exact hv
theorem Enc.Vals.zs:∀{l:List τ} {xs:List Value},E.Vals w l xs->∃zs:Zl τ,RZ E w zs/\zs.map Prod.fst=l/\xj zs=xs:=by
 intro l
 induction l with
 |nil =>intro xs h;have:=h.1;simp at this;subst this;exact⟨[],λz hz=>(by cases hz),rfl,rfl⟩
 |cons x l ih =>
  intro xs h;obtain⟨vs,h1,h2⟩:=h.2 0 (by simp);have hl:=E.len h1;have hx:=h.1;rw[List.length_cons,Nat.add_mul,Nat.one_mul]at hx;have e1:xs.take E.sz=vs:=by
   refine List.ext_getElem? λj=>?_;by_cases hj:j<E.sz
   ·have hj':j<vs.length:=by omega
    have:=h2 j _ (List.getElem?_eq_getElem hj');rw[Nat.zero_mul,Nat.zero_add]at this;rw[List.getElem?_take,if_pos hj,this,List.getElem?_eq_getElem hj']
   ·rw[List.getElem?_eq_none (by rw[List.length_take];omega),List.getElem?_eq_none (by omega)]
  have hr:E.Vals w l (xs.drop E.sz):=by refine⟨by rw[List.length_drop];omega,λi hi=>?_⟩;obtain⟨vs2,g1,g2⟩:=h.2 (i+1) (by simpa using hi);refine⟨vs2,by simpa using g1,λj v hv=>?_⟩;have:=g2 j v hv;rw[List.getElem?_drop,show E.sz+(i*E.sz+j)=(i+1)*E.sz+j by rw[Nat.add_mul,Nat.one_mul];omega];exact this
  obtain⟨zs,g1,g2,g3⟩:=ih hr;refine⟨(x,vs)::zs,λz hz=>?_,by rw[List.map_cons,g2],?_⟩
  ·rcases List.mem_cons.1 hz with rfl|hz
   ·exact h1
   ·exact g1 z hz
  ·unfold xj at g3⊢;rw[List.flatMap_cons,g3,←e1,List.take_append_drop]
theorem zbx {zs:Zl τ} (h:∀z∈zs,z.2.length=E.sz):∀{i:Nat},i<=zs.length->(xj zs).take (i*E.sz)=xj (zs.take i):=by
 induction zs with
 |nil=>intro i hi;simp[xj]
 |cons z zs ih =>
  intro i hi;cases i with
  |zero=>simp[xj]
  |succ i =>have h2:=h z (List.mem_cons_self ..);have:=ih (λy hy=>h y (List.mem_cons_of_mem _ hy)) (i:=i) (by simpa using hi);unfold xj at this⊢;rw[List.flatMap_cons,List.take_succ_cons,List.flatMap_cons,List.take_append,List.take_of_length_le (by rw[Nat.add_mul,Nat.one_mul];omega),show (i+1)*E.sz-z.2.length=i*E.sz by rw[Nat.add_mul,Nat.one_mul];omega,this]
def XU (xs:List Value) (o:Nat):List Value->List Value
 | []=>xs
 |v::r=>XU (xs.set o v) (o+1) r
theorem QC (vs:List Value):∀(xs:List Value) (o j:Nat),(XU xs o vs)[j]? = if o<=j/\j<o+vs.length/\j<xs.length then vs[j-o]? else xs[j]?:=by
 induction vs with
 |nil=>intro xs o j;rw[XU,if_neg (by simp;omega)]
 |cons v r ih =>
  intro xs o j;rw[XU,ih,List.length_set,List.length_cons];by_cases h1:o+1<=j/\j<o+1+r.length/\j<xs.length
  ·rw[if_pos h1,if_pos (by omega),show j-o=j-(o+1)+1 by omega,List.getElem?_cons_succ]
  ·rw[if_neg h1,List.getElem?_set];by_cases h2:o=j
   ·subst h2;rw[if_pos rfl];by_cases h3:o<xs.length
    ·rw[if_pos h3,if_pos (by omega)];simp
    ·rw[if_neg h3,if_neg (by omega),List.getElem?_eq_none (by omega)]
   ·rw[if_neg h2,if_neg (by omega)]
theorem zc3 {zs:Zl τ} (h:∀z∈zs,z.2.length=E.sz) {i:Nat} (hi:i<zs.length) {z:τ×List Value} (hz:z.2.length=E.sz):XU (xj zs) (i*E.sz) z.2=xj (zs.set i z):=by
 have hp:=E.pos;have h':∀y∈zs.set i z,y.2.length=E.sz:=by
  intro y hy;rcases List.mem_or_eq_of_mem_set hy with hy|rfl
  ·exact h y hy
  ·exact hz
 refine List.ext_getElem? λj=>?_;have hl:=Yx h;have hl':=Yx h';rw[List.length_set]at hl';rw[QC];by_cases hj:j<zs.length*E.sz
 ·have hq:j / E.sz<zs.length:=(Nat.div_lt_iff_lt_mul hp).2 hj;have hm:j % E.sz<E.sz:=Nat.mod_lt _ hp;have e:j / E.sz*E.sz+j % E.sz=j:=by rw[Nat.mul_comm];exact Nat.div_add_mod _ _
  have g1:=Zq h hq hm;have g2:=Zq h' (i:=j / E.sz) (by rw[List.length_set];exact hq) hm;rw[e]at g1 g2;rw[g1,g2];by_cases hc:i=j / E.sz
  ·subst hc;rw[if_pos (by rw[hz,hl];omega),List.getElem_set_self];congr 1;omega
  ·rw[List.getElem_set_ne hc,if_neg];rw[hz];rintro ⟨h1,h2,_⟩;apply hc;have a1:i<=j / E.sz:=(Nat.le_div_iff_mul_le hp).2 h1;have a2:j / E.sz<i+1:=(Nat.div_lt_iff_lt_mul hp).2 (by rw[Nat.add_mul,Nat.one_mul];omega);omega
 ·rw[if_neg (by omega),List.getElem?_eq_none (by omega),List.getElem?_eq_none (by omega)]
end
theorem Zi {B:Nat} {e:TypeId} {size g n cap:Nat}:∀(vs:List Value) (o:Nat) (w:World) (xs:List Value),w.ownsRow B e size (.slice (some ⟨g,0,none⟩) n cap) n xs->(w.setCells g o vs).ownsRow B e size (.slice (some ⟨g,0,none⟩) n cap) n (XU xs o vs)/\w.grownBy (w.setCells g o vs) (some g):=by
 intro vs
 induction vs with
 |nil=>intro o w xs h;exact⟨h,World.grownBy.refl _ _⟩
 |cons v r ih =>intro o w xs h;obtain⟨h1,h2⟩:=h.stored o v;obtain⟨h3,h4⟩:=ih (o+1) _ _ h1;exact⟨h3,⟨h4.os.trans h2.os,h4.tape.trans h2.tape,h4.output.trans h2.output,Nat.le_trans h2.size h4.size,λk hk hn=>(h4.block k (Nat.lt_of_lt_of_le hk h2.size) hn).trans (h2.block k hk hn)⟩⟩
theorem zio {w:World} {B:Nat} {e:TypeId} {size g n cap i:Nat} {xs:List Value} (h:w.ownsRow B e size (.slice (some ⟨g,0,none⟩) n cap) n xs) (hi:i<=n):w.ownsRow B e size (.slice (some ⟨g,0,none⟩) i cap) i (xs.take (i*size)):=by
 have hm:i*size<=n*size:=Nat.mul_le_mul_right _ hi;rcases h.2 with ⟨h',_⟩|⟨g',cap',cur,h',hb,hg,hnc,hcm,hcs,htake⟩
 ·simp at h'
 ·simp only[Value.slice.injEq,Option.some.injEq,Addr.mk.injEq,and_true,true_and]at h';obtain⟨rfl,rfl⟩:=h';refine⟨by rw[List.length_take,h.1];omega,Or.inr ⟨g,cap,cur,rfl,hb,hg,by omega,hcm,hcs,?_⟩⟩;rw[←htake,List.take_take,Nat.min_eq_left hm]
attribute [local go_sem ↓] Go.wp_at_zero Go.wp_at_succ
theorem Q0 (w:World) (row:Option Nat):w.grownBy w row:=⟨rfl,rfl,rfl,Nat.le_refl _,λ_ _ _=>rfl⟩
theorem Yc {w w' w2:World} {row:Option Nat} (h:w.grownBy w' row) (hb:Below w'.heap.size w' w2):w.grownBy w2 row :=
 ⟨hb.os.trans h.os,hb.tape.trans h.tape,hb.output.trans h.output,Nat.le_trans h.size hb.size,λk hk hn=>(hb.block k (Nat.lt_of_lt_of_le hk h.size)).trans (h.block k hk hn)⟩
theorem Yd {w w' w2:World} {row:Option Nat} (h:w.grownBy w' row) (h2:w'.grownBy w2 row):w.grownBy w2 row :=
 ⟨h2.os.trans h.os,h2.tape.trans h.tape,h2.output.trans h.output,Nat.le_trans h.size h2.size,λk hk hn=>(h2.block k (Nat.lt_of_lt_of_le hk h.size) hn).trans (h.block k hk hn)⟩
theorem ziY {w:World} {g o n c:Nat} (hn:0<n) (hc:∀j,j<n*4->(w.cell? ⟨g,o+j,none⟩).isSome=true) (hf:∀j,j<n*4->w.frozen? ⟨g,o+j,none⟩=false) :
 ∃vs:List Value,∀ty,(Builtin.clear_ #[30] ty #[.slice (some ⟨g,o,none⟩) n c]).run Tryz.prog w=.ok (.tuple #[]) (w.setCells g o vs):=by
 have hz:∀w,(zeroValue 77).run Tryz.prog w=.ok (.agg #[.int .i64 0,.int .i64 0,.slice none 0 0,.slice none 0 0]) w:=λw=>Tryz.zeroValue77 w;have hl:(Builtin.zeroCells (Value.agg #[.int .i64 0,.int .i64 0,.slice none 0 0,.slice none 0 0]).cells n).toList.length=n*4:=by rw[Array.length_toList,size_zeroCells];rfl
 have h1:∀v∈(Builtin.zeroCells (Value.agg #[.int .i64 0,.int .i64 0,.slice none 0 0,.slice none 0 0]).cells n).toList,v.oneCell'=true:=by
  intro v hv;simp only[Builtin.zeroCells,Array.toList_map,List.mem_map,Array.toList_range]at hv;obtain⟨i,_,rfl⟩:=hv;have hm:i % 4=0\/i % 4=1\/i % 4=2\/i % 4=3:=by omega
  rw[show (Value.agg #[.int .i64 0,.int .i64 0,.slice none 0 0,.slice none 0 0]).cells=#[.int .i64 0,.int .i64 0,.slice none 0 0,.slice none 0 0] from rfl];rw[show (#[Value.int .i64 0,.int .i64 0,.slice none 0 0,.slice none 0 0]:Array Value).size=4 from rfl];rcases hm with h|h|h|h<;>rw[h]<;>rfl
 have hst:=run_storeCells_cells (P:=Tryz.prog) g o _ 0 w (by rw[hl];simpa using hc) (by rw[hl];simpa using hf) h1;simp only[Nat.add_zero]at hst;obtain⟨m,rfl⟩:∃m,n=m+1:=⟨n-1,by omega⟩;refine⟨(Builtin.zeroCells (Value.agg #[.int .i64 0,.int .i64 0,.slice none 0 0,.slice none 0 0]).cells (m+1)).toList,λty=>?_⟩;simp[Builtin.clear_,run_underlying Tryz.underlying30,hz,hst]
structure qp (p:Nat->Bool) (B g n cap:Nat) (w0:World) (zs0:Zl zk) (d:zk->Bool) (i j:Nat) (W:World) (zs:Zl zk):Prop where
 row:W.ownsRow B 77 4 (.slice (some ⟨g,0,none⟩) n cap) n (xj zs)
 len:zs.length=n
 lens:∀z∈zs,z.2.length=4
 kept:zs.take i=(zs0.take j).filter λz=>!d z.1
 rest:zs.drop j=zs0.drop j
 ij:i=((zs0.take j).filter λz=>!d z.1).length
 gr:w0.grownBy W (some g)
section
variable {p : Nat → Bool} {B g n cap : Nat} {w0 W W' : World} {zs0 zs : Zl zk} {d : zk → Bool} {i j : Nat}
theorem qp.below (h:qp p B g n cap w0 zs0 d i j W zs) (hb:Below W.heap.size W W'):qp p B g n cap w0 zs0 d i j W' zs :=
 ⟨ownsRow_below h.row hb,h.len,h.lens,h.kept,h.rest,h.ij,Yc h.gr hb⟩
theorem qp.at (h:qp p B g n cap w0 zs0 d i j W zs) (hl:zs0.length=n) (hj:j<n):∃hj0:j<zs0.length,∃hj1:j<zs.length,zs[j]'hj1=zs0[j]'hj0:=by
 have h1:j<zs0.length:=by omega
 have h2:j<zs.length:=by have:=h.len;omega
 refine⟨h1,h2,?_⟩;have e:=congrArg (λl=>l[0]?) h.rest;simp only[List.getElem?_drop,Nat.add_zero,List.getElem?_eq_getElem h1,List.getElem?_eq_getElem h2,Option.some.injEq]at e;exact e
theorem qp.skip (h:qp p B g n cap w0 zs0 d i j W zs) (hj:j<zs0.length) (hd:d (zs0[j]'hj).1=true):qp p B g n cap w0 zs0 d i (j+1) W zs:=by
 have e:(zs0.take (j+1)).filter (λz=>!d z.1)=(zs0.take j).filter λz=>!d z.1:=by rw[List.take_succ_eq_append_getElem hj,List.filter_append];simp[hd]
 refine⟨h.row,h.len,h.lens,by rw[e];exact h.kept,?_,by rw[e];exact h.ij,h.gr⟩;have:=congrArg (List.drop 1) h.rest;simpa only [List.drop_drop] using this
theorem qp.keepIt (h:qp p B g n cap w0 zs0 d i j W zs) (hl:zs0.length=n) (hj:j<zs0.length) (hij:i<j) (hd:d (zs0[j]'hj).1=false) (h4:(zs0[j]'hj).2.length=4):qp p B g n cap w0 zs0 d (i+1) (j+1) (W.setCells g (i*4) (zs0[j]'hj).2) (zs.set i (zs0[j]'hj)):=by
 have e:(zs0.take (j+1)).filter (λz=>!d z.1)=((zs0.take j).filter λz=>!d z.1)++[zs0[j]'hj]:=by rw[List.take_succ_eq_append_getElem hj,List.filter_append];simp[hd]
 have hlen:=h.len;have hi:i<zs.length:=by omega
 obtain⟨h1,h2⟩:=Zi (zs0[j]'hj).2 (i*4) W _ h.row;refine⟨?_,by rw[List.length_set];exact h.len,?_,?_,?_,by rw[e,List.length_append,←h.ij];rfl,Yd h.gr h2⟩
 ·have:=zc3 (E:=edE) h.lens hi (z:=zs0[j]'hj) h4;rw[←this];exact h1
 ·intro y hy;rcases List.mem_or_eq_of_mem_set hy with hy|rfl
  ·exact h.lens y hy
  ·exact h4
 ·rw[e,←h.kept,List.take_succ_eq_append_getElem (by rw[List.length_set];exact hi),List.getElem_set_self,List.take_set_of_le (Nat.le_refl _)]
 ·have:=congrArg (List.drop 1) h.rest;simp only[List.drop_drop]at this;rw[List.drop_set_of_lt (by omega)];exact this
end
theorem zb0 (xs:List Value) (o:Nat) (vs:List Value):(XU xs o vs).take o=xs.take o:=by
 refine List.ext_getElem? λj=>?_;rw[List.getElem?_take,List.getElem?_take];by_cases h:j<o
 ·rw[if_pos h,if_pos h,QC,if_neg (by omega)]
 ·rw[if_neg h,if_neg h]
theorem qp.fin {p:Nat->Bool} {B g n cap:Nat} {w0 W W':World} {zs0 zs:Zl zk} {d:zk->Bool} {i:Nat} {l:List zk} {xs':List Value} (h:qp p B g n cap w0 zs0 d i n W zs) (hln:zs0.length=n) (hz0:RZ edE (World.hide w0 (hid p (.slice (some ⟨g,0,none⟩) n cap))) zs0) (hzl:zs0.map Prod.fst=l)
 (hr:W'.ownsRow B 77 4 (.slice (some ⟨g,0,none⟩) n cap) n xs') (ht:xs'.take (i*4)=(xj zs).take (i*4)) (hg:W.grownBy W' (some g)):edE.Own 77 p W' B (.slice (some ⟨g,0,none⟩) i cap) (l.filter λx=>!d x):=by
 have hkp:=yE (p:=hid p (.slice (some ⟨g,0,none⟩) n cap)) (q:=hid p (.slice (some ⟨g,0,none⟩) i cap)) (Yd h.gr hg) (λk hk=>ze.2 (Or.inr hk)) λ_ _ h=>h;have ht0:zs0.take n=zs0:=List.take_of_length_le (by omega);have hk:=h.kept;have hi:=h.ij;rw[ht0]at hk hi;have hle:i<=n:=by rw[hi,←hln];exact List.length_filter_le _ _
 have hmap:(zs0.filter λz=>!d z.1).map Prod.fst=l.filter λx=>!d x:=by rw[←hzl,List.filter_map];rfl
 have hR:RZ edE (World.hide W' (hid p (.slice (some ⟨g,0,none⟩) i cap))) (zs0.filter λz=>!d z.1):=λz hz=>edE.keep hkp (hz0 z (List.mem_filter.1 hz).1);have hc:=zio hr hle;rw[ht,show i*4=i*edE.sz from rfl,zbx (E:=edE) h.lens (by have:=h.len;omega),hk]at hc;refine⟨xj (zs0.filter λz=>!d z.1),?_,?_⟩
 ·rw[←hmap,List.length_map,←hi];exact hc
 ·rw[←hmap];exact hR.vals
def Xb (p:Nat->Bool) (B:Nat) (v:Value) (l:List zk) (w:World) (e:Ending) (w':World):Prop:=∃v',e=.returned v'/\edE.Own 77 p w' B v' l/\w.grownBy w' v.ownBlock
theorem Xt (g:FuncId) (eg:∀args w,(callFunc g args).run Tryz.prog w=.ok (.enter g args) w) (lb:Array Value) (d:zk->Bool) (K:World->Prop) (hP:zfZ g lb d K) (hKb:∀W W',K W->Below W.heap.size W W'->K W') (p:Nat->Bool) (B:Nat) (v:Value) (hKs:∀W W',K W->W.grownBy W' v.ownBlock->K W') (l:List zk) (w:World)
 (hO:edE.Own 77 p w B v l) (hK:K w) (hl:l.length<=1073741824) :
 Calls Tryz.prog 215 #[v,.func (.func g) #[] lb] w (Xb p B v (l.filter λx=>!d x) w):=by
 obtain⟨a,cap,hv,hE⟩:=hO.slice hl;subst hv;have HI:=Lib.hid (zdm g eg lb d K hP hKb l a cap w hE hK);have HO:=Lib.hid hO;have HP:=Lib.hid hP;have HKb:=Lib.hid hKb;have HKs:=Lib.hid hKs;have HK:=Lib.hid hK;have HPo:Hid (∀v' w',edE.Own 77 p w' B v' (l.filter λx=>!d x)->w.grownBy w' (Value.slice a l.length cap).ownBlock->Xb p B (.slice a l.length cap) (l.filter λx=>!d x) w (.returned v') w'):=λv' w' h1 h2=>⟨v',rfl,h1,h2⟩;clear hP hKb hKs hK hE hO;generalize Xb p B (.slice a l.length cap) (l.filter λx=>!d x) w=Po at HPo⊢;rcases hf:l.findIdx? d with _|k0
 ·have hno:∀x∈l,d x=false:=List.findIdx?_eq_none_iff.1 hf;have e1:zd6 d l=-1:=by unfold zd6;rw[hf]
  have HFl:Hid (l.filter (λx=>!d x)=l):=List.filter_eq_self.2 λx hx=>by rw[hno x hx];rfl
  rw[e1]at HI;clear hf hno e1;go_enter Tryz.func215, Tryz.ntmps215;go_wp2_with (go_at_call 262;go_must (refine HI.out.mono ?_;rintro e w5 ⟨rfl,hb5⟩));have HD:Hid (edE.Own 77 p w5 B (.slice a l.length cap) (l.filter λx=>!d x)):=by show edE.Own _ _ _ _ _ _;rw[HFl.out];exact HO.out.below hb5
  have HG:Hid (w.grownBy w5 (Value.slice a l.length cap).ownBlock):=Yc (Q0 _ _) hb5;first|exact HPo.out _ _ HD.out HG.out|(go_ret;exact HPo.out _ _ HD.out HG.out)
 ·obtain⟨hk0,hd0,hb0⟩:=List.findIdx?_eq_some_iff_getElem.1 hf;have e1:zd6 d l=(k0:Int):=by unfold zd6;rw[hf]
  obtain⟨xs,hx,hv⟩:=HO.out;obtain⟨bk,hga⟩:∃bk,a=some ⟨bk,0,none⟩:=by
   rcases hx.2 with ⟨h1,h2⟩|⟨b9,cap',cur,h1,_⟩
   ·omega
   ·simp only[Value.slice.injEq]at h1;exact⟨b9,h1.1⟩
  subst hga;obtain⟨zs0,hz0,hzl,rfl⟩:=hv.zs;have hln:zs0.length=l.length:=by rw[←hzl,List.length_map]
  have HZ0:=Lib.hid hz0;have HZl:=Lib.hid hzl;have hget:∀j (h0:j<zs0.length) (h1:j<l.length),(zs0[j]'h0).1=l[j]'h1:=λj h0 h1=>by simp only[←hzl,List.getElem_map]
  have hfil:(zs0.take (k0+1)).filter (λz=>!d z.1)=zs0.take k0:=by
   rw[List.take_succ_eq_append_getElem (by omega),List.filter_append,List.filter_eq_self.2 (λz hz=>?_),List.filter_eq_nil_iff.2 (λz hz=>?_),List.append_nil]
   ·obtain rfl:=List.mem_singleton.1 hz;rw[hget k0 (by omega) hk0,hd0];simp
   ·obtain⟨j,hj,rfl⟩:=List.getElem_of_mem hz;rw[List.getElem_take,hget j (by simp at hj;omega) (by simp at hj;omega)];have:=hb0 j (by simp at hj;omega);simpa using this
  have HS0:Hid (qp p B bk l.length cap w zs0 d k0 (k0+1) w zs0) :=
   ⟨hx,hln,λz hz=>edE.len (hz0 z hz),hfil.symm,rfl,by rw[hfil,List.length_take];omega,Q0 _ _⟩
  have HDg:Hid (∀j (h0:j<zs0.length),j<l.length):=λj h=>by omega
  rw[e1]at HI;have hgb:=(hx.lt bk rfl).2;have hk0p:(k0:Int)+1<=(l.length:Int):=by omega
  have hne1:((k0:Int)==-1)=false:=beq_eq_false_iff_ne.2 (by omega);have HFin:Hid (∀i W zs W' xs',qp p B bk l.length cap w zs0 d i l.length W zs->W'.ownsRow B 77 4 (.slice (some ⟨bk,0,none⟩) l.length cap) l.length xs'->xs'.take (i*4)=(xj zs).take (i*4)->W.grownBy W' (some bk)->edE.Own 77 p W' B (.slice (some ⟨bk,0,none⟩) i cap) (l.filter λx=>!d x)):=λi W zs W' xs' h h1 h2 h3=>h.fin hln hz0 hzl h1 h2 h3;have hlt0:k0<l.length:=hk0;clear hf hd0 hb0 hx hv hz0 hzl hfil e1 hget hk0;have HCall:Hid (∀W zs i j (hj:j<zs0.length),qp p B bk l.length cap w zs0 d i j W zs->∃(y0 y1:Int) (a2:Option Addr) (n2 k2:Nat) (a3:Option Addr) (n3 k3:Nat),(zs0[j]'hj).2=[.int .i64 y0,.int .i64 y1,.slice a2 n2 k2,.slice a3 n3 k3]/\(W.cell? ⟨bk,j*4,none⟩=some (.int .i64 y0)/\W.cell? ⟨bk,j*4+1,none⟩=some (.int .i64 y1)/\W.cell? ⟨bk,j*4+2,none⟩=some (.slice a2 n2 k2)/\W.cell? ⟨bk,j*4+3,none⟩=some (.slice a3 n3 k3))/\∀W',Below W.heap.size W W'->Calls Tryz.prog g (#[.agg #[.int .i64 y0,.int .i64 y1,.slice a2 n2 k2,.slice a3 n3 k3]]++lb) W' λe w'=>e=.returned (.bool (d (zs0[j]'hj).1))/\Below W'.heap.size W' w'):=λW zs i j hj h=>by
   have hjn:j<l.length:=by omega
   obtain⟨_,hj1,he⟩:=h.at hln hjn;have hR:=HZ0.out _ (List.getElem_mem hj);obtain⟨a2,k2,a3,k3,hy,_⟩:=id hR;have hcell:∀t (ht:t<4),W.cell? ⟨bk,j*4+t,none⟩=(zs0[j]'hj).2[t]?:=λt ht=>by rw[h.row.cellAt (j*4+t) (by omega),←he];exact Zq (E:=edE) h.lens hj1 ht
   have h0:=hcell 0 (by omega);have h1:=hcell 1 (by omega);have h2:=hcell 2 (by omega);have h3:=hcell 3 (by omega);rw[hy]at h0 h1 h2 h3;refine⟨_,_,a2,_,k2,a3,_,k3,hy,⟨h0,h1,h2,h3⟩,λW' hW'=>?_⟩;have hkp:=yE (p:=hid p (.slice (some ⟨bk,0,none⟩) l.length cap)) (q:=hid p (.slice (some ⟨bk,0,none⟩) l.length cap)) h.gr (λk hk=>ze.2 (Or.inr hk)) λ_ _ h=>h;have:=HP.out W' (zs0[j]'hj).1 _ (HKb.out _ _ (HKs.out _ _ HK.out h.gr) hW') (by have:=edE.keep (λa v ha=>za hW' _ _ (zc _ _ (hkp a v ha))) hR;rw[hy]at this;exact this);exact this
  go_enter Tryz.func215, Tryz.ntmps215;go_wp2_with (go_at_call 262;go_must (refine HI.out.mono ?_;rintro e w5 ⟨rfl,hb5⟩));have HS5:=Lib.hid (HS0.out.below hb5);have hz5:=hb5.size;clear hb5 HS0 HI;go_loopg [5,6,7] l.length (λgg s5 s6 _ wr=>∃(i j:Nat) (zs:Zl zk),s5=.int .i64 i/\s6=.int .i64 j/\j<=l.length/\i<j/\l.length-j<=gg/\Hid (qp p B bk l.length cap w zs0 d i j wr zs));case atStart=>exact⟨k0,k0+1,zs0,rfl,by go_num,by omega,by omega,by omega,HS5⟩
  case round =>
   clear HS5;obtain⟨i,j,zs,rfl,rfl,hjl,hij,hgg,HS⟩:=hrel;by_cases hlt:j<l.length
   ·have hj0:j<zs0.length:=by omega
    obtain⟨y0,y1,a2,n2,k2,a3,n3,k3,hy,⟨c0,c1,c2,c3⟩,hcall⟩:=HCall.out wr zs i j hj0 HS.out;have HSk:Hid (d (zs0[j]'hj0).1=true->qp p B bk l.length cap w zs0 d i (j+1) wr zs):=λh=>HS.out.skip hj0 h;have HKp:Hid (∀W,Below wr.heap.size wr W->d (zs0[j]'hj0).1=false->qp p B bk l.length cap w zs0 d (i+1) (j+1) (W.setCells bk (i*4) [.int .i64 y0,.int .i64 y1,.slice a2 n2 k2,.slice a3 n3 k3]) (zs.set i (zs0[j]'hj0))):=λW hW h=>by rw[←hy];exact(HS.out.below hW).keepIt hln hj0 hij h (by rw[hy];rfl)
    have HFz:Hid (∀W,Below wr.heap.size wr W->∀t,W.frozen? ⟨bk,t,none⟩=false):=λW hW t=>(HS.out.below hW).row.frozenAt t;have HCi:Hid (∀W,Below wr.heap.size wr W->∀t,t<4->∃u,W.cell? ⟨bk,i*4+t,none⟩=some u):=λW hW t ht=>by
     have h:=HS.out.below hW;have hi:i*4+t<l.length*4:=by omega
     rw[h.row.cellAt _ hi];have:=h.row.1;exact⟨_,List.getElem?_eq_getElem (by omega)⟩
    have HC:=Lib.hid hcall;have hgr:bk<wr.heap.size:=xV c0;clear hcall hy;generalize zs0[j]'hj0=y at HSk HKp HC;cases hd:d y.1 with
    |true =>
     have HSk2:=Lib.hid (HSk.out hd);rw[hd]at HC;clear HSk HKp HFz HCi hd;go_wp2_with (go_at_fn g;go_must (refine(HC.out _ bel).mono ?_;rintro e w7 ⟨rfl,hb7⟩));have HB7:Hid (Below wr.heap.size wr w7):=((Below.refl wr.heap.size wr).alloc (Nat.le_refl _) _).trans (hb7.mono (by simp));go_roundg (l.length-(j+1));case measure=>omega
     case rel=>exact⟨i,j+1,zs,rfl,by go_num,by omega,by omega,Nat.le_refl _,HSk2.out.below HB7.out⟩
    |false =>
     rw[hd]at HC;have HKp2:Hid (∀W,Below wr.heap.size wr W->qp p B bk l.length cap w zs0 d (i+1) (j+1) (W.setCells bk (i*4) [.int .i64 y0,.int .i64 y1,.slice a2 n2 k2,.slice a3 n3 k3]) (zs.set i y)):=λW hW=>HKp.out W hW hd;clear HSk HKp hd;go_wp2_with (go_at_fn g;go_must (refine(HC.out _ bel).mono ?_;rintro e w7 ⟨rfl,hb7⟩);have HB7:Hid (Below wr.heap.size wr w7):=((Below.refl wr.heap.size wr).alloc (Nat.le_refl _) _).trans (hb7.mono (by simp));have k7:=za hb7;have e0:=k7 ⟨wr.heap.size,0,none⟩ (.int .i64 y0) (by simp);have e1:=k7 ⟨wr.heap.size,1,none⟩ (.int .i64 y1) (by simp);have e2:=k7 ⟨wr.heap.size,2,none⟩ (.slice a2 n2 k2) (by simp);have e3:=k7 ⟨wr.heap.size,3,none⟩ (.slice a3 n3 k3) (by simp);obtain⟨u0,q0⟩:=HCi.out w7 HB7.out 0 (by omega);obtain⟨u1,q1⟩:=HCi.out w7 HB7.out 1 (by omega);obtain⟨u2,q2⟩:=HCi.out w7 HB7.out 2 (by omega);obtain⟨u3,q3⟩:=HCi.out w7 HB7.out 3 (by omega);rw[Nat.add_zero]at q0;have f0:=HFz.out w7 HB7.out (i*4);have f1:=HFz.out w7 HB7.out (i*4+1);have f2:=HFz.out w7 HB7.out (i*4+2);have f3:=HFz.out w7 HB7.out (i*4+3);have hil:(i:Int)<(l.length:Int):=(by omega);clear k7);go_roundg (l.length-(j+1));case measure=>omega
     case rel=>exact⟨i+1,j+1,zs.set i y,by go_num,by go_num,by omega,by omega,Nat.le_refl _,HKp2.out w7 HB7.out⟩
   ·obtain rfl:j=l.length:=by omega
    have hil:i<=l.length:=by omega
    have hrow:=HS.out.row;have hfz:=λt=>hrow.frozenAt t;have hsome:∀t,t<l.length*4->(wr.cell? ⟨bk,t,none⟩).isSome=true:=λt ht=>by rw[hrow.cellAt t ht,List.getElem?_eq_getElem (by rw[hrow.1];exact ht)];rfl
    obtain⟨vs,hcl⟩:=ziY (w:=wr) (g:=bk) (o:=i*4) (n:=l.length-i) (c:=cap-i) (by omega) (λj hj=>hsome _ (by omega)) (λj hj=>hfz _);have HRes:Hid (edE.Own 77 p (wr.setCells bk (i*4) vs) B (.slice (some ⟨bk,0,none⟩) i cap) (l.filter λx=>!d x)):=by have h9:=Zi vs (i*4) wr _ hrow;exact HFin.out i wr zs _ _ HS.out h9.1 (zb0 _ _ _) h9.2
    have HG:Hid (w.grownBy (wr.setCells bk (i*4) vs) (Value.slice (some ⟨bk,0,none⟩) l.length cap).ownBlock):=Yd HS.out.gr (Zi vs (i*4) wr _ hrow).2;have hilz:(i:Int)<=(l.length:Int):=by omega
    have hcap:l.length<=cap:=by
     rcases hrow.2 with ⟨h,_⟩|⟨g9,cap',cur,h,_,_,hc,_⟩
     ·simp at h
     ·simp only[Value.slice.injEq]at h;omega
    clear hrow hfz hsome HCall HFin;go_wp2_with fail;first|exact HPo.out _ _ HRes.out HG.out|(go_ret;exact HPo.out _ _ HRes.out HG.out)
theorem zz (n:zt) (x:qn):ye n x=.agg #[.int .i64 n.states,.slice x.ae n.edges.length x.ce,.slice x.aa n.accept.length x.ca]:=rfl
def qq (n:zt):Prop:=∀e∈n.edges,ZJ e
theorem qA (n:zt) (x:qn) (w:World) (hG:qW w) (hE:yb w n x) (hs:qq n) :
 Calls Tryz.prog 14 #[ye n x] w λe' w'=>e'=.returned (.bool (zC n))/\Below w.heap.size w w':=by
 have HG:=Lib.hid hG;have H1:=Lib.hid hE.es;have H2:=Lib.hid hE.ac;have HS:=Lib.hid hs;have hl1:=hE.es.len;have hl2:=hE.ac.2.1;have HA1:=Lib.hid hE.es.addr;have HA2:Hid (n.accept.length=0\/∃b off,x.aa=some ⟨b,off,none⟩):=zw.addr hE.ac;have HR0:Hid (¬(1<=n.states/\n.states<=256/\n.edges.length<=4096)->zC n=false):=λh=>by unfold zC;rw[decide_eq_false h];rfl
 have HR1:Hid ((1<=n.states/\n.states<=256/\n.edges.length<=4096)->zC n=(n.edges.all (edgeOk n.states)&&X5 n.states n.accept n.accept.length)):=λh=>by unfold zC;rw[decide_eq_true h,Bool.true_and]
 clear hE hG hs;rw[zz];generalize zC n=R at HR0 HR1⊢;obtain⟨st,es,ac⟩:=n;obtain⟨ae,ce,aa,ca⟩:=x;simp only at H1 H2 hl1 hl2 HA1 HA2 HR0 HR1⊢;have HSt:Hid (∀e∈es,ZJ e):=HS.out;clear HS;have HB0:Hid (Below w.heap.size w (w.alloc (.cells #[.int .i64 st,.slice ae es.length ce,.slice aa ac.length ca] 33))):=by show Below _ _ _;exact bel
 by_cases hA:st<1
 ·have hR:=HR0.out (by omega);subst hR;go_enter Tryz.func14, Tryz.ntmps14;go_wp2_with fail;go_ret;exact⟨rfl,HB0.out⟩
 by_cases hB:256<st
 ·have hR:=HR0.out (by omega);subst hR;go_enter Tryz.func14, Tryz.ntmps14;go_wp2_with fail;go_ret;exact⟨rfl,HB0.out⟩
 by_cases hC:4096<es.length
 ·have hR:=HR0.out (by omega);subst hR;have hC2:(4096:Int)<(es.length:Int):=by omega
  go_enter Tryz.func14, Tryz.ntmps14;go_wp2_with fail;go_ret;exact⟨rfl,HB0.out⟩
 have HRt:=Lib.hid (HR1.out ⟨by omega,by omega,by omega⟩);have hC2:¬(4096:Int)<(es.length:Int):=by omega
 clear HR0 HR1;go_enter Tryz.func14, Tryz.ntmps14;go_wp2_with fail;generalize hW1:w.alloc (.cells #[.int .i64 st,.slice ae es.length ce,.slice aa ac.length ca] 33)=W1 at HB0⊢;have HX0:Hid (W1.cell? ⟨w.heap.size,0,none⟩=some (.int .i64 st)):=by show _=_;rw[←hW1];simp
 have HX2:Hid (W1.cell? ⟨w.heap.size,2,none⟩=some (.slice aa ac.length ca)):=by show _=_;rw[←hW1];simp
 have hz1:W1.heap.size=w.heap.size+1:=by rw[←hW1];simp
 have hz1a:w.heap.size<W1.heap.size:=by omega
 clear hW1 hz1 hC hC2;go_loopw [24,4] (λi _ wr=>∃k:Nat,i=.int .i64 k/\k<=es.length/\Hid (∀j (hj:j<es.length),j<k->edgeOk st (es[j]'hj)=true)/\Hid (Below W1.heap.size W1 wr)) (λi _ _=>es.length-(intOf i).toNat);case atStart=>exact⟨0,rfl,Nat.zero_le _,λ_ _ h=>absurd h (by omega),Below.refl _ _⟩
 case round =>
  obtain⟨k,rfl,hk,HAl,HBr⟩:=hrel;have HBw:Hid (Below w.heap.size w wr):=HB0.out.trans (HBr.out.mono (by omega));have hzr:=HBr.out.size;by_cases hlt:k<es.length
  ·obtain⟨b,off,ha⟩:=HA1.out.resolve_left (by omega);subst ha;obtain⟨ag,cg,aS,cs,g0,g1,g2,g3,h1,h2⟩:=yz H1.out rfl hlt;have hn:=HSt.out _ (List.getElem_mem hlt);have HNx:Hid (edgeOk st (es[k]'hlt)=true->∀j (hj:j<es.length),j<k+1->edgeOk st (es[j]'hj)=true):=λhv j hj hjk=>by
    by_cases e:j=k
    ·subst e;exact hv
    ·exact HAl.out j hj (by omega)
   have HNo:Hid (edgeOk st (es[k]'hlt)=false->R=false):=λh=>by rw[HRt.out,Qc hlt h];rfl
   have HV:=Lib.hid (λW (hW:Below wr.heap.size wr W)=>ze7 (es[k]'hlt) ag cg aS cs st W (HG.out.below (HBw.out.trans (hW.mono HBw.out.size))) (h1.keep (za (HBw.out.trans (hW.mono HBw.out.size)))) (h2.keep (za (HBw.out.trans (hW.mono HBw.out.size)))) hn);have kk:=za HBw.out;have c0:=kk _ _ g0;have c1:=kk _ _ g1;have c2:=kk _ _ g2;have c3:=kk _ _ g3;have x0:∀o,(wr.alloc o).cell? ⟨w.heap.size,0,none⟩=some (.int .i64 st):=λo=>Lib.cell?_alloc_some _ ((HBr.out.cell (p:=⟨w.heap.size,0,none⟩) hz1a).trans HX0.out);clear g0 g1 g2 g3 kk hn h1 h2;unfold yX at HV;generalize (es[k]'hlt)=y at c0 c1 c2 c3 HNx HNo HV;cases hv:edgeOk st y with
   |true =>
    have HOk2:=Lib.hid (HNx.out hv);rw[hv]at HV;clear HNx HNo hv;go_wp2_with (go_at_call 41;go_must (refine(HV.out _ bel).mono ?_;rintro e w5 ⟨rfl,hb5⟩));have HB5:Hid (Below wr.heap.size wr w5):=((Below.refl wr.heap.size wr).alloc (Nat.le_refl _) _).trans (hb5.mono (by simp));go_roundw;case rel=>exact⟨k+1,by go_num,by omega,HOk2.out,HBr.out.trans (HB5.out.mono hzr)⟩
    case measure=>(simp[intOf];try omega)
   |false =>have hR:=HNo.out hv;subst hR;rw[hv]at HV;clear HNx HNo hv;go_wp2_with (go_at_call 41;go_must (refine(HV.out _ bel).mono ?_;rintro e w5 ⟨rfl,hb5⟩));have HB5:Hid (Below wr.heap.size wr w5):=((Below.refl wr.heap.size wr).alloc (Nat.le_refl _) _).trans (hb5.mono (by simp));go_ret;exact⟨rfl,HBw.out.trans (HB5.out.mono HBw.out.size)⟩
  ·obtain rfl:k=es.length:=by omega
   have HR2:Hid (R=X5 st ac ac.length):=by show R=_;rw[HRt.out,Yv λj hj=>HAl.out j hj hj,Bool.true_and]
   have x0:=(HBr.out.cell (p:=⟨w.heap.size,0,none⟩) hz1a).trans HX0.out;have x2:=(HBr.out.cell (p:=⟨w.heap.size,2,none⟩) hz1a).trans HX2.out;clear HAl HRt HX0 HX2 HA1 H1;go_wp2_with fail;go_loop [37,5,6] (λi _ _=>∃k:Nat,i=.int .i64 k/\k<=ac.length/\Hid (X5 st ac k=true)) (λi _ _=>ac.length-(intOf i).toNat);case atStart=>exact⟨0,rfl,Nat.zero_le _,rfl⟩
   case round =>
    obtain⟨m,rfl,hm,HAm⟩:=hrel;by_cases hlt2:m<ac.length
    ·obtain⟨b,off,ha⟩:=HA2.out.resolve_left (by omega);subst ha;have g0:=(za HBw.out) _ _ (H2.out.get rfl hlt2);have HNo:Hid (decide (0<=ac.getD m 0/\ac.getD m 0<st/\(0<m->ac.getD (m-1) 0<ac.getD m 0))=false->R=false):=λh=>by rw[HR2.out];exact zeh hlt2 h
     have HNx:Hid ((0<=ac.getD m 0/\ac.getD m 0<st/\(0<m->ac.getD (m-1) 0<ac.getD m 0))->X5 st ac (m+1)=true):=λh=>by rw[Xd,HAm.out,decide_eq_true h];rfl
     cases m with
     |zero =>
      rw[Nat.add_zero]at g0;generalize ac.getD 0 0=y at g0 HNo HNx;by_cases h1:y<0
      ·have hR:=HNo.out (decide_eq_false (by omega));subst hR;clear HNo HNx;go_wp2_with fail;go_ret;exact⟨rfl,HBw.out⟩
      by_cases h2:st<=y
      ·have hR:=HNo.out (decide_eq_false (by omega));subst hR;clear HNo HNx;go_wp2_with fail;go_ret;exact⟨rfl,HBw.out⟩
      have HA2':=Lib.hid (HNx.out ⟨by omega,by omega,λh=>absurd h (Nat.lt_irrefl 0)⟩);clear HNo HNx;go_wp2_with fail;go_round;case rel=>exact⟨1,by go_num,by omega,HA2'.out⟩
      case measure=>(simp[intOf];try omega)
     |succ m =>
      have g1:=(za HBw.out) _ _ (H2.out.get rfl (show m<ac.length by omega));rw[Nat.add_sub_cancel]at HNo HNx;generalize ac.getD (m+1) 0=y at g0 HNo HNx;generalize ac.getD m 0=z at g1 HNo HNx;by_cases h1:y<0
      ·have hR:=HNo.out (decide_eq_false (by omega));subst hR;clear HNo HNx;go_wp2_with fail;go_ret;exact⟨rfl,HBw.out⟩
      by_cases h2:st<=y
      ·have hR:=HNo.out (decide_eq_false (by omega));subst hR;clear HNo HNx;go_wp2_with fail;go_ret;exact⟨rfl,HBw.out⟩
      by_cases h3:y<=z
      ·have hR:=HNo.out (decide_eq_false (by omega));subst hR;clear HNo HNx;go_wp2_with fail;go_ret;exact⟨rfl,HBw.out⟩
      have HA2':=Lib.hid (HNx.out ⟨by omega,by omega,λ_=>by omega⟩);clear HNo HNx;go_wp2_with fail;go_round;case rel=>exact⟨m+1+1,by go_num,by omega,HA2'.out⟩
      case measure=>(simp[intOf];try omega)
    ·obtain rfl:m=ac.length:=by omega
     have hR:R=true:=by rw[HR2.out,HAm.out]
     subst hR;go_wp2_with fail;go_ret;exact⟨rfl,HBw.out⟩
end Go.Proofs.YtnfkbliokjjggaaGreatDoor
