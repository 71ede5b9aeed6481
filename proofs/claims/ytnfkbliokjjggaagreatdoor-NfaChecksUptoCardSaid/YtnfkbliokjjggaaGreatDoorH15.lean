/- The automata of sequences, plainly: no edge leads to the first state, it does not accept; how long the guards' lists are. -/
import Derived.Test.YtnfkbliokjjggaaGreatDoorH14
import Derived.Test.YtnfkbliokjjggaaGreatDoorH10
import Derived.Laws.ResultCell
set_option maxHeartbeats 8000000
set_option maxRecDepth 100000
set_option linter.unusedSimpArgs false
set_option linter.unusedVariables false
set_option linter.unnecessarySimpa false
namespace Go.Proofs.YtnfkbliokjjggaaGreatDoor
open Go.RowKit
def PE (K:Nat) (e:zk):Prop:=1<=e.to/\e.guards.length<=K/\e.sets.length<=K
theorem PE.mono {K K':Nat} {e:zk} (h:PE K e) (hk:K<=K'):PE K' e:=⟨h.1,by have:=h.2.1;omega,by have:=h.2.2;omega⟩
structure qO (K:Nat) (n:zt):Prop where
 ok:zC n=true
 es:∀e∈n.edges,PE K e
 ac:∀a∈n.accept,1<=a
theorem qO.st {K:Nat} {n:zt} (h:qO K n):1<=n.states/\n.states<=256:=by have:=(zA.1 h.ok).1;omega
theorem qO.mono {K K':Nat} {n:zt} (h:qO K n) (hk:K<=K'):qO K' n:=⟨h.ok,λe he=>(h.es e he).mono hk,h.ac⟩
theorem xB {n m:zt} (h:doneN n=some m):n=m/\zC m=true:=by
 unfold doneN at h;split at h
 ·rename_i h2;obtain rfl:=Option.some.inj h;exact⟨rfl,h2⟩
 ·simp at h
theorem zcB {K:Nat} {n:zt} (h:∀e∈n.edges,PE K e):∀e∈zS n,PE K e:=λe he=>h e (List.mem_filter.1 he).1
theorem XO {K:Nat} {l:List Int} {n:zt} {base:Int} (hb:0<=base) (h:∀e∈n.edges,PE K e):∀e∈zO l n base,PE K e:=by intro e he;obtain⟨s,_,he⟩:=List.mem_flatMap.1 he;obtain⟨f,hf,rfl⟩:=List.mem_map.1 he;have:=zcB h f hf;refine⟨?_,this.2⟩;have:=this.1;simp only[mvE];omega
theorem zfp {K:Nat} {n:zt} {base:Int} (hb:0<=base) (h:∀e∈n.edges,PE K e):∀e∈zfx n base,PE K e:=by intro e he;obtain⟨f,hf,rfl⟩:=List.mem_map.1 he;have:=h f (List.mem_filter.1 hf).1;refine⟨?_,this.2⟩;have:=this.1;simp only[mvE];omega
theorem zeH {lo hi:Int} {Kx Ky:Nat} {x y:zt} (hx:qO Kx x) (hy:qO Ky y) (hok:zC (y5 lo hi x y)=true):qO (Kx+Ky) (y5 lo hi x y):=by
 have hs:=hx.st;have hb:0<=x.states+(y8 hi:Int)-1:=by omega
 have ex:∀e∈x.edges,PE (Kx+Ky) e:=λe he=>(hx.es e he).mono (by omega);have ey:∀e∈y.edges,PE (Kx+Ky) e:=λe he=>(hy.es e he).mono (by omega);refine⟨hok,?_,?_⟩
 ·intro e he;simp only[y5,List.mem_append]at he;rcases he with ((((he|he)|he)|he)|he)|he
  ·exact ex e he
  ·split at he
   ·rcases List.mem_append.1 he with he|he
    ·obtain⟨a,_,rfl⟩:=List.mem_map.1 he;exact⟨by simp only;omega,Nat.zero_le _,Nat.zero_le _⟩
    ·obtain⟨a,_,rfl⟩:=List.mem_map.1 he;exact⟨by simp only;omega,Nat.zero_le _,Nat.zero_le _⟩
   ·simp at he
  ·split at he
   ·obtain⟨e1,h1,he⟩:=List.mem_flatMap.1 he;split at he
    ·obtain⟨f,hf,rfl⟩:=List.mem_map.1 he;have a:=hx.es e1 h1;have b:=zcB hy.es f hf;refine⟨?_,?_,?_⟩
     ·have:=b.1;simp only[zQ];omega
     ·have:=a.2.1;have:=b.2.1;simp only[zQ,List.length_append,List.length_map];omega
     ·have:=a.2.2;have:=b.2.2;simp only[zQ,List.length_append];omega
    ·simp at he
   ·simp at he
  ·split at he
   ·exact XO hb ey e he
   ·simp at he
  ·obtain⟨i,_,he⟩:=List.mem_flatMap.1 he;split at he
   ·exact XO hb ey e he
   ·simp at he
  ·exact zfp hb ey e he
 ·intro a ha;obtain⟨b,hb2,rfl⟩:=List.mem_map.1 ha;have:=hy.ac b hb2;omega
theorem ze5 {c:Nat} {st:Int} (h:1<=st):0<=(c:Int)*(st-1):=Int.mul_nonneg (by omega) (by omega)
theorem zix {lo hi:Int} {K:Nat} {n:zt} (hn:qO K n) (hok:zC (zjI lo hi n)=true):qO K (zjI lo hi n):=by
 have hs:=hn.st;refine⟨hok,?_,?_⟩
 ·have:∀c,∀e∈zjH n c,PE K e:=by
   intro c
   induction c with
   |zero=>intro e he;cases he
   |succ c ih =>
    cases c with
    |zero=>exact hn.es
    |succ c =>
     intro e he;rw[zjH]at he
     ·rcases List.mem_append.1 he with he|he
      ·rcases List.mem_append.1 he with he|he
       ·exact ih e he
       ·exact XO (ze5 hs.1) hn.es e he
      ·exact zfp (ze5 hs.1) hn.es e he
     ·simp
  exact this _
 ·intro a ha;simp only[zjI,repA]at ha;obtain⟨i,_,ha⟩:=List.mem_flatMap.1 ha;split at ha
  ·obtain⟨b,hb,rfl⟩:=List.mem_map.1 ha;have:=hn.ac b hb;have:=ze5 (c:=i) hs.1;omega
  ·simp at ha
theorem za5 {base s:Int} (hb:0<=base) (hs:1<=s):1<=za4 base s:=by unfold za4;split<;>omega
theorem zjm {K:Nat}:∀(ps:List zt) (out:zt),(∀n∈ps,qO K n)->1<=out.states->(∀e∈out.edges,PE K e)->(∀a∈out.accept,1<=a)->(∀e∈(ps.foldl zdy out).edges,PE K e)/\∀a∈(ps.foldl zdy out).accept,1<=a:=by
 intro ps
 induction ps with
 |nil=>intro out _ _ h1 h2;exact⟨h1,h2⟩
 |cons n ps ih =>
  intro out hp hst h1 h2;have hn:=hp n (List.mem_cons_self ..);rw[List.foldl_cons];refine ih _ (λm hm=>hp m (List.mem_cons_of_mem _ hm)) ?_ ?_ ?_
  ·have:=hn.st;simp only[zdy];omega
  ·intro e he;simp only[zdy,List.mem_append]at he;rcases he with he|he
   ·exact h1 e he
   ·obtain⟨f,hf,rfl⟩:=List.mem_map.1 he;have:=hn.es f hf;exact⟨za5 (by omega) this.1,this.2⟩
  ·intro a ha;simp only[zdy,List.mem_append]at ha;rcases ha with ha|ha
   ·exact h2 a ha
   ·obtain⟨b,hb,rfl⟩:=List.mem_map.1 ha;exact za5 (by omega) (hn.ac b hb)
theorem ziB {K:Nat} {n:zt} {nm:ByteArray} {x:Ex} (hn:qO K n) (hok:zC (setN nm x n)=true):qO (K+1) (setN nm x n):=by
 have hs:=hn.st;refine⟨hok,?_,?_⟩
 ·intro e he;simp only[setN,List.mem_append]at he;rcases he with he|he
  ·exact(hn.es e he).mono (by omega)
  ·obtain⟨f,hf,he⟩:=List.mem_filterMap.1 he;split at he
   ·obtain rfl:=Option.some.inj he;have:=hn.es f hf;refine⟨?_,?_,?_⟩
    ·simp only;omega
    ·have:=this.2.1;simp only;omega
    ·have:=this.2.2;simp only[List.length_append,List.length_singleton];omega
   ·simp at he
 ·intro a ha;obtain⟨i,_,rfl⟩:=List.mem_map.1 ha;omega
theorem zgr {K:Nat} {n:zt} {x:Ex} (hn:qO K n) (hok:zC (zh9 x n)=true):qO (K+1) (zh9 x n):=by
 refine⟨hok,?_,hn.ac⟩;intro e he;obtain⟨f,hf,rfl⟩:=List.mem_map.1 he;have:=hn.es f hf;refine⟨this.1,?_,?_⟩
 ·have:=this.2.1;simp only[List.length_append,List.length_singleton];omega
 ·have:=this.2.2;simp only;omega
structure JInv (K:Nat) (j:xu):Prop where
 hd:j.pairs.head? = some (0,0)
 es:∀e∈j.edges,PE K e
theorem ziJ {K i:Nat} {g:List Ex} {j:xu} {p:Int×Int} (hj:JInv K j) (hg:g.length<=K) (hp:p≠(0,0)):JInv K (toJ i g j p):=by
 obtain⟨h1,h2⟩:=hj;cases hc:j.pairs with
 |nil=>rw[hc]at h1;simp at h1
 |cons q r =>
  rw[hc]at h1;have hq:q=(0,0):=by simpa using h1
  refine⟨?_,?_⟩
  ·simp only[toJ,hc];split<;>simp[hq]
  ·intro e he;simp only[toJ,List.mem_append,List.mem_singleton]at he;rcases he with he|rfl
   ·exact h2 e he
   ·refine⟨?_,hg,Nat.zero_le _⟩;simp only[hc];rw[List.idxOf_cons,show (q==p)=false from by rw[hq];exact beq_eq_false_iff_ne.2 (Ne.symm hp)];simp only[cond_false];omega
theorem Yb {α:Type} {P:xu->Prop} {f:xu->α->xu}:∀(l:List α) (j:xu),P j->(∀j x,x∈l->P j->P (f j x))->P (l.foldl f j):=by
 intro l
 induction l with
 |nil=>intro j h _;exact h
 |cons x l ih=>intro j h hf;exact ih _ (hf j x (List.mem_cons_self ..) h) λj y hy=>hf j y (List.mem_cons_of_mem _ hy)
theorem zai {K i:Nat} {g:List Ex} {s t:Int} {l r:Bool} {j:xu} (hj:JInv K j) (hg:g.length<=K) (hs:s≠0) (ht:t≠0):JInv K (zjv i g s t l r j):=by
 unfold zjv;refine Yb _ _ hj λj p hp hj=>ziJ hj hg ?_;intro e;subst e;unfold ziV at hp;simp only[List.mem_cons,List.mem_append,Prod.mk.injEq]at hp;rcases hp with h|(h|h)|h
 ·exact hs h.1.symm
 ·split at h<;>simp at h
 ·split at h<;>simp at h
 ·split at h<;>simp at h
theorem zej {Kx Ky:Nat} {x y:zt} (hx:qO Kx x) (hy:qO Ky y):∀i,JInv (Kx+Ky) (QR x y i):=by
 intro i
 induction i with
 |zero=>rw[zcZ];exact⟨rfl,λe he=>by cases he⟩
 |succ i ih =>
  rw[zcY];unfold ziu;split
  ·exact ih
  ·split
   ·exact ih
   ·split
    ·refine Yb _ _ ih λj f hf hj=>?_;have:=hy.es f (List.mem_filter.1 hf).1;exact zai hj (by have:=this.2.1;omega) (by decide) (by have:=this.1;omega)
    ·split
     ·refine Yb _ _ ih λj f hf hj=>?_;have:=hx.es f (List.mem_filter.1 hf).1;exact zai hj (by have:=this.2.1;omega) (by have:=this.1;omega) (by decide)
     ·refine Yb _ _ ih λj e he hj=>Yb _ _ hj λj f hf hj=>?_;have a:=hx.es e (List.mem_filter.1 he).1;have b:=hy.es f (List.mem_filter.1 hf).1;exact zai hj (by have:=a.2.1;have:=b.2.1;rw[List.length_append];omega) (by have:=a.1;omega) (by have:=b.1;omega)
theorem zhQ {Kx Ky:Nat} {x y n:zt} (hx:qO Kx x) (hy:qO Ky y) (h:zjD x y=some n):qO (Kx+Ky) n:=by
 unfold zjD at h;split at h
 ·obtain⟨rfl,hok⟩:=xB h;have hj:=zej hx hy 256;refine⟨hok,hj.es,?_⟩;intro a ha;simp only[zhx]at ha;split at ha
  ·obtain rfl:=List.mem_singleton.1 ha;have h1:=hj.hd;cases hc:(QR x y 256).pairs with
   |nil=>rw[hc]at h1;simp at h1
   |cons q r =>
    rw[hc]at h1;have hq:q=(0,0):=by simpa using h1
    rw[List.idxOf_cons,show (q==(-1,-1))=false from by rw[hq];exact beq_eq_false_iff_ne.2 (by simp)];simp only[cond_false];omega
  ·simp at ha
 ·simp at h
inductive RegL:List Nat->List zt->Prop where
 |nil:RegL [] []
 |cons {k:Nat} {p:zt} {ks:List Nat} {ps:List zt} (h:qO k p) (hs:RegL ks ps):RegL (k::ks) (p::ps)
theorem zhO:∀(ps:List zt) (ks:List Nat) (K:Nat) (n m:zt),qO K n->RegL ks ps->zf7 n ps=some m->qO (K+ks.sum) m:=by
 intro ps
 induction ps with
 |nil =>intro ks K n m hn hp h;cases hp;simp only[zf7,Option.some.injEq]at h;subst h;exact hn.mono (by omega)
 |cons p ps ih =>
  intro ks K n m hn hp h;cases hp with
  | @cons k _ ks _ hk hks =>
   rw[zf7]at h;cases h2:zjD n p with
   |none=>rw[h2]at h;simp at h
   |some q =>rw[h2]at h;have:=ih _ _ _ _ (zhQ hn hk h2) hks h;rw[List.sum_cons];rw[Nat.add_assoc]at this;exact this
theorem zbX:∀{l:List (Option zt)} {ps:List zt},qB l=some ps->l=ps.map some:=by
 intro l
 induction l with
 |nil=>intro ps h;simp only[qB,Option.some.injEq]at h;subst h;rfl
 |cons a l ih =>
  intro ps h;cases a with
  |none=>simp[qB]at h
  |some n =>rw[qB]at h;obtain⟨r,hr,rfl⟩:=Option.map_eq_some_iff.1 h;rw[ih hr];rfl
theorem Qt {s:Tq} {b:Bool} (h:qy s b=0):qC s=true/\(yh s.op=true\/zal s.expr=true)/\(s.op=6\/s.name.size=0)/\(s.op=6->yQ s.name.data.toList=true)/\(yh s.op=true->zD s.expr=0)/\(s.op=6->b=false)/\(s.op=7->zbZ s=false):=by
 unfold qy at h;split at h
 ·simp at h
 rename_i h1;split at h
 ·simp at h
 rename_i h2;split at h
 ·rename_i h3;exact absurd h h3.2
 rename_i h3;split at h
 ·simp at h
 rename_i h4;split at h
 ·simp at h
 rename_i h5;simp only[not_or,not_and,Bool.not_eq_false,Decidable.not_not,ne_eq,Bool.not_eq_true]at h1 h2 h3 h4 h5;refine⟨h1.1,?_,?_,h2,h3,h4,h5⟩
 ·cases hw:yh s.op with
  |true=>exact Or.inl rfl
  |false=>exact Or.inr (h1.2.1 hw)
 ·by_cases h6:s.op=6
  ·exact Or.inl h6
  ·exact Or.inr (h1.2.2 h6)
theorem ZQ {s:Tq} (h:qC s=true):(s.op=1/\s.args.length=0/\s.lo=0/\s.hi=0)\/(s.op=2/\s.args.length=2/\0<=s.lo/\s.lo<=s.hi/\s.hi<=16)\/(s.op=3/\s.args.length=1/\1<=s.lo/\s.lo<=s.hi/\s.hi<=16) \/
 ((s.op=4\/s.op=5)/\2<=s.args.length/\s.args.length<=8/\s.lo=0/\s.hi=0)\/((s.op=6\/s.op=7)/\s.args.length=1/\s.lo=0/\s.hi=0):=by
 unfold qC at h;repeat' split at h
 all_goals first
  |(simp only[decide_eq_true_eq]at h;simp_all;done)
  |(simp at h;done)
  |skip
theorem Qj {s:Tq} {b:Bool} (h:yc s b=0):qy s b=0/\∀a∈s.args,yc a (b||s.op==5)=0:=by
 rw[qv]at h;split at h
 ·rename_i h1;refine⟨h1,λa ha=>?_⟩;exact Xy.1 h _ (List.mem_map.2 ⟨a,ha,rfl⟩)
 ·rename_i h1;exact absurd h h1
theorem za3:∀{args:List Tq} {ps:List zt},args.map yJ=ps.map some->(∀a∈args,∀n,yJ a=some n->qO a.nodes n)->RegL (args.map Tq.nodes) ps:=by
 intro args
 induction args with
 |nil=>intro ps h _;cases ps with|nil=>exact RegL.nil|cons p ps=>simp at h
 |cons a args ih =>
  intro ps h hr;cases ps with
  |nil=>simp at h
  |cons p ps =>simp only[List.map_cons,List.cons.injEq]at h;exact RegL.cons (hr a (List.mem_cons_self ..) p h.1) (ih h.2 λb hb=>hr b (List.mem_cons_of_mem _ hb))
theorem zaL {K:Nat}:∀{ks:List Nat} {ps:List zt},RegL ks ps->(∀k∈ks,k<=K)->∀p∈ps,qO K p:=by
 intro ks ps h
 induction h with
 |nil=>intro _ p hp;cases hp
 |cons h1 _ ih =>
  intro hk p hp;rcases List.mem_cons.1 hp with rfl|hp
  ·exact h1.mono (hk _ (List.mem_cons_self ..))
  ·exact ih (λk hk2=>hk k (List.mem_cons_of_mem _ hk2)) p hp
theorem zhz {l:List Nat} {k:Nat} (h:k∈l):k<=l.sum:=by
 induction l with
 |nil=>cases h
 |cons a l ih =>
  rw[List.sum_cons];rcases List.mem_cons.1 h with rfl|h
  ·omega
  ·have:=ih h;omega
theorem zgE {s:Tq} {b:Bool} {ps:List zt} {ks:List Nat} (hn:qy s b=0) (hl:s.args.length=ps.length) (hp:RegL ks ps) {m:zt} (h:ZL s ps=some m):qO (1+ks.sum) m:=by
 obtain⟨hs,_⟩:=Qt hn;rcases ZQ hs with ⟨ho,_⟩|⟨ho,h2,_⟩|⟨ho,h2,_⟩|⟨ho,h2,h3,_⟩|⟨ho,h2,_⟩
 ·simp only[ZL,ho,Int.reduceEq,if_false,if_true]at h;obtain⟨rfl,hok⟩:=xB h;refine⟨hok,λe he=>?_,λa ha=>?_⟩
  ·obtain rfl:=List.mem_singleton.1 he;exact⟨Int.le_refl 1,by simp only[List.length_singleton];omega,Nat.zero_le _⟩
  ·obtain rfl:=List.mem_singleton.1 ha;decide
 ·simp only[ZL,ho,Int.reduceEq,if_false,if_true]at h;obtain⟨rfl,hok⟩:=xB h;cases hp with
  |nil=>rw[List.length_nil]at hl;omega
  | @cons k1 p1 ks ps h1 hp =>
   cases hp with
   |nil=>rw[List.length_cons,List.length_nil]at hl;omega
   | @cons k2 p2 ks ps h2 hp =>refine(zeH h1 h2 hok).mono ?_;simp only[List.sum_cons];omega
 ·simp only[ZL,ho,Int.reduceEq,if_false,if_true]at h;obtain⟨rfl,hok⟩:=xB h;cases hp with
  |nil=>rw[List.length_nil]at hl;omega
  | @cons k1 p1 ks ps h1 hp =>refine(zix h1 hok).mono ?_;simp only[List.sum_cons];omega
 ·rcases ho with ho|ho
  ·simp only[ZL,ho,Int.reduceEq,if_false,if_true]at h;obtain⟨rfl,hok⟩:=xB h;have:=zjm ps ⟨1,[],[]⟩ (zaL hp (K:=1+ks.sum) λk hk=>Nat.le_trans (zhz hk) (by omega)) (by decide) (λe he=>by cases he) (λa ha=>by cases ha);exact⟨hok,this.1,this.2⟩
  ·simp only[ZL,ho,Int.reduceEq,if_false,if_true]at h;cases hp with
   |nil=>rw[List.length_nil]at hl;omega
   | @cons k1 p1 ks ps h1 hp =>refine(zhO _ _ _ _ _ h1 hp h).mono ?_;simp only[List.sum_cons];omega
 ·rcases ho with ho|ho
  ·simp only[ZL,ho,Int.reduceEq,if_false,if_true]at h;obtain⟨rfl,hok⟩:=xB h;cases hp with
   |nil=>rw[List.length_nil]at hl;omega
   | @cons k1 p1 ks ps h1 hp =>refine(ziB h1 hok).mono ?_;simp only[List.sum_cons];omega
  ·simp only[ZL,ho,Int.reduceEq,if_false,if_true]at h;obtain⟨rfl,hok⟩:=xB h;cases hp with
   |nil=>rw[List.length_nil]at hl;omega
   | @cons k1 p1 ks ps h1 hp =>refine(zgr h1 hok).mono ?_;simp only[List.sum_cons];omega
theorem zcm (s:Tq):∀b,yc s b=0->∀n,yJ s=some n->qO s.nodes n:=by
 induction s using Tq.ind with
 |h s ih =>
  intro b hc n h;obtain⟨hn,ha⟩:=Qj hc;rw[Y6]at h;cases hp:qB (s.args.map yJ) with
  |none=>rw[hp]at h;simp at h
  |some ps =>rw[hp]at h;have he:=zbX hp;rw[Tq.nodes_eq];exact zgE hn (by have:=congrArg List.length he;simpa using this) (za3 he λa ha2 n2 h2=>ih a ha2 _ (ha a ha2) n2 h2) h
attribute [local go_sem ↓] Go.wp_at_zero Go.wp_at_succ
theorem qK (fn:Func) (hr:fn.results=#[.cell 2 33,.tmp 3]) (W:World) (tm:Array Value) (b:Nat) (m0 m1 m2 e:Value) (hW:W.heap[b]? = some (.cells #[m0,m1,m2] 33 (0,0))) (h0:tm.getD 2 undef=.pointer (some ⟨b,0,none⟩)) (h1:tm.getD 3 undef=e) :
 (results fn tm).run Tryz.prog W=.ok (.tuple #[.agg #[m0,m1,m2],e]) W:=by
 have c0:=zb hW 0;have c1:=zb hW 1;have c2:=zb hW 2;simp at c0 c1 c2;rw[results_cell_tmp hr,h0,h1];simp[asAddr];go_simp
theorem zdQ {w:World} {b:Nat} {z0 z1 z2 u0 u1 u2:Value} {t:TypeId} (h:w.heap[b]? = some (.cells #[z0,z1,z2] t (0,0))) :
 (((w.setCell ⟨b,0,none⟩ u0).setCell ⟨b,1,none⟩ u1).setCell ⟨b,2,none⟩ u2).heap[b]? = some (.cells #[u0,u1,u2] t (0,0)):=by
 have h0:=heap_setCell_same _ b 0 _ t u0 h;have h1:=heap_setCell_same _ b 1 _ t u1 h0;have h2:=heap_setCell_same _ b 2 _ t u2 h1;rw[h2];rfl
theorem Enc.Own.sliceR {τ:Type} {E:Enc τ} {t:TypeId} {q p:Nat->Bool} {w:World} {B:Nat} {v:Value} {l:List τ} (h:E.Own t q w B v l) (hn:l.length<=1073741824) (hpq:∀k,p k=true->q k=true) (hp:∀k,p k=true->k<B):∃a cap,v=.slice a l.length cap/\E.In (World.hide w p) l a cap:=by
 obtain⟨xs,h1,h2⟩:=h;refine Enc.Own.sliceP (t:=t) (B:=B) ⟨xs,h1,h2.keep (zB λk hk=>?_)⟩ hn λk hk=>?_
 ·exact(ze.1 hk).elim (λh=>ze.2 (Or.inl (hpq k h))) λh=>ze.2 (Or.inr h)
 ·cases e:p k with
  |false=>rfl
  |true=>have:=hp k e;omega
def yy (p:Nat->Bool) (r:Option zt) (w:World) (e:Ending) (w':World):Prop :=
 (match r with
  |some n=>∃x,e=.returned (.tuple #[ye n x,.int .i64 0])/\yb (World.hide w' p) n x
  |none=>e=.returned (.tuple #[.agg #[.int .i64 0,.slice none 0 0,.slice none 0 0],.int .i64 2]))/\Below w.heap.size w w'
theorem yy.yes {p:Nat->Bool} {n:zt} {x:qn} {w w':World} (h:yb (World.hide w' p) n x) (hb:Below w.heap.size w w'):yy p (some n) w (.returned (.tuple #[ye n x,.int .i64 0])) w':=⟨⟨x,rfl,h⟩,hb⟩
theorem yy.no {p:Nat->Bool} {w w':World} (hb:Below w.heap.size w w'):yy p none w (.returned (.tuple #[.agg #[.int .i64 0,.slice none 0 0,.slice none 0 0],.int .i64 2])) w':=⟨rfl,hb⟩
theorem zgl {q p:Nat->Bool} {k:Nat} {w0 w:World} {st:Int} {L:List zk} {A:List Int} {ve:Value} {aa:Option Addr} {ca:Nat} (hB:xN q k w0 w st L ve (.slice aa A.length ca)) (hpq:∀j,p j=true->q j=true) (hp:∀j,p j=true->j<w0.heap.size)
 (hA:IntsIn (World.hide w p) A aa ca) (hG:qW w) (hs:qq ⟨st,L,A⟩) :
 Calls Tryz.prog 89 #[.pointer (some ⟨k,0,none⟩)] w (yy p (doneN ⟨st,L,A⟩) w):=by
 have hLl:(L.take 4097).length=min 4097 L.length:=List.length_take;obtain⟨ea,ec,hv,hEp⟩:=hB.es.sliceR (by omega) hpq hp;have hblk:=hB.blk;have hk:=hB.klt;have c0:w.cell? ⟨k,0,none⟩=some (.int .i64 st):=by simp[World.cell?,hblk]
 have c1:w.cell? ⟨k,1,none⟩=some ve:=by simp[World.cell?,hblk]
 have c2:w.cell? ⟨k,2,none⟩=some (.slice aa A.length ca):=by simp[World.cell?,hblk]
 have c3:w.cell? ⟨k,3,none⟩=some (.bool (decide (4097<L.length))):=by simp[World.cell?,hblk]
 rw[hv]at c1;have HNo:Hid (zC ⟨st,L,A⟩=false->∀w',Below w.heap.size w w'->yy p (doneN ⟨st,L,A⟩) w (.returned (.tuple #[.agg #[.int .i64 0,.slice none 0 0,.slice none 0 0],.int .i64 2])) w'):=λh w' hb=>by unfold doneN;rw[h];exact yy.no hb
 have HYes:Hid (zC ⟨st,L,A⟩=true->L.take 4097=L->∀w',Below w.heap.size w w'->yy p (doneN ⟨st,L,A⟩) w (.returned (.tuple #[.agg #[.int .i64 st,.slice ea (L.take 4097).length ec,.slice aa A.length ca],.int .i64 0])) w'):=λh ht w' hb=>by unfold doneN;rw[if_pos h,ht];have hkk:=zg (p:=p) (q:=p) hb λ_ _ h=>h;rw[ht]at hEp;exact yy.yes (n:=⟨st,L,A⟩) (x:=⟨ea,ec,aa,ca⟩) ⟨hEp.keep hkk,hA.keep hkk⟩ hb
 have hbig:4096<L.length->zC ⟨st,L,A⟩=false:=λh=>by
  cases e:zC ⟨st,L,A⟩ with
  |false=>rfl
  |true=>have:=(zA.1 e).1.2.2;simp only at this;omega
 generalize yy p (doneN ⟨st,L,A⟩) w=Po at HNo HYes⊢;have hz0:(w.alloc (.cells #[.int .i64 0,.slice none 0 0,.slice none 0 0] 33)).heap[w.heap.size]? = some (.cells #[.int .i64 0,.slice none 0 0,.slice none 0 0] 33 (0,0)):=zh rfl;by_cases hf:4097<L.length
 ·have HN:=Lib.hid (HNo.out (hbig (by omega)));rw[decide_eq_true hf]at c3;clear HNo HYes hbig hLl hv hEp hB hA hs hpq hp hblk hf;go_enter Tryz.func89, Tryz.ntmps89;go_wp2_with fail;refine bodyPost_ret (v:=.tuple #[.agg #[.int .i64 0,.slice none 0 0,.slice none 0 0],.int .i64 2]) (qK _ rfl _ _ w.heap.size _ _ _ _ hz0 rfl rfl) rfl ?_;exact HN.out _ ((Below.refl _ _).alloc (Nat.le_refl _) _)
 ·rw[decide_eq_false hf]at c3;have hnx:zC ⟨st,L,A⟩=zC ⟨st,L.take 4097,A⟩:=by rw[List.take_of_length_le (by omega)]
  have HV:Hid (∀W,Below w.heap.size w W->Calls Tryz.prog 14 #[.agg #[.int .i64 st,.slice ea (L.take 4097).length ec,.slice aa A.length ca]] W λe' w'=>e'=.returned (.bool (zC ⟨st,L,A⟩))/\Below W.heap.size W w'):=λW hW=>by rw[hnx];exact qA ⟨st,L.take 4097,A⟩ ⟨ea,ec,aa,ca⟩ W (hG.below hW) ⟨hEp.keep (λa u h=>za hW _ _ (zc _ _ h)),hA.keep (λa u h=>za hW _ _ (zc _ _ h))⟩ λe he=>hs e (List.mem_of_mem_take he)
  have HT:Hid (zC ⟨st,L,A⟩=true->L.take 4097=L):=λh=>List.take_of_length_le (by have:=(zA.1 h).1.2.2;simp only at this;omega);clear hbig hLl hv hEp hB hA hs hpq hp hblk hf hnx;have HY0:Hid (zC ⟨st,L,A⟩=true->∀w',Below w.heap.size w w'->Po (.returned (.tuple #[.agg #[.int .i64 st,.slice ea (L.take 4097).length ec,.slice aa A.length ca],.int .i64 0])) w'):=λh=>HYes.out h (HT.out h);clear HYes HT;generalize (L.take 4097).length=n4 at c1 HV HY0;cases hn:zC ⟨st,L,A⟩ with
  |false =>have HN:=Lib.hid (HNo.out hn);rw[hn]at HV;clear HNo HY0 hn;go_enter Tryz.func89, Tryz.ntmps89;go_wp2_with (go_at_call 14;go_must (refine(HV.out _ bel).mono ?_;rintro e w5 ⟨rfl,hb5⟩;have hB5:Below w.heap.size w w5:=((Below.refl w.heap.size w).alloc (Nat.le_refl _) _).trans (hb5.mono (by simp));have e0:=(hB5.cell (p:=⟨k,0,none⟩) hk).trans c0;have e1:=(hB5.cell (p:=⟨k,1,none⟩) hk).trans c1;have e2:=(hB5.cell (p:=⟨k,2,none⟩) hk).trans c2;have r5:=(hb5.block w.heap.size (by simp)).trans hz0;have f0:w5.frozen? ⟨w.heap.size,0,none⟩=false:=(by simp[World.frozen?,r5]);have f1:w5.frozen? ⟨w.heap.size,1,none⟩=false:=(by simp[World.frozen?,r5]);have f2:w5.frozen? ⟨w.heap.size,2,none⟩=false:=(by simp[World.frozen?,r5]);have d0:=zb r5 0;have d1:=zb r5 1;have d2:=zb r5 2;(simp at d0 d1 d2);have HR5:=Lib.hid r5;have HB5:=Lib.hid hB5;clear r5 hB5 hb5));refine bodyPost_ret (v:=.tuple #[.agg #[.int .i64 0,.slice none 0 0,.slice none 0 0],.int .i64 2]) (qK _ rfl _ _ w.heap.size _ _ _ _ (zdQ HR5.out) rfl rfl) rfl ?_;exact HN.out _ (((HB5.out.setCell (Nat.le_refl _) _).setCell (Nat.le_refl _) _).setCell (Nat.le_refl _) _)
  |true =>have HY:=Lib.hid (HY0.out hn);rw[hn]at HV;clear HNo HY0 hn;go_enter Tryz.func89, Tryz.ntmps89;go_wp2_with (go_at_call 14;go_must (refine(HV.out _ bel).mono ?_;rintro e w5 ⟨rfl,hb5⟩;have hB5:Below w.heap.size w w5:=((Below.refl w.heap.size w).alloc (Nat.le_refl _) _).trans (hb5.mono (by simp));have e0:=(hB5.cell (p:=⟨k,0,none⟩) hk).trans c0;have e1:=(hB5.cell (p:=⟨k,1,none⟩) hk).trans c1;have e2:=(hB5.cell (p:=⟨k,2,none⟩) hk).trans c2;have r5:=(hb5.block w.heap.size (by simp)).trans hz0;have f0:w5.frozen? ⟨w.heap.size,0,none⟩=false:=(by simp[World.frozen?,r5]);have f1:w5.frozen? ⟨w.heap.size,1,none⟩=false:=(by simp[World.frozen?,r5]);have f2:w5.frozen? ⟨w.heap.size,2,none⟩=false:=(by simp[World.frozen?,r5]);have d0:=zb r5 0;have d1:=zb r5 1;have d2:=zb r5 2;(simp at d0 d1 d2);have HR5:=Lib.hid r5;have HB5:=Lib.hid hB5;clear r5 hB5 hb5));refine bodyPost_ret (v:=.tuple #[.agg #[.int .i64 st,.slice ea n4 ec,.slice aa A.length ca],.int .i64 0]) (qK _ rfl _ _ w.heap.size _ _ _ _ (zdQ HR5.out) rfl rfl) rfl ?_;exact HY.out _ (((HB5.out.setCell (Nat.le_refl _) _).setCell (Nat.le_refl _) _).setCell (Nat.le_refl _) _)
theorem zeN:Elem Tryz.prog 31 3 1:=Elem.of Tryz.underlying31 (by kernel_rfl) (z:=.int .i64 0) (bytes:=8) rfl (by decide) (by decide)
theorem zeY {w w':World} {l:List Int} {xs:List Value} (h:inE.Vals w l xs):inE.Vals w' l xs:=⟨h.1,λi hi=>by obtain⟨vs,h1,h2⟩:=h.2 i hi;exact⟨vs,h1,h2⟩⟩
theorem qw {p:Nat->Bool} {w:World} {B:Nat} {v:Value} {l:List Int}:inE.Own 3 p w B v l<->∃xs,w.ownsRow B 3 1 v l.length xs/\inE.Vals w l xs :=
 ⟨λ⟨xs,h1,h2⟩=>⟨xs,h1,zeY h2⟩,λ⟨xs,h1,h2⟩=>⟨xs,h1,zeY h2⟩⟩
structure yk (q:Nat->Bool) (k:Nat) (w0 w:World) (st:Int) (L:List zk) (A:List Int) (ve va:Value):Prop where
 e:xN (hid q va) k w0 w st L ve va
 a:inE.Own 3 q w w0.heap.size va A
section
variable {q : Nat → Bool} {k : Nat} {w0 w w' : World} {st : Int} {L L' : List zk} {A : List Int} {ve ve' va : Value}
theorem yk.alt (h:yk q k w0 w st L A ve va):∀j,va.ownBlock=some j->w0.heap.size<=j/\j<w.heap.size:=zq h.a
theorem yk.ane (h:yk q k w0 w st L A ve va):some k≠va.ownBlock:=by obtain⟨xs,h1,_⟩:=h.a;exact zv h1 h.e.blk (by decide)
theorem yk.eane (h:yk q k w0 w st L A ve va):∀j,ve.ownBlock=some j->va.ownBlock≠some j:=by
 intro j hj e;obtain⟨xs,h1,_⟩:=h.e.es;obtain⟨ys,h2,_⟩:=h.a;rcases h2.2 with ⟨rfl,_⟩|⟨g,cap,cur,rfl,hb,hg,_⟩
 ·simp[Value.ownBlock]at e
 ·have:=zv h1 hg (by decide);exact this (by rw[hj];exact e)
theorem yk.step (h:yk q k w0 w st L A ve va) (he:xN (hid q va) k w0 w' st L' ve' va) (hs:zU k w ve w' ve'):yk q k w0 w' st L' A ve' va:=by refine⟨he,?_⟩;obtain⟨xs,h1,h2⟩:=qw.1 h.a;obtain⟨ys,h3,_⟩:=h.e.es;exact qw.2 ⟨xs,hs.own h1 h3 h.e.blk (by decide) (by decide),zeY h2⟩
theorem yk.below (h:yk q k w0 w st L A ve va) (hb:Below w.heap.size w w'):yk q k w0 w' st L A ve va:=h.step (h.e.below hb) (zU.below ve hb)
theorem yk.sz (h:yk q k w0 w st L A ve va):w0.heap.size<=w.heap.size:=h.e.bel.size
theorem yk.kp {p:Nat->Bool} (h:yk q k w0 w st L A ve va) (hqp:∀j,j<w0.heap.size->q j=true->p j=true):Kp (World.hide w0 p) (World.hide w (hid (hid q va) ve)):=zg h.e.bel λj hj hq=>by
 rcases ze.1 hq with h1|h1
 ·rcases ze.1 h1 with h2|h2
  ·exact hqp j hj h2
  ·have:=(h.alt j h2).1;omega
 ·have:=(h.e.vlt j h1).1;omega
theorem xN.eq {va:Value} (h:xN q k w0 w st L ve va) (h1:L'.take 4097=L.take 4097) (h2:4097<L'.length<->4097<L.length):xN q k w0 w st L' ve va:=by
 refine⟨h.kB,h.qk,?_,by rw[h1];exact h.es,h.bel⟩;rw[h.blk];by_cases hc:4097<L.length
 ·rw[decide_eq_true hc,decide_eq_true (h2.2 hc)]
 ·rw[decide_eq_false hc,decide_eq_false (λe=>hc (h2.1 e))]
theorem xN.full {va:Value} (h:xN q k w0 w st L ve va) (hL:4097<L.length) (M:List zk):xN q k w0 w st (L++M) ve va :=
 h.eq (List.take_append_of_le_length (by omega)) (by rw[List.length_append];omega)
theorem yk.full (h:yk q k w0 w st L A ve va) (hL:4097<L.length) (M:List zk):yk q k w0 w st (L++M) A ve va:=⟨h.e.full hL M,h.a⟩
theorem yk.acc {A':List Int} {v':Value} (h:yk q k w0 w st L A ve va) (ho:inE.Own 3 q w' w0.heap.size v' A') (hg:w.grownBy w' va.ownBlock) (hat:v'.ownBlock=va.ownBlock\/∃g,v'.ownBlock=some g/\w.heap.size<=g):yk q k w0 (w'.setCell ⟨k,2,none⟩ v') st L A' ve v':=by
 have hk:=h.e.klt;have hkn:some k≠v'.ownBlock:=by
  rcases hat with e|⟨g,e,hgs⟩
  ·rw[e];exact h.ane
  ·rw[e];intro e2;have:=Option.some.inj e2;omega
 have hblk:w'.heap[k]? = some (.cells #[.int .i64 st,ve,va,.bool (decide (4097<L.length))] 150 (0,0)):=(hg.block k hk h.ane).trans h.e.blk;have hve:∀j,ve.ownBlock=some j->v'.ownBlock≠some j:=λj hj e2=>by
  rcases hat with e|⟨g,e,hgs⟩
  ·exact h.eane j hj (by rw[←e,e2])
  ·rw[e2]at e;have:=(h.e.vlt j hj).2;have:=Option.some.inj e;omega
 have hes:edE.Own 77 (hid q v') w' w0.heap.size ve (L.take 4097):=by
  obtain⟨xs,h1,h2⟩:=h.e.es;refine⟨xs,h1.kept hg ?_,h2.keep (yE hg (λj hj=>ze.2 (Or.inl (ze.2 (Or.inr hj)))) λj hj hq=>?_)⟩
  ·cases e:ve.ownBlock with
   |none=>exact Or.inl rfl
   |some j=>exact Or.inr λe2=>h.eane j e e2.symm
  ·rcases ze.1 hq with h3|h3
   ·rcases ze.1 h3 with h4|h4
    ·exact ze.2 (Or.inl (ze.2 (Or.inl h4)))
    ·rcases hat with e|⟨g,e,hgs⟩
     ·exact ze.2 (Or.inl (ze.2 (Or.inr (by rw[←e];exact h4))))
     ·rw[e]at h4;have:=Option.some.inj h4;omega
   ·exact ze.2 (Or.inr h3)
 have hqk:hid q v' k=true:=by
  rcases ze.1 h.e.qk with e|e
  ·exact ze.2 (Or.inl e)
  ·exact absurd e.symm h.ane
 refine⟨⟨h.e.kB,hqk,?_,xN.esSet hqk h.e.ne hes,?_⟩,?_⟩
 ·rw[Yw hblk 2];rfl
 ·exact(h.e.bel.grown hg h.sz λj hj=>(h.alt j hj).1).setCell h.e.kB _
 ·obtain⟨xs,h1,h2⟩:=qw.1 ho;exact qw.2 ⟨xs,ownsRow_setCell_other h1 (λe=>hkn e.symm) _,zeY h2⟩
end
structure BF (k:Nat) (W:World) (ve va:Value) (wr:World):Prop where
 size:W.heap.size<=wr.heap.size
 block:∀j,j<W.heap.size->j≠k->wr.heap[j]? = W.heap[j]?
 vlt:∀j,ve.ownBlock=some j->W.heap.size<=j
 alt:∀j,va.ownBlock=some j->W.heap.size<=j
section
variable {k : Nat} {W wr wr' : World} {ve ve' va va' : Value}
theorem BF.refl (k:Nat) (W:World):BF k W (.slice none 0 0) (.slice none 0 0) W:=⟨Nat.le_refl _,λ_ _ _=>rfl,λj h=>by simp[Value.ownBlock]at h,λj h=>by simp[Value.ownBlock]at h⟩
theorem BF.step (h:BF k W ve va wr) (hs:zU k wr ve wr' ve'):BF k W ve' va wr':=by
 refine⟨Nat.le_trans h.size hs.size,λj hj hk=>?_,λj hj=>?_,h.alt⟩
 ·exact(hs.block j (Nat.lt_of_lt_of_le hj h.size) hk λe=>by have:=h.vlt j e;omega).trans (h.block j hj hk)
 ·rcases hs.row with e|e
  ·exact h.vlt j (by rw[←e];exact hj)
  ·exact Nat.le_trans h.size (e j hj)
theorem BF.below (h:BF k W ve va wr) (hb:Below wr.heap.size wr wr'):BF k W ve va wr':=h.step (zU.below ve hb)
theorem BF.acc (h:BF k W ve va wr) (hg:wr.grownBy wr' va.ownBlock) (hat:va'.ownBlock=va.ownBlock\/∃g,va'.ownBlock=some g/\wr.heap.size<=g) (u:Value) (o:Nat):BF k W ve va' (wr'.setCell ⟨k,o,none⟩ u):=by
 refine⟨by rw[World.size_setCell];exact Nat.le_trans h.size hg.size,λj hj hk=>?_,h.vlt,λj hj=>?_⟩
 ·refine(Below.heap_setCell _ _ _ _ (λe=>hk (by simpa using e))).trans ((hg.block j (Nat.lt_of_lt_of_le hj h.size) λe=>?_).trans (h.block j hj hk));have:=h.alt j e.symm;omega
 ·rcases hat with e|⟨g,e,hgs⟩
  ·exact h.alt j (by rw[←e];exact hj)
  ·rw[e]at hj;have:=Option.some.inj hj;have:=h.size;omega
end
def qk (p:Nat->Bool) (k:Nat):Nat->Bool:=λj=>p j||j==k
theorem yY {p:Nat->Bool} {k j:Nat}:qk p k j=true<->p j=true\/j=k:=by simp[qk]
theorem xN.mk0 {q:Nat->Bool} {k:Nat} {w0 W:World} {st:Int} {va:Value} (hk:w0.heap.size<=k) (hq:q k=true) (hblk:W.heap[k]? = some (.cells #[.int .i64 st,.slice none 0 0,va,.bool false] 150 (0,0))) (hb:Below w0.heap.size w0 W):xN q k w0 W st [] (.slice none 0 0) va :=
 ⟨hk,hq,hblk,Enc.Own.nil _ _ _ _ _,hb⟩
theorem yk.mk0 {p:Nat->Bool} {k:Nat} {w0 W:World} {st:Int} (hk:w0.heap.size<=k) (hblk:W.heap[k]? = some (.cells #[.int .i64 st,.slice none 0 0,.slice none 0 0,.bool false] 150 (0,0))) (hb:Below w0.heap.size w0 W):yk (qk p k) k w0 W st [] [] (.slice none 0 0) (.slice none 0 0) :=
 ⟨xN.mk0 hk (ze.2 (Or.inl (yY.2 (Or.inr rfl)))) hblk hb,Enc.Own.nil _ _ _ _ _⟩
theorem zjo {p:Nat->Bool} {k:Nat} {w0:World} (hk:w0.heap.size<=k):∀j,j<w0.heap.size->qk p k j=true->p j=true:=λj hj h=>(yY.1 h).elim id λe=>by omega
def zhI (p:Nat->Bool) (k:Nat) (w0:World) (n:zt) (e:Ending) (w':World):Prop :=
 e=.returned (.tuple #[])/\∃(q:Nat->Bool) (ve:Value) (aa:Option Addr) (ca:Nat),(∀j,p j=true->q j=true)/\xN q k w0 w' n.states n.edges ve (.slice aa n.accept.length ca)/\IntsIn (World.hide w' p) n.accept aa ca
theorem yk.post {p:Nat->Bool} {k:Nat} {w0 w':World} {n:zt} {st:Int} {L:List zk} {A:List Int} {ve va:Value} (h:yk (qk p k) k w0 w' st L A ve va) (hp:∀j,p j=true->j<w0.heap.size) (h1:n.states=st) (h2:n.edges=L) (h3:n.accept=A) (hA:A.length<=1073741824):zhI p k w0 n (.returned (.tuple #[])) w':=by subst h1 h2 h3;obtain⟨a,c,rfl,hin⟩:=h.a.sliceR hA (λj hj=>yY.2 (Or.inl hj)) hp;exact⟨rfl,_,ve,a,c,λj hj=>ze.2 (Or.inl (yY.2 (Or.inl hj))),h.e,qR.1 hin⟩
theorem qO.ends {K:Nat} {n:zt} (h:qO K n):ziR n:=λe he=>by have h1:=(zZ.1 ((zA.1 h.ok).2.1 e he)).1;have:=h.st;omega
theorem qO.acc {K:Nat} {n:zt} (h:qO K n):∀a∈n.accept,1<=a/\a<=256:=λa ha=>by have h1:=((Z4.1 (zA.1 h.ok).2.2).1 a ha);have:=h.st;have:=h.ac a ha;omega
end Go.Proofs.YtnfkbliokjjggaaGreatDoor
