/- Rows of things in memory, for any kind of thing: what a kind's cells say, lists of them that lie in memory, rows of the call's own. -/
import Derived.Test.YtnfkbliokjjggaaGreatDoorH07
import Derived.Lib.AppendZeros
set_option maxHeartbeats 1000000
set_option linter.unusedSimpArgs false
set_option linter.unusedVariables false
set_option linter.unnecessarySimpa false
namespace Go.Proofs.YtnfkbliokjjggaaGreatDoor
open Go.RowKit
def Kp (H H':World):Prop:=∀a v,H.cell? a=some v->H'.cell? a=some v
theorem Kp.refl (H:World):Kp H H:=λ_ _ h=>h
theorem Kp.trans {H H' H2:World} (h:Kp H H') (h':Kp H' H2):Kp H H2:=λa v x=>h' a v (h a v x)
structure Enc (τ:Type) where
 sz:Nat
 R:World->τ->List Value->Prop
 pos:0<sz
 len:∀{w x vs},R w x vs->vs.length=sz
 keep:∀{w w':World} {x vs},Kp w w'->R w x vs->R w' x vs
 one:∀{w x vs},R w x vs->∀v∈vs,v.oneCell'=true
section
variable {τ : Type} {E : Enc τ} {w w' : World} {l l' : List τ} {xs ys : List Value}
def Enc.At (E:Enc τ) (w:World) (x:τ) (b o:Nat):Prop:=∃vs,E.R w x vs/\∀(j:Nat) (v:Value),vs[j]? = some v->w.cell? ⟨b,o+j,none⟩=some v
theorem Enc.At.keep {x:τ} {b o:Nat} (h:E.At w x b o) (hk:Kp w w'):E.At w' x b o:=by obtain⟨vs,h1,h2⟩:=h;exact⟨vs,E.keep hk h1,λj v hv=>hk _ _ (h2 j v hv)⟩
def Enc.In (E:Enc τ) (w:World) (l:List τ) (a:Option Addr) (cap:Nat):Prop:=zw E.sz l.length a cap (λi b o=>∃x,l[i]? = some x/\E.At w x b o)
theorem Enc.In.keep {a:Option Addr} {cap:Nat} (h:E.In w l a cap) (hk:Kp w w'):E.In w' l a cap:=h.mono λ_ _ _ _ ⟨x,h1,h2⟩=>⟨x,h1,h2.keep hk⟩
theorem Enc.In.nil (w:World):E.In w [] none 0:=⟨Nat.le_refl _,by simp,Or.inl rfl⟩
theorem Enc.In.len {a:Option Addr} {cap:Nat} (h:E.In w l a cap):l.length<=1073741824:=h.2.1
theorem Enc.In.cap {a:Option Addr} {cap:Nat} (h:E.In w l a cap):l.length<=cap:=h.1
theorem Enc.In.addr {a:Option Addr} {cap:Nat} (h:E.In w l a cap):l.length=0\/∃b off,a=some ⟨b,off,none⟩:=zw.addr h
theorem Enc.In.get {a:Option Addr} {cap:Nat} (h:E.In w l a cap) {b off:Nat} (ha:a=some ⟨b,off,none⟩) {i:Nat} (hi:i<l.length):E.At w (l[i]'hi) b (off+i*E.sz):=by
 rcases h.2.2 with h|⟨b',off',ha',hq⟩
 ·omega
 ·rw[ha]at ha';simp only[Option.some.injEq,Addr.mk.injEq,and_true]at ha';obtain⟨rfl,rfl⟩:=ha';obtain⟨x,hx,h1⟩:=hq i hi;rw[List.getElem?_eq_getElem hi]at hx;obtain rfl:=Option.some.inj hx;exact h1
def Enc.Vals (E:Enc τ) (w:World) (l:List τ) (xs:List Value):Prop:=xs.length=l.length*E.sz/\∀i (h:i<l.length),∃vs,E.R w (l[i]'h) vs/\∀(j:Nat) (v:Value),vs[j]? = some v->xs[i*E.sz+j]? = some v
theorem Enc.Vals.nil (w:World):E.Vals w [] []:=⟨by simp,λi h=>by simp at h⟩
theorem Enc.Vals.keep (h:E.Vals w l xs) (hk:Kp w w'):E.Vals w' l xs:=⟨h.1,λi hi=>by obtain⟨vs,h1,h2⟩:=h.2 i hi;exact⟨vs,E.keep hk h1,h2⟩⟩
theorem Enc.Vals.one {x:τ} {vs:List Value} (h:E.R w x vs):E.Vals w [x] vs:=by
 refine⟨by rw[E.len h];simp,λi hi=>?_⟩;have:i=0:=by simpa using hi
 subst this;exact⟨vs,h,λj v hv=>by rw[Nat.zero_mul,Nat.zero_add];exact hv⟩
theorem Enc.Vals.append (h:E.Vals w l xs) (h':E.Vals w l' ys):E.Vals w (l++l') (xs++ys):=by
 have hx:=h.1;refine⟨by rw[List.length_append,List.length_append,h.1,h'.1,Nat.add_mul],λi hi=>?_⟩;by_cases hl:i<l.length
 ·obtain⟨vs,h1,h2⟩:=h.2 i hl;rw[List.getElem_append_left hl];exact⟨vs,h1,λj v hv=>by have:=h2 j v hv;rw[List.getElem?_append_left (List.getElem?_eq_some_iff.1 this).1];exact this⟩
 ·have hi':i-l.length<l'.length:=by rw[List.length_append]at hi;omega
  obtain⟨vs,h1,h2⟩:=h'.2 (i-l.length) hi';rw[List.getElem_append_right (by omega)];refine⟨vs,h1,λj v hv=>?_⟩;have hm:l.length*E.sz<=i*E.sz:=Nat.mul_le_mul_right _ (by omega);rw[List.getElem?_append_right (by omega),show i*E.sz+j-xs.length=(i-l.length)*E.sz+j from by rw[hx,Nat.sub_mul];omega];exact h2 j v hv
theorem Enc.Vals.cells (h:E.Vals w l xs):∀v∈xs,v.oneCell'=true:=by
 intro v hv;obtain⟨k,hk,rfl⟩:=List.getElem_of_mem hv;have hp:=E.pos;have hi:k / E.sz<l.length:=by rw[Nat.div_lt_iff_lt_mul hp];rw[h.1]at hk;exact hk
 obtain⟨vs,h1,h2⟩:=h.2 _ hi;have hj:k % E.sz<vs.length:=by rw[E.len h1];exact Nat.mod_lt _ hp
 have:=h2 _ _ (List.getElem?_eq_getElem hj);rw[show k / E.sz*E.sz+k % E.sz=k from by rw[Nat.mul_comm];exact Nat.div_add_mod _ _,List.getElem?_eq_getElem hk]at this;rw[Option.some.inj this];exact E.one h1 _ (List.getElem_mem hj)
theorem Enc.In.row {b off cap:Nat} (h:E.In w l (some ⟨b,off,none⟩) cap):∃xs,E.Vals w l xs/\∀(j:Nat) (v:Value),xs[j]? = some v->w.cell? ⟨b,off+j,none⟩=some v:=by
 suffices hs:∀n,n<=l.length->∃xs,E.Vals w (l.take n) xs/\∀(j:Nat) (v:Value),xs[j]? = some v->w.cell? ⟨b,off+j,none⟩=some v by obtain⟨xs,h1⟩:=hs l.length (Nat.le_refl _);rw[List.take_of_length_le (Nat.le_refl _)]at h1;exact⟨xs,h1⟩
 intro n
 induction n with
 |zero=>intro _;exact⟨[],by rw[List.take_zero];exact Enc.Vals.nil _,λj v hv=>by simp at hv⟩
 |succ n ih =>
  intro hn;obtain⟨xs,h1,h2⟩:=ih (by omega);obtain⟨vs,h3,h4⟩:=h.get rfl (i:=n) (by omega);have e:l.take (n+1)=l.take n++[l[n]'(by omega)]:=by rw[List.take_succ_eq_append_getElem]
  have hx:xs.length=n*E.sz:=by rw[h1.1,List.length_take,Nat.min_eq_left (by omega)]
  refine⟨xs++vs,by rw[e];exact h1.append (Enc.Vals.one h3),λj v hv=>?_⟩;by_cases hj:j<xs.length
  ·rw[List.getElem?_append_left hj]at hv;exact h2 j v hv
  ·rw[List.getElem?_append_right (by omega)]at hv;have:=h4 _ _ hv;rw[show off+n*E.sz+(j-xs.length)=off+j from by omega]at this;exact this
theorem Enc.Vals.in {b off cap:Nat} (h:E.Vals w l xs) (hc:∀(j:Nat) (v:Value),xs[j]? = some v->w.cell? ⟨b,off+j,none⟩=some v) (hn:l.length<=1073741824) (hcap:l.length<=cap):E.In w l (some ⟨b,off,none⟩) cap:=by refine⟨hcap,hn,Or.inr ⟨b,off,rfl,λi hi=>?_⟩⟩;obtain⟨vs,h1,h2⟩:=h.2 i hi;exact⟨_,List.getElem?_eq_getElem hi,vs,h1,λj v hv=>by have:=hc _ _ (h2 j v hv);rwa [←Nat.add_assoc]at this⟩
def hid (p:Nat->Bool) (v:Value):Nat->Bool:=λk=>p k||v.ownBlock==some k
theorem ze {p:Nat->Bool} {v:Value} {k:Nat}:hid p v k=true<->p k=true\/v.ownBlock=some k:=by simp[hid]
def Enc.Own (E:Enc τ) (t:TypeId) (p:Nat->Bool) (w:World) (B:Nat) (v:Value) (l:List τ):Prop:=∃xs,w.ownsRow B t E.sz v l.length xs/\E.Vals (World.hide w (hid p v)) l xs
theorem Enc.Own.nil (E:Enc τ) (t:TypeId) (p:Nat->Bool) (w:World) (B:Nat):E.Own t p w B (.slice none 0 0) []:=⟨[],World.ownsRow_nil _ _ _ _,Enc.Vals.nil _⟩
theorem Enc.Own.below {t:TypeId} {p:Nat->Bool} {B:Nat} {v:Value} (h:E.Own t p w B v l) (hb:Below w.heap.size w w'):E.Own t p w' B v l:=by obtain⟨xs,h1,h2⟩:=h;exact⟨xs,ownsRow_below h1 hb,h2.keep (zg hb λ_ _ h=>h)⟩
theorem Enc.Own.grown {t:TypeId} {p:Nat->Bool} {B:Nat} {v:Value} {row:Option Nat} (h:E.Own t p w B v l) (hg:w.grownBy w' row) (hr:∀k,row=some k->p k=true/\v.ownBlock≠some k):E.Own t p w' B v l:=by
 obtain⟨xs,h1,h2⟩:=h;refine⟨xs,h1.kept hg (by
  cases hv:v.ownBlock with
  |none=>exact Or.inl rfl
  |some k=>exact Or.inr λe=>(hr k e.symm).2 hv),h2.keep (yE hg (λk hk=>?_) λ_ _ h=>h)⟩
 exact ze.2 (Or.inl (hr k hk).1)
theorem Enc.Own.slice {t:TypeId} {p:Nat->Bool} {B:Nat} {v:Value} (h:E.Own t p w B v l) (hn:l.length<=1073741824):∃a cap,v=.slice a l.length cap/\E.In w l a cap:=by obtain⟨xs,h1,h2⟩:=h;obtain⟨a,cap,rfl,hs⟩:=y6 h1 hn;refine⟨a,cap,rfl,hs.mono λi b o hi hq=>?_⟩;obtain⟨vs,h3,h4⟩:=h2.2 i hi;exact⟨_,List.getElem?_eq_getElem hi,vs,E.keep zc h3,λj u hu=>(hq j (by have:=E.len h3;have:=(List.getElem?_eq_some_iff.1 hu).1;omega)).trans (h4 j u hu)⟩
theorem Enc.Own.sliceP {t:TypeId} {p:Nat->Bool} {B:Nat} {v:Value} (h:E.Own t p w B v l) (hn:l.length<=1073741824) (hp:∀k,B<=k->p k=false):∃a cap,v=.slice a l.length cap/\E.In (World.hide w p) l a cap:=by
 have hlt:∀k,v.ownBlock=some k->B<=k:=λk hk=>by obtain⟨xs,h1,_⟩:=h;exact(h1.lt k hk).1
 obtain⟨xs,h1,h2⟩:=h;obtain⟨a,cap,rfl,hs⟩:=y6 h1 hn;refine⟨a,cap,rfl,hs.1,hs.2.1,hs.2.2.imp id ?_⟩;rintro ⟨b,off,rfl,hq⟩;have hb:B<=b:=by
  rcases h1.2 with ⟨h3,_⟩|⟨g,cap',cur,h3,_⟩
  ·simp at h3
  ·exact hlt b rfl
 refine⟨b,off,rfl,λi hi=>?_⟩;obtain⟨vs,h3,h4⟩:=h2.2 i hi;exact⟨_,List.getElem?_eq_getElem hi,vs,E.keep (zB λk hk=>ze.2 (Or.inl hk)) h3,λj u hu=>zr.2 ⟨hp b hb,(hq i hi j (by have:=E.len h3;have:=(List.getElem?_eq_some_iff.1 hu).1;omega)).trans (h4 j u hu)⟩⟩
end
section
variable {τ : Type} {E : Enc τ} {w w' : World} {l l' : List τ} {xs ys : List Value}
theorem zeV {o:Obj} {row:Option Nat} (h:(w.alloc o).grownBy w' row) (_hr:∀k,row=some k->k<w.heap.size):w.grownBy w' row :=
 ⟨h.os,h.tape,h.output,by have:=h.size;simp at this;omega,λk hk hn=>(h.block k (by simp;omega) hn).trans (Below.heap_alloc _ _ _ hk)⟩
theorem Enc.Own.put {t:TypeId} {p:Nat->Bool} {B:Nat} {v:Value} {g n cap:Nat} (h2:E.Vals (World.hide w (hid p v)) l xs) (hy:E.Vals (World.hide w (hid p v)) l' ys) (hg:w.grownBy w' v.ownBlock) (hat:v.ownBlock=some g\/w.heap.size<=g)
 (ho:w'.ownsRow B t E.sz (.slice (some ⟨g,0,none⟩) n cap) n (xs++ys)) (hn:n=(l++l').length):E.Own t p w' B (.slice (some ⟨g,0,none⟩) n cap) (l++l'):=by
 subst hn;refine⟨_,ho,(h2.append hy).keep (yE hg (λk hk=>ze.2 (Or.inr hk)) λk hk hq=>?_)⟩;rcases ze.1 hq with hq|hq
 ·exact ze.2 (Or.inl hq)
 ·have e:=Option.some.inj hq;simp only at e;subst e;rcases hat with e|e
  ·exact ze.2 (Or.inr e)
  ·omega
theorem yr {P:Program} {ops:Array Oper} {rest:List Oper} {o:Oper} {a:Act} {Q:Exit->Act->World->Prop} {t e:TypeId} (he:Elem P t e E.sz) (w:World) (hgd:o.guard=none) (s x:Operand)
 (ho:o.op=.call { callee:=.builtin .append,args:=#[s,x],argTypes:=#[t,t] })
 (p:Nat->Bool) (B:Nat) (v:Value) (hs:a.eval s=v) (hown:E.Own e p w B v l) (y:τ) (vs:List Value) (hR:E.R (World.hide w (hid p v)) y vs)
 (k c:Nat) (hx:a.eval x=.slice (some ⟨k,0,none⟩) 1 c) (hk:k=w.heap.size) (n:Nat) (hln:l.length=n) (hn:n+1<=1073741824) (hB:B<=w.heap.size)
 (h:∀g cap w',E.Own e p w' B (.slice (some ⟨g,0,none⟩) (n+1) cap) (l++[y])->w.grownBy w' v.ownBlock->(v.ownBlock=some g\/w.heap.size<g)->wpList P ops Q rest (a.put o.dst (.slice (some ⟨g,0,none⟩) (n+1) cap)) w') :
 wpList P ops Q (o::rest) a (w.alloc (.cells vs.toArray e)):=by
 subst hk;subst hln;obtain⟨ht,i,z,bytes,hi,hz,hsz,hby,hzs,h0,hb⟩:=he;obtain⟨xs,h1,h2⟩:=hown;refine wpList_append_lies (w.alloc (.cells vs.toArray e)) hgd s x t ho B e i z E.sz bytes ht hi hz hsz hby hzs h0 v l.length xs hs (h1.alloc _) ⟨w.heap.size,0,none⟩ 1 c vs hx (by rw[E.len hR,Nat.one_mul]) ?_ (E.one hR) (by omega) (by unfold maxLen;omega) ?_ (by simp;omega) (w.heap.size+1) (by simp) (λg cap w' h3 h4 h5 _=>?_)
 ·have:=World.news_of_block (zi w (.cells vs.toArray e));simpa using this
 ·calc (l.length+1)*bytes<=1073741824*1024:=Nat.mul_le_mul hn hb
   _<=_:=by decide
 ·have hg:=zeV h4 λk hk=>(h1.lt k hk).2;refine h g cap w' (Enc.Own.put h2 (Enc.Vals.one hR) hg (h5.imp id (by omega)) h3 (by simp)) hg (h5.imp id (by omega))
theorem YW {P:Program} (w:World) (B:Nat) (t ty e:TypeId) (i:TypeInfo) (size:Nat) (ht:P.underlying t=some (.slice e)) (hi:P.info? e=some i)
 (v:Value) (n:Nat) (ad:Option Addr) (c:Nat) (xs:List Value) (hown:w.ownsRow B e size v n xs) :
 (Builtin.append_ #[t,t] ty #[v,.slice ad 0 c]).run P w=.ok v w:=by
 rcases hown.2 with ⟨rfl,rfl⟩|⟨g,cap,cur,rfl,_,_,hnc,_⟩<;>cases ad
 ·simp[Builtin.append_,run_underlying ht,sizeOf,typeInfo,hi,Builtin.lenOf,Builtin.firstCells]
 ·simp[Builtin.append_,run_underlying ht,sizeOf,typeInfo,hi,Builtin.lenOf,Builtin.firstCells,loadCells,loadCellsFrom]
 ·simp[Builtin.append_,run_underlying ht,sizeOf,typeInfo,hi,Builtin.lenOf,Builtin.firstCells,hnc,storeCells]
 ·simp[Builtin.append_,run_underlying ht,sizeOf,typeInfo,hi,Builtin.lenOf,Builtin.firstCells,hnc,storeCells,loadCells,loadCellsFrom]
theorem xF {P:Program} {ops:Array Oper} {rest:List Oper} {o:Oper} {a:Act} {Q:Exit->Act->World->Prop} {t e:TypeId} (he:Elem P t e E.sz) (w:World) (hgd:o.guard=none) (s x:Operand)
 (ho:o.op=.call { callee:=.builtin .append,args:=#[s,x],argTypes:=#[t,t] })
 (p:Nat->Bool) (B:Nat) (v:Value) (hs:a.eval s=v) (hown:E.Own e p w B v l) (ad:Option Addr) (c:Nat) (hR:E.In (World.hide w (hid p v)) l' ad c)
 (hx:a.eval x=.slice ad l'.length c) (hn:l.length+l'.length<=1073741824) (hB:B<=w.heap.size)
 (h:∀v' w',E.Own e p w' B v' (l++l')->w.grownBy w' v.ownBlock->(v'.ownBlock=v.ownBlock\/∃g,v'.ownBlock=some g/\w.heap.size<=g)->wpList P ops Q rest (a.put o.dst v') w') :
 wpList P ops Q (o::rest) a w:=by
 obtain⟨ht,i,z,bytes,hi,hz,hsz,hby,hzs,h0,hb⟩:=he;obtain⟨xs,h1,h2⟩:=hown;have hsame:l'.length=0->wpList P ops Q rest (a.put o.dst v) w:=λhl=>by obtain rfl:l'=[]:=List.eq_nil_of_length_eq_zero hl;exact h v w ⟨xs,by simpa using h1,by simpa using h2⟩ (World.grownBy.refl _ _) (Or.inl rfl)
 by_cases hl:l'.length=0
 ·rw[hl]at hx;exact Lib.wpList_append_run w hgd s x t t ho v (.slice ad 0 c) hs hx v w (YW w B t o.type e i E.sz ht hi v l.length ad c xs h1) (hsame hl)
 ·rcases hR.2.2 with h3|⟨b,off,rfl,_⟩
  ·exact absurd h3 hl
  ·obtain⟨ys,h4,h5⟩:=hR.row;refine wpList_append_lies w hgd s x t ho B e i z E.sz bytes ht hi hz hsz hby hzs h0 v l.length xs hs h1 ⟨b,off,none⟩ l'.length c ys hx h4.1 ?_ h4.cells (by omega) (by unfold maxLen;omega) ?_ hB w.heap.size rfl (λg cap w' h6 h7 h8 _=>?_)
   ·intro j u hu;have:((⟨b,off,none⟩:Addr).add j)=⟨b,off+j,none⟩:=by
     unfold Addr.add;split<;>simp_all
    rw[this];exact zc _ _ (h5 j u hu)
   ·calc (l.length+l'.length)*bytes<=1073741824*1024:=Nat.mul_le_mul hn hb
     _<=_:=by decide
   ·refine h _ w' (Enc.Own.put h2 h4 h7 (h8.imp id (by omega)) h6 (by simp)) h7 (h8.imp (λe=>e.symm) λe=>⟨g,rfl,by omega⟩)
end
theorem zgI (op n:Int) (s:ByteArray) (args:List Ex) (a:Option Addr) (cap:Nat) (w:World) (hE:yA w (.mk op n s args) a cap) (hn:(Ex.mk op n s args).nodes.length<=1000000000) :
 Calls Tryz.prog 176 #[.agg #[.int .i64 op,.int .i64 n,.string s,.slice a args.length cap]] w λe w' =>
  e=.returned (.pointer (some ⟨w.heap.size+1,0,none⟩))/\zf0 w.heap.size (w.heap.size+1) ⟨(Ex.mk op n s args).nodes.length,(Ex.mk op n s args).depth,yj (Ex.mk op n s args).nodes,zG [2] (.mk op n s args),zG [3,24] (.mk op n s args)⟩ w'/\Below w.heap.size w w':=by
 have hB:Below w.heap.size w ((w.alloc (.cells #[.int .i64 op,.int .i64 n,.string s,.slice a args.length cap] 24)).alloc (.cells #[.int .i64 0,.int .i64 0,.int .i64 0,.slice none 0 0,.slice none 0 0] 233)):=bel
 have hC:=ziz w.heap.size (w.heap.size+1) w rfl (.mk op n s args) ⟨0,0,0,[],[]⟩ 1 a cap _ (by simp;omega) (by omega) (by simp) (by simp) (by simp)
  ⟨by omega,.slice none 0 0,.slice none 0 0,zm _ _ _ (by simp),World.ownsRow_nil _ _ _ _,World.ownsRow_nil _ _ _ _,by simp[Value.ownBlock]⟩ hB hE
 rw[zdP]at hC;have HC:=Lib.hid hC;have HB:=Lib.hid hB;simp only[zL,Ex.op_mk,Ex.n_mk,Ex.name_mk,Ex.args_mk]at HC;clear hC hB hE hn;go_enter Tryz.func176, Tryz.ntmps176;go_wp2_with fail;refine HC.out.mono ?_;rintro e w2 ⟨rfl,hI,hK⟩;have H2:=Lib.hid (⟨hI,hK⟩:_/\_);clear hI hK;go_wp2_with fail;go_ret;exact⟨rfl,H2.out.1,HB.out.trans (H2.out.2.below (by simp;omega))⟩
theorem zdG (op n:Int) (s:ByteArray) (args:List Ex) (a:Option Addr) (cap:Nat) (w:World) (hE:yA w (.mk op n s args) a cap) (hn:(Ex.mk op n s args).nodes.length<=1000000000) :
 Calls Tryz.prog 103 #[.agg #[.int .i64 op,.int .i64 n,.string s,.slice a args.length cap]] w λe w'=>e=.returned (.int .i64 (zD (.mk op n s args)))/\Below w.heap.size w w':=by
 have hB:Below w.heap.size w (w.alloc (.cells #[.int .i64 op,.int .i64 n,.string s,.slice a args.length cap] 24)):=bel;have HC:=Lib.hid (zgI op n s args a cap _ (hE.keep (za hB)) hn);have HB:=Lib.hid hB;have HV:Hid (zD (.mk op n s args)=if yj (Ex.mk op n s args).nodes=0/\(24<(Ex.mk op n s args).depth\/400<(Ex.mk op n s args).nodes.length) then 2 else yj (Ex.mk op n s args).nodes):=rfl;generalize zD (.mk op n s args)=vv at HV⊢;clear hB hE hn;generalize yj (Ex.mk op n s args).nodes=ff at HC HV;generalize (Ex.mk op n s args).depth=dd at HC HV;generalize (Ex.mk op n s args).nodes.length=nn at HC HV;go_enter Tryz.func103, Tryz.ntmps103;go_wp2_with fail;refine HC.out.mono ?_;rintro e w2 ⟨rfl,hI,hb⟩;obtain⟨_,v1,v2,hp,_⟩:=hI;simp only[World.size_alloc]at hp;have c0:w2.cell? ⟨w.heap.size+1+1,0,none⟩=some (.int .i64 nn):=by simp[World.cell?,hp]
 have c1:w2.cell? ⟨w.heap.size+1+1,1,none⟩=some (.int .i64 dd):=by simp[World.cell?,hp]
 have c2:w2.cell? ⟨w.heap.size+1+1,2,none⟩=some (.int .i64 ff):=by simp[World.cell?,hp]
 have H2:Hid (Below w.heap.size w w2):=HB.out.trans (hb.mono (by simp));clear hp hb;go_wp2_with fail;all_goals go_ret
 all_goals refine⟨?_,H2.out⟩
 all_goals rw[HV.out]
 all_goals congr 2
 all_goals simp_all
 all_goals (try omega)
def exR (w:World) (e:Ex) (vs:List Value):Prop:=∃a cap,vs=[.int .i64 e.op,.int .i64 e.n,.string e.name,.slice a e.args.length cap]/\yA w e a cap
def exE:Enc Ex where
 sz:=4
 R:=exR
 pos:=by decide
 len:=by rintro _ _ _ ⟨_,_,rfl,_⟩;rfl
 keep:=by rintro _ _ _ _ hk ⟨a,cap,rfl,h⟩;exact⟨a,cap,rfl,h.keep hk⟩
 one:=by rintro _ _ _ ⟨_,_,rfl,_⟩ v hv;simp at hv;rcases hv with rfl|rfl|rfl|rfl<;>rfl
theorem zht {w:World} {e:Ex} {b o:Nat}:exE.At w e b o<->zhl w e b o:=by
 rw[Y1];constructor
 ·rintro ⟨vs,⟨a,cap,rfl,h⟩,hc⟩;exact⟨a,cap,hc 0 _ rfl,hc 1 _ rfl,hc 2 _ rfl,hc 3 _ rfl,h⟩
 ·rintro ⟨a,cap,h0,h1,h2,h3,h⟩;refine⟨_,⟨a,cap,rfl,h⟩,λj v hv=>?_⟩
  match j with
  |0=>simp at hv;subst hv;exact h0
  |1=>simp at hv;subst hv;exact h1
  |2=>simp at hv;subst hv;exact h2
  |3=>simp at hv;subst hv;exact h3
  |j+4=>simp at hv
theorem zco {w:World} {l:List Ex} {a:Option Addr} {cap:Nat}:exE.In w l a cap<->qS w l a cap :=
 ⟨λh=>h.mono λ_ _ _ _ ⟨x,h1,h2⟩=>⟨x,h1,zht.1 h2⟩,λh=>h.mono λ_ _ _ _ ⟨x,h1,h2⟩=>⟨x,h1,zht.2 h2⟩⟩
def sgR (_:World) (s:ByteArray×Int) (vs:List Value):Prop:=vs=[.string s.1,.int .i64 s.2]
def sgE:Enc (ByteArray×Int) where
 sz:=2
 R:=sgR
 pos:=by decide
 len:=by rintro _ _ _ rfl;rfl
 keep:=by rintro _ _ _ _ _ h;exact h
 one:=by rintro _ _ _ rfl v hv;simp at hv;rcases hv with rfl|rfl<;>rfl
theorem zbe {w:World} {s:ByteArray×Int} {b o:Nat}:sgE.At w s b o<->w.cell? ⟨b,o,none⟩=some (.string s.1)/\w.cell? ⟨b,o+1,none⟩=some (.int .i64 s.2):=by
 constructor
 ·rintro ⟨vs,rfl,hc⟩;exact⟨hc 0 _ rfl,hc 1 _ rfl⟩
 ·rintro ⟨h0,h1⟩;refine⟨_,rfl,λj v hv=>?_⟩
  match j with
  |0=>simp at hv;subst hv;exact h0
  |1=>simp at hv;subst hv;exact h1
  |j+2=>simp at hv
theorem Zm {w:World} {l:List (ByteArray×Int)} {a:Option Addr} {cap:Nat}:sgE.In w l a cap<->yi w l a cap :=
 ⟨λh=>h.mono λ_ _ _ _ ⟨x,h1,h2⟩=>⟨x,h1,zbe.1 h2⟩,λh=>h.mono λ_ _ _ _ ⟨x,h1,h2⟩=>⟨x,h1,zbe.2 h2⟩⟩
def inR (_:World) (n:Int) (vs:List Value):Prop:=vs=[.int .i64 n]
def inE:Enc Int where
 sz:=1
 R:=inR
 pos:=by decide
 len:=by rintro _ _ _ rfl;rfl
 keep:=by rintro _ _ _ _ _ h;exact h
 one:=by rintro _ _ _ rfl v hv;simp at hv;subst hv;rfl
theorem Qq {w:World} {n:Int} {b o:Nat}:inE.At w n b o<->w.cell? ⟨b,o,none⟩=some (.int .i64 n):=by
 constructor
 ·rintro ⟨vs,rfl,hc⟩;exact hc 0 _ rfl
 ·intro h0;refine⟨_,rfl,λj v hv=>?_⟩
  match j with
  |0=>simp at hv;subst hv;exact h0
  |j+1=>simp at hv
theorem qR {w:World} {l:List Int} {a:Option Addr} {cap:Nat}:inE.In w l a cap<->IntsIn w l a cap :=
 ⟨λh=>h.mono λ_ _ _ _ ⟨x,h1,h2⟩=>⟨x,h1,Qq.1 h2⟩,λh=>h.mono λ_ _ _ _ ⟨x,h1,h2⟩=>⟨x,h1,Qq.2 h2⟩⟩
structure xG where
 name:ByteArray
 expr:Ex
def bdR (w:World) (b:xG) (vs:List Value):Prop:=∃a cap,vs=[.string b.name,.int .i64 b.expr.op,.int .i64 b.expr.n,.string b.expr.name,.slice a b.expr.args.length cap]/\b.name.size<=1073741824/\yA w b.expr a cap
def bdE:Enc xG where
 sz:=5
 R:=bdR
 pos:=by decide
 len:=by rintro _ _ _ ⟨_,_,rfl,_⟩;rfl
 keep:=by rintro _ _ _ _ hk ⟨a,cap,rfl,h0,h⟩;exact⟨a,cap,rfl,h0,h.keep hk⟩
 one:=by rintro _ _ _ ⟨_,_,rfl,_⟩ v hv;simp at hv;rcases hv with rfl|rfl|rfl|rfl|rfl<;>rfl
structure zk where
 fr:Int
 to:Int
 guards:List Ex
 sets:List xG
def edR (w:World) (e:zk) (vs:List Value):Prop:=∃ag cg aS cs,vs=[.int .i64 e.fr,.int .i64 e.to,.slice ag e.guards.length cg,.slice aS e.sets.length cs]/\exE.In w e.guards ag cg/\bdE.In w e.sets aS cs
def edE:Enc zk where
 sz:=4
 R:=edR
 pos:=by decide
 len:=by rintro _ _ _ ⟨_,_,_,_,rfl,_⟩;rfl
 keep:=by rintro _ _ _ _ hk ⟨ag,cg,aS,cs,rfl,h1,h2⟩;exact⟨ag,cg,aS,cs,rfl,h1.keep hk,h2.keep hk⟩
 one:=by rintro _ _ _ ⟨_,_,_,_,rfl,_⟩ v hv;simp at hv;rcases hv with rfl|rfl|rfl|rfl<;>rfl
structure zt where
 states:Int
 edges:List zk
 accept:List Int
structure qn where
 ae:Option Addr
 ce:Nat
 aa:Option Addr
 ca:Nat
structure yb (w:World) (n:zt) (x:qn):Prop where
 es:edE.In w n.edges x.ae x.ce
 ac:IntsIn w n.accept x.aa x.ca
theorem yb.keep {w w':World} {n:zt} {x:qn} (h:yb w n x) (hk:Kp w w'):yb w' n x:=⟨h.es.keep hk,h.ac.keep hk⟩
def Yh (n:zt) (x:qn):List Value:=[.int .i64 n.states,.slice x.ae n.edges.length x.ce,.slice x.aa n.accept.length x.ca]
def ye (n:zt) (x:qn):Value:=.agg (Yh n x).toArray
def nfR (w:World) (n:zt) (vs:List Value):Prop:=∃x,vs=Yh n x/\yb w n x
def nfE:Enc zt where
 sz:=3
 R:=nfR
 pos:=by decide
 len:=by rintro _ _ _ ⟨_,rfl,_⟩;rfl
 keep:=by rintro _ _ _ _ hk ⟨x,rfl,h⟩;exact⟨x,rfl,h.keep hk⟩
 one:=by rintro _ _ _ ⟨_,rfl,_⟩ v hv;simp[Yh]at hv;rcases hv with rfl|rfl|rfl<;>rfl
structure yV where
 state:Int
 env:List (ByteArray×Int)
def thR (w:World) (t:yV) (vs:List Value):Prop:=∃a cap,vs=[.int .i64 t.state,.slice a t.env.length cap]/\yi w t.env a cap
def thE:Enc yV where
 sz:=2
 R:=thR
 pos:=by decide
 len:=by rintro _ _ _ ⟨_,_,rfl,_⟩;rfl
 keep:=by rintro _ _ _ _ hk ⟨a,cap,rfl,h⟩;exact⟨a,cap,rfl,h.keep hk⟩
 one:=by rintro _ _ _ ⟨_,_,rfl,_⟩ v hv;simp at hv;rcases hv with rfl|rfl<;>rfl
inductive Tq where
 |mk (op lo hi:Int) (expr:Ex) (name:ByteArray) (args:List Tq)
def Tq.op:Tq->Int | .mk op _ _ _ _ _=>op
def Tq.lo:Tq->Int | .mk _ lo _ _ _ _=>lo
def Tq.hi:Tq->Int | .mk _ _ hi _ _ _=>hi
def Tq.expr:Tq->Ex | .mk _ _ _ e _ _=>e
def Tq.name:Tq->ByteArray | .mk _ _ _ _ s _=>s
def Tq.args:Tq->List Tq | .mk _ _ _ _ _ l=>l
noncomputable def Tq.para {α:Type} (f:Tq->List α->α) (e:Tq):α :=
 Tq.rec (motive_1:=λ_=>α) (motive_2:=λ_=>List α) (λop lo hi x s args ih=>f (.mk op lo hi x s args) ih) [] (λ_ _ a ar=>a::ar) e
theorem Tq.para_mk {α:Type} (f:Tq->List α->α) (op lo hi:Int) (x:Ex) (s:ByteArray) (args:List Tq) :
 Tq.para f (.mk op lo hi x s args)=f (.mk op lo hi x s args) (args.map (Tq.para f)):=by
 have h:∀l:List Tq,(Tq.rec_1 (motive_1:=λ_=>α) (motive_2:=λ_=>List α) (λop lo hi x s args ih=>f (.mk op lo hi x s args) ih) [] (λ_ _ a ar=>a::ar) l:List α)=l.map (Tq.para f):=by
  intro l
  induction l with
  |nil=>rfl
  |cons e l ih=>simp only[List.map_cons,←ih];rfl
 show f (.mk op lo hi x s args) _=_;rw[←h args]
theorem Tq.para_eq {α:Type} (f:Tq->List α->α) (e:Tq):Tq.para f e=f e (e.args.map (Tq.para f)):=by cases e;exact Tq.para_mk _ _ _ _ _ _ _
theorem Tq.ind {P:Tq->Prop} (h:∀e:Tq,(∀a,a∈e.args->P a)->P e) (e:Tq):P e :=
 Tq.rec (motive_1:=P) (motive_2:=λl=>∀a,a∈l->P a)
  (λop lo hi x s args ih=>h (.mk op lo hi x s args) ih) (λ_ ha=>by cases ha)
  (λe l he hl a ha=>by
   cases ha with
   |head=>exact he
   |tail _ h'=>exact hl a h') e
noncomputable def Tq.nodes (e:Tq):Nat:=e.para λ_ ls=>1+ls.sum
theorem Tq.nodes_eq (e:Tq):e.nodes=1+(e.args.map Tq.nodes).sum:=by unfold Tq.nodes;rw[Tq.para_eq]
noncomputable def Tq.depth (e:Tq):Nat:=e.para λ_ ls=>ls.foldl max 0+1
theorem Tq.depth_eq (e:Tq):e.depth=(e.args.map Tq.depth).foldl max 0+1:=by unfold Tq.depth;rw[Tq.para_eq]
def yZ (s:Tq) (ae:Option Addr) (ce:Nat) (a:Option Addr) (cap:Nat):List Value :=
 [.int .i64 s.op,.int .i64 s.lo,.int .i64 s.hi,.int .i64 s.expr.op,.int .i64 s.expr.n,.string s.expr.name,.slice ae s.expr.args.length ce,.string s.name,.slice a s.args.length cap]
def xw (s:Tq) (ae:Option Addr) (ce:Nat) (a:Option Addr) (cap:Nat):Value:=.agg (yZ s ae ce a cap).toArray
noncomputable def zhL (w:World) (s:Tq):Nat->Nat->Prop :=
 s.para λs ps b o=>∃ae ce a cap,(∀(j:Nat) (v:Value),(yZ s ae ce a cap)[j]? = some v->w.cell? ⟨b,o+j,none⟩=some v)/\s.name.size<=1073741824/\yA w s.expr ae ce /\
  zw 9 s.args.length a cap (λi b o=>∃p,ps[i]? = some p/\p b o)
def qX (w:World) (l:List Tq) (a:Option Addr) (cap:Nat):Prop:=zw 9 l.length a cap (λi b o=>∃s,l[i]? = some s/\zhL w s b o)
structure X4 (w:World) (s:Tq) (ae:Option Addr) (ce:Nat) (a:Option Addr) (cap:Nat):Prop where
 nm:s.name.size<=1073741824
 ex:yA w s.expr ae ce
 ar:qX w s.args a cap
theorem Y4 (w:World) (s:Tq) (b o:Nat):zhL w s b o<->∃ae ce a cap,(∀(j:Nat) (v:Value),(yZ s ae ce a cap)[j]? = some v->w.cell? ⟨b,o+j,none⟩=some v)/\X4 w s ae ce a cap:=by
 unfold zhL;rw[Tq.para_eq];constructor
 ·rintro ⟨ae,ce,a,cap,h0,h1,h2,h3⟩;refine⟨ae,ce,a,cap,h0,h1,h2,h3.mono λi b o hi=>?_⟩;rintro ⟨p,hp,hq⟩;rw[List.getElem?_map]at hp;obtain⟨s',hs,rfl⟩:=Option.map_eq_some_iff.1 hp;exact⟨s',hs,hq⟩
 ·rintro ⟨ae,ce,a,cap,h0,h1,h2,h3⟩;refine⟨ae,ce,a,cap,h0,h1,h2,h3.mono λi b o hi=>?_⟩;rintro ⟨s',hs,hq⟩;exact⟨_,by rw[List.getElem?_map,hs];rfl,hq⟩
theorem zhL.keep {w w':World} (hk:Kp w w') (s:Tq):∀b o,zhL w s b o->zhL w' s b o:=by
 induction s using Tq.ind with
 |h s ih =>intro b o h;rw[Y4]at h⊢;obtain⟨ae,ce,a,cap,h0,h1,h2,h3⟩:=h;refine⟨ae,ce,a,cap,λj v hv=>hk _ _ (h0 j v hv),h1,h2.keep hk,h3.mono λi b o _=>?_⟩;rintro ⟨e',he',hp⟩;exact⟨e',he',ih e' (List.mem_of_getElem? he') _ _ hp⟩
theorem qX.keep {w w':World} (hk:Kp w w') {l:List Tq} {a:Option Addr} {cap:Nat} (h:qX w l a cap):qX w' l a cap :=
 h.mono λ_ _ _ _ ⟨e',he',hp⟩=>⟨e',he',zhL.keep hk _ _ _ hp⟩
theorem X4.keep {w w':World} (hk:Kp w w') {s:Tq} {ae:Option Addr} {ce:Nat} {a:Option Addr} {cap:Nat} (h:X4 w s ae ce a cap):X4 w' s ae ce a cap :=
 ⟨h.nm,h.ex.keep hk,h.ar.keep hk⟩
theorem qX.get {w:World} {l:List Tq} {a:Option Addr} {cap:Nat} (h:qX w l a cap) {b off:Nat} (ha:a=some ⟨b,off,none⟩) {i:Nat} (hi:i<l.length) :
 ∃ae ce a' cap',(∀(j:Nat) (v:Value),(yZ (l[i]'hi) ae ce a' cap')[j]? = some v->w.cell? ⟨b,off+i*9+j,none⟩=some v)/\X4 w (l[i]'hi) ae ce a' cap':=by
 rcases h.2.2 with h|⟨b',off',ha',hq⟩
 ·omega
 ·rw[ha]at ha';simp only[Option.some.injEq,Addr.mk.injEq,and_true]at ha';obtain⟨rfl,rfl⟩:=ha';obtain⟨e',he',hp⟩:=hq i hi;rw[List.getElem?_eq_getElem hi]at he';obtain rfl:=Option.some.inj he';exact(Y4 _ _ _ _).1 hp
end Go.Proofs.YtnfkbliokjjggaaGreatDoor
