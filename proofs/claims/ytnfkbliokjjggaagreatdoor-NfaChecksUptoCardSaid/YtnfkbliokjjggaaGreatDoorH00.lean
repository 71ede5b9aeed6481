/- What the expressions of the program are, as data, and where they lie in memory. -/
import Derived.WalkKit
import Derived.WalkSmall
import Derived.BigQuiet
import Derived.Deep.QuietTactic
import Derived.Lib.Hide
import Derived.Test.YtnfkbliokjjggaaGreatDoorHSh
import Derived.WalkLawsBesides
import Derived.WalkSpells
set_option maxHeartbeats 400000
set_option linter.unusedSimpArgs false
set_option linter.unusedVariables false
set_option linter.unnecessarySimpa false
namespace Go.Proofs.YtnfkbliokjjggaaGreatDoor
open Go.RowKit
theorem sz {P:Prop} (h:P:=by first|omega|(simp only[World.size_alloc,World.size_setCell,World.size_drew,World.heap_drewN]<;>omega)|(simp<;>omega)):P:=h
theorem bel {B:Nat} {a w:World} (h:Below B a w:=by repeat (first|assumption|exact Below.refl _ _|refine Below.drew ?_|refine below_drewN ?_ _|refine Below.alloc ?_ (by first|omega|(simp only[World.size_alloc,World.size_setCell,World.size_drew,World.heap_drewN]<;>omega)|(simp<;>omega)) _|refine Below.setCell ?_ (by first|omega|(simp only[World.size_alloc,World.size_setCell,World.size_drew,World.heap_drewN]<;>omega)|(simp<;>omega)) _)):Below B a w:=h
inductive Ex where
 |mk (op n:Int) (name:ByteArray) (args:List Ex)
def Ex.op:Ex->Int | .mk op _ _ _=>op
def Ex.n:Ex->Int | .mk _ n _ _=>n
def Ex.name:Ex->ByteArray | .mk _ _ s _=>s
def Ex.args:Ex->List Ex | .mk _ _ _ l=>l
theorem Ex.op_mk (op n:Int) (s:ByteArray) (l:List Ex):(Ex.mk op n s l).op=op:=rfl
theorem Ex.n_mk (op n:Int) (s:ByteArray) (l:List Ex):(Ex.mk op n s l).n=n:=rfl
theorem Ex.name_mk (op n:Int) (s:ByteArray) (l:List Ex):(Ex.mk op n s l).name=s:=rfl
theorem Ex.args_mk (op n:Int) (s:ByteArray) (l:List Ex):(Ex.mk op n s l).args=l:=rfl
noncomputable def Ex.para {α:Type} (f:Ex->List α->α) (e:Ex):α :=
 Ex.rec (motive_1:=λ_=>α) (motive_2:=λ_=>List α) (λop n s args ih=>f (.mk op n s args) ih) [] (λ_ _ a ar=>a::ar) e
theorem Ex.para_mk {α:Type} (f:Ex->List α->α) (op n:Int) (s:ByteArray) (args:List Ex) :
 Ex.para f (.mk op n s args)=f (.mk op n s args) (args.map (Ex.para f)):=by
 have h:∀l:List Ex,(Ex.rec_1 (motive_1:=λ_=>α) (motive_2:=λ_=>List α) (λop n s args ih=>f (.mk op n s args) ih) [] (λ_ _ a ar=>a::ar) l:List α)=l.map (Ex.para f):=by
  intro l
  induction l with
  |nil=>rfl
  |cons e l ih=>simp only[List.map_cons,←ih];rfl
 show f (.mk op n s args) _=_;rw[←h args]
theorem Ex.para_eq {α:Type} (f:Ex->List α->α) (e:Ex):Ex.para f e=f e (e.args.map (Ex.para f)):=by cases e;exact Ex.para_mk _ _ _ _ _
theorem Ex.ind {P:Ex->Prop} (h:∀e:Ex,(∀a,a∈e.args->P a)->P e) (e:Ex):P e :=
 Ex.rec (motive_1:=P) (motive_2:=λl=>∀a,a∈l->P a)
  (λop n s args ih=>h (.mk op n s args) ih) (λ_ ha=>by cases ha)
  (λe l he hl a ha=>by
   cases ha with
   |head=>exact he
   |tail _ h'=>exact hl a h') e
noncomputable def Ex.nodes (e:Ex):List Ex:=e.para λe ls=>e::ls.flatten
theorem Ex.nodes_eq (e:Ex):e.nodes=e::(e.args.map Ex.nodes).flatten:=by unfold Ex.nodes;rw[Ex.para_eq]
noncomputable def Ex.depth (e:Ex):Nat:=e.para λ_ ls=>ls.foldl max 0+1
theorem Ex.depth_eq (e:Ex):e.depth=(e.args.map Ex.depth).foldl max 0+1:=by unfold Ex.depth;rw[Ex.para_eq]
def zw (sz len:Nat) (a:Option Addr) (cap:Nat) (Q:Nat->Nat->Nat->Prop):Prop :=
 len<=cap/\len<=1073741824/\(len=0\/∃b off,a=some ⟨b,off,none⟩/\∀i,i<len->Q i b (off+i*sz))
noncomputable def zhl (w:World) (e:Ex):Nat->Nat->Prop :=
 e.para λe ps b o=>∃a cap,w.cell? ⟨b,o,none⟩=some (.int .i64 e.op)/\w.cell? ⟨b,o+1,none⟩=some (.int .i64 e.n)/\w.cell? ⟨b,o+2,none⟩=some (.string e.name) /\
  w.cell? ⟨b,o+3,none⟩=some (.slice a ps.length cap)/\e.name.size<=1073741824/\zw 4 ps.length a cap (λi b o=>∃p,ps[i]? = some p/\p b o)
def qS (w:World) (l:List Ex) (a:Option Addr) (cap:Nat):Prop:=zw 4 l.length a cap (λi b o=>∃e,l[i]? = some e/\zhl w e b o)
def yA (w:World) (e:Ex) (a:Option Addr) (cap:Nat):Prop:=e.name.size<=1073741824/\qS w e.args a cap
theorem Y1 (w:World) (e:Ex) (b o:Nat):zhl w e b o<->∃a cap,w.cell? ⟨b,o,none⟩=some (.int .i64 e.op)/\w.cell? ⟨b,o+1,none⟩=some (.int .i64 e.n)/\w.cell? ⟨b,o+2,none⟩=some (.string e.name) /\
 w.cell? ⟨b,o+3,none⟩=some (.slice a e.args.length cap)/\yA w e a cap:=by
 unfold zhl;rw[Ex.para_eq];simp only[List.length_map,List.getElem?_map,Option.map_eq_some_iff,yA,qS];constructor<;>rintro ⟨a,cap,h0,h1,h2,h3,h4,h5⟩
 ·refine⟨a,cap,h0,h1,h2,h3,h4,h5.1,h5.2.1,?_⟩;rcases h5.2.2 with h|⟨b,off,ha,hq⟩
  ·exact Or.inl h
  ·refine Or.inr ⟨b,off,ha,λi hi=>?_⟩;obtain⟨p,⟨e',he',rfl⟩,hp⟩:=hq i hi;exact⟨e',he',hp⟩
 ·refine⟨a,cap,h0,h1,h2,h3,h4,h5.1,h5.2.1,?_⟩;rcases h5.2.2 with h|⟨b,off,ha,hq⟩
  ·exact Or.inl h
  ·refine Or.inr ⟨b,off,ha,λi hi=>?_⟩;obtain⟨e',he',hp⟩:=hq i hi;exact⟨_,⟨e',he',rfl⟩,hp⟩
theorem zw.mono {sz len:Nat} {a:Option Addr} {cap:Nat} {Q Q':Nat->Nat->Nat->Prop} (h:zw sz len a cap Q) (hq:∀i b o,i<len->Q i b o->Q' i b o):zw sz len a cap Q':=by
 refine⟨h.1,h.2.1,?_⟩;rcases h.2.2 with h|⟨b,off,ha,hi⟩
 ·exact Or.inl h
 ·exact Or.inr ⟨b,off,ha,λi hl=>hq _ _ _ hl (hi i hl)⟩
theorem zhl.keep {w w':World} (hk:∀a v,w.cell? a=some v->w'.cell? a=some v) (e:Ex):∀b o,zhl w e b o->zhl w' e b o:=by
 induction e using Ex.ind with
 |h e ih =>intro b o h;rw[Y1]at h⊢;obtain⟨a,cap,h0,h1,h2,h3,h4,h5⟩:=h;refine⟨a,cap,hk _ _ h0,hk _ _ h1,hk _ _ h2,hk _ _ h3,h4,h5.mono λi b o _=>?_⟩;rintro ⟨e',he',hp⟩;exact⟨e',he',ih e' (List.mem_of_getElem? he') _ _ hp⟩
theorem qS.keep {w w':World} (hk:∀a v,w.cell? a=some v->w'.cell? a=some v) {l:List Ex} {a:Option Addr} {cap:Nat} (h:qS w l a cap):qS w' l a cap :=
 h.mono λ_ _ _ _ ⟨e',he',hp⟩=>⟨e',he',hp.keep hk _ _ _⟩
theorem yA.keep {w w':World} (hk:∀a v,w.cell? a=some v->w'.cell? a=some v) {e:Ex} {a:Option Addr} {cap:Nat} (h:yA w e a cap):yA w' e a cap :=
 ⟨h.1,h.2.keep hk⟩
theorem za {w w':World} (hb:Below w.heap.size w w'):∀a v,w.cell? a=some v->w'.cell? a=some v :=
 λ_ _ h=>(hb.cell (World.block_lt_of_cell? _ _ h)).trans h
theorem ziW {W w1:World} (hb:Below W.heap.size W w1):(∀b o,b<W.heap.size->w1.cell? ⟨b,o,none⟩=W.cell? ⟨b,o,none⟩)/\(∀b o,b<W.heap.size->w1.frozen? ⟨b,o,none⟩=W.frozen? ⟨b,o,none⟩) :=
 ⟨λb o h=>hb.cell (p:=⟨b,o,none⟩) h,λb o h=>hb.frozen (p:=⟨b,o,none⟩) h⟩
theorem fr {P:Program} {f:FuncId} {args:Array Value} {w:World} {Q:Ending->Prop} {B:Nat} {W0:World} (h:Calls P f args w λe w'=>Q e/\Below w.heap.size w w') (hW:Below B W0 w) (hB:B<=w.heap.size) :
 Calls P f args w λe w'=>Q e/\(∀b o,b<w.heap.size->w'.cell? ⟨b,o,none⟩=w.cell? ⟨b,o,none⟩)/\(∀b o,b<w.heap.size->w'.frozen? ⟨b,o,none⟩=w.frozen? ⟨b,o,none⟩)/\w.heap.size<=w'.heap.size/\Below B W0 w' :=
 h.mono λ_ _ ⟨hq,hb⟩=>⟨hq,(ziW hb).1,(ziW hb).2,hb.size,hW.trans (hb.mono hB)⟩
theorem qS.get {w:World} {l:List Ex} {a:Option Addr} {cap:Nat} (h:qS w l a cap) {b off:Nat} (ha:a=some ⟨b,off,none⟩) {i:Nat} (hi:i<l.length) :
 ∃a' cap',w.cell? ⟨b,off+i*4,none⟩=some (.int .i64 (l[i]'hi).op)/\w.cell? ⟨b,off+i*4+1,none⟩=some (.int .i64 (l[i]'hi).n)/\w.cell? ⟨b,off+i*4+2,none⟩=some (.string (l[i]'hi).name) /\
  w.cell? ⟨b,off+i*4+3,none⟩=some (.slice a' (l[i]'hi).args.length cap')/\yA w (l[i]'hi) a' cap':=by
 rcases h.2.2 with h|⟨b',off',ha',hq⟩
 ·omega
 ·rw[ha]at ha';simp only[Option.some.injEq,Addr.mk.injEq,and_true]at ha';obtain⟨rfl,rfl⟩:=ha';obtain⟨e',he',hp⟩:=hq i hi;rw[List.getElem?_eq_getElem hi]at he';obtain rfl:=Option.some.inj he';exact(Y1 _ _ _ _).1 hp
theorem zw.addr {sz len:Nat} {a:Option Addr} {cap:Nat} {Q:Nat->Nat->Nat->Prop} (h:zw sz len a cap Q):len=0\/∃b off,a=some ⟨b,off,none⟩:=by
 rcases h.2.2 with h|⟨b,off,ha,_⟩
 ·exact Or.inl h
 ·exact Or.inr ⟨b,off,ha⟩
def Elem (P:Program) (t e:TypeId) (size:Nat):Prop:=P.underlying t=some (.slice e)/\∃i z bytes,P.info? e=some i/\i.zero=some z/\i.size=size/\i.bytes=bytes/\z.cells.size=size/\0<size/\bytes<=1024
theorem Elem.of {P:Program} {t e:TypeId} {z:Value} {size bytes:Nat} (ht:P.underlying t=some (.slice e)) (h:(P.info? e).map (λi=>(i.zero,i.size,i.bytes))=some (some z,size,bytes)) (hz:z.cells.size=size) (hs:0<size) (hb:bytes<=1024):Elem P t e size:=by obtain⟨i,h1,h2,h3,h4⟩:=info_parts h;exact⟨ht,i,z,bytes,h1,h2,h3,h4,hz,hs,hb⟩
theorem zbV {P:Program} {ops:Array Oper} {rest:List Oper} {o:Oper} {a:Act} {Q:Exit->Act->World->Prop} {t e:TypeId} {size:Nat} (he:Elem P t e size) (w:World) (hgd:o.guard=none) (s x:Operand)
 (ho:o.op=.call { callee:=.builtin .append,args:=#[s,x],argTypes:=#[t,t] })
 (base:Nat) (v:Value) (n:Nat) (xs:List Value) (hs:a.eval s=v) (hown:w.ownsRow base e size v n xs)
 (news:List Value) (hl:news.length=size) (h1:∀u∈news,u.oneCell'=true) (c:Nat) (hx:a.eval x=.slice (some ⟨w.heap.size,0,none⟩) 1 c) (hn:n<=1073741824) (hbase:base<=w.heap.size)
 (h:∀v' w',w'.ownsRow base e size v' (n+1) (xs++news)->(w.alloc (.cells news.toArray e)).grownBy w' v.ownBlock->wpList P ops Q rest (a.put o.dst v') w'):wpList P ops Q (o::rest) a (w.alloc (.cells news.toArray e)):=by
 obtain⟨ht,i,z,bytes,hi,hz,hsz,hby,hzs,h0,hb⟩:=he;refine wpList_append_own _ hgd s x t ho base e i z size bytes ht hi hz hsz hby hzs h0 v n xs hs (hown.alloc _) ⟨w.heap.size,0,none⟩ 1 c news hx (by omega) ?_ h1 (by unfold maxLen;omega) ?_ (by simp;omega) (λv' w' h2 h3 _=>h v' w' h2 h3)
 ·intro j u hj;have:((⟨w.heap.size,0,none⟩:Addr).add j)=⟨w.heap.size,j,none⟩:=by
   unfold Addr.add;split<;>simp_all
  rw[this,World.cell?_alloc_new];simpa using hj
 ·calc (n+1)*bytes<=1073741825*1024:=Nat.mul_le_mul (by omega) hb
   _<=_:=by decide
theorem ownsRow_below {w w':World} {base:Nat} {e:TypeId} {size:Nat} {v:Value} {n:Nat} {xs:List Value} (h:w.ownsRow base e size v n xs) (hb:Below w.heap.size w w'):w'.ownsRow base e size v n xs:=by
 obtain⟨h1,h2⟩:=h;refine⟨h1,?_⟩;rcases h2 with h2|⟨g,cap,cur,hv,hg,hh,r⟩
 ·exact Or.inl h2
 ·exact Or.inr ⟨g,cap,cur,hv,hg,by rw[hb.block _ (lt_of_block hh)];exact hh,r⟩
theorem qg {w:World} {base:Nat} {e:TypeId} {size:Nat} {v:Value} {n:Nat} {xs:List Value} (h:w.ownsRow base e size v n xs) {k:Nat} (hk:v.ownBlock=some k):∃cur:Array Value,w.heap[k]? = some (.cells cur e (0,0))/\base<=k:=by
 rcases h.2 with ⟨rfl,_⟩|⟨g,cap,cur,rfl,hg,hh,_⟩
 ·simp[Value.ownBlock]at hk
 ·simp only[Value.ownBlock,Option.some.injEq]at hk;subst hk;exact⟨cur,hh,hg⟩
theorem zv {w:World} {base:Nat} {e:TypeId} {size:Nat} {v:Value} {n:Nat} {xs:List Value} (h:w.ownsRow base e size v n xs) {k:Nat} {c:Array Value} {t:TypeId} {z:Nat×Nat} (hk:w.heap[k]? = some (.cells c t z)) (ht:t≠e):some k≠v.ownBlock:=by intro he;obtain⟨cur,hh,_⟩:=qg h he.symm;rw[hk]at hh;simp only[Option.some.injEq,Obj.cells.injEq]at hh;exact ht hh.2.1
theorem y6 {w:World} {base:Nat} {e:TypeId} {size:Nat} {v:Value} {n:Nat} {xs:List Value} (h:w.ownsRow base e size v n xs) (hn:n<=1073741824) :
 ∃a cap,v=.slice a n cap/\zw size n a cap (λi b o=>∀j,j<size->w.cell? ⟨b,o+j,none⟩=xs[i*size+j]?):=by
 rcases h.2 with ⟨rfl,rfl⟩|⟨g,cap,cur,rfl,hg,hh,hc,_⟩
 ·exact⟨none,0,rfl,Nat.le_refl _,by omega,Or.inl rfl⟩
 ·refine⟨some ⟨g,0,none⟩,cap,rfl,hc,hn,Or.inr ⟨g,0,rfl,λi hi j hj=>?_⟩⟩;have:=h.cellAt (i*size+j) (by
   calc i*size+j<i*size+size:=by omega
    _=(i+1)*size:=by rw[Nat.add_mul,Nat.one_mul]
    _<=n*size:=Nat.mul_le_mul_right _ (by omega))
  rw[←this];congr 2;omega
def zM (w:World) (l:List ByteArray) (a:Option Addr) (cap:Nat):Prop:=zw 1 l.length a cap (λi b o=>∃s,l[i]? = some s/\w.cell? ⟨b,o,none⟩=some (.string s))
theorem zM.keep {w w':World} (hk:∀a v,w.cell? a=some v->w'.cell? a=some v) {l:List ByteArray} {a:Option Addr} {cap:Nat} (h:zM w l a cap):zM w' l a cap :=
 h.mono λ_ _ _ _ ⟨s,hs,hp⟩=>⟨s,hs,hk _ _ hp⟩
theorem zM.get {w:World} {l:List ByteArray} {a:Option Addr} {cap:Nat} (h:zM w l a cap) {b off:Nat} (ha:a=some ⟨b,off,none⟩) {i:Nat} (hi:i<l.length):w.cell? ⟨b,off+i,none⟩=some (.string (l[i]'hi)):=by
 rcases h.2.2 with h|⟨b',off',ha',hq⟩
 ·omega
 ·rw[ha]at ha';simp only[Option.some.injEq,Addr.mk.injEq,and_true]at ha';obtain⟨rfl,rfl⟩:=ha';obtain⟨e',he',hp⟩:=hq i hi;rw[List.getElem?_eq_getElem hi]at he';obtain rfl:=Option.some.inj he';rw[Nat.mul_one]at hp;exact hp
theorem x6 {w:World} {base:Nat} {e:TypeId} {v:Value} {l:List ByteArray} (h:w.ownsRow base e 1 v l.length (l.map Value.string)) (hn:l.length<=1073741824):∃a cap,v=.slice a l.length cap/\zM w l a cap:=by obtain⟨a,cap,hv,hs⟩:=y6 h hn;refine⟨a,cap,hv,hs.mono λi b o hi hq=>?_⟩;have:=hq 0 (by omega);exact⟨l[i],List.getElem?_eq_getElem hi,by simpa [hi] using this⟩
structure ZV (B:Nat) (w:World) where
 w':World
 h:Below B w w'
instance (B:Nat) (w:World):Nonempty (ZV B w):=⟨⟨w,Below.refl _ _⟩⟩
theorem ZV.old {B:Nat} {w:World} {p:Addr} {v:Value} (hc:w.cell? p=some v) (hB:w.heap.size<=B) (g:ZV B w):g.w'.cell? p=some v :=
 (g.h.cell (Nat.lt_of_lt_of_le (World.block_lt_of_cell? _ _ hc) hB)).trans hc
theorem ZH {P:Program} {id:Nat} {Q:Exit->Act->World->Prop} {a:Act} {w:World} {l:List Oper} {B:Nat} {w0:World} (hm:P.follows .mixedOrders=true) (hB:Region.lexB .any l.toArray=true) (hW:Below B w0 w)
 (h:wpQuiet P l.toArray (λw'=>∃g:ZV B w0,w'=g.w') (λa'=>∀w',(∃g:ZV B w0,w'=g.w')->Q .normal a' w') l a):(Code.region id l.toArray true).wp P Q a w :=
 wp_region_quiet (C:=λw'=>∃g:ZV B w0,w'=g.w') hm hB ⟨⟨_,Below.drew hW⟩,rfl⟩ (by simpa using h)
theorem zcq {B:Nat} {w0 w':World} (h:∃g:ZV B w0,w'=g.w'):Below B w0 w':=by obtain⟨g,rfl⟩:=h;exact g.h
theorem zaM {P:Program} {f:FuncId} {args:Array Value} {B:Nat} {w0 w:World} {v:Value} (h:Calls P f args w λe w'=>e=.returned v/\Below B w0 w'):Calls P f args w λe w''=>e=.returned v/\∃g:ZV B w0,w''=g.w' :=
 h.mono λ_ _ h=>⟨h.1,⟨_,h.2⟩,rfl⟩
def zbK (c:Int):Bool:=decide (97<=c)&&decide (c<=122)
def ziO (c:Int):Bool:=decide (48<=c)&&decide (c<=57)
def YB (c:Int):Bool:=zbK c||ziO c||(decide (65<=c)&&decide (c<=90))||(c==95)
def zaN (b:UInt8):Bool:=YB b.toNat
def Qa (l:List UInt8):Bool:=l.all zaN&&(match l with | []=>false|c::_=>zbK c.toNat)
def kwL:List (List UInt8):=[[99,108,97,115,115],[101,120,116,101,110,100,115],[114,97,110,100],[114,97,110,100,99],[115,116,97,116,101],[99,111,110,115,116,114,97,105,110,116],[115,111,102,116],[100,105,115,116],[105,102],[101,108,115,101],[101,97,99,104],[105,110],[115,111,108,118,101],[98,101,102,111,114,101],[105,110,115,105,100,101],[112,114,111,112,101,114,116,121],[115,101,113],[97,110,100],[111,114],[110,111,116],[115,101,116],[104,111,108,100],[112,108,97,105,110],[114,101,112,101,97,116]]
def kwS:List ByteArray:=kwL.map λl=>⟨l.toArray⟩
def yQ (l:List UInt8):Bool:=Qa l&&decide (l.length<=16)&&!kwL.contains l
def qW (w:World):Prop:=(∃m:Int,w.cell? ⟨1,0,none⟩=some (.int .i64 m)) /\
 ∃b off cap,w.cell? ⟨0,0,none⟩=some (.slice (some ⟨b,off,none⟩) 24 cap)/\∀i,i<24->w.cell? ⟨b,off+i,none⟩=some (.string (kwS.getD i ByteArray.empty))
theorem qW.keep {w w':World} (hk:∀a v,w.cell? a=some v->w'.cell? a=some v) (h:qW w):qW w':=by obtain⟨⟨m,hm⟩,b,off,cap,h0,h1⟩:=h;exact⟨⟨m,hk _ _ hm⟩,b,off,cap,hk _ _ h0,λi hi=>hk _ _ (h1 i hi)⟩
theorem qW.below {w w':World} (h:qW w) (hb:Below w.heap.size w w'):qW w':=h.keep (za hb)
theorem Zf (c:Int) (w:World) :
 Calls Tryz.prog 234 #[.int .i32 c] w λe w'=>e=.returned (.bool (zbK c))/\w=w':=by
 go_enter Tryz.func234, Tryz.ntmps234;go_wp2;all_goals go_ret
 all_goals exact⟨by simp_all [zbK]<;>omega,rfl⟩
theorem zeK (c:Int) (w:World) :
 Calls Tryz.prog 273 #[.int .i32 c] w λe w'=>e=.returned (.bool (ziO c))/\w=w':=by
 go_enter Tryz.func273, Tryz.ntmps273;go_wp2;all_goals go_ret
 all_goals exact⟨by simp_all [ziO]<;>omega,rfl⟩
theorem qJ (c:Int) (w:World) :
 Calls Tryz.prog 235 #[.int .i32 c] w λe w'=>e=.returned (.bool (YB c))/\w=w':=by
 go_enter Tryz.func235, Tryz.ntmps235;go_wp2_with (first|(go_at_call 234;refine(Zf _ _).mono ?_;rintro e w' ⟨rfl,rfl⟩)|(go_at_call 273;refine(zeK _ _).mono ?_;rintro e w' ⟨rfl,rfl⟩));all_goals go_ret
 all_goals exact⟨by simp_all [YB]<;>omega,rfl⟩
theorem zaK {c:Int} (h:128<=c):YB c=false:=by simp[YB,zbK,ziO];omega
theorem zgA {c:Int} (h:128<=c):zbK c=false:=by simp[zbK];omega
def Yu (s:ByteArray) (pos:Nat):Prop:=pos<=s.size/\(s.data.toList.take pos).all zaN=true/\(0<pos->∃c l,s.data.toList=c::l/\zbK c.toNat=true)
theorem Zo {s:ByteArray} {pos:Nat} (h:Yu s pos) (hp:pos<s.size) (hf:YB (s[pos]'hp).toNat=true) (h0:pos=0->zbK (s[pos]'hp).toNat=true):Yu s (pos+1):=by
 obtain⟨_,h2,h3⟩:=h;have hl:s.data.toList.length=s.size:=by simp
 have he:s.data.toList[pos]'(by omega)=s[pos]'hp:=rfl;refine⟨by omega,?_,λ_=>?_⟩
 ·rw[List.take_succ_eq_append_getElem (by omega),List.all_append,h2,he];simpa [zaN] using hf
 ·by_cases hz:pos=0
  ·subst hz;have h0:=h0 rfl;cases hc:s.data.toList with
   |nil=>rw[hc]at hl;simp at hl;omega
   |cons c l =>
    refine⟨c,l,rfl,?_⟩;have:s[0]'hp=c:=by rw[←he];simp[hc]
    rw[←this];exact h0
  ·exact h3 (by omega)
theorem X0 {s:ByteArray} {pos:Nat} (h:Yu s pos) (hp:¬pos<s.size):Qa s.data.toList=!s.data.toList.isEmpty:=by
 obtain⟨h1,h2,h3⟩:=h;have hl:s.data.toList.length=s.size:=by simp
 rw[List.take_of_length_le (by omega)]at h2;cases hc:s.data.toList with
 |nil=>rfl
 |cons c l =>obtain⟨c',l',hcl,hlo⟩:=h3 (by rw[hc]at hl;simp at hl;omega);rw[hc]at hcl h2;obtain⟨rfl,rfl⟩:=List.cons.inj hcl;unfold Qa;rw[h2];simpa using hlo
theorem Zz {s:ByteArray} {pos:Nat} (hp:pos<s.size) (h:YB (s[pos]'hp).toNat=false\/pos=0/\zbK (s[pos]'hp).toNat=false):Qa s.data.toList=false:=by
 have hl:s.data.toList.length=s.size:=by simp
 have he:s.data.toList[pos]'(by omega)=s[pos]'hp:=rfl;rcases h with h|⟨rfl,h⟩
 ·have:s.data.toList.all zaN=false:=by
   rw[List.all_eq_false];exact⟨s.data.toList[pos]'(by omega),List.getElem_mem _,by rw[he];simp[zaN,h]⟩
  simp[Qa,this]
 ·cases hc:s.data.toList with
  |nil=>rfl
  |cons c l =>
   have:s[0]'hp=c:=by rw[←he];simp[hc]
   rw[this]at h;simp[Qa,h]
theorem zhh (s:ByteArray) (w:World) (hs:s.size<=1073741824) :
 Calls Tryz.prog 174 #[.string s] w λe w'=>e=.returned (.bool (Qa s.data.toList))/\Below w.heap.size w w':=by
 go_enter Tryz.func174, Tryz.ntmps174;go_wp2_with fail;go_loopw [2] (λ_ w'=>∃(pos:Nat),w'=w.iter s pos/\Yu s pos) (λ_ w'=>s.size-w'.iterPos w.heap.size);case atStart=>exact⟨0,rfl,by omega,by simp,by omega⟩
 case round =>
  obtain⟨pos,rfl,hrel⟩:=hrel;have hBel:Hid (∀p,Below w.heap.size w (w.iter s p)):=λp=>(Below.refl _ _).alloc (Nat.le_refl _) _;by_cases hp:pos<s.size
  ·by_cases ha:(s[pos]'hp).toNat<128
   ·have hnx:∀ty,(Instr.next (.pointer (some ⟨w.heap.size,0,none⟩)) true ty).run Tryz.prog (w.iter s pos)=_:=λty=>run_next_ascii w s pos ty hp ha;by_cases hz:pos=0
    ·subst hz;have hBadF:=Lib.hid λh=>Zz hp (Or.inl h);have hBadL:=Lib.hid λh=>Zz hp (Or.inr ⟨rfl,h⟩);have hStep:=Lib.hid λa b=>Zo hrel hp a (λ_=>b);clear hrel;cases hl:zbK (s[0]'hp).toNat<;>cases hf:YB (s[0]'hp).toNat
     all_goals go_wp2_with (first|(go_at_call 234;refine(Zf _ _).mono ?_;rintro e w' ⟨rfl,rfl⟩)|(go_at_call 235;refine(qJ _ _).mono ?_;rintro e w' ⟨rfl,rfl⟩))
     ·go_ret;exact⟨by rw[hBadL.out hl];rfl,hBel.out _⟩
     ·go_ret;exact⟨by rw[hBadL.out hl];rfl,hBel.out _⟩
     ·go_ret;exact⟨by rw[hBadF.out hf];rfl,hBel.out _⟩
     ·go_roundw;case rel=>exact⟨1,rfl,hStep.out hf hl⟩
      case measure=>simp;omega
    ·have hBadF:=Lib.hid λh=>Zz hp (Or.inl h);have hStep:=Lib.hid λa=>Zo hrel hp a (λh=>absurd h hz);clear hrel;cases hf:YB (s[pos]'hp).toNat
     all_goals go_wp2_with (first|(go_at_call 234;refine(Zf _ _).mono ?_;rintro e w' ⟨rfl,rfl⟩)|(go_at_call 235;refine(qJ _ _).mono ?_;rintro e w' ⟨rfl,rfl⟩))
     ·go_ret;exact⟨by rw[hBadF.out hf];rfl,hBel.out _⟩
     ·go_roundw;case rel=>exact⟨pos+1,rfl,hStep.out hf⟩
      case measure=>simp;omega
   ·have hnx:∀ty,(Instr.next (.pointer (some ⟨w.heap.size,0,none⟩)) true ty).run Tryz.prog (w.iter s pos)=_:=λty=>run_next_any w s pos ty hp;have hd:=(decode_high s pos hp (by omega)).1;have hf:YB (Utf8.decode s pos).1=false:=zaK (by omega);have hl:zbK (Utf8.decode s pos).1=false:=zgA (by omega);have hBad:=Lib.hid (Zz hp (Or.inl (zaK (by omega))));clear hd hrel;by_cases hz:pos=0
    ·subst hz;go_wp2_with (first|(go_at_call 234;refine(Zf _ _).mono ?_;rintro e w' ⟨rfl,rfl⟩)|(go_at_call 235;refine(qJ _ _).mono ?_;rintro e w' ⟨rfl,rfl⟩));go_ret;exact⟨by rw[hBad.out];rfl,hBel.out _⟩
    ·go_wp2_with (first|(go_at_call 234;refine(Zf _ _).mono ?_;rintro e w' ⟨rfl,rfl⟩)|(go_at_call 235;refine(qJ _ _).mono ?_;rintro e w' ⟨rfl,rfl⟩));go_ret;exact⟨by rw[hBad.out];rfl,hBel.out _⟩
  ·have hnx:∀ty,(Instr.next (.pointer (some ⟨w.heap.size,0,none⟩)) true ty).run Tryz.prog (w.iter s pos)=_:=λty=>run_next_end w s pos ty hp;have hE:=Lib.hid (X0 hrel hp);clear hrel;go_wp2;go_ret;exact⟨by rw[hE.out,←ByteArray.toList_eq];rfl,hBel.out _⟩
theorem YQ (l:List (List UInt8)) (s:ByteArray):Lib.containsS (l.map λx=>(⟨x.toArray⟩:ByteArray)) s=l.contains s.data.toList:=by
 rw[Bool.eq_iff_iff,Lib.containsS_iff];simp only[List.mem_map,List.contains_iff_mem];constructor
 ·rintro ⟨x,hx,rfl⟩;exact hx
 ·exact λh=>⟨_,h,rfl⟩
theorem Q7 (s:ByteArray) (w:World) (hG:qW w) :
 Calls Tryz.prog 175 #[.string s] w λe w'=>e=.returned (.bool (kwL.contains s.data.toList))/\w=w':=by
 obtain⟨_,b,off,cap,h0,h1⟩:=hG;have hc:=Tryz.slices_Contains_string b off 24 cap kwS s w (by decide) (by decide) (λj hj=>h1 j hj);have hC:=Lib.hid hc;clear hc h1;go_enter Tryz.func175, Tryz.ntmps175;go_wp2_with fail;refine hC.out.mono ?_;rintro e w' ⟨rfl,rfl⟩;go_wp2_with fail;go_ret;exact⟨by rw[←YQ];rfl,rfl⟩
theorem qx (s:ByteArray) (w:World) (hs:s.size<=1073741824) (hG:qW w) :
 Calls Tryz.prog 102 #[.string s] w λe w'=>e=.returned (.bool (yQ s.data.toList))/\Below w.heap.size w w':=by
 have hG':=Lib.hid hG;clear hG;go_enter Tryz.func102, Tryz.ntmps102;go_wp2_with fail;refine(zhh _ _ hs).mono ?_;rintro e w1 ⟨rfl,hb1⟩;have hK:=Lib.hid (Q7 s w1 (hG'.out.keep (za hb1)));have hB:=Lib.hid hb1;clear hb1;go_wp2_with (go_at_call 175;refine hK.out.mono ?_;rintro e w' ⟨rfl,rfl⟩);all_goals go_ret
 all_goals exact⟨by simp_all [yQ]<;>omega,hB.out⟩
def Ys (n:Int):Int:=n % 65536
def zhn (a b:Int):Int:=(a+b) % 65536
def zjY (a b:Int):Int:=(a-b) % 65536
def zjV (a b:Int):Int:=(a*b) % 65536
def zjG (a:Int):Int:=(-a) % 65536
def zjF (a:Int):Int:=65535-a % 65536
def ziP (a n:Int):Int:=if n<0\/16<=n then 0 else (a*2 ^ n.toNat) % 65536
def ziQ (a n:Int):Int:=if n<0\/16<=n then 0 else a % 65536 / 2 ^ n.toNat
def zY (a i:Nat):Nat:=a / 2 ^ i % 2
def Yk (a:Nat):Nat:=zY a 0+zY a 1+zY a 2+zY a 3+zY a 4+zY a 5+zY a 6+zY a 7+zY a 8+zY a 9+zY a 10+zY a 11+zY a 12+zY a 13+zY a 14+zY a 15
def zfk (a:Int):Int:=(Yk (a % 65536).toNat:Nat)
theorem zgs (n:Int):IntKind.u16.wrap (bits .and .i64 n 65535)=n % 65536:=by
 have h1:bits .and .i64 n 65535=IntKind.i64.wrap ((BitVec.ofInt 64 n &&& BitVec.ofInt 64 65535).toNat:Int):=rfl;have h2:(BitVec.ofInt 64 n &&& BitVec.ofInt 64 65535).toNat=(BitVec.ofInt 64 n).toNat % 65536:=by rw[BitVec.toNat_and];show _ &&& 65535=_;exact Nat.and_two_pow_sub_one_eq_mod _ 16
 have h3:((BitVec.ofInt 64 n).toNat:Int)=n % 18446744073709551616:=by
  rw[BitVec.toNat_ofInt];have:0<=n % 18446744073709551616:=by omega
  have h64:((2 ^ 64:Nat):Int)=18446744073709551616:=by decide
  rw[h64];omega
 rw[h1,h2,IntKind.wrap_u16,IntKind.wrap_i64];rw[Int.natCast_emod,h3];omega
theorem xD (n:Int) (w:World) :
 Calls Tryz.prog 137 #[.int .i64 n] w λe w'=>e=.returned (.int .u16 (n % 65536))/\w=w':=by
 go_enter Tryz.func137, Tryz.ntmps137;go_wp2_with fail;go_ret;exact⟨by rw[←zgs n];rfl,rfl⟩
theorem zhb (a b:Int) (w:World):Calls Tryz.prog 327 #[.int .u16 a,.int .u16 b] w λe w'=>e=.returned (.int .u16 ((a+b) % 65536))/\w=w':=by go_enter Tryz.func327, Tryz.ntmps327;go_wp2_with fail;go_ret;exact⟨by rw[←IntKind.wrap_u16];rfl,rfl⟩
theorem zhk (a b:Int) (w:World):Calls Tryz.prog 344 #[.int .u16 a,.int .u16 b] w λe w'=>e=.returned (.int .u16 ((a-b) % 65536))/\w=w':=by go_enter Tryz.func344, Tryz.ntmps344;go_wp2_with fail;go_ret;exact⟨by rw[←IntKind.wrap_u16];rfl,rfl⟩
theorem zhf (a b:Int) (w:World):Calls Tryz.prog 345 #[.int .u16 a,.int .u16 b] w λe w'=>e=.returned (.int .u16 ((a*b) % 65536))/\w=w':=by go_enter Tryz.func345, Tryz.ntmps345;go_wp2_with fail;go_ret;exact⟨by rw[←IntKind.wrap_u16];rfl,rfl⟩
theorem zhg (a:Int) (w:World):Calls Tryz.prog 342 #[.int .u16 a] w λe w'=>e=.returned (.int .u16 ((-a) % 65536))/\w=w':=by go_enter Tryz.func342, Tryz.ntmps342;go_wp2_with fail;go_ret;exact⟨by rw[←IntKind.wrap_u16];rfl,rfl⟩
theorem zhe (a:Int) (w:World) (h0:0<=a) (h1:a<65536):Calls Tryz.prog 341 #[.int .u16 a] w λe w'=>e=.returned (.int .u16 (65535-a))/\w=w':=by
 have hx:bits .xor .u16 IntKind.u16.max a=65535-a:=by
  obtain⟨A,rfl⟩:=Int.eq_ofNat_of_zero_le h0;show bits .xor .u16 ((65535:Nat):Int) (A:Int)=_;rw[u16_xor_nat _ _ (by decide) (by omega)];have:65535 ^^^ A=65535-A:=by
   have e:(BitVec.allOnes 16 ^^^ BitVec.ofNat 16 A).toNat=65535 ^^^ A:=by rw[BitVec.toNat_xor,BitVec.toNat_allOnes,BitVec.toNat_ofNat,Nat.mod_eq_of_lt (by omega)]
   rw[←e,BitVec.allOnes_xor,BitVec.toNat_not,BitVec.toNat_ofNat,Nat.mod_eq_of_lt (by omega)]
  rw[this];omega
 have HX:=Lib.hid hx;clear hx;go_enter Tryz.func341, Tryz.ntmps341;go_wp2_with fail;go_ret;refine⟨?_,rfl⟩;show Ending.returned (.int .u16 (bits .xor .u16 IntKind.u16.max a))=_;rw[HX.out]
theorem zhi (a b:Int) (w:World) (h:0<=b) (h':b<16):Calls Tryz.prog 347 #[.int .u16 a,.int .i64 b] w λe w'=>e=.returned (.int .u16 ((a*2 ^ b.toNat) % 65536))/\w=w':=by go_enter Tryz.func347, Tryz.ntmps347;go_wp2_with fail;go_ret;exact⟨by rw[←IntKind.wrap_u16];rfl,rfl⟩
theorem zhj (a b:Int) (w:World) (h:0<=b) (h':b<16) (ha:0<=a) (ha':a<65536):Calls Tryz.prog 348 #[.int .u16 a,.int .i64 b] w λe w'=>e=.returned (.int .u16 (a / 2 ^ b.toNat))/\w=w':=by go_enter Tryz.func348, Tryz.ntmps348;go_wp2_with fail;go_ret;exact⟨rfl,rfl⟩
theorem zcf (a b:Int) (w:World):Calls Tryz.prog 314 #[.int .i64 a,.int .i64 b] w λe w'=>e=.returned (.int .i64 (zhn a b))/\w=w':=by go_enter Tryz.func314, Tryz.ntmps314;go_wp2_with (first|(go_at_call 137;refine(xD _ _).mono ?_;rintro e w' ⟨rfl,rfl⟩)|(go_at_call 327;refine(zhb _ _ _).mono ?_;rintro e w' ⟨rfl,rfl⟩)|go_in);go_ret;refine⟨?_,rfl⟩;show Ending.returned (.int .i64 _)=_;unfold zhn;simp only[Int.add_emod,Int.sub_emod,Int.mul_emod,Int.emod_emod,Int.emod_emod_of_dvd];try rfl
theorem zf6 (a b:Int) (w:World):Calls Tryz.prog 332 #[.int .i64 a,.int .i64 b] w λe w'=>e=.returned (.int .i64 (zjY a b))/\w=w':=by go_enter Tryz.func332, Tryz.ntmps332;go_wp2_with (first|(go_at_call 137;refine(xD _ _).mono ?_;rintro e w' ⟨rfl,rfl⟩)|(go_at_call 344;refine(zhk _ _ _).mono ?_;rintro e w' ⟨rfl,rfl⟩)|go_in);go_ret;refine⟨?_,rfl⟩;show Ending.returned (.int .i64 _)=_;unfold zjY;simp only[Int.add_emod,Int.sub_emod,Int.mul_emod,Int.emod_emod,Int.emod_emod_of_dvd];try rfl
theorem zf2 (a b:Int) (w:World):Calls Tryz.prog 333 #[.int .i64 a,.int .i64 b] w λe w'=>e=.returned (.int .i64 (zjV a b))/\w=w':=by go_enter Tryz.func333, Tryz.ntmps333;go_wp2_with (first|(go_at_call 137;refine(xD _ _).mono ?_;rintro e w' ⟨rfl,rfl⟩)|(go_at_call 345;refine(zhf _ _ _).mono ?_;rintro e w' ⟨rfl,rfl⟩)|go_in);go_ret;refine⟨?_,rfl⟩;show Ending.returned (.int .i64 _)=_;unfold zjV;simp only[Int.add_emod,Int.sub_emod,Int.mul_emod,Int.emod_emod,Int.emod_emod_of_dvd];try rfl
theorem zat (a:Int) (w:World):Calls Tryz.prog 77 #[.int .i64 a] w λe w'=>e=.returned (.int .i64 (Ys a))/\w=w':=by go_enter Tryz.func77, Tryz.ntmps77;go_wp2_with (first|(go_at_call 137;refine(xD _ _).mono ?_;rintro e w' ⟨rfl,rfl⟩)|go_in);go_ret;exact⟨rfl,rfl⟩
theorem zf3 (a:Int) (w:World):Calls Tryz.prog 330 #[.int .i64 a] w λe w'=>e=.returned (.int .i64 (zjG a))/\w=w':=by
 have hn:Hid ((-(a % 65536)) % 65536=(-a) % 65536):=by show _=_;omega
 go_enter Tryz.func330, Tryz.ntmps330;go_wp2_with (first|(go_at_call 137;refine(xD _ _).mono ?_;rintro e w' ⟨rfl,rfl⟩)|(go_at_call 342;refine(zhg _ _).mono ?_;rintro e w' ⟨rfl,rfl⟩)|go_in);go_ret;exact⟨by unfold zjG;rw[←hn.out];rfl,rfl⟩
theorem zf1 (a:Int) (w:World):Calls Tryz.prog 329 #[.int .i64 a] w λe w'=>e=.returned (.int .i64 (zjF a))/\w=w':=by go_enter Tryz.func329, Tryz.ntmps329;go_wp2_with (first|(go_at_call 137;refine(xD _ _).mono ?_;rintro e w' ⟨rfl,rfl⟩)|(go_at_call 341;refine(zhe _ _ (by omega) (by omega)).mono ?_;rintro e w' ⟨rfl,rfl⟩)|go_in);go_ret;exact⟨rfl,rfl⟩
theorem zf4 (a n:Int) (w:World):Calls Tryz.prog 334 #[.int .i64 a,.int .i64 n] w λe w'=>e=.returned (.int .i64 (ziP a n))/\w=w':=by
 by_cases h0:n<0
 ·go_enter Tryz.func334, Tryz.ntmps334;go_wp2_with (first|(go_at_call 137;refine(xD _ _).mono ?_;rintro e w' ⟨rfl,rfl⟩)|go_in);go_ret;exact⟨by rw[ziP,if_pos (Or.inl h0)];rfl,rfl⟩
 ·by_cases h1:16<=n
  ·go_enter Tryz.func334, Tryz.ntmps334;go_wp2_with (first|(go_at_call 137;refine(xD _ _).mono ?_;rintro e w' ⟨rfl,rfl⟩)|go_in);go_ret;exact⟨by rw[ziP,if_pos (Or.inr h1)];rfl,rfl⟩
  ·have hm:Hid ((a % 65536*2 ^ n.toNat) % 65536=(a*2 ^ n.toNat) % 65536):=by show _=_;rw[Int.mul_emod,Int.emod_emod,←Int.mul_emod]
   go_enter Tryz.func334, Tryz.ntmps334;go_wp2_with (first|(go_at_call 137;refine(xD _ _).mono ?_;rintro e w' ⟨rfl,rfl⟩)|(go_at_call 347;refine(zhi _ _ _ (by omega) (by omega)).mono ?_;rintro e w' ⟨rfl,rfl⟩)|go_in);go_ret;exact⟨by rw[ziP,if_neg (by omega),←hm.out];rfl,rfl⟩
theorem zf5 (a n:Int) (w:World):Calls Tryz.prog 335 #[.int .i64 a,.int .i64 n] w λe w'=>e=.returned (.int .i64 (ziQ a n))/\w=w':=by
 by_cases h0:n<0
 ·go_enter Tryz.func335, Tryz.ntmps335;go_wp2_with (first|(go_at_call 137;refine(xD _ _).mono ?_;rintro e w' ⟨rfl,rfl⟩)|go_in);go_ret;exact⟨by rw[ziQ,if_pos (Or.inl h0)];rfl,rfl⟩
 ·by_cases h1:16<=n
  ·go_enter Tryz.func335, Tryz.ntmps335;go_wp2_with (first|(go_at_call 137;refine(xD _ _).mono ?_;rintro e w' ⟨rfl,rfl⟩)|go_in);go_ret;exact⟨by rw[ziQ,if_pos (Or.inr h1)];rfl,rfl⟩
  ·have hq0:0<=a % 65536 / 2 ^ n.toNat:=Int.ediv_nonneg (by omega) (Int.le_of_lt (Int.pow_pos (by decide)));have hq1:a % 65536 / 2 ^ n.toNat<=65535:=Int.le_trans (Int.ediv_le_self _ (by omega)) (by omega);go_enter Tryz.func335, Tryz.ntmps335;go_wp2_with (first|(go_at_call 137;refine(xD _ _).mono ?_;rintro e w' ⟨rfl,rfl⟩)|(go_at_call 348;refine(zhj _ _ _ (by omega) (by omega) (by omega) (by omega)).mono ?_;rintro e w' ⟨rfl,rfl⟩)|go_in);go_ret;exact⟨by rw[ziQ,if_neg (by omega)];rfl,rfl⟩
theorem zdu (x:Nat) (h:x<65536):Yk x=Yk (x / 256)+Yk (x % 256):=by
 have a0:zY (x % 256) 0=zY x 0:=by unfold zY;omega
 have a1:zY (x % 256) 1=zY x 1:=by unfold zY;omega
 have a2:zY (x % 256) 2=zY x 2:=by unfold zY;omega
 have a3:zY (x % 256) 3=zY x 3:=by unfold zY;omega
 have a4:zY (x % 256) 4=zY x 4:=by unfold zY;omega
 have a5:zY (x % 256) 5=zY x 5:=by unfold zY;omega
 have a6:zY (x % 256) 6=zY x 6:=by unfold zY;omega
 have a7:zY (x % 256) 7=zY x 7:=by unfold zY;omega
 have a8:zY (x % 256) 8=0:=by unfold zY;omega
 have a9:zY (x % 256) 9=0:=by unfold zY;omega
 have a10:zY (x % 256) 10=0:=by unfold zY;omega
 have a11:zY (x % 256) 11=0:=by unfold zY;omega
 have a12:zY (x % 256) 12=0:=by unfold zY;omega
 have a13:zY (x % 256) 13=0:=by unfold zY;omega
 have a14:zY (x % 256) 14=0:=by unfold zY;omega
 have a15:zY (x % 256) 15=0:=by unfold zY;omega
 have b0:zY (x / 256) 0=zY x 8:=by unfold zY;rw[Nat.div_div_eq_div_mul]
 have b1:zY (x / 256) 1=zY x 9:=by unfold zY;rw[Nat.div_div_eq_div_mul]
 have b2:zY (x / 256) 2=zY x 10:=by unfold zY;rw[Nat.div_div_eq_div_mul]
 have b3:zY (x / 256) 3=zY x 11:=by unfold zY;rw[Nat.div_div_eq_div_mul]
 have b4:zY (x / 256) 4=zY x 12:=by unfold zY;rw[Nat.div_div_eq_div_mul]
 have b5:zY (x / 256) 5=zY x 13:=by unfold zY;rw[Nat.div_div_eq_div_mul]
 have b6:zY (x / 256) 6=zY x 14:=by unfold zY;rw[Nat.div_div_eq_div_mul]
 have b7:zY (x / 256) 7=zY x 15:=by unfold zY;rw[Nat.div_div_eq_div_mul]
 have b8:zY (x / 256) 8=0:=by unfold zY;omega
 have b9:zY (x / 256) 9=0:=by unfold zY;omega
 have b10:zY (x / 256) 10=0:=by unfold zY;omega
 have b11:zY (x / 256) 11=0:=by unfold zY;omega
 have b12:zY (x / 256) 12=0:=by unfold zY;omega
 have b13:zY (x / 256) 13=0:=by unfold zY;omega
 have b14:zY (x / 256) 14=0:=by unfold zY;omega
 have b15:zY (x / 256) 15=0:=by unfold zY;omega
 unfold Yk;omega
end Go.Proofs.YtnfkbliokjjggaaGreatDoor
