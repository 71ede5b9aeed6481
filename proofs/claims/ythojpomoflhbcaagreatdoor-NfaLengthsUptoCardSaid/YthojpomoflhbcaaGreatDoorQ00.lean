/- What the expressions of the program are, as data, and where they lie in memory. -/
import Derived.WalkKit
import Derived.WalkSmall
import Derived.BigQuiet
import Derived.Deep.QuietTactic
import Derived.Lib.Hide
import Derived.Test.YthojpomoflhbcaaGreatDoorQSh
import Derived.WalkLawsBesides
import Derived.WalkSpells
import Derived.Lib.Tables
set_option maxHeartbeats 2000000
set_option maxRecDepth 10000
set_option linter.unusedSimpArgs false
set_option linter.unusedVariables false
set_option linter.unnecessarySimpa false
namespace Go.Proofs.YthojpomoflhbcaaGreatDoor
open Go.RowKit
theorem sz {P:Prop} (h:P:=by first|omega|(simp only[World.size_alloc,World.size_setCell,World.size_drew,World.heap_drewN]<;>omega)|(simp<;>omega)):P:=h
theorem bel {B:Nat} {a w:World} (h:Below B a w:=by repeat (first|assumption|exact Below.refl _ _|refine Below.drew ?_|refine below_drewN ?_ _|refine Below.alloc ?_ (by first|omega|(simp only[World.size_alloc,World.size_setCell,World.size_drew,World.heap_drewN]<;>omega)|(simp<;>omega)) _|refine Below.setCell ?_ (by first|omega|(simp only[World.size_alloc,World.size_setCell,World.size_drew,World.heap_drewN]<;>omega)|(simp<;>omega)) _)):Below B a w:=h
inductive Ex where
 |mk (op n:Int) (name:ByteArray) (args:List Ex)
def Ex.op:Ex->Int | .mk op _ _ _=>op
def Ex.n:Ex->Int | .mk _ n _ _=>n
def Ex.name:Ex->ByteArray | .mk _ _ s _=>s
def Ex.args:Ex->List Ex | .mk _ _ _ l=>l
theorem Ex.op_mk (op n:Int) (s:ByteArray) (l:List Ex):(Ex.mk op n s l).op=op:=rfl
theorem Ex.n_mk (op n:Int) (s:ByteArray) (l:List Ex):(Ex.mk op n s l).n=n:=rfl
theorem Ex.name_mk (op n:Int) (s:ByteArray) (l:List Ex):(Ex.mk op n s l).name=s:=rfl
theorem Ex.args_mk (op n:Int) (s:ByteArray) (l:List Ex):(Ex.mk op n s l).args=l:=rfl
noncomputable def Ex.para {α:Type} (f:Ex->List α->α) (e:Ex):α :=
 Ex.rec (motive_1:=λ_=>α) (motive_2:=λ_=>List α) (λop n s args ih=>f (.mk op n s args) ih) [] (λ_ _ a ar=>a::ar) e
theorem Ex.para_mk {α:Type} (f:Ex->List α->α) (op n:Int) (s:ByteArray) (args:List Ex) :
 Ex.para f (.mk op n s args)=f (.mk op n s args) (args.map (Ex.para f)):=by
 have h:∀l:List Ex,(Ex.rec_1 (motive_1:=λ_=>α) (motive_2:=λ_=>List α) (λop n s args ih=>f (.mk op n s args) ih) [] (λ_ _ a ar=>a::ar) l:List α)=l.map (Ex.para f):=by
  intro l
  induction l with
  |nil=>rfl
  |cons e l ih=>simp only[List.map_cons,←ih];rfl
 show f (.mk op n s args) _=_;rw[←h args]
theorem Ex.para_eq {α:Type} (f:Ex->List α->α) (e:Ex):Ex.para f e=f e (e.args.map (Ex.para f)):=by cases e;exact Ex.para_mk _ _ _ _ _
theorem Ex.ind {P:Ex->Prop} (h:∀e:Ex,(∀a,a∈e.args->P a)->P e) (e:Ex):P e :=
 Ex.rec (motive_1:=P) (motive_2:=λl=>∀a,a∈l->P a)
  (λop n s args ih=>h (.mk op n s args) ih) (λ_ ha=>by cases ha)
  (λe l he hl a ha=>by
   cases ha with
   |head=>exact he
   |tail _ h'=>exact hl a h') e
noncomputable def Ex.nodes (e:Ex):List Ex:=e.para λe ls=>e::ls.flatten
theorem Ex.nodes_eq (e:Ex):e.nodes=e::(e.args.map Ex.nodes).flatten:=by unfold Ex.nodes;rw[Ex.para_eq]
noncomputable def Ex.depth (e:Ex):Nat:=e.para λ_ ls=>ls.foldl max 0+1
theorem Ex.depth_eq (e:Ex):e.depth=(e.args.map Ex.depth).foldl max 0+1:=by unfold Ex.depth;rw[Ex.para_eq]
def zr (sz len:Nat) (a:Option Addr) (cap:Nat) (Q:Nat->Nat->Nat->Prop):Prop :=
 len<=cap/\len<=1073741824/\(len=0\/∃b off,a=some ⟨b,off,none⟩/\∀i,i<len->Q i b (off+i*sz))
noncomputable def zkq (w:World) (e:Ex):Nat->Nat->Prop :=
 e.para λe ps b o=>∃a cap,w.cell? ⟨b,o,none⟩=some (.int .i64 e.op)/\w.cell? ⟨b,o+1,none⟩=some (.int .i64 e.n)/\w.cell? ⟨b,o+2,none⟩=some (.string e.name) /\
  w.cell? ⟨b,o+3,none⟩=some (.slice a ps.length cap)/\e.name.size<=1073741824/\zr 4 ps.length a cap (λi b o=>∃p,ps[i]? = some p/\p b o)
def Z6 (w:World) (l:List Ex) (a:Option Addr) (cap:Nat):Prop:=zr 4 l.length a cap (λi b o=>∃e,l[i]? = some e/\zkq w e b o)
def yY (w:World) (e:Ex) (a:Option Addr) (cap:Nat):Prop:=e.name.size<=1073741824/\Z6 w e.args a cap
theorem Qx (w:World) (e:Ex) (b o:Nat):zkq w e b o<->∃a cap,w.cell? ⟨b,o,none⟩=some (.int .i64 e.op)/\w.cell? ⟨b,o+1,none⟩=some (.int .i64 e.n)/\w.cell? ⟨b,o+2,none⟩=some (.string e.name) /\
 w.cell? ⟨b,o+3,none⟩=some (.slice a e.args.length cap)/\yY w e a cap:=by
 unfold zkq;rw[Ex.para_eq];simp only[List.length_map,List.getElem?_map,Option.map_eq_some_iff,yY,Z6];constructor<;>rintro ⟨a,cap,h0,h1,h2,h3,h4,h5⟩
 ·refine⟨a,cap,h0,h1,h2,h3,h4,h5.1,h5.2.1,?_⟩;rcases h5.2.2 with h|⟨b,off,ha,hq⟩
  ·exact Or.inl h
  ·refine Or.inr ⟨b,off,ha,λi hi=>?_⟩;obtain⟨p,⟨e',he',rfl⟩,hp⟩:=hq i hi;exact⟨e',he',hp⟩
 ·refine⟨a,cap,h0,h1,h2,h3,h4,h5.1,h5.2.1,?_⟩;rcases h5.2.2 with h|⟨b,off,ha,hq⟩
  ·exact Or.inl h
  ·refine Or.inr ⟨b,off,ha,λi hi=>?_⟩;obtain⟨e',he',hp⟩:=hq i hi;exact⟨_,⟨e',he',rfl⟩,hp⟩
theorem zr.mono {sz len:Nat} {a:Option Addr} {cap:Nat} {Q Q':Nat->Nat->Nat->Prop} (h:zr sz len a cap Q) (hq:∀i b o,i<len->Q i b o->Q' i b o):zr sz len a cap Q':=by
 refine⟨h.1,h.2.1,?_⟩;rcases h.2.2 with h|⟨b,off,ha,hi⟩
 ·exact Or.inl h
 ·exact Or.inr ⟨b,off,ha,λi hl=>hq _ _ _ hl (hi i hl)⟩
theorem zkq.keep {w w':World} (hk:∀a v,w.cell? a=some v->w'.cell? a=some v) (e:Ex):∀b o,zkq w e b o->zkq w' e b o:=by
 induction e using Ex.ind with
 |h e ih =>intro b o h;rw[Qx]at h⊢;obtain⟨a,cap,h0,h1,h2,h3,h4,h5⟩:=h;refine⟨a,cap,hk _ _ h0,hk _ _ h1,hk _ _ h2,hk _ _ h3,h4,h5.mono λi b o _=>?_⟩;rintro ⟨e',he',hp⟩;exact⟨e',he',ih e' (List.mem_of_getElem? he') _ _ hp⟩
theorem Z6.keep {w w':World} (hk:∀a v,w.cell? a=some v->w'.cell? a=some v) {l:List Ex} {a:Option Addr} {cap:Nat} (h:Z6 w l a cap):Z6 w' l a cap :=
 h.mono λ_ _ _ _ ⟨e',he',hp⟩=>⟨e',he',hp.keep hk _ _ _⟩
theorem yY.keep {w w':World} (hk:∀a v,w.cell? a=some v->w'.cell? a=some v) {e:Ex} {a:Option Addr} {cap:Nat} (h:yY w e a cap):yY w' e a cap :=
 ⟨h.1,h.2.keep hk⟩
theorem za {w w':World} (hb:Below w.heap.size w w'):∀a v,w.cell? a=some v->w'.cell? a=some v :=
 λ_ _ h=>(hb.cell (World.block_lt_of_cell? _ _ h)).trans h
theorem zmr {W w1:World} (hb:Below W.heap.size W w1):(∀b o,b<W.heap.size->w1.cell? ⟨b,o,none⟩=W.cell? ⟨b,o,none⟩)/\(∀b o,b<W.heap.size->w1.frozen? ⟨b,o,none⟩=W.frozen? ⟨b,o,none⟩) :=
 ⟨λb o h=>hb.cell (p:=⟨b,o,none⟩) h,λb o h=>hb.frozen (p:=⟨b,o,none⟩) h⟩
theorem fr {P:Program} {f:FuncId} {args:Array Value} {w:World} {Q:Ending->Prop} {B:Nat} {W0:World} (h:Calls P f args w λe w'=>Q e/\Below w.heap.size w w') (hW:Below B W0 w) (hB:B<=w.heap.size) :
 Calls P f args w λe w'=>Q e/\(∀b o,b<w.heap.size->w'.cell? ⟨b,o,none⟩=w.cell? ⟨b,o,none⟩)/\(∀b o,b<w.heap.size->w'.frozen? ⟨b,o,none⟩=w.frozen? ⟨b,o,none⟩)/\w.heap.size<=w'.heap.size/\Below B W0 w' :=
 h.mono λ_ _ ⟨hq,hb⟩=>⟨hq,(zmr hb).1,(zmr hb).2,hb.size,hW.trans (hb.mono hB)⟩
theorem Z6.get {w:World} {l:List Ex} {a:Option Addr} {cap:Nat} (h:Z6 w l a cap) {b off:Nat} (ha:a=some ⟨b,off,none⟩) {i:Nat} (hi:i<l.length) :
 ∃a' cap',w.cell? ⟨b,off+i*4,none⟩=some (.int .i64 (l[i]'hi).op)/\w.cell? ⟨b,off+i*4+1,none⟩=some (.int .i64 (l[i]'hi).n)/\w.cell? ⟨b,off+i*4+2,none⟩=some (.string (l[i]'hi).name) /\
  w.cell? ⟨b,off+i*4+3,none⟩=some (.slice a' (l[i]'hi).args.length cap')/\yY w (l[i]'hi) a' cap':=by
 rcases h.2.2 with h|⟨b',off',ha',hq⟩
 ·omega
 ·rw[ha]at ha';simp only[Option.some.injEq,Addr.mk.injEq,and_true]at ha';obtain⟨rfl,rfl⟩:=ha';obtain⟨e',he',hp⟩:=hq i hi;rw[List.getElem?_eq_getElem hi]at he';obtain rfl:=Option.some.inj he';exact(Qx _ _ _ _).1 hp
theorem zr.addr {sz len:Nat} {a:Option Addr} {cap:Nat} {Q:Nat->Nat->Nat->Prop} (h:zr sz len a cap Q):len=0\/∃b off,a=some ⟨b,off,none⟩:=by
 rcases h.2.2 with h|⟨b,off,ha,_⟩
 ·exact Or.inl h
 ·exact Or.inr ⟨b,off,ha⟩
def Elem (P:Program) (t e:TypeId) (size:Nat):Prop:=P.underlying t=some (.slice e)/\∃i z bytes,P.info? e=some i/\i.zero=some z/\i.size=size/\i.bytes=bytes/\z.cells.size=size/\0<size/\bytes<=1024
theorem Elem.of {P:Program} {t e:TypeId} {z:Value} {size bytes:Nat} (ht:P.underlying t=some (.slice e)) (h:(P.info? e).map (λi=>(i.zero,i.size,i.bytes))=some (some z,size,bytes)) (hz:z.cells.size=size) (hs:0<size) (hb:bytes<=1024):Elem P t e size:=by obtain⟨i,h1,h2,h3,h4⟩:=info_parts h;exact⟨ht,i,z,bytes,h1,h2,h3,h4,hz,hs,hb⟩
theorem zdQ {P:Program} {ops:Array Oper} {rest:List Oper} {o:Oper} {a:Act} {Q:Exit->Act->World->Prop} {t e:TypeId} {size:Nat} (he:Elem P t e size) (w:World) (hgd:o.guard=none) (s x:Operand)
 (ho:o.op=.call { callee:=.builtin .append,args:=#[s,x],argTypes:=#[t,t] })
 (base:Nat) (v:Value) (n:Nat) (xs:List Value) (hs:a.eval s=v) (hown:w.ownsRow base e size v n xs)
 (news:List Value) (hl:news.length=size) (h1:∀u∈news,u.oneCell'=true) (c:Nat) (hx:a.eval x=.slice (some ⟨w.heap.size,0,none⟩) 1 c) (hn:n<=1073741824) (hbase:base<=w.heap.size)
 (h:∀v' w',w'.ownsRow base e size v' (n+1) (xs++news)->(w.alloc (.cells news.toArray e)).grownBy w' v.ownBlock->wpList P ops Q rest (a.put o.dst v') w'):wpList P ops Q (o::rest) a (w.alloc (.cells news.toArray e)):=by
 obtain⟨ht,i,z,bytes,hi,hz,hsz,hby,hzs,h0,hb⟩:=he;refine wpList_append_own _ hgd s x t ho base e i z size bytes ht hi hz hsz hby hzs h0 v n xs hs (hown.alloc _) ⟨w.heap.size,0,none⟩ 1 c news hx (by omega) ?_ h1 (by unfold maxLen;omega) ?_ (by simp;omega) (λv' w' h2 h3 _=>h v' w' h2 h3)
 ·intro j u hj;have:((⟨w.heap.size,0,none⟩:Addr).add j)=⟨w.heap.size,j,none⟩:=by
   unfold Addr.add;split<;>simp_all
  rw[this,World.cell?_alloc_new];simpa using hj
 ·calc (n+1)*bytes<=1073741825*1024:=Nat.mul_le_mul (by omega) hb
   _<=_:=by decide
theorem ownsRow_below {w w':World} {base:Nat} {e:TypeId} {size:Nat} {v:Value} {n:Nat} {xs:List Value} (h:w.ownsRow base e size v n xs) (hb:Below w.heap.size w w'):w'.ownsRow base e size v n xs:=by
 obtain⟨h1,h2⟩:=h;refine⟨h1,?_⟩;rcases h2 with h2|⟨g,cap,cur,hv,hg,hh,r⟩
 ·exact Or.inl h2
 ·exact Or.inr ⟨g,cap,cur,hv,hg,by rw[hb.block _ (lt_of_block hh)];exact hh,r⟩
theorem Zg {w:World} {base:Nat} {e:TypeId} {size:Nat} {v:Value} {n:Nat} {xs:List Value} (h:w.ownsRow base e size v n xs) {k:Nat} (hk:v.ownBlock=some k):∃cur:Array Value,w.heap[k]? = some (.cells cur e (0,0))/\base<=k:=by
 rcases h.2 with ⟨rfl,_⟩|⟨g,cap,cur,rfl,hg,hh,_⟩
 ·simp[Value.ownBlock]at hk
 ·simp only[Value.ownBlock,Option.some.injEq]at hk;subst hk;exact⟨cur,hh,hg⟩
theorem zX {w:World} {base:Nat} {e:TypeId} {size:Nat} {v:Value} {n:Nat} {xs:List Value} (h:w.ownsRow base e size v n xs) {k:Nat} {c:Array Value} {t:TypeId} {z:Nat×Nat} (hk:w.heap[k]? = some (.cells c t z)) (ht:t≠e):some k≠v.ownBlock:=by intro he;obtain⟨cur,hh,_⟩:=Zg h he.symm;rw[hk]at hh;simp only[Option.some.injEq,Obj.cells.injEq]at hh;exact ht hh.2.1
theorem xX {w:World} {base:Nat} {e:TypeId} {size:Nat} {v:Value} {n:Nat} {xs:List Value} (h:w.ownsRow base e size v n xs) (hn:n<=1073741824) :
 ∃a cap,v=.slice a n cap/\zr size n a cap (λi b o=>∀j,j<size->w.cell? ⟨b,o+j,none⟩=xs[i*size+j]?):=by
 rcases h.2 with ⟨rfl,rfl⟩|⟨g,cap,cur,rfl,hg,hh,hc,_⟩
 ·exact⟨none,0,rfl,Nat.le_refl _,by omega,Or.inl rfl⟩
 ·refine⟨some ⟨g,0,none⟩,cap,rfl,hc,hn,Or.inr ⟨g,0,rfl,λi hi j hj=>?_⟩⟩;have:=h.cellAt (i*size+j) (by
   calc i*size+j<i*size+size:=by omega
    _=(i+1)*size:=by rw[Nat.add_mul,Nat.one_mul]
    _<=n*size:=Nat.mul_le_mul_right _ (by omega))
  rw[←this];congr 2;omega
def zE (w:World) (l:List ByteArray) (a:Option Addr) (cap:Nat):Prop:=zr 1 l.length a cap (λi b o=>∃s,l[i]? = some s/\w.cell? ⟨b,o,none⟩=some (.string s))
theorem zE.keep {w w':World} (hk:∀a v,w.cell? a=some v->w'.cell? a=some v) {l:List ByteArray} {a:Option Addr} {cap:Nat} (h:zE w l a cap):zE w' l a cap :=
 h.mono λ_ _ _ _ ⟨s,hs,hp⟩=>⟨s,hs,hk _ _ hp⟩
theorem zE.get {w:World} {l:List ByteArray} {a:Option Addr} {cap:Nat} (h:zE w l a cap) {b off:Nat} (ha:a=some ⟨b,off,none⟩) {i:Nat} (hi:i<l.length):w.cell? ⟨b,off+i,none⟩=some (.string (l[i]'hi)):=by
 rcases h.2.2 with h|⟨b',off',ha',hq⟩
 ·omega
 ·rw[ha]at ha';simp only[Option.some.injEq,Addr.mk.injEq,and_true]at ha';obtain⟨rfl,rfl⟩:=ha';obtain⟨e',he',hp⟩:=hq i hi;rw[List.getElem?_eq_getElem hi]at he';obtain rfl:=Option.some.inj he';rw[Nat.mul_one]at hp;exact hp
theorem xz {w:World} {base:Nat} {e:TypeId} {v:Value} {l:List ByteArray} (h:w.ownsRow base e 1 v l.length (l.map Value.string)) (hn:l.length<=1073741824):∃a cap,v=.slice a l.length cap/\zE w l a cap:=by obtain⟨a,cap,hv,hs⟩:=xX h hn;refine⟨a,cap,hv,hs.mono λi b o hi hq=>?_⟩;have:=hq 0 (by omega);exact⟨l[i],List.getElem?_eq_getElem hi,by simpa [hi] using this⟩
structure znk (B:Nat) (w:World) where
 w':World
 h:Below B w w'
instance (B:Nat) (w:World):Nonempty (znk B w):=⟨⟨w,Below.refl _ _⟩⟩
theorem znk.old {B:Nat} {w:World} {p:Addr} {v:Value} (hc:w.cell? p=some v) (hB:w.heap.size<=B) (g:znk B w):g.w'.cell? p=some v :=
 (g.h.cell (Nat.lt_of_lt_of_le (World.block_lt_of_cell? _ _ hc) hB)).trans hc
def zdD (c:Int):Bool:=decide (97<=c)&&decide (c<=122)
def zmf (c:Int):Bool:=decide (48<=c)&&decide (c<=57)
def XU (c:Int):Bool:=zdD c||zmf c||(decide (65<=c)&&decide (c<=90))||(c==95)
def zcs (b:UInt8):Bool:=XU b.toNat
def zaE (l:List UInt8):Bool:=l.all zcs&&(match l with | []=>false|c::_=>zdD c.toNat)
def kwL:List (List UInt8):=[[99,108,97,115,115],[101,120,116,101,110,100,115],[114,97,110,100],[114,97,110,100,99],[115,116,97,116,101],[99,111,110,115,116,114,97,105,110,116],[115,111,102,116],[100,105,115,116],[105,102],[101,108,115,101],[101,97,99,104],[105,110],[115,111,108,118,101],[98,101,102,111,114,101],[105,110,115,105,100,101],[112,114,111,112,101,114,116,121],[115,101,113],[97,110,100],[111,114],[110,111,116],[115,101,116],[104,111,108,100],[112,108,97,105,110],[114,101,112,101,97,116]]
def kwS:List ByteArray:=kwL.map λl=>⟨l.toArray⟩
def yW (l:List UInt8):Bool:=zaE l&&decide (l.length<=16)&&!kwL.contains l
def ZW (w:World):Prop:=(∃m:Int,w.cell? ⟨0,0,none⟩=some (.int .i64 m)) /\
 ∃b off cap,w.cell? ⟨1,0,none⟩=some (.slice (some ⟨b,off,none⟩) 24 cap)/\∀i,i<24->w.cell? ⟨b,off+i,none⟩=some (.string (kwS.getD i ByteArray.empty))
theorem ZW.keep {w w':World} (hk:∀a v,w.cell? a=some v->w'.cell? a=some v) (h:ZW w):ZW w':=by obtain⟨⟨m,hm⟩,b,off,cap,h0,h1⟩:=h;exact⟨⟨m,hk _ _ hm⟩,b,off,cap,hk _ _ h0,λi hi=>hk _ _ (h1 i hi)⟩
theorem ZW.below {w w':World} (h:ZW w) (hb:Below w.heap.size w w'):ZW w':=h.keep (za hb)
theorem Ye (c:Int) (w:World) :
 Calls Tryz.prog 234 #[.int .i32 c] w λe w'=>e=.returned (.bool (zdD c))/\w=w':=by
 go_enter Tryz.func234, Tryz.ntmps234;go_wp2;all_goals go_ret
 all_goals exact⟨by simp_all [zdD]<;>omega,rfl⟩
theorem zgW (c:Int) (w:World) :
 Calls Tryz.prog 268 #[.int .i32 c] w λe w'=>e=.returned (.bool (zmf c))/\w=w':=by
 go_enter Tryz.func268, Tryz.ntmps268;go_wp2;all_goals go_ret
 all_goals exact⟨by simp_all [zmf]<;>omega,rfl⟩
theorem ZI (c:Int) (w:World) :
 Calls Tryz.prog 235 #[.int .i32 c] w λe w'=>e=.returned (.bool (XU c))/\w=w':=by
 go_enter Tryz.func235, Tryz.ntmps235;go_wp2_with (first|(go_at_call 234;refine(Ye _ _).mono ?_;rintro e w' ⟨rfl,rfl⟩)|(go_at_call 268;refine(zgW _ _).mono ?_;rintro e w' ⟨rfl,rfl⟩));all_goals go_ret
 all_goals exact⟨by simp_all [XU]<;>omega,rfl⟩
theorem zcp {c:Int} (h:128<=c):XU c=false:=by simp[XU,zdD,zmf];omega
theorem zjC {c:Int} (h:128<=c):zdD c=false:=by simp[zdD];omega
def XL (s:ByteArray) (pos:Nat):Prop:=pos<=s.size/\(s.data.toList.take pos).all zcs=true/\(0<pos->∃c l,s.data.toList=c::l/\zdD c.toNat=true)
theorem Yu {s:ByteArray} {pos:Nat} (h:XL s pos) (hp:pos<s.size) (hf:XU (s[pos]'hp).toNat=true) (h0:pos=0->zdD (s[pos]'hp).toNat=true):XL s (pos+1):=by
 obtain⟨_,h2,h3⟩:=h;have hl:s.data.toList.length=s.size:=by simp
 have he:s.data.toList[pos]'(by omega)=s[pos]'hp:=rfl;refine⟨by omega,?_,λ_=>?_⟩
 ·rw[List.take_succ_eq_append_getElem (by omega),List.all_append,h2,he];simpa [zcs] using hf
 ·by_cases hz:pos=0
  ·subst hz;have h0:=h0 rfl;cases hc:s.data.toList with
   |nil=>rw[hc]at hl;simp at hl;omega
   |cons c l =>
    refine⟨c,l,rfl,?_⟩;have:s[0]'hp=c:=by rw[←he];simp[hc]
    rw[←this];exact h0
  ·exact h3 (by omega)
theorem zav {s:ByteArray} {pos:Nat} (h:XL s pos) (hp:¬pos<s.size):zaE s.data.toList=!s.data.toList.isEmpty:=by
 obtain⟨h1,h2,h3⟩:=h;have hl:s.data.toList.length=s.size:=by simp
 rw[List.take_of_length_le (by omega)]at h2;cases hc:s.data.toList with
 |nil=>rfl
 |cons c l =>obtain⟨c',l',hcl,hlo⟩:=h3 (by rw[hc]at hl;simp at hl;omega);rw[hc]at hcl h2;obtain⟨rfl,rfl⟩:=List.cons.inj hcl;unfold zaE;rw[h2];simpa using hlo
theorem YH {s:ByteArray} {pos:Nat} (hp:pos<s.size) (h:XU (s[pos]'hp).toNat=false\/pos=0/\zdD (s[pos]'hp).toNat=false):zaE s.data.toList=false:=by
 have hl:s.data.toList.length=s.size:=by simp
 have he:s.data.toList[pos]'(by omega)=s[pos]'hp:=rfl;rcases h with h|⟨rfl,h⟩
 ·have:s.data.toList.all zcs=false:=by
   rw[List.all_eq_false];exact⟨s.data.toList[pos]'(by omega),List.getElem_mem _,by rw[he];simp[zcs,h]⟩
  simp[zaE,this]
 ·cases hc:s.data.toList with
  |nil=>rfl
  |cons c l =>
   have:s[0]'hp=c:=by rw[←he];simp[hc]
   rw[this]at h;simp[zaE,h]
theorem zkm (s:ByteArray) (w:World) (hs:s.size<=1073741824) :
 Calls Tryz.prog 188 #[.string s] w λe w'=>e=.returned (.bool (zaE s.data.toList))/\Below w.heap.size w w':=by
 go_enter Tryz.func188, Tryz.ntmps188;go_wp2_with fail;go_loopw [2] (λ_ w'=>∃(pos:Nat),w'=w.iter s pos/\XL s pos) (λ_ w'=>s.size-w'.iterPos w.heap.size);case atStart=>exact⟨0,rfl,by omega,by simp,by omega⟩
 case round =>
  obtain⟨pos,rfl,hrel⟩:=hrel;have hBel:Hid (∀p,Below w.heap.size w (w.iter s p)):=λp=>(Below.refl _ _).alloc (Nat.le_refl _) _;by_cases hp:pos<s.size
  ·by_cases ha:(s[pos]'hp).toNat<128
   ·have hnx:∀ty,(Instr.next (.pointer (some ⟨w.heap.size,0,none⟩)) true ty).run Tryz.prog (w.iter s pos)=_:=λty=>run_next_ascii w s pos ty hp ha;by_cases hz:pos=0
    ·subst hz;have hBadF:=Lib.hid λh=>YH hp (Or.inl h);have hBadL:=Lib.hid λh=>YH hp (Or.inr ⟨rfl,h⟩);have hStep:=Lib.hid λa b=>Yu hrel hp a (λ_=>b);clear hrel;cases hl:zdD (s[0]'hp).toNat<;>cases hf:XU (s[0]'hp).toNat
     all_goals go_wp2_with (first|(go_at_call 234;refine(Ye _ _).mono ?_;rintro e w' ⟨rfl,rfl⟩)|(go_at_call 235;refine(ZI _ _).mono ?_;rintro e w' ⟨rfl,rfl⟩))
     ·go_ret;exact⟨by rw[hBadL.out hl];rfl,hBel.out _⟩
     ·go_ret;exact⟨by rw[hBadL.out hl];rfl,hBel.out _⟩
     ·go_ret;exact⟨by rw[hBadF.out hf];rfl,hBel.out _⟩
     ·go_roundw;case rel=>exact⟨1,rfl,hStep.out hf hl⟩
      case measure=>simp;omega
    ·have hBadF:=Lib.hid λh=>YH hp (Or.inl h);have hStep:=Lib.hid λa=>Yu hrel hp a (λh=>absurd h hz);clear hrel;cases hf:XU (s[pos]'hp).toNat
     all_goals go_wp2_with (first|(go_at_call 234;refine(Ye _ _).mono ?_;rintro e w' ⟨rfl,rfl⟩)|(go_at_call 235;refine(ZI _ _).mono ?_;rintro e w' ⟨rfl,rfl⟩))
     ·go_ret;exact⟨by rw[hBadF.out hf];rfl,hBel.out _⟩
     ·go_roundw;case rel=>exact⟨pos+1,rfl,hStep.out hf⟩
      case measure=>simp;omega
   ·have hnx:∀ty,(Instr.next (.pointer (some ⟨w.heap.size,0,none⟩)) true ty).run Tryz.prog (w.iter s pos)=_:=λty=>run_next_any w s pos ty hp;have hd:=(decode_high s pos hp (by omega)).1;have hf:XU (Utf8.decode s pos).1=false:=zcp (by omega);have hl:zdD (Utf8.decode s pos).1=false:=zjC (by omega);have hBad:=Lib.hid (YH hp (Or.inl (zcp (by omega))));clear hd hrel;by_cases hz:pos=0
    ·subst hz;go_wp2_with (first|(go_at_call 234;refine(Ye _ _).mono ?_;rintro e w' ⟨rfl,rfl⟩)|(go_at_call 235;refine(ZI _ _).mono ?_;rintro e w' ⟨rfl,rfl⟩));go_ret;exact⟨by rw[hBad.out];rfl,hBel.out _⟩
    ·go_wp2_with (first|(go_at_call 234;refine(Ye _ _).mono ?_;rintro e w' ⟨rfl,rfl⟩)|(go_at_call 235;refine(ZI _ _).mono ?_;rintro e w' ⟨rfl,rfl⟩));go_ret;exact⟨by rw[hBad.out];rfl,hBel.out _⟩
  ·have hnx:∀ty,(Instr.next (.pointer (some ⟨w.heap.size,0,none⟩)) true ty).run Tryz.prog (w.iter s pos)=_:=λty=>run_next_end w s pos ty hp;have hE:=Lib.hid (zav hrel hp);clear hrel;go_wp2;go_ret;exact⟨by rw[hE.out,←ByteArray.toList_eq];rfl,hBel.out _⟩
theorem Ql (l:List (List UInt8)) (s:ByteArray):Lib.containsS (l.map λx=>(⟨x.toArray⟩:ByteArray)) s=l.contains s.data.toList:=by
 rw[Bool.eq_iff_iff,Lib.containsS_iff];simp only[List.mem_map,List.contains_iff_mem];constructor
 ·rintro ⟨x,hx,rfl⟩;exact hx
 ·exact λh=>⟨_,h,rfl⟩
theorem zbG (s:ByteArray) (w:World) (hG:ZW w) :
 Calls Tryz.prog 189 #[.string s] w λe w'=>e=.returned (.bool (kwL.contains s.data.toList))/\w=w':=by
 obtain⟨_,b,off,cap,h0,h1⟩:=hG;have hc:=Tryz.slices_Contains_string b off 24 cap kwS s w (by decide) (by decide) (λj hj=>h1 j hj);have hC:=Lib.hid hc;clear hc h1;go_enter Tryz.func189, Tryz.ntmps189;go_wp2_with fail;refine hC.out.mono ?_;rintro e w' ⟨rfl,rfl⟩;go_wp2_with fail;go_ret;exact⟨by rw[←Ql];rfl,rfl⟩
theorem Zw (s:ByteArray) (w:World) (hs:s.size<=1073741824) (hG:ZW w) :
 Calls Tryz.prog 122 #[.string s] w λe w'=>e=.returned (.bool (yW s.data.toList))/\Below w.heap.size w w':=by
 have hG':=Lib.hid hG;clear hG;go_enter Tryz.func122, Tryz.ntmps122;go_wp2_with fail;refine(zkm _ _ hs).mono ?_;rintro e w1 ⟨rfl,hb1⟩;have hK:=Lib.hid (zbG s w1 (hG'.out.keep (za hb1)));have hB:=Lib.hid hb1;clear hb1;go_wp2_with (go_at_call 189;refine hK.out.mono ?_;rintro e w' ⟨rfl,rfl⟩);all_goals go_ret
 all_goals exact⟨by simp_all [yW]<;>omega,hB.out⟩
def YJ (n:Int):Int:=n % 65536
def ziy (a b:Int):Int:=(a+b) % 65536
def znA (a b:Int):Int:=(a-b) % 65536
def znv (a b:Int):Int:=(a*b) % 65536
def znh (a:Int):Int:=(-a) % 65536
def zng (a:Int):Int:=65535-a % 65536
def zmg (a n:Int):Int:=if n<0\/16<=n then 0 else (a*2 ^ n.toNat) % 65536
def zmh (a n:Int):Int:=if n<0\/16<=n then 0 else a % 65536 / 2 ^ n.toNat
def yE (a i:Nat):Nat:=a / 2 ^ i % 2
def Xw (a:Nat):Nat:=yE a 0+yE a 1+yE a 2+yE a 3+yE a 4+yE a 5+yE a 6+yE a 7+yE a 8+yE a 9+yE a 10+yE a 11+yE a 12+yE a 13+yE a 14+yE a 15
def zhE (a:Int):Int:=(Xw (a % 65536).toNat:Nat)
theorem zjt (n:Int):IntKind.u16.wrap (bits .and .i64 n 65535)=n % 65536:=by
 have h1:bits .and .i64 n 65535=IntKind.i64.wrap ((BitVec.ofInt 64 n &&& BitVec.ofInt 64 65535).toNat:Int):=rfl;have h2:(BitVec.ofInt 64 n &&& BitVec.ofInt 64 65535).toNat=(BitVec.ofInt 64 n).toNat % 65536:=by rw[BitVec.toNat_and];show _ &&& 65535=_;exact Nat.and_two_pow_sub_one_eq_mod _ 16
 have h3:((BitVec.ofInt 64 n).toNat:Int)=n % 18446744073709551616:=by
  rw[BitVec.toNat_ofInt];have:0<=n % 18446744073709551616:=by omega
  have h64:((2 ^ 64:Nat):Int)=18446744073709551616:=by decide
  rw[h64];omega
 rw[h1,h2,IntKind.wrap_u16,IntKind.wrap_i64];rw[Int.natCast_emod,h3];omega
theorem qu (n:Int) (w:World) :
 Calls Tryz.prog 114 #[.int .i64 n] w λe w'=>e=.returned (.int .u16 (n % 65536))/\w=w':=by
 go_enter Tryz.func114, Tryz.ntmps114;go_wp2_with fail;go_ret;exact⟨by rw[←zjt n];rfl,rfl⟩
theorem zke (a b:Int) (w:World):Calls Tryz.prog 292 #[.int .u16 a,.int .u16 b] w λe w'=>e=.returned (.int .u16 ((a+b) % 65536))/\w=w':=by go_enter Tryz.func292, Tryz.ntmps292;go_wp2_with fail;go_ret;exact⟨by rw[←IntKind.wrap_u16];rfl,rfl⟩
theorem zkp (a b:Int) (w:World):Calls Tryz.prog 316 #[.int .u16 a,.int .u16 b] w λe w'=>e=.returned (.int .u16 ((a-b) % 65536))/\w=w':=by go_enter Tryz.func316, Tryz.ntmps316;go_wp2_with fail;go_ret;exact⟨by rw[←IntKind.wrap_u16];rfl,rfl⟩
theorem zkk (a b:Int) (w:World):Calls Tryz.prog 317 #[.int .u16 a,.int .u16 b] w λe w'=>e=.returned (.int .u16 ((a*b) % 65536))/\w=w':=by go_enter Tryz.func317, Tryz.ntmps317;go_wp2_with fail;go_ret;exact⟨by rw[←IntKind.wrap_u16];rfl,rfl⟩
theorem zkl (a:Int) (w:World):Calls Tryz.prog 314 #[.int .u16 a] w λe w'=>e=.returned (.int .u16 ((-a) % 65536))/\w=w':=by go_enter Tryz.func314, Tryz.ntmps314;go_wp2_with fail;go_ret;exact⟨by rw[←IntKind.wrap_u16];rfl,rfl⟩
theorem zkj (a:Int) (w:World) (h0:0<=a) (h1:a<65536):Calls Tryz.prog 313 #[.int .u16 a] w λe w'=>e=.returned (.int .u16 (65535-a))/\w=w':=by
 have hx:bits .xor .u16 IntKind.u16.max a=65535-a:=by
  obtain⟨A,rfl⟩:=Int.eq_ofNat_of_zero_le h0;show bits .xor .u16 ((65535:Nat):Int) (A:Int)=_;rw[u16_xor_nat _ _ (by decide) (by omega)];have:65535 ^^^ A=65535-A:=by
   have e:(BitVec.allOnes 16 ^^^ BitVec.ofNat 16 A).toNat=65535 ^^^ A:=by rw[BitVec.toNat_xor,BitVec.toNat_allOnes,BitVec.toNat_ofNat,Nat.mod_eq_of_lt (by omega)]
   rw[←e,BitVec.allOnes_xor,BitVec.toNat_not,BitVec.toNat_ofNat,Nat.mod_eq_of_lt (by omega)]
  rw[this];omega
 have HX:=Lib.hid hx;clear hx;go_enter Tryz.func313, Tryz.ntmps313;go_wp2_with fail;go_ret;refine⟨?_,rfl⟩;show Ending.returned (.int .u16 (bits .xor .u16 IntKind.u16.max a))=_;rw[HX.out]
theorem zkn (a b:Int) (w:World) (h:0<=b) (h':b<16):Calls Tryz.prog 319 #[.int .u16 a,.int .i64 b] w λe w'=>e=.returned (.int .u16 ((a*2 ^ b.toNat) % 65536))/\w=w':=by go_enter Tryz.func319, Tryz.ntmps319;go_wp2_with fail;go_ret;exact⟨by rw[←IntKind.wrap_u16];rfl,rfl⟩
theorem zko (a b:Int) (w:World) (h:0<=b) (h':b<16) (ha:0<=a) (ha':a<65536):Calls Tryz.prog 320 #[.int .u16 a,.int .i64 b] w λe w'=>e=.returned (.int .u16 (a / 2 ^ b.toNat))/\w=w':=by go_enter Tryz.func320, Tryz.ntmps320;go_wp2_with fail;go_ret;exact⟨rfl,rfl⟩
theorem zed (a b:Int) (w:World):Calls Tryz.prog 278 #[.int .i64 a,.int .i64 b] w λe w'=>e=.returned (.int .i64 (ziy a b))/\w=w':=by go_enter Tryz.func278, Tryz.ntmps278;go_wp2_with (first|(go_at_call 114;refine(qu _ _).mono ?_;rintro e w' ⟨rfl,rfl⟩)|(go_at_call 292;refine(zke _ _ _).mono ?_;rintro e w' ⟨rfl,rfl⟩)|go_in);go_ret;refine⟨?_,rfl⟩;show Ending.returned (.int .i64 _)=_;unfold ziy;simp only[Int.add_emod,Int.sub_emod,Int.mul_emod,Int.emod_emod,Int.emod_emod_of_dvd];try rfl
theorem ziK (a b:Int) (w:World):Calls Tryz.prog 297 #[.int .i64 a,.int .i64 b] w λe w'=>e=.returned (.int .i64 (znA a b))/\w=w':=by go_enter Tryz.func297, Tryz.ntmps297;go_wp2_with (first|(go_at_call 114;refine(qu _ _).mono ?_;rintro e w' ⟨rfl,rfl⟩)|(go_at_call 316;refine(zkp _ _ _).mono ?_;rintro e w' ⟨rfl,rfl⟩)|go_in);go_ret;refine⟨?_,rfl⟩;show Ending.returned (.int .i64 _)=_;unfold znA;simp only[Int.add_emod,Int.sub_emod,Int.mul_emod,Int.emod_emod,Int.emod_emod_of_dvd];try rfl
theorem ziG (a b:Int) (w:World):Calls Tryz.prog 298 #[.int .i64 a,.int .i64 b] w λe w'=>e=.returned (.int .i64 (znv a b))/\w=w':=by go_enter Tryz.func298, Tryz.ntmps298;go_wp2_with (first|(go_at_call 114;refine(qu _ _).mono ?_;rintro e w' ⟨rfl,rfl⟩)|(go_at_call 317;refine(zkk _ _ _).mono ?_;rintro e w' ⟨rfl,rfl⟩)|go_in);go_ret;refine⟨?_,rfl⟩;show Ending.returned (.int .i64 _)=_;unfold znv;simp only[Int.add_emod,Int.sub_emod,Int.mul_emod,Int.emod_emod,Int.emod_emod_of_dvd];try rfl
theorem zb3 (a:Int) (w:World):Calls Tryz.prog 57 #[.int .i64 a] w λe w'=>e=.returned (.int .i64 (YJ a))/\w=w':=by go_enter Tryz.func57, Tryz.ntmps57;go_wp2_with (first|(go_at_call 114;refine(qu _ _).mono ?_;rintro e w' ⟨rfl,rfl⟩)|go_in);go_ret;exact⟨rfl,rfl⟩
theorem ziH (a:Int) (w:World):Calls Tryz.prog 295 #[.int .i64 a] w λe w'=>e=.returned (.int .i64 (znh a))/\w=w':=by
 have hn:Hid ((-(a % 65536)) % 65536=(-a) % 65536):=by show _=_;omega
 go_enter Tryz.func295, Tryz.ntmps295;go_wp2_with (first|(go_at_call 114;refine(qu _ _).mono ?_;rintro e w' ⟨rfl,rfl⟩)|(go_at_call 314;refine(zkl _ _).mono ?_;rintro e w' ⟨rfl,rfl⟩)|go_in);go_ret;exact⟨by unfold znh;rw[←hn.out];rfl,rfl⟩
theorem ziF (a:Int) (w:World):Calls Tryz.prog 294 #[.int .i64 a] w λe w'=>e=.returned (.int .i64 (zng a))/\w=w':=by go_enter Tryz.func294, Tryz.ntmps294;go_wp2_with (first|(go_at_call 114;refine(qu _ _).mono ?_;rintro e w' ⟨rfl,rfl⟩)|(go_at_call 313;refine(zkj _ _ (by omega) (by omega)).mono ?_;rintro e w' ⟨rfl,rfl⟩)|go_in);go_ret;exact⟨rfl,rfl⟩
theorem ziI (a n:Int) (w:World):Calls Tryz.prog 299 #[.int .i64 a,.int .i64 n] w λe w'=>e=.returned (.int .i64 (zmg a n))/\w=w':=by
 by_cases h0:n<0
 ·go_enter Tryz.func299, Tryz.ntmps299;go_wp2_with (first|(go_at_call 114;refine(qu _ _).mono ?_;rintro e w' ⟨rfl,rfl⟩)|go_in);go_ret;exact⟨by rw[zmg,if_pos (Or.inl h0)];rfl,rfl⟩
 ·by_cases h1:16<=n
  ·go_enter Tryz.func299, Tryz.ntmps299;go_wp2_with (first|(go_at_call 114;refine(qu _ _).mono ?_;rintro e w' ⟨rfl,rfl⟩)|go_in);go_ret;exact⟨by rw[zmg,if_pos (Or.inr h1)];rfl,rfl⟩
  ·have hm:Hid ((a % 65536*2 ^ n.toNat) % 65536=(a*2 ^ n.toNat) % 65536):=by show _=_;rw[Int.mul_emod,Int.emod_emod,←Int.mul_emod]
   go_enter Tryz.func299, Tryz.ntmps299;go_wp2_with (first|(go_at_call 114;refine(qu _ _).mono ?_;rintro e w' ⟨rfl,rfl⟩)|(go_at_call 319;refine(zkn _ _ _ (by omega) (by omega)).mono ?_;rintro e w' ⟨rfl,rfl⟩)|go_in);go_ret;exact⟨by rw[zmg,if_neg (by omega),←hm.out];rfl,rfl⟩
theorem ziJ (a n:Int) (w:World):Calls Tryz.prog 300 #[.int .i64 a,.int .i64 n] w λe w'=>e=.returned (.int .i64 (zmh a n))/\w=w':=by
 by_cases h0:n<0
 ·go_enter Tryz.func300, Tryz.ntmps300;go_wp2_with (first|(go_at_call 114;refine(qu _ _).mono ?_;rintro e w' ⟨rfl,rfl⟩)|go_in);go_ret;exact⟨by rw[zmh,if_pos (Or.inl h0)];rfl,rfl⟩
 ·by_cases h1:16<=n
  ·go_enter Tryz.func300, Tryz.ntmps300;go_wp2_with (first|(go_at_call 114;refine(qu _ _).mono ?_;rintro e w' ⟨rfl,rfl⟩)|go_in);go_ret;exact⟨by rw[zmh,if_pos (Or.inr h1)];rfl,rfl⟩
  ·have hq0:0<=a % 65536 / 2 ^ n.toNat:=Int.ediv_nonneg (by omega) (Int.le_of_lt (Int.pow_pos (by decide)));have hq1:a % 65536 / 2 ^ n.toNat<=65535:=Int.le_trans (Int.ediv_le_self _ (by omega)) (by omega);go_enter Tryz.func300, Tryz.ntmps300;go_wp2_with (first|(go_at_call 114;refine(qu _ _).mono ?_;rintro e w' ⟨rfl,rfl⟩)|(go_at_call 320;refine(zko _ _ _ (by omega) (by omega) (by omega) (by omega)).mono ?_;rintro e w' ⟨rfl,rfl⟩)|go_in);go_ret;exact⟨by rw[zmh,if_neg (by omega)];rfl,rfl⟩
theorem zfK (x:Nat) (h:x<65536):Xw x=Xw (x / 256)+Xw (x % 256):=by
 have a0:yE (x % 256) 0=yE x 0:=by unfold yE;omega
 have a1:yE (x % 256) 1=yE x 1:=by unfold yE;omega
 have a2:yE (x % 256) 2=yE x 2:=by unfold yE;omega
 have a3:yE (x % 256) 3=yE x 3:=by unfold yE;omega
 have a4:yE (x % 256) 4=yE x 4:=by unfold yE;omega
 have a5:yE (x % 256) 5=yE x 5:=by unfold yE;omega
 have a6:yE (x % 256) 6=yE x 6:=by unfold yE;omega
 have a7:yE (x % 256) 7=yE x 7:=by unfold yE;omega
 have a8:yE (x % 256) 8=0:=by unfold yE;omega
 have a9:yE (x % 256) 9=0:=by unfold yE;omega
 have a10:yE (x % 256) 10=0:=by unfold yE;omega
 have a11:yE (x % 256) 11=0:=by unfold yE;omega
 have a12:yE (x % 256) 12=0:=by unfold yE;omega
 have a13:yE (x % 256) 13=0:=by unfold yE;omega
 have a14:yE (x % 256) 14=0:=by unfold yE;omega
 have a15:yE (x % 256) 15=0:=by unfold yE;omega
 have b0:yE (x / 256) 0=yE x 8:=by unfold yE;rw[Nat.div_div_eq_div_mul]
 have b1:yE (x / 256) 1=yE x 9:=by unfold yE;rw[Nat.div_div_eq_div_mul]
 have b2:yE (x / 256) 2=yE x 10:=by unfold yE;rw[Nat.div_div_eq_div_mul]
 have b3:yE (x / 256) 3=yE x 11:=by unfold yE;rw[Nat.div_div_eq_div_mul]
 have b4:yE (x / 256) 4=yE x 12:=by unfold yE;rw[Nat.div_div_eq_div_mul]
 have b5:yE (x / 256) 5=yE x 13:=by unfold yE;rw[Nat.div_div_eq_div_mul]
 have b6:yE (x / 256) 6=yE x 14:=by unfold yE;rw[Nat.div_div_eq_div_mul]
 have b7:yE (x / 256) 7=yE x 15:=by unfold yE;rw[Nat.div_div_eq_div_mul]
 have b8:yE (x / 256) 8=0:=by unfold yE;omega
 have b9:yE (x / 256) 9=0:=by unfold yE;omega
 have b10:yE (x / 256) 10=0:=by unfold yE;omega
 have b11:yE (x / 256) 11=0:=by unfold yE;omega
 have b12:yE (x / 256) 12=0:=by unfold yE;omega
 have b13:yE (x / 256) 13=0:=by unfold yE;omega
 have b14:yE (x / 256) 14=0:=by unfold yE;omega
 have b15:yE (x / 256) 15=0:=by unfold yE;omega
 unfold Xw;omega
theorem tabF:∀x:Fin 256,(Lib.pop8tab.data.toList.getD x.val 0).toNat=Xw x.val:=by decide +kernel
theorem popF:∀x:Fin 256,Lib.pop8 (x.val:Int)=(Xw x.val:Int):=by decide +kernel
theorem tabN (x:Nat) (hx:x<256) (h:x<Lib.pop8tab.size):(Lib.pop8tab[x]'h).toNat=Xw x:=by have h1:=tabF ⟨x,hx⟩;simp only at h1;rw[←h1,List.getD_eq_getElem?_getD,List.getElem?_eq_getElem (by simpa using h)];rfl
theorem zfJ (n:Nat) (h:n<65536) (w:World):Calls Tryz.prog 315 #[.int .u16 n] w λe w'=>e=.returned (.int .i64 (Xw n:Nat))/\Below w.heap.size w w':=by
 have h1:(n:Int) / 256<256:=by omega
 have h2:0<=(n:Int) / 256:=by omega
 have hb:bits .and .u16 (n:Int) 255=((n % 256:Nat):Int):=by rw[show (255:Int)=((255:Nat):Int) from rfl,u16_and_nat _ _ h (by decide)];exact congrArg _ (Nat.and_two_pow_sub_one_eq_mod n 8)
 have h3:(n:Int) % 256<256:=by omega
 have h4:0<=(n:Int) % 256:=by omega
 have hs:Lib.pop8tab.size=256:=by decide +kernel
 go_enter Tryz.func315, Tryz.ntmps315;go_wp2_with fail;go_quiet (fail);go_wp2_with fail;go_ret;refine⟨?_,below_drewN (Below.refl _ _) _⟩;have e1:=tabN (n / 256) (by omega) (by rw[hs];omega);have e2:=popF ⟨n % 256,by omega⟩;simp only[Int.natCast_emod]at e2;have e3:=zfK n h;have e4:Xw (n / 256)<=16:=by unfold Xw yE;omega
 have e5:Xw (n % 256)<=16:=by unfold Xw yE;omega
 show Ending.returned (.int .i64 ((((Lib.pop8tab[n / 256]'(by rw[hs];omega)).toNat:Int)+Lib.pop8 ((n:Int) % ((256:Nat):Int))) % 256))=_;rw[e1,e2,e3];congr 2;omega
theorem zgu (a:Int) (w:World):Calls Tryz.prog 296 #[.int .i64 a] w λe w'=>e=.returned (.int .i64 (zhE a))/\Below w.heap.size w w':=by
 obtain⟨A,hA⟩:∃A:Nat,(A:Int)=a % 65536:=⟨(a % 65536).toNat,by omega⟩;have hlt:A<65536:=by omega
 have hC:=zfJ A hlt w;have HC:=Lib.hid hC;have HA:=Lib.hid hA;clear hC hA;go_enter Tryz.func296, Tryz.ntmps296;go_wp2_with (first|(go_at_call 114;refine(qu _ _).mono ?_;rintro e w' ⟨rfl,rfl⟩;rw[←HA.out])|(go_at_call 315;refine HC.out.mono ?_;rintro e w1 ⟨rfl,hb1⟩));go_ret;exact⟨by unfold zhE;rw[←HA.out];simp,by assumption⟩
def zaJ (op:Int):Int :=
 if op=1\/op=2\/op=24 then 0 else if op=3\/op=4\/op=5\/op=6\/op=25 then 1 else if op=22 then 3 else if op=23 then -1 else if op<1\/25<op then -1 else 2
def qD (op:Int) (n:Nat):Bool:=if op=23 then decide (n % 2=1/\3<=n/\n<=33) else decide ((n:Int)=zaJ op)
def Xl (l:List UInt8):Bool:=match l with
 | [x,y]=>y==93&&decide (48<=x)&&decide (x<56)
 |_=>false
def YT (l:List UInt8):Bool:=(Lib.cut l [91]).2.2&&yW (Lib.cut l [91]).1&&Xl (Lib.cut l [91]).2.1
def zis (l:List UInt8):Bool:=YT l||yW l
def qO (e:Ex):Int :=
 if e.op<1\/25<e.op then 1
 else if e.op=1/\(e.n<0\/65535<e.n)\/e.op≠1/\e.n≠0 then 1
 else if ¬(e.op=2\/e.op=3\/e.op=24)/\e.name.data.toList≠[]\/qD e.op e.args.length=false then 1
 else if e.op=2/\zis e.name.data.toList=false\/(e.op=3\/e.op=24)/\yW e.name.data.toList=false then 7
 else 0
theorem zgz (op:Int) (w:World) :
 Calls Tryz.prog 266 #[.int .i64 op] w λe w'=>e=.returned (.int .i64 (zaJ op))/\w=w':=by
 go_enter Tryz.func266, Tryz.ntmps266;go_wp2;all_goals go_ret
 all_goals refine⟨?_,rfl⟩
 all_goals simp_all [zaJ]
 all_goals omega
theorem zcJ (op n:Int) (s:ByteArray) (a:Option Addr) (len cap:Nat) (w:World) (hl:len<=1073741824) :
 Calls Tryz.prog 231 #[.agg #[.int .i64 op,.int .i64 n,.string s,.slice a len cap]] w λe w'=>e=.returned (.bool (qD op len))/\Below w.heap.size w w':=by
 have hB:Hid (∀o,Below w.heap.size w (w.alloc o)):=λo=>(Below.refl _ _).alloc (Nat.le_refl _) _;go_enter Tryz.func231, Tryz.ntmps231;go_wp2_with (go_at_call 266;refine(zgz _ _).mono ?_;rintro e w' ⟨rfl,rfl⟩);all_goals go_ret
 all_goals refine⟨?_,hB.out _⟩
 all_goals simp_all [qD]
 all_goals first|omega|(rw[Bool.eq_iff_iff];simp;done)|(rw[Bool.eq_iff_iff];simp;omega)
theorem zmw (l:List UInt8):(Lib.cut l [91]).1.length<=l.length:=by
 unfold Lib.cut;split
 ·show (List.take _ _).length<=_;rw[List.length_take];omega
 ·exact Nat.le_refl _
theorem Yb (x y:UInt8):Xl [x,y]=decide (y.toNat=93/\48<=x.toNat/\x.toNat<56):=by show (y==93&&decide (48<=x)&&decide (x<56))=_;rw[Bool.eq_iff_iff];simp[UInt8.le_iff_toNat_le,UInt8.lt_iff_toNat_lt,←UInt8.toNat_inj,and_assoc]
theorem zka (x y:UInt8) (h):(⟨#[x,y]⟩:ByteArray)[0]'h=x:=rfl
theorem zkb (x y:UInt8) (h):(⟨#[x,y]⟩:ByteArray)[1]'h=y:=rfl
theorem QV {l:List UInt8} (h:l.length≠2):Xl l=false:=by
 unfold Xl;split
 ·simp at h
 ·rfl
theorem zdw (s:ByteArray) (w:World) (hs:s.size<=1073741824) (hG:ZW w) :
 Calls Tryz.prog 267 #[.string s] w λe w'=>(∃(t:ByteArray) (i:Int),e=.returned (.tuple #[.string t,.int .i64 i,.bool (YT s.data.toList)]))/\Below w.heap.size w w':=by
 obtain⟨m,hm⟩:=hG.1;have hC:=Tryz.strings_Cut s ⟨#[91]⟩ m w (by omega) hm;have hsz:(Lib.cut s.data.toList [91]).1.length<=s.size:=by rw[Lib.size_eq];exact zmw _
 have hE:YT s.data.toList=((Lib.cut s.data.toList [91]).2.2&&yW (Lib.cut s.data.toList [91]).1&&Xl (Lib.cut s.data.toList [91]).2.1):=rfl;have e91:(⟨#[91]⟩:ByteArray).data.toList=[91]:=rfl;rw[e91]at hC;clear e91;generalize Lib.cut s.data.toList [91]=c at hC hsz hE;obtain⟨nm,idx,ok⟩:=c;dsimp only at hC hsz hE;have HE:=Lib.hid hE;have HC:=Lib.hid hC;have HG:=Lib.hid hG;have hsz':(⟨nm.toArray⟩:ByteArray).size<=1073741824:=by show nm.toArray.size<=_;simp;omega
 have Hsz:=Lib.hid hsz';clear hC hG hm hsz hsz' hE;go_enter Tryz.func267, Tryz.ntmps267;go_wp2_with fail;refine HC.out.mono ?_;rintro e w1 ⟨rfl,k,rfl⟩;have hB1:Below w.heap.size w (w.drewN k):=below_drewN (Below.refl _ _) k;have hN:=Lib.hid ((Zw ⟨nm.toArray⟩ (w.drewN k) Hsz.out (HG.out.below hB1)).mono λe w' h=>(⟨h.1,hB1.trans h.2⟩:_/\Below w.heap.size w w'));have HB1:=Lib.hid hB1;clear hB1;cases ok
 ·go_wp2_with fail;go_ret3;exact⟨⟨.empty,0,by rw[HE.out];rfl⟩,HB1.out⟩
 ·cases hn:yW nm
  ·go_wp2_with (go_at_call 122;refine hN.out.mono ?_;rintro e w2 ⟨rfl,hb2⟩;rw[hn]);go_ret3;exact⟨⟨.empty,0,by rw[HE.out,hn];rfl⟩,by assumption⟩
  ·by_cases h2:idx.length=2
   ·obtain⟨x,y,rfl⟩:∃x y,idx=[x,y]:=by
     match idx,h2 with
     | [x,y],_=>exact⟨x,y,rfl⟩
    clear h2;have hx:=zka x y;have hy:=zkb x y;have HT:Hid (YT s.data.toList=decide (y.toNat=93/\48<=x.toNat/\x.toNat<56)):=by show _=_;rw[HE.out,hn,Yb];rfl
    by_cases h93:y.toNat=93
    ·by_cases h48:48<=x.toNat
     ·by_cases h56:x.toNat<56
      ·have HX:=Lib.hid (HT.out.trans (decide_eq_true ⟨h93,h48,h56⟩));go_wp2_with (go_at_call 122;refine hN.out.mono ?_;rintro e w2 ⟨rfl,hb2⟩;rw[hn]);go_quiet (fail);go_wp2_with fail;go_ret3;exact⟨⟨⟨nm.toArray⟩,(x.toNat:Int)-48,by rw[HX.out];rfl⟩,below_drewN (by assumption) _⟩
      ·have HX:=Lib.hid (HT.out.trans (decide_eq_false (λh=>h56 h.2.2)));go_wp2_with (go_at_call 122;refine hN.out.mono ?_;rintro e w2 ⟨rfl,hb2⟩;rw[hn]);go_ret3;exact⟨⟨.empty,0,by rw[HX.out];rfl⟩,by assumption⟩
     ·have HX:=Lib.hid (HT.out.trans (decide_eq_false (λh=>h48 h.2.1)));go_wp2_with (go_at_call 122;refine hN.out.mono ?_;rintro e w2 ⟨rfl,hb2⟩;rw[hn]);go_ret3;exact⟨⟨.empty,0,by rw[HX.out];rfl⟩,by assumption⟩
    ·have HX:=Lib.hid (HT.out.trans (decide_eq_false (λh=>h93 h.1)));go_wp2_with (go_at_call 122;refine hN.out.mono ?_;rintro e w2 ⟨rfl,hb2⟩;rw[hn]);go_ret3;exact⟨⟨.empty,0,by rw[HX.out];rfl⟩,by assumption⟩
   ·have ht:=QV h2;go_wp2_with (go_at_call 122;refine hN.out.mono ?_;rintro e w2 ⟨rfl,hb2⟩;rw[hn]);go_ret3;exact⟨⟨.empty,0,by rw[HE.out,ht,hn];rfl⟩,by assumption⟩
theorem zhg (s:ByteArray) (w:World) (hs:s.size<=1073741824) (hG:ZW w) :
 Calls Tryz.prog 232 #[.string s] w λe w'=>e=.returned (.bool (zis s.data.toList))/\Below w.heap.size w w':=by
 have hE:=Lib.hid (zdw s w hs hG);have HG:=Lib.hid hG;clear hG;go_enter Tryz.func232, Tryz.ntmps232;go_wp2_with fail;refine hE.out.mono ?_;rintro e w1 ⟨⟨t,i,rfl⟩,hb1⟩;have hN:=Lib.hid ((Zw s w1 hs (HG.out.below hb1)).mono λe w' h=>(⟨h.1,hb1.trans (h.2.mono hb1.size)⟩:_/\Below w.heap.size w w'));cases he:YT s.data.toList;all_goals go_wp2_with (go_at_call 122;refine hN.out.mono ?_;rintro e w2 ⟨rfl,hb2⟩)
 all_goals go_ret
 all_goals exact⟨by unfold zis;rw[he];rfl,by assumption⟩
theorem zjE (op n:Int) (s:ByteArray) (args:List Ex) (a:Option Addr) (cap:Nat) (w:World) (hs:s.size<=1073741824) (hl:args.length<=1073741824) (hG:ZW w) :
 Calls Tryz.prog 185 #[.agg #[.int .i64 op,.int .i64 n,.string s,.slice a args.length cap]] w λe w'=>e=.returned (.int .i64 (qO (.mk op n s args)))/\Below w.heap.size w w':=by
 have HG:=Lib.hid hG;clear hG;go_enter Tryz.func185, Tryz.ntmps185;go_wp2_with (first|(go_at_call 231;go_must (refine(fr (W0:=w) (B:=w.heap.size) (zcJ _ _ _ _ _ _ _ hl) bel sz).mono ?_;rintro e w1 ⟨rfl,hc1,hf1,hz1,hb1⟩;try simp only[World.size_alloc,World.size_setCell,World.size_drew,World.heap_drewN]at hz1;try (have hzl0:w.heap.size<w1.heap.size:=by omega);try (have hzl1:w.heap.size+1<w1.heap.size:=by omega);try (have hzl2:w.heap.size+2<w1.heap.size:=by omega);try (have hzl3:w.heap.size+3<w1.heap.size:=by omega);try (have hzl4:w.heap.size+4<w1.heap.size:=by omega);try (have hzl5:w.heap.size+5<w1.heap.size:=by omega)))|(go_at_call 232;go_must (refine(fr (W0:=w) (B:=w.heap.size) (zhg _ _ hs (HG.out.below bel)) bel sz).mono ?_;rintro e w1 ⟨rfl,hc1,hf1,hz1,hb1⟩;try simp only[World.size_alloc,World.size_setCell,World.size_drew,World.heap_drewN]at hz1;try (have hzl0:w.heap.size<w1.heap.size:=by omega);try (have hzl1:w.heap.size+1<w1.heap.size:=by omega);try (have hzl2:w.heap.size+2<w1.heap.size:=by omega);try (have hzl3:w.heap.size+3<w1.heap.size:=by omega);try (have hzl4:w.heap.size+4<w1.heap.size:=by omega);try (have hzl5:w.heap.size+5<w1.heap.size:=by omega)))|(go_at_call 122;go_must (refine(fr (W0:=w) (B:=w.heap.size) (Zw _ _ hs (HG.out.below bel)) bel sz).mono ?_;rintro e w1 ⟨rfl,hc1,hf1,hz1,hb1⟩;try simp only[World.size_alloc,World.size_setCell,World.size_drew,World.heap_drewN]at hz1;try (have hzl0:w.heap.size<w1.heap.size:=by omega);try (have hzl1:w.heap.size+1<w1.heap.size:=by omega);try (have hzl2:w.heap.size+2<w1.heap.size:=by omega);try (have hzl3:w.heap.size+3<w1.heap.size:=by omega);try (have hzl4:w.heap.size+4<w1.heap.size:=by omega);try (have hzl5:w.heap.size+5<w1.heap.size:=by omega))))
 all_goals go_ret
 all_goals refine⟨?_,bel⟩
 all_goals congr 2
 all_goals simp_all [qO,Ex.op,Ex.n,Ex.name,Ex.args,ByteArray.toList_eq]
 all_goals (try omega)
end Go.Proofs.YthojpomoflhbcaaGreatDoor
