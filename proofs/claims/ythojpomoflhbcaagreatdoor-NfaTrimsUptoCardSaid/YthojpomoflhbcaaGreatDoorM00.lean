/- What the expressions of the program are, as data, and where they lie in memory. -/
import Derived.WalkKit
import Derived.WalkSmall
import Derived.BigQuiet
import Derived.Deep.QuietTactic
import Derived.Lib.Hide
import Derived.Test.YthojpomoflhbcaaGreatDoorMSh
import Derived.WalkLawsBesides
import Derived.WalkSpells
import Derived.Lib.Tables
set_option linter.unusedSimpArgs false
set_option linter.unusedVariables false
set_option linter.unnecessarySimpa false
namespace Go.Proofs.YthojpomoflhbcaaGreatDoor
open Go.RowKit
theorem sz {P:Prop} (h:P:=by first | omega | (simp only[World.size_alloc,World.size_setCell,World.size_drew,World.heap_drewN]<;>omega) | (simp<;>omega)):P:=h
theorem bel {B:Nat} {a w:World} (h:Below B a w:=by repeat (first | assumption | exact Below.refl _ _ | refine Below.drew ?_ | refine below_drewN ?_ _ | refine Below.alloc ?_ (by first | omega | (simp only[World.size_alloc,World.size_setCell,World.size_drew,World.heap_drewN]<;>omega) | (simp<;>omega)) _ | refine Below.setCell ?_ (by first | omega | (simp only[World.size_alloc,World.size_setCell,World.size_drew,World.heap_drewN]<;>omega) | (simp<;>omega)) _)):Below B a w:=h
inductive Ex where
 | mk (op n:Int) (name:ByteArray) (args:List Ex)
def Ex.op:Ex→Int | .mk op _ _ _=>op
def Ex.n:Ex→Int | .mk _ n _ _=>n
def Ex.name:Ex→ByteArray | .mk _ _ s _=>s
def Ex.args:Ex→List Ex | .mk _ _ _ l=>l
theorem Ex.op_mk (op n:Int) (s:ByteArray) (l:List Ex):(Ex.mk op n s l).op=op:=rfl
theorem Ex.n_mk (op n:Int) (s:ByteArray) (l:List Ex):(Ex.mk op n s l).n=n:=rfl
theorem Ex.name_mk (op n:Int) (s:ByteArray) (l:List Ex):(Ex.mk op n s l).name=s:=rfl
theorem Ex.args_mk (op n:Int) (s:ByteArray) (l:List Ex):(Ex.mk op n s l).args=l:=rfl
noncomputable def Ex.para {α:Type} (f:Ex→List α→α) (e:Ex):α :=
 Ex.rec (motive_1:=fun _=>α) (motive_2:=fun _=>List α) (fun op n s args ih=>f (.mk op n s args) ih) [] (fun _ _ a ar=>a::ar) e
theorem Ex.para_mk {α:Type} (f:Ex→List α→α) (op n:Int) (s:ByteArray) (args:List Ex) :
  Ex.para f (.mk op n s args)=f (.mk op n s args) (args.map (Ex.para f)):=by
 have h:∀ l:List Ex,(Ex.rec_1 (motive_1:=fun _=>α) (motive_2:=fun _=>List α) (fun op n s args ih=>f (.mk op n s args) ih) [] (fun _ _ a ar=>a::ar) l:List α)=l.map (Ex.para f):=by
  intro l
  induction l with
  | nil=>rfl
  | cons e l ih=>simp only[List.map_cons,← ih];rfl
 show f (.mk op n s args) _=_
 rw[← h args]
theorem Ex.para_eq {α:Type} (f:Ex→List α→α) (e:Ex):Ex.para f e=f e (e.args.map (Ex.para f)):=by
 cases e;exact Ex.para_mk _ _ _ _ _
theorem Ex.ind {P:Ex→Prop} (h:∀ e:Ex,(∀ a,a∈e.args→P a)→P e) (e:Ex):P e :=
 Ex.rec (motive_1:=P) (motive_2:=fun l=>∀ a,a∈l→P a)
  (fun op n s args ih=>h (.mk op n s args) ih) (fun _ ha=>by cases ha)
  (fun e l he hl a ha=>by
   cases ha with
   | head=>exact he
   | tail _ h'=>exact hl a h') e
noncomputable def Ex.nodes (e:Ex):List Ex:=e.para fun e ls=>e::ls.flatten
theorem Ex.nodes_eq (e:Ex):e.nodes=e::(e.args.map Ex.nodes).flatten:=by
 unfold Ex.nodes;rw[Ex.para_eq]
noncomputable def Ex.depth (e:Ex):Nat:=e.para fun _ ls=>ls.foldl max 0+1
theorem Ex.depth_eq (e:Ex):e.depth=(e.args.map Ex.depth).foldl max 0+1:=by
 unfold Ex.depth;rw[Ex.para_eq]
def SliceIn (sz len:Nat) (a:Option Addr) (cap:Nat) (Q:Nat→Nat→Nat→Prop):Prop :=
 len≤cap∧len≤1073741824∧(len=0∨∃ b off,a=some ⟨b,off,none⟩∧∀ i,i < len→Q i b (off+i * sz))
noncomputable def ExAt (w:World) (e:Ex):Nat→Nat→Prop :=
 e.para fun e ps b o=>∃ a cap,w.cell? ⟨b,o,none⟩=some (.int .i64 e.op)∧w.cell? ⟨b,o+1,none⟩=some (.int .i64 e.n)∧w.cell? ⟨b,o+2,none⟩=some (.string e.name) ∧
  w.cell? ⟨b,o+3,none⟩=some (.slice a ps.length cap)∧e.name.size≤1073741824∧SliceIn 4 ps.length a cap (fun i b o=>∃ p,ps[i]? = some p∧p b o)
def ExsIn (w:World) (l:List Ex) (a:Option Addr) (cap:Nat):Prop:=SliceIn 4 l.length a cap (fun i b o=>∃ e,l[i]? = some e∧ExAt w e b o)
def ExIn (w:World) (e:Ex) (a:Option Addr) (cap:Nat):Prop:=e.name.size≤1073741824∧ExsIn w e.args a cap
theorem ExAt_iff (w:World) (e:Ex) (b o:Nat):ExAt w e b o↔∃ a cap,w.cell? ⟨b,o,none⟩=some (.int .i64 e.op)∧w.cell? ⟨b,o+1,none⟩=some (.int .i64 e.n)∧w.cell? ⟨b,o+2,none⟩=some (.string e.name) ∧
  w.cell? ⟨b,o+3,none⟩=some (.slice a e.args.length cap)∧ExIn w e a cap:=by
 unfold ExAt
 rw[Ex.para_eq]
 simp only[List.length_map,List.getElem?_map,Option.map_eq_some_iff,ExIn,ExsIn]
 constructor<;>rintro ⟨a,cap,h0,h1,h2,h3,h4,h5⟩
 ·refine⟨a,cap,h0,h1,h2,h3,h4,h5.1,h5.2.1,?_⟩
  rcases h5.2.2 with h | ⟨b,off,ha,hq⟩
  ·exact Or.inl h
  ·refine Or.inr ⟨b,off,ha,fun i hi=>?_⟩
   obtain⟨p,⟨e',he',rfl⟩,hp⟩:=hq i hi
   exact⟨e',he',hp⟩
 ·refine⟨a,cap,h0,h1,h2,h3,h4,h5.1,h5.2.1,?_⟩
  rcases h5.2.2 with h | ⟨b,off,ha,hq⟩
  ·exact Or.inl h
  ·refine Or.inr ⟨b,off,ha,fun i hi=>?_⟩
   obtain⟨e',he',hp⟩:=hq i hi
   exact⟨_,⟨e',he',rfl⟩,hp⟩
theorem SliceIn.mono {sz len:Nat} {a:Option Addr} {cap:Nat} {Q Q':Nat→Nat→Nat→Prop} (h:SliceIn sz len a cap Q) (hq:∀ i b o,i < len→Q i b o→Q' i b o):SliceIn sz len a cap Q':=by
 refine⟨h.1,h.2.1,?_⟩
 rcases h.2.2 with h | ⟨b,off,ha,hi⟩
 ·exact Or.inl h
 ·exact Or.inr ⟨b,off,ha,fun i hl=>hq _ _ _ hl (hi i hl)⟩
theorem ExAt.keep {w w':World} (hk:∀ a v,w.cell? a=some v→w'.cell? a=some v) (e:Ex):∀ b o,ExAt w e b o→ExAt w' e b o:=by
 induction e using Ex.ind with
 | h e ih =>
  intro b o h
  rw[ExAt_iff] at h⊢
  obtain⟨a,cap,h0,h1,h2,h3,h4,h5⟩:=h
  refine⟨a,cap,hk _ _ h0,hk _ _ h1,hk _ _ h2,hk _ _ h3,h4,h5.mono fun i b o _=>?_⟩
  rintro ⟨e',he',hp⟩
  exact⟨e',he',ih e' (List.mem_of_getElem? he') _ _ hp⟩
theorem ExsIn.keep {w w':World} (hk:∀ a v,w.cell? a=some v→w'.cell? a=some v) {l:List Ex} {a:Option Addr} {cap:Nat} (h:ExsIn w l a cap):ExsIn w' l a cap :=
 h.mono fun _ _ _ _ ⟨e',he',hp⟩=>⟨e',he',hp.keep hk _ _ _⟩
theorem ExIn.keep {w w':World} (hk:∀ a v,w.cell? a=some v→w'.cell? a=some v) {e:Ex} {a:Option Addr} {cap:Nat} (h:ExIn w e a cap):ExIn w' e a cap :=
 ⟨h.1,h.2.keep hk⟩
theorem keeps_of_below {w w':World} (hb:Below w.heap.size w w'):∀ a v,w.cell? a=some v→w'.cell? a=some v :=
 fun _ _ h=>(hb.cell (World.block_lt_of_cell? _ _ h)).trans h
theorem bcell {W w1:World} (hb:Below W.heap.size W w1):(∀ b o,b < W.heap.size→w1.cell? ⟨b,o,none⟩=W.cell? ⟨b,o,none⟩)∧(∀ b o,b < W.heap.size→w1.frozen? ⟨b,o,none⟩=W.frozen? ⟨b,o,none⟩) :=
 ⟨fun b o h=>hb.cell (p:=⟨b,o,none⟩) h,fun b o h=>hb.frozen (p:=⟨b,o,none⟩) h⟩
theorem fr {P:Program} {f:FuncId} {args:Array Value} {w:World} {Q:Ending→Prop} {B:Nat} {W0:World} (h:Calls P f args w fun e w'=>Q e∧Below w.heap.size w w') (hW:Below B W0 w) (hB:B≤w.heap.size) :
  Calls P f args w fun e w'=>Q e∧(∀ b o,b < w.heap.size→w'.cell? ⟨b,o,none⟩=w.cell? ⟨b,o,none⟩)∧(∀ b o,b < w.heap.size→w'.frozen? ⟨b,o,none⟩=w.frozen? ⟨b,o,none⟩)∧w.heap.size≤w'.heap.size∧Below B W0 w' :=
 h.mono fun _ _ ⟨hq,hb⟩=>⟨hq,(bcell hb).1,(bcell hb).2,hb.size,hW.trans (hb.mono hB)⟩
theorem ExsIn.get {w:World} {l:List Ex} {a:Option Addr} {cap:Nat} (h:ExsIn w l a cap) {b off:Nat} (ha:a=some ⟨b,off,none⟩) {i:Nat} (hi:i < l.length) :
  ∃ a' cap',w.cell? ⟨b,off+i * 4,none⟩=some (.int .i64 (l[i]'hi).op)∧w.cell? ⟨b,off+i * 4+1,none⟩=some (.int .i64 (l[i]'hi).n)∧w.cell? ⟨b,off+i * 4+2,none⟩=some (.string (l[i]'hi).name) ∧
   w.cell? ⟨b,off+i * 4+3,none⟩=some (.slice a' (l[i]'hi).args.length cap')∧ExIn w (l[i]'hi) a' cap':=by
 rcases h.2.2 with h | ⟨b',off',ha',hq⟩
 ·omega
 ·rw[ha] at ha'
  simp only[Option.some.injEq,Addr.mk.injEq,and_true] at ha'
  obtain⟨rfl,rfl⟩:=ha'
  obtain⟨e',he',hp⟩:=hq i hi
  rw[List.getElem?_eq_getElem hi] at he'
  obtain rfl:=Option.some.inj he'
  exact(ExAt_iff _ _ _ _).1 hp
theorem SliceIn.addr {sz len:Nat} {a:Option Addr} {cap:Nat} {Q:Nat→Nat→Nat→Prop} (h:SliceIn sz len a cap Q):len=0∨∃ b off,a=some ⟨b,off,none⟩:=by
 rcases h.2.2 with h | ⟨b,off,ha,_⟩
 ·exact Or.inl h
 ·exact Or.inr ⟨b,off,ha⟩
def Elem (P:Program) (t e:TypeId) (size:Nat):Prop:=P.underlying t=some (.slice e)∧∃ i z bytes,P.info? e=some i∧i.zero=some z∧i.size=size∧i.bytes=bytes∧z.cells.size=size∧0 < size∧bytes≤1024
theorem Elem.of {P:Program} {t e:TypeId} {z:Value} {size bytes:Nat} (ht:P.underlying t=some (.slice e)) (h:(P.info? e).map (fun i=>(i.zero,i.size,i.bytes))=some (some z,size,bytes)) (hz:z.cells.size=size) (hs:0 < size) (hb:bytes≤1024):Elem P t e size:=by
 obtain⟨i,h1,h2,h3,h4⟩:=info_parts h
 exact⟨ht,i,z,bytes,h1,h2,h3,h4,hz,hs,hb⟩
theorem own_append1 {P:Program} {ops:Array Oper} {rest:List Oper} {o:Oper} {a:Act} {Q:Exit→Act→World→Prop} {t e:TypeId} {size:Nat} (he:Elem P t e size) (w:World) (hgd:o.guard=none) (s x:Operand)
  (ho:o.op=.call { callee:=.builtin .append,args:=#[s,x],argTypes:=#[t,t] })
  (base:Nat) (v:Value) (n:Nat) (xs:List Value) (hs:a.eval s=v) (hown:w.ownsRow base e size v n xs)
  (news:List Value) (hl:news.length=size) (h1:∀ u∈news,u.oneCell'=true) (c:Nat) (hx:a.eval x=.slice (some ⟨w.heap.size,0,none⟩) 1 c) (hn:n≤1073741824) (hbase:base≤w.heap.size)
  (h:∀ v' w',w'.ownsRow base e size v' (n+1) (xs++news)→(w.alloc (.cells news.toArray e)).grownBy w' v.ownBlock→wpList P ops Q rest (a.put o.dst v') w'):wpList P ops Q (o::rest) a (w.alloc (.cells news.toArray e)):=by
 obtain⟨ht,i,z,bytes,hi,hz,hsz,hby,hzs,h0,hb⟩:=he
 refine wpList_append_own _ hgd s x t ho base e i z size bytes ht hi hz hsz hby hzs h0 v n xs hs (hown.alloc _) ⟨w.heap.size,0,none⟩ 1 c news hx (by omega) ?_ h1 (by unfold maxLen;omega) ?_ (by simp;omega) (fun v' w' h2 h3 _=>h v' w' h2 h3)
 ·intro j u hj
  have:((⟨w.heap.size,0,none⟩:Addr).add j)=⟨w.heap.size,j,none⟩:=by
   unfold Addr.add;split<;>simp_all
  rw[this,World.cell?_alloc_new]
  simpa using hj
 ·calc (n+1) * bytes≤1073741825 * 1024:=Nat.mul_le_mul (by omega) hb
   _≤_:=by decide
theorem ownsRow_below {w w':World} {base:Nat} {e:TypeId} {size:Nat} {v:Value} {n:Nat} {xs:List Value} (h:w.ownsRow base e size v n xs) (hb:Below w.heap.size w w'):w'.ownsRow base e size v n xs:=by
 obtain⟨h1,h2⟩:=h
 refine⟨h1,?_⟩
 rcases h2 with h2 | ⟨g,cap,cur,hv,hg,hh,r⟩
 ·exact Or.inl h2
 ·exact Or.inr ⟨g,cap,cur,hv,hg,by rw[hb.block _ (lt_of_block hh)];exact hh,r⟩
theorem ownsRow_type {w:World} {base:Nat} {e:TypeId} {size:Nat} {v:Value} {n:Nat} {xs:List Value} (h:w.ownsRow base e size v n xs) {k:Nat} (hk:v.ownBlock=some k):∃ cur:Array Value,w.heap[k]? = some (.cells cur e (0,0))∧base≤k:=by
 rcases h.2 with ⟨rfl,_⟩ | ⟨g,cap,cur,rfl,hg,hh,_⟩
 ·simp[Value.ownBlock] at hk
 ·simp only[Value.ownBlock,Option.some.injEq] at hk
  subst hk
  exact⟨cur,hh,hg⟩
theorem ownsRow_ne {w:World} {base:Nat} {e:TypeId} {size:Nat} {v:Value} {n:Nat} {xs:List Value} (h:w.ownsRow base e size v n xs) {k:Nat} {c:Array Value} {t:TypeId} {z:Nat × Nat} (hk:w.heap[k]? = some (.cells c t z)) (ht:t≠e):some k≠v.ownBlock:=by
 intro he
 obtain⟨cur,hh,_⟩:=ownsRow_type h he.symm
 rw[hk] at hh
 simp only[Option.some.injEq,Obj.cells.injEq] at hh
 exact ht hh.2.1
theorem slice_of_own {w:World} {base:Nat} {e:TypeId} {size:Nat} {v:Value} {n:Nat} {xs:List Value} (h:w.ownsRow base e size v n xs) (hn:n≤1073741824) :
  ∃ a cap,v=.slice a n cap∧SliceIn size n a cap (fun i b o=>∀ j,j < size→w.cell? ⟨b,o+j,none⟩=xs[i * size+j]?):=by
 rcases h.2 with ⟨rfl,rfl⟩ | ⟨g,cap,cur,rfl,hg,hh,hc,_⟩
 ·exact⟨none,0,rfl,Nat.le_refl _,by omega,Or.inl rfl⟩
 ·refine⟨some ⟨g,0,none⟩,cap,rfl,hc,hn,Or.inr ⟨g,0,rfl,fun i hi j hj=>?_⟩⟩
  have:=h.cellAt (i * size+j) (by
   calc i * size+j < i * size+size:=by omega
    _=(i+1) * size:=by rw[Nat.add_mul,Nat.one_mul]
    _≤n * size:=Nat.mul_le_mul_right _ (by omega))
  rw[← this]
  congr 2
  omega
def StrsIn (w:World) (l:List ByteArray) (a:Option Addr) (cap:Nat):Prop:=SliceIn 1 l.length a cap (fun i b o=>∃ s,l[i]? = some s∧w.cell? ⟨b,o,none⟩=some (.string s))
theorem StrsIn.keep {w w':World} (hk:∀ a v,w.cell? a=some v→w'.cell? a=some v) {l:List ByteArray} {a:Option Addr} {cap:Nat} (h:StrsIn w l a cap):StrsIn w' l a cap :=
 h.mono fun _ _ _ _ ⟨s,hs,hp⟩=>⟨s,hs,hk _ _ hp⟩
theorem StrsIn.get {w:World} {l:List ByteArray} {a:Option Addr} {cap:Nat} (h:StrsIn w l a cap) {b off:Nat} (ha:a=some ⟨b,off,none⟩) {i:Nat} (hi:i < l.length):w.cell? ⟨b,off+i,none⟩=some (.string (l[i]'hi)):=by
 rcases h.2.2 with h | ⟨b',off',ha',hq⟩
 ·omega
 ·rw[ha] at ha'
  simp only[Option.some.injEq,Addr.mk.injEq,and_true] at ha'
  obtain⟨rfl,rfl⟩:=ha'
  obtain⟨e',he',hp⟩:=hq i hi
  rw[List.getElem?_eq_getElem hi] at he'
  obtain rfl:=Option.some.inj he'
  rw[Nat.mul_one] at hp
  exact hp
theorem strs_of_own {w:World} {base:Nat} {e:TypeId} {v:Value} {l:List ByteArray} (h:w.ownsRow base e 1 v l.length (l.map Value.string)) (hn:l.length≤1073741824):∃ a cap,v=.slice a l.length cap∧StrsIn w l a cap:=by
 obtain⟨a,cap,hv,hs⟩:=slice_of_own h hn
 refine⟨a,cap,hv,hs.mono fun i b o hi hq=>?_⟩
 have:=hq 0 (by omega)
 exact⟨l[i],List.getElem?_eq_getElem hi,by simpa [hi] using this⟩
end Go.Proofs.YthojpomoflhbcaaGreatDoor
namespace Go.Proofs.YthojpomoflhbcaaGreatDoor
open Go.RowKit
structure Grow (B:Nat) (w:World) where
 w':World
 h:Below B w w'
instance (B:Nat) (w:World):Nonempty (Grow B w):=⟨⟨w,Below.refl _ _⟩⟩
theorem Grow.old {B:Nat} {w:World} {p:Addr} {v:Value} (hc:w.cell? p=some v) (hB:w.heap.size≤B) (g:Grow B w):g.w'.cell? p=some v :=
 (g.h.cell (Nat.lt_of_lt_of_le (World.block_lt_of_cell? _ _ hc) hB)).trans hc
end Go.Proofs.YthojpomoflhbcaaGreatDoor
namespace Go.Proofs.YthojpomoflhbcaaGreatDoor
open Go.RowKit
def lowB (c:Int):Bool:=decide (97≤c) && decide (c≤122)
def digB (c:Int):Bool:=decide (48≤c) && decide (c≤57)
def follB (c:Int):Bool:=lowB c || digB c || (decide (65≤c) && decide (c≤90)) || (c == 95)
def innerB (b:UInt8):Bool:=follB b.toNat
def wordB (l:List UInt8):Bool:=l.all innerB && (match l with | []=>false | c::_=>lowB c.toNat)
def kwL:List (List UInt8):=[[99,108,97,115,115],[101,120,116,101,110,100,115],[114,97,110,100],[114,97,110,100,99],[115,116,97,116,101],[99,111,110,115,116,114,97,105,110,116],[115,111,102,116],[100,105,115,116],[105,102],[101,108,115,101],[101,97,99,104],[105,110],[115,111,108,118,101],[98,101,102,111,114,101],[105,110,115,105,100,101],[112,114,111,112,101,114,116,121],[115,101,113],[97,110,100],[111,114],[110,111,116],[115,101,116],[104,111,108,100],[112,108,97,105,110],[114,101,112,101,97,116]]
def kwS:List ByteArray:=kwL.map fun l=>⟨l.toArray⟩
def nameB (l:List UInt8):Bool:=wordB l && decide (l.length≤16) && !kwL.contains l
def Glob (w:World):Prop:=(∃ m:Int,w.cell? ⟨0,0,none⟩=some (.int .i64 m)) ∧
 ∃ b off cap,w.cell? ⟨1,0,none⟩=some (.slice (some ⟨b,off,none⟩) 24 cap)∧∀ i,i < 24→w.cell? ⟨b,off+i,none⟩=some (.string (kwS.getD i ByteArray.empty))
theorem Glob.keep {w w':World} (hk:∀ a v,w.cell? a=some v→w'.cell? a=some v) (h:Glob w):Glob w':=by
 obtain⟨⟨m,hm⟩,b,off,cap,h0,h1⟩:=h
 exact⟨⟨m,hk _ _ hm⟩,b,off,cap,hk _ _ h0,fun i hi=>hk _ _ (h1 i hi)⟩
theorem Glob.below {w w':World} (h:Glob w) (hb:Below w.heap.size w w'):Glob w':=h.keep (keeps_of_below hb)
theorem lower_any (c:Int) (w:World) :
  Calls Tryz.prog 234 #[.int .i32 c] w fun e w'=>e=.returned (.bool (lowB c))∧w=w':=by
 go_enter Tryz.func234, Tryz.ntmps234
 go_wp2
 all_goals go_ret
 all_goals exact⟨by simp_all [lowB]<;>omega,rfl⟩
theorem digit_any (c:Int) (w:World) :
  Calls Tryz.prog 268 #[.int .i32 c] w fun e w'=>e=.returned (.bool (digB c))∧w=w':=by
 go_enter Tryz.func268, Tryz.ntmps268
 go_wp2
 all_goals go_ret
 all_goals exact⟨by simp_all [digB]<;>omega,rfl⟩
set_option maxHeartbeats 400000 in
theorem follows_any (c:Int) (w:World) :
  Calls Tryz.prog 235 #[.int .i32 c] w fun e w'=>e=.returned (.bool (follB c))∧w=w':=by
 go_enter Tryz.func235, Tryz.ntmps235
 go_wp2_with (first | (go_at_call 234;refine(lower_any _ _).mono ?_;rintro e w' ⟨rfl,rfl⟩) | (go_at_call 268;refine(digit_any _ _).mono ?_;rintro e w' ⟨rfl,rfl⟩))
 all_goals go_ret
 all_goals exact⟨by simp_all [follB]<;>omega,rfl⟩
theorem foll_high {c:Int} (h:128≤c):follB c=false:=by
 simp[follB,lowB,digB];omega
theorem low_high {c:Int} (h:128≤c):lowB c=false:=by
 simp[lowB];omega
def WordRel (s:ByteArray) (pos:Nat):Prop:=pos≤s.size∧(s.data.toList.take pos).all innerB=true∧(0 < pos→∃ c l,s.data.toList=c::l∧lowB c.toNat=true)
theorem wordRel_step {s:ByteArray} {pos:Nat} (h:WordRel s pos) (hp:pos < s.size) (hf:follB (s[pos]'hp).toNat=true) (h0:pos=0→lowB (s[pos]'hp).toNat=true):WordRel s (pos+1):=by
 obtain⟨_,h2,h3⟩:=h
 have hl:s.data.toList.length=s.size:=by simp
 have he:s.data.toList[pos]'(by omega)=s[pos]'hp:=rfl
 refine⟨by omega,?_,fun _=>?_⟩
 ·rw[List.take_succ_eq_append_getElem (by omega),List.all_append,h2,he]
  simpa [innerB] using hf
 ·by_cases hz:pos=0
  ·subst hz
   have h0:=h0 rfl
   cases hc:s.data.toList with
   | nil=>rw[hc] at hl;simp at hl;omega
   | cons c l =>
    refine⟨c,l,rfl,?_⟩
    have:s[0]'hp=c:=by rw[← he];simp[hc]
    rw[← this];exact h0
  ·exact h3 (by omega)
theorem wordRel_end {s:ByteArray} {pos:Nat} (h:WordRel s pos) (hp:¬ pos < s.size):wordB s.data.toList=!s.data.toList.isEmpty:=by
 obtain⟨h1,h2,h3⟩:=h
 have hl:s.data.toList.length=s.size:=by simp
 rw[List.take_of_length_le (by omega)] at h2
 cases hc:s.data.toList with
 | nil=>rfl
 | cons c l =>
  obtain⟨c',l',hcl,hlo⟩:=h3 (by rw[hc] at hl;simp at hl;omega)
  rw[hc] at hcl h2
  obtain⟨rfl,rfl⟩:=List.cons.inj hcl
  unfold wordB
  rw[h2]
  simpa using hlo
theorem word_bad {s:ByteArray} {pos:Nat} (hp:pos < s.size) (h:follB (s[pos]'hp).toNat=false∨pos=0∧lowB (s[pos]'hp).toNat=false):wordB s.data.toList=false:=by
 have hl:s.data.toList.length=s.size:=by simp
 have he:s.data.toList[pos]'(by omega)=s[pos]'hp:=rfl
 rcases h with h | ⟨rfl,h⟩
 ·have:s.data.toList.all innerB=false:=by
   rw[List.all_eq_false]
   exact⟨s.data.toList[pos]'(by omega),List.getElem_mem _,by rw[he];simp[innerB,h]⟩
  simp[wordB,this]
 ·cases hc:s.data.toList with
  | nil=>rfl
  | cons c l =>
   have:s[0]'hp=c:=by rw[← he];simp[hc]
   rw[this] at h
   simp[wordB,h]
set_option maxHeartbeats 400000 in
theorem word_any (s:ByteArray) (w:World) (hs:s.size≤1073741824) :
  Calls Tryz.prog 188 #[.string s] w fun e w'=>e=.returned (.bool (wordB s.data.toList))∧Below w.heap.size w w':=by
 go_enter Tryz.func188, Tryz.ntmps188
 go_wp2_with fail
 go_loopw [2] (fun _ w'=>∃ (pos:Nat),w'=w.iter s pos∧WordRel s pos) (fun _ w'=>s.size - w'.iterPos w.heap.size)
 case atStart=>exact⟨0,rfl,by omega,by simp,by omega⟩
 case round =>
  obtain⟨pos,rfl,hrel⟩:=hrel
  have hBel:Hid (∀ p,Below w.heap.size w (w.iter s p)):=fun p=>(Below.refl _ _).alloc (Nat.le_refl _) _
  by_cases hp:pos < s.size
  ·by_cases ha:(s[pos]'hp).toNat < 128
   ·have hnx:∀ ty,(Instr.next (.pointer (some ⟨w.heap.size,0,none⟩)) true ty).run Tryz.prog (w.iter s pos)=_:=fun ty=>run_next_ascii w s pos ty hp ha
    by_cases hz:pos=0
    ·subst hz
     have hBadF:=Lib.hid fun h=>word_bad hp (Or.inl h)
     have hBadL:=Lib.hid fun h=>word_bad hp (Or.inr ⟨rfl,h⟩)
     have hStep:=Lib.hid fun a b=>wordRel_step hrel hp a (fun _=>b)
     clear hrel
     cases hl:lowB (s[0]'hp).toNat<;>cases hf:follB (s[0]'hp).toNat
     all_goals go_wp2_with (first | (go_at_call 234;refine(lower_any _ _).mono ?_;rintro e w' ⟨rfl,rfl⟩) | (go_at_call 235;refine(follows_any _ _).mono ?_;rintro e w' ⟨rfl,rfl⟩))
     ·go_ret;exact⟨by rw[hBadL.out hl];rfl,hBel.out _⟩
     ·go_ret;exact⟨by rw[hBadL.out hl];rfl,hBel.out _⟩
     ·go_ret;exact⟨by rw[hBadF.out hf];rfl,hBel.out _⟩
     ·go_roundw
      case rel=>exact⟨1,rfl,hStep.out hf hl⟩
      case measure=>simp;omega
    ·have hBadF:=Lib.hid fun h=>word_bad hp (Or.inl h)
     have hStep:=Lib.hid fun a=>wordRel_step hrel hp a (fun h=>absurd h hz)
     clear hrel
     cases hf:follB (s[pos]'hp).toNat
     all_goals go_wp2_with (first | (go_at_call 234;refine(lower_any _ _).mono ?_;rintro e w' ⟨rfl,rfl⟩) | (go_at_call 235;refine(follows_any _ _).mono ?_;rintro e w' ⟨rfl,rfl⟩))
     ·go_ret;exact⟨by rw[hBadF.out hf];rfl,hBel.out _⟩
     ·go_roundw
      case rel=>exact⟨pos+1,rfl,hStep.out hf⟩
      case measure=>simp;omega
   ·have hnx:∀ ty,(Instr.next (.pointer (some ⟨w.heap.size,0,none⟩)) true ty).run Tryz.prog (w.iter s pos)=_:=fun ty=>run_next_any w s pos ty hp
    have hd:=(decode_high s pos hp (by omega)).1
    have hf:follB (Utf8.decode s pos).1=false:=foll_high (by omega)
    have hl:lowB (Utf8.decode s pos).1=false:=low_high (by omega)
    have hBad:=Lib.hid (word_bad hp (Or.inl (foll_high (by omega))))
    clear hd hrel
    by_cases hz:pos=0
    ·subst hz
     go_wp2_with (first | (go_at_call 234;refine(lower_any _ _).mono ?_;rintro e w' ⟨rfl,rfl⟩) | (go_at_call 235;refine(follows_any _ _).mono ?_;rintro e w' ⟨rfl,rfl⟩))
     go_ret;exact⟨by rw[hBad.out];rfl,hBel.out _⟩
    ·go_wp2_with (first | (go_at_call 234;refine(lower_any _ _).mono ?_;rintro e w' ⟨rfl,rfl⟩) | (go_at_call 235;refine(follows_any _ _).mono ?_;rintro e w' ⟨rfl,rfl⟩))
     go_ret;exact⟨by rw[hBad.out];rfl,hBel.out _⟩
  ·have hnx:∀ ty,(Instr.next (.pointer (some ⟨w.heap.size,0,none⟩)) true ty).run Tryz.prog (w.iter s pos)=_:=fun ty=>run_next_end w s pos ty hp
   have hE:=Lib.hid (wordRel_end hrel hp)
   clear hrel
   go_wp2
   go_ret
   exact⟨by rw[hE.out,← ByteArray.toList_eq];rfl,hBel.out _⟩
theorem containsS_eq (l:List (List UInt8)) (s:ByteArray):Lib.containsS (l.map fun x=>(⟨x.toArray⟩:ByteArray)) s=l.contains s.data.toList:=by
 rw[Bool.eq_iff_iff,Lib.containsS_iff]
 simp only[List.mem_map,List.contains_iff_mem]
 constructor
 ·rintro ⟨x,hx,rfl⟩;exact hx
 ·exact fun h=>⟨_,h,rfl⟩
set_option maxHeartbeats 400000 in
theorem isKeyword_any (s:ByteArray) (w:World) (hG:Glob w) :
  Calls Tryz.prog 189 #[.string s] w fun e w'=>e=.returned (.bool (kwL.contains s.data.toList))∧w=w':=by
 obtain⟨_,b,off,cap,h0,h1⟩:=hG
 have hc:=Tryz.slices_Contains_string b off 24 cap kwS s w (by decide) (by decide) (fun j hj=>h1 j hj)
 have hC:=Lib.hid hc
 clear hc h1
 go_enter Tryz.func189, Tryz.ntmps189
 go_wp2_with fail
 refine hC.out.mono ?_
 rintro e w' ⟨rfl,rfl⟩
 go_wp2_with fail
 go_ret
 exact⟨by rw[← containsS_eq];rfl,rfl⟩
set_option maxHeartbeats 400000 in
theorem isName_any (s:ByteArray) (w:World) (hs:s.size≤1073741824) (hG:Glob w) :
  Calls Tryz.prog 122 #[.string s] w fun e w'=>e=.returned (.bool (nameB s.data.toList))∧Below w.heap.size w w':=by
 have hG':=Lib.hid hG
 clear hG
 go_enter Tryz.func122, Tryz.ntmps122
 go_wp2_with fail
 refine(word_any _ _ hs).mono ?_
 rintro e w1 ⟨rfl,hb1⟩
 have hK:=Lib.hid (isKeyword_any s w1 (hG'.out.keep (keeps_of_below hb1)))
 have hB:=Lib.hid hb1
 clear hb1
 go_wp2_with (go_at_call 189;refine hK.out.mono ?_;rintro e w' ⟨rfl,rfl⟩)
 all_goals go_ret
 all_goals exact⟨by simp_all [nameB]<;>omega,hB.out⟩
end Go.Proofs.YthojpomoflhbcaaGreatDoor
namespace Go.Proofs.YthojpomoflhbcaaGreatDoor
open Go.RowKit
def wrapW (n:Int):Int:=n % 65536
def addW (a b:Int):Int:=(a+b) % 65536
def subW (a b:Int):Int:=(a - b) % 65536
def mulW (a b:Int):Int:=(a * b) % 65536
def negW (a:Int):Int:=(-a) % 65536
def invW (a:Int):Int:=65535 - a % 65536
def shlW (a n:Int):Int:=if n < 0∨16≤n then 0 else (a * 2 ^ n.toNat) % 65536
def shrW (a n:Int):Int:=if n < 0∨16≤n then 0 else a % 65536 / 2 ^ n.toNat
def bitN (a i:Nat):Nat:=a / 2 ^ i % 2
def onesN (a:Nat):Nat:=bitN a 0+bitN a 1+bitN a 2+bitN a 3+bitN a 4+bitN a 5+bitN a 6+bitN a 7+bitN a 8+bitN a 9+bitN a 10+bitN a 11+bitN a 12+bitN a 13+bitN a 14+bitN a 15
def onesW (a:Int):Int:=(onesN (a % 65536).toNat:Nat)
theorem i64_mask (n:Int):IntKind.u16.wrap (bits .and .i64 n 65535)=n % 65536:=by
 have h1:bits .and .i64 n 65535=IntKind.i64.wrap ((BitVec.ofInt 64 n &&& BitVec.ofInt 64 65535).toNat:Int):=rfl
 have h2:(BitVec.ofInt 64 n &&& BitVec.ofInt 64 65535).toNat=(BitVec.ofInt 64 n).toNat % 65536:=by
  rw[BitVec.toNat_and]
  show _ &&& 65535=_
  exact Nat.and_two_pow_sub_one_eq_mod _ 16
 have h3:((BitVec.ofInt 64 n).toNat:Int)=n % 18446744073709551616:=by
  rw[BitVec.toNat_ofInt]
  have:0≤n % 18446744073709551616:=by omega
  have h64:((2 ^ 64:Nat):Int)=18446744073709551616:=by decide
  rw[h64]
  omega
 rw[h1,h2,IntKind.wrap_u16,IntKind.wrap_i64]
 rw[Int.natCast_emod,h3]
 omega
theorem wof_any (n:Int) (w:World) :
  Calls Tryz.prog 114 #[.int .i64 n] w fun e w'=>e=.returned (.int .u16 (n % 65536))∧w=w':=by
 go_enter Tryz.func114, Tryz.ntmps114
 go_wp2_with fail
 go_ret
 exact⟨by rw[← i64_mask n];rfl,rfl⟩
theorem wadd_any (a b:Int) (w:World):Calls Tryz.prog 292 #[.int .u16 a,.int .u16 b] w fun e w'=>e=.returned (.int .u16 ((a+b) % 65536))∧w=w':=by
 go_enter Tryz.func292, Tryz.ntmps292
 go_wp2_with fail
 go_ret
 exact⟨by rw[← IntKind.wrap_u16];rfl,rfl⟩
theorem wsub_any (a b:Int) (w:World):Calls Tryz.prog 316 #[.int .u16 a,.int .u16 b] w fun e w'=>e=.returned (.int .u16 ((a - b) % 65536))∧w=w':=by
 go_enter Tryz.func316, Tryz.ntmps316
 go_wp2_with fail
 go_ret
 exact⟨by rw[← IntKind.wrap_u16];rfl,rfl⟩
theorem wmul_any (a b:Int) (w:World):Calls Tryz.prog 317 #[.int .u16 a,.int .u16 b] w fun e w'=>e=.returned (.int .u16 ((a * b) % 65536))∧w=w':=by
 go_enter Tryz.func317, Tryz.ntmps317
 go_wp2_with fail
 go_ret
 exact⟨by rw[← IntKind.wrap_u16];rfl,rfl⟩
theorem wneg_any (a:Int) (w:World):Calls Tryz.prog 314 #[.int .u16 a] w fun e w'=>e=.returned (.int .u16 ((-a) % 65536))∧w=w':=by
 go_enter Tryz.func314, Tryz.ntmps314
 go_wp2_with fail
 go_ret
 exact⟨by rw[← IntKind.wrap_u16];rfl,rfl⟩
theorem winv_any (a:Int) (w:World) (h0:0≤a) (h1:a < 65536):Calls Tryz.prog 313 #[.int .u16 a] w fun e w'=>e=.returned (.int .u16 (65535 - a))∧w=w':=by
 have hx:bits .xor .u16 IntKind.u16.max a=65535 - a:=by
  obtain⟨A,rfl⟩:=Int.eq_ofNat_of_zero_le h0
  show bits .xor .u16 ((65535:Nat):Int) (A:Int)=_
  rw[u16_xor_nat _ _ (by decide) (by omega)]
  have:65535 ^^^ A=65535 - A:=by
   have e:(BitVec.allOnes 16 ^^^ BitVec.ofNat 16 A).toNat=65535 ^^^ A:=by
    rw[BitVec.toNat_xor,BitVec.toNat_allOnes,BitVec.toNat_ofNat,Nat.mod_eq_of_lt (by omega)]
   rw[← e,BitVec.allOnes_xor,BitVec.toNat_not,BitVec.toNat_ofNat,Nat.mod_eq_of_lt (by omega)]
  rw[this];omega
 have HX:=Lib.hid hx
 clear hx
 go_enter Tryz.func313, Tryz.ntmps313
 go_wp2_with fail
 go_ret
 refine⟨?_,rfl⟩
 show Ending.returned (.int .u16 (bits .xor .u16 IntKind.u16.max a))=_
 rw[HX.out]
theorem wshl_any (a b:Int) (w:World) (h:0≤b) (h':b < 16):Calls Tryz.prog 319 #[.int .u16 a,.int .i64 b] w fun e w'=>e=.returned (.int .u16 ((a * 2 ^ b.toNat) % 65536))∧w=w':=by
 go_enter Tryz.func319, Tryz.ntmps319
 go_wp2_with fail
 go_ret
 exact⟨by rw[← IntKind.wrap_u16];rfl,rfl⟩
theorem wshr_any (a b:Int) (w:World) (h:0≤b) (h':b < 16) (ha:0≤a) (ha':a < 65536):Calls Tryz.prog 320 #[.int .u16 a,.int .i64 b] w fun e w'=>e=.returned (.int .u16 (a / 2 ^ b.toNat))∧w=w':=by
 go_enter Tryz.func320, Tryz.ntmps320
 go_wp2_with fail
 go_ret
 exact⟨rfl,rfl⟩
set_option maxHeartbeats 400000 in
theorem WAdd_any (a b:Int) (w:World):Calls Tryz.prog 278 #[.int .i64 a,.int .i64 b] w fun e w'=>e=.returned (.int .i64 (addW a b))∧w=w':=by
 go_enter Tryz.func278, Tryz.ntmps278
 go_wp2_with (first | (go_at_call 114;refine(wof_any _ _).mono ?_;rintro e w' ⟨rfl,rfl⟩) | (go_at_call 292;refine(wadd_any _ _ _).mono ?_;rintro e w' ⟨rfl,rfl⟩) | go_in)
 go_ret
 refine⟨?_,rfl⟩
 show Ending.returned (.int .i64 _)=_
 unfold addW
 simp only[Int.add_emod,Int.sub_emod,Int.mul_emod,Int.emod_emod,Int.emod_emod_of_dvd]
 try rfl
set_option maxHeartbeats 400000 in
theorem WSub_any (a b:Int) (w:World):Calls Tryz.prog 297 #[.int .i64 a,.int .i64 b] w fun e w'=>e=.returned (.int .i64 (subW a b))∧w=w':=by
 go_enter Tryz.func297, Tryz.ntmps297
 go_wp2_with (first | (go_at_call 114;refine(wof_any _ _).mono ?_;rintro e w' ⟨rfl,rfl⟩) | (go_at_call 316;refine(wsub_any _ _ _).mono ?_;rintro e w' ⟨rfl,rfl⟩) | go_in)
 go_ret
 refine⟨?_,rfl⟩
 show Ending.returned (.int .i64 _)=_
 unfold subW
 simp only[Int.add_emod,Int.sub_emod,Int.mul_emod,Int.emod_emod,Int.emod_emod_of_dvd]
 try rfl
set_option maxHeartbeats 400000 in
theorem WMul_any (a b:Int) (w:World):Calls Tryz.prog 298 #[.int .i64 a,.int .i64 b] w fun e w'=>e=.returned (.int .i64 (mulW a b))∧w=w':=by
 go_enter Tryz.func298, Tryz.ntmps298
 go_wp2_with (first | (go_at_call 114;refine(wof_any _ _).mono ?_;rintro e w' ⟨rfl,rfl⟩) | (go_at_call 317;refine(wmul_any _ _ _).mono ?_;rintro e w' ⟨rfl,rfl⟩) | go_in)
 go_ret
 refine⟨?_,rfl⟩
 show Ending.returned (.int .i64 _)=_
 unfold mulW
 simp only[Int.add_emod,Int.sub_emod,Int.mul_emod,Int.emod_emod,Int.emod_emod_of_dvd]
 try rfl
set_option maxHeartbeats 400000 in
theorem WWrap_any (a:Int) (w:World):Calls Tryz.prog 57 #[.int .i64 a] w fun e w'=>e=.returned (.int .i64 (wrapW a))∧w=w':=by
 go_enter Tryz.func57, Tryz.ntmps57
 go_wp2_with (first | (go_at_call 114;refine(wof_any _ _).mono ?_;rintro e w' ⟨rfl,rfl⟩) | go_in)
 go_ret
 exact⟨rfl,rfl⟩
set_option maxHeartbeats 400000 in
theorem WNeg_any (a:Int) (w:World):Calls Tryz.prog 295 #[.int .i64 a] w fun e w'=>e=.returned (.int .i64 (negW a))∧w=w':=by
 have hn:Hid ((-(a % 65536)) % 65536=(-a) % 65536):=by show _=_;omega
 go_enter Tryz.func295, Tryz.ntmps295
 go_wp2_with (first | (go_at_call 114;refine(wof_any _ _).mono ?_;rintro e w' ⟨rfl,rfl⟩) | (go_at_call 314;refine(wneg_any _ _).mono ?_;rintro e w' ⟨rfl,rfl⟩) | go_in)
 go_ret
 exact⟨by unfold negW;rw[← hn.out];rfl,rfl⟩
set_option maxHeartbeats 400000 in
theorem WInv_any (a:Int) (w:World):Calls Tryz.prog 294 #[.int .i64 a] w fun e w'=>e=.returned (.int .i64 (invW a))∧w=w':=by
 go_enter Tryz.func294, Tryz.ntmps294
 go_wp2_with (first | (go_at_call 114;refine(wof_any _ _).mono ?_;rintro e w' ⟨rfl,rfl⟩) | (go_at_call 313;refine(winv_any _ _ (by omega) (by omega)).mono ?_;rintro e w' ⟨rfl,rfl⟩) | go_in)
 go_ret
 exact⟨rfl,rfl⟩
set_option maxHeartbeats 400000 in
theorem WShl_any (a n:Int) (w:World):Calls Tryz.prog 299 #[.int .i64 a,.int .i64 n] w fun e w'=>e=.returned (.int .i64 (shlW a n))∧w=w':=by
 by_cases h0:n < 0
 ·go_enter Tryz.func299, Tryz.ntmps299
  go_wp2_with (first | (go_at_call 114;refine(wof_any _ _).mono ?_;rintro e w' ⟨rfl,rfl⟩) | go_in)
  go_ret
  exact⟨by rw[shlW,if_pos (Or.inl h0)];rfl,rfl⟩
 ·by_cases h1:16≤n
  ·go_enter Tryz.func299, Tryz.ntmps299
   go_wp2_with (first | (go_at_call 114;refine(wof_any _ _).mono ?_;rintro e w' ⟨rfl,rfl⟩) | go_in)
   go_ret
   exact⟨by rw[shlW,if_pos (Or.inr h1)];rfl,rfl⟩
  ·have hm:Hid ((a % 65536 * 2 ^ n.toNat) % 65536=(a * 2 ^ n.toNat) % 65536):=by show _=_;rw[Int.mul_emod,Int.emod_emod,← Int.mul_emod]
   go_enter Tryz.func299, Tryz.ntmps299
   go_wp2_with (first | (go_at_call 114;refine(wof_any _ _).mono ?_;rintro e w' ⟨rfl,rfl⟩) | (go_at_call 319;refine(wshl_any _ _ _ (by omega) (by omega)).mono ?_;rintro e w' ⟨rfl,rfl⟩) | go_in)
   go_ret
   exact⟨by rw[shlW,if_neg (by omega),← hm.out];rfl,rfl⟩
set_option maxHeartbeats 400000 in
theorem WShr_any (a n:Int) (w:World):Calls Tryz.prog 300 #[.int .i64 a,.int .i64 n] w fun e w'=>e=.returned (.int .i64 (shrW a n))∧w=w':=by
 by_cases h0:n < 0
 ·go_enter Tryz.func300, Tryz.ntmps300
  go_wp2_with (first | (go_at_call 114;refine(wof_any _ _).mono ?_;rintro e w' ⟨rfl,rfl⟩) | go_in)
  go_ret
  exact⟨by rw[shrW,if_pos (Or.inl h0)];rfl,rfl⟩
 ·by_cases h1:16≤n
  ·go_enter Tryz.func300, Tryz.ntmps300
   go_wp2_with (first | (go_at_call 114;refine(wof_any _ _).mono ?_;rintro e w' ⟨rfl,rfl⟩) | go_in)
   go_ret
   exact⟨by rw[shrW,if_pos (Or.inr h1)];rfl,rfl⟩
  ·have hq0:0≤a % 65536 / 2 ^ n.toNat:=Int.ediv_nonneg (by omega) (Int.le_of_lt (Int.pow_pos (by decide)))
   have hq1:a % 65536 / 2 ^ n.toNat≤65535:=Int.le_trans (Int.ediv_le_self _ (by omega)) (by omega)
   go_enter Tryz.func300, Tryz.ntmps300
   go_wp2_with (first | (go_at_call 114;refine(wof_any _ _).mono ?_;rintro e w' ⟨rfl,rfl⟩) | (go_at_call 320;refine(wshr_any _ _ _ (by omega) (by omega) (by omega) (by omega)).mono ?_;rintro e w' ⟨rfl,rfl⟩) | go_in)
   go_ret
   exact⟨by rw[shrW,if_neg (by omega)];rfl,rfl⟩
theorem ones_split (x:Nat) (h:x < 65536):onesN x=onesN (x / 256)+onesN (x % 256):=by
 have a0:bitN (x % 256) 0=bitN x 0:=by unfold bitN;omega
 have a1:bitN (x % 256) 1=bitN x 1:=by unfold bitN;omega
 have a2:bitN (x % 256) 2=bitN x 2:=by unfold bitN;omega
 have a3:bitN (x % 256) 3=bitN x 3:=by unfold bitN;omega
 have a4:bitN (x % 256) 4=bitN x 4:=by unfold bitN;omega
 have a5:bitN (x % 256) 5=bitN x 5:=by unfold bitN;omega
 have a6:bitN (x % 256) 6=bitN x 6:=by unfold bitN;omega
 have a7:bitN (x % 256) 7=bitN x 7:=by unfold bitN;omega
 have a8:bitN (x % 256) 8=0:=by unfold bitN;omega
 have a9:bitN (x % 256) 9=0:=by unfold bitN;omega
 have a10:bitN (x % 256) 10=0:=by unfold bitN;omega
 have a11:bitN (x % 256) 11=0:=by unfold bitN;omega
 have a12:bitN (x % 256) 12=0:=by unfold bitN;omega
 have a13:bitN (x % 256) 13=0:=by unfold bitN;omega
 have a14:bitN (x % 256) 14=0:=by unfold bitN;omega
 have a15:bitN (x % 256) 15=0:=by unfold bitN;omega
 have b0:bitN (x / 256) 0=bitN x 8:=by unfold bitN;rw[Nat.div_div_eq_div_mul]
 have b1:bitN (x / 256) 1=bitN x 9:=by unfold bitN;rw[Nat.div_div_eq_div_mul]
 have b2:bitN (x / 256) 2=bitN x 10:=by unfold bitN;rw[Nat.div_div_eq_div_mul]
 have b3:bitN (x / 256) 3=bitN x 11:=by unfold bitN;rw[Nat.div_div_eq_div_mul]
 have b4:bitN (x / 256) 4=bitN x 12:=by unfold bitN;rw[Nat.div_div_eq_div_mul]
 have b5:bitN (x / 256) 5=bitN x 13:=by unfold bitN;rw[Nat.div_div_eq_div_mul]
 have b6:bitN (x / 256) 6=bitN x 14:=by unfold bitN;rw[Nat.div_div_eq_div_mul]
 have b7:bitN (x / 256) 7=bitN x 15:=by unfold bitN;rw[Nat.div_div_eq_div_mul]
 have b8:bitN (x / 256) 8=0:=by unfold bitN;omega
 have b9:bitN (x / 256) 9=0:=by unfold bitN;omega
 have b10:bitN (x / 256) 10=0:=by unfold bitN;omega
 have b11:bitN (x / 256) 11=0:=by unfold bitN;omega
 have b12:bitN (x / 256) 12=0:=by unfold bitN;omega
 have b13:bitN (x / 256) 13=0:=by unfold bitN;omega
 have b14:bitN (x / 256) 14=0:=by unfold bitN;omega
 have b15:bitN (x / 256) 15=0:=by unfold bitN;omega
 unfold onesN
 omega
end Go.Proofs.YthojpomoflhbcaaGreatDoor
namespace Go.Proofs.YthojpomoflhbcaaGreatDoor
open Go.RowKit
theorem tabF:∀ x:Fin 256,(Lib.pop8tab.data.toList.getD x.val 0).toNat=onesN x.val:=by decide +kernel
theorem popF:∀ x:Fin 256,Lib.pop8 (x.val:Int)=(onesN x.val:Int):=by decide +kernel
theorem tabN (x:Nat) (hx:x < 256) (h:x < Lib.pop8tab.size):(Lib.pop8tab[x]'h).toNat=onesN x:=by
 have h1:=tabF ⟨x,hx⟩
 simp only at h1
 rw[← h1,List.getD_eq_getElem?_getD,List.getElem?_eq_getElem (by simpa using h)]
 rfl
set_option maxRecDepth 10000 in
set_option maxHeartbeats 1000000 in
theorem ones16_any (n:Nat) (h:n < 65536) (w:World):Calls Tryz.prog 315 #[.int .u16 n] w fun e w'=>e=.returned (.int .i64 (onesN n:Nat))∧Below w.heap.size w w':=by
 have h1:(n:Int) / 256 < 256:=by omega
 have h2:0≤(n:Int) / 256:=by omega
 have hb:bits .and .u16 (n:Int) 255=((n % 256:Nat):Int):=by
  rw[show (255:Int)=((255:Nat):Int) from rfl,u16_and_nat _ _ h (by decide)]
  exact congrArg _ (Nat.and_two_pow_sub_one_eq_mod n 8)
 have h3:(n:Int) % 256 < 256:=by omega
 have h4:0≤(n:Int) % 256:=by omega
 have hs:Lib.pop8tab.size=256:=by decide +kernel
 go_enter Tryz.func315, Tryz.ntmps315
 go_wp2_with fail
 go_quiet (fail)
 go_wp2_with fail
 go_ret
 refine⟨?_,below_drewN (Below.refl _ _) _⟩
 have e1:=tabN (n / 256) (by omega) (by rw[hs];omega)
 have e2:=popF ⟨n % 256,by omega⟩
 simp only[Int.natCast_emod] at e2
 have e3:=ones_split n h
 have e4:onesN (n / 256)≤16:=by unfold onesN bitN;omega
 have e5:onesN (n % 256)≤16:=by unfold onesN bitN;omega
 show Ending.returned (.int .i64 ((((Lib.pop8tab[n / 256]'(by rw[hs];omega)).toNat:Int)+Lib.pop8 ((n:Int) % ((256:Nat):Int))) % 256))=_
 rw[e1,e2,e3]
 congr 2
 omega
set_option maxHeartbeats 400000 in
theorem WOnes_any (a:Int) (w:World):Calls Tryz.prog 296 #[.int .i64 a] w fun e w'=>e=.returned (.int .i64 (onesW a))∧Below w.heap.size w w':=by
 obtain⟨A,hA⟩:∃ A:Nat,(A:Int)=a % 65536:=⟨(a % 65536).toNat,by omega⟩
 have hlt:A < 65536:=by omega
 have hC:=ones16_any A hlt w
 have HC:=Lib.hid hC
 have HA:=Lib.hid hA
 clear hC hA
 go_enter Tryz.func296, Tryz.ntmps296
 go_wp2_with (first | (go_at_call 114;refine(wof_any _ _).mono ?_;rintro e w' ⟨rfl,rfl⟩;rw[← HA.out]) | (go_at_call 315;refine HC.out.mono ?_;rintro e w1 ⟨rfl,hb1⟩))
 go_ret
 exact⟨by unfold onesW;rw[← HA.out];simp,by assumption⟩
end Go.Proofs.YthojpomoflhbcaaGreatDoor
