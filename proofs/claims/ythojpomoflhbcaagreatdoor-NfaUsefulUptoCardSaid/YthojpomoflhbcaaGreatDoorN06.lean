/- The reference of expressions: see. -/
import Derived.Test.YthojpomoflhbcaaGreatDoorN05
import Derived.Deep.Cut
import Derived.Deep.AppendLies
import Derived.Deep.RegionHeld3
import Derived.Deep.RegionLaw
import Derived.Laws.Rows
import Derived.Test.YthojpomoflhbcaaGreatDoorN00
import Derived.Deep.DrawnRows
import Derived.Deep.LoopGhost
set_option linter.unusedSimpArgs false
set_option linter.unusedVariables false
set_option linter.unnecessarySimpa false
namespace Go.Proofs.YthojpomoflhbcaaGreatDoor
open Go.RowKit
structure SeeW (B p bx:Nat) (box:Array Value) (w0:World) (cs:Array Value) (v1:Value) (l1:List ByteArray) (v2:Value) (l2:List ByteArray) (w:World):Prop where
 hB:B≤p
 cells:w.heap[p]? = some (.cells cs 216 (0,0))
 own1:w.ownsRow B 9 1 v1 l1.length (l1.map Value.string)
 own2:w.ownsRow B 9 1 v2 l2.length (l2.map Value.string)
 ne:∀ k,v1.ownBlock=some k→v2.ownBlock≠some k
 box:w.heap[bx]? = some (.cells box 24 (0,0))
 kt:KT B w0 w
theorem SeeW.below {B p bx:Nat} {box:Array Value} {w0:World} {cs:Array Value} {v1:Value} {l1:List ByteArray} {v2:Value} {l2:List ByteArray} {w w':World} (h:SeeW B p bx box w0 cs v1 l1 v2 l2 w) (hb:Below w.heap.size w w'):SeeW B p bx box w0 cs v1 l1 v2 l2 w' :=
 ⟨h.hB,by rw[hb.block _ (lt_of_block h.cells)];exact h.cells,ownsRow_below h.own1 hb,ownsRow_below h.own2 hb,h.ne,by rw[hb.block _ (lt_of_block h.box)];exact h.box,h.kt.trans (KT.of_below hb)⟩
theorem SeeW.store {B p bx:Nat} {box:Array Value} {w0:World} {cs:Array Value} {v1:Value} {l1:List ByteArray} {v2:Value} {l2:List ByteArray} {w:World} (h:SeeW B p bx box w0 cs v1 l1 v2 l2 w) (k:Nat) (u:Value):SeeW B p bx box w0 (cs.setIfInBounds k u) v1 l1 v2 l2 (w.setCell ⟨p,k,none⟩ u):=by
 have hne:bx≠p:=by
  rintro rfl
  have:=h.cells.symm.trans h.box
  simp at this
 exact⟨h.hB,heap_setCell_same _ _ _ _ _ u h.cells,ownsRow_store h.own1 h.cells (by decide) _ _,ownsRow_store h.own2 h.cells (by decide) _ _,h.ne,by rw[Below.heap_setCell _ _ _ _ hne];exact h.box,
  h.kt.setCell h.cells (by unfold Still;decide) h.hB _⟩
theorem SeeW.inv {B p bx:Nat} {box:Array Value} {w0:World} {st:Seen} {v1 v2:Value} {w:World} (h:SeeW B p bx box w0 #[.int .i64 st.n,.int .i64 st.d,.int .i64 st.f,v1,v2] v1 st.vs v2 st.ar w):InvW B p st w :=
 ⟨h.hB,v1,v2,h.cells,h.own1,h.own2,h.ne⟩
end Go.Proofs.YthojpomoflhbcaaGreatDoor
namespace Go.Proofs.YthojpomoflhbcaaGreatDoor
open Go.RowKit
def intOf:Value→Int
 | .int _ q=>q
 | _=>0
theorem cell_of_blkT {W:World} {k:Nat} {c:Array Value} {t:TypeId} {fz:Nat × Nat} (h:W.heap[k]? = some (.cells c t fz)) (o:Nat):W.cell? ⟨k,o,none⟩=c[o]?:=by simp[World.cell?,h]
end Go.Proofs.YthojpomoflhbcaaGreatDoor
namespace Go.Proofs.YthojpomoflhbcaaGreatDoor
open Go.RowKit
theorem lt_cell {w:World} {a:Addr} {v:Value} (h:w.cell? a=some v):a.block < w.heap.size:=by
 unfold World.cell? at h
 split at h
 ·rename_i hb
  exact lt_of_block hb
 ·simp at h
def World.hide (w:World) (p:Nat→Bool):World:={ w with heap:=w.heap.mapIdx fun k o=>if p k then .cells #[] 0 else o }
theorem cell_hide {w:World} {p:Nat→Bool} {a:Addr} {v:Value}:(World.hide w p).cell? a=some v↔p a.block=false∧w.cell? a=some v:=by
 unfold World.hide World.cell?
 simp only[Array.getElem?_mapIdx]
 cases h:w.heap[a.block]? with
 | none=>simp
 | some o =>
  cases hp:p a.block with
  | false=>simp
  | true=>simp
theorem hide_cell {w:World} {p:Nat→Bool}:∀ a v,(World.hide w p).cell? a=some v→w.cell? a=some v:=fun _ _ h=>(cell_hide.1 h).2
theorem hide_mono {w:World} {p q:Nat→Bool} (h:∀ k,p k=true→q k=true):∀ a v,(World.hide w q).cell? a=some v→(World.hide w p).cell? a=some v:=fun a _ ha =>
 cell_hide.2 ⟨by
  cases hp:p a.block with
  | false=>rfl
  | true=>have:=h _ hp;rw[(cell_hide.1 ha).1] at this;simp at this,(cell_hide.1 ha).2⟩
theorem hide_below {w w':World} {p q:Nat→Bool} (h:Below w.heap.size w w') (hq:∀ k,k < w.heap.size→q k=true→p k=true):∀ a v,(World.hide w p).cell? a=some v→(World.hide w' q).cell? a=some v:=by
 intro a v ha
 obtain⟨h1,h2⟩:=cell_hide.1 ha
 refine cell_hide.2 ⟨?_,keeps_of_below h _ _ h2⟩
 cases hp:q a.block with
 | false=>rfl
 | true=>have:=hq _ (lt_cell h2) hp;rw[h1] at this;simp at this
theorem hide_grown {w w':World} {row:Option Nat} {p q:Nat→Bool} (h:w.grownBy w' row) (hr:∀ k,row=some k→p k=true) (hq:∀ k,k < w.heap.size→q k=true→p k=true):∀ a v,(World.hide w p).cell? a=some v→(World.hide w' q).cell? a=some v:=by
 intro a v ha
 obtain⟨h1,h2⟩:=cell_hide.1 ha
 have hlt:=lt_cell h2
 have hne:some a.block≠row:=fun e=>by have:=hr _ e.symm;rw[h1] at this;simp at this
 refine cell_hide.2 ⟨?_,?_⟩
 ·cases hp:q a.block with
  | false=>rfl
  | true=>have:=hq _ hlt hp;rw[h1] at this;simp at this
 ·rw[World.cell?_of_block (h.block _ hlt hne)]
  exact h2
theorem hide_store {w:World} {p:Nat→Bool} {k o:Nat} {u:Value} (hk:p k=true):∀ a v,(World.hide w p).cell? a=some v→(World.hide (w.setCell ⟨k,o,none⟩ u) p).cell? a=some v:=by
 intro a v ha
 obtain⟨h1,h2⟩:=cell_hide.1 ha
 have hne:a.block≠k:=fun e=>by rw[e,hk] at h1;simp at h1
 refine cell_hide.2 ⟨h1,?_⟩
 unfold World.cell? at h2⊢
 rw[Below.heap_setCell _ _ _ _ hne]
 exact h2
def old (B:Nat):Nat→Bool:=fun k=>decide (k < B)
theorem old_true {B k:Nat}:old B k=true↔k < B:=by simp[old]
end Go.Proofs.YthojpomoflhbcaaGreatDoor
namespace Go.Proofs.YthojpomoflhbcaaGreatDoor
open Go.RowKit
def Kp (H H':World):Prop:=∀ a v,H.cell? a=some v→H'.cell? a=some v
theorem Kp.refl (H:World):Kp H H:=fun _ _ h=>h
theorem Kp.trans {H H' H2:World} (h:Kp H H') (h':Kp H' H2):Kp H H2:=fun a v x=>h' a v (h a v x)
structure Enc (τ:Type) where
 sz:Nat
 R:World→τ→List Value→Prop
 pos:0 < sz
 len:∀ {w x vs},R w x vs→vs.length=sz
 keep:∀ {w w':World} {x vs},Kp w w'→R w x vs→R w' x vs
 one:∀ {w x vs},R w x vs→∀ v∈vs,v.oneCell'=true
section
variable {τ : Type} {E : Enc τ} {w w' : World} {l l' : List τ} {xs ys : List Value}
def Enc.At (E:Enc τ) (w:World) (x:τ) (b o:Nat):Prop:=∃ vs,E.R w x vs∧∀ (j:Nat) (v:Value),vs[j]? = some v→w.cell? ⟨b,o+j,none⟩=some v
theorem Enc.At.keep {x:τ} {b o:Nat} (h:E.At w x b o) (hk:Kp w w'):E.At w' x b o:=by
 obtain⟨vs,h1,h2⟩:=h
 exact⟨vs,E.keep hk h1,fun j v hv=>hk _ _ (h2 j v hv)⟩
def Enc.In (E:Enc τ) (w:World) (l:List τ) (a:Option Addr) (cap:Nat):Prop:=SliceIn E.sz l.length a cap (fun i b o=>∃ x,l[i]? = some x∧E.At w x b o)
theorem Enc.In.keep {a:Option Addr} {cap:Nat} (h:E.In w l a cap) (hk:Kp w w'):E.In w' l a cap:=h.mono fun _ _ _ _ ⟨x,h1,h2⟩=>⟨x,h1,h2.keep hk⟩
theorem Enc.In.nil (w:World):E.In w [] none 0:=⟨Nat.le_refl _,by simp,Or.inl rfl⟩
theorem Enc.In.len {a:Option Addr} {cap:Nat} (h:E.In w l a cap):l.length≤1073741824:=h.2.1
theorem Enc.In.cap {a:Option Addr} {cap:Nat} (h:E.In w l a cap):l.length≤cap:=h.1
theorem Enc.In.addr {a:Option Addr} {cap:Nat} (h:E.In w l a cap):l.length=0∨∃ b off,a=some ⟨b,off,none⟩:=SliceIn.addr h
theorem Enc.In.get {a:Option Addr} {cap:Nat} (h:E.In w l a cap) {b off:Nat} (ha:a=some ⟨b,off,none⟩) {i:Nat} (hi:i < l.length):E.At w (l[i]'hi) b (off+i * E.sz):=by
 rcases h.2.2 with h | ⟨b',off',ha',hq⟩
 ·omega
 ·rw[ha] at ha'
  simp only[Option.some.injEq,Addr.mk.injEq,and_true] at ha'
  obtain⟨rfl,rfl⟩:=ha'
  obtain⟨x,hx,h1⟩:=hq i hi
  rw[List.getElem?_eq_getElem hi] at hx
  obtain rfl:=Option.some.inj hx
  exact h1
def Enc.Vals (E:Enc τ) (w:World) (l:List τ) (xs:List Value):Prop:=xs.length=l.length * E.sz∧∀ i (h:i < l.length),∃ vs,E.R w (l[i]'h) vs∧∀ (j:Nat) (v:Value),vs[j]? = some v→xs[i * E.sz+j]? = some v
theorem Enc.Vals.nil (w:World):E.Vals w [] []:=⟨by simp,fun i h=>by simp at h⟩
theorem Enc.Vals.keep (h:E.Vals w l xs) (hk:Kp w w'):E.Vals w' l xs:=⟨h.1,fun i hi=>by obtain⟨vs,h1,h2⟩:=h.2 i hi;exact⟨vs,E.keep hk h1,h2⟩⟩
theorem Enc.Vals.one {x:τ} {vs:List Value} (h:E.R w x vs):E.Vals w [x] vs:=by
 refine⟨by rw[E.len h];simp,fun i hi=>?_⟩
 have:i=0:=by simpa using hi
 subst this
 exact⟨vs,h,fun j v hv=>by rw[Nat.zero_mul,Nat.zero_add];exact hv⟩
theorem Enc.Vals.append (h:E.Vals w l xs) (h':E.Vals w l' ys):E.Vals w (l++l') (xs++ys):=by
 have hx:=h.1
 refine⟨by rw[List.length_append,List.length_append,h.1,h'.1,Nat.add_mul],fun i hi=>?_⟩
 by_cases hl:i < l.length
 ·obtain⟨vs,h1,h2⟩:=h.2 i hl
  rw[List.getElem_append_left hl]
  exact⟨vs,h1,fun j v hv=>by
   have:=h2 j v hv
   rw[List.getElem?_append_left (List.getElem?_eq_some_iff.1 this).1];exact this⟩
 ·have hi':i - l.length < l'.length:=by rw[List.length_append] at hi;omega
  obtain⟨vs,h1,h2⟩:=h'.2 (i - l.length) hi'
  rw[List.getElem_append_right (by omega)]
  refine⟨vs,h1,fun j v hv=>?_⟩
  have hm:l.length * E.sz≤i * E.sz:=Nat.mul_le_mul_right _ (by omega)
  rw[List.getElem?_append_right (by omega),show i * E.sz+j - xs.length=(i - l.length) * E.sz+j from by rw[hx,Nat.sub_mul];omega]
  exact h2 j v hv
theorem Enc.Vals.cells (h:E.Vals w l xs):∀ v∈xs,v.oneCell'=true:=by
 intro v hv
 obtain⟨k,hk,rfl⟩:=List.getElem_of_mem hv
 have hp:=E.pos
 have hi:k / E.sz < l.length:=by
  rw[Nat.div_lt_iff_lt_mul hp];rw[h.1] at hk;exact hk
 obtain⟨vs,h1,h2⟩:=h.2 _ hi
 have hj:k % E.sz < vs.length:=by rw[E.len h1];exact Nat.mod_lt _ hp
 have:=h2 _ _ (List.getElem?_eq_getElem hj)
 rw[show k / E.sz * E.sz+k % E.sz=k from by rw[Nat.mul_comm];exact Nat.div_add_mod _ _,List.getElem?_eq_getElem hk] at this
 rw[Option.some.inj this]
 exact E.one h1 _ (List.getElem_mem hj)
theorem Enc.In.row {b off cap:Nat} (h:E.In w l (some ⟨b,off,none⟩) cap):∃ xs,E.Vals w l xs∧∀ (j:Nat) (v:Value),xs[j]? = some v→w.cell? ⟨b,off+j,none⟩=some v:=by
 suffices hs:∀ n,n≤l.length→∃ xs,E.Vals w (l.take n) xs∧∀ (j:Nat) (v:Value),xs[j]? = some v→w.cell? ⟨b,off+j,none⟩=some v by
  obtain⟨xs,h1⟩:=hs l.length (Nat.le_refl _)
  rw[List.take_of_length_le (Nat.le_refl _)] at h1
  exact⟨xs,h1⟩
 intro n
 induction n with
 | zero=>intro _;exact⟨[],by rw[List.take_zero];exact Enc.Vals.nil _,fun j v hv=>by simp at hv⟩
 | succ n ih =>
  intro hn
  obtain⟨xs,h1,h2⟩:=ih (by omega)
  obtain⟨vs,h3,h4⟩:=h.get rfl (i:=n) (by omega)
  have e:l.take (n+1)=l.take n++[l[n]'(by omega)]:=by rw[List.take_succ_eq_append_getElem]
  have hx:xs.length=n * E.sz:=by rw[h1.1,List.length_take,Nat.min_eq_left (by omega)]
  refine⟨xs++vs,by rw[e];exact h1.append (Enc.Vals.one h3),fun j v hv=>?_⟩
  by_cases hj:j < xs.length
  ·rw[List.getElem?_append_left hj] at hv;exact h2 j v hv
  ·rw[List.getElem?_append_right (by omega)] at hv
   have:=h4 _ _ hv
   rw[show off+n * E.sz+(j - xs.length)=off+j from by omega] at this
   exact this
theorem Enc.Vals.in {b off cap:Nat} (h:E.Vals w l xs) (hc:∀ (j:Nat) (v:Value),xs[j]? = some v→w.cell? ⟨b,off+j,none⟩=some v) (hn:l.length≤1073741824) (hcap:l.length≤cap):E.In w l (some ⟨b,off,none⟩) cap:=by
 refine⟨hcap,hn,Or.inr ⟨b,off,rfl,fun i hi=>?_⟩⟩
 obtain⟨vs,h1,h2⟩:=h.2 i hi
 exact⟨_,List.getElem?_eq_getElem hi,vs,h1,fun j v hv=>by
  have:=hc _ _ (h2 j v hv)
  rwa [← Nat.add_assoc] at this⟩
def hid (p:Nat→Bool) (v:Value):Nat→Bool:=fun k=>p k || v.ownBlock == some k
theorem hid_true {p:Nat→Bool} {v:Value} {k:Nat}:hid p v k=true↔p k=true∨v.ownBlock=some k:=by simp[hid]
def Enc.Own (E:Enc τ) (t:TypeId) (p:Nat→Bool) (w:World) (B:Nat) (v:Value) (l:List τ):Prop:=∃ xs,w.ownsRow B t E.sz v l.length xs∧E.Vals (World.hide w (hid p v)) l xs
theorem Enc.Own.nil (E:Enc τ) (t:TypeId) (p:Nat→Bool) (w:World) (B:Nat):E.Own t p w B (.slice none 0 0) []:=⟨[],World.ownsRow_nil _ _ _ _,Enc.Vals.nil _⟩
theorem Enc.Own.below {t:TypeId} {p:Nat→Bool} {B:Nat} {v:Value} (h:E.Own t p w B v l) (hb:Below w.heap.size w w'):E.Own t p w' B v l:=by
 obtain⟨xs,h1,h2⟩:=h
 exact⟨xs,ownsRow_below h1 hb,h2.keep (hide_below hb fun _ _ h=>h)⟩
theorem Enc.Own.grown {t:TypeId} {p:Nat→Bool} {B:Nat} {v:Value} {row:Option Nat} (h:E.Own t p w B v l) (hg:w.grownBy w' row) (hr:∀ k,row=some k→p k=true∧v.ownBlock≠some k):E.Own t p w' B v l:=by
 obtain⟨xs,h1,h2⟩:=h
 refine⟨xs,h1.kept hg (by
  cases hv:v.ownBlock with
  | none=>exact Or.inl rfl
  | some k=>exact Or.inr fun e=>(hr k e.symm).2 hv),h2.keep (hide_grown hg (fun k hk=>?_) fun _ _ h=>h)⟩
 exact hid_true.2 (Or.inl (hr k hk).1)
theorem Enc.Own.slice {t:TypeId} {p:Nat→Bool} {B:Nat} {v:Value} (h:E.Own t p w B v l) (hn:l.length≤1073741824):∃ a cap,v=.slice a l.length cap∧E.In w l a cap:=by
 obtain⟨xs,h1,h2⟩:=h
 obtain⟨a,cap,rfl,hs⟩:=slice_of_own h1 hn
 refine⟨a,cap,rfl,hs.mono fun i b o hi hq=>?_⟩
 obtain⟨vs,h3,h4⟩:=h2.2 i hi
 exact⟨_,List.getElem?_eq_getElem hi,vs,E.keep hide_cell h3,fun j u hu=>(hq j (by have:=E.len h3;have:=(List.getElem?_eq_some_iff.1 hu).1;omega)).trans (h4 j u hu)⟩
theorem Enc.Own.sliceP {t:TypeId} {p:Nat→Bool} {B:Nat} {v:Value} (h:E.Own t p w B v l) (hn:l.length≤1073741824) (hp:∀ k,B≤k→p k=false):∃ a cap,v=.slice a l.length cap∧E.In (World.hide w p) l a cap:=by
 have hlt:∀ k,v.ownBlock=some k→B≤k:=fun k hk=>by obtain⟨xs,h1,_⟩:=h;exact(h1.lt k hk).1
 obtain⟨xs,h1,h2⟩:=h
 obtain⟨a,cap,rfl,hs⟩:=slice_of_own h1 hn
 refine⟨a,cap,rfl,hs.1,hs.2.1,hs.2.2.imp id ?_⟩
 rintro ⟨b,off,rfl,hq⟩
 have hb:B≤b:=by
  rcases h1.2 with ⟨h3,_⟩ | ⟨g,cap',cur,h3,_⟩
  ·simp at h3
  ·exact hlt b rfl
 refine⟨b,off,rfl,fun i hi=>?_⟩
 obtain⟨vs,h3,h4⟩:=h2.2 i hi
 exact⟨_,List.getElem?_eq_getElem hi,vs,E.keep (hide_mono fun k hk=>hid_true.2 (Or.inl hk)) h3,fun j u hu=>cell_hide.2 ⟨hp b hb,(hq i hi j (by have:=E.len h3;have:=(List.getElem?_eq_some_iff.1 hu).1;omega)).trans (h4 j u hu)⟩⟩
end
end Go.Proofs.YthojpomoflhbcaaGreatDoor
