/- law31: the sample and the bad one, plain. -/
import Derived.Test.YtebneadheaefdaaGreatDoorDC
import Derived.Deep.AppendLies
set_option linter.unusedSimpArgs false
set_option linter.unusedVariables false
set_option linter.unnecessarySimpa false
namespace Go.Proofs.YtebneadheaefdaaGreatDoor
open Go.RowKit
noncomputable def vE (c:UInt8):Ex:=.mk 2 0 ⟨#[c]⟩ []
noncomputable def kE (n:Int):Ex:=.mk 1 n .empty []
noncomputable def bE (op:Int) (x y:Ex):Ex:=.mk op 0 .empty [x,y]
theorem nodes_lf (op n:Int) (s:ByteArray):(Ex.mk op n s []).nodes=[.mk op n s []]:=by rw[Ex.nodes_eq];simp[Ex.args_mk]
theorem nodes_bE (op:Int) {x y:Ex} (hx:x.nodes=[x]) (hy:y.nodes=[y]):(bE op x y).nodes=[bE op x y,x,y]:=by
 rw[Ex.nodes_eq]
 simp[bE,Ex.args_mk,hx,hy]
theorem nodes_vE (c:UInt8):(vE c).nodes=[vE c]:=nodes_lf _ _ _
theorem nodes_kE (n:Int):(kE n).nodes=[kE n]:=nodes_lf _ _ _
theorem depth_lf (op n:Int) (s:ByteArray):(Ex.mk op n s []).depth=1:=by rw[Ex.depth_eq];simp[Ex.args_mk]
theorem depth_bE (op:Int) {x y:Ex} (hx:x.depth=1) (hy:y.depth=1):(bE op x y).depth=2:=by rw[Ex.depth_eq];simp[bE,Ex.args_mk,hx,hy]
theorem valid_of {e:Ex} {l:List Ex} (hn:e.nodes=l) (hl:l.length≤400) (hf:firstE l=0) (hd:e.depth≤24):validS e=0:=by
 unfold validS
 rw[hn,hf,if_neg]
 rintro ⟨_,h | h⟩
 ·omega
 ·omega
end Go.Proofs.YtebneadheaefdaaGreatDoor
namespace Go.Proofs.YtebneadheaefdaaGreatDoor
open Go.RowKit
theorem own_appx {P:Program} {ops:Array Oper} {rest:List Oper} {o:Oper} {a:Act} {Q:Exit→Act→World→Prop} {t e:TypeId} {size:Nat} (he:Elem P t e size) (w:World) (hgd:o.guard=none) (s x:Operand)
  (ho:o.op=.call { callee:=.builtin .append,args:=#[s,x],argTypes:=#[t,t] })
  (base:Nat) (v:Value) (n:Nat) (xs:List Value) (hs:a.eval s=v) (hown:w.ownsRow base e size v n xs)
  (news:List Value) (m k c:Nat) (hl:news.length=m * size) (h1:∀ u∈news,u.oneCell'=true) (hx:a.eval x=.slice (some ⟨k,0,none⟩) m c) (hk:k=w.heap.size) (hm:0 < m) (hn:n+m≤1073741824) (hbase:base≤w.heap.size)
  (h:∀ g cap w',w'.ownsRow base e size (.slice (some ⟨g,0,none⟩) (n+m) cap) (n+m) (xs++news)→(w.alloc (.cells news.toArray e)).grownBy w' v.ownBlock→(v.ownBlock=some g∨w.heap.size < g)→wpList P ops Q rest (a.put o.dst (.slice (some ⟨g,0,none⟩) (n+m) cap)) w') :
  wpList P ops Q (o::rest) a (w.alloc (.cells news.toArray e)):=by
 subst hk
 obtain⟨ht,i,z,bytes,hi,hz,hsz,hby,hzs,h0,hb⟩:=he
 refine wpList_append_lies (w.alloc (.cells news.toArray e)) hgd s x t ho base e i z size bytes ht hi hz hsz hby hzs h0 v n xs hs (hown.alloc _) ⟨w.heap.size,0,none⟩ m c news hx hl ?_ h1 hm (by unfold maxLen;omega) ?_ (by simp;omega) (w.heap.size+1) (by simp) (fun g cap w' h2 h3 h4 _=>h g cap w' h2 h3 (h4.imp id (by omega)))
 ·have:=World.news_of_block (heap_alloc_new' w (.cells news.toArray e))
  simpa using this
 ·calc (n+m) * bytes≤1073741824 * 1024:=Nat.mul_le_mul hn hb
   _≤_:=by decide
theorem hx_new {X:World} {cs:Array Value} {t:TypeId} {b:Nat} (h:b=X.heap.size):(X.alloc (.cells cs t)).heap[b]? = some (.cells cs t (0,0)):=heap_alloc_at _ _ _ h
theorem hx_old {X:World} {o' o:Obj} {b:Nat} (h:X.heap[b]? = some o):(X.alloc o').heap[b]? = some o:=by rw[Below.heap_alloc _ _ _ (lt_of_block h)];exact h
theorem hx_below {X X':World} {o:Obj} {b:Nat} (hb:Below X.heap.size X X') (h:X.heap[b]? = some o):X'.heap[b]? = some o:=(hb.block b (lt_of_block h)).trans h
end Go.Proofs.YtebneadheaefdaaGreatDoor
