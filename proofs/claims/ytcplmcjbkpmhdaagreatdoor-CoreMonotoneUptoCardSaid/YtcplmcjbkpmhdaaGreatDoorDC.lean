/- What the printers' walks need: boxes, nodes. -/
import Derived.Test.YtcplmcjbkpmhdaaGreatDoorKA
import Derived.Test.YtcplmcjbkpmhdaaGreatDoorKF
import Derived.Deep.RegionHeld3
import Derived.Deep.DrawnRows
import Derived.Deep.LoopGhost
set_option linter.unusedSimpArgs false
set_option linter.unusedVariables false
set_option linter.unnecessarySimpa false
namespace Go.Proofs.YtcplmcjbkpmhdaaGreatDoor
open Go.RowKit
def intOf:Value→Int
 | .int _ q=>q
 | _=>0
theorem boxWT {w W:World} (o:Obj) (hW:Below (w.heap.size+1) (w.alloc o) W):Below w.heap.size w W:=((Below.refl _ _).alloc (Nat.le_refl _) _).trans (hW.mono (by simp))
theorem box_cellT {w wr:World} {c:Array Value} {t:TypeId} (h:Below (w.heap.size+1) (w.alloc (.cells c t)) wr) (j:Nat):wr.cell? ⟨w.heap.size,j,none⟩=c[j]? :=
 (h.cell (p:=⟨w.heap.size,j,none⟩) (by simp)).trans (by simp)
theorem cell_of_blkT {W:World} {k:Nat} {c:Array Value} {t:TypeId} {fz:Nat × Nat} (h:W.heap[k]? = some (.cells c t fz)) (o:Nat):W.cell? ⟨k,o,none⟩=c[o]?:=by simp[World.cell?,h]
theorem self_nodeT (e:Ex):e∈e.nodes:=by rw[Ex.nodes_eq];exact List.mem_cons_self
noncomputable def preNT (l:List Ex) (k:Nat):Nat:=1+(((l.take k).map Ex.nodes).flatten).length
theorem preN_succT (l:List Ex) {k:Nat} (h:k < l.length):preNT l (k+1)=preNT l k+(l[k]'h).nodes.length:=by
 unfold preNT
 rw[List.take_succ_eq_append_getElem h]
 simp only[List.map_append,List.map_cons,List.map_nil,List.flatten_append,List.length_append,List.flatten_cons,List.flatten_nil,List.append_nil]
 omega
theorem preN_allT (e:Ex):preNT e.args e.args.length=e.nodes.length:=by
 unfold preNT
 rw[Ex.nodes_eq e,List.take_of_length_le (Nat.le_refl _)]
 simp only[List.length_cons]
 omega
end Go.Proofs.YtcplmcjbkpmhdaaGreatDoor
