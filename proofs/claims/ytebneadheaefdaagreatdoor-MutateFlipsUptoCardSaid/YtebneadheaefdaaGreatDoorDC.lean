/- A map of the call's own whose elements are whatever values, read key by key. -/
import Derived.Test.YtebneadheaefdaaGreatDoorKA
import Derived.Maps.OwnOps
import Derived.Maps.OwnSet
import Derived.Lib.SlKeysI
import Derived.Test.YtebneadheaefdaaGreatDoorDB
import Derived.Test.YtebneadheaefdaaGreatDoorKF
import Derived.Deep.RegionHeld3
import Derived.Deep.DrawnRows
import Derived.Deep.LoopGhost
set_option linter.unusedSimpArgs false
set_option linter.unusedVariables false
set_option linter.unnecessarySimpa false
namespace Go.Proofs.YtebneadheaefdaaGreatDoor
open Go.RowKit Go.WideMaps
def heldR (v:Value):Option (DataW Value × List MemPlace):=some (.held v,[])
def MapV (w:World) (P:Program) (k:TypeId) (b m:Nat) (f:Lit→Option Value):Prop :=
 ∃ D:DataW Value,w.ownsMap P k heldR b m D∧Maps.Tidy D∧Maps.size D=m∧∀ kl,Maps.has D kl=(f kl).isSome∧∀ v,f kl=some v→∀ z,D.atKey kl z=.held v
noncomputable def putL (f:Lit→Option Value) (kl:Lit) (v:Option Value):Lit→Option Value:=fun x=>@ite _ (x=kl) (Classical.propDecidable _) v (f x)
theorem putL_same (f:Lit→Option Value) (kl:Lit) (v:Option Value):putL f kl v kl=v:=by unfold putL;exact if_pos rfl
theorem putL_other {f:Lit→Option Value} {kl x:Lit} (v:Option Value) (h:x≠kl):putL f kl v x=f x:=by unfold putL;exact if_neg h
theorem ownsMap_tight {H:Type} {w:World} {P:Program} {k:TypeId} {R:Value→Option (DataW H × List MemPlace)} {b n:Nat} {D:DataW H} (h:w.ownsMap P k R b n D):w.ownsMap P k R b (Maps.size D) D:=by
 obtain⟨es,clock,hb,F,_,rfl⟩:=h
 exact⟨es,clock,hb,F,by simp[Maps.size,length_sorted],rfl⟩
section
variable {w : World} {P : Program} {k : TypeId} {b m : Nat} {f : Lit → Option Value}
theorem MapV.made (w:World) (P:Program) (k:TypeId):MapV (w.alloc (.map #[] 0)) P k w.heap.size 0 (fun _=>none) :=
 ⟨.map [],World.ownsMap_made w _ _ _,Maps.tidy_empty,rfl,fun kl=>⟨rfl,fun v h=>by cases h⟩⟩
theorem MapV.lt (h:MapV w P k b m f):b < w.heap.size:=by
 obtain⟨D,h1,_⟩:=h
 exact h1.lt
theorem MapV.kept {w':World} {row:Option Nat} (h:MapV w P k b m f) (hg:w.grownBy w' row) (hne:some b≠row):MapV w' P k b m f:=by
 obtain⟨D,h1,r⟩:=h
 exact⟨D,h1.kept hg hne,r⟩
theorem MapV.alloc (h:MapV w P k b m f) (o:Obj):MapV (w.alloc o) P k b m f:=h.kept (World.grownBy_alloc w o none) (by simp)
theorem MapV.setCell (h:MapV w P k b m f) {a:Addr} (ha:b≠a.block) (u:Value):MapV (w.setCell a u) P k b m f:=by
 obtain⟨D,h1,r⟩:=h
 exact⟨D,h1.setCell ha u,r⟩
theorem MapV.block {w':World} (h:MapV w P k b m f) (hb:w'.heap[b]? = w.heap[b]?):MapV w' P k b m f:=by
 obtain⟨D,⟨es,clock,g1,g2⟩,r⟩:=h
 exact⟨D,⟨es,clock,hb.trans g1,g2⟩,r⟩
theorem MapV.below {w':World} (h:MapV w P k b m f) (hb:Below w.heap.size w w'):MapV w' P k b m f:=h.block (hb.block _ h.lt)
theorem MapV.belowB {w':World} {B:Nat} (h:MapV w P k b m f) (hb:Below B w w') (hB:b < B):MapV w' P k b m f:=h.block (hb.block _ hB)
theorem MapV.cells {w':World} (h:MapV w P k b m f) (hg:w.grownBy w' (some b)):∀ a v,w.cell? a=some v→w'.cell? a=some v:=by
 intro a v hc
 obtain⟨D,⟨es,clock,g1,_⟩,_⟩:=h
 have hlt:=World.block_lt_of_cell? _ _ hc
 have hne:a.block≠b:=fun e=>by
  subst e
  unfold World.cell? at hc
  rw[g1] at hc
  simp at hc
 have hh:=hg.block a.block hlt (fun e=>hne (by injection e))
 unfold World.cell? at hc⊢
 rw[hh]
 exact hc
theorem MapV.congr {g:Lit→Option Value} (h:MapV w P k b m f) (hfg:∀ x,f x=g x):MapV w P k b m g:=by
 have:f=g:=funext hfg
 rw[← this];exact h
theorem MapV.put {w':World} {D:DataW Value} {kl:Lit} {v:Value} (hk:WideAt.IsKeyLit kl) (ht:Maps.Tidy D) (hf:∀ kl,Maps.has D kl=(f kl).isSome∧∀ v,f kl=some v→∀ z,D.atKey kl z=.held v) {n:Nat} (h:w'.ownsMap P k heldR b n (D.put kl (.held v))) :
  MapV w' P k b (Maps.size D+if (f kl).isSome then 0 else 1) (putL f kl (some v)):=by
 have hs:=Maps.size_put (k:=kl) ht (.held v)
 rw[(hf kl).1] at hs
 have hs':Maps.size (D.put kl (.held v))=Maps.size D+if (f kl).isSome then 0 else 1:=by rw[hs];split<;>simp
 refine⟨_,?_,ht.put hk _,hs',fun x=>?_⟩
 ·rw[← hs'];exact ownsMap_tight h
 ·by_cases hx:x=kl
  ·subst hx
   rw[putL_same]
   refine⟨Maps.has_put_same ht.isMap hk _,fun u hu z=>?_⟩
   obtain rfl:=Option.some.inj hu
   exact Maps.atKey_put_same ht.isMap hk _ _
  ·rw[putL_other _ hx]
   refine⟨(Maps.has_put_other hx _).trans (hf x).1,fun u hu z=>?_⟩
   rw[Maps.atKey_put_other hx]
   exact(hf x).2 u hu z
theorem heldR_inv {v:Value} {d:DataW Value} {ps:List MemPlace} (h:heldR v=some (d,ps)):d=.held v:=by
 unfold heldR at h
 injection h with h
 injection h with h _
 exact h.symm
end
section
variable {P : Program} {w : World} {ops : Array Oper} {rest : List Oper} {o : Oper} {a : Act} {Q : Exit → Act → World → Prop} {k : TypeId} {b n : Nat} {f : Lit → Option Value}
theorem wp_mapV_put (w:World) (hg:o.guard=none) (m x v:Operand) (t e:TypeId) (hop:o.op=Op.mapUpdate t m x v) (K:Maps.Keyed P k) (ht:P.underlying t=some (.map k e)) (hm:a.eval m=.map (some b)) (hown:MapV w P k b n f) (hn:n < 1000000000)
  (key val:Value) (kl:Lit) (hx:a.eval x=key) (hv:a.eval v=val) (hkey:keyOf P k key=some kl) (hk:WideAt.IsKeyLit kl)
  (hK:∀ w',MapV w' P k b (n+if (f kl).isSome then 0 else 1) (putL f kl (some val))→w.grownBy w' (some b)→wpList P ops Q rest (a.put o.dst undef) w'):wpList P ops Q (o::rest) a w:=by
 obtain⟨D,h1,h2,h3,h4⟩:=hown
 refine wpList_mapUpdate_own w hg m x v t hop k e K ht heldR b n D hm h1 (by unfold maxLen;omega) key val kl hx hv hkey (.held val) [] rfl ?_
 intro w' h5 h6
 have:=MapV.put hk h2 h4 h5
 rw[h3] at this
 exact hK w' this h6
theorem wp_mapV_get (w:World) (hg:o.guard=none) (m x:Operand) (t e:TypeId) (hop:o.op=Op.lookup t m x false) (K:Maps.Keyed P k) (ht:P.underlying t=some (.map k e)) {z:Value} (hz:(zeroValue e).run P w=.ok z w) (hm:a.eval m=.map (some b)) (hown:MapV w P k b n f)
  (key:Value) (kl:Lit) (hx:a.eval x=key) (hkey:keyOf P k key=some kl) (v:Value) (hf:f kl=some v)
  (hK:wpList P ops Q rest (a.put o.dst v) w):wpList P ops Q (o::rest) a w:=by
 obtain⟨D,h1,h2,h3,h4⟩:=hown
 refine wpList_plain hg fun K' hK'=>?_
 obtain⟨u,ps,hrun,hR⟩:=h1.lookup K ht hz (zd:=.held z) (zp:=[]) rfl hkey
 have hu:=heldR_inv hR
 rw[(h4 kl).2 v hf] at hu
 injection hu with hu
 subst hu
 unfold Oper.wp
 simp[execOp,hop,hm,hx,hrun,Result.andThen]
 exact hK' _ _ hK
theorem mapV_ok_run (hown:MapV w P k b n f) {t e:TypeId} (K:Maps.Keyed P k) (ht:P.underlying t=some (.map k e)) {z:Value} (hz:(zeroValue e).run P w=.ok z w) {key:Value} {kl:Lit} (hkey:keyOf P k key=some kl) :
  (Instr.lookup t (.map (some b)) key true).run P w=.ok (.tuple #[(f kl).getD z,.bool (f kl).isSome]) w:=by
 obtain⟨D,h1,h2,h3,h4⟩:=hown
 obtain⟨u,ps,hrun,hR⟩:=h1.look_ok K ht hz (zd:=.held z) (zp:=[]) rfl hkey
 have hu:=heldR_inv hR
 rw[(h4 kl).1] at hrun
 cases hf:f kl with
 | none =>
  have hh:=(h4 kl).1
  rw[hf] at hh hrun
  rw[Maps.atKey_of_not_has (by simpa using hh)] at hu
  injection hu with hu
  subst hu
  simpa using hrun
 | some v =>
  rw[(h4 kl).2 v hf] at hu
  injection hu with hu
  subst hu
  rw[hf] at hrun
  simpa using hrun
theorem wp_mapV_some (w:World) (hg:o.guard=none) (m x:Operand) (t e:TypeId) (hop:o.op=Op.lookup t m x true) (K:Maps.Keyed P k) (ht:P.underlying t=some (.map k e)) {z:Value} (hz:(zeroValue e).run P w=.ok z w) (hm:a.eval m=.map (some b)) (hown:MapV w P k b n f)
  (key:Value) (kl:Lit) (hx:a.eval x=key) (hkey:keyOf P k key=some kl) (v:Value) (hf:f kl=some v)
  (hK:wpList P ops Q rest (a.put o.dst (.tuple #[v,.bool true])) w):wpList P ops Q (o::rest) a w:=by
 have hrun:=mapV_ok_run hown K ht hz hkey
 rw[hf] at hrun
 refine wpList_plain hg fun K' hK'=>?_
 unfold Oper.wp
 simp[execOp,hop,hm,hx,hrun,Result.andThen]
 exact hK' _ _ hK
theorem wp_mapV_none (w:World) (hg:o.guard=none) (m x:Operand) (t e:TypeId) (hop:o.op=Op.lookup t m x true) (K:Maps.Keyed P k) (ht:P.underlying t=some (.map k e)) {z:Value} (hz:(zeroValue e).run P w=.ok z w) (hm:a.eval m=.map (some b)) (hown:MapV w P k b n f)
  (key:Value) (kl:Lit) (hx:a.eval x=key) (hkey:keyOf P k key=some kl) (hf:f kl=none)
  (hK:wpList P ops Q rest (a.put o.dst (.tuple #[z,.bool false])) w):wpList P ops Q (o::rest) a w:=by
 have hrun:=mapV_ok_run hown K ht hz hkey
 rw[hf] at hrun
 refine wpList_plain hg fun K' hK'=>?_
 unfold Oper.wp
 simp[execOp,hop,hm,hx,hrun,Result.andThen]
 exact hK' _ _ hK
theorem wp_mapV_zero (w:World) (hg:o.guard=none) (m x:Operand) (t e:TypeId) (hop:o.op=Op.lookup t m x false) (K:Maps.Keyed P k) (ht:P.underlying t=some (.map k e)) {z:Value} (hz:(zeroValue e).run P w=.ok z w) (hm:a.eval m=.map (some b)) (hown:MapV w P k b n f)
  (key:Value) (kl:Lit) (hx:a.eval x=key) (hkey:keyOf P k key=some kl) (hf:f kl=none)
  (hK:wpList P ops Q rest (a.put o.dst z) w):wpList P ops Q (o::rest) a w:=by
 obtain⟨D,h1,h2,h3,h4⟩:=hown
 refine wpList_plain hg fun K' hK'=>?_
 obtain⟨u,ps,hrun,hR⟩:=h1.lookup K ht hz (zd:=.held z) (zp:=[]) rfl hkey
 have hu:=heldR_inv hR
 have hh:=(h4 kl).1
 rw[hf] at hh
 rw[Maps.atKey_of_not_has (by simpa using hh)] at hu
 injection hu with hu
 subst hu
 unfold Oper.wp
 simp[execOp,hop,hm,hx,hrun,Result.andThen]
 exact hK' _ _ hK
theorem wp_mapV_del (w:World) (hg:o.guard=none) (m x:Operand) (t k e:TypeId) (hop:o.op=Op.call { callee:=Callee.builtin Builtin.delete,args:=#[m,x],argTypes:=#[t,k] }) (K:Maps.Keyed P k) (ht:P.underlying t=some (.map k e)) (hm:a.eval m=.map (some b)) (hown:MapV w P k b (n+1) f)
  (key:Value) (kl:Lit) (hx:a.eval x=key) (hkey:keyOf P k key=some kl) (hf:(f kl).isSome=true)
  (hK:∀ w',MapV w' P k b n (putL f kl none)→w.grownBy w' (some b)→wpList P ops Q rest (a.put o.dst (.tuple #[])) w'):wpList P ops Q (o::rest) a w:=by
 obtain⟨D,h1,h2,h3,h4⟩:=hown
 refine wpList_delete_own w hg m x t k hop e K ht heldR b (n+1) D hm h1 key kl hx hkey ?_
 intro w' h5 h6
 have hs:=Maps.size_del (k:=kl) h2
 rw[(h4 kl).1,hf,h3] at hs
 have hs':Maps.size (D.del kl)=n:=by simpa using hs
 refine hK w' ⟨_,?_,h2.del kl,hs',fun x=>?_⟩ h6.grown
 ·rw[← hs'];exact ownsMap_tight h5
 ·by_cases hx':x=kl
  ·subst hx'
   rw[putL_same]
   exact⟨Maps.has_del_same,fun u hu=>by cases hu⟩
  ·rw[putL_other _ hx']
   refine⟨(Maps.has_del_other hx').trans (h4 x).1,fun u hu z=>?_⟩
   rw[Maps.atKey_del_other hx']
   exact(h4 x).2 u hu z
theorem wp_mapV_len (w:World) (hg:o.guard=none) (m:Operand) (t k e:TypeId) (hop:o.op=Op.call { callee:=Callee.builtin Builtin.len,args:=#[m],argTypes:=#[t] }) (ht:P.underlying t=some (.map k e)) (hm:a.eval m=.map (some b)) (hown:MapV w P k b n f)
  (hK:wpList P ops Q rest (a.put o.dst (.int .i64 n)) w):wpList P ops Q (o::rest) a w:=by
 obtain⟨D,h1,h2,h3,h4⟩:=hown
 refine wpList_len_own w hg m t hop k e ht heldR b n D hm h1 ?_
 rw[h3]
 exact hK
end
end Go.Proofs.YtebneadheaefdaaGreatDoor
namespace Go.Proofs.YtebneadheaefdaaGreatDoor
open Go.RowKit
attribute [local go_sem ↓] Go.wp_at_zero Go.wp_at_succ
def intOf:Value→Int
 | .int _ q=>q
 | _=>0
def idxP {α:Type} (p:α→Bool):List α→Nat→Int
 | [],_=>-1
 | v::l,k=>if p v=true then k else idxP p l (k+1)
theorem idxP_at {α:Type} (p:α→Bool) (l:List α):∀ (k j:Nat) (hk:k < l.length),(∀ i (hi:i < k),p (l[i]'(by omega))=false)→p (l[k]'hk)=true→idxP p l j=((k+j:Nat):Int):=by
 induction l with
 | nil=>intro k j hk;simp at hk
 | cons x l ih =>
  intro k j hk h1 h2
  cases k with
  | zero =>
   have h2':p x=true:=h2
   unfold idxP;rw[if_pos h2'];simp
  | succ k =>
   have h0:p x=false:=h1 0 (by omega)
   unfold idxP
   rw[if_neg (by rw[h0];simp),ih k (j+1) (by simpa using hk) (fun i hi=>h1 (i+1) (by omega)) h2]
   omega
theorem idxP_none {α:Type} (p:α→Bool) (l:List α):∀ j,(∀ i (hi:i < l.length),p (l[i]'hi)=false)→idxP p l j=-1:=by
 induction l with
 | nil=>intro _ _;rfl
 | cons x l ih =>
  intro j h1
  have h0:p x=false:=h1 0 (by simp)
  unfold idxP
  rw[if_neg (by rw[h0];simp)]
  exact ih (j+1) (fun i hi=>h1 (i+1) (by simpa using hi))
theorem idxP_any {α:Type} (p:α→Bool) (l:List α):l.any p=decide (0≤idxP p l 0):=by
 cases h:l.any p
 ·rw[List.any_eq_false] at h
  rw[idxP_none p l 0 (fun i hi=>by simpa using h _ (List.getElem_mem hi))];rfl
 ·rw[List.any_eq_true] at h
  have key:∀ (l:List α) (k:Nat),(∃ x,x∈l∧p x=true)→0≤idxP p l k:=by
   intro l
   induction l with
   | nil=>intro k ⟨x,hx,_⟩;cases hx
   | cons y l ih =>
    intro k ⟨x,hx,hp⟩
    unfold idxP
    split
    ·omega
    ·rename_i hy
     rcases List.mem_cons.1 hx with rfl | hx
     ·exact absurd hp hy
     ·exact ih _ ⟨x,hx,hp⟩
  rw[decide_eq_true (key l 0 h)]
theorem toList_eq_iff (s t:ByteArray):(s.toList == t.toList)=true↔s.data.toList=t.data.toList:=by
 rw[beq_iff_eq,ByteArray.toList_eq,ByteArray.toList_eq]
theorem intsIn_get {w:World} {l:List Int} {a:Option Addr} {cap:Nat} (h:IntsIn w l a cap) {b off:Nat} (ha:a=some ⟨b,off,none⟩) {i:Nat} (hi:i < l.length):w.cell? ⟨b,off+i,none⟩=some (.int .i64 (l[i]'hi)):=by
 have:=h.get ha hi
 rw[this,List.getD_eq_getElem?_getD,List.getElem?_eq_getElem hi];rfl
theorem boxW {w W:World} (o:Obj) (hW:Below (w.heap.size+1) (w.alloc o) W):Below w.heap.size w W:=((Below.refl _ _).alloc (Nat.le_refl _) _).trans (hW.mono (by simp))
theorem own_far {w w1 w':World} {B:Nat} {e:TypeId} {size:Nat} {v:Value} {n:Nat} {xs:List Value} {a:Addr} {u:Value} (hown:w.ownsRow B e size v n xs) (hg:w1.grownBy w' v.ownBlock) (hc:w1.cell? a=some u) (ha:a.block < B∨w.heap.size≤a.block):w'.cell? a=some u :=
 hg.cell hc (fun h=>by obtain⟨h1,h2⟩:=hown.lt a.block h.symm;omega)
def sigCells (l:List (ByteArray × Int)):List Value:=l.flatMap fun s=>[.string s.1,.int .i64 s.2]
theorem sigCells_len (l:List (ByteArray × Int)):(sigCells l).length=l.length * 2:=by
 induction l with
 | nil=>rfl
 | cons s l ih=>simp only[sigCells,List.flatMap_cons,List.length_append,List.length_cons,List.length_nil] at ih⊢;omega
theorem sigCells_get (l:List (ByteArray × Int)):∀ i (h:i < l.length),(sigCells l)[i * 2]? = some (.string (l[i]'h).1)∧(sigCells l)[i * 2+1]? = some (.int .i64 (l[i]'h).2):=by
 induction l with
 | nil=>intro i h;simp at h
 | cons s l ih =>
  intro i h
  have hc:sigCells (s::l)=.string s.1::.int .i64 s.2::sigCells l:=rfl
  rw[hc]
  cases i with
  | zero=>exact⟨rfl,rfl⟩
  | succ i =>
   have:=ih i (by simpa using h)
   rw[show (i+1) * 2=i * 2+1+1 from by omega]
   exact this
theorem box_cell {w wr:World} {c:Array Value} {t:TypeId} (h:Below (w.heap.size+1) (w.alloc (.cells c t)) wr) (j:Nat):wr.cell? ⟨w.heap.size,j,none⟩=c[j]? :=
 (h.cell (p:=⟨w.heap.size,j,none⟩) (by simp)).trans (by simp)
theorem make_blk {P:Program} {w:World} {ops:Array Oper} {rest:List Oper} {o:Oper} {a:Act} {Q:Exit→Act→World→Prop} {t e:TypeId} {size:Nat} (he:Elem P t e size) (hg:o.guard=none) (l c:Operand) (hop:o.op=Op.makeSlice t l c)
  (n:Nat) (L:Int) (hl:a.eval l=.int .i64 L) (hc:a.eval c=.int .i64 L) (hL:L=(n:Int)) (hn:n≤1073741824)
  (h:∀ cur:List Value,cur.length=n * size→wpList P ops Q rest (a.put o.dst (.slice (some ⟨w.heap.size,0,none⟩) n n)) (w.alloc (.cells cur.toArray e))):wpList P ops Q (o::rest) a w:=by
 subst hL
 obtain⟨ht,i,z,bytes,hi,hz,hsz,hby,hzs,h0,hb⟩:=he
 refine wpList_plain hg fun K hK'=>?_
 have hbb:(i.bytes:Int) * (n:Int)≤281474976710656:=by
  have:i.bytes * n≤1024 * 1073741824:=by rw[hby];exact Nat.mul_le_mul hb hn
  rw[← Int.natCast_mul];omega
 have hrun:=run_make (P:=P) w t e i z ht hi hz .i64 .i64 n n (by omega) (Int.le_refl _) hbb (by omega)
 simp only[Int.toNat_natCast,hsz] at hrun
 unfold Oper.wp
 simp[execOp,hop,hl,hc,hrun,Result.andThen]
 have h2:=h (madeCells z.cells (n * size)).toList (by simp[size_madeCells])
 simp only[Array.toArray_toList] at h2
 exact hK' _ _ h2
theorem cell_of_blk {W:World} {k:Nat} {c:Array Value} {t:TypeId} {fz:Nat × Nat} (h:W.heap[k]? = some (.cells c t fz)) (o:Nat):W.cell? ⟨k,o,none⟩=c[o]?:=by simp[World.cell?,h]
theorem all_not {α:Type} {P:α→Bool} {l:List α} {k:Nat} (h:k < l.length) (hp:P (l[k]'h)=false):l.all P=false:=by
 rw[List.all_eq_false]
 exact⟨_,List.getElem_mem h,by rw[hp];simp⟩
theorem all_yes {α:Type} {P:α→Bool} {l:List α} (h:∀ j (hj:j < l.length),P (l[j]'hj)=true):l.all P=true:=List.all_eq_true.2 fun x hx=>by
 obtain⟨i,hi,rfl⟩:=List.getElem_of_mem hx
 exact h i hi
theorem grown_below {w W W':World} {b:Nat} (h:Below w.heap.size w W) (hb:w.heap.size≤b) (hg:W.grownBy W' (some b)):Below w.heap.size w W' :=
 h.trans ⟨hg.os,hg.tape,hg.output,hg.size,fun k hk=>hg.block k (Nat.lt_of_lt_of_le hk h.size) (fun e=>by injection e with e;omega)⟩
end Go.Proofs.YtebneadheaefdaaGreatDoor
