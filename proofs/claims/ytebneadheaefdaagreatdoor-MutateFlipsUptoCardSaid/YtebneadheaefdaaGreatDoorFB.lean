/- What is known of memory beside some blocks (a row of one's own, or all that is old): the world with these blocks emptied. -/
import Derived.Test.YtebneadheaefdaaGreatDoorEA
import Derived.Test.YtebneadheaefdaaGreatDoorFC
set_option linter.unusedSimpArgs false
set_option linter.unusedVariables false
set_option linter.unnecessarySimpa false
namespace Go.Proofs.YtebneadheaefdaaGreatDoor
open Go.RowKit
theorem lt_cell {w:World} {a:Addr} {v:Value} (h:w.cell? a=some v):a.block < w.heap.size:=by
 unfold World.cell? at h
 split at h
 ·rename_i hb
  exact lt_of_block hb
 ·simp at h
def World.hide (w:World) (p:Nat→Bool):World:={ w with heap:=w.heap.mapIdx fun k o=>if p k then .cells #[] 0 else o }
theorem cell_hide {w:World} {p:Nat→Bool} {a:Addr} {v:Value}:(World.hide w p).cell? a=some v↔p a.block=false∧w.cell? a=some v:=by
 unfold World.hide World.cell?
 simp only[Array.getElem?_mapIdx]
 cases h:w.heap[a.block]? with
 | none=>simp
 | some o =>
  cases hp:p a.block with
  | false=>simp
  | true=>simp
theorem hide_cell {w:World} {p:Nat→Bool}:∀ a v,(World.hide w p).cell? a=some v→w.cell? a=some v:=fun _ _ h=>(cell_hide.1 h).2
theorem hide_grown {w w':World} {row:Option Nat} {p q:Nat→Bool} (h:w.grownBy w' row) (hr:∀ k,row=some k→p k=true) (hq:∀ k,k < w.heap.size→q k=true→p k=true):∀ a v,(World.hide w p).cell? a=some v→(World.hide w' q).cell? a=some v:=by
 intro a v ha
 obtain⟨h1,h2⟩:=cell_hide.1 ha
 have hlt:=lt_cell h2
 have hne:some a.block≠row:=fun e=>by have:=hr _ e.symm;rw[h1] at this;simp at this
 refine cell_hide.2 ⟨?_,?_⟩
 ·cases hp:q a.block with
  | false=>rfl
  | true=>have:=hq _ hlt hp;rw[h1] at this;simp at this
 ·rw[World.cell?_of_block (h.block _ hlt hne)]
  exact h2
def old (B:Nat):Nat→Bool:=fun k=>decide (k < B)
theorem old_true {B k:Nat}:old B k=true↔k < B:=by simp[old]
end Go.Proofs.YtebneadheaefdaaGreatDoor
namespace Go.Proofs.YtebneadheaefdaaGreatDoor
open Go.RowKit
def hidO:Obj:=.cells #[] 0
def HK (H H':World):Prop:=∀ (b:Nat) (o:Obj),H.heap[b]? = some o→o≠hidO→H'.heap[b]? = some o
theorem HK.refl (H:World):HK H H:=fun _ _ h _=>h
theorem HK.trans {a b c:World} (h:HK a b) (k:HK b c):HK a c:=fun n o h1 h2=>k n o (h n o h1 h2) h2
theorem hide_heap (w:World) (p:Nat→Bool) (b:Nat):(World.hide w p).heap[b]? = (w.heap[b]?).map fun o=>if p b then hidO else o:=by
 unfold World.hide hidO
 simp only[Array.getElem?_mapIdx]
theorem hk_of {w w':World} {p q:Nat→Bool} (h:∀ b o,w.heap[b]? = some o→o≠hidO→p b=false→w'.heap[b]? = some o∧q b=false):HK (World.hide w p) (World.hide w' q):=by
 intro b o hb hne
 rw[hide_heap] at hb
 cases hw:w.heap[b]? with
 | none=>rw[hw] at hb;simp at hb
 | some o0 =>
  rw[hw] at hb
  simp only[Option.map_some,Option.some.injEq] at hb
  cases hp:p b with
  | true=>rw[hp,if_pos rfl] at hb;exact absurd hb.symm hne
  | false =>
   rw[hp,if_neg (by simp)] at hb
   subst hb
   obtain⟨h1,h2⟩:=h b o0 hw hne hp
   rw[hide_heap,h1,h2]
   simp
theorem HK.cell {H H':World} (h:HK H H'):∀ a v,H.cell? a=some v→H'.cell? a=some v:=by
 intro a v ha
 unfold World.cell? at ha⊢
 cases ho:H.heap[a.block]? with
 | none=>rw[ho] at ha;simp at ha
 | some o =>
  by_cases hn:o=hidO
  ·subst hn
   rw[ho] at ha
   unfold hidO at ha
   simp at ha
  ·rw[h _ _ ho hn]
   rw[ho] at ha
   exact ha
theorem hk_unhide (w:World) (p:Nat→Bool):HK (World.hide w p) w:=by
 intro b o hb hne
 rw[hide_heap] at hb
 cases hw:w.heap[b]? with
 | none=>rw[hw] at hb;simp at hb
 | some o0 =>
  rw[hw] at hb
  simp only[Option.map_some,Option.some.injEq] at hb
  cases hp:p b with
  | true=>rw[hp,if_pos rfl] at hb;exact absurd hb.symm hne
  | false=>rw[hp,if_neg (by simp)] at hb;rw[hb]
theorem hk_plain {w w':World} (h:Below w.heap.size w w'):HK w w':=fun b o hb _=>(h.block b (lt_of_block hb)).trans hb
theorem hk_hide {H H':World} {p:Nat→Bool} (h:HK H H'):HK (World.hide H p) (World.hide H' p):=hk_of fun b o h1 h2 h3=>⟨h b o h1 h2,h3⟩
theorem hk_mono {w:World} {p q:Nat→Bool} (h:∀ k,q k=true→p k=true):HK (World.hide w p) (World.hide w q):=hk_of fun b o h1 _ h3=>⟨h1,by
 cases hq:q b with
 | false=>rfl
 | true=>rw[h b hq] at h3;simp at h3⟩
theorem hk_below {w w':World} {p q:Nat→Bool} (h:Below w.heap.size w w') (hq:∀ k,k < w.heap.size→q k=true→p k=true):HK (World.hide w p) (World.hide w' q):=hk_of fun b o h1 _ h3=>⟨(h.block b (lt_of_block h1)).trans h1,by
 cases hq':q b with
 | false=>rfl
 | true=>rw[hq b (lt_of_block h1) hq'] at h3;simp at h3⟩
theorem hk_grown {w w':World} {row:Option Nat} {p q:Nat→Bool} (h:w.grownBy w' row) (hr:∀ k,row=some k→p k=true) (hq:∀ k,k < w.heap.size→q k=true→p k=true):HK (World.hide w p) (World.hide w' q):=hk_of fun b o h1 _ h3 =>
 ⟨(h.block b (lt_of_block h1) fun e=>by rw[hr _ e.symm] at h3;simp at h3).trans h1,by
 cases hq':q b with
 | false=>rfl
 | true=>rw[hq b (lt_of_block h1) hq'] at h3;simp at h3⟩
theorem hk_store {w:World} {p:Nat→Bool} {k o:Nat} {u:Value} (hk:p k=true):HK (World.hide w p) (World.hide (w.setCell ⟨k,o,none⟩ u) p):=hk_of fun b o' h1 _ h3 =>
 ⟨by rw[Below.heap_setCell _ _ _ _ (fun e=>by simp only at e;rw[e,hk] at h3;simp at h3)];exact h1,h3⟩
theorem hide_hide (w:World) (p q:Nat→Bool):World.hide (World.hide w p) q=World.hide w fun k=>p k || q k:=by
 unfold World.hide
 simp only[Array.mapIdx_mapIdx,World.mk.injEq,and_true]
 congr 1
 funext k o
 simp only[Function.comp]
 rcases Bool.eq_false_or_eq_true (p k) with hp | hp<;>rcases Bool.eq_false_or_eq_true (q k) with hq | hq<;>simp[hp,hq]
theorem hk_old {w0 w:World} {p:Nat→Bool} (h:Below w0.heap.size w0 w) (hp:∀ k,k < w0.heap.size→p k=false):HK w0 (World.hide w p):=fun b o hb _=>by
 rw[hide_heap,(h.block b (lt_of_block hb)).trans hb,hp b (lt_of_block hb)]
 simp
def rowF (arr:Array Value) (size i:Nat):Nat→Option Value:=fun j=>if j < size then arr[i * size+j]? else none
def updF (f:Nat→Option Value) (k:Nat) (v:Value):Nat→Option Value:=fun j=>if j=k then some v else f j
structure RowOf (W:World) (b:Nat) (t:TypeId) (size n cap:Nat) (P:Nat→(Nat→Option Value)→Prop):Prop where
 le:n≤cap
 pos:0 < n
 row:∃ arr:Array Value,W.heap[b]? = some (.cells arr t (0,0))∧arr.size=cap * size∧∀ i,i < n→P i (rowF arr size i)
section
variable {W : World} {b : Nat} {t : TypeId} {size n cap : Nat} {P Q : Nat → (Nat → Option Value) → Prop}
theorem RowOf.mono (h:RowOf W b t size n cap P) (hq:∀ i f,i < n→P i f→Q i f):RowOf W b t size n cap Q:=by
 obtain⟨h1,h2,arr,h3,h4,h5⟩:=h
 exact⟨h1,h2,arr,h3,h4,fun i hi=>hq i _ hi (h5 i hi)⟩
theorem RowOf.keep {W':World} (h:RowOf W b t size n cap P) (hk:HK W W') (hs:0 < size):RowOf W' b t size n cap P:=by
 obtain⟨h1,h2,arr,h3,h4,h5⟩:=h
 refine⟨h1,h2,arr,hk _ _ h3 ?_,h4,h5⟩
 intro e
 unfold hidO at e
 have:arr=#[]:=by simpa using congrArg (fun o=>match o with | Obj.cells c _ _=>c | _=>#[]) e
 rw[this] at h4
 have:0 < cap * size:=Nat.mul_pos (by omega) hs
 simp at h4
 omega
theorem RowOf.blk (h:RowOf W b t size n cap P):∃ arr:Array Value,W.heap[b]? = some (.cells arr t (0,0)):=by
 obtain⟨_,_,arr,h3,_⟩:=h
 exact⟨arr,h3⟩
theorem RowOf.lt (h:RowOf W b t size n cap P):b < W.heap.size:=by
 obtain⟨arr,h3⟩:=h.blk
 exact lt_of_block h3
theorem RowOf.unfrozen (h:RowOf W b t size n cap P) (o:Nat):W.frozen? ⟨b,o,none⟩=false:=by
 obtain⟨arr,h3⟩:=h.blk
 simp[World.frozen?,h3]
theorem RowOf.get (h:RowOf W b t size n cap P) {i:Nat} (hi:i < n):∃ f,P i f∧∀ j v,f j=some v→W.cell? ⟨b,i * size+j,none⟩=some v:=by
 obtain⟨_,_,arr,h3,_,h5⟩:=h
 refine⟨_,h5 i hi,fun j v hv=>?_⟩
 unfold rowF at hv
 split at hv
 ·unfold World.cell?
  simp only[h3]
  exact hv
 ·simp at hv
theorem RowOf.store (h:RowOf W b t size n cap P) {i k:Nat} (hi:i < n) (hk:k < size) (v:Value):RowOf (W.setCell ⟨b,i * size+k,none⟩ v) b t size n cap (fun j f=>if j=i then ∃ g,P i g∧f=updF g k v else P j f):=by
 obtain⟨h1,h2,arr,h3,h4,h5⟩:=h
 refine⟨h1,h2,_,heap_setCell_same _ _ _ _ _ _ h3,by rw[Array.size_setIfInBounds];exact h4,fun j hj=>?_⟩
 have hlt:∀ j k,j < n→k < size→j * size+k < arr.size:=by
  intro j k hj hk
  rw[h4]
  have:(j+1) * size≤cap * size:=Nat.mul_le_mul_right _ (by omega)
  rw[Nat.add_mul,Nat.one_mul] at this
  omega
 by_cases e:j=i
 ·subst e
  simp only[if_pos]
  refine⟨_,h5 j hj,?_⟩
  funext m
  simp only[rowF,updF]
  by_cases hm:m=k
  ·subst hm
   rw[if_pos hk,if_pos rfl,Array.getElem?_setIfInBounds_self_of_lt (hlt j m hj hk)]
  ·rw[if_neg hm]
   by_cases hm2:m < size
   ·rw[if_pos hm2,if_pos hm2,Array.getElem?_setIfInBounds_ne (by omega)]
   ·rw[if_neg hm2,if_neg hm2]
 ·simp only[if_neg e]
  have:rowF (arr.setIfInBounds (i * size+k) v) size j=rowF arr size j:=by
   funext m
   simp only[rowF]
   by_cases hm2:m < size
   ·rw[if_pos hm2,if_pos hm2,Array.getElem?_setIfInBounds_ne ?_]
    intro he
    rcases Nat.lt_or_ge i j with q | q
    ·have:(i+1) * size≤j * size:=Nat.mul_le_mul_right _ q
     rw[Nat.add_mul,Nat.one_mul] at this
     omega
    ·have:(j+1) * size≤i * size:=Nat.mul_le_mul_right _ (by omega)
     rw[Nat.add_mul,Nat.one_mul] at this
     omega
   ·rw[if_neg hm2,if_neg hm2]
  rw[this]
  exact h5 j hj
theorem RowOf.store4 (h:RowOf W b t size n cap P) {i k:Nat} (hi:i < n) (hk:k+3 < size) (v0 v1 v2 v3:Value) :
  RowOf ((((W.setCell ⟨b,i * size+k,none⟩ v0).setCell ⟨b,i * size+(k+1),none⟩ v1).setCell ⟨b,i * size+(k+2),none⟩ v2).setCell ⟨b,i * size+(k+3),none⟩ v3) b t size n cap
   (fun j f=>if j=i then ∃ g,P i g∧f=updF (updF (updF (updF g k v0) (k+1) v1) (k+2) v2) (k+3) v3 else P j f):=by
 refine((((h.store hi (show k < size by omega) v0).store hi (show k+1 < size by omega) v1).store hi (show k+2 < size by omega) v2).store hi hk v3).mono fun j f _ hf=>?_
 by_cases e:j=i
 ·simp only[if_pos e] at hf⊢
  obtain⟨g3,⟨g2,⟨g1,⟨g0,hg0,rfl⟩,rfl⟩,rfl⟩,rfl⟩:=hf
  exact⟨g0,hg0,rfl⟩
 ·simp only[if_neg e] at hf⊢
  exact hf
theorem RowOf.owns {B:Nat} (h:RowOf W b t size n cap P) (hb:B≤b) (hc:cap≤maxLen):∃ xs,W.ownsRow B t size (.slice (some ⟨b,0,none⟩) n cap) n xs∧∀ i,i < n→P i (fun j=>if j < size then xs[i * size+j]? else none):=by
 obtain⟨h1,h2,arr,h3,h4,h5⟩:=h
 have hl:n * size≤cap * size:=Nat.mul_le_mul_right _ h1
 refine⟨arr.toList.take (n * size),⟨by simp;omega,Or.inr ⟨b,cap,arr,rfl,hb,h3,h1,hc,h4,rfl⟩⟩,fun i hi=>?_⟩
 have:(fun j=>if j < size then (arr.toList.take (n * size))[i * size+j]? else none)=rowF arr size i:=by
  funext j
  simp only[rowF]
  by_cases hj:j < size
  ·rw[if_pos hj,if_pos hj,List.getElem?_take,if_pos ?_,Array.getElem?_toList]
   have:(i+1) * size≤n * size:=Nat.mul_le_mul_right _ hi
   rw[Nat.add_mul,Nat.one_mul] at this
   omega
  ·rw[if_neg hj,if_neg hj]
 rw[this]
 exact h5 i hi
theorem rowOf_owns {B:Nat} {v:Value} {xs:List Value} (h:W.ownsRow B t size v n xs) (hn:0 < n):∃ b cap,v=.slice (some ⟨b,0,none⟩) n cap∧B≤b∧RowOf W b t size n cap (fun i f=>∀ j,j < size→f j=xs[i * size+j]?):=by
 obtain⟨h0,⟨rfl,rfl⟩ | ⟨g,cap,cur,rfl,hg,hh,hc,hm,hs,ht⟩⟩:=h
 ·omega
 ·refine⟨g,cap,rfl,hg,hc,hn,cur,hh,hs,fun i hi j hj=>?_⟩
  unfold rowF
  rw[if_pos hj,← ht,List.getElem?_take,if_pos ?_,Array.getElem?_toList]
  have:(i+1) * size≤n * size:=Nat.mul_le_mul_right _ hi
  rw[Nat.add_mul,Nat.one_mul] at this
  omega
end
end Go.Proofs.YtebneadheaefdaaGreatDoor
namespace Go.Proofs.YtebneadheaefdaaGreatDoor
open Go.RowKit
def newP (B:Nat) (bw br:Option Nat):Nat→Bool:=fun k=>decide (k < B) || bw == some k || br == some k
theorem newP_true {B k:Nat} {bw br:Option Nat}:newP B bw br k=true↔k < B∨bw=some k∨br=some k:=by simp[newP,or_assoc]
theorem newP_false {B k:Nat} {bw br:Option Nat}:newP B bw br k=false↔B≤k∧bw≠some k∧br≠some k:=by simp[newP,and_assoc]
theorem newP_mono {B B':Nat} {bw br:Option Nat} (h:B'≤B):∀ k,newP B' bw br k=true→newP B bw br k=true:=fun k hk=>newP_true.2 ((newP_true.1 hk).imp (fun h=>by omega) id)
def wireP (W:World) (B:Nat) (bw br:Option Nat) (kw:Nat) (l:List WireD) (i:Nat) (f:Nat→Option Value):Prop :=
 ∃ v ae ce,l[i]? = some v∧f 0=some (.string v.name)∧f 1=some (.int .i64 v.width)∧f 2=some (.int .i64 v.expr.op)∧f 3=some (.int .i64 v.expr.n)∧f 4=some (.string v.expr.name)∧f 5=some (.slice ae v.expr.args.length ce) ∧
  ExIn (World.hide W (newP (if i < kw then B else 0) bw br)) v.expr ae ce
def regP (W:World) (B:Nat) (bw br:Option Nat) (kr:Nat) (l:List RegD) (i:Nat) (f:Nat→Option Value):Prop :=
 ∃ v ae ce,l[i]? = some v∧f 0=some (.string v.name)∧f 1=some (.int .i64 v.width)∧f 2=some (.int .i64 v.init)∧f 3=some (.int .i64 v.next.op)∧f 4=some (.int .i64 v.next.n)∧f 5=some (.string v.next.name)∧f 6=some (.slice ae v.next.args.length ce) ∧
  ExIn (World.hide W (newP (if i < kr then B else 0) bw br)) v.next ae ce
def SlR (W:World) (B:Nat) (bo:Option Nat) (t:TypeId) (size n:Nat) (a:Option Addr) (cap:Nat) (P:Nat→(Nat→Option Value)→Prop):Prop :=
 n≤1048577∧n≤cap∧cap≤maxLen∧((n=0∧bo=none)∨∃ b,bo=some b∧B≤b∧a=some ⟨b,0,none⟩∧RowOf W b t size n cap P)
structure NewD (W:World) (B kw kr:Nat) (d:DesD) (x:DesA) (bw br:Option Nat):Prop where
 ne:∀ k,bw=some k→br≠some k
 ins:PortsIn (World.hide W (newP B bw br)) d.inputs x.ai x.ci
 outs:StrsIn (World.hide W (newP B bw br)) d.outputs x.ao x.co
 wires:SlR W B bw 74 6 d.wires.length x.aw x.cw (wireP W B bw br kw d.wires)
 regs:SlR W B br 76 7 d.regs.length x.ar x.cr (regP W B bw br kr d.regs)
section
variable {W W' : World} {B kw kr : Nat} {d : DesD} {x : DesA} {bw br : Option Nat}
theorem SlR.imp {bo:Option Nat} {t:TypeId} {size n:Nat} {a:Option Addr} {cap:Nat} {P Q:Nat→(Nat→Option Value)→Prop} (h:SlR W B bo t size n a cap P) (hr:∀ b,bo=some b→RowOf W b t size n cap P→RowOf W' b t size n cap Q):SlR W' B bo t size n a cap Q:=by
 obtain⟨h1,h2,h3,h4⟩:=h
 refine⟨h1,h2,h3,h4.imp id ?_⟩
 rintro ⟨b,hb,hB,ha,h⟩
 exact⟨b,hb,hB,ha,hr b hb h⟩
theorem SlR.lt {bo:Option Nat} {t:TypeId} {size n:Nat} {a:Option Addr} {cap:Nat} {P:Nat→(Nat→Option Value)→Prop} (h:SlR W B bo t size n a cap P):∀ k,bo=some k→B≤k∧k < W.heap.size:=by
 intro k hk
 rcases h.2.2.2 with h | ⟨b,hb,hB,_,h⟩
 ·rw[h.2] at hk;simp at hk
 ·rw[hk] at hb
  obtain rfl:=Option.some.inj hb
  exact⟨hB,h.lt⟩
theorem NewD.keep (h:NewD W B kw kr d x bw br) (hk:HK W W'):NewD W' B kw kr d x bw br where
 ne:=h.ne
 ins:=h.ins.keep (hk_hide hk).cell
 outs:=h.outs.mono fun _ _ _ _ ⟨v,hv,h1⟩=>⟨v,hv,(hk_hide hk).cell _ _ h1⟩
 wires:=h.wires.imp fun b _ h=>(h.keep hk (by decide)).mono fun i f _ ⟨v,ae,ce,h0,h1,h2,h3,h4,h5,h6,h7⟩=>⟨v,ae,ce,h0,h1,h2,h3,h4,h5,h6,h7.keep (hk_hide hk).cell⟩
 regs:=h.regs.imp fun b _ h=>(h.keep hk (by decide)).mono fun i f _ ⟨v,ae,ce,h0,h1,h2,h3,h4,h5,h6,h7,h8⟩=>⟨v,ae,ce,h0,h1,h2,h3,h4,h5,h6,h7,h8.keep (hk_hide hk).cell⟩
theorem NewD.mono {B':Nat} (h:NewD W B kw kr d x bw br) (hB:B'≤B):NewD W B' kw kr d x bw br:=by
 have e:∀ i k:Nat,HK (World.hide W (newP (if i < k then B else 0) bw br)) (World.hide W (newP (if i < k then B' else 0) bw br)):=by
  intro i k
  refine hk_mono (newP_mono ?_)
  by_cases q:i < k
  ·rw[if_pos q,if_pos q];exact hB
  ·rw[if_neg q,if_neg q];exact Nat.le_refl _
 refine⟨h.ne,h.ins.keep (hk_mono (newP_mono hB)).cell,h.outs.mono fun _ _ _ _ ⟨v,hv,h1⟩=>⟨v,hv,(hk_mono (newP_mono hB)).cell _ _ h1⟩,?_,?_⟩
 ·obtain⟨h1,h2,h3,h4⟩:=h.wires
  refine⟨h1,h2,h3,h4.imp id ?_⟩
  rintro ⟨b,hb,hb2,ha,h⟩
  exact⟨b,hb,by omega,ha,h.mono fun i f _ ⟨v,ae,ce,h0,h1,h2,h3,h4,h5,h6,h7⟩=>⟨v,ae,ce,h0,h1,h2,h3,h4,h5,h6,h7.keep (e i kw).cell⟩⟩
 ·obtain⟨h1,h2,h3,h4⟩:=h.regs
  refine⟨h1,h2,h3,h4.imp id ?_⟩
  rintro ⟨b,hb,hb2,ha,h⟩
  exact⟨b,hb,by omega,ha,h.mono fun i f _ ⟨v,ae,ce,h0,h1,h2,h3,h4,h5,h6,h7,h8⟩=>⟨v,ae,ce,h0,h1,h2,h3,h4,h5,h6,h7,h8.keep (e i kr).cell⟩⟩
theorem NewD.beside {q:Nat→Bool} (h:NewD W B d.wires.length d.regs.length d x bw br) (hq:∀ k,q k=true→k < B):NewD (World.hide W q) B d.wires.length d.regs.length d x bw br:=by
 have e:HK (World.hide W (newP B bw br)) (World.hide (World.hide W q) (newP B bw br)):=hk_of fun b o h1 _ h3=>⟨by
  have:q b=false:=by
   cases hb:q b with
   | false=>rfl
   | true=>have:=hq b hb;have:=(newP_false.1 h3).1;omega
  rw[hide_heap,h1,this]
  simp,h3⟩
 have r:∀ {b:Nat} {t:TypeId} {size n cap:Nat} {P:Nat→(Nat→Option Value)→Prop},B≤b→RowOf W b t size n cap P→RowOf (World.hide W q) b t size n cap P:=by
  intro b t size n cap P hb h
  obtain⟨h1,h2,arr,h3,h4,h5⟩:=h
  have:q b=false:=by
   cases hb:q b with
   | false=>rfl
   | true=>have:=hq b hb;omega
  exact⟨h1,h2,arr,by rw[hide_heap,h3,this];simp,h4,h5⟩
 refine⟨h.ne,h.ins.keep e.cell,h.outs.mono fun _ _ _ _ ⟨v,hv,h1⟩=>⟨v,hv,e.cell _ _ h1⟩,?_,?_⟩
 ·obtain⟨h1,h2,h3,h4⟩:=h.wires
  refine⟨h1,h2,h3,h4.imp id ?_⟩
  rintro ⟨b,hb,hb2,ha,h⟩
  exact⟨b,hb,hb2,ha,(r hb2 h).mono fun i f hi ⟨v,ae,ce,h0,h1,h2,h3,h4,h5,h6,h7⟩=>⟨v,ae,ce,h0,h1,h2,h3,h4,h5,h6,by rw[if_pos hi] at h7⊢;exact h7.keep e.cell⟩⟩
 ·obtain⟨h1,h2,h3,h4⟩:=h.regs
  refine⟨h1,h2,h3,h4.imp id ?_⟩
  rintro ⟨b,hb,hb2,ha,h⟩
  exact⟨b,hb,hb2,ha,(r hb2 h).mono fun i f hi ⟨v,ae,ce,h0,h1,h2,h3,h4,h5,h6,h7,h8⟩=>⟨v,ae,ce,h0,h1,h2,h3,h4,h5,h6,h7,by rw[if_pos hi] at h8⊢;exact h8.keep e.cell⟩⟩
theorem NewD.des (h:NewD W B kw kr d x bw br):DesIn W d x:=by
 refine⟨h.ins.keep (hk_unhide _ _).cell,?_,?_,h.outs.mono fun _ _ _ _ ⟨v,hv,h1⟩=>⟨v,hv,(hk_unhide _ _).cell _ _ h1⟩⟩
 ·obtain⟨h1,h2,h3,h4⟩:=h.wires
  refine⟨h2,by omega,h4.imp (fun h=>h.1) ?_⟩
  rintro ⟨b,hb,hb2,ha,h⟩
  refine⟨b,0,ha,fun i hi=>?_⟩
  obtain⟨f,⟨v,ae,ce,g0,g1,g2,g3,g4,g5,g6,g7⟩,hf⟩:=h.get hi
  rw[Nat.zero_add]
  exact⟨v,g0,hf 0 _ g1,hf 1 _ g2,(ExAt_iff _ _ _ _).2 ⟨ae,ce,hf 2 _ g3,hf 3 _ g4,hf 4 _ g5,hf 5 _ g6,g7.keep (hk_unhide _ _).cell⟩⟩
 ·obtain⟨h1,h2,h3,h4⟩:=h.regs
  refine⟨h2,by omega,h4.imp (fun h=>h.1) ?_⟩
  rintro ⟨b,hb,hb2,ha,h⟩
  refine⟨b,0,ha,fun i hi=>?_⟩
  obtain⟨f,⟨v,ae,ce,g0,g1,g2,g3,g4,g5,g6,g7,g8⟩,hf⟩:=h.get hi
  rw[Nat.zero_add]
  exact⟨v,g0,hf 0 _ g1,hf 1 _ g2,hf 2 _ g3,(ExAt_iff _ _ _ _).2 ⟨ae,ce,hf 3 _ g4,hf 4 _ g5,hf 5 _ g6,hf 6 _ g7,g8.keep (hk_unhide _ _).cell⟩⟩
theorem NewD.wblock (h:NewD W B kw kr d x bw br) (hn:0 < d.wires.length):∃ b,bw=some b∧x.aw=some ⟨b,0,none⟩∧B≤b∧b < W.heap.size∧(∀ o,W.frozen? ⟨b,o,none⟩=false)∧br≠some b:=by
 rcases h.wires.2.2.2 with q | ⟨b,hb,hb2,ha,q⟩
 ·omega
 ·exact⟨b,hb,ha,hb2,q.lt,q.unfrozen,h.ne b hb⟩
theorem NewD.rblock (h:NewD W B kw kr d x bw br) (hn:0 < d.regs.length):∃ b,br=some b∧x.ar=some ⟨b,0,none⟩∧B≤b∧b < W.heap.size∧(∀ o,W.frozen? ⟨b,o,none⟩=false)∧bw≠some b:=by
 rcases h.regs.2.2.2 with q | ⟨b,hb,hb2,ha,q⟩
 ·omega
 ·exact⟨b,hb,ha,hb2,q.lt,q.unfrozen,fun e=>h.ne b e hb⟩
theorem set_wires (d:DesD) (i:Nat) (e:Ex):(d.setWire i e).wires.length=d.wires.length:=List.length_modify _ _ _
theorem set_regs (d:DesD) (i:Nat) (e:Ex):(d.setNext i e).regs.length=d.regs.length:=List.length_modify _ _ _
theorem hk_store4 {p:Nat→Bool} {b o0 o1 o2 o3:Nat} {u0 u1 u2 u3:Value} (h:p b=true):HK (World.hide W p) (World.hide ((((W.setCell ⟨b,o0,none⟩ u0).setCell ⟨b,o1,none⟩ u1).setCell ⟨b,o2,none⟩ u2).setCell ⟨b,o3,none⟩ u3) p) :=
 (hk_store h).trans ((hk_store h).trans ((hk_store h).trans (hk_store h)))
theorem rowSetW {l:List WireD} {cap b i:Nat} (hr:RowOf W b 74 6 l.length cap (wireP W B bw br kw l)) (hP:∀ n:Nat,newP n bw br b=true) (hi:i < l.length) {e:Ex} {a:Option Addr} {c kw':Nat} (he:ExIn (World.hide W (newP (if i < kw' then B else 0) bw br)) e a c) (hkw:∀ j,j < kw'→j < kw∨j=i) (hkw2:kw≤kw') :
  RowOf ((((W.setCell ⟨b,i * 6+2,none⟩ (.int .i64 e.op)).setCell ⟨b,i * 6+3,none⟩ (.int .i64 e.n)).setCell ⟨b,i * 6+4,none⟩ (.string e.name)).setCell ⟨b,i * 6+5,none⟩ (.slice a e.args.length c)) b 74 6 l.length cap (wireP ((((W.setCell ⟨b,i * 6+2,none⟩ (.int .i64 e.op)).setCell ⟨b,i * 6+3,none⟩ (.int .i64 e.n)).setCell ⟨b,i * 6+4,none⟩ (.string e.name)).setCell ⟨b,i * 6+5,none⟩ (.slice a e.args.length c)) B bw br kw' (l.modify i fun w=>{ w with expr:=e })):=by
 have k:∀ n,HK (World.hide W (newP n bw br)) (World.hide ((((W.setCell ⟨b,i * 6+2,none⟩ (.int .i64 e.op)).setCell ⟨b,i * 6+3,none⟩ (.int .i64 e.n)).setCell ⟨b,i * 6+4,none⟩ (.string e.name)).setCell ⟨b,i * 6+5,none⟩ (.slice a e.args.length c)) (newP n bw br)):=fun n=>hk_store4 (hP n)
 refine(hr.store4 (k:=2) hi (by omega) (.int .i64 e.op) (.int .i64 e.n) (.string e.name) (.slice a e.args.length c)).mono fun j f hj hf=>?_
 by_cases ej:j=i
 ·subst ej
  rw[if_pos rfl] at hf
  obtain⟨g,⟨v,ae,ce,g0,g1,g2,g3,g4,g5,g6,g7⟩,rfl⟩:=hf
  refine⟨{ v with expr:=e },a,c,?_,?_,?_,?_,?_,?_,?_,he.keep (k _).cell⟩
  ·rw[List.getElem?_modify_eq,g0]
   rfl
  ·simpa [updF] using g1
  ·simpa [updF] using g2
  ·simp[updF]
  ·simp[updF]
  ·simp[updF]
  ·simp[updF]
 ·rw[if_neg ej] at hf
  obtain⟨v,ae,ce,g0,g1,g2,g3,g4,g5,g6,g7⟩:=hf
  refine⟨v,ae,ce,?_,g1,g2,g3,g4,g5,g6,?_⟩
  ·simp only[List.getElem?_modify,if_neg (Ne.symm ej),g0]
   rfl
  ·have e1:(j < kw')↔(j < kw):=⟨fun q=>(hkw j q).resolve_right ej,fun q=>by omega⟩
   rw[show (if j < kw' then B else 0)=(if j < kw then B else 0) from by simp only[e1]]
   exact g7.keep (k _).cell
theorem rowSetR {l:List RegD} {cap b i:Nat} (hr:RowOf W b 76 7 l.length cap (regP W B bw br kr l)) (hP:∀ n:Nat,newP n bw br b=true) (hi:i < l.length) {e:Ex} {a:Option Addr} {c kr':Nat} (he:ExIn (World.hide W (newP (if i < kr' then B else 0) bw br)) e a c) (hkr:∀ j,j < kr'→j < kr∨j=i) (hkr2:kr≤kr') :
  RowOf ((((W.setCell ⟨b,i * 7+3,none⟩ (.int .i64 e.op)).setCell ⟨b,i * 7+4,none⟩ (.int .i64 e.n)).setCell ⟨b,i * 7+5,none⟩ (.string e.name)).setCell ⟨b,i * 7+6,none⟩ (.slice a e.args.length c)) b 76 7 l.length cap (regP ((((W.setCell ⟨b,i * 7+3,none⟩ (.int .i64 e.op)).setCell ⟨b,i * 7+4,none⟩ (.int .i64 e.n)).setCell ⟨b,i * 7+5,none⟩ (.string e.name)).setCell ⟨b,i * 7+6,none⟩ (.slice a e.args.length c)) B bw br kr' (l.modify i fun w=>{ w with next:=e })):=by
 have k:∀ n,HK (World.hide W (newP n bw br)) (World.hide ((((W.setCell ⟨b,i * 7+3,none⟩ (.int .i64 e.op)).setCell ⟨b,i * 7+4,none⟩ (.int .i64 e.n)).setCell ⟨b,i * 7+5,none⟩ (.string e.name)).setCell ⟨b,i * 7+6,none⟩ (.slice a e.args.length c)) (newP n bw br)):=fun n=>hk_store4 (hP n)
 refine(hr.store4 (k:=3) hi (by omega) (.int .i64 e.op) (.int .i64 e.n) (.string e.name) (.slice a e.args.length c)).mono fun j f hj hf=>?_
 by_cases ej:j=i
 ·subst ej
  rw[if_pos rfl] at hf
  obtain⟨g,⟨v,ae,ce,g0,g1,g2,g3,g4,g5,g6,g7,g8⟩,rfl⟩:=hf
  refine⟨{ v with next:=e },a,c,?_,?_,?_,?_,?_,?_,?_,?_,he.keep (k _).cell⟩
  ·rw[List.getElem?_modify_eq,g0]
   rfl
  ·simpa [updF] using g1
  ·simpa [updF] using g2
  ·simpa [updF] using g3
  ·simp[updF]
  ·simp[updF]
  ·simp[updF]
  ·simp[updF]
 ·rw[if_neg ej] at hf
  obtain⟨v,ae,ce,g0,g1,g2,g3,g4,g5,g6,g7,g8⟩:=hf
  refine⟨v,ae,ce,?_,g1,g2,g3,g4,g5,g6,g7,?_⟩
  ·simp only[List.getElem?_modify,if_neg (Ne.symm ej),g0]
   rfl
  ·have e1:(j < kr')↔(j < kr):=⟨fun q=>(hkr j q).resolve_right ej,fun q=>by omega⟩
   rw[show (if j < kr' then B else 0)=(if j < kr then B else 0) from by simp only[e1]]
   exact g8.keep (k _).cell
theorem RowOf.other4 {b b' o0 o1 o2 o3:Nat} {u0 u1 u2 u3:Value} {t:TypeId} {size n cap:Nat} {P:Nat→(Nat→Option Value)→Prop} (h:RowOf W b' t size n cap P) (hne:b'≠b):RowOf ((((W.setCell ⟨b,o0,none⟩ u0).setCell ⟨b,o1,none⟩ u1).setCell ⟨b,o2,none⟩ u2).setCell ⟨b,o3,none⟩ u3) b' t size n cap P:=by
 obtain⟨h1,h2,arr,h3,h4,h5⟩:=h
 refine⟨h1,h2,arr,?_,h4,h5⟩
 rw[Below.heap_setCell _ _ _ _ hne,Below.heap_setCell _ _ _ _ hne,Below.heap_setCell _ _ _ _ hne,Below.heap_setCell _ _ _ _ hne]
 exact h3
theorem NewD.setW {b i:Nat} (h:NewD W B kw kr d x bw br) (hb:bw=some b) (hi:i < d.wires.length) {e:Ex} {a:Option Addr} {c kw':Nat} (he:ExIn (World.hide W (newP (if i < kw' then B else 0) bw br)) e a c) (hkw:∀ j,j < kw'→j < kw∨j=i) (hkw2:kw≤kw') :
  NewD ((((W.setCell ⟨b,i * 6+2,none⟩ (.int .i64 e.op)).setCell ⟨b,i * 6+3,none⟩ (.int .i64 e.n)).setCell ⟨b,i * 6+4,none⟩ (.string e.name)).setCell ⟨b,i * 6+5,none⟩ (.slice a e.args.length c)) B kw' kr (d.setWire i e) x bw br:=by
 have hP:∀ n:Nat,newP n bw br b=true:=fun n=>newP_true.2 (Or.inr (Or.inl hb))
 have k:∀ n,HK (World.hide W (newP n bw br)) (World.hide ((((W.setCell ⟨b,i * 6+2,none⟩ (.int .i64 e.op)).setCell ⟨b,i * 6+3,none⟩ (.int .i64 e.n)).setCell ⟨b,i * 6+4,none⟩ (.string e.name)).setCell ⟨b,i * 6+5,none⟩ (.slice a e.args.length c)) (newP n bw br)):=fun n=>hk_store4 (hP n)
 refine⟨h.ne,h.ins.keep (k B).cell,h.outs.mono fun _ _ _ _ ⟨v,hv,h1⟩=>⟨v,hv,(k B).cell _ _ h1⟩,?_,?_⟩
 ·rw[set_wires]
  refine h.wires.imp fun b' hb' hr=>?_
  rw[hb] at hb'
  obtain rfl:=Option.some.inj hb'
  exact rowSetW hr hP hi he hkw hkw2
 ·exact h.regs.imp fun b' hb' hr=>(hr.other4 (fun e=>h.ne b hb (by rw[hb',e]))).mono fun i f _ ⟨v,ae,ce,g0,g1,g2,g3,g4,g5,g6,g7,g8⟩=>⟨v,ae,ce,g0,g1,g2,g3,g4,g5,g6,g7,g8.keep (k _).cell⟩
theorem NewD.setR {b i:Nat} (h:NewD W B kw kr d x bw br) (hb:br=some b) (hi:i < d.regs.length) {e:Ex} {a:Option Addr} {c kr':Nat} (he:ExIn (World.hide W (newP (if i < kr' then B else 0) bw br)) e a c) (hkr:∀ j,j < kr'→j < kr∨j=i) (hkr2:kr≤kr') :
  NewD ((((W.setCell ⟨b,i * 7+3,none⟩ (.int .i64 e.op)).setCell ⟨b,i * 7+4,none⟩ (.int .i64 e.n)).setCell ⟨b,i * 7+5,none⟩ (.string e.name)).setCell ⟨b,i * 7+6,none⟩ (.slice a e.args.length c)) B kw kr' (d.setNext i e) x bw br:=by
 have hP:∀ n:Nat,newP n bw br b=true:=fun n=>newP_true.2 (Or.inr (Or.inr hb))
 have k:∀ n,HK (World.hide W (newP n bw br)) (World.hide ((((W.setCell ⟨b,i * 7+3,none⟩ (.int .i64 e.op)).setCell ⟨b,i * 7+4,none⟩ (.int .i64 e.n)).setCell ⟨b,i * 7+5,none⟩ (.string e.name)).setCell ⟨b,i * 7+6,none⟩ (.slice a e.args.length c)) (newP n bw br)):=fun n=>hk_store4 (hP n)
 refine⟨h.ne,h.ins.keep (k B).cell,h.outs.mono fun _ _ _ _ ⟨v,hv,h1⟩=>⟨v,hv,(k B).cell _ _ h1⟩,?_,?_⟩
 ·exact h.wires.imp fun b' hb' hr=>(hr.other4 (fun e=>h.ne b' hb' (by rw[hb,e]))).mono fun i f _ ⟨v,ae,ce,g0,g1,g2,g3,g4,g5,g6,g7⟩=>⟨v,ae,ce,g0,g1,g2,g3,g4,g5,g6,g7.keep (k _).cell⟩
 ·rw[set_regs]
  refine h.regs.imp fun b' hb' hr=>?_
  rw[hb] at hb'
  obtain rfl:=Option.some.inj hb'
  exact rowSetR hr hP hi he hkr hkr2
theorem NewD.setI {b i:Nat} (h:NewD W B kw kr d x bw br) (hb:br=some b) (hi:i < d.regs.length) (m:Int) :
  NewD (W.setCell ⟨b,i * 7+2,none⟩ (.int .i64 m)) B kw kr { d with regs:=d.regs.modify i fun r=>{ r with init:=m } } x bw br:=by
 have hP:∀ n:Nat,newP n bw br b=true:=fun n=>newP_true.2 (Or.inr (Or.inr hb))
 have k:∀ n,HK (World.hide W (newP n bw br)) (World.hide (W.setCell ⟨b,i * 7+2,none⟩ (.int .i64 m)) (newP n bw br)):=fun n=>hk_store (hP n)
 refine⟨h.ne,h.ins.keep (k B).cell,h.outs.mono fun _ _ _ _ ⟨v,hv,h1⟩=>⟨v,hv,(k B).cell _ _ h1⟩,?_,?_⟩
 ·refine h.wires.imp fun b' hb' hr=>?_
  have hne:b'≠b:=fun e=>h.ne b' hb' (by rw[hb,e])
  obtain⟨h1,h2,arr,h3,h4,h5⟩:=hr
  refine RowOf.mono (P:=wireP W B bw br kw d.wires) ⟨h1,h2,arr,?_,h4,h5⟩ fun i f _ ⟨v,ae,ce,g0,g1,g2,g3,g4,g5,g6,g7⟩=>⟨v,ae,ce,g0,g1,g2,g3,g4,g5,g6,g7.keep (k _).cell⟩
  rw[Below.heap_setCell _ _ _ _ hne]
  exact h3
 ·show SlR _ B br _ 7 (d.regs.modify i _).length x.ar x.cr _
  rw[List.length_modify]
  refine h.regs.imp fun b' hb' hr=>?_
  rw[hb] at hb'
  obtain rfl:=Option.some.inj hb'
  refine(hr.store (k:=2) hi (by omega) (.int .i64 m)).mono fun j f hj hf=>?_
  by_cases ej:j=i
  ·subst ej
   rw[if_pos rfl] at hf
   obtain⟨g,⟨v,ae,ce,g0,g1,g2,g3,g4,g5,g6,g7,g8⟩,rfl⟩:=hf
   refine⟨{ v with init:=m },ae,ce,?_,?_,?_,?_,?_,?_,?_,?_,g8.keep (k _).cell⟩
   ·show (d.regs.modify j _)[j]? = _
    rw[List.getElem?_modify_eq,g0]
    rfl
   ·simpa [updF] using g1
   ·simpa [updF] using g2
   ·simp[updF]
   ·simpa [updF] using g4
   ·simpa [updF] using g5
   ·simpa [updF] using g6
   ·simpa [updF] using g7
  ·rw[if_neg ej] at hf
   obtain⟨v,ae,ce,g0,g1,g2,g3,g4,g5,g6,g7,g8⟩:=hf
   refine⟨v,ae,ce,?_,g1,g2,g3,g4,g5,g6,g7,g8.keep (k _).cell⟩
   show (d.regs.modify i _)[j]? = _
   simp only[List.getElem?_modify,if_neg (Ne.symm ej),g0]
   rfl
end
abbrev NewA (W:World) (B:Nat) (d:DesD) (x:DesA) (bw br:Option Nat):Prop:=NewD W B d.wires.length d.regs.length d x bw br
end Go.Proofs.YtebneadheaefdaaGreatDoor
namespace Go.Proofs.YtebneadheaefdaaGreatDoor
open Go.RowKit
def ownP (v:Value):Nat→Bool:=fun k=>v.ownBlock == some k
theorem ownP_true {v:Value} {k:Nat}:ownP v k=true↔v.ownBlock=some k:=by simp[ownP]
structure OwnR {α:Type} (w:World) (B:Nat) (t:TypeId) (size:Nat) (cells:α→List Value) (P:World→α→Prop) (v:Value) (L:List α):Prop where
 own:w.ownsRow B t size v L.length (L.flatMap cells)
 mem:∀ x∈L,P (World.hide w (ownP v)) x
section
variable {α : Type} {w w' : World} {B : Nat} {t : TypeId} {size : Nat} {cells : α → List Value} {P : World → α → Prop} {v : Value} {L : List α}
theorem OwnR.nil (w:World) (B:Nat) (t:TypeId) (size:Nat) (cells:α→List Value) (P:World→α→Prop):OwnR w B t size cells P (.slice none 0 0) []:=⟨World.ownsRow_nil _ _ _ _,fun _ h=>by cases h⟩
theorem OwnR.grown (h:OwnR w B t size cells P v L) (hP:∀ H H' x,HK H H'→P H x→P H' x) {row:Option Nat} (hg:w.grownBy w' row) (hr:∀ k,row=some k→w.heap.size≤k):OwnR w' B t size cells P v L :=
 ⟨h.own.kept hg (by
  cases hv:v.ownBlock with
  | none=>exact Or.inl rfl
  | some k=>exact Or.inr (fun e=>by have:=(h.own.lt k hv).2;have:=hr k e.symm;omega)),fun x hx=>hP _ _ _ (hk_of fun b o h1 _ h3=>⟨(hg.block b (lt_of_block h1) (fun e=>by have:=hr b e.symm;have:=lt_of_block h1;omega)).trans h1,h3⟩) (h.mem x hx)⟩
theorem OwnR.below (h:OwnR w B t size cells P v L) (hP:∀ H H' x,HK H H'→P H x→P H' x) (hb:Below w.heap.size w w'):OwnR w' B t size cells P v L :=
 h.grown hP (row:=none) ⟨hb.os,hb.tape,hb.output,hb.size,fun k hk _=>hb.block k hk⟩ (by simp)
theorem OwnR.imp {Q:World→α→Prop} {B':Nat} (h:OwnR w B t size cells P v L) (hB:B'≤B) (hPQ:∀ x∈L,P (World.hide w (ownP v)) x→Q (World.hide w (ownP v)) x):OwnR w B' t size cells Q v L:=by
 refine⟨⟨h.own.1,h.own.2.imp id ?_⟩,fun x hx=>hPQ x hx (h.mem x hx)⟩
 rintro ⟨g,cap,cur,h1,h2,h3⟩
 exact⟨g,cap,cur,h1,by omega,h3⟩
theorem OwnR.add (h:OwnR w B t size cells P v L) (hP:∀ H H' x,HK H H'→P H x→P H' x) {g cap:Nat} {x:α} (hx:P (World.hide w (ownP v)) x)
  (hg:w.grownBy w' v.ownBlock) (hn:v.ownBlock=some g∨w.heap.size≤g) (ho:w'.ownsRow B t size (.slice (some ⟨g,0,none⟩) (L.length+1) cap) (L.length+1) (L.flatMap cells++cells x)) :
  OwnR w' B t size cells P (.slice (some ⟨g,0,none⟩) (L.length+1) cap) (L++[x]):=by
 have hk:HK (World.hide w (ownP v)) (World.hide w' (ownP (.slice (some ⟨g,0,none⟩) (L.length+1) cap))) :=
  hk_grown hg (fun k hk=>ownP_true.2 hk) fun k hk hq=>by
   have e:=Option.some.inj (ownP_true.1 hq)
   simp only at e
   subst e
   rcases hn with e | e
   ·exact ownP_true.2 e
   ·omega
 refine⟨by rw[List.length_append,List.length_singleton,List.flatMap_append];simpa using ho,fun y hy=>?_⟩
 rcases List.mem_append.1 hy with hy | hy
 ·exact hP _ _ _ hk (h.mem y hy)
 ·obtain rfl:=List.mem_singleton.1 hy
  exact hP _ _ _ hk hx
theorem flat_get {cells:α→List Value} {size:Nat} (hl:∀ x,(cells x).length=size) {j:Nat} (hj:j < size):∀ (l:List α) (i:Nat) (hi:i < l.length),(l.flatMap cells)[i * size+j]? = (cells (l[i]'hi))[j]?:=by
 intro l
 induction l with
 | nil=>intro i hi;simp at hi
 | cons x l ih =>
  intro i hi
  rw[List.flatMap_cons]
  have:=hl x
  cases i with
  | zero=>rw[List.getElem?_append_left (by omega)];simp
  | succ i =>
   rw[List.getElem?_append_right (by rw[Nat.add_mul,Nat.one_mul];omega),show (i+1) * size+j - (cells x).length=i * size+j by rw[Nat.add_mul,Nat.one_mul];omega,ih i (by simp at hi;omega)]
   simp
theorem OwnR.slice (h:OwnR w B t size cells P v L) (hn:L.length≤1073741824):∃ a cap,v=.slice a L.length cap∧L.length≤cap∧(∀ k,v.ownBlock=some k→B≤k∧k < w.heap.size)∧(L.length=0∨∃ b,a=some ⟨b,0,none⟩∧B≤b∧v.ownBlock=some b):=by
 refine(slice_of_own h.own hn).imp fun a=>Exists.imp fun cap=>?_
 rintro ⟨rfl,hs⟩
 refine⟨rfl,hs.1,h.own.lt,?_⟩
 rcases h.own.2 with ⟨h1,h2⟩ | ⟨g,cap,cur,h1,h2,_⟩
 ·exact Or.inl h2
 ·simp only[Value.slice.injEq] at h1
  obtain⟨rfl,_,rfl⟩:=h1
  exact Or.inr ⟨g,rfl,h2,rfl⟩
theorem OwnR.cellsAt (h:OwnR w B t size cells P v L) (hl:∀ x,(cells x).length=size) {b n cap:Nat} (hv:v=.slice (some ⟨b,0,none⟩) n cap) {i:Nat} (hi:i < L.length) {j:Nat} (hj:j < size):w.cell? ⟨b,i * size+j,none⟩=(cells (L[i]'hi))[j]?:=by
 have h1:=flat_get hl hj L i hi
 have h2:(cells (L[i]'hi))[j]? = some ((cells (L[i]'hi))[j]'(by rw[hl];exact hj)):=List.getElem?_eq_getElem _
 rw[h2] at h1⊢
 have:=h.own.cells (g:=b) (by rw[hv];rfl) _ _ h1
 have hadd:(⟨b,0,none⟩:Addr).add (i * size+j)=⟨b,i * size+j,none⟩:=by unfold Addr.add;split<;>simp_all
 rwa [hadd] at this
end
end Go.Proofs.YtebneadheaefdaaGreatDoor
namespace Go.Proofs.YtebneadheaefdaaGreatDoor
open Go.RowKit
section
variable {W w0 : World} {B : Nat} {bw br : Option Nat}
abbrev sameP (w0:World) (b off size:Nat) (i:Nat) (f:Nat→Option Value):Prop:=∀ j,j < size→f j=w0.cell? ⟨b,off+i * size+j,none⟩
abbrev sameK (w0:World) (b off size:Nat) (i:Nat) (f:Nat→Option Value):Prop:=∀ j u,j < size→w0.cell? ⟨b,off+i * size+j,none⟩=some u→f j=some u
theorem wires_same {l:List WireD} {a0:Option Addr} {c0 b off b' cap:Nat} (h0:WiresIn w0 l a0 c0) (ha:a0=some ⟨b,off,none⟩) (hk:∀ a v,w0.cell? a=some v→(World.hide W (newP 0 bw br)).cell? a=some v) (h:RowOf W b' 74 6 l.length cap (sameK w0 b off 6)) :
  RowOf W b' 74 6 l.length cap (wireP W B bw br 0 l):=by
 refine h.mono fun i f hi hf=>?_
 obtain⟨ae,ce,g1,g2,g3,g4,g5,g6,g7⟩:=h0.get ha hi
 exact⟨_,ae,ce,List.getElem?_eq_getElem hi,hf 0 _ (by omega) g1,hf 1 _ (by omega) g2,hf 2 _ (by omega) g3,hf 3 _ (by omega) g4,hf 4 _ (by omega) g5,hf 5 _ (by omega) g6,by rw[if_neg (Nat.not_lt_zero i)];exact g7.keep hk⟩
theorem regs_same {l:List RegD} {a0:Option Addr} {c0 b off b' cap:Nat} (h0:RegsIn w0 l a0 c0) (ha:a0=some ⟨b,off,none⟩) (hk:∀ a v,w0.cell? a=some v→(World.hide W (newP 0 bw br)).cell? a=some v) (h:RowOf W b' 76 7 l.length cap (sameK w0 b off 7)) :
  RowOf W b' 76 7 l.length cap (regP W B bw br 0 l):=by
 refine h.mono fun i f hi hf=>?_
 obtain⟨ae,ce,g1,g2,g3,g4,g5,g6,g7,g8⟩:=h0.get ha hi
 exact⟨_,ae,ce,List.getElem?_eq_getElem hi,hf 0 _ (by omega) g1,hf 1 _ (by omega) g2,hf 2 _ (by omega) g3,hf 3 _ (by omega) g4,hf 4 _ (by omega) g5,hf 5 _ (by omega) g6,hf 6 _ (by omega) g7,by rw[if_neg (Nat.not_lt_zero i)];exact g8.keep hk⟩
theorem RowOf.hid {b:Nat} {t:TypeId} {size n cap:Nat} {P:Nat→(Nat→Option Value)→Prop} {p:Nat→Bool} (h:RowOf W b t size n cap P) (hp:p b=false):RowOf (World.hide W p) b t size n cap P:=by
 obtain⟨h1,h2,arr,h3,h4,h5⟩:=h
 exact⟨h1,h2,arr,by rw[hide_heap,h3,hp];simp,h4,h5⟩
theorem ports_same {l:List PortD} {a0:Option Addr} {c0 b off b' cap:Nat} (h0:PortsIn w0 l a0 c0) (ha:a0=some ⟨b,off,none⟩) (h:RowOf W b' 104 2 l.length cap (sameK w0 b off 2)):PortsIn W l (some ⟨b',0,none⟩) cap:=by
 refine⟨h.le,h0.2.1,Or.inr ⟨b',0,rfl,fun i hi=>?_⟩⟩
 obtain⟨f,hs,hf⟩:=h.get hi
 obtain⟨g1,g2⟩:=h0.get ha hi
 rw[Nat.zero_add]
 exact⟨_,List.getElem?_eq_getElem hi,hf 0 _ (hs 0 _ (by omega) g1),hf 1 _ (hs 1 _ (by omega) g2)⟩
theorem strs_same {l:List ByteArray} {a0:Option Addr} {c0 b off b' cap:Nat} (h0:StrsIn w0 l a0 c0) (ha:a0=some ⟨b,off,none⟩) (h:RowOf W b' 9 1 l.length cap (sameK w0 b off 1)):StrsIn W l (some ⟨b',0,none⟩) cap:=by
 refine⟨h.le,h0.2.1,Or.inr ⟨b',0,rfl,fun i hi=>?_⟩⟩
 obtain⟨f,hs,hf⟩:=h.get hi
 rcases h0.2.2 with q | ⟨b2,o2,h2,hq⟩
 ·omega
 ·rw[ha] at h2
  simp only[Option.some.injEq,Addr.mk.injEq,and_true] at h2
  obtain⟨rfl,rfl⟩:=h2
  obtain⟨v,hv,g1⟩:=hq i hi
  rw[Nat.zero_add]
  exact⟨v,hv,hf 0 _ (hs 0 _ (by omega) g1)⟩
theorem exs_same {l:List Ex} {a0:Option Addr} {c0 b off b' cap:Nat} {q:Nat→Bool} (h0:ExsIn w0 l a0 c0) (ha:a0=some ⟨b,off,none⟩) (hk:∀ a v,w0.cell? a=some v→(World.hide W q).cell? a=some v) (h:RowOf W b' 72 4 l.length cap (sameK w0 b off 4)) :
  RowOf W b' 72 4 l.length cap (fun i f=>∃ v ae ce,l[i]? = some v∧f 0=some (.int .i64 v.op)∧f 1=some (.int .i64 v.n)∧f 2=some (.string v.name)∧f 3=some (.slice ae v.args.length ce)∧ExIn (World.hide W q) v ae ce):=by
 refine h.mono fun i f hi hf=>?_
 obtain⟨ae,ce,g1,g2,g3,g4,g5⟩:=h0.get ha hi
 exact⟨_,ae,ce,List.getElem?_eq_getElem hi,hf 0 _ (by omega) g1,hf 1 _ (by omega) g2,hf 2 _ (by omega) g3,hf 3 _ (by omega) g4,g5.keep hk⟩
abbrev exP (W:World) (q:Nat→Bool) (l:List Ex) (i:Nat) (f:Nat→Option Value):Prop:=∃ v ae ce,l[i]? = some v∧f 0=some (.int .i64 v.op)∧f 1=some (.int .i64 v.n)∧f 2=some (.string v.name)∧f 3=some (.slice ae v.args.length ce)∧ExIn (World.hide W q) v ae ce
theorem rowSetE {l:List Ex} {cap b i:Nat} {q:Nat→Bool} (hq:q b=true) (hr:RowOf W b 72 4 l.length cap (exP W q l)) (hi:i < l.length) {e:Ex} {a:Option Addr} {c:Nat} (he:ExIn (World.hide W q) e a c) :
  RowOf ((((W.setCell ⟨b,i * 4+0,none⟩ (.int .i64 e.op)).setCell ⟨b,i * 4+1,none⟩ (.int .i64 e.n)).setCell ⟨b,i * 4+2,none⟩ (.string e.name)).setCell ⟨b,i * 4+3,none⟩ (.slice a e.args.length c)) b 72 4 l.length cap
   (exP ((((W.setCell ⟨b,i * 4+0,none⟩ (.int .i64 e.op)).setCell ⟨b,i * 4+1,none⟩ (.int .i64 e.n)).setCell ⟨b,i * 4+2,none⟩ (.string e.name)).setCell ⟨b,i * 4+3,none⟩ (.slice a e.args.length c)) q (l.set i e)):=by
 have k:HK (World.hide W q) (World.hide ((((W.setCell ⟨b,i * 4+0,none⟩ (.int .i64 e.op)).setCell ⟨b,i * 4+1,none⟩ (.int .i64 e.n)).setCell ⟨b,i * 4+2,none⟩ (.string e.name)).setCell ⟨b,i * 4+3,none⟩ (.slice a e.args.length c)) q):=hk_store4 hq
 refine(hr.store4 (k:=0) hi (by omega) (.int .i64 e.op) (.int .i64 e.n) (.string e.name) (.slice a e.args.length c)).mono fun j f hj hf=>?_
 by_cases ej:j=i
 ·subst ej
  rw[if_pos rfl] at hf
  obtain⟨g,⟨v,ae,ce,g0,g1,g2,g3,g4,g5⟩,rfl⟩:=hf
  refine⟨e,a,c,?_,?_,?_,?_,?_,he.keep k.cell⟩
  ·rw[List.getElem?_set_self hi]
  ·simp[updF]
  ·simp[updF]
  ·simp[updF]
  ·simp[updF]
 ·rw[if_neg ej] at hf
  obtain⟨v,ae,ce,g0,g1,g2,g3,g4,g5⟩:=hf
  exact⟨v,ae,ce,by rw[List.getElem?_set_ne (Ne.symm ej)];exact g0,g1,g2,g3,g4,g5.keep k.cell⟩
theorem rowE_in {l:List Ex} {cap b:Nat} {p q:Nat→Bool} (hr:RowOf W b 72 4 l.length cap (exP W q l)) (hp:p b=false) (hl:l.length≤1073741824)
  (hk:∀ a v,(World.hide W q).cell? a=some v→(World.hide W p).cell? a=some v):ExsIn (World.hide W p) l (some ⟨b,0,none⟩) cap:=by
 refine⟨hr.le,hl,Or.inr ⟨b,0,rfl,fun i hi=>?_⟩⟩
 obtain⟨f,⟨v,ae,ce,g0,g1,g2,g3,g4,g5⟩,hf⟩:=(hr.hid hp).get hi
 rw[Nat.zero_add]
 exact⟨v,g0,(ExAt_iff _ _ _ _).2 ⟨ae,ce,hf 0 _ g1,hf 1 _ g2,hf 2 _ g3,hf 3 _ g4,g5.keep hk⟩⟩
theorem cells_row {size n:Nat} {a:Option Addr} {cap:Nat} {Q:Nat→Nat→Nat→Prop} (h:SliceIn size n a cap Q) (hs:0 < size) (hQ:∀ i b o,i < n→Q i b o→∀ j,j < size→∃ u,w0.cell? ⟨b,o+j,none⟩=some u∧u.oneCell'=true) :
  n=0∨∃ (b off:Nat) (xs:List Value),a=some ⟨b,off,none⟩∧xs.length=n * size∧(∀ u∈xs,u.oneCell'=true)∧∀ k,k < n * size→xs[k]? = w0.cell? ⟨b,off+k,none⟩:=by
 refine h.2.2.imp id ?_
 rintro ⟨b,off,ha,hq⟩
 have key:∀ k,k < n * size→∃ u,w0.cell? ⟨b,off+k,none⟩=some u∧u.oneCell'=true:=by
  intro k hk
  have h1:k / size < n:=Nat.div_lt_of_lt_mul (by rw[Nat.mul_comm];exact hk)
  have h2:=hQ _ _ _ h1 (hq _ h1) (k % size) (Nat.mod_lt _ hs)
  have h3:off+k / size * size+k % size=off+k:=by
   have:=Nat.div_add_mod k size
   rw[Nat.mul_comm] at this
   omega
  rwa [h3] at h2
 refine⟨b,off,(List.range (n * size)).map fun k=>(w0.cell? ⟨b,off+k,none⟩).getD (.bool false),ha,by simp,?_,?_⟩
 ·intro u hu
  obtain⟨k,hk,rfl⟩:=List.mem_map.1 hu
  obtain⟨u,h1,h2⟩:=key k (List.mem_range.1 hk)
  rw[h1]
  exact h2
 ·intro k hk
  obtain⟨u,h1,h2⟩:=key k hk
  rw[List.getElem?_map,List.getElem?_range hk,h1]
  simp[h1]
end
end Go.Proofs.YtebneadheaefdaaGreatDoor
