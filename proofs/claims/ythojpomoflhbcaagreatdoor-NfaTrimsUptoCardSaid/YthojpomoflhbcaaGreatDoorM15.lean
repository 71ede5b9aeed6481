/- nfa.builder: what stays while it works. -/
import Derived.Test.YthojpomoflhbcaaGreatDoorM14
import Derived.Test.YthojpomoflhbcaaGreatDoorM00
import Derived.Maps.OwnOps
import Derived.Maps.OwnSet
import Derived.Lib.SlKeysI
import Derived.WideKeyPair
import Derived.DeepKeys4
import Derived.Deep.RegionLawGrows
set_option linter.unusedSimpArgs false
set_option linter.unusedVariables false
set_option linter.unnecessarySimpa false
namespace Go.Proofs.YthojpomoflhbcaaGreatDoor
open Go.RowKit
structure BG (k:Nat) (W:World) (v0 a0:Value) (wr:World) (v a:Value):Prop where
 size:W.heap.size≤wr.heap.size
 block:∀ j,j < W.heap.size→j≠k→v0.ownBlock≠some j→a0.ownBlock≠some j→wr.heap[j]? = W.heap[j]?
 vrow:v.ownBlock=v0.ownBlock∨∀ g,v.ownBlock=some g→W.heap.size≤g
 arow:a.ownBlock=a0.ownBlock∨∀ g,a.ownBlock=some g→W.heap.size≤g
section
variable {k : Nat} {W wr wr' : World} {v0 a0 v a v' a' : Value}
theorem BG.refl (k:Nat) (W:World) (v a:Value):BG k W v a W v a:=⟨Nat.le_refl _,fun _ _ _ _ _=>rfl,Or.inl rfl,Or.inl rfl⟩
theorem BG.vne (h:BG k W v0 a0 wr v a) {j:Nat} (hj:j < W.heap.size) (hv:v0.ownBlock≠some j):v.ownBlock≠some j:=fun e=>by
 rcases h.vrow with e2 | e2
 ·rw[e2] at e;exact hv e
 ·have:=e2 j e;omega
theorem BG.ane (h:BG k W v0 a0 wr v a) {j:Nat} (hj:j < W.heap.size) (hv:a0.ownBlock≠some j):a.ownBlock≠some j:=fun e=>by
 rcases h.arow with e2 | e2
 ·rw[e2] at e;exact hv e
 ·have:=e2 j e;omega
theorem BG.step (h:BG k W v0 a0 wr v a) (hs:BStep k wr v wr' v'):BG k W v0 a0 wr' v' a:=by
 refine⟨Nat.le_trans h.size hs.size,fun j hj hk h1 h2=>?_,?_,h.arow⟩
 ·exact(hs.block j (Nat.lt_of_lt_of_le hj h.size) hk (h.vne hj h1)).trans (h.block j hj hk h1 h2)
 ·rcases hs.row with e | e
  ·rw[e];exact h.vrow
  ·exact Or.inr fun g hg=>Nat.le_trans h.size (e g hg)
theorem BG.below (h:BG k W v0 a0 wr v a) (hb:Below wr.heap.size wr wr'):BG k W v0 a0 wr' v a:=h.step (BStep.below v hb)
theorem BG.acc (h:BG k W v0 a0 wr v a) (hg:wr.grownBy wr' a.ownBlock) (hat:a'.ownBlock=a.ownBlock∨∃ g,a'.ownBlock=some g∧wr.heap.size≤g) (u:Value) (o:Nat):BG k W v0 a0 (wr'.setCell ⟨k,o,none⟩ u) v a':=by
 refine⟨by rw[World.size_setCell];exact Nat.le_trans h.size hg.size,fun j hj hk h1 h2=>?_,h.vrow,?_⟩
 ·exact(Below.heap_setCell _ _ _ _ (fun e=>hk (by simpa using e))).trans ((hg.block j (Nat.lt_of_lt_of_le hj h.size) fun e=>h.ane hj h2 e.symm).trans (h.block j hj hk h1 h2))
 ·rcases hat with e | ⟨g,e,hgs⟩
  ·rw[e];exact h.arow
  ·exact Or.inr fun g' hg'=>by rw[e] at hg';have:=Option.some.inj hg';have:=h.size;omega
theorem BG.kp {q:Nat→Bool} (h:BG k W v0 a wr v a) (hk:q k=true):Kp (World.hide W (hid (hid q a) v0)) (World.hide wr (hid (hid q a) v)):=by
 intro ad u ha
 obtain⟨h1,h2⟩:=cell_hide.1 ha
 have hlt:=lt_cell h2
 have hn:∀ j,hid (hid q a) v0 j=true→ad.block≠j:=fun j hj e=>by rw[e,hj] at h1;simp at h1
 have hvn:v0.ownBlock≠some ad.block:=fun e=>hn _ (hid_true.2 (Or.inr e)) rfl
 have han:a.ownBlock≠some ad.block:=fun e=>hn _ (hid_true.2 (Or.inl (hid_true.2 (Or.inr e)))) rfl
 refine cell_hide.2 ⟨?_,by rw[World.cell?_of_block (h.block _ hlt (hn _ (hid_true.2 (Or.inl (hid_true.2 (Or.inl hk))))) hvn han)];exact h2⟩
 cases e:hid (hid q a) v ad.block with
 | false=>rfl
 | true =>
  rcases hid_true.1 e with e2 | e2
  ·exact absurd rfl (hn _ (hid_true.2 (Or.inl e2)))
  ·exact absurd e2 (h.vne hlt hvn)
theorem BF.then (h:BF k W v0 a0 wr) (g:BG k wr v0 a0 wr' v a):BF k W v a wr':=by
 refine⟨Nat.le_trans h.size g.size,fun j hj hk=>?_,fun j hj=>?_,fun j hj=>?_⟩
 ·exact(g.block j (Nat.lt_of_lt_of_le hj h.size) hk (fun e=>by have:=h.vlt j e;omega) fun e=>by have:=h.alt j e;omega).trans (h.block j hj hk)
 ·rcases g.vrow with e | e
  ·exact h.vlt j (by rw[← e];exact hj)
  ·exact Nat.le_trans h.size (e j hj)
 ·rcases g.arow with e | e
  ·exact h.alt j (by rw[← e];exact hj)
  ·exact Nat.le_trans h.size (e j hj)
theorem BG.trans {wr2:World} {v2 a2:Value} (h:BG k W v0 a0 wr v a) (g:BG k wr v a wr2 v2 a2):BG k W v0 a0 wr2 v2 a2:=by
 refine⟨Nat.le_trans h.size g.size,fun j hj hk h1 h2=>?_,?_,?_⟩
 ·exact(g.block j (Nat.lt_of_lt_of_le hj h.size) hk (h.vne hj h1) (h.ane hj h2)).trans (h.block j hj hk h1 h2)
 ·rcases g.vrow with e | e
  ·rw[e];exact h.vrow
  ·exact Or.inr fun j hj=>Nat.le_trans h.size (e j hj)
 ·rcases g.arow with e | e
  ·rw[e];exact h.arow
  ·exact Or.inr fun j hj=>Nat.le_trans h.size (e j hj)
end
end Go.Proofs.YthojpomoflhbcaaGreatDoor
namespace Go.Proofs.YthojpomoflhbcaaGreatDoor
open Go.RowKit Go.WideMaps
def heldR (v:Value):Option (DataW Value × List MemPlace):=some (.held v,[])
def MapV (w:World) (P:Program) (k:TypeId) (b m:Nat) (f:Lit→Option Value):Prop :=
 ∃ D:DataW Value,w.ownsMap P k heldR b m D∧Maps.Tidy D∧Maps.size D=m∧∀ kl,Maps.has D kl=(f kl).isSome∧∀ v,f kl=some v→∀ z,D.atKey kl z=.held v
noncomputable def putL (f:Lit→Option Value) (kl:Lit) (v:Option Value):Lit→Option Value:=fun x=>@ite _ (x=kl) (Classical.propDecidable _) v (f x)
theorem putL_same (f:Lit→Option Value) (kl:Lit) (v:Option Value):putL f kl v kl=v:=by unfold putL;exact if_pos rfl
theorem putL_other {f:Lit→Option Value} {kl x:Lit} (v:Option Value) (h:x≠kl):putL f kl v x=f x:=by unfold putL;exact if_neg h
theorem ownsMap_tight {H:Type} {w:World} {P:Program} {k:TypeId} {R:Value→Option (DataW H × List MemPlace)} {b n:Nat} {D:DataW H} (h:w.ownsMap P k R b n D):w.ownsMap P k R b (Maps.size D) D:=by
 obtain⟨es,clock,hb,F,_,rfl⟩:=h
 exact⟨es,clock,hb,F,by simp[Maps.size,length_sorted],rfl⟩
section
variable {w : World} {P : Program} {k : TypeId} {b m : Nat} {f : Lit → Option Value}
theorem MapV.made (w:World) (P:Program) (k:TypeId):MapV (w.alloc (.map #[] 0)) P k w.heap.size 0 (fun _=>none) :=
 ⟨.map [],World.ownsMap_made w _ _ _,Maps.tidy_empty,rfl,fun kl=>⟨rfl,fun v h=>by cases h⟩⟩
theorem MapV.lt (h:MapV w P k b m f):b < w.heap.size:=by
 obtain⟨D,h1,_⟩:=h
 exact h1.lt
theorem MapV.kept {w':World} {row:Option Nat} (h:MapV w P k b m f) (hg:w.grownBy w' row) (hne:some b≠row):MapV w' P k b m f:=by
 obtain⟨D,h1,r⟩:=h
 exact⟨D,h1.kept hg hne,r⟩
theorem MapV.alloc (h:MapV w P k b m f) (o:Obj):MapV (w.alloc o) P k b m f:=h.kept (World.grownBy_alloc w o none) (by simp)
theorem MapV.setCell (h:MapV w P k b m f) {a:Addr} (ha:b≠a.block) (u:Value):MapV (w.setCell a u) P k b m f:=by
 obtain⟨D,h1,r⟩:=h
 exact⟨D,h1.setCell ha u,r⟩
theorem MapV.block {w':World} (h:MapV w P k b m f) (hb:w'.heap[b]? = w.heap[b]?):MapV w' P k b m f:=by
 obtain⟨D,⟨es,clock,g1,g2⟩,r⟩:=h
 exact⟨D,⟨es,clock,hb.trans g1,g2⟩,r⟩
theorem MapV.below {w':World} (h:MapV w P k b m f) (hb:Below w.heap.size w w'):MapV w' P k b m f:=h.block (hb.block _ h.lt)
theorem MapV.belowB {w':World} {B:Nat} (h:MapV w P k b m f) (hb:Below B w w') (hB:b < B):MapV w' P k b m f:=h.block (hb.block _ hB)
theorem MapV.cells {w':World} (h:MapV w P k b m f) (hg:w.grownBy w' (some b)):∀ a v,w.cell? a=some v→w'.cell? a=some v:=by
 intro a v hc
 obtain⟨D,⟨es,clock,g1,_⟩,_⟩:=h
 have hlt:=World.block_lt_of_cell? _ _ hc
 have hne:a.block≠b:=fun e=>by
  subst e
  unfold World.cell? at hc
  rw[g1] at hc
  simp at hc
 have hh:=hg.block a.block hlt (fun e=>hne (by injection e))
 unfold World.cell? at hc⊢
 rw[hh]
 exact hc
theorem MapV.congr {g:Lit→Option Value} (h:MapV w P k b m f) (hfg:∀ x,f x=g x):MapV w P k b m g:=by
 have:f=g:=funext hfg
 rw[← this];exact h
theorem MapV.put {w':World} {D:DataW Value} {kl:Lit} {v:Value} (hk:WideAt.IsKeyLit kl) (ht:Maps.Tidy D) (hf:∀ kl,Maps.has D kl=(f kl).isSome∧∀ v,f kl=some v→∀ z,D.atKey kl z=.held v) {n:Nat} (h:w'.ownsMap P k heldR b n (D.put kl (.held v))) :
  MapV w' P k b (Maps.size D+if (f kl).isSome then 0 else 1) (putL f kl (some v)):=by
 have hs:=Maps.size_put (k:=kl) ht (.held v)
 rw[(hf kl).1] at hs
 have hs':Maps.size (D.put kl (.held v))=Maps.size D+if (f kl).isSome then 0 else 1:=by rw[hs];split<;>simp
 refine⟨_,?_,ht.put hk _,hs',fun x=>?_⟩
 ·rw[← hs'];exact ownsMap_tight h
 ·by_cases hx:x=kl
  ·subst hx
   rw[putL_same]
   refine⟨Maps.has_put_same ht.isMap hk _,fun u hu z=>?_⟩
   obtain rfl:=Option.some.inj hu
   exact Maps.atKey_put_same ht.isMap hk _ _
  ·rw[putL_other _ hx]
   refine⟨(Maps.has_put_other hx _).trans (hf x).1,fun u hu z=>?_⟩
   rw[Maps.atKey_put_other hx]
   exact(hf x).2 u hu z
theorem heldR_inv {v:Value} {d:DataW Value} {ps:List MemPlace} (h:heldR v=some (d,ps)):d=.held v:=by
 unfold heldR at h
 injection h with h
 injection h with h _
 exact h.symm
end
section
variable {P : Program} {w : World} {ops : Array Oper} {rest : List Oper} {o : Oper} {a : Act} {Q : Exit → Act → World → Prop} {k : TypeId} {b n : Nat} {f : Lit → Option Value}
theorem wp_mapV_put (w:World) (hg:o.guard=none) (m x v:Operand) (t e:TypeId) (hop:o.op=Op.mapUpdate t m x v) (K:Maps.Keyed P k) (ht:P.underlying t=some (.map k e)) (hm:a.eval m=.map (some b)) (hown:MapV w P k b n f) (hn:n < 1000000000)
  (key val:Value) (kl:Lit) (hx:a.eval x=key) (hv:a.eval v=val) (hkey:keyOf P k key=some kl) (hk:WideAt.IsKeyLit kl)
  (hK:∀ w',MapV w' P k b (n+if (f kl).isSome then 0 else 1) (putL f kl (some val))→w.grownBy w' (some b)→wpList P ops Q rest (a.put o.dst undef) w'):wpList P ops Q (o::rest) a w:=by
 obtain⟨D,h1,h2,h3,h4⟩:=hown
 refine wpList_mapUpdate_own w hg m x v t hop k e K ht heldR b n D hm h1 (by unfold maxLen;omega) key val kl hx hv hkey (.held val) [] rfl ?_
 intro w' h5 h6
 have:=MapV.put hk h2 h4 h5
 rw[h3] at this
 exact hK w' this h6
theorem mapV_ok_run (hown:MapV w P k b n f) {t e:TypeId} (K:Maps.Keyed P k) (ht:P.underlying t=some (.map k e)) {z:Value} (hz:(zeroValue e).run P w=.ok z w) {key:Value} {kl:Lit} (hkey:keyOf P k key=some kl) :
  (Instr.lookup t (.map (some b)) key true).run P w=.ok (.tuple #[(f kl).getD z,.bool (f kl).isSome]) w:=by
 obtain⟨D,h1,h2,h3,h4⟩:=hown
 obtain⟨u,ps,hrun,hR⟩:=h1.look_ok K ht hz (zd:=.held z) (zp:=[]) rfl hkey
 have hu:=heldR_inv hR
 rw[(h4 kl).1] at hrun
 cases hf:f kl with
 | none =>
  have hh:=(h4 kl).1
  rw[hf] at hh hrun
  rw[Maps.atKey_of_not_has (by simpa using hh)] at hu
  injection hu with hu
  subst hu
  simpa using hrun
 | some v =>
  rw[(h4 kl).2 v hf] at hu
  injection hu with hu
  subst hu
  rw[hf] at hrun
  simpa using hrun
theorem wp_mapV_some (w:World) (hg:o.guard=none) (m x:Operand) (t e:TypeId) (hop:o.op=Op.lookup t m x true) (K:Maps.Keyed P k) (ht:P.underlying t=some (.map k e)) {z:Value} (hz:(zeroValue e).run P w=.ok z w) (hm:a.eval m=.map (some b)) (hown:MapV w P k b n f)
  (key:Value) (kl:Lit) (hx:a.eval x=key) (hkey:keyOf P k key=some kl) (v:Value) (hf:f kl=some v)
  (hK:wpList P ops Q rest (a.put o.dst (.tuple #[v,.bool true])) w):wpList P ops Q (o::rest) a w:=by
 have hrun:=mapV_ok_run hown K ht hz hkey
 rw[hf] at hrun
 refine wpList_plain hg fun K' hK'=>?_
 unfold Oper.wp
 simp[execOp,hop,hm,hx,hrun,Result.andThen]
 exact hK' _ _ hK
theorem wp_mapV_none (w:World) (hg:o.guard=none) (m x:Operand) (t e:TypeId) (hop:o.op=Op.lookup t m x true) (K:Maps.Keyed P k) (ht:P.underlying t=some (.map k e)) {z:Value} (hz:(zeroValue e).run P w=.ok z w) (hm:a.eval m=.map (some b)) (hown:MapV w P k b n f)
  (key:Value) (kl:Lit) (hx:a.eval x=key) (hkey:keyOf P k key=some kl) (hf:f kl=none)
  (hK:wpList P ops Q rest (a.put o.dst (.tuple #[z,.bool false])) w):wpList P ops Q (o::rest) a w:=by
 have hrun:=mapV_ok_run hown K ht hz hkey
 rw[hf] at hrun
 refine wpList_plain hg fun K' hK'=>?_
 unfold Oper.wp
 simp[execOp,hop,hm,hx,hrun,Result.andThen]
 exact hK' _ _ hK
theorem wp_mapV_len (w:World) (hg:o.guard=none) (m:Operand) (t k e:TypeId) (hop:o.op=Op.call { callee:=Callee.builtin Builtin.len,args:=#[m],argTypes:=#[t] }) (ht:P.underlying t=some (.map k e)) (hm:a.eval m=.map (some b)) (hown:MapV w P k b n f)
  (hK:wpList P ops Q rest (a.put o.dst (.int .i64 n)) w):wpList P ops Q (o::rest) a w:=by
 obtain⟨D,h1,h2,h3,h4⟩:=hown
 refine wpList_len_own w hg m t hop k e ht heldR b n D hm h1 ?_
 rw[h3]
 exact hK
end
end Go.Proofs.YthojpomoflhbcaaGreatDoor
namespace Go.Proofs.YthojpomoflhbcaaGreatDoor
open Go.RowKit Go.WideMaps
def prR (_:World) (p:Int × Int) (vs:List Value):Prop:=vs=[.int .i64 p.1,.int .i64 p.2]
def prE:Enc (Int × Int) where
 sz:=2
 R:=prR
 pos:=by decide
 len:=by rintro _ _ _ rfl;rfl
 keep:=by rintro _ _ _ _ _ h;exact h
 one:=by rintro _ _ _ rfl v hv;simp at hv;rcases hv with rfl | rfl<;>rfl
theorem elemPR:Elem Tryz.prog 108 109 2:=Elem.of Tryz.underlying108 (by kernel_rfl) (z:=.agg #[.int .i64 0,.int .i64 0]) (bytes:=16) rfl (by decide) (by decide)
theorem prR_w {w w':World} {l:List (Int × Int)} {xs:List Value} (h:prE.Vals w l xs):prE.Vals w' l xs:=⟨h.1,fun i hi=>by obtain⟨vs,h1,h2⟩:=h.2 i hi;exact⟨vs,h1,h2⟩⟩
theorem prOwn_iff {p:Nat→Bool} {w:World} {B:Nat} {v:Value} {l:List (Int × Int)}:prE.Own 109 p w B v l↔∃ xs,w.ownsRow B 109 2 v l.length xs∧prE.Vals w l xs :=
 ⟨fun ⟨xs,h1,h2⟩=>⟨xs,h1,prR_w h2⟩,fun ⟨xs,h1,h2⟩=>⟨xs,h1,prR_w h2⟩⟩
def prV (p:Int × Int):Value:=.agg #[.int .i64 p.1,.int .i64 p.2]
def prL (p:Int × Int):Lit:=.string (keyBytes [.int .i64 p.1,.int .i64 p.2])
def SmP (p:Int × Int):Prop:=(-1≤p.1∧p.1≤100000)∧-1≤p.2∧p.2≤100000
theorem arrPR:ArrKey Tryz.prog 109 3 2:=⟨Tryz.underlying109,by kernel_rfl,by kernel_rfl,by kernel_rfl⟩
theorem laidPR:laidOutB Tryz.prog=true:=by kernel_rfl
theorem rowPR:(109:TypeId) < Tryz.prog.types.size:=of_decide_eq_true (by kernel_rfl)
theorem typPR : Tryz.prog.keyTypeAt 2 109=true:=by kernel_rfl
theorem keyed_pr:Maps.Keyed Tryz.prog 109:=Maps.Keyed.of_law (deep_law_laid laidPR (m:=2) (by omega) rowPR typPR (by rw[Tryz.underlying109]))
theorem szPR:∃ m, Tryz.prog.types.size=m+1:=⟨Tryz.prog.types.size - 1,by have:0 < Tryz.prog.types.size:=of_decide_eq_true (by kernel_rfl);omega⟩
theorem key_pr {p:Int × Int} (h:SmP p):keyOf Tryz.prog 109 (prV p)=some (prL p):=by
 obtain⟨⟨h1,h2⟩,h3,h4⟩:=h
 exact keyOf_pair arrPR Tryz.underlying3 szPR (WalkArith.wf_i64 (by omega)) (WalkArith.wf_i64 (by omega))
theorem prL_inj {p q:Int × Int} (hp:SmP p) (hq:SmP q) (h:prL p=prL q):p=q:=by
 have h1:=key_pr hp
 have h2:=key_pr hq
 rw[← h] at h2
 have:=keyed_pr.inj h1 h2
 unfold prV at this
 obtain⟨a,b⟩:=p
 obtain⟨c,d⟩:=q
 simp only[Value.agg.injEq] at this
 have h3:=congrArg Array.toList this
 simp only[List.cons.injEq,Value.int.injEq,true_and,and_true] at h3
 rw[h3.1,h3.2]
def MapJ (w:World) (b:Nat) (ps:List (Int × Int)):Prop :=
 ∃ (m:Nat) (f:Lit→Option Value),MapV w Tryz.prog 109 b m f∧m≤ps.length∧∀ p,SmP p→f (prL p)=if ps.contains p then some (.int .i64 (ps.idxOf p:Nat)) else none
section
variable {w w' : World} {b : Nat} {ps : List (Int × Int)}
theorem MapJ.lt (h:MapJ w b ps):b < w.heap.size:=by obtain⟨m,f,h1,_⟩:=h;exact h1.lt
theorem MapJ.block (h:MapJ w b ps) (hb:w'.heap[b]? = w.heap[b]?):MapJ w' b ps:=by
 obtain⟨m,f,h1,h2⟩:=h
 exact⟨m,f,h1.block hb,h2⟩
theorem contains_snoc {p q:Int × Int}:(ps++[q]).contains p=(ps.contains p || p == q):=by rw[Bool.eq_iff_iff];simp
theorem MapJ.put {m:Nat} {f:Lit→Option Value} {q:Int × Int} {n:Nat} (h2:m≤ps.length) (h3:∀ p,SmP p→f (prL p)=if ps.contains p then some (.int .i64 (ps.idxOf p:Nat)) else none) (hq:SmP q) (hn:ps.contains q=false) (hnl:n=ps.length) (h:MapV w' Tryz.prog 109 b (m+if (f (prL q)).isSome then 0 else 1) (putL f (prL q) (some (.int .i64 n)))):MapJ w' b (ps++[q]):=by
 subst hnl
 refine⟨_,_,h,?_,fun p hp=>?_⟩
 ·rw[List.length_append,List.length_singleton];split<;>omega
 ·have hni:q∉ps:=fun e=>by rw[List.contains_iff_mem.2 e] at hn;cases hn
  rw[contains_snoc]
  by_cases e:p=q
  ·subst e
   rw[putL_same,beq_self_eq_true,Bool.or_true,if_pos rfl,List.idxOf_append,if_neg hni]
   simp
  ·rw[putL_other _ (fun e2=>e (prL_inj hp hq e2)),h3 p hp,beq_eq_false_iff_ne.2 e,Bool.or_false]
   by_cases hc:ps.contains p=true
   ·rw[if_pos hc,if_pos hc,List.idxOf_append,if_pos (List.contains_iff_mem.1 hc)]
   ·rw[if_neg hc,if_neg hc]
end
end Go.Proofs.YthojpomoflhbcaaGreatDoor
namespace Go.Proofs.YthojpomoflhbcaaGreatDoor
open Go.RowKit
structure JB where
 k:Nat
 m:Nat
 r:Nat
 b:Nat
 h:Nat
def qj (p:Nat→Bool) (Q:JB):Nat→Bool:=fun j=>p j || j == Q.k || j == Q.m || j == Q.r || j == Q.b || j == Q.h
theorem qj_true {p:Nat→Bool} {Q:JB} {j:Nat}:qj p Q j=true↔p j=true∨j=Q.k∨j=Q.m∨j=Q.r∨j=Q.b∨j=Q.h:=by
 simp only[qj,Bool.or_eq_true,beq_iff_eq,or_assoc]
structure JnS (p:Nat→Bool) (Q:JB) (w0 w:World) (j:Joint) (ve vp:Value):Prop where
 e:BldE (hid (qj p Q) vp) Q.k w0 w 0 j.edges ve (.slice none 0 0)
 pr:prE.Own 109 (qj p Q) w w0.heap.size vp j.pairs
 bm:w.heap[Q.m]? = some (.cells #[.map (some Q.h)] 227 (0,0))
 br:w.heap[Q.r]? = some (.cells #[vp] 108 (0,0))
 bb:w.heap[Q.b]? = some (.cells #[.pointer (some ⟨Q.k,0,none⟩)] 132 (0,0))
 mp:MapJ w Q.h j.pairs
 ir:w0.heap.size≤Q.r
 ih:w0.heap.size≤Q.h
structure JG (Q:JB) (W:World) (v0 p0:Value) (wr:World) (v pv:Value):Prop where
 size:W.heap.size≤wr.heap.size
 block:∀ j,j < W.heap.size→j≠Q.k→j≠Q.r→j≠Q.h→v0.ownBlock≠some j→p0.ownBlock≠some j→wr.heap[j]? = W.heap[j]?
 vrow:v.ownBlock=v0.ownBlock∨∀ g,v.ownBlock=some g→W.heap.size≤g
 prow:pv.ownBlock=p0.ownBlock∨∀ g,pv.ownBlock=some g→W.heap.size≤g
section
variable {p : Nat → Bool} {Q : JB} {w0 w w' W wr wr' : World} {j j' : Joint} {ve ve' vp vp' v0 p0 v pv v' pv' : Value}
theorem JG.refl (Q:JB) (W:World) (v p:Value):JG Q W v p W v p:=⟨Nat.le_refl _,fun _ _ _ _ _ _ _=>rfl,Or.inl rfl,Or.inl rfl⟩
theorem JG.vne (h:JG Q W v0 p0 wr v pv) {i:Nat} (hi:i < W.heap.size) (hv:v0.ownBlock≠some i):v.ownBlock≠some i:=fun e=>by
 rcases h.vrow with e2 | e2
 ·rw[e2] at e;exact hv e
 ·have:=e2 i e;omega
theorem JG.pne (h:JG Q W v0 p0 wr v pv) {i:Nat} (hi:i < W.heap.size) (hv:p0.ownBlock≠some i):pv.ownBlock≠some i:=fun e=>by
 rcases h.prow with e2 | e2
 ·rw[e2] at e;exact hv e
 ·have:=e2 i e;omega
theorem JG.trans (h:JG Q W v0 p0 wr v pv) (g:JG Q wr v pv wr' v' pv'):JG Q W v0 p0 wr' v' pv':=by
 refine⟨Nat.le_trans h.size g.size,fun i hi h1 h2 h3 h4 h5=>(g.block i (Nat.lt_of_lt_of_le hi h.size) h1 h2 h3 (h.vne hi h4) (h.pne hi h5)).trans (h.block i hi h1 h2 h3 h4 h5),?_,?_⟩
 ·rcases g.vrow with e | e
  ·rw[e];exact h.vrow
  ·exact Or.inr fun i hi=>Nat.le_trans h.size (e i hi)
 ·rcases g.prow with e | e
  ·rw[e];exact h.prow
  ·exact Or.inr fun i hi=>Nat.le_trans h.size (e i hi)
theorem JG.ofBelow (Q:JB) (v p:Value) (hb:Below W.heap.size W wr):JG Q W v p wr v p:=⟨hb.size,fun i hi _ _ _ _ _=>hb.block i hi,Or.inl rfl,Or.inl rfl⟩
theorem JG.below (h:JG Q W v0 p0 wr v pv) (hb:Below wr.heap.size wr wr'):JG Q W v0 p0 wr' v pv:=h.trans (JG.ofBelow Q v pv hb)
theorem JG.kp (h:JG Q W v0 p0 wr v pv):Kp (World.hide W (hid (hid (qj p Q) p0) v0)) (World.hide wr (hid (hid (qj p Q) pv) v)):=by
 intro ad u ha
 obtain⟨h1,h2⟩:=cell_hide.1 ha
 have hlt:=lt_cell h2
 have hn:∀ i,hid (hid (qj p Q) p0) v0 i=true→ad.block≠i:=fun i hi e=>by rw[e,hi] at h1;simp at h1
 have hq:∀ i,qj p Q i=true→ad.block≠i:=fun i hi=>hn i (hid_true.2 (Or.inl (hid_true.2 (Or.inl hi))))
 have hvn:v0.ownBlock≠some ad.block:=fun e=>hn _ (hid_true.2 (Or.inr e)) rfl
 have hpn:p0.ownBlock≠some ad.block:=fun e=>hn _ (hid_true.2 (Or.inl (hid_true.2 (Or.inr e)))) rfl
 refine cell_hide.2 ⟨?_,by rw[World.cell?_of_block (h.block _ hlt (hq _ (qj_true.2 (Or.inr (Or.inl rfl)))) (hq _ (qj_true.2 (Or.inr (Or.inr (Or.inr (Or.inl rfl)))))) (hq _ (qj_true.2 (Or.inr (Or.inr (Or.inr (Or.inr (Or.inr rfl))))))) hvn hpn)];exact h2⟩
 cases e:hid (hid (qj p Q) pv) v ad.block with
 | false=>rfl
 | true =>
  rcases hid_true.1 e with e2 | e2
  ·rcases hid_true.1 e2 with e3 | e3
   ·exact absurd rfl (hq _ e3)
   ·exact absurd e3 (h.pne hlt hpn)
  ·exact absurd e2 (h.vne hlt hvn)
theorem MapJ.obj {b:Nat} {ps:List (Int × Int)} (h:MapJ w b ps):∃ es c,w.heap[b]? = some (.map es c):=by
 obtain⟨m,f,⟨D,⟨es,clock,hb,_⟩,_⟩,_⟩:=h
 exact⟨es,clock,hb⟩
theorem row_nemap {B:Nat} {t:TypeId} {z n:Nat} {v:Value} {xs:List Value} {b:Nat} {ps:List (Int × Int)} (h:w.ownsRow B t z v n xs) (hm:MapJ w b ps):v.ownBlock≠some b:=by
 obtain⟨es,c,hb⟩:=hm.obj
 rcases h.2 with ⟨rfl,_⟩ | ⟨g,cap,cur,rfl,_,hg,_⟩
 ·simp[Value.ownBlock]
 ·intro e
  have:=Option.some.inj e
  simp only at this
  subst this
  rw[hb] at hg;cases hg
theorem blk_nemap {b k:Nat} {cs:Array Value} {t:TypeId} {z:Nat × Nat} {ps:List (Int × Int)} (hm:MapJ w b ps) (hk:w.heap[k]? = some (.cells cs t z)):k≠b:=by
 rintro rfl
 obtain⟨es,c,hb⟩:=hm.obj
 rw[hb] at hk;cases hk
theorem blk_ne {a b:Nat} {cs ds:Array Value} {s t:TypeId} {y z:Nat × Nat} (ha:w.heap[a]? = some (.cells cs s y)) (hb:w.heap[b]? = some (.cells ds t z)) (h:s≠t):a≠b:=by
 rintro rfl
 rw[hb] at ha
 simp only[Option.some.injEq,Obj.cells.injEq] at ha
 exact h ha.2.1.symm
theorem JnS.vne (h:JnS p Q w0 w j ve vp) {a:Nat} {cs:Array Value} {t:TypeId} {z:Nat × Nat} (ha:w.heap[a]? = some (.cells cs t z)) (ht:t≠69):ve.ownBlock≠some a:=fun e=>by
 obtain⟨xs,h1,_⟩:=h.e.es
 exact ownsRow_ne h1 ha ht e.symm
theorem JnS.pne (h:JnS p Q w0 w j ve vp) {a:Nat} {cs:Array Value} {t:TypeId} {z:Nat × Nat} (ha:w.heap[a]? = some (.cells cs t z)) (ht:t≠109):vp.ownBlock≠some a:=fun e=>by
 obtain⟨xs,h1,_⟩:=h.pr
 exact ownsRow_ne h1 ha ht e.symm
theorem JnS.vnm (h:JnS p Q w0 w j ve vp):ve.ownBlock≠some Q.h:=by
 obtain⟨xs,h1,_⟩:=h.e.es
 exact row_nemap h1 h.mp
theorem JnS.pnm (h:JnS p Q w0 w j ve vp):vp.ownBlock≠some Q.h:=by
 obtain⟨xs,h1,_⟩:=h.pr
 exact row_nemap h1 h.mp
theorem JnS.plt (h:JnS p Q w0 w j ve vp):∀ i,vp.ownBlock=some i→w0.heap.size≤i∧i < w.heap.size:=own_vlt h.pr
theorem JnS.vp_ne (h:JnS p Q w0 w j ve vp):∀ i,ve.ownBlock=some i→vp.ownBlock≠some i:=by
 intro i hi e
 obtain⟨xs,h1,_⟩:=h.e.es
 obtain⟨ys,h2,_⟩:=h.pr
 rcases h2.2 with ⟨rfl,_⟩ | ⟨g,cap,cur,rfl,hb,hg,_⟩
 ·simp[Value.ownBlock] at e
 ·exact ownsRow_ne h1 hg (by decide) (by rw[hi];exact e)
theorem JnS.step {E':List EdgeD} (h:JnS p Q w0 w j ve vp) (he:BldE (hid (qj p Q) vp) Q.k w0 w' 0 E' ve' (.slice none 0 0)) (hs:BStep Q.k w ve w' ve'):JnS p Q w0 w' ⟨j.pairs,E'⟩ ve' vp:=by
 have hk:=h.e.blk
 have b1:=blk_ne h.bm hk (by decide)
 have b2:=blk_ne h.br hk (by decide)
 have b3:=blk_ne h.bb hk (by decide)
 have b4:=blk_nemap h.mp hk
 refine⟨he,?_,?_,?_,?_,?_,h.ir,h.ih⟩
 ·obtain⟨xs,h1,h2⟩:=prOwn_iff.1 h.pr
  obtain⟨ys,h3,_⟩:=h.e.es
  exact prOwn_iff.2 ⟨xs,hs.own h1 h3 hk (by decide) (by decide),prR_w h2⟩
 ·rw[hs.block Q.m (lt_of_block h.bm) b1 (h.vne h.bm (by decide))];exact h.bm
 ·rw[hs.block Q.r (lt_of_block h.br) b2 (h.vne h.br (by decide))];exact h.br
 ·rw[hs.block Q.b (lt_of_block h.bb) b3 (h.vne h.bb (by decide))];exact h.bb
 ·exact h.mp.block (hs.block Q.h h.mp.lt (Ne.symm b4) h.vnm)
theorem JnS.below (h:JnS p Q w0 w j ve vp) (hb:Below w.heap.size w w'):JnS p Q w0 w' j ve vp:=h.step (h.e.below hb) (BStep.below ve hb)
theorem JnS.push {PS PS':List (Int × Int)} {ES:List EdgeD} {wm wg:World} (h:JnS p Q w0 w ⟨PS,ES⟩ ve vp) (hg1:w.grownBy wm (some Q.h)) (hm:MapJ wm Q.h PS') (ho:prE.Own 109 (qj p Q) wg w0.heap.size vp' PS') (hg2:wm.grownBy wg vp.ownBlock)
  (hat:vp'.ownBlock=vp.ownBlock∨∃ g,vp'.ownBlock=some g∧wm.heap.size≤g):JnS p Q w0 (wg.setCell ⟨Q.r,0,none⟩ vp') ⟨PS',ES⟩ ve vp'∧JG Q w ve vp (wg.setCell ⟨Q.r,0,none⟩ vp') ve vp':=by
 have hs:∀ i,i < w.heap.size→i≠Q.r→i≠Q.h→vp.ownBlock≠some i→(wg.setCell ⟨Q.r,0,none⟩ vp').heap[i]? = w.heap[i]?:=fun i hi h1 h2 h3 =>
  (Below.heap_setCell _ _ _ _ (fun e=>h1 (by simpa using e))).trans ((hg2.block i (Nat.lt_of_lt_of_le hi hg1.size) (Ne.symm h3)).trans (hg1.block i hi (fun e=>h2 (Option.some.inj e))))
 have hG:JG Q w ve vp (wg.setCell ⟨Q.r,0,none⟩ vp') ve vp':=by
  refine⟨by rw[World.size_setCell];exact Nat.le_trans hg1.size hg2.size,fun i hi _ h2 h3 _ h5=>hs i hi h2 h3 h5,Or.inl rfl,hat.imp id ?_⟩
  rintro ⟨g,e,hg⟩ i hi
  rw[e] at hi
  have:=Option.some.inj hi
  have:=hg1.size
  omega
 have hk:=h.e.blk
 have b1:=blk_ne h.bm h.br (by decide)
 have b2:=blk_ne h.br hk (by decide)
 have b3:=blk_ne h.bb h.br (by decide)
 have n1:=blk_nemap h.mp h.bm
 have n2:=blk_nemap h.mp h.br
 have n3:=blk_nemap h.mp h.bb
 have n4:=blk_nemap h.mp hk
 have hrw:wg.heap[Q.r]? = some (.cells #[vp] 108 (0,0)):=((hg2.block Q.r (Nat.lt_of_lt_of_le (lt_of_block h.br) hg1.size) (Ne.symm (h.pne h.br (by decide)))).trans (hg1.block Q.r (lt_of_block h.br) (fun e=>n2 (Option.some.inj e)))).trans h.br
 have hrn:some Q.r≠vp'.ownBlock:=by
  obtain⟨xs,h1,_⟩:=ho
  exact ownsRow_ne h1 hrw (by decide)
 refine⟨⟨⟨h.e.kB,?_,?_,?_,?_⟩,?_,?_,?_,?_,?_,h.ir,h.ih⟩,hG⟩
 ·exact hid_true.2 (Or.inl (qj_true.2 (Or.inr (Or.inl rfl))))
 ·rw[hs Q.k (lt_of_block hk) (Ne.symm b2) n4 (h.pne hk (by decide))];exact hk
 ·obtain⟨xs,h1,h2⟩:=h.e.es
  refine⟨xs,⟨h1.1,h1.2.imp id ?_⟩,h2.keep hG.kp⟩
  rintro ⟨g,cap,cur,q1,q2,q3,q4⟩
  have e1:ve.ownBlock=some g:=by rw[q1];rfl
  refine⟨g,cap,cur,q1,q2,?_,q4⟩
  rw[hs g (lt_of_block q3) (fun e=>h.vne h.br (by decide) (by rw[← e];exact e1)) (fun e=>h.vnm (by rw[← e];exact e1)) (h.vp_ne g e1)]
  exact q3
 ·have hsz:=h.e.bel.size
  refine Below.setCell ?_ h.ir _
  refine Below.grown (Below.grown h.e.bel hg1 hsz fun i hi=>?_) hg2 (Nat.le_trans hsz hg1.size) fun i hi=>(h.plt i hi).1
  have:=Option.some.inj hi
  have:=h.ih
  omega
 ·obtain⟨xs,h1,h2⟩:=prOwn_iff.1 ho
  exact prOwn_iff.2 ⟨xs,ownsRow_setCell_other h1 (fun e=>hrn e.symm) _,prR_w h2⟩
 ·rw[hs Q.m (lt_of_block h.bm) b1 n1 (h.pne h.bm (by decide))];exact h.bm
 ·exact heap_setCell_same _ Q.r 0 _ _ vp' hrw
 ·rw[hs Q.b (lt_of_block h.bb) b3 n3 (h.pne h.bb (by decide))];exact h.bb
 ·exact hm.block ((Below.heap_setCell _ _ _ _ (fun e=>n2 (by simpa using e.symm))).trans (hg2.block Q.h hm.lt (Ne.symm h.pnm)))
end
end Go.Proofs.YthojpomoflhbcaaGreatDoor
namespace Go.Proofs.YthojpomoflhbcaaGreatDoor
open Go.RowKit
attribute [local go_sem ↓] Go.wp_at_zero Go.wp_at_succ
end Go.Proofs.YthojpomoflhbcaaGreatDoor
