/- nfa.builder: hold. -/
import Derived.Test.YtnfkbliokjjggaaGreatDoorH15
import Derived.Test.YtnfkbliokjjggaaGreatDoorH16
import Derived.Deep.RegionHeld3
import Derived.Deep.CutRange
import Derived.Test.YtnfkbliokjjggaaGreatDoorHSh
import Derived.Test.YtnfkbliokjjggaaGreatDoorH00
import Derived.Maps.OwnOps
import Derived.Maps.OwnSet
import Derived.Lib.SlKeysI
set_option linter.unusedSimpArgs false
set_option linter.unusedVariables false
set_option linter.unnecessarySimpa false
namespace Go.Proofs.YtnfkbliokjjggaaGreatDoor
open Go.RowKit
attribute [local go_sem ↓] Go.wp_at_zero Go.wp_at_succ
theorem hbT {X X':World} {o:Obj} {b:Nat} (hb:Below X.heap.size X X') (h:X.heap[b]? = some o):X'.heap[b]? = some o:=(hb.block b (lt_of_block h)).trans h
theorem zR {w:World} {b:Nat} {z0 z1 z2 z3:Value} {t:TypeId} (h:w.heap[b]? = some (.cells #[z0,z1,z2,z3] t (0,0))):w.cell? ⟨b,0,none⟩=some z0/\w.cell? ⟨b,1,none⟩=some z1/\w.cell? ⟨b,2,none⟩=some z2/\w.cell? ⟨b,3,none⟩=some z3/\∀o,w.frozen? ⟨b,o,none⟩=false:=by
 refine⟨?_,?_,?_,?_,λo=>?_⟩
 ·rw[zb h];rfl
 ·rw[zb h];rfl
 ·rw[zb h];rfl
 ·rw[zb h];rfl
 ·simp[World.frozen?,h]
theorem yF {τ:Type} {E:Enc τ} {t:TypeId} {q:Nat->Bool} {k o:Nat} {w:World} {B:Nat} {l:List τ} {v u:Value} (hq:q k=true) (hne:some k≠v.ownBlock) (h:E.Own t q w B v l):E.Own t q (w.setCell ⟨k,o,none⟩ u) B v l:=by obtain⟨xs,h1,h2⟩:=h;exact⟨xs,ownsRow_setCell_other h1 (λe=>hne e.symm) u,h2.keep (zj (ze.2 (Or.inl hq)))⟩
theorem zes {w:World} {b:Nat} {z0 z1 z2 z3 z4 z5 z6 z7 z8:Value} {t:TypeId} (h:w.heap[b]? = some (.cells #[z0,z1,z2,z3,z4,z5,z6,z7,z8] t (0,0))):w.cell? ⟨b,0,none⟩=some z0/\w.cell? ⟨b,1,none⟩=some z1/\w.cell? ⟨b,2,none⟩=some z2/\w.cell? ⟨b,3,none⟩=some z3/\w.cell? ⟨b,4,none⟩=some z4/\w.cell? ⟨b,5,none⟩=some z5/\w.cell? ⟨b,6,none⟩=some z6/\w.cell? ⟨b,7,none⟩=some z7/\w.cell? ⟨b,8,none⟩=some z8:=by refine⟨?_,?_,?_,?_,?_,?_,?_,?_,?_⟩<;>(rw[zb h];rfl)
theorem zo {w:World} {b:Nat} {z0 z1 z2:Value} {t:TypeId} (h:w.heap[b]? = some (.cells #[z0,z1,z2] t (0,0))):w.cell? ⟨b,0,none⟩=some z0/\w.cell? ⟨b,1,none⟩=some z1/\w.cell? ⟨b,2,none⟩=some z2:=by refine⟨?_,?_,?_⟩<;>(rw[zb h];rfl)
theorem Y9 (s:Tq) (ae:Option Addr) (ce:Nat) (a:Option Addr) (cap:Nat):xw s ae ce a cap=.agg #[.int .i64 s.op,.int .i64 s.lo,.int .i64 s.hi,.int .i64 s.expr.op,.int .i64 s.expr.n,.string s.expr.name,.slice ae s.expr.args.length ce,.string s.name,.slice a s.args.length cap]:=rfl
theorem zaE (l:List Int) (a:Option Addr) (c:Nat) (x:Int) (w:World) (h:IntsIn w l a c):Calls Tryz.prog 78 #[.slice a l.length c,.int .i64 x] w λe w'=>e=.returned (.bool (l.contains x))/\w'=w:=by
 rcases Nat.eq_zero_or_pos l.length with h0|h0
 ·obtain rfl:l=[]:=List.eq_nil_of_length_eq_zero h0;exact(Tryz.slices_Contains_int_empty a c x w).mono λe w' h=>⟨h.1,h.2⟩
 ·obtain⟨b,off,rfl⟩:=(zw.addr h).resolve_left (by omega);have:=Tryz.slices_Contains_int b off l.length c l x w (Nat.le_refl _) (by have:=h.2.1;omega) (λj hj=>h.get rfl hj);rw[List.take_length]at this;exact this
theorem Xe (n:zt) (x:qn) (s:Int) (w:World) (h:IntsIn w n.accept x.aa x.ca):Calls Tryz.prog 148 #[ye n x,.int .i64 s] w λe w'=>e=.returned (.bool (n.accept.contains s))/\Below w.heap.size w w':=by have HC:Hid (∀W,Below w.heap.size w W->Calls Tryz.prog 78 #[.slice x.aa n.accept.length x.ca,.int .i64 s] W λe w'=>e=.returned (.bool (n.accept.contains s))/\w'=W):=λW hW=>zaE _ _ _ _ W (h.keep (za hW));clear h;rw[zz];generalize n.accept.contains s=R at HC⊢;go_enter Tryz.func148, Tryz.ntmps148;go_wp2_with fail;refine(HC.out _ bel).mono ?_;rintro e w1 ⟨rfl,rfl⟩;go_wp2_with fail;go_ret;exact⟨rfl,bel⟩
structure BG (k:Nat) (W:World) (v0 a0:Value) (wr:World) (v a:Value):Prop where
 size:W.heap.size<=wr.heap.size
 block:∀j,j<W.heap.size->j≠k->v0.ownBlock≠some j->a0.ownBlock≠some j->wr.heap[j]? = W.heap[j]?
 vrow:v.ownBlock=v0.ownBlock\/∀g,v.ownBlock=some g->W.heap.size<=g
 arow:a.ownBlock=a0.ownBlock\/∀g,a.ownBlock=some g->W.heap.size<=g
section
variable {k : Nat} {W wr wr' : World} {v0 a0 v a v' a' : Value}
theorem BG.refl (k:Nat) (W:World) (v a:Value):BG k W v a W v a:=⟨Nat.le_refl _,λ_ _ _ _ _=>rfl,Or.inl rfl,Or.inl rfl⟩
theorem BG.vne (h:BG k W v0 a0 wr v a) {j:Nat} (hj:j<W.heap.size) (hv:v0.ownBlock≠some j):v.ownBlock≠some j:=λe=>by
 rcases h.vrow with e2|e2
 ·rw[e2]at e;exact hv e
 ·have:=e2 j e;omega
theorem BG.ane (h:BG k W v0 a0 wr v a) {j:Nat} (hj:j<W.heap.size) (hv:a0.ownBlock≠some j):a.ownBlock≠some j:=λe=>by
 rcases h.arow with e2|e2
 ·rw[e2]at e;exact hv e
 ·have:=e2 j e;omega
theorem BG.step (h:BG k W v0 a0 wr v a) (hs:zU k wr v wr' v'):BG k W v0 a0 wr' v' a:=by
 refine⟨Nat.le_trans h.size hs.size,λj hj hk h1 h2=>?_,?_,h.arow⟩
 ·exact(hs.block j (Nat.lt_of_lt_of_le hj h.size) hk (h.vne hj h1)).trans (h.block j hj hk h1 h2)
 ·rcases hs.row with e|e
  ·rw[e];exact h.vrow
  ·exact Or.inr λg hg=>Nat.le_trans h.size (e g hg)
theorem BG.below (h:BG k W v0 a0 wr v a) (hb:Below wr.heap.size wr wr'):BG k W v0 a0 wr' v a:=h.step (zU.below v hb)
theorem BG.acc (h:BG k W v0 a0 wr v a) (hg:wr.grownBy wr' a.ownBlock) (hat:a'.ownBlock=a.ownBlock\/∃g,a'.ownBlock=some g/\wr.heap.size<=g) (u:Value) (o:Nat):BG k W v0 a0 (wr'.setCell ⟨k,o,none⟩ u) v a':=by
 refine⟨by rw[World.size_setCell];exact Nat.le_trans h.size hg.size,λj hj hk h1 h2=>?_,h.vrow,?_⟩
 ·exact(Below.heap_setCell _ _ _ _ (λe=>hk (by simpa using e))).trans ((hg.block j (Nat.lt_of_lt_of_le hj h.size) λe=>h.ane hj h2 e.symm).trans (h.block j hj hk h1 h2))
 ·rcases hat with e|⟨g,e,hgs⟩
  ·rw[e];exact h.arow
  ·exact Or.inr λg' hg'=>by rw[e]at hg';have:=Option.some.inj hg';have:=h.size;omega
theorem BG.kp {q:Nat->Bool} (h:BG k W v0 a wr v a) (hk:q k=true):Kp (World.hide W (hid (hid q a) v0)) (World.hide wr (hid (hid q a) v)):=by
 intro ad u ha;obtain⟨h1,h2⟩:=zr.1 ha;have hlt:=xV h2;have hn:∀j,hid (hid q a) v0 j=true->ad.block≠j:=λj hj e=>by rw[e,hj]at h1;simp at h1
 have hvn:v0.ownBlock≠some ad.block:=λe=>hn _ (ze.2 (Or.inr e)) rfl;have han:a.ownBlock≠some ad.block:=λe=>hn _ (ze.2 (Or.inl (ze.2 (Or.inr e)))) rfl;refine zr.2 ⟨?_,by rw[World.cell?_of_block (h.block _ hlt (hn _ (ze.2 (Or.inl (ze.2 (Or.inl hk))))) hvn han)];exact h2⟩;cases e:hid (hid q a) v ad.block with
 |false=>rfl
 |true =>
  rcases ze.1 e with e2|e2
  ·exact absurd rfl (hn _ (ze.2 (Or.inl e2)))
  ·exact absurd e2 (h.vne hlt hvn)
theorem BF.then (h:BF k W v0 a0 wr) (g:BG k wr v0 a0 wr' v a):BF k W v a wr':=by
 refine⟨Nat.le_trans h.size g.size,λj hj hk=>?_,λj hj=>?_,λj hj=>?_⟩
 ·exact(g.block j (Nat.lt_of_lt_of_le hj h.size) hk (λe=>by have:=h.vlt j e;omega) λe=>by have:=h.alt j e;omega).trans (h.block j hj hk)
 ·rcases g.vrow with e|e
  ·exact h.vlt j (by rw[←e];exact hj)
  ·exact Nat.le_trans h.size (e j hj)
 ·rcases g.arow with e|e
  ·exact h.alt j (by rw[←e];exact hj)
  ·exact Nat.le_trans h.size (e j hj)
theorem BG.trans {wr2:World} {v2 a2:Value} (h:BG k W v0 a0 wr v a) (g:BG k wr v a wr2 v2 a2):BG k W v0 a0 wr2 v2 a2:=by
 refine⟨Nat.le_trans h.size g.size,λj hj hk h1 h2=>?_,?_,?_⟩
 ·exact(g.block j (Nat.lt_of_lt_of_le hj h.size) hk (h.vne hj h1) (h.ane hj h2)).trans (h.block j hj hk h1 h2)
 ·rcases g.vrow with e|e
  ·rw[e];exact h.vrow
  ·exact Or.inr λj hj=>Nat.le_trans h.size (e j hj)
 ·rcases g.arow with e|e
  ·rw[e];exact h.arow
  ·exact Or.inr λj hj=>Nat.le_trans h.size (e j hj)
end
open Go.RowKit Go.WideMaps
def zdl (v:Value):Option (DataW Value×List MemPlace):=some (.held v,[])
def xH (w:World) (P:Program) (k:TypeId) (b m:Nat) (f:Lit->Option Value):Prop :=
 ∃D:DataW Value,w.ownsMap P k zdl b m D/\Maps.Tidy D/\Maps.size D=m/\∀kl,Maps.has D kl=(f kl).isSome/\∀v,f kl=some v->∀z,D.atKey kl z=.held v
noncomputable def zgM (f:Lit->Option Value) (kl:Lit) (v:Option Value):Lit->Option Value:=λx=>@ite _ (x=kl) (Classical.propDecidable _) v (f x)
theorem XP (f:Lit->Option Value) (kl:Lit) (v:Option Value):zgM f kl v kl=v:=by unfold zgM;exact if_pos rfl
theorem YF {f:Lit->Option Value} {kl x:Lit} (v:Option Value) (h:x≠kl):zgM f kl v x=f x:=by unfold zgM;exact if_neg h
theorem zac {H:Type} {w:World} {P:Program} {k:TypeId} {R:Value->Option (DataW H×List MemPlace)} {b n:Nat} {D:DataW H} (h:w.ownsMap P k R b n D):w.ownsMap P k R b (Maps.size D) D:=by obtain⟨es,clock,hb,F,_,rfl⟩:=h;exact⟨es,clock,hb,F,by simp[Maps.size,length_sorted],rfl⟩
section
variable {w : World} {P : Program} {k : TypeId} {b m : Nat} {f : Lit → Option Value}
theorem xH.made (w:World) (P:Program) (k:TypeId):xH (w.alloc (.map #[] 0)) P k w.heap.size 0 (λ_=>none) :=
 ⟨.map [],World.ownsMap_made w _ _ _,Maps.tidy_empty,rfl,λkl=>⟨rfl,λv h=>by cases h⟩⟩
theorem xH.lt (h:xH w P k b m f):b<w.heap.size:=by obtain⟨D,h1,_⟩:=h;exact h1.lt
theorem xH.kept {w':World} {row:Option Nat} (h:xH w P k b m f) (hg:w.grownBy w' row) (hne:some b≠row):xH w' P k b m f:=by obtain⟨D,h1,r⟩:=h;exact⟨D,h1.kept hg hne,r⟩
theorem xH.alloc (h:xH w P k b m f) (o:Obj):xH (w.alloc o) P k b m f:=h.kept (World.grownBy_alloc w o none) (by simp)
theorem xH.setCell (h:xH w P k b m f) {a:Addr} (ha:b≠a.block) (u:Value):xH (w.setCell a u) P k b m f:=by obtain⟨D,h1,r⟩:=h;exact⟨D,h1.setCell ha u,r⟩
theorem xH.block {w':World} (h:xH w P k b m f) (hb:w'.heap[b]? = w.heap[b]?):xH w' P k b m f:=by obtain⟨D,⟨es,clock,g1,g2⟩,r⟩:=h;exact⟨D,⟨es,clock,hb.trans g1,g2⟩,r⟩
theorem xH.below {w':World} (h:xH w P k b m f) (hb:Below w.heap.size w w'):xH w' P k b m f:=h.block (hb.block _ h.lt)
theorem xH.belowB {w':World} {B:Nat} (h:xH w P k b m f) (hb:Below B w w') (hB:b<B):xH w' P k b m f:=h.block (hb.block _ hB)
theorem xH.cells {w':World} (h:xH w P k b m f) (hg:w.grownBy w' (some b)):∀a v,w.cell? a=some v->w'.cell? a=some v:=by
 intro a v hc;obtain⟨D,⟨es,clock,g1,_⟩,_⟩:=h;have hlt:=World.block_lt_of_cell? _ _ hc;have hne:a.block≠b:=λe=>by subst e;unfold World.cell? at hc;rw[g1]at hc;simp at hc
 have hh:=hg.block a.block hlt (λe=>hne (by injection e));unfold World.cell? at hc⊢;rw[hh];exact hc
theorem xH.congr {g:Lit->Option Value} (h:xH w P k b m f) (hfg:∀x,f x=g x):xH w P k b m g:=by have:f=g:=funext hfg;rw[←this];exact h
theorem xH.put {w':World} {D:DataW Value} {kl:Lit} {v:Value} (hk:WideAt.IsKeyLit kl) (ht:Maps.Tidy D) (hf:∀kl,Maps.has D kl=(f kl).isSome/\∀v,f kl=some v->∀z,D.atKey kl z=.held v) {n:Nat} (h:w'.ownsMap P k zdl b n (D.put kl (.held v))) :
 xH w' P k b (Maps.size D+if (f kl).isSome then 0 else 1) (zgM f kl (some v)):=by
 have hs:=Maps.size_put (k:=kl) ht (.held v);rw[(hf kl).1]at hs;have hs':Maps.size (D.put kl (.held v))=Maps.size D+if (f kl).isSome then 0 else 1:=by rw[hs];split<;>simp
 refine⟨_,?_,ht.put hk _,hs',λx=>?_⟩
 ·rw[←hs'];exact zac h
 ·by_cases hx:x=kl
  ·subst hx;rw[XP];refine⟨Maps.has_put_same ht.isMap hk _,λu hu z=>?_⟩;obtain rfl:=Option.some.inj hu;exact Maps.atKey_put_same ht.isMap hk _ _
  ·rw[YF _ hx];refine⟨(Maps.has_put_other hx _).trans (hf x).1,λu hu z=>?_⟩;rw[Maps.atKey_put_other hx];exact(hf x).2 u hu z
theorem zeW {v:Value} {d:DataW Value} {ps:List MemPlace} (h:zdl v=some (d,ps)):d=.held v:=by unfold zdl at h;injection h with h;injection h with h _;exact h.symm
end
section
variable {P : Program} {w : World} {ops : Array Oper} {rest : List Oper} {o : Oper} {a : Act} {Q : Exit → Act → World → Prop} {k : TypeId} {b n : Nat} {f : Lit → Option Value}
theorem X1 (w:World) (hg:o.guard=none) (m x v:Operand) (t e:TypeId) (hop:o.op=Op.mapUpdate t m x v) (K:Maps.Keyed P k) (ht:P.underlying t=some (.map k e)) (hm:a.eval m=.map (some b)) (hown:xH w P k b n f) (hn:n<1000000000)
 (key val:Value) (kl:Lit) (hx:a.eval x=key) (hv:a.eval v=val) (hkey:keyOf P k key=some kl) (hk:WideAt.IsKeyLit kl)
 (hK:∀w',xH w' P k b (n+if (f kl).isSome then 0 else 1) (zgM f kl (some val))->w.grownBy w' (some b)->wpList P ops Q rest (a.put o.dst undef) w'):wpList P ops Q (o::rest) a w:=by
 obtain⟨D,h1,h2,h3,h4⟩:=hown;refine wpList_mapUpdate_own w hg m x v t hop k e K ht zdl b n D hm h1 (by unfold maxLen;omega) key val kl hx hv hkey (.held val) [] rfl ?_;intro w' h5 h6;have:=xH.put hk h2 h4 h5;rw[h3]at this;exact hK w' this h6
theorem XF (hown:xH w P k b n f) {t e:TypeId} (K:Maps.Keyed P k) (ht:P.underlying t=some (.map k e)) {z:Value} (hz:(zeroValue e).run P w=.ok z w) {key:Value} {kl:Lit} (hkey:keyOf P k key=some kl) :
 (Instr.lookup t (.map (some b)) key true).run P w=.ok (.tuple #[(f kl).getD z,.bool (f kl).isSome]) w:=by
 obtain⟨D,h1,h2,h3,h4⟩:=hown;obtain⟨u,ps,hrun,hR⟩:=h1.look_ok K ht hz (zd:=.held z) (zp:=[]) rfl hkey;have hu:=zeW hR;rw[(h4 kl).1]at hrun;cases hf:f kl with
 |none =>have hh:=(h4 kl).1;rw[hf]at hh hrun;rw[Maps.atKey_of_not_has (by simpa using hh)]at hu;injection hu with hu;subst hu;simpa using hrun
 |some v =>rw[(h4 kl).2 v hf]at hu;injection hu with hu;subst hu;rw[hf]at hrun;simpa using hrun
theorem xh (w:World) (hg:o.guard=none) (m x:Operand) (t e:TypeId) (hop:o.op=Op.lookup t m x true) (K:Maps.Keyed P k) (ht:P.underlying t=some (.map k e)) {z:Value} (hz:(zeroValue e).run P w=.ok z w) (hm:a.eval m=.map (some b)) (hown:xH w P k b n f)
 (key:Value) (kl:Lit) (hx:a.eval x=key) (hkey:keyOf P k key=some kl) (v:Value) (hf:f kl=some v)
 (hK:wpList P ops Q rest (a.put o.dst (.tuple #[v,.bool true])) w):wpList P ops Q (o::rest) a w:=by
 have hrun:=XF hown K ht hz hkey;rw[hf]at hrun;refine wpList_plain hg λK' hK'=>?_;unfold Oper.wp;simp[execOp,hop,hm,hx,hrun,Result.andThen];exact hK' _ _ hK
theorem xd (w:World) (hg:o.guard=none) (m x:Operand) (t e:TypeId) (hop:o.op=Op.lookup t m x true) (K:Maps.Keyed P k) (ht:P.underlying t=some (.map k e)) {z:Value} (hz:(zeroValue e).run P w=.ok z w) (hm:a.eval m=.map (some b)) (hown:xH w P k b n f)
 (key:Value) (kl:Lit) (hx:a.eval x=key) (hkey:keyOf P k key=some kl) (hf:f kl=none)
 (hK:wpList P ops Q rest (a.put o.dst (.tuple #[z,.bool false])) w):wpList P ops Q (o::rest) a w:=by
 have hrun:=XF hown K ht hz hkey;rw[hf]at hrun;refine wpList_plain hg λK' hK'=>?_;unfold Oper.wp;simp[execOp,hop,hm,hx,hrun,Result.andThen];exact hK' _ _ hK
theorem ZU (w:World) (hg:o.guard=none) (m:Operand) (t k e:TypeId) (hop:o.op=Op.call { callee:=Callee.builtin Builtin.len,args:=#[m],argTypes:=#[t] }) (ht:P.underlying t=some (.map k e)) (hm:a.eval m=.map (some b)) (hown:xH w P k b n f)
 (hK:wpList P ops Q rest (a.put o.dst (.int .i64 n)) w):wpList P ops Q (o::rest) a w:=by
 obtain⟨D,h1,h2,h3,h4⟩:=hown;refine wpList_len_own w hg m t hop k e ht zdl b n D hm h1 ?_;rw[h3];exact hK
end
end Go.Proofs.YtnfkbliokjjggaaGreatDoor
