/- nfa.builder: or. -/
import Derived.Test.YtnfkbliokjjggaaGreatDoorH24
import Derived.Deep.RegionLawGrows
import Derived.Test.YtnfkbliokjjggaaGreatDoorH23
import Derived.Test.YtnfkbliokjjggaaGreatDoorH15
import Derived.Laws.Rows
set_option linter.unusedSimpArgs false
set_option linter.unusedVariables false
set_option linter.unnecessarySimpa false
namespace Go.Proofs.YtnfkbliokjjggaaGreatDoor
open Go.RowKit
attribute [local go_sem ↓] Go.wp_at_zero Go.wp_at_succ
theorem ze8 {w:World} {l:List zt} {a:Option Addr} {cap:Nat} (h:nfE.In w l a cap) {b off:Nat} (ha:a=some ⟨b,off,none⟩) {i:Nat} (hi:i<l.length) :
 ∃x:qn,w.cell? ⟨b,off+i*3,none⟩=some (.int .i64 (l[i]'hi).states)/\w.cell? ⟨b,off+i*3+1,none⟩=some (.slice x.ae (l[i]'hi).edges.length x.ce)/\w.cell? ⟨b,off+i*3+2,none⟩=some (.slice x.aa (l[i]'hi).accept.length x.ca)/\yb w (l[i]'hi) x:=by
 obtain⟨vs,⟨x,rfl,h1⟩,hc⟩:=h.get ha hi;exact⟨x,hc 0 _ rfl,hc 1 _ rfl,hc 2 _ rfl,h1⟩
theorem zfj {n:zt} (h:zC n=true):qq n:=λe he=>by obtain⟨h1,h2⟩:=Zw h he;exact⟨λg hg=>by have:=h1 g hg;omega,λb hb=>by have:=h2 b hb;omega⟩
theorem yy.outNo {p:Nat->Bool} {w w':World} {e:Ending} (h:yy p none w e w'):e=.returned (.tuple #[.agg #[.int .i64 0,.slice none 0 0,.slice none 0 0],.int .i64 2])/\Below w.heap.size w w':=h
theorem yy.outYes {p:Nat->Bool} {n:zt} {w w':World} {e:Ending} (h:yy p (some n) w e w'):∃x:qn,e=.returned (.tuple #[.agg #[.int .i64 n.states,.slice x.ae n.edges.length x.ce,.slice x.aa n.accept.length x.ca],.int .i64 0])/\yb (World.hide w' p) n x/\Below w.heap.size w w':=by obtain⟨⟨x,h1,h2⟩,h3⟩:=h;exact⟨x,h1,h2,h3⟩
theorem ziX {w:World} {b:Nat} {z0 z1 z2:Value} {t:TypeId} (h:w.heap[b]? = some (.cells #[z0,z1,z2] t (0,0))) :
 ((∀o,(w.alloc o).cell? ⟨b,0,none⟩=some z0)/\(∀o,(w.alloc o).cell? ⟨b,1,none⟩=some z1)/\(∀o,(w.alloc o).cell? ⟨b,2,none⟩=some z2))/\((∀o,(w.alloc o).frozen? ⟨b,0,none⟩=false)/\(∀o,(w.alloc o).frozen? ⟨b,1,none⟩=false)/\∀o,(w.alloc o).frozen? ⟨b,2,none⟩=false):=by
 have h2:∀o,(w.alloc o).heap[b]? = _:=λo=>zl (o:=o) h;refine⟨⟨λo=>?_,λo=>?_,λo=>?_⟩,λo=>?_,λo=>?_,λo=>?_⟩
 ·rw[zb (h2 o)];rfl
 ·rw[zb (h2 o)];rfl
 ·rw[zb (h2 o)];rfl
 ·simp[World.frozen?,h2 o]
 ·simp[World.frozen?,h2 o]
 ·simp[World.frozen?,h2 o]
def xO:Obj:=.cells #[.int .i64 0,.slice none 0 0,.slice none 0 0] 33 (0,0)
structure zd8 (q:Nat->Bool) (n0:zt) (rest:List zt) (ks:List Nat) (w wr:World) (m:Nat) (cur:zt) (x:qn) (K:Nat):Prop where
 blk0:wr.heap[w.heap.size]? = some xO
 blk1:wr.heap[w.heap.size+1]? = some (zbt cur x)
 nin:yb (World.hide wr q) cur x
 reg:qO K cur
 sum:K+(ks.drop m).sum<=1000000
 eq:zf7 n0 rest=zf7 cur (rest.drop m)
 bel:Below w.heap.size w wr
 sz:w.heap.size+2<=wr.heap.size
theorem zd8.next {q:Nat->Bool} {n0:zt} {rest:List zt} {ks:List Nat} {w wr w8:World} {m:Nat} {cur n':zt} {x x':qn} {K ky:Nat} (h:zd8 q n0 rest ks w wr m cur x K) (hb:Below wr.heap.size wr w8) (hk:(ks.drop m).sum=ky+(ks.drop (m+1)).sum) (hr:qO (K+ky) n')
 (he:zf7 n0 rest=zf7 n' (rest.drop (m+1))) (hn:yb (World.hide w8 q) n' x') (hq:q (w.heap.size+1)=true) (hql:∀j,q j=true->j<wr.heap.size) (o:Obj) :
 zd8 q n0 rest ks w ((((w8.alloc o).setCell ⟨w.heap.size+1,0,none⟩ (.int .i64 n'.states)).setCell ⟨w.heap.size+1,1,none⟩ (.slice x'.ae n'.edges.length x'.ce)).setCell ⟨w.heap.size+1,2,none⟩ (.slice x'.aa n'.accept.length x'.ca)) (m+1) n' x' (K+ky):=by
 have hz:=h.sz;have hz8:=hb.size;have hba:Below wr.heap.size wr (w8.alloc o):=hb.alloc hz8 _;have h1:(w8.alloc o).heap[w.heap.size+1]? = some (zbt cur x):=(hba.block _ (by omega)).trans h.blk1;have h0:(w8.alloc o).heap[w.heap.size]? = some xO:=(hba.block _ (by omega)).trans h.blk0;refine⟨?_,zdQ h1,?_,hr,by have:=h.sum;omega,he,?_,by simp only[World.size_setCell,World.size_alloc];omega⟩
 ·rw[Below.heap_setCell _ _ _ _ (by show w.heap.size≠w.heap.size+1;omega),Below.heap_setCell _ _ _ _ (by show w.heap.size≠w.heap.size+1;omega),Below.heap_setCell _ _ _ _ (by show w.heap.size≠w.heap.size+1;omega)];exact h0
 ·refine hn.keep (Kp.trans (zg (q:=q) ((Below.refl _ w8).alloc (Nat.le_refl _) o) λ_ _ h=>h) ?_);exact Kp.trans (zj hq) (Kp.trans (zj hq) (zj hq))
 ·have hbw:=h.bel.trans (hba.mono h.bel.size);exact((hbw.setCell (by show _<=w.heap.size+1;omega) _).setCell (by show _<=w.heap.size+1;omega) _).setCell (by show _<=w.heap.size+1;omega) _
end Go.Proofs.YtnfkbliokjjggaaGreatDoor
