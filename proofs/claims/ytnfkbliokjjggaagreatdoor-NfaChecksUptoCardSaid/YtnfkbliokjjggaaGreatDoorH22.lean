/- nfa.builder.and: the start. -/
import Derived.Test.YtnfkbliokjjggaaGreatDoorH21
set_option linter.unusedSimpArgs false
set_option linter.unusedVariables false
set_option linter.unnecessarySimpa false
namespace Go.Proofs.YtnfkbliokjjggaaGreatDoor
open Go.RowKit
attribute [local go_sem ↓] Go.wp_at_zero Go.wp_at_succ
section
variable {P : Program} {w : World} {ops : Array Oper} {rest : List Oper} {o : Oper} {a : Act} {Q : Exit → Act → World → Prop} {k : TypeId} {b n : Nat} {f : Lit → Option Value}
end
theorem JnS.start {p:Nat->Bool} {k s:Nat} {w0 w W1 wm:World} (hk:w0.heap.size<=k) (hblk:w.heap[k]? = some (.cells #[.int .i64 0,.slice none 0 0,.slice none 0 0,.bool false] 150 (0,0))) (hb:Below w0.heap.size w0 w)
 (hs:s=w.heap.size) (hb1:Below w.heap.size w W1) (h0:W1.heap[s]? = some (.cells #[.pointer (some ⟨k,0,none⟩)] 148 (0,0))) (h3:W1.heap[s+3]? = some (.cells #[.int .i64 0,.int .i64 0] 96 (0,0)))
 (h4:W1.heap[s+4]? = some (.cells #[.slice (some ⟨s+3,0,none⟩) 1 1] 95 (0,0))) (hm:zcd wm W1.heap.size [(0,0)]) (hg:(W1.alloc (.map #[] 0)).grownBy wm (some W1.heap.size)) :
 JnS p ⟨k,wm.heap.size,s+4,s,W1.heap.size⟩ w0 (wm.alloc (.cells #[.map (some W1.heap.size)] 261)) ⟨[(0,0)],[]⟩ (.slice none 0 0) (.slice (some ⟨s+3,0,none⟩) 1 1)/\Below W1.heap.size W1 (wm.alloc (.cells #[.map (some W1.heap.size)] 261)):=by
 subst hs;have hkw:=lt_of_block hblk;have hz:=hb.size;have hl4:=lt_of_block h4;have hB:Below W1.heap.size W1 wm:=Below.grown ((Below.refl _ _).alloc (Nat.le_refl _) _) hg (by simp) λj hj=>by have:=Option.some.inj hj;omega
 have hB2:Below W1.heap.size W1 (wm.alloc (.cells #[.map (some W1.heap.size)] 261)):=hB.alloc hB.size _;have hBw:Below w0.heap.size w0 (wm.alloc (.cells #[.map (some W1.heap.size)] 261)):=hb.trans ((hb1.mono hz).trans (hB2.mono (by omega)));have hbl:∀{j:Nat} {o:Obj},W1.heap[j]? = some o->(wm.alloc (.cells #[.map (some W1.heap.size)] 261)).heap[j]? = some o:=λh=>(hB2.block _ (lt_of_block h)).trans h;refine⟨⟨xN.mk0 hk (ze.2 (Or.inl (YH.2 (Or.inr (Or.inl rfl))))) (hbl ((hb1.block k hkw).trans hblk)) hBw,?_,zi wm _,hbl h4,hbl h0,hm.block (Below.heap_alloc _ _ _ hm.lt),by show w0.heap.size<=w.heap.size+4;omega,by show w0.heap.size<=W1.heap.size;have:=hb1.size;omega⟩,hB2⟩;refine Zk.2 ⟨[.int .i64 0,.int .i64 0],⟨rfl,Or.inr ⟨w.heap.size+3,1,#[.int .i64 0,.int .i64 0],rfl,by omega,hbl h3,Nat.le_refl _,by unfold maxLen;omega,rfl,rfl⟩⟩,?_⟩;exact Enc.Vals.one (E:=prE) (x:=(0,0)) rfl
theorem JnS.new {p:Nat->Bool} {Q:JB} {w0 w:World} {j:xu} {ve vp:Value} (h:JnS p Q w0 w j ve vp):∀b,w.heap.size<=b->b≠Q.k/\b≠Q.r/\b≠Q.h/\ve.ownBlock≠some b/\vp.ownBlock≠some b:=λb hb=>by have a1:=lt_of_block h.e.blk;have a2:=lt_of_block h.br;have a3:=h.mp.lt;exact⟨by omega,by omega,by omega,λe=>by have:=(zq h.e.es b e).2;omega,λe=>by have:=(h.plt b e).2;omega⟩
theorem JG.at {Q:JB} {W wr:World} {v0 p0 v pv:Value} {b:Nat} {o:Obj} (h:JG Q W v0 p0 wr v pv) (hn:b≠Q.k/\b≠Q.r/\b≠Q.h/\v0.ownBlock≠some b/\p0.ownBlock≠some b) (hb:W.heap[b]? = some o):wr.heap[b]? = some o:=(h.block b (lt_of_block hb) hn.1 hn.2.1 hn.2.2.1 hn.2.2.2.1 hn.2.2.2.2).trans hb
end Go.Proofs.YtnfkbliokjjggaaGreatDoor
