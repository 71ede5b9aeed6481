/- nfa.compile. -/
import Derived.Test.YtnfkbliokjjggaaGreatDoorH25
import Derived.Test.YtnfkbliokjjggaaGreatDoorH10
import Derived.Test.YtnfkbliokjjggaaGreatDoorH34
import Derived.Test.YtnfkbliokjjggaaGreatDoorH35
import Derived.Test.YtnfkbliokjjggaaGreatDoorH24
set_option linter.unusedSimpArgs false
set_option linter.unusedVariables false
set_option linter.unnecessarySimpa false
namespace Go.Proofs.YtnfkbliokjjggaaGreatDoor
open Go.RowKit
attribute [local go_sem ↓] Go.wp_at_zero Go.wp_at_succ
theorem zi4:Elem Tryz.prog 147 33 3:=Elem.of Tryz.underlying147 (by kernel_rfl) (z:=.agg #[.int .i64 0,.slice none 0 0,.slice none 0 0]) (bytes:=56) rfl (by decide) (by decide)
theorem zdB (ps:List zt):qB (ps.map some)=some ps:=by
 induction ps with
 |nil=>rfl
 |cons p ps ih=>simp only[List.map_cons,qB,ih,Option.map_some]
theorem zbW:∀{l:List (Option zt)} {k:Nat} (hk:k<l.length),l[k]'hk=none->qB l=none:=by
 intro l
 induction l with
 |nil=>intro k hk;simp at hk
 |cons a l ih =>
  intro k hk h;cases a with
  |none=>rfl
  |some n =>
   cases k with
   |zero=>simp at h
   |succ k =>rw[qB,ih (k:=k) (by simpa using hk) (by simpa using h)];rfl
theorem zjT {α:Type} {l:List α} (h:l.length=2):∃x y,l=[x,y]:=by
 match l with
 | [x,y]=>exact⟨x,y,rfl⟩
theorem hs3 {W:World} {k g:Nat} {o:Obj} {u0 u1 u2:Value} (h:W.heap[g]? = some o) (hne:g≠k):(((W.setCell ⟨k,0,none⟩ u0).setCell ⟨k,1,none⟩ u1).setCell ⟨k,2,none⟩ u2).heap[g]? = some o:=by rw[Below.heap_setCell _ _ _ _ hne,Below.heap_setCell _ _ _ _ hne,Below.heap_setCell _ _ _ _ hne];exact h
theorem hs34 {W:World} {k:Nat} {t:TypeId} {z0 z1 z2 z3 u0 u1 u2:Value} (h:W.heap[k]? = some (.cells #[z0,z1,z2,z3] t (0,0))):(((W.setCell ⟨k,0,none⟩ u0).setCell ⟨k,1,none⟩ u1).setCell ⟨k,2,none⟩ u2).heap[k]? = some (.cells #[u0,u1,u2,z3] t (0,0)):=by have h0:=heap_setCell_same _ k 0 _ t u0 h;have h1:=heap_setCell_same _ k 1 _ t u1 h0;have h2:=heap_setCell_same _ k 2 _ t u2 h1;rw[h2];rfl
theorem yy.fin {q:Nat->Bool} {r:Option zt} {w7 w8:World} {e:Ending} (h:yy q r w7 e w8):∃(st:Int) (ea:Option Addr) (en ec:Nat) (aa:Option Addr) (an ac:Nat) (er:Int),e=.returned (.tuple #[.agg #[.int .i64 st,.slice ea en ec,.slice aa an ac],.int .i64 er])/\Below w7.heap.size w7 w8 /\
 ∀(p:Nat->Bool) (w0 W:World),Kp (World.hide w8 q) (World.hide W p)->Below w0.heap.size w0 W->yy p r w0 (.returned (.tuple #[.agg #[.int .i64 st,.slice ea en ec,.slice aa an ac],.int .i64 er])) W:=by
 cases r with
 |none =>obtain⟨rfl,hb⟩:=h.outNo;exact⟨_,_,_,_,_,_,_,_,rfl,hb,λp w0 W _ hb2=>yy.no hb2⟩
 |some n =>obtain⟨x,rfl,hn,hb⟩:=h.outYes;exact⟨_,_,_,_,_,_,_,_,rfl,hb,λp w0 W hk hb2=>yy.yes (hn.keep hk) hb2⟩
end Go.Proofs.YtnfkbliokjjggaaGreatDoor
