/- nfa.builder: set. -/
import Derived.Test.YtnfkbliokjjggaaGreatDoorH17
import Derived.Test.YtnfkbliokjjggaaGreatDoorH24
import Derived.Test.YtnfkbliokjjggaaGreatDoorH13
import Derived.Test.YtnfkbliokjjggaaGreatDoorH15
set_option linter.unusedSimpArgs false
set_option linter.unusedVariables false
set_option linter.unnecessarySimpa false
namespace Go.Proofs.YtnfkbliokjjggaaGreatDoor
open Go.RowKit
attribute [local go_sem ↓] Go.wp_at_zero Go.wp_at_succ
def QM (e:zk):Prop:=(∀g∈e.guards,g.nodes.length<=400)/\∀b∈e.sets,b.expr.nodes.length<=400
theorem QM.small {e:zk} (h:QM e):ZJ e:=⟨λg hg=>by have:=h.1 g hg;omega,λb hb=>by have:=h.2 b hb;omega⟩
theorem zbi {l:List Int} {n:zt} {base:Int} (h:∀e∈n.edges,QM e):∀e∈zO l n base,QM e:=λe he=>by obtain⟨s,_,he⟩:=List.mem_flatMap.1 he;obtain⟨f,hf,rfl⟩:=List.mem_map.1 he;exact h f (List.mem_filter.1 hf).1
theorem ziD {n:zt} {base:Int} (h:∀e∈n.edges,QM e):∀e∈zfx n base,QM e:=λe he=>by obtain⟨f,hf,rfl⟩:=List.mem_map.1 he;exact h f (List.mem_filter.1 hf).1
theorem zhD (f t:Int):ZJ ⟨f,t,[],[]⟩:=⟨λg hg=>(by cases hg),λb hb=>(by cases hb)⟩
theorem zgi {lo hi:Int} {x y:zt} (hx:∀e∈x.edges,QM e) (hy:∀e∈y.edges,QM e):qq (y5 lo hi x y):=by
 intro e he;simp only[y5,List.mem_append]at he;rcases he with ((((he|he)|he)|he)|he)|he
 ·exact(hx e he).small
 ·split at he
  ·rcases List.mem_append.1 he with he|he
   ·obtain⟨a,_,rfl⟩:=List.mem_map.1 he;exact zhD _ _
   ·obtain⟨i,_,rfl⟩:=List.mem_map.1 he;exact zhD _ _
  ·cases he
 ·split at he
  ·obtain⟨g,hg,he⟩:=List.mem_flatMap.1 he;split at he
   ·obtain⟨f,hf,rfl⟩:=List.mem_map.1 he;have h1:=hx g hg;have h2:=hy f (List.mem_filter.1 hf).1;refine⟨λz hz=>?_,λb hb=>?_⟩
    ·rcases List.mem_append.1 hz with hz|hz
     ·have:=h1.1 z hz;omega
     ·obtain⟨z0,hz0,rfl⟩:=List.mem_map.1 hz;have:=zb6 h1.2 g.sets.length z0 (by have:=h2.1 z0 hz0;omega);omega
    ·rcases List.mem_append.1 hb with hb|hb
     ·have:=h1.2 b hb;omega
     ·have:=h2.2 b hb;omega
   ·cases he
  ·cases he
 ·split at he
  ·exact(zbi hy e he).small
  ·cases he
 ·obtain⟨i,_,he⟩:=List.mem_flatMap.1 he;split at he
  ·exact(zbi hy e he).small
  ·cases he
 ·exact(ziD hy e he).small
theorem zfw {K:Nat} {n:zt} (h:qO K n):∀e∈n.edges,QM e:=λe he=>Zw h.ok he
theorem zhT {x:Ex} (hx:x.nodes.length<=400):qq ⟨2,[⟨0,1,[x],[]⟩],[1]⟩:=λe he=>by obtain rfl:=List.mem_singleton.1 he;exact⟨λg hg=>by obtain rfl:=List.mem_singleton.1 hg;omega,λb hb=>by cases hb⟩
theorem zip {w:World} {B g size:Nat} {t:TypeId} {vs:List Value} (hB:B<=g) (hl:vs.length=size) (h:w.heap[g]? = some (.cells vs.toArray t (0,0))):w.ownsRow B t size (.slice (some ⟨g,0,none⟩) 1 1) 1 vs :=
 ⟨by simpa using hl,.inr ⟨g,1,vs.toArray,rfl,hB,h,Nat.le_refl _,by unfold maxLen;omega,by simpa using hl,by simp[←hl]⟩⟩
theorem zf9 {q:Nat->Bool} {wr W:World} {kb g1 g2 g3:Nat} {x:Ex} {xa:Option Addr} {xc:Nat} (hk:wr.heap.size<=kb) (h1:W.heap[g1]? = some (.cells #[.int .i64 x.op,.int .i64 x.n,.string x.name,.slice xa x.args.length xc] 24 (0,0)))
 (h2:W.heap[g2]? = some (.cells #[.int .i64 0,.int .i64 1,.slice (some ⟨g1,0,none⟩) 1 1,.slice none 0 0] 77 (0,0))) (h3:W.heap[g3]? = some (.cells #[.int .i64 1] 3 (0,0)))
 (hkb:W.heap[kb]? = some (.cells #[.int .i64 2,.slice (some ⟨g2,0,none⟩) 1 1,.slice (some ⟨g3,0,none⟩) 1 1,.bool false] 150 (0,0))) (hb:Below wr.heap.size wr W) (hx:yA (World.hide wr q) x xa xc) (hq:∀j,q j=true->j<wr.heap.size) (hg:kb<g1/\g1<g2/\g2<g3) :
 zhI q kb wr ⟨2,[⟨0,1,[x],[]⟩],[1]⟩ (.returned (.tuple #[])) W:=by
 have hqo:∀j,wr.heap.size<=j->q j=false:=λj hj=>by
  cases h:q j with
  |false=>rfl
  |true=>have:=hq j h;omega
 have hqk:∀j,j≠kb->wr.heap.size<=j->qk q kb j=false:=λj hj hl=>by
  cases h:qk q kb j with
  |false=>rfl
  |true =>
   rcases yY.1 h with h|h
   ·rw[hqo j hl]at h;cases h
   ·exact absurd h hj
 have hk2:Kp (World.hide wr q) (World.hide W (hid (qk q kb) (.slice (some ⟨g2,0,none⟩) 1 1))):=zg hb λj hj h=>by
  rcases ze.1 h with h|h
  ·rcases yY.1 h with h|h
   ·exact h
   ·omega
  ·have:=Option.some.inj h;simp only at this;omega
 refine⟨rfl,qk q kb,.slice (some ⟨g2,0,none⟩) 1 1,some ⟨g3,0,none⟩,1,λj hj=>yY.2 (Or.inl hj),⟨hk,yY.2 (Or.inr rfl),hkb,⟨_,zip (vs:=[.int .i64 0,.int .i64 1,.slice (some ⟨g1,0,none⟩) 1 1,.slice none 0 0]) (by omega) rfl h2,Enc.Vals.one ⟨some ⟨g1,0,none⟩,1,none,0,rfl,?_,Enc.In.nil _⟩⟩,hb⟩,?_⟩
 ·refine Enc.Vals.in (E:=exE) (Enc.Vals.one (E:=exE) (x:=x) ⟨xa,xc,rfl,hx.keep hk2⟩) (λj v hj=>?_) (by simp) (Nat.le_refl _);refine zr.2 ⟨?_,?_⟩
  ·show hid _ _ g1=false;cases h:hid (qk q kb) (.slice (some ⟨g2,0,none⟩) 1 1) g1 with
   |false=>rfl
   |true =>
    rcases ze.1 h with h|h
    ·rw[hqk g1 (by omega) (by omega)]at h;cases h
    ·have:=Option.some.inj h;simp only at this;omega
  ·rw[zb h1,Nat.zero_add];simpa using hj
 ·refine⟨Nat.le_refl _,by simp,Or.inr ⟨g3,0,rfl,λi hi=>?_⟩⟩;have hi0:i=0:=by simpa using hi
  subst hi0;refine⟨1,rfl,zr.2 ⟨hqo _ (by show _<=g3;omega),?_⟩⟩;rw[zb h3];rfl
end Go.Proofs.YtnfkbliokjjggaaGreatDoor
