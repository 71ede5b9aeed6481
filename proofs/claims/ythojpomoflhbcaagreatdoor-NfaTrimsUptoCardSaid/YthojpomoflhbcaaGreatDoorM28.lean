/- nfa.builder: set. -/
import Derived.Test.YthojpomoflhbcaaGreatDoorM14
import Derived.Test.YthojpomoflhbcaaGreatDoorM18
import Derived.Test.YthojpomoflhbcaaGreatDoorM12
import Derived.Test.YthojpomoflhbcaaGreatDoorM13
set_option linter.unusedSimpArgs false
set_option linter.unusedVariables false
set_option linter.unnecessarySimpa false
namespace Go.Proofs.YthojpomoflhbcaaGreatDoor
open Go.RowKit
attribute [local go_sem ↓] Go.wp_at_zero Go.wp_at_succ
end Go.Proofs.YthojpomoflhbcaaGreatDoor
namespace Go.Proofs.YthojpomoflhbcaaGreatDoor
open Go.RowKit
def Sm400 (e:EdgeD):Prop:=(∀ g∈e.guards,g.nodes.length≤400)∧∀ b∈e.sets,b.expr.nodes.length≤400
theorem Sm400.small {e:EdgeD} (h:Sm400 e):SmallEd e:=⟨fun g hg=>by have:=h.1 g hg;omega,fun b hb=>by have:=h.2 b hb;omega⟩
theorem sm_attach {l:List Int} {n:NfaD} {base:Int} (h:∀ e∈n.edges,Sm400 e):∀ e∈attachL l n base,Sm400 e:=fun e he=>by
 obtain⟨s,_,he⟩:=List.mem_flatMap.1 he
 obtain⟨f,hf,rfl⟩:=List.mem_map.1 he
 exact h f (List.mem_filter.1 hf).1
theorem sm_rest {n:NfaD} {base:Int} (h:∀ e∈n.edges,Sm400 e):∀ e∈restL n base,Sm400 e:=fun e he=>by
 obtain⟨f,hf,rfl⟩:=List.mem_map.1 he
 exact h f (List.mem_filter.1 hf).1
theorem sm_nil (f t:Int):SmallEd ⟨f,t,[],[]⟩:=⟨fun g hg=>(by cases hg),fun b hb=>(by cases hb)⟩
theorem delay_sm {lo hi:Int} {x y:NfaD} (hx:∀ e∈x.edges,Sm400 e) (hy:∀ e∈y.edges,Sm400 e):SmallN (delayN lo hi x y):=by
 intro e he
 simp only[delayN,List.mem_append] at he
 rcases he with ((((he | he) | he) | he) | he) | he
 ·exact(hx e he).small
 ·split at he
  ·rcases List.mem_append.1 he with he | he
   ·obtain⟨a,_,rfl⟩:=List.mem_map.1 he;exact sm_nil _ _
   ·obtain⟨i,_,rfl⟩:=List.mem_map.1 he;exact sm_nil _ _
  ·cases he
 ·split at he
  ·obtain⟨g,hg,he⟩:=List.mem_flatMap.1 he
   split at he
   ·obtain⟨f,hf,rfl⟩:=List.mem_map.1 he
    have h1:=hx g hg
    have h2:=hy f (List.mem_filter.1 hf).1
    refine⟨fun z hz=>?_,fun b hb=>?_⟩
    ·rcases List.mem_append.1 hz with hz | hz
     ·have:=h1.1 z hz;omega
     ·obtain⟨z0,hz0,rfl⟩:=List.mem_map.1 hz
      have:=undoS_nodes h1.2 g.sets.length z0 (by have:=h2.1 z0 hz0;omega)
      omega
    ·rcases List.mem_append.1 hb with hb | hb
     ·have:=h1.2 b hb;omega
     ·have:=h2.2 b hb;omega
   ·cases he
  ·cases he
 ·split at he
  ·exact(sm_attach hy e he).small
  ·cases he
 ·obtain⟨i,_,he⟩:=List.mem_flatMap.1 he
  split at he
  ·exact(sm_attach hy e he).small
  ·cases he
 ·exact(sm_rest hy e he).small
theorem reg_400 {K:Nat} {n:NfaD} (h:RegN K n):∀ e∈n.edges,Sm400 e:=fun e he=>ok_small h.ok he
theorem bool_sm {x:Ex} (hx:x.nodes.length≤400):SmallN ⟨2,[⟨0,1,[x],[]⟩],[1]⟩:=fun e he=>by
 obtain rfl:=List.mem_singleton.1 he
 exact⟨fun g hg=>by obtain rfl:=List.mem_singleton.1 hg;omega,fun b hb=>by cases hb⟩
theorem own_one {w:World} {B g size:Nat} {t:TypeId} {vs:List Value} (hB:B≤g) (hl:vs.length=size) (h:w.heap[g]? = some (.cells vs.toArray t (0,0))):w.ownsRow B t size (.slice (some ⟨g,0,none⟩) 1 1) 1 vs :=
 ⟨by simpa using hl,.inr ⟨g,1,vs.toArray,rfl,hB,h,Nat.le_refl _,by unfold maxLen;omega,by simpa using hl,by simp[← hl]⟩⟩
theorem bool_bld {q:Nat→Bool} {wr W:World} {kb g1 g2 g3:Nat} {x:Ex} {xa:Option Addr} {xc:Nat} (hk:wr.heap.size≤kb) (h1:W.heap[g1]? = some (.cells #[.int .i64 x.op,.int .i64 x.n,.string x.name,.slice xa x.args.length xc] 24 (0,0)))
  (h2:W.heap[g2]? = some (.cells #[.int .i64 0,.int .i64 1,.slice (some ⟨g1,0,none⟩) 1 1,.slice none 0 0] 69 (0,0))) (h3:W.heap[g3]? = some (.cells #[.int .i64 1] 3 (0,0)))
  (hkb:W.heap[kb]? = some (.cells #[.int .i64 2,.slice (some ⟨g2,0,none⟩) 1 1,.slice (some ⟨g3,0,none⟩) 1 1,.bool false] 134 (0,0))) (hb:Below wr.heap.size wr W) (hx:ExIn (World.hide wr q) x xa xc) (hq:∀ j,q j=true→j < wr.heap.size) (hg:kb < g1∧g1 < g2∧g2 < g3) :
  BldP q kb wr ⟨2,[⟨0,1,[x],[]⟩],[1]⟩ (.returned (.tuple #[])) W:=by
 have hqo:∀ j,wr.heap.size≤j→q j=false:=fun j hj=>by
  cases h:q j with
  | false=>rfl
  | true=>have:=hq j h;omega
 have hqk:∀ j,j≠kb→wr.heap.size≤j→qk q kb j=false:=fun j hj hl=>by
  cases h:qk q kb j with
  | false=>rfl
  | true =>
   rcases qk_true.1 h with h | h
   ·rw[hqo j hl] at h;cases h
   ·exact absurd h hj
 have hk2:Kp (World.hide wr q) (World.hide W (hid (qk q kb) (.slice (some ⟨g2,0,none⟩) 1 1))):=hide_below hb fun j hj h=>by
  rcases hid_true.1 h with h | h
  ·rcases qk_true.1 h with h | h
   ·exact h
   ·omega
  ·have:=Option.some.inj h;simp only at this;omega
 refine⟨rfl,qk q kb,.slice (some ⟨g2,0,none⟩) 1 1,some ⟨g3,0,none⟩,1,fun j hj=>qk_true.2 (Or.inl hj),⟨hk,qk_true.2 (Or.inr rfl),hkb,⟨_,own_one (vs:=[.int .i64 0,.int .i64 1,.slice (some ⟨g1,0,none⟩) 1 1,.slice none 0 0]) (by omega) rfl h2,Enc.Vals.one ⟨some ⟨g1,0,none⟩,1,none,0,rfl,?_,Enc.In.nil _⟩⟩,hb⟩,?_⟩
 ·refine Enc.Vals.in (E:=exE) (Enc.Vals.one (E:=exE) (x:=x) ⟨xa,xc,rfl,hx.keep hk2⟩) (fun j v hj=>?_) (by simp) (Nat.le_refl _)
  refine cell_hide.2 ⟨?_,?_⟩
  ·show hid _ _ g1=false
   cases h:hid (qk q kb) (.slice (some ⟨g2,0,none⟩) 1 1) g1 with
   | false=>rfl
   | true =>
    rcases hid_true.1 h with h | h
    ·rw[hqk g1 (by omega) (by omega)] at h;cases h
    ·have:=Option.some.inj h;simp only at this;omega
  ·rw[cell_of_blkT h1,Nat.zero_add]
   simpa using hj
 ·refine⟨Nat.le_refl _,by simp,Or.inr ⟨g3,0,rfl,fun i hi=>?_⟩⟩
  have hi0:i=0:=by simpa using hi
  subst hi0
  refine⟨1,rfl,cell_hide.2 ⟨hqo _ (by show _≤g3;omega),?_⟩⟩
  rw[cell_of_blkT h3];rfl
end Go.Proofs.YthojpomoflhbcaaGreatDoor
