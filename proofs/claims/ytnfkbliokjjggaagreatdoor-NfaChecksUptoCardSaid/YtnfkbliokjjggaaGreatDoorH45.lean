/- ref41: together. -/
import Derived.Test.YtnfkbliokjjggaaGreatDoorH18
import Derived.Test.YtnfkbliokjjggaaGreatDoorH29
import Derived.Test.YtnfkbliokjjggaaGreatDoorH08
import Derived.Test.YtnfkbliokjjggaaGreatDoorH28
import Derived.Test.YtnfkbliokjjggaaGreatDoorH40
import Derived.Test.YtnfkbliokjjggaaGreatDoorH34
import Derived.Test.YtnfkbliokjjggaaGreatDoorH24
import Derived.OrdersHeld
import Derived.StillTail
set_option linter.unusedSimpArgs false
set_option linter.unusedVariables false
set_option linter.unnecessarySimpa false
namespace Go.Proofs.YtnfkbliokjjggaaGreatDoor
open Go.RowKit
attribute [local go_sem ↓] Go.wp_at_zero Go.wp_at_succ
theorem NbE.at {q:Nat->Bool} {k:Nat} {w0 w w':World} {st:Int} {L:List zk} {ve va:Value} (h:NbE q k w0 w st L ve va) (hg:w.grownBy w' ve.ownBlock):w'.heap[k]? = some (xW st ve va):=(hg.block k h.klt h.kne).trans h.blk
open Go
section
variable {P : Program} {ops : Array Oper} {Q : Exit → Act → World → Prop} {md : Region.Mode} {S : World → Prop} {brk : List Nat}
def x8 (P:Program) (md:Region.Mode) (ops:Array Oper) (Q:Exit->Act->World->Prop) (S:World->Prop) (brk:List Nat):Nat->Array Bool->Act->World->Prop
 |0,listed,a,w=>Region.ready md ops listed=[]/\Q .normal a w
 |fuel+1,listed,a,w =>
  (Region.ready md ops listed=[]->Q .normal a w) /\
  ∀i∈Region.ready md ops listed,wpOp P ops Q i (λa' w'=>(i∉brk->S w')/\x8 P md ops Q S brk fuel (listed.setIfInBounds i true) a' w') a w
theorem QH:∀(fuel:Nat) (listed:Array Bool) (a:Act) (w:World),x8 P md ops Q S brk fuel listed a w->wpAny P md ops Q fuel listed a w
 |0,_,_,_,h=>h
 |fuel+1,_,_,_,h=>⟨h.1,λi hi=>wpOp_mono (λa' w' h'=>QH fuel _ a' w' h'.2) (h.2 i hi)⟩
def ZI (md:Region.Mode) (ops:Array Oper) (listed:Array Bool):Prop:=∀j oj,ops[j]? = some oj->listed.getD j false=true->∀e∈oj.after,Region.binds md e=true->listed.getD e.on false=true
theorem ZI.set {i:Nat} {listed:Array Bool} (inv:ZI md ops listed) (hi:i∈Region.ready md ops listed):ZI md ops (listed.setIfInBounds i true):=by
 obtain⟨_,oi,hoi,hall⟩:=mem_ready.1 hi;intro j oj hj hl e he hb;by_cases hij:i=j
 ·subst hij;have:oj=oi:=Option.some.inj (hj.symm.trans hoi);subst this;exact getD_set_true (hall e he hb)
 ·rw[getD_set_ne false hij]at hl;exact getD_set_true (inv j oj hj hl e he hb)
def zhP (md:Region.Mode) (ops:Array Oper):Nat->Nat->Nat->Bool
 |0,_,_=>false
 |d+1,b,i=>Region.waitsFor md ops b i||(List.range ops.size).any λj=>Region.waitsFor md ops b j&&zhP md ops d j i
theorem zcX {listed:Array Bool} (inv:ZI md ops listed):∀(d b i:Nat),zhP md ops d b i=true->listed.getD b false=true->listed.getD i false=true:=by
 intro d
 induction d with
 |zero=>intro b i h;cases h
 |succ d ih =>
  intro b i h hb;have step:∀j,Region.waitsFor md ops b j=true->listed.getD j false=true:=λj hj=>by obtain⟨ob,hob,e,he,hbn,hon⟩:=Region.waitsFor_spec hj;have:=inv b ob hob hb e he hbn;rwa [hon]at this
  simp only[zhP,Bool.or_eq_true]at h;rcases h with h|h
  ·exact step i h
  ·obtain⟨j,_,hj⟩:=List.any_eq_true.1 h;simp only[Bool.and_eq_true]at hj;exact ih j i hj.2 (step j hj.1)
theorem zei {listed:Array Bool} (inv:ZI md ops listed) {d b i:Nat} (h:zhP md ops d b i=true) (hr:b∈Region.ready md ops listed) (hun:listed.getD i true=false):False:=by
 obtain⟨_,ob,hob,hall⟩:=mem_ready.1 hr;have hf:=getD_both hun;cases d with
 |zero=>cases h
 |succ d =>
  have step:∀j,Region.waitsFor md ops b j=true->listed.getD j false=true:=λj hj=>by obtain⟨ob',hob',e,he,hbn,hon⟩:=Region.waitsFor_spec hj;have:ob'=ob:=Option.some.inj (hob'.symm.trans hob);subst this;have:=hall e he hbn;rwa [hon]at this
  simp only[zhP,Bool.or_eq_true]at h;rcases h with h|h
  ·have:=step i h;rw[hf]at this;cases this
  ·obtain⟨j,_,hj⟩:=List.any_eq_true.1 h;simp only[Bool.and_eq_true]at hj;have:=zcX inv d j i hj.2 (step j hj.1);rw[hf]at this;cases this
theorem zbp {i d:Nat} {oi:Oper} {v:Value} (hi:ops[i]? = some oi) (hsel:∀(j:Nat) (o:Oper) cs b,ops[j]? = some o->o.op≠.select cs b)
 (hQ:∀c a w,Q (.panic c) (a.put oi.dst v) w->Q (.panic c) a w) (hbr:∀b∈brk,zhP md ops d b i=true) :
 ∀(fuel:Nat) (listed:Array Bool) (a:Act) (w:World),ZI md ops listed ->
  (∀j oj,ops[j]? = some oj->j≠i->listed.getD j true=false->(∀e∈oj.after,Region.binds md e=true->e.on≠i)->oi.apart ops oj=true) ->
  i∈Region.ready md ops listed->YieldsIf P ops S oi v a->S w ->
  x8 P md ops Q S brk fuel (listed.setIfInBounds i true) (a.put oi.dst v) w->x8 P md ops Q S brk (fuel+1) listed a w:=by
 intro fuel
 induction fuel with
 |zero =>
  intro listed a w _ _ hr hy hS H;refine⟨λh=>(by rw[h]at hr;cases hr),λj hj=>?_⟩;by_cases hji:j=i
  ·subst hji;exact hy.wpOp hi hS ⟨λ_=>hS,H⟩
  ·have:=ready_mono hj hji;rw[H.1]at this;cases this
 |succ fuel ih =>
  intro listed a w inv hfree hr hy hS H;refine⟨λh=>(by rw[h]at hr;cases hr),λj hj=>?_⟩;by_cases hji:j=i
  ·subst hji;exact hy.wpOp hi hS ⟨λ_=>hS,H⟩
  ·have h1:=H.2 j (ready_mono hj hji);have hjb:j∉brk:=λhb=>zei inv (hbr j hb) hj (mem_ready.1 hr).1;obtain⟨hjun,oj,hoj,hall⟩:=mem_ready.1 hj;have hnot:∀e∈oj.after,Region.binds md e=true->e.on≠i:=λe he hb heq=>by
    have h1:=hall e he hb;have h0:=(mem_ready.1 hr).1;rw[heq]at h1;rcases Nat.lt_or_ge i listed.size with h'|h'
    ·simp[h']at h0 h1;rw[h0]at h1;cases h1
    ·simp[Array.getElem?_eq_none h']at h1
   have h2:=wpOp_putIf hoj (hfree j oj hoj hji hjun hnot) (λcs b=>hsel i oi cs b hi) (λcs b=>hsel j oj cs b hoj) hQ hy h1
   have hfree':∀k ok,ops[k]? = some ok->k≠i->(listed.setIfInBounds j true).getD k true=false ->
    (∀e∈ok.after,Region.binds md e=true->e.on≠i)->oi.apart ops ok=true:=λk ok hk hki hun hno=>by
    refine hfree k ok hk hki ?_ hno;by_cases hjk:j=k
    ·subst hjk;exact hjun
    ·rw[getD_set_ne true hjk]at hun;exact hun
   refine wpOp_mono (λa' w' h3=>⟨h3.2.1,ih (listed.setIfInBounds j true) a' w' (inv.set hj) hfree' (ready_mono hr (Ne.symm hji)) h3.1 (h3.2.1 hjb) ?_⟩) h2;rw[Array.setIfInBounds_comm _ _ hji];exact h3.2.2
def zew (md:Region.Mode) (ops:Array Oper) (listed:Array Bool):Bool:=(List.range ops.size).all λj=>!listed.getD j false||match ops[j]? with|some oj=>oj.after.all λe=>!Region.binds md e||listed.getD e.on false|none=>true
theorem zaB {listed:Array Bool} (h:zew md ops listed=true):ZI md ops listed:=by intro j oj hj hl e he hb;have hlt:j<ops.size:=(Array.getElem?_eq_some_iff.1 hj).1;have h1:=List.all_eq_true.1 h j (List.mem_range.2 hlt);simp only[hj,hl,Bool.not_true,Bool.false_or]at h1;have h2:=(Array.all_eq_true_iff_forall_mem.1 h1) e he;simpa [hb] using h2
def takeB (md:Region.Mode) (ops:Array Oper) (brk:List Nat) (listed:Array Bool) (i:Nat):Bool :=
 Region.noSelect ops&&Region.free md ops listed i&&(Region.ready md ops listed).contains i&&zew md ops listed&&brk.all λb=>zhP md ops 6 b i
theorem zcb {i:Nat} {oi:Oper} {v:Value} {fuel:Nat} {listed:Array Bool} {a:Act} {w:World} (hi:ops[i]? = some oi) (hB:takeB md ops brk listed i=true)
 (hQ:∀c a w,Q (.panic c) (a.put oi.dst v) w->Q (.panic c) a w) (hy:YieldsIf P ops S oi v a) (hS:S w)
 (h:x8 P md ops Q S brk fuel (listed.setIfInBounds i true) (a.put oi.dst v) w):x8 P md ops Q S brk (fuel+1) listed a w:=by
 simp only[takeB,Bool.and_eq_true]at hB;obtain⟨⟨⟨⟨h1,h2⟩,h3⟩,h4⟩,h5⟩:=hB;exact zbp hi (Region.noSelect_spec h1) hQ (λb hb=>List.all_eq_true.1 h5 b hb) fuel listed a w (zaB h4) (Region.free_spec hi h2) (by simpa using h3) hy hS h
theorem zca {i:Nat} {o:Oper} {fuel:Nat} {listed:Array Bool} {a:Act} {w:World} (hi:ops[i]? = some o) (hr:Region.ready md ops listed=[i])
 (h:∀K:Act->World->Prop,(∀a' w',(i∉brk->S w')->x8 P md ops Q S brk fuel (listed.setIfInBounds i true) a' w'->K a' w')->if Region.wanted o (yielded ops a.tmps)=true then Oper.wp P o a w K Q else K (a.put o.dst undef) w) :
 x8 P md ops Q S brk (fuel+1) listed a w:=by
 refine⟨λh0=>(by rw[hr]at h0;cases h0),λj hj=>?_⟩;rw[hr]at hj;obtain rfl:j=i:=by simpa using hj
 unfold wpOp;simp only[hi];have h1:=h _ (λa' w' h1 h2=>(⟨h1,h2⟩:(j∉brk->S w')/\_));split
 ·rename_i hw;rw[if_pos hw]at h1;exact Or.inl h1
 ·rename_i hw;rw[if_neg hw]at h1;exact h1
theorem zb9 {listed:Array Bool} {a:Act} {w:World} (hr:Region.ready md ops listed=[]) (h:Q .normal a w):∀fuel,x8 P md ops Q S brk fuel listed a w
 |0=>⟨hr,h⟩
 |_+1=>⟨λ_=>h,by rw[hr];simp⟩
theorem zd4 {id:Nat} {a:Act} {w:World} (S:World->Prop) (brk:List Nat) (hm:P.follows .mixedOrders=true)
 (h:x8 P .any ops Q S brk ops.size (Array.replicate ops.size false) a w.drew):(Code.region id ops true).wp P Q a w :=
 wp_region_any hm (QH _ _ _ _ h)
def zij:List Oper->Nat->Option Oper
 | [],_=>none
 |o::_,0=>some o
 |_::l,i+1=>zij l i
theorem zbQ:∀(l:List Oper) (i:Nat),zij l i=l.toArray[i]?
 | [],_=>by simp[zij]
 |o::_,0=>by simp[zij]
 |_::l,i+1=>by have:=zbQ l i;simp only[zij,this];simp
theorem YL {l:List Oper} (i:Nat) {oi:Oper} {v:Value} {fuel:Nat} {listed:Array Bool} {a:Act} {w:World} (hS:S w) (hi:zij l i=some oi) (hB:takeB md l.toArray brk listed i=true) (hw:Region.wanted oi (yielded l.toArray a.tmps)=true)
 (hQ:∀c a w,Q (.panic c) (a.put oi.dst v) w->Q (.panic c) a w) (hy:∀w,S w->(execOp a.eval oi).run P w=.ok (.value v) w)
 (h:x8 P md l.toArray Q S brk fuel (listed.setIfInBounds i true) (a.put oi.dst v) w):x8 P md l.toArray Q S brk (fuel+1) listed a w :=
 zcb ((zbQ l i).symm.trans hi) hB hQ (Or.inl ⟨hw,hy⟩) hS h
theorem zfJ {l:List Oper} (i:Nat) {o:Oper} {fuel:Nat} {listed:Array Bool} {a:Act} {w:World} (hi:zij l i=some o) (hr:Region.ready md l.toArray listed=[i])
 (h:∀K:Act->World->Prop,(∀a' w',(i∉brk->S w')->x8 P md l.toArray Q S brk fuel (listed.setIfInBounds i true) a' w'->K a' w')->if Region.wanted o (yielded l.toArray a.tmps)=true then Oper.wp P o a w K Q else K (a.put o.dst undef) w) :
 x8 P md l.toArray Q S brk (fuel+1) listed a w:=zca ((zbQ l i).symm.trans hi) hr h
theorem ziw {id:Nat} {l:List Oper} {a:Act} {w:World} (S:World->Prop) (brk:List Nat) (hm:P.follows .mixedOrders=true) {n:Nat} (hn:l.length=n)
 (h:x8 P .any l.toArray Q S brk n (List.replicate n false).toArray a w.drew):(Code.region id l.toArray true).wp P Q a w:=by
 subst hn;refine zd4 S brk hm ?_;have e:Array.replicate l.toArray.size false=(List.replicate l.length false).toArray:=by simp
 rw[e];simpa using h
end
end Go.Proofs.YtnfkbliokjjggaaGreatDoor
