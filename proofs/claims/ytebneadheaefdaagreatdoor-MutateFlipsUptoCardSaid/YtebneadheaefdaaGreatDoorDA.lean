/- design: the order of wires, plain. -/
import Derived.Test.YtebneadheaefdaaGreatDoorKB
import Derived.Test.YtebneadheaefdaaGreatDoorKF
set_option linter.unusedSimpArgs false
set_option linter.unusedVariables false
set_option linter.unnecessarySimpa false
namespace Go.Proofs.YtebneadheaefdaaGreatDoor
def readyB (nd:Nat→List Nat) (out:List Nat) (i:Nat):Bool:=(nd i).all fun k=>out.contains k
def nextO (n:Nat) (nd:Nat→List Nat) (out:List Nat):Option Nat:=(List.range n).find? fun i=>!out.contains i && readyB nd out i
def stepO (n:Nat) (nd:Nat→List Nat) (out:List Nat):List Nat:=match nextO n nd out with
 | none=>out
 | some i=>out++[i]
def orderO (n:Nat) (nd:Nat→List Nat):Nat→List Nat
 | 0=>[]
 | k+1=>stepO n nd (orderO n nd k)
theorem nextO_some {n:Nat} {nd:Nat→List Nat} {out:List Nat} {i:Nat} (h:nextO n nd out=some i):i < n∧i∉out∧readyB nd out i=true:=by
 unfold nextO at h
 have h1:=List.mem_of_find?_eq_some h
 have h2:=List.find?_some h
 simp only[Bool.and_eq_true,Bool.not_eq_true',List.contains_eq_mem,decide_eq_false_iff_not] at h2
 exact⟨by simpa using h1,h2.1,h2.2⟩
theorem orderO_stuck {n:Nat} {nd:Nat→List Nat} {k:Nat} (h:nextO n nd (orderO n nd k)=none):∀ j,orderO n nd (k+j)=orderO n nd k:=by
 intro j
 induction j with
 | zero=>rfl
 | succ j ih =>
  show stepO n nd (orderO n nd (k+j))=_
  rw[ih]
  unfold stepO
  rw[h]
theorem orderO_next {n:Nat} {nd:Nat→List Nat} {k i:Nat} (h:nextO n nd (orderO n nd k)=some i):orderO n nd (k+1)=orderO n nd k++[i]:=by
 show stepO n nd (orderO n nd k)=_
 unfold stepO
 rw[h]
theorem orderO_ok (n:Nat) (nd:Nat→List Nat):∀ k,(orderO n nd k).length≤k∧(orderO n nd k).Nodup∧∀ i∈orderO n nd k,i < n:=by
 intro k
 induction k with
 | zero=>simp[orderO]
 | succ k ih =>
  obtain⟨h1,h2,h3⟩:=ih
  cases hn:nextO n nd (orderO n nd k) with
  | none=>rw[orderO_stuck hn 1];exact⟨by omega,h2,h3⟩
  | some i =>
   obtain⟨g1,g2,g3⟩:=nextO_some hn
   rw[orderO_next hn]
   refine⟨by simp;omega,?_,fun j hj=>?_⟩
   ·rw[List.nodup_append]
    refine⟨h2,by simp,fun a ha b hb=>?_⟩
    simp at hb
    subst hb
    exact fun e=>g2 (e ▸ ha)
   ·simp at hj
    rcases hj with hj | rfl
    ·exact h3 j hj
    ·exact g1
theorem orderO_short {n:Nat} {nd:Nat→List Nat} {k:Nat} (hk:k < n) (h:nextO n nd (orderO n nd k)=none):(orderO n nd n).length < n:=by
 have:=orderO_stuck h (n - k)
 rw[show k+(n - k)=n by omega] at this
 rw[this]
 have:=(orderO_ok n nd k).1
 omega
end Go.Proofs.YtebneadheaefdaaGreatDoor
namespace Go.Proofs.YtebneadheaefdaaGreatDoor
structure PortD where
 name:ByteArray
 width:Int
structure WireD where
 name:ByteArray
 width:Int
 expr:Ex
structure RegD where
 name:ByteArray
 width:Int
 init:Int
 next:Ex
structure DesD where
 name:ByteArray
 inputs:List PortD
 wires:List WireD
 regs:List RegD
 outputs:List ByteArray
def DesD.names (d:DesD):List ByteArray:=d.inputs.map (·.name)++d.wires.map (·.name)++d.regs.map (·.name)
def DesD.widths (d:DesD):List Int:=d.inputs.map (·.width)++d.wires.map (·.width)++d.regs.map (·.width)
def DesD.exprs (d:DesD):List Ex:=d.wires.map (·.expr)++d.regs.map (·.next)
def DesD.inner (d:DesD):List ByteArray:=d.wires.map (·.name)++d.regs.map (·.name)
def idxT:List ByteArray→ByteArray→Option Nat
 | [],_=>none
 | x::l,s=>if x.toList=s.toList then some 0 else (idxT l s).map (·+1)
theorem idxT_none {l:List ByteArray} {s:ByteArray}:idxT l s=none↔∀ x∈l,¬ x.toList=s.toList:=by
 induction l with
 | nil=>simp[idxT]
 | cons x l ih =>
  unfold idxT
  by_cases h:x.toList=s.toList
  ·rw[if_pos h];simp[h]
  ·rw[if_neg h];simp[h,ih]
theorem idxT_some {l:List ByteArray} {s:ByteArray} {k:Nat} (h:idxT l s=some k):∃ hk:k < l.length,(l[k]'hk).toList=s.toList∧∀ j (hj:j < k),¬ (l[j]'(by omega)).toList=s.toList:=by
 induction l generalizing k with
 | nil=>simp[idxT] at h
 | cons x l ih =>
  unfold idxT at h
  by_cases hx:x.toList=s.toList
  ·rw[if_pos hx] at h
   obtain rfl:=Option.some.inj h
   exact⟨by simp,by simpa using hx,fun j hj=>by omega⟩
  ·rw[if_neg hx] at h
   obtain⟨k',hk',rfl⟩:=Option.map_eq_some_iff.1 h
   obtain⟨h1,h2,h3⟩:=ih hk'
   refine⟨by simpa using h1,by simpa using h2,fun j hj=>?_⟩
   cases j with
   | zero=>simpa using hx
   | succ j=>simpa using h3 j (by omega)
def dupT:List ByteArray→Bool
 | []=>false
 | x::l=>(l.any fun y=>decide (y.toList=x.toList)) || dupT l
theorem dupT_false {l:List ByteArray}:dupT l=false↔∀ i j (hi:i < l.length) (hj:j < l.length),(l[i]'hi).toList=(l[j]'hj).toList→i=j:=by
 induction l with
 | nil=>simp[dupT]
 | cons x l ih =>
  unfold dupT
  rw[Bool.or_eq_false_iff,ih,List.any_eq_false]
  constructor
  ·rintro ⟨h1,h2⟩ i j hi hj he
   cases i with
   | zero =>
    cases j with
    | zero=>rfl
    | succ j =>
     simp only[List.getElem_cons_zero,List.getElem_cons_succ] at he
     exact absurd (decide_eq_true he.symm) (h1 _ (List.getElem_mem (by simpa using hj)))
   | succ i =>
    cases j with
    | zero =>
     simp only[List.getElem_cons_zero,List.getElem_cons_succ] at he
     exact absurd (decide_eq_true he) (h1 _ (List.getElem_mem (by simpa using hi)))
    | succ j =>
     simp only[List.getElem_cons_succ] at he
     rw[h2 i j (by simpa using hi) (by simpa using hj) he]
  ·intro h
   refine⟨fun y hy=>?_,fun i j hi hj he=>?_⟩
   ·obtain⟨k,hk,rfl⟩:=List.getElem_of_mem hy
    intro hd
    have:=h (k+1) 0 (by simpa using hk) (by simp) (by simpa using of_decide_eq_true hd)
    omega
   ·have:=h (i+1) (j+1) (by simpa using hi) (by simpa using hj) (by simpa using he)
    omega
theorem idxT_at {l:List ByteArray} (h:dupT l=false) {i:Nat} (hi:i < l.length):idxT l (l[i]'hi)=some i:=by
 cases hx:idxT l (l[i]'hi) with
 | none=>exact absurd rfl (idxT_none.1 hx _ (List.getElem_mem hi))
 | some k =>
  obtain⟨hk,h1,_⟩:=idxT_some hx
  rw[dupT_false.1 h k i hk hi h1]
theorem dupT_append {a b:List ByteArray} (h:dupT (a++b)=false):dupT a=false∧dupT b=false:=by
 rw[dupT_false] at h
 refine⟨dupT_false.2 fun i j hi hj he=>h i j (by simp;omega) (by simp;omega) ?_,dupT_false.2 fun i j hi hj he=>?_⟩
 ·rwa [List.getElem_append_left hi,List.getElem_append_left hj]
 ·have:=h (a.length+i) (a.length+j) (by simp;omega) (by simp;omega) (by
   rw[List.getElem_append_right (by omega),List.getElem_append_right (by omega)]
   simpa using he)
  omega
def DesD.wireIdx (d:DesD) (s:ByteArray):Option Nat:=idxT (d.wires.map (·.name)) s
noncomputable def DesD.needs (d:DesD) (i:Nat):List Nat:=match d.wires[i]? with
 | none=>[]
 | some w=>(namesS [2] w.expr).filterMap d.wireIdx
noncomputable def DesD.order (d:DesD):List Nat:=orderO d.wires.length d.needs d.wires.length
noncomputable def exprErr (names:List ByteArray) (e:Ex):Int :=
 if validS e≠0 then validS e else if (namesS [3,24] e).length > 0 then 9 else if (namesS [2] e).all (fun s=>(idxT names s).isSome)=true then 0 else 7
def firstErr:List Int→Int
 | []=>0
 | e::l=>if e≠0 then e else firstErr l
theorem firstErr_zero {l:List Int}:firstErr l=0↔∀ e∈l,e=0:=by
 induction l with
 | nil=>simp[firstErr]
 | cons e l ih =>
  unfold firstErr
  by_cases h:e=0
  ·rw[if_neg (by simpa using h)];simp[h,ih]
  ·rw[if_pos h];simp[h]
def DesD.sigErr (d:DesD):Int :=
 if nameB d.name.data.toList=false∨(d.names.all fun s=>nameB s.data.toList)=false then 7
 else if d.names.length > 48 then 2
 else if dupT d.names=true then 8
 else if (d.widths.any fun w=>decide (w < 1∨w > 16))=true then 1
 else if (d.regs.any fun r=>decide (r.init < 0∨r.init≥2 ^ r.width.toNat))=true then 1
 else 0
def outErr (inner:List ByteArray):List ByteArray→List ByteArray→Int
 | _,[]=>0
 | seen,s::l=>if (idxT inner s).isSome=false then 7 else if (idxT seen s).isSome=true then 8 else outErr inner (seen++[s]) l
noncomputable def DesD.err (d:DesD):Int:=firstErr [d.sigErr,firstErr (d.exprs.map (exprErr d.names)),outErr d.inner [] d.outputs,if d.order.length < d.wires.length then 10 else 0]
end Go.Proofs.YtebneadheaefdaaGreatDoor
namespace Go.Proofs.YtebneadheaefdaaGreatDoor
def arrFree (e:Ex):Prop:=∀ x∈e.nodes,¬ x.op=3∧¬ x.op=24
theorem arrFree_arg {e x:Ex} (h:arrFree e) (hx:x∈e.args):arrFree x:=fun y hy=>h y (by
 rw[Ex.nodes_eq]
 exact List.mem_cons_of_mem _ (List.mem_flatten.2 ⟨_,List.mem_map.2 ⟨x,hx,rfl⟩,hy⟩))
theorem agree_arg {f g:ByteArray→Option Int} {e x:Ex} (h:∀ y∈e.nodes,y.op=2→f y.name=g y.name) (hx:x∈e.args):∀ y∈x.nodes,y.op=2→f y.name=g y.name:=fun y hy=>h y (by
 rw[Ex.nodes_eq]
 exact List.mem_cons_of_mem _ (List.mem_flatten.2 ⟨_,List.mem_map.2 ⟨x,hx,rfl⟩,hy⟩))
theorem self_node (e:Ex):e∈e.nodes:=by rw[Ex.nodes_eq];exact List.mem_cons_self
theorem valueS_agree {env env':List (ByteArray × Int)} (e:Ex):arrFree e→(∀ x∈e.nodes,x.op=2→findS env x.name=findS env' x.name)→valueS env e=valueS env' e:=by
 induction e using Ex.ind with
 | h e ih =>
  intro ha hf
  rw[valueS_eq,valueS_eq]
  obtain⟨h3,h24⟩:=ha e (self_node e)
  have hl:e.args.map (valueS env)=e.args.map (valueS env'):=List.map_congr_left fun x hx=>ih x hx (arrFree_arg ha hx) (agree_arg (f:=findS env) (g:=findS env') hf hx)
  rw[if_neg h3,if_neg h24,if_neg h3,if_neg h24,hl]
  by_cases h2:e.op=2
  ·rw[hf e (self_node e) h2]
  ·simp[h2]
theorem knownA_agree {env env':List (ByteArray × Int)} (e:Ex) (ha:arrFree e) (hf:∀ x∈e.nodes,x.op=2→findS env x.name=findS env' x.name):knownA env e=knownA env' e:=by
 unfold knownA
 rw[Bool.eq_iff_iff,List.all_eq_true,List.all_eq_true]
 refine forall_congr' fun x=>forall_congr' fun hx=>?_
 unfold knownN
 obtain⟨h3,h24⟩:=ha x hx
 by_cases h2:x.op=2
 ·rw[if_pos h2,if_pos h2,hf x hx h2]
 ·simp[h2,h3,h24]
theorem arrFree_iff {e:Ex}:(namesS [3,24] e).length=0↔arrFree e:=by
 unfold namesS arrFree
 suffices h:∀ (l:List Ex) (st:List ByteArray),(l.foldl (addName [3,24]) st).length=0↔st.length=0∧∀ x∈l,¬ x.op=3∧¬ x.op=24 by
  have:=h e.nodes []
  simpa using this
 intro l
 induction l with
 | nil=>intro st;simp
 | cons x l ih =>
  intro st
  rw[List.foldl_cons,ih]
  unfold addName
  by_cases hc:[3,24].contains x.op=true
  ·have hx:x.op=3∨x.op=24:=by simpa using hc
   cases hs:Lib.containsS st x.name
   ·rw[if_pos ⟨hc,rfl⟩]
    constructor
    ·rintro ⟨h,_⟩;simp at h
    ·rintro ⟨_,h⟩
     have:=h x List.mem_cons_self
     rcases hx with hx | hx
     ·exact absurd hx this.1
     ·exact absurd hx this.2
   ·rw[if_neg (by simp)]
    have hm:=(Lib.containsS_iff st x.name).1 hs
    constructor
    ·rintro ⟨h,_⟩
     have:=List.length_pos_of_mem hm
     omega
    ·rintro ⟨h,_⟩
     have:=List.length_pos_of_mem hm
     omega
  ·rw[if_neg (fun h=>hc h.1)]
   have hx:¬ x.op=3∧¬ x.op=24:=by simpa using hc
   simp[hx]
theorem names2_mem {e x:Ex} (hx:x∈e.nodes) (h2:x.op=2):x.name∈namesS [2] e:=by
 unfold namesS
 suffices h:∀ (l:List Ex) (st:List ByteArray),(x∈l∨x.name∈st)→x.name∈l.foldl (addName [2]) st from h _ _ (Or.inl hx)
 intro l
 induction l with
 | nil=>intro st h;rcases h with h | h;cases h;exact h
 | cons y l ih =>
  intro st h
  rw[List.foldl_cons]
  refine ih _ ?_
  rcases h with h | h
  ·rcases List.mem_cons.1 h with rfl | h
   ·refine Or.inr ?_
    unfold addName
    cases hs:Lib.containsS st x.name
    ·rw[if_pos ⟨by simp[h2],rfl⟩];simp
    ·rw[if_neg (by simp)]
     exact(Lib.containsS_iff st x.name).1 hs
   ·exact Or.inl h
  ·refine Or.inr ?_
   unfold addName
   split
   ·simp[h]
   ·exact h
end Go.Proofs.YtebneadheaefdaaGreatDoor
namespace Go.Proofs.YtebneadheaefdaaGreatDoor
theorem findS_nil_iff {l:List (ByteArray × Int)} {s:ByteArray}:findS l s=none↔∀ x∈l,¬ x.1.toList=s.toList:=by
 induction l with
 | nil=>simp[findS]
 | cons x l ih =>
  unfold findS
  by_cases h:x.1.toList=s.toList
  ·rw[if_pos (by simpa using h)];simp[h]
  ·rw[if_neg (by simpa using h),ih];simp[h]
theorem findS_entry {l:List (ByteArray × Int)} {s:ByteArray} {v:Int} (h:findS l s=some v):∃ x∈l,x.1.toList=s.toList∧v=wrapW x.2:=by
 induction l with
 | nil=>simp[findS] at h
 | cons x l ih =>
  unfold findS at h
  by_cases hx:x.1.toList=s.toList
  ·rw[if_pos (by simpa using hx)] at h
   exact⟨x,List.mem_cons_self,hx,(Option.some.inj h).symm⟩
  ·rw[if_neg (by simpa using hx)] at h
   obtain⟨y,hy,h1,h2⟩:=ih h
   exact⟨y,List.mem_cons_of_mem _ hy,h1,h2⟩
theorem findS_mem {l:List (ByteArray × Int)} (hd:dupT (l.map (·.1))=false) {x:ByteArray × Int} (hx:x∈l) {s:ByteArray} (hs:x.1.toList=s.toList):findS l s=some (wrapW x.2):=by
 cases h:findS l s with
 | none=>exact absurd hs (findS_nil_iff.1 h x hx)
 | some v =>
  obtain⟨y,hy,h1,rfl⟩:=findS_entry h
  obtain⟨i,hi,rfl⟩:=List.getElem_of_mem hx
  obtain⟨j,hj,rfl⟩:=List.getElem_of_mem hy
  have:=dupT_false.1 hd i j (by simpa using hi) (by simpa using hj) (by simpa using hs.trans h1.symm)
  subst this
  rfl
theorem findS_same {l m:List (ByteArray × Int)} (hl:dupT (l.map (·.1))=false) (s:ByteArray) (h1:∀ x∈m,x.1.toList=s.toList→x∈l) (h2:∀ x∈l,x.1.toList=s.toList→∃ y∈m,y.1.toList=s.toList):findS l s=findS m s:=by
 cases h:findS m s with
 | none =>
  refine findS_nil_iff.2 fun x hx hs=>?_
  obtain⟨y,hy,h3⟩:=h2 x hx hs
  exact findS_nil_iff.1 h y hy h3
 | some v =>
  obtain⟨y,hy,h3,rfl⟩:=findS_entry h
  exact findS_mem hl (h1 y hy h3) h3
end Go.Proofs.YtebneadheaefdaaGreatDoor
namespace Go.Proofs.YtebneadheaefdaaGreatDoor
abbrev Sigs:=List (ByteArray × Int)
def refE (nm:Nat→ByteArray) (val:Sigs→Nat→Int) (base:Sigs) (os:List Nat):Sigs:=os.foldl (fun env i=>env++[(nm i,val env i)]) base
def prgE (first:Nat) (nm:Nat→ByteArray) (val:Sigs→Nat→Int) (start:Sigs) (os:List Nat):Sigs:=os.foldl (fun env i=>env.set (first+i) (nm i,val env i)) start
structure SetRel (n first:Nat) (nm:Nat→ByteArray) (start p r:Sigs) (os:List Nat):Prop where
 names:p.map (·.1)=start.map (·.1)
 sub:∀ x∈r,x∈p
 rest:∀ x∈p,x∈r∨∃ i,i < n∧i∉os∧x.1=nm i
 off:∀ x∈r,∀ j,j < n→j∉os→¬ x.1.toList=(nm j).toList
theorem SetRel.find {n first:Nat} {nm:Nat→ByteArray} {start p r:Sigs} {os:List Nat} (h:SetRel n first nm start p r os) (hd:dupT (start.map (·.1))=false) {s:ByteArray} (hs:∀ j,j < n→j∉os→¬ (nm j).toList=s.toList):findS p s=findS r s:=by
 refine findS_same (by rw[h.names];exact hd) s (fun x hx _=>h.sub x hx) fun x hx he=>?_
 rcases h.rest x hx with h1 | ⟨i,h1,h2,h3⟩
 ·exact⟨x,h1,he⟩
 ·rw[h3] at he
  exact absurd he (hs i h1 h2)
theorem SetRel.step {n first:Nat} {nm:Nat→ByteArray} {start p r:Sigs} {os:List Nat} {i:Nat} {v:Int} (h:SetRel n first nm start p r os) (hd:dupT (start.map (·.1))=false) (hat:∀ j,j < n→(start.map (·.1))[first+j]? = some (nm j)) (hi:i < n) (hio:i∉os) :
  SetRel n first nm start (p.set (first+i) (nm i,v)) (r++[(nm i,v)]) (os++[i]):=by
 have hpn:∀ j,j < n→∃ hj:first+j < p.length,(p[first+j]'hj).1=nm j:=fun j hj=>by
  have h1:=hat j hj
  rw[← h.names,List.getElem?_map] at h1
  obtain⟨x,hx,hx1⟩:=Option.map_eq_some_iff.1 h1
  obtain⟨h2,h3⟩:=List.getElem?_eq_some_iff.1 hx
  exact⟨h2,by rw[h3];exact hx1⟩
 obtain⟨hil,hin⟩:=hpn i hi
 have hne:∀ j,j < n→¬ j=i→¬ (nm i).toList=(nm j).toList:=fun j hj hji he=>by
  obtain⟨hjl,hjn⟩:=hpn j hj
  have hd':dupT (p.map (·.1))=false:=by rw[h.names];exact hd
  have:=dupT_false.1 hd' (first+i) (first+j) (by simpa using hil) (by simpa using hjl) (by simp[hin,hjn,he])
  omega
 refine⟨?_,fun x hx=>?_,fun x hx=>?_,fun x hx j hj hjo=>?_⟩
 ·rw[← h.names,List.map_set]
  apply List.ext_getElem?
  intro k
  rw[List.getElem?_set]
  split
  ·rename_i hk
   subst hk
   rw[if_pos (by simpa using hil),List.getElem?_map,List.getElem?_eq_getElem hil]
   simp[hin]
  ·rfl
 ·rcases List.mem_append.1 hx with hx | hx
  ·obtain⟨k,hk,rfl⟩:=List.getElem_of_mem (h.sub x hx)
   have hki:¬ first+i=k:=fun e=>by
    subst e
    exact h.off _ hx i hi hio (by rw[hin])
   refine List.mem_iff_getElem.2 ⟨k,by simpa using hk,?_⟩
   rw[List.getElem_set_ne hki]
  ·rw[List.mem_singleton.1 hx]
   exact List.mem_iff_getElem.2 ⟨first+i,by simpa using hil,by simp⟩
 ·obtain⟨k,hk,rfl⟩:=List.getElem_of_mem hx
  by_cases hki:first+i=k
  ·subst hki
   left
   simp
  ·rw[List.getElem_set_ne hki]
   rcases h.rest _ (List.getElem_mem (by simpa using hk)) with h1 | ⟨j,h1,h2,h3⟩
   ·exact Or.inl (List.mem_append_left _ h1)
   ·refine Or.inr ⟨j,h1,fun hm=>?_,h3⟩
    rcases List.mem_append.1 hm with hm | hm
    ·exact h2 hm
    ·obtain rfl:=List.mem_singleton.1 hm
     have hd':dupT (p.map (·.1))=false:=by rw[h.names];exact hd
     have:=dupT_false.1 hd' (first+j) k (by simpa using hil) (by simpa using hk) (by simp[hin,h3])
     exact hki this
 ·rcases List.mem_append.1 hx with hx | hx
  ·exact h.off x hx j hj (fun hm=>hjo (List.mem_append_left _ hm))
  ·rw[List.mem_singleton.1 hx]
   exact hne j hj (fun e=>hjo (by rw[e];simp))
theorem refE_succ {nm:Nat→ByteArray} {val:Sigs→Nat→Int} {base:Sigs} {os:List Nat} {k:Nat} (hk:k < os.length):refE nm val base (os.take (k+1))=refE nm val base (os.take k)++[(nm (os[k]'hk),val (refE nm val base (os.take k)) (os[k]'hk))]:=by
 unfold refE
 rw[List.take_succ_eq_append_getElem hk,List.foldl_append]
 rfl
theorem prgE_succ {first:Nat} {nm:Nat→ByteArray} {val:Sigs→Nat→Int} {start:Sigs} {os:List Nat} {k:Nat} (hk:k < os.length):prgE first nm val start (os.take (k+1))=(prgE first nm val start (os.take k)).set (first+os[k]'hk) (nm (os[k]'hk),val (prgE first nm val start (os.take k)) (os[k]'hk)):=by
 unfold prgE
 rw[List.take_succ_eq_append_getElem hk,List.foldl_append]
 rfl
theorem SetRel.all {n first:Nat} {nm:Nat→ByteArray} {val:Sigs→Nat→Int} {start base:Sigs} {os:List Nat} (hd:dupT (start.map (·.1))=false) (hat:∀ j,j < n→(start.map (·.1))[first+j]? = some (nm j)) (hn:os.Nodup) (hlt:∀ i∈os,i < n)
  (h0:SetRel n first nm start start base []) (hval:∀ k (hk:k < os.length) (p r:Sigs),(∀ s,(∀ j,j < n→j∉os.take k→¬ (nm j).toList=s.toList)→findS p s=findS r s)→val p (os[k]'hk)=val r (os[k]'hk)) :
  ∀ k,k≤os.length→SetRel n first nm start (prgE first nm val start (os.take k)) (refE nm val base (os.take k)) (os.take k):=by
 intro k
 induction k with
 | zero=>intro _;simpa [prgE,refE] using h0
 | succ k ih =>
  intro hk
  have h:=ih (by omega)
  have hk':k < os.length:=by omega
  have hnot:os[k]'hk'∉os.take k:=fun hm=>by
   obtain⟨j,hj,he⟩:=List.getElem_of_mem hm
   rw[List.getElem_take] at he
   have hj':j < k:=by simp at hj;omega
   have:=(List.getElem_inj (h₀:=by omega) (h₁:=hk') hn).1 he
   omega
  rw[refE_succ hk',prgE_succ hk',← hval k hk' _ _ (fun s hs=>h.find hd hs),List.take_succ_eq_append_getElem hk']
  exact h.step hd hat (hlt _ (List.getElem_mem hk')) hnot
end Go.Proofs.YtebneadheaefdaaGreatDoor
