/- The simulation of a design, plain: both ways to settle give the same signals. -/
import Derived.Test.YtebneadheaefdaaGreatDoorDA
set_option linter.unusedSimpArgs false
set_option linter.unusedVariables false
set_option linter.unnecessarySimpa false
namespace Go.Proofs.YtebneadheaefdaaGreatDoor
structure DesOk (d:DesD):Prop where
 names:dupT d.names=false
 len:d.names.length≤48
 widths:∀ w∈d.widths,1≤w∧w≤16
 inits:∀ r∈d.regs,0≤r.init∧r.init < 2 ^ r.width.toNat
 exprs:∀ e∈d.exprs,validS e=0∧arrFree e∧∀ s∈namesS [2] e,(idxT d.names s).isSome=true
 order:d.order.length=d.wires.length
theorem exprErr_zero {names:List ByteArray} {e:Ex} (h:exprErr names e=0):validS e=0∧arrFree e∧∀ s∈namesS [2] e,(idxT names s).isSome=true:=by
 unfold exprErr at h
 by_cases h1:validS e=0
 ·rw[if_neg (by simpa using h1)] at h
  by_cases h2:(namesS [3,24] e).length > 0
  ·rw[if_pos h2] at h;simp at h
  ·rw[if_neg h2] at h
   refine⟨h1,arrFree_iff.1 (by omega),?_⟩
   by_cases h3:((namesS [2] e).all fun s=>(idxT names s).isSome)=true
   ·exact List.all_eq_true.1 h3
   ·rw[if_neg h3] at h;simp at h
 ·rw[if_pos h1] at h;exact absurd h h1
theorem desOk_of_err {d:DesD} (h:d.err=0):DesOk d:=by
 unfold DesD.err at h
 rw[firstErr_zero] at h
 have hs:=h d.sigErr (by simp)
 have he:=h (firstErr (d.exprs.map (exprErr d.names))) (by simp)
 have ho:=h (if d.order.length < d.wires.length then 10 else 0) (by simp)
 unfold DesD.sigErr at hs
 split at hs
 ·simp at hs
 ·split at hs
  ·simp at hs
  ·rename_i h2
   split at hs
   ·simp at hs
   ·rename_i h3
    split at hs
    ·simp at hs
    ·rename_i h4
     split at hs
     ·simp at hs
     ·rename_i h5
      rw[firstErr_zero] at he
      refine⟨by simpa using h3,by omega,fun w hw=>?_,fun r hr=>?_,fun e hx=>exprErr_zero (he _ (List.mem_map.2 ⟨e,hx,rfl⟩)),?_⟩
      ·have h4':(d.widths.any fun w=>decide (w < 1∨w > 16))=false:=by simpa using h4
       have:=List.any_eq_false.1 h4' w hw
       simp only[decide_eq_true_eq] at this
       omega
      ·have h5':(d.regs.any fun r=>decide (r.init < 0∨r.init≥2 ^ r.width.toNat))=false:=by simpa using h5
       have:=List.any_eq_false.1 h5' r hr
       simp only[decide_eq_true_eq] at this
       omega
      ·have h6:=(orderO_ok d.wires.length d.needs d.wires.length).1
       have h7:d.order.length≤d.wires.length:=h6
       by_cases h8:d.order.length < d.wires.length
       ·rw[if_pos h8] at ho;simp at ho
       ·omega
def cutW (n width:Int):Int:=wrapW n % 2 ^ width.toNat
theorem cutW_lo (n width:Int):0≤cutW n width:=Int.emod_nonneg _ (by have:(0:Int) < 2 ^ width.toNat:=Int.pow_pos (by decide);omega)
theorem cutW_hi (n width:Int):cutW n width < 2 ^ width.toNat:=Int.emod_lt_of_pos _ (Int.pow_pos (by decide))
def valS:Sigs→ByteArray→Option Int
 | [],_=>none
 | x::l,s=>if x.1.toList=s.toList then some x.2 else valS l s
theorem valS_none {l:Sigs} {s:ByteArray}:valS l s=none↔∀ x∈l,¬ x.1.toList=s.toList:=by
 induction l with
 | nil=>simp[valS]
 | cons x l ih =>
  unfold valS
  by_cases h:x.1.toList=s.toList
  ·rw[if_pos h];simp[h]
  ·rw[if_neg h,ih];simp[h]
def inputV (p:PortD) (inp:Sigs):Int:=match valS inp p.name with
 | some v=>cutW v p.width
 | none=>0
def DesD.ins (d:DesD) (inp:Sigs):Sigs:=d.inputs.map fun p=>(p.name,inputV p inp)
def DesD.sts (d:DesD) (st:List Int):Sigs:=List.zipWith (fun r v=>(r.name,v)) d.regs st
def startS (d:DesD) (st:List Int) (inp:Sigs):Sigs:=d.ins inp++d.wires.map (fun w=>(w.name,0))++d.sts st
def wireN (d:DesD) (i:Nat):ByteArray:=match d.wires[i]? with
 | some w=>w.name
 | none=>⟨#[]⟩
noncomputable def wireV (d:DesD) (env:Sigs) (i:Nat):Int:=match d.wires[i]? with
 | some w=>cutW (evalS env w.expr).1 w.width
 | none=>0
noncomputable def settleS (d:DesD) (st:List Int) (inp:Sigs):Sigs:=prgE d.inputs.length (wireN d) (wireV d) (startS d st inp) d.order
theorem wireN_at {d:DesD} {i:Nat} (h:i < d.wires.length):wireN d i=(d.wires[i]'h).name:=by unfold wireN;rw[List.getElem?_eq_getElem h]
theorem wireV_at {d:DesD} {env:Sigs} {i:Nat} (h:i < d.wires.length):wireV d env i=cutW (evalS env (d.wires[i]'h).expr).1 (d.wires[i]'h).width:=by unfold wireV;rw[List.getElem?_eq_getElem h]
theorem ins_names (d:DesD) (inp:Sigs):(d.ins inp).map (·.1)=d.inputs.map (·.name):=by unfold DesD.ins;rw[List.map_map];rfl
theorem sts_names {d:DesD} {st:List Int} (h:st.length=d.regs.length):(d.sts st).map (·.1)=d.regs.map (·.name):=by
 unfold DesD.sts
 generalize d.regs=l at h⊢
 induction l generalizing st with
 | nil=>simp
 | cons r l ih =>
  cases st with
  | nil=>simp at h
  | cons v st=>simp[ih (st:=st) (by simpa using h)]
theorem start_names {d:DesD} {st:List Int} (inp:Sigs) (h:st.length=d.regs.length):(startS d st inp).map (·.1)=d.names:=by
 unfold startS DesD.names
 rw[List.map_append,List.map_append,ins_names,sts_names h,List.map_map]
 rfl
theorem start_at {d:DesD} {st:List Int} (inp:Sigs) (h:st.length=d.regs.length) (j:Nat) (hj:j < d.wires.length):((startS d st inp).map (·.1))[d.inputs.length+j]? = some (wireN d j):=by
 rw[start_names inp h,wireN_at hj]
 unfold DesD.names
 rw[List.append_assoc,List.getElem?_append_right (by simp),List.getElem?_append_left (by simp;omega)]
 simp[hj]
theorem prgE_names (first:Nat) (nm:Nat→ByteArray) (val:Sigs→Nat→Int) (start:Sigs) (os:List Nat) (h:∀ j∈os,(start.map (·.1))[first+j]? = some (nm j)):(prgE first nm val start os).map (·.1)=start.map (·.1):=by
 unfold prgE
 induction os generalizing start with
 | nil=>rfl
 | cons i os ih =>
  rw[List.foldl_cons]
  have hs:(start.set (first+i) (nm i,val start i)).map (·.1)=start.map (·.1):=by
   rw[List.map_set]
   apply List.ext_getElem?
   intro k
   rw[List.getElem?_set]
   split
   ·rename_i hk
    subst hk
    have:=h i (by simp)
    rw[this]
    rw[if_pos (List.getElem?_eq_some_iff.1 this).1]
   ·rfl
  rw[ih _ (fun j hj=>by rw[hs];exact h j (List.mem_cons_of_mem _ hj)),hs]
theorem order_lt (d:DesD):∀ i∈d.order,i < d.wires.length:=(orderO_ok _ _ _).2.2
theorem order_len (d:DesD):d.order.length≤d.wires.length:=(orderO_ok _ _ _).1
theorem settle_namesK {d:DesD} {st:List Int} (inp:Sigs) (h:st.length=d.regs.length) (k:Nat):(prgE d.inputs.length (wireN d) (wireV d) (startS d st inp) (d.order.take k)).map (·.1)=d.names:=by
 rw[prgE_names _ _ _ _ _ fun j hj=>start_at inp h j (order_lt d j (List.mem_of_mem_take hj)),start_names inp h]
theorem settle_names {d:DesD} {st:List Int} (inp:Sigs) (h:st.length=d.regs.length):(settleS d st inp).map (·.1)=d.names:=by
 have:=settle_namesK inp h d.order.length
 rw[List.take_of_length_le (Nat.le_refl _)] at this
 exact this
theorem settle_len {d:DesD} {st:List Int} (inp:Sigs) (h:st.length=d.regs.length):(settleS d st inp).length=d.names.length:=by
 rw[← settle_names inp h,List.length_map]
theorem idxT_isSome {l:List ByteArray} {s:ByteArray} (h:(idxT l s).isSome=true):∃ x∈l,x.toList=s.toList:=by
 obtain⟨k,hk⟩:=Option.isSome_iff_exists.1 h
 obtain⟨h1,h2,_⟩:=idxT_some hk
 exact⟨_,List.getElem_mem h1,h2⟩
theorem idxT_mem {l:List ByteArray} {x s:ByteArray} (hx:x∈l) (h:x.toList=s.toList):(idxT l s).isSome=true:=by
 cases hi:idxT l s with
 | none=>exact absurd h (idxT_none.1 hi x hx)
 | some k=>rfl
theorem findS_isSome {env:Sigs} {s:ByteArray} (h:(idxT (env.map (·.1)) s).isSome=true):(findS env s).isSome=true:=by
 obtain⟨x,hx,he⟩:=idxT_isSome h
 obtain⟨y,hy,rfl⟩:=List.mem_map.1 hx
 cases hf:findS env s with
 | none=>exact absurd he (findS_nil_iff.1 hf y hy)
 | some v=>rfl
theorem evalS_ok {env:Sigs} {names:List ByteArray} (hn:env.map (·.1)=names) {e:Ex} (h1:validS e=0) (h2:arrFree e) (h3:∀ s∈namesS [2] e,(idxT names s).isSome=true):(evalS env e).2=0:=by
 unfold evalS
 rw[if_neg (by simpa using h1),if_neg]
 unfold knownS
 rw[Bool.and_eq_false_iff]
 rintro (h | h)
 ·rw[List.all_eq_false] at h
  obtain⟨s,hs,h⟩:=h
  exact h (findS_isSome (by rw[hn];exact h3 s hs))
 ·have h0:=arrFree_iff.2 h2
  rw[List.eq_nil_of_length_eq_zero h0] at h
  simp at h
theorem evalS_agree {env env':Sigs} {e:Ex} (ha:arrFree e) (hf:∀ s∈namesS [2] e,findS env s=findS env' s):evalS env e=evalS env' e:=by
 have hf':∀ x∈e.nodes,x.op=2→findS env x.name=findS env' x.name:=fun x hx h2=>hf _ (names2_mem hx h2)
 unfold evalS
 rw[known_eq,known_eq,knownA_agree e ha hf',valueS_agree e ha hf']
def DesD.inits (d:DesD):List Int:=d.regs.map (·.init)
def DesD.stateB (d:DesD) (st:List Int):Bool:=decide (st.length=d.regs.length) && (List.range d.regs.length).all fun i=>match d.regs[i]?,st[i]? with
 | some r,some v=>decide (1≤r.width∧r.width≤16∧0≤v∧v < 2 ^ r.width.toNat)
 | _,_=>false
theorem stateB_iff {d:DesD} {st:List Int}:d.stateB st=true↔st.length=d.regs.length∧∀ i (h:i < d.regs.length) (h':i < st.length),1≤(d.regs[i]'h).width∧(d.regs[i]'h).width≤16∧0≤st[i]'h'∧st[i]'h' < 2 ^ (d.regs[i]'h).width.toNat:=by
 unfold DesD.stateB
 rw[Bool.and_eq_true,decide_eq_true_eq,List.all_eq_true]
 constructor
 ·rintro ⟨h1,h2⟩
  refine⟨h1,fun i h h'=>?_⟩
  have:=h2 i (by simpa using h)
  rw[List.getElem?_eq_getElem h,List.getElem?_eq_getElem h'] at this
  simpa using this
 ·rintro ⟨h1,h2⟩
  refine⟨h1,fun i h=>?_⟩
  have hi:i < d.regs.length:=by simpa using h
  rw[List.getElem?_eq_getElem hi,List.getElem?_eq_getElem (by omega:i < st.length)]
  exact decide_eq_true (h2 i hi (by omega))
noncomputable def nextS (d:DesD) (env:Sigs):List Int:=d.regs.map fun r=>cutW (evalS env r.next).1 r.width
noncomputable def stN (d:DesD) (rows:List Sigs):Nat→List Int
 | 0=>d.inits
 | t+1=>nextS d (settleS d (stN d rows t) (rows.getD t []))
noncomputable def rowN (d:DesD) (rows:List Sigs) (t:Nat):List Int:=(settleS d (stN d rows t) (rows.getD t [])).map (·.2)
noncomputable def rowsN (d:DesD) (rows:List Sigs):List (List Int):=(List.range rows.length).map (rowN d rows)
theorem reg_width {d:DesD} (hd:DesOk d) {r:RegD} (hr:r∈d.regs):1≤r.width∧r.width≤16:=hd.widths _ (by unfold DesD.widths;exact List.mem_append_right _ (List.mem_map.2 ⟨r,hr,rfl⟩))
theorem wire_width {d:DesD} (hd:DesOk d) {r:WireD} (hr:r∈d.wires):1≤r.width∧r.width≤16:=hd.widths _ (by unfold DesD.widths;exact List.mem_append_left _ (List.mem_append_right _ (List.mem_map.2 ⟨r,hr,rfl⟩)))
theorem input_width {d:DesD} (hd:DesOk d) {r:PortD} (hr:r∈d.inputs):1≤r.width∧r.width≤16:=hd.widths _ (by unfold DesD.widths;exact List.mem_append_left _ (List.mem_append_left _ (List.mem_map.2 ⟨r,hr,rfl⟩)))
theorem inits_state {d:DesD} (hd:DesOk d):d.stateB d.inits=true:=by
 rw[stateB_iff]
 refine⟨by simp[DesD.inits],fun i h h'=>?_⟩
 have h1:=reg_width hd (List.getElem_mem h)
 have h2:=hd.inits _ (List.getElem_mem h)
 simp only[DesD.inits,List.getElem_map]
 exact⟨h1.1,h1.2,h2.1,h2.2⟩
theorem step_state {d:DesD} (hd:DesOk d) (env:Sigs):d.stateB (nextS d env)=true:=by
 rw[stateB_iff]
 refine⟨by simp[nextS],fun i h h'=>?_⟩
 have h1:=reg_width hd (List.getElem_mem h)
 simp only[nextS,List.getElem_map]
 exact⟨h1.1,h1.2,cutW_lo _ _,cutW_hi _ _⟩
theorem stN_state {d:DesD} (hd:DesOk d) (rows:List Sigs) (t:Nat):d.stateB (stN d rows t)=true:=by
 cases t with
 | zero=>exact inits_state hd
 | succ t=>exact step_state hd _
theorem stN_len {d:DesD} (rows:List Sigs) (t:Nat):(stN d rows t).length=d.regs.length:=by
 cases t with
 | zero=>simp[stN,DesD.inits]
 | succ t=>simp[stN,nextS]
theorem wire_expr {d:DesD} {i:Nat} (h:i < d.wires.length):(d.wires[i]'h).expr∈d.exprs:=by unfold DesD.exprs;exact List.mem_append_left _ (List.mem_map.2 ⟨_,List.getElem_mem h,rfl⟩)
theorem reg_expr {d:DesD} {i:Nat} (h:i < d.regs.length):(d.regs[i]'h).next∈d.exprs:=by unfold DesD.exprs;exact List.mem_append_right _ (List.mem_map.2 ⟨_,List.getElem_mem h,rfl⟩)
theorem eval_ok {d:DesD} (hd:DesOk d) {env:Sigs} (hn:env.map (·.1)=d.names) {e:Ex} (he:e∈d.exprs):(evalS env e).2=0:=by
 obtain⟨h1,h2,h3⟩:=hd.exprs e he
 exact evalS_ok hn h1 h2 h3
end Go.Proofs.YtebneadheaefdaaGreatDoor
namespace Go.Proofs.YtebneadheaefdaaGreatDoor
open Go.RowKit
structure DesA where
 ai:Option Addr
 ci:Nat
 aw:Option Addr
 cw:Nat
 ar:Option Addr
 cr:Nat
 ao:Option Addr
 co:Nat
def desVals (d:DesD) (x:DesA):Array Value:=#[.string d.name,.slice x.ai d.inputs.length x.ci,.slice x.aw d.wires.length x.cw,.slice x.ar d.regs.length x.cr,.slice x.ao d.outputs.length x.co]
def desVal (d:DesD) (x:DesA):Value:=.agg (desVals d x)
def PortsIn (w:World) (l:List PortD) (a:Option Addr) (cap:Nat):Prop:=SliceIn 2 l.length a cap (fun i b o=>∃ v,l[i]? = some v∧w.cell? ⟨b,o,none⟩=some (.string v.name)∧w.cell? ⟨b,o+1,none⟩=some (.int .i64 v.width))
def WiresIn (w:World) (l:List WireD) (a:Option Addr) (cap:Nat):Prop:=SliceIn 6 l.length a cap (fun i b o=>∃ v,l[i]? = some v∧w.cell? ⟨b,o,none⟩=some (.string v.name)∧w.cell? ⟨b,o+1,none⟩=some (.int .i64 v.width)∧ExAt w v.expr b (o+2))
def RegsIn (w:World) (l:List RegD) (a:Option Addr) (cap:Nat):Prop:=SliceIn 7 l.length a cap (fun i b o=>∃ v,l[i]? = some v∧w.cell? ⟨b,o,none⟩=some (.string v.name)∧w.cell? ⟨b,o+1,none⟩=some (.int .i64 v.width)∧w.cell? ⟨b,o+2,none⟩=some (.int .i64 v.init)∧ExAt w v.next b (o+3))
structure DesIn (w:World) (d:DesD) (x:DesA):Prop where
 ins:PortsIn w d.inputs x.ai x.ci
 wires:WiresIn w d.wires x.aw x.cw
 regs:RegsIn w d.regs x.ar x.cr
 outs:StrsIn w d.outputs x.ao x.co
structure DesSmall (d:DesD):Prop where
 nm:d.name.size≤1073741824
 names:∀ s∈d.names,s.size≤1073741824
 exprs:∀ e∈d.exprs,e.nodes.length≤1048576
 len:d.inputs.length≤1048576∧d.wires.length≤1048576∧d.regs.length≤1048576∧d.outputs.length≤1048576
section
variable {w w' : World} {a : Option Addr} {cap : Nat}
theorem PortsIn.keep {l:List PortD} (hk:∀ a v,w.cell? a=some v→w'.cell? a=some v) (h:PortsIn w l a cap):PortsIn w' l a cap:=h.mono fun _ _ _ _ ⟨v,hv,h1,h2⟩=>⟨v,hv,hk _ _ h1,hk _ _ h2⟩
theorem WiresIn.keep {l:List WireD} (hk:∀ a v,w.cell? a=some v→w'.cell? a=some v) (h:WiresIn w l a cap):WiresIn w' l a cap:=h.mono fun _ _ _ _ ⟨v,hv,h1,h2,h3⟩=>⟨v,hv,hk _ _ h1,hk _ _ h2,h3.keep hk _ _ _⟩
theorem RegsIn.keep {l:List RegD} (hk:∀ a v,w.cell? a=some v→w'.cell? a=some v) (h:RegsIn w l a cap):RegsIn w' l a cap:=h.mono fun _ _ _ _ ⟨v,hv,h1,h2,h3,h4⟩=>⟨v,hv,hk _ _ h1,hk _ _ h2,hk _ _ h3,h4.keep hk _ _ _⟩
theorem DesIn.keep {d:DesD} {x:DesA} (hk:∀ a v,w.cell? a=some v→w'.cell? a=some v) (h:DesIn w d x):DesIn w' d x:=⟨h.ins.keep hk,h.wires.keep hk,h.regs.keep hk,h.outs.keep hk⟩
theorem DesIn.below {d:DesD} {x:DesA} (h:DesIn w d x) (hb:Below w.heap.size w w'):DesIn w' d x:=h.keep (keeps_of_below hb)
theorem PortsIn.get {l:List PortD} (h:PortsIn w l a cap) {b off:Nat} (ha:a=some ⟨b,off,none⟩) {i:Nat} (hi:i < l.length):w.cell? ⟨b,off+i * 2,none⟩=some (.string (l[i]'hi).name)∧w.cell? ⟨b,off+i * 2+1,none⟩=some (.int .i64 (l[i]'hi).width):=by
 rcases h.2.2 with h | ⟨b',off',ha',hq⟩
 ·omega
 ·rw[ha] at ha'
  simp only[Option.some.injEq,Addr.mk.injEq,and_true] at ha'
  obtain⟨rfl,rfl⟩:=ha'
  obtain⟨e',he',hp⟩:=hq i hi
  rw[List.getElem?_eq_getElem hi] at he'
  obtain rfl:=Option.some.inj he'
  exact hp
theorem WiresIn.get {l:List WireD} (h:WiresIn w l a cap) {b off:Nat} (ha:a=some ⟨b,off,none⟩) {i:Nat} (hi:i < l.length) :
  ∃ ae ce,w.cell? ⟨b,off+i * 6,none⟩=some (.string (l[i]'hi).name)∧w.cell? ⟨b,off+i * 6+1,none⟩=some (.int .i64 (l[i]'hi).width)∧w.cell? ⟨b,off+i * 6+2,none⟩=some (.int .i64 (l[i]'hi).expr.op)∧w.cell? ⟨b,off+i * 6+3,none⟩=some (.int .i64 (l[i]'hi).expr.n) ∧
   w.cell? ⟨b,off+i * 6+4,none⟩=some (.string (l[i]'hi).expr.name)∧w.cell? ⟨b,off+i * 6+5,none⟩=some (.slice ae (l[i]'hi).expr.args.length ce)∧ExIn w (l[i]'hi).expr ae ce:=by
 rcases h.2.2 with h | ⟨b',off',ha',hq⟩
 ·omega
 ·rw[ha] at ha'
  simp only[Option.some.injEq,Addr.mk.injEq,and_true] at ha'
  obtain⟨rfl,rfl⟩:=ha'
  obtain⟨e',he',h1,h2,h3⟩:=hq i hi
  rw[List.getElem?_eq_getElem hi] at he'
  obtain rfl:=Option.some.inj he'
  obtain⟨ae,ce,g1,g2,g3,g4,g5⟩:=(ExAt_iff _ _ _ _).1 h3
  exact⟨ae,ce,h1,h2,g1,g2,g3,g4,g5⟩
theorem RegsIn.get {l:List RegD} (h:RegsIn w l a cap) {b off:Nat} (ha:a=some ⟨b,off,none⟩) {i:Nat} (hi:i < l.length) :
  ∃ ae ce,w.cell? ⟨b,off+i * 7,none⟩=some (.string (l[i]'hi).name)∧w.cell? ⟨b,off+i * 7+1,none⟩=some (.int .i64 (l[i]'hi).width)∧w.cell? ⟨b,off+i * 7+2,none⟩=some (.int .i64 (l[i]'hi).init)∧w.cell? ⟨b,off+i * 7+3,none⟩=some (.int .i64 (l[i]'hi).next.op)∧w.cell? ⟨b,off+i * 7+4,none⟩=some (.int .i64 (l[i]'hi).next.n) ∧
   w.cell? ⟨b,off+i * 7+5,none⟩=some (.string (l[i]'hi).next.name)∧w.cell? ⟨b,off+i * 7+6,none⟩=some (.slice ae (l[i]'hi).next.args.length ce)∧ExIn w (l[i]'hi).next ae ce:=by
 rcases h.2.2 with h | ⟨b',off',ha',hq⟩
 ·omega
 ·rw[ha] at ha'
  simp only[Option.some.injEq,Addr.mk.injEq,and_true] at ha'
  obtain⟨rfl,rfl⟩:=ha'
  obtain⟨e',he',h1,h2,h3,h4⟩:=hq i hi
  rw[List.getElem?_eq_getElem hi] at he'
  obtain rfl:=Option.some.inj he'
  obtain⟨ae,ce,g1,g2,g3,g4,g5⟩:=(ExAt_iff _ _ _ _).1 h4
  exact⟨ae,ce,h1,h2,h3,g1,g2,g3,g4,g5⟩
end
end Go.Proofs.YtebneadheaefdaaGreatDoor
