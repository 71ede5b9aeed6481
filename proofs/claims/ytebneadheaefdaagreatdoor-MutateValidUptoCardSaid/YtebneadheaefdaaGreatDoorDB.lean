/- The simulation of a design, plain: both ways to settle give the same signals. -/
import Derived.Test.YtebneadheaefdaaGreatDoorDA
set_option linter.unusedSimpArgs false
set_option linter.unusedVariables false
set_option linter.unnecessarySimpa false
namespace Go.Proofs.YtebneadheaefdaaGreatDoor
structure DesOk (d:DesD):Prop where
 names:dupT d.names=false
 len:d.names.length≤48
 widths:∀ w∈d.widths,1≤w∧w≤16
 inits:∀ r∈d.regs,0≤r.init∧r.init < 2 ^ r.width.toNat
 exprs:∀ e∈d.exprs,validS e=0∧arrFree e∧∀ s∈namesS [2] e,(idxT d.names s).isSome=true
 order:d.order.length=d.wires.length
theorem exprErr_zero {names:List ByteArray} {e:Ex} (h:exprErr names e=0):validS e=0∧arrFree e∧∀ s∈namesS [2] e,(idxT names s).isSome=true:=by
 unfold exprErr at h
 by_cases h1:validS e=0
 ·rw[if_neg (by simpa using h1)] at h
  by_cases h2:(namesS [3,24] e).length > 0
  ·rw[if_pos h2] at h;simp at h
  ·rw[if_neg h2] at h
   refine⟨h1,arrFree_iff.1 (by omega),?_⟩
   by_cases h3:((namesS [2] e).all fun s=>(idxT names s).isSome)=true
   ·exact List.all_eq_true.1 h3
   ·rw[if_neg h3] at h;simp at h
 ·rw[if_pos h1] at h;exact absurd h h1
theorem desOk_of_err {d:DesD} (h:d.err=0):DesOk d:=by
 unfold DesD.err at h
 rw[firstErr_zero] at h
 have hs:=h d.sigErr (by simp)
 have he:=h (firstErr (d.exprs.map (exprErr d.names))) (by simp)
 have ho:=h (if d.order.length < d.wires.length then 10 else 0) (by simp)
 unfold DesD.sigErr at hs
 split at hs
 ·simp at hs
 ·split at hs
  ·simp at hs
  ·rename_i h2
   split at hs
   ·simp at hs
   ·rename_i h3
    split at hs
    ·simp at hs
    ·rename_i h4
     split at hs
     ·simp at hs
     ·rename_i h5
      rw[firstErr_zero] at he
      refine⟨by simpa using h3,by omega,fun w hw=>?_,fun r hr=>?_,fun e hx=>exprErr_zero (he _ (List.mem_map.2 ⟨e,hx,rfl⟩)),?_⟩
      ·have h4':(d.widths.any fun w=>decide (w < 1∨w > 16))=false:=by simpa using h4
       have:=List.any_eq_false.1 h4' w hw
       simp only[decide_eq_true_eq] at this
       omega
      ·have h5':(d.regs.any fun r=>decide (r.init < 0∨r.init≥2 ^ r.width.toNat))=false:=by simpa using h5
       have:=List.any_eq_false.1 h5' r hr
       simp only[decide_eq_true_eq] at this
       omega
      ·have h6:=(orderO_ok d.wires.length d.needs d.wires.length).1
       have h7:d.order.length≤d.wires.length:=h6
       by_cases h8:d.order.length < d.wires.length
       ·rw[if_pos h8] at ho;simp at ho
       ·omega
def cutW (n width:Int):Int:=wrapW n % 2 ^ width.toNat
def valS:Sigs→ByteArray→Option Int
 | [],_=>none
 | x::l,s=>if x.1.toList=s.toList then some x.2 else valS l s
def inputV (p:PortD) (inp:Sigs):Int:=match valS inp p.name with
 | some v=>cutW v p.width
 | none=>0
def DesD.ins (d:DesD) (inp:Sigs):Sigs:=d.inputs.map fun p=>(p.name,inputV p inp)
theorem idxT_isSome {l:List ByteArray} {s:ByteArray} (h:(idxT l s).isSome=true):∃ x∈l,x.toList=s.toList:=by
 obtain⟨k,hk⟩:=Option.isSome_iff_exists.1 h
 obtain⟨h1,h2,_⟩:=idxT_some hk
 exact⟨_,List.getElem_mem h1,h2⟩
theorem idxT_mem {l:List ByteArray} {x s:ByteArray} (hx:x∈l) (h:x.toList=s.toList):(idxT l s).isSome=true:=by
 cases hi:idxT l s with
 | none=>exact absurd h (idxT_none.1 hi x hx)
 | some k=>rfl
def DesD.inits (d:DesD):List Int:=d.regs.map (·.init)
theorem wire_expr {d:DesD} {i:Nat} (h:i < d.wires.length):(d.wires[i]'h).expr∈d.exprs:=by unfold DesD.exprs;exact List.mem_append_left _ (List.mem_map.2 ⟨_,List.getElem_mem h,rfl⟩)
theorem reg_expr {d:DesD} {i:Nat} (h:i < d.regs.length):(d.regs[i]'h).next∈d.exprs:=by unfold DesD.exprs;exact List.mem_append_right _ (List.mem_map.2 ⟨_,List.getElem_mem h,rfl⟩)
end Go.Proofs.YtebneadheaefdaaGreatDoor
namespace Go.Proofs.YtebneadheaefdaaGreatDoor
open Go.RowKit
structure DesA where
 ai:Option Addr
 ci:Nat
 aw:Option Addr
 cw:Nat
 ar:Option Addr
 cr:Nat
 ao:Option Addr
 co:Nat
def desVals (d:DesD) (x:DesA):Array Value:=#[.string d.name,.slice x.ai d.inputs.length x.ci,.slice x.aw d.wires.length x.cw,.slice x.ar d.regs.length x.cr,.slice x.ao d.outputs.length x.co]
def desVal (d:DesD) (x:DesA):Value:=.agg (desVals d x)
def PortsIn (w:World) (l:List PortD) (a:Option Addr) (cap:Nat):Prop:=SliceIn 2 l.length a cap (fun i b o=>∃ v,l[i]? = some v∧w.cell? ⟨b,o,none⟩=some (.string v.name)∧w.cell? ⟨b,o+1,none⟩=some (.int .i64 v.width))
def WiresIn (w:World) (l:List WireD) (a:Option Addr) (cap:Nat):Prop:=SliceIn 6 l.length a cap (fun i b o=>∃ v,l[i]? = some v∧w.cell? ⟨b,o,none⟩=some (.string v.name)∧w.cell? ⟨b,o+1,none⟩=some (.int .i64 v.width)∧ExAt w v.expr b (o+2))
def RegsIn (w:World) (l:List RegD) (a:Option Addr) (cap:Nat):Prop:=SliceIn 7 l.length a cap (fun i b o=>∃ v,l[i]? = some v∧w.cell? ⟨b,o,none⟩=some (.string v.name)∧w.cell? ⟨b,o+1,none⟩=some (.int .i64 v.width)∧w.cell? ⟨b,o+2,none⟩=some (.int .i64 v.init)∧ExAt w v.next b (o+3))
structure DesIn (w:World) (d:DesD) (x:DesA):Prop where
 ins:PortsIn w d.inputs x.ai x.ci
 wires:WiresIn w d.wires x.aw x.cw
 regs:RegsIn w d.regs x.ar x.cr
 outs:StrsIn w d.outputs x.ao x.co
structure DesSmall (d:DesD):Prop where
 nm:d.name.size≤1073741824
 names:∀ s∈d.names,s.size≤1073741824
 exprs:∀ e∈d.exprs,e.nodes.length≤1048576
 len:d.inputs.length≤1048576∧d.wires.length≤1048576∧d.regs.length≤1048576∧d.outputs.length≤1048576
section
variable {w w' : World} {a : Option Addr} {cap : Nat}
theorem PortsIn.keep {l:List PortD} (hk:∀ a v,w.cell? a=some v→w'.cell? a=some v) (h:PortsIn w l a cap):PortsIn w' l a cap:=h.mono fun _ _ _ _ ⟨v,hv,h1,h2⟩=>⟨v,hv,hk _ _ h1,hk _ _ h2⟩
theorem WiresIn.keep {l:List WireD} (hk:∀ a v,w.cell? a=some v→w'.cell? a=some v) (h:WiresIn w l a cap):WiresIn w' l a cap:=h.mono fun _ _ _ _ ⟨v,hv,h1,h2,h3⟩=>⟨v,hv,hk _ _ h1,hk _ _ h2,h3.keep hk _ _ _⟩
theorem RegsIn.keep {l:List RegD} (hk:∀ a v,w.cell? a=some v→w'.cell? a=some v) (h:RegsIn w l a cap):RegsIn w' l a cap:=h.mono fun _ _ _ _ ⟨v,hv,h1,h2,h3,h4⟩=>⟨v,hv,hk _ _ h1,hk _ _ h2,hk _ _ h3,h4.keep hk _ _ _⟩
theorem DesIn.keep {d:DesD} {x:DesA} (hk:∀ a v,w.cell? a=some v→w'.cell? a=some v) (h:DesIn w d x):DesIn w' d x:=⟨h.ins.keep hk,h.wires.keep hk,h.regs.keep hk,h.outs.keep hk⟩
theorem DesIn.below {d:DesD} {x:DesA} (h:DesIn w d x) (hb:Below w.heap.size w w'):DesIn w' d x:=h.keep (keeps_of_below hb)
theorem PortsIn.get {l:List PortD} (h:PortsIn w l a cap) {b off:Nat} (ha:a=some ⟨b,off,none⟩) {i:Nat} (hi:i < l.length):w.cell? ⟨b,off+i * 2,none⟩=some (.string (l[i]'hi).name)∧w.cell? ⟨b,off+i * 2+1,none⟩=some (.int .i64 (l[i]'hi).width):=by
 rcases h.2.2 with h | ⟨b',off',ha',hq⟩
 ·omega
 ·rw[ha] at ha'
  simp only[Option.some.injEq,Addr.mk.injEq,and_true] at ha'
  obtain⟨rfl,rfl⟩:=ha'
  obtain⟨e',he',hp⟩:=hq i hi
  rw[List.getElem?_eq_getElem hi] at he'
  obtain rfl:=Option.some.inj he'
  exact hp
theorem WiresIn.get {l:List WireD} (h:WiresIn w l a cap) {b off:Nat} (ha:a=some ⟨b,off,none⟩) {i:Nat} (hi:i < l.length) :
  ∃ ae ce,w.cell? ⟨b,off+i * 6,none⟩=some (.string (l[i]'hi).name)∧w.cell? ⟨b,off+i * 6+1,none⟩=some (.int .i64 (l[i]'hi).width)∧w.cell? ⟨b,off+i * 6+2,none⟩=some (.int .i64 (l[i]'hi).expr.op)∧w.cell? ⟨b,off+i * 6+3,none⟩=some (.int .i64 (l[i]'hi).expr.n) ∧
   w.cell? ⟨b,off+i * 6+4,none⟩=some (.string (l[i]'hi).expr.name)∧w.cell? ⟨b,off+i * 6+5,none⟩=some (.slice ae (l[i]'hi).expr.args.length ce)∧ExIn w (l[i]'hi).expr ae ce:=by
 rcases h.2.2 with h | ⟨b',off',ha',hq⟩
 ·omega
 ·rw[ha] at ha'
  simp only[Option.some.injEq,Addr.mk.injEq,and_true] at ha'
  obtain⟨rfl,rfl⟩:=ha'
  obtain⟨e',he',h1,h2,h3⟩:=hq i hi
  rw[List.getElem?_eq_getElem hi] at he'
  obtain rfl:=Option.some.inj he'
  obtain⟨ae,ce,g1,g2,g3,g4,g5⟩:=(ExAt_iff _ _ _ _).1 h3
  exact⟨ae,ce,h1,h2,g1,g2,g3,g4,g5⟩
theorem RegsIn.get {l:List RegD} (h:RegsIn w l a cap) {b off:Nat} (ha:a=some ⟨b,off,none⟩) {i:Nat} (hi:i < l.length) :
  ∃ ae ce,w.cell? ⟨b,off+i * 7,none⟩=some (.string (l[i]'hi).name)∧w.cell? ⟨b,off+i * 7+1,none⟩=some (.int .i64 (l[i]'hi).width)∧w.cell? ⟨b,off+i * 7+2,none⟩=some (.int .i64 (l[i]'hi).init)∧w.cell? ⟨b,off+i * 7+3,none⟩=some (.int .i64 (l[i]'hi).next.op)∧w.cell? ⟨b,off+i * 7+4,none⟩=some (.int .i64 (l[i]'hi).next.n) ∧
   w.cell? ⟨b,off+i * 7+5,none⟩=some (.string (l[i]'hi).next.name)∧w.cell? ⟨b,off+i * 7+6,none⟩=some (.slice ae (l[i]'hi).next.args.length ce)∧ExIn w (l[i]'hi).next ae ce:=by
 rcases h.2.2 with h | ⟨b',off',ha',hq⟩
 ·omega
 ·rw[ha] at ha'
  simp only[Option.some.injEq,Addr.mk.injEq,and_true] at ha'
  obtain⟨rfl,rfl⟩:=ha'
  obtain⟨e',he',h1,h2,h3,h4⟩:=hq i hi
  rw[List.getElem?_eq_getElem hi] at he'
  obtain rfl:=Option.some.inj he'
  obtain⟨ae,ce,g1,g2,g3,g4,g5⟩:=(ExAt_iff _ _ _ _).1 h4
  exact⟨ae,ce,h1,h2,h3,g1,g2,g3,g4,g5⟩
end
end Go.Proofs.YtebneadheaefdaaGreatDoor
