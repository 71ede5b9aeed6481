/- Opening the arguments of the seat: designs. -/
import Derived.Test.YtebneadheaefdaaGreatDoorDC
import Derived.Test.YtebneadheaefdaaGreatDoorRows
import Derived.Lib.SmallJoins
import Derived.Deep.Slices
import Derived.Test.YtebneadheaefdaaGreatDoorCards
import Derived.Test.YtebneadheaefdaaGreatDoorTie
import Derived.WalkKit
import Derived.ProofKit
import Derived.OpenShut
import Derived.Carry
import Derived.SliceStrings
import Derived.JoinedCond
import Derived.SevenTiedAt
import Derived.Deep.DeepHandedRow
import Derived.Deep.DeepWitnessRowRef
import Derived.Lib.LaidIn
import Derived.Shelf.Vars
set_option linter.unusedSimpArgs false
set_option linter.unusedVariables false
set_option linter.unnecessarySimpa false
namespace Go.Proofs.YtebneadheaefdaaGreatDoor
open Go.RowKit Go.ChangeShapes Go.Deep Go.Joins
theorem row_cells {w:World} {a:Addr} {len sz:Nat} {Q:Nat→List Value→Prop} (hs:0 < sz) (hn:0 < len) (h:∀ i,i < len→∃ cs,w.cells? 0 (a.add (i * sz)) sz=some cs∧Q i cs) :
  ∃ b off,a=⟨b,off,none⟩∧∀ i,i < len→∃ cs:List Value,(∀ j,j < sz→w.cell? ⟨b,off+i * sz+j,none⟩=cs[j]?)∧cs.length=sz∧Q i cs:=by
 obtain⟨b,off,sp⟩:=a
 have hsp:sp=none:=by
  obtain⟨cs,hc,_⟩:=h 0 hn
  rw[Nat.zero_mul] at hc
  have h1:=(World.cells?_some hc)
  obtain⟨_,hl,h2⟩:=h1
  have h3:=h2 0 (by omega)
  simp only[Addr.add,if_true] at h3
  cases sp with
  | none=>rfl
  | some q =>
   exfalso
   simp[World.cell?] at h3
   split at h3
   ·have:cs[0]? = none:=h3.symm
    rw[List.getElem?_eq_none_iff] at this
    omega
   ·have:cs[0]? = none:=h3.symm
    rw[List.getElem?_eq_none_iff] at this
    omega
 subst hsp
 refine⟨b,off,rfl,fun i hi=>?_⟩
 obtain⟨cs,hc,hq⟩:=h i hi
 obtain⟨_,hl,h2⟩:=World.cells?_some hc
 refine⟨cs,fun j hj=>?_,hl,hq⟩
 have h3:=h2 j (by omega)
 rw[← h3]
 congr 1
 unfold Addr.add
 split<;>split<;>simp_all<;>omega
theorem bulkAll_mem {H:Type} (l:List (DataW H)):∀ d,d∈l→Rows.uptoBulk d≤Rows.uptoBulkAll l:=by
 induction l with
 | nil=>intro d hd;simp at hd
 | cons c l ih =>
  intro d hd
  simp only[Rows.uptoBulkAll]
  rcases List.mem_cons.1 hd with rfl | hd
  ·omega
  ·have:=ih d hd;omega
theorem bulk_pos {H:Type} (d:DataW H):1≤Rows.uptoBulk d:=by
 cases d with
 | lit l=>cases l<;>simp[Rows.uptoBulk]
 | _=>simp[Rows.uptoBulk]
theorem bulkAll_len {H:Type} (l:List (DataW H)):l.length≤Rows.uptoBulkAll l:=by
 induction l with
 | nil=>simp
 | cons c l ih =>
  simp only[Rows.uptoBulkAll,List.length_cons]
  have:=bulk_pos c
  omega
theorem cells_expr : Tryz.prog.cellsOf 72=4:=by kernel_rfl
theorem cells_int : Tryz.prog.cellsOf 3=1:=by kernel_rfl
theorem cells_str : Tryz.prog.cellsOf 9=1:=by kernel_rfl
theorem cells_exprs : Tryz.prog.cellsOf 70=1:=by kernel_rfl
theorem list4 {α:Type} {l:List α} (h:l.length=4):∃ a b c d,l=[a,b,c,d]:=by
 match l,h with
 | [a,b,c,d],_=>exact⟨a,b,c,d,rfl⟩
theorem size_list (s:ByteArray):s.size=s.data.toList.length:=by
 show s.data.size=_
 exact Array.length_toList.symm
theorem open_elems {α:Type} [Inhabited α] {H:Type} {enc:TypeId × Value→H} {w:World} {sp:Nat→Bool} {hd:Bool} {t e:TypeId} {sz:Nat} (Q:α→Nat→Nat→Prop) (ht : Tryz.prog.underlying t=some (.slice e)) (hc : Tryz.prog.cellsOf e=sz) (hs:0 < sz)
  {fuel:Nat} {cs:List Value} {x:DataW H × List MemPlace} (h:DataW.trod enc Tryz.prog w 0 sp hd fuel t cs=some x) (hb:Rows.uptoBulk x.1≤1048576)
  (ih:∀ n cs' y,DataW.trod enc Tryz.prog w 0 sp hd n e cs'=some y→Rows.uptoBulk y.1 < Rows.uptoBulk x.1→∃ v:α,∀ b o,(∀ j,j < sz→w.cell? ⟨b,o+j,none⟩=cs'[j]?)→Q v b o) :
  ∃ (l:List α) (a:Option Addr) (cap:Nat),cs=[.slice a l.length cap]∧SliceIn sz l.length a cap (fun i b o=>∃ v,l[i]? = some v∧Q v b o):=by
 rcases open_slice ht h with ⟨rfl,rfl⟩ | ⟨a,len,cap,m,n,D,Pl,rfl,_,hlc,hcm,hm,rfl,hel⟩
 ·exact⟨[],none,0,rfl,⟨by simp,by simp,Or.inl rfl⟩⟩
 ·rw[hc] at hel
  have hlm:len≤m:=by rw[hm];split<;>omega
  simp only[Rows.uptoBulk] at hb ih
  have hlb:=bulkAll_len ((List.range len).map D)
  simp only[List.length_map,List.length_range] at hlb
  by_cases h0:len=0
  ·subst h0
   exact⟨[],some a,cap,rfl,⟨by simp,by simp,Or.inl rfl⟩⟩
  ·have hch:∀ i,i < len→∃ cs',w.cells? 0 (a.add (i * sz)) sz=some cs'∧(∃ v:α,∀ b o,(∀ j,j < sz→w.cell? ⟨b,o+j,none⟩=cs'[j]?)→Q v b o):=fun i hi=>by
    obtain⟨cs',h1,h2⟩:=hel i (by omega)
    refine⟨cs',h1,ih n cs' _ h2 ?_⟩
    have:=bulkAll_mem ((List.range len).map D) (D i) (List.mem_map.2 ⟨i,List.mem_range.2 hi,rfl⟩)
    simp only
    omega
   obtain⟨b,off,rfl,hr⟩:=row_cells hs (by omega) hch
   have hch2:∀ i,i < len→∃ v:α,Q v b (off+i * sz):=fun i hi=>by
    obtain⟨cs',h1,_,v,hv⟩:=hr i hi
    exact⟨v,hv b _ h1⟩
   obtain⟨f,hf⟩:=choose_lt hch2
   refine⟨(List.range len).map f,some ⟨b,off,none⟩,cap,by simp,?_⟩
   refine⟨by simp;omega,by simp;omega,Or.inr ⟨b,off,rfl,fun i hi=>?_⟩⟩
   simp only[List.length_map,List.length_range] at hi
   exact⟨f i,by simp[hi],hf i hi⟩
theorem list2 {α:Type} {l:List α} (h:l.length=2):∃ a b,l=[a,b]:=by
 match l,h with
 | [a,b],_=>exact⟨a,b,rfl⟩
theorem list5 {α:Type} {l:List α} (h:l.length=5):∃ a b c d e,l=[a,b,c,d,e]:=by
 match l,h with
 | [a,b,c,d,e],_=>exact⟨a,b,c,d,e,rfl⟩
theorem cells_port : Tryz.prog.cellsOf 104=2:=by kernel_rfl
theorem cells_wire : Tryz.prog.cellsOf 74=6:=by kernel_rfl
theorem cells_reg : Tryz.prog.cellsOf 76=7:=by kernel_rfl
theorem cells_sig : Tryz.prog.cellsOf 87=2:=by kernel_rfl
theorem cells_sigs : Tryz.prog.cellsOf 41=1:=by kernel_rfl
theorem cells_des : Tryz.prog.cellsOf 27=5:=by kernel_rfl
theorem cells_ports : Tryz.prog.cellsOf 22=1:=by kernel_rfl
theorem cells_wires : Tryz.prog.cellsOf 23=1:=by kernel_rfl
theorem cells_regs : Tryz.prog.cellsOf 24=1:=by kernel_rfl
theorem cells_strs : Tryz.prog.cellsOf 25=1:=by kernel_rfl
theorem list6 {α:Type} {l:List α} (h:l.length=6):∃ a b c d e f,l=[a,b,c,d,e,f]:=by
 match l,h with
 | [a,b,c,d,e,f],_=>exact⟨a,b,c,d,e,f,rfl⟩
theorem list7 {α:Type} {l:List α} (h:l.length=7):∃ a b c d e f g,l=[a,b,c,d,e,f,g]:=by
 match l,h with
 | [a,b,c,d,e,f,g],_=>exact⟨a,b,c,d,e,f,g,rfl⟩
theorem list3 {α:Type} {l:List α} (h:l.length=3):∃ a b c,l=[a,b,c]:=by
 match l,h with
 | [a,b,c],_=>exact⟨a,b,c,rfl⟩
noncomputable def nodesAll (l:List Ex):Nat:=((l.map Ex.nodes).flatten).length
theorem nodes_one (e:Ex):e.nodes.length=nodesAll e.args+1:=by rw[Ex.nodes_eq,List.length_cons];rfl
theorem nodesAll_cons (e:Ex) (l:List Ex):nodesAll (e::l)=e.nodes.length+nodesAll l:=by unfold nodesAll;simp
theorem nodesAll_map {H:Type} (l:List Nat) (f:Nat→Ex) (D:Nat→DataW H) (h:∀ i,i∈l→(f i).nodes.length≤Rows.uptoBulk (D i)):nodesAll (l.map f)≤Rows.uptoBulkAll (l.map D):=by
 induction l with
 | nil=>simp[nodesAll]
 | cons c l ih =>
  simp only[List.map_cons,Rows.uptoBulkAll]
  rw[nodesAll_cons]
  have h1:=h c (by simp)
  have h2:=ih fun i hi=>h i (by simp[hi])
  omega
section
variable {H : Type} {enc : TypeId × Value → H} {w : World} {sp : Nat → Bool} {hd : Bool}
theorem open_exprs2 {fuel:Nat} {cs:List Value} {x:DataW H × List MemPlace} (h:DataW.trod enc Tryz.prog w 0 sp hd fuel 70 cs=some x) (hb:Rows.uptoBulk x.1≤1048576)
  (ih:∀ n cs' y,DataW.trod enc Tryz.prog w 0 sp hd n 72 cs'=some y→Rows.uptoBulk y.1 < Rows.uptoBulk x.1→∃ (e:Ex) (a:Option Addr) (cap:Nat),cs'=[.int .i64 e.op,.int .i64 e.n,.string e.name,.slice a e.args.length cap]∧ExIn w e a cap∧e.nodes.length≤Rows.uptoBulk y.1) :
  ∃ (l:List Ex) (a:Option Addr) (cap:Nat),cs=[.slice a l.length cap]∧ExsIn w l a cap∧nodesAll l≤Rows.uptoBulk x.1∧l.length≤Rows.uptoBulk x.1:=by
 rcases open_slice Tryz.underlying70 h with ⟨rfl,rfl⟩ | ⟨a,len,cap,m,n,D,Pl,rfl,_,hlc,hcm,hm,rfl,hel⟩
 ·exact⟨[],none,0,rfl,⟨by simp,by simp,Or.inl rfl⟩,by simp[nodesAll],by simp⟩
 ·rw[cells_expr] at hel
  have hlm:len≤m:=by rw[hm];split<;>omega
  simp only[Rows.uptoBulk] at hb ih⊢
  have hlb:=bulkAll_len ((List.range len).map D)
  simp only[List.length_map,List.length_range] at hlb
  by_cases h0:len=0
  ·subst h0
   exact⟨[],some a,cap,rfl,⟨by simp,by simp,Or.inl rfl⟩,by simp[nodesAll],by simp⟩
  ·have hch:∀ i,i < len→∃ cs',w.cells? 0 (a.add (i * 4)) 4=some cs'∧(∃ (e:Ex) (a:Option Addr) (cap:Nat),cs'=[.int .i64 e.op,.int .i64 e.n,.string e.name,.slice a e.args.length cap]∧ExIn w e a cap∧e.nodes.length≤Rows.uptoBulk (D i)):=fun i hi=>by
    obtain⟨cs',h1,h2⟩:=hel i (by omega)
    refine⟨cs',h1,ih n cs' _ h2 ?_⟩
    have:=bulkAll_mem ((List.range len).map D) (D i) (List.mem_map.2 ⟨i,List.mem_range.2 hi,rfl⟩)
    simp only
    omega
   obtain⟨b,off,rfl,hr⟩:=row_cells (by omega) (by omega) hch
   have hch2:∀ i,i < len→∃ e:Ex,ExAt w e b (off+i * 4)∧e.nodes.length≤Rows.uptoBulk (D i):=fun i hi=>by
    obtain⟨cs',h1,_,e,a',cap',rfl,hX,hN⟩:=hr i hi
    exact⟨e,(ExAt_iff _ _ _ _).2 ⟨a',cap',h1 0 (by omega),h1 1 (by omega),h1 2 (by omega),h1 3 (by omega),hX⟩,hN⟩
   haveI:Inhabited Ex:=⟨.mk 0 0 ⟨#[]⟩ []⟩
   obtain⟨f,hf⟩:=choose_lt hch2
   have hall:=nodesAll_map (List.range len) f D (fun i hi=>(hf i (List.mem_range.1 hi)).2)
   refine⟨(List.range len).map f,some ⟨b,off,none⟩,cap,by simp,?_,by omega,by simp;omega⟩
   refine⟨by simp;omega,by simp;omega,Or.inr ⟨b,off,rfl,fun i hi=>?_⟩⟩
   simp only[List.length_map,List.length_range] at hi
   exact⟨f i,by simp[hi],(hf i hi).1⟩
theorem open_expr2:∀ (N:Nat),N≤1048576→∀ (fuel:Nat) (cs:List Value) (x:DataW H × List MemPlace),DataW.trod enc Tryz.prog w 0 sp hd fuel 72 cs=some x→Rows.uptoBulk x.1≤N →
  ∃ (e:Ex) (a:Option Addr) (cap:Nat),cs=[.int .i64 e.op,.int .i64 e.n,.string e.name,.slice a e.args.length cap]∧ExIn w e a cap∧e.nodes.length≤Rows.uptoBulk x.1:=by
 intro N
 induction N using Nat.strongRecOn with
 | _ N ih =>
  intro hN fuel cs x h hb
  obtain⟨y0,y1,y2,y3,n,rfl,hl,h0,h1,h2,h3⟩:=trod_struct4 Tryz.underlying72 h
  rw[cells_expr] at hl
  obtain⟨c0,c1,c2,c3,rfl⟩:∃ c0 c1 c2 c3,cs=[c0,c1,c2,c3]:=by
   exact list4 hl
  simp only[cells_int,cells_str,cells_exprs,List.drop,List.take] at h0 h1 h2 h3
  obtain⟨op,e0,rfl,_⟩:=DataW.trod_int Tryz.underlying3 h0
  obtain⟨nn,e1,rfl,_⟩:=DataW.trod_int Tryz.underlying3 h1
  obtain⟨s,e2,rfl,_⟩:=DataW.trod_string Tryz.underlying9 h2
  simp only[List.cons.injEq,and_true] at e0 e1 e2
  subst e0 e1 e2
  simp only[Rows.uptoBulk,Rows.uptoBulkAll] at hb⊢
  obtain⟨l,a,cap,e3,hX,hn,_⟩:=open_exprs2 h3 (by omega) (fun m cs' y hy hlt=>ih (Rows.uptoBulk y.1) (by omega) (by omega) m cs' y hy (Nat.le_refl _))
  simp only[List.cons.injEq,and_true] at e3
  subst e3
  refine⟨.mk op nn s l,a,cap,rfl,⟨?_,hX⟩,?_⟩
  ·show s.size≤_
   have:=size_list s
   omega
  ·rw[nodes_one]
   show nodesAll l+1≤_
   omega
theorem slice_bulk {t e:TypeId} (ht : Tryz.prog.underlying t=some (.slice e)) {fuel:Nat} {a:Option Addr} {n cap:Nat} {x:DataW H × List MemPlace} (h:DataW.trod enc Tryz.prog w 0 sp hd fuel t [.slice a n cap]=some x):n≤Rows.uptoBulk x.1:=by
 rcases open_slice ht h with ⟨h1,rfl⟩ | ⟨a,len,cap,m,k,D,Pl,h1,_,hlc,hcm,hm,rfl,hel⟩
 ·simp only[List.cons.injEq,and_true] at h1
  injection h1 with _ h2 _
  omega
 ·simp only[List.cons.injEq,and_true] at h1
  injection h1 with _ h2 _
  have hlb:=bulkAll_len ((List.range len).map D)
  simp only[List.length_map,List.length_range] at hlb
  simp only[Rows.uptoBulk]
  omega
end
section
variable {H : Type} {enc : TypeId × Value → H} {w : World} {sp : Nat → Bool} {hd : Bool}
theorem mem_of_slice {α:Type} {sz:Nat} {l:List α} {a:Option Addr} {cap:Nat} {Q:α→Nat→Nat→Prop} (h:SliceIn sz l.length a cap (fun i b o=>∃ v,l[i]? = some v∧Q v b o)) {v:α} (hv:v∈l):∃ b o,Q v b o:=by
 obtain⟨i,hi,rfl⟩:=List.getElem_of_mem hv
 rcases h.2.2 with h | ⟨b,off,_,hq⟩
 ·omega
 ·obtain⟨u,hu,hQ⟩:=hq i hi
  rw[List.getElem?_eq_getElem hi] at hu
  obtain rfl:=Option.some.inj hu
  exact⟨_,_,hQ⟩
theorem open_strs {fuel:Nat} {cs:List Value} {x:DataW H × List MemPlace} (h:DataW.trod enc Tryz.prog w 0 sp hd fuel 25 cs=some x) (hb:Rows.uptoBulk x.1≤1048576) :
  ∃ (l:List ByteArray) (a:Option Addr) (cap:Nat),cs=[.slice a l.length cap]∧StrsIn w l a cap∧∀ s∈l,s.size≤1048576:=by
 haveI:Inhabited ByteArray:=⟨⟨#[]⟩⟩
 obtain⟨l,a,cap,e,hS⟩:=open_elems (fun (v:ByteArray) b o=>w.cell? ⟨b,o,none⟩=some (.string v)∧v.size≤1048576) Tryz.underlying25 cells_str (by omega) h hb (fun n cs' y hy hlt=>by
  obtain⟨s,rfl,hs,_⟩:=DataW.trod_string Tryz.underlying9 hy
  rw[hs] at hlt
  simp only[Rows.uptoBulk] at hlt
  have:=size_list s
  exact⟨s,fun b o hc=>⟨hc 0 (by omega),by omega⟩⟩)
 exact⟨l,a,cap,e,hS.mono fun i b o _ ⟨v,hv,h1,_⟩=>⟨v,hv,h1⟩,fun s hs=>by
  obtain⟨_,_,_,h1⟩:=mem_of_slice hS hs
  exact h1⟩
theorem open_ports {fuel:Nat} {cs:List Value} {x:DataW H × List MemPlace} (h:DataW.trod enc Tryz.prog w 0 sp hd fuel 22 cs=some x) (hb:Rows.uptoBulk x.1≤1048576) :
  ∃ (l:List PortD) (a:Option Addr) (cap:Nat),cs=[.slice a l.length cap]∧PortsIn w l a cap∧∀ v∈l,v.name.size≤1048576:=by
 haveI:Inhabited PortD:=⟨⟨⟨#[]⟩,0⟩⟩
 obtain⟨l,a,cap,e,hS⟩:=open_elems (fun (v:PortD) b o=>(w.cell? ⟨b,o,none⟩=some (.string v.name)∧w.cell? ⟨b,o+1,none⟩=some (.int .i64 v.width))∧v.name.size≤1048576) Tryz.underlying22 cells_port (by omega) h hb (fun n cs' y hy hlt=>by
  obtain⟨y0,y1,m,rfl,hl,h0,h1⟩:=trod_struct2 Tryz.underlying104 hy
  rw[cells_port] at hl
  obtain⟨c0,c1,rfl⟩:=list2 hl
  simp only[cells_int,cells_str,List.drop,List.take] at h0 h1
  obtain⟨s,e0,rfl,_⟩:=DataW.trod_string Tryz.underlying9 h0
  obtain⟨n1,e1,rfl,_⟩:=DataW.trod_int Tryz.underlying3 h1
  simp only[List.cons.injEq,and_true] at e0 e1
  subst e0 e1
  simp only[Rows.uptoBulk,Rows.uptoBulkAll] at hlt
  have:=size_list s
  exact⟨⟨s,n1⟩,fun b o hc=>⟨⟨hc 0 (by omega),hc 1 (by omega)⟩,by show s.size≤_;omega⟩⟩)
 exact⟨l,a,cap,e,hS.mono fun i b o _ ⟨v,hv,h1,_⟩=>⟨v,hv,h1⟩,fun s hs=>by
  obtain⟨_,_,_,h1⟩:=mem_of_slice hS hs
  exact h1⟩
theorem open_inner {m:Nat} {c0 c1 c2 c3:Value} {y:DataW H × List MemPlace} (h:DataW.trod enc Tryz.prog w 0 sp hd m 72 [c0,c1,c2,c3]=some y) (hb:Rows.uptoBulk y.1≤1048576) :
  ∃ e:Ex,e.nodes.length≤1048576∧∀ b o,w.cell? ⟨b,o,none⟩=some c0→w.cell? ⟨b,o+1,none⟩=some c1→w.cell? ⟨b,o+2,none⟩=some c2→w.cell? ⟨b,o+3,none⟩=some c3→ExAt w e b o:=by
 obtain⟨e,a,cap,he,hX,hn⟩:=open_expr2 1048576 (Nat.le_refl _) _ _ _ h hb
 simp only[List.cons.injEq,and_true] at he
 obtain⟨rfl,rfl,rfl,rfl⟩:=he
 exact⟨e,Nat.le_trans hn hb,fun b o h0 h1 h2 h3=>(ExAt_iff _ _ _ _).2 ⟨a,cap,h0,h1,h2,h3,hX⟩⟩
theorem open_wires {fuel:Nat} {cs:List Value} {x:DataW H × List MemPlace} (h:DataW.trod enc Tryz.prog w 0 sp hd fuel 23 cs=some x) (hb:Rows.uptoBulk x.1≤1048576) :
  ∃ (l:List WireD) (a:Option Addr) (cap:Nat),cs=[.slice a l.length cap]∧WiresIn w l a cap∧∀ v∈l,v.name.size≤1048576∧v.expr.nodes.length≤1048576:=by
 haveI:Inhabited WireD:=⟨⟨⟨#[]⟩,0,.mk 0 0 ⟨#[]⟩ []⟩⟩
 obtain⟨l,a,cap,e,hS⟩:=open_elems (fun (v:WireD) b o=>(w.cell? ⟨b,o,none⟩=some (.string v.name)∧w.cell? ⟨b,o+1,none⟩=some (.int .i64 v.width)∧ExAt w v.expr b (o+2))∧v.name.size≤1048576∧v.expr.nodes.length≤1048576) Tryz.underlying23 cells_wire (by omega) h hb (fun n cs' y hy hlt=>by
  obtain⟨xs,m,_,rfl,hl,hlen,hf⟩:=DataW.trod_struct Tryz.underlying74 hy
  rw[cells_wire] at hl
  obtain⟨c0,c1,c2,c3,c4,c5,rfl⟩:=list6 hl
  obtain⟨y0,y1,y2,rfl⟩:=list3 hlen
  have h0:DataW.trod enc Tryz.prog w 0 sp hd m 9 [c0]=some y0:=by
   have:=hf 0 _ rfl
   simpa [cells_str] using this
  have h1:DataW.trod enc Tryz.prog w 0 sp hd m 3 [c1]=some y1:=by
   have:=hf 1 _ rfl
   simpa [cells_str,cells_int] using this
  have h2:DataW.trod enc Tryz.prog w 0 sp hd m 72 [c2,c3,c4,c5]=some y2:=by
   have:=hf 2 _ rfl
   simpa [cells_str,cells_int,cells_expr] using this
  obtain⟨s,e0,hy0,_⟩:=DataW.trod_string Tryz.underlying9 h0
  obtain⟨n1,e1,hy1,_⟩:=DataW.trod_int Tryz.underlying3 h1
  simp only[List.cons.injEq,and_true] at e0 e1
  subst e0 e1
  simp only[Rows.uptoBulk,Rows.uptoBulkAll,List.map] at hlt
  rw[hy0] at hlt
  simp only[Rows.uptoBulk] at hlt
  obtain⟨e,hn,hE⟩:=open_inner h2 (by omega)
  have:=size_list s
  exact⟨⟨s,n1,e⟩,fun b o hc=>⟨⟨hc 0 (by omega),hc 1 (by omega),hE b (o+2) (hc 2 (by omega)) (hc 3 (by omega)) (hc 4 (by omega)) (hc 5 (by omega))⟩,by show s.size≤_;omega,hn⟩⟩)
 exact⟨l,a,cap,e,hS.mono fun i b o _ ⟨v,hv,h1,_⟩=>⟨v,hv,h1⟩,fun s hs=>by
  obtain⟨_,_,_,h1⟩:=mem_of_slice hS hs
  exact h1⟩
theorem open_regs {fuel:Nat} {cs:List Value} {x:DataW H × List MemPlace} (h:DataW.trod enc Tryz.prog w 0 sp hd fuel 24 cs=some x) (hb:Rows.uptoBulk x.1≤1048576) :
  ∃ (l:List RegD) (a:Option Addr) (cap:Nat),cs=[.slice a l.length cap]∧RegsIn w l a cap∧∀ v∈l,v.name.size≤1048576∧v.next.nodes.length≤1048576:=by
 haveI:Inhabited RegD:=⟨⟨⟨#[]⟩,0,0,.mk 0 0 ⟨#[]⟩ []⟩⟩
 obtain⟨l,a,cap,e,hS⟩:=open_elems (fun (v:RegD) b o=>(w.cell? ⟨b,o,none⟩=some (.string v.name)∧w.cell? ⟨b,o+1,none⟩=some (.int .i64 v.width)∧w.cell? ⟨b,o+2,none⟩=some (.int .i64 v.init)∧ExAt w v.next b (o+3))∧v.name.size≤1048576∧v.next.nodes.length≤1048576) Tryz.underlying24 cells_reg (by omega) h hb (fun n cs' y hy hlt=>by
  obtain⟨xs,m,_,rfl,hl,hlen,hf⟩:=DataW.trod_struct Tryz.underlying76 hy
  rw[cells_reg] at hl
  obtain⟨c0,c1,c2,c3,c4,c5,c6,rfl⟩:=list7 hl
  obtain⟨y0,y1,y2,y3,rfl⟩:=list4 hlen
  have h0:DataW.trod enc Tryz.prog w 0 sp hd m 9 [c0]=some y0:=by
   have:=hf 0 _ rfl
   simpa [cells_str] using this
  have h1:DataW.trod enc Tryz.prog w 0 sp hd m 3 [c1]=some y1:=by
   have:=hf 1 _ rfl
   simpa [cells_str,cells_int] using this
  have h2:DataW.trod enc Tryz.prog w 0 sp hd m 3 [c2]=some y2:=by
   have:=hf 2 _ rfl
   simpa [cells_str,cells_int] using this
  have h3:DataW.trod enc Tryz.prog w 0 sp hd m 72 [c3,c4,c5,c6]=some y3:=by
   have:=hf 3 _ rfl
   simpa [cells_str,cells_int,cells_expr] using this
  obtain⟨s,e0,hy0,_⟩:=DataW.trod_string Tryz.underlying9 h0
  obtain⟨n1,e1,hy1,_⟩:=DataW.trod_int Tryz.underlying3 h1
  obtain⟨n2,e2,hy2,_⟩:=DataW.trod_int Tryz.underlying3 h2
  simp only[List.cons.injEq,and_true] at e0 e1 e2
  subst e0 e1 e2
  simp only[Rows.uptoBulk,Rows.uptoBulkAll,List.map] at hlt
  rw[hy0] at hlt
  simp only[Rows.uptoBulk] at hlt
  obtain⟨e,hn,hE⟩:=open_inner h3 (by omega)
  have:=size_list s
  exact⟨⟨s,n1,n2,e⟩,fun b o hc=>⟨⟨hc 0 (by omega),hc 1 (by omega),hc 2 (by omega),hE b (o+3) (hc 3 (by omega)) (hc 4 (by omega)) (hc 5 (by omega)) (hc 6 (by omega))⟩,by show s.size≤_;omega,hn⟩⟩)
 exact⟨l,a,cap,e,hS.mono fun i b o _ ⟨v,hv,h1,_⟩=>⟨v,hv,h1⟩,fun s hs=>by
  obtain⟨_,_,_,h1⟩:=mem_of_slice hS hs
  exact h1⟩
theorem open_des {fuel:Nat} {cs:List Value} {x:DataW H × List MemPlace} (h:DataW.trod enc Tryz.prog w 0 sp hd fuel 27 cs=some x) (hb:Rows.uptoBulk x.1≤1048576) :
  ∃ (d:DesD) (z:DesA),cs=(desVals d z).toList∧DesIn w d z∧DesSmall d:=by
 obtain⟨xs,n,_,rfl,hl,hlen,hf⟩:=DataW.trod_struct Tryz.underlying27 h
 rw[cells_des] at hl
 obtain⟨c0,c1,c2,c3,c4,rfl⟩:=list5 hl
 obtain⟨y0,y1,y2,y3,y4,rfl⟩:=list5 hlen
 have h0:DataW.trod enc Tryz.prog w 0 sp hd n 9 [c0]=some y0:=by
  have:=hf 0 _ rfl
  simpa [cells_str] using this
 have h1:DataW.trod enc Tryz.prog w 0 sp hd n 22 [c1]=some y1:=by
  have:=hf 1 _ rfl
  simpa [cells_str,cells_ports] using this
 have h2:DataW.trod enc Tryz.prog w 0 sp hd n 23 [c2]=some y2:=by
  have:=hf 2 _ rfl
  simpa [cells_str,cells_ports,cells_wires] using this
 have h3:DataW.trod enc Tryz.prog w 0 sp hd n 24 [c3]=some y3:=by
  have:=hf 3 _ rfl
  simpa [cells_str,cells_ports,cells_wires,cells_regs] using this
 have h4:DataW.trod enc Tryz.prog w 0 sp hd n 25 [c4]=some y4:=by
  have:=hf 4 _ rfl
  simpa [cells_str,cells_ports,cells_wires,cells_regs,cells_strs] using this
 obtain⟨s,e0,hy0,_⟩:=DataW.trod_string Tryz.underlying9 h0
 simp only[Rows.uptoBulk,Rows.uptoBulkAll,List.map] at hb
 have hs0:Rows.uptoBulk y0.1≤1048576:=by omega
 rw[hy0] at hs0
 simp only[Rows.uptoBulk] at hs0
 obtain⟨l1,a1,k1,e1,i1,s1⟩:=open_ports h1 (by omega)
 obtain⟨l2,a2,k2,e2,i2,s2⟩:=open_wires h2 (by omega)
 obtain⟨l3,a3,k3,e3,i3,s3⟩:=open_regs h3 (by omega)
 obtain⟨l4,a4,k4,e4,i4,s4⟩:=open_strs h4 (by omega)
 simp only[List.cons.injEq,and_true] at e0 e1 e2 e3 e4
 subst e0 e1 e2 e3 e4
 have t1:=slice_bulk Tryz.underlying22 h1
 have t2:=slice_bulk Tryz.underlying23 h2
 have t3:=slice_bulk Tryz.underlying24 h3
 have t4:=slice_bulk Tryz.underlying25 h4
 have hsz:=size_list s
 refine⟨⟨s,l1,l2,l3,l4⟩,⟨a1,k1,a2,k2,a3,k3,a4,k4⟩,rfl,⟨i1,i2,i3,i4⟩,⟨by show s.size≤_;omega,fun v hv=>?_,fun e he=>?_,?_⟩⟩
 ·unfold DesD.names at hv
  simp only[List.mem_append,List.mem_map] at hv
  rcases hv with (⟨u,hu,rfl⟩ | ⟨u,hu,rfl⟩) | ⟨u,hu,rfl⟩
  ·exact Nat.le_trans (s1 u hu) (by decide)
  ·exact Nat.le_trans (s2 u hu).1 (by decide)
  ·exact Nat.le_trans (s3 u hu).1 (by decide)
 ·unfold DesD.exprs at he
  simp only[List.mem_append,List.mem_map] at he
  rcases he with ⟨u,hu,rfl⟩ | ⟨u,hu,rfl⟩
  ·exact(s2 u hu).2
  ·exact(s3 u hu).2
 ·show l1.length≤_∧l2.length≤_∧l3.length≤_∧l4.length≤_
  omega
end
end Go.Proofs.YtebneadheaefdaaGreatDoor
namespace Go.Proofs.YtebneadheaefdaaGreatDoor
open Go.ChangeShapes Go.WideShapes Go.ChangeAt Go.RowKit
theorem ownK:ownKnob Tryz.prog.godebug=none:=by kernel_rfl
theorem laidOutK:laidOutB Tryz.prog=true:=by kernel_rfl
def bytesOf {H:Type}:DataW H→List UInt8
 | .lit (.string b)=>b
 | _=>[]
theorem strs_bytes {H:Type} (ss:List ByteArray):((strs ss:List (DataW H)).map bytesOf)=ss.map (·.data.toList):=by
 unfold strs
 rw[List.map_map]
 rfl
theorem kw_shape:∃ l r,(Rows.laid_testbench_lexer_keywords:DataW Unit)=.slice l r∧l.map bytesOf=kwL:=⟨_,_,rfl,rfl⟩
theorem kwS_of {ss:List ByteArray} (h:ss.map (·.data.toList)=kwL):ss=kwS:=by
 unfold kwS
 rw[← h,List.map_map]
 conv=>lhs;rw[← List.map_id ss]
 apply List.map_congr_left
 intro s _
 show s=ByteArray.mk s.data.toList.toArray
 rw[Array.toArray_toList]
theorem glob_of {W:World} {g:Nat} {t:TypeId} {cs:Array Value} {fuel:Nat} {p:List MemPlace} (hsh:W.ShapedOpen Tryz.prog) (h1 : Tryz.prog.globalNamed "testbench/lexer.keywords"=some g) (h2:(Tryz.prog.globals[g]?).map (·.type)=some t) (h3:W.var? Tryz.prog "testbench/lexer.keywords"=some cs)
  (h4:DataW.trod (fun _=>()) Tryz.prog W 0 (fun _=>true) false fuel t cs.toList=some (Rows.laid_testbench_lexer_keywords,p)):Glob W:=by
 refine⟨cell_of_shapedOpen_int (P:=Tryz.prog) (g:=2) (t:=3) (zero:=#[.int .i64 0]) hsh (of_decide_eq_true (by kernel_rfl)) (by kernel_rfl) rfl (by kernel_rfl) (by kernel_rfl) Tryz.underlying3,?_⟩
 obtain rfl:0=g:=Option.some.inj ((show Tryz.prog.globalNamed "testbench/lexer.keywords"=some 0 by kernel_rfl).symm.trans h1)
 obtain rfl : 25=t:=Option.some.inj ((show (Tryz.prog.globals[0]?).map (·.type)=some 25 by kernel_rfl).symm.trans h2)
 have h0:W.cell? ⟨0,0,none⟩=cs[0]?:=by
  unfold World.var? at h3
  rw[h1] at h3
  simp only[Option.bind_some] at h3
  split at h3
  ·rename_i c t0 f0 hh
   obtain rfl:=Option.some.inj h3
   simp[World.cell?,hh]
  ·simp at h3
 obtain⟨kl,kr,hk,hkl⟩:=kw_shape
 rw[hk] at h4
 rcases open_strings Tryz.underlying25 Tryz.underlying9 cells_str h4 with ⟨_,hx⟩ | ⟨a,len,cap,ss,hcs,_,hl,_,hz,hx,hcell,_⟩
 ·have:=congrArg Prod.fst hx
  simp at this
 ·have hx1:=congrArg Prod.fst hx
  simp only[DataW.slice.injEq] at hx1
  have he:=congrArg (List.map bytesOf) hx1.1
  rw[hkl,strs_bytes] at he
  have hS:=kwS_of he.symm
  have hsl:ss.length=cap:=by simpa using hz
  have hlen:len=24:=by
   have h24:(ss.take len).length=24:=by rw[hS];rfl
   rw[List.length_take] at h24
   omega
  subst hlen
  obtain⟨b,off,sp⟩:=a
  have hsp:sp=none:=by simpa [Addr.add] using World.cell?_spot (hcell 0 (by omega))
  subst hsp
  refine⟨b,off,cap,?_,fun i hi=>?_⟩
  ·rw[h0]
   have:cs=#[Value.slice (some ⟨b,off,none⟩) 24 cap]:=by
    apply Array.toList_inj.1
    rw[hcs]
   rw[this]
   rfl
  ·have hc:=hcell i (by omega)
   have hg:ss.getD i ByteArray.empty=kwS.getD i ByteArray.empty:=by
    rw[← hS,List.getD_eq_getElem?_getD,List.getD_eq_getElem?_getD,List.getElem?_take_of_lt hi]
   rw[hg] at hc
   have ha:((⟨b,off,none⟩:Addr).add i)=⟨b,off+i,none⟩:=by unfold Addr.add;split<;>simp_all
   rw[ha] at hc
   exact hc
theorem glob_laid {W:World} (hsh:W.ShapedOpen Tryz.prog) (hL:laidMetH Tryz.prog [("math/bits.deBruijn32tab",Rows.laid_math_bits_deBruijn32tab),("math/bits.deBruijn64tab",Rows.laid_math_bits_deBruijn64tab),("internal/strconv.uint64pow10",Rows.laid_internal_strconv_uint64pow10),("testbench/lexer.keywords",Rows.laid_testbench_lexer_keywords)] W):Glob W:=by
 have hL':laidMet Tryz.prog [("math/bits.deBruijn32tab",Rows.laid_math_bits_deBruijn32tab),("math/bits.deBruijn64tab",Rows.laid_math_bits_deBruijn64tab),("internal/strconv.uint64pow10",Rows.laid_internal_strconv_uint64pow10),("testbench/lexer.keywords",Rows.laid_testbench_lexer_keywords)] W:=hL
 obtain⟨ps,hv,_⟩:=hL'
 obtain⟨_,_,_,_,_,_,_,_,_,_,hv,_⟩:=hv
 obtain⟨_,_,_,_,_,_,_,_,_,_,hv,_⟩:=hv
 obtain⟨_,_,_,_,_,_,_,_,_,_,hv,_⟩:=hv
 obtain⟨_,_,_,_,_,_,h1,h2,h3,h4,_,_⟩:=hv
 exact glob_of hsh h1 h2 h3 h4
noncomputable def laidWorld (os:Os):World :=
 let N:=(World.settled Tryz.prog os).heap.size
 let w0:=World.holding Tryz.prog os ⟨#[.cells (kwS.map Value.string).toArray 9],#[],[]⟩
 let put (h:Array Obj) (g:Nat) (cs:Array Value):Array Obj:=h.modify g fun
  | .cells _ t frozen=>.cells cs t frozen
  | o=>o
 let h1:=put w0.heap 3 #[.int .u8 0,.int .u8 1,.int .u8 28,.int .u8 2,.int .u8 29,.int .u8 14,.int .u8 24,.int .u8 3,.int .u8 30,.int .u8 22,.int .u8 20,.int .u8 15,.int .u8 25,.int .u8 17,.int .u8 4,.int .u8 8,.int .u8 31,.int .u8 27,.int .u8 13,.int .u8 23,.int .u8 21,.int .u8 19,.int .u8 16,.int .u8 7,.int .u8 26,.int .u8 12,.int .u8 18,.int .u8 6,.int .u8 11,.int .u8 5,.int .u8 10,.int .u8 9]
 let h2:=put h1 4 #[.int .u8 0,.int .u8 1,.int .u8 56,.int .u8 2,.int .u8 57,.int .u8 49,.int .u8 28,.int .u8 3,.int .u8 61,.int .u8 58,.int .u8 42,.int .u8 50,.int .u8 38,.int .u8 29,.int .u8 17,.int .u8 4,.int .u8 62,.int .u8 47,.int .u8 59,.int .u8 36,.int .u8 45,.int .u8 43,.int .u8 51,.int .u8 22,.int .u8 53,.int .u8 39,.int .u8 33,.int .u8 30,.int .u8 24,.int .u8 18,.int .u8 12,.int .u8 5,.int .u8 63,.int .u8 55,.int .u8 48,.int .u8 27,.int .u8 60,.int .u8 41,.int .u8 37,.int .u8 16,.int .u8 46,.int .u8 35,.int .u8 44,.int .u8 21,.int .u8 52,.int .u8 32,.int .u8 23,.int .u8 11,.int .u8 54,.int .u8 26,.int .u8 40,.int .u8 15,.int .u8 34,.int .u8 20,.int .u8 31,.int .u8 10,.int .u8 25,.int .u8 14,.int .u8 19,.int .u8 9,.int .u8 13,.int .u8 8,.int .u8 7,.int .u8 6]
 let h3:=put h2 1 #[.int .u64 1,.int .u64 10,.int .u64 100,.int .u64 1000,.int .u64 10000,.int .u64 100000,.int .u64 1000000,.int .u64 10000000,.int .u64 100000000,.int .u64 1000000000,.int .u64 10000000000,.int .u64 100000000000,.int .u64 1000000000000,.int .u64 10000000000000,.int .u64 100000000000000,.int .u64 1000000000000000,.int .u64 10000000000000000,.int .u64 100000000000000000,.int .u64 1000000000000000000,.int .u64 10000000000000000000]
 let h4:=put h3 0 #[.slice (some ⟨N,0,none⟩) 24 24]
 { w0 with heap:=h4 }
theorem laid_met (os:Os) (args:Array Value):laidMet Tryz.prog [("math/bits.deBruijn32tab",Rows.laid_math_bits_deBruijn32tab),("math/bits.deBruijn64tab",Rows.laid_math_bits_deBruijn64tab),("internal/strconv.uint64pow10",Rows.laid_internal_strconv_uint64pow10),("testbench/lexer.keywords",Rows.laid_testbench_lexer_keywords)] ((laidWorld os).forCall (fun _ _=>0) ⟨#[],args,[]⟩).memory :=
 (LaidIn.of_run (l:=[("math/bits.deBruijn32tab",Rows.laid_math_bits_deBruijn32tab),("math/bits.deBruijn64tab",Rows.laid_math_bits_deBruijn64tab),("internal/strconv.uint64pow10",Rows.laid_internal_strconv_uint64pow10),("testbench/lexer.keywords",Rows.laid_testbench_lexer_keywords)]) [3,4,1,0,(World.settled Tryz.prog default).heap.size] 8 (by kernel_rfl) (by kernel_rfl) (by kernel_rfl) (by kernel_rfl)).met
section
variable {H : Type} {enc : TypeId × Value → H} {w : World} {base b0 : Nat} {sp : Nat → Bool} {hd : Bool} {r : Reach} {v : Value} {d : DataW H} {ps : List MemPlace}
set_option maxRecDepth 100000 in
theorem arg_des (hv:Value.okWide Tryz.prog w r b0 27 v) (h:DataW.Trod enc Tryz.prog w 0 sp hd 27 v d ps) (hb:Rows.uptoBulk d≤1048576):∃ (p:DesD) (z:DesA),v=desVal p z∧DesIn w p z∧DesSmall p:=by
 obtain⟨cs,rfl,_⟩:=okWide_struct Tryz.underlying27 hv
 obtain⟨fuel,hf⟩:=h
 obtain⟨p,z,e,hP⟩:=open_des hf hb
 refine⟨p,z,?_,hP⟩
 have:cs=desVals p z:=Array.toList_inj.1 e
 rw[this];rfl
end
end Go.Proofs.YtebneadheaefdaaGreatDoor
