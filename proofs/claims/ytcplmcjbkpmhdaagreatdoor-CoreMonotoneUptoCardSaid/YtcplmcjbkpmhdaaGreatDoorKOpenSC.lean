/- The sizes of the arguments that are opened: how many nodes and elements. -/
import Derived.Test.YtcplmcjbkpmhdaaGreatDoorKV
set_option linter.unusedSimpArgs false
set_option linter.unusedVariables false
set_option linter.unnecessarySimpa false
namespace Go.Proofs.YtcplmcjbkpmhdaaGreatDoor
open Go.ChangeShapes Go.WideShapes Go.ChangeAt Go.RowKit Go.Joins Go.Deep
noncomputable def nodesAll (l:List Ex):Nat:=((l.map Ex.nodes).flatten).length
theorem nodes_one (e:Ex):e.nodes.length=nodesAll e.args+1:=by rw[Ex.nodes_eq,List.length_cons];rfl
theorem nodesAll_cons (e:Ex) (l:List Ex):nodesAll (e::l)=e.nodes.length+nodesAll l:=by unfold nodesAll;simp
theorem nodesAll_mem {l:List Ex} {e:Ex} (h:e∈l):e.nodes.length≤nodesAll l:=by
 induction l with
 | nil=>simp at h
 | cons c l ih =>
  rw[nodesAll_cons]
  rcases List.mem_cons.1 h with rfl | h
  ·omega
  ·have:=ih h;omega
theorem nodesAll_map {H:Type} (l:List Nat) (f:Nat→Ex) (D:Nat→DataW H) (h:∀ i,i∈l→(f i).nodes.length≤Rows.uptoBulk (D i)):nodesAll (l.map f)≤Rows.uptoBulkAll (l.map D):=by
 induction l with
 | nil=>simp[nodesAll]
 | cons c l ih =>
  simp only[List.map_cons,Rows.uptoBulkAll]
  rw[nodesAll_cons]
  have h1:=h c (by simp)
  have h2:=ih fun i hi=>h i (by simp[hi])
  omega
section
variable {H : Type} {enc : TypeId × Value → H} {w : World} {sp : Nat → Bool} {hd : Bool}
theorem open_exprs2 {fuel:Nat} {cs:List Value} {x:DataW H × List MemPlace} (h:DataW.trod enc Tryz.prog w 0 sp hd fuel 23 cs=some x) (hb:Rows.uptoBulk x.1≤1048576)
  (ih:∀ n cs' y,DataW.trod enc Tryz.prog w 0 sp hd n 55 cs'=some y→Rows.uptoBulk y.1 < Rows.uptoBulk x.1→∃ (e:Ex) (a:Option Addr) (cap:Nat),cs'=[.int .i64 e.op,.int .i64 e.n,.string e.name,.slice a e.args.length cap]∧ExIn w e a cap∧e.nodes.length≤Rows.uptoBulk y.1) :
  ∃ (l:List Ex) (a:Option Addr) (cap:Nat),cs=[.slice a l.length cap]∧ExsIn w l a cap∧nodesAll l≤Rows.uptoBulk x.1∧l.length≤Rows.uptoBulk x.1:=by
 rcases open_slice Tryz.underlying23 h with ⟨rfl,rfl⟩ | ⟨a,len,cap,m,n,D,Pl,rfl,_,hlc,hcm,hm,rfl,hel⟩
 ·exact⟨[],none,0,rfl,exsIn_nil w,by simp[nodesAll],by simp⟩
 ·rw[cells_expr] at hel
  have hlm:len≤m:=by rw[hm];split<;>omega
  simp only[Rows.uptoBulk] at hb ih⊢
  have hlb:=bulkAll_len ((List.range len).map D)
  simp only[List.length_map,List.length_range] at hlb
  by_cases h0:len=0
  ·subst h0
   exact⟨[],some a,cap,rfl,⟨by simp,by simp,Or.inl rfl⟩,by simp[nodesAll],by simp⟩
  ·have hch:∀ i,i < len→∃ cs',w.cells? 0 (a.add (i * 4)) 4=some cs'∧(∃ (e:Ex) (a:Option Addr) (cap:Nat),cs'=[.int .i64 e.op,.int .i64 e.n,.string e.name,.slice a e.args.length cap]∧ExIn w e a cap∧e.nodes.length≤Rows.uptoBulk (D i)):=fun i hi=>by
    obtain⟨cs',h1,h2⟩:=hel i (by omega)
    refine⟨cs',h1,ih n cs' _ h2 ?_⟩
    have:=bulkAll_mem ((List.range len).map D) (D i) (List.mem_map.2 ⟨i,List.mem_range.2 hi,rfl⟩)
    simp only
    omega
   obtain⟨b,off,rfl,hr⟩:=row_cells (by omega) (by omega) hch
   have hch2:∀ i,i < len→∃ e:Ex,ExAt w e b (off+i * 4)∧e.nodes.length≤Rows.uptoBulk (D i):=fun i hi=>by
    obtain⟨cs',h1,_,e,a',cap',rfl,hX,hN⟩:=hr i hi
    exact⟨e,(ExAt_iff _ _ _ _).2 ⟨a',cap',h1 0 (by omega),h1 1 (by omega),h1 2 (by omega),h1 3 (by omega),hX⟩,hN⟩
   haveI:Inhabited Ex:=⟨.mk 0 0 ⟨#[]⟩ []⟩
   obtain⟨f,hf⟩:=choose_lt hch2
   have hall:=nodesAll_map (List.range len) f D (fun i hi=>(hf i (List.mem_range.1 hi)).2)
   refine⟨(List.range len).map f,some ⟨b,off,none⟩,cap,by simp,?_,by omega,by simp;omega⟩
   refine⟨by simp;omega,by simp;omega,Or.inr ⟨b,off,rfl,fun i hi=>?_⟩⟩
   simp only[List.length_map,List.length_range] at hi
   exact⟨f i,by simp[hi],(hf i hi).1⟩
theorem open_expr2:∀ (N:Nat),N≤1048576→∀ (fuel:Nat) (cs:List Value) (x:DataW H × List MemPlace),DataW.trod enc Tryz.prog w 0 sp hd fuel 55 cs=some x→Rows.uptoBulk x.1≤N →
  ∃ (e:Ex) (a:Option Addr) (cap:Nat),cs=[.int .i64 e.op,.int .i64 e.n,.string e.name,.slice a e.args.length cap]∧ExIn w e a cap∧e.nodes.length≤Rows.uptoBulk x.1:=by
 intro N
 induction N using Nat.strongRecOn with
 | _ N ih =>
  intro hN fuel cs x h hb
  obtain⟨y0,y1,y2,y3,n,rfl,hl,h0,h1,h2,h3⟩:=trod_struct4 Tryz.underlying55 h
  rw[cells_expr] at hl
  obtain⟨c0,c1,c2,c3,rfl⟩:∃ c0 c1 c2 c3,cs=[c0,c1,c2,c3]:=by
   exact list4 hl
  simp only[cells_int,cells_str,cells_exprs,List.drop,List.take] at h0 h1 h2 h3
  obtain⟨op,e0,rfl,_⟩:=DataW.trod_int Tryz.underlying3 h0
  obtain⟨nn,e1,rfl,_⟩:=DataW.trod_int Tryz.underlying3 h1
  obtain⟨s,e2,rfl,_⟩:=DataW.trod_string Tryz.underlying9 h2
  simp only[List.cons.injEq,and_true] at e0 e1 e2
  subst e0 e1 e2
  simp only[Rows.uptoBulk,Rows.uptoBulkAll] at hb⊢
  obtain⟨l,a,cap,e3,hX,hn,_⟩:=open_exprs2 h3 (by omega) (fun m cs' y hy hlt=>ih (Rows.uptoBulk y.1) (by omega) (by omega) m cs' y hy (Nat.le_refl _))
  simp only[List.cons.injEq,and_true] at e3
  subst e3
  refine⟨.mk op nn s l,a,cap,rfl,⟨?_,hX⟩,?_⟩
  ·show s.size≤_
   have:=size_list s
   omega
  ·rw[nodes_one]
   show nodesAll l+1≤_
   omega
theorem open_exprs3 {fuel:Nat} {cs:List Value} {x:DataW H × List MemPlace} (h:DataW.trod enc Tryz.prog w 0 sp hd fuel 23 cs=some x) (hb:Rows.uptoBulk x.1≤1048576) :
  ∃ (l:List Ex) (a:Option Addr) (cap:Nat),cs=[.slice a l.length cap]∧ExsIn w l a cap∧nodesAll l≤Rows.uptoBulk x.1∧l.length≤Rows.uptoBulk x.1 :=
 open_exprs2 h hb (fun m cs' y hy hlt=>open_expr2 (Rows.uptoBulk y.1) (by omega) m cs' y hy (Nat.le_refl _))
theorem slice_bulk {t e:TypeId} (ht : Tryz.prog.underlying t=some (.slice e)) {fuel:Nat} {a:Option Addr} {n cap:Nat} {x:DataW H × List MemPlace} (h:DataW.trod enc Tryz.prog w 0 sp hd fuel t [.slice a n cap]=some x):n≤Rows.uptoBulk x.1:=by
 rcases open_slice ht h with ⟨h1,rfl⟩ | ⟨a,len,cap,m,k,D,Pl,h1,_,hlc,hcm,hm,rfl,hel⟩
 ·simp only[List.cons.injEq,and_true] at h1
  injection h1 with _ h2 _
  omega
 ·simp only[List.cons.injEq,and_true] at h1
  injection h1 with _ h2 _
  have hlb:=bulkAll_len ((List.range len).map D)
  simp only[List.length_map,List.length_range] at hlb
  simp only[Rows.uptoBulk]
  omega
theorem open_prob2 {fuel:Nat} {cs:List Value} {x:DataW H × List MemPlace} (h:DataW.trod enc Tryz.prog w 0 sp hd fuel 27 cs=some x) (hb:Rows.uptoBulk x.1≤1048576) :
  ∃ (p:ProbD) (z:ProbA),cs=(probVals p z).toList∧ProbIn w p z∧ProbSmall p∧p.dists.length≤1048576:=by
 obtain⟨xs,n,_,rfl,hl,hlen,hf⟩:=DataW.trod_struct Tryz.underlying27 h
 rw[cells_prob] at hl
 obtain⟨c0,c1,c2,c3,c4,rfl⟩:=list5 hl
 obtain⟨y0,y1,y2,y3,y4,rfl⟩:=list5 hlen
 have h0:DataW.trod enc Tryz.prog w 0 sp hd n 22 [c0]=some y0:=by
  have:=hf 0 _ rfl
  simpa [cells_vars] using this
 have h1:DataW.trod enc Tryz.prog w 0 sp hd n 23 [c1]=some y1:=by
  have:=hf 1 _ rfl
  simpa [cells_exprs] using this
 have h2:DataW.trod enc Tryz.prog w 0 sp hd n 23 [c2]=some y2:=by
  have:=hf 2 _ rfl
  simpa [cells_exprs] using this
 have h3:DataW.trod enc Tryz.prog w 0 sp hd n 24 [c3]=some y3:=by
  have:=hf 3 _ rfl
  simpa [cells_dists] using this
 have h4:DataW.trod enc Tryz.prog w 0 sp hd n 25 [c4]=some y4:=by
  have:=hf 4 _ rfl
  simpa [cells_rows] using this
 simp only[Rows.uptoBulk,Rows.uptoBulkAll,List.map] at hb
 obtain⟨l0,a0,k0,e0,i0⟩:=open_vars h0 (by omega)
 obtain⟨l1,a1,k1,e1,i1,s1,t1⟩:=open_exprs3 h1 (by omega)
 obtain⟨l2,a2,k2,e2,i2,s2,t2⟩:=open_exprs3 h2 (by omega)
 obtain⟨l3,a3,k3,e3,i3⟩:=open_dists h3 (by omega)
 obtain⟨l4,a4,k4,e4,i4⟩:=open_rows h4 (by omega)
 simp only[List.cons.injEq,and_true] at e0 e1 e2 e3 e4
 subst e0 e1 e2 e3 e4
 have t3:=slice_bulk Tryz.underlying24 h3
 refine⟨⟨l0,l1,l2,l3,l4⟩,⟨a0,k0,a1,k1,a2,k2,a3,k3,a4,k4⟩,rfl,⟨i0,i1,i2,i3,i4⟩,⟨?_,?_,?_⟩,?_⟩
 ·intro e (he:e∈l1)
  have:=nodesAll_mem he
  omega
 ·intro e (he:e∈l2)
  have:=nodesAll_mem he
  omega
 ·show (l1++l2).length≤_
  rw[List.length_append]
  omega
 ·show l3.length≤_
  omega
end
section
variable {H : Type} {enc : TypeId × Value → H} {w : World} {base b0 : Nat} {sp : Nat → Bool} {hd : Bool} {r : Reach} {v : Value} {d : DataW H} {ps : List MemPlace}
set_option maxRecDepth 100000 in
theorem arg_ints (hv:Value.okWide Tryz.prog w r b0 30 v) (h:DataW.Trod enc Tryz.prog w 0 sp hd 30 v d ps) (hb:Rows.uptoBulk d≤1048576):∃ (l:List Int) (a:Option Addr) (cap:Nat),v=.slice a l.length cap∧IntsIn w l a cap:=by
 obtain⟨a,n,c,rfl⟩:=okWide_slice Tryz.underlying30 hv
 obtain⟨fuel,hf⟩:=h
 obtain⟨l,a',cap,e,hL⟩:=open_ints' hf hb
 refine⟨l,a',cap,?_,hL⟩
 have e':[Value.slice a n c]=[Value.slice a' l.length cap]:=e
 simpa using e'
set_option maxRecDepth 100000 in
theorem arg_prob2 (hv:Value.okWide Tryz.prog w r b0 27 v) (h:DataW.Trod enc Tryz.prog w 0 sp hd 27 v d ps) (hb:Rows.uptoBulk d≤1048576):∃ (p:ProbD) (z:ProbA),v=probVal p z∧ProbIn w p z∧ProbSmall p∧p.dists.length≤1048576:=by
 obtain⟨cs,rfl,_⟩:=okWide_struct Tryz.underlying27 hv
 obtain⟨fuel,hf⟩:=h
 obtain⟨p,z,e,hP⟩:=open_prob2 hf hb
 refine⟨p,z,?_,hP⟩
 have:cs=probVals p z:=Array.toList_inj.1 e
 rw[this];rfl
end
end Go.Proofs.YtcplmcjbkpmhdaaGreatDoor
