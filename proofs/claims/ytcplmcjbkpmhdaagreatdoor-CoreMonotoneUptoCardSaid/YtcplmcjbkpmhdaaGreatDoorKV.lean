/- opening the arguments. -/
import Derived.Test.YtcplmcjbkpmhdaaGreatDoorKT
import Derived.Test.YtcplmcjbkpmhdaaGreatDoorRows
import Derived.Lib.SmallJoins
import Derived.Deep.Slices
import Derived.Test.YtcplmcjbkpmhdaaGreatDoorCards
import Derived.Test.YtcplmcjbkpmhdaaGreatDoorTie
import Derived.WalkKit
import Derived.ProofKit
import Derived.OpenShut
import Derived.Carry
import Derived.SliceStrings
import Derived.JoinedCond
import Derived.SevenTiedAt
import Derived.Deep.DeepHandedRow
import Derived.Deep.DeepWitnessRowRef
import Derived.Lib.LaidIn
import Derived.Shelf.Vars
set_option linter.unusedSimpArgs false
set_option linter.unusedVariables false
set_option linter.unnecessarySimpa false
namespace Go.Proofs.YtcplmcjbkpmhdaaGreatDoor
open Go.RowKit Go.ChangeShapes Go.Deep Go.Joins
theorem row_cells {w:World} {a:Addr} {len sz:Nat} {Q:Nat→List Value→Prop} (hs:0 < sz) (hn:0 < len) (h:∀ i,i < len→∃ cs,w.cells? 0 (a.add (i * sz)) sz=some cs∧Q i cs) :
  ∃ b off,a=⟨b,off,none⟩∧∀ i,i < len→∃ cs:List Value,(∀ j,j < sz→w.cell? ⟨b,off+i * sz+j,none⟩=cs[j]?)∧cs.length=sz∧Q i cs:=by
 obtain⟨b,off,sp⟩:=a
 have hsp:sp=none:=by
  obtain⟨cs,hc,_⟩:=h 0 hn
  rw[Nat.zero_mul] at hc
  have h1:=(World.cells?_some hc)
  obtain⟨_,hl,h2⟩:=h1
  have h3:=h2 0 (by omega)
  simp only[Addr.add,if_true] at h3
  cases sp with
  | none=>rfl
  | some q =>
   exfalso
   simp[World.cell?] at h3
   split at h3
   ·have:cs[0]? = none:=h3.symm
    rw[List.getElem?_eq_none_iff] at this
    omega
   ·have:cs[0]? = none:=h3.symm
    rw[List.getElem?_eq_none_iff] at this
    omega
 subst hsp
 refine⟨b,off,rfl,fun i hi=>?_⟩
 obtain⟨cs,hc,hq⟩:=h i hi
 obtain⟨_,hl,h2⟩:=World.cells?_some hc
 refine⟨cs,fun j hj=>?_,hl,hq⟩
 have h3:=h2 j (by omega)
 rw[← h3]
 congr 1
 unfold Addr.add
 split<;>split<;>simp_all<;>omega
theorem bulkAll_mem {H:Type} (l:List (DataW H)):∀ d,d∈l→Rows.uptoBulk d≤Rows.uptoBulkAll l:=by
 induction l with
 | nil=>intro d hd;simp at hd
 | cons c l ih =>
  intro d hd
  simp only[Rows.uptoBulkAll]
  rcases List.mem_cons.1 hd with rfl | hd
  ·omega
  ·have:=ih d hd;omega
theorem bulk_pos {H:Type} (d:DataW H):1≤Rows.uptoBulk d:=by
 cases d with
 | lit l=>cases l<;>simp[Rows.uptoBulk]
 | _=>simp[Rows.uptoBulk]
theorem bulkAll_len {H:Type} (l:List (DataW H)):l.length≤Rows.uptoBulkAll l:=by
 induction l with
 | nil=>simp
 | cons c l ih =>
  simp only[Rows.uptoBulkAll,List.length_cons]
  have:=bulk_pos c
  omega
theorem cells_expr : Tryz.prog.cellsOf 55=4:=by kernel_rfl
theorem cells_int : Tryz.prog.cellsOf 3=1:=by kernel_rfl
theorem cells_str : Tryz.prog.cellsOf 9=1:=by kernel_rfl
theorem cells_exprs : Tryz.prog.cellsOf 23=1:=by kernel_rfl
theorem list4 {α:Type} {l:List α} (h:l.length=4):∃ a b c d,l=[a,b,c,d]:=by
 match l,h with
 | [a,b,c,d],_=>exact⟨a,b,c,d,rfl⟩
theorem size_list (s:ByteArray):s.size=s.data.toList.length:=by
 show s.data.size=_
 exact Array.length_toList.symm
theorem open_elems {α:Type} [Inhabited α] {H:Type} {enc:TypeId × Value→H} {w:World} {sp:Nat→Bool} {hd:Bool} {t e:TypeId} {sz:Nat} (Q:α→Nat→Nat→Prop) (ht : Tryz.prog.underlying t=some (.slice e)) (hc : Tryz.prog.cellsOf e=sz) (hs:0 < sz)
  {fuel:Nat} {cs:List Value} {x:DataW H × List MemPlace} (h:DataW.trod enc Tryz.prog w 0 sp hd fuel t cs=some x) (hb:Rows.uptoBulk x.1≤1048576)
  (ih:∀ n cs' y,DataW.trod enc Tryz.prog w 0 sp hd n e cs'=some y→Rows.uptoBulk y.1 < Rows.uptoBulk x.1→∃ v:α,∀ b o,(∀ j,j < sz→w.cell? ⟨b,o+j,none⟩=cs'[j]?)→Q v b o) :
  ∃ (l:List α) (a:Option Addr) (cap:Nat),cs=[.slice a l.length cap]∧SliceIn sz l.length a cap (fun i b o=>∃ v,l[i]? = some v∧Q v b o):=by
 rcases open_slice ht h with ⟨rfl,rfl⟩ | ⟨a,len,cap,m,n,D,Pl,rfl,_,hlc,hcm,hm,rfl,hel⟩
 ·exact⟨[],none,0,rfl,⟨by simp,by simp,Or.inl rfl⟩⟩
 ·rw[hc] at hel
  have hlm:len≤m:=by rw[hm];split<;>omega
  simp only[Rows.uptoBulk] at hb ih
  have hlb:=bulkAll_len ((List.range len).map D)
  simp only[List.length_map,List.length_range] at hlb
  by_cases h0:len=0
  ·subst h0
   exact⟨[],some a,cap,rfl,⟨by simp,by simp,Or.inl rfl⟩⟩
  ·have hch:∀ i,i < len→∃ cs',w.cells? 0 (a.add (i * sz)) sz=some cs'∧(∃ v:α,∀ b o,(∀ j,j < sz→w.cell? ⟨b,o+j,none⟩=cs'[j]?)→Q v b o):=fun i hi=>by
    obtain⟨cs',h1,h2⟩:=hel i (by omega)
    refine⟨cs',h1,ih n cs' _ h2 ?_⟩
    have:=bulkAll_mem ((List.range len).map D) (D i) (List.mem_map.2 ⟨i,List.mem_range.2 hi,rfl⟩)
    simp only
    omega
   obtain⟨b,off,rfl,hr⟩:=row_cells hs (by omega) hch
   have hch2:∀ i,i < len→∃ v:α,Q v b (off+i * sz):=fun i hi=>by
    obtain⟨cs',h1,_,v,hv⟩:=hr i hi
    exact⟨v,hv b _ h1⟩
   obtain⟨f,hf⟩:=choose_lt hch2
   refine⟨(List.range len).map f,some ⟨b,off,none⟩,cap,by simp,?_⟩
   refine⟨by simp;omega,by simp;omega,Or.inr ⟨b,off,rfl,fun i hi=>?_⟩⟩
   simp only[List.length_map,List.length_range] at hi
   exact⟨f i,by simp[hi],hf i hi⟩
theorem cells_var : Tryz.prog.cellsOf 70=4:=by kernel_rfl
theorem open_vars {H:Type} {enc:TypeId × Value→H} {w:World} {sp:Nat→Bool} {hd:Bool} {fuel:Nat} {cs:List Value} {x:DataW H × List MemPlace} (h:DataW.trod enc Tryz.prog w 0 sp hd fuel 22 cs=some x) (hb:Rows.uptoBulk x.1≤1048576) :
  ∃ (l:List VarD) (a:Option Addr) (cap:Nat),cs=[.slice a l.length cap]∧VarsIn w l a cap:=by
 haveI:Inhabited VarD:=⟨⟨⟨#[]⟩,0,0,0⟩⟩
 refine open_elems (fun (v:VarD) b o=>w.cell? ⟨b,o,none⟩=some (.string v.name)∧w.cell? ⟨b,o+1,none⟩=some (.int .i64 v.width)∧w.cell? ⟨b,o+2,none⟩=some (.int .i64 v.mode)∧w.cell? ⟨b,o+3,none⟩=some (.int .i64 v.value)∧v.name.size≤1073741824) Tryz.underlying22 cells_var (by omega) h hb ?_
 intro n cs' y hy hlt
 obtain⟨y0,y1,y2,y3,m,rfl,hl,h0,h1,h2,h3⟩:=trod_struct4 Tryz.underlying70 hy
 rw[cells_var] at hl
 obtain⟨c0,c1,c2,c3,rfl⟩:=list4 hl
 simp only[cells_int,cells_str,List.drop,List.take] at h0 h1 h2 h3
 obtain⟨s,e0,rfl,_⟩:=DataW.trod_string Tryz.underlying9 h0
 obtain⟨n1,e1,rfl,_⟩:=DataW.trod_int Tryz.underlying3 h1
 obtain⟨n2,e2,rfl,_⟩:=DataW.trod_int Tryz.underlying3 h2
 obtain⟨n3,e3,rfl,_⟩:=DataW.trod_int Tryz.underlying3 h3
 simp only[List.cons.injEq,and_true] at e0 e1 e2 e3
 subst e0 e1 e2 e3
 simp only[Rows.uptoBulk,Rows.uptoBulkAll] at hlt
 have hsz:=size_list s
 exact⟨⟨s,n1,n2,n3⟩,fun b o hc=>⟨hc 0 (by omega),hc 1 (by omega),hc 2 (by omega),hc 3 (by omega),by show s.size≤_;omega⟩⟩
theorem cells_ints : Tryz.prog.cellsOf 30=1:=by kernel_rfl
theorem cells_bool : Tryz.prog.cellsOf 4=1:=by kernel_rfl
theorem cells_weight : Tryz.prog.cellsOf 73=4:=by kernel_rfl
theorem cells_weights : Tryz.prog.cellsOf 74=1:=by kernel_rfl
theorem cells_dist : Tryz.prog.cellsOf 76=2:=by kernel_rfl
theorem list2 {α:Type} {l:List α} (h:l.length=2):∃ a b,l=[a,b]:=by
 match l,h with
 | [a,b],_=>exact⟨a,b,rfl⟩
theorem open_ints' {H:Type} {enc:TypeId × Value→H} {w:World} {sp:Nat→Bool} {hd:Bool} {fuel:Nat} {cs:List Value} {x:DataW H × List MemPlace} (h:DataW.trod enc Tryz.prog w 0 sp hd fuel 30 cs=some x) (hb:Rows.uptoBulk x.1≤1048576) :
  ∃ (l:List Int) (a:Option Addr) (cap:Nat),cs=[.slice a l.length cap]∧IntsIn w l a cap:=by
 refine open_elems (fun (v:Int) b o=>w.cell? ⟨b,o,none⟩=some (.int .i64 v)) Tryz.underlying30 cells_int (by omega) h hb ?_
 intro n cs' y hy hlt
 obtain⟨n1,rfl,_,_⟩:=DataW.trod_int Tryz.underlying3 hy
 exact⟨n1,fun b o hc=>hc 0 (by omega)⟩
theorem open_rows {H:Type} {enc:TypeId × Value→H} {w:World} {sp:Nat→Bool} {hd:Bool} {fuel:Nat} {cs:List Value} {x:DataW H × List MemPlace} (h:DataW.trod enc Tryz.prog w 0 sp hd fuel 25 cs=some x) (hb:Rows.uptoBulk x.1≤1048576) :
  ∃ (l:List (List Int)) (a:Option Addr) (cap:Nat),cs=[.slice a l.length cap]∧RowsIn w l a cap:=by
 refine open_elems (fun (v:List Int) b o=>∃ a' cap',w.cell? ⟨b,o,none⟩=some (.slice a' v.length cap')∧IntsIn w v a' cap') Tryz.underlying25 cells_ints (by omega) h hb ?_
 intro n cs' y hy hlt
 obtain⟨l,a,cap,rfl,hI⟩:=open_ints' hy (by omega)
 exact⟨l,fun b o hc=>⟨a,cap,hc 0 (by omega),hI⟩⟩
theorem open_weights {H:Type} {enc:TypeId × Value→H} {w:World} {sp:Nat→Bool} {hd:Bool} {fuel:Nat} {cs:List Value} {x:DataW H × List MemPlace} (h:DataW.trod enc Tryz.prog w 0 sp hd fuel 74 cs=some x) (hb:Rows.uptoBulk x.1≤1048576) :
  ∃ (l:List WeightD) (a:Option Addr) (cap:Nat),cs=[.slice a l.length cap]∧WeightsIn w l a cap:=by
 haveI:Inhabited WeightD:=⟨⟨0,0,0,false⟩⟩
 refine open_elems (fun (v:WeightD) b o=>w.cell? ⟨b,o,none⟩=some (.int .i64 v.lo)∧w.cell? ⟨b,o+1,none⟩=some (.int .i64 v.hi)∧w.cell? ⟨b,o+2,none⟩=some (.int .i64 v.weight)∧w.cell? ⟨b,o+3,none⟩=some (.bool v.each)) Tryz.underlying74 cells_weight (by omega) h hb ?_
 intro n cs' y hy hlt
 obtain⟨y0,y1,y2,y3,m,rfl,hl,h0,h1,h2,h3⟩:=trod_struct4 Tryz.underlying73 hy
 rw[cells_weight] at hl
 obtain⟨c0,c1,c2,c3,rfl⟩:=list4 hl
 simp only[cells_int,cells_bool,List.drop,List.take] at h0 h1 h2 h3
 obtain⟨n0,e0,rfl,_⟩:=DataW.trod_int Tryz.underlying3 h0
 obtain⟨n1,e1,rfl,_⟩:=DataW.trod_int Tryz.underlying3 h1
 obtain⟨n2,e2,rfl,_⟩:=DataW.trod_int Tryz.underlying3 h2
 obtain⟨n3,e3,rfl⟩:=DataW.trod_bool Tryz.underlying4 h3
 simp only[List.cons.injEq,and_true] at e0 e1 e2 e3
 subst e0 e1 e2 e3
 exact⟨⟨n0,n1,n2,n3⟩,fun b o hc=>⟨hc 0 (by omega),hc 1 (by omega),hc 2 (by omega),hc 3 (by omega)⟩⟩
theorem open_dists {H:Type} {enc:TypeId × Value→H} {w:World} {sp:Nat→Bool} {hd:Bool} {fuel:Nat} {cs:List Value} {x:DataW H × List MemPlace} (h:DataW.trod enc Tryz.prog w 0 sp hd fuel 24 cs=some x) (hb:Rows.uptoBulk x.1≤1048576) :
  ∃ (l:List DistD) (a:Option Addr) (cap:Nat),cs=[.slice a l.length cap]∧DistsIn w l a cap:=by
 haveI:Inhabited DistD:=⟨⟨0,[]⟩⟩
 refine open_elems (fun (v:DistD) b o=>∃ a' cap',w.cell? ⟨b,o,none⟩=some (.int .i64 v.var)∧w.cell? ⟨b,o+1,none⟩=some (.slice a' v.weights.length cap')∧WeightsIn w v.weights a' cap') Tryz.underlying24 cells_dist (by omega) h hb ?_
 intro n cs' y hy hlt
 obtain⟨y0,y1,m,rfl,hl,h0,h1⟩:=trod_struct2 Tryz.underlying76 hy
 rw[cells_dist] at hl
 obtain⟨c0,c1,rfl⟩:=list2 hl
 simp only[cells_int,cells_weights,List.drop,List.take] at h0 h1
 obtain⟨n0,e0,rfl,_⟩:=DataW.trod_int Tryz.underlying3 h0
 simp only[List.cons.injEq,and_true] at e0
 subst e0
 simp only[Rows.uptoBulk,Rows.uptoBulkAll] at hlt
 obtain⟨l,a,cap,e1,hI⟩:=open_weights h1 (by omega)
 simp only[List.cons.injEq,and_true] at e1
 subst e1
 exact⟨⟨n0,l⟩,fun b o hc=>⟨a,cap,hc 0 (by omega),hc 1 (by omega),hI⟩⟩
theorem cells_prob : Tryz.prog.cellsOf 27=5:=by kernel_rfl
theorem cells_vars : Tryz.prog.cellsOf 22=1:=by kernel_rfl
theorem cells_dists : Tryz.prog.cellsOf 24=1:=by kernel_rfl
theorem cells_rows : Tryz.prog.cellsOf 25=1:=by kernel_rfl
theorem list5 {α:Type} {l:List α} (h:l.length=5):∃ a b c d e,l=[a,b,c,d,e]:=by
 match l,h with
 | [a,b,c,d,e],_=>exact⟨a,b,c,d,e,rfl⟩
end Go.Proofs.YtcplmcjbkpmhdaaGreatDoor
namespace Go.Proofs.YtcplmcjbkpmhdaaGreatDoor
open Go.ChangeShapes Go.WideShapes Go.ChangeAt Go.RowKit
theorem ownK:ownKnob Tryz.prog.godebug=none:=by kernel_rfl
theorem laidOutK:laidOutB Tryz.prog=true:=by kernel_rfl
def bytesOf {H:Type}:DataW H→List UInt8
 | .lit (.string b)=>b
 | _=>[]
theorem strs_bytes {H:Type} (ss:List ByteArray):((strs ss:List (DataW H)).map bytesOf)=ss.map (·.data.toList):=by
 unfold strs
 rw[List.map_map]
 rfl
theorem kw_shape:∃ l r,(Rows.laid_testbench_lexer_keywords:DataW Unit)=.slice l r∧l.map bytesOf=kwL:=⟨_,_,rfl,rfl⟩
theorem kwS_of {ss:List ByteArray} (h:ss.map (·.data.toList)=kwL):ss=kwS:=by
 unfold kwS
 rw[← h,List.map_map]
 conv=>lhs;rw[← List.map_id ss]
 apply List.map_congr_left
 intro s _
 show s=ByteArray.mk s.data.toList.toArray
 rw[Array.toArray_toList]
theorem glob_of {W:World} {g:Nat} {t:TypeId} {cs:Array Value} {fuel:Nat} {p:List MemPlace} (hsh:W.ShapedOpen Tryz.prog) (h1 : Tryz.prog.globalNamed "testbench/lexer.keywords"=some g) (h2:(Tryz.prog.globals[g]?).map (·.type)=some t) (h3:W.var? Tryz.prog "testbench/lexer.keywords"=some cs)
  (h4:DataW.trod (fun _=>()) Tryz.prog W 0 (fun _=>true) false fuel t cs.toList=some (Rows.laid_testbench_lexer_keywords,p)):Glob W:=by
 refine⟨cell_of_shapedOpen_int (P:=Tryz.prog) (g:=1) (t:=3) (zero:=#[.int .i64 0]) hsh (of_decide_eq_true (by kernel_rfl)) (by kernel_rfl) rfl (by kernel_rfl) (by kernel_rfl) Tryz.underlying3,?_⟩
 obtain rfl:0=g:=Option.some.inj ((show Tryz.prog.globalNamed "testbench/lexer.keywords"=some 0 by kernel_rfl).symm.trans h1)
 obtain rfl : 129=t:=Option.some.inj ((show (Tryz.prog.globals[0]?).map (·.type)=some 129 by kernel_rfl).symm.trans h2)
 have h0:W.cell? ⟨0,0,none⟩=cs[0]?:=by
  unfold World.var? at h3
  rw[h1] at h3
  simp only[Option.bind_some] at h3
  split at h3
  ·rename_i c t0 f0 hh
   obtain rfl:=Option.some.inj h3
   simp[World.cell?,hh]
  ·simp at h3
 obtain⟨kl,kr,hk,hkl⟩:=kw_shape
 rw[hk] at h4
 rcases open_strings Tryz.underlying129 Tryz.underlying9 cells_str h4 with ⟨_,hx⟩ | ⟨a,len,cap,ss,hcs,_,hl,_,hz,hx,hcell,_⟩
 ·have:=congrArg Prod.fst hx
  simp at this
 ·have hx1:=congrArg Prod.fst hx
  simp only[DataW.slice.injEq] at hx1
  have he:=congrArg (List.map bytesOf) hx1.1
  rw[hkl,strs_bytes] at he
  have hS:=kwS_of he.symm
  have hsl:ss.length=cap:=by simpa using hz
  have hlen:len=24:=by
   have h24:(ss.take len).length=24:=by rw[hS];rfl
   rw[List.length_take] at h24
   omega
  subst hlen
  obtain⟨b,off,sp⟩:=a
  have hsp:sp=none:=by simpa [Addr.add] using World.cell?_spot (hcell 0 (by omega))
  subst hsp
  refine⟨b,off,cap,?_,fun i hi=>?_⟩
  ·rw[h0]
   have:cs=#[Value.slice (some ⟨b,off,none⟩) 24 cap]:=by
    apply Array.toList_inj.1
    rw[hcs]
   rw[this]
   rfl
  ·have hc:=hcell i (by omega)
   have hg:ss.getD i ByteArray.empty=kwS.getD i ByteArray.empty:=by
    rw[← hS,List.getD_eq_getElem?_getD,List.getD_eq_getElem?_getD,List.getElem?_take_of_lt hi]
   rw[hg] at hc
   have ha:((⟨b,off,none⟩:Addr).add i)=⟨b,off+i,none⟩:=by unfold Addr.add;split<;>simp_all
   rw[ha] at hc
   exact hc
theorem glob_laid {W:World} (hsh:W.ShapedOpen Tryz.prog) (hL:laidMetH Tryz.prog [("math/bits.deBruijn32tab",Rows.laid_math_bits_deBruijn32tab),("math/bits.deBruijn64tab",Rows.laid_math_bits_deBruijn64tab),("internal/strconv.uint64pow10",Rows.laid_internal_strconv_uint64pow10),("testbench/lexer.keywords",Rows.laid_testbench_lexer_keywords)] W):Glob W:=by
 have hL':laidMet Tryz.prog [("math/bits.deBruijn32tab",Rows.laid_math_bits_deBruijn32tab),("math/bits.deBruijn64tab",Rows.laid_math_bits_deBruijn64tab),("internal/strconv.uint64pow10",Rows.laid_internal_strconv_uint64pow10),("testbench/lexer.keywords",Rows.laid_testbench_lexer_keywords)] W:=hL
 obtain⟨ps,hv,_⟩:=hL'
 obtain⟨_,_,_,_,_,_,_,_,_,_,hv,_⟩:=hv
 obtain⟨_,_,_,_,_,_,_,_,_,_,hv,_⟩:=hv
 obtain⟨_,_,_,_,_,_,_,_,_,_,hv,_⟩:=hv
 obtain⟨_,_,_,_,_,_,h1,h2,h3,h4,_,_⟩:=hv
 exact glob_of hsh h1 h2 h3 h4
noncomputable def laidWorld (os:Os):World :=
 let N:=(World.settled Tryz.prog os).heap.size
 let w0:=World.holding Tryz.prog os ⟨#[.cells (kwS.map Value.string).toArray 9],#[],[]⟩
 let put (h:Array Obj) (g:Nat) (cs:Array Value):Array Obj:=h.modify g fun
  | .cells _ t frozen=>.cells cs t frozen
  | o=>o
 let h1:=put w0.heap 3 #[.int .u8 0,.int .u8 1,.int .u8 28,.int .u8 2,.int .u8 29,.int .u8 14,.int .u8 24,.int .u8 3,.int .u8 30,.int .u8 22,.int .u8 20,.int .u8 15,.int .u8 25,.int .u8 17,.int .u8 4,.int .u8 8,.int .u8 31,.int .u8 27,.int .u8 13,.int .u8 23,.int .u8 21,.int .u8 19,.int .u8 16,.int .u8 7,.int .u8 26,.int .u8 12,.int .u8 18,.int .u8 6,.int .u8 11,.int .u8 5,.int .u8 10,.int .u8 9]
 let h2:=put h1 4 #[.int .u8 0,.int .u8 1,.int .u8 56,.int .u8 2,.int .u8 57,.int .u8 49,.int .u8 28,.int .u8 3,.int .u8 61,.int .u8 58,.int .u8 42,.int .u8 50,.int .u8 38,.int .u8 29,.int .u8 17,.int .u8 4,.int .u8 62,.int .u8 47,.int .u8 59,.int .u8 36,.int .u8 45,.int .u8 43,.int .u8 51,.int .u8 22,.int .u8 53,.int .u8 39,.int .u8 33,.int .u8 30,.int .u8 24,.int .u8 18,.int .u8 12,.int .u8 5,.int .u8 63,.int .u8 55,.int .u8 48,.int .u8 27,.int .u8 60,.int .u8 41,.int .u8 37,.int .u8 16,.int .u8 46,.int .u8 35,.int .u8 44,.int .u8 21,.int .u8 52,.int .u8 32,.int .u8 23,.int .u8 11,.int .u8 54,.int .u8 26,.int .u8 40,.int .u8 15,.int .u8 34,.int .u8 20,.int .u8 31,.int .u8 10,.int .u8 25,.int .u8 14,.int .u8 19,.int .u8 9,.int .u8 13,.int .u8 8,.int .u8 7,.int .u8 6]
 let h3:=put h2 2 #[.int .u64 1,.int .u64 10,.int .u64 100,.int .u64 1000,.int .u64 10000,.int .u64 100000,.int .u64 1000000,.int .u64 10000000,.int .u64 100000000,.int .u64 1000000000,.int .u64 10000000000,.int .u64 100000000000,.int .u64 1000000000000,.int .u64 10000000000000,.int .u64 100000000000000,.int .u64 1000000000000000,.int .u64 10000000000000000,.int .u64 100000000000000000,.int .u64 1000000000000000000,.int .u64 10000000000000000000]
 let h4:=put h3 0 #[.slice (some ⟨N,0,none⟩) 24 24]
 { w0 with heap:=h4 }
theorem laid_met (os:Os) (args:Array Value):laidMet Tryz.prog [("math/bits.deBruijn32tab",Rows.laid_math_bits_deBruijn32tab),("math/bits.deBruijn64tab",Rows.laid_math_bits_deBruijn64tab),("internal/strconv.uint64pow10",Rows.laid_internal_strconv_uint64pow10),("testbench/lexer.keywords",Rows.laid_testbench_lexer_keywords)] ((laidWorld os).forCall (fun _ _=>0) ⟨#[],args,[]⟩).memory :=
 (LaidIn.of_run (l:=[("math/bits.deBruijn32tab",Rows.laid_math_bits_deBruijn32tab),("math/bits.deBruijn64tab",Rows.laid_math_bits_deBruijn64tab),("internal/strconv.uint64pow10",Rows.laid_internal_strconv_uint64pow10),("testbench/lexer.keywords",Rows.laid_testbench_lexer_keywords)]) [3,4,2,0,(World.settled Tryz.prog default).heap.size] 8 (by kernel_rfl) (by kernel_rfl) (by kernel_rfl) (by kernel_rfl)).met
section
variable {H : Type} {enc : TypeId × Value → H} {w : World} {base b0 : Nat} {sp : Nat → Bool} {hd : Bool} {r : Reach} {v : Value} {d : DataW H} {ps : List MemPlace}
set_option maxRecDepth 100000 in
theorem arg_int (hv:Value.okWide Tryz.prog w r b0 3 v) (h:DataW.Trod enc Tryz.prog w 0 sp hd 3 v d ps):∃ n:Int,v=.int .i64 n∧(Lit.int .i64 n).wf=true:=by
 obtain⟨n,rfl,_,_,hw⟩:=open_int Tryz.underlying3 hv h
 exact⟨n,rfl,hw⟩
end
end Go.Proofs.YtcplmcjbkpmhdaaGreatDoor
