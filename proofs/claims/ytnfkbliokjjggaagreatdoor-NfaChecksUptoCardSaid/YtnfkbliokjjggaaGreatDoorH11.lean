/- Opening the arguments of the seat: sequences, signals. -/
import Derived.Test.YtnfkbliokjjggaaGreatDoorH10
import Derived.Test.YtnfkbliokjjggaaGreatDoorRows
import Derived.Lib.SmallJoins
import Derived.Deep.Slices
import Derived.Test.YtnfkbliokjjggaaGreatDoorCards
import Derived.Test.YtnfkbliokjjggaaGreatDoorTie
import Derived.WalkKit
import Derived.ProofKit
import Derived.OpenShut
import Derived.Carry
import Derived.SliceStrings
import Derived.JoinedCond
import Derived.SevenTiedAt
import Derived.Deep.DeepHandedRow
import Derived.Deep.DeepWitnessRowRef
import Derived.Lib.LaidIn
import Derived.Shelf.Vars
import Derived.Lib.LaidTab
set_option maxRecDepth 100000
set_option linter.unusedSimpArgs false
set_option linter.unusedVariables false
set_option linter.unnecessarySimpa false
namespace Go.Proofs.YtnfkbliokjjggaaGreatDoor
open Go.RowKit Go.ChangeShapes Go.Deep Go.Joins
theorem za7 {w:World} {a:Addr} {len sz:Nat} {Q:Nat->List Value->Prop} (hs:0<sz) (hn:0<len) (h:∀i,i<len->∃cs,w.cells? 0 (a.add (i*sz)) sz=some cs/\Q i cs) :
 ∃b off,a=⟨b,off,none⟩/\∀i,i<len->∃cs:List Value,(∀j,j<sz->w.cell? ⟨b,off+i*sz+j,none⟩=cs[j]?)/\cs.length=sz/\Q i cs:=by
 obtain⟨b,off,sp⟩:=a;have hsp:sp=none:=by
  obtain⟨cs,hc,_⟩:=h 0 hn;rw[Nat.zero_mul]at hc;have h1:=(World.cells?_some hc);obtain⟨_,hl,h2⟩:=h1;have h3:=h2 0 (by omega);simp only[Addr.add,if_true]at h3;cases sp with
  |none=>rfl
  |some q =>
   exfalso;simp[World.cell?]at h3;split at h3
   ·have:cs[0]? = none:=h3.symm;rw[List.getElem?_eq_none_iff]at this;omega
   ·have:cs[0]? = none:=h3.symm;rw[List.getElem?_eq_none_iff]at this;omega
 subst hsp;refine⟨b,off,rfl,λi hi=>?_⟩;obtain⟨cs,hc,hq⟩:=h i hi;obtain⟨_,hl,h2⟩:=World.cells?_some hc;refine⟨cs,λj hj=>?_,hl,hq⟩;have h3:=h2 j (by omega);rw[←h3];congr 1;unfold Addr.add;split<;>split<;>simp_all<;>omega
theorem Xj {H:Type} (l:List (DataW H)):∀d,d∈l->Rows.uptoBulk d<=Rows.uptoBulkAll l:=by
 induction l with
 |nil=>intro d hd;simp at hd
 |cons c l ih =>
  intro d hd;simp only[Rows.uptoBulkAll];rcases List.mem_cons.1 hd with rfl|hd
  ·omega
  ·have:=ih d hd;omega
theorem zgb {H:Type} (d:DataW H):1<=Rows.uptoBulk d:=by
 cases d with
 |lit l=>cases l<;>simp[Rows.uptoBulk]
 |_=>simp[Rows.uptoBulk]
theorem Xi {H:Type} (l:List (DataW H)):l.length<=Rows.uptoBulkAll l:=by
 induction l with
 |nil=>simp
 |cons c l ih =>simp only[Rows.uptoBulkAll,List.length_cons];have:=zgb c;omega
theorem Yy : Tryz.prog.cellsOf 24=4:=by kernel_rfl
theorem Z5 : Tryz.prog.cellsOf 3=1:=by kernel_rfl
theorem Xl : Tryz.prog.cellsOf 9=1:=by kernel_rfl
theorem Xk : Tryz.prog.cellsOf 22=1:=by kernel_rfl
theorem zhA {α:Type} {l:List α} (h:l.length=4):∃a b c d,l=[a,b,c,d]:=by
 match l,h with
 | [a,b,c,d],_=>exact⟨a,b,c,d,rfl⟩
theorem zbg (s:ByteArray):s.size=s.data.toList.length:=by show s.data.size=_;exact Array.length_toList.symm
theorem YE {α:Type} [Inhabited α] {H:Type} {enc:TypeId×Value->H} {w:World} {sp:Nat->Bool} {hd:Bool} {t e:TypeId} {sz:Nat} (Q:α->Nat->Nat->Prop) (ht : Tryz.prog.underlying t=some (.slice e)) (hc : Tryz.prog.cellsOf e=sz) (hs:0<sz)
 {fuel:Nat} {cs:List Value} {x:DataW H×List MemPlace} (h:DataW.trod enc Tryz.prog w 0 sp hd fuel t cs=some x) (hb:Rows.uptoBulk x.1<=1048576)
 (ih:∀n cs' y,DataW.trod enc Tryz.prog w 0 sp hd n e cs'=some y->Rows.uptoBulk y.1<Rows.uptoBulk x.1->∃v:α,∀b o,(∀j,j<sz->w.cell? ⟨b,o+j,none⟩=cs'[j]?)->Q v b o) :
 ∃(l:List α) (a:Option Addr) (cap:Nat),cs=[.slice a l.length cap]/\zw sz l.length a cap (λi b o=>∃v,l[i]? = some v/\Q v b o):=by
 rcases open_slice ht h with ⟨rfl,rfl⟩|⟨a,len,cap,m,n,D,Pl,rfl,_,hlc,hcm,hm,rfl,hel⟩
 ·exact⟨[],none,0,rfl,⟨by simp,by simp,Or.inl rfl⟩⟩
 ·rw[hc]at hel;have hlm:len<=m:=by rw[hm];split<;>omega
  simp only[Rows.uptoBulk]at hb ih;have hlb:=Xi ((List.range len).map D);simp only[List.length_map,List.length_range]at hlb;by_cases h0:len=0
  ·subst h0;exact⟨[],some a,cap,rfl,⟨by simp,by simp,Or.inl rfl⟩⟩
  ·have hch:∀i,i<len->∃cs',w.cells? 0 (a.add (i*sz)) sz=some cs'/\(∃v:α,∀b o,(∀j,j<sz->w.cell? ⟨b,o+j,none⟩=cs'[j]?)->Q v b o):=λi hi=>by
    obtain⟨cs',h1,h2⟩:=hel i (by omega);refine⟨cs',h1,ih n cs' _ h2 ?_⟩;have:=Xj ((List.range len).map D) (D i) (List.mem_map.2 ⟨i,List.mem_range.2 hi,rfl⟩);simp only;omega
   obtain⟨b,off,rfl,hr⟩:=za7 hs (by omega) hch;have hch2:∀i,i<len->∃v:α,Q v b (off+i*sz):=λi hi=>by obtain⟨cs',h1,_,v,hv⟩:=hr i hi;exact⟨v,hv b _ h1⟩
   obtain⟨f,hf⟩:=choose_lt hch2;refine⟨(List.range len).map f,some ⟨b,off,none⟩,cap,by simp,?_⟩;refine⟨by simp;omega,by simp;omega,Or.inr ⟨b,off,rfl,λi hi=>?_⟩⟩;simp only[List.length_map,List.length_range]at hi;exact⟨f i,by simp[hi],hf i hi⟩
theorem zc4 : Tryz.prog.cellsOf 31=1:=by kernel_rfl
theorem zdx {H:Type} {enc:TypeId×Value->H} {w:World} {sp:Nat->Bool} {hd:Bool} {fuel:Nat} {cs:List Value} {x:DataW H×List MemPlace} (h:DataW.trod enc Tryz.prog w 0 sp hd fuel 31 cs=some x) (hb:Rows.uptoBulk x.1<=1048576) :
 ∃(l:List Int) (a:Option Addr) (cap:Nat),cs=[.slice a l.length cap]/\IntsIn w l a cap:=by
 refine YE (λ(v:Int) b o=>w.cell? ⟨b,o,none⟩=some (.int .i64 v)) Tryz.underlying31 Z5 (by omega) h hb ?_;intro n cs' y hy hlt;obtain⟨n1,rfl,_,_⟩:=DataW.trod_int Tryz.underlying3 hy;exact⟨n1,λb o hc=>hc 0 (by omega)⟩
theorem zjg {α:Type} {l:List α} (h:l.length=5):∃a b c d e,l=[a,b,c,d,e]:=by
 match l,h with
 | [a,b,c,d,e],_=>exact⟨a,b,c,d,e,rfl⟩
theorem zjf {α:Type} {l:List α} (h:l.length=3):∃a b c,l=[a,b,c]:=by
 match l,h with
 | [a,b,c],_=>exact⟨a,b,c,rfl⟩
noncomputable def xp (l:List Ex):Nat:=((l.map Ex.nodes).flatten).length
theorem zfd (e:Ex):e.nodes.length=xp e.args+1:=by rw[Ex.nodes_eq,List.length_cons];rfl
theorem Q9 (e:Ex) (l:List Ex):xp (e::l)=e.nodes.length+xp l:=by unfold xp;simp
theorem zaX {H:Type} (l:List Nat) (f:Nat->Ex) (D:Nat->DataW H) (h:∀i,i∈l->(f i).nodes.length<=Rows.uptoBulk (D i)):xp (l.map f)<=Rows.uptoBulkAll (l.map D):=by
 induction l with
 |nil=>simp[xp]
 |cons c l ih =>simp only[List.map_cons,Rows.uptoBulkAll];rw[Q9];have h1:=h c (by simp);have h2:=ih λi hi=>h i (by simp[hi]);omega
section
variable {H : Type} {enc : TypeId × Value → H} {w : World} {sp : Nat → Bool} {hd : Bool}
theorem XN {fuel:Nat} {cs:List Value} {x:DataW H×List MemPlace} (h:DataW.trod enc Tryz.prog w 0 sp hd fuel 22 cs=some x) (hb:Rows.uptoBulk x.1<=1048576)
 (ih:∀n cs' y,DataW.trod enc Tryz.prog w 0 sp hd n 24 cs'=some y->Rows.uptoBulk y.1<Rows.uptoBulk x.1->∃(e:Ex) (a:Option Addr) (cap:Nat),cs'=[.int .i64 e.op,.int .i64 e.n,.string e.name,.slice a e.args.length cap]/\yA w e a cap/\e.nodes.length<=Rows.uptoBulk y.1) :
 ∃(l:List Ex) (a:Option Addr) (cap:Nat),cs=[.slice a l.length cap]/\qS w l a cap/\xp l<=Rows.uptoBulk x.1/\l.length<=Rows.uptoBulk x.1:=by
 rcases open_slice Tryz.underlying22 h with ⟨rfl,rfl⟩|⟨a,len,cap,m,n,D,Pl,rfl,_,hlc,hcm,hm,rfl,hel⟩
 ·exact⟨[],none,0,rfl,⟨by simp,by simp,Or.inl rfl⟩,by simp[xp],by simp⟩
 ·rw[Yy]at hel;have hlm:len<=m:=by rw[hm];split<;>omega
  simp only[Rows.uptoBulk]at hb ih⊢;have hlb:=Xi ((List.range len).map D);simp only[List.length_map,List.length_range]at hlb;by_cases h0:len=0
  ·subst h0;exact⟨[],some a,cap,rfl,⟨by simp,by simp,Or.inl rfl⟩,by simp[xp],by simp⟩
  ·have hch:∀i,i<len->∃cs',w.cells? 0 (a.add (i*4)) 4=some cs'/\(∃(e:Ex) (a:Option Addr) (cap:Nat),cs'=[.int .i64 e.op,.int .i64 e.n,.string e.name,.slice a e.args.length cap]/\yA w e a cap/\e.nodes.length<=Rows.uptoBulk (D i)):=λi hi=>by
    obtain⟨cs',h1,h2⟩:=hel i (by omega);refine⟨cs',h1,ih n cs' _ h2 ?_⟩;have:=Xj ((List.range len).map D) (D i) (List.mem_map.2 ⟨i,List.mem_range.2 hi,rfl⟩);simp only;omega
   obtain⟨b,off,rfl,hr⟩:=za7 (by omega) (by omega) hch;have hch2:∀i,i<len->∃e:Ex,zhl w e b (off+i*4)/\e.nodes.length<=Rows.uptoBulk (D i):=λi hi=>by obtain⟨cs',h1,_,e,a',cap',rfl,hX,hN⟩:=hr i hi;exact⟨e,(Y1 _ _ _ _).2 ⟨a',cap',h1 0 (by omega),h1 1 (by omega),h1 2 (by omega),h1 3 (by omega),hX⟩,hN⟩
   haveI:Inhabited Ex:=⟨.mk 0 0 ⟨#[]⟩ []⟩
   obtain⟨f,hf⟩:=choose_lt hch2;have hall:=zaX (List.range len) f D (λi hi=>(hf i (List.mem_range.1 hi)).2);refine⟨(List.range len).map f,some ⟨b,off,none⟩,cap,by simp,?_,by omega,by simp;omega⟩;refine⟨by simp;omega,by simp;omega,Or.inr ⟨b,off,rfl,λi hi=>?_⟩⟩;simp only[List.length_map,List.length_range]at hi;exact⟨f i,by simp[hi],(hf i hi).1⟩
theorem Qv:∀(N:Nat),N<=1048576->∀(fuel:Nat) (cs:List Value) (x:DataW H×List MemPlace),DataW.trod enc Tryz.prog w 0 sp hd fuel 24 cs=some x->Rows.uptoBulk x.1<=N ->
 ∃(e:Ex) (a:Option Addr) (cap:Nat),cs=[.int .i64 e.op,.int .i64 e.n,.string e.name,.slice a e.args.length cap]/\yA w e a cap/\e.nodes.length<=Rows.uptoBulk x.1:=by
 intro N
 induction N using Nat.strongRecOn with
 |_ N ih =>
  intro hN fuel cs x h hb;obtain⟨y0,y1,y2,y3,n,rfl,hl,h0,h1,h2,h3⟩:=trod_struct4 Tryz.underlying24 h;rw[Yy]at hl;obtain⟨c0,c1,c2,c3,rfl⟩:∃c0 c1 c2 c3,cs=[c0,c1,c2,c3]:=by exact zhA hl
  simp only[Z5,Xl,Xk,List.drop,List.take]at h0 h1 h2 h3;obtain⟨op,e0,rfl,_⟩:=DataW.trod_int Tryz.underlying3 h0;obtain⟨nn,e1,rfl,_⟩:=DataW.trod_int Tryz.underlying3 h1;obtain⟨s,e2,rfl,_⟩:=DataW.trod_string Tryz.underlying9 h2;simp only[List.cons.injEq,and_true]at e0 e1 e2;subst e0 e1 e2;simp only[Rows.uptoBulk,Rows.uptoBulkAll]at hb⊢;obtain⟨l,a,cap,e3,hX,hn,_⟩:=XN h3 (by omega) (λm cs' y hy hlt=>ih (Rows.uptoBulk y.1) (by omega) (by omega) m cs' y hy (Nat.le_refl _));simp only[List.cons.injEq,and_true]at e3;subst e3;refine⟨.mk op nn s l,a,cap,rfl,⟨?_,hX⟩,?_⟩
  ·show s.size<=_;have:=zbg s;omega
  ·rw[zfd];show xp l+1<=_;omega
theorem zbS {fuel:Nat} {cs:List Value} {x:DataW H×List MemPlace} (h:DataW.trod enc Tryz.prog w 0 sp hd fuel 22 cs=some x) (hb:Rows.uptoBulk x.1<=1048576) :
 ∃(l:List Ex) (a:Option Addr) (cap:Nat),cs=[.slice a l.length cap]/\qS w l a cap/\xp l<=Rows.uptoBulk x.1/\l.length<=Rows.uptoBulk x.1 :=
 XN h hb (λm cs' y hy hlt=>Qv (Rows.uptoBulk y.1) (by omega) m cs' y hy (Nat.le_refl _))
end
section
variable {H : Type} {enc : TypeId × Value → H} {w : World} {sp : Nat → Bool} {hd : Bool}
end
open Go.ChangeShapes Go.WideShapes Go.ChangeAt Go.RowKit
theorem ownK:ownKnob Tryz.prog.godebug=none:=by kernel_rfl
theorem zgy:laidOutB Tryz.prog=true:=by kernel_rfl
def bytesOf {H:Type}:DataW H->List UInt8
 | .lit (.string b)=>b
 |_=>[]
theorem zdV {H:Type} (ss:List ByteArray):((strs ss:List (DataW H)).map bytesOf)=ss.map (·.data.toList):=by unfold strs;rw[List.map_map];rfl
theorem zgx:∃l r,(Rows.laid_testbench_lexer_keywords:DataW Unit)=.slice l r/\l.map bytesOf=kwL:=⟨_,_,rfl,rfl⟩
theorem zjc {ss:List ByteArray} (h:ss.map (·.data.toList)=kwL):ss=kwS:=by
 unfold kwS;rw[←h,List.map_map]
 conv=>lhs;rw[←List.map_id ss]
 apply List.map_congr_left;intro s _;show s=ByteArray.mk s.data.toList.toArray;rw[Array.toArray_toList]
theorem zh7 {W:World} {g:Nat} {t:TypeId} {cs:Array Value} {fuel:Nat} {p:List MemPlace} (hsh:W.ShapedOpen Tryz.prog) (h1 : Tryz.prog.globalNamed "testbench/lexer.keywords"=some g) (h2:(Tryz.prog.globals[g]?).map (·.type)=some t) (h3:W.var? Tryz.prog "testbench/lexer.keywords"=some cs)
 (h4:DataW.trod (λ_=>()) Tryz.prog W 0 (λ_=>true) false fuel t cs.toList=some (Rows.laid_testbench_lexer_keywords,p)):qW W:=by
 refine⟨cell_of_shapedOpen_int (P:=Tryz.prog) (g:=1) (t:=3) (zero:=#[.int .i64 0]) hsh (of_decide_eq_true (by kernel_rfl)) (by kernel_rfl) rfl (by kernel_rfl) (by kernel_rfl) Tryz.underlying3,?_⟩;obtain rfl:0=g:=Option.some.inj ((show Tryz.prog.globalNamed "testbench/lexer.keywords"=some 0 by kernel_rfl).symm.trans h1);obtain rfl : 43=t:=Option.some.inj ((show (Tryz.prog.globals[0]?).map (·.type)=some 43 by kernel_rfl).symm.trans h2);have h0:W.cell? ⟨0,0,none⟩=cs[0]?:=by
  unfold World.var? at h3;rw[h1]at h3;simp only[Option.bind_some]at h3;split at h3
  ·rename_i c t0 f0 hh;obtain rfl:=Option.some.inj h3;simp[World.cell?,hh]
  ·simp at h3
 obtain⟨kl,kr,hk,hkl⟩:=zgx;rw[hk]at h4;rcases open_strings Tryz.underlying43 Tryz.underlying9 Xl h4 with ⟨_,hx⟩|⟨a,len,cap,ss,hcs,_,hl,_,hz,hx,hcell,_⟩
 ·have:=congrArg Prod.fst hx;simp at this
 ·have hx1:=congrArg Prod.fst hx;simp only[DataW.slice.injEq]at hx1;have he:=congrArg (List.map bytesOf) hx1.1;rw[hkl,zdV]at he;have hS:=zjc he.symm;have hsl:ss.length=cap:=by simpa using hz
  have hlen:len=24:=by
   have h24:(ss.take len).length=24:=by rw[hS];rfl
   rw[List.length_take]at h24;omega
  subst hlen;obtain⟨b,off,sp⟩:=a;have hsp:sp=none:=by simpa [Addr.add] using World.cell?_spot (hcell 0 (by omega))
  subst hsp;refine⟨b,off,cap,?_,λi hi=>?_⟩
  ·rw[h0];have:cs=#[Value.slice (some ⟨b,off,none⟩) 24 cap]:=by
    apply Array.toList_inj.1;rw[hcs]
   rw[this];rfl
  ·have hc:=hcell i (by omega);have hg:ss.getD i ByteArray.empty=kwS.getD i ByteArray.empty:=by
    rw[←hS,List.getD_eq_getElem?_getD,List.getD_eq_getElem?_getD,List.getElem?_take_of_lt hi]
   rw[hg]at hc;have ha:((⟨b,off,none⟩:Addr).add i)=⟨b,off+i,none⟩:=by unfold Addr.add;split<;>simp_all
   rw[ha]at hc;exact hc
section
variable {H : Type} {enc : TypeId × Value → H} {w : World} {base b0 : Nat} {sp : Nat → Bool} {hd : Bool} {r : Reach} {v : Value} {d : DataW H} {ps : List MemPlace}
end
open Go.RowKit Go.ChangeShapes Go.WideShapes Go.ChangeAt Go.Deep Go.Joins
theorem Qh : Tryz.prog.cellsOf 80=5:=by kernel_rfl
theorem zby : Tryz.prog.cellsOf 75=1:=by kernel_rfl
theorem Qi : Tryz.prog.cellsOf 77=4:=by kernel_rfl
theorem zbz : Tryz.prog.cellsOf 30=1:=by kernel_rfl
theorem zet : Tryz.prog.cellsOf 33=3:=by kernel_rfl
section
variable {H : Type} {enc : TypeId × Value → H} {w : World} {sp : Nat → Bool} {hd : Bool}
theorem zci {τ:Type} {E:Enc τ} {x:τ} {cs:List Value} {b o:Nat} (hR:E.R w x cs) (hc:∀j,j<cs.length->w.cell? ⟨b,o+j,none⟩=cs[j]?):E.At w x b o :=
 ⟨cs,hR,λj v hj=>(hc j (List.getElem?_eq_some_iff.1 hj).1).trans hj⟩
theorem zdv {fuel:Nat} {cs:List Value} {x:DataW H×List MemPlace} (h:DataW.trod enc Tryz.prog w 0 sp hd fuel 75 cs=some x) (hb:Rows.uptoBulk x.1<=1048576) :
 ∃(l:List xG) (a:Option Addr) (cap:Nat),cs=[.slice a l.length cap]/\bdE.In w l a cap:=by
 haveI:Inhabited xG:=⟨⟨⟨#[]⟩,.mk 0 0 ⟨#[]⟩ []⟩⟩
 refine YE (λ(v:xG) b o=>bdE.At w v b o) Tryz.underlying75 Qh (by omega) h hb ?_;intro n cs' y hy hlt;obtain⟨y0,y1,m,rfl,hl,h0,h1⟩:=trod_struct2 Tryz.underlying80 hy;rw[Qh]at hl;obtain⟨c0,c1,c2,c3,c4,rfl⟩:=zjg hl;simp only[Xl,Yy,List.drop,List.take]at h0 h1;obtain⟨s,e0,rfl,_⟩:=DataW.trod_string Tryz.underlying9 h0;simp only[Rows.uptoBulk,Rows.uptoBulkAll]at hlt;obtain⟨ex,ae,ce,e3,hE,_⟩:=Qv 1048576 (Nat.le_refl _) _ _ _ h1 (by omega);simp only[List.cons.injEq,and_true]at e0 e3;subst e0;obtain⟨rfl,rfl,rfl,rfl⟩:=e3;have:=zbg s;exact⟨⟨s,ex⟩,λb o hc=>zci (E:=bdE) ⟨ae,ce,rfl,by show s.size<=_;omega,hE⟩ hc⟩
theorem zdw {fuel:Nat} {cs:List Value} {x:DataW H×List MemPlace} (h:DataW.trod enc Tryz.prog w 0 sp hd fuel 30 cs=some x) (hb:Rows.uptoBulk x.1<=1048576) :
 ∃(l:List zk) (a:Option Addr) (cap:Nat),cs=[.slice a l.length cap]/\edE.In w l a cap:=by
 haveI:Inhabited zk:=⟨⟨0,0,[],[]⟩⟩
 refine YE (λ(v:zk) b o=>edE.At w v b o) Tryz.underlying30 Qi (by omega) h hb ?_;intro n cs' y hy hlt;obtain⟨y0,y1,y2,y3,m,rfl,hl,h0,h1,h2,h3⟩:=trod_struct4 Tryz.underlying77 hy;rw[Qi]at hl;obtain⟨c0,c1,c2,c3,rfl⟩:=zhA hl;simp only[Z5,Xk,zby,List.drop,List.take]at h0 h1 h2 h3;obtain⟨f,e0,rfl,_⟩:=DataW.trod_int Tryz.underlying3 h0;obtain⟨t,e1,rfl,_⟩:=DataW.trod_int Tryz.underlying3 h1;simp only[Rows.uptoBulk,Rows.uptoBulkAll]at hlt;obtain⟨gs,ag,cg,e2,hg,_⟩:=zbS h2 (by omega);obtain⟨ss,aS,cS,e3,hs⟩:=zdv h3 (by omega);simp only[List.cons.injEq,and_true]at e0 e1 e2 e3;subst e0 e1 e2 e3;exact⟨⟨f,t,gs,ss⟩,λb o hc=>zci (E:=edE) ⟨ag,cg,aS,cS,rfl,zco.2 hg,hs⟩ hc⟩
theorem zaj {P:Program} {base:Nat} {t:TypeId} {f0 f1 f2:Field} {fuel:Nat} {cs:List Value} {x:DataW H×List MemPlace} (ht:P.underlying t=some (.struct #[f0,f1,f2])) (h:DataW.trod enc P w base sp hd fuel t cs=some x) :
 ∃y0 y1 y2 n,x=(.agg [y0.1,y1.1,y2.1],y0.2++(y1.2++y2.2))/\cs.length=P.cellsOf t/\DataW.trod enc P w base sp hd n f0.type ((cs.drop f0.offset).take (P.cellsOf f0.type))=some y0 /\
  DataW.trod enc P w base sp hd n f1.type ((cs.drop f1.offset).take (P.cellsOf f1.type))=some y1/\DataW.trod enc P w base sp hd n f2.type ((cs.drop f2.offset).take (P.cellsOf f2.type))=some y2:=by
 obtain⟨xs,n,_,rfl,hl,hlen,hf⟩:=DataW.trod_struct ht h
 match xs,hlen with
 | [y0,y1,y2],_=>exact⟨y0,y1,y2,n,by simp,hl,by simpa using hf 0 f0 rfl,by simpa using hf 1 f1 rfl,by simpa using hf 2 f2 rfl⟩
theorem zgG {fuel:Nat} {cs:List Value} {x:DataW H×List MemPlace} (h:DataW.trod enc Tryz.prog w 0 sp hd fuel 33 cs=some x) (hb:Rows.uptoBulk x.1<=1048576) :
 ∃(n:zt) (y:qn),cs=Yh n y/\yb w n y:=by
 obtain⟨y0,y1,y2,m,rfl,hl,h0,h1,h2⟩:=zaj Tryz.underlying33 h;rw[zet]at hl;obtain⟨c0,c1,c2,rfl⟩:=zjf hl;simp only[Z5,zbz,zc4,List.drop,List.take]at h0 h1 h2;obtain⟨st,e0,rfl,_⟩:=DataW.trod_int Tryz.underlying3 h0;simp only[Rows.uptoBulk,Rows.uptoBulkAll]at hb;obtain⟨es,ae,ce,e1,he⟩:=zdw h1 (by omega);obtain⟨ac,aa,ca,e2,ha⟩:=zdx h2 (by omega);simp only[List.cons.injEq,and_true]at e0 e1 e2;subst e0 e1 e2;exact⟨⟨st,es,ac⟩,⟨ae,ce,aa,ca⟩,rfl,he,ha⟩
end
section
variable {H : Type} {enc : TypeId × Value → H} {w : World} {base b0 : Nat} {sp : Nat → Bool} {hd : Bool} {r : Reach} {v : Value} {d : DataW H} {ps : List MemPlace}
theorem zhR (hv:Value.okWide Tryz.prog w r b0 33 v) (h:DataW.Trod enc Tryz.prog w 0 sp hd 33 v d ps) (hb:Rows.uptoBulk d<=1048576):∃(n:zt) (y:qn),v=ye n y/\yb w n y:=by
 obtain⟨cs,rfl,_⟩:=okWide_struct Tryz.underlying33 hv;obtain⟨fuel,hf⟩:=h;obtain⟨n,y,e,hP⟩:=zgG hf hb;refine⟨n,y,?_,hP⟩;have:cs=(Yh n y).toArray:=by apply Array.toList_inj.1;exact e
 rw[this];rfl
end
theorem zdj {W:World} (hsh:W.ShapedOpen Tryz.prog) (hL:laidMetH Tryz.prog [("math/bits.deBruijn32tab",Rows.laid_math_bits_deBruijn32tab),("math/bits.deBruijn64tab",Rows.laid_math_bits_deBruijn64tab),("internal/strconv.uint64pow10",Rows.laid_internal_strconv_uint64pow10),("testbench/lexer.keywords",Rows.laid_testbench_lexer_keywords)] W):qW W:=by have hL':laidMet Tryz.prog [("math/bits.deBruijn32tab",Rows.laid_math_bits_deBruijn32tab),("math/bits.deBruijn64tab",Rows.laid_math_bits_deBruijn64tab),("internal/strconv.uint64pow10",Rows.laid_internal_strconv_uint64pow10),("testbench/lexer.keywords",Rows.laid_testbench_lexer_keywords)] W:=hL;obtain⟨ps,hv,_⟩:=hL';obtain⟨_,_,_,_,_,_,_,_,_,_,hv,_⟩:=hv;obtain⟨_,_,_,_,_,_,_,_,_,_,hv,_⟩:=hv;obtain⟨_,_,_,_,_,_,_,_,_,_,hv,_⟩:=hv;obtain⟨_,_,_,_,_,_,h1,h2,h3,h4,_,_⟩:=hv;exact zh7 hsh h1 h2 h3 h4
noncomputable def Zt (os:Os):World :=
 let N:=(World.settled Tryz.prog os).heap.size
 let w0:=World.holding Tryz.prog os ⟨#[.cells (kwS.map Value.string).toArray 9],#[],[]⟩
 let put (h:Array Obj) (g:Nat) (cs:Array Value):Array Obj:=h.modify g fun
  | .cells _ t frozen=>.cells cs t frozen
  |o=>o
 let h1:=put w0.heap 3 #[.int .u8 0,.int .u8 1,.int .u8 28,.int .u8 2,.int .u8 29,.int .u8 14,.int .u8 24,.int .u8 3,.int .u8 30,.int .u8 22,.int .u8 20,.int .u8 15,.int .u8 25,.int .u8 17,.int .u8 4,.int .u8 8,.int .u8 31,.int .u8 27,.int .u8 13,.int .u8 23,.int .u8 21,.int .u8 19,.int .u8 16,.int .u8 7,.int .u8 26,.int .u8 12,.int .u8 18,.int .u8 6,.int .u8 11,.int .u8 5,.int .u8 10,.int .u8 9]
 let h2:=put h1 4 #[.int .u8 0,.int .u8 1,.int .u8 56,.int .u8 2,.int .u8 57,.int .u8 49,.int .u8 28,.int .u8 3,.int .u8 61,.int .u8 58,.int .u8 42,.int .u8 50,.int .u8 38,.int .u8 29,.int .u8 17,.int .u8 4,.int .u8 62,.int .u8 47,.int .u8 59,.int .u8 36,.int .u8 45,.int .u8 43,.int .u8 51,.int .u8 22,.int .u8 53,.int .u8 39,.int .u8 33,.int .u8 30,.int .u8 24,.int .u8 18,.int .u8 12,.int .u8 5,.int .u8 63,.int .u8 55,.int .u8 48,.int .u8 27,.int .u8 60,.int .u8 41,.int .u8 37,.int .u8 16,.int .u8 46,.int .u8 35,.int .u8 44,.int .u8 21,.int .u8 52,.int .u8 32,.int .u8 23,.int .u8 11,.int .u8 54,.int .u8 26,.int .u8 40,.int .u8 15,.int .u8 34,.int .u8 20,.int .u8 31,.int .u8 10,.int .u8 25,.int .u8 14,.int .u8 19,.int .u8 9,.int .u8 13,.int .u8 8,.int .u8 7,.int .u8 6]
 let h3:=put h2 2 #[.int .u64 1,.int .u64 10,.int .u64 100,.int .u64 1000,.int .u64 10000,.int .u64 100000,.int .u64 1000000,.int .u64 10000000,.int .u64 100000000,.int .u64 1000000000,.int .u64 10000000000,.int .u64 100000000000,.int .u64 1000000000000,.int .u64 10000000000000,.int .u64 100000000000000,.int .u64 1000000000000000,.int .u64 10000000000000000,.int .u64 100000000000000000,.int .u64 1000000000000000000,.int .u64 10000000000000000000]
 let h4:=put h3 0 #[.slice (some ⟨N,0,none⟩) 24 24]
 { w0 with heap:=h4 }
theorem ze2 (os:Os) (args:Array Value):laidMet Tryz.prog [("math/bits.deBruijn32tab",Rows.laid_math_bits_deBruijn32tab),("math/bits.deBruijn64tab",Rows.laid_math_bits_deBruijn64tab),("internal/strconv.uint64pow10",Rows.laid_internal_strconv_uint64pow10),("testbench/lexer.keywords",Rows.laid_testbench_lexer_keywords)] ((Zt os).forCall (λ_ _=>0) ⟨#[],args,[]⟩).memory :=
 (LaidIn.of_run (l:=[("math/bits.deBruijn32tab",Rows.laid_math_bits_deBruijn32tab),("math/bits.deBruijn64tab",Rows.laid_math_bits_deBruijn64tab),("internal/strconv.uint64pow10",Rows.laid_internal_strconv_uint64pow10),("testbench/lexer.keywords",Rows.laid_testbench_lexer_keywords)]) [3,4,2,0,(World.settled Tryz.prog default).heap.size] 8 (by kernel_rfl) (by kernel_rfl) (by kernel_rfl) (by kernel_rfl)).met
theorem zgJ:(Rows.laid_internal_strconv_uint64pow10:DataW Unit)=Lib.tabData .u64 Lib.pow10Tab:=rfl
theorem zfM {W:World} (hL:laidMetH Tryz.prog [("math/bits.deBruijn32tab",Rows.laid_math_bits_deBruijn32tab),("math/bits.deBruijn64tab",Rows.laid_math_bits_deBruijn64tab),("internal/strconv.uint64pow10",Rows.laid_internal_strconv_uint64pow10),("testbench/lexer.keywords",Rows.laid_testbench_lexer_keywords)] W):Lib.TabIs Tryz.prog W "internal/strconv.uint64pow10" .u64 Lib.pow10Tab:=by
 have hL':laidMet Tryz.prog [("math/bits.deBruijn32tab",Rows.laid_math_bits_deBruijn32tab),("math/bits.deBruijn64tab",Rows.laid_math_bits_deBruijn64tab),("internal/strconv.uint64pow10",Rows.laid_internal_strconv_uint64pow10),("testbench/lexer.keywords",Rows.laid_testbench_lexer_keywords)] W:=hL;obtain⟨ps,hv,_⟩:=hL';obtain⟨_,_,_,_,_,_,_,_,_,_,hv,_⟩:=hv;obtain⟨_,_,_,_,_,_,_,_,_,_,hv,_⟩:=hv;obtain⟨g',t',cs,fuel,p,q,hg',ht',hvar,hd,_,_⟩:=hv;obtain rfl:=Option.some.inj ((show Tryz.prog.globalNamed "internal/strconv.uint64pow10"=some 2 by kernel_rfl).symm.trans hg');have hty:(Tryz.prog.globals[2]?).map (·.type)=some 333:=by kernel_rfl
 obtain rfl:=Option.some.inj (hty.symm.trans ht');unfold Lib.TabIs;rw[zgJ]at hd;rw[hvar,←Lib.cells_of_tab Tryz.underlying333 Tryz.underlying311 (by kernel_rfl) (by kernel_rfl) hd]
end Go.Proofs.YtnfkbliokjjggaaGreatDoor
