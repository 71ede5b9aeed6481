/- Nodes of expressions: Arity, operands, element, isVar, node. -/
import Derived.Test.YthojpomoflhbcaaGreatDoorM00
import Derived.Laws.EntriesVeiled
set_option linter.unusedSimpArgs false
set_option linter.unusedVariables false
set_option linter.unnecessarySimpa false
namespace Go.Proofs.YthojpomoflhbcaaGreatDoor
open Go.RowKit
def arityS (op:Int):Int :=
 if op=1∨op=2∨op=24 then 0 else if op=3∨op=4∨op=5∨op=6∨op=25 then 1 else if op=22 then 3 else if op=23 then -1 else if op < 1∨25 < op then -1 else 2
def operandsB (op:Int) (n:Nat):Bool:=if op=23 then decide (n % 2=1∧3≤n∧n≤33) else decide ((n:Int)=arityS op)
def elemTail (l:List UInt8):Bool:=match l with
 | [x,y]=>y == 93 && decide (48≤x) && decide (x < 56)
 | _=>false
def elemB (l:List UInt8):Bool:=(Lib.cut l [91]).2.2 && nameB (Lib.cut l [91]).1 && elemTail (Lib.cut l [91]).2.1
def varB (l:List UInt8):Bool:=elemB l || nameB l
def nodeS (e:Ex):Int :=
 if e.op < 1∨25 < e.op then 1
 else if e.op=1∧(e.n < 0∨65535 < e.n)∨e.op≠1∧e.n≠0 then 1
 else if ¬ (e.op=2∨e.op=3∨e.op=24)∧e.name.data.toList≠[]∨operandsB e.op e.args.length=false then 1
 else if e.op=2∧varB e.name.data.toList=false∨(e.op=3∨e.op=24)∧nameB e.name.data.toList=false then 7
 else 0
set_option maxHeartbeats 400000 in
theorem arity_any (op:Int) (w:World) :
  Calls Tryz.prog 266 #[.int .i64 op] w fun e w'=>e=.returned (.int .i64 (arityS op))∧w=w':=by
 go_enter Tryz.func266, Tryz.ntmps266
 go_wp2
 all_goals go_ret
 all_goals refine⟨?_,rfl⟩
 all_goals simp_all [arityS]
 all_goals omega
set_option maxHeartbeats 400000 in
theorem operands_any (op n:Int) (s:ByteArray) (a:Option Addr) (len cap:Nat) (w:World) (hl:len≤1073741824) :
  Calls Tryz.prog 231 #[.agg #[.int .i64 op,.int .i64 n,.string s,.slice a len cap]] w fun e w'=>e=.returned (.bool (operandsB op len))∧Below w.heap.size w w':=by
 have hB:Hid (∀ o,Below w.heap.size w (w.alloc o)):=fun o=>(Below.refl _ _).alloc (Nat.le_refl _) _
 go_enter Tryz.func231, Tryz.ntmps231
 go_wp2_with (go_at_call 266;refine(arity_any _ _).mono ?_;rintro e w' ⟨rfl,rfl⟩)
 all_goals go_ret
 all_goals refine⟨?_,hB.out _⟩
 all_goals simp_all [operandsB]
 all_goals first | omega | (rw[Bool.eq_iff_iff];simp;done) | (rw[Bool.eq_iff_iff];simp;omega)
theorem cut_le (l:List UInt8):(Lib.cut l [91]).1.length≤l.length:=by
 unfold Lib.cut;split
 ·show (List.take _ _).length≤_;rw[List.length_take];omega
 ·exact Nat.le_refl _
theorem elemTail_two (x y:UInt8):elemTail [x,y]=decide (y.toNat=93∧48≤x.toNat∧x.toNat < 56):=by
 show (y == 93 && decide (48≤x) && decide (x < 56))=_
 rw[Bool.eq_iff_iff]
 simp[UInt8.le_iff_toNat_le,UInt8.lt_iff_toNat_lt,← UInt8.toNat_inj,and_assoc]
theorem two_get0 (x y:UInt8) (h):(⟨#[x,y]⟩:ByteArray)[0]'h=x:=rfl
theorem two_get1 (x y:UInt8) (h):(⟨#[x,y]⟩:ByteArray)[1]'h=y:=rfl
theorem elemTail_no {l:List UInt8} (h:l.length≠2):elemTail l=false:=by
 unfold elemTail;split
 ·simp at h
 ·rfl
set_option maxHeartbeats 1000000 in
theorem element_any (s:ByteArray) (w:World) (hs:s.size≤1073741824) (hG:Glob w) :
  Calls Tryz.prog 267 #[.string s] w fun e w'=>(∃ (t:ByteArray) (i:Int),e=.returned (.tuple #[.string t,.int .i64 i,.bool (elemB s.data.toList)]))∧Below w.heap.size w w':=by
 obtain⟨m,hm⟩:=hG.1
 have hC:=Tryz.strings_Cut s ⟨#[91]⟩ m w (by omega) hm
 have hsz:(Lib.cut s.data.toList [91]).1.length≤s.size:=by
  rw[Lib.size_eq];exact cut_le _
 have hE:elemB s.data.toList=((Lib.cut s.data.toList [91]).2.2 && nameB (Lib.cut s.data.toList [91]).1 && elemTail (Lib.cut s.data.toList [91]).2.1):=rfl
 have e91:(⟨#[91]⟩:ByteArray).data.toList=[91]:=rfl
 rw[e91] at hC
 clear e91
 generalize Lib.cut s.data.toList [91]=c at hC hsz hE
 obtain⟨nm,idx,ok⟩:=c
 dsimp only at hC hsz hE
 have HE:=Lib.hid hE
 have HC:=Lib.hid hC
 have HG:=Lib.hid hG
 have hsz':(⟨nm.toArray⟩:ByteArray).size≤1073741824:=by show nm.toArray.size≤_;simp;omega
 have Hsz:=Lib.hid hsz'
 clear hC hG hm hsz hsz' hE
 go_enter Tryz.func267, Tryz.ntmps267
 go_wp2_with fail
 refine HC.out.mono ?_
 rintro e w1 ⟨rfl,k,rfl⟩
 have hB1:Below w.heap.size w (w.drewN k):=below_drewN (Below.refl _ _) k
 have hN:=Lib.hid ((isName_any ⟨nm.toArray⟩ (w.drewN k) Hsz.out (HG.out.below hB1)).mono fun e w' h=>(⟨h.1,hB1.trans h.2⟩:_∧Below w.heap.size w w'))
 have HB1:=Lib.hid hB1
 clear hB1
 cases ok
 ·go_wp2_with fail
  go_ret3
  exact⟨⟨.empty,0,by rw[HE.out];rfl⟩,HB1.out⟩
 ·cases hn:nameB nm
  ·go_wp2_with (go_at_call 122;refine hN.out.mono ?_;rintro e w2 ⟨rfl,hb2⟩;rw[hn])
   go_ret3
   exact⟨⟨.empty,0,by rw[HE.out,hn];rfl⟩,by assumption⟩
  ·by_cases h2:idx.length=2
   ·obtain⟨x,y,rfl⟩:∃ x y,idx=[x,y]:=by
     match idx,h2 with
     | [x,y],_=>exact⟨x,y,rfl⟩
    clear h2
    have hx:=two_get0 x y
    have hy:=two_get1 x y
    have HT:Hid (elemB s.data.toList=decide (y.toNat=93∧48≤x.toNat∧x.toNat < 56)):=by
     show _=_;rw[HE.out,hn,elemTail_two];rfl
    by_cases h93:y.toNat=93
    ·by_cases h48:48≤x.toNat
     ·by_cases h56:x.toNat < 56
      ·have HX:=Lib.hid (HT.out.trans (decide_eq_true ⟨h93,h48,h56⟩))
       go_wp2_with (go_at_call 122;refine hN.out.mono ?_;rintro e w2 ⟨rfl,hb2⟩;rw[hn])
       go_quiet (fail)
       go_wp2_with fail
       go_ret3
       exact⟨⟨⟨nm.toArray⟩,(x.toNat:Int) - 48,by rw[HX.out];rfl⟩,below_drewN (by assumption) _⟩
      ·have HX:=Lib.hid (HT.out.trans (decide_eq_false (fun h=>h56 h.2.2)))
       go_wp2_with (go_at_call 122;refine hN.out.mono ?_;rintro e w2 ⟨rfl,hb2⟩;rw[hn])
       go_ret3
       exact⟨⟨.empty,0,by rw[HX.out];rfl⟩,by assumption⟩
     ·have HX:=Lib.hid (HT.out.trans (decide_eq_false (fun h=>h48 h.2.1)))
      go_wp2_with (go_at_call 122;refine hN.out.mono ?_;rintro e w2 ⟨rfl,hb2⟩;rw[hn])
      go_ret3
      exact⟨⟨.empty,0,by rw[HX.out];rfl⟩,by assumption⟩
    ·have HX:=Lib.hid (HT.out.trans (decide_eq_false (fun h=>h93 h.1)))
     go_wp2_with (go_at_call 122;refine hN.out.mono ?_;rintro e w2 ⟨rfl,hb2⟩;rw[hn])
     go_ret3
     exact⟨⟨.empty,0,by rw[HX.out];rfl⟩,by assumption⟩
   ·have ht:=elemTail_no h2
    go_wp2_with (go_at_call 122;refine hN.out.mono ?_;rintro e w2 ⟨rfl,hb2⟩;rw[hn])
    go_ret3
    exact⟨⟨.empty,0,by rw[HE.out,ht,hn];rfl⟩,by assumption⟩
set_option maxHeartbeats 400000 in
theorem isVar_any (s:ByteArray) (w:World) (hs:s.size≤1073741824) (hG:Glob w) :
  Calls Tryz.prog 232 #[.string s] w fun e w'=>e=.returned (.bool (varB s.data.toList))∧Below w.heap.size w w':=by
 have hE:=Lib.hid (element_any s w hs hG)
 have HG:=Lib.hid hG
 clear hG
 go_enter Tryz.func232, Tryz.ntmps232
 go_wp2_with fail
 refine hE.out.mono ?_
 rintro e w1 ⟨⟨t,i,rfl⟩,hb1⟩
 have hN:=Lib.hid ((isName_any s w1 hs (HG.out.below hb1)).mono fun e w' h=>(⟨h.1,hb1.trans (h.2.mono hb1.size)⟩:_∧Below w.heap.size w w'))
 cases he:elemB s.data.toList
 all_goals go_wp2_with (go_at_call 122;refine hN.out.mono ?_;rintro e w2 ⟨rfl,hb2⟩)
 all_goals go_ret
 all_goals exact⟨by unfold varB;rw[he];rfl,by assumption⟩
set_option maxHeartbeats 2000000 in
theorem node_any (op n:Int) (s:ByteArray) (args:List Ex) (a:Option Addr) (cap:Nat) (w:World) (hs:s.size≤1073741824) (hl:args.length≤1073741824) (hG:Glob w) :
  Calls Tryz.prog 185 #[.agg #[.int .i64 op,.int .i64 n,.string s,.slice a args.length cap]] w fun e w'=>e=.returned (.int .i64 (nodeS (.mk op n s args)))∧Below w.heap.size w w':=by
 have HG:=Lib.hid hG
 clear hG
 go_enter Tryz.func185, Tryz.ntmps185
 go_wp2_with (first | (go_at_call 231;go_must (refine(fr (W0:=w) (B:=w.heap.size) (operands_any _ _ _ _ _ _ _ hl) bel sz).mono ?_;rintro e w1 ⟨rfl,hc1,hf1,hz1,hb1⟩;try simp only[World.size_alloc,World.size_setCell,World.size_drew,World.heap_drewN] at hz1;try (have hzl0:w.heap.size < w1.heap.size:=by omega);try (have hzl1:w.heap.size+1 < w1.heap.size:=by omega);try (have hzl2:w.heap.size+2 < w1.heap.size:=by omega);try (have hzl3:w.heap.size+3 < w1.heap.size:=by omega);try (have hzl4:w.heap.size+4 < w1.heap.size:=by omega);try (have hzl5:w.heap.size+5 < w1.heap.size:=by omega))) | (go_at_call 232;go_must (refine(fr (W0:=w) (B:=w.heap.size) (isVar_any _ _ hs (HG.out.below bel)) bel sz).mono ?_;rintro e w1 ⟨rfl,hc1,hf1,hz1,hb1⟩;try simp only[World.size_alloc,World.size_setCell,World.size_drew,World.heap_drewN] at hz1;try (have hzl0:w.heap.size < w1.heap.size:=by omega);try (have hzl1:w.heap.size+1 < w1.heap.size:=by omega);try (have hzl2:w.heap.size+2 < w1.heap.size:=by omega);try (have hzl3:w.heap.size+3 < w1.heap.size:=by omega);try (have hzl4:w.heap.size+4 < w1.heap.size:=by omega);try (have hzl5:w.heap.size+5 < w1.heap.size:=by omega))) | (go_at_call 122;go_must (refine(fr (W0:=w) (B:=w.heap.size) (isName_any _ _ hs (HG.out.below bel)) bel sz).mono ?_;rintro e w1 ⟨rfl,hc1,hf1,hz1,hb1⟩;try simp only[World.size_alloc,World.size_setCell,World.size_drew,World.heap_drewN] at hz1;try (have hzl0:w.heap.size < w1.heap.size:=by omega);try (have hzl1:w.heap.size+1 < w1.heap.size:=by omega);try (have hzl2:w.heap.size+2 < w1.heap.size:=by omega);try (have hzl3:w.heap.size+3 < w1.heap.size:=by omega);try (have hzl4:w.heap.size+4 < w1.heap.size:=by omega);try (have hzl5:w.heap.size+5 < w1.heap.size:=by omega))))
 all_goals go_ret
 all_goals refine⟨?_,bel⟩
 all_goals congr 2
 all_goals simp_all [nodeS,Ex.op,Ex.n,Ex.name,Ex.args,ByteArray.toList_eq]
 all_goals (try omega)
end Go.Proofs.YthojpomoflhbcaaGreatDoor
namespace Go.Proofs.YthojpomoflhbcaaGreatDoor
open Go.RowKit
def Still (t:TypeId):Prop:=t=24∨t=211
structure KT (B:Nat) (w w':World):Prop where
 os:w'.os=w.os
 tape:w'.tape=w.tape
 output:w'.output=w.output
 size:w.heap.size≤w'.heap.size
 low:∀ k,k < w.heap.size→k < B→w'.heap[k]? = w.heap[k]?
 typed:∀ (k:Nat) (c:Array Value) (t:TypeId) (z:Nat × Nat),w.heap[k]? = some (.cells c t z)→Still t→w'.heap[k]? = some (.cells c t z)
theorem KT.refl (B:Nat) (w:World):KT B w w:=⟨rfl,rfl,rfl,Nat.le_refl _,fun _ _ _=>rfl,fun _ _ _ _ h _=>h⟩
theorem KT.trans {B:Nat} {a b c:World} (h:KT B a b) (k:KT B b c):KT B a c :=
 ⟨k.os.trans h.os,k.tape.trans h.tape,k.output.trans h.output,Nat.le_trans h.size k.size,fun i hi hb=>(k.low i (Nat.lt_of_lt_of_le hi h.size) hb).trans (h.low i hi hb),fun i c t z hh ht=>k.typed i c t z (h.typed i c t z hh ht) ht⟩
theorem KT.of_below {B:Nat} {w w':World} (h:Below w.heap.size w w'):KT B w w' :=
 ⟨h.os,h.tape,h.output,h.size,fun k hk _=>h.block k hk,fun k c t z hh _=>by rw[h.block k (lt_of_block hh)];exact hh⟩
theorem KT.alloc {B:Nat} {a w:World} (h:KT B a w) (o:Obj):KT B a (w.alloc o) :=
 h.trans (KT.of_below ((Below.refl _ _).alloc (Nat.le_refl _) o))
theorem KT.setCell {B:Nat} {a w:World} (h:KT B a w) {p:Addr} {c:Array Value} {t:TypeId} {z:Nat × Nat} (hp:w.heap[p.block]? = some (.cells c t z)) (ht:¬ Still t) (hB:B≤p.block) (u:Value):KT B a (w.setCell p u) :=
 h.trans ⟨rfl,rfl,rfl,by simp[World.setCell],fun k hk hb=>Below.heap_setCell _ _ _ _ (by omega),fun k c' t' z' hh ht'=>by
  rw[Below.heap_setCell _ _ _ _ (by rintro rfl;rw[hp] at hh;simp only[Option.some.injEq,Obj.cells.injEq] at hh;exact ht (hh.2.1 ▸ ht'))];exact hh⟩
theorem KT.grown {B:Nat} {a w w':World} {row:Option Nat} (h:KT B a w) (hg:w.grownBy w' row) (hB:∀ k,row=some k→B≤k) (ht:∀ (k:Nat) (c:Array Value) (t:TypeId) (z:Nat × Nat),row=some k→w.heap[k]? = some (.cells c t z)→¬ Still t):KT B a w' :=
 h.trans ⟨hg.os,hg.tape,hg.output,hg.size,fun k hk hb=>hg.block k hk (fun e=>by have:=hB k e.symm;omega),fun k c t z hh hs=>by
  rw[hg.block k (lt_of_block hh) (fun e=>ht k c t z e.symm hh hs)];exact hh⟩
theorem KT.below {B:Nat} {w w':World} (h:KT B w w') (hB:B≤w.heap.size):Below B w w' :=
 ⟨h.os,h.tape,h.output,h.size,fun k hk=>h.low k (by omega) hk⟩
def runV {α:Type} (step:α→Ex→α × Bool):α→List Ex→α × Bool
 | st,[]=>(st,true)
 | st,e::l=>if (step st e).2=true then runV step (step st e).1 l else ((step st e).1,false)
theorem runV_append {α:Type} (step:α→Ex→α × Bool) (l l':List Ex):∀ st,runV step st (l++l')=if (runV step st l).2=true then runV step (runV step st l).1 l' else runV step st l:=by
 induction l with
 | nil=>intro st;simp[runV]
 | cons e l ih =>
  intro st
  simp only[List.cons_append,runV]
  by_cases h:(step st e).2=true
  ·simp only[if_pos h];exact ih _
  ·simp[if_neg h]
noncomputable def nodesTo (l:List Ex) (k:Nat):List Ex:=((l.take k).map Ex.nodes).flatten
theorem nodesTo_succ (l:List Ex) (k:Nat) (h:k < l.length):nodesTo l (k+1)=nodesTo l k++(l[k]'h).nodes:=by
 unfold nodesTo
 rw[List.take_succ_eq_append_getElem h,List.map_append,List.flatten_append]
 simp
theorem nodesTo_all (l:List Ex) (k:Nat) (h:l.length≤k):nodesTo l k=(l.map Ex.nodes).flatten:=by
 unfold nodesTo;rw[List.take_of_length_le h]
theorem nodesTo_split (l:List Ex) (k:Nat):∃ r,nodesTo l l.length=nodesTo l k++r:=by
 refine⟨((l.drop k).map Ex.nodes).flatten,?_⟩
 rw[nodesTo_all _ _ (Nat.le_refl _)]
 unfold nodesTo
 rw[← List.flatten_append,← List.map_append,List.take_append_drop]
theorem nodes_cons (e:Ex):e.nodes=e::nodesTo e.args e.args.length:=by
 rw[Ex.nodes_eq,nodesTo_all _ _ (Nat.le_refl _)]
def exVal (e:Ex) (a:Option Addr) (cap:Nat):Value:=.agg #[.int .i64 e.op,.int .i64 e.n,.string e.name,.slice a e.args.length cap]
def Visits (k:FuncId) (caps:Array Value) (w0:World) {α:Type} (Inv:α→World→Prop) (size:α→Nat) (step:α→Ex→α × Bool):Prop :=
 ∀ (st:α) (op n:Int) (s:ByteArray) (args:List Ex) (a:Option Addr) (cap:Nat) (w:World),size st < 1073741824→Inv st w→Below w0.heap.size w0 w→ExIn w0 (.mk op n s args) a cap →
  Calls Tryz.prog k (#[.agg #[.int .i64 op,.int .i64 n,.string s,.slice a args.length cap]]++caps) w fun r w'=>r=.returned (.bool (step st (.mk op n s args)).2)∧Inv (step st (.mk op n s args)).1 w'∧KT w0.heap.size w w'
def WalkPost {α:Type} (Inv:α→World→Prop) (step:α→Ex→α × Bool) (w0 w:World) (st:α) (l:List Ex) (r:Ending) (w':World):Prop :=
 r=.returned (.bool (runV step st l).2)∧Inv (runV step st l).1 w'∧KT w0.heap.size w w'
def WalkRel {α:Type} (Inv:α→World→Prop) (step:α→Ex→α × Bool) (w0 w1:World) (st:α) (args:List Ex) (i:Nat) (wr:World):Prop :=
 i≤args.length∧(runV step st (nodesTo args i)).2=true∧Inv (runV step st (nodesTo args i)).1 wr∧KT w0.heap.size w1 wr
theorem walk_no {α:Type} {step:α→Ex→α × Bool} {st:α} {e:Ex} (h:(step st e).2=false):runV step st e.nodes=((step st e).1,false):=by
 rw[nodes_cons];simp[runV,h]
theorem walk_yes {α:Type} {step:α→Ex→α × Bool} {st:α} {e:Ex} (h:(step st e).2=true):runV step st e.nodes=runV step (step st e).1 (nodesTo e.args e.args.length):=by
 rw[nodes_cons];simp[runV,h]
theorem walk_stop {α:Type} {step:α→Ex→α × Bool} {st:α} {l:List Ex} {k:Nat} (hk:k < l.length) (h1:(runV step st (nodesTo l k)).2=true) (h2:(runV step (runV step st (nodesTo l k)).1 (l[k]'hk).nodes).2=false) :
  runV step st (nodesTo l l.length)=runV step (runV step st (nodesTo l k)).1 (l[k]'hk).nodes:=by
 obtain⟨r,hr⟩:=nodesTo_split l (k+1)
 rw[hr,runV_append,nodesTo_succ _ _ hk,runV_append,if_pos h1,if_neg (by rw[h2];simp)]
theorem walk_on {α:Type} {step:α→Ex→α × Bool} {st:α} {l:List Ex} {k:Nat} (hk:k < l.length) (h1:(runV step st (nodesTo l k)).2=true) :
  runV step st (nodesTo l (k+1))=runV step (runV step st (nodesTo l k)).1 (l[k]'hk).nodes:=by
 rw[nodesTo_succ _ _ hk,runV_append,if_pos h1]
theorem runV_size {α:Type} {step:α→Ex→α × Bool} {size:α→Nat} (hsz:∀ st e,size (step st e).1≤size st+1) (l:List Ex):∀ st,size (runV step st l).1≤size st+l.length:=by
 induction l with
 | nil=>intro st;simp[runV]
 | cons e l ih =>
  intro st
  simp only[runV,List.length_cons]
  have h1:=hsz st e
  split
  ·have:=ih (step st e).1;omega
  ·show size (step st e).1≤_;omega
theorem nodes_room (args:List Ex) (k:Nat) (h:k < args.length):(nodesTo args k).length+(args[k]'h).nodes.length≤(nodesTo args args.length).length:=by
 obtain⟨r,hr⟩:=nodesTo_split args (k+1)
 rw[hr,nodesTo_succ _ _ h]
 simp only[List.length_append];omega
theorem heap_alloc_new' (w:World) (o:Obj):(w.alloc o).heap[w.heap.size]? = some o:=by
 show (w.heap.push o)[w.heap.size]? = _;simp
theorem heap_alloc_at (w:World) (o:Obj) (k:Nat) (h:k=w.heap.size):(w.alloc o).heap[k]? = some o:=by
 rw[h];exact heap_alloc_new' w o
set_option maxHeartbeats 1000000 in
theorem walk1_140 (cb:Nat) {α:Type} (Inv:α→World→Prop) (size:α→Nat) (step:α→Ex→α × Bool) (w0:World) (bv bd:Nat)
  (hsz:∀ st e,size (step st e).1≤size st+1)
  (hst:∀ st w w',Inv st w→Below w.heap.size w w'→Inv st w')
  (hv:Visits 184 #[.pointer (some ⟨cb,0,none⟩)] w0 Inv size step) (e:Ex) :
  ∀ (st:α) (a:Option Addr) (cap:Nat) (w:World),size st+e.nodes.length≤1073741824→Inv st w→Below w0.heap.size w0 w→ExIn w0 e a cap →
   w.heap[bv]? = some (.cells #[.func (.func 184) #[] #[.pointer (some ⟨cb,0,none⟩)]] 211 (0,0)) →
   w.heap[bd]? = some (.cells #[.func (.func 230) #[] #[.pointer (some ⟨bv,0,none⟩),.pointer (some ⟨bd,0,none⟩)]] 211 (0,0)) →
   Calls Tryz.prog 230 #[exVal e a cap,.pointer (some ⟨bv,0,none⟩),.pointer (some ⟨bd,0,none⟩)] w (WalkPost Inv step w0 w st e.nodes):=by
 induction e using Ex.ind with
 | h e ih =>
  intro st a cap w hroom hI hB hE hbv hbd
  obtain⟨op,n,s,args⟩:=e
  have hnl:(Ex.mk op n s args).nodes.length=(nodesTo args args.length).length+1:=by rw[nodes_cons];simp[Ex.args_mk]
  have hs1:=hsz st (.mk op n s args)
  have HR:=Lib.hid (⟨hnl,hs1,hroom,hsz⟩:_∧_∧_∧_)
  have hlen:=hE.2.2.1
  simp only[Ex.args_mk] at hlen
  have hadr:=hE.2.addr
  simp only[Ex.args_mk] at hadr
  have HB:=Lib.hid hB
  have HE:=Lib.hid hE
  have hBB:Below w.heap.size w (w.alloc (.cells #[.int .i64 op,.int .i64 n,.string s,.slice a args.length cap] 24)):=(Below.refl _ _).alloc (Nat.le_refl _) _
  have HV:=Lib.hid (hv st op n s args a cap _ (by omega) (hst _ _ _ hI hBB) (hB.trans (hBB.mono hB.size)) hE)
  have HIH:=Lib.hid ih
  have HST:=Lib.hid hst
  have HBV:=Lib.hid hbv
  have HBD:=Lib.hid hbd
  have cv:∀ o,(w.alloc o).cell? ⟨bv,0,none⟩=_:=fun o=>(World.cell?_alloc_lt _ _ _ (lt_of_block hbv)).trans (cell_of_one hbv)
  clear hv ih hI hB hE hbv hbd hst hBB hnl hs1 hroom hsz
  simp only[exVal,Ex.op_mk,Ex.n_mk,Ex.name_mk,Ex.args_mk]
  have HA:=Lib.hid hadr
  clear hadr
  go_enter Tryz.func230, Tryz.ntmps230
  go_wp2_with fail
  refine HV.out.mono ?_
  rintro e w1 ⟨rfl,hI1,hK1⟩
  have HI1:=Lib.hid hI1
  have HK0:Hid (KT w0.heap.size w w1):=(KT.of_below ((Below.refl _ _).alloc (Nat.le_refl _) _)).trans hK1
  have hbox:=hK1.typed _ _ _ _ (heap_alloc_new' _ _) (Or.inl rfl)
  have c3:w1.cell? ⟨w.heap.size,3,none⟩=some (.slice a args.length cap):=by simp[World.cell?,hbox]
  clear hI1 hK1 hbox cv HV
  cases hs:(step st (.mk op n s args)).2
  ·go_wp2_with fail
   go_ret
   exact⟨by rw[walk_no hs];rfl,by rw[walk_no hs];exact HI1.out,HK0.out⟩
  ·go_wp2_with fail
   go_loopw [14] (fun i wr=>∃ k:Nat,i=.int .i64 k∧WalkRel Inv step w0 w (step st (.mk op n s args)).1 args k wr) (fun i _=>args.length - (intOf i).toNat)
   case atStart=>exact⟨0,rfl,Nat.zero_le _,rfl,HI1.out,HK0.out⟩
   case round =>
    obtain⟨k,rfl,hR⟩:=hrel
    obtain⟨hk,hy,hIr,hKr⟩:=hR
    have hBr:=HB.out.trans (hKr.below HB.out.size)
    by_cases hlt:k < args.length
    ·obtain⟨b,off,ha⟩:=HA.out.resolve_left (by omega)
     subst ha
     obtain⟨a',cap',g0,g1,g2,g3,hX⟩:=HE.out.2.get rfl hlt
     have kk:=keeps_of_below hBr
     have c0:=kk _ _ g0
     have c1:=kk _ _ g1
     have c2:=kk _ _ g2
     have c3':=kk _ _ g3
     simp only[Ex.args_mk] at c0 c1 c2 c3'
     have hm:args[k]∈(Ex.mk op n s args).args:=List.getElem_mem hlt
     have cd:∀ o,(wr.alloc o).cell? ⟨bd,0,none⟩=_:=fun o=>(World.cell?_alloc_lt _ _ _ (lt_of_block (hKr.typed _ _ _ _ HBD.out (Or.inr rfl)))).trans (cell_of_one (hKr.typed _ _ _ _ HBD.out (Or.inr rfl)))
     have hBA:Below wr.heap.size wr (wr.alloc (.cells #[.int .i64 (args[k]'hlt).op,.int .i64 (args[k]'hlt).n,.string (args[k]'hlt).name,.slice a' (args[k]'hlt).args.length cap'] 24)):=(Below.refl _ _).alloc (Nat.le_refl _) _
     have hKA:=hKr.trans (KT.of_below hBA)
     have hrm:=nodes_room args k hlt
     have hsk:=runV_size HR.out.2.2.2 (nodesTo args k) (step st (.mk op n s args)).1
     have hroom':=HR.out
     have hC:=HIH.out _ hm _ a' cap' _ (by omega) (HST.out _ _ _ hIr hBA) (hBr.trans (hBA.mono hBr.size)) hX (hKA.typed _ _ _ _ HBV.out (Or.inr rfl)) (hKA.typed _ _ _ _ HBD.out (Or.inr rfl))
     have HC:=Lib.hid (hC.mono fun e w' h=>(⟨h.1,h.2.1,hKA.trans h.2.2⟩:_∧_∧KT w0.heap.size w w'))
     simp only[Ex.args_mk,exVal] at HC
     have Hy:=Lib.hid hy
     have Hon:=Lib.hid (walk_on hlt hy)
     have Hstop:=Lib.hid (walk_stop hlt hy)
     clear hIr hKr hBr hy g0 g1 g2 g3 kk hC hBA hKA hrm hsk hroom'
     go_wp2_with fail
     refine HC.out.mono ?_
     rintro e w2 ⟨rfl,hI2,hK2⟩
     have HI2:=Lib.hid hI2
     have HK2:=Lib.hid hK2
     clear hI2 hK2
     cases hr:(runV step (runV step (step st (.mk op n s args)).1 (nodesTo args k)).1 (args[k]'hlt).nodes).2
     ·go_wp2_with fail
      go_ret
      have hw:=walk_yes hs
      simp only[Ex.args_mk] at hw
      rw[Hstop.out hr] at hw
      exact⟨by rw[hw,hr];rfl,by rw[hw];exact HI2.out,HK2.out⟩
     ·go_wp2_with fail
      go_roundw
      case rel=>exact⟨k+1,by go_num,by omega,by rw[Hon.out];exact hr,by rw[Hon.out];exact HI2.out,HK2.out⟩
      case measure=>simp[intOf];omega
    ·obtain rfl:k=args.length:=by omega
     have HIr:=Lib.hid hIr
     have HKr:=Lib.hid hKr
     have Hy:=Lib.hid hy
     clear hIr hKr hBr hy
     go_wp2_with fail
     go_ret
     have hw:=walk_yes hs
     simp only[Ex.args_mk] at hw
     exact⟨by rw[hw,Hy.out];rfl,by rw[hw];exact HIr.out,HKr.out⟩
set_option maxHeartbeats 1000000 in
theorem walk_140 (cb:Nat) {α:Type} (Inv:α→World→Prop) (size:α→Nat) (step:α→Ex→α × Bool) (w0:World)
  (hsz:∀ st e,size (step st e).1≤size st+1)
  (hst:∀ st w w',Inv st w→Below w.heap.size w w'→Inv st w')
  (hv:Visits 184 #[.pointer (some ⟨cb,0,none⟩)] w0 Inv size step) (op n:Int) (s:ByteArray) (args:List Ex) (st:α) (a:Option Addr) (cap:Nat) (w:World)
  (hroom:size st+(Ex.mk op n s args).nodes.length≤1073741824) (hI:Inv st w) (hB:Below w0.heap.size w0 w) (hE:ExIn w0 (.mk op n s args) a cap) :
  Calls Tryz.prog 183 #[.agg #[.int .i64 op,.int .i64 n,.string s,.slice a args.length cap],.func (.func 184) #[] #[.pointer (some ⟨cb,0,none⟩)]] w fun r w' =>
   r=.returned (.tuple #[])∧Inv (runV step st (Ex.mk op n s args).nodes).1 w'∧KT w0.heap.size w w':=by
 have h1:Below w.heap.size w (((w.alloc (.cells #[.int .i64 op,.int .i64 n,.string s,.slice a args.length cap] 24)).alloc (.cells #[.func (.func 184) #[] #[.pointer (some ⟨cb,0,none⟩)]] 211)).alloc (.cells #[.func (.func 230) #[] #[.pointer (some ⟨w.heap.size+1,0,none⟩),.pointer (some ⟨w.heap.size+1+1,0,none⟩)]] 211)) :=
  ((((Below.refl _ _).alloc (Nat.le_refl _) _).alloc (by simp) _).alloc (by simp;omega) _)
 have hC:=walk1_140 cb Inv size step w0 (w.heap.size+1) (w.heap.size+1+1) hsz hst hv (.mk op n s args) st a cap _ hroom (hst _ _ _ hI h1) (hB.trans (h1.mono hB.size)) hE
  (by rw[Below.heap_alloc _ _ _ (by simp)];exact heap_alloc_at _ _ _ (by simp)) (heap_alloc_at _ _ _ (by simp))
 have HC:=Lib.hid (hC.mono fun e w' h=>(⟨h.1,h.2.1,(KT.of_below h1).trans h.2.2⟩:_∧_∧KT w0.heap.size w w'))
 simp only[exVal,Ex.op_mk,Ex.n_mk,Ex.name_mk,Ex.args_mk] at HC
 clear hC h1 hI hB hE hv hst hsz hroom
 go_enter Tryz.func183, Tryz.ntmps183
 go_wp2_with fail
 refine HC.out.mono ?_
 rintro e w2 ⟨rfl,hI2,hK2⟩
 have HI2:=Lib.hid hI2
 have HK2:=Lib.hid hK2
 clear hI2 hK2
 go_wp2_with fail
 go_end0
 exact⟨rfl,HI2.out,HK2.out⟩
set_option maxHeartbeats 1000000 in
theorem walk1_170 (cb:Nat) {α:Type} (Inv:α→World→Prop) (size:α→Nat) (step:α→Ex→α × Bool) (w0:World) (bv bd:Nat)
  (hsz:∀ st e,size (step st e).1≤size st+1)
  (hst:∀ st w w',Inv st w→Below w.heap.size w w'→Inv st w')
  (hv:Visits 233 #[.pointer (some ⟨cb,0,none⟩)] w0 Inv size step) (e:Ex) :
  ∀ (st:α) (a:Option Addr) (cap:Nat) (w:World),size st+e.nodes.length≤1073741824→Inv st w→Below w0.heap.size w0 w→ExIn w0 e a cap →
   w.heap[bv]? = some (.cells #[.func (.func 233) #[] #[.pointer (some ⟨cb,0,none⟩)]] 211 (0,0)) →
   w.heap[bd]? = some (.cells #[.func (.func 230) #[] #[.pointer (some ⟨bv,0,none⟩),.pointer (some ⟨bd,0,none⟩)]] 211 (0,0)) →
   Calls Tryz.prog 230 #[exVal e a cap,.pointer (some ⟨bv,0,none⟩),.pointer (some ⟨bd,0,none⟩)] w (WalkPost Inv step w0 w st e.nodes):=by
 induction e using Ex.ind with
 | h e ih =>
  intro st a cap w hroom hI hB hE hbv hbd
  obtain⟨op,n,s,args⟩:=e
  have hnl:(Ex.mk op n s args).nodes.length=(nodesTo args args.length).length+1:=by rw[nodes_cons];simp[Ex.args_mk]
  have hs1:=hsz st (.mk op n s args)
  have HR:=Lib.hid (⟨hnl,hs1,hroom,hsz⟩:_∧_∧_∧_)
  have hlen:=hE.2.2.1
  simp only[Ex.args_mk] at hlen
  have hadr:=hE.2.addr
  simp only[Ex.args_mk] at hadr
  have HB:=Lib.hid hB
  have HE:=Lib.hid hE
  have hBB:Below w.heap.size w (w.alloc (.cells #[.int .i64 op,.int .i64 n,.string s,.slice a args.length cap] 24)):=(Below.refl _ _).alloc (Nat.le_refl _) _
  have HV:=Lib.hid (hv st op n s args a cap _ (by omega) (hst _ _ _ hI hBB) (hB.trans (hBB.mono hB.size)) hE)
  have HIH:=Lib.hid ih
  have HST:=Lib.hid hst
  have HBV:=Lib.hid hbv
  have HBD:=Lib.hid hbd
  have cv:∀ o,(w.alloc o).cell? ⟨bv,0,none⟩=_:=fun o=>(World.cell?_alloc_lt _ _ _ (lt_of_block hbv)).trans (cell_of_one hbv)
  clear hv ih hI hB hE hbv hbd hst hBB hnl hs1 hroom hsz
  simp only[exVal,Ex.op_mk,Ex.n_mk,Ex.name_mk,Ex.args_mk]
  have HA:=Lib.hid hadr
  clear hadr
  go_enter Tryz.func230, Tryz.ntmps230
  go_wp2_with fail
  refine HV.out.mono ?_
  rintro e w1 ⟨rfl,hI1,hK1⟩
  have HI1:=Lib.hid hI1
  have HK0:Hid (KT w0.heap.size w w1):=(KT.of_below ((Below.refl _ _).alloc (Nat.le_refl _) _)).trans hK1
  have hbox:=hK1.typed _ _ _ _ (heap_alloc_new' _ _) (Or.inl rfl)
  have c3:w1.cell? ⟨w.heap.size,3,none⟩=some (.slice a args.length cap):=by simp[World.cell?,hbox]
  clear hI1 hK1 hbox cv HV
  cases hs:(step st (.mk op n s args)).2
  ·go_wp2_with fail
   go_ret
   exact⟨by rw[walk_no hs];rfl,by rw[walk_no hs];exact HI1.out,HK0.out⟩
  ·go_wp2_with fail
   go_loopw [14] (fun i wr=>∃ k:Nat,i=.int .i64 k∧WalkRel Inv step w0 w (step st (.mk op n s args)).1 args k wr) (fun i _=>args.length - (intOf i).toNat)
   case atStart=>exact⟨0,rfl,Nat.zero_le _,rfl,HI1.out,HK0.out⟩
   case round =>
    obtain⟨k,rfl,hR⟩:=hrel
    obtain⟨hk,hy,hIr,hKr⟩:=hR
    have hBr:=HB.out.trans (hKr.below HB.out.size)
    by_cases hlt:k < args.length
    ·obtain⟨b,off,ha⟩:=HA.out.resolve_left (by omega)
     subst ha
     obtain⟨a',cap',g0,g1,g2,g3,hX⟩:=HE.out.2.get rfl hlt
     have kk:=keeps_of_below hBr
     have c0:=kk _ _ g0
     have c1:=kk _ _ g1
     have c2:=kk _ _ g2
     have c3':=kk _ _ g3
     simp only[Ex.args_mk] at c0 c1 c2 c3'
     have hm:args[k]∈(Ex.mk op n s args).args:=List.getElem_mem hlt
     have cd:∀ o,(wr.alloc o).cell? ⟨bd,0,none⟩=_:=fun o=>(World.cell?_alloc_lt _ _ _ (lt_of_block (hKr.typed _ _ _ _ HBD.out (Or.inr rfl)))).trans (cell_of_one (hKr.typed _ _ _ _ HBD.out (Or.inr rfl)))
     have hBA:Below wr.heap.size wr (wr.alloc (.cells #[.int .i64 (args[k]'hlt).op,.int .i64 (args[k]'hlt).n,.string (args[k]'hlt).name,.slice a' (args[k]'hlt).args.length cap'] 24)):=(Below.refl _ _).alloc (Nat.le_refl _) _
     have hKA:=hKr.trans (KT.of_below hBA)
     have hrm:=nodes_room args k hlt
     have hsk:=runV_size HR.out.2.2.2 (nodesTo args k) (step st (.mk op n s args)).1
     have hroom':=HR.out
     have hC:=HIH.out _ hm _ a' cap' _ (by omega) (HST.out _ _ _ hIr hBA) (hBr.trans (hBA.mono hBr.size)) hX (hKA.typed _ _ _ _ HBV.out (Or.inr rfl)) (hKA.typed _ _ _ _ HBD.out (Or.inr rfl))
     have HC:=Lib.hid (hC.mono fun e w' h=>(⟨h.1,h.2.1,hKA.trans h.2.2⟩:_∧_∧KT w0.heap.size w w'))
     simp only[Ex.args_mk,exVal] at HC
     have Hy:=Lib.hid hy
     have Hon:=Lib.hid (walk_on hlt hy)
     have Hstop:=Lib.hid (walk_stop hlt hy)
     clear hIr hKr hBr hy g0 g1 g2 g3 kk hC hBA hKA hrm hsk hroom'
     go_wp2_with fail
     refine HC.out.mono ?_
     rintro e w2 ⟨rfl,hI2,hK2⟩
     have HI2:=Lib.hid hI2
     have HK2:=Lib.hid hK2
     clear hI2 hK2
     cases hr:(runV step (runV step (step st (.mk op n s args)).1 (nodesTo args k)).1 (args[k]'hlt).nodes).2
     ·go_wp2_with fail
      go_ret
      have hw:=walk_yes hs
      simp only[Ex.args_mk] at hw
      rw[Hstop.out hr] at hw
      exact⟨by rw[hw,hr];rfl,by rw[hw];exact HI2.out,HK2.out⟩
     ·go_wp2_with fail
      go_roundw
      case rel=>exact⟨k+1,by go_num,by omega,by rw[Hon.out];exact hr,by rw[Hon.out];exact HI2.out,HK2.out⟩
      case measure=>simp[intOf];omega
    ·obtain rfl:k=args.length:=by omega
     have HIr:=Lib.hid hIr
     have HKr:=Lib.hid hKr
     have Hy:=Lib.hid hy
     clear hIr hKr hBr hy
     go_wp2_with fail
     go_ret
     have hw:=walk_yes hs
     simp only[Ex.args_mk] at hw
     exact⟨by rw[hw,Hy.out];rfl,by rw[hw];exact HIr.out,HKr.out⟩
set_option maxHeartbeats 1000000 in
theorem walk_170 (cb:Nat) {α:Type} (Inv:α→World→Prop) (size:α→Nat) (step:α→Ex→α × Bool) (w0:World)
  (hsz:∀ st e,size (step st e).1≤size st+1)
  (hst:∀ st w w',Inv st w→Below w.heap.size w w'→Inv st w')
  (hv:Visits 233 #[.pointer (some ⟨cb,0,none⟩)] w0 Inv size step) (op n:Int) (s:ByteArray) (args:List Ex) (st:α) (a:Option Addr) (cap:Nat) (w:World)
  (hroom:size st+(Ex.mk op n s args).nodes.length≤1073741824) (hI:Inv st w) (hB:Below w0.heap.size w0 w) (hE:ExIn w0 (.mk op n s args) a cap) :
  Calls Tryz.prog 183 #[.agg #[.int .i64 op,.int .i64 n,.string s,.slice a args.length cap],.func (.func 233) #[] #[.pointer (some ⟨cb,0,none⟩)]] w fun r w' =>
   r=.returned (.tuple #[])∧Inv (runV step st (Ex.mk op n s args).nodes).1 w'∧KT w0.heap.size w w':=by
 have h1:Below w.heap.size w (((w.alloc (.cells #[.int .i64 op,.int .i64 n,.string s,.slice a args.length cap] 24)).alloc (.cells #[.func (.func 233) #[] #[.pointer (some ⟨cb,0,none⟩)]] 211)).alloc (.cells #[.func (.func 230) #[] #[.pointer (some ⟨w.heap.size+1,0,none⟩),.pointer (some ⟨w.heap.size+1+1,0,none⟩)]] 211)) :=
  ((((Below.refl _ _).alloc (Nat.le_refl _) _).alloc (by simp) _).alloc (by simp;omega) _)
 have hC:=walk1_170 cb Inv size step w0 (w.heap.size+1) (w.heap.size+1+1) hsz hst hv (.mk op n s args) st a cap _ hroom (hst _ _ _ hI h1) (hB.trans (h1.mono hB.size)) hE
  (by rw[Below.heap_alloc _ _ _ (by simp)];exact heap_alloc_at _ _ _ (by simp)) (heap_alloc_at _ _ _ (by simp))
 have HC:=Lib.hid (hC.mono fun e w' h=>(⟨h.1,h.2.1,(KT.of_below h1).trans h.2.2⟩:_∧_∧KT w0.heap.size w w'))
 simp only[exVal,Ex.op_mk,Ex.n_mk,Ex.name_mk,Ex.args_mk] at HC
 clear hC h1 hI hB hE hv hst hsz hroom
 go_enter Tryz.func183, Tryz.ntmps183
 go_wp2_with fail
 refine HC.out.mono ?_
 rintro e w2 ⟨rfl,hI2,hK2⟩
 have HI2:=Lib.hid hI2
 have HK2:=Lib.hid hK2
 clear hI2 hK2
 go_wp2_with fail
 go_end0
 exact⟨rfl,HI2.out,HK2.out⟩
set_option maxHeartbeats 1000000 in
theorem walk1_171 (ca cb:Nat) {α:Type} (Inv:α→World→Prop) (size:α→Nat) (step:α→Ex→α × Bool) (w0:World) (bv bd:Nat)
  (hsz:∀ st e,size (step st e).1≤size st+1)
  (hst:∀ st w w',Inv st w→Below w.heap.size w w'→Inv st w')
  (hv:Visits 256 #[.pointer (some ⟨ca,0,none⟩),.pointer (some ⟨cb,0,none⟩)] w0 Inv size step) (e:Ex) :
  ∀ (st:α) (a:Option Addr) (cap:Nat) (w:World),size st+e.nodes.length≤1073741824→Inv st w→Below w0.heap.size w0 w→ExIn w0 e a cap →
   w.heap[bv]? = some (.cells #[.func (.func 256) #[] #[.pointer (some ⟨ca,0,none⟩),.pointer (some ⟨cb,0,none⟩)]] 211 (0,0)) →
   w.heap[bd]? = some (.cells #[.func (.func 230) #[] #[.pointer (some ⟨bv,0,none⟩),.pointer (some ⟨bd,0,none⟩)]] 211 (0,0)) →
   Calls Tryz.prog 230 #[exVal e a cap,.pointer (some ⟨bv,0,none⟩),.pointer (some ⟨bd,0,none⟩)] w (WalkPost Inv step w0 w st e.nodes):=by
 induction e using Ex.ind with
 | h e ih =>
  intro st a cap w hroom hI hB hE hbv hbd
  obtain⟨op,n,s,args⟩:=e
  have hnl:(Ex.mk op n s args).nodes.length=(nodesTo args args.length).length+1:=by rw[nodes_cons];simp[Ex.args_mk]
  have hs1:=hsz st (.mk op n s args)
  have HR:=Lib.hid (⟨hnl,hs1,hroom,hsz⟩:_∧_∧_∧_)
  have hlen:=hE.2.2.1
  simp only[Ex.args_mk] at hlen
  have hadr:=hE.2.addr
  simp only[Ex.args_mk] at hadr
  have HB:=Lib.hid hB
  have HE:=Lib.hid hE
  have hBB:Below w.heap.size w (w.alloc (.cells #[.int .i64 op,.int .i64 n,.string s,.slice a args.length cap] 24)):=(Below.refl _ _).alloc (Nat.le_refl _) _
  have HV:=Lib.hid (hv st op n s args a cap _ (by omega) (hst _ _ _ hI hBB) (hB.trans (hBB.mono hB.size)) hE)
  have HIH:=Lib.hid ih
  have HST:=Lib.hid hst
  have HBV:=Lib.hid hbv
  have HBD:=Lib.hid hbd
  have cv:∀ o,(w.alloc o).cell? ⟨bv,0,none⟩=_:=fun o=>(World.cell?_alloc_lt _ _ _ (lt_of_block hbv)).trans (cell_of_one hbv)
  clear hv ih hI hB hE hbv hbd hst hBB hnl hs1 hroom hsz
  simp only[exVal,Ex.op_mk,Ex.n_mk,Ex.name_mk,Ex.args_mk]
  have HA:=Lib.hid hadr
  clear hadr
  go_enter Tryz.func230, Tryz.ntmps230
  go_wp2_with fail
  refine HV.out.mono ?_
  rintro e w1 ⟨rfl,hI1,hK1⟩
  have HI1:=Lib.hid hI1
  have HK0:Hid (KT w0.heap.size w w1):=(KT.of_below ((Below.refl _ _).alloc (Nat.le_refl _) _)).trans hK1
  have hbox:=hK1.typed _ _ _ _ (heap_alloc_new' _ _) (Or.inl rfl)
  have c3:w1.cell? ⟨w.heap.size,3,none⟩=some (.slice a args.length cap):=by simp[World.cell?,hbox]
  clear hI1 hK1 hbox cv HV
  cases hs:(step st (.mk op n s args)).2
  ·go_wp2_with fail
   go_ret
   exact⟨by rw[walk_no hs];rfl,by rw[walk_no hs];exact HI1.out,HK0.out⟩
  ·go_wp2_with fail
   go_loopw [14] (fun i wr=>∃ k:Nat,i=.int .i64 k∧WalkRel Inv step w0 w (step st (.mk op n s args)).1 args k wr) (fun i _=>args.length - (intOf i).toNat)
   case atStart=>exact⟨0,rfl,Nat.zero_le _,rfl,HI1.out,HK0.out⟩
   case round =>
    obtain⟨k,rfl,hR⟩:=hrel
    obtain⟨hk,hy,hIr,hKr⟩:=hR
    have hBr:=HB.out.trans (hKr.below HB.out.size)
    by_cases hlt:k < args.length
    ·obtain⟨b,off,ha⟩:=HA.out.resolve_left (by omega)
     subst ha
     obtain⟨a',cap',g0,g1,g2,g3,hX⟩:=HE.out.2.get rfl hlt
     have kk:=keeps_of_below hBr
     have c0:=kk _ _ g0
     have c1:=kk _ _ g1
     have c2:=kk _ _ g2
     have c3':=kk _ _ g3
     simp only[Ex.args_mk] at c0 c1 c2 c3'
     have hm:args[k]∈(Ex.mk op n s args).args:=List.getElem_mem hlt
     have cd:∀ o,(wr.alloc o).cell? ⟨bd,0,none⟩=_:=fun o=>(World.cell?_alloc_lt _ _ _ (lt_of_block (hKr.typed _ _ _ _ HBD.out (Or.inr rfl)))).trans (cell_of_one (hKr.typed _ _ _ _ HBD.out (Or.inr rfl)))
     have hBA:Below wr.heap.size wr (wr.alloc (.cells #[.int .i64 (args[k]'hlt).op,.int .i64 (args[k]'hlt).n,.string (args[k]'hlt).name,.slice a' (args[k]'hlt).args.length cap'] 24)):=(Below.refl _ _).alloc (Nat.le_refl _) _
     have hKA:=hKr.trans (KT.of_below hBA)
     have hrm:=nodes_room args k hlt
     have hsk:=runV_size HR.out.2.2.2 (nodesTo args k) (step st (.mk op n s args)).1
     have hroom':=HR.out
     have hC:=HIH.out _ hm _ a' cap' _ (by omega) (HST.out _ _ _ hIr hBA) (hBr.trans (hBA.mono hBr.size)) hX (hKA.typed _ _ _ _ HBV.out (Or.inr rfl)) (hKA.typed _ _ _ _ HBD.out (Or.inr rfl))
     have HC:=Lib.hid (hC.mono fun e w' h=>(⟨h.1,h.2.1,hKA.trans h.2.2⟩:_∧_∧KT w0.heap.size w w'))
     simp only[Ex.args_mk,exVal] at HC
     have Hy:=Lib.hid hy
     have Hon:=Lib.hid (walk_on hlt hy)
     have Hstop:=Lib.hid (walk_stop hlt hy)
     clear hIr hKr hBr hy g0 g1 g2 g3 kk hC hBA hKA hrm hsk hroom'
     go_wp2_with fail
     refine HC.out.mono ?_
     rintro e w2 ⟨rfl,hI2,hK2⟩
     have HI2:=Lib.hid hI2
     have HK2:=Lib.hid hK2
     clear hI2 hK2
     cases hr:(runV step (runV step (step st (.mk op n s args)).1 (nodesTo args k)).1 (args[k]'hlt).nodes).2
     ·go_wp2_with fail
      go_ret
      have hw:=walk_yes hs
      simp only[Ex.args_mk] at hw
      rw[Hstop.out hr] at hw
      exact⟨by rw[hw,hr];rfl,by rw[hw];exact HI2.out,HK2.out⟩
     ·go_wp2_with fail
      go_roundw
      case rel=>exact⟨k+1,by go_num,by omega,by rw[Hon.out];exact hr,by rw[Hon.out];exact HI2.out,HK2.out⟩
      case measure=>simp[intOf];omega
    ·obtain rfl:k=args.length:=by omega
     have HIr:=Lib.hid hIr
     have HKr:=Lib.hid hKr
     have Hy:=Lib.hid hy
     clear hIr hKr hBr hy
     go_wp2_with fail
     go_ret
     have hw:=walk_yes hs
     simp only[Ex.args_mk] at hw
     exact⟨by rw[hw,Hy.out];rfl,by rw[hw];exact HIr.out,HKr.out⟩
set_option maxHeartbeats 1000000 in
theorem walk_171 (ca cb:Nat) {α:Type} (Inv:α→World→Prop) (size:α→Nat) (step:α→Ex→α × Bool) (w0:World)
  (hsz:∀ st e,size (step st e).1≤size st+1)
  (hst:∀ st w w',Inv st w→Below w.heap.size w w'→Inv st w')
  (hv:Visits 256 #[.pointer (some ⟨ca,0,none⟩),.pointer (some ⟨cb,0,none⟩)] w0 Inv size step) (op n:Int) (s:ByteArray) (args:List Ex) (st:α) (a:Option Addr) (cap:Nat) (w:World)
  (hroom:size st+(Ex.mk op n s args).nodes.length≤1073741824) (hI:Inv st w) (hB:Below w0.heap.size w0 w) (hE:ExIn w0 (.mk op n s args) a cap) :
  Calls Tryz.prog 183 #[.agg #[.int .i64 op,.int .i64 n,.string s,.slice a args.length cap],.func (.func 256) #[] #[.pointer (some ⟨ca,0,none⟩),.pointer (some ⟨cb,0,none⟩)]] w fun r w' =>
   r=.returned (.tuple #[])∧Inv (runV step st (Ex.mk op n s args).nodes).1 w'∧KT w0.heap.size w w':=by
 have h1:Below w.heap.size w (((w.alloc (.cells #[.int .i64 op,.int .i64 n,.string s,.slice a args.length cap] 24)).alloc (.cells #[.func (.func 256) #[] #[.pointer (some ⟨ca,0,none⟩),.pointer (some ⟨cb,0,none⟩)]] 211)).alloc (.cells #[.func (.func 230) #[] #[.pointer (some ⟨w.heap.size+1,0,none⟩),.pointer (some ⟨w.heap.size+1+1,0,none⟩)]] 211)) :=
  ((((Below.refl _ _).alloc (Nat.le_refl _) _).alloc (by simp) _).alloc (by simp;omega) _)
 have hC:=walk1_171 ca cb Inv size step w0 (w.heap.size+1) (w.heap.size+1+1) hsz hst hv (.mk op n s args) st a cap _ hroom (hst _ _ _ hI h1) (hB.trans (h1.mono hB.size)) hE
  (by rw[Below.heap_alloc _ _ _ (by simp)];exact heap_alloc_at _ _ _ (by simp)) (heap_alloc_at _ _ _ (by simp))
 have HC:=Lib.hid (hC.mono fun e w' h=>(⟨h.1,h.2.1,(KT.of_below h1).trans h.2.2⟩:_∧_∧KT w0.heap.size w w'))
 simp only[exVal,Ex.op_mk,Ex.n_mk,Ex.name_mk,Ex.args_mk] at HC
 clear hC h1 hI hB hE hv hst hsz hroom
 go_enter Tryz.func183, Tryz.ntmps183
 go_wp2_with fail
 refine HC.out.mono ?_
 rintro e w2 ⟨rfl,hI2,hK2⟩
 have HI2:=Lib.hid hI2
 have HK2:=Lib.hid hK2
 clear hI2 hK2
 go_wp2_with fail
 go_end0
 exact⟨rfl,HI2.out,HK2.out⟩
end Go.Proofs.YthojpomoflhbcaaGreatDoor
namespace Go.Proofs.YthojpomoflhbcaaGreatDoor
open Go.RowKit
def stepS (st:Int) (_:Ex):Int × Bool:=(wrap64 (st+1),true)
theorem runS (l:List Ex):∀ st:Int,0≤st→st+l.length≤1073741824→runV stepS st l=(st+l.length,true):=by
 induction l with
 | nil=>intro st _ _;simp[runV]
 | cons e l ih =>
  intro st h0 h
  simp only[List.length_cons,Int.natCast_add,Int.natCast_one] at h
  have hw:wrap64 (st+1)=st+1:=by unfold wrap64;omega
  simp only[runV,stepS,if_true,hw]
  rw[ih (st+1) (by omega) (by omega)]
  simp;omega
def InvS (B cb:Nat) (st:Int) (w:World):Prop:=B≤cb∧w.heap[cb]? = some (.cells #[.int .i64 st] 3 (0,0))
theorem InvS.keep {B cb:Nat} (st:Int) (w w':World) (h:InvS B cb st w) (hb:Below w.heap.size w w'):InvS B cb st w' :=
 ⟨h.1,by rw[hb.block _ (lt_of_block h.2)];exact h.2⟩
set_option maxHeartbeats 400000 in
theorem visitS (w0:World) (cb:Nat):Visits 233 #[.pointer (some ⟨cb,0,none⟩)] w0 (InvS w0.heap.size cb) (fun _=>0) stepS:=by
 intro st op n s args a cap w _ hI hB hE
 have hcb:=lt_of_block hI.2
 have c0:∀ o,(w.alloc o).cell? ⟨cb,0,none⟩=_:=fun o=>(World.cell?_alloc_lt _ _ _ hcb).trans (cell_of_one hI.2)
 have f0:∀ o,(w.alloc o).frozen? ⟨cb,0,none⟩=_:=fun o=>(World.frozen?_alloc_old _ _ _ (Nat.ne_of_lt hcb)).trans (free_of_one hI.2)
 have HI:=Lib.hid hI
 clear hI hB hE hcb
 show Calls _ _ #[_,_] _ _
 go_enter Tryz.func233, Tryz.ntmps233
 go_wp2_with fail
 go_ret
 have hb:∀ o,(w.alloc o).heap[cb]? = _:=fun o=>(Below.heap_alloc _ _ _ (lt_of_block HI.out.2)).trans HI.out.2
 refine⟨rfl,⟨HI.out.1,?_⟩,?_⟩
 ·exact one_setCell (hb _)
 ·exact((KT.refl _ _).alloc _).setCell (hb _) (by unfold Still;decide) HI.out.1 _
set_option maxHeartbeats 400000 in
theorem size_any (op n:Int) (s:ByteArray) (args:List Ex) (a:Option Addr) (cap:Nat) (w:World) (hE:ExIn w (.mk op n s args) a cap) (hn:(Ex.mk op n s args).nodes.length≤1073741824) :
  Calls Tryz.prog 187 #[.agg #[.int .i64 op,.int .i64 n,.string s,.slice a args.length cap]] w fun e w'=>e=.returned (.int .i64 (Ex.mk op n s args).nodes.length)∧Below w.heap.size w w':=by
 have hB:Below w.heap.size w ((w.alloc (.cells #[.int .i64 op,.int .i64 n,.string s,.slice a args.length cap] 24)).alloc (.cells #[.int .i64 0] 3)):=bel
 have hC:=walk_170 (w.heap.size+1) (InvS w.heap.size (w.heap.size+1)) (fun _=>0) stepS w (fun _ _=>by simp) InvS.keep (visitS w (w.heap.size+1)) op n s args 0 a cap _ (by omega) ⟨by omega,heap_alloc_at _ _ _ (by simp)⟩ hB hE
 rw[runS _ 0 (by omega) (by omega)] at hC
 have HB:=Lib.hid hB
 have HC:=Lib.hid hC
 clear hC hB hE
 go_enter Tryz.func187, Tryz.ntmps187
 go_wp2_with fail
 refine HC.out.mono ?_
 rintro e w2 ⟨rfl,hI2,hK2⟩
 have c0:=cell_of_one hI2.2
 have HK2:=Lib.hid hK2
 clear hI2 hK2
 go_wp2_with fail
 go_ret
 exact⟨by simp,HB.out.trans (HK2.out.below (by simp;omega))⟩
theorem foldl_max (l:List Nat):∀ a,l.foldl max a=max a (l.foldl max 0):=by
 induction l with
 | nil=>intro a;simp
 | cons x l ih=>intro a;simp only[List.foldl_cons];rw[ih (max a x),ih (max 0 x)];omega
noncomputable def depthTo (l:List Ex) (k:Nat):Nat:=((l.take k).map Ex.depth).foldl max 0
theorem depthTo_succ (l:List Ex) (k:Nat) (h:k < l.length):depthTo l (k+1)=max (depthTo l k) (l[k]'h).depth:=by
 unfold depthTo
 rw[List.take_succ_eq_append_getElem h,List.map_append,List.foldl_append]
 simp
theorem depth_all (e:Ex):e.depth=depthTo e.args e.args.length+1:=by
 rw[Ex.depth_eq];unfold depthTo;rw[List.take_of_length_le (Nat.le_refl _)]
theorem nodesTo_mono (l:List Ex) (k:Nat) (h:k < l.length):(nodesTo l (k+1)).length=(nodesTo l k).length+(l[k]'h).nodes.length:=by
 rw[nodesTo_succ _ _ h,List.length_append]
theorem depth_le_nodes (e:Ex):e.depth≤e.nodes.length:=by
 induction e using Ex.ind with
 | h e ih =>
  have h:∀ k,k≤e.args.length→depthTo e.args k≤(nodesTo e.args k).length:=by
   intro k
   induction k with
   | zero=>intro _;simp[depthTo]
   | succ k ihk =>
    intro hk
    have h1:=ihk (by omega)
    have h2:=ih (e.args[k]'(by omega)) (List.getElem_mem _)
    rw[depthTo_succ _ _ (by omega),nodesTo_mono _ _ (by omega)]
    omega
  have:=h _ (Nat.le_refl _)
  rw[depth_all,nodes_cons]
  simp;omega
set_option maxHeartbeats 1000000 in
theorem depth_any (e:Ex):∀ (a:Option Addr) (cap:Nat) (w:World),e.nodes.length≤1073741824→ExIn w e a cap →
  Calls Tryz.prog 186 #[exVal e a cap] w fun r w'=>r=.returned (.int .i64 e.depth)∧Below w.heap.size w w':=by
 induction e using Ex.ind with
 | h e ih =>
  intro a cap w hn hE
  obtain⟨op,n,s,args⟩:=e
  have hlen:=hE.2.2.1
  have hadr:=hE.2.addr
  have hnl:(Ex.mk op n s args).nodes.length=(nodesTo args args.length).length+1:=by rw[nodes_cons];simp[Ex.args_mk]
  simp only[Ex.args_mk] at hlen hadr
  have HN:=Lib.hid (⟨hn,hnl⟩:_∧_)
  have HE:=Lib.hid hE
  have HIH:=Lib.hid ih
  have HA:=Lib.hid hadr
  clear hn hE ih hadr hnl
  simp only[exVal,Ex.op_mk,Ex.n_mk,Ex.name_mk,Ex.args_mk]
  go_enter Tryz.func186, Tryz.ntmps186
  go_wp2_with fail
  go_loopw [3,9] (fun d i wr=>∃ k:Nat,i=.int .i64 k∧k≤args.length∧d=.int .i64 (depthTo args k)∧Below w.heap.size w wr) (fun _ i _=>args.length - (intOf i).toNat)
  case atStart=>exact⟨0,rfl,Nat.zero_le _,rfl,bel⟩
  case round =>
   obtain⟨k,rfl,hk,rfl,hBr⟩:=hrel
   have HBr:=Lib.hid hBr
   clear hBr
   by_cases hlt:k < args.length
   ·obtain⟨b,off,ha⟩:=HA.out.resolve_left (by omega)
    subst ha
    obtain⟨a',cap',g0,g1,g2,g3,hX⟩:=HE.out.2.get rfl hlt
    have kk:=keeps_of_below HBr.out
    have c0:=kk _ _ g0
    have c1:=kk _ _ g1
    have c2:=kk _ _ g2
    have c3:=kk _ _ g3
    have hrm:=nodes_room args k hlt
    have hd:=depth_le_nodes (args[k]'hlt)
    have hn':=HN.out
    have hX':=hX.keep kk
    simp only[Ex.args_mk] at c0 c1 c2 c3 hX'
    have hm:args[k]∈(Ex.mk op n s args).args:=List.getElem_mem hlt
    have hBA:Below wr.heap.size wr (wr.alloc (.cells #[.int .i64 (args[k]'hlt).op,.int .i64 (args[k]'hlt).n,.string (args[k]'hlt).name,.slice a' (args[k]'hlt).args.length cap'] 24)):=(Below.refl _ _).alloc (Nat.le_refl _) _
    have hC:=HIH.out _ hm a' cap' _ (by omega) (hX'.keep (keeps_of_below hBA))
    have HC:=Lib.hid (hC.mono fun e w' h=>(⟨h.1,HBr.out.trans ((hBA.trans (h.2.mono hBA.size)).mono HBr.out.size)⟩:_∧Below w.heap.size w w'))
    simp only[Ex.args_mk,exVal] at HC
    have Hon:=Lib.hid (depthTo_succ args k hlt)
    have hdk:depthTo args k≤1073741824:=by
     have h1:depthTo args k≤(Ex.mk op n s args).depth:=by
      rw[depth_all,Ex.args_mk]
      have h2:∀ j,k+j≤args.length→depthTo args k≤depthTo args (k+j):=by
       intro j
       induction j with
       | zero=>intro _;exact Nat.le_refl _
       | succ j ihj =>
        intro hj
        have:=ihj (by omega)
        rw[← Nat.add_assoc,depthTo_succ _ _ (by omega)]
        omega
      have:=h2 (args.length - k) (by omega)
      rw[show k+(args.length - k)=args.length from by omega] at this
      omega
     have:=depth_le_nodes (Ex.mk op n s args)
     omega
    have hdd:(args[k]'hlt).depth≤1073741824:=by omega
    clear g0 g1 g2 g3 kk hC hBA hrm hn' hX hX' hd hm
    go_wp2_with fail
    refine HC.out.mono ?_
    rintro e w2 ⟨rfl,hb2⟩
    have HB2:=Lib.hid hb2
    clear hb2
    go_wp2_with fail
    go_roundw
    case rel=>exact⟨k+1,by go_num,by omega,by rw[Hon.out];go_num,HB2.out⟩
    case measure=>simp[intOf];omega
   ·obtain rfl:k=args.length:=by omega
    have hd:depthTo args args.length+1≤1073741824:=by
     have:=depth_le_nodes (Ex.mk op n s args)
     rw[depth_all,Ex.args_mk] at this
     have:=HN.out
     omega
    have hall:=depth_all (Ex.mk op n s args)
    simp only[Ex.args_mk] at hall
    have Hall:=Lib.hid hall
    clear hall
    go_wp2_with fail
    go_ret
    exact⟨by rw[Hall.out];simp,HBr.out⟩
end Go.Proofs.YthojpomoflhbcaaGreatDoor
namespace Go.Proofs.YthojpomoflhbcaaGreatDoor
open Go.RowKit
def stepV (_:Int) (e:Ex):Int × Bool:=(nodeS e,nodeS e == 0)
def firstE:List Ex→Int
 | []=>0
 | e::l=>if nodeS e=0 then firstE l else nodeS e
theorem runV_first (l:List Ex):(runV stepV 0 l).1=firstE l:=by
 induction l with
 | nil=>rfl
 | cons e l ih =>
  by_cases h:nodeS e=0
  ·simp only[runV,stepV,h,firstE,if_true]
   simpa [stepV] using ih
  ·simp[runV,stepV,h,firstE]
noncomputable def validS (e:Ex):Int:=if firstE e.nodes=0∧(24 < e.depth∨400 < e.nodes.length) then 2 else firstE e.nodes
def InvV (B cb:Nat) (st:Int) (w:World):Prop:=B≤cb∧w.heap[cb]? = some (.cells #[.int .i64 st] 34 (0,0))∧Glob w
theorem InvV.keep {B cb:Nat} (st:Int) (w w':World) (h:InvV B cb st w) (hb:Below w.heap.size w w'):InvV B cb st w' :=
 ⟨h.1,by rw[hb.block _ (lt_of_block h.2.1)];exact h.2.1,h.2.2.below hb⟩
set_option maxHeartbeats 400000 in
theorem visitV (w0:World) (hG0:Glob w0) (cb:Nat):Visits 184 #[.pointer (some ⟨cb,0,none⟩)] w0 (fun st w=>InvV w0.heap.size cb st w) (fun _=>0) stepV:=by
 intro st op n s args a cap w _ hI hB hE
 have hcb:=lt_of_block hI.2.1
 have hBA:Below w.heap.size w (w.alloc (.cells #[.int .i64 op,.int .i64 n,.string s,.slice a args.length cap] 24)):=(Below.refl _ _).alloc (Nat.le_refl _) _
 have hC:=node_any op n s args a cap _ hE.1 hE.2.2.1 (hI.2.2.below hBA)
 have HC:=Lib.hid (hC.mono fun e w' h=>(⟨h.1,hBA.trans (h.2.mono hBA.size)⟩:_∧Below w.heap.size w w'))
 have HI:=Lib.hid hI
 have HB:=Lib.hid hB
 clear hI hB hE hC hBA
 show Calls _ _ #[_,_] _ _
 go_enter Tryz.func184, Tryz.ntmps184
 go_wp2_with fail
 refine HC.out.mono ?_
 rintro e w2 ⟨rfl,hb2⟩
 have hb:w2.heap[cb]? = _:=(hb2.block _ hcb).trans HI.out.2.1
 have c0:=cell_of_one hb
 have f0:=free_of_one hb
 have HH:=Lib.hid hb
 have HB2:=Lib.hid hb2
 clear hb hb2 hcb
 go_wp2_with fail
 go_ret
 have hlow:∀ p v,w0.cell? p=some v→(w2.setCell ⟨cb,0,none⟩ (.int .i64 (nodeS (.mk op n s args)))).cell? p=some v:=by
  intro p v hp
  have h1:=keeps_of_below HB.out _ _ hp
  have h2:=keeps_of_below HB2.out _ _ h1
  have h3:=World.block_lt_of_cell? _ _ hp
  rw[World.cell?_setCell_other _ _ _ _ (by rintro rfl;exact absurd HI.out.1 (by simpa using h3))]
  exact h2
 exact⟨rfl,⟨HI.out.1,one_setCell HH.out,hG0.keep hlow⟩,(KT.of_below HB2.out).setCell HH.out (by unfold Still;decide) HI.out.1 _⟩
set_option maxHeartbeats 1000000 in
theorem valid_any (op n:Int) (s:ByteArray) (args:List Ex) (a:Option Addr) (cap:Nat) (w:World) (hG:Glob w) (hE:ExIn w (.mk op n s args) a cap) (hn:(Ex.mk op n s args).nodes.length≤1073741824) :
  Calls Tryz.prog 121 #[.agg #[.int .i64 op,.int .i64 n,.string s,.slice a args.length cap]] w fun e w'=>e=.returned (.int .i64 (validS (.mk op n s args)))∧Below w.heap.size w w':=by
 have hB:Below w.heap.size w ((w.alloc (.cells #[.int .i64 op,.int .i64 n,.string s,.slice a args.length cap] 24)).alloc (.cells #[.int .i64 0] 34)):=bel
 have hC:=walk_140 (w.heap.size+1) (fun st w'=>InvV w.heap.size (w.heap.size+1) st w') (fun _=>0) stepV w (fun _ _=>by simp) InvV.keep (visitV w hG (w.heap.size+1)) op n s args 0 a cap _ (by omega) ⟨by omega,heap_alloc_at _ _ _ (by simp),hG.below hB⟩ hB hE
 rw[runV_first] at hC
 have HB:=Lib.hid hB
 have HC:=Lib.hid hC
 have HE:=Lib.hid hE
 have Hn:=Lib.hid hn
 have hbox:((w.alloc (.cells #[.int .i64 op,.int .i64 n,.string s,.slice a args.length cap] 24)).alloc (.cells #[.int .i64 0] 34)).heap[w.heap.size]? = some (.cells #[.int .i64 op,.int .i64 n,.string s,.slice a args.length cap] 24):=by
  rw[Below.heap_alloc _ _ _ (by simp)];exact heap_alloc_new' _ _
 have HX:=Lib.hid hbox
 clear hC hB hE hn hG hbox
 go_enter Tryz.func121, Tryz.ntmps121
 go_wp2_with fail
 refine HC.out.mono ?_
 rintro e w2 ⟨rfl,hI2,hK2⟩
 have c0:=cell_of_one hI2.2.1
 have hx2:=hK2.typed _ _ _ _ HX.out (Or.inl rfl)
 have b0:w2.cell? ⟨w.heap.size,0,none⟩=some (.int .i64 op):=by simp[World.cell?,hx2]
 have b1:w2.cell? ⟨w.heap.size,1,none⟩=some (.int .i64 n):=by simp[World.cell?,hx2]
 have b2:w2.cell? ⟨w.heap.size,2,none⟩=some (.string s):=by simp[World.cell?,hx2]
 have b3:w2.cell? ⟨w.heap.size,3,none⟩=some (.slice a args.length cap):=by simp[World.cell?,hx2]
 have hb2:Below w.heap.size w w2:=HB.out.trans (hK2.below (by simp;omega))
 have hz2:=hK2.size
 simp only[World.size_alloc] at hz2
 have hzl0:w.heap.size < w2.heap.size:=by omega
 have hzl1:w.heap.size+1 < w2.heap.size:=by omega
 have HD:=Lib.hid (fr (W0:=w) (B:=w.heap.size) (depth_any (.mk op n s args) a cap w2 Hn.out (HE.out.keep (keeps_of_below hb2))) hb2 (by omega))
 simp only[exVal,Ex.op_mk,Ex.n_mk,Ex.name_mk,Ex.args_mk] at HD
 have HB2:=Lib.hid hb2
 clear hI2 hK2 hx2 hb2 hz2
 by_cases h0:firstE (Ex.mk op n s args).nodes=0
 ·have hv:Hid (validS (.mk op n s args)=if (24 < (Ex.mk op n s args).depth∨400 < (Ex.mk op n s args).nodes.length) then 2 else 0):=by
   show _=_
   unfold validS;simp[h0]
  have c0':w2.cell? ⟨w.heap.size+1,0,none⟩=some (.int .i64 0):=by rw[c0,h0]
  have h0':=Lib.hid h0
  clear h0 c0
  by_cases hd:24 < (Ex.mk op n s args).depth
  ·go_wp2_with (go_at_call 186;refine HD.out.mono ?_;rintro e w3 ⟨rfl,hc3,hf3,hz3,hb3⟩)
   go_ret
   exact⟨by rw[hv.out,if_pos (Or.inl hd)];rfl,by assumption⟩
  ·have hs:=fun w3 (hb3:Below w.heap.size w w3) (hz3:w.heap.size≤w3.heap.size)=>fr (W0:=w) (B:=w.heap.size) (size_any op n s args a cap w3 (HE.out.keep (keeps_of_below hb3)) Hn.out) hb3 hz3
   have HS:=Lib.hid hs
   clear hs
   by_cases hs:400 < (Ex.mk op n s args).nodes.length
   ·go_wp2_with (first | (go_at_call 186;refine HD.out.mono ?_;rintro e w3 ⟨rfl,hc3,hf3,hz3,hb3⟩;have hzl3:w.heap.size < w3.heap.size:=(by omega);have hzl4:w.heap.size+1 < w3.heap.size:=(by omega)) | (go_at_call 187;go_must (refine(HS.out _ (by assumption) (by omega)).mono ?_;rintro e w4 ⟨rfl,hc4,hf4,hz4,hb4⟩)))
    go_ret
    exact⟨by rw[hv.out,if_pos (Or.inr hs)];rfl,by assumption⟩
   ·go_wp2_with (first | (go_at_call 186;refine HD.out.mono ?_;rintro e w3 ⟨rfl,hc3,hf3,hz3,hb3⟩;have hzl3:w.heap.size < w3.heap.size:=(by omega);have hzl4:w.heap.size+1 < w3.heap.size:=(by omega)) | (go_at_call 187;go_must (refine(HS.out _ (by assumption) (by omega)).mono ?_;rintro e w4 ⟨rfl,hc4,hf4,hz4,hb4⟩)))
    go_ret
    exact⟨by rw[hv.out,if_neg (by omega)];rfl,by assumption⟩
 ·have hv:Hid (validS (.mk op n s args)=firstE (Ex.mk op n s args).nodes):=by
   show _=_
   unfold validS;simp[h0]
  go_wp2_with fail
  go_ret
  exact⟨by rw[hv.out];rfl,HB2.out⟩
end Go.Proofs.YthojpomoflhbcaaGreatDoor
