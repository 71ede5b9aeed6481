/- names, Names, Arrays of expressions. -/
import Derived.Test.YthojpomoflhbcaaGreatDoorM01
import Derived.Test.YthojpomoflhbcaaGreatDoorM00
set_option linter.unusedSimpArgs false
set_option linter.unusedVariables false
set_option linter.unnecessarySimpa false
namespace Go.Proofs.YthojpomoflhbcaaGreatDoor
open Go.RowKit
theorem own_app {P:Program} {ops:Array Oper} {rest:List Oper} {o:Oper} {a:Act} {Q:Exit→Act→World→Prop} {t e:TypeId} {size:Nat} (he:Elem P t e size) (w:World) (hgd:o.guard=none) (s x:Operand)
  (ho:o.op=.call { callee:=.builtin .append,args:=#[s,x],argTypes:=#[t,t] })
  (base:Nat) (v:Value) (n:Nat) (xs:List Value) (hs:a.eval s=v) (hown:w.ownsRow base e size v n xs)
  (news:List Value) (hl:news.length=size) (h1:∀ u∈news,u.oneCell'=true) (k c:Nat) (hx:a.eval x=.slice (some ⟨k,0,none⟩) 1 c) (hk:k=w.heap.size) (hn:n≤1073741824) (hbase:base≤w.heap.size)
  (h:∀ v' w',w'.ownsRow base e size v' (n+1) (xs++news)→(w.alloc (.cells news.toArray e)).grownBy w' v.ownBlock→wpList P ops Q rest (a.put o.dst v') w'):wpList P ops Q (o::rest) a (w.alloc (.cells news.toArray e)):=by
 subst hk;exact own_append1 he w hgd s x ho base v n xs hs hown news hl h1 c hx hn hbase h
theorem ownsRow_store {w:World} {base:Nat} {e:TypeId} {size:Nat} {v:Value} {n:Nat} {xs:List Value} (h:w.ownsRow base e size v n xs) {k:Nat} {c:Array Value} {t:TypeId} {z:Nat × Nat} (hk:w.heap[k]? = some (.cells c t z)) (ht:t≠e) (o:Nat) (u:Value):(w.setCell ⟨k,o,none⟩ u).ownsRow base e size v n xs :=
 ownsRow_setCell_other h (fun h'=>ownsRow_ne h hk ht h'.symm) u
def addName (ops:List Int) (st:List ByteArray) (e:Ex):List ByteArray:=if ops.contains e.op=true∧Lib.containsS st e.name=false then st++[e.name] else st
def stepN (ops:List Int) (st:List ByteArray) (e:Ex):List ByteArray × Bool:=(addName ops st e,true)
theorem runN (ops:List Int) (l:List Ex):∀ st,runV (stepN ops) st l=(l.foldl (addName ops) st,true):=by
 induction l with
 | nil=>intro st;rfl
 | cons e l ih=>intro st;simp only[runV,stepN,if_true,List.foldl_cons];exact ih _
noncomputable def namesS (ops:List Int) (e:Ex):List ByteArray:=e.nodes.foldl (addName ops) []
theorem addName_len (ops:List Int) (st:List ByteArray) (e:Ex):(addName ops st e).length≤st.length+1:=by
 unfold addName;split<;>simp
theorem names_len (ops:List Int) (l:List Ex):∀ st:List ByteArray,(l.foldl (addName ops) st).length≤st.length+l.length:=by
 induction l with
 | nil=>intro st;simp
 | cons e l ih =>
  intro st
  have h1:=ih (addName ops st e)
  have h2:=addName_len ops st e
  simp only[List.foldl_cons,List.length_cons];omega
theorem elemS:Elem Tryz.prog 51 9 1:=Elem.of Tryz.underlying51 (by kernel_rfl) (z:=.string .empty) (bytes:=16) rfl (by decide) (by decide)
def InvN (B ca cb bo cap:Nat) (ops:List Int) (st:List ByteArray) (w:World):Prop :=
 (B≤cb∧B≤ca∧B≤bo)∧(∃ v,w.heap[cb]? = some (.cells #[v] 51 (0,0))∧w.ownsRow B 9 1 v st.length (st.map Value.string)) ∧
  w.heap[ca]? = some (.cells #[.slice (some ⟨bo,0,none⟩) ops.length cap] 31 (0,0))∧w.heap[bo]? = some (.cells (ops.map (Value.int .i64)).toArray 3 (0,0))
theorem InvN.keep {B ca cb bo cap:Nat} {ops:List Int} (st:List ByteArray) (w w':World) (h:InvN B ca cb bo cap ops st w) (hb:Below w.heap.size w w'):InvN B ca cb bo cap ops st w':=by
 obtain⟨h0,⟨v,h1,h2⟩,h3,h4⟩:=h
 exact⟨h0,⟨v,by rw[hb.block _ (lt_of_block h1)];exact h1,ownsRow_below h2 hb⟩,by rw[hb.block _ (lt_of_block h3)];exact h3,by rw[hb.block _ (lt_of_block h4)];exact h4⟩
theorem ops_cell {w:World} {bo:Nat} {ops:List Int} (h:w.heap[bo]? = some (.cells (ops.map (Value.int .i64)).toArray 3 (0,0))) (j:Nat) (hj:j < ops.length):w.cell? ⟨bo,0+j,none⟩=some (.int .i64 (ops.getD j 0)):=by
 simp[World.cell?,h,hj]
theorem containsOwn (w:World) (B:Nat) (v:Value) (st:List ByteArray) (x:ByteArray) (hown:w.ownsRow B 9 1 v st.length (st.map Value.string)) (hn:st.length≤1073741824) :
  Calls Tryz.prog 203 #[v,.string x] w fun e w'=>e=.returned (.bool (Lib.containsS st x))∧w=w':=by
 obtain⟨a,cap,rfl,hs⟩:=strs_of_own hown hn
 by_cases h0:st=[]
 ·subst h0
  exact(Tryz.slices_Contains_string_empty a cap x w).mono fun e w' h=>⟨h.1,h.2.symm⟩
 ·obtain⟨b,off,rfl⟩:=hs.addr.resolve_left (by simpa using h0)
  have:=Tryz.slices_Contains_string b off st.length cap st x w (Nat.le_refl _) (by omega) (fun j hj=>by
   rw[hs.get rfl hj];simp[hj])
  rw[List.take_of_length_le (Nat.le_refl _)] at this
  exact this.mono fun e w' h=>⟨h.1,h.2.symm⟩
set_option maxHeartbeats 1000000 in
theorem visitN (w0:World) (ca cb bo cap:Nat) (ops:List Int) (hol:0 < ops.length∧ops.length≤1000):Visits 256 #[.pointer (some ⟨ca,0,none⟩),.pointer (some ⟨cb,0,none⟩)] w0 (InvN w0.heap.size ca cb bo cap ops) List.length (stepN ops):=by
 intro st op n s args a cap' w hroom hI hB hE
 have hBA:Below w.heap.size w (w.alloc (.cells #[.int .i64 op,.int .i64 n,.string s,.slice a args.length cap'] 24)):=(Below.refl _ _).alloc (Nat.le_refl _) _
 have hI2:=InvN.keep st w _ hI hBA
 have HKA:Hid (KT w0.heap.size w (w.alloc (.cells #[.int .i64 op,.int .i64 n,.string s,.slice a args.length cap'] 24))):=KT.of_below hBA
 obtain⟨⟨hb1,hb2,hb3⟩,⟨v,hv,hown⟩,hca,hbo⟩:=hI
 have cA:∀ o,(w.alloc o).cell? ⟨ca,0,none⟩=_:=fun o=>(World.cell?_alloc_lt _ _ _ (lt_of_block hca)).trans (cell_of_one hca)
 have cB:∀ o,(w.alloc o).cell? ⟨cb,0,none⟩=_:=fun o=>(World.cell?_alloc_lt _ _ _ (lt_of_block hv)).trans (cell_of_one hv)
 have hci:=Tryz.slices_Contains_int bo 0 ops.length cap ops op (w.alloc (.cells #[.int .i64 op,.int .i64 n,.string s,.slice a args.length cap'] 24)) (Nat.le_refl _) (by omega) (fun j hj=>(World.cell?_alloc_lt _ _ _ (lt_of_block hbo)).trans (ops_cell hbo j hj))
 rw[List.take_of_length_le (Nat.le_refl _)] at hci
 have HCI:=Lib.hid hci
 have HCS:=Lib.hid (containsOwn _ _ v st s (ownsRow_below hown hBA) (by omega))
 have HI2:=Lib.hid hI2
 have HV:=Lib.hid (⟨hv,hown,hca,hbo,hb1,hb2,hb3⟩:_∧_∧_∧_∧_∧_∧_)
 clear hI2 hBA hE hci hv hown hca hbo hb1 hb2 hb3 hB
 show Calls _ _ #[.agg #[_,_,_,_],.pointer (some ⟨ca,0,none⟩),.pointer (some ⟨cb,0,none⟩)] _ _
 go_enter Tryz.func256, Tryz.ntmps256
 go_wp2_with fail
 refine HCI.out.mono ?_
 rintro e w2 ⟨rfl,rfl⟩
 cases hc:ops.contains op
 ·go_wp2_with fail
  go_ret
  refine⟨rfl,?_,HKA.out⟩
  have:addName ops st (.mk op n s args)=st:=by unfold addName;rw[if_neg (by rw[Ex.op_mk,hc];simp)]
  show InvN _ _ _ _ _ _ (addName ops st (.mk op n s args)) _
  rw[this];exact HI2.out
 ·cases hs:Lib.containsS st s
  ·have Hc:=Lib.hid hc
   have Hs:=Lib.hid hs
   clear hs hc
   have hO:=ownsRow_below HV.out.2.1 ((Below.refl _ _).alloc (Nat.le_refl _) (.cells #[.int .i64 op,.int .i64 n,.string s,.slice a args.length cap'] 24))
   have HO:=Lib.hid hO
   clear hO
   have hroom':st.length≤1073741824:=by omega
   have hsz:w0.heap.size≤w.heap.size:=by have:=HV.out.2.2.2.2.1;have:=lt_of_block HV.out.1;omega
   go_wp2_with (first | (go_at_call 203;refine HCS.out.mono ?_;rintro e w2 ⟨rfl,rfl⟩;rw[Hs.out]) | (at_builtin;go_must (refine own_app elemS _ rfl (.tmp 16) (.tmp 19) rfl w0.heap.size v st.length (st.map Value.string) rfl HO.out [.string s] rfl (by simp[Value.oneCell']) _ 1 rfl (by simp) hroom' (by simp;omega) ?_)))
   intro v' w3 hown3 hg3
   have hW:((w.alloc (.cells #[.int .i64 op,.int .i64 n,.string s,.slice a args.length cap'] 24)).alloc (.cells #[.string s] 9)).heap[cb]? = some (.cells #[v] 51 (0,0)):=by
    rw[Below.heap_alloc _ _ _ (by have:=lt_of_block HV.out.1;simp;omega),Below.heap_alloc _ _ _ (lt_of_block HV.out.1)];exact HV.out.1
   have hne:=ownsRow_ne HV.out.2.1 HV.out.1 (by decide)
   have h3:w3.heap[cb]? = some (.cells #[v] 51 (0,0)):=(hg3.block _ (lt_of_block hW) hne).trans hW
   have c3:=cell_of_one h3
   have f3:=free_of_one h3
   obtain⟨a3,k3,hv3,_⟩:=slice_of_own hown3 (by omega)
   subst hv3
   have H3:=Lib.hid (⟨hown3,hg3,h3,hne⟩:_∧_∧_∧_)
   clear hown3 hg3 hW hne h3
   go_wp2_with fail
   go_ret
   have hadd:addName ops st (.mk op n s args)=st++[s]:=by unfold addName;rw[if_pos ⟨Hc.out,Hs.out⟩,Ex.name_mk]
   obtain⟨hv,hown,hca,hbo,hb1,hb2,hb3⟩:=HV.out
   obtain⟨hown3,hg3,h3,hne⟩:=H3.out
   have hB2:Below w.heap.size w ((w.alloc (.cells #[.int .i64 op,.int .i64 n,.string s,.slice a args.length cap'] 24)).alloc (.cells #[.string s] 9)):=((Below.refl _ _).alloc (Nat.le_refl _) _).alloc (by simp) _
   have old:∀ (k:Nat) (c:Array Value) (t:TypeId),w.heap[k]? = some (.cells c t (0,0))→t≠9→k≠cb→(w3.setCell ⟨cb,0,none⟩ (.slice a3 (st.length+1) k3)).heap[k]? = some (.cells c t (0,0)):=by
    intro k c t hk ht hkb
    have h1:=(hB2.block _ (lt_of_block hk)).trans hk
    rw[Below.heap_setCell _ _ _ _ hkb,hg3.block _ (lt_of_block h1) (ownsRow_ne hown hk ht)]
    exact h1
   refine⟨rfl,?_,?_⟩
   ·show InvN _ _ _ _ _ _ (addName ops st (.mk op n s args)) _
    rw[hadd]
    refine⟨⟨hb1,hb2,hb3⟩,⟨_,one_setCell h3,?_⟩,old _ _ _ hca (by decide) (by rintro rfl;rw[hv] at hca;simp at hca),old _ _ _ hbo (by decide) (by rintro rfl;rw[hv] at hbo;simp at hbo)⟩
    have:=ownsRow_store hown3 h3 (by decide) 0 (.slice a3 (st.length+1) k3)
    simpa using this
   ·refine KT.setCell (KT.grown (HKA.out.alloc (.cells #[.string s] 9)) hg3 (fun k hk=>by obtain⟨_,_,h⟩:=ownsRow_type hown hk;exact h) ?_) h3 (by unfold Still;decide) hb1 _
    intro k c t z hk hh hs
    obtain⟨cur,hcur,_⟩:=ownsRow_type hown hk
    rw[(hB2.block _ (lt_of_block hcur)).trans hcur] at hh
    simp only[Option.some.injEq,Obj.cells.injEq] at hh
    rw[← hh.2.1] at hs
    exact absurd hs (by unfold Still;decide)
  ·go_wp2_with (go_at_call 203;refine HCS.out.mono ?_;rintro e w2 ⟨rfl,rfl⟩)
   go_ret
   refine⟨rfl,?_,HKA.out⟩
   have:addName ops st (.mk op n s args)=st:=by unfold addName;rw[if_neg (by rw[Ex.name_mk,hs];simp)]
   show InvN _ _ _ _ _ _ (addName ops st (.mk op n s args)) _
   rw[this];exact HI2.out
set_option maxHeartbeats 1000000 in
theorem names_any (op n:Int) (s:ByteArray) (args:List Ex) (a:Option Addr) (cap bo oc:Nat) (ops:List Int) (w:World) (hE:ExIn w (.mk op n s args) a cap) (hn:(Ex.mk op n s args).nodes.length≤1073741824)
  (B:Nat) (w0:World) (hw0:B=w0.heap.size) (hW:Below B w0 w) (hbB:B≤bo) (hbo:w.heap[bo]? = some (.cells (ops.map (Value.int .i64)).toArray 3 (0,0))) (hol:0 < ops.length∧ops.length≤1000) (hE0:ExIn w0 (.mk op n s args) a cap) :
  Calls Tryz.prog 219 #[.agg #[.int .i64 op,.int .i64 n,.string s,.slice a args.length cap],.slice (some ⟨bo,0,none⟩) ops.length oc] w fun e w' =>
   (∃ a' cap',e=.returned (.slice a' (namesS ops (.mk op n s args)).length cap')∧StrsIn w' (namesS ops (.mk op n s args)) a' cap')∧Below B w0 w':=by
 subst hw0
 have hB:Below w.heap.size w (((w.alloc (.cells #[.int .i64 op,.int .i64 n,.string s,.slice a args.length cap] 24)).alloc (.cells #[.slice (some ⟨bo,0,none⟩) ops.length oc] 31)).alloc (.cells #[.slice none 0 0] 51)):=bel
 have hws:=hW.size
 have hC:=walk_171 (w.heap.size+1) (w.heap.size+1+1) (InvN w0.heap.size (w.heap.size+1) (w.heap.size+1+1) bo oc ops) List.length (stepN ops) w0 (fun st e=>addName_len ops st e) InvN.keep (visitN w0 _ _ bo oc ops hol) op n s args [] a cap _ (by simpa using hn)
  ⟨⟨by omega,by omega,hbB⟩,⟨_,heap_alloc_at _ _ _ (by simp),World.ownsRow_nil _ _ _ _⟩,by rw[Below.heap_alloc _ _ _ (by simp)];exact heap_alloc_at _ _ _ (by simp),by rw[hB.block _ (lt_of_block hbo)];exact hbo⟩ (hW.trans (hB.mono hws)) hE0
 rw[runN] at hC
 have HB:=Lib.hid hB
 have HC:=Lib.hid hC
 have HW:=Lib.hid hW
 have Hn:=Lib.hid hn
 have Hws:=Lib.hid hws
 clear hC hB hE hn hW hbo hE0 hbB hws
 go_enter Tryz.func219, Tryz.ntmps219
 go_wp2_with fail
 refine HC.out.mono ?_
 rintro e w2 ⟨rfl,hI2,hK2⟩
 obtain⟨_,⟨v,hv,hown⟩,_⟩:=hI2
 have c0:=cell_of_one hv
 have HK2:=Lib.hid hK2
 have HO:=Lib.hid hown
 clear hK2 hv hown
 go_wp2_with fail
 go_ret
 obtain⟨a',cap',rfl,hs⟩:=strs_of_own HO.out (by have:=names_len ops (Ex.mk op n s args).nodes [];have:=Hn.out;simp at *;omega)
 exact⟨⟨a',cap',rfl,hs⟩,HW.out.trans ((HB.out.mono Hws.out).trans (HK2.out.below (by have:=HB.out.size;have:=Hws.out;omega)))⟩
set_option maxHeartbeats 1000000 in
theorem Names_any (op n:Int) (s:ByteArray) (args:List Ex) (a:Option Addr) (cap:Nat) (w:World) (hE:ExIn w (.mk op n s args) a cap) (hn:(Ex.mk op n s args).nodes.length≤1073741824) :
  Calls Tryz.prog 160 #[.agg #[.int .i64 op,.int .i64 n,.string s,.slice a args.length cap]] w fun e w' =>
   (∃ a' cap',e=.returned (.slice a' (namesS [2] (.mk op n s args)).length cap')∧StrsIn w' (namesS [2] (.mk op n s args)) a' cap')∧Below w.heap.size w w':=by
 have hB:Below w.heap.size w ((w.alloc (.cells #[.int .i64 op,.int .i64 n,.string s,.slice a args.length cap] 24)).alloc (.cells (([2]:List Int).map (Value.int .i64)).toArray 3)):=bel
 have hC:=names_any op n s args a cap (w.heap.size+1) ([2]:List Int).length [2] _ (hE.keep (keeps_of_below hB)) hn _ w rfl hB (by omega) (heap_alloc_at _ _ _ (by simp)) (by decide) hE
 have HC:=Lib.hid hC
 clear hC hB hE hn
 go_enter Tryz.func160, Tryz.ntmps160
 go_wp2_with fail
 refine HC.out.mono ?_
 rintro e w2 ⟨⟨a',cap',rfl,hs⟩,hb⟩
 have HS:=Lib.hid (⟨hs,hb⟩:_∧_)
 clear hs hb
 go_wp2_with fail
 go_ret
 exact⟨⟨a',cap',rfl,HS.out.1⟩,HS.out.2⟩
set_option maxHeartbeats 1000000 in
theorem Arrays_any (op n:Int) (s:ByteArray) (args:List Ex) (a:Option Addr) (cap:Nat) (w:World) (hE:ExIn w (.mk op n s args) a cap) (hn:(Ex.mk op n s args).nodes.length≤1073741824) :
  Calls Tryz.prog 161 #[.agg #[.int .i64 op,.int .i64 n,.string s,.slice a args.length cap]] w fun e w' =>
   (∃ a' cap',e=.returned (.slice a' (namesS [3,24] (.mk op n s args)).length cap')∧StrsIn w' (namesS [3,24] (.mk op n s args)) a' cap')∧Below w.heap.size w w':=by
 have hB:Below w.heap.size w ((w.alloc (.cells #[.int .i64 op,.int .i64 n,.string s,.slice a args.length cap] 24)).alloc (.cells (([3,24]:List Int).map (Value.int .i64)).toArray 3)):=bel
 have hC:=names_any op n s args a cap (w.heap.size+1) ([3,24]:List Int).length [3,24] _ (hE.keep (keeps_of_below hB)) hn _ w rfl hB (by omega) (heap_alloc_at _ _ _ (by simp)) (by decide) hE
 have HC:=Lib.hid hC
 clear hC hB hE hn
 go_enter Tryz.func161, Tryz.ntmps161
 go_wp2_with fail
 refine HC.out.mono ?_
 rintro e w2 ⟨⟨a',cap',rfl,hs⟩,hb⟩
 have HS:=Lib.hid (⟨hs,hb⟩:_∧_)
 clear hs hb
 go_wp2_with fail
 go_ret
 exact⟨⟨a',cap',rfl,HS.out.1⟩,HS.out.2⟩
end Go.Proofs.YthojpomoflhbcaaGreatDoor
namespace Go.Proofs.YthojpomoflhbcaaGreatDoor
open Go.RowKit
def truthS (b:Bool):Int:=if b then 1 else 0
def singleS (op a:Int):Int:=if op=4 then truthS (a == 0) else if op=5 then invW a else if op=6 then negW a else onesW a
def andW (a b:Int):Int:=((a.toNat &&& b.toNat:Nat):Int)
def orW (a b:Int):Int:=((a.toNat ||| b.toNat:Nat):Int)
def xorW (a b:Int):Int:=((a.toNat ^^^ b.toNat:Nat):Int)
def doubleS (op a b:Int):Int :=
 if op=7 then addW a b else if op=8 then subW a b else if op=9 then mulW a b else if op=10 then andW a b else if op=11 then orW a b else if op=12 then xorW a b
 else if op=13 then shlW a b else if op=14 then shrW a b else if op=15 then truthS (a == b) else if op=16 then truthS (a != b) else if op=17 then truthS (decide (a < b)) else if op=18 then truthS (decide (a≤b))
 else if op=19 then truthS (a != 0 && b != 0) else if op=20 then truthS (a != 0 || b != 0) else truthS (a == 0 || b != 0)
theorem truth_any (b:Bool) (w:World):Calls Tryz.prog 293 #[.bool b] w fun e w'=>e=.returned (.int .i64 (truthS b))∧w=w':=by
 cases b
 all_goals
  go_enter Tryz.func293, Tryz.ntmps293
  go_wp2_with fail
  go_ret
  exact⟨rfl,rfl⟩
theorem i64_and (a b:Int) (ha:0≤a) (ha':a < 65536) (hb:0≤b) (hb':b < 65536):bits .and .i64 a b=andW a b:=by
 obtain⟨A,rfl⟩:=Int.eq_ofNat_of_zero_le ha
 obtain⟨B,rfl⟩:=Int.eq_ofNat_of_zero_le hb
 have h1:bits .and .i64 (A:Int) (B:Int)=IntKind.i64.wrap ((BitVec.ofInt 64 A &&& BitVec.ofInt 64 B).toNat:Int):=rfl
 have hl:A &&& B≤A:=Nat.and_le_left
 rw[h1,BitVec.toNat_and,ofInt_u64 _ (by omega),ofInt_u64 _ (by omega),IntKind.wrap_i64]
 unfold andW
 simp only[Int.toNat_natCast]
 omega
theorem i64_or (a b:Int) (ha:0≤a) (ha':a < 65536) (hb:0≤b) (hb':b < 65536):bits .or .i64 a b=orW a b:=by
 obtain⟨A,rfl⟩:=Int.eq_ofNat_of_zero_le ha
 obtain⟨B,rfl⟩:=Int.eq_ofNat_of_zero_le hb
 have h1:bits .or .i64 (A:Int) (B:Int)=IntKind.i64.wrap ((BitVec.ofInt 64 A ||| BitVec.ofInt 64 B).toNat:Int):=rfl
 have hl:A ||| B < 2 ^ 16:=Nat.or_lt_two_pow (by omega) (by omega)
 rw[h1,BitVec.toNat_or,ofInt_u64 _ (by omega),ofInt_u64 _ (by omega),IntKind.wrap_i64]
 unfold orW
 simp only[Int.toNat_natCast]
 omega
theorem i64_xor (a b:Int) (ha:0≤a) (ha':a < 65536) (hb:0≤b) (hb':b < 65536):bits .xor .i64 a b=xorW a b:=by
 obtain⟨A,rfl⟩:=Int.eq_ofNat_of_zero_le ha
 obtain⟨B,rfl⟩:=Int.eq_ofNat_of_zero_le hb
 have h1:bits .xor .i64 (A:Int) (B:Int)=IntKind.i64.wrap ((BitVec.ofInt 64 A ^^^ BitVec.ofInt 64 B).toNat:Int):=rfl
 have hl:A ^^^ B < 2 ^ 16:=Nat.xor_lt_two_pow (by omega) (by omega)
 rw[h1,BitVec.toNat_xor,ofInt_u64 _ (by omega),ofInt_u64 _ (by omega),IntKind.wrap_i64]
 unfold xorW
 simp only[Int.toNat_natCast]
 omega
set_option maxHeartbeats 1000000 in
theorem single_any (op a:Int) (w:World):Calls Tryz.prog 279 #[.int .i64 op,.int .i64 a] w fun e w'=>e=.returned (.int .i64 (singleS op a))∧Below w.heap.size w w':=by
 have HS:Hid (singleS op a=if op=4 then truthS (a == 0) else if op=5 then invW a else if op=6 then negW a else onesW a):=rfl
 go_enter Tryz.func279, Tryz.ntmps279
 go_wp2_with (first | (go_at_call 293;refine(truth_any _ _).mono ?_;rintro e w' ⟨rfl,rfl⟩) | (go_at_call 294;refine(WInv_any _ _).mono ?_;rintro e w' ⟨rfl,rfl⟩) | (go_at_call 295;refine(WNeg_any _ _).mono ?_;rintro e w' ⟨rfl,rfl⟩) | (go_at_call 296;go_must (refine(fr (W0:=w) (B:=w.heap.size) (WOnes_any _ _) bel sz).mono ?_;rintro e w1 ⟨rfl,hc1,hf1,hz1,hb1⟩;try simp only[World.size_alloc,World.size_setCell,World.size_drew,World.heap_drewN] at hz1;try (have hzl0:w.heap.size < w1.heap.size:=by omega);try (have hzl1:w.heap.size+1 < w1.heap.size:=by omega);try (have hzl2:w.heap.size+2 < w1.heap.size:=by omega);try (have hzl3:w.heap.size+3 < w1.heap.size:=by omega);try (have hzl4:w.heap.size+4 < w1.heap.size:=by omega);try (have hzl5:w.heap.size+5 < w1.heap.size:=by omega))))
 all_goals go_ret
 all_goals refine⟨?_,bel⟩
 all_goals rw[HS.out]
 all_goals simp_all
set_option maxHeartbeats 4000000 in
theorem double_any (op a b:Int) (ha:0≤a) (ha':a < 65536) (hb:0≤b) (hb':b < 65536) (w:World):Calls Tryz.prog 280 #[.int .i64 op,.int .i64 a,.int .i64 b] w fun e w'=>e=.returned (.int .i64 (doubleS op a b))∧w=w':=by
 have h1:=i64_and a b ha ha' hb hb'
 have h2:=i64_or a b ha ha' hb hb'
 have h3:=i64_xor a b ha ha' hb hb'
 go_enter Tryz.func280, Tryz.ntmps280
 go_wp2_with (first | (go_at_call 293;refine(truth_any _ _).mono ?_;rintro e w' ⟨rfl,rfl⟩) | (go_at_call 278;refine(WAdd_any _ _ _).mono ?_;rintro e w' ⟨rfl,rfl⟩) | (go_at_call 297;refine(WSub_any _ _ _).mono ?_;rintro e w' ⟨rfl,rfl⟩) | (go_at_call 298;refine(WMul_any _ _ _).mono ?_;rintro e w' ⟨rfl,rfl⟩) | (go_at_call 299;refine(WShl_any _ _ _).mono ?_;rintro e w' ⟨rfl,rfl⟩) | (go_at_call 300;refine(WShr_any _ _ _).mono ?_;rintro e w' ⟨rfl,rfl⟩))
 all_goals go_ret
 all_goals refine⟨?_,rfl⟩
 all_goals congr 2
 all_goals unfold doubleS
 all_goals simp_all
 rename_i h
 have h':(a != 0)=true:=by simpa using h
 rw[h',Bool.true_or]
end Go.Proofs.YthojpomoflhbcaaGreatDoor
namespace Go.Proofs.YthojpomoflhbcaaGreatDoor
open Go.RowKit
theorem tmod_neg' (n:Int) (h:n < 0):n.tmod 65536=-((-n) % 65536):=by
 have h1:n=-(-n):=by omega
 rw[h1,Int.neg_tmod,Int.tmod_eq_emod_of_nonneg (by omega)]
 simp
set_option maxHeartbeats 400000 in
theorem RWrap_any (n:Int) (w:World):Calls Tryz.prog 59 #[.int .i64 n] w fun e w'=>e=.returned (.int .i64 (wrapW n))∧w=w':=by
 by_cases h:0≤n
 ·go_enter Tryz.func59, Tryz.ntmps59
  have h1:0≤n % 65536:=by omega
  go_wp2
  go_ret
  exact⟨rfl,rfl⟩
 ·have ht:=tmod_neg' n (by omega)
  have hr:Hid (wrapW n=if n.tmod 65536 < 0 then n.tmod 65536+65535+1 else n.tmod 65536):=by
   show _=_
   rw[ht];unfold wrapW;split<;>omega
  have h1:-65536 < n.tmod 65536:=by rw[ht];omega
  have h2:n.tmod 65536≤0:=by rw[ht];omega
  clear ht
  by_cases h0:n.tmod 65536 < 0
  ·have hr':Hid (wrapW n=n.tmod 65536+65535+1):=by show _=_;rw[hr.out,if_pos h0]
   go_enter Tryz.func59, Tryz.ntmps59
   go_wp2
   go_ret
   exact⟨by rw[hr'.out];rfl,rfl⟩
  ·have hr':Hid (wrapW n=n.tmod 65536):=by show _=_;rw[hr.out,if_neg h0]
   go_enter Tryz.func59, Tryz.ntmps59
   go_wp2
   go_ret
   exact⟨by rw[hr'.out];rfl,rfl⟩
theorem wrapW_range (n:Int):0≤wrapW n∧wrapW n≤65535:=by unfold wrapW;omega
set_option maxHeartbeats 400000 in
theorem RAdd_any (a b:Int) (w:World):Calls Tryz.prog 303 #[.int .i64 a,.int .i64 b] w fun e w'=>e=.returned (.int .i64 (addW a b))∧w=w':=by
 have hR:Hid (addW a b=wrapW (wrapW a+wrapW b)):=by show _=_;unfold addW wrapW;omega
 obtain⟨a0,a1⟩:=wrapW_range a
 obtain⟨b0,b1⟩:=wrapW_range b
 go_enter Tryz.func303, Tryz.ntmps303
 go_wp2_with (go_at_call 59;refine(RWrap_any _ _).mono ?_;rintro e w' ⟨rfl,rfl⟩)
 go_ret
 exact⟨by rw[hR.out];rfl,rfl⟩
set_option maxHeartbeats 400000 in
theorem RSub_any (a b:Int) (w:World):Calls Tryz.prog 325 #[.int .i64 a,.int .i64 b] w fun e w'=>e=.returned (.int .i64 (subW a b))∧w=w':=by
 have hR:Hid (subW a b=wrapW (wrapW a - wrapW b)):=by show _=_;unfold subW wrapW;omega
 obtain⟨a0,a1⟩:=wrapW_range a
 obtain⟨b0,b1⟩:=wrapW_range b
 go_enter Tryz.func325, Tryz.ntmps325
 go_wp2_with (go_at_call 59;refine(RWrap_any _ _).mono ?_;rintro e w' ⟨rfl,rfl⟩)
 go_ret
 exact⟨by rw[hR.out];rfl,rfl⟩
set_option maxHeartbeats 400000 in
theorem RMul_any (a b:Int) (w:World):Calls Tryz.prog 326 #[.int .i64 a,.int .i64 b] w fun e w'=>e=.returned (.int .i64 (mulW a b))∧w=w':=by
 have hR:Hid (mulW a b=wrapW (wrapW a * wrapW b)):=by show _=_;unfold mulW wrapW;rw[Int.mul_emod]
 obtain⟨a0,a1⟩:=wrapW_range a
 obtain⟨b0,b1⟩:=wrapW_range b
 have m0:0≤wrapW a * wrapW b:=Int.mul_nonneg a0 b0
 have m1:wrapW a * wrapW b≤65535 * 65535:=Int.mul_le_mul a1 b1 b0 (by decide)
 go_enter Tryz.func326, Tryz.ntmps326
 go_wp2_with (go_at_call 59;refine(RWrap_any _ _).mono ?_;rintro e w' ⟨rfl,rfl⟩)
 go_ret
 exact⟨by rw[hR.out];rfl,rfl⟩
set_option maxHeartbeats 400000 in
theorem RNeg_any (a:Int) (w:World):Calls Tryz.prog 323 #[.int .i64 a] w fun e w'=>e=.returned (.int .i64 (negW a))∧w=w':=by
 have hR:Hid (negW a=wrapW (0 - wrapW a)):=by show _=_;unfold negW wrapW;omega
 have hR2:Hid (negW a=wrapW (-wrapW a)):=by show _=_;unfold negW wrapW;omega
 obtain⟨a0,a1⟩:=wrapW_range a
 go_enter Tryz.func323, Tryz.ntmps323
 go_wp2_with (go_at_call 59;refine(RWrap_any _ _).mono ?_;rintro e w' ⟨rfl,rfl⟩)
 go_ret
 exact⟨by first | (rw[hR.out];rfl) | (rw[hR2.out];rfl),rfl⟩
set_option maxHeartbeats 400000 in
theorem RInv_any (a:Int) (w:World):Calls Tryz.prog 322 #[.int .i64 a] w fun e w'=>e=.returned (.int .i64 (invW a))∧w=w':=by
 obtain⟨a0,a1⟩:=wrapW_range a
 go_enter Tryz.func322, Tryz.ntmps322
 go_wp2_with (go_at_call 59;refine(RWrap_any _ _).mono ?_;rintro e w' ⟨rfl,rfl⟩)
 go_ret
 exact⟨rfl,rfl⟩
theorem pow_le16 {k:Nat} (h:k≤16):(2:Int) ^ k≤65536:=by
 have h':((2 ^ k:Nat):Int)≤((2 ^ 16:Nat):Int):=Int.ofNat_le.2 (Nat.pow_le_pow_right (by decide) h)
 rw[Int.natCast_pow] at h'
 simpa using h'
set_option maxHeartbeats 400000 in
theorem power_any (n:Nat) (h:n≤16) (w:World):Calls Tryz.prog 337 #[.int .i64 n] w fun e w'=>e=.returned (.int .i64 (2 ^ n))∧w=w':=by
 go_enter Tryz.func337, Tryz.ntmps337
 go_wp2_with fail
 go_loop [3,4] (fun p i=>∃ (k:Nat) (q:Int),i=.int .i64 k∧k≤n∧p=.int .i64 q∧Hid (q=2 ^ k)∧0≤q∧q≤65536) (fun _ i=>n - (intOf i).toNat)
 case atStart=>exact⟨0,1,rfl,Nat.zero_le _,rfl,rfl,by decide,by decide⟩
 case round =>
  obtain⟨k,q,rfl,hk,rfl,hq,h0,h1⟩:=hrel
  by_cases hlt:k < n
  ·have hp1:(2:Int) ^ (k+1)≤65536:=pow_le16 (by omega)
   have hn:Hid (2 * q=2 ^ (k+1)):=by show _=_;rw[hq.out,Int.pow_succ,Int.mul_comm]
   have h2:2 * q≤65536:=by rw[hn.out];exact hp1
   clear hp1
   go_wp2_with fail
   go_round
   case rel=>exact⟨k+1,2 * q,by go_num,by omega,rfl,hn,by omega,by omega⟩
   case measure=>simp[intOf];omega
  ·obtain rfl:k=n:=by omega
   go_wp2_with fail
   go_ret
   exact⟨by rw[← hq.out];rfl,rfl⟩
set_option maxHeartbeats 400000 in
theorem RShl_any (a n:Int) (w:World):Calls Tryz.prog 330 #[.int .i64 a,.int .i64 n] w fun e w'=>e=.returned (.int .i64 (shlW a n))∧w=w':=by
 by_cases hn:n < 0∨16≤n
 ·have hR:Hid (shlW a n=0):=by show _=_;unfold shlW;rw[if_pos hn]
  rcases hn with hn | hn
  all_goals
   go_enter Tryz.func330, Tryz.ntmps330
   go_wp2_with fail
   go_ret
   exact⟨by rw[hR.out];rfl,rfl⟩
 ·obtain⟨k,rfl⟩:=Int.eq_ofNat_of_zero_le (show 0≤n by omega)
  have hR:Hid (shlW a k=wrapW (wrapW a * 2 ^ k)):=by
   have e:(a % 65536 * 2 ^ k) % 65536=(a * 2 ^ k) % 65536:=by rw[Int.mul_emod,Int.emod_emod,← Int.mul_emod]
   show _=_;unfold shlW wrapW;rw[if_neg hn,Int.toNat_natCast,e]
  obtain⟨a0,a1⟩:=wrapW_range a
  have hk:k≤15:=by omega
  have p1:=pow_le16 (show k≤16 by omega)
  have p0:(0:Int)≤2 ^ k:=Int.le_of_lt (Int.pow_pos (by decide))
  have m0:0≤wrapW a * 2 ^ k:=Int.mul_nonneg a0 p0
  have m1:wrapW a * 2 ^ k≤65535 * 65536:=Int.mul_le_mul a1 p1 p0 (by decide)
  have HP:=Lib.hid (fun w=>power_any k (by omega) w)
  clear hn
  go_enter Tryz.func330, Tryz.ntmps330
  go_wp2_with (first | (go_at_call 59;refine(RWrap_any _ _).mono ?_;rintro e w' ⟨rfl,rfl⟩) | (go_at_call 337;refine(HP.out _).mono ?_;rintro e w' ⟨rfl,rfl⟩))
  go_ret
  exact⟨by rw[hR.out];rfl,rfl⟩
set_option maxHeartbeats 400000 in
theorem RShr_any (a n:Int) (w:World):Calls Tryz.prog 331 #[.int .i64 a,.int .i64 n] w fun e w'=>e=.returned (.int .i64 (shrW a n))∧w=w':=by
 by_cases hn:n < 0∨16≤n
 ·have hR:Hid (shrW a n=0):=by show _=_;unfold shrW;rw[if_pos hn]
  rcases hn with hn | hn
  all_goals
   go_enter Tryz.func331, Tryz.ntmps331
   go_wp2_with fail
   go_ret
   exact⟨by rw[hR.out];rfl,rfl⟩
 ·obtain⟨k,rfl⟩:=Int.eq_ofNat_of_zero_le (show 0≤n by omega)
  have hR:Hid (shrW a k=wrapW a / 2 ^ k):=by
   show _=_;unfold shrW wrapW;rw[if_neg hn,Int.toNat_natCast]
  obtain⟨a0,a1⟩:=wrapW_range a
  have hk:k≤15:=by omega
  have p0:(1:Int)≤2 ^ k:=Int.pow_pos (by decide)
  have m0:0≤wrapW a / 2 ^ k:=Int.ediv_nonneg a0 (by omega)
  have m1:wrapW a / 2 ^ k≤65535:=Int.le_trans (Int.ediv_le_self _ a0) a1
  have HP:=Lib.hid (fun w=>power_any k (by omega) w)
  clear hn
  go_enter Tryz.func331, Tryz.ntmps331
  go_wp2_with (first | (go_at_call 59;refine(RWrap_any _ _).mono ?_;rintro e w' ⟨rfl,rfl⟩) | (go_at_call 337;refine(HP.out _).mono ?_;rintro e w' ⟨rfl,rfl⟩))
  go_ret
  exact⟨by rw[hR.out];rfl,rfl⟩
theorem wrapW_nat (A:Nat) (h:A < 65536):wrapW (A:Int)=A:=by unfold wrapW;omega
set_option maxHeartbeats 400000 in
theorem RBit_any (a:Int) (j:Nat) (h:j < 16) (w:World):Calls Tryz.prog 335 #[.int .i64 a,.int .i64 j] w fun e w'=>e=.returned (.int .i64 (bitN (wrapW a).toNat j:Nat))∧w=w':=by
 obtain⟨a0,a1⟩:=wrapW_range a
 have hR:Hid (((bitN (wrapW a).toNat j:Nat):Int)=shrW a j % 2):=by
  show _=_
  unfold bitN shrW
  rw[if_neg (by omega),Int.toNat_natCast]
  show _=wrapW a / 2 ^ j % 2
  obtain⟨A,hA⟩:=Int.eq_ofNat_of_zero_le a0
  rw[hA,Int.toNat_natCast,Int.natCast_emod,Int.natCast_ediv,Int.natCast_pow]
  rfl
 have m0:0≤shrW a j:=by
  unfold shrW;rw[if_neg (by omega)]
  exact Int.ediv_nonneg a0 (Int.le_of_lt (Int.pow_pos (by decide)))
 go_enter Tryz.func335, Tryz.ntmps335
 go_wp2_with (go_at_call 331;refine(RShr_any _ _ _).mono ?_;rintro e w' ⟨rfl,rfl⟩)
 go_ret
 exact⟨by rw[hR.out];rfl,rfl⟩
theorem bitN_le (x j:Nat):bitN x j≤1:=by unfold bitN;omega
def onesTo (x:Nat):Nat→Nat
 | 0=>0
 | k+1=>onesTo x k+bitN x k
theorem onesTo_all (x:Nat):onesTo x 16=onesN x:=by simp only[onesTo,onesN];omega
theorem onesTo_le (x k:Nat):onesTo x k≤k:=by
 induction k with
 | zero=>simp[onesTo]
 | succ k ih=>have:=bitN_le x k;simp only[onesTo];omega
set_option maxHeartbeats 400000 in
theorem ROnes_any (a:Int) (w:World):Calls Tryz.prog 324 #[.int .i64 a] w fun e w'=>e=.returned (.int .i64 (onesW a))∧w=w':=by
 have hR:Hid (onesW a=(onesTo (wrapW a).toNat 16:Nat)):=by show _=_;rw[onesTo_all];rfl
 generalize hx:(wrapW a).toNat=x at hR
 have HB:=Lib.hid (fun (j:Nat) (h:j < 16) (w:World)=>hx ▸ RBit_any a j h w)
 clear hx
 go_enter Tryz.func324, Tryz.ntmps324
 go_wp2_with fail
 go_loop [3,4] (fun n i=>∃ k:Nat,i=.int .i64 k∧k≤16∧n=.int .i64 (onesTo x k:Nat)) (fun _ i=>16 - (intOf i).toNat)
 case atStart=>exact⟨0,rfl,Nat.zero_le _,rfl⟩
 case round =>
  obtain⟨k,rfl,hk,rfl⟩:=hrel
  by_cases hlt:k < 16
  ·have h1:=onesTo_le x k
   have h2:=bitN_le x k
   have HS:Hid (onesTo x (k+1)=onesTo x k+bitN x k):=rfl
   go_wp2_with (go_at_call 335;refine(HB.out _ hlt _).mono ?_;rintro e w' ⟨rfl,rfl⟩)
   go_round
   case rel=>exact⟨k+1,by go_num,by omega,by rw[HS.out];go_num⟩
   case measure=>simp[intOf];omega
  ·obtain rfl:k=16:=by omega
   go_wp2_with fail
   go_ret
   exact⟨by rw[hR.out];rfl,rfl⟩
theorem bitN_test (x j:Nat):bitN x j=(x.testBit j).toNat:=by rw[Nat.toNat_testBit];rfl
set_option maxRecDepth 100000 in
set_option maxHeartbeats 1000000 in
theorem bits_any (A B X:Nat) (hA:A < 65536) (hB:B < 65536) (hX:X < 65536) (lo hi:Int) (hbit:∀ j,bitN X j=if lo≤(bitN A j:Int)+bitN B j∧(bitN A j:Int)+bitN B j≤hi then 1 else 0) (w:World) :
  Calls Tryz.prog 336 #[.int .i64 A,.int .i64 B,.int .i64 lo,.int .i64 hi] w fun e w'=>e=.returned (.int .i64 X)∧w=w':=by
 have HBA:=Lib.hid (fun (j:Nat) (h:j < 16) (w:World)=>RBit_any A j h w)
 have HBB:=Lib.hid (fun (j:Nat) (h:j < 16) (w:World)=>RBit_any B j h w)
 rw[wrapW_nat A hA,Int.toNat_natCast] at HBA
 rw[wrapW_nat B hB,Int.toNat_natCast] at HBB
 have Hbit:=Lib.hid hbit
 clear hbit
 go_enter Tryz.func336, Tryz.ntmps336
 go_wp2_with fail
 go_loop [9,10] (fun n i=>∃ (c:Int) (q:Nat),i=.int .i64 c∧-1≤c∧c≤15∧n=.int .i64 q∧Hid (q=X / 2 ^ (c+1).toNat)∧q≤65535) (fun _ i=>(intOf i+1).toNat)
 case atStart=>exact⟨15,0,rfl,by decide,by decide,rfl,(Nat.div_eq_of_lt (show X < 2 ^ 16 by omega)).symm,by decide⟩
 case round =>
  obtain⟨c,q,rfl,hc0,hc1,rfl,HQ,hq⟩:=hrel
  by_cases h0:c < 0
  ·have hX:Hid (q=X):=by
    show _=_
    rw[HQ.out,show (c+1).toNat=0 from by omega,Nat.pow_zero,Nat.div_one]
   go_wp2_with fail
   go_ret
   exact⟨by rw[← hX.out];rfl,rfl⟩
  ·obtain⟨j,rfl⟩:=Int.eq_ofNat_of_zero_le (show 0≤c by omega)
   have hj:j < 16:=by omega
   have hstep:X / 2 ^ j=2 * q+bitN X j:=by
    rw[HQ.out,show ((j:Int)+1).toNat=j+1 from by omega]
    unfold bitN
    rw[Nat.pow_succ,← Nat.div_div_eq_div_mul]
    omega
   have h1:=bitN_le A j
   have h2:=bitN_le B j
   have hle:X / 2 ^ j≤65535:=Nat.le_trans (Nat.div_le_self _ _) (by omega)
   have Hb:=Lib.hid (Hbit.out j)
   have HS:=Lib.hid hstep
   have hle2:2 * q+bitN X j≤65535:=by omega
   have Hle:=Lib.hid hle2
   clear hstep hle hle2 HQ
   have HA:=Lib.hid (fun w=>HBA.out j hj w)
   have HB:=Lib.hid (fun w=>HBB.out j hj w)
   generalize bitN A j=x at h1 HA Hb
   generalize bitN B j=y at h2 HB Hb
   by_cases hb:lo≤(x:Int)+y∧(x:Int)+y≤hi
   ·have HX:Hid (X / 2 ^ j=2 * q+1):=by show _=_;rw[HS.out,Hb.out,if_pos hb]
    have hle3:2 * q+1≤65535:=by have:=Hle.out;rw[Hb.out,if_pos hb] at this;exact this
    obtain⟨hb1,hb2⟩:=hb
    go_wp2_with (go_at_call 335;first | (refine(HA.out _).mono ?_;rintro e w' ⟨rfl,rfl⟩) | (refine(HB.out _).mono ?_;rintro e w' ⟨rfl,rfl⟩))
    go_round
    case rel=>exact⟨(j:Int) - 1,2 * q+1,by go_num,by omega,by omega,by go_num,by show _=_;rw[show ((j:Int) - 1+1).toNat=j from by omega,HX.out],by omega⟩
    case measure=>simp[intOf]<;>omega
   ·have HX:Hid (X / 2 ^ j=2 * q):=by show _=_;rw[HS.out,Hb.out,if_neg hb];rfl
    have hle3:2 * q≤65535:=by have:=Hle.out;omega
    by_cases hb1:lo≤(x:Int)+y
    ·have hb2:¬ (x:Int)+y≤hi:=fun h=>hb ⟨hb1,h⟩
     clear hb
     go_wp2_with (go_at_call 335;first | (refine(HA.out _).mono ?_;rintro e w' ⟨rfl,rfl⟩) | (refine(HB.out _).mono ?_;rintro e w' ⟨rfl,rfl⟩))
     go_round
     case rel=>exact⟨(j:Int) - 1,2 * q,by go_num,by omega,by omega,by go_num,by show _=_;rw[show ((j:Int) - 1+1).toNat=j from by omega,HX.out],by omega⟩
     case measure=>simp[intOf]<;>omega
    ·clear hb
     go_wp2_with (go_at_call 335;first | (refine(HA.out _).mono ?_;rintro e w' ⟨rfl,rfl⟩) | (refine(HB.out _).mono ?_;rintro e w' ⟨rfl,rfl⟩))
     go_round
     case rel=>exact⟨(j:Int) - 1,2 * q,by go_num,by omega,by omega,by go_num,by show _=_;rw[show ((j:Int) - 1+1).toNat=j from by omega,HX.out],by omega⟩
     case measure=>simp[intOf]<;>omega
theorem bitAnd (A B j:Nat):bitN (A &&& B) j=if (2:Int)≤(bitN A j:Int)+bitN B j∧(bitN A j:Int)+bitN B j≤2 then 1 else 0:=by
 rw[bitN_test,bitN_test,bitN_test,Nat.testBit_and]
 cases A.testBit j<;>cases B.testBit j<;>rfl
set_option maxHeartbeats 400000 in
theorem RAnd_any (a b:Int) (ha:0≤a) (ha':a < 65536) (hb:0≤b) (hb':b < 65536) (w:World):Calls Tryz.prog 327 #[.int .i64 a,.int .i64 b] w fun e w'=>e=.returned (.int .i64 (andW a b))∧w=w':=by
 obtain⟨A,rfl⟩:=Int.eq_ofNat_of_zero_le ha
 obtain⟨B,rfl⟩:=Int.eq_ofNat_of_zero_le hb
 have hA:A < 2 ^ 16:=by omega
 have hB:B < 2 ^ 16:=by omega
 have hX:A &&& B < 2 ^ 16:=Nat.and_lt_two_pow _ hB
 have HC:=Lib.hid (fun w=>bits_any A B (A &&& B) hA hB hX 2 2 (fun j=>bitAnd A B j) w)
 clear hX
 go_enter Tryz.func327, Tryz.ntmps327
 go_wp2_with (go_at_call 336;refine(HC.out _).mono ?_;rintro e w' ⟨rfl,rfl⟩)
 go_ret
 exact⟨rfl,rfl⟩
theorem bitOr (A B j:Nat):bitN (A ||| B) j=if (1:Int)≤(bitN A j:Int)+bitN B j∧(bitN A j:Int)+bitN B j≤2 then 1 else 0:=by
 rw[bitN_test,bitN_test,bitN_test,Nat.testBit_or]
 cases A.testBit j<;>cases B.testBit j<;>rfl
set_option maxHeartbeats 400000 in
theorem ROr_any (a b:Int) (ha:0≤a) (ha':a < 65536) (hb:0≤b) (hb':b < 65536) (w:World):Calls Tryz.prog 328 #[.int .i64 a,.int .i64 b] w fun e w'=>e=.returned (.int .i64 (orW a b))∧w=w':=by
 obtain⟨A,rfl⟩:=Int.eq_ofNat_of_zero_le ha
 obtain⟨B,rfl⟩:=Int.eq_ofNat_of_zero_le hb
 have hA:A < 2 ^ 16:=by omega
 have hB:B < 2 ^ 16:=by omega
 have hX:A ||| B < 2 ^ 16:=Nat.or_lt_two_pow hA hB
 have HC:=Lib.hid (fun w=>bits_any A B (A ||| B) hA hB hX 1 2 (fun j=>bitOr A B j) w)
 clear hX
 go_enter Tryz.func328, Tryz.ntmps328
 go_wp2_with (go_at_call 336;refine(HC.out _).mono ?_;rintro e w' ⟨rfl,rfl⟩)
 go_ret
 exact⟨rfl,rfl⟩
theorem bitXor (A B j:Nat):bitN (A ^^^ B) j=if (1:Int)≤(bitN A j:Int)+bitN B j∧(bitN A j:Int)+bitN B j≤1 then 1 else 0:=by
 rw[bitN_test,bitN_test,bitN_test,Nat.testBit_xor]
 cases A.testBit j<;>cases B.testBit j<;>rfl
set_option maxHeartbeats 400000 in
theorem RXor_any (a b:Int) (ha:0≤a) (ha':a < 65536) (hb:0≤b) (hb':b < 65536) (w:World):Calls Tryz.prog 329 #[.int .i64 a,.int .i64 b] w fun e w'=>e=.returned (.int .i64 (xorW a b))∧w=w':=by
 obtain⟨A,rfl⟩:=Int.eq_ofNat_of_zero_le ha
 obtain⟨B,rfl⟩:=Int.eq_ofNat_of_zero_le hb
 have hA:A < 2 ^ 16:=by omega
 have hB:B < 2 ^ 16:=by omega
 have hX:A ^^^ B < 2 ^ 16:=Nat.xor_lt_two_pow hA hB
 have HC:=Lib.hid (fun w=>bits_any A B (A ^^^ B) hA hB hX 1 1 (fun j=>bitXor A B j) w)
 clear hX
 go_enter Tryz.func329, Tryz.ntmps329
 go_wp2_with (go_at_call 336;refine(HC.out _).mono ?_;rintro e w' ⟨rfl,rfl⟩)
 go_ret
 exact⟨rfl,rfl⟩
end Go.Proofs.YthojpomoflhbcaaGreatDoor
namespace Go.Proofs.YthojpomoflhbcaaGreatDoor
open Go.RowKit
theorem contains_no {l:List ByteArray} {s:ByteArray} (h:∀ j (hj:j < l.length),((l[j]'hj).toList == s.toList)=false):Lib.containsS l s=false:=by
 cases hc:Lib.containsS l s
 ·rfl
 ·obtain⟨i,hi,he⟩:=List.mem_iff_getElem.1 ((Lib.containsS_iff l s).1 hc)
  have:=h i hi
  rw[he] at this
  simp at this
theorem contains_yes {l:List ByteArray} {s:ByteArray} {k:Nat} (hk:k < l.length) (h:((l[k]'hk).toList == s.toList)=true):Lib.containsS l s=true:=by
 rw[Lib.containsS_iff]
 have:l[k]=s:=by
  have h':=eq_of_beq h
  rw[ByteArray.toList_eq,ByteArray.toList_eq] at h'
  exact ByteArray.ext (Array.ext' h')
 rw[← this];exact List.getElem_mem hk
set_option maxHeartbeats 1000000 in
theorem has_testbenchref07 (l:List ByteArray) (a:Option Addr) (cap:Nat) (s:ByteArray) (w:World) (hE:StrsIn w l a cap) :
  Calls Tryz.prog 237 #[.slice a l.length cap,.string s] w fun e w'=>e=.returned (.bool (Lib.containsS l s))∧w=w':=by
 have hlen:=hE.2.1
 have HA:=Lib.hid hE.addr
 have HE:=Lib.hid hE
 clear hE
 go_enter Tryz.func237, Tryz.ntmps237
 go_wp2_with fail
 go_loop [5] (fun i=>∃ k:Nat,i=.int .i64 k∧k≤l.length∧∀ j (hj:j < l.length),j < k→((l[j]'hj).toList == s.toList)=false) (fun i=>l.length - (intOf i).toNat)
 case atStart=>exact⟨0,rfl,Nat.zero_le _,fun _ _ h=>absurd h (by omega)⟩
 case round =>
  obtain⟨k,rfl,hk,hall⟩:=hrel
  have HAl:=Lib.hid hall
  clear hall
  by_cases hlt:k < l.length
  ·obtain⟨b,off,ha⟩:=HA.out.resolve_left (by omega)
   subst ha
   have c0:=HE.out.get rfl hlt
   cases he:((l[k]'hlt).toList == s.toList)
   ·go_wp2_with fail
    go_round
    case rel=>exact⟨k+1,by go_num,by omega,fun j hj hjk=>by
     by_cases e:j=k
     ·subst e;exact he
     ·exact HAl.out j hj (by omega)⟩
    case measure=>simp[intOf];omega
   ·have HY:=Lib.hid (contains_yes hlt he)
    go_wp2_with fail
    go_ret
    exact⟨by rw[HY.out];rfl,rfl⟩
  ·obtain rfl:k=l.length:=by omega
   have HN:=Lib.hid (contains_no (l:=l) (s:=s) (fun j hj=>HAl.out j hj hj))
   go_wp2_with fail
   go_ret
   exact⟨by rw[HN.out];rfl,rfl⟩
set_option maxHeartbeats 1000000 in
theorem has_testbenchref08 (l:List ByteArray) (a:Option Addr) (cap:Nat) (s:ByteArray) (w:World) (hE:StrsIn w l a cap) :
  Calls Tryz.prog 270 #[.slice a l.length cap,.string s] w fun e w'=>e=.returned (.bool (Lib.containsS l s))∧w=w':=by
 have hlen:=hE.2.1
 have HA:=Lib.hid hE.addr
 have HE:=Lib.hid hE
 clear hE
 go_enter Tryz.func270, Tryz.ntmps270
 go_wp2_with fail
 go_loop [5] (fun i=>∃ k:Nat,i=.int .i64 k∧k≤l.length∧∀ j (hj:j < l.length),j < k→((l[j]'hj).toList == s.toList)=false) (fun i=>l.length - (intOf i).toNat)
 case atStart=>exact⟨0,rfl,Nat.zero_le _,fun _ _ h=>absurd h (by omega)⟩
 case round =>
  obtain⟨k,rfl,hk,hall⟩:=hrel
  have HAl:=Lib.hid hall
  clear hall
  by_cases hlt:k < l.length
  ·obtain⟨b,off,ha⟩:=HA.out.resolve_left (by omega)
   subst ha
   have c0:=HE.out.get rfl hlt
   cases he:((l[k]'hlt).toList == s.toList)
   ·go_wp2_with fail
    go_round
    case rel=>exact⟨k+1,by go_num,by omega,fun j hj hjk=>by
     by_cases e:j=k
     ·subst e;exact he
     ·exact HAl.out j hj (by omega)⟩
    case measure=>simp[intOf];omega
   ·have HY:=Lib.hid (contains_yes hlt he)
    go_wp2_with fail
    go_ret
    exact⟨by rw[HY.out];rfl,rfl⟩
  ·obtain rfl:k=l.length:=by omega
   have HN:=Lib.hid (contains_no (l:=l) (s:=s) (fun j hj=>HAl.out j hj hj))
   go_wp2_with fail
   go_ret
   exact⟨by rw[HN.out];rfl,rfl⟩
theorem rsmall_any (c:Int) (w:World) :
  Calls Tryz.prog 191 #[.int .u8 c] w fun e w'=>e=.returned (.bool (lowB c))∧w=w':=by
 go_enter Tryz.func191, Tryz.ntmps191
 go_wp2
 all_goals go_ret
 all_goals exact⟨by simp_all [lowB]<;>omega,rfl⟩
theorem rdigit_any (c:Int) (w:World) :
  Calls Tryz.prog 239 #[.int .u8 c] w fun e w'=>e=.returned (.bool (digB c))∧w=w':=by
 go_enter Tryz.func239, Tryz.ntmps239
 go_wp2
 all_goals go_ret
 all_goals exact⟨by simp_all [digB]<;>omega,rfl⟩
set_option maxHeartbeats 400000 in
theorem rinner_any (c:Int) (w:World) :
  Calls Tryz.prog 193 #[.int .u8 c] w fun e w'=>e=.returned (.bool (follB c))∧w=w':=by
 go_enter Tryz.func193, Tryz.ntmps193
 go_wp2_with (first | (go_at_call 191;refine(rsmall_any _ _).mono ?_;rintro e w' ⟨rfl,rfl⟩) | (go_at_call 239;refine(rdigit_any _ _).mono ?_;rintro e w' ⟨rfl,rfl⟩))
 all_goals go_ret
 all_goals exact⟨by simp_all [follB]<;>omega,rfl⟩
set_option maxRecDepth 100000 in
set_option maxHeartbeats 1000000 in
theorem rkeywords_any (w:World):Calls Tryz.prog 238 #[] w fun e w'=>(∃ a cap,e=.returned (.slice a kwS.length cap)∧StrsIn w' kwS a cap)∧Below w.heap.size w w':=by
 go_enter Tryz.func238, Tryz.ntmps238
 go_wp2_with fail
 go_ret
 refine⟨⟨some ⟨w.heap.size,0,none⟩,24,rfl,by decide,by decide,Or.inr ⟨w.heap.size,0,rfl,?_⟩⟩,bel⟩
 intro i hi
 refine⟨kwS[i]'hi,List.getElem?_eq_getElem hi,?_⟩
 rw[World.cell?_alloc_new]
 have h24:i < 24:=hi
 match i,h24 with
 | 0,_ | 1,_ | 2,_ | 3,_ | 4,_ | 5,_ | 6,_ | 7,_ | 8,_ | 9,_ | 10,_ | 11,_ | 12,_ | 13,_ | 14,_ | 15,_ | 16,_ | 17,_ | 18,_ | 19,_ | 20,_ | 21,_ | 22,_ | 23,_=>rfl
 | n+24,h=>exact absurd h (by omega)
set_option maxHeartbeats 400000 in
theorem risKeyword_any (s:ByteArray) (w:World) :
  Calls Tryz.prog 192 #[.string s] w fun e w'=>e=.returned (.bool (kwL.contains s.data.toList))∧Below w.heap.size w w':=by
 go_enter Tryz.func192, Tryz.ntmps192
 go_wp2_with fail
 refine(rkeywords_any _).mono ?_
 rintro e w1 ⟨⟨a,cap,rfl,hs⟩,hb⟩
 have HH:=Lib.hid (has_testbenchref07 kwS a cap s w1 hs)
 have HB:=Lib.hid hb
 clear hs hb
 go_wp2_with (go_at_call 237;refine HH.out.mono ?_;rintro e w' ⟨rfl,rfl⟩)
 go_ret
 exact⟨by rw[← containsS_eq];rfl,HB.out⟩
set_option maxHeartbeats 1000000 in
theorem risName_any (s:ByteArray) (w:World) (hs:s.size≤1073741824) :
  Calls Tryz.prog 125 #[.string s] w fun e w'=>e=.returned (.bool (nameB s.data.toList))∧Below w.heap.size w w':=by
 have hll:s.data.toList.length=s.size:=by simp
 have htl:s.toList=s.data.toList:=ByteArray.toList_eq s
 by_cases h0:s.size=0
 ·have he:s.toList=[]:=by rw[htl];exact List.length_eq_zero_iff.1 (by omega)
  have hR:Hid (nameB s.data.toList=false):=by show _=_;rw[← htl,he];rfl
  clear htl hll
  go_enter Tryz.func125, Tryz.ntmps125
  go_wp2_with fail
  go_ret
  exact⟨by rw[hR.out];rfl,Below.refl _ _⟩
 ·have hne:(s.toList == [])=false:=by
   rw[htl];cases hc:s.data.toList with
   | nil=>rw[hc] at hll;simp at hll;omega
   | cons c l=>rfl
  have hne2:s.toList≠[]:=by intro h;rw[h] at hne;simp at hne
  have hne3:s.toList.isEmpty=false:=by cases hc:s.toList with
   | nil=>exact absurd hc hne2
   | cons c l=>rfl
  by_cases h16:16 < s.size
  ·have hR:Hid (nameB s.data.toList=false):=by
    show _=_;unfold nameB;rw[decide_eq_false (by omega)];simp
   clear htl hll
   go_enter Tryz.func125, Tryz.ntmps125
   go_wp2_with fail
   go_ret
   exact⟨by rw[hR.out];rfl,Below.refl _ _⟩
  ·have hp:0 < s.size:=by omega
   cases hl:lowB (s[0]'hp).toNat
   ·have hR:Hid (nameB s.data.toList=false):=by
     show _=_;unfold nameB;rw[word_bad hp (Or.inr ⟨rfl,hl⟩)];rfl
    clear htl hll
    go_enter Tryz.func125, Tryz.ntmps125
    go_wp2_with (go_at_call 191;refine(rsmall_any _ _).mono ?_;rintro e w' ⟨rfl,rfl⟩)
    go_ret
    exact⟨by rw[hR.out];rfl,Below.refl _ _⟩
   ·cases hk:kwL.contains s.data.toList
    ·have HN:Hid (nameB s.data.toList=wordB s.data.toList):=by
      show _=_;unfold nameB;rw[hk,decide_eq_true (by omega)];simp
     have Hl:=Lib.hid hl
     have HW0:Hid (WordRel s 0):=⟨by omega,by simp,by omega⟩
     clear htl hll
     go_enter Tryz.func125, Tryz.ntmps125
     go_wp2_with (first | (go_at_call 191;refine(rsmall_any _ _).mono ?_;rintro e w' ⟨rfl,rfl⟩) | (go_at_call 192;refine(risKeyword_any _ _).mono ?_;rintro e w1 ⟨rfl,hb1⟩;rw[hk];have HB1:=Lib.hid hb1;clear hb1))
     go_loop [3] (fun i=>∃ k:Nat,i=.int .i64 k∧WordRel s k) (fun i=>s.size - (intOf i).toNat)
     case atStart=>exact⟨0,rfl,HW0.out⟩
     case round =>
      obtain⟨k,rfl,hW⟩:=hrel
      have hkk:=hW.1
      have HW:=Lib.hid hW
      clear hW
      by_cases hlt:k < s.size
      ·cases hf:follB (s[k]'hlt).toNat
       ·have HBad:=Lib.hid (word_bad hlt (Or.inl hf))
        go_wp2_with (go_at_call 193;refine(rinner_any _ _).mono ?_;rintro e w' ⟨rfl,rfl⟩)
        go_ret
        exact⟨by rw[HN.out,HBad.out];rfl,(by assumption:Hid (Below w.heap.size w _)).out⟩
       ·have HSt:=Lib.hid (wordRel_step HW.out hlt hf (fun e=>by subst e;exact Hl.out))
        go_wp2_with (go_at_call 193;refine(rinner_any _ _).mono ?_;rintro e w' ⟨rfl,rfl⟩)
        go_round
        case rel=>exact⟨k+1,by go_num,HSt.out⟩
        case measure=>simp[intOf];omega
      ·have HE:=Lib.hid (wordRel_end HW.out hlt)
       go_wp2_with fail
       go_ret
       exact⟨by rw[HN.out,HE.out,← ByteArray.toList_eq,hne3];rfl,(by assumption:Hid (Below w.heap.size w _)).out⟩
    ·have hR:Hid (nameB s.data.toList=false):=by
      show _=_;unfold nameB;rw[hk];simp
     clear htl hll
     go_enter Tryz.func125, Tryz.ntmps125
     go_wp2_with (first | (go_at_call 191;refine(rsmall_any _ _).mono ?_;rintro e w' ⟨rfl,rfl⟩) | (go_at_call 192;refine(risKeyword_any _ _).mono ?_;rintro e w1 ⟨rfl,hb1⟩;rw[hk]))
     go_ret
     exact⟨by rw[hR.out];rfl,by assumption⟩
end Go.Proofs.YthojpomoflhbcaaGreatDoor
