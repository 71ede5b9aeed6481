/- names, Names, Arrays of expressions. -/
import Derived.Test.YthojpomoflhbcaaGreatDoorN01
import Derived.Test.YthojpomoflhbcaaGreatDoorN00
set_option linter.unusedSimpArgs false
set_option linter.unusedVariables false
set_option linter.unnecessarySimpa false
namespace Go.Proofs.YthojpomoflhbcaaGreatDoor
open Go.RowKit
theorem own_app {P:Program} {ops:Array Oper} {rest:List Oper} {o:Oper} {a:Act} {Q:Exit→Act→World→Prop} {t e:TypeId} {size:Nat} (he:Elem P t e size) (w:World) (hgd:o.guard=none) (s x:Operand)
  (ho:o.op=.call { callee:=.builtin .append,args:=#[s,x],argTypes:=#[t,t] })
  (base:Nat) (v:Value) (n:Nat) (xs:List Value) (hs:a.eval s=v) (hown:w.ownsRow base e size v n xs)
  (news:List Value) (hl:news.length=size) (h1:∀ u∈news,u.oneCell'=true) (k c:Nat) (hx:a.eval x=.slice (some ⟨k,0,none⟩) 1 c) (hk:k=w.heap.size) (hn:n≤1073741824) (hbase:base≤w.heap.size)
  (h:∀ v' w',w'.ownsRow base e size v' (n+1) (xs++news)→(w.alloc (.cells news.toArray e)).grownBy w' v.ownBlock→wpList P ops Q rest (a.put o.dst v') w'):wpList P ops Q (o::rest) a (w.alloc (.cells news.toArray e)):=by
 subst hk;exact own_append1 he w hgd s x ho base v n xs hs hown news hl h1 c hx hn hbase h
theorem ownsRow_store {w:World} {base:Nat} {e:TypeId} {size:Nat} {v:Value} {n:Nat} {xs:List Value} (h:w.ownsRow base e size v n xs) {k:Nat} {c:Array Value} {t:TypeId} {z:Nat × Nat} (hk:w.heap[k]? = some (.cells c t z)) (ht:t≠e) (o:Nat) (u:Value):(w.setCell ⟨k,o,none⟩ u).ownsRow base e size v n xs :=
 ownsRow_setCell_other h (fun h'=>ownsRow_ne h hk ht h'.symm) u
def addName (ops:List Int) (st:List ByteArray) (e:Ex):List ByteArray:=if ops.contains e.op=true∧Lib.containsS st e.name=false then st++[e.name] else st
def stepN (ops:List Int) (st:List ByteArray) (e:Ex):List ByteArray × Bool:=(addName ops st e,true)
theorem runN (ops:List Int) (l:List Ex):∀ st,runV (stepN ops) st l=(l.foldl (addName ops) st,true):=by
 induction l with
 | nil=>intro st;rfl
 | cons e l ih=>intro st;simp only[runV,stepN,if_true,List.foldl_cons];exact ih _
noncomputable def namesS (ops:List Int) (e:Ex):List ByteArray:=e.nodes.foldl (addName ops) []
theorem addName_len (ops:List Int) (st:List ByteArray) (e:Ex):(addName ops st e).length≤st.length+1:=by
 unfold addName;split<;>simp
theorem names_len (ops:List Int) (l:List Ex):∀ st:List ByteArray,(l.foldl (addName ops) st).length≤st.length+l.length:=by
 induction l with
 | nil=>intro st;simp
 | cons e l ih =>
  intro st
  have h1:=ih (addName ops st e)
  have h2:=addName_len ops st e
  simp only[List.foldl_cons,List.length_cons];omega
theorem elemS:Elem Tryz.prog 51 9 1:=Elem.of Tryz.underlying51 (by kernel_rfl) (z:=.string .empty) (bytes:=16) rfl (by decide) (by decide)
def InvN (B ca cb bo cap:Nat) (ops:List Int) (st:List ByteArray) (w:World):Prop :=
 (B≤cb∧B≤ca∧B≤bo)∧(∃ v,w.heap[cb]? = some (.cells #[v] 51 (0,0))∧w.ownsRow B 9 1 v st.length (st.map Value.string)) ∧
  w.heap[ca]? = some (.cells #[.slice (some ⟨bo,0,none⟩) ops.length cap] 31 (0,0))∧w.heap[bo]? = some (.cells (ops.map (Value.int .i64)).toArray 3 (0,0))
theorem InvN.keep {B ca cb bo cap:Nat} {ops:List Int} (st:List ByteArray) (w w':World) (h:InvN B ca cb bo cap ops st w) (hb:Below w.heap.size w w'):InvN B ca cb bo cap ops st w':=by
 obtain⟨h0,⟨v,h1,h2⟩,h3,h4⟩:=h
 exact⟨h0,⟨v,by rw[hb.block _ (lt_of_block h1)];exact h1,ownsRow_below h2 hb⟩,by rw[hb.block _ (lt_of_block h3)];exact h3,by rw[hb.block _ (lt_of_block h4)];exact h4⟩
theorem ops_cell {w:World} {bo:Nat} {ops:List Int} (h:w.heap[bo]? = some (.cells (ops.map (Value.int .i64)).toArray 3 (0,0))) (j:Nat) (hj:j < ops.length):w.cell? ⟨bo,0+j,none⟩=some (.int .i64 (ops.getD j 0)):=by
 simp[World.cell?,h,hj]
theorem containsOwn (w:World) (B:Nat) (v:Value) (st:List ByteArray) (x:ByteArray) (hown:w.ownsRow B 9 1 v st.length (st.map Value.string)) (hn:st.length≤1073741824) :
  Calls Tryz.prog 203 #[v,.string x] w fun e w'=>e=.returned (.bool (Lib.containsS st x))∧w=w':=by
 obtain⟨a,cap,rfl,hs⟩:=strs_of_own hown hn
 by_cases h0:st=[]
 ·subst h0
  exact(Tryz.slices_Contains_string_empty a cap x w).mono fun e w' h=>⟨h.1,h.2.symm⟩
 ·obtain⟨b,off,rfl⟩:=hs.addr.resolve_left (by simpa using h0)
  have:=Tryz.slices_Contains_string b off st.length cap st x w (Nat.le_refl _) (by omega) (fun j hj=>by
   rw[hs.get rfl hj];simp[hj])
  rw[List.take_of_length_le (Nat.le_refl _)] at this
  exact this.mono fun e w' h=>⟨h.1,h.2.symm⟩
set_option maxHeartbeats 1000000 in
theorem visitN (w0:World) (ca cb bo cap:Nat) (ops:List Int) (hol:0 < ops.length∧ops.length≤1000):Visits 256 #[.pointer (some ⟨ca,0,none⟩),.pointer (some ⟨cb,0,none⟩)] w0 (InvN w0.heap.size ca cb bo cap ops) List.length (stepN ops):=by
 intro st op n s args a cap' w hroom hI hB hE
 have hBA:Below w.heap.size w (w.alloc (.cells #[.int .i64 op,.int .i64 n,.string s,.slice a args.length cap'] 24)):=(Below.refl _ _).alloc (Nat.le_refl _) _
 have hI2:=InvN.keep st w _ hI hBA
 have HKA:Hid (KT w0.heap.size w (w.alloc (.cells #[.int .i64 op,.int .i64 n,.string s,.slice a args.length cap'] 24))):=KT.of_below hBA
 obtain⟨⟨hb1,hb2,hb3⟩,⟨v,hv,hown⟩,hca,hbo⟩:=hI
 have cA:∀ o,(w.alloc o).cell? ⟨ca,0,none⟩=_:=fun o=>(World.cell?_alloc_lt _ _ _ (lt_of_block hca)).trans (cell_of_one hca)
 have cB:∀ o,(w.alloc o).cell? ⟨cb,0,none⟩=_:=fun o=>(World.cell?_alloc_lt _ _ _ (lt_of_block hv)).trans (cell_of_one hv)
 have hci:=Tryz.slices_Contains_int bo 0 ops.length cap ops op (w.alloc (.cells #[.int .i64 op,.int .i64 n,.string s,.slice a args.length cap'] 24)) (Nat.le_refl _) (by omega) (fun j hj=>(World.cell?_alloc_lt _ _ _ (lt_of_block hbo)).trans (ops_cell hbo j hj))
 rw[List.take_of_length_le (Nat.le_refl _)] at hci
 have HCI:=Lib.hid hci
 have HCS:=Lib.hid (containsOwn _ _ v st s (ownsRow_below hown hBA) (by omega))
 have HI2:=Lib.hid hI2
 have HV:=Lib.hid (⟨hv,hown,hca,hbo,hb1,hb2,hb3⟩:_∧_∧_∧_∧_∧_∧_)
 clear hI2 hBA hE hci hv hown hca hbo hb1 hb2 hb3 hB
 show Calls _ _ #[.agg #[_,_,_,_],.pointer (some ⟨ca,0,none⟩),.pointer (some ⟨cb,0,none⟩)] _ _
 go_enter Tryz.func256, Tryz.ntmps256
 go_wp2_with fail
 refine HCI.out.mono ?_
 rintro e w2 ⟨rfl,rfl⟩
 cases hc:ops.contains op
 ·go_wp2_with fail
  go_ret
  refine⟨rfl,?_,HKA.out⟩
  have:addName ops st (.mk op n s args)=st:=by unfold addName;rw[if_neg (by rw[Ex.op_mk,hc];simp)]
  show InvN _ _ _ _ _ _ (addName ops st (.mk op n s args)) _
  rw[this];exact HI2.out
 ·cases hs:Lib.containsS st s
  ·have Hc:=Lib.hid hc
   have Hs:=Lib.hid hs
   clear hs hc
   have hO:=ownsRow_below HV.out.2.1 ((Below.refl _ _).alloc (Nat.le_refl _) (.cells #[.int .i64 op,.int .i64 n,.string s,.slice a args.length cap'] 24))
   have HO:=Lib.hid hO
   clear hO
   have hroom':st.length≤1073741824:=by omega
   have hsz:w0.heap.size≤w.heap.size:=by have:=HV.out.2.2.2.2.1;have:=lt_of_block HV.out.1;omega
   go_wp2_with (first | (go_at_call 203;refine HCS.out.mono ?_;rintro e w2 ⟨rfl,rfl⟩;rw[Hs.out]) | (at_builtin;go_must (refine own_app elemS _ rfl (.tmp 16) (.tmp 19) rfl w0.heap.size v st.length (st.map Value.string) rfl HO.out [.string s] rfl (by simp[Value.oneCell']) _ 1 rfl (by simp) hroom' (by simp;omega) ?_)))
   intro v' w3 hown3 hg3
   have hW:((w.alloc (.cells #[.int .i64 op,.int .i64 n,.string s,.slice a args.length cap'] 24)).alloc (.cells #[.string s] 9)).heap[cb]? = some (.cells #[v] 51 (0,0)):=by
    rw[Below.heap_alloc _ _ _ (by have:=lt_of_block HV.out.1;simp;omega),Below.heap_alloc _ _ _ (lt_of_block HV.out.1)];exact HV.out.1
   have hne:=ownsRow_ne HV.out.2.1 HV.out.1 (by decide)
   have h3:w3.heap[cb]? = some (.cells #[v] 51 (0,0)):=(hg3.block _ (lt_of_block hW) hne).trans hW
   have c3:=cell_of_one h3
   have f3:=free_of_one h3
   obtain⟨a3,k3,hv3,_⟩:=slice_of_own hown3 (by omega)
   subst hv3
   have H3:=Lib.hid (⟨hown3,hg3,h3,hne⟩:_∧_∧_∧_)
   clear hown3 hg3 hW hne h3
   go_wp2_with fail
   go_ret
   have hadd:addName ops st (.mk op n s args)=st++[s]:=by unfold addName;rw[if_pos ⟨Hc.out,Hs.out⟩,Ex.name_mk]
   obtain⟨hv,hown,hca,hbo,hb1,hb2,hb3⟩:=HV.out
   obtain⟨hown3,hg3,h3,hne⟩:=H3.out
   have hB2:Below w.heap.size w ((w.alloc (.cells #[.int .i64 op,.int .i64 n,.string s,.slice a args.length cap'] 24)).alloc (.cells #[.string s] 9)):=((Below.refl _ _).alloc (Nat.le_refl _) _).alloc (by simp) _
   have old:∀ (k:Nat) (c:Array Value) (t:TypeId),w.heap[k]? = some (.cells c t (0,0))→t≠9→k≠cb→(w3.setCell ⟨cb,0,none⟩ (.slice a3 (st.length+1) k3)).heap[k]? = some (.cells c t (0,0)):=by
    intro k c t hk ht hkb
    have h1:=(hB2.block _ (lt_of_block hk)).trans hk
    rw[Below.heap_setCell _ _ _ _ hkb,hg3.block _ (lt_of_block h1) (ownsRow_ne hown hk ht)]
    exact h1
   refine⟨rfl,?_,?_⟩
   ·show InvN _ _ _ _ _ _ (addName ops st (.mk op n s args)) _
    rw[hadd]
    refine⟨⟨hb1,hb2,hb3⟩,⟨_,one_setCell h3,?_⟩,old _ _ _ hca (by decide) (by rintro rfl;rw[hv] at hca;simp at hca),old _ _ _ hbo (by decide) (by rintro rfl;rw[hv] at hbo;simp at hbo)⟩
    have:=ownsRow_store hown3 h3 (by decide) 0 (.slice a3 (st.length+1) k3)
    simpa using this
   ·refine KT.setCell (KT.grown (HKA.out.alloc (.cells #[.string s] 9)) hg3 (fun k hk=>by obtain⟨_,_,h⟩:=ownsRow_type hown hk;exact h) ?_) h3 (by unfold Still;decide) hb1 _
    intro k c t z hk hh hs
    obtain⟨cur,hcur,_⟩:=ownsRow_type hown hk
    rw[(hB2.block _ (lt_of_block hcur)).trans hcur] at hh
    simp only[Option.some.injEq,Obj.cells.injEq] at hh
    rw[← hh.2.1] at hs
    exact absurd hs (by unfold Still;decide)
  ·go_wp2_with (go_at_call 203;refine HCS.out.mono ?_;rintro e w2 ⟨rfl,rfl⟩)
   go_ret
   refine⟨rfl,?_,HKA.out⟩
   have:addName ops st (.mk op n s args)=st:=by unfold addName;rw[if_neg (by rw[Ex.name_mk,hs];simp)]
   show InvN _ _ _ _ _ _ (addName ops st (.mk op n s args)) _
   rw[this];exact HI2.out
set_option maxHeartbeats 1000000 in
theorem names_any (op n:Int) (s:ByteArray) (args:List Ex) (a:Option Addr) (cap bo oc:Nat) (ops:List Int) (w:World) (hE:ExIn w (.mk op n s args) a cap) (hn:(Ex.mk op n s args).nodes.length≤1073741824)
  (B:Nat) (w0:World) (hw0:B=w0.heap.size) (hW:Below B w0 w) (hbB:B≤bo) (hbo:w.heap[bo]? = some (.cells (ops.map (Value.int .i64)).toArray 3 (0,0))) (hol:0 < ops.length∧ops.length≤1000) (hE0:ExIn w0 (.mk op n s args) a cap) :
  Calls Tryz.prog 219 #[.agg #[.int .i64 op,.int .i64 n,.string s,.slice a args.length cap],.slice (some ⟨bo,0,none⟩) ops.length oc] w fun e w' =>
   (∃ a' cap',e=.returned (.slice a' (namesS ops (.mk op n s args)).length cap')∧StrsIn w' (namesS ops (.mk op n s args)) a' cap')∧Below B w0 w':=by
 subst hw0
 have hB:Below w.heap.size w (((w.alloc (.cells #[.int .i64 op,.int .i64 n,.string s,.slice a args.length cap] 24)).alloc (.cells #[.slice (some ⟨bo,0,none⟩) ops.length oc] 31)).alloc (.cells #[.slice none 0 0] 51)):=bel
 have hws:=hW.size
 have hC:=walk_171 (w.heap.size+1) (w.heap.size+1+1) (InvN w0.heap.size (w.heap.size+1) (w.heap.size+1+1) bo oc ops) List.length (stepN ops) w0 (fun st e=>addName_len ops st e) InvN.keep (visitN w0 _ _ bo oc ops hol) op n s args [] a cap _ (by simpa using hn)
  ⟨⟨by omega,by omega,hbB⟩,⟨_,heap_alloc_at _ _ _ (by simp),World.ownsRow_nil _ _ _ _⟩,by rw[Below.heap_alloc _ _ _ (by simp)];exact heap_alloc_at _ _ _ (by simp),by rw[hB.block _ (lt_of_block hbo)];exact hbo⟩ (hW.trans (hB.mono hws)) hE0
 rw[runN] at hC
 have HB:=Lib.hid hB
 have HC:=Lib.hid hC
 have HW:=Lib.hid hW
 have Hn:=Lib.hid hn
 have Hws:=Lib.hid hws
 clear hC hB hE hn hW hbo hE0 hbB hws
 go_enter Tryz.func219, Tryz.ntmps219
 go_wp2_with fail
 refine HC.out.mono ?_
 rintro e w2 ⟨rfl,hI2,hK2⟩
 obtain⟨_,⟨v,hv,hown⟩,_⟩:=hI2
 have c0:=cell_of_one hv
 have HK2:=Lib.hid hK2
 have HO:=Lib.hid hown
 clear hK2 hv hown
 go_wp2_with fail
 go_ret
 obtain⟨a',cap',rfl,hs⟩:=strs_of_own HO.out (by have:=names_len ops (Ex.mk op n s args).nodes [];have:=Hn.out;simp at *;omega)
 exact⟨⟨a',cap',rfl,hs⟩,HW.out.trans ((HB.out.mono Hws.out).trans (HK2.out.below (by have:=HB.out.size;have:=Hws.out;omega)))⟩
set_option maxHeartbeats 1000000 in
theorem Names_any (op n:Int) (s:ByteArray) (args:List Ex) (a:Option Addr) (cap:Nat) (w:World) (hE:ExIn w (.mk op n s args) a cap) (hn:(Ex.mk op n s args).nodes.length≤1073741824) :
  Calls Tryz.prog 160 #[.agg #[.int .i64 op,.int .i64 n,.string s,.slice a args.length cap]] w fun e w' =>
   (∃ a' cap',e=.returned (.slice a' (namesS [2] (.mk op n s args)).length cap')∧StrsIn w' (namesS [2] (.mk op n s args)) a' cap')∧Below w.heap.size w w':=by
 have hB:Below w.heap.size w ((w.alloc (.cells #[.int .i64 op,.int .i64 n,.string s,.slice a args.length cap] 24)).alloc (.cells (([2]:List Int).map (Value.int .i64)).toArray 3)):=bel
 have hC:=names_any op n s args a cap (w.heap.size+1) ([2]:List Int).length [2] _ (hE.keep (keeps_of_below hB)) hn _ w rfl hB (by omega) (heap_alloc_at _ _ _ (by simp)) (by decide) hE
 have HC:=Lib.hid hC
 clear hC hB hE hn
 go_enter Tryz.func160, Tryz.ntmps160
 go_wp2_with fail
 refine HC.out.mono ?_
 rintro e w2 ⟨⟨a',cap',rfl,hs⟩,hb⟩
 have HS:=Lib.hid (⟨hs,hb⟩:_∧_)
 clear hs hb
 go_wp2_with fail
 go_ret
 exact⟨⟨a',cap',rfl,HS.out.1⟩,HS.out.2⟩
set_option maxHeartbeats 1000000 in
theorem Arrays_any (op n:Int) (s:ByteArray) (args:List Ex) (a:Option Addr) (cap:Nat) (w:World) (hE:ExIn w (.mk op n s args) a cap) (hn:(Ex.mk op n s args).nodes.length≤1073741824) :
  Calls Tryz.prog 161 #[.agg #[.int .i64 op,.int .i64 n,.string s,.slice a args.length cap]] w fun e w' =>
   (∃ a' cap',e=.returned (.slice a' (namesS [3,24] (.mk op n s args)).length cap')∧StrsIn w' (namesS [3,24] (.mk op n s args)) a' cap')∧Below w.heap.size w w':=by
 have hB:Below w.heap.size w ((w.alloc (.cells #[.int .i64 op,.int .i64 n,.string s,.slice a args.length cap] 24)).alloc (.cells (([3,24]:List Int).map (Value.int .i64)).toArray 3)):=bel
 have hC:=names_any op n s args a cap (w.heap.size+1) ([3,24]:List Int).length [3,24] _ (hE.keep (keeps_of_below hB)) hn _ w rfl hB (by omega) (heap_alloc_at _ _ _ (by simp)) (by decide) hE
 have HC:=Lib.hid hC
 clear hC hB hE hn
 go_enter Tryz.func161, Tryz.ntmps161
 go_wp2_with fail
 refine HC.out.mono ?_
 rintro e w2 ⟨⟨a',cap',rfl,hs⟩,hb⟩
 have HS:=Lib.hid (⟨hs,hb⟩:_∧_)
 clear hs hb
 go_wp2_with fail
 go_ret
 exact⟨⟨a',cap',rfl,HS.out.1⟩,HS.out.2⟩
end Go.Proofs.YthojpomoflhbcaaGreatDoor
namespace Go.Proofs.YthojpomoflhbcaaGreatDoor
open Go.RowKit
def truthS (b:Bool):Int:=if b then 1 else 0
def singleS (op a:Int):Int:=if op=4 then truthS (a == 0) else if op=5 then invW a else if op=6 then negW a else onesW a
def andW (a b:Int):Int:=((a.toNat &&& b.toNat:Nat):Int)
def orW (a b:Int):Int:=((a.toNat ||| b.toNat:Nat):Int)
def xorW (a b:Int):Int:=((a.toNat ^^^ b.toNat:Nat):Int)
def doubleS (op a b:Int):Int :=
 if op=7 then addW a b else if op=8 then subW a b else if op=9 then mulW a b else if op=10 then andW a b else if op=11 then orW a b else if op=12 then xorW a b
 else if op=13 then shlW a b else if op=14 then shrW a b else if op=15 then truthS (a == b) else if op=16 then truthS (a != b) else if op=17 then truthS (decide (a < b)) else if op=18 then truthS (decide (a≤b))
 else if op=19 then truthS (a != 0 && b != 0) else if op=20 then truthS (a != 0 || b != 0) else truthS (a == 0 || b != 0)
theorem truth_any (b:Bool) (w:World):Calls Tryz.prog 293 #[.bool b] w fun e w'=>e=.returned (.int .i64 (truthS b))∧w=w':=by
 cases b
 all_goals
  go_enter Tryz.func293, Tryz.ntmps293
  go_wp2_with fail
  go_ret
  exact⟨rfl,rfl⟩
theorem i64_and (a b:Int) (ha:0≤a) (ha':a < 65536) (hb:0≤b) (hb':b < 65536):bits .and .i64 a b=andW a b:=by
 obtain⟨A,rfl⟩:=Int.eq_ofNat_of_zero_le ha
 obtain⟨B,rfl⟩:=Int.eq_ofNat_of_zero_le hb
 have h1:bits .and .i64 (A:Int) (B:Int)=IntKind.i64.wrap ((BitVec.ofInt 64 A &&& BitVec.ofInt 64 B).toNat:Int):=rfl
 have hl:A &&& B≤A:=Nat.and_le_left
 rw[h1,BitVec.toNat_and,ofInt_u64 _ (by omega),ofInt_u64 _ (by omega),IntKind.wrap_i64]
 unfold andW
 simp only[Int.toNat_natCast]
 omega
theorem i64_or (a b:Int) (ha:0≤a) (ha':a < 65536) (hb:0≤b) (hb':b < 65536):bits .or .i64 a b=orW a b:=by
 obtain⟨A,rfl⟩:=Int.eq_ofNat_of_zero_le ha
 obtain⟨B,rfl⟩:=Int.eq_ofNat_of_zero_le hb
 have h1:bits .or .i64 (A:Int) (B:Int)=IntKind.i64.wrap ((BitVec.ofInt 64 A ||| BitVec.ofInt 64 B).toNat:Int):=rfl
 have hl:A ||| B < 2 ^ 16:=Nat.or_lt_two_pow (by omega) (by omega)
 rw[h1,BitVec.toNat_or,ofInt_u64 _ (by omega),ofInt_u64 _ (by omega),IntKind.wrap_i64]
 unfold orW
 simp only[Int.toNat_natCast]
 omega
theorem i64_xor (a b:Int) (ha:0≤a) (ha':a < 65536) (hb:0≤b) (hb':b < 65536):bits .xor .i64 a b=xorW a b:=by
 obtain⟨A,rfl⟩:=Int.eq_ofNat_of_zero_le ha
 obtain⟨B,rfl⟩:=Int.eq_ofNat_of_zero_le hb
 have h1:bits .xor .i64 (A:Int) (B:Int)=IntKind.i64.wrap ((BitVec.ofInt 64 A ^^^ BitVec.ofInt 64 B).toNat:Int):=rfl
 have hl:A ^^^ B < 2 ^ 16:=Nat.xor_lt_two_pow (by omega) (by omega)
 rw[h1,BitVec.toNat_xor,ofInt_u64 _ (by omega),ofInt_u64 _ (by omega),IntKind.wrap_i64]
 unfold xorW
 simp only[Int.toNat_natCast]
 omega
set_option maxHeartbeats 1000000 in
theorem single_any (op a:Int) (w:World):Calls Tryz.prog 279 #[.int .i64 op,.int .i64 a] w fun e w'=>e=.returned (.int .i64 (singleS op a))∧Below w.heap.size w w':=by
 have HS:Hid (singleS op a=if op=4 then truthS (a == 0) else if op=5 then invW a else if op=6 then negW a else onesW a):=rfl
 go_enter Tryz.func279, Tryz.ntmps279
 go_wp2_with (first | (go_at_call 293;refine(truth_any _ _).mono ?_;rintro e w' ⟨rfl,rfl⟩) | (go_at_call 294;refine(WInv_any _ _).mono ?_;rintro e w' ⟨rfl,rfl⟩) | (go_at_call 295;refine(WNeg_any _ _).mono ?_;rintro e w' ⟨rfl,rfl⟩) | (go_at_call 296;go_must (refine(fr (W0:=w) (B:=w.heap.size) (WOnes_any _ _) bel sz).mono ?_;rintro e w1 ⟨rfl,hc1,hf1,hz1,hb1⟩;try simp only[World.size_alloc,World.size_setCell,World.size_drew,World.heap_drewN] at hz1;try (have hzl0:w.heap.size < w1.heap.size:=by omega);try (have hzl1:w.heap.size+1 < w1.heap.size:=by omega);try (have hzl2:w.heap.size+2 < w1.heap.size:=by omega);try (have hzl3:w.heap.size+3 < w1.heap.size:=by omega);try (have hzl4:w.heap.size+4 < w1.heap.size:=by omega);try (have hzl5:w.heap.size+5 < w1.heap.size:=by omega))))
 all_goals go_ret
 all_goals refine⟨?_,bel⟩
 all_goals rw[HS.out]
 all_goals simp_all
set_option maxHeartbeats 4000000 in
theorem double_any (op a b:Int) (ha:0≤a) (ha':a < 65536) (hb:0≤b) (hb':b < 65536) (w:World):Calls Tryz.prog 280 #[.int .i64 op,.int .i64 a,.int .i64 b] w fun e w'=>e=.returned (.int .i64 (doubleS op a b))∧w=w':=by
 have h1:=i64_and a b ha ha' hb hb'
 have h2:=i64_or a b ha ha' hb hb'
 have h3:=i64_xor a b ha ha' hb hb'
 go_enter Tryz.func280, Tryz.ntmps280
 go_wp2_with (first | (go_at_call 293;refine(truth_any _ _).mono ?_;rintro e w' ⟨rfl,rfl⟩) | (go_at_call 278;refine(WAdd_any _ _ _).mono ?_;rintro e w' ⟨rfl,rfl⟩) | (go_at_call 297;refine(WSub_any _ _ _).mono ?_;rintro e w' ⟨rfl,rfl⟩) | (go_at_call 298;refine(WMul_any _ _ _).mono ?_;rintro e w' ⟨rfl,rfl⟩) | (go_at_call 299;refine(WShl_any _ _ _).mono ?_;rintro e w' ⟨rfl,rfl⟩) | (go_at_call 300;refine(WShr_any _ _ _).mono ?_;rintro e w' ⟨rfl,rfl⟩))
 all_goals go_ret
 all_goals refine⟨?_,rfl⟩
 all_goals congr 2
 all_goals unfold doubleS
 all_goals simp_all
 rename_i h
 have h':(a != 0)=true:=by simpa using h
 rw[h',Bool.true_or]
end Go.Proofs.YthojpomoflhbcaaGreatDoor
namespace Go.Proofs.YthojpomoflhbcaaGreatDoor
open Go.RowKit
end Go.Proofs.YthojpomoflhbcaaGreatDoor
