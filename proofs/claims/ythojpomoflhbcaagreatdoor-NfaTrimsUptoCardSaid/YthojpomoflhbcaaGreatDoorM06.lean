/- Appending to rows of one's own, for any kind of thing. -/
import Derived.Test.YthojpomoflhbcaaGreatDoorM05
import Derived.Lib.AppendZeros
set_option linter.unusedSimpArgs false
set_option linter.unusedVariables false
set_option linter.unnecessarySimpa false
namespace Go.Proofs.YthojpomoflhbcaaGreatDoor
open Go.RowKit
section
variable {τ : Type} {E : Enc τ} {w w' : World} {l l' : List τ} {xs ys : List Value}
theorem gr_alloc0 {o:Obj} {row:Option Nat} (h:(w.alloc o).grownBy w' row) (_hr:∀ k,row=some k→k < w.heap.size):w.grownBy w' row :=
 ⟨h.os,h.tape,h.output,by have:=h.size;simp at this;omega,fun k hk hn=>(h.block k (by simp;omega) hn).trans (Below.heap_alloc _ _ _ hk)⟩
theorem Enc.Own.put {t:TypeId} {p:Nat→Bool} {B:Nat} {v:Value} {g n cap:Nat} (h2:E.Vals (World.hide w (hid p v)) l xs) (hy:E.Vals (World.hide w (hid p v)) l' ys) (hg:w.grownBy w' v.ownBlock) (hat:v.ownBlock=some g∨w.heap.size≤g)
  (ho:w'.ownsRow B t E.sz (.slice (some ⟨g,0,none⟩) n cap) n (xs++ys)) (hn:n=(l++l').length):E.Own t p w' B (.slice (some ⟨g,0,none⟩) n cap) (l++l'):=by
 subst hn
 refine⟨_,ho,(h2.append hy).keep (hide_grown hg (fun k hk=>hid_true.2 (Or.inr hk)) fun k hk hq=>?_)⟩
 rcases hid_true.1 hq with hq | hq
 ·exact hid_true.2 (Or.inl hq)
 ·have e:=Option.some.inj hq
  simp only at e
  subst e
  rcases hat with e | e
  ·exact hid_true.2 (Or.inr e)
  ·omega
theorem own_addE {P:Program} {ops:Array Oper} {rest:List Oper} {o:Oper} {a:Act} {Q:Exit→Act→World→Prop} {t e:TypeId} (he:Elem P t e E.sz) (w:World) (hgd:o.guard=none) (s x:Operand)
  (ho:o.op=.call { callee:=.builtin .append,args:=#[s,x],argTypes:=#[t,t] })
  (p:Nat→Bool) (B:Nat) (v:Value) (hs:a.eval s=v) (hown:E.Own e p w B v l) (y:τ) (vs:List Value) (hR:E.R (World.hide w (hid p v)) y vs)
  (k c:Nat) (hx:a.eval x=.slice (some ⟨k,0,none⟩) 1 c) (hk:k=w.heap.size) (n:Nat) (hln:l.length=n) (hn:n+1≤1073741824) (hB:B≤w.heap.size)
  (h:∀ g cap w',E.Own e p w' B (.slice (some ⟨g,0,none⟩) (n+1) cap) (l++[y])→w.grownBy w' v.ownBlock→(v.ownBlock=some g∨w.heap.size < g)→wpList P ops Q rest (a.put o.dst (.slice (some ⟨g,0,none⟩) (n+1) cap)) w') :
  wpList P ops Q (o::rest) a (w.alloc (.cells vs.toArray e)):=by
 subst hk
 subst hln
 obtain⟨ht,i,z,bytes,hi,hz,hsz,hby,hzs,h0,hb⟩:=he
 obtain⟨xs,h1,h2⟩:=hown
 refine wpList_append_lies (w.alloc (.cells vs.toArray e)) hgd s x t ho B e i z E.sz bytes ht hi hz hsz hby hzs h0 v l.length xs hs (h1.alloc _) ⟨w.heap.size,0,none⟩ 1 c vs hx (by rw[E.len hR,Nat.one_mul]) ?_ (E.one hR) (by omega) (by unfold maxLen;omega) ?_ (by simp;omega) (w.heap.size+1) (by simp) (fun g cap w' h3 h4 h5 _=>?_)
 ·have:=World.news_of_block (heap_alloc_new' w (.cells vs.toArray e))
  simpa using this
 ·calc (l.length+1) * bytes≤1073741824 * 1024:=Nat.mul_le_mul hn hb
   _≤_:=by decide
 ·have hg:=gr_alloc0 h4 fun k hk=>(h1.lt k hk).2
  refine h g cap w' (Enc.Own.put h2 (Enc.Vals.one hR) hg (h5.imp id (by omega)) h3 (by simp)) hg (h5.imp id (by omega))
theorem run_append_noneE {P:Program} (w:World) (B:Nat) (t ty e:TypeId) (i:TypeInfo) (size:Nat) (ht:P.underlying t=some (.slice e)) (hi:P.info? e=some i)
  (v:Value) (n:Nat) (ad:Option Addr) (c:Nat) (xs:List Value) (hown:w.ownsRow B e size v n xs) :
  (Builtin.append_ #[t,t] ty #[v,.slice ad 0 c]).run P w=.ok v w:=by
 rcases hown.2 with ⟨rfl,rfl⟩ | ⟨g,cap,cur,rfl,_,_,hnc,_⟩<;>cases ad
 ·simp[Builtin.append_,run_underlying ht,sizeOf,typeInfo,hi,Builtin.lenOf,Builtin.firstCells]
 ·simp[Builtin.append_,run_underlying ht,sizeOf,typeInfo,hi,Builtin.lenOf,Builtin.firstCells,loadCells,loadCellsFrom]
 ·simp[Builtin.append_,run_underlying ht,sizeOf,typeInfo,hi,Builtin.lenOf,Builtin.firstCells,hnc,storeCells]
 ·simp[Builtin.append_,run_underlying ht,sizeOf,typeInfo,hi,Builtin.lenOf,Builtin.firstCells,hnc,storeCells,loadCells,loadCellsFrom]
theorem own_rowE {P:Program} {ops:Array Oper} {rest:List Oper} {o:Oper} {a:Act} {Q:Exit→Act→World→Prop} {t e:TypeId} (he:Elem P t e E.sz) (w:World) (hgd:o.guard=none) (s x:Operand)
  (ho:o.op=.call { callee:=.builtin .append,args:=#[s,x],argTypes:=#[t,t] })
  (p:Nat→Bool) (B:Nat) (v:Value) (hs:a.eval s=v) (hown:E.Own e p w B v l) (ad:Option Addr) (c:Nat) (hR:E.In (World.hide w (hid p v)) l' ad c)
  (hx:a.eval x=.slice ad l'.length c) (hn:l.length+l'.length≤1073741824) (hB:B≤w.heap.size)
  (h:∀ v' w',E.Own e p w' B v' (l++l')→w.grownBy w' v.ownBlock→(v'.ownBlock=v.ownBlock∨∃ g,v'.ownBlock=some g∧w.heap.size≤g)→wpList P ops Q rest (a.put o.dst v') w') :
  wpList P ops Q (o::rest) a w:=by
 obtain⟨ht,i,z,bytes,hi,hz,hsz,hby,hzs,h0,hb⟩:=he
 obtain⟨xs,h1,h2⟩:=hown
 have hsame:l'.length=0→wpList P ops Q rest (a.put o.dst v) w:=fun hl=>by
  obtain rfl:l'=[]:=List.eq_nil_of_length_eq_zero hl
  exact h v w ⟨xs,by simpa using h1,by simpa using h2⟩ (World.grownBy.refl _ _) (Or.inl rfl)
 by_cases hl:l'.length=0
 ·rw[hl] at hx
  exact Lib.wpList_append_run w hgd s x t t ho v (.slice ad 0 c) hs hx v w (run_append_noneE w B t o.type e i E.sz ht hi v l.length ad c xs h1) (hsame hl)
 ·rcases hR.2.2 with h3 | ⟨b,off,rfl,_⟩
  ·exact absurd h3 hl
  ·obtain⟨ys,h4,h5⟩:=hR.row
   refine wpList_append_lies w hgd s x t ho B e i z E.sz bytes ht hi hz hsz hby hzs h0 v l.length xs hs h1 ⟨b,off,none⟩ l'.length c ys hx h4.1 ?_ h4.cells (by omega) (by unfold maxLen;omega) ?_ hB w.heap.size rfl (fun g cap w' h6 h7 h8 _=>?_)
   ·intro j u hu
    have:((⟨b,off,none⟩:Addr).add j)=⟨b,off+j,none⟩:=by
     unfold Addr.add;split<;>simp_all
    rw[this];exact hide_cell _ _ (h5 j u hu)
   ·calc (l.length+l'.length) * bytes≤1073741824 * 1024:=Nat.mul_le_mul hn hb
     _≤_:=by decide
   ·refine h _ w' (Enc.Own.put h2 h4 h7 (h8.imp id (by omega)) h6 (by simp)) h7 (h8.imp (fun e=>e.symm) fun e=>⟨g,rfl,by omega⟩)
end
end Go.Proofs.YthojpomoflhbcaaGreatDoor
namespace Go.Proofs.YthojpomoflhbcaaGreatDoor
open Go.RowKit
set_option maxHeartbeats 1000000 in
theorem over_any (op n:Int) (s:ByteArray) (args:List Ex) (a:Option Addr) (cap:Nat) (w:World) (hE:ExIn w (.mk op n s args) a cap) (hn:(Ex.mk op n s args).nodes.length≤1000000000) :
  Calls Tryz.prog 190 #[.agg #[.int .i64 op,.int .i64 n,.string s,.slice a args.length cap]] w fun e w' =>
   e=.returned (.pointer (some ⟨w.heap.size+1,0,none⟩))∧InvW w.heap.size (w.heap.size+1) ⟨(Ex.mk op n s args).nodes.length,(Ex.mk op n s args).depth,firstE (Ex.mk op n s args).nodes,namesS [2] (.mk op n s args),namesS [3,24] (.mk op n s args)⟩ w'∧Below w.heap.size w w':=by
 have hB:Below w.heap.size w ((w.alloc (.cells #[.int .i64 op,.int .i64 n,.string s,.slice a args.length cap] 24)).alloc (.cells #[.int .i64 0,.int .i64 0,.int .i64 0,.slice none 0 0,.slice none 0 0] 216)):=bel
 have hC:=see_any w.heap.size (w.heap.size+1) w rfl (.mk op n s args) ⟨0,0,0,[],[]⟩ 1 a cap _ (by simp;omega) (by omega) (by simp) (by simp) (by simp)
  ⟨by omega,.slice none 0 0,.slice none 0 0,heap_alloc_at _ _ _ (by simp),World.ownsRow_nil _ _ _ _,World.ownsRow_nil _ _ _ _,by simp[Value.ownBlock]⟩ hB hE
 rw[seeS_start] at hC
 have HC:=Lib.hid hC
 have HB:=Lib.hid hB
 simp only[exVal,Ex.op_mk,Ex.n_mk,Ex.name_mk,Ex.args_mk] at HC
 clear hC hB hE hn
 go_enter Tryz.func190, Tryz.ntmps190
 go_wp2_with fail
 refine HC.out.mono ?_
 rintro e w2 ⟨rfl,hI,hK⟩
 have H2:=Lib.hid (⟨hI,hK⟩:_∧_)
 clear hI hK
 go_wp2_with fail
 go_ret
 exact⟨rfl,H2.out.1,HB.out.trans (H2.out.2.below (by simp;omega))⟩
set_option maxHeartbeats 1000000 in
theorem rValid_any (op n:Int) (s:ByteArray) (args:List Ex) (a:Option Addr) (cap:Nat) (w:World) (hE:ExIn w (.mk op n s args) a cap) (hn:(Ex.mk op n s args).nodes.length≤1000000000) :
  Calls Tryz.prog 124 #[.agg #[.int .i64 op,.int .i64 n,.string s,.slice a args.length cap]] w fun e w'=>e=.returned (.int .i64 (validS (.mk op n s args)))∧Below w.heap.size w w':=by
 have hB:Below w.heap.size w (w.alloc (.cells #[.int .i64 op,.int .i64 n,.string s,.slice a args.length cap] 24)):=bel
 have HC:=Lib.hid (over_any op n s args a cap _ (hE.keep (keeps_of_below hB)) hn)
 have HB:=Lib.hid hB
 have HV:Hid (validS (.mk op n s args)=if firstE (Ex.mk op n s args).nodes=0∧(24 < (Ex.mk op n s args).depth∨400 < (Ex.mk op n s args).nodes.length) then 2 else firstE (Ex.mk op n s args).nodes):=rfl
 generalize validS (.mk op n s args)=vv at HV⊢
 clear hB hE hn
 generalize firstE (Ex.mk op n s args).nodes=ff at HC HV
 generalize (Ex.mk op n s args).depth=dd at HC HV
 generalize (Ex.mk op n s args).nodes.length=nn at HC HV
 go_enter Tryz.func124, Tryz.ntmps124
 go_wp2_with fail
 refine HC.out.mono ?_
 rintro e w2 ⟨rfl,hI,hb⟩
 obtain⟨_,v1,v2,hp,_⟩:=hI
 simp only[World.size_alloc] at hp
 have c0:w2.cell? ⟨w.heap.size+1+1,0,none⟩=some (.int .i64 nn):=by simp[World.cell?,hp]
 have c1:w2.cell? ⟨w.heap.size+1+1,1,none⟩=some (.int .i64 dd):=by simp[World.cell?,hp]
 have c2:w2.cell? ⟨w.heap.size+1+1,2,none⟩=some (.int .i64 ff):=by simp[World.cell?,hp]
 have H2:Hid (Below w.heap.size w w2):=HB.out.trans (hb.mono (by simp))
 clear hp hb
 go_wp2_with fail
 all_goals go_ret
 all_goals refine⟨?_,H2.out⟩
 all_goals rw[HV.out]
 all_goals congr 2
 all_goals simp_all
 all_goals (try omega)
theorem addName_all (ops:List Int) (p:ByteArray→Bool) (l:List Ex):∀ st:List ByteArray,(l.foldl (addName ops) st).all p=(st.all p && l.all (fun x=>!ops.contains x.op || p x.name)):=by
 induction l with
 | nil=>intro st;simp
 | cons e l ih =>
  intro st
  rw[List.foldl_cons,ih,List.all_cons]
  unfold addName
  by_cases h:ops.contains e.op=true
  ·cases hc:Lib.containsS st e.name
   ·rw[if_pos ⟨h,rfl⟩,List.all_append]
    simp only[List.all_cons,List.all_nil,Bool.and_true,h,Bool.not_true,Bool.false_or]
    rw[Bool.and_assoc]
   ·rw[if_neg (by simp)]
    have hm:=(Lib.containsS_iff st e.name).1 hc
    cases hp:st.all p
    ·simp
    ·have:=List.all_eq_true.1 hp _ hm
     simp[this]
  ·have h':ops.contains e.op=false:=by simpa using h
   rw[if_neg (fun hh=>h hh.1),h']
   simp
theorem known_eq (env:List (ByteArray × Int)) (e:Ex):knownS env e=knownA env e:=by
 unfold knownS knownA namesS
 rw[addName_all,addName_all]
 simp only[List.all_nil,Bool.true_and]
 rw[Bool.eq_iff_iff]
 simp only[Bool.and_eq_true,List.all_eq_true,← forall_and]
 refine forall_congr' fun x=>forall_congr' fun _=>?_
 unfold knownN
 by_cases h2:x.op=2
 ·simp[h2]
 ·by_cases h3:x.op=3
  ·simp[h3]
  ·by_cases h4:x.op=24
   ·simp[h4]
   ·simp[h2,h3,h4]
theorem evalS_eq (env:List (ByteArray × Int)) (e:Ex):evalS env e=if validS e≠0 then (0,1) else (rvalS env e,errK (knownA env e)):=by
 unfold evalS rvalS errK
 rw[known_eq]
 split
 ·rfl
 ·cases knownA env e<;>simp
set_option maxHeartbeats 2000000 in
theorem rEval_any (env:List (ByteArray × Int)) (a:Option Addr) (cap:Nat) (op n:Int) (s:ByteArray) (args:List Ex) (ae:Option Addr) (ce:Nat) (w:World) (hS:SigsIn w env a cap) (hE:ExIn w (.mk op n s args) ae ce) (hn:(Ex.mk op n s args).nodes.length≤1000000000) :
  Calls Tryz.prog 224 #[.agg #[.int .i64 op,.int .i64 n,.string s,.slice ae args.length ce],.slice a env.length cap] w fun e w'=>e=.returned (.tuple #[.int .i64 (evalS env (.mk op n s args)).1,.int .i64 (evalS env (.mk op n s args)).2])∧Below w.heap.size w w':=by
 have HV:=Lib.hid (fun W (hW:Below w.heap.size w W) hz=>fr (W0:=w) (B:=w.heap.size) (rValid_any op n s args ae ce W (hE.keep (keeps_of_below hW)) hn) hW hz)
 have HVa:=Lib.hid (fun hok W (hW:Below w.heap.size w W) hz=>fr (W0:=w) (B:=w.heap.size) (rvalue_any env a cap (.mk op n s args) ae ce W hok (by omega) (hS.keep (keeps_of_below hW)) (hE.keep (keeps_of_below hW))) hW hz)
 simp only[exVal,Ex.op_mk,Ex.n_mk,Ex.name_mk,Ex.args_mk] at HVa
 have HR:=Lib.hid (evalS_eq env (.mk op n s args))
 clear hS hE hn
 by_cases hv:validS (.mk op n s args)=0
 ·have HVa':=Lib.hid (HVa.out (valid_ok hv))
  have hR:Hid (evalS env (.mk op n s args)=(rvalS env (.mk op n s args),errK (knownA env (.mk op n s args)))):=by show _=_;rw[HR.out,if_neg (by simpa using hv)]
  have hv':(validS (.mk op n s args) != 0)=false:=by simpa using hv
  clear hv
  go_enter Tryz.func224, Tryz.ntmps224
  go_wp2_with (first | (go_at_call 124;refine(HV.out _ bel sz).mono ?_;rintro e w1 ⟨rfl,hc1,hf1,hz1,hb1⟩;simp only[World.size_alloc] at hz1;have hzl0:w.heap.size < w1.heap.size:=(by omega);have hzl1:w.heap.size+1≤w1.heap.size:=(by omega)) | (go_at_call 261;refine(HVa'.out _ (by assumption) sz).mono ?_;rintro e w1 ⟨rfl,hc1,hf1,hz1,hb1⟩))
  go_ret2
  exact⟨by rw[hR.out];rfl,by assumption⟩
 ·have hR:Hid (evalS env (.mk op n s args)=(0,1)):=by show _=_;rw[HR.out,if_pos hv]
  have hv':(validS (.mk op n s args) != 0)=true:=by simpa using hv
  go_enter Tryz.func224, Tryz.ntmps224
  go_wp2_with (go_at_call 124;refine(HV.out _ bel sz).mono ?_;rintro e w1 ⟨rfl,hc1,hf1,hz1,hb1⟩)
  go_ret2
  exact⟨by rw[hR.out];rfl,by assumption⟩
set_option maxHeartbeats 1000000 in
theorem rValue_any (env:List (ByteArray × Int)) (a:Option Addr) (cap:Nat) (op n:Int) (s:ByteArray) (args:List Ex) (ae:Option Addr) (ce:Nat) (w:World) (hS:SigsIn w env a cap) (hE:ExIn w (.mk op n s args) ae ce) (hn:(Ex.mk op n s args).nodes.length≤1000000000) :
  Calls Tryz.prog 169 #[.agg #[.int .i64 op,.int .i64 n,.string s,.slice ae args.length ce],.slice a env.length cap] w fun e w'=>e=.returned (.int .i64 (evalS env (.mk op n s args)).1)∧Below w.heap.size w w':=by
 have HV:=Lib.hid (fun W (hW:Below w.heap.size w W) hz=>fr (W0:=w) (B:=w.heap.size) (rEval_any env a cap op n s args ae ce W (hS.keep (keeps_of_below hW)) (hE.keep (keeps_of_below hW)) hn) hW hz)
 clear hS hE hn
 go_enter Tryz.func169, Tryz.ntmps169
 go_wp2_with (go_at_call 224;refine(HV.out _ bel sz).mono ?_;rintro e w1 ⟨rfl,hc1,hf1,hz1,hb1⟩)
 go_ret
 exact⟨rfl,by assumption⟩
end Go.Proofs.YthojpomoflhbcaaGreatDoor
namespace Go.Proofs.YthojpomoflhbcaaGreatDoor
open Go.RowKit
def exR (w:World) (e:Ex) (vs:List Value):Prop:=∃ a cap,vs=[.int .i64 e.op,.int .i64 e.n,.string e.name,.slice a e.args.length cap]∧ExIn w e a cap
def exE:Enc Ex where
 sz:=4
 R:=exR
 pos:=by decide
 len:=by rintro _ _ _ ⟨_,_,rfl,_⟩;rfl
 keep:=by rintro _ _ _ _ hk ⟨a,cap,rfl,h⟩;exact⟨a,cap,rfl,h.keep hk⟩
 one:=by rintro _ _ _ ⟨_,_,rfl,_⟩ v hv;simp at hv;rcases hv with rfl | rfl | rfl | rfl<;>rfl
theorem exE_at {w:World} {e:Ex} {b o:Nat}:exE.At w e b o↔ExAt w e b o:=by
 rw[ExAt_iff]
 constructor
 ·rintro ⟨vs,⟨a,cap,rfl,h⟩,hc⟩
  exact⟨a,cap,hc 0 _ rfl,hc 1 _ rfl,hc 2 _ rfl,hc 3 _ rfl,h⟩
 ·rintro ⟨a,cap,h0,h1,h2,h3,h⟩
  refine⟨_,⟨a,cap,rfl,h⟩,fun j v hv=>?_⟩
  match j with
  | 0=>simp at hv;subst hv;exact h0
  | 1=>simp at hv;subst hv;exact h1
  | 2=>simp at hv;subst hv;exact h2
  | 3=>simp at hv;subst hv;exact h3
  | j+4=>simp at hv
theorem exE_in {w:World} {l:List Ex} {a:Option Addr} {cap:Nat}:exE.In w l a cap↔ExsIn w l a cap :=
 ⟨fun h=>h.mono fun _ _ _ _ ⟨x,h1,h2⟩=>⟨x,h1,exE_at.1 h2⟩,fun h=>h.mono fun _ _ _ _ ⟨x,h1,h2⟩=>⟨x,h1,exE_at.2 h2⟩⟩
def sgR (_:World) (s:ByteArray × Int) (vs:List Value):Prop:=vs=[.string s.1,.int .i64 s.2]
def sgE:Enc (ByteArray × Int) where
 sz:=2
 R:=sgR
 pos:=by decide
 len:=by rintro _ _ _ rfl;rfl
 keep:=by rintro _ _ _ _ _ h;exact h
 one:=by rintro _ _ _ rfl v hv;simp at hv;rcases hv with rfl | rfl<;>rfl
theorem sgE_at {w:World} {s:ByteArray × Int} {b o:Nat}:sgE.At w s b o↔w.cell? ⟨b,o,none⟩=some (.string s.1)∧w.cell? ⟨b,o+1,none⟩=some (.int .i64 s.2):=by
 constructor
 ·rintro ⟨vs,rfl,hc⟩
  exact⟨hc 0 _ rfl,hc 1 _ rfl⟩
 ·rintro ⟨h0,h1⟩
  refine⟨_,rfl,fun j v hv=>?_⟩
  match j with
  | 0=>simp at hv;subst hv;exact h0
  | 1=>simp at hv;subst hv;exact h1
  | j+2=>simp at hv
theorem sgE_in {w:World} {l:List (ByteArray × Int)} {a:Option Addr} {cap:Nat}:sgE.In w l a cap↔SigsIn w l a cap :=
 ⟨fun h=>h.mono fun _ _ _ _ ⟨x,h1,h2⟩=>⟨x,h1,sgE_at.1 h2⟩,fun h=>h.mono fun _ _ _ _ ⟨x,h1,h2⟩=>⟨x,h1,sgE_at.2 h2⟩⟩
def inR (_:World) (n:Int) (vs:List Value):Prop:=vs=[.int .i64 n]
def inE:Enc Int where
 sz:=1
 R:=inR
 pos:=by decide
 len:=by rintro _ _ _ rfl;rfl
 keep:=by rintro _ _ _ _ _ h;exact h
 one:=by rintro _ _ _ rfl v hv;simp at hv;subst hv;rfl
theorem inE_at {w:World} {n:Int} {b o:Nat}:inE.At w n b o↔w.cell? ⟨b,o,none⟩=some (.int .i64 n):=by
 constructor
 ·rintro ⟨vs,rfl,hc⟩
  exact hc 0 _ rfl
 ·intro h0
  refine⟨_,rfl,fun j v hv=>?_⟩
  match j with
  | 0=>simp at hv;subst hv;exact h0
  | j+1=>simp at hv
theorem inE_in {w:World} {l:List Int} {a:Option Addr} {cap:Nat}:inE.In w l a cap↔IntsIn w l a cap :=
 ⟨fun h=>h.mono fun _ _ _ _ ⟨x,h1,h2⟩=>⟨x,h1,inE_at.1 h2⟩,fun h=>h.mono fun _ _ _ _ ⟨x,h1,h2⟩=>⟨x,h1,inE_at.2 h2⟩⟩
structure BindD where
 name:ByteArray
 expr:Ex
def bdR (w:World) (b:BindD) (vs:List Value):Prop:=∃ a cap,vs=[.string b.name,.int .i64 b.expr.op,.int .i64 b.expr.n,.string b.expr.name,.slice a b.expr.args.length cap]∧b.name.size≤1073741824∧ExIn w b.expr a cap
def bdE:Enc BindD where
 sz:=5
 R:=bdR
 pos:=by decide
 len:=by rintro _ _ _ ⟨_,_,rfl,_⟩;rfl
 keep:=by rintro _ _ _ _ hk ⟨a,cap,rfl,h0,h⟩;exact⟨a,cap,rfl,h0,h.keep hk⟩
 one:=by rintro _ _ _ ⟨_,_,rfl,_⟩ v hv;simp at hv;rcases hv with rfl | rfl | rfl | rfl | rfl<;>rfl
structure EdgeD where
 fr:Int
 to:Int
 guards:List Ex
 sets:List BindD
def edR (w:World) (e:EdgeD) (vs:List Value):Prop:=∃ ag cg aS cs,vs=[.int .i64 e.fr,.int .i64 e.to,.slice ag e.guards.length cg,.slice aS e.sets.length cs]∧exE.In w e.guards ag cg∧bdE.In w e.sets aS cs
def edE:Enc EdgeD where
 sz:=4
 R:=edR
 pos:=by decide
 len:=by rintro _ _ _ ⟨_,_,_,_,rfl,_⟩;rfl
 keep:=by rintro _ _ _ _ hk ⟨ag,cg,aS,cs,rfl,h1,h2⟩;exact⟨ag,cg,aS,cs,rfl,h1.keep hk,h2.keep hk⟩
 one:=by rintro _ _ _ ⟨_,_,_,_,rfl,_⟩ v hv;simp at hv;rcases hv with rfl | rfl | rfl | rfl<;>rfl
structure NfaD where
 states:Int
 edges:List EdgeD
 accept:List Int
structure NfaA where
 ae:Option Addr
 ce:Nat
 aa:Option Addr
 ca:Nat
structure NfaIn (w:World) (n:NfaD) (x:NfaA):Prop where
 es:edE.In w n.edges x.ae x.ce
 ac:IntsIn w n.accept x.aa x.ca
theorem NfaIn.keep {w w':World} {n:NfaD} {x:NfaA} (h:NfaIn w n x) (hk:Kp w w'):NfaIn w' n x:=⟨h.es.keep hk,h.ac.keep hk⟩
def nfaCells (n:NfaD) (x:NfaA):List Value:=[.int .i64 n.states,.slice x.ae n.edges.length x.ce,.slice x.aa n.accept.length x.ca]
def nfaVal (n:NfaD) (x:NfaA):Value:=.agg (nfaCells n x).toArray
def nfR (w:World) (n:NfaD) (vs:List Value):Prop:=∃ x,vs=nfaCells n x∧NfaIn w n x
def nfE:Enc NfaD where
 sz:=3
 R:=nfR
 pos:=by decide
 len:=by rintro _ _ _ ⟨_,rfl,_⟩;rfl
 keep:=by rintro _ _ _ _ hk ⟨x,rfl,h⟩;exact⟨x,rfl,h.keep hk⟩
 one:=by rintro _ _ _ ⟨_,rfl,_⟩ v hv;simp[nfaCells] at hv;rcases hv with rfl | rfl | rfl<;>rfl
structure ThrD where
 state:Int
 env:List (ByteArray × Int)
def thR (w:World) (t:ThrD) (vs:List Value):Prop:=∃ a cap,vs=[.int .i64 t.state,.slice a t.env.length cap]∧SigsIn w t.env a cap
def thE:Enc ThrD where
 sz:=2
 R:=thR
 pos:=by decide
 len:=by rintro _ _ _ ⟨_,_,rfl,_⟩;rfl
 keep:=by rintro _ _ _ _ hk ⟨a,cap,rfl,h⟩;exact⟨a,cap,rfl,h.keep hk⟩
 one:=by rintro _ _ _ ⟨_,_,rfl,_⟩ v hv;simp at hv;rcases hv with rfl | rfl<;>rfl
inductive Tq where
 | mk (op lo hi:Int) (expr:Ex) (name:ByteArray) (args:List Tq)
def Tq.op:Tq→Int | .mk op _ _ _ _ _=>op
def Tq.lo:Tq→Int | .mk _ lo _ _ _ _=>lo
def Tq.hi:Tq→Int | .mk _ _ hi _ _ _=>hi
def Tq.expr:Tq→Ex | .mk _ _ _ e _ _=>e
def Tq.name:Tq→ByteArray | .mk _ _ _ _ s _=>s
def Tq.args:Tq→List Tq | .mk _ _ _ _ _ l=>l
noncomputable def Tq.para {α:Type} (f:Tq→List α→α) (e:Tq):α :=
 Tq.rec (motive_1:=fun _=>α) (motive_2:=fun _=>List α) (fun op lo hi x s args ih=>f (.mk op lo hi x s args) ih) [] (fun _ _ a ar=>a::ar) e
theorem Tq.para_mk {α:Type} (f:Tq→List α→α) (op lo hi:Int) (x:Ex) (s:ByteArray) (args:List Tq) :
  Tq.para f (.mk op lo hi x s args)=f (.mk op lo hi x s args) (args.map (Tq.para f)):=by
 have h:∀ l:List Tq,(Tq.rec_1 (motive_1:=fun _=>α) (motive_2:=fun _=>List α) (fun op lo hi x s args ih=>f (.mk op lo hi x s args) ih) [] (fun _ _ a ar=>a::ar) l:List α)=l.map (Tq.para f):=by
  intro l
  induction l with
  | nil=>rfl
  | cons e l ih=>simp only[List.map_cons,← ih];rfl
 show f (.mk op lo hi x s args) _=_
 rw[← h args]
theorem Tq.para_eq {α:Type} (f:Tq→List α→α) (e:Tq):Tq.para f e=f e (e.args.map (Tq.para f)):=by
 cases e;exact Tq.para_mk _ _ _ _ _ _ _
theorem Tq.ind {P:Tq→Prop} (h:∀ e:Tq,(∀ a,a∈e.args→P a)→P e) (e:Tq):P e :=
 Tq.rec (motive_1:=P) (motive_2:=fun l=>∀ a,a∈l→P a)
  (fun op lo hi x s args ih=>h (.mk op lo hi x s args) ih) (fun _ ha=>by cases ha)
  (fun e l he hl a ha=>by
   cases ha with
   | head=>exact he
   | tail _ h'=>exact hl a h') e
noncomputable def Tq.nodes (e:Tq):Nat:=e.para fun _ ls=>1+ls.sum
theorem Tq.nodes_eq (e:Tq):e.nodes=1+(e.args.map Tq.nodes).sum:=by
 unfold Tq.nodes;rw[Tq.para_eq]
noncomputable def Tq.depth (e:Tq):Nat:=e.para fun _ ls=>ls.foldl max 0+1
theorem Tq.depth_eq (e:Tq):e.depth=(e.args.map Tq.depth).foldl max 0+1:=by
 unfold Tq.depth;rw[Tq.para_eq]
def tqCells (s:Tq) (ae:Option Addr) (ce:Nat) (a:Option Addr) (cap:Nat):List Value :=
 [.int .i64 s.op,.int .i64 s.lo,.int .i64 s.hi,.int .i64 s.expr.op,.int .i64 s.expr.n,.string s.expr.name,.slice ae s.expr.args.length ce,.string s.name,.slice a s.args.length cap]
def tqVal (s:Tq) (ae:Option Addr) (ce:Nat) (a:Option Addr) (cap:Nat):Value:=.agg (tqCells s ae ce a cap).toArray
noncomputable def TqAt (w:World) (s:Tq):Nat→Nat→Prop :=
 s.para fun s ps b o=>∃ ae ce a cap,(∀ (j:Nat) (v:Value),(tqCells s ae ce a cap)[j]? = some v→w.cell? ⟨b,o+j,none⟩=some v)∧s.name.size≤1073741824∧ExIn w s.expr ae ce ∧
  SliceIn 9 s.args.length a cap (fun i b o=>∃ p,ps[i]? = some p∧p b o)
def TqsIn (w:World) (l:List Tq) (a:Option Addr) (cap:Nat):Prop:=SliceIn 9 l.length a cap (fun i b o=>∃ s,l[i]? = some s∧TqAt w s b o)
structure TqIn (w:World) (s:Tq) (ae:Option Addr) (ce:Nat) (a:Option Addr) (cap:Nat):Prop where
 nm:s.name.size≤1073741824
 ex:ExIn w s.expr ae ce
 ar:TqsIn w s.args a cap
theorem TqAt_iff (w:World) (s:Tq) (b o:Nat):TqAt w s b o↔∃ ae ce a cap,(∀ (j:Nat) (v:Value),(tqCells s ae ce a cap)[j]? = some v→w.cell? ⟨b,o+j,none⟩=some v)∧TqIn w s ae ce a cap:=by
 unfold TqAt
 rw[Tq.para_eq]
 constructor
 ·rintro ⟨ae,ce,a,cap,h0,h1,h2,h3⟩
  refine⟨ae,ce,a,cap,h0,h1,h2,h3.mono fun i b o hi=>?_⟩
  rintro ⟨p,hp,hq⟩
  rw[List.getElem?_map] at hp
  obtain⟨s',hs,rfl⟩:=Option.map_eq_some_iff.1 hp
  exact⟨s',hs,hq⟩
 ·rintro ⟨ae,ce,a,cap,h0,h1,h2,h3⟩
  refine⟨ae,ce,a,cap,h0,h1,h2,h3.mono fun i b o hi=>?_⟩
  rintro ⟨s',hs,hq⟩
  exact⟨_,by rw[List.getElem?_map,hs];rfl,hq⟩
theorem TqAt.keep {w w':World} (hk:Kp w w') (s:Tq):∀ b o,TqAt w s b o→TqAt w' s b o:=by
 induction s using Tq.ind with
 | h s ih =>
  intro b o h
  rw[TqAt_iff] at h⊢
  obtain⟨ae,ce,a,cap,h0,h1,h2,h3⟩:=h
  refine⟨ae,ce,a,cap,fun j v hv=>hk _ _ (h0 j v hv),h1,h2.keep hk,h3.mono fun i b o _=>?_⟩
  rintro ⟨e',he',hp⟩
  exact⟨e',he',ih e' (List.mem_of_getElem? he') _ _ hp⟩
theorem TqsIn.keep {w w':World} (hk:Kp w w') {l:List Tq} {a:Option Addr} {cap:Nat} (h:TqsIn w l a cap):TqsIn w' l a cap :=
 h.mono fun _ _ _ _ ⟨e',he',hp⟩=>⟨e',he',TqAt.keep hk _ _ _ hp⟩
theorem TqIn.keep {w w':World} (hk:Kp w w') {s:Tq} {ae:Option Addr} {ce:Nat} {a:Option Addr} {cap:Nat} (h:TqIn w s ae ce a cap):TqIn w' s ae ce a cap :=
 ⟨h.nm,h.ex.keep hk,h.ar.keep hk⟩
theorem TqsIn.get {w:World} {l:List Tq} {a:Option Addr} {cap:Nat} (h:TqsIn w l a cap) {b off:Nat} (ha:a=some ⟨b,off,none⟩) {i:Nat} (hi:i < l.length) :
  ∃ ae ce a' cap',(∀ (j:Nat) (v:Value),(tqCells (l[i]'hi) ae ce a' cap')[j]? = some v→w.cell? ⟨b,off+i * 9+j,none⟩=some v)∧TqIn w (l[i]'hi) ae ce a' cap':=by
 rcases h.2.2 with h | ⟨b',off',ha',hq⟩
 ·omega
 ·rw[ha] at ha'
  simp only[Option.some.injEq,Addr.mk.injEq,and_true] at ha'
  obtain⟨rfl,rfl⟩:=ha'
  obtain⟨e',he',hp⟩:=hq i hi
  rw[List.getElem?_eq_getElem hi] at he'
  obtain rfl:=Option.some.inj he'
  exact(TqAt_iff _ _ _ _).1 hp
end Go.Proofs.YthojpomoflhbcaaGreatDoor
namespace Go.Proofs.YthojpomoflhbcaaGreatDoor
open Go.RowKit
noncomputable def okX (g:Ex):Bool:=validS g == 0
noncomputable def okBd (b:BindD):Bool:=nameB b.name.data.toList && okX b.expr
noncomputable def edgeOk (st:Int) (e:EdgeD):Bool:=decide (0≤e.fr∧e.fr < st∧0≤e.to∧e.to < st) && e.guards.all okX && e.sets.all okBd
def accB (st:Int) (l:List Int) (k:Nat):Bool:=(List.range k).all fun i=>decide (0≤l.getD i 0∧l.getD i 0 < st∧(0 < i→l.getD (i - 1) 0 < l.getD i 0))
noncomputable def nfaOk (n:NfaD):Bool:=decide (1≤n.states∧n.states≤256∧n.edges.length≤4096) && n.edges.all (edgeOk n.states) && accB n.states n.accept n.accept.length
theorem accB_succ (st:Int) (l:List Int) (k:Nat):accB st l (k+1)=(accB st l k && decide (0≤l.getD k 0∧l.getD k 0 < st∧(0 < k→l.getD (k - 1) 0 < l.getD k 0))):=by
 unfold accB;rw[List.range_succ,List.all_append];simp
theorem accB_le {st:Int} {l:List Int} {k m:Nat} (h:accB st l m=true) (hk:k≤m):accB st l k=true:=by
 unfold accB at h⊢
 rw[List.all_eq_true] at h⊢
 intro i hi
 exact h i (List.mem_range.2 (by have:=List.mem_range.1 hi;omega))
theorem accB_no {st:Int} {l:List Int} {k m:Nat} (hk:k < m) (h:decide (0≤l.getD k 0∧l.getD k 0 < st∧(0 < k→l.getD (k - 1) 0 < l.getD k 0))=false):accB st l m=false:=by
 cases e:accB st l m with
 | false=>rfl
 | true =>
  have:=accB_le e (show k+1≤m by omega)
  rw[accB_succ,h] at this
  simp at this
def closeOne (o:List Bool) (p:Nat × Nat):List Bool:=if o.getD p.1 false && !o.getD p.2 false then o.set p.2 true else o
def closeTo (steps:List (Nat × Nat)) (o:List Bool) (k:Nat):List Bool:=(steps.take k).foldl closeOne o
def closeStep (steps:List (Nat × Nat)) (o:List Bool):List Bool:=steps.foldl closeOne o
def closeN (steps:List (Nat × Nat)):Nat→List Bool→List Bool
 | 0,o=>o
 | n+1,o=>closeN steps n (closeStep steps o)
def falses (o:List Bool):Nat:=o.countP (!·)
theorem closeOne_len (o:List Bool) (p:Nat × Nat):(closeOne o p).length=o.length:=by
 unfold closeOne;split<;>simp
theorem closeTo_zero (steps:List (Nat × Nat)) (o:List Bool):closeTo steps o 0=o:=by simp[closeTo]
theorem closeTo_succ (steps:List (Nat × Nat)) (o:List Bool) {k:Nat} (h:k < steps.length):closeTo steps o (k+1)=closeOne (closeTo steps o k) (steps[k]'h):=by
 unfold closeTo;rw[List.take_succ_eq_append_getElem h,List.foldl_append];rfl
theorem closeTo_all (steps:List (Nat × Nat)) (o:List Bool):closeTo steps o steps.length=closeStep steps o:=by
 unfold closeTo closeStep;rw[List.take_of_length_le (Nat.le_refl _)]
theorem closeStep_len (steps:List (Nat × Nat)):∀ o:List Bool,(closeStep steps o).length=o.length:=by
 unfold closeStep
 induction steps with
 | nil=>intro o;rfl
 | cons p l ih=>intro o;rw[List.foldl_cons,ih,closeOne_len]
theorem closeTo_len (steps:List (Nat × Nat)) (o:List Bool) (k:Nat):(closeTo steps o k).length=o.length:=closeStep_len _ _
theorem falses_set {o:List Bool} {k:Nat} (hk:k < o.length) (h:o.getD k false=false):falses (o.set k true)+1=falses o:=by
 unfold falses
 induction o generalizing k with
 | nil=>simp at hk
 | cons b o ih =>
  cases k with
  | zero =>
   simp at h;subst h
   simp
  | succ k =>
   have:=ih (k:=k) (by simpa using hk) (by simpa using h)
   rw[List.set_cons_succ,List.countP_cons,List.countP_cons]
   omega
theorem closeOne_falses (o:List Bool) (p:Nat × Nat):closeOne o p=o∨falses (closeOne o p) < falses o:=by
 unfold closeOne
 split
 ·rename_i h
  simp only[Bool.and_eq_true,Bool.not_eq_true'] at h
  by_cases hk:p.2 < o.length
  ·have:=falses_set hk h.2;exact Or.inr (by omega)
  ·left;rw[List.set_eq_of_length_le (by omega)]
 ·exact Or.inl rfl
theorem closeStep_falses (steps:List (Nat × Nat)):∀ o:List Bool,closeStep steps o=o∨falses (closeStep steps o) < falses o:=by
 unfold closeStep
 induction steps with
 | nil=>intro o;exact Or.inl rfl
 | cons p l ih =>
  intro o
  rw[List.foldl_cons]
  rcases closeOne_falses o p with h | h
  ·rw[h];exact ih o
  ·rcases ih (closeOne o p) with h2 | h2
   ·rw[h2];exact Or.inr h
   ·exact Or.inr (by omega)
theorem closeN_fix {steps:List (Nat × Nat)} {o:List Bool} (h:closeStep steps o=o):∀ n,closeN steps n o=o:=by
 intro n
 induction n with
 | zero=>rfl
 | succ n ih=>show closeN steps n (closeStep steps o)=o;rw[h];exact ih
theorem closeN_stable (steps:List (Nat × Nat)):∀ n (o:List Bool),falses o≤n→closeStep steps (closeN steps n o)=closeN steps n o:=by
 intro n
 induction n with
 | zero =>
  intro o h
  rcases closeStep_falses steps o with h1 | h1
  ·exact h1
  ·omega
 | succ n ih =>
  intro o h
  rcases closeStep_falses steps o with h1 | h1
  ·rw[closeN_fix h1];exact h1
  ·exact ih _ (by omega)
theorem closeN_step (steps:List (Nat × Nat)):∀ n (o:List Bool),closeN steps (n+1) o=closeStep steps (closeN steps n o):=by
 intro n
 induction n with
 | zero=>intro o;rfl
 | succ n ih=>intro o;show closeN steps (n+1) (closeStep steps o)=_;rw[ih];rfl
theorem closeN_len (steps:List (Nat × Nat)):∀ n (o:List Bool),(closeN steps n o).length=o.length:=by
 intro n
 induction n with
 | zero=>intro o;rfl
 | succ n ih=>intro o;show (closeN steps n (closeStep steps o)).length=_;rw[ih,closeStep_len]
def closeS (steps:List (Nat × Nat)) (o:List Bool):List Bool:=closeN steps o.length o
theorem falses_le (o:List Bool):falses o≤o.length:=List.countP_le_length
theorem closeS_of {steps:List (Nat × Nat)} {o q:List Bool} {k:Nat} (h1:q=closeN steps k o) (h2:closeStep steps q=q):q=closeS steps o:=by
 have key:∀ m,closeN steps (k+m) o=q:=by
  intro m
  induction m with
  | zero=>exact h1.symm
  | succ m ih=>rw[← Nat.add_assoc,closeN_step,ih,h2]
 have st:=closeN_stable steps o.length o (falses_le o)
 have key2:∀ m,closeN steps (o.length+m) o=closeS steps o:=by
  intro m
  induction m with
  | zero=>rfl
  | succ m ih=>rw[← Nat.add_assoc,closeN_step,ih];exact st
 rw[← key o.length,Nat.add_comm,key2]
def markS (st:Nat) (l:List Nat):List Bool:=l.foldl (fun o s=>o.set s true) (List.replicate st false)
theorem markS_len (st:Nat) (l:List Nat):(markS st l).length=st:=by
 unfold markS
 have:∀ o:List Bool,(l.foldl (fun o s=>o.set s true) o).length=o.length:=by
  induction l with
  | nil=>intro o;rfl
  | cons a l ih=>intro o;rw[List.foldl_cons,ih];simp
 rw[this];simp
def thereL (n:NfaD):List (Nat × Nat):=n.edges.map fun e=>(e.fr.toNat,e.to.toNat)
def backL (n:NfaD):List (Nat × Nat):=n.edges.map fun e=>(e.to.toNat,e.fr.toNat)
def aheadS (n:NfaD):List Bool:=closeS (thereL n) (markS n.states.toNat [0])
def behindS (n:NfaD):List Bool:=closeS (backL n) (markS n.states.toNat (n.accept.map Int.toNat))
def keptS (a b:List Bool) (s:Nat):Bool:=s == 0 || (a.getD s false && b.getD s false)
def numK (a b:List Bool) (s:Nat):Nat:=((List.range s).filter (keptS a b)).length
theorem numK_succ (a b:List Bool) (s:Nat):numK a b (s+1)=numK a b s+(if keptS a b s then 1 else 0):=by
 unfold numK;rw[List.range_succ,List.filter_append,List.length_append]
 congr 1
 cases h:keptS a b s<;>simp[h]
theorem numK_le (a b:List Bool) (s:Nat):numK a b s≤s:=by
 unfold numK
 exact Nat.le_trans (List.length_filter_le _ _) (by simp)
def goodE (a b:List Bool) (e:EdgeD):Bool:=a.getD e.fr.toNat false && b.getD e.fr.toNat false && a.getD e.to.toNat false && b.getD e.to.toNat false
def trimE (a b:List Bool) (e:EdgeD):EdgeD:={ e with fr:=(numK a b e.fr.toNat:Nat),to:=(numK a b e.to.toNat:Nat) }
def trimAB (n:NfaD) (a b:List Bool):NfaD where
 states:=(numK a b n.states.toNat:Nat)
 edges:=(n.edges.filter (goodE a b)).map (trimE a b)
 accept:=(n.accept.filter fun s=>keptS a b s.toNat).map fun s=>(numK a b s.toNat:Int)
noncomputable def trimS (n:NfaD):NfaD:=if nfaOk n then trimAB n (aheadS n) (behindS n) else ⟨0,[],[]⟩
end Go.Proofs.YthojpomoflhbcaaGreatDoor
