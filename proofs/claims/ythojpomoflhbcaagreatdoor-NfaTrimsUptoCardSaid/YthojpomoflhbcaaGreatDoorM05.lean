/- The reference of expressions: the walk over the nodes (see), as data. -/
import Derived.Test.YthojpomoflhbcaaGreatDoorM04
import Derived.Deep.Cut
import Derived.Deep.AppendLies
import Derived.Deep.RegionHeld3
import Derived.Deep.RegionLaw
import Derived.Laws.Rows
import Derived.Test.YthojpomoflhbcaaGreatDoorM00
import Derived.Deep.DrawnRows
import Derived.Deep.LoopGhost
set_option linter.unusedSimpArgs false
set_option linter.unusedVariables false
set_option linter.unnecessarySimpa false
namespace Go.Proofs.YthojpomoflhbcaaGreatDoor
open Go.RowKit
structure Seen where
 n:Nat
 d:Nat
 f:Int
 vs:List ByteArray
 ar:List ByteArray
def stepW (st:Seen) (dp:Nat) (e:Ex):Seen:=⟨st.n+1,max st.d dp,if st.f=0 then nodeS e else st.f,addName [2] st.vs e,addName [3,24] st.ar e⟩
noncomputable def seeS (e:Ex):Nat→Seen→Seen:=e.para fun e rs dp st=>rs.foldl (fun st r=>r (dp+1) st) (stepW st dp e)
theorem seeS_eq (e:Ex) (dp:Nat) (st:Seen):seeS e dp st=e.args.foldl (fun st x=>seeS x (dp+1) st) (stepW st dp e):=by
 unfold seeS
 rw[Ex.para_eq,List.foldl_map]
noncomputable def seeTo (l:List Ex) (dp:Nat) (st:Seen) (k:Nat):Seen:=(l.take k).foldl (fun st x=>seeS x (dp+1) st) st
theorem seeTo_succ (l:List Ex) (dp:Nat) (st:Seen) (k:Nat) (h:k < l.length):seeTo l dp st (k+1)=seeS (l[k]'h) (dp+1) (seeTo l dp st k):=by
 unfold seeTo
 rw[List.take_succ_eq_append_getElem h,List.foldl_append]
 rfl
theorem seeTo_all (e:Ex) (dp:Nat) (st:Seen):seeTo e.args dp (stepW st dp e) e.args.length=seeS e dp st:=by
 rw[seeS_eq];unfold seeTo;rw[List.take_of_length_le (Nat.le_refl _)]
theorem firstE_append (l l':List Ex):firstE (l++l')=if firstE l=0 then firstE l' else firstE l:=by
 induction l with
 | nil=>simp[firstE]
 | cons e l ih =>
  have h1:firstE (e::l++l')=if nodeS e=0 then firstE (l++l') else nodeS e:=rfl
  have h2:firstE (e::l)=if nodeS e=0 then firstE l else nodeS e:=rfl
  by_cases h:nodeS e=0
  ·rw[if_pos h] at h1 h2
   simp only[h1,h2,ih]
  ·rw[if_neg h] at h1 h2
   simp only[h1,h2,if_neg h]
theorem seeS_all (e:Ex):∀ (dp:Nat) (st:Seen),1≤dp→(seeS e dp st).n=st.n+e.nodes.length∧(seeS e dp st).d=max st.d (dp+e.depth - 1)∧(seeS e dp st).f=(if st.f=0 then firstE e.nodes else st.f) ∧
  (seeS e dp st).vs=e.nodes.foldl (addName [2]) st.vs∧(seeS e dp st).ar=e.nodes.foldl (addName [3,24]) st.ar:=by
 induction e using Ex.ind with
 | h e ih =>
  intro dp st hdp
  have key:∀ (l:List Ex),(∀ a,a∈l→a∈e.args)→∀ st:Seen,(l.foldl (fun st x=>seeS x (dp+1) st) st).n=st.n+((l.map Ex.nodes).flatten).length ∧
    (l.foldl (fun st x=>seeS x (dp+1) st) st).d=(l.map Ex.depth).foldl (fun m d=>max m (dp+d)) st.d ∧
    (l.foldl (fun st x=>seeS x (dp+1) st) st).f=(if st.f=0 then firstE ((l.map Ex.nodes).flatten) else st.f) ∧
    (l.foldl (fun st x=>seeS x (dp+1) st) st).vs=((l.map Ex.nodes).flatten).foldl (addName [2]) st.vs ∧
    (l.foldl (fun st x=>seeS x (dp+1) st) st).ar=((l.map Ex.nodes).flatten).foldl (addName [3,24]) st.ar:=by
   intro l
   induction l with
   | nil=>intro _ st;refine⟨rfl,rfl,?_,rfl,rfl⟩;simp[firstE]
   | cons x l ihl =>
    intro hm st
    obtain⟨a1,a2,a3,a4,a5⟩:=ih x (hm x List.mem_cons_self) (dp+1) st (by omega)
    obtain⟨b1,b2,b3,b4,b5⟩:=ihl (fun a ha=>hm a (List.mem_cons_of_mem _ ha)) (seeS x (dp+1) st)
    simp only[List.foldl_cons,List.map_cons,List.flatten_cons,List.length_append,List.foldl_append]
    refine⟨by rw[b1,a1];omega,?_,?_,by rw[b4,a4],by rw[b5,a5]⟩
    ·rw[b2,a2]
     congr 1
     omega
    ·rw[b3,a3,firstE_append]
     by_cases h0:st.f=0
     ·simp[h0]
     ·simp[h0]
  obtain⟨b1,b2,b3,b4,b5⟩:=key e.args (fun _ h=>h) (stepW st dp e)
  rw[seeS_eq,Ex.nodes_eq]
  simp only[List.length_cons,List.foldl_cons]
  refine⟨by rw[b1];simp only[stepW];omega,?_,?_,b4,b5⟩
  ·rw[b2,Ex.depth_eq]
   have hf:∀ (l:List Nat) (m:Nat),l.foldl (fun m d=>max m (dp+d)) (max m dp)=max m (dp+l.foldl max 0):=by
    intro l
    induction l with
    | nil=>intro m;simp
    | cons x l ihl =>
     intro m
     simp only[List.foldl_cons]
     have e1:max (max m dp) (dp+x)=max (max m (dp+x)) dp:=by omega
     rw[e1,ihl,foldl_max l (max 0 x)]
     omega
   simp only[stepW]
   rw[hf]
   omega
  ·rw[b3]
   simp only[stepW,firstE]
   by_cases h0:st.f=0
   ·simp only[h0,if_true]
   ·simp[h0]
theorem seeS_start (e:Ex):seeS e 1 ⟨0,0,0,[],[]⟩=⟨e.nodes.length,e.depth,firstE e.nodes,namesS [2] e,namesS [3,24] e⟩:=by
 obtain⟨a1,a2,a3,a4,a5⟩:=seeS_all e 1 ⟨0,0,0,[],[]⟩ (Nat.le_refl _)
 have hd:1≤e.depth:=by rw[Ex.depth_eq];omega
 cases h:seeS e 1 ⟨0,0,0,[],[]⟩ with
 | mk n d f vs ar =>
  rw[h] at a1 a2 a3 a4 a5
  simp only[Seen.mk.injEq]
  exact⟨by simpa using a1,by have:=a2;simp only at this;omega,by simpa using a3,a4,a5⟩
def InvW (B p:Nat) (st:Seen) (w:World):Prop :=
 B≤p∧∃ v1 v2,w.heap[p]? = some (.cells #[.int .i64 st.n,.int .i64 st.d,.int .i64 st.f,v1,v2] 216 (0,0)) ∧
  w.ownsRow B 9 1 v1 st.vs.length (st.vs.map Value.string)∧w.ownsRow B 9 1 v2 st.ar.length (st.ar.map Value.string)∧(∀ k,v1.ownBlock=some k→v2.ownBlock≠some k)
theorem InvW.keep {B p:Nat} {st:Seen} {w w':World} (h:InvW B p st w) (hb:Below w.heap.size w w'):InvW B p st w':=by
 obtain⟨h0,v1,v2,h1,h2,h3,h4⟩:=h
 exact⟨h0,v1,v2,by rw[hb.block _ (lt_of_block h1)];exact h1,ownsRow_below h2 hb,ownsRow_below h3 hb,h4⟩
end Go.Proofs.YthojpomoflhbcaaGreatDoor
namespace Go.Proofs.YthojpomoflhbcaaGreatDoor
open Go.RowKit
theorem own_step {P:Program} {w:World} {ops:Array Oper} {o:Oper} {a:Act} {K:Act→World→Prop} {Q:Exit→Act→World→Prop} {E:Prop} {t e:TypeId} {size:Nat} (he:Elem P t e size) (hgd:o.guard=none) (s x:Operand)
  (ho:o.op=.call { callee:=.builtin .append,args:=#[s,x],argTypes:=#[t,t] })
  (base:Nat) (v:Value) (n:Nat) (xs:List Value) (hs:a.eval s=v) (hown:w.ownsRow base e size v n xs)
  (news:List Value) (hl:news.length=size) (h1:∀ u∈news,u.oneCell'=true) (k c:Nat) (hx:a.eval x=.slice (some ⟨k,0,none⟩) 1 c) (hk:w.heap[k]? = some (.cells news.toArray e (0,0))) (hn:n≤1073741824) (hbase:base≤w.heap.size) (H:Nat) (hH:w.heap.size=H)
  (h:∀ g cap w',w'.ownsRow base e size (.slice (some ⟨g,0,none⟩) (n+1) cap) (n+1) (xs++news)→w.grownBy w' v.ownBlock→(v.ownBlock=some g∨g=H)→g < w'.heap.size→K (a.put o.dst (.slice (some ⟨g,0,none⟩) (n+1) cap)) w') :
  if Region.wanted o (yielded ops a.tmps)=true then Oper.wp P o a w K Q else E:=by
 obtain⟨ht,i,z,bytes,hi,hz,hsz,hby,hzs,h0,hb⟩:=he
 refine step_append_lies w hgd s x t ho base e i z size bytes ht hi hz hsz hby hzs h0 v n xs hs hown ⟨k,0,none⟩ 1 c news hx (by omega) ?_ h1 (by omega) (by unfold maxLen;omega) ?_ hbase H hH h
 ·have:=World.news_of_block hk
  simpa using this
 ·calc (n+1) * bytes≤1073741825 * 1024:=Nat.mul_le_mul (by omega) hb
   _≤_:=by decide
structure SeeW (B p bx:Nat) (box:Array Value) (w0:World) (cs:Array Value) (v1:Value) (l1:List ByteArray) (v2:Value) (l2:List ByteArray) (w:World):Prop where
 hB:B≤p
 cells:w.heap[p]? = some (.cells cs 216 (0,0))
 own1:w.ownsRow B 9 1 v1 l1.length (l1.map Value.string)
 own2:w.ownsRow B 9 1 v2 l2.length (l2.map Value.string)
 ne:∀ k,v1.ownBlock=some k→v2.ownBlock≠some k
 box:w.heap[bx]? = some (.cells box 24 (0,0))
 kt:KT B w0 w
theorem SeeW.below {B p bx:Nat} {box:Array Value} {w0:World} {cs:Array Value} {v1:Value} {l1:List ByteArray} {v2:Value} {l2:List ByteArray} {w w':World} (h:SeeW B p bx box w0 cs v1 l1 v2 l2 w) (hb:Below w.heap.size w w'):SeeW B p bx box w0 cs v1 l1 v2 l2 w' :=
 ⟨h.hB,by rw[hb.block _ (lt_of_block h.cells)];exact h.cells,ownsRow_below h.own1 hb,ownsRow_below h.own2 hb,h.ne,by rw[hb.block _ (lt_of_block h.box)];exact h.box,h.kt.trans (KT.of_below hb)⟩
theorem SeeW.store {B p bx:Nat} {box:Array Value} {w0:World} {cs:Array Value} {v1:Value} {l1:List ByteArray} {v2:Value} {l2:List ByteArray} {w:World} (h:SeeW B p bx box w0 cs v1 l1 v2 l2 w) (k:Nat) (u:Value):SeeW B p bx box w0 (cs.setIfInBounds k u) v1 l1 v2 l2 (w.setCell ⟨p,k,none⟩ u):=by
 have hne:bx≠p:=by
  rintro rfl
  have:=h.cells.symm.trans h.box
  simp at this
 exact⟨h.hB,heap_setCell_same _ _ _ _ _ u h.cells,ownsRow_store h.own1 h.cells (by decide) _ _,ownsRow_store h.own2 h.cells (by decide) _ _,h.ne,by rw[Below.heap_setCell _ _ _ _ hne];exact h.box,
  h.kt.setCell h.cells (by unfold Still;decide) h.hB _⟩
theorem ownsRow_grown {w w':World} {base:Nat} {e:TypeId} {size:Nat} {v:Value} {n:Nat} {xs:List Value} {row:Option Nat} (h:w.ownsRow base e size v n xs) (hg:w.grownBy w' row) (hne:∀ k,v.ownBlock=some k→some k≠row):w'.ownsRow base e size v n xs:=by
 obtain⟨h1,h2⟩:=h
 refine⟨h1,?_⟩
 rcases h2 with h2 | ⟨g,cap,cur,hv,hb,hh,r⟩
 ·exact Or.inl h2
 ·exact Or.inr ⟨g,cap,cur,hv,hb,by rw[hg.block _ (lt_of_block hh) (hne g (by rw[hv];rfl))];exact hh,r⟩
theorem SeeW.grow1 {B p bx:Nat} {box:Array Value} {w0:World} {cs:Array Value} {v1:Value} {l1:List ByteArray} {v2:Value} {l2:List ByteArray} {w:World} (h:SeeW B p bx box w0 cs v1 l1 v2 l2 w) (s:ByteArray) {wg:World} {gg gcap:Nat}
  (hown:wg.ownsRow B 9 1 (.slice (some ⟨gg,0,none⟩) (l1.length+1) gcap) (l1.length+1) (l1.map Value.string++[.string s])) (hg:((w.alloc (.cells #[.string s] 9)).drew).grownBy wg v1.ownBlock) (hat:v1.ownBlock=some gg∨gg=w.heap.size+1) :
  SeeW B p bx box w0 cs (.slice (some ⟨gg,0,none⟩) (l1++[s]).length gcap) (l1++[s]) v2 l2 wg:=by
 have hBA:Below w.heap.size w (w.alloc (.cells #[.string s] 9)):=(Below.refl _ _).alloc (Nat.le_refl _) _
 have hBA':Below w.heap.size w ((w.alloc (.cells #[.string s] 9)).drew):=below_drewN hBA 1
 have h':=h.below hBA'
 have hz:=h.hB
 have hl:=lt_of_block h.cells
 refine⟨h.hB,?_,?_,?_,?_,?_,?_⟩
 ·rw[hg.block _ (lt_of_block h'.cells) (ownsRow_ne h.own1 h.cells (by decide))];exact h'.cells
 ·simpa using hown
 ·exact ownsRow_grown h'.own2 hg (fun k hk e=>h.ne k e.symm hk)
 ·intro k hk hk2
  have hkg:gg=k:=by simpa [Value.ownBlock] using hk
  subst hkg
  rcases hat with hat | hat
  ·exact h.ne _ hat hk2
  ·have:=(h.own2.lt _ hk2).2
   omega
 ·rw[hg.block _ (lt_of_block h'.box) (ownsRow_ne h.own1 h.box (by decide))];exact h'.box
 ·refine h'.kt.grown hg (fun k hk=>(h.own1.lt k hk).1) ?_
  intro k c t z hk hh hs
  obtain⟨cur,hcur,_⟩:=ownsRow_type h'.own1 hk
  rw[hcur] at hh
  simp only[Option.some.injEq,Obj.cells.injEq] at hh
  rw[← hh.2.1] at hs
  exact absurd hs (by unfold Still;decide)
theorem SeeW.swap {B p bx:Nat} {box:Array Value} {w0:World} {cs:Array Value} {v1:Value} {l1:List ByteArray} {v2:Value} {l2:List ByteArray} {w:World} (h:SeeW B p bx box w0 cs v1 l1 v2 l2 w):SeeW B p bx box w0 cs v2 l2 v1 l1 w :=
 ⟨h.hB,h.cells,h.own2,h.own1,fun k h2 h1=>h.ne k h1 h2,h.box,h.kt⟩
theorem SeeW.inv {B p bx:Nat} {box:Array Value} {w0:World} {st:Seen} {v1 v2:Value} {w:World} (h:SeeW B p bx box w0 #[.int .i64 st.n,.int .i64 st.d,.int .i64 st.f,v1,v2] v1 st.vs v2 st.ar w):InvW B p st w :=
 ⟨h.hB,v1,v2,h.cells,h.own1,h.own2,h.ne⟩
theorem seeTo_bounds (l:List Ex) (dp:Nat) (st:Seen) (k:Nat):k≤l.length→(seeTo l dp st k).n=st.n+(nodesTo l k).length∧(seeTo l dp st k).d≤max st.d (dp+(nodesTo l k).length)∧(seeTo l dp st k).vs.length≤st.vs.length+(nodesTo l k).length∧(seeTo l dp st k).ar.length≤st.ar.length+(nodesTo l k).length:=by
 induction k with
 | zero=>intro _;refine⟨by simp[seeTo,nodesTo],by simp[seeTo,nodesTo];omega,by simp[seeTo,nodesTo],by simp[seeTo,nodesTo]⟩
 | succ k ih =>
  intro hk
  obtain⟨h1,h2,h3,h4⟩:=ih (by omega)
  obtain⟨a1,a2,_,a4,a5⟩:=seeS_all (l[k]'(by omega)) (dp+1) (seeTo l dp st k) (by omega)
  have hd:=depth_le_nodes (l[k]'(by omega))
  have n4:=names_len [2] (l[k]'(by omega)).nodes (seeTo l dp st k).vs
  have n5:=names_len [3,24] (l[k]'(by omega)).nodes (seeTo l dp st k).ar
  rw[seeTo_succ _ _ _ _ (by omega),nodesTo_succ _ _ (by omega),List.length_append,a1,a2,a4,a5]
  refine⟨by omega,by omega,by omega,by omega⟩
set_option maxRecDepth 100000 in
set_option maxHeartbeats 4000000 in
theorem see_any (B p:Nat) (w0:World) (hw0:B=w0.heap.size) (e:Ex):∀ (st:Seen) (dp:Nat) (a:Option Addr) (cap:Nat) (w:World),st.n+e.nodes.length≤1073741824→dp+e.nodes.length≤1073741824→st.d≤1073741824→st.vs.length≤st.n→st.ar.length≤st.n →
  InvW B p st w→Below B w0 w→ExIn w0 e a cap →
  Calls Tryz.prog 236 #[.pointer (some ⟨p,0,none⟩),exVal e a cap,.int .i64 dp] w fun r w'=>r=.returned (.tuple #[])∧InvW B p (seeS e dp st) w'∧KT B w w':=by
 induction e using Ex.ind with
 | h e ih =>
  intro st dp a cap w hn hdp hd hvl hal hI hB hE
  obtain⟨op,n,s,args⟩:=e
  have hlen:=hE.2.2.1
  have hadr:=hE.2.addr
  have hnl:(Ex.mk op n s args).nodes.length=(nodesTo args args.length).length+1:=by rw[nodes_cons];simp[Ex.args_mk]
  have hsz:=hE.1
  simp only[Ex.args_mk,Ex.name_mk] at hlen hadr hsz
  obtain⟨h0,v1,v2,hp,o1,o2,hne⟩:=hI
  have hBA:Below w.heap.size w (w.alloc (.cells #[.int .i64 op,.int .i64 n,.string s,.slice a args.length cap] 24)):=(Below.refl _ _).alloc (Nat.le_refl _) _
  have hS0:SeeW B p w.heap.size #[.int .i64 op,.int .i64 n,.string s,.slice a args.length cap] w #[.int .i64 st.n,.int .i64 st.d,.int .i64 st.f,v1,v2] v1 st.vs v2 st.ar (w.alloc (.cells #[.int .i64 op,.int .i64 n,.string s,.slice a args.length cap] 24)) :=
   ⟨h0,by rw[hBA.block _ (lt_of_block hp)];exact hp,ownsRow_below o1 hBA,ownsRow_below o2 hBA,hne,heap_alloc_new' _ _,KT.of_below hBA⟩
  have HS0:=Lib.hid hS0
  have HN:=Lib.hid (⟨hn,hdp,hvl,hal,hnl⟩:_∧_∧_∧_∧_)
  have HB:=Lib.hid hB
  have HE:=Lib.hid hE
  have HIH:=Lib.hid ih
  have HA:=Lib.hid hadr
  have HW:=Lib.hid hw0
  have hn1:st.n+1≤1073741824:=by omega
  have hdp1:dp≤1073741824:=by omega
  clear hS0 hn hdp hvl hal hnl hB hE ih hadr hw0 hp o1 o2 hne hBA
  simp only[exVal,Ex.op_mk,Ex.n_mk,Ex.name_mk,Ex.args_mk]
  go_enter Tryz.func236, Tryz.ntmps236
  go_upto_region 1 with fail
  generalize w.alloc (.cells #[.int .i64 op,.int .i64 n,.string s,.slice a args.length cap] 24)=wb at HS0⊢
  have hpc:=HS0.out.cells
  have c0:wb.cell? ⟨p,0,none⟩=some (.int .i64 st.n):=by simp[World.cell?,hpc]
  have c1:wb.cell? ⟨p,1,none⟩=some (.int .i64 st.d):=by simp[World.cell?,hpc]
  have f0:wb.frozen? ⟨p,0,none⟩=false:=by simp[World.frozen?,hpc]
  have f1:wb.frozen? ⟨p,1,none⟩=false:=by simp[World.frozen?,hpc]
  clear hpc
  go_upto_if 20 with fail
  go_cut [] from 7 (fun wx=>SeeW B p w.heap.size #[.int .i64 op,.int .i64 n,.string s,.slice a args.length cap] w #[.int .i64 ((st.n+1:Nat):Int),.int .i64 ((max st.d dp:Nat):Int),.int .i64 st.f,v1,v2] v1 st.vs v2 st.ar wx)
  case first =>
   by_cases hdd:st.d < dp
   ·go_wp2_with fail
    go_meet
    case rel =>
     have e1:max st.d dp=dp:=by omega
     rw[e1]
     have:=(HS0.out.store 0 (.int .i64 ((st.n+1:Nat):Int))).store 1 (.int .i64 dp)
     exact this
   ·go_wp2_with fail
    go_meet
    case rel =>
     have e1:max st.d dp=st.d:=by omega
     rw[e1]
     exact HS0.out.store 0 (.int .i64 ((st.n+1:Nat):Int))
  case rest =>
   have hpc:=hcut.cells
   have hbx:=hcut.box
   have c2:wc.cell? ⟨p,2,none⟩=some (.int .i64 st.f):=by simp[World.cell?,hpc]
   have b0:wc.cell? ⟨w.heap.size,0,none⟩=some (.int .i64 op):=by simp[World.cell?,hbx]
   have b1:wc.cell? ⟨w.heap.size,1,none⟩=some (.int .i64 n):=by simp[World.cell?,hbx]
   have b2:wc.cell? ⟨w.heap.size,2,none⟩=some (.string s):=by simp[World.cell?,hbx]
   have b3:wc.cell? ⟨w.heap.size,3,none⟩=some (.slice a args.length cap):=by simp[World.cell?,hbx]
   have HS1:=Lib.hid hcut
   have HWr:=Lib.hid (rwrong_any op n s args a cap wc hsz hlen)
   clear hpc hbx hcut c0 c1 f0 f1 HS0
   have hF:Hid ((stepW st dp (.mk op n s args)).f=if st.f=0 then nodeS (.mk op n s args) else st.f):=rfl
   generalize hff:(stepW st dp (.mk op n s args)).f=ff at hF
   have Hff:=Lib.hid hff
   clear hff
   go_upto_if 29 with fail
   go_cut [] from 7 (fun wx=>SeeW B p w.heap.size #[.int .i64 op,.int .i64 n,.string s,.slice a args.length cap] w #[.int .i64 ((st.n+1:Nat):Int),.int .i64 ((max st.d dp:Nat):Int),.int .i64 ff,v1,v2] v1 st.vs v2 st.ar wx)
   case first =>
    by_cases hf:st.f=0
    ·have e1:Hid (ff=nodeS (.mk op n s args)):=by show _=_;rw[hF.out,if_pos hf]
     have hfb:(st.f == 0)=true:=by simpa using hf
     clear hf
     go_wp2_with fail
     refine HWr.out.mono ?_
     rintro e w2 ⟨rfl,hb2⟩
     have HS2:=Lib.hid (HS1.out.below hb2)
     have f2:w2.frozen? ⟨p,2,none⟩=false:=by simp[World.frozen?,HS2.out.cells]
     have c2':w2.cell? ⟨p,2,none⟩=some (.int .i64 st.f):=by simp[World.cell?,HS2.out.cells]
     clear hb2 c2 b0 b1 b2 b3
     go_wp2_with fail
     go_meet
     case rel =>
      rw[e1.out]
      exact HS2.out.store 2 _
    ·have e1:Hid (ff=st.f):=by show _=_;rw[hF.out,if_neg hf]
     have hfb:(st.f == 0)=false:=by simpa using hf
     clear hf
     go_wp2_with fail
     go_meet
     case rel =>
      rw[e1.out]
      exact HS1.out
   case rest =>
    have hpc:=hcut.cells
    have hbx:=hcut.box
    clear c2 b0 b1 b2 b3 HS1 HWr
    have c3:wc.cell? ⟨p,3,none⟩=some v1:=by simp[World.cell?,hpc]
    have b0:wc.cell? ⟨w.heap.size,0,none⟩=some (.int .i64 op):=by simp[World.cell?,hbx]
    have b2:wc.cell? ⟨w.heap.size,2,none⟩=some (.string s):=by simp[World.cell?,hbx]
    have HS1:=Lib.hid hcut
    have hvl:=HN.out.2.2.1
    obtain⟨ca,ck,hcv,hcs⟩:=strs_of_own hcut.own1 (by omega)
    subst hcv
    have HH:=Lib.hid (fun n=>has_testbenchref08 st.vs ca ck s (wc.drewN n) hcs)
    clear hpc hbx hcut hvl hcs
    go_upto_region 6 with fail
    go_cut [47] from 7 (fun s47 wx=>s47=.bool (op == 2 && !(Lib.containsS st.vs s))∧SeeW B p w.heap.size #[.int .i64 op,.int .i64 n,.string s,.slice a args.length cap] w #[.int .i64 ((st.n+1:Nat):Int),.int .i64 ((max st.d dp:Nat):Int),.int .i64 ff,.slice ca st.vs.length ck,v2] (.slice ca st.vs.length ck) st.vs v2 st.ar wx)
    case first =>
     by_cases h2:op=2
     ·subst h2
      cases hc:Lib.containsS st.vs s
      all_goals
       go_quiet ((go_at_call 270;exact Calls.quiet_of_same ((HH.out _).mono fun e w' h=>⟨by rw[h.1,hc],h.2.symm⟩)))
       go_wp2_with fail
       go_meet
       case rel=>exact⟨by rw[hc];rfl,HS1.out.below (below_drewN (Below.refl _ _) _)⟩
     ·have h2b:(op == 2)=false:=by simpa using h2
      clear h2
      go_quiet (fail)
      go_wp2_with fail
      go_meet
      case rel=>exact⟨by rw[h2b];rfl,HS1.out.below (below_drewN (Below.refl _ _) _)⟩
    case rest =>
     obtain⟨rfl,hS2⟩:=hcut
     have HV:Hid (addName [2] st.vs (.mk op n s args)=if (op == 2 && !(Lib.containsS st.vs s))=true then st.vs++[s] else st.vs):=by
      show _=_
      unfold addName
      rw[Ex.op_mk,Ex.name_mk]
      by_cases h1:op=2<;>cases h2:Lib.containsS st.vs s<;>simp[h1,h2]
     generalize (op == 2 && !(Lib.containsS st.vs s))=bb at HV⊢
     generalize hvs':addName [2] st.vs (.mk op n s args)=vs' at HV
     have Hvs':=Lib.hid hvs'
     clear hvs' HH HS1 c3 b0 b2
     have hpc:=hS2.cells
     have hbx:=hS2.box
     have hvn:=HN.out.2.2.1
     have hvn':st.vs.length≤1073741824:=by omega
     have c3:wc.cell? ⟨p,3,none⟩=some (.slice ca st.vs.length ck):=by simp[World.cell?,hpc]
     have f3:wc.frozen? ⟨p,3,none⟩=false:=by simp[World.frozen?,hpc]
     have b2:wc.cell? ⟨w.heap.size,2,none⟩=some (.string s):=by simp[World.cell?,hbx]
     have HS2:=Lib.hid hS2
     have hplt:=lt_of_block hpc
     have hblt:=lt_of_block hbx
     have hBz:B≤wc.heap.size:=by have:=hS2.hB;omega
     have hnp:=ownsRow_ne hS2.own1 hpc (by decide)
     have hnb:=ownsRow_ne hS2.own1 hbx (by decide)
     clear hpc hbx hS2 hvn
     go_upto_if 47 with fail
     go_cut [] from 7 (fun wx=>∃ (c1:Option Addr) (k1:Nat),SeeW B p w.heap.size #[.int .i64 op,.int .i64 n,.string s,.slice a args.length cap] w #[.int .i64 ((st.n+1:Nat):Int),.int .i64 ((max st.d dp:Nat):Int),.int .i64 ff,.slice c1 vs'.length k1,v2] (.slice c1 vs'.length k1) vs' v2 st.ar wx)
     case first =>
      cases bb
      ·have e1:vs'=st.vs:=by rw[HV.out];simp
       go_wp2_with fail
       go_meet
       case rel=>exact⟨ca,ck,by rw[e1];exact HS2.out⟩
      ·have e1:vs'=st.vs++[s]:=by rw[HV.out];simp
       have He1:=Lib.hid e1
       clear e1
       go_wp2_with fail
       have c3o:∀ o,(wc.alloc o).cell? ⟨p,3,none⟩=some (.slice ca st.vs.length ck):=fun o=>(World.cell?_alloc_lt _ _ _ hplt).trans c3
       go_region_law ((refine own_step elemS (by rfl) _ _ (by rfl) B (.slice ca st.vs.length ck) st.vs.length (st.vs.map Value.string) (by rfl) ((HS2.out.own1.alloc _).drew) [.string s] (by rfl) (by simp[Value.oneCell']) wc.heap.size 1 (by rfl) (heap_alloc_new' wc _) hvn' (by simp;omega) (wc.heap.size+1) (by simp) ?_;intro gg gcap wg hownG hgrow hatG hltG;have f3g:wg.frozen? ⟨p,3,none⟩=false:=((hgrow.frozen_far ⟨p,3,none⟩ (by simp;omega) hnp).trans (World.frozen?_alloc_old _ _ _ (Nat.ne_of_lt hplt))).trans f3;have c3g:wg.cell? ⟨p,3,none⟩=some (.slice ca st.vs.length ck):=(hgrow.cell_far ⟨p,3,none⟩ (by simp;omega) hnp).trans (c3o _)))
       all_goals go_wp2_with fail
       all_goals go_meet
       all_goals exact⟨some ⟨gg,0,none⟩,gcap,by rw[He1.out];have:=((HS2.out.grow1 s hownG hgrow hatG).store 3 (.slice (some ⟨gg,0,none⟩) (st.vs.length+1) gcap));simpa using this⟩
     case rest =>
      obtain⟨cv1,kv1,hS3⟩:=hcut
      clear c3 f3 b2 HS2 hplt hblt hnp hnb hvn' hF
      have hpc:=hS3.cells
      have hbx:=hS3.box
      have hal:=HN.out.2.2.2.1
      have hal':st.ar.length≤1073741824:=by omega
      obtain⟨da,dk,hdv,hds⟩:=strs_of_own hS3.own2 hal'
      subst hdv
      have c4:wc.cell? ⟨p,4,none⟩=some (.slice da st.ar.length dk):=by simp[World.cell?,hpc]
      have b0:wc.cell? ⟨w.heap.size,0,none⟩=some (.int .i64 op):=by simp[World.cell?,hbx]
      have b2:wc.cell? ⟨w.heap.size,2,none⟩=some (.string s):=by simp[World.cell?,hbx]
      have HS3:=Lib.hid hS3
      have HH:=Lib.hid (fun n=>has_testbenchref08 st.ar da dk s (wc.drewN n) hds)
      clear hpc hbx hS3 hal hds
      go_upto_region 8 with fail
      go_cut [76] from 7 (fun s76 wx=>s76=.bool ((op == 3 || op == 24) && !(Lib.containsS st.ar s))∧SeeW B p w.heap.size #[.int .i64 op,.int .i64 n,.string s,.slice a args.length cap] w #[.int .i64 ((st.n+1:Nat):Int),.int .i64 ((max st.d dp:Nat):Int),.int .i64 ff,.slice cv1 vs'.length kv1,.slice da st.ar.length dk] (.slice cv1 vs'.length kv1) vs' (.slice da st.ar.length dk) st.ar wx)
      case first =>
       by_cases h3:op=3
       ·subst h3
        cases hc:Lib.containsS st.ar s
        all_goals
         go_quiet ((go_at_call 270;exact Calls.quiet_of_same ((HH.out _).mono fun e w' h=>⟨by rw[h.1,hc],h.2.symm⟩)))
         go_wp2_with fail
         go_meet
         case rel=>exact⟨by rw[hc];rfl,HS3.out.below (below_drewN (Below.refl _ _) _)⟩
       ·have h3b:(op == 3)=false:=by simpa using h3
        clear h3
        by_cases h4:op=24
        ·subst h4
         cases hc:Lib.containsS st.ar s
         all_goals
          go_quiet ((go_at_call 270;exact Calls.quiet_of_same ((HH.out _).mono fun e w' h=>⟨by rw[h.1,hc],h.2.symm⟩)))
          go_wp2_with fail
          go_meet
          case rel=>exact⟨by rw[hc];rfl,HS3.out.below (below_drewN (Below.refl _ _) _)⟩
        ·have h4b:(op == 24)=false:=by simpa using h4
         clear h4
         go_quiet (fail)
         go_wp2_with fail
         go_meet
         case rel=>exact⟨by rw[h3b,h4b];rfl,HS3.out.below (below_drewN (Below.refl _ _) _)⟩
      case rest =>
       obtain⟨rfl,hS4⟩:=hcut
       have HAr:Hid (addName [3,24] st.ar (.mk op n s args)=if ((op == 3 || op == 24) && !(Lib.containsS st.ar s))=true then st.ar++[s] else st.ar):=by
        show _=_
        unfold addName
        rw[Ex.op_mk,Ex.name_mk]
        by_cases h1:op=3<;>by_cases h3:op=24<;>cases h2:Lib.containsS st.ar s<;>simp[h1,h2,h3]
       generalize ((op == 3 || op == 24) && !(Lib.containsS st.ar s))=bb2 at HAr⊢
       generalize har':addName [3,24] st.ar (.mk op n s args)=ar' at HAr
       have Har':=Lib.hid har'
       clear har' HH HS3 c4 b0 b2
       have hpc:=hS4.cells
       have hbx:=hS4.box
       have c4:wc.cell? ⟨p,4,none⟩=some (.slice da st.ar.length dk):=by simp[World.cell?,hpc]
       have f4:wc.frozen? ⟨p,4,none⟩=false:=by simp[World.frozen?,hpc]
       have b2:wc.cell? ⟨w.heap.size,2,none⟩=some (.string s):=by simp[World.cell?,hbx]
       have HS4:=Lib.hid hS4.swap
       have hplt:=lt_of_block hpc
       have hBz:B≤wc.heap.size:=by have:=hS4.hB;omega
       have hnp:=ownsRow_ne hS4.own2 hpc (by decide)
       clear hpc hbx hS4
       go_upto_if 76 with fail
       go_cut [] from 7 (fun wx=>∃ (c2:Option Addr) (k2:Nat),SeeW B p w.heap.size #[.int .i64 op,.int .i64 n,.string s,.slice a args.length cap] w #[.int .i64 ((st.n+1:Nat):Int),.int .i64 ((max st.d dp:Nat):Int),.int .i64 ff,.slice cv1 vs'.length kv1,.slice c2 ar'.length k2] (.slice cv1 vs'.length kv1) vs' (.slice c2 ar'.length k2) ar' wx)
       case first =>
        cases bb2
        ·have e1:ar'=st.ar:=by rw[HAr.out];simp
         go_wp2_with fail
         go_meet
         case rel=>exact⟨da,dk,by rw[e1];exact HS4.out.swap⟩
        ·have e1:ar'=st.ar++[s]:=by rw[HAr.out];simp
         have He1:=Lib.hid e1
         clear e1
         go_wp2_with fail
         have c4o:∀ o,(wc.alloc o).cell? ⟨p,4,none⟩=some (.slice da st.ar.length dk):=fun o=>(World.cell?_alloc_lt _ _ _ hplt).trans c4
         go_region_law ((refine own_step elemS (by rfl) _ _ (by rfl) B (.slice da st.ar.length dk) st.ar.length (st.ar.map Value.string) (by rfl) ((HS4.out.own1.alloc _).drew) [.string s] (by rfl) (by simp[Value.oneCell']) wc.heap.size 1 (by rfl) (heap_alloc_new' wc _) hal' (by simp;omega) (wc.heap.size+1) (by simp) ?_;intro gg gcap wg hownG hgrow hatG hltG;have f4g:wg.frozen? ⟨p,4,none⟩=false:=((hgrow.frozen_far ⟨p,4,none⟩ (by simp;omega) hnp).trans (World.frozen?_alloc_old _ _ _ (Nat.ne_of_lt hplt))).trans f4;have c4g:wg.cell? ⟨p,4,none⟩=some (.slice da st.ar.length dk):=(hgrow.cell_far ⟨p,4,none⟩ (by simp;omega) hnp).trans (c4o _)))
         all_goals go_wp2_with fail
         all_goals go_meet
         all_goals exact⟨some ⟨gg,0,none⟩,gcap,by rw[He1.out];have:=((HS4.out.grow1 s hownG hgrow hatG).store 4 (.slice (some ⟨gg,0,none⟩) (st.ar.length+1) gcap)).swap;simpa using this⟩
       case rest =>
        obtain⟨cv2,kv2,hS5⟩:=hcut
        have HST:Hid (stepW st dp (.mk op n s args)=⟨st.n+1,max st.d dp,ff,vs',ar'⟩):=by
         show _=_
         rw[← Hff.out,← Hvs'.out,← Har'.out];rfl
        have hI5:InvW B p (stepW st dp (.mk op n s args)) wc:=by rw[HST.out];exact SeeW.inv (st:=⟨st.n+1,max st.d dp,ff,vs',ar'⟩) hS5
        have HI5:=Lib.hid (⟨hI5,hS5.kt,hS5.box⟩:_∧_∧_)
        have hBw:B≤w.heap.size:=Nat.le_trans (Nat.le_of_eq HW.out) HB.out.size
        have HBN:Hid ((stepW st dp (.mk op n s args)).n=st.n+1∧(stepW st dp (.mk op n s args)).d=max st.d dp∧(stepW st dp (.mk op n s args)).vs.length≤st.n+1∧(stepW st dp (.mk op n s args)).ar.length≤st.n+1):=by
         refine⟨rfl,rfl,?_,?_⟩
         ·have:=addName_len [2] st.vs (.mk op n s args)
          have:=HN.out.2.2.1
          simp only[stepW];omega
         ·have:=addName_len [3,24] st.ar (.mk op n s args)
          have:=HN.out.2.2.2.1
          simp only[stepW];omega
        clear hS5 hI5 c4 f4 b2 HS4 hplt hBz hnp hal' HAr Har' Hvs' HV Hff HST
        generalize hst1:stepW st dp (.mk op n s args)=st1 at HI5 HBN
        have Hst1:=Lib.hid hst1
        clear hst1
        go_wp2_with fail
        go_loopw [6] (fun i wr=>∃ k:Nat,i=.int .i64 k∧k≤args.length∧InvW B p (seeTo args dp st1 k) wr∧KT B w wr∧wr.heap[w.heap.size]? = some (.cells #[.int .i64 op,.int .i64 n,.string s,.slice a args.length cap] 24 (0,0))) (fun i _=>args.length - (intOf i).toNat)
        case atStart=>exact⟨0,rfl,Nat.zero_le _,HI5.out.1,HI5.out.2.1,HI5.out.2.2⟩
        case round =>
         obtain⟨k,rfl,hk,hIr,hKr,hbx⟩:=hrel
         have hBr:=HB.out.trans ((hKr.below hBw).mono (Nat.le_refl _))
         have b3:wr.cell? ⟨w.heap.size,3,none⟩=some (.slice a args.length cap):=by simp[World.cell?,hbx]
         by_cases hlt:k < args.length
         ·obtain⟨b,off,ha⟩:=HA.out.resolve_left (by omega)
          subst ha
          obtain⟨a',cap',g0,g1,g2,g3,hX⟩:=HE.out.2.get rfl hlt
          have kk:∀ a v,w0.cell? a=some v→wr.cell? a=some v:=fun q v hq=>(hBr.cell (Nat.lt_of_lt_of_le (World.block_lt_of_cell? _ _ hq) (Nat.le_of_eq HW.out.symm))).trans hq
          have c0:=kk _ _ g0
          have c1:=kk _ _ g1
          have c2:=kk _ _ g2
          have c3:=kk _ _ g3
          simp only[Ex.args_mk] at c0 c1 c2 c3
          have hm:args[k]∈(Ex.mk op n s args).args:=List.getElem_mem hlt
          obtain⟨t1,t2,t3,t4⟩:=seeTo_bounds args dp st1 k hk
          have hrm:=nodes_room args k hlt
          have hn':=HN.out
          have hbn:=HBN.out
          have hC:=HIH.out _ hm (seeTo args dp st1 k) (dp+1) a' cap' wr (by omega) (by omega) (by omega) (by omega) (by omega) hIr hBr hX
          have HC:=Lib.hid hC
          simp only[Ex.args_mk,exVal] at HC
          rw[show ((dp+1:Nat):Int)=(dp:Int)+1 from by omega] at HC
          have HR:=Lib.hid (⟨hKr,hbx⟩:_∧_)
          have HSu:=Lib.hid (seeTo_succ args dp st1 k hlt)
          clear g0 g1 g2 g3 kk hC hrm hn' hbn t1 t2 t3 t4 hX hIr hKr hBr hbx hm
          go_wp2_with fail
          refine HC.out.mono ?_
          rintro e w2 ⟨rfl,hI2,hK2⟩
          have H2:=Lib.hid (⟨hI2,hK2⟩:_∧_)
          clear hI2 hK2 c0 c1 c2 c3 b3
          go_wp2_with fail
          go_roundw
          case rel=>exact⟨k+1,by go_num,by omega,by rw[HSu.out];exact H2.out.1,HR.out.1.trans H2.out.2,H2.out.2.typed _ _ _ _ HR.out.2 (Or.inl rfl)⟩
          case measure=>simp[intOf];omega
         ·obtain rfl:k=args.length:=by omega
          have HE':=Lib.hid (⟨hIr,hKr⟩:_∧_)
          have HSA:=Lib.hid (seeTo_all (.mk op n s args) dp st)
          clear hIr hKr hBr hbx
          go_wp2_with fail
          go_end0
          refine⟨rfl,?_,HE'.out.2⟩
          have h1:=HE'.out.1
          rw[← Hst1.out] at h1
          rw[← HSA.out]
          exact h1
end Go.Proofs.YthojpomoflhbcaaGreatDoor
namespace Go.Proofs.YthojpomoflhbcaaGreatDoor
open Go.RowKit
def intOf:Value→Int
 | .int _ q=>q
 | _=>0
theorem cell_of_blkT {W:World} {k:Nat} {c:Array Value} {t:TypeId} {fz:Nat × Nat} (h:W.heap[k]? = some (.cells c t fz)) (o:Nat):W.cell? ⟨k,o,none⟩=c[o]?:=by simp[World.cell?,h]
end Go.Proofs.YthojpomoflhbcaaGreatDoor
namespace Go.Proofs.YthojpomoflhbcaaGreatDoor
open Go.RowKit
theorem lt_cell {w:World} {a:Addr} {v:Value} (h:w.cell? a=some v):a.block < w.heap.size:=by
 unfold World.cell? at h
 split at h
 ·rename_i hb
  exact lt_of_block hb
 ·simp at h
def World.hide (w:World) (p:Nat→Bool):World:={ w with heap:=w.heap.mapIdx fun k o=>if p k then .cells #[] 0 else o }
theorem cell_hide {w:World} {p:Nat→Bool} {a:Addr} {v:Value}:(World.hide w p).cell? a=some v↔p a.block=false∧w.cell? a=some v:=by
 unfold World.hide World.cell?
 simp only[Array.getElem?_mapIdx]
 cases h:w.heap[a.block]? with
 | none=>simp
 | some o =>
  cases hp:p a.block with
  | false=>simp
  | true=>simp
theorem hide_cell {w:World} {p:Nat→Bool}:∀ a v,(World.hide w p).cell? a=some v→w.cell? a=some v:=fun _ _ h=>(cell_hide.1 h).2
theorem hide_mono {w:World} {p q:Nat→Bool} (h:∀ k,p k=true→q k=true):∀ a v,(World.hide w q).cell? a=some v→(World.hide w p).cell? a=some v:=fun a _ ha =>
 cell_hide.2 ⟨by
  cases hp:p a.block with
  | false=>rfl
  | true=>have:=h _ hp;rw[(cell_hide.1 ha).1] at this;simp at this,(cell_hide.1 ha).2⟩
theorem hide_old {w0 w:World} {p:Nat→Bool} (h:Below w0.heap.size w0 w) (hp:∀ k,k < w0.heap.size→p k=false):∀ a v,w0.cell? a=some v→(World.hide w p).cell? a=some v:=fun _ _ ha =>
 cell_hide.2 ⟨hp _ (lt_cell ha),keeps_of_below h _ _ ha⟩
theorem hide_below {w w':World} {p q:Nat→Bool} (h:Below w.heap.size w w') (hq:∀ k,k < w.heap.size→q k=true→p k=true):∀ a v,(World.hide w p).cell? a=some v→(World.hide w' q).cell? a=some v:=by
 intro a v ha
 obtain⟨h1,h2⟩:=cell_hide.1 ha
 refine cell_hide.2 ⟨?_,keeps_of_below h _ _ h2⟩
 cases hp:q a.block with
 | false=>rfl
 | true=>have:=hq _ (lt_cell h2) hp;rw[h1] at this;simp at this
theorem hide_grown {w w':World} {row:Option Nat} {p q:Nat→Bool} (h:w.grownBy w' row) (hr:∀ k,row=some k→p k=true) (hq:∀ k,k < w.heap.size→q k=true→p k=true):∀ a v,(World.hide w p).cell? a=some v→(World.hide w' q).cell? a=some v:=by
 intro a v ha
 obtain⟨h1,h2⟩:=cell_hide.1 ha
 have hlt:=lt_cell h2
 have hne:some a.block≠row:=fun e=>by have:=hr _ e.symm;rw[h1] at this;simp at this
 refine cell_hide.2 ⟨?_,?_⟩
 ·cases hp:q a.block with
  | false=>rfl
  | true=>have:=hq _ hlt hp;rw[h1] at this;simp at this
 ·rw[World.cell?_of_block (h.block _ hlt hne)]
  exact h2
theorem hide_store {w:World} {p:Nat→Bool} {k o:Nat} {u:Value} (hk:p k=true):∀ a v,(World.hide w p).cell? a=some v→(World.hide (w.setCell ⟨k,o,none⟩ u) p).cell? a=some v:=by
 intro a v ha
 obtain⟨h1,h2⟩:=cell_hide.1 ha
 have hne:a.block≠k:=fun e=>by rw[e,hk] at h1;simp at h1
 refine cell_hide.2 ⟨h1,?_⟩
 unfold World.cell? at h2⊢
 rw[Below.heap_setCell _ _ _ _ hne]
 exact h2
def old (B:Nat):Nat→Bool:=fun k=>decide (k < B)
theorem old_true {B k:Nat}:old B k=true↔k < B:=by simp[old]
end Go.Proofs.YthojpomoflhbcaaGreatDoor
namespace Go.Proofs.YthojpomoflhbcaaGreatDoor
open Go.RowKit
def Kp (H H':World):Prop:=∀ a v,H.cell? a=some v→H'.cell? a=some v
theorem Kp.refl (H:World):Kp H H:=fun _ _ h=>h
theorem Kp.trans {H H' H2:World} (h:Kp H H') (h':Kp H' H2):Kp H H2:=fun a v x=>h' a v (h a v x)
structure Enc (τ:Type) where
 sz:Nat
 R:World→τ→List Value→Prop
 pos:0 < sz
 len:∀ {w x vs},R w x vs→vs.length=sz
 keep:∀ {w w':World} {x vs},Kp w w'→R w x vs→R w' x vs
 one:∀ {w x vs},R w x vs→∀ v∈vs,v.oneCell'=true
section
variable {τ : Type} {E : Enc τ} {w w' : World} {l l' : List τ} {xs ys : List Value}
def Enc.At (E:Enc τ) (w:World) (x:τ) (b o:Nat):Prop:=∃ vs,E.R w x vs∧∀ (j:Nat) (v:Value),vs[j]? = some v→w.cell? ⟨b,o+j,none⟩=some v
theorem Enc.At.keep {x:τ} {b o:Nat} (h:E.At w x b o) (hk:Kp w w'):E.At w' x b o:=by
 obtain⟨vs,h1,h2⟩:=h
 exact⟨vs,E.keep hk h1,fun j v hv=>hk _ _ (h2 j v hv)⟩
def Enc.In (E:Enc τ) (w:World) (l:List τ) (a:Option Addr) (cap:Nat):Prop:=SliceIn E.sz l.length a cap (fun i b o=>∃ x,l[i]? = some x∧E.At w x b o)
theorem Enc.In.keep {a:Option Addr} {cap:Nat} (h:E.In w l a cap) (hk:Kp w w'):E.In w' l a cap:=h.mono fun _ _ _ _ ⟨x,h1,h2⟩=>⟨x,h1,h2.keep hk⟩
theorem Enc.In.nil (w:World):E.In w [] none 0:=⟨Nat.le_refl _,by simp,Or.inl rfl⟩
theorem Enc.In.len {a:Option Addr} {cap:Nat} (h:E.In w l a cap):l.length≤1073741824:=h.2.1
theorem Enc.In.cap {a:Option Addr} {cap:Nat} (h:E.In w l a cap):l.length≤cap:=h.1
theorem Enc.In.addr {a:Option Addr} {cap:Nat} (h:E.In w l a cap):l.length=0∨∃ b off,a=some ⟨b,off,none⟩:=SliceIn.addr h
theorem Enc.In.get {a:Option Addr} {cap:Nat} (h:E.In w l a cap) {b off:Nat} (ha:a=some ⟨b,off,none⟩) {i:Nat} (hi:i < l.length):E.At w (l[i]'hi) b (off+i * E.sz):=by
 rcases h.2.2 with h | ⟨b',off',ha',hq⟩
 ·omega
 ·rw[ha] at ha'
  simp only[Option.some.injEq,Addr.mk.injEq,and_true] at ha'
  obtain⟨rfl,rfl⟩:=ha'
  obtain⟨x,hx,h1⟩:=hq i hi
  rw[List.getElem?_eq_getElem hi] at hx
  obtain rfl:=Option.some.inj hx
  exact h1
def Enc.Vals (E:Enc τ) (w:World) (l:List τ) (xs:List Value):Prop:=xs.length=l.length * E.sz∧∀ i (h:i < l.length),∃ vs,E.R w (l[i]'h) vs∧∀ (j:Nat) (v:Value),vs[j]? = some v→xs[i * E.sz+j]? = some v
theorem Enc.Vals.nil (w:World):E.Vals w [] []:=⟨by simp,fun i h=>by simp at h⟩
theorem Enc.Vals.keep (h:E.Vals w l xs) (hk:Kp w w'):E.Vals w' l xs:=⟨h.1,fun i hi=>by obtain⟨vs,h1,h2⟩:=h.2 i hi;exact⟨vs,E.keep hk h1,h2⟩⟩
theorem Enc.Vals.one {x:τ} {vs:List Value} (h:E.R w x vs):E.Vals w [x] vs:=by
 refine⟨by rw[E.len h];simp,fun i hi=>?_⟩
 have:i=0:=by simpa using hi
 subst this
 exact⟨vs,h,fun j v hv=>by rw[Nat.zero_mul,Nat.zero_add];exact hv⟩
theorem Enc.Vals.append (h:E.Vals w l xs) (h':E.Vals w l' ys):E.Vals w (l++l') (xs++ys):=by
 have hx:=h.1
 refine⟨by rw[List.length_append,List.length_append,h.1,h'.1,Nat.add_mul],fun i hi=>?_⟩
 by_cases hl:i < l.length
 ·obtain⟨vs,h1,h2⟩:=h.2 i hl
  rw[List.getElem_append_left hl]
  exact⟨vs,h1,fun j v hv=>by
   have:=h2 j v hv
   rw[List.getElem?_append_left (List.getElem?_eq_some_iff.1 this).1];exact this⟩
 ·have hi':i - l.length < l'.length:=by rw[List.length_append] at hi;omega
  obtain⟨vs,h1,h2⟩:=h'.2 (i - l.length) hi'
  rw[List.getElem_append_right (by omega)]
  refine⟨vs,h1,fun j v hv=>?_⟩
  have hm:l.length * E.sz≤i * E.sz:=Nat.mul_le_mul_right _ (by omega)
  rw[List.getElem?_append_right (by omega),show i * E.sz+j - xs.length=(i - l.length) * E.sz+j from by rw[hx,Nat.sub_mul];omega]
  exact h2 j v hv
theorem Enc.Vals.cells (h:E.Vals w l xs):∀ v∈xs,v.oneCell'=true:=by
 intro v hv
 obtain⟨k,hk,rfl⟩:=List.getElem_of_mem hv
 have hp:=E.pos
 have hi:k / E.sz < l.length:=by
  rw[Nat.div_lt_iff_lt_mul hp];rw[h.1] at hk;exact hk
 obtain⟨vs,h1,h2⟩:=h.2 _ hi
 have hj:k % E.sz < vs.length:=by rw[E.len h1];exact Nat.mod_lt _ hp
 have:=h2 _ _ (List.getElem?_eq_getElem hj)
 rw[show k / E.sz * E.sz+k % E.sz=k from by rw[Nat.mul_comm];exact Nat.div_add_mod _ _,List.getElem?_eq_getElem hk] at this
 rw[Option.some.inj this]
 exact E.one h1 _ (List.getElem_mem hj)
theorem Enc.In.row {b off cap:Nat} (h:E.In w l (some ⟨b,off,none⟩) cap):∃ xs,E.Vals w l xs∧∀ (j:Nat) (v:Value),xs[j]? = some v→w.cell? ⟨b,off+j,none⟩=some v:=by
 suffices hs:∀ n,n≤l.length→∃ xs,E.Vals w (l.take n) xs∧∀ (j:Nat) (v:Value),xs[j]? = some v→w.cell? ⟨b,off+j,none⟩=some v by
  obtain⟨xs,h1⟩:=hs l.length (Nat.le_refl _)
  rw[List.take_of_length_le (Nat.le_refl _)] at h1
  exact⟨xs,h1⟩
 intro n
 induction n with
 | zero=>intro _;exact⟨[],by rw[List.take_zero];exact Enc.Vals.nil _,fun j v hv=>by simp at hv⟩
 | succ n ih =>
  intro hn
  obtain⟨xs,h1,h2⟩:=ih (by omega)
  obtain⟨vs,h3,h4⟩:=h.get rfl (i:=n) (by omega)
  have e:l.take (n+1)=l.take n++[l[n]'(by omega)]:=by rw[List.take_succ_eq_append_getElem]
  have hx:xs.length=n * E.sz:=by rw[h1.1,List.length_take,Nat.min_eq_left (by omega)]
  refine⟨xs++vs,by rw[e];exact h1.append (Enc.Vals.one h3),fun j v hv=>?_⟩
  by_cases hj:j < xs.length
  ·rw[List.getElem?_append_left hj] at hv;exact h2 j v hv
  ·rw[List.getElem?_append_right (by omega)] at hv
   have:=h4 _ _ hv
   rw[show off+n * E.sz+(j - xs.length)=off+j from by omega] at this
   exact this
theorem Enc.Vals.in {b off cap:Nat} (h:E.Vals w l xs) (hc:∀ (j:Nat) (v:Value),xs[j]? = some v→w.cell? ⟨b,off+j,none⟩=some v) (hn:l.length≤1073741824) (hcap:l.length≤cap):E.In w l (some ⟨b,off,none⟩) cap:=by
 refine⟨hcap,hn,Or.inr ⟨b,off,rfl,fun i hi=>?_⟩⟩
 obtain⟨vs,h1,h2⟩:=h.2 i hi
 exact⟨_,List.getElem?_eq_getElem hi,vs,h1,fun j v hv=>by
  have:=hc _ _ (h2 j v hv)
  rwa [← Nat.add_assoc] at this⟩
def hid (p:Nat→Bool) (v:Value):Nat→Bool:=fun k=>p k || v.ownBlock == some k
theorem hid_true {p:Nat→Bool} {v:Value} {k:Nat}:hid p v k=true↔p k=true∨v.ownBlock=some k:=by simp[hid]
def Enc.Own (E:Enc τ) (t:TypeId) (p:Nat→Bool) (w:World) (B:Nat) (v:Value) (l:List τ):Prop:=∃ xs,w.ownsRow B t E.sz v l.length xs∧E.Vals (World.hide w (hid p v)) l xs
theorem Enc.Own.nil (E:Enc τ) (t:TypeId) (p:Nat→Bool) (w:World) (B:Nat):E.Own t p w B (.slice none 0 0) []:=⟨[],World.ownsRow_nil _ _ _ _,Enc.Vals.nil _⟩
theorem Enc.Own.below {t:TypeId} {p:Nat→Bool} {B:Nat} {v:Value} (h:E.Own t p w B v l) (hb:Below w.heap.size w w'):E.Own t p w' B v l:=by
 obtain⟨xs,h1,h2⟩:=h
 exact⟨xs,ownsRow_below h1 hb,h2.keep (hide_below hb fun _ _ h=>h)⟩
theorem Enc.Own.grown {t:TypeId} {p:Nat→Bool} {B:Nat} {v:Value} {row:Option Nat} (h:E.Own t p w B v l) (hg:w.grownBy w' row) (hr:∀ k,row=some k→p k=true∧v.ownBlock≠some k):E.Own t p w' B v l:=by
 obtain⟨xs,h1,h2⟩:=h
 refine⟨xs,h1.kept hg (by
  cases hv:v.ownBlock with
  | none=>exact Or.inl rfl
  | some k=>exact Or.inr fun e=>(hr k e.symm).2 hv),h2.keep (hide_grown hg (fun k hk=>?_) fun _ _ h=>h)⟩
 exact hid_true.2 (Or.inl (hr k hk).1)
theorem Enc.Own.slice {t:TypeId} {p:Nat→Bool} {B:Nat} {v:Value} (h:E.Own t p w B v l) (hn:l.length≤1073741824):∃ a cap,v=.slice a l.length cap∧E.In w l a cap:=by
 obtain⟨xs,h1,h2⟩:=h
 obtain⟨a,cap,rfl,hs⟩:=slice_of_own h1 hn
 refine⟨a,cap,rfl,hs.mono fun i b o hi hq=>?_⟩
 obtain⟨vs,h3,h4⟩:=h2.2 i hi
 exact⟨_,List.getElem?_eq_getElem hi,vs,E.keep hide_cell h3,fun j u hu=>(hq j (by have:=E.len h3;have:=(List.getElem?_eq_some_iff.1 hu).1;omega)).trans (h4 j u hu)⟩
theorem Enc.Own.sliceP {t:TypeId} {p:Nat→Bool} {B:Nat} {v:Value} (h:E.Own t p w B v l) (hn:l.length≤1073741824) (hp:∀ k,B≤k→p k=false):∃ a cap,v=.slice a l.length cap∧E.In (World.hide w p) l a cap:=by
 have hlt:∀ k,v.ownBlock=some k→B≤k:=fun k hk=>by obtain⟨xs,h1,_⟩:=h;exact(h1.lt k hk).1
 obtain⟨xs,h1,h2⟩:=h
 obtain⟨a,cap,rfl,hs⟩:=slice_of_own h1 hn
 refine⟨a,cap,rfl,hs.1,hs.2.1,hs.2.2.imp id ?_⟩
 rintro ⟨b,off,rfl,hq⟩
 have hb:B≤b:=by
  rcases h1.2 with ⟨h3,_⟩ | ⟨g,cap',cur,h3,_⟩
  ·simp at h3
  ·exact hlt b rfl
 refine⟨b,off,rfl,fun i hi=>?_⟩
 obtain⟨vs,h3,h4⟩:=h2.2 i hi
 exact⟨_,List.getElem?_eq_getElem hi,vs,E.keep (hide_mono fun k hk=>hid_true.2 (Or.inl hk)) h3,fun j u hu=>cell_hide.2 ⟨hp b hb,(hq i hi j (by have:=E.len h3;have:=(List.getElem?_eq_some_iff.1 hu).1;omega)).trans (h4 j u hu)⟩⟩
end
end Go.Proofs.YthojpomoflhbcaaGreatDoor
