/- The reference of expressions: see. -/
import Derived.Test.YtcplmcjbkpmhdaaGreatDoorKE
import Derived.Deep.Cut
import Derived.Deep.AppendLies
import Derived.Deep.RegionHeld3
import Derived.Deep.RegionLaw
import Derived.Laws.Rows
set_option linter.unusedSimpArgs false
set_option linter.unusedVariables false
set_option linter.unnecessarySimpa false
namespace Go.Proofs.YtcplmcjbkpmhdaaGreatDoor
open Go.RowKit
theorem own_step {P:Program} {w:World} {ops:Array Oper} {o:Oper} {a:Act} {K:Act→World→Prop} {Q:Exit→Act→World→Prop} {E:Prop} {t e:TypeId} {size:Nat} (he:Elem P t e size) (hgd:o.guard=none) (s x:Operand)
  (ho:o.op=.call { callee:=.builtin .append,args:=#[s,x],argTypes:=#[t,t] })
  (base:Nat) (v:Value) (n:Nat) (xs:List Value) (hs:a.eval s=v) (hown:w.ownsRow base e size v n xs)
  (news:List Value) (hl:news.length=size) (h1:∀ u∈news,u.oneCell'=true) (k c:Nat) (hx:a.eval x=.slice (some ⟨k,0,none⟩) 1 c) (hk:w.heap[k]? = some (.cells news.toArray e (0,0))) (hn:n≤1073741824) (hbase:base≤w.heap.size) (H:Nat) (hH:w.heap.size=H)
  (h:∀ g cap w',w'.ownsRow base e size (.slice (some ⟨g,0,none⟩) (n+1) cap) (n+1) (xs++news)→w.grownBy w' v.ownBlock→(v.ownBlock=some g∨g=H)→g < w'.heap.size→K (a.put o.dst (.slice (some ⟨g,0,none⟩) (n+1) cap)) w') :
  if Region.wanted o (yielded ops a.tmps)=true then Oper.wp P o a w K Q else E:=by
 obtain⟨ht,i,z,bytes,hi,hz,hsz,hby,hzs,h0,hb⟩:=he
 refine step_append_lies w hgd s x t ho base e i z size bytes ht hi hz hsz hby hzs h0 v n xs hs hown ⟨k,0,none⟩ 1 c news hx (by omega) ?_ h1 (by omega) (by unfold maxLen;omega) ?_ hbase H hH h
 ·have:=World.news_of_block hk
  simpa using this
 ·calc (n+1) * bytes≤1073741825 * 1024:=Nat.mul_le_mul (by omega) hb
   _≤_:=by decide
structure SeeW (B p bx:Nat) (box:Array Value) (w0:World) (cs:Array Value) (v1:Value) (l1:List ByteArray) (v2:Value) (l2:List ByteArray) (w:World):Prop where
 hB:B≤p
 cells:w.heap[p]? = some (.cells cs 134 (0,0))
 own1:w.ownsRow B 9 1 v1 l1.length (l1.map Value.string)
 own2:w.ownsRow B 9 1 v2 l2.length (l2.map Value.string)
 ne:∀ k,v1.ownBlock=some k→v2.ownBlock≠some k
 box:w.heap[bx]? = some (.cells box 55 (0,0))
 kt:KT B w0 w
theorem SeeW.below {B p bx:Nat} {box:Array Value} {w0:World} {cs:Array Value} {v1:Value} {l1:List ByteArray} {v2:Value} {l2:List ByteArray} {w w':World} (h:SeeW B p bx box w0 cs v1 l1 v2 l2 w) (hb:Below w.heap.size w w'):SeeW B p bx box w0 cs v1 l1 v2 l2 w' :=
 ⟨h.hB,by rw[hb.block _ (lt_of_block h.cells)];exact h.cells,ownsRow_below h.own1 hb,ownsRow_below h.own2 hb,h.ne,by rw[hb.block _ (lt_of_block h.box)];exact h.box,h.kt.trans (KT.of_below hb)⟩
theorem SeeW.store {B p bx:Nat} {box:Array Value} {w0:World} {cs:Array Value} {v1:Value} {l1:List ByteArray} {v2:Value} {l2:List ByteArray} {w:World} (h:SeeW B p bx box w0 cs v1 l1 v2 l2 w) (k:Nat) (u:Value):SeeW B p bx box w0 (cs.setIfInBounds k u) v1 l1 v2 l2 (w.setCell ⟨p,k,none⟩ u):=by
 have hne:bx≠p:=by
  rintro rfl
  have:=h.cells.symm.trans h.box
  simp at this
 exact⟨h.hB,heap_setCell_same _ _ _ _ _ u h.cells,ownsRow_store h.own1 h.cells (by decide) _ _,ownsRow_store h.own2 h.cells (by decide) _ _,h.ne,by rw[Below.heap_setCell _ _ _ _ hne];exact h.box,
  h.kt.setCell h.cells (by unfold Still;decide) h.hB _⟩
theorem ownsRow_grown {w w':World} {base:Nat} {e:TypeId} {size:Nat} {v:Value} {n:Nat} {xs:List Value} {row:Option Nat} (h:w.ownsRow base e size v n xs) (hg:w.grownBy w' row) (hne:∀ k,v.ownBlock=some k→some k≠row):w'.ownsRow base e size v n xs:=by
 obtain⟨h1,h2⟩:=h
 refine⟨h1,?_⟩
 rcases h2 with h2 | ⟨g,cap,cur,hv,hb,hh,r⟩
 ·exact Or.inl h2
 ·exact Or.inr ⟨g,cap,cur,hv,hb,by rw[hg.block _ (lt_of_block hh) (hne g (by rw[hv];rfl))];exact hh,r⟩
theorem SeeW.grow1 {B p bx:Nat} {box:Array Value} {w0:World} {cs:Array Value} {v1:Value} {l1:List ByteArray} {v2:Value} {l2:List ByteArray} {w:World} (h:SeeW B p bx box w0 cs v1 l1 v2 l2 w) (s:ByteArray) {wg:World} {gg gcap:Nat}
  (hown:wg.ownsRow B 9 1 (.slice (some ⟨gg,0,none⟩) (l1.length+1) gcap) (l1.length+1) (l1.map Value.string++[.string s])) (hg:((w.alloc (.cells #[.string s] 9)).drew).grownBy wg v1.ownBlock) (hat:v1.ownBlock=some gg∨gg=w.heap.size+1) :
  SeeW B p bx box w0 cs (.slice (some ⟨gg,0,none⟩) (l1++[s]).length gcap) (l1++[s]) v2 l2 wg:=by
 have hBA:Below w.heap.size w (w.alloc (.cells #[.string s] 9)):=(Below.refl _ _).alloc (Nat.le_refl _) _
 have hBA':Below w.heap.size w ((w.alloc (.cells #[.string s] 9)).drew):=below_drewN hBA 1
 have h':=h.below hBA'
 have hz:=h.hB
 have hl:=lt_of_block h.cells
 refine⟨h.hB,?_,?_,?_,?_,?_,?_⟩
 ·rw[hg.block _ (lt_of_block h'.cells) (ownsRow_ne h.own1 h.cells (by decide))];exact h'.cells
 ·simpa using hown
 ·exact ownsRow_grown h'.own2 hg (fun k hk e=>h.ne k e.symm hk)
 ·intro k hk hk2
  have hkg:gg=k:=by simpa [Value.ownBlock] using hk
  subst hkg
  rcases hat with hat | hat
  ·exact h.ne _ hat hk2
  ·have:=(h.own2.lt _ hk2).2
   omega
 ·rw[hg.block _ (lt_of_block h'.box) (ownsRow_ne h.own1 h.box (by decide))];exact h'.box
 ·refine h'.kt.grown hg (fun k hk=>(h.own1.lt k hk).1) ?_
  intro k c t z hk hh hs
  obtain⟨cur,hcur,_⟩:=ownsRow_type h'.own1 hk
  rw[hcur] at hh
  simp only[Option.some.injEq,Obj.cells.injEq] at hh
  rw[← hh.2.1] at hs
  exact absurd hs (by unfold Still;decide)
theorem SeeW.swap {B p bx:Nat} {box:Array Value} {w0:World} {cs:Array Value} {v1:Value} {l1:List ByteArray} {v2:Value} {l2:List ByteArray} {w:World} (h:SeeW B p bx box w0 cs v1 l1 v2 l2 w):SeeW B p bx box w0 cs v2 l2 v1 l1 w :=
 ⟨h.hB,h.cells,h.own2,h.own1,fun k h2 h1=>h.ne k h1 h2,h.box,h.kt⟩
theorem SeeW.inv {B p bx:Nat} {box:Array Value} {w0:World} {st:Seen} {v1 v2:Value} {w:World} (h:SeeW B p bx box w0 #[.int .i64 st.n,.int .i64 st.d,.int .i64 st.f,v1,v2] v1 st.vs v2 st.ar w):InvW B p st w :=
 ⟨h.hB,v1,v2,h.cells,h.own1,h.own2,h.ne⟩
theorem seeTo_bounds (l:List Ex) (dp:Nat) (st:Seen) (k:Nat):k≤l.length→(seeTo l dp st k).n=st.n+(nodesTo l k).length∧(seeTo l dp st k).d≤max st.d (dp+(nodesTo l k).length)∧(seeTo l dp st k).vs.length≤st.vs.length+(nodesTo l k).length∧(seeTo l dp st k).ar.length≤st.ar.length+(nodesTo l k).length:=by
 induction k with
 | zero=>intro _;refine⟨by simp[seeTo,nodesTo],by simp[seeTo,nodesTo];omega,by simp[seeTo,nodesTo],by simp[seeTo,nodesTo]⟩
 | succ k ih =>
  intro hk
  obtain⟨h1,h2,h3,h4⟩:=ih (by omega)
  obtain⟨a1,a2,_,a4,a5⟩:=seeS_all (l[k]'(by omega)) (dp+1) (seeTo l dp st k) (by omega)
  have hd:=depth_le_nodes (l[k]'(by omega))
  have n4:=names_len [2] (l[k]'(by omega)).nodes (seeTo l dp st k).vs
  have n5:=names_len [3,24] (l[k]'(by omega)).nodes (seeTo l dp st k).ar
  rw[seeTo_succ _ _ _ _ (by omega),nodesTo_succ _ _ (by omega),List.length_append,a1,a2,a4,a5]
  refine⟨by omega,by omega,by omega,by omega⟩
set_option maxRecDepth 100000 in
set_option maxHeartbeats 4000000 in
theorem see_any (B p:Nat) (w0:World) (hw0:B=w0.heap.size) (e:Ex):∀ (st:Seen) (dp:Nat) (a:Option Addr) (cap:Nat) (w:World),st.n+e.nodes.length≤1073741824→dp+e.nodes.length≤1073741824→st.d≤1073741824→st.vs.length≤st.n→st.ar.length≤st.n →
  InvW B p st w→Below B w0 w→ExIn w0 e a cap →
  Calls Tryz.prog 155 #[.pointer (some ⟨p,0,none⟩),exVal e a cap,.int .i64 dp] w fun r w'=>r=.returned (.tuple #[])∧InvW B p (seeS e dp st) w'∧KT B w w':=by
 induction e using Ex.ind with
 | h e ih =>
  intro st dp a cap w hn hdp hd hvl hal hI hB hE
  obtain⟨op,n,s,args⟩:=e
  have hlen:=hE.2.2.1
  have hadr:=hE.2.addr
  have hnl:(Ex.mk op n s args).nodes.length=(nodesTo args args.length).length+1:=by rw[nodes_cons];simp[Ex.args_mk]
  have hsz:=hE.1
  simp only[Ex.args_mk,Ex.name_mk] at hlen hadr hsz
  obtain⟨h0,v1,v2,hp,o1,o2,hne⟩:=hI
  have hBA:Below w.heap.size w (w.alloc (.cells #[.int .i64 op,.int .i64 n,.string s,.slice a args.length cap] 55)):=(Below.refl _ _).alloc (Nat.le_refl _) _
  have hS0:SeeW B p w.heap.size #[.int .i64 op,.int .i64 n,.string s,.slice a args.length cap] w #[.int .i64 st.n,.int .i64 st.d,.int .i64 st.f,v1,v2] v1 st.vs v2 st.ar (w.alloc (.cells #[.int .i64 op,.int .i64 n,.string s,.slice a args.length cap] 55)) :=
   ⟨h0,by rw[hBA.block _ (lt_of_block hp)];exact hp,ownsRow_below o1 hBA,ownsRow_below o2 hBA,hne,heap_alloc_new' _ _,KT.of_below hBA⟩
  have HS0:=Lib.hid hS0
  have HN:=Lib.hid (⟨hn,hdp,hvl,hal,hnl⟩:_∧_∧_∧_∧_)
  have HB:=Lib.hid hB
  have HE:=Lib.hid hE
  have HIH:=Lib.hid ih
  have HA:=Lib.hid hadr
  have HW:=Lib.hid hw0
  have hn1:st.n+1≤1073741824:=by omega
  have hdp1:dp≤1073741824:=by omega
  clear hS0 hn hdp hvl hal hnl hB hE ih hadr hw0 hp o1 o2 hne hBA
  simp only[exVal,Ex.op_mk,Ex.n_mk,Ex.name_mk,Ex.args_mk]
  go_enter Tryz.func155, Tryz.ntmps155
  go_upto_region 1 with fail
  generalize w.alloc (.cells #[.int .i64 op,.int .i64 n,.string s,.slice a args.length cap] 55)=wb at HS0⊢
  have hpc:=HS0.out.cells
  have c0:wb.cell? ⟨p,0,none⟩=some (.int .i64 st.n):=by simp[World.cell?,hpc]
  have c1:wb.cell? ⟨p,1,none⟩=some (.int .i64 st.d):=by simp[World.cell?,hpc]
  have f0:wb.frozen? ⟨p,0,none⟩=false:=by simp[World.frozen?,hpc]
  have f1:wb.frozen? ⟨p,1,none⟩=false:=by simp[World.frozen?,hpc]
  clear hpc
  go_upto_if 20 with fail
  go_cut [] from 7 (fun wx=>SeeW B p w.heap.size #[.int .i64 op,.int .i64 n,.string s,.slice a args.length cap] w #[.int .i64 ((st.n+1:Nat):Int),.int .i64 ((max st.d dp:Nat):Int),.int .i64 st.f,v1,v2] v1 st.vs v2 st.ar wx)
  case first =>
   by_cases hdd:st.d < dp
   ·go_wp2_with fail
    go_meet
    case rel =>
     have e1:max st.d dp=dp:=by omega
     rw[e1]
     have:=(HS0.out.store 0 (.int .i64 ((st.n+1:Nat):Int))).store 1 (.int .i64 dp)
     exact this
   ·go_wp2_with fail
    go_meet
    case rel =>
     have e1:max st.d dp=st.d:=by omega
     rw[e1]
     exact HS0.out.store 0 (.int .i64 ((st.n+1:Nat):Int))
  case rest =>
   have hpc:=hcut.cells
   have hbx:=hcut.box
   have c2:wc.cell? ⟨p,2,none⟩=some (.int .i64 st.f):=by simp[World.cell?,hpc]
   have b0:wc.cell? ⟨w.heap.size,0,none⟩=some (.int .i64 op):=by simp[World.cell?,hbx]
   have b1:wc.cell? ⟨w.heap.size,1,none⟩=some (.int .i64 n):=by simp[World.cell?,hbx]
   have b2:wc.cell? ⟨w.heap.size,2,none⟩=some (.string s):=by simp[World.cell?,hbx]
   have b3:wc.cell? ⟨w.heap.size,3,none⟩=some (.slice a args.length cap):=by simp[World.cell?,hbx]
   have HS1:=Lib.hid hcut
   have HWr:=Lib.hid (rwrong_any op n s args a cap wc hsz hlen)
   clear hpc hbx hcut c0 c1 f0 f1 HS0
   have hF:Hid ((stepW st dp (.mk op n s args)).f=if st.f=0 then nodeS (.mk op n s args) else st.f):=rfl
   generalize hff:(stepW st dp (.mk op n s args)).f=ff at hF
   have Hff:=Lib.hid hff
   clear hff
   go_upto_if 29 with fail
   go_cut [] from 7 (fun wx=>SeeW B p w.heap.size #[.int .i64 op,.int .i64 n,.string s,.slice a args.length cap] w #[.int .i64 ((st.n+1:Nat):Int),.int .i64 ((max st.d dp:Nat):Int),.int .i64 ff,v1,v2] v1 st.vs v2 st.ar wx)
   case first =>
    by_cases hf:st.f=0
    ·have e1:Hid (ff=nodeS (.mk op n s args)):=by show _=_;rw[hF.out,if_pos hf]
     have hfb:(st.f == 0)=true:=by simpa using hf
     clear hf
     go_wp2_with fail
     refine HWr.out.mono ?_
     rintro e w2 ⟨rfl,hb2⟩
     have HS2:=Lib.hid (HS1.out.below hb2)
     have f2:w2.frozen? ⟨p,2,none⟩=false:=by simp[World.frozen?,HS2.out.cells]
     have c2':w2.cell? ⟨p,2,none⟩=some (.int .i64 st.f):=by simp[World.cell?,HS2.out.cells]
     clear hb2 c2 b0 b1 b2 b3
     go_wp2_with fail
     go_meet
     case rel =>
      rw[e1.out]
      exact HS2.out.store 2 _
    ·have e1:Hid (ff=st.f):=by show _=_;rw[hF.out,if_neg hf]
     have hfb:(st.f == 0)=false:=by simpa using hf
     clear hf
     go_wp2_with fail
     go_meet
     case rel =>
      rw[e1.out]
      exact HS1.out
   case rest =>
    have hpc:=hcut.cells
    have hbx:=hcut.box
    clear c2 b0 b1 b2 b3 HS1 HWr
    have c3:wc.cell? ⟨p,3,none⟩=some v1:=by simp[World.cell?,hpc]
    have b0:wc.cell? ⟨w.heap.size,0,none⟩=some (.int .i64 op):=by simp[World.cell?,hbx]
    have b2:wc.cell? ⟨w.heap.size,2,none⟩=some (.string s):=by simp[World.cell?,hbx]
    have HS1:=Lib.hid hcut
    have hvl:=HN.out.2.2.1
    obtain⟨ca,ck,hcv,hcs⟩:=strs_of_own hcut.own1 (by omega)
    subst hcv
    have HH:=Lib.hid (fun n=>has_testbenchref08 st.vs ca ck s (wc.drewN n) hcs)
    clear hpc hbx hcut hvl hcs
    go_upto_region 6 with fail
    go_cut [47] from 7 (fun s47 wx=>s47=.bool (op == 2 && !(Lib.containsS st.vs s))∧SeeW B p w.heap.size #[.int .i64 op,.int .i64 n,.string s,.slice a args.length cap] w #[.int .i64 ((st.n+1:Nat):Int),.int .i64 ((max st.d dp:Nat):Int),.int .i64 ff,.slice ca st.vs.length ck,v2] (.slice ca st.vs.length ck) st.vs v2 st.ar wx)
    case first =>
     by_cases h2:op=2
     ·subst h2
      cases hc:Lib.containsS st.vs s
      all_goals
       go_quiet ((go_at_call 206;exact Calls.quiet_of_same ((HH.out _).mono fun e w' h=>⟨by rw[h.1,hc],h.2.symm⟩)))
       go_wp2_with fail
       go_meet
       case rel=>exact⟨by rw[hc];rfl,HS1.out.below (below_drewN (Below.refl _ _) _)⟩
     ·have h2b:(op == 2)=false:=by simpa using h2
      clear h2
      go_quiet (fail)
      go_wp2_with fail
      go_meet
      case rel=>exact⟨by rw[h2b];rfl,HS1.out.below (below_drewN (Below.refl _ _) _)⟩
    case rest =>
     obtain⟨rfl,hS2⟩:=hcut
     have HV:Hid (addName [2] st.vs (.mk op n s args)=if (op == 2 && !(Lib.containsS st.vs s))=true then st.vs++[s] else st.vs):=by
      show _=_
      unfold addName
      rw[Ex.op_mk,Ex.name_mk]
      by_cases h1:op=2<;>cases h2:Lib.containsS st.vs s<;>simp[h1,h2]
     generalize (op == 2 && !(Lib.containsS st.vs s))=bb at HV⊢
     generalize hvs':addName [2] st.vs (.mk op n s args)=vs' at HV
     have Hvs':=Lib.hid hvs'
     clear hvs' HH HS1 c3 b0 b2
     have hpc:=hS2.cells
     have hbx:=hS2.box
     have hvn:=HN.out.2.2.1
     have hvn':st.vs.length≤1073741824:=by omega
     have c3:wc.cell? ⟨p,3,none⟩=some (.slice ca st.vs.length ck):=by simp[World.cell?,hpc]
     have f3:wc.frozen? ⟨p,3,none⟩=false:=by simp[World.frozen?,hpc]
     have b2:wc.cell? ⟨w.heap.size,2,none⟩=some (.string s):=by simp[World.cell?,hbx]
     have HS2:=Lib.hid hS2
     have hplt:=lt_of_block hpc
     have hblt:=lt_of_block hbx
     have hBz:B≤wc.heap.size:=by have:=hS2.hB;omega
     have hnp:=ownsRow_ne hS2.own1 hpc (by decide)
     have hnb:=ownsRow_ne hS2.own1 hbx (by decide)
     clear hpc hbx hS2 hvn
     go_upto_if 47 with fail
     go_cut [] from 7 (fun wx=>∃ (c1:Option Addr) (k1:Nat),SeeW B p w.heap.size #[.int .i64 op,.int .i64 n,.string s,.slice a args.length cap] w #[.int .i64 ((st.n+1:Nat):Int),.int .i64 ((max st.d dp:Nat):Int),.int .i64 ff,.slice c1 vs'.length k1,v2] (.slice c1 vs'.length k1) vs' v2 st.ar wx)
     case first =>
      cases bb
      ·have e1:vs'=st.vs:=by rw[HV.out];simp
       go_wp2_with fail
       go_meet
       case rel=>exact⟨ca,ck,by rw[e1];exact HS2.out⟩
      ·have e1:vs'=st.vs++[s]:=by rw[HV.out];simp
       have He1:=Lib.hid e1
       clear e1
       go_wp2_with fail
       have c3o:∀ o,(wc.alloc o).cell? ⟨p,3,none⟩=some (.slice ca st.vs.length ck):=fun o=>(World.cell?_alloc_lt _ _ _ hplt).trans c3
       go_region_law ((refine own_step elemS (by rfl) _ _ (by rfl) B (.slice ca st.vs.length ck) st.vs.length (st.vs.map Value.string) (by rfl) ((HS2.out.own1.alloc _).drew) [.string s] (by rfl) (by simp[Value.oneCell']) wc.heap.size 1 (by rfl) (heap_alloc_new' wc _) hvn' (by simp;omega) (wc.heap.size+1) (by simp) ?_;intro gg gcap wg hownG hgrow hatG hltG;have f3g:wg.frozen? ⟨p,3,none⟩=false:=((hgrow.frozen_far ⟨p,3,none⟩ (by simp;omega) hnp).trans (World.frozen?_alloc_old _ _ _ (Nat.ne_of_lt hplt))).trans f3;have c3g:wg.cell? ⟨p,3,none⟩=some (.slice ca st.vs.length ck):=(hgrow.cell_far ⟨p,3,none⟩ (by simp;omega) hnp).trans (c3o _)))
       all_goals go_wp2_with fail
       all_goals go_meet
       all_goals exact⟨some ⟨gg,0,none⟩,gcap,by rw[He1.out];have:=((HS2.out.grow1 s hownG hgrow hatG).store 3 (.slice (some ⟨gg,0,none⟩) (st.vs.length+1) gcap));simpa using this⟩
     case rest =>
      obtain⟨cv1,kv1,hS3⟩:=hcut
      clear c3 f3 b2 HS2 hplt hblt hnp hnb hvn' hF
      have hpc:=hS3.cells
      have hbx:=hS3.box
      have hal:=HN.out.2.2.2.1
      have hal':st.ar.length≤1073741824:=by omega
      obtain⟨da,dk,hdv,hds⟩:=strs_of_own hS3.own2 hal'
      subst hdv
      have c4:wc.cell? ⟨p,4,none⟩=some (.slice da st.ar.length dk):=by simp[World.cell?,hpc]
      have b0:wc.cell? ⟨w.heap.size,0,none⟩=some (.int .i64 op):=by simp[World.cell?,hbx]
      have b2:wc.cell? ⟨w.heap.size,2,none⟩=some (.string s):=by simp[World.cell?,hbx]
      have HS3:=Lib.hid hS3
      have HH:=Lib.hid (fun n=>has_testbenchref08 st.ar da dk s (wc.drewN n) hds)
      clear hpc hbx hS3 hal hds
      go_upto_region 8 with fail
      go_cut [76] from 7 (fun s76 wx=>s76=.bool ((op == 3 || op == 24) && !(Lib.containsS st.ar s))∧SeeW B p w.heap.size #[.int .i64 op,.int .i64 n,.string s,.slice a args.length cap] w #[.int .i64 ((st.n+1:Nat):Int),.int .i64 ((max st.d dp:Nat):Int),.int .i64 ff,.slice cv1 vs'.length kv1,.slice da st.ar.length dk] (.slice cv1 vs'.length kv1) vs' (.slice da st.ar.length dk) st.ar wx)
      case first =>
       by_cases h3:op=3
       ·subst h3
        cases hc:Lib.containsS st.ar s
        all_goals
         go_quiet ((go_at_call 206;exact Calls.quiet_of_same ((HH.out _).mono fun e w' h=>⟨by rw[h.1,hc],h.2.symm⟩)))
         go_wp2_with fail
         go_meet
         case rel=>exact⟨by rw[hc];rfl,HS3.out.below (below_drewN (Below.refl _ _) _)⟩
       ·have h3b:(op == 3)=false:=by simpa using h3
        clear h3
        by_cases h4:op=24
        ·subst h4
         cases hc:Lib.containsS st.ar s
         all_goals
          go_quiet ((go_at_call 206;exact Calls.quiet_of_same ((HH.out _).mono fun e w' h=>⟨by rw[h.1,hc],h.2.symm⟩)))
          go_wp2_with fail
          go_meet
          case rel=>exact⟨by rw[hc];rfl,HS3.out.below (below_drewN (Below.refl _ _) _)⟩
        ·have h4b:(op == 24)=false:=by simpa using h4
         clear h4
         go_quiet (fail)
         go_wp2_with fail
         go_meet
         case rel=>exact⟨by rw[h3b,h4b];rfl,HS3.out.below (below_drewN (Below.refl _ _) _)⟩
      case rest =>
       obtain⟨rfl,hS4⟩:=hcut
       have HAr:Hid (addName [3,24] st.ar (.mk op n s args)=if ((op == 3 || op == 24) && !(Lib.containsS st.ar s))=true then st.ar++[s] else st.ar):=by
        show _=_
        unfold addName
        rw[Ex.op_mk,Ex.name_mk]
        by_cases h1:op=3<;>by_cases h3:op=24<;>cases h2:Lib.containsS st.ar s<;>simp[h1,h2,h3]
       generalize ((op == 3 || op == 24) && !(Lib.containsS st.ar s))=bb2 at HAr⊢
       generalize har':addName [3,24] st.ar (.mk op n s args)=ar' at HAr
       have Har':=Lib.hid har'
       clear har' HH HS3 c4 b0 b2
       have hpc:=hS4.cells
       have hbx:=hS4.box
       have c4:wc.cell? ⟨p,4,none⟩=some (.slice da st.ar.length dk):=by simp[World.cell?,hpc]
       have f4:wc.frozen? ⟨p,4,none⟩=false:=by simp[World.frozen?,hpc]
       have b2:wc.cell? ⟨w.heap.size,2,none⟩=some (.string s):=by simp[World.cell?,hbx]
       have HS4:=Lib.hid hS4.swap
       have hplt:=lt_of_block hpc
       have hBz:B≤wc.heap.size:=by have:=hS4.hB;omega
       have hnp:=ownsRow_ne hS4.own2 hpc (by decide)
       clear hpc hbx hS4
       go_upto_if 76 with fail
       go_cut [] from 7 (fun wx=>∃ (c2:Option Addr) (k2:Nat),SeeW B p w.heap.size #[.int .i64 op,.int .i64 n,.string s,.slice a args.length cap] w #[.int .i64 ((st.n+1:Nat):Int),.int .i64 ((max st.d dp:Nat):Int),.int .i64 ff,.slice cv1 vs'.length kv1,.slice c2 ar'.length k2] (.slice cv1 vs'.length kv1) vs' (.slice c2 ar'.length k2) ar' wx)
       case first =>
        cases bb2
        ·have e1:ar'=st.ar:=by rw[HAr.out];simp
         go_wp2_with fail
         go_meet
         case rel=>exact⟨da,dk,by rw[e1];exact HS4.out.swap⟩
        ·have e1:ar'=st.ar++[s]:=by rw[HAr.out];simp
         have He1:=Lib.hid e1
         clear e1
         go_wp2_with fail
         have c4o:∀ o,(wc.alloc o).cell? ⟨p,4,none⟩=some (.slice da st.ar.length dk):=fun o=>(World.cell?_alloc_lt _ _ _ hplt).trans c4
         go_region_law ((refine own_step elemS (by rfl) _ _ (by rfl) B (.slice da st.ar.length dk) st.ar.length (st.ar.map Value.string) (by rfl) ((HS4.out.own1.alloc _).drew) [.string s] (by rfl) (by simp[Value.oneCell']) wc.heap.size 1 (by rfl) (heap_alloc_new' wc _) hal' (by simp;omega) (wc.heap.size+1) (by simp) ?_;intro gg gcap wg hownG hgrow hatG hltG;have f4g:wg.frozen? ⟨p,4,none⟩=false:=((hgrow.frozen_far ⟨p,4,none⟩ (by simp;omega) hnp).trans (World.frozen?_alloc_old _ _ _ (Nat.ne_of_lt hplt))).trans f4;have c4g:wg.cell? ⟨p,4,none⟩=some (.slice da st.ar.length dk):=(hgrow.cell_far ⟨p,4,none⟩ (by simp;omega) hnp).trans (c4o _)))
         all_goals go_wp2_with fail
         all_goals go_meet
         all_goals exact⟨some ⟨gg,0,none⟩,gcap,by rw[He1.out];have:=((HS4.out.grow1 s hownG hgrow hatG).store 4 (.slice (some ⟨gg,0,none⟩) (st.ar.length+1) gcap)).swap;simpa using this⟩
       case rest =>
        obtain⟨cv2,kv2,hS5⟩:=hcut
        have HST:Hid (stepW st dp (.mk op n s args)=⟨st.n+1,max st.d dp,ff,vs',ar'⟩):=by
         show _=_
         rw[← Hff.out,← Hvs'.out,← Har'.out];rfl
        have hI5:InvW B p (stepW st dp (.mk op n s args)) wc:=by rw[HST.out];exact SeeW.inv (st:=⟨st.n+1,max st.d dp,ff,vs',ar'⟩) hS5
        have HI5:=Lib.hid (⟨hI5,hS5.kt,hS5.box⟩:_∧_∧_)
        have hBw:B≤w.heap.size:=Nat.le_trans (Nat.le_of_eq HW.out) HB.out.size
        have HBN:Hid ((stepW st dp (.mk op n s args)).n=st.n+1∧(stepW st dp (.mk op n s args)).d=max st.d dp∧(stepW st dp (.mk op n s args)).vs.length≤st.n+1∧(stepW st dp (.mk op n s args)).ar.length≤st.n+1):=by
         refine⟨rfl,rfl,?_,?_⟩
         ·have:=addName_len [2] st.vs (.mk op n s args)
          have:=HN.out.2.2.1
          simp only[stepW];omega
         ·have:=addName_len [3,24] st.ar (.mk op n s args)
          have:=HN.out.2.2.2.1
          simp only[stepW];omega
        clear hS5 hI5 c4 f4 b2 HS4 hplt hBz hnp hal' HAr Har' Hvs' HV Hff HST
        generalize hst1:stepW st dp (.mk op n s args)=st1 at HI5 HBN
        have Hst1:=Lib.hid hst1
        clear hst1
        go_wp2_with fail
        go_loopw [6] (fun i wr=>∃ k:Nat,i=.int .i64 k∧k≤args.length∧InvW B p (seeTo args dp st1 k) wr∧KT B w wr∧wr.heap[w.heap.size]? = some (.cells #[.int .i64 op,.int .i64 n,.string s,.slice a args.length cap] 55 (0,0))) (fun i _=>args.length - (intOf i).toNat)
        case atStart=>exact⟨0,rfl,Nat.zero_le _,HI5.out.1,HI5.out.2.1,HI5.out.2.2⟩
        case round =>
         obtain⟨k,rfl,hk,hIr,hKr,hbx⟩:=hrel
         have hBr:=HB.out.trans ((hKr.below hBw).mono (Nat.le_refl _))
         have b3:wr.cell? ⟨w.heap.size,3,none⟩=some (.slice a args.length cap):=by simp[World.cell?,hbx]
         by_cases hlt:k < args.length
         ·obtain⟨b,off,ha⟩:=HA.out.resolve_left (by omega)
          subst ha
          obtain⟨a',cap',g0,g1,g2,g3,hX⟩:=HE.out.2.get rfl hlt
          have kk:∀ a v,w0.cell? a=some v→wr.cell? a=some v:=fun q v hq=>(hBr.cell (Nat.lt_of_lt_of_le (World.block_lt_of_cell? _ _ hq) (Nat.le_of_eq HW.out.symm))).trans hq
          have c0:=kk _ _ g0
          have c1:=kk _ _ g1
          have c2:=kk _ _ g2
          have c3:=kk _ _ g3
          simp only[Ex.args_mk] at c0 c1 c2 c3
          have hm:args[k]∈(Ex.mk op n s args).args:=List.getElem_mem hlt
          obtain⟨t1,t2,t3,t4⟩:=seeTo_bounds args dp st1 k hk
          have hrm:=nodes_room args k hlt
          have hn':=HN.out
          have hbn:=HBN.out
          have hC:=HIH.out _ hm (seeTo args dp st1 k) (dp+1) a' cap' wr (by omega) (by omega) (by omega) (by omega) (by omega) hIr hBr hX
          have HC:=Lib.hid hC
          simp only[Ex.args_mk,exVal] at HC
          rw[show ((dp+1:Nat):Int)=(dp:Int)+1 from by omega] at HC
          have HR:=Lib.hid (⟨hKr,hbx⟩:_∧_)
          have HSu:=Lib.hid (seeTo_succ args dp st1 k hlt)
          clear g0 g1 g2 g3 kk hC hrm hn' hbn t1 t2 t3 t4 hX hIr hKr hBr hbx hm
          go_wp2_with fail
          refine HC.out.mono ?_
          rintro e w2 ⟨rfl,hI2,hK2⟩
          have H2:=Lib.hid (⟨hI2,hK2⟩:_∧_)
          clear hI2 hK2 c0 c1 c2 c3 b3
          go_wp2_with fail
          go_roundw
          case rel=>exact⟨k+1,by go_num,by omega,by rw[HSu.out];exact H2.out.1,HR.out.1.trans H2.out.2,H2.out.2.typed _ _ _ _ HR.out.2 (Or.inl rfl)⟩
          case measure=>simp[intOf];omega
         ·obtain rfl:k=args.length:=by omega
          have HE':=Lib.hid (⟨hIr,hKr⟩:_∧_)
          have HSA:=Lib.hid (seeTo_all (.mk op n s args) dp st)
          clear hIr hKr hBr hbx
          go_wp2_with fail
          go_end0
          refine⟨rfl,?_,HE'.out.2⟩
          have h1:=HE'.out.1
          rw[← Hst1.out] at h1
          rw[← HSA.out]
          exact h1
end Go.Proofs.YtcplmcjbkpmhdaaGreatDoor
namespace Go.Proofs.YtcplmcjbkpmhdaaGreatDoor
open Go.RowKit
set_option maxHeartbeats 1000000 in
theorem over_any (op n:Int) (s:ByteArray) (args:List Ex) (a:Option Addr) (cap:Nat) (w:World) (hE:ExIn w (.mk op n s args) a cap) (hn:(Ex.mk op n s args).nodes.length≤1000000000) :
  Calls Tryz.prog 103 #[.agg #[.int .i64 op,.int .i64 n,.string s,.slice a args.length cap]] w fun e w' =>
   e=.returned (.pointer (some ⟨w.heap.size+1,0,none⟩))∧InvW w.heap.size (w.heap.size+1) ⟨(Ex.mk op n s args).nodes.length,(Ex.mk op n s args).depth,firstE (Ex.mk op n s args).nodes,namesS [2] (.mk op n s args),namesS [3,24] (.mk op n s args)⟩ w'∧Below w.heap.size w w':=by
 have hB:Below w.heap.size w ((w.alloc (.cells #[.int .i64 op,.int .i64 n,.string s,.slice a args.length cap] 55)).alloc (.cells #[.int .i64 0,.int .i64 0,.int .i64 0,.slice none 0 0,.slice none 0 0] 134)):=bel
 have hC:=see_any w.heap.size (w.heap.size+1) w rfl (.mk op n s args) ⟨0,0,0,[],[]⟩ 1 a cap _ (by simp;omega) (by omega) (by simp) (by simp) (by simp)
  ⟨by omega,.slice none 0 0,.slice none 0 0,heap_alloc_at _ _ _ (by simp),World.ownsRow_nil _ _ _ _,World.ownsRow_nil _ _ _ _,by simp[Value.ownBlock]⟩ hB hE
 rw[seeS_start] at hC
 have HC:=Lib.hid hC
 have HB:=Lib.hid hB
 simp only[exVal,Ex.op_mk,Ex.n_mk,Ex.name_mk,Ex.args_mk] at HC
 clear hC hB hE hn
 go_enter Tryz.func103, Tryz.ntmps103
 go_wp2_with fail
 refine HC.out.mono ?_
 rintro e w2 ⟨rfl,hI,hK⟩
 have H2:=Lib.hid (⟨hI,hK⟩:_∧_)
 clear hI hK
 go_wp2_with fail
 go_ret
 exact⟨rfl,H2.out.1,HB.out.trans (H2.out.2.below (by simp;omega))⟩
set_option maxHeartbeats 1000000 in
theorem rValid_any (op n:Int) (s:ByteArray) (args:List Ex) (a:Option Addr) (cap:Nat) (w:World) (hE:ExIn w (.mk op n s args) a cap) (hn:(Ex.mk op n s args).nodes.length≤1000000000) :
  Calls Tryz.prog 54 #[.agg #[.int .i64 op,.int .i64 n,.string s,.slice a args.length cap]] w fun e w'=>e=.returned (.int .i64 (validS (.mk op n s args)))∧Below w.heap.size w w':=by
 have hB:Below w.heap.size w (w.alloc (.cells #[.int .i64 op,.int .i64 n,.string s,.slice a args.length cap] 55)):=bel
 have HC:=Lib.hid (over_any op n s args a cap _ (hE.keep (keeps_of_below hB)) hn)
 have HB:=Lib.hid hB
 have HV:Hid (validS (.mk op n s args)=if firstE (Ex.mk op n s args).nodes=0∧(24 < (Ex.mk op n s args).depth∨400 < (Ex.mk op n s args).nodes.length) then 2 else firstE (Ex.mk op n s args).nodes):=rfl
 generalize validS (.mk op n s args)=vv at HV⊢
 clear hB hE hn
 generalize firstE (Ex.mk op n s args).nodes=ff at HC HV
 generalize (Ex.mk op n s args).depth=dd at HC HV
 generalize (Ex.mk op n s args).nodes.length=nn at HC HV
 go_enter Tryz.func54, Tryz.ntmps54
 go_wp2_with fail
 refine HC.out.mono ?_
 rintro e w2 ⟨rfl,hI,hb⟩
 obtain⟨_,v1,v2,hp,_⟩:=hI
 simp only[World.size_alloc] at hp
 have c0:w2.cell? ⟨w.heap.size+1+1,0,none⟩=some (.int .i64 nn):=by simp[World.cell?,hp]
 have c1:w2.cell? ⟨w.heap.size+1+1,1,none⟩=some (.int .i64 dd):=by simp[World.cell?,hp]
 have c2:w2.cell? ⟨w.heap.size+1+1,2,none⟩=some (.int .i64 ff):=by simp[World.cell?,hp]
 have H2:Hid (Below w.heap.size w w2):=HB.out.trans (hb.mono (by simp))
 clear hp hb
 go_wp2_with fail
 all_goals go_ret
 all_goals refine⟨?_,H2.out⟩
 all_goals rw[HV.out]
 all_goals congr 2
 all_goals simp_all
 all_goals (try omega)
set_option maxHeartbeats 1000000 in
theorem rNames_any (op n:Int) (s:ByteArray) (args:List Ex) (a:Option Addr) (cap:Nat) (w:World) (hE:ExIn w (.mk op n s args) a cap) (hn:(Ex.mk op n s args).nodes.length≤1000000000) :
  Calls Tryz.prog 104 #[.agg #[.int .i64 op,.int .i64 n,.string s,.slice a args.length cap]] w fun e w' =>
   (∃ a' cap',e=.returned (.slice a' (namesS [2] (.mk op n s args)).length cap')∧StrsIn w' (namesS [2] (.mk op n s args)) a' cap')∧Below w.heap.size w w':=by
 have hB:Below w.heap.size w (w.alloc (.cells #[.int .i64 op,.int .i64 n,.string s,.slice a args.length cap] 55)):=bel
 have HC:=Lib.hid (over_any op n s args a cap _ (hE.keep (keeps_of_below hB)) hn)
 have HB:=Lib.hid hB
 have HN:=Lib.hid (names_len [2] (Ex.mk op n s args).nodes [])
 have Hn:=Lib.hid hn
 clear hB hE hn
 go_enter Tryz.func104, Tryz.ntmps104
 go_wp2_with fail
 refine HC.out.mono ?_
 rintro e w2 ⟨rfl,hI,hb⟩
 obtain⟨_,v1,v2,hp,o1,o2,_⟩:=hI
 simp only[World.size_alloc] at hp
 have c3:w2.cell? ⟨w.heap.size+1+1,3,none⟩=some v1:=by simp[World.cell?,hp]
 have c4:w2.cell? ⟨w.heap.size+1+1,4,none⟩=some v2:=by simp[World.cell?,hp]
 have H2:Hid (Below w.heap.size w w2):=HB.out.trans (hb.mono (by simp))
 have H1:=Lib.hid (⟨o1,o2⟩:_∧_)
 clear hp hb o1 o2
 go_wp2_with fail
 go_ret
 refine⟨?_,H2.out⟩
 have hl:(namesS [2] (.mk op n s args)).length≤1073741824:=by
  have:=HN.out;have:=Hn.out
  unfold namesS;simp only[List.length_nil] at *;omega
 first
  | (obtain⟨a',cap',rfl,hs⟩:=strs_of_own H1.out.1 hl;exact⟨a',cap',rfl,hs⟩)
  | (obtain⟨a',cap',rfl,hs⟩:=strs_of_own H1.out.2 hl;exact⟨a',cap',rfl,hs⟩)
set_option maxHeartbeats 1000000 in
theorem rArrays_any (op n:Int) (s:ByteArray) (args:List Ex) (a:Option Addr) (cap:Nat) (w:World) (hE:ExIn w (.mk op n s args) a cap) (hn:(Ex.mk op n s args).nodes.length≤1000000000) :
  Calls Tryz.prog 105 #[.agg #[.int .i64 op,.int .i64 n,.string s,.slice a args.length cap]] w fun e w' =>
   (∃ a' cap',e=.returned (.slice a' (namesS [3,24] (.mk op n s args)).length cap')∧StrsIn w' (namesS [3,24] (.mk op n s args)) a' cap')∧Below w.heap.size w w':=by
 have hB:Below w.heap.size w (w.alloc (.cells #[.int .i64 op,.int .i64 n,.string s,.slice a args.length cap] 55)):=bel
 have HC:=Lib.hid (over_any op n s args a cap _ (hE.keep (keeps_of_below hB)) hn)
 have HB:=Lib.hid hB
 have HN:=Lib.hid (names_len [3,24] (Ex.mk op n s args).nodes [])
 have Hn:=Lib.hid hn
 clear hB hE hn
 go_enter Tryz.func105, Tryz.ntmps105
 go_wp2_with fail
 refine HC.out.mono ?_
 rintro e w2 ⟨rfl,hI,hb⟩
 obtain⟨_,v1,v2,hp,o1,o2,_⟩:=hI
 simp only[World.size_alloc] at hp
 have c3:w2.cell? ⟨w.heap.size+1+1,3,none⟩=some v1:=by simp[World.cell?,hp]
 have c4:w2.cell? ⟨w.heap.size+1+1,4,none⟩=some v2:=by simp[World.cell?,hp]
 have H2:Hid (Below w.heap.size w w2):=HB.out.trans (hb.mono (by simp))
 have H1:=Lib.hid (⟨o1,o2⟩:_∧_)
 clear hp hb o1 o2
 go_wp2_with fail
 go_ret
 refine⟨?_,H2.out⟩
 have hl:(namesS [3,24] (.mk op n s args)).length≤1073741824:=by
  have:=HN.out;have:=Hn.out
  unfold namesS;simp only[List.length_nil] at *;omega
 first
  | (obtain⟨a',cap',rfl,hs⟩:=strs_of_own H1.out.1 hl;exact⟨a',cap',rfl,hs⟩)
  | (obtain⟨a',cap',rfl,hs⟩:=strs_of_own H1.out.2 hl;exact⟨a',cap',rfl,hs⟩)
theorem addName_all (ops:List Int) (p:ByteArray→Bool) (l:List Ex):∀ st:List ByteArray,(l.foldl (addName ops) st).all p=(st.all p && l.all (fun x=>!ops.contains x.op || p x.name)):=by
 induction l with
 | nil=>intro st;simp
 | cons e l ih =>
  intro st
  rw[List.foldl_cons,ih,List.all_cons]
  unfold addName
  by_cases h:ops.contains e.op=true
  ·cases hc:Lib.containsS st e.name
   ·rw[if_pos ⟨h,rfl⟩,List.all_append]
    simp only[List.all_cons,List.all_nil,Bool.and_true,h,Bool.not_true,Bool.false_or]
    rw[Bool.and_assoc]
   ·rw[if_neg (by simp)]
    have hm:=(Lib.containsS_iff st e.name).1 hc
    cases hp:st.all p
    ·simp
    ·have:=List.all_eq_true.1 hp _ hm
     simp[this]
  ·have h':ops.contains e.op=false:=by simpa using h
   rw[if_neg (fun hh=>h hh.1),h']
   simp
theorem known_eq (env:List (ByteArray × Int)) (e:Ex):knownS env e=knownA env e:=by
 unfold knownS knownA namesS
 rw[addName_all,addName_all]
 simp only[List.all_nil,Bool.true_and]
 rw[Bool.eq_iff_iff]
 simp only[Bool.and_eq_true,List.all_eq_true,← forall_and]
 refine forall_congr' fun x=>forall_congr' fun _=>?_
 unfold knownN
 by_cases h2:x.op=2
 ·simp[h2]
 ·by_cases h3:x.op=3
  ·simp[h3]
  ·by_cases h4:x.op=24
   ·simp[h4]
   ·simp[h2,h3,h4]
theorem evalS_eq (env:List (ByteArray × Int)) (e:Ex):evalS env e=if validS e≠0 then (0,1) else (rvalS env e,errK (knownA env e)):=by
 unfold evalS rvalS errK
 rw[known_eq]
 split
 ·rfl
 ·cases knownA env e<;>simp
set_option maxHeartbeats 2000000 in
theorem rEval_any (env:List (ByteArray × Int)) (a:Option Addr) (cap:Nat) (op n:Int) (s:ByteArray) (args:List Ex) (ae:Option Addr) (ce:Nat) (w:World) (hS:SigsIn w env a cap) (hE:ExIn w (.mk op n s args) ae ce) (hn:(Ex.mk op n s args).nodes.length≤1000000000) :
  Calls Tryz.prog 186 #[.agg #[.int .i64 op,.int .i64 n,.string s,.slice ae args.length ce],.slice a env.length cap] w fun e w'=>e=.returned (.tuple #[.int .i64 (evalS env (.mk op n s args)).1,.int .i64 (evalS env (.mk op n s args)).2])∧Below w.heap.size w w':=by
 have HV:=Lib.hid (fun W (hW:Below w.heap.size w W) hz=>fr (W0:=w) (B:=w.heap.size) (rValid_any op n s args ae ce W (hE.keep (keeps_of_below hW)) hn) hW hz)
 have HVa:=Lib.hid (fun hok W (hW:Below w.heap.size w W) hz=>fr (W0:=w) (B:=w.heap.size) (rvalue_any env a cap (.mk op n s args) ae ce W hok (by omega) (hS.keep (keeps_of_below hW)) (hE.keep (keeps_of_below hW))) hW hz)
 simp only[exVal,Ex.op_mk,Ex.n_mk,Ex.name_mk,Ex.args_mk] at HVa
 have HR:=Lib.hid (evalS_eq env (.mk op n s args))
 clear hS hE hn
 by_cases hv:validS (.mk op n s args)=0
 ·have HVa':=Lib.hid (HVa.out (valid_ok hv))
  have hR:Hid (evalS env (.mk op n s args)=(rvalS env (.mk op n s args),errK (knownA env (.mk op n s args)))):=by show _=_;rw[HR.out,if_neg (by simpa using hv)]
  have hv':(validS (.mk op n s args) != 0)=false:=by simpa using hv
  clear hv
  go_enter Tryz.func186, Tryz.ntmps186
  go_wp2_with (first | (go_at_call 54;refine(HV.out _ bel sz).mono ?_;rintro e w1 ⟨rfl,hc1,hf1,hz1,hb1⟩;simp only[World.size_alloc] at hz1;have hzl0:w.heap.size < w1.heap.size:=(by omega);have hzl1:w.heap.size+1≤w1.heap.size:=(by omega)) | (go_at_call 227;refine(HVa'.out _ (by assumption) sz).mono ?_;rintro e w1 ⟨rfl,hc1,hf1,hz1,hb1⟩))
  go_ret2
  exact⟨by rw[hR.out];rfl,by assumption⟩
 ·have hR:Hid (evalS env (.mk op n s args)=(0,1)):=by show _=_;rw[HR.out,if_pos hv]
  have hv':(validS (.mk op n s args) != 0)=true:=by simpa using hv
  go_enter Tryz.func186, Tryz.ntmps186
  go_wp2_with (go_at_call 54;refine(HV.out _ bel sz).mono ?_;rintro e w1 ⟨rfl,hc1,hf1,hz1,hb1⟩)
  go_ret2
  exact⟨by rw[hR.out];rfl,by assumption⟩
set_option maxHeartbeats 1000000 in
theorem rValue_any (env:List (ByteArray × Int)) (a:Option Addr) (cap:Nat) (op n:Int) (s:ByteArray) (args:List Ex) (ae:Option Addr) (ce:Nat) (w:World) (hS:SigsIn w env a cap) (hE:ExIn w (.mk op n s args) ae ce) (hn:(Ex.mk op n s args).nodes.length≤1000000000) :
  Calls Tryz.prog 131 #[.agg #[.int .i64 op,.int .i64 n,.string s,.slice ae args.length ce],.slice a env.length cap] w fun e w'=>e=.returned (.int .i64 (evalS env (.mk op n s args)).1)∧Below w.heap.size w w':=by
 have HV:=Lib.hid (fun W (hW:Below w.heap.size w W) hz=>fr (W0:=w) (B:=w.heap.size) (rEval_any env a cap op n s args ae ce W (hS.keep (keeps_of_below hW)) (hE.keep (keeps_of_below hW)) hn) hW hz)
 clear hS hE hn
 go_enter Tryz.func131, Tryz.ntmps131
 go_wp2_with (go_at_call 186;refine(HV.out _ bel sz).mono ?_;rintro e w1 ⟨rfl,hc1,hf1,hz1,hb1⟩)
 go_ret
 exact⟨rfl,by assumption⟩
end Go.Proofs.YtcplmcjbkpmhdaaGreatDoor
namespace Go.Proofs.YtcplmcjbkpmhdaaGreatDoor
open Go.RowKit
structure VarD where
 name:ByteArray
 width:Int
 mode:Int
 value:Int
structure WeightD where
 lo:Int
 hi:Int
 weight:Int
 each:Bool
structure DistD where
 var:Int
 weights:List WeightD
structure ProbD where
 vars:List VarD
 hard:List Ex
 soft:List Ex
 dists:List DistD
 groups:List (List Int)
def VarsIn (w:World) (l:List VarD) (a:Option Addr) (cap:Nat):Prop:=SliceIn 4 l.length a cap (fun i b o=>∃ v,l[i]? = some v∧w.cell? ⟨b,o,none⟩=some (.string v.name)∧w.cell? ⟨b,o+1,none⟩=some (.int .i64 v.width)∧w.cell? ⟨b,o+2,none⟩=some (.int .i64 v.mode)∧w.cell? ⟨b,o+3,none⟩=some (.int .i64 v.value)∧v.name.size≤1073741824)
theorem VarsIn.keep {w w':World} (hk:∀ a v,w.cell? a=some v→w'.cell? a=some v) {l:List VarD} {a:Option Addr} {cap:Nat} (h:VarsIn w l a cap):VarsIn w' l a cap :=
 h.mono fun _ _ _ _ ⟨s,hs,h1,h2,h3,h4,h5⟩=>⟨s,hs,hk _ _ h1,hk _ _ h2,hk _ _ h3,hk _ _ h4,h5⟩
theorem SliceIn.at {sz len:Nat} {a:Option Addr} {cap:Nat} {Q:Nat→Nat→Nat→Prop} (h:SliceIn sz len a cap Q) {b off:Nat} (ha:a=some ⟨b,off,none⟩) {i:Nat} (hi:i < len):Q i b (off+i * sz):=by
 rcases h.2.2 with h | ⟨b',off',ha',hq⟩
 ·omega
 ·rw[ha] at ha'
  simp only[Option.some.injEq,Addr.mk.injEq,and_true] at ha'
  obtain⟨rfl,rfl⟩:=ha'
  exact hq i hi
theorem VarsIn.get {w:World} {l:List VarD} {a:Option Addr} {cap:Nat} (h:VarsIn w l a cap) {b off:Nat} (ha:a=some ⟨b,off,none⟩) {i:Nat} (hi:i < l.length) :
  w.cell? ⟨b,off+i * 4,none⟩=some (.string (l[i]'hi).name)∧w.cell? ⟨b,off+i * 4+1,none⟩=some (.int .i64 (l[i]'hi).width)∧w.cell? ⟨b,off+i * 4+2,none⟩=some (.int .i64 (l[i]'hi).mode)∧w.cell? ⟨b,off+i * 4+3,none⟩=some (.int .i64 (l[i]'hi).value)∧(l[i]'hi).name.size≤1073741824:=by
 obtain⟨v,hv,hp⟩:=SliceIn.at h ha hi
 rw[List.getElem?_eq_getElem hi] at hv
 obtain rfl:=Option.some.inj hv
 exact hp
def WeightsIn (w:World) (l:List WeightD) (a:Option Addr) (cap:Nat):Prop:=SliceIn 4 l.length a cap (fun i b o=>∃ v,l[i]? = some v∧w.cell? ⟨b,o,none⟩=some (.int .i64 v.lo)∧w.cell? ⟨b,o+1,none⟩=some (.int .i64 v.hi)∧w.cell? ⟨b,o+2,none⟩=some (.int .i64 v.weight)∧w.cell? ⟨b,o+3,none⟩=some (.bool v.each))
theorem WeightsIn.keep {w w':World} (hk:∀ a v,w.cell? a=some v→w'.cell? a=some v) {l:List WeightD} {a:Option Addr} {cap:Nat} (h:WeightsIn w l a cap):WeightsIn w' l a cap :=
 h.mono fun _ _ _ _ ⟨s,hs,h1,h2,h3,h4⟩=>⟨s,hs,hk _ _ h1,hk _ _ h2,hk _ _ h3,hk _ _ h4⟩
theorem WeightsIn.get {w:World} {l:List WeightD} {a:Option Addr} {cap:Nat} (h:WeightsIn w l a cap) {b off:Nat} (ha:a=some ⟨b,off,none⟩) {i:Nat} (hi:i < l.length) :
  w.cell? ⟨b,off+i * 4,none⟩=some (.int .i64 (l[i]'hi).lo)∧w.cell? ⟨b,off+i * 4+1,none⟩=some (.int .i64 (l[i]'hi).hi)∧w.cell? ⟨b,off+i * 4+2,none⟩=some (.int .i64 (l[i]'hi).weight)∧w.cell? ⟨b,off+i * 4+3,none⟩=some (.bool (l[i]'hi).each):=by
 obtain⟨v,hv,hp⟩:=SliceIn.at h ha hi
 rw[List.getElem?_eq_getElem hi] at hv
 obtain rfl:=Option.some.inj hv
 exact hp
def DistsIn (w:World) (l:List DistD) (a:Option Addr) (cap:Nat):Prop:=SliceIn 2 l.length a cap (fun i b o=>∃ v,l[i]? = some v∧∃ a' cap',w.cell? ⟨b,o,none⟩=some (.int .i64 v.var)∧w.cell? ⟨b,o+1,none⟩=some (.slice a' v.weights.length cap')∧WeightsIn w v.weights a' cap')
theorem DistsIn.keep {w w':World} (hk:∀ a v,w.cell? a=some v→w'.cell? a=some v) {l:List DistD} {a:Option Addr} {cap:Nat} (h:DistsIn w l a cap):DistsIn w' l a cap :=
 h.mono fun _ _ _ _ ⟨s,hs,a',cap',h1,h2,h3⟩=>⟨s,hs,a',cap',hk _ _ h1,hk _ _ h2,h3.keep hk⟩
theorem DistsIn.get {w:World} {l:List DistD} {a:Option Addr} {cap:Nat} (h:DistsIn w l a cap) {b off:Nat} (ha:a=some ⟨b,off,none⟩) {i:Nat} (hi:i < l.length) :
  ∃ a' cap',w.cell? ⟨b,off+i * 2,none⟩=some (.int .i64 (l[i]'hi).var)∧w.cell? ⟨b,off+i * 2+1,none⟩=some (.slice a' (l[i]'hi).weights.length cap')∧WeightsIn w (l[i]'hi).weights a' cap':=by
 obtain⟨v,hv,hp⟩:=SliceIn.at h ha hi
 rw[List.getElem?_eq_getElem hi] at hv
 obtain rfl:=Option.some.inj hv
 exact hp
def RowsIn (w:World) (l:List (List Int)) (a:Option Addr) (cap:Nat):Prop:=SliceIn 1 l.length a cap (fun i b o=>∃ v,l[i]? = some v∧∃ a' cap',w.cell? ⟨b,o,none⟩=some (.slice a' v.length cap')∧IntsIn w v a' cap')
theorem RowsIn.keep {w w':World} (hk:∀ a v,w.cell? a=some v→w'.cell? a=some v) {l:List (List Int)} {a:Option Addr} {cap:Nat} (h:RowsIn w l a cap):RowsIn w' l a cap :=
 h.mono fun _ _ _ _ ⟨s,hs,a',cap',h1,h3⟩=>⟨s,hs,a',cap',hk _ _ h1,h3.keep hk⟩
theorem RowsIn.get {w:World} {l:List (List Int)} {a:Option Addr} {cap:Nat} (h:RowsIn w l a cap) {b off:Nat} (ha:a=some ⟨b,off,none⟩) {i:Nat} (hi:i < l.length) :
  ∃ a' cap',w.cell? ⟨b,off+i,none⟩=some (.slice a' (l[i]'hi).length cap')∧IntsIn w (l[i]'hi) a' cap':=by
 obtain⟨v,hv,hp⟩:=SliceIn.at h ha hi
 rw[List.getElem?_eq_getElem hi] at hv
 obtain rfl:=Option.some.inj hv
 rw[Nat.mul_one] at hp
 exact hp
structure ProbA where
 av:Option Addr
 cv:Nat
 ah:Option Addr
 ch:Nat
 ao:Option Addr
 co:Nat
 ad:Option Addr
 cd:Nat
 ag:Option Addr
 cg:Nat
def probVals (p:ProbD) (x:ProbA):Array Value:=#[.slice x.av p.vars.length x.cv,.slice x.ah p.hard.length x.ch,.slice x.ao p.soft.length x.co,.slice x.ad p.dists.length x.cd,.slice x.ag p.groups.length x.cg]
structure ProbIn (w:World) (p:ProbD) (x:ProbA):Prop where
 vars:VarsIn w p.vars x.av x.cv
 hard:ExsIn w p.hard x.ah x.ch
 soft:ExsIn w p.soft x.ao x.co
 dists:DistsIn w p.dists x.ad x.cd
 groups:RowsIn w p.groups x.ag x.cg
theorem ProbIn.keep {w w':World} (hk:∀ a v,w.cell? a=some v→w'.cell? a=some v) {p:ProbD} {x:ProbA} (h:ProbIn w p x):ProbIn w' p x :=
 ⟨h.vars.keep hk,h.hard.keep hk,h.soft.keep hk,h.dists.keep hk,h.groups.keep hk⟩
theorem ProbIn.below {w w':World} (hb:Below w.heap.size w w') {p:ProbD} {x:ProbA} (h:ProbIn w p x):ProbIn w' p x:=h.keep (keeps_of_below hb)
end Go.Proofs.YtcplmcjbkpmhdaaGreatDoor
