/- The reference of expressions: see. -/
import Derived.Test.YtnfkbliokjjggaaGreatDoorH06
import Derived.Deep.Cut
import Derived.Deep.AppendLies
import Derived.Deep.RegionHeld3
import Derived.Deep.RegionLaw
import Derived.Laws.Rows
import Derived.Test.YtnfkbliokjjggaaGreatDoorH00
import Derived.Deep.DrawnRows
import Derived.Deep.LoopGhost
set_option maxRecDepth 100000
set_option maxHeartbeats 4000000
set_option linter.unusedSimpArgs false
set_option linter.unusedVariables false
set_option linter.unnecessarySimpa false
namespace Go.Proofs.YtnfkbliokjjggaaGreatDoor
open Go.RowKit
theorem zcA {P:Program} {w:World} {ops:Array Oper} {o:Oper} {a:Act} {K:Act->World->Prop} {Q:Exit->Act->World->Prop} {E:Prop} {t e:TypeId} {size:Nat} (he:Elem P t e size) (hgd:o.guard=none) (s x:Operand)
 (ho:o.op=.call { callee:=.builtin .append,args:=#[s,x],argTypes:=#[t,t] })
 (base:Nat) (v:Value) (n:Nat) (xs:List Value) (hs:a.eval s=v) (hown:w.ownsRow base e size v n xs)
 (news:List Value) (hl:news.length=size) (h1:∀u∈news,u.oneCell'=true) (k c:Nat) (hx:a.eval x=.slice (some ⟨k,0,none⟩) 1 c) (hk:w.heap[k]? = some (.cells news.toArray e (0,0))) (hn:n<=1073741824) (hbase:base<=w.heap.size) (H:Nat) (hH:w.heap.size=H)
 (h:∀g cap w',w'.ownsRow base e size (.slice (some ⟨g,0,none⟩) (n+1) cap) (n+1) (xs++news)->w.grownBy w' v.ownBlock->(v.ownBlock=some g\/g=H)->g<w'.heap.size->K (a.put o.dst (.slice (some ⟨g,0,none⟩) (n+1) cap)) w') :
 if Region.wanted o (yielded ops a.tmps)=true then Oper.wp P o a w K Q else E:=by
 obtain⟨ht,i,z,bytes,hi,hz,hsz,hby,hzs,h0,hb⟩:=he;refine step_append_lies w hgd s x t ho base e i z size bytes ht hi hz hsz hby hzs h0 v n xs hs hown ⟨k,0,none⟩ 1 c news hx (by omega) ?_ h1 (by omega) (by unfold maxLen;omega) ?_ hbase H hH h
 ·have:=World.news_of_block hk;simpa using this
 ·calc (n+1)*bytes<=1073741825*1024:=Nat.mul_le_mul (by omega) hb
   _<=_:=by decide
structure X2 (B p bx:Nat) (box:Array Value) (w0:World) (cs:Array Value) (v1:Value) (l1:List ByteArray) (v2:Value) (l2:List ByteArray) (w:World):Prop where
 hB:B<=p
 cells:w.heap[p]? = some (.cells cs 233 (0,0))
 own1:w.ownsRow B 9 1 v1 l1.length (l1.map Value.string)
 own2:w.ownsRow B 9 1 v2 l2.length (l2.map Value.string)
 ne:∀k,v1.ownBlock=some k->v2.ownBlock≠some k
 box:w.heap[bx]? = some (.cells box 24 (0,0))
 kt:KT B w0 w
theorem X2.below {B p bx:Nat} {box:Array Value} {w0:World} {cs:Array Value} {v1:Value} {l1:List ByteArray} {v2:Value} {l2:List ByteArray} {w w':World} (h:X2 B p bx box w0 cs v1 l1 v2 l2 w) (hb:Below w.heap.size w w'):X2 B p bx box w0 cs v1 l1 v2 l2 w' :=
 ⟨h.hB,by rw[hb.block _ (lt_of_block h.cells)];exact h.cells,ownsRow_below h.own1 hb,ownsRow_below h.own2 hb,h.ne,by rw[hb.block _ (lt_of_block h.box)];exact h.box,h.kt.trans (KT.of_below hb)⟩
theorem X2.store {B p bx:Nat} {box:Array Value} {w0:World} {cs:Array Value} {v1:Value} {l1:List ByteArray} {v2:Value} {l2:List ByteArray} {w:World} (h:X2 B p bx box w0 cs v1 l1 v2 l2 w) (k:Nat) (u:Value):X2 B p bx box w0 (cs.setIfInBounds k u) v1 l1 v2 l2 (w.setCell ⟨p,k,none⟩ u):=by
 have hne:bx≠p:=by rintro rfl;have:=h.cells.symm.trans h.box;simp at this
 exact⟨h.hB,heap_setCell_same _ _ _ _ _ u h.cells,qL h.own1 h.cells (by decide) _ _,qL h.own2 h.cells (by decide) _ _,h.ne,by rw[Below.heap_setCell _ _ _ _ hne];exact h.box,
  h.kt.setCell h.cells (by unfold QN;decide) h.hB _⟩
theorem zad {w w':World} {base:Nat} {e:TypeId} {size:Nat} {v:Value} {n:Nat} {xs:List Value} {row:Option Nat} (h:w.ownsRow base e size v n xs) (hg:w.grownBy w' row) (hne:∀k,v.ownBlock=some k->some k≠row):w'.ownsRow base e size v n xs:=by
 obtain⟨h1,h2⟩:=h;refine⟨h1,?_⟩;rcases h2 with h2|⟨g,cap,cur,hv,hb,hh,r⟩
 ·exact Or.inl h2
 ·exact Or.inr ⟨g,cap,cur,hv,hb,by rw[hg.block _ (lt_of_block hh) (hne g (by rw[hv];rfl))];exact hh,r⟩
theorem X2.grow1 {B p bx:Nat} {box:Array Value} {w0:World} {cs:Array Value} {v1:Value} {l1:List ByteArray} {v2:Value} {l2:List ByteArray} {w:World} (h:X2 B p bx box w0 cs v1 l1 v2 l2 w) (s:ByteArray) {wg:World} {gg gcap:Nat}
 (hown:wg.ownsRow B 9 1 (.slice (some ⟨gg,0,none⟩) (l1.length+1) gcap) (l1.length+1) (l1.map Value.string++[.string s])) (hg:((w.alloc (.cells #[.string s] 9)).drew).grownBy wg v1.ownBlock) (hat:v1.ownBlock=some gg\/gg=w.heap.size+1) :
 X2 B p bx box w0 cs (.slice (some ⟨gg,0,none⟩) (l1++[s]).length gcap) (l1++[s]) v2 l2 wg:=by
 have hBA:Below w.heap.size w (w.alloc (.cells #[.string s] 9)):=(Below.refl _ _).alloc (Nat.le_refl _) _;have hBA':Below w.heap.size w ((w.alloc (.cells #[.string s] 9)).drew):=below_drewN hBA 1;have h':=h.below hBA';have hz:=h.hB;have hl:=lt_of_block h.cells;refine⟨h.hB,?_,?_,?_,?_,?_,?_⟩
 ·rw[hg.block _ (lt_of_block h'.cells) (zv h.own1 h.cells (by decide))];exact h'.cells
 ·simpa using hown
 ·exact zad h'.own2 hg (λk hk e=>h.ne k e.symm hk)
 ·intro k hk hk2;have hkg:gg=k:=by simpa [Value.ownBlock] using hk
  subst hkg;rcases hat with hat|hat
  ·exact h.ne _ hat hk2
  ·have:=(h.own2.lt _ hk2).2;omega
 ·rw[hg.block _ (lt_of_block h'.box) (zv h.own1 h.box (by decide))];exact h'.box
 ·refine h'.kt.grown hg (λk hk=>(h.own1.lt k hk).1) ?_;intro k c t z hk hh hs;obtain⟨cur,hcur,_⟩:=qg h'.own1 hk;rw[hcur]at hh;simp only[Option.some.injEq,Obj.cells.injEq]at hh;rw[←hh.2.1]at hs;exact absurd hs (by unfold QN;decide)
theorem X2.swap {B p bx:Nat} {box:Array Value} {w0:World} {cs:Array Value} {v1:Value} {l1:List ByteArray} {v2:Value} {l2:List ByteArray} {w:World} (h:X2 B p bx box w0 cs v1 l1 v2 l2 w):X2 B p bx box w0 cs v2 l2 v1 l1 w :=
 ⟨h.hB,h.cells,h.own2,h.own1,λk h2 h1=>h.ne k h1 h2,h.box,h.kt⟩
theorem X2.inv {B p bx:Nat} {box:Array Value} {w0:World} {st:Seen} {v1 v2:Value} {w:World} (h:X2 B p bx box w0 #[.int .i64 st.n,.int .i64 st.d,.int .i64 st.f,v1,v2] v1 st.vs v2 st.ar w):zf0 B p st w :=
 ⟨h.hB,v1,v2,h.cells,h.own1,h.own2,h.ne⟩
theorem zbc (l:List Ex) (dp:Nat) (st:Seen) (k:Nat):k<=l.length->(qV l dp st k).n=st.n+(zy l k).length/\(qV l dp st k).d<=max st.d (dp+(zy l k).length)/\(qV l dp st k).vs.length<=st.vs.length+(zy l k).length/\(qV l dp st k).ar.length<=st.ar.length+(zy l k).length:=by
 induction k with
 |zero=>intro _;refine⟨by simp[qV,zy],by simp[qV,zy];omega,by simp[qV,zy],by simp[qV,zy]⟩
 |succ k ih =>intro hk;obtain⟨h1,h2,h3,h4⟩:=ih (by omega);obtain⟨a1,a2,_,a4,a5⟩:=zcG (l[k]'(by omega)) (dp+1) (qV l dp st k) (by omega);have hd:=xE (l[k]'(by omega));have n4:=Zg [2] (l[k]'(by omega)).nodes (qV l dp st k).vs;have n5:=Zg [3,24] (l[k]'(by omega)).nodes (qV l dp st k).ar;rw[QB _ _ _ _ (by omega),xI _ _ (by omega),List.length_append,a1,a2,a4,a5];refine⟨by omega,by omega,by omega,by omega⟩
theorem ziz (B p:Nat) (w0:World) (hw0:B=w0.heap.size) (e:Ex):∀(st:Seen) (dp:Nat) (a:Option Addr) (cap:Nat) (w:World),st.n+e.nodes.length<=1073741824->dp+e.nodes.length<=1073741824->st.d<=1073741824->st.vs.length<=st.n->st.ar.length<=st.n ->
 zf0 B p st w->Below B w0 w->yA w0 e a cap ->
 Calls Tryz.prog 236 #[.pointer (some ⟨p,0,none⟩),zL e a cap,.int .i64 dp] w λr w'=>r=.returned (.tuple #[])/\zf0 B p (QA e dp st) w'/\KT B w w':=by
 induction e using Ex.ind with
 |h e ih =>
  intro st dp a cap w hn hdp hd hvl hal hI hB hE;obtain⟨op,n,s,args⟩:=e;have hlen:=hE.2.2.1;have hadr:=hE.2.addr;have hnl:(Ex.mk op n s args).nodes.length=(zy args args.length).length+1:=by rw[yO];simp[Ex.args_mk]
  have hsz:=hE.1;simp only[Ex.args_mk,Ex.name_mk]at hlen hadr hsz;obtain⟨h0,v1,v2,hp,o1,o2,hne⟩:=hI;have hBA:Below w.heap.size w (w.alloc (.cells #[.int .i64 op,.int .i64 n,.string s,.slice a args.length cap] 24)):=(Below.refl _ _).alloc (Nat.le_refl _) _
  have hS0:X2 B p w.heap.size #[.int .i64 op,.int .i64 n,.string s,.slice a args.length cap] w #[.int .i64 st.n,.int .i64 st.d,.int .i64 st.f,v1,v2] v1 st.vs v2 st.ar (w.alloc (.cells #[.int .i64 op,.int .i64 n,.string s,.slice a args.length cap] 24)) :=
   ⟨h0,by rw[hBA.block _ (lt_of_block hp)];exact hp,ownsRow_below o1 hBA,ownsRow_below o2 hBA,hne,zi _ _,KT.of_below hBA⟩
  have HS0:=Lib.hid hS0;have HN:=Lib.hid (⟨hn,hdp,hvl,hal,hnl⟩:_/\_/\_/\_/\_);have HB:=Lib.hid hB;have HE:=Lib.hid hE;have HIH:=Lib.hid ih;have HA:=Lib.hid hadr;have HW:=Lib.hid hw0;have hn1:st.n+1<=1073741824:=by omega
  have hdp1:dp<=1073741824:=by omega
  clear hS0 hn hdp hvl hal hnl hB hE ih hadr hw0 hp o1 o2 hne hBA;simp only[zL,Ex.op_mk,Ex.n_mk,Ex.name_mk,Ex.args_mk];go_enter Tryz.func236, Tryz.ntmps236;go_upto_region 1 with fail;generalize w.alloc (.cells #[.int .i64 op,.int .i64 n,.string s,.slice a args.length cap] 24)=wb at HS0⊢;have hpc:=HS0.out.cells;have c0:wb.cell? ⟨p,0,none⟩=some (.int .i64 st.n):=by simp[World.cell?,hpc]
  have c1:wb.cell? ⟨p,1,none⟩=some (.int .i64 st.d):=by simp[World.cell?,hpc]
  have f0:wb.frozen? ⟨p,0,none⟩=false:=by simp[World.frozen?,hpc]
  have f1:wb.frozen? ⟨p,1,none⟩=false:=by simp[World.frozen?,hpc]
  clear hpc;go_upto_if 20 with fail;go_cut [] from 7 (λwx=>X2 B p w.heap.size #[.int .i64 op,.int .i64 n,.string s,.slice a args.length cap] w #[.int .i64 ((st.n+1:Nat):Int),.int .i64 ((max st.d dp:Nat):Int),.int .i64 st.f,v1,v2] v1 st.vs v2 st.ar wx);case first =>
   by_cases hdd:st.d<dp
   ·go_wp2_with fail;go_meet;case rel =>
     have e1:max st.d dp=dp:=by omega
     rw[e1];have:=(HS0.out.store 0 (.int .i64 ((st.n+1:Nat):Int))).store 1 (.int .i64 dp);exact this
   ·go_wp2_with fail;go_meet;case rel =>
     have e1:max st.d dp=st.d:=by omega
     rw[e1];exact HS0.out.store 0 (.int .i64 ((st.n+1:Nat):Int))
  case rest =>
   have hpc:=hcut.cells;have hbx:=hcut.box;have c2:wc.cell? ⟨p,2,none⟩=some (.int .i64 st.f):=by simp[World.cell?,hpc]
   have b0:wc.cell? ⟨w.heap.size,0,none⟩=some (.int .i64 op):=by simp[World.cell?,hbx]
   have b1:wc.cell? ⟨w.heap.size,1,none⟩=some (.int .i64 n):=by simp[World.cell?,hbx]
   have b2:wc.cell? ⟨w.heap.size,2,none⟩=some (.string s):=by simp[World.cell?,hbx]
   have b3:wc.cell? ⟨w.heap.size,3,none⟩=some (.slice a args.length cap):=by simp[World.cell?,hbx]
   have HS1:=Lib.hid hcut;have HWr:=Lib.hid (zdO op n s args a cap wc hsz hlen);clear hpc hbx hcut c0 c1 f0 f1 HS0;have hF:Hid ((stepW st dp (.mk op n s args)).f=if st.f=0 then xQ (.mk op n s args) else st.f):=rfl;generalize hff:(stepW st dp (.mk op n s args)).f=ff at hF;have Hff:=Lib.hid hff;clear hff;go_upto_if 29 with fail;go_cut [] from 7 (λwx=>X2 B p w.heap.size #[.int .i64 op,.int .i64 n,.string s,.slice a args.length cap] w #[.int .i64 ((st.n+1:Nat):Int),.int .i64 ((max st.d dp:Nat):Int),.int .i64 ff,v1,v2] v1 st.vs v2 st.ar wx);case first =>
    by_cases hf:st.f=0
    ·have e1:Hid (ff=xQ (.mk op n s args)):=by show _=_;rw[hF.out,if_pos hf]
     have hfb:(st.f==0)=true:=by simpa using hf
     clear hf;go_wp2_with fail;refine HWr.out.mono ?_;rintro e w2 ⟨rfl,hb2⟩;have HS2:=Lib.hid (HS1.out.below hb2);have f2:w2.frozen? ⟨p,2,none⟩=false:=by simp[World.frozen?,HS2.out.cells]
     have c2':w2.cell? ⟨p,2,none⟩=some (.int .i64 st.f):=by simp[World.cell?,HS2.out.cells]
     clear hb2 c2 b0 b1 b2 b3;go_wp2_with fail;go_meet;case rel =>rw[e1.out];exact HS2.out.store 2 _
    ·have e1:Hid (ff=st.f):=by show _=_;rw[hF.out,if_neg hf]
     have hfb:(st.f==0)=false:=by simpa using hf
     clear hf;go_wp2_with fail;go_meet;case rel =>rw[e1.out];exact HS1.out
   case rest =>
    have hpc:=hcut.cells;have hbx:=hcut.box;clear c2 b0 b1 b2 b3 HS1 HWr;have c3:wc.cell? ⟨p,3,none⟩=some v1:=by simp[World.cell?,hpc]
    have b0:wc.cell? ⟨w.heap.size,0,none⟩=some (.int .i64 op):=by simp[World.cell?,hbx]
    have b2:wc.cell? ⟨w.heap.size,2,none⟩=some (.string s):=by simp[World.cell?,hbx]
    have HS1:=Lib.hid hcut;have hvl:=HN.out.2.2.1;obtain⟨ca,ck,hcv,hcs⟩:=x6 hcut.own1 (by omega);subst hcv;have HH:=Lib.hid (λn=>qe st.vs ca ck s (wc.drewN n) hcs);clear hpc hbx hcut hvl hcs;go_upto_region 6 with fail;go_cut [47] from 7 (λs47 wx=>s47=.bool (op==2&&!(Lib.containsS st.vs s))/\X2 B p w.heap.size #[.int .i64 op,.int .i64 n,.string s,.slice a args.length cap] w #[.int .i64 ((st.n+1:Nat):Int),.int .i64 ((max st.d dp:Nat):Int),.int .i64 ff,.slice ca st.vs.length ck,v2] (.slice ca st.vs.length ck) st.vs v2 st.ar wx);case first =>
     by_cases h2:op=2
     ·subst h2;cases hc:Lib.containsS st.vs s
      all_goals
       go_quiet ((go_at_call 275;exact Calls.quiet_of_same ((HH.out _).mono λe w' h=>⟨by rw[h.1,hc],h.2.symm⟩)));go_wp2_with fail;go_meet;case rel=>exact⟨by rw[hc];rfl,HS1.out.below (below_drewN (Below.refl _ _) _)⟩
     ·have h2b:(op==2)=false:=by simpa using h2
      clear h2;go_quiet (fail);go_wp2_with fail;go_meet;case rel=>exact⟨by rw[h2b];rfl,HS1.out.below (below_drewN (Below.refl _ _) _)⟩
    case rest =>
     obtain⟨rfl,hS2⟩:=hcut;have HV:Hid (zI [2] st.vs (.mk op n s args)=if (op==2&&!(Lib.containsS st.vs s))=true then st.vs++[s] else st.vs):=by show _=_;unfold zI;rw[Ex.op_mk,Ex.name_mk];by_cases h1:op=2<;>cases h2:Lib.containsS st.vs s<;>simp[h1,h2]
     generalize (op==2&&!(Lib.containsS st.vs s))=bb at HV⊢;generalize hvs':zI [2] st.vs (.mk op n s args)=vs' at HV;have Hvs':=Lib.hid hvs';clear hvs' HH HS1 c3 b0 b2;have hpc:=hS2.cells;have hbx:=hS2.box;have hvn:=HN.out.2.2.1;have hvn':st.vs.length<=1073741824:=by omega
     have c3:wc.cell? ⟨p,3,none⟩=some (.slice ca st.vs.length ck):=by simp[World.cell?,hpc]
     have f3:wc.frozen? ⟨p,3,none⟩=false:=by simp[World.frozen?,hpc]
     have b2:wc.cell? ⟨w.heap.size,2,none⟩=some (.string s):=by simp[World.cell?,hbx]
     have HS2:=Lib.hid hS2;have hplt:=lt_of_block hpc;have hblt:=lt_of_block hbx;have hBz:B<=wc.heap.size:=by have:=hS2.hB;omega
     have hnp:=zv hS2.own1 hpc (by decide);have hnb:=zv hS2.own1 hbx (by decide);clear hpc hbx hS2 hvn;go_upto_if 47 with fail;go_cut [] from 7 (λwx=>∃(c1:Option Addr) (k1:Nat),X2 B p w.heap.size #[.int .i64 op,.int .i64 n,.string s,.slice a args.length cap] w #[.int .i64 ((st.n+1:Nat):Int),.int .i64 ((max st.d dp:Nat):Int),.int .i64 ff,.slice c1 vs'.length k1,v2] (.slice c1 vs'.length k1) vs' v2 st.ar wx);case first =>
      cases bb
      ·have e1:vs'=st.vs:=by rw[HV.out];simp
       go_wp2_with fail;go_meet;case rel=>exact⟨ca,ck,by rw[e1];exact HS2.out⟩
      ·have e1:vs'=st.vs++[s]:=by rw[HV.out];simp
       have He1:=Lib.hid e1;clear e1;go_wp2_with fail;have c3o:∀o,(wc.alloc o).cell? ⟨p,3,none⟩=some (.slice ca st.vs.length ck):=λo=>(World.cell?_alloc_lt _ _ _ hplt).trans c3;go_region_law ((refine zcA zh2 (by rfl) _ _ (by rfl) B (.slice ca st.vs.length ck) st.vs.length (st.vs.map Value.string) (by rfl) ((HS2.out.own1.alloc _).drew) [.string s] (by rfl) (by simp[Value.oneCell']) wc.heap.size 1 (by rfl) (zi wc _) hvn' (by simp;omega) (wc.heap.size+1) (by simp) ?_;intro gg gcap wg hownG hgrow hatG hltG;have f3g:wg.frozen? ⟨p,3,none⟩=false:=((hgrow.frozen_far ⟨p,3,none⟩ (by simp;omega) hnp).trans (World.frozen?_alloc_old _ _ _ (Nat.ne_of_lt hplt))).trans f3;have c3g:wg.cell? ⟨p,3,none⟩=some (.slice ca st.vs.length ck):=(hgrow.cell_far ⟨p,3,none⟩ (by simp;omega) hnp).trans (c3o _)));all_goals go_wp2_with fail
       all_goals go_meet
       all_goals exact⟨some ⟨gg,0,none⟩,gcap,by rw[He1.out];have:=((HS2.out.grow1 s hownG hgrow hatG).store 3 (.slice (some ⟨gg,0,none⟩) (st.vs.length+1) gcap));simpa using this⟩
     case rest =>
      obtain⟨cv1,kv1,hS3⟩:=hcut;clear c3 f3 b2 HS2 hplt hblt hnp hnb hvn' hF;have hpc:=hS3.cells;have hbx:=hS3.box;have hal:=HN.out.2.2.2.1;have hal':st.ar.length<=1073741824:=by omega
      obtain⟨da,dk,hdv,hds⟩:=x6 hS3.own2 hal';subst hdv;have c4:wc.cell? ⟨p,4,none⟩=some (.slice da st.ar.length dk):=by simp[World.cell?,hpc]
      have b0:wc.cell? ⟨w.heap.size,0,none⟩=some (.int .i64 op):=by simp[World.cell?,hbx]
      have b2:wc.cell? ⟨w.heap.size,2,none⟩=some (.string s):=by simp[World.cell?,hbx]
      have HS3:=Lib.hid hS3;have HH:=Lib.hid (λn=>qe st.ar da dk s (wc.drewN n) hds);clear hpc hbx hS3 hal hds;go_upto_region 8 with fail;go_cut [76] from 7 (λs76 wx=>s76=.bool ((op==3||op==24)&&!(Lib.containsS st.ar s))/\X2 B p w.heap.size #[.int .i64 op,.int .i64 n,.string s,.slice a args.length cap] w #[.int .i64 ((st.n+1:Nat):Int),.int .i64 ((max st.d dp:Nat):Int),.int .i64 ff,.slice cv1 vs'.length kv1,.slice da st.ar.length dk] (.slice cv1 vs'.length kv1) vs' (.slice da st.ar.length dk) st.ar wx);case first =>
       by_cases h3:op=3
       ·subst h3;cases hc:Lib.containsS st.ar s
        all_goals
         go_quiet ((go_at_call 275;exact Calls.quiet_of_same ((HH.out _).mono λe w' h=>⟨by rw[h.1,hc],h.2.symm⟩)));go_wp2_with fail;go_meet;case rel=>exact⟨by rw[hc];rfl,HS3.out.below (below_drewN (Below.refl _ _) _)⟩
       ·have h3b:(op==3)=false:=by simpa using h3
        clear h3;by_cases h4:op=24
        ·subst h4;cases hc:Lib.containsS st.ar s
         all_goals
          go_quiet ((go_at_call 275;exact Calls.quiet_of_same ((HH.out _).mono λe w' h=>⟨by rw[h.1,hc],h.2.symm⟩)));go_wp2_with fail;go_meet;case rel=>exact⟨by rw[hc];rfl,HS3.out.below (below_drewN (Below.refl _ _) _)⟩
        ·have h4b:(op==24)=false:=by simpa using h4
         clear h4;go_quiet (fail);go_wp2_with fail;go_meet;case rel=>exact⟨by rw[h3b,h4b];rfl,HS3.out.below (below_drewN (Below.refl _ _) _)⟩
      case rest =>
       obtain⟨rfl,hS4⟩:=hcut;have HAr:Hid (zI [3,24] st.ar (.mk op n s args)=if ((op==3||op==24)&&!(Lib.containsS st.ar s))=true then st.ar++[s] else st.ar):=by show _=_;unfold zI;rw[Ex.op_mk,Ex.name_mk];by_cases h1:op=3<;>by_cases h3:op=24<;>cases h2:Lib.containsS st.ar s<;>simp[h1,h2,h3]
       generalize ((op==3||op==24)&&!(Lib.containsS st.ar s))=bb2 at HAr⊢;generalize har':zI [3,24] st.ar (.mk op n s args)=ar' at HAr;have Har':=Lib.hid har';clear har' HH HS3 c4 b0 b2;have hpc:=hS4.cells;have hbx:=hS4.box;have c4:wc.cell? ⟨p,4,none⟩=some (.slice da st.ar.length dk):=by simp[World.cell?,hpc]
       have f4:wc.frozen? ⟨p,4,none⟩=false:=by simp[World.frozen?,hpc]
       have b2:wc.cell? ⟨w.heap.size,2,none⟩=some (.string s):=by simp[World.cell?,hbx]
       have HS4:=Lib.hid hS4.swap;have hplt:=lt_of_block hpc;have hBz:B<=wc.heap.size:=by have:=hS4.hB;omega
       have hnp:=zv hS4.own2 hpc (by decide);clear hpc hbx hS4;go_upto_if 76 with fail;go_cut [] from 7 (λwx=>∃(c2:Option Addr) (k2:Nat),X2 B p w.heap.size #[.int .i64 op,.int .i64 n,.string s,.slice a args.length cap] w #[.int .i64 ((st.n+1:Nat):Int),.int .i64 ((max st.d dp:Nat):Int),.int .i64 ff,.slice cv1 vs'.length kv1,.slice c2 ar'.length k2] (.slice cv1 vs'.length kv1) vs' (.slice c2 ar'.length k2) ar' wx);case first =>
        cases bb2
        ·have e1:ar'=st.ar:=by rw[HAr.out];simp
         go_wp2_with fail;go_meet;case rel=>exact⟨da,dk,by rw[e1];exact HS4.out.swap⟩
        ·have e1:ar'=st.ar++[s]:=by rw[HAr.out];simp
         have He1:=Lib.hid e1;clear e1;go_wp2_with fail;have c4o:∀o,(wc.alloc o).cell? ⟨p,4,none⟩=some (.slice da st.ar.length dk):=λo=>(World.cell?_alloc_lt _ _ _ hplt).trans c4;go_region_law ((refine zcA zh2 (by rfl) _ _ (by rfl) B (.slice da st.ar.length dk) st.ar.length (st.ar.map Value.string) (by rfl) ((HS4.out.own1.alloc _).drew) [.string s] (by rfl) (by simp[Value.oneCell']) wc.heap.size 1 (by rfl) (zi wc _) hal' (by simp;omega) (wc.heap.size+1) (by simp) ?_;intro gg gcap wg hownG hgrow hatG hltG;have f4g:wg.frozen? ⟨p,4,none⟩=false:=((hgrow.frozen_far ⟨p,4,none⟩ (by simp;omega) hnp).trans (World.frozen?_alloc_old _ _ _ (Nat.ne_of_lt hplt))).trans f4;have c4g:wg.cell? ⟨p,4,none⟩=some (.slice da st.ar.length dk):=(hgrow.cell_far ⟨p,4,none⟩ (by simp;omega) hnp).trans (c4o _)));all_goals go_wp2_with fail
         all_goals go_meet
         all_goals exact⟨some ⟨gg,0,none⟩,gcap,by rw[He1.out];have:=((HS4.out.grow1 s hownG hgrow hatG).store 4 (.slice (some ⟨gg,0,none⟩) (st.ar.length+1) gcap)).swap;simpa using this⟩
       case rest =>
        obtain⟨cv2,kv2,hS5⟩:=hcut;have HST:Hid (stepW st dp (.mk op n s args)=⟨st.n+1,max st.d dp,ff,vs',ar'⟩):=by show _=_;rw[←Hff.out,←Hvs'.out,←Har'.out];rfl
        have hI5:zf0 B p (stepW st dp (.mk op n s args)) wc:=by rw[HST.out];exact X2.inv (st:=⟨st.n+1,max st.d dp,ff,vs',ar'⟩) hS5
        have HI5:=Lib.hid (⟨hI5,hS5.kt,hS5.box⟩:_/\_/\_);have hBw:B<=w.heap.size:=Nat.le_trans (Nat.le_of_eq HW.out) HB.out.size;have HBN:Hid ((stepW st dp (.mk op n s args)).n=st.n+1/\(stepW st dp (.mk op n s args)).d=max st.d dp/\(stepW st dp (.mk op n s args)).vs.length<=st.n+1/\(stepW st dp (.mk op n s args)).ar.length<=st.n+1):=by
         refine⟨rfl,rfl,?_,?_⟩
         ·have:=xT [2] st.vs (.mk op n s args);have:=HN.out.2.2.1;simp only[stepW];omega
         ·have:=xT [3,24] st.ar (.mk op n s args);have:=HN.out.2.2.2.1;simp only[stepW];omega
        clear hS5 hI5 c4 f4 b2 HS4 hplt hBz hnp hal' HAr Har' Hvs' HV Hff HST;generalize hst1:stepW st dp (.mk op n s args)=st1 at HI5 HBN;have Hst1:=Lib.hid hst1;clear hst1;go_wp2_with fail;go_loopw [6] (λi wr=>∃k:Nat,i=.int .i64 k/\k<=args.length/\zf0 B p (qV args dp st1 k) wr/\KT B w wr/\wr.heap[w.heap.size]? = some (.cells #[.int .i64 op,.int .i64 n,.string s,.slice a args.length cap] 24 (0,0))) (λi _=>args.length-(intOf i).toNat);case atStart=>exact⟨0,rfl,Nat.zero_le _,HI5.out.1,HI5.out.2.1,HI5.out.2.2⟩
        case round =>
         obtain⟨k,rfl,hk,hIr,hKr,hbx⟩:=hrel;have hBr:=HB.out.trans ((hKr.below hBw).mono (Nat.le_refl _));have b3:wr.cell? ⟨w.heap.size,3,none⟩=some (.slice a args.length cap):=by simp[World.cell?,hbx]
         by_cases hlt:k<args.length
         ·obtain⟨b,off,ha⟩:=HA.out.resolve_left (by omega);subst ha;obtain⟨a',cap',g0,g1,g2,g3,hX⟩:=HE.out.2.get rfl hlt;have kk:∀a v,w0.cell? a=some v->wr.cell? a=some v:=λq v hq=>(hBr.cell (Nat.lt_of_lt_of_le (World.block_lt_of_cell? _ _ hq) (Nat.le_of_eq HW.out.symm))).trans hq;have c0:=kk _ _ g0;have c1:=kk _ _ g1;have c2:=kk _ _ g2;have c3:=kk _ _ g3;simp only[Ex.args_mk]at c0 c1 c2 c3;have hm:args[k]∈(Ex.mk op n s args).args:=List.getElem_mem hlt;obtain⟨t1,t2,t3,t4⟩:=zbc args dp st1 k hk;have hrm:=xS args k hlt;have hn':=HN.out;have hbn:=HBN.out;have hC:=HIH.out _ hm (qV args dp st1 k) (dp+1) a' cap' wr (by omega) (by omega) (by omega) (by omega) (by omega) hIr hBr hX;have HC:=Lib.hid hC;simp only[Ex.args_mk,zL]at HC;rw[show ((dp+1:Nat):Int)=(dp:Int)+1 from by omega]at HC;have HR:=Lib.hid (⟨hKr,hbx⟩:_/\_);have HSu:=Lib.hid (QB args dp st1 k hlt);clear g0 g1 g2 g3 kk hC hrm hn' hbn t1 t2 t3 t4 hX hIr hKr hBr hbx hm;go_wp2_with fail;refine HC.out.mono ?_;rintro e w2 ⟨rfl,hI2,hK2⟩;have H2:=Lib.hid (⟨hI2,hK2⟩:_/\_);clear hI2 hK2 c0 c1 c2 c3 b3;go_wp2_with fail;go_roundw;case rel=>exact⟨k+1,by go_num,by omega,by rw[HSu.out];exact H2.out.1,HR.out.1.trans H2.out.2,H2.out.2.typed _ _ _ _ HR.out.2 (Or.inl rfl)⟩
          case measure=>simp[intOf];omega
         ·obtain rfl:k=args.length:=by omega
          have HE':=Lib.hid (⟨hIr,hKr⟩:_/\_);have HSA:=Lib.hid (zfB (.mk op n s args) dp st);clear hIr hKr hBr hbx;go_wp2_with fail;go_end0;refine⟨rfl,?_,HE'.out.2⟩;have h1:=HE'.out.1;rw[←Hst1.out]at h1;rw[←HSA.out];exact h1
def intOf:Value->Int
 | .int _ q=>q
 |_=>0
theorem zb {W:World} {k:Nat} {c:Array Value} {t:TypeId} {fz:Nat×Nat} (h:W.heap[k]? = some (.cells c t fz)) (o:Nat):W.cell? ⟨k,o,none⟩=c[o]?:=by simp[World.cell?,h]
theorem xV {w:World} {a:Addr} {v:Value} (h:w.cell? a=some v):a.block<w.heap.size:=by
 unfold World.cell? at h;split at h
 ·rename_i hb;exact lt_of_block hb
 ·simp at h
def World.hide (w:World) (p:Nat->Bool):World:={ w with heap:=w.heap.mapIdx λk o=>if p k then .cells #[] 0 else o }
theorem zr {w:World} {p:Nat->Bool} {a:Addr} {v:Value}:(World.hide w p).cell? a=some v<->p a.block=false/\w.cell? a=some v:=by
 unfold World.hide World.cell?;simp only[Array.getElem?_mapIdx];cases h:w.heap[a.block]? with
 |none=>simp
 |some o =>
  cases hp:p a.block with
  |false=>simp
  |true=>simp
theorem zc {w:World} {p:Nat->Bool}:∀a v,(World.hide w p).cell? a=some v->w.cell? a=some v:=λ_ _ h=>(zr.1 h).2
theorem zB {w:World} {p q:Nat->Bool} (h:∀k,p k=true->q k=true):∀a v,(World.hide w q).cell? a=some v->(World.hide w p).cell? a=some v:=λa _ ha =>
 zr.2 ⟨by
  cases hp:p a.block with
  |false=>rfl
  |true=>have:=h _ hp;rw[(zr.1 ha).1]at this;simp at this,(zr.1 ha).2⟩
theorem zg {w w':World} {p q:Nat->Bool} (h:Below w.heap.size w w') (hq:∀k,k<w.heap.size->q k=true->p k=true):∀a v,(World.hide w p).cell? a=some v->(World.hide w' q).cell? a=some v:=by
 intro a v ha;obtain⟨h1,h2⟩:=zr.1 ha;refine zr.2 ⟨?_,za h _ _ h2⟩;cases hp:q a.block with
 |false=>rfl
 |true=>have:=hq _ (xV h2) hp;rw[h1]at this;simp at this
theorem yE {w w':World} {row:Option Nat} {p q:Nat->Bool} (h:w.grownBy w' row) (hr:∀k,row=some k->p k=true) (hq:∀k,k<w.heap.size->q k=true->p k=true):∀a v,(World.hide w p).cell? a=some v->(World.hide w' q).cell? a=some v:=by
 intro a v ha;obtain⟨h1,h2⟩:=zr.1 ha;have hlt:=xV h2;have hne:some a.block≠row:=λe=>by have:=hr _ e.symm;rw[h1]at this;simp at this
 refine zr.2 ⟨?_,?_⟩
 ·cases hp:q a.block with
  |false=>rfl
  |true=>have:=hq _ hlt hp;rw[h1]at this;simp at this
 ·rw[World.cell?_of_block (h.block _ hlt hne)];exact h2
theorem zj {w:World} {p:Nat->Bool} {k o:Nat} {u:Value} (hk:p k=true):∀a v,(World.hide w p).cell? a=some v->(World.hide (w.setCell ⟨k,o,none⟩ u) p).cell? a=some v:=by
 intro a v ha;obtain⟨h1,h2⟩:=zr.1 ha;have hne:a.block≠k:=λe=>by rw[e,hk]at h1;simp at h1
 refine zr.2 ⟨h1,?_⟩;unfold World.cell? at h2⊢;rw[Below.heap_setCell _ _ _ _ hne];exact h2
def old (B:Nat):Nat->Bool:=λk=>decide (k<B)
theorem zH {B k:Nat}:old B k=true<->k<B:=by simp[old]
end Go.Proofs.YtnfkbliokjjggaaGreatDoor
