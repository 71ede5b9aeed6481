/- nfa.compile. -/
import Derived.Test.YthojpomoflhbcaaGreatDoorN21
import Derived.Test.YthojpomoflhbcaaGreatDoorN09
import Derived.Test.YthojpomoflhbcaaGreatDoorN30
import Derived.Test.YthojpomoflhbcaaGreatDoorN31
import Derived.Test.YthojpomoflhbcaaGreatDoorN20
set_option linter.unusedSimpArgs false
set_option linter.unusedVariables false
set_option linter.unnecessarySimpa false
namespace Go.Proofs.YthojpomoflhbcaaGreatDoor
open Go.RowKit
attribute [local go_sem ↓] Go.wp_at_zero Go.wp_at_succ
theorem elemNF:Elem Tryz.prog 131 33 3:=Elem.of Tryz.underlying131 (by kernel_rfl) (z:=.agg #[.int .i64 0,.slice none 0 0,.slice none 0 0]) (bytes:=56) rfl (by decide) (by decide)
theorem partsN_map (ps:List NfaD):partsN (ps.map some)=some ps:=by
 induction ps with
 | nil=>rfl
 | cons p ps ih=>simp only[List.map_cons,partsN,ih,Option.map_some]
theorem partsN_fail:∀ {l:List (Option NfaD)} {k:Nat} (hk:k < l.length),l[k]'hk=none→partsN l=none:=by
 intro l
 induction l with
 | nil=>intro k hk;simp at hk
 | cons a l ih =>
  intro k hk h
  cases a with
  | none=>rfl
  | some n =>
   cases k with
   | zero=>simp at h
   | succ k =>
    rw[partsN,ih (k:=k) (by simpa using hk) (by simpa using h)]
    rfl
theorem list1 {α:Type} {l:List α} (h:l.length=1):∃ x,l=[x]:=by
 match l with
 | [x]=>exact⟨x,rfl⟩
theorem list2 {α:Type} {l:List α} (h:l.length=2):∃ x y,l=[x,y]:=by
 match l with
 | [x,y]=>exact⟨x,y,rfl⟩
theorem list1c {α:Type} {l:List α} (h:1≤l.length):∃ x r,l=x::r:=by
 match l with
 | x::r=>exact⟨x,r,rfl⟩
theorem regL_cons {ks:List Nat} {x:NfaD} {r:List NfaD} (h:RegL ks (x::r)):∃ k0 ks',RegN k0 x∧RegL ks' r∧ks=k0::ks':=by
 cases h with
 | cons h hs=>exact⟨_,_,h,hs,rfl⟩
theorem hs3 {W:World} {k g:Nat} {o:Obj} {u0 u1 u2:Value} (h:W.heap[g]? = some o) (hne:g≠k):(((W.setCell ⟨k,0,none⟩ u0).setCell ⟨k,1,none⟩ u1).setCell ⟨k,2,none⟩ u2).heap[g]? = some o:=by
 rw[Below.heap_setCell _ _ _ _ hne,Below.heap_setCell _ _ _ _ hne,Below.heap_setCell _ _ _ _ hne];exact h
theorem hs34 {W:World} {k:Nat} {t:TypeId} {z0 z1 z2 z3 u0 u1 u2:Value} (h:W.heap[k]? = some (.cells #[z0,z1,z2,z3] t (0,0))):(((W.setCell ⟨k,0,none⟩ u0).setCell ⟨k,1,none⟩ u1).setCell ⟨k,2,none⟩ u2).heap[k]? = some (.cells #[u0,u1,u2,z3] t (0,0)):=by
 have h0:=heap_setCell_same _ k 0 _ t u0 h
 have h1:=heap_setCell_same _ k 1 _ t u1 h0
 have h2:=heap_setCell_same _ k 2 _ t u2 h1
 rw[h2];rfl
theorem NfaRet.fin {q:Nat→Bool} {r:Option NfaD} {w7 w8:World} {e:Ending} (h:NfaRet q r w7 e w8):∃ (st:Int) (ea:Option Addr) (en ec:Nat) (aa:Option Addr) (an ac:Nat) (er:Int),e=.returned (.tuple #[.agg #[.int .i64 st,.slice ea en ec,.slice aa an ac],.int .i64 er])∧Below w7.heap.size w7 w8 ∧
  ∀ (p:Nat→Bool) (w0 W:World),Kp (World.hide w8 q) (World.hide W p)→Below w0.heap.size w0 W→NfaRet p r w0 (.returned (.tuple #[.agg #[.int .i64 st,.slice ea en ec,.slice aa an ac],.int .i64 er])) W:=by
 cases r with
 | none =>
  obtain⟨rfl,hb⟩:=h.outNo
  exact⟨_,_,_,_,_,_,_,_,rfl,hb,fun p w0 W _ hb2=>NfaRet.no hb2⟩
 | some n =>
  obtain⟨x,rfl,hn,hb⟩:=h.outYes
  exact⟨_,_,_,_,_,_,_,_,rfl,hb,fun p w0 W hk hb2=>NfaRet.yes (hn.keep hk) hb2⟩
set_option maxHeartbeats 32000000 in
set_option maxRecDepth 100000 in
theorem compile_any (s:Tq):∀ (b:Bool),checkT s b=0→s.nodes≤1000→∀ (p:Nat→Bool) (ae:Option Addr) (ce:Nat) (a:Option Addr) (cap:Nat) (w:World),TqIn (World.hide w p) s ae ce a cap→(∀ j,p j=true→j < w.heap.size)→Glob w →
  Calls Tryz.prog 43 #[tqVal s ae ce a cap] w (NfaRet p (compN s) w):=by
 induction s using Tq.ind with
 | h s ih =>
  intro b hc hn p ae ce a cap w hX hp hG
  obtain⟨hnode,harg⟩:=checkT_arg hc
  obtain⟨hshape,-,-,-,hval,-⟩:=nodeT_zero hnode
  have HVal:Hid (writtenB s.op=true→validS s.expr=0):=hval
  clear hval
  have HSh:=Lib.hid (shapeB_true hshape)
  have HIH:Hid (∀ k (hk:k < s.args.length),∀ (q:Nat→Bool) (ae:Option Addr) (ce:Nat) (a:Option Addr) (cap:Nat) (W:World),TqIn (World.hide W q) (s.args[k]'hk) ae ce a cap→(∀ j,q j=true→j < W.heap.size)→Glob W→Calls Tryz.prog 43 #[tqVal (s.args[k]'hk) ae ce a cap] W (NfaRet q (compN (s.args[k]'hk)) W)):=fun k hk q ae ce a cap W h1 h2 h3=>ih _ (List.getElem_mem hk) _ (harg _ (List.getElem_mem hk)) (Nat.le_trans (Nat.le_of_lt (tq_nodes_arg (List.getElem_mem hk))) hn) q ae ce a cap W h1 h2 h3
  have hlen:=hX.ar.2.1
  have HX:=Lib.hid hX
  have HAd:Hid (s.args.length=0∨∃ b off,a=some ⟨b,off,none⟩):=SliceIn.addr hX.ar
  have HG:=Lib.hid hG
  have Hp:=Lib.hid hp
  have HReg:Hid (∀ a∈s.args,∀ n,compN a=some n→RegN a.nodes n):=fun a ha n h=>comp_reg a _ (harg a ha) n h
  have HSum:Hid (1+(s.args.map Tq.nodes).sum≤1000):=by show _≤_;rw[← Tq.nodes_eq];exact hn
  have HCe:Hid (compN s=match partsN (s.args.map compN) with | none=>none | some l=>nodeN s l):=compN_eq s
  clear hc hn hX hp hG ih hnode harg hshape
  generalize hPo:NfaRet p (compN s) w=Po
  have HPo:Hid (∀ r,compN s=r→∀ e W,NfaRet p r w e W→Po e W):=fun r h e W h2=>by rw[← hPo,h];exact h2
  clear hPo
  rw[tqVal_eq]
  go_enter Tryz.func43, Tryz.ntmps43
  go_upto_region 2 with fail
  generalize hW2:World.alloc (World.alloc w _) _=W2
  have HB2:Hid (Below w.heap.size w W2):=by show Below _ _ _;rw[← hW2];exact((Below.refl _ _).alloc (Nat.le_refl _) _).alloc (by simp) _
  have hx2:W2.heap[w.heap.size]? = some (tqBoxF s ae ce a cap):=by rw[← hW2];exact hx_oldT (hx_newT rfl)
  have hy2:W2.heap[w.heap.size+1]? = some NfBox0:=by rw[← hW2];exact hx_newT (by simp)
  have hz2:W2.heap.size=w.heap.size+2:=by rw[← hW2];simp
  obtain⟨-,-,-,-,-,-,-,-,b8⟩:=cell9TF hx2
  have HX2:=Lib.hid hx2
  have HY2:=Lib.hid hy2
  obtain⟨q,hq⟩:∃ q:Nat→Bool,(fun j=>p j || (j == w.heap.size) || (j == w.heap.size+1))=q:=⟨_,rfl⟩
  have Q:Hid (∀ j,q j=true↔p j=true∨j=w.heap.size∨j=w.heap.size+1):=fun j=>by rw[← hq];simp[or_assoc]
  have HQB:Hid (∀ j,q j=true→j < w.heap.size+2):=fun j hj=>by
   rcases (Q.out j).1 hj with h | h
   ·have:=Hp.out j h;omega
   ·omega
  clear hW2 hq hx2 hy2
  go_wp2_with fail
  clear b8
  go_loopw [13,4,6,7,8] (fun i v _ _ _ wr=>∃ (k:Nat) (ps:List NfaD),i=.int .i64 k∧k≤s.args.length∧ps.length=k∧Hid ((s.args.take k).map compN=ps.map some)∧Hid (nfE.Own 33 q wr (w.heap.size+2) v ps)∧Hid (Below W2.heap.size W2 wr)) (fun i _ _ _ _ _=>s.args.length - (intOf i).toNat)
  case atStart=>exact⟨0,[],rfl,Nat.zero_le _,rfl,rfl,Enc.Own.nil _ _ _ _ _,Below.refl _ _⟩
  case round =>
   (try rename World=>wr)
   obtain⟨k,ps,rfl,hk,hpl,HPs,HO,HBr⟩:=hrel
   have hzr:=HBr.out.size
   obtain⟨va,vc,hv,hsl⟩:=HO.out.slice (by omega)
   rw[hpl] at hv
   subst hv
   have HVo:Hid (∀ j,(Value.slice va k vc).ownBlock=some j→w.heap.size+2≤j∧j < wr.heap.size):=own_vlt HO.out
   have HBw:Hid (Below w.heap.size w wr):=HB2.out.trans (HBr.out.mono (by omega))
   have HBx:Hid (wr.heap[w.heap.size]? = some (tqBoxF s ae ce a cap)):=(HBr.out.block _ (by omega)).trans HX2.out
   have HBy:Hid (wr.heap[w.heap.size+1]? = some NfBox0):=(HBr.out.block _ (by omega)).trans HY2.out
   by_cases hlt:k < s.args.length
   ·obtain⟨bE,oE,hEa⟩:=HAd.out.resolve_left (by omega)
    have HKp:Hid (Kp (World.hide w p) (World.hide wr (hid q (.slice va k vc)))):=hide_below HBw.out fun j hj hq=>(hid_true.1 hq).elim (fun h=>((Q.out j).1 h).elim id fun e=>by omega) fun e=>by have:=(HVo.out j e).1;omega
    have HA':Hid (TqsIn (World.hide w p) s.args (some ⟨bE,oE,none⟩) cap):=by show TqsIn _ _ _ _;rw[← hEa];exact HX.out.ar
    obtain⟨xe,xc,xa,xk,gc,hX⟩:=(TqsIn.keep HKp.out HA'.out).get rfl hlt
    obtain⟨g0,g1,g2,g3,g4,g5,g6,g7,g8⟩:=cell9F gc
    have f0:=hide_cell _ _ g0
    have f1:=hide_cell _ _ g1
    have f2:=hide_cell _ _ g2
    have f3:=hide_cell _ _ g3
    have f4:=hide_cell _ _ g4
    have f5:=hide_cell _ _ g5
    have f6:=hide_cell _ _ g6
    have f7:=hide_cell _ _ g7
    have f8:=hide_cell _ _ g8
    have HC:=Lib.hid (fun W (hW:Below wr.heap.size wr W)=>HIH.out k hlt (hid q (.slice va k vc)) xe xc xa xk W (hX.keep (hide_below hW fun _ _ h=>h)) (fun j hj=>(hid_true.1 hj).elim (fun h=>by have:=HQB.out j h;have:=hW.size;omega) fun e=>by have:=(HVo.out j e).2;have:=hW.size;omega) (HG.out.below (HBw.out.trans (hW.mono HBw.out.size))))
    have HPn:Hid (compN (s.args[k]'hlt)=none→compN s=none):=fun h=>by
     rw[HCe.out,partsN_fail (k:=k) (by simpa using hlt) (by rw[List.getElem_map];exact h)]
    have HPs':Hid (∀ n,compN (s.args[k]'hlt)=some n→(s.args.take (k+1)).map compN=(ps++[n]).map some):=fun n h=>by
     rw[List.take_succ_eq_append_getElem hlt,List.map_append,HPs.out,List.map_append,List.map_singleton,List.map_singleton,h]
    subst hEa
    clear hX gc g0 g1 g2 g3 g4 g5 g6 g7 g8 hsl
    generalize (s.args[k]'hlt)=y at f0 f1 f2 f3 f4 f5 f6 f7 f8 HC HPn HPs'
    rw[tqVal_eq] at HC
    generalize hr:compN y=r at HC
    go_wp2_with fail
    refine(HC.out _ belR).mono ?_
    intro e w5 h5
    cases r with
    | none =>
     obtain⟨rfl,hb5⟩:=h5.outNo
     have HN:Hid (compN s=none):=HPn.out hr
     have HB5:Hid (Below wr.heap.size wr w5):=((Below.refl wr.heap.size wr).alloc (Nat.le_refl _) _).trans (hb5.mono (by simp))
     have hbx5:w5.heap[w.heap.size+1]? = some NfBox0:=(HB5.out.block _ (by omega)).trans HBy.out
     obtain⟨⟨c0,c1,c2⟩,⟨d0,d1,d2⟩⟩:=box3A hbx5
     have HBx5:=Lib.hid hbx5
     clear h5 hb5 hbx5 hr f0 f1 f2 f3 f4 f5 f6 f7 f8
     go_wp2_with fail
     refine bodyPost_ret (v:=.tuple #[.agg #[.int .i64 0,.slice none 0 0,.slice none 0 0],.int .i64 2]) (nfa_res _ rfl _ _ (w.heap.size+1) _ _ _ _ (set3 (hx_oldT HBx5.out)) rfl rfl) rfl ?_
     have hbw:=HBw.out.trans (HB5.out.mono HBw.out.size)
     have hbz:=hbw.size
     exact HPo.out none HN.out _ _ (NfaRet.no ((((hbw.alloc (by omega) _).setCell (by simp) _).setCell (by simp) _).setCell (by simp) _))
    | some n =>
     obtain⟨x,rfl,hn5,hb5⟩:=h5.outYes
     have HB5:Hid (Below wr.heap.size wr w5):=((Below.refl wr.heap.size wr).alloc (Nat.le_refl _) _).trans (hb5.mono (by simp))
     have hz5:=HB5.out.size
     have HO5:=Lib.hid (HO.out.below HB5.out)
     have HN5:=Lib.hid hn5
     have HPq:=Lib.hid (HPs'.out n hr)
     clear h5 hb5 hr hn5 f0 f1 f2 f3 f4 f5 f6 f7 f8
     go_upto_region 8 with fail
     generalize hW6:World.alloc w5 _=W6
     have hx6:W6.heap[w5.heap.size]? = some (NfBox n x):=by rw[← hW6];exact hx_newT rfl
     have hB6:Below w5.heap.size w5 W6:=by rw[← hW6];exact(Below.refl _ _).alloc (Nat.le_refl _) _
     have hz6:=hB6.size
     obtain⟨b0,b1,b2⟩:=cell3T hx6
     have HO6:=Lib.hid (HO5.out.below hB6)
     have HB6:Hid (Below wr.heap.size wr W6):=HB5.out.trans (hB6.mono hz5)
     have HR6:Hid (nfE.R (World.hide W6 (hid q (.slice va k vc))) n [.int .i64 n.states,.slice x.ae n.edges.length x.ce,.slice x.aa n.accept.length x.ca]):=⟨x,rfl,HN5.out.keep (hide_below hB6 fun _ _ h=>h)⟩
     clear hW6 hx6 hB6 HO5 HN5
     go_wp2_with (at_builtin;go_must (refine own_addE (E:=nfE) elemNF _ rfl (.tmp 26) (.tmp 28) rfl q (w.heap.size+2) _ rfl HO6.out n _ HR6.out _ _ rfl rfl k hpl (by omega) (by omega) ?_))
     intro g9 cap9 w7 ho hg hat
     have HO7:=Lib.hid ho
     have HB7:Hid (Below W2.heap.size W2 w7):=(HBr.out.trans (HB6.out.mono hzr)).grown hg (by omega) fun j hj=>by have:=(HVo.out j hj).1;omega
     clear ho hg hat
     go_wp2_with fail
     go_roundw
     case rel=>exact⟨k+1,ps++[n],by go_num,by omega,by rw[List.length_append,hpl];rfl,HPq.out,HO7.out,HB7.out⟩
     case measure=>(simp[intOf];try omega)
   ·obtain rfl:k=s.args.length:=by omega
    have HPf:Hid (s.args.map compN=ps.map some):=by
     show _=_
     have:=HPs.out
     rwa [List.take_length] at this
    have HCs:Hid (compN s=nodeN s ps):=by show _=_;rw[HCe.out,HPf.out,partsN_map]
    have HRL:Hid (RegL (s.args.map Tq.nodes) ps):=parts_reg HPf.out HReg.out
    have HRa:Hid (∀ n∈ps,RegN 1000 n):=forall_of HRL.out fun k hk=>by have:=le_sum hk;have:=HSum.out;omega
    obtain⟨a',c',hv',hin⟩:=HO.out.sliceP (by omega) fun j hj=>by
     cases h:q j with
     | false=>rfl
     | true=>have:=HQB.out j h;omega
    rw[hpl] at hv'
    injection hv' with e1 e2 e3
    subst e1 e3
    have HPin:Hid (nfE.In (World.hide wr q) ps va vc):=hin
    have HKp:Hid (Kp (World.hide w p) (World.hide wr q)):=hide_below HBw.out fun j hj h=>((Q.out j).1 h).elim id fun e=>by omega
    have HXq:Hid (TqIn (World.hide wr q) s ae ce a cap):=HX.out.keep HKp.out
    have HPad:Hid (s.args.length=0∨∃ b off,va=some ⟨b,off,none⟩):=by
     show _∨_
     rw[← hpl];exact hin.addr
    clear hin hsl HO HPs HIH
    go_upto_region 11 with fail
    generalize hW5:World.alloc wr _=W5
    have hB5:Below wr.heap.size wr W5:=by rw[← hW5];exact(Below.refl _ _).alloc (Nat.le_refl _) _
    have hkb:W5.heap[wr.heap.size]? = some (.cells #[.int .i64 0,.slice none 0 0,.slice none 0 0,.bool false] 134 (0,0)):=by rw[← hW5];exact hx_newT rfl
    have hbx:W5.heap[w.heap.size]? = some (tqBoxF s ae ce a cap):=(hB5.block _ (by omega)).trans HBx.out
    have hz5:wr.heap.size < W5.heap.size:=by rw[← hW5];simp
    have HQl:Hid (∀ j,q j=true→j < wr.heap.size):=fun j hj=>by have:=HQB.out j hj;omega
    obtain⟨b0,b1,b2,b3,b4,b5,b6,b7,b8⟩:=cell9TF hbx
    have HB5:=Lib.hid hB5
    have HKb:=Lib.hid hkb
    have HBX5:=Lib.hid hbx
    have HEnd:Hid (∀ (r:Option NfaD) (w7:World) (e:Ending) (w8:World),compN s=r→Below wr.heap.size wr w7→NfaRet q r w7 e w8→∃ (st:Int) (ea:Option Addr) (en ec:Nat) (aa:Option Addr) (an ac:Nat) (er:Int),e=.returned (.tuple #[.agg #[.int .i64 st,.slice ea en ec,.slice aa an ac],.int .i64 er])∧w8.heap[w.heap.size+1]? = some NfBox0 ∧
      Hid (Po (.returned (.tuple #[.agg #[.int .i64 st,.slice ea en ec,.slice aa an ac],.int .i64 er])) (((w8.setCell ⟨w.heap.size+1,0,none⟩ (.int .i64 st)).setCell ⟨w.heap.size+1,1,none⟩ (.slice ea en ec)).setCell ⟨w.heap.size+1,2,none⟩ (.slice aa an ac)))):=fun r w7 e w8 hr h7 h8=>by
     obtain⟨st,ea,en,ec,aa,an,ac,er,rfl,hb8,hf8⟩:=h8.fin
     have hb:=h7.trans (hb8.mono h7.size)
     have hq1:q (w.heap.size+1)=true:=(Q.out _).2 (Or.inr (Or.inr rfl))
     refine⟨st,ea,en,ec,aa,an,ac,er,rfl,(hb.block _ (by omega)).trans HBy.out,HPo.out r hr _ _ (hf8 p w _ ?_ ?_)⟩
     ·exact Kp.trans (hide_store hq1) (Kp.trans (hide_store hq1) (Kp.trans (hide_store hq1) (hide_mono fun j hj=>(Q.out j).2 (Or.inl hj))))
     ·have hbw:=HBw.out.trans (hb.mono HBw.out.size)
      exact((hbw.setCell (by simp) _).setCell (by simp) _).setCell (by simp) _
    have HDone:Hid (∀ (n:NfaD) (e7:Ending) (w7 W:World),compN s=doneN n→SmallN n→BldP q wr.heap.size wr n e7 w7→Below w7.heap.size w7 W→Calls Tryz.prog 90 #[.pointer (some ⟨wr.heap.size,0,none⟩)] W fun e w8=>∃ (st:Int) (ea:Option Addr) (en ec:Nat) (aa:Option Addr) (an ac:Nat) (er:Int),e=.returned (.tuple #[.agg #[.int .i64 st,.slice ea en ec,.slice aa an ac],.int .i64 er])∧w8.heap[w.heap.size+1]? = some NfBox0 ∧
      Hid (Po (.returned (.tuple #[.agg #[.int .i64 st,.slice ea en ec,.slice aa an ac],.int .i64 er])) (((w8.setCell ⟨w.heap.size+1,0,none⟩ (.int .i64 st)).setCell ⟨w.heap.size+1,1,none⟩ (.slice ea en ec)).setCell ⟨w.heap.size+1,2,none⟩ (.slice aa an ac)))):=fun n e7 w7 W hc hs hB hW=>by
     obtain⟨-,q7,ve,aa,ca,hq7,hB7,hA7⟩:=hB
     have hbW:=hB7.bel.trans (hW.mono hB7.bel.size)
     refine(done_any (hB7.below hW) hq7 HQl.out (hA7.keep (hide_below hW fun _ _ h=>h)) (HG.out.below (HBw.out.trans (hbW.mono HBw.out.size))) hs).mono fun e w8 h8=>HEnd.out _ W e w8 hc hbW h8
    clear hW5 hB5 hkb hbx
    rcases HSh.out with ⟨ho,h1,h2,h3⟩ | ⟨ho,h1,h2,h3,h4⟩ | ⟨ho,h1,h2,h3,h4⟩ | ⟨ho | ho,h1,h2,h3,h4⟩ | ⟨ho | ho,h1,h2,h3⟩
    ·have HN:Hid (compN s=doneN ⟨2,[⟨0,1,[s.expr],[]⟩],[1]⟩):=by show _=_;rw[HCs.out];simp only[nodeN,ho,if_true]
     have h400:s.expr.nodes.length≤400:=okX_nodes (by unfold okX;rw[HVal.out (by rw[ho];rfl)];rfl)
     have F:∀ j o o' o'',((((W5.alloc o).alloc o').alloc o'')).frozen? ⟨wr.heap.size,j,none⟩=false:=fun j o o' o''=>by simp[World.frozen?,hx_oldT (o:=o'') (hx_oldT (o:=o') (hx_oldT (o:=o) HKb.out))]
     have F0:=F 0
     have F1:=F 1
     have F2:=F 2
     have C:∀ j (v:Value),(#[.int .i64 0,.slice none 0 0,.slice none 0 0,.bool false]:Array Value)[j]? = some v→∀ o o' o'',((((W5.alloc o).alloc o').alloc o'')).cell? ⟨wr.heap.size,j,none⟩=some v:=fun j v hv o o' o''=>by rw[cell_of_blkT (hx_oldT (o:=o'') (hx_oldT (o:=o') (hx_oldT (o:=o) HKb.out)))];exact hv
     have C0:=C 0 _ rfl
     have C1:=C 1 _ rfl
     have C2:=C 2 _ rfl
     clear F C
     rw[ho] at b0
     go_wp2_with fail
     refine(HDone.out ⟨2,[⟨0,1,[s.expr],[]⟩],[1]⟩ (.returned (.tuple #[])) _ _ HN.out (bool_sm h400) (bool_bld (g1:=W5.heap.size) (g2:=W5.heap.size+1) (g3:=W5.heap.size+2) (x:=s.expr) (xa:=ae) (xc:=ce) (Nat.le_refl _) (hs3 (hx_oldT (hx_oldT (hx_newT rfl))) (by omega)) (hs3 (hx_oldT (hx_newT (by simp))) (by omega)) (hs3 (hx_newT (by simp)) (by omega)) (hs34 (hx_oldT (hx_oldT (hx_oldT HKb.out)))) (by have hz:=HB5.out.size;exact(((((HB5.out.alloc hz _).alloc (by simp;omega) _).alloc (by simp;omega) _).setCell (Nat.le_refl _) _).setCell (Nat.le_refl _) _).setCell (Nat.le_refl _) _) HXq.out.ex HQl.out ⟨by omega,by omega,by omega⟩) (Below.refl _ _)).mono ?_
     rintro e w8 ⟨st,ea,en,ec,aa,an,ac,er,rfl,hby8,HQ8⟩
     have hby8':w8.heap[w.heap.size+1]? = some (.cells #[.int .i64 0,.slice none 0 0,.slice none 0 0] 33 (0,0)):=hby8
     obtain⟨c0,c1,c2⟩:=cell3T hby8'
     have d0:w8.frozen? ⟨w.heap.size+1,0,none⟩=false:=by simp[World.frozen?,hby8']
     have d1:w8.frozen? ⟨w.heap.size+1,1,none⟩=false:=by simp[World.frozen?,hby8']
     have d2:w8.frozen? ⟨w.heap.size+1,2,none⟩=false:=by simp[World.frozen?,hby8']
     have HBy8:=Lib.hid hby8'
     clear hby8 hby8'
     go_wp2_with fail
     refine bodyPost_ret (nfa_res _ rfl _ _ (w.heap.size+1) _ _ _ _ (set3 HBy8.out) rfl rfl) rfl ?_
     exact HQ8.out
    ·obtain⟨x,y,rfl⟩:∃ x y,ps=[x,y]:=list2 (by omega)
     have HN:Hid (compN s=doneN (delayN s.lo s.hi x y)):=by show _=_;rw[HCs.out];simp only[nodeN,ho,Int.reduceEq,if_false,if_true];rfl
     obtain⟨bp,op,hpa⟩:=HPad.out.resolve_left (by omega)
     subst hpa
     obtain⟨ax,x0,x1,x2,hx⟩:=nfE_get HPin.out rfl (i:=0) (by simp)
     have krx:=HRa.out x (by simp)
     obtain⟨ay,y0,y1,y2,hy⟩:=nfE_get HPin.out rfl (i:=1) (by simp)
     have kry:=HRa.out y (by simp)
     simp only[List.getElem_cons_zero,List.getElem_cons_succ,Nat.zero_mul,Nat.add_zero,Nat.one_mul] at x0 x1 x2 y0 y1 y2 hx hy
     have xc0:=keeps_of_below HB5.out _ _ (hide_cell _ _ x0)
     have xc1:=keeps_of_below HB5.out _ _ (hide_cell _ _ x1)
     have xc2:=keeps_of_below HB5.out _ _ (hide_cell _ _ x2)
     have yc0:=keeps_of_below HB5.out _ _ (hide_cell _ _ y0)
     have yc1:=keeps_of_below HB5.out _ _ (hide_cell _ _ y1)
     have yc2:=keeps_of_below HB5.out _ _ (hide_cell _ _ y2)
     have HSM:Hid (SmallN (delayN s.lo s.hi x y)):=delay_sm (reg_400 (HRa.out x (by simp))) (reg_400 (HRa.out y (by simp)))
     have HCa:Hid (∀ W,Below W5.heap.size W5 W→Calls Tryz.prog 84 #[.pointer (some ⟨wr.heap.size,0,none⟩),.agg #[.int .i64 2,.int .i64 s.lo,.int .i64 s.hi,.int .i64 s.expr.op,.int .i64 s.expr.n,.string s.expr.name,.slice ae s.expr.args.length ce,.string s.name,.slice a s.args.length cap],.agg #[.int .i64 x.states,.slice ax.ae x.edges.length ax.ce,.slice ax.aa x.accept.length ax.ca],.agg #[.int .i64 y.states,.slice ay.ae y.edges.length ay.ce,.slice ay.aa y.accept.length ay.ca]] W (BldP q wr.heap.size wr (delayN s.lo s.hi x y))):=fun W hW=>by
      have h:=delay_any (p:=q) (k:=wr.heap.size) (w0:=wr) (w:=W) (Nat.le_refl _) ((hW.block _ hz5).trans HKb.out) (HB5.out.trans (hW.mono HB5.out.size)) HQl.out s ae ce a cap x y ax ay krx kry (by omega) h2 h3 h4 (hx.keep (fun _ _ h=>h)) (hy.keep (fun _ _ h=>h))
      rw[tqVal_eq,ho] at h
      exact h
     have hN0:1 < s.args.length:=by omega
     have hN0i:(1:Int) < (s.args.length:Int):=by omega
     have hM0:0 < s.args.length:=by omega
     have hM0i:(0:Int) < (s.args.length:Int):=by omega
     rw[ho] at b0
     clear h1 h2 h3 h4 HPf HRL HCs HKb x0 x1 x2 y0 y1 y2
     go_upto_region 15 with fail
     go_region_with (go_at_call 84;go_must (refine(HCa.out _ (by first | with_reducible assumption | exact Below.refl _ _ | exact belR)).mono ?_;rintro e w7 h7;obtain rfl:=h7.1;have HB7:=Lib.hid h7;clear h7))
     all_goals
      go_wp2_with fail
      refine(HDone.out _ _ w7 _ HN.out HSM.out HB7.out (by first | exact Below.refl _ _ | exact belR)).mono ?_
      rintro e w8 ⟨st,ea,en,ec,aa,an,ac,er,rfl,hby8,HQ8⟩
      have hby8':w8.heap[w.heap.size+1]? = some (.cells #[.int .i64 0,.slice none 0 0,.slice none 0 0] 33 (0,0)):=hby8
      obtain⟨c0,c1,c2⟩:=cell3T hby8'
      have d0:w8.frozen? ⟨w.heap.size+1,0,none⟩=false:=by simp[World.frozen?,hby8']
      have d1:w8.frozen? ⟨w.heap.size+1,1,none⟩=false:=by simp[World.frozen?,hby8']
      have d2:w8.frozen? ⟨w.heap.size+1,2,none⟩=false:=by simp[World.frozen?,hby8']
      have HBy8:=Lib.hid hby8'
      clear hby8 hby8'
      go_wp2_with fail
      refine bodyPost_ret (nfa_res _ rfl _ _ (w.heap.size+1) _ _ _ _ (set3 HBy8.out) rfl rfl) rfl ?_
      exact HQ8.out
    ·obtain⟨x,rfl⟩:∃ x,ps=[x]:=list1 (by omega)
     have HN:Hid (compN s=doneN (repN s.lo s.hi x)):=by show _=_;rw[HCs.out];simp only[nodeN,ho,Int.reduceEq,if_false,if_true];rfl
     obtain⟨bp,op,hpa⟩:=HPad.out.resolve_left (by omega)
     subst hpa
     obtain⟨ax,x0,x1,x2,hx⟩:=nfE_get HPin.out rfl (i:=0) (by simp)
     have krx:=HRa.out x (by simp)
     simp only[List.getElem_cons_zero,List.getElem_cons_succ,Nat.zero_mul,Nat.add_zero,Nat.one_mul] at x0 x1 x2 hx
     have xc0:=keeps_of_below HB5.out _ _ (hide_cell _ _ x0)
     have xc1:=keeps_of_below HB5.out _ _ (hide_cell _ _ x1)
     have xc2:=keeps_of_below HB5.out _ _ (hide_cell _ _ x2)
     have HSM:Hid (SmallN (repN s.lo s.hi x)):=rep_sm (reg_400 (HRa.out x (by simp)))
     have HCa:Hid (∀ W,Below W5.heap.size W5 W→Calls Tryz.prog 85 #[.pointer (some ⟨wr.heap.size,0,none⟩),.agg #[.int .i64 3,.int .i64 s.lo,.int .i64 s.hi,.int .i64 s.expr.op,.int .i64 s.expr.n,.string s.expr.name,.slice ae s.expr.args.length ce,.string s.name,.slice a s.args.length cap],.agg #[.int .i64 x.states,.slice ax.ae x.edges.length ax.ce,.slice ax.aa x.accept.length ax.ca]] W (BldP q wr.heap.size wr (repN s.lo s.hi x))):=fun W hW=>by
      have h:=repeat_any (p:=q) (k:=wr.heap.size) (w0:=wr) (w:=W) (Nat.le_refl _) ((hW.block _ hz5).trans HKb.out) (HB5.out.trans (hW.mono HB5.out.size)) HQl.out s ae ce a cap x ax krx h2 h3 h4 hx
      rw[tqVal_eq,ho] at h
      exact h
     have hN0:0 < s.args.length:=by omega
     have hN0i:(0:Int) < (s.args.length:Int):=by omega
     have hM0:0 < s.args.length:=by omega
     have hM0i:(0:Int) < (s.args.length:Int):=by omega
     rw[ho] at b0
     clear h1 h2 h3 h4 HPf HRL HCs HKb x0 x1 x2
     go_upto_region 17 with fail
     go_region_with (go_at_call 85;go_must (refine(HCa.out _ (by first | with_reducible assumption | exact Below.refl _ _ | exact belR)).mono ?_;rintro e w7 h7;obtain rfl:=h7.1;have HB7:=Lib.hid h7;clear h7))
     all_goals
      go_wp2_with fail
      refine(HDone.out _ _ w7 _ HN.out HSM.out HB7.out (by first | exact Below.refl _ _ | exact belR)).mono ?_
      rintro e w8 ⟨st,ea,en,ec,aa,an,ac,er,rfl,hby8,HQ8⟩
      have hby8':w8.heap[w.heap.size+1]? = some (.cells #[.int .i64 0,.slice none 0 0,.slice none 0 0] 33 (0,0)):=hby8
      obtain⟨c0,c1,c2⟩:=cell3T hby8'
      have d0:w8.frozen? ⟨w.heap.size+1,0,none⟩=false:=by simp[World.frozen?,hby8']
      have d1:w8.frozen? ⟨w.heap.size+1,1,none⟩=false:=by simp[World.frozen?,hby8']
      have d2:w8.frozen? ⟨w.heap.size+1,2,none⟩=false:=by simp[World.frozen?,hby8']
      have HBy8:=Lib.hid hby8'
      clear hby8 hby8'
      go_wp2_with fail
      refine bodyPost_ret (nfa_res _ rfl _ _ (w.heap.size+1) _ _ _ _ (set3 HBy8.out) rfl rfl) rfl ?_
      exact HQ8.out
    ·have HN:Hid (compN s=doneN (orN ps)):=by show _=_;rw[HCs.out];simp only[nodeN,ho,Int.reduceEq,if_false,if_true]
     have HSM:Hid (SmallN (orN ps)):=or_sm ps _ (fun n hn=>reg_400 (HRa.out n hn)) fun e he=>(by cases he)
     have HCa:Hid (Calls Tryz.prog 86 #[.pointer (some ⟨wr.heap.size,0,none⟩),.slice va s.args.length vc] W5 (BldP q wr.heap.size wr (orN ps))):=by
      show Calls _ _ _ _ _
      rw[← hpl]
      exact or_any (p:=q) (k:=wr.heap.size) (w0:=wr) (w:=W5) (Nat.le_refl _) HKb.out HB5.out HQl.out ps va vc HRa.out (by omega) HPin.out
     rw[ho] at b0
     clear h1 h2 h3 h4 HPf HRL HCs HKb hpl
     go_wp2_with (go_at_call 86;go_must (refine HCa.out.mono ?_;rintro e w7 h7;obtain rfl:=h7.1;have HB7:=Lib.hid h7;clear h7))
     refine(HDone.out _ _ w7 _ HN.out HSM.out HB7.out (by first | exact Below.refl _ _ | exact belR)).mono ?_
     rintro e w8 ⟨st,ea,en,ec,aa,an,ac,er,rfl,hby8,HQ8⟩
     have hby8':w8.heap[w.heap.size+1]? = some (.cells #[.int .i64 0,.slice none 0 0,.slice none 0 0] 33 (0,0)):=hby8
     obtain⟨c0,c1,c2⟩:=cell3T hby8'
     have d0:w8.frozen? ⟨w.heap.size+1,0,none⟩=false:=by simp[World.frozen?,hby8']
     have d1:w8.frozen? ⟨w.heap.size+1,1,none⟩=false:=by simp[World.frozen?,hby8']
     have d2:w8.frozen? ⟨w.heap.size+1,2,none⟩=false:=by simp[World.frozen?,hby8']
     have HBy8:=Lib.hid hby8'
     clear hby8 hby8'
     go_wp2_with fail
     refine bodyPost_ret (nfa_res _ rfl _ _ (w.heap.size+1) _ _ _ _ (set3 HBy8.out) rfl rfl) rfl ?_
     exact HQ8.out
    ·obtain⟨x,r,rfl⟩:∃ x r,ps=x::r:=list1c (by omega)
     have HN:Hid (compN s=allN x r):=by show _=_;rw[HCs.out];simp only[nodeN,ho,Int.reduceEq,if_false,if_true];rfl
     have HCa:Hid (Calls Tryz.prog 87 #[.slice va s.args.length vc] W5 (NfaRet q (allN x r) W5)):=by
      show Calls _ _ _ _ _
      rw[← hpl]
      obtain⟨k0,ks,e1,e2,e3⟩:=regL_cons HRL.out
      exact both_any q x r k0 ks e1 e2 (by have:=HSum.out;rw[e3,List.sum_cons] at this;omega) va vc W5 (HG.out.below (HBw.out.trans (HB5.out.mono HBw.out.size))) (fun j hj=>by have:=HQl.out j hj;omega) (HPin.out.keep (hide_below HB5.out fun _ _ h=>h))
     rw[ho] at b0
     clear h1 h2 h3 h4 HPf HRL HCs HKb hpl
     go_wp2_with fail
     refine HCa.out.mono ?_
     intro e8 w8' h8
     have h9:=HEnd.out _ W5 _ _ HN.out HB5.out h8
     clear h8
     revert h9 e8 w8'
     intro e w8 h9
     revert h9
     rintro ⟨st,ea,en,ec,aa,an,ac,er,rfl,hby8,HQ8⟩
     have hby8':w8.heap[w.heap.size+1]? = some (.cells #[.int .i64 0,.slice none 0 0,.slice none 0 0] 33 (0,0)):=hby8
     obtain⟨c0,c1,c2⟩:=cell3T hby8'
     have d0:w8.frozen? ⟨w.heap.size+1,0,none⟩=false:=by simp[World.frozen?,hby8']
     have d1:w8.frozen? ⟨w.heap.size+1,1,none⟩=false:=by simp[World.frozen?,hby8']
     have d2:w8.frozen? ⟨w.heap.size+1,2,none⟩=false:=by simp[World.frozen?,hby8']
     have HBy8:=Lib.hid hby8'
     clear hby8 hby8'
     go_wp2_with fail
     refine bodyPost_ret (nfa_res _ rfl _ _ (w.heap.size+1) _ _ _ _ (set3 HBy8.out) rfl rfl) rfl ?_
     exact HQ8.out
    ·obtain⟨x,rfl⟩:∃ x,ps=[x]:=list1 (by omega)
     have HN:Hid (compN s=doneN (setN s.name s.expr x)):=by show _=_;rw[HCs.out];simp only[nodeN,ho,Int.reduceEq,if_false,if_true];rfl
     obtain⟨bp,op,hpa⟩:=HPad.out.resolve_left (by omega)
     subst hpa
     obtain⟨ax,x0,x1,x2,hx⟩:=nfE_get HPin.out rfl (i:=0) (by simp)
     have krx:=HRa.out x (by simp)
     simp only[List.getElem_cons_zero,List.getElem_cons_succ,Nat.zero_mul,Nat.add_zero,Nat.one_mul] at x0 x1 x2 hx
     have xc0:=keeps_of_below HB5.out _ _ (hide_cell _ _ x0)
     have xc1:=keeps_of_below HB5.out _ _ (hide_cell _ _ x1)
     have xc2:=keeps_of_below HB5.out _ _ (hide_cell _ _ x2)
     have HSM:Hid (SmallN (setN s.name s.expr x)):=set_sm (reg_400 (HRa.out x (by simp))) (okX_nodes (by unfold okX;rw[HVal.out (by rw[ho];rfl)];rfl))
     have HCa:Hid (∀ W,Below W5.heap.size W5 W→Calls Tryz.prog 88 #[.pointer (some ⟨wr.heap.size,0,none⟩),.agg #[.int .i64 6,.int .i64 s.lo,.int .i64 s.hi,.int .i64 s.expr.op,.int .i64 s.expr.n,.string s.expr.name,.slice ae s.expr.args.length ce,.string s.name,.slice a s.args.length cap],.agg #[.int .i64 x.states,.slice ax.ae x.edges.length ax.ce,.slice ax.aa x.accept.length ax.ca]] W (BldP q wr.heap.size wr (setN s.name s.expr x))):=fun W hW=>by
      have h:=set_any (p:=q) (k:=wr.heap.size) (w0:=wr) (w:=W) (Nat.le_refl _) ((hW.block _ hz5).trans HKb.out) (HB5.out.trans (hW.mono HB5.out.size)) HQl.out s ae ce a cap x ax krx (by omega) HXq.out.nm HXq.out.ex hx
      rw[tqVal_eq,ho] at h
      exact h
     have hN0:0 < s.args.length:=by omega
     have hN0i:(0:Int) < (s.args.length:Int):=by omega
     have hM0:0 < s.args.length:=by omega
     have hM0i:(0:Int) < (s.args.length:Int):=by omega
     rw[ho] at b0
     clear h1 h2 h3 HPf HRL HCs HKb x0 x1 x2
     go_upto_region 23 with fail
     go_region_with (go_at_call 88;go_must (refine(HCa.out _ (by first | with_reducible assumption | exact Below.refl _ _ | exact belR)).mono ?_;rintro e w7 h7;obtain rfl:=h7.1;have HB7:=Lib.hid h7;clear h7))
     all_goals
      go_wp2_with fail
      refine(HDone.out _ _ w7 _ HN.out HSM.out HB7.out (by first | exact Below.refl _ _ | exact belR)).mono ?_
      rintro e w8 ⟨st,ea,en,ec,aa,an,ac,er,rfl,hby8,HQ8⟩
      have hby8':w8.heap[w.heap.size+1]? = some (.cells #[.int .i64 0,.slice none 0 0,.slice none 0 0] 33 (0,0)):=hby8
      obtain⟨c0,c1,c2⟩:=cell3T hby8'
      have d0:w8.frozen? ⟨w.heap.size+1,0,none⟩=false:=by simp[World.frozen?,hby8']
      have d1:w8.frozen? ⟨w.heap.size+1,1,none⟩=false:=by simp[World.frozen?,hby8']
      have d2:w8.frozen? ⟨w.heap.size+1,2,none⟩=false:=by simp[World.frozen?,hby8']
      have HBy8:=Lib.hid hby8'
      clear hby8 hby8'
      go_wp2_with fail
      refine bodyPost_ret (nfa_res _ rfl _ _ (w.heap.size+1) _ _ _ _ (set3 HBy8.out) rfl rfl) rfl ?_
      exact HQ8.out
    ·obtain⟨x,rfl⟩:∃ x,ps=[x]:=list1 (by omega)
     have HN:Hid (compN s=doneN (holdN s.expr x)):=by show _=_;rw[HCs.out];simp only[nodeN,ho,Int.reduceEq,if_false,if_true];rfl
     obtain⟨bp,op,hpa⟩:=HPad.out.resolve_left (by omega)
     subst hpa
     obtain⟨ax,x0,x1,x2,hx⟩:=nfE_get HPin.out rfl (i:=0) (by simp)
     have krx:=HRa.out x (by simp)
     simp only[List.getElem_cons_zero,List.getElem_cons_succ,Nat.zero_mul,Nat.add_zero,Nat.one_mul] at x0 x1 x2 hx
     have xc0:=keeps_of_below HB5.out _ _ (hide_cell _ _ x0)
     have xc1:=keeps_of_below HB5.out _ _ (hide_cell _ _ x1)
     have xc2:=keeps_of_below HB5.out _ _ (hide_cell _ _ x2)
     have HSM:Hid (SmallN (holdN s.expr x)):=hold_sm (reg_400 (HRa.out x (by simp))) (okX_nodes (by unfold okX;rw[HVal.out (by rw[ho];rfl)];rfl))
     have HCa:Hid (∀ W,Below W5.heap.size W5 W→Calls Tryz.prog 89 #[.pointer (some ⟨wr.heap.size,0,none⟩),.agg #[.int .i64 7,.int .i64 s.lo,.int .i64 s.hi,.int .i64 s.expr.op,.int .i64 s.expr.n,.string s.expr.name,.slice ae s.expr.args.length ce,.string s.name,.slice a s.args.length cap],.agg #[.int .i64 x.states,.slice ax.ae x.edges.length ax.ce,.slice ax.aa x.accept.length ax.ca]] W (BldP q wr.heap.size wr (holdN s.expr x))):=fun W hW=>by
      have h:=hold_any (p:=q) (k:=wr.heap.size) (w0:=wr) (w:=W) (Nat.le_refl _) ((hW.block _ hz5).trans HKb.out) (HB5.out.trans (hW.mono HB5.out.size)) HQl.out s ae ce a cap x ax krx (by omega) HXq.out.ex hx
      rw[tqVal_eq,ho] at h
      exact h
     have hN0:0 < s.args.length:=by omega
     have hN0i:(0:Int) < (s.args.length:Int):=by omega
     have hM0:0 < s.args.length:=by omega
     have hM0i:(0:Int) < (s.args.length:Int):=by omega
     rw[ho] at b0
     clear h1 h2 h3 HPf HRL HCs HKb x0 x1 x2
     go_upto_region 25 with fail
     go_region_with (go_at_call 89;go_must (refine(HCa.out _ (by first | with_reducible assumption | exact Below.refl _ _ | exact belR)).mono ?_;rintro e w7 h7;obtain rfl:=h7.1;have HB7:=Lib.hid h7;clear h7))
     all_goals
      go_wp2_with fail
      refine(HDone.out _ _ w7 _ HN.out HSM.out HB7.out (by first | exact Below.refl _ _ | exact belR)).mono ?_
      rintro e w8 ⟨st,ea,en,ec,aa,an,ac,er,rfl,hby8,HQ8⟩
      have hby8':w8.heap[w.heap.size+1]? = some (.cells #[.int .i64 0,.slice none 0 0,.slice none 0 0] 33 (0,0)):=hby8
      obtain⟨c0,c1,c2⟩:=cell3T hby8'
      have d0:w8.frozen? ⟨w.heap.size+1,0,none⟩=false:=by simp[World.frozen?,hby8']
      have d1:w8.frozen? ⟨w.heap.size+1,1,none⟩=false:=by simp[World.frozen?,hby8']
      have d2:w8.frozen? ⟨w.heap.size+1,2,none⟩=false:=by simp[World.frozen?,hby8']
      have HBy8:=Lib.hid hby8'
      clear hby8 hby8'
      go_wp2_with fail
      refine bodyPost_ret (nfa_res _ rfl _ _ (w.heap.size+1) _ _ _ _ (set3 HBy8.out) rfl rfl) rfl ?_
      exact HQ8.out
end Go.Proofs.YthojpomoflhbcaaGreatDoor
