/- ref41: Same. -/
import Derived.Test.YthojpomoflhbcaaGreatDoorM34
import Derived.Test.YthojpomoflhbcaaGreatDoorM23
set_option linter.unusedSimpArgs false
set_option linter.unusedVariables false
set_option linter.unnecessarySimpa false
namespace Go.Proofs.YthojpomoflhbcaaGreatDoor
open Go.RowKit
attribute [local go_sem ↓] Go.wp_at_zero Go.wp_at_succ
end Go.Proofs.YthojpomoflhbcaaGreatDoor
namespace Go.Proofs.YthojpomoflhbcaaGreatDoor
open Go.RowKit
theorem boxWK {w W:World} (o:Obj) (hW:Below (w.heap.size+1) (w.alloc o) W):Below w.heap.size w W:=((Below.refl _ _).alloc (Nat.le_refl _) _).trans (hW.mono (by simp))
theorem box_cellK {w wr:World} {c:Array Value} {t:TypeId} (h:Below (w.heap.size+1) (w.alloc (.cells c t)) wr) (j:Nat):wr.cell? ⟨w.heap.size,j,none⟩=c[j]? :=
 (h.cell (p:=⟨w.heap.size,j,none⟩) (by simp)).trans (by simp)
noncomputable def preN (l:List Ex) (k:Nat):Nat:=1+(((l.take k).map Ex.nodes).flatten).length
theorem preN_succ (l:List Ex) {k:Nat} (h:k < l.length):preN l (k+1)=preN l k+(l[k]'h).nodes.length:=by
 unfold preN
 rw[List.take_succ_eq_append_getElem h]
 simp only[List.map_append,List.map_cons,List.map_nil,List.flatten_append,List.length_append,List.flatten_cons,List.flatten_nil,List.append_nil]
 omega
theorem preN_all (e:Ex):preN e.args e.args.length=e.nodes.length:=by
 unfold preN
 rw[Ex.nodes_eq e,List.take_of_length_le (Nat.le_refl _)]
 simp only[List.length_cons]
 omega
def CountRet (e:Ex) (n:Int) (r:Ending):Prop:=∃ c:Int,r=.returned (.int .i64 c)∧1≤c∧c≤n+1∧(c≤n→c=e.nodes.length)
set_option maxRecDepth 100000 in
set_option maxHeartbeats 4000000 in
theorem count_any (e:Ex):∀ (n:Int) (a:Option Addr) (cap:Nat) (w:World),ExIn w e a cap→0≤n→n≤1000 →
  Calls Tryz.prog 101 #[.agg #[.int .i64 e.op,.int .i64 e.n,.string e.name,.slice a e.args.length cap],.int .i64 n] w fun r w'=>CountRet e n r∧Below w.heap.size w w':=by
 induction e using Ex.ind with
 | _ e ih =>
  intro n a cap w hE h0 h1
  have HE:=Lib.hid hE.2
  have HA:=Lib.hid hE.2.addr
  have hlen:=hE.2.2.1
  have HI:=Lib.hid ih
  have HAll:=Lib.hid (preN_all e)
  have HSu:=Lib.hid (fun k (h:k < e.args.length)=>preN_succ e.args h)
  have HMem:Hid (∀ k (h:k < e.args.length),(e.args[k]'h)∈e.args):=fun k h=>List.getElem_mem h
  clear ih hE
  unfold CountRet
  generalize e.nodes.length=N at HAll⊢
  obtain⟨op,nn,s,args⟩:=e
  simp only[Ex.op_mk,Ex.n_mk,Ex.name_mk,Ex.args_mk] at HE HA hlen HI HAll HSu HMem⊢
  go_enter Tryz.func101, Tryz.ntmps101
  go_wp2_with fail
  go_loopw [6,5] (fun i k wr=>∃ (j:Nat) (c:Int),i=.int .i64 j∧k=.int .i64 c∧j≤args.length∧1≤c∧c≤n+1∧Hid (c≤n→c=preN args j)∧Hid (Below (w.heap.size+1) (w.alloc (.cells #[.int .i64 op,.int .i64 nn,.string s,.slice a args.length cap] 24)) wr)) (fun i _ _=>args.length - (intOf i).toNat)
  case atStart=>exact⟨0,1,rfl,rfl,Nat.zero_le _,by omega,by omega,fun _=>by simp[preN],Below.refl _ _⟩
  case round =>
   obtain⟨j,c,rfl,rfl,hj,hc1,hc2,HP,HB⟩:=hrel
   have HBw:=Lib.hid (boxWK _ HB.out)
   have hzr:=HB.out.size
   simp only[World.size_alloc] at hzr
   have hzl:w.heap.size < wr.heap.size:=by omega
   have b0:=box_cellK HB.out 3
   (try simp at b0)
   by_cases hlt:j < args.length
   ·by_cases hcn:c≤n
    ·have hd:decide (c≤n)=true:=decide_eq_true hcn
     obtain⟨b,off,ha⟩:=HA.out.resolve_left (by omega)
     subst ha
     obtain⟨a',cap',g0,g1,g2,g3,hX⟩:=HE.out.get rfl hlt
     have kk:=keeps_of_below HBw.out
     have HC:=Lib.hid (HI.out _ (HMem.out j hlt) (n - c) a' cap' wr (hX.keep kk) (by omega) (by omega))
     have HPs:=Lib.hid (HSu.out j hlt)
     have HP':=Lib.hid (HP.out hcn)
     generalize (args[j]'hlt)=e at g0 g1 g2 g3 hX HC HPs
     obtain⟨op',n',s',args'⟩:=e
     unfold CountRet at HC
     generalize (Ex.mk op' n' s' args').nodes.length=M at HC HPs
     simp only[Ex.op_mk,Ex.n_mk,Ex.name_mk,Ex.args_mk] at g0 g1 g2 g3 HC
     have c0:=kk _ _ g0
     have c1:=kk _ _ g1
     have c2:=kk _ _ g2
     have c3:=kk _ _ g3
     clear g0 g1 g2 g3 hX kk
     go_wp2_with fail
     refine HC.out.mono ?_
     rintro r w2 ⟨⟨d,rfl,hd1,hd2,hd3⟩,hb2⟩
     have HD:=Lib.hid hd3
     have HB2:Hid (Below (w.heap.size+1) (w.alloc (.cells #[.int .i64 op,.int .i64 nn,.string s,.slice (some ⟨b,off,none⟩) args.length cap] 24)) w2):=HB.out.trans (hb2.mono (by simpa using hzr))
     clear hb2 c0 c1 c2 c3 b0 hd3 hd
     go_wp2_with fail
     go_roundw
     case rel=>exact⟨j+1,c+d,by go_num,rfl,by omega,by omega,by omega,(fun h=>by rw[HD.out (by omega),HP'.out,HPs.out];omega),HB2.out⟩
     case measure=>simp[intOf];omega
    ·have hd:decide (c≤n)=false:=decide_eq_false hcn
     go_wp2_with fail
     go_ret
     exact⟨⟨c,rfl,hc1,hc2,fun h=>absurd h (by omega)⟩,HBw.out⟩
   ·obtain rfl:j=args.length:=by omega
    go_wp2_with fail
    go_ret
    exact⟨⟨c,rfl,hc1,hc2,fun h=>by rw[HP.out h,HAll.out]⟩,HBw.out⟩
theorem Few_any (e:Ex) (n:Int) (a:Option Addr) (cap:Nat) (w:World) (hE:ExIn w e a cap) (h0:0≤n) (h1:n≤1000) :
  Calls Tryz.prog 47 #[.agg #[.int .i64 e.op,.int .i64 e.n,.string e.name,.slice a e.args.length cap],.int .i64 n] w fun r w'=>(∃ b:Bool,r=.returned (.bool b)∧(b=true→(e.nodes.length:Int)≤n))∧Below w.heap.size w w':=by
 have hB:Below w.heap.size w (w.alloc (.cells #[.int .i64 e.op,.int .i64 e.n,.string e.name,.slice a e.args.length cap] 24)):=(Below.refl _ _).alloc (Nat.le_refl _) _
 have HC:=Lib.hid (count_any e n a cap _ (hE.keep (keeps_of_below hB)) h0 h1)
 have HB:=Lib.hid hB
 clear hE hB
 unfold CountRet at HC
 generalize e.nodes.length=N at HC⊢
 obtain⟨op,nn,s,args⟩:=e
 simp only[Ex.op_mk,Ex.n_mk,Ex.name_mk,Ex.args_mk] at HC HB⊢
 go_enter Tryz.func47, Tryz.ntmps47
 go_wp2_with fail
 refine HC.out.mono ?_
 rintro r w2 ⟨⟨d,rfl,hd1,hd2,hd3⟩,hb2⟩
 have HD:=Lib.hid hd3
 have HB2:Hid (Below w.heap.size w w2):=HB.out.trans (hb2.mono (by simp))
 clear hb2 hd3
 go_wp2_with fail
 go_ret
 exact⟨⟨_,rfl,fun h=>by have h':=of_decide_eq_true h;rw[← HD.out h'];exact h'⟩,HB2.out⟩
end Go.Proofs.YthojpomoflhbcaaGreatDoor
namespace Go.Proofs.YthojpomoflhbcaaGreatDoor
open Go.RowKit
attribute [local go_sem ↓] Go.wp_at_zero Go.wp_at_succ
theorem kpB {w w':World} (h:Below w.heap.size w w'):Kp w w':=keeps_of_below h
def BrRet (P:Prop) (w:World) (e:Ending) (w':World):Prop:=(∃ b:Bool,e=.returned (.bool b)∧(b=true→P))∧Below w.heap.size w w'
set_option maxHeartbeats 4000000 in
set_option maxRecDepth 100000 in
theorem brief_any (l:List Sg) (a:Option Addr) (c:Nat) (w:World) (h:SigsIn w l a c):Calls Tryz.prog 18 #[.slice a l.length c] w (BrRet (l.length≤40) w):=by
 have H:=Lib.hid h
 have HA:Hid (l.length=0∨∃ b off,a=some ⟨b,off,none⟩):=SliceIn.addr h
 have hlen:=h.2.1
 have HPo:Hid (∀ b:Bool,(b=true→l.length≤40)→∀ W,Below w.heap.size w W→BrRet (l.length≤40) w (.returned (.bool b)) W):=fun b hb W hW=>⟨⟨b,rfl,hb⟩,hW⟩
 generalize BrRet (l.length≤40) w=Po at HPo⊢
 clear h
 go_enter Tryz.func18, Tryz.ntmps18
 go_wp2_with fail
 go_loop [3] (fun i=>∃ k:Nat,i=.int .i64 k∧k≤l.length) (fun i=>l.length - (intOf i).toNat)
 case atStart=>exact⟨0,rfl,Nat.zero_le _⟩
 case round =>
  obtain⟨k,rfl,hk⟩:=hrel
  by_cases hlt:k < l.length
  ·have hkl:(k:Int) < l.length:=by omega
   by_cases h41:k < 41
   ·have h41I:(k:Int) < 41:=by omega
    obtain⟨b,off,ha⟩:=HA.out.resolve_left (by omega)
    subst ha
    obtain⟨g0,g1⟩:=sgE_get H.out rfl hlt
    generalize (l[k]'hlt).1=nm at g0
    by_cases hs:nm.size≤40
    ·have hsI:¬ ((40:Int) < (nm.size:Int)):=by omega
     go_wp2_with fail
     go_round
     case rel=>exact⟨k+1,by go_num,by omega⟩
     case measure=>(simp[intOf];try omega)
    ·have hsI:((40:Int) < (nm.size:Int)):=by omega
     have HF:=Lib.hid (HPo.out false (fun h=>by cases h) w (Below.refl _ _))
     go_wp2_with fail
     first | exact HF.out | (go_ret2;exact HF.out)
   ·have h41I:¬ (k:Int) < 41:=by omega
    by_cases h40:l.length≤40
    ·have h40I:(l.length:Int)≤40:=by omega
     have HF:=Lib.hid (HPo.out true (fun _=>h40) w (Below.refl _ _))
     go_wp2_with fail
     first | exact HF.out | (go_ret2;exact HF.out)
    ·have h40I:¬ (l.length:Int)≤40:=by omega
     have HF:=Lib.hid (HPo.out false (fun h=>by cases h) w (Below.refl _ _))
     go_wp2_with fail
     first | exact HF.out | (go_ret2;exact HF.out)
  ·have hkl:¬ (k:Int) < l.length:=by omega
   by_cases h40:l.length≤40
   ·have h40I:(l.length:Int)≤40:=by omega
    have HF:=Lib.hid (HPo.out true (fun _=>h40) w (Below.refl _ _))
    go_wp2_with fail
    first | exact HF.out | (go_ret2;exact HF.out)
   ·have h40I:¬ (l.length:Int)≤40:=by omega
    have HF:=Lib.hid (HPo.out false (fun h=>by cases h) w (Below.refl _ _))
    go_wp2_with fail
    first | exact HF.out | (go_ret2;exact HF.out)
def SmThr (l:List ThrD):Prop:=l.length≤12∧∀ t∈l,t.env.length≤12
set_option maxHeartbeats 4000000 in
set_option maxRecDepth 100000 in
theorem threads_any (l:List ThrD) (a:Option Addr) (c:Nat) (w:World) (h:thE.In w l a c):Calls Tryz.prog 17 #[.slice a l.length c] w (BrRet (SmThr l) w):=by
 have H:=Lib.hid h
 have HA:Hid (l.length=0∨∃ b off,a=some ⟨b,off,none⟩):=h.addr
 have hlen:=h.len
 have HPo:Hid (∀ b:Bool,(b=true→SmThr l)→∀ W,Below w.heap.size w W→BrRet (SmThr l) w (.returned (.bool b)) W):=fun b hb W hW=>⟨⟨b,rfl,hb⟩,hW⟩
 generalize BrRet (SmThr l) w=Po at HPo⊢
 clear h
 go_enter Tryz.func17, Tryz.ntmps17
 go_wp2_with fail
 go_loopw [3] (fun i wr=>∃ k:Nat,i=.int .i64 k∧k≤l.length∧Hid (∀ j (hj:j < l.length),j < k→(l[j]'hj).env.length≤12)∧Hid (Below w.heap.size w wr)) (fun i _=>l.length - (intOf i).toNat)
 case atStart=>exact⟨0,rfl,Nat.zero_le _,fun _ _ h=>absurd h (Nat.not_lt_zero _),Below.refl _ _⟩
 case round =>
  (try rename World=>wr)
  obtain⟨k,rfl,hk,HN,HB⟩:=hrel
  by_cases hlt:k < l.length
  ·have hkl:(k:Int) < l.length:=by omega
   by_cases h13:k < 13
   ·have h13I:(k:Int) < 13:=by omega
    obtain⟨b,off,ha⟩:=HA.out.resolve_left (by omega)
    subst ha
    obtain⟨ta,tc,g0,g1,ht⟩:=thE_get (H.out.keep (keeps_of_below HB.out)) rfl hlt
    have HNx:Hid ((l[k]'hlt).env.length≤12→∀ j (hj:j < l.length),j < k+1→(l[j]'hj).env.length≤12):=fun he j hj hjk=>by
     by_cases e:j=k
     ·subst e;exact he
     ·exact HN.out j hj (by omega)
    generalize (l[k]'hlt)=t at g0 g1 ht HNx
    have HBr:=Lib.hid (brief_any t.env ta tc wr ht)
    have htl:=ht.2.1
    clear ht HN
    go_wp2_with fail
    refine HBr.out.mono ?_
    rintro e w5 ⟨⟨b0,rfl,-⟩,hb5⟩
    have HB5:Hid (Below w.heap.size w w5):=HB.out.trans (hb5.mono HB.out.size)
    have q1:=keeps_of_below hb5 _ _ g1
    clear hb5 g0 g1
    cases b0 with
    | false =>
     have HF:=Lib.hid (HPo.out false (fun h=>by cases h) w5 HB5.out)
     go_wp2_with fail
     first | exact HF.out | (go_ret2;exact HF.out)
    | true =>
     by_cases h12:t.env.length≤12
     ·have h12I:¬ ((12:Int) < (t.env.length:Int)):=by omega
      have HN2:=Lib.hid (HNx.out h12)
      go_wp2_with fail
      go_roundw
      case rel=>exact⟨k+1,by go_num,by omega,HN2.out,HB5.out⟩
      case measure=>(simp[intOf];try omega)
     ·have h12I:((12:Int) < (t.env.length:Int)):=by omega
      have HF:=Lib.hid (HPo.out false (fun h=>by cases h) w5 HB5.out)
      go_wp2_with fail
      first | exact HF.out | (go_ret2;exact HF.out)
   ·have h13I:¬ (k:Int) < 13:=by omega
    have h40:¬ l.length≤12:=by omega
    have h40I:¬ (l.length:Int)≤12:=by omega
    have HF:=Lib.hid (HPo.out false (fun h=>by cases h) wr HB.out)
    go_wp2_with fail
    first | exact HF.out | (go_ret2;exact HF.out)
  ·have hkl:¬ (k:Int) < l.length:=by omega
   obtain rfl:k=l.length:=by omega
   by_cases h40:l.length≤12
   ·have h40I:(l.length:Int)≤12:=by omega
    have HF:=Lib.hid (HPo.out true (fun _=>⟨h40,fun t ht=>by obtain⟨j,hj,rfl⟩:=List.getElem_of_mem ht;exact HN.out j hj hj⟩) wr HB.out)
    go_wp2_with fail
    first | exact HF.out | (go_ret2;exact HF.out)
   ·have h40I:¬ (l.length:Int)≤12:=by omega
    have HF:=Lib.hid (HPo.out false (fun h=>by cases h) wr HB.out)
    go_wp2_with fail
    first | exact HF.out | (go_ret2;exact HF.out)
structure SmEd (e:EdgeD):Prop where
 gl:e.guards.length≤10
 sl:e.sets.length≤10
 gs:∀ g∈e.guards,g.nodes.length≤60
 ss:∀ b∈e.sets,b.expr.nodes.length≤60
def SmNfa (n:NfaD):Prop:=n.states≤60∧n.edges.length≤120∧n.accept.length≤60∧∀ e∈n.edges,SmEd e
theorem SmNfa.small {n:NfaD} (h:SmNfa n):SmallN n:=fun e he=>⟨fun g hg=>by have:=(h.2.2.2 e he).gs g hg;omega,fun b hb=>by have:=(h.2.2.2 e he).ss b hb;omega⟩
theorem SmNfa.step {n:NfaD} (h:SmNfa n):∀ e∈n.edges,StepEd e:=fun e he=>⟨fun g hg=>by have:=(h.2.2.2 e he).gs g hg;omega,fun b hb=>by have:=(h.2.2.2 e he).ss b hb;omega,by have:=(h.2.2.2 e he).sl;omega⟩
set_option maxHeartbeats 8000000 in
set_option maxRecDepth 100000 in
theorem smallN_any (n:NfaD) (x:NfaA) (w:World) (h:NfaIn w n x):Calls Tryz.prog 16 #[nfaVal n x] w (BrRet (SmNfa n) w):=by
 have HNs:=Lib.hid h.es
 have HNa:Hid (n.edges.length=0∨∃ b off,x.ae=some ⟨b,off,none⟩):=h.es.addr
 have hel:=h.es.len
 have hal:=h.ac.2.1
 have HNo:Hid (∀ W,Below w.heap.size w W→BrRet (SmNfa n) w (.returned (.bool false)) W):=fun W hW=>⟨⟨false,rfl,fun h=>by cases h⟩,hW⟩
 have HYes:Hid (n.states≤60→n.edges.length≤120→n.accept.length≤60→(∀ j (hj:j < n.edges.length),SmEd (n.edges[j]'hj))→∀ W,Below w.heap.size w W→BrRet (SmNfa n) w (.returned (.bool true)) W):=fun h1 h2 h3 h4 W hW=>⟨⟨true,rfl,fun _=>⟨h1,h2,h3,fun e he=>by obtain⟨j,hj,rfl⟩:=List.getElem_of_mem he;exact h4 j hj⟩⟩,hW⟩
 generalize BrRet (SmNfa n) w=Po at HNo HYes⊢
 rw[nfaVal_eq]
 clear h
 obtain⟨xae,xce,xaa,xca⟩:=x
 obtain⟨st,es,ac⟩:=n
 simp only at HNs HNa hel hal HYes⊢
 go_enter Tryz.func16, Tryz.ntmps16
 go_upto_region 1 with fail
 generalize hW2:World.alloc w _=W2
 have HB2:Hid (Below w.heap.size w W2):=by show Below _ _ _;rw[← hW2];exact(Below.refl _ _).alloc (Nat.le_refl _) _
 have HX2:Hid (W2.heap[w.heap.size]? = some (.cells #[.int .i64 st,.slice xae es.length xce,.slice xaa ac.length xca] 33 (0,0))):=by show _=_;rw[← hW2];exact hx_newT rfl
 have hz2:w.heap.size+1≤W2.heap.size:=by rw[← hW2];simp
 clear hW2
 obtain⟨b0,b1,b2⟩:=cell3T HX2.out
 have HF2:=Lib.hid (HNo.out W2 HB2.out)
 by_cases h1:st≤60
 ·have h1I:¬ 60 < st:=by omega
  by_cases h2:es.length≤120
  ·have h2I:¬ (120:Int) < es.length:=by omega
   by_cases h3:ac.length≤60
   ·have h3I:¬ (60:Int) < ac.length:=by omega
    have HY2:=Lib.hid (HYes.out h1 h2 h3)
    go_wp2_with fail
    clear b0 b1 b2
    go_loopw [3,4,5,6] (fun i _ _ _ wr=>∃ k:Nat,i=.int .i64 k∧k≤es.length∧Hid (∀ j (hj:j < es.length),j < k→SmEd (es[j]'hj))∧Hid (Below W2.heap.size W2 wr)) (fun i _ _ _ _=>es.length - (intOf i).toNat)
    case atStart=>exact⟨0,rfl,Nat.zero_le _,fun _ _ h=>absurd h (Nat.not_lt_zero _),Below.refl _ _⟩
    case round =>
     (try rename World=>wr)
     obtain⟨k,rfl,hk,HN,HBr⟩:=hrel
     have hzr:=HBr.out.size
     have HBw:Hid (Below w.heap.size w wr):=HB2.out.trans (HBr.out.mono HB2.out.size)
     obtain⟨x0,x1,x2⟩:=cell3T ((HBr.out.block _ (by omega)).trans HX2.out)
     by_cases hlt:k < es.length
     ·have hkl:(k:Int) < es.length:=by omega
      obtain⟨b,off,hb⟩:=HNa.out.resolve_left (by omega)
      subst hb
      obtain⟨ag,cg,aS,cs,g0,g1,g2,g3,hg,hs⟩:=edE_get (HNs.out.keep (keeps_of_below HBw.out)) rfl hlt
      have HNx:Hid (SmEd (es[k]'hlt)→∀ j (hj:j < es.length),j < k+1→SmEd (es[j]'hj)):=fun he j hj hjk=>by
       by_cases e:j=k
       ·subst e;exact he
       ·exact HN.out j hj (by omega)
      generalize (es[k]'hlt)=y at g0 g1 g2 g3 hg hs HNx
      have HGs:=Lib.hid hg
      have HSs:=Lib.hid hs
      have HGa:Hid (y.guards.length=0∨∃ b off,ag=some ⟨b,off,none⟩):=hg.addr
      have HSa:Hid (y.sets.length=0∨∃ b off,aS=some ⟨b,off,none⟩):=hs.addr
      have hgl:=hg.len
      have hsl:=hs.len
      clear HN hg hs
      go_upto_region 7 with fail
      generalize hW6:World.alloc wr _=W6
      have hB6:Below wr.heap.size wr W6:=by rw[← hW6];exact(Below.refl _ _).alloc (Nat.le_refl _) _
      have HE6:Hid (W6.heap[wr.heap.size]? = some (.cells #[.int .i64 y.fr,.int .i64 y.to,.slice ag y.guards.length cg,.slice aS y.sets.length cs] 69 (0,0))):=by show _=_;rw[← hW6];exact hx_newT rfl
      have HB6:=Lib.hid hB6
      have hz6:wr.heap.size+1≤W6.heap.size:=by rw[← hW6];simp
      have HBw6:Hid (Below w.heap.size w W6):=HBw.out.trans (hB6.mono HBw.out.size)
      have HB26:Hid (Below W2.heap.size W2 W6):=HBr.out.trans (hB6.mono hzr)
      have HEw:Hid (∀ W,Below W6.heap.size W6 W→W.cell? ⟨wr.heap.size,2,none⟩=some (.slice ag y.guards.length cg)∧W.cell? ⟨wr.heap.size,3,none⟩=some (.slice aS y.sets.length cs)):=fun W hW=>by
       obtain⟨-,-,e2,e3,-⟩:=cell4B ((hW.block _ (by omega)).trans HE6.out)
       exact⟨e2,e3⟩
      obtain⟨e2,e3⟩:=HEw.out W6 (Below.refl _ _)
      have HF6:Hid (∀ W,Below W6.heap.size W6 W→Po (.returned (.bool false)) W):=fun W hW=>HNo.out W (HBw6.out.trans (hW.mono HBw6.out.size))
      clear hW6 hB6 HE6 g0 g1 g2 g3 x0 x1 x2
      by_cases hgl2:y.guards.length≤10
      ·have hgI:¬ (10:Int) < y.guards.length:=by omega
       by_cases hsl2:y.sets.length≤10
       ·have hsI:¬ (10:Int) < y.sets.length:=by omega
        go_wp2_with fail
        clear e2 e3
        go_loopw [5] (fun i wq=>∃ m:Nat,i=.int .i64 m∧m≤y.guards.length∧Hid (∀ j (hj:j < y.guards.length),j < m→(y.guards[j]'hj).nodes.length≤60)∧Hid (Below W6.heap.size W6 wq)) (fun i _=>y.guards.length - (intOf i).toNat)
        case atStart=>exact⟨0,rfl,Nat.zero_le _,fun _ _ h=>absurd h (Nat.not_lt_zero _),Below.refl _ _⟩
        case round =>
         (try rename World=>wq)
         obtain⟨m,rfl,hm,HNg,HBq⟩:=hrel
         have hzq:=HBq.out.size
         have HBwq:Hid (Below w.heap.size w wq):=HBw6.out.trans (HBq.out.mono HBw6.out.size)
         have HB6q:Hid (Below wr.heap.size wr wq):=HB6.out.trans (HBq.out.mono HB6.out.size)
         obtain⟨e2,e3⟩:=HEw.out wq HBq.out
         by_cases hltm:m < y.guards.length
         ·have hml:(m:Int) < y.guards.length:=by omega
          obtain⟨bg,og,hbg⟩:=HGa.out.resolve_left (by omega)
          subst hbg
          obtain⟨a',c',g0,g1,g2,g3,hX⟩:=exE_get (HGs.out.keep (keeps_of_below HB6q.out)) rfl hltm
          have HNn:Hid ((y.guards[m]'hltm).nodes.length≤60→∀ j (hj:j < y.guards.length),j < m+1→(y.guards[j]'hj).nodes.length≤60):=fun he j hj hjk=>by
           by_cases e:j=m
           ·subst e;exact he
           ·exact HNg.out j hj (by omega)
          generalize (y.guards[m]'hltm)=z at g0 g1 g2 g3 hX HNn
          have HFw:=Lib.hid (Few_any z 60 a' c' wq hX (by omega) (by omega))
          clear hX HNg
          go_wp2_with fail
          refine HFw.out.mono ?_
          rintro e w5 ⟨⟨bb,rfl,hbb⟩,hb5⟩
          have HB5:Hid (Below W6.heap.size W6 w5):=HBq.out.trans (hb5.mono hzq)
          clear hb5 g0 g1 g2 g3 HFw
          cases bb with
          | false =>
           have HF:=Lib.hid (HF6.out w5 HB5.out)
           clear hbb
           go_wp2_with fail
           first | exact HF.out | (go_ret2;exact HF.out)
          | true =>
           have HN2:=Lib.hid (HNn.out (by have:=hbb rfl;omega))
           clear hbb
           go_wp2_with fail
           go_roundw
           case rel=>exact⟨m+1,by go_num,by omega,HN2.out,HB5.out⟩
           case measure=>(simp[intOf];try omega)
         ·obtain rfl:m=y.guards.length:=by omega
          have HGall:Hid (∀ g∈y.guards,g.nodes.length≤60):=fun g hg=>by
           obtain⟨j,hj,rfl⟩:=List.getElem_of_mem hg
           exact HNg.out j hj hj
          clear HNg
          go_wp2_with fail
          clear e2 e3
          go_loopw [6] (fun i wv=>∃ m:Nat,i=.int .i64 m∧m≤y.sets.length∧Hid (∀ j (hj:j < y.sets.length),j < m→(y.sets[j]'hj).expr.nodes.length≤60)∧Hid (Below W6.heap.size W6 wv)) (fun i _=>y.sets.length - (intOf i).toNat)
          case atStart=>exact⟨0,rfl,Nat.zero_le _,fun _ _ h=>absurd h (Nat.not_lt_zero _),HBq.out⟩
          case round =>
           (try rename World=>wv)
           obtain⟨m,rfl,hm,HNg,HBv⟩:=hrel
           have hzv:=HBv.out.size
           have HB6v:Hid (Below wr.heap.size wr wv):=HB6.out.trans (HBv.out.mono HB6.out.size)
           obtain⟨e2,e3⟩:=HEw.out wv HBv.out
           by_cases hltm:m < y.sets.length
           ·have hml:(m:Int) < y.sets.length:=by omega
            obtain⟨bg,og,hbg⟩:=HSa.out.resolve_left (by omega)
            subst hbg
            obtain⟨a',c',g0,g1,g2,g3,g4,hns,hX⟩:=bdE_get (HSs.out.keep (keeps_of_below HB6v.out)) rfl hltm
            have HNn:Hid ((y.sets[m]'hltm).expr.nodes.length≤60→∀ j (hj:j < y.sets.length),j < m+1→(y.sets[j]'hj).expr.nodes.length≤60):=fun he j hj hjk=>by
             by_cases e:j=m
             ·subst e;exact he
             ·exact HNg.out j hj (by omega)
            generalize (y.sets[m]'hltm)=z at g0 g1 g2 g3 g4 hX hns HNn
            obtain⟨nm,z⟩:=z
            simp only at g0 g1 g2 g3 g4 hX hns HNn
            have HFw:=Lib.hid (Few_any z 60 a' c' wv hX (by omega) (by omega))
            clear hX HNg
            go_wp2_with fail
            refine HFw.out.mono ?_
            rintro e w5 ⟨⟨bb,rfl,hbb⟩,hb5⟩
            have HB5:Hid (Below W6.heap.size W6 w5):=HBv.out.trans (hb5.mono hzv)
            have q0:=keeps_of_below hb5 _ _ g0
            obtain⟨f2,f3⟩:=HEw.out w5 HB5.out
            clear hb5 g0 g1 g2 g3 g4 e2 e3 HFw
            cases bb with
            | false =>
             have HF:=Lib.hid (HF6.out w5 HB5.out)
             clear hbb
             go_wp2_with fail
             first | exact HF.out | (go_ret2;exact HF.out)
            | true =>
             have HN2:=Lib.hid (HNn.out (by have:=hbb rfl;omega))
             clear hbb
             by_cases hn40:nm.size≤40
             ·have hnI:¬ ((40:Int) < (nm.size:Int)):=by omega
              go_wp2_with fail
              go_roundw
              case rel=>exact⟨m+1,by go_num,by omega,HN2.out,HB5.out⟩
              case measure=>(simp[intOf];try omega)
             ·have hnI:((40:Int) < (nm.size:Int)):=by omega
              have HF:=Lib.hid (HF6.out w5 HB5.out)
              go_wp2_with fail
              first | exact HF.out | (go_ret2;exact HF.out)
           ·obtain rfl:m=y.sets.length:=by omega
            have HNk:=Lib.hid (HNx.out ⟨hgl2,hsl2,HGall.out,fun g hg=>by
             obtain⟨j,hj,rfl⟩:=List.getElem_of_mem hg
             exact HNg.out j hj hj⟩)
            have HB9:Hid (Below W2.heap.size W2 wv):=HB26.out.trans (HBv.out.mono HB26.out.size)
            clear HNg
            go_wp2_with fail
            go_roundw
            case rel=>exact⟨k+1,by go_num,by omega,HNk.out,HB9.out⟩
            case measure=>(simp[intOf];try omega)
       ·have hsI:(10:Int) < y.sets.length:=by omega
        have HF:=Lib.hid (HF6.out W6 (Below.refl _ _))
        go_wp2_with fail
        first | exact HF.out | (go_ret2;exact HF.out)
      ·have hgI:(10:Int) < y.guards.length:=by omega
       have HF:=Lib.hid (HF6.out W6 (Below.refl _ _))
       go_wp2_with fail
       first | exact HF.out | (go_ret2;exact HF.out)
     ·obtain rfl:k=es.length:=by omega
      have HF:=Lib.hid (HY2.out (fun j hj=>HN.out j hj hj) wr HBw.out)
      go_wp2_with fail
      first | exact HF.out | (go_ret2;exact HF.out)
   ·have h3I:(60:Int) < ac.length:=by omega
    go_wp2_with fail
    first | exact HF2.out | (go_ret2;exact HF2.out)
  ·have h2I:(120:Int) < es.length:=by omega
   go_wp2_with fail
   first | exact HF2.out | (go_ret2;exact HF2.out)
 ·have h1I:60 < st:=by omega
  go_wp2_with fail
  first | exact HF2.out | (go_ret2;exact HF2.out)
end Go.Proofs.YthojpomoflhbcaaGreatDoor
