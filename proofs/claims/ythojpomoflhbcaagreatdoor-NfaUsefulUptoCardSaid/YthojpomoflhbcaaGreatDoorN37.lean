/- ref41: Same. -/
import Derived.Test.YthojpomoflhbcaaGreatDoorN36
set_option linter.unusedSimpArgs false
set_option linter.unusedVariables false
set_option linter.unnecessarySimpa false
namespace Go.Proofs.YthojpomoflhbcaaGreatDoor
open Go.RowKit
attribute [local go_sem ↓] Go.wp_at_zero Go.wp_at_succ
theorem nfq_eq {a b:NfaD}:a=b↔a.states=b.states∧a.edges=b.edges∧a.accept=b.accept:=by
 obtain⟨a1,a2,a3⟩:=a
 obtain⟨b1,b2,b3⟩:=b
 constructor
 ·intro h;injection h with h1 h2 h3;exact⟨h1,h2,h3⟩
 ·rintro ⟨h1,h2,h3⟩
  simp only at h1 h2 h3
  rw[h1,h2,h3]
set_option maxHeartbeats 16000000 in
set_option maxRecDepth 100000 in
theorem sameN_any (m n:NfaD) (x y:NfaA) (w:World) (h1:NfaIn w m x) (h3:NfaIn w n y) :
  Calls Tryz.prog 15 #[nfaVal m x,nfaVal n y] w (BoolN (pB (m=n)) w):=by
 have HYes:Hid (m.states=n.states→m.edges=n.edges→m.accept=n.accept→∀ W,Below w.heap.size w W→BoolN (pB (m=n)) w (.returned (.bool true)) W):=fun a1 a2 a3 W hW=>⟨by rw[pB_true (nfq_eq.2 ⟨a1,a2,a3⟩)],hW⟩
 have HNo:Hid (¬ (m.states=n.states∧m.edges=n.edges∧m.accept=n.accept)→∀ W,Below w.heap.size w W→BoolN (pB (m=n)) w (.returned (.bool false)) W):=fun h W hW=>⟨by rw[pB_false (fun q=>h (nfq_eq.1 q))],hW⟩
 generalize BoolN (pB (m=n)) w=Po at HYes HNo⊢
 have H1:=Lib.hid h1.es
 have H2:=Lib.hid (inE_in.2 h1.ac)
 have H3:=Lib.hid h3.es
 have H4:=Lib.hid (inE_in.2 h3.ac)
 have H1a:Hid (m.edges.length=0∨∃ b off,x.ae=some ⟨b,off,none⟩):=h1.es.addr
 have H2a:Hid (m.accept.length=0∨∃ b off,x.aa=some ⟨b,off,none⟩):=SliceIn.addr h1.ac
 have H3a:Hid (n.edges.length=0∨∃ b off,y.ae=some ⟨b,off,none⟩):=h3.es.addr
 have H4a:Hid (n.accept.length=0∨∃ b off,y.aa=some ⟨b,off,none⟩):=SliceIn.addr h3.ac
 have l1:=h1.es.len
 have l2:=(inE_in.2 h1.ac).len
 have l3:=h3.es.len
 have l4:=(inE_in.2 h3.ac).len
 rw[nfaVal_eq,nfaVal_eq]
 clear h1 h3
 obtain⟨ef,eg,es⟩:=m
 obtain⟨ff,fg,fs⟩:=n
 obtain⟨ag,cg,aS,cs⟩:=x
 obtain⟨bg,dg,bS,ds⟩:=y
 simp only at HYes HNo H1 H2 H3 H4 H1a H2a H3a H4a l1 l2 l3 l4⊢
 by_cases q1:ef=ff
 ·by_cases q3:eg.length=fg.length
  ·by_cases q4:es.length=fs.length
   ·subst q1
    have d1:(ef != ef)=false:=by simp
    have d3:((eg.length:Int) != (fg.length:Int))=false:=by simp;omega
    have d4:((es.length:Int) != (fs.length:Int))=false:=by simp;omega
    have Q3:=Lib.hid q3
    have Q4:=Lib.hid q4
    clear q3 q4
    go_enter Tryz.func15, Tryz.ntmps15
    go_upto_region 3 with fail
    generalize hW2:World.alloc (World.alloc w _) _=W2
    have HB2:Hid (Below w.heap.size w W2):=by show Below _ _ _;rw[← hW2];exact((Below.refl _ _).alloc (Nat.le_refl _) _).alloc (by simp) _
    have HX2:Hid (W2.heap[w.heap.size]? = some (.cells #[.int .i64 ef,.slice ag eg.length cg,.slice aS es.length cs] 33 (0,0))):=by show _=_;rw[← hW2];exact hx_oldT (hx_newT rfl)
    have HY2:Hid (W2.heap[w.heap.size+1]? = some (.cells #[.int .i64 ef,.slice bg fg.length dg,.slice bS fs.length ds] 33 (0,0))):=by show _=_;rw[← hW2];exact hx_newT (by simp)
    have hz2:w.heap.size+2≤W2.heap.size:=by rw[← hW2];simp
    have HALL:Hid (∀ W,Below W2.heap.size W2 W→W.cell? ⟨w.heap.size,1,none⟩=some (.slice ag eg.length cg)∧W.cell? ⟨w.heap.size+1,1,none⟩=some (.slice bg fg.length dg)∧W.cell? ⟨w.heap.size,2,none⟩=some (.slice aS es.length cs)∧W.cell? ⟨w.heap.size+1,2,none⟩=some (.slice bS fs.length ds)):=fun W hW=>by
     obtain⟨-,a2,a3⟩:=cell3T ((hW.block _ (by omega)).trans HX2.out)
     obtain⟨-,c2,c3⟩:=cell3T ((hW.block _ (by omega)).trans HY2.out)
     exact⟨a2,c2,a3,c3⟩
    clear hW2 d1 d3 d4
    go_wp2_with fail
    go_loopw [5] (fun i wr=>∃ k:Nat,i=.int .i64 k∧k≤eg.length∧Hid (∀ j (hj:j < eg.length) (hj2:j < fg.length),j < k→eg[j]'hj=fg[j]'hj2)∧Hid (Below W2.heap.size W2 wr)) (fun i _=>eg.length - (intOf i).toNat)
    case atStart=>exact⟨0,rfl,Nat.zero_le _,fun _ _ _ h=>absurd h (Nat.not_lt_zero _),Below.refl _ _⟩
    case round =>
     (try rename World=>wr)
     obtain⟨k,rfl,hk,HAl,HB⟩:=hrel
     have HBw:Hid (Below w.heap.size w wr):=HB2.out.trans (HB.out.mono HB2.out.size)
     have hzr:=HB.out.size
     obtain⟨x2,y2,x3,y3⟩:=HALL.out wr HB.out
     by_cases hlt:k < eg.length
     ·have hltb:k < fg.length:=by have:=Q3.out;omega
      have hltI:(k:Int) < (eg.length:Int):=by omega
      have hltJ:(k:Int) < (fg.length:Int):=by omega
      obtain⟨p1,o1,ha1⟩:=H1a.out.resolve_left (by omega)
      obtain⟨p2,o2,ha2⟩:=H3a.out.resolve_left (by omega)
      subst ha1 ha2
      obtain⟨a1,c1,a2,c2,g0,g1,g2,g3,hX,hX2⟩:=edE_get (H1.out.keep (keeps_of_below HBw.out)) rfl hlt
      obtain⟨b1,e1,b2,e2,m0,m1,m2,m3,hY,hY2⟩:=edE_get (H3.out.keep (keeps_of_below HBw.out)) rfl hltb
      have HNx:=Lib.hid (fun he=>list_nextN hlt hltb HAl.out he)
      have HNn:Hid (¬ (eg[k]'hlt=fg[k]'hltb)→∀ W,Below w.heap.size w W→Po (.returned (.bool false)) W):=fun h=>HNo.out fun q=>list_neN hlt hltb h q.2.1
      generalize (eg[k]'hlt)=u at HNx HNn g0 g1 g2 g3 hX hX2
      generalize (fg[k]'hltb)=v at HNx HNn m0 m1 m2 m3 hY hY2
      have HS:Hid (∀ W,Below wr.heap.size wr W→Calls Tryz.prog 46 #[.agg #[.int .i64 u.fr,.int .i64 u.to,.slice a1 u.guards.length c1,.slice a2 u.sets.length c2],.agg #[.int .i64 v.fr,.int .i64 v.to,.slice b1 v.guards.length e1,.slice b2 v.sets.length e2]] W fun e w'=>e=.returned (.bool (pB (u=v)))∧Below wr.heap.size wr w'):=fun W hW=>(sameEdge_any u v a1 c1 a2 c2 b1 e1 b2 e2 W (hX.keep (keeps_of_below hW)) (hX2.keep (keeps_of_below hW)) (hY.keep (keeps_of_below hW)) (hY2.keep (keeps_of_below hW))).mono fun e w' h=>⟨h.1,hW.trans (h.2.mono hW.size)⟩
      have HC:Hid (∀ W,Below wr.heap.size wr W→(W.cell? ⟨w.heap.size,1,none⟩=some (.slice (some ⟨p1,o1,none⟩) eg.length cg)∧W.cell? ⟨w.heap.size+1,1,none⟩=some (.slice (some ⟨p2,o2,none⟩) fg.length dg))∧(W.cell? ⟨p1,o1+k * 4,none⟩=some (.int .i64 u.fr)∧W.cell? ⟨p1,o1+k * 4+1,none⟩=some (.int .i64 u.to)∧W.cell? ⟨p1,o1+k * 4+2,none⟩=some (.slice a1 u.guards.length c1)∧W.cell? ⟨p1,o1+k * 4+3,none⟩=some (.slice a2 u.sets.length c2))∧(W.cell? ⟨p2,o2+k * 4,none⟩=some (.int .i64 v.fr)∧W.cell? ⟨p2,o2+k * 4+1,none⟩=some (.int .i64 v.to)∧W.cell? ⟨p2,o2+k * 4+2,none⟩=some (.slice b1 v.guards.length e1)∧W.cell? ⟨p2,o2+k * 4+3,none⟩=some (.slice b2 v.sets.length e2))):=fun W hW=>⟨⟨keeps_of_below hW _ _ x2,keeps_of_below hW _ _ y2⟩,⟨keeps_of_below hW _ _ g0,keeps_of_below hW _ _ g1,keeps_of_below hW _ _ g2,keeps_of_below hW _ _ g3⟩,keeps_of_below hW _ _ m0,keeps_of_below hW _ _ m1,keeps_of_below hW _ _ m2,keeps_of_below hW _ _ m3⟩
      clear hX hY hX2 hY2 HAl
      by_cases huv:u=v
      ·have HE:=Lib.hid (HNx.out huv)
       rw[pB_true huv] at HS
       clear HNx HNn huv
       go_wp2_with fail
       go_region_held3 (fun W=>Below wr.heap.size wr W∧((W.cell? ⟨w.heap.size,1,none⟩=some (.slice (some ⟨p1,o1,none⟩) eg.length cg)∧W.cell? ⟨w.heap.size+1,1,none⟩=some (.slice (some ⟨p2,o2,none⟩) fg.length dg))∧(W.cell? ⟨p1,o1+k * 4,none⟩=some (.int .i64 u.fr)∧W.cell? ⟨p1,o1+k * 4+1,none⟩=some (.int .i64 u.to)∧W.cell? ⟨p1,o1+k * 4+2,none⟩=some (.slice a1 u.guards.length c1)∧W.cell? ⟨p1,o1+k * 4+3,none⟩=some (.slice a2 u.sets.length c2))∧(W.cell? ⟨p2,o2+k * 4,none⟩=some (.int .i64 v.fr)∧W.cell? ⟨p2,o2+k * 4+1,none⟩=some (.int .i64 v.to)∧W.cell? ⟨p2,o2+k * 4+2,none⟩=some (.slice b1 v.guards.length e1)∧W.cell? ⟨p2,o2+k * 4+3,none⟩=some (.slice b2 v.sets.length e2))))
        ((refine(fun h=>⟨h,HC.out _ h⟩) ?_;first | with_reducible assumption | exact belR))
        (first | (go_at_call 46;(with_reducible refine(HS.out _ (by first | with_reducible assumption | exact belR)).mono ?_);rintro e w5 ⟨rfl,hb5⟩))
       all_goals
        have HB9:Hid (Below W2.heap.size W2 w5):=HB.out.trans (Below.mono hb5 hzr)
        clear hb5
        go_wp2_with fail
        go_roundw
        case rel=>exact⟨k+1,by go_num,by omega,HE.out,HB9.out⟩
        case measure=>(simp[intOf];try omega)
      ·have HE:=Lib.hid (HNn.out huv)
       rw[pB_false huv] at HS
       clear HNx HNn huv
       go_wp2_with fail
       go_region_held3 (fun W=>Below wr.heap.size wr W∧((W.cell? ⟨w.heap.size,1,none⟩=some (.slice (some ⟨p1,o1,none⟩) eg.length cg)∧W.cell? ⟨w.heap.size+1,1,none⟩=some (.slice (some ⟨p2,o2,none⟩) fg.length dg))∧(W.cell? ⟨p1,o1+k * 4,none⟩=some (.int .i64 u.fr)∧W.cell? ⟨p1,o1+k * 4+1,none⟩=some (.int .i64 u.to)∧W.cell? ⟨p1,o1+k * 4+2,none⟩=some (.slice a1 u.guards.length c1)∧W.cell? ⟨p1,o1+k * 4+3,none⟩=some (.slice a2 u.sets.length c2))∧(W.cell? ⟨p2,o2+k * 4,none⟩=some (.int .i64 v.fr)∧W.cell? ⟨p2,o2+k * 4+1,none⟩=some (.int .i64 v.to)∧W.cell? ⟨p2,o2+k * 4+2,none⟩=some (.slice b1 v.guards.length e1)∧W.cell? ⟨p2,o2+k * 4+3,none⟩=some (.slice b2 v.sets.length e2))))
        ((refine(fun h=>⟨h,HC.out _ h⟩) ?_;first | with_reducible assumption | exact belR))
        (first | (go_at_call 46;(with_reducible refine(HS.out _ (by first | with_reducible assumption | exact belR)).mono ?_);rintro e w5 ⟨rfl,hb5⟩))
       all_goals
        have HE9:=Lib.hid (HE.out w5 (HBw.out.trans (Below.mono hb5 HBw.out.size)))
        clear hb5
        go_wp2_with fail
        first | exact HE9.out | (go_ret2;exact HE9.out)
     ·obtain rfl:k=eg.length:=by omega
      have HEg:Hid (eg=fg):=List.ext_getElem Q3.out fun j hj hj2=>HAl.out j hj hj2 hj
      go_wp2_with fail
      go_loopw [6] (fun i wv=>∃ k:Nat,i=.int .i64 k∧k≤es.length∧Hid (∀ j (hj:j < es.length) (hj2:j < fs.length),j < k→es[j]'hj=fs[j]'hj2)∧Hid (Below W2.heap.size W2 wv)) (fun i _=>es.length - (intOf i).toNat)
      case atStart=>exact⟨0,rfl,Nat.zero_le _,fun _ _ _ h=>absurd h (Nat.not_lt_zero _),HB.out⟩
      case round =>
       (try rename World=>wv)
       obtain⟨k,rfl,hk,HAs,HB⟩:=hrel
       have HBw:Hid (Below w.heap.size w wv):=HB2.out.trans (HB.out.mono HB2.out.size)
       have hzr:=HB.out.size
       obtain⟨x2,y2,x3,y3⟩:=HALL.out wv HB.out
       by_cases hlt:k < es.length
       ·have hltb:k < fs.length:=by have:=Q4.out;omega
        have hltI:(k:Int) < (es.length:Int):=by omega
        have hltJ:(k:Int) < (fs.length:Int):=by omega
        obtain⟨p1,o1,ha1⟩:=H2a.out.resolve_left (by omega)
        obtain⟨p2,o2,ha2⟩:=H4a.out.resolve_left (by omega)
        subst ha1 ha2
        have g0:=inE_at.1 ((H2.out.keep (keeps_of_below HBw.out)).get rfl hlt)
        have m0:=inE_at.1 ((H4.out.keep (keeps_of_below HBw.out)).get rfl hltb)
        rw[show inE.sz=1 from rfl,Nat.mul_one] at g0 m0
        have HNx:=Lib.hid (fun he=>list_nextN hlt hltb HAs.out he)
        have HNn:Hid (¬ (es[k]'hlt=fs[k]'hltb)→∀ W,Below w.heap.size w W→Po (.returned (.bool false)) W):=fun h=>HNo.out fun q=>list_neN hlt hltb h q.2.2
        generalize (es[k]'hlt)=u at HNx HNn g0
        generalize (fs[k]'hltb)=v at HNx HNn m0
        clear HAs
        by_cases huv:u=v
        ·have HE:=Lib.hid (HNx.out huv)
         subst huv
         have qs:(u != u)=false:=by simp
         clear HNx HNn
         go_wp2_with fail
         go_quiet (fail)
         go_wp2_with fail
         go_roundw
         case rel=>exact⟨k+1,by go_num,by omega,HE.out,below_drewN HB.out _⟩
         case measure=>(simp[intOf];try omega)
        ·have HE:=Lib.hid (HNn.out huv)
         have qs:(u != v)=true:=by simp[huv]
         clear HNx HNn huv
         go_wp2_with fail
         go_quiet (fail)
         go_wp2_with fail
         first | exact HE.out _ (below_drewN HBw.out _) | (go_ret2;exact HE.out _ (below_drewN HBw.out _))
       ·obtain rfl:k=es.length:=by omega
        have HEs:es=fs:=List.ext_getElem Q4.out fun j hj hj2=>HAs.out j hj hj2 hj
        have HE:=Lib.hid (HYes.out (by first | rfl | trivial) HEg.out HEs wv HBw.out)
        clear HEs
        go_wp2_with fail
        first | exact HE.out | (go_ret2;exact HE.out)
   ·have d1:(ef != ff)=false:=by simp[q1]
    have d3:((eg.length:Int) != (fg.length:Int))=false:=by simp;omega
    have d4:((es.length:Int) != (fs.length:Int))=true:=by simp;omega
    have HE1:Hid (∀ W,Below w.heap.size w W→Po (.returned (.bool false)) W):=HNo.out (by rintro ⟨-,-,h⟩;exact q4 (by rw[h]))
    clear HYes HNo
    go_enter Tryz.func15, Tryz.ntmps15
    go_wp2_with fail
    first | exact HE1.out _ (((Below.refl _ w).alloc (Nat.le_refl _) _).alloc (by simp) _) | (go_ret2;exact HE1.out _ (((Below.refl _ w).alloc (Nat.le_refl _) _).alloc (by simp) _))
  ·have d1:(ef != ff)=false:=by simp[q1]
   have d3:((eg.length:Int) != (fg.length:Int))=true:=by simp;omega
   have HE1:Hid (∀ W,Below w.heap.size w W→Po (.returned (.bool false)) W):=HNo.out (by rintro ⟨-,h,-⟩;exact q3 (by rw[h]))
   clear HYes HNo
   go_enter Tryz.func15, Tryz.ntmps15
   go_wp2_with fail
   first | exact HE1.out _ (((Below.refl _ w).alloc (Nat.le_refl _) _).alloc (by simp) _) | (go_ret2;exact HE1.out _ (((Below.refl _ w).alloc (Nat.le_refl _) _).alloc (by simp) _))
 ·have d1:(ef != ff)=true:=by simp[q1]
  have HE1:Hid (∀ W,Below w.heap.size w W→Po (.returned (.bool false)) W):=HNo.out (by rintro ⟨h,-,-⟩;exact q1 h)
  clear HYes HNo
  go_enter Tryz.func15, Tryz.ntmps15
  go_wp2_with fail
  first | exact HE1.out _ (((Below.refl _ w).alloc (Nat.le_refl _) _).alloc (by simp) _) | (go_ret2;exact HE1.out _ (((Below.refl _ w).alloc (Nat.le_refl _) _).alloc (by simp) _))
end Go.Proofs.YthojpomoflhbcaaGreatDoor
namespace Go.Proofs.YthojpomoflhbcaaGreatDoor
open Go.RowKit
theorem boxWK {w W:World} (o:Obj) (hW:Below (w.heap.size+1) (w.alloc o) W):Below w.heap.size w W:=((Below.refl _ _).alloc (Nat.le_refl _) _).trans (hW.mono (by simp))
theorem box_cellK {w wr:World} {c:Array Value} {t:TypeId} (h:Below (w.heap.size+1) (w.alloc (.cells c t)) wr) (j:Nat):wr.cell? ⟨w.heap.size,j,none⟩=c[j]? :=
 (h.cell (p:=⟨w.heap.size,j,none⟩) (by simp)).trans (by simp)
noncomputable def preN (l:List Ex) (k:Nat):Nat:=1+(((l.take k).map Ex.nodes).flatten).length
theorem preN_succ (l:List Ex) {k:Nat} (h:k < l.length):preN l (k+1)=preN l k+(l[k]'h).nodes.length:=by
 unfold preN
 rw[List.take_succ_eq_append_getElem h]
 simp only[List.map_append,List.map_cons,List.map_nil,List.flatten_append,List.length_append,List.flatten_cons,List.flatten_nil,List.append_nil]
 omega
theorem preN_all (e:Ex):preN e.args e.args.length=e.nodes.length:=by
 unfold preN
 rw[Ex.nodes_eq e,List.take_of_length_le (Nat.le_refl _)]
 simp only[List.length_cons]
 omega
def CountRet (e:Ex) (n:Int) (r:Ending):Prop:=∃ c:Int,r=.returned (.int .i64 c)∧1≤c∧c≤n+1∧(c≤n→c=e.nodes.length)
set_option maxRecDepth 100000 in
set_option maxHeartbeats 4000000 in
theorem count_any (e:Ex):∀ (n:Int) (a:Option Addr) (cap:Nat) (w:World),ExIn w e a cap→0≤n→n≤1000 →
  Calls Tryz.prog 101 #[.agg #[.int .i64 e.op,.int .i64 e.n,.string e.name,.slice a e.args.length cap],.int .i64 n] w fun r w'=>CountRet e n r∧Below w.heap.size w w':=by
 induction e using Ex.ind with
 | _ e ih =>
  intro n a cap w hE h0 h1
  have HE:=Lib.hid hE.2
  have HA:=Lib.hid hE.2.addr
  have hlen:=hE.2.2.1
  have HI:=Lib.hid ih
  have HAll:=Lib.hid (preN_all e)
  have HSu:=Lib.hid (fun k (h:k < e.args.length)=>preN_succ e.args h)
  have HMem:Hid (∀ k (h:k < e.args.length),(e.args[k]'h)∈e.args):=fun k h=>List.getElem_mem h
  clear ih hE
  unfold CountRet
  generalize e.nodes.length=N at HAll⊢
  obtain⟨op,nn,s,args⟩:=e
  simp only[Ex.op_mk,Ex.n_mk,Ex.name_mk,Ex.args_mk] at HE HA hlen HI HAll HSu HMem⊢
  go_enter Tryz.func101, Tryz.ntmps101
  go_wp2_with fail
  go_loopw [6,5] (fun i k wr=>∃ (j:Nat) (c:Int),i=.int .i64 j∧k=.int .i64 c∧j≤args.length∧1≤c∧c≤n+1∧Hid (c≤n→c=preN args j)∧Hid (Below (w.heap.size+1) (w.alloc (.cells #[.int .i64 op,.int .i64 nn,.string s,.slice a args.length cap] 24)) wr)) (fun i _ _=>args.length - (intOf i).toNat)
  case atStart=>exact⟨0,1,rfl,rfl,Nat.zero_le _,by omega,by omega,fun _=>by simp[preN],Below.refl _ _⟩
  case round =>
   obtain⟨j,c,rfl,rfl,hj,hc1,hc2,HP,HB⟩:=hrel
   have HBw:=Lib.hid (boxWK _ HB.out)
   have hzr:=HB.out.size
   simp only[World.size_alloc] at hzr
   have hzl:w.heap.size < wr.heap.size:=by omega
   have b0:=box_cellK HB.out 3
   (try simp at b0)
   by_cases hlt:j < args.length
   ·by_cases hcn:c≤n
    ·have hd:decide (c≤n)=true:=decide_eq_true hcn
     obtain⟨b,off,ha⟩:=HA.out.resolve_left (by omega)
     subst ha
     obtain⟨a',cap',g0,g1,g2,g3,hX⟩:=HE.out.get rfl hlt
     have kk:=keeps_of_below HBw.out
     have HC:=Lib.hid (HI.out _ (HMem.out j hlt) (n - c) a' cap' wr (hX.keep kk) (by omega) (by omega))
     have HPs:=Lib.hid (HSu.out j hlt)
     have HP':=Lib.hid (HP.out hcn)
     generalize (args[j]'hlt)=e at g0 g1 g2 g3 hX HC HPs
     obtain⟨op',n',s',args'⟩:=e
     unfold CountRet at HC
     generalize (Ex.mk op' n' s' args').nodes.length=M at HC HPs
     simp only[Ex.op_mk,Ex.n_mk,Ex.name_mk,Ex.args_mk] at g0 g1 g2 g3 HC
     have c0:=kk _ _ g0
     have c1:=kk _ _ g1
     have c2:=kk _ _ g2
     have c3:=kk _ _ g3
     clear g0 g1 g2 g3 hX kk
     go_wp2_with fail
     refine HC.out.mono ?_
     rintro r w2 ⟨⟨d,rfl,hd1,hd2,hd3⟩,hb2⟩
     have HD:=Lib.hid hd3
     have HB2:Hid (Below (w.heap.size+1) (w.alloc (.cells #[.int .i64 op,.int .i64 nn,.string s,.slice (some ⟨b,off,none⟩) args.length cap] 24)) w2):=HB.out.trans (hb2.mono (by simpa using hzr))
     clear hb2 c0 c1 c2 c3 b0 hd3 hd
     go_wp2_with fail
     go_roundw
     case rel=>exact⟨j+1,c+d,by go_num,rfl,by omega,by omega,by omega,(fun h=>by rw[HD.out (by omega),HP'.out,HPs.out];omega),HB2.out⟩
     case measure=>simp[intOf];omega
    ·have hd:decide (c≤n)=false:=decide_eq_false hcn
     go_wp2_with fail
     go_ret
     exact⟨⟨c,rfl,hc1,hc2,fun h=>absurd h (by omega)⟩,HBw.out⟩
   ·obtain rfl:j=args.length:=by omega
    go_wp2_with fail
    go_ret
    exact⟨⟨c,rfl,hc1,hc2,fun h=>by rw[HP.out h,HAll.out]⟩,HBw.out⟩
theorem Few_any (e:Ex) (n:Int) (a:Option Addr) (cap:Nat) (w:World) (hE:ExIn w e a cap) (h0:0≤n) (h1:n≤1000) :
  Calls Tryz.prog 47 #[.agg #[.int .i64 e.op,.int .i64 e.n,.string e.name,.slice a e.args.length cap],.int .i64 n] w fun r w'=>(∃ b:Bool,r=.returned (.bool b)∧(b=true→(e.nodes.length:Int)≤n))∧Below w.heap.size w w':=by
 have hB:Below w.heap.size w (w.alloc (.cells #[.int .i64 e.op,.int .i64 e.n,.string e.name,.slice a e.args.length cap] 24)):=(Below.refl _ _).alloc (Nat.le_refl _) _
 have HC:=Lib.hid (count_any e n a cap _ (hE.keep (keeps_of_below hB)) h0 h1)
 have HB:=Lib.hid hB
 clear hE hB
 unfold CountRet at HC
 generalize e.nodes.length=N at HC⊢
 obtain⟨op,nn,s,args⟩:=e
 simp only[Ex.op_mk,Ex.n_mk,Ex.name_mk,Ex.args_mk] at HC HB⊢
 go_enter Tryz.func47, Tryz.ntmps47
 go_wp2_with fail
 refine HC.out.mono ?_
 rintro r w2 ⟨⟨d,rfl,hd1,hd2,hd3⟩,hb2⟩
 have HD:=Lib.hid hd3
 have HB2:Hid (Below w.heap.size w w2):=HB.out.trans (hb2.mono (by simp))
 clear hb2 hd3
 go_wp2_with fail
 go_ret
 exact⟨⟨_,rfl,fun h=>by have h':=of_decide_eq_true h;rw[← HD.out h'];exact h'⟩,HB2.out⟩
end Go.Proofs.YthojpomoflhbcaaGreatDoor
namespace Go.Proofs.YthojpomoflhbcaaGreatDoor
open Go.RowKit
attribute [local go_sem ↓] Go.wp_at_zero Go.wp_at_succ
noncomputable def preT (l:List Tq) (k:Nat):Nat:=1+((l.take k).map Tq.nodes).sum
theorem preT_succ (l:List Tq) {k:Nat} (h:k < l.length):preT l (k+1)=preT l k+(l[k]'h).nodes:=by
 unfold preT
 rw[List.take_succ_eq_append_getElem h]
 simp only[List.map_append,List.map_cons,List.map_nil,List.sum_append,List.sum_cons,List.sum_nil]
 omega
theorem preT_all (s:Tq):preT s.args s.args.length=s.nodes:=by
 unfold preT
 rw[Tq.nodes_eq s,List.take_of_length_le (Nat.le_refl _)]
def CountTRet (s:Tq) (n:Int) (r:Ending):Prop:=∃ c:Int,r=.returned (.int .i64 c)∧1≤c∧c≤n+1∧(c≤n→c=s.nodes∧SmT s)
set_option maxRecDepth 100000 in
set_option maxHeartbeats 4000000 in
theorem countT_any (s:Tq):∀ (n:Int) (ae:Option Addr) (ce:Nat) (a:Option Addr) (cap:Nat) (w:World),TqIn w s ae ce a cap→0≤n→n≤1000 →
  Calls Tryz.prog 40 #[tqVal s ae ce a cap,.int .i64 n] w fun r w'=>CountTRet s n r∧Below w.heap.size w w':=by
 induction s using Tq.ind with
 | h s ih =>
  intro n ae ce a cap w hX h0 h1
  have HFw:Hid (∀ W,Below w.heap.size w W→Calls Tryz.prog 47 #[.agg #[.int .i64 s.expr.op,.int .i64 s.expr.n,.string s.expr.name,.slice ae s.expr.args.length ce],.int .i64 40] W fun r w'=>(∃ b:Bool,r=.returned (.bool b)∧(b=true→(s.expr.nodes.length:Int)≤40))∧Below W.heap.size W w'):=fun W hW=>Few_any s.expr 40 ae ce W (hX.ex.keep (keeps_of_below hW)) (by omega) (by omega)
  have HAr:=Lib.hid hX.ar
  have HAa:Hid (s.args.length=0∨∃ b off,a=some ⟨b,off,none⟩):=SliceIn.addr hX.ar
  have hlen:=hX.ar.2.1
  have hnm:=hX.nm
  have HI:Hid (∀ k (hk:k < s.args.length) n ae ce a cap w,TqIn w (s.args[k]'hk) ae ce a cap→0≤n→n≤1000→Calls Tryz.prog 40 #[tqVal (s.args[k]'hk) ae ce a cap,.int .i64 n] w fun r w'=>CountTRet (s.args[k]'hk) n r∧Below w.heap.size w w'):=fun k hk=>ih _ (List.getElem_mem hk)
  have HAll:Hid (preT s.args s.args.length=s.nodes):=preT_all s
  have HSu:Hid (∀ k (h:k < s.args.length),preT s.args (k+1)=preT s.args k+(s.args[k]'h).nodes):=fun k h=>preT_succ s.args h
  have HSm:Hid (s.expr.nodes.length≤1000000000→(∀ j (hj:j < s.args.length),SmT (s.args[j]'hj))→SmT s):=fun h1 h2=>(SmT_iff s).2 ⟨h1,fun x hx=>by obtain⟨j,hj,rfl⟩:=List.getElem_of_mem hx;exact h2 j hj⟩
  have HPo:Hid (∀ c:Int,1≤c→c≤n+1→(c≤n→c=s.nodes∧SmT s)→∀ W,Below w.heap.size w W→(fun r w'=>CountTRet s n r∧Below w.heap.size w w') (.returned (.int .i64 c)) W):=fun c a1 a2 a3 W hW=>⟨⟨c,rfl,a1,a2,a3⟩,hW⟩
  generalize (fun r w'=>CountTRet s n r∧Below w.heap.size w w')=Po at HPo⊢
  rw[tqVal_eqF]
  clear ih hX
  have hpre0:preT s.args 0=1:=by unfold preT;simp
  go_enter Tryz.func40, Tryz.ntmps40
  go_upto_region 1 with fail
  generalize hW2:World.alloc w _=W2
  have HB2:Hid (Below w.heap.size w W2):=by show Below _ _ _;rw[← hW2];exact(Below.refl _ _).alloc (Nat.le_refl _) _
  have HX2:Hid (W2.heap[w.heap.size]? = some (tqBoxF s ae ce a cap)):=by show _=_;rw[← hW2];exact hx_newT rfl
  have hz2:w.heap.size+1≤W2.heap.size:=by rw[← hW2];simp
  clear hW2
  obtain⟨b0,b1,b2,b3,b4,b5,b6,b7,b8⟩:=cell9TF HX2.out
  have HF2:=Lib.hid (HFw.out W2 HB2.out)
  have HXw:Hid (∀ W,Below W2.heap.size W2 W→W.heap[w.heap.size]? = some (tqBoxF s ae ce a cap)):=fun W hW=>(hW.block _ (by omega)).trans HX2.out
  have hwn:IntKind.i64.wrap (n+1)=n+1:=by rw[IntKind.wrap_i64];omega
  go_wp2_with fail
  refine HF2.out.mono ?_
  rintro r w3 ⟨⟨b,rfl,hfew⟩,hb3⟩
  have HB3:Hid (Below w.heap.size w w3):=HB2.out.trans (hb3.mono HB2.out.size)
  have HBy3:Hid (Below W2.heap.size W2 w3):=hb3
  obtain⟨-,-,-,-,-,-,-,c7,c8⟩:=cell9TF (HXw.out w3 hb3)
  have HFew:=Lib.hid hfew
  clear hb3 hfew b0 b1 b2 b3 b4 b5 b6 b7 b8 HF2 HFw
  cases b with
  | false =>
   have HE:=Lib.hid (HPo.out (n+1) (by omega) (by omega) (fun h=>absurd h (by omega)) w3 HB3.out)
   go_wp2_with fail
   first | exact HE.out | (go_ret2;exact HE.out)
  | true =>
   by_cases hs40:s.name.size≤40
   ·have hsI:¬ ((40:Int) < (s.name.size:Int)):=by omega
    go_wp2_with fail
    clear c7 c8
    go_loopw [6,5] (fun i k wr=>∃ (j:Nat) (c:Int),i=.int .i64 j∧k=.int .i64 c∧j≤s.args.length∧1≤c∧c≤n+1∧Hid (c≤n→c=preT s.args j∧∀ q (hq:q < s.args.length),q < j→SmT (s.args[q]'hq))∧Hid (Below W2.heap.size W2 wr)) (fun i _ _=>s.args.length - (intOf i).toNat)
    case atStart=>exact⟨0,1,rfl,rfl,Nat.zero_le _,by omega,by omega,fun _=>⟨by rw[hpre0];rfl,fun q _ h=>absurd h (by omega)⟩,HBy3.out⟩
    case round =>
     (try rename World=>wr)
     obtain⟨j,c,rfl,rfl,hj,hc1,hc2,HP,HB⟩:=hrel
     have HBw:Hid (Below w.heap.size w wr):=HB2.out.trans (HB.out.mono HB2.out.size)
     have hzr:=HB.out.size
     obtain⟨-,-,-,-,-,-,-,-,b8⟩:=cell9TF (HXw.out wr HB.out)
     by_cases hlt:j < s.args.length
     ·by_cases hcn:c≤n
      ·have hd:decide (c≤n)=true:=decide_eq_true hcn
       obtain⟨b,off,ha⟩:=HAa.out.resolve_left (by omega)
       subst ha
       obtain⟨ae',ce',a',cap',hcell,hX⟩:=(HAr.out.keep (keeps_of_below HBw.out)).get rfl hlt
       have HC:=HI.out j hlt (n - c) ae' ce' a' cap' wr hX (by omega) (by omega)
       have HPs:=Lib.hid (HSu.out j hlt)
       have HP':=HP.out hcn
       have HNx:Hid (SmT (s.args[j]'hlt)→∀ q (hq:q < s.args.length),q < j+1→SmT (s.args[q]'hq)):=fun h q hq hqj=>by
        by_cases e:q=j
        ·subst e;exact h
        ·exact HP'.2 q hq (by omega)
       have HP1:=Lib.hid HP'.1
       generalize (s.args[j]'hlt)=t at hcell hX HC HPs HNx
       rw[tqVal_eqF] at HC
       have HC2:=Lib.hid HC
       obtain⟨g0,g1,g2,g3,g4,g5,g6,g7,g8⟩:=cell9F hcell
       have hwc:IntKind.i64.wrap (n - c)=n - c:=by rw[IntKind.wrap_i64];omega
       clear HC hcell hX HP'
       go_wp2_with fail
       refine HC2.out.mono ?_
       rintro r w5 ⟨⟨d,rfl,hd1,hd2,hd3⟩,hb5⟩
       have HD:=Lib.hid hd3
       have HB5:Hid (Below W2.heap.size W2 w5):=HB.out.trans (hb5.mono hzr)
       clear hb5 g0 g1 g2 g3 g4 g5 g6 g7 g8 b8 hd3 hd HC2
       go_wp2_with fail
       go_roundw
       case rel=>exact⟨j+1,c+d,by go_num,rfl,by omega,by omega,by omega,(fun h=>by obtain⟨e1,e2⟩:=HD.out (by omega);exact⟨by rw[HPs.out,e1,HP1.out];omega,HNx.out e2⟩),HB5.out⟩
       case measure=>(simp[intOf];try omega)
      ·have hd:decide (c≤n)=false:=decide_eq_false hcn
       have HE:=Lib.hid (HPo.out c hc1 hc2 (fun h=>absurd h hcn) wr HBw.out)
       go_wp2_with fail
       first | exact HE.out | (go_ret2;exact HE.out)
     ·obtain rfl:j=s.args.length:=by omega
      have HE:=Lib.hid (HPo.out c hc1 hc2 (fun h=>by obtain⟨e1,e2⟩:=HP.out h;exact⟨by rw[e1,HAll.out],HSm.out (by have:=HFew.out (by first | rfl | trivial);omega) fun q hq=>e2 q hq hq⟩) wr HBw.out)
      go_wp2_with fail
      first | exact HE.out | (go_ret2;exact HE.out)
   ·have HE:=Lib.hid (HPo.out (n+1) (by omega) (by omega) (fun h=>absurd h (by omega)) w3 HB3.out)
    have hsI:((40:Int) < (s.name.size:Int)):=by omega
    go_wp2_with fail
    first | exact HE.out | (go_ret2;exact HE.out)
def FewTP (s:Tq) (w:World) (r:Ending) (w':World):Prop:=(∃ b:Bool,r=.returned (.bool b)∧(b=true→s.nodes≤24∧SmT s))∧Below w.heap.size w w'
set_option maxRecDepth 100000 in
set_option maxHeartbeats 4000000 in
theorem fewT_any (s:Tq) (ae:Option Addr) (ce:Nat) (a:Option Addr) (cap:Nat) (w:World) (hX:TqIn w s ae ce a cap) :
  Calls Tryz.prog 11 #[tqVal s ae ce a cap] w (FewTP s w):=by
 have HC:Hid (∀ W,Below w.heap.size w W→Calls Tryz.prog 40 #[tqVal s ae ce a cap,.int .i64 24] W fun r w'=>CountTRet s 24 r∧Below W.heap.size W w'):=fun W hW=>countT_any s 24 ae ce a cap W (hX.keep (keeps_of_below hW)) (by omega) (by omega)
 have HPo:Hid (∀ c:Int,(c≤24→c=s.nodes∧SmT s)→∀ W,Below w.heap.size w W→FewTP s w (.returned (.bool (decide (c≤24)))) W):=fun c a1 W hW=>⟨⟨_,rfl,fun h=>by
  have h2:=of_decide_eq_true h
  obtain⟨e1,e2⟩:=a1 h2
  exact⟨by omega,e2⟩⟩,hW⟩
 generalize FewTP s w=Po at HPo⊢
 rw[tqVal_eqF] at HC⊢
 clear hX
 go_enter Tryz.func11, Tryz.ntmps11
 go_upto_region 1 with fail
 generalize hW2:World.alloc w _=W2
 have HB2:Hid (Below w.heap.size w W2):=by show Below _ _ _;rw[← hW2];exact(Below.refl _ _).alloc (Nat.le_refl _) _
 have HX2:W2.heap[w.heap.size]? = some (tqBoxF s ae ce a cap):=by rw[← hW2];exact hx_newT rfl
 clear hW2
 obtain⟨b0,b1,b2,b3,b4,b5,b6,b7,b8⟩:=cell9TF HX2
 have HC2:=Lib.hid (HC.out W2 HB2.out)
 go_wp2_with fail
 refine HC2.out.mono ?_
 rintro r w5 ⟨⟨d,rfl,hd1,hd2,hd3⟩,hb5⟩
 have HE:=Lib.hid (HPo.out d hd3 w5 (HB2.out.trans (hb5.mono HB2.out.size)))
 clear hb5 hd3 HC2 b0 b1 b2 b3 b4 b5 b6 b7 b8
 go_wp2_with fail
 first | exact HE.out | (go_ret2;exact HE.out)
end Go.Proofs.YthojpomoflhbcaaGreatDoor
namespace Go.Proofs.YthojpomoflhbcaaGreatDoor
open Go.RowKit
attribute [local go_sem ↓] Go.wp_at_zero Go.wp_at_succ
theorem compS_none {s:Tq} (h:(compS s).2≠0):(compS s).1=none:=by
 unfold compS at h⊢
 split
 ·rfl
 ·cases hc:compN s with
  | none=>rfl
  | some n=>rw[if_neg (by assumption),hc] at h;exact absurd rfl h
theorem compS_some {s:Tq} (h:(compS s).2=0):∃ n K,RegN K n∧(compS s).1=some (trimS n):=by
 unfold compS at h⊢
 by_cases hv:validT s≠0
 ·rw[if_pos hv] at h;cases h
 ·rw[if_neg hv] at h⊢
  cases hc:compN s with
  | none=>rw[hc] at h;cases h
  | some n =>
   have hv0:validT s=0:=by simpa using hv
   have hb:¬ (8 < s.depth∨100 < s.nodes):=fun h=>by unfold validT at hv0;rw[if_pos h] at hv0;cases hv0
   have hck:checkT s false=0:=by unfold validT at hv0;rwa [if_neg hb] at hv0
   exact⟨n,_,comp_reg s false hck n hc,rfl⟩
set_option maxRecDepth 100000 in
set_option maxHeartbeats 8000000 in
theorem usefulT_any (s:Tq) (ae:Option Addr) (ce:Nat) (a:Option Addr) (cap:Nat) (w:World) (hG:Glob w) (hX:TqIn w s ae ce a cap) :
  Calls Tryz.prog 7 #[tqVal s ae ce a cap] w (BoolN true w):=by
 have HF:Hid (∀ W,Below w.heap.size w W→Calls Tryz.prog 11 #[tqVal s ae ce a cap] W (FewTP s W)):=fun W hW=>fewT_any s ae ce a cap W (hX.keep (keeps_of_below hW))
 have HC:Hid (s.nodes≤24→SmT s→∀ W,Below w.heap.size w W→Calls Tryz.prog 13 #[tqVal s ae ce a cap] W (CompR noneT (compS s) W)):=fun h1 h2 W hW=>Compile_any s noneT ae ce a cap W ((hX.keep (keeps_of_below hW)).keep hide_noneT) (fun j hj=>by cases hj) (by omega) h2 (hG.below hW)
 have HAw:Hid (∀ W,Below w.heap.size w W→Calls Tryz.prog 12 #[] W fun e w'=>e=.returned (.bool true)∧Below W.heap.size W w'):=fun W hW=>awakeN_any W (hG.below hW)
 have HG:=Lib.hid hG
 have HPo:Hid (∀ W,Below w.heap.size w W→BoolN true w (.returned (.bool true)) W):=fun W hW=>⟨rfl,hW⟩
 generalize BoolN true w=Po at HPo⊢
 have HCN:=Lib.hid (compS_none (s:=s))
 have HCS:=Lib.hid (compS_some (s:=s))
 generalize compS s=R at HC HCN HCS
 rw[tqVal_eqF] at HF HC⊢
 clear hG hX
 go_enter Tryz.func7, Tryz.ntmps7
 go_upto_region 1 with fail
 generalize hW2:World.alloc w _=W2
 have HB2:Hid (Below w.heap.size w W2):=by show Below _ _ _;rw[← hW2];exact(Below.refl _ _).alloc (Nat.le_refl _) _
 have HX2:Hid (W2.heap[w.heap.size]? = some (tqBoxF s ae ce a cap)):=by show _=_;rw[← hW2];exact hx_newT rfl
 have hz2:w.heap.size+1≤W2.heap.size:=by rw[← hW2];simp
 clear hW2
 obtain⟨b0,b1,b2,b3,b4,b5,b6,b7,b8⟩:=cell9TF HX2.out
 go_wp2_with fail
 refine(HF.out W2 HB2.out).mono ?_
 rintro r w3 ⟨⟨b,rfl,hfew⟩,hb3⟩
 have HB3:Hid (Below w.heap.size w w3):=HB2.out.trans (hb3.mono HB2.out.size)
 have hx3:=(hb3.block _ (by omega)).trans HX2.out
 clear b0 b1 b2 b3 b4 b5 b6 b7 b8 hb3
 cases b with
 | false =>
  clear hfew
  go_wp2_with fail
  refine(HAw.out _ HB3.out).mono ?_
  rintro r w4 ⟨rfl,hb4⟩
  have HE:=Lib.hid (HPo.out _ (HB3.out.trans (hb4.mono HB3.out.size)))
  clear hb4
  go_wp2_with fail
  first | exact HE.out | (go_ret2;exact HE.out)
 | true =>
  obtain⟨hn,hsm⟩:=hfew rfl
  have HC3:=Lib.hid (HC.out hn hsm w3 HB3.out)
  clear hfew HC hsm
  obtain⟨b0,b1,b2,b3,b4,b5,b6,b7,b8⟩:=cell9TF hx3
  go_wp2_with fail
  refine HC3.out.mono ?_
  rintro r w4 ⟨hr,hb4⟩
  have HB4:Hid (Below w.heap.size w w4):=HB3.out.trans (hb4.mono HB3.out.size)
  clear b0 b1 b2 b3 b4 b5 b6 b7 b8 HC3 hb4
  by_cases h0:R.2=0
  ·obtain⟨n,K,hreg,hR⟩:=HCS.out h0
   rw[hR] at hr
   obtain⟨y,rfl,hy⟩:=hr
   rw[h0]
   have hz:=trim_nz hreg
   have hok:=trimS_ok hreg.ok
   have htt:=trimS_trimS hreg.ok
   generalize trimS n=m at hy hz hok htt
   obtain⟨hz1,hz2⟩:=hz
   have HM4:Hid (NfaIn w4 m y):=hy.keep hide_cell
   have HZ1:=Lib.hid hz1
   have HZ2:=Lib.hid hz2
   have HSm:Hid (SmallN m):=ok_smallN hok
   have HV:Hid (∀ W,Below w4.heap.size w4 W→Calls Tryz.prog 32 #[.agg #[.int .i64 m.states,.slice y.ae m.edges.length y.ce,.slice y.aa m.accept.length y.ca]] W fun e w'=>e=.returned (.bool true)∧Below W.heap.size W w'):=fun W hW=>by
    have h:=nvalid_any m y W (HG.out.below (HB4.out.trans (hW.mono HB4.out.size))) (HM4.out.keep (keeps_of_below hW)) HSm.out
    rw[hok] at h
    exact h
   have HT:Hid (∀ W,Below w4.heap.size w4 W→Calls Tryz.prog 33 #[.agg #[.int .i64 m.states,.slice y.ae m.edges.length y.ce,.slice y.aa m.accept.length y.ca]] W fun e w'=>(∃ z:NfaA,e=.returned (.agg #[.int .i64 m.states,.slice z.ae m.edges.length z.ce,.slice z.aa m.accept.length z.ca])∧NfaIn w' m z)∧Below W.heap.size W w'):=fun W hW=>by
    have h:=trim_any noneT m y W ((HM4.out.keep (keeps_of_below hW)).keep hide_noneT) (fun j hj=>by cases hj) (HG.out.below (HB4.out.trans (hW.mono HB4.out.size))) HSm.out
    rw[htt] at h
    exact h.mono fun e w' ⟨⟨z,h1,h2⟩,h3⟩=>⟨⟨z,h1,h2.keep hide_cell⟩,h3⟩
   have HS:Hid (∀ (z:NfaA) W,Below w4.heap.size w4 W→NfaIn W m z→Calls Tryz.prog 15 #[.agg #[.int .i64 m.states,.slice z.ae m.edges.length z.ce,.slice z.aa m.accept.length z.ca],.agg #[.int .i64 m.states,.slice y.ae m.edges.length y.ce,.slice y.aa m.accept.length y.ca]] W fun e w'=>e=.returned (.bool true)∧Below W.heap.size W w'):=fun z W hW hz=>by
    have h:=sameN_any m m z y W hz (HM4.out.keep (keeps_of_below hW))
    rw[pB_true rfl] at h
    exact h
   have HA5:Hid (∀ W,Below w4.heap.size w4 W→Calls Tryz.prog 12 #[] W fun e w'=>e=.returned (.bool true)∧Below w4.heap.size w4 w'):=fun W hW=>(HAw.out W (HB4.out.trans (hW.mono HB4.out.size))).mono fun e w' h=>⟨h.1,hW.trans (h.2.mono hW.size)⟩
   have HEa:Hid (m.edges.length=0∨∃ b off,y.ae=some ⟨b,off,none⟩):=HM4.out.es.addr
   have HCa:Hid (m.accept.length=0∨∃ b off,y.aa=some ⟨b,off,none⟩):=SliceIn.addr HM4.out.ac
   have hel:=HM4.out.es.len
   have hal:=HM4.out.ac.2.1
   have HPo4:Hid (∀ W,Below w4.heap.size w4 W→Po (.returned (.bool true)) W):=fun W hW=>HPo.out W (HB4.out.trans (hW.mono HB4.out.size))
   clear hz1 hz2 hok htt hy HCN HCS hR h0 hreg HAw HPo HF HX2 hx3 hn
   obtain⟨xae,xce,xaa,xca⟩:=y
   simp only at HV HT HS HEa HCa
   go_upto_region 6 with fail
   generalize hW5:World.alloc w4 _=W5
   have HB5:Hid (Below w4.heap.size w4 W5):=by show Below _ _ _;rw[← hW5];exact(Below.refl _ _).alloc (Nat.le_refl _) _
   have HX5:Hid (W5.heap[w4.heap.size]? = some (.cells #[.int .i64 m.states,.slice xae m.edges.length xce,.slice xaa m.accept.length xca] 33 (0,0))):=by show _=_;rw[← hW5];exact hx_newT rfl
   have hz5:w4.heap.size+1≤W5.heap.size:=by rw[← hW5];simp
   clear hW5
   obtain⟨x0,x1,x2⟩:=cell3T HX5.out
   have HM5:Hid (NfaIn W5 m ⟨xae,xce,xaa,xca⟩):=HM4.out.keep (keeps_of_below HB5.out)
   go_wp2_with fail
   go_loop [5] (fun i=>∃ k:Nat,i=.int .i64 k∧k≤m.edges.length) (fun i=>m.edges.length - (intOf i).toNat)
   case atStart=>exact⟨0,rfl,Nat.zero_le _⟩
   case round =>
    obtain⟨k,rfl,hk⟩:=hrel
    by_cases hlt:k < m.edges.length
    ·obtain⟨b,off,ha⟩:=HEa.out.resolve_left (by omega)
     subst ha
     obtain⟨ag,cg,aS,cs,g0,g1,g2,g3,-,-⟩:=edE_get HM5.out.es rfl hlt
     have hnz:=HZ1.out _ (List.getElem_mem hlt)
     generalize (m.edges[k]'hlt)=e at g1 hnz
     have hnb:(e.to == 0)=false:=by simp[hnz]
     go_wp2_with fail
     go_round
     case rel=>exact⟨k+1,by go_num,by omega⟩
     case measure=>(simp[intOf];try omega)
    ·obtain rfl:k=m.edges.length:=by omega
     go_wp2_with fail
     go_loop [6] (fun i=>∃ k:Nat,i=.int .i64 k∧k≤m.accept.length) (fun i=>m.accept.length - (intOf i).toNat)
     case atStart=>exact⟨0,rfl,Nat.zero_le _⟩
     case round =>
      obtain⟨k,rfl,hk2⟩:=hrel
      by_cases hlt2:k < m.accept.length
      ·obtain⟨b,off,ha⟩:=HCa.out.resolve_left (by omega)
       subst ha
       have g0:=HM5.out.ac.get rfl hlt2
       have hnz:=HZ2.out _ (List.getElem_mem hlt2)
       rw[List.getD_eq_getElem?_getD,List.getElem?_eq_getElem hlt2,Option.getD_some] at g0
       generalize (m.accept[k]'hlt2)=e at g0 hnz
       have hnb:(e == 0)=false:=by simp[hnz]
       go_wp2_with fail
       go_round
       case rel=>exact⟨k+1,by go_num,by omega⟩
       case measure=>(simp[intOf];try omega)
      ·obtain rfl:k=m.accept.length:=by omega
       go_wp2_with fail
       have hB45:∀ W,Below W5.heap.size W5 W→Below w4.heap.size w4 W:=fun W hW=>HB5.out.trans (hW.mono HB5.out.size)
       have HV5:Hid (∀ W,Below W5.heap.size W5 W→Calls Tryz.prog 32 #[.agg #[.int .i64 m.states,.slice xae m.edges.length xce,.slice xaa m.accept.length xca]] W fun e w'=>e=.returned (.bool true)∧Below W5.heap.size W5 w'):=fun W hW=>(HV.out W (hB45 W hW)).mono fun e w' h=>⟨h.1,hW.trans (h.2.mono hW.size)⟩
       have HT5:Hid (∀ W,Below W5.heap.size W5 W→Calls Tryz.prog 33 #[.agg #[.int .i64 m.states,.slice xae m.edges.length xce,.slice xaa m.accept.length xca]] W fun e w'=>(∃ z:NfaA,e=.returned (.agg #[.int .i64 m.states,.slice z.ae m.edges.length z.ce,.slice z.aa m.accept.length z.ca])∧NfaIn w' m z)∧Below W5.heap.size W5 w'):=fun W hW=>(HT.out W (hB45 W hW)).mono fun e w' h=>⟨h.1,hW.trans (h.2.mono hW.size)⟩
       have HS5:Hid (∀ (z:NfaA) W,Below W5.heap.size W5 W→NfaIn W m z→Calls Tryz.prog 15 #[.agg #[.int .i64 m.states,.slice z.ae m.edges.length z.ce,.slice z.aa m.accept.length z.ca],.agg #[.int .i64 m.states,.slice xae m.edges.length xce,.slice xaa m.accept.length xca]] W fun e w'=>e=.returned (.bool true)∧Below W5.heap.size W5 w'):=fun z W hW hz=>(HS.out z W (hB45 W hW) hz).mono fun e w' h=>⟨h.1,hW.trans (h.2.mono hW.size)⟩
       have HA6:Hid (∀ W,Below W5.heap.size W5 W→Calls Tryz.prog 12 #[] W fun e w'=>e=.returned (.bool true)∧Below w4.heap.size w4 w'):=fun W hW=>HA5.out W (hB45 W hW)
       have HALL:Hid (∀ W,Below W5.heap.size W5 W→W.cell? ⟨w4.heap.size,0,none⟩=some (.int .i64 m.states)∧W.cell? ⟨w4.heap.size,1,none⟩=some (.slice xae m.edges.length xce)∧W.cell? ⟨w4.heap.size,2,none⟩=some (.slice xaa m.accept.length xca)):=fun W hW=>⟨keeps_of_below hW _ _ x0,keeps_of_below hW _ _ x1,keeps_of_below hW _ _ x2⟩
       clear hB45
       go_region_law (first
        | (go_simp;go_at_call 32;(with_reducible refine(HV5.out _ (by first | with_reducible assumption | exact belR)).mono ?_);rintro e v1 ⟨rfl,hB1⟩;obtain⟨i0,i1,i2⟩:=HALL.out _ hB1)
        | (go_simp;go_at_call 33;(with_reducible refine(HT5.out _ (by first | with_reducible assumption | exact belR)).mono ?_);rintro e v2 ⟨⟨z,rfl,hz2⟩,hB2⟩;have HZn:=Lib.hid hz2;obtain⟨j0,j1,j2⟩:=HALL.out _ hB2;clear hz2)
        | (go_simp;go_at_call 15;(with_reducible refine(HS5.out _ _ (by first | with_reducible assumption | exact belR) HZn.out).mono ?_);rintro e v3 ⟨rfl,hB3⟩)
        | (go_simp;go_at_call 12;(with_reducible refine(HA6.out _ (by first | with_reducible assumption | exact belR)).mono ?_);rintro e v4 ⟨rfl,hB4⟩;have HFin:=Lib.hid (HPo4.out _ hB4)))
       all_goals
        go_wp2_with fail
        first | exact HFin.out | (go_ret;exact HFin.out) | trace_state
  ·have hR:=HCN.out h0
   rw[hR] at hr
   obtain rfl:=hr
   have h0b:(R.2 != 0)=true:=by simp[h0]
   have HA5:Hid (∀ W,Below w4.heap.size w4 W→Calls Tryz.prog 12 #[] W fun e w'=>e=.returned (.bool true)∧Below w.heap.size w w'):=fun W hW=>(HAw.out W (HB4.out.trans (hW.mono HB4.out.size))).mono fun e w' h=>⟨h.1,(HB4.out.trans (hW.mono HB4.out.size)).trans (h.2.mono (HB4.out.trans (hW.mono HB4.out.size)).size)⟩
   clear h0 hR
   go_wp2_with fail
   refine(HA5.out _ ((Below.refl _ _).alloc (Nat.le_refl _) _)).mono ?_
   rintro r w5 ⟨rfl,hb5⟩
   have HE:=Lib.hid (HPo.out _ hb5)
   clear hb5
   go_wp2_with fail
   first | exact HE.out | (go_ret2;exact HE.out)
end Go.Proofs.YthojpomoflhbcaaGreatDoor
