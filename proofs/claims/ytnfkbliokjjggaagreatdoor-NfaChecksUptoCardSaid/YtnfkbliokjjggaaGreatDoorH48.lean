/- ref41: Same. -/
import Derived.Test.YtnfkbliokjjggaaGreatDoorH47
import Derived.Test.YtnfkbliokjjggaaGreatDoorH30
set_option maxHeartbeats 16000000
set_option maxRecDepth 100000
set_option linter.unusedSimpArgs false
set_option linter.unusedVariables false
set_option linter.unnecessarySimpa false
namespace Go.Proofs.YtnfkbliokjjggaaGreatDoor
open Go.RowKit
attribute [local go_sem ↓] Go.wp_at_zero Go.wp_at_succ
theorem zhB {a b:zt}:a=b<->a.states=b.states/\a.edges=b.edges/\a.accept=b.accept:=by
 obtain⟨a1,a2,a3⟩:=a;obtain⟨b1,b2,b3⟩:=b;constructor
 ·intro h;injection h with h1 h2 h3;exact⟨h1,h2,h3⟩
 ·rintro ⟨h1,h2,h3⟩;simp only at h1 h2 h3;rw[h1,h2,h3]
theorem zfy (m n:zt) (x y:qn) (w:World) (h1:yb w m x) (h3:yb w n y) :
 Calls Tryz.prog 12 #[ye m x,ye n y] w (zan (pB (m=n)) w):=by
 have HYes:Hid (m.states=n.states->m.edges=n.edges->m.accept=n.accept->∀W,Below w.heap.size w W->zan (pB (m=n)) w (.returned (.bool true)) W):=λa1 a2 a3 W hW=>⟨by rw[Zj (zhB.2 ⟨a1,a2,a3⟩)],hW⟩;have HNo:Hid (¬(m.states=n.states/\m.edges=n.edges/\m.accept=n.accept)->∀W,Below w.heap.size w W->zan (pB (m=n)) w (.returned (.bool false)) W):=λh W hW=>⟨by rw[qh (λq=>h (zhB.1 q))],hW⟩;generalize zan (pB (m=n)) w=Po at HYes HNo⊢;have H1:=Lib.hid h1.es;have H2:=Lib.hid (qR.2 h1.ac);have H3:=Lib.hid h3.es;have H4:=Lib.hid (qR.2 h3.ac);have H1a:Hid (m.edges.length=0\/∃b off,x.ae=some ⟨b,off,none⟩):=h1.es.addr;have H2a:Hid (m.accept.length=0\/∃b off,x.aa=some ⟨b,off,none⟩):=zw.addr h1.ac;have H3a:Hid (n.edges.length=0\/∃b off,y.ae=some ⟨b,off,none⟩):=h3.es.addr;have H4a:Hid (n.accept.length=0\/∃b off,y.aa=some ⟨b,off,none⟩):=zw.addr h3.ac;have l1:=h1.es.len;have l2:=(qR.2 h1.ac).len;have l3:=h3.es.len;have l4:=(qR.2 h3.ac).len;rw[zz,zz];clear h1 h3;obtain⟨ef,eg,es⟩:=m;obtain⟨ff,fg,fs⟩:=n;obtain⟨ag,cg,aS,cs⟩:=x;obtain⟨bg,dg,bS,ds⟩:=y;simp only at HYes HNo H1 H2 H3 H4 H1a H2a H3a H4a l1 l2 l3 l4⊢;by_cases q1:ef=ff
 ·by_cases q3:eg.length=fg.length
  ·by_cases q4:es.length=fs.length
   ·subst q1;have d1:(ef != ef)=false:=by simp
    have d3:((eg.length:Int) != (fg.length:Int))=false:=by simp;omega
    have d4:((es.length:Int) != (fs.length:Int))=false:=by simp;omega
    have Q3:=Lib.hid q3;have Q4:=Lib.hid q4;clear q3 q4;go_enter Tryz.func12, Tryz.ntmps12;go_upto_region 3 with fail;generalize hW2:World.alloc (World.alloc w _) _=W2;have HB2:Hid (Below w.heap.size w W2):=by show Below _ _ _;rw[←hW2];exact((Below.refl _ _).alloc (Nat.le_refl _) _).alloc (by simp) _
    have HX2:Hid (W2.heap[w.heap.size]? = some (.cells #[.int .i64 ef,.slice ag eg.length cg,.slice aS es.length cs] 33 (0,0))):=by show _=_;rw[←hW2];exact zl (zh rfl)
    have HY2:Hid (W2.heap[w.heap.size+1]? = some (.cells #[.int .i64 ef,.slice bg fg.length dg,.slice bS fs.length ds] 33 (0,0))):=by show _=_;rw[←hW2];exact zh (by simp)
    have hz2:w.heap.size+2<=W2.heap.size:=by rw[←hW2];simp
    have HALL:Hid (∀W,Below W2.heap.size W2 W->W.cell? ⟨w.heap.size,1,none⟩=some (.slice ag eg.length cg)/\W.cell? ⟨w.heap.size+1,1,none⟩=some (.slice bg fg.length dg)/\W.cell? ⟨w.heap.size,2,none⟩=some (.slice aS es.length cs)/\W.cell? ⟨w.heap.size+1,2,none⟩=some (.slice bS fs.length ds)):=λW hW=>by obtain⟨-,a2,a3⟩:=zo ((hW.block _ (by omega)).trans HX2.out);obtain⟨-,c2,c3⟩:=zo ((hW.block _ (by omega)).trans HY2.out);exact⟨a2,c2,a3,c3⟩
    clear hW2 d1 d3 d4;go_wp2_with fail;go_loopw [5] (λi wr=>∃k:Nat,i=.int .i64 k/\k<=eg.length/\Hid (∀j (hj:j<eg.length) (hj2:j<fg.length),j<k->eg[j]'hj=fg[j]'hj2)/\Hid (Below W2.heap.size W2 wr)) (λi _=>eg.length-(intOf i).toNat);case atStart=>exact⟨0,rfl,Nat.zero_le _,λ_ _ _ h=>absurd h (Nat.not_lt_zero _),Below.refl _ _⟩
    case round =>
     (try rename World=>wr)
     obtain⟨k,rfl,hk,HAl,HB⟩:=hrel;have HBw:Hid (Below w.heap.size w wr):=HB2.out.trans (HB.out.mono HB2.out.size);have hzr:=HB.out.size;obtain⟨x2,y2,x3,y3⟩:=HALL.out wr HB.out;by_cases hlt:k<eg.length
     ·have hltb:k<fg.length:=by have:=Q3.out;omega
      have hltI:(k:Int)<(eg.length:Int):=by omega
      have hltJ:(k:Int)<(fg.length:Int):=by omega
      obtain⟨p1,o1,ha1⟩:=H1a.out.resolve_left (by omega);obtain⟨p2,o2,ha2⟩:=H3a.out.resolve_left (by omega);subst ha1 ha2;obtain⟨a1,c1,a2,c2,g0,g1,g2,g3,hX,hX2⟩:=yz (H1.out.keep (za HBw.out)) rfl hlt;obtain⟨b1,e1,b2,e2,m0,m1,m2,m3,hY,hY2⟩:=yz (H3.out.keep (za HBw.out)) rfl hltb;have HNx:=Lib.hid (λhe=>Zu hlt hltb HAl.out he);have HNn:Hid (¬(eg[k]'hlt=fg[k]'hltb)->∀W,Below w.heap.size w W->Po (.returned (.bool false)) W):=λh=>HNo.out λq=>Y8 hlt hltb h q.2.1;generalize (eg[k]'hlt)=u at HNx HNn g0 g1 g2 g3 hX hX2;generalize (fg[k]'hltb)=v at HNx HNn m0 m1 m2 m3 hY hY2;have HS:Hid (∀W,Below wr.heap.size wr W->Calls Tryz.prog 39 #[.agg #[.int .i64 u.fr,.int .i64 u.to,.slice a1 u.guards.length c1,.slice a2 u.sets.length c2],.agg #[.int .i64 v.fr,.int .i64 v.to,.slice b1 v.guards.length e1,.slice b2 v.sets.length e2]] W λe w'=>e=.returned (.bool (pB (u=v)))/\Below wr.heap.size wr w'):=λW hW=>(zbb u v a1 c1 a2 c2 b1 e1 b2 e2 W (hX.keep (za hW)) (hX2.keep (za hW)) (hY.keep (za hW)) (hY2.keep (za hW))).mono λe w' h=>⟨h.1,hW.trans (h.2.mono hW.size)⟩;have HC:Hid (∀W,Below wr.heap.size wr W->(W.cell? ⟨w.heap.size,1,none⟩=some (.slice (some ⟨p1,o1,none⟩) eg.length cg)/\W.cell? ⟨w.heap.size+1,1,none⟩=some (.slice (some ⟨p2,o2,none⟩) fg.length dg))/\(W.cell? ⟨p1,o1+k*4,none⟩=some (.int .i64 u.fr)/\W.cell? ⟨p1,o1+k*4+1,none⟩=some (.int .i64 u.to)/\W.cell? ⟨p1,o1+k*4+2,none⟩=some (.slice a1 u.guards.length c1)/\W.cell? ⟨p1,o1+k*4+3,none⟩=some (.slice a2 u.sets.length c2))/\(W.cell? ⟨p2,o2+k*4,none⟩=some (.int .i64 v.fr)/\W.cell? ⟨p2,o2+k*4+1,none⟩=some (.int .i64 v.to)/\W.cell? ⟨p2,o2+k*4+2,none⟩=some (.slice b1 v.guards.length e1)/\W.cell? ⟨p2,o2+k*4+3,none⟩=some (.slice b2 v.sets.length e2))):=λW hW=>⟨⟨za hW _ _ x2,za hW _ _ y2⟩,⟨za hW _ _ g0,za hW _ _ g1,za hW _ _ g2,za hW _ _ g3⟩,za hW _ _ m0,za hW _ _ m1,za hW _ _ m2,za hW _ _ m3⟩
      clear hX hY hX2 hY2 HAl;by_cases huv:u=v
      ·have HE:=Lib.hid (HNx.out huv);rw[Zj huv]at HS;clear HNx HNn huv;go_wp2_with fail
       go_region_held3 (λW=>Below wr.heap.size wr W/\((W.cell? ⟨w.heap.size,1,none⟩=some (.slice (some ⟨p1,o1,none⟩) eg.length cg)/\W.cell? ⟨w.heap.size+1,1,none⟩=some (.slice (some ⟨p2,o2,none⟩) fg.length dg))/\(W.cell? ⟨p1,o1+k*4,none⟩=some (.int .i64 u.fr)/\W.cell? ⟨p1,o1+k*4+1,none⟩=some (.int .i64 u.to)/\W.cell? ⟨p1,o1+k*4+2,none⟩=some (.slice a1 u.guards.length c1)/\W.cell? ⟨p1,o1+k*4+3,none⟩=some (.slice a2 u.sets.length c2))/\(W.cell? ⟨p2,o2+k*4,none⟩=some (.int .i64 v.fr)/\W.cell? ⟨p2,o2+k*4+1,none⟩=some (.int .i64 v.to)/\W.cell? ⟨p2,o2+k*4+2,none⟩=some (.slice b1 v.guards.length e1)/\W.cell? ⟨p2,o2+k*4+3,none⟩=some (.slice b2 v.sets.length e2))))
        ((refine(λh=>⟨h,HC.out _ h⟩) ?_;first|with_reducible assumption|exact zW))
        (first|(go_at_call 39;(with_reducible refine(HS.out _ (by first|with_reducible assumption|exact zW)).mono ?_);rintro e w5 ⟨rfl,hb5⟩))
       all_goals
        have HB9:Hid (Below W2.heap.size W2 w5):=HB.out.trans (Below.mono hb5 hzr);clear hb5;go_wp2_with fail;go_roundw;case rel=>exact⟨k+1,by go_num,by omega,HE.out,HB9.out⟩
        case measure=>(simp[intOf];try omega)
      ·have HE:=Lib.hid (HNn.out huv);rw[qh huv]at HS;clear HNx HNn huv;go_wp2_with fail
       go_region_held3 (λW=>Below wr.heap.size wr W/\((W.cell? ⟨w.heap.size,1,none⟩=some (.slice (some ⟨p1,o1,none⟩) eg.length cg)/\W.cell? ⟨w.heap.size+1,1,none⟩=some (.slice (some ⟨p2,o2,none⟩) fg.length dg))/\(W.cell? ⟨p1,o1+k*4,none⟩=some (.int .i64 u.fr)/\W.cell? ⟨p1,o1+k*4+1,none⟩=some (.int .i64 u.to)/\W.cell? ⟨p1,o1+k*4+2,none⟩=some (.slice a1 u.guards.length c1)/\W.cell? ⟨p1,o1+k*4+3,none⟩=some (.slice a2 u.sets.length c2))/\(W.cell? ⟨p2,o2+k*4,none⟩=some (.int .i64 v.fr)/\W.cell? ⟨p2,o2+k*4+1,none⟩=some (.int .i64 v.to)/\W.cell? ⟨p2,o2+k*4+2,none⟩=some (.slice b1 v.guards.length e1)/\W.cell? ⟨p2,o2+k*4+3,none⟩=some (.slice b2 v.sets.length e2))))
        ((refine(λh=>⟨h,HC.out _ h⟩) ?_;first|with_reducible assumption|exact zW))
        (first|(go_at_call 39;(with_reducible refine(HS.out _ (by first|with_reducible assumption|exact zW)).mono ?_);rintro e w5 ⟨rfl,hb5⟩))
       all_goals
        have HE9:=Lib.hid (HE.out w5 (HBw.out.trans (Below.mono hb5 HBw.out.size)));clear hb5;go_wp2_with fail;first|exact HE9.out|(go_ret2;exact HE9.out)
     ·obtain rfl:k=eg.length:=by omega
      have HEg:Hid (eg=fg):=List.ext_getElem Q3.out λj hj hj2=>HAl.out j hj hj2 hj;go_wp2_with fail;go_loopw [6] (λi wv=>∃k:Nat,i=.int .i64 k/\k<=es.length/\Hid (∀j (hj:j<es.length) (hj2:j<fs.length),j<k->es[j]'hj=fs[j]'hj2)/\Hid (Below W2.heap.size W2 wv)) (λi _=>es.length-(intOf i).toNat);case atStart=>exact⟨0,rfl,Nat.zero_le _,λ_ _ _ h=>absurd h (Nat.not_lt_zero _),HB.out⟩
      case round =>
       (try rename World=>wv)
       obtain⟨k,rfl,hk,HAs,HB⟩:=hrel;have HBw:Hid (Below w.heap.size w wv):=HB2.out.trans (HB.out.mono HB2.out.size);have hzr:=HB.out.size;obtain⟨x2,y2,x3,y3⟩:=HALL.out wv HB.out;by_cases hlt:k<es.length
       ·have hltb:k<fs.length:=by have:=Q4.out;omega
        have hltI:(k:Int)<(es.length:Int):=by omega
        have hltJ:(k:Int)<(fs.length:Int):=by omega
        obtain⟨p1,o1,ha1⟩:=H2a.out.resolve_left (by omega);obtain⟨p2,o2,ha2⟩:=H4a.out.resolve_left (by omega);subst ha1 ha2;have g0:=Qq.1 ((H2.out.keep (za HBw.out)).get rfl hlt);have m0:=Qq.1 ((H4.out.keep (za HBw.out)).get rfl hltb);rw[show inE.sz=1 from rfl,Nat.mul_one]at g0 m0;have HNx:=Lib.hid (λhe=>Zu hlt hltb HAs.out he);have HNn:Hid (¬(es[k]'hlt=fs[k]'hltb)->∀W,Below w.heap.size w W->Po (.returned (.bool false)) W):=λh=>HNo.out λq=>Y8 hlt hltb h q.2.2;generalize (es[k]'hlt)=u at HNx HNn g0;generalize (fs[k]'hltb)=v at HNx HNn m0;clear HAs;by_cases huv:u=v
        ·have HE:=Lib.hid (HNx.out huv);subst huv;have qs:(u != u)=false:=by simp
         clear HNx HNn;go_wp2_with fail;go_quiet (fail);go_wp2_with fail;go_roundw;case rel=>exact⟨k+1,by go_num,by omega,HE.out,below_drewN HB.out _⟩
         case measure=>(simp[intOf];try omega)
        ·have HE:=Lib.hid (HNn.out huv);have qs:(u != v)=true:=by simp[huv]
         clear HNx HNn huv;go_wp2_with fail;go_quiet (fail);go_wp2_with fail;first|exact HE.out _ (below_drewN HBw.out _)|(go_ret2;exact HE.out _ (below_drewN HBw.out _))
       ·obtain rfl:k=es.length:=by omega
        have HEs:es=fs:=List.ext_getElem Q4.out λj hj hj2=>HAs.out j hj hj2 hj;have HE:=Lib.hid (HYes.out (by first|rfl|trivial) HEg.out HEs wv HBw.out);clear HEs;go_wp2_with fail;first|exact HE.out|(go_ret2;exact HE.out)
   ·have d1:(ef != ff)=false:=by simp[q1]
    have d3:((eg.length:Int) != (fg.length:Int))=false:=by simp;omega
    have d4:((es.length:Int) != (fs.length:Int))=true:=by simp;omega
    have HE1:Hid (∀W,Below w.heap.size w W->Po (.returned (.bool false)) W):=HNo.out (by rintro ⟨-,-,h⟩;exact q4 (by rw[h]));clear HYes HNo;go_enter Tryz.func12, Tryz.ntmps12;go_wp2_with fail;first|exact HE1.out _ (((Below.refl _ w).alloc (Nat.le_refl _) _).alloc (by simp) _)|(go_ret2;exact HE1.out _ (((Below.refl _ w).alloc (Nat.le_refl _) _).alloc (by simp) _))
  ·have d1:(ef != ff)=false:=by simp[q1]
   have d3:((eg.length:Int) != (fg.length:Int))=true:=by simp;omega
   have HE1:Hid (∀W,Below w.heap.size w W->Po (.returned (.bool false)) W):=HNo.out (by rintro ⟨-,h,-⟩;exact q3 (by rw[h]));clear HYes HNo;go_enter Tryz.func12, Tryz.ntmps12;go_wp2_with fail;first|exact HE1.out _ (((Below.refl _ w).alloc (Nat.le_refl _) _).alloc (by simp) _)|(go_ret2;exact HE1.out _ (((Below.refl _ w).alloc (Nat.le_refl _) _).alloc (by simp) _))
 ·have d1:(ef != ff)=true:=by simp[q1]
  have HE1:Hid (∀W,Below w.heap.size w W->Po (.returned (.bool false)) W):=HNo.out (by rintro ⟨h,-,-⟩;exact q1 h);clear HYes HNo;go_enter Tryz.func12, Tryz.ntmps12;go_wp2_with fail;first|exact HE1.out _ (((Below.refl _ w).alloc (Nat.le_refl _) _).alloc (by simp) _)|(go_ret2;exact HE1.out _ (((Below.refl _ w).alloc (Nat.le_refl _) _).alloc (by simp) _))
theorem zjO {w W:World} (o:Obj) (hW:Below (w.heap.size+1) (w.alloc o) W):Below w.heap.size w W:=((Below.refl _ _).alloc (Nat.le_refl _) _).trans (hW.mono (by simp))
theorem zeq {w wr:World} {c:Array Value} {t:TypeId} (h:Below (w.heap.size+1) (w.alloc (.cells c t)) wr) (j:Nat):wr.cell? ⟨w.heap.size,j,none⟩=c[j]? :=
 (h.cell (p:=⟨w.heap.size,j,none⟩) (by simp)).trans (by simp)
noncomputable def zit (l:List Ex) (k:Nat):Nat:=1+(((l.take k).map Ex.nodes).flatten).length
theorem zfu (l:List Ex) {k:Nat} (h:k<l.length):zit l (k+1)=zit l k+(l[k]'h).nodes.length:=by unfold zit;rw[List.take_succ_eq_append_getElem h];simp only[List.map_append,List.map_cons,List.map_nil,List.flatten_append,List.length_append,List.flatten_cons,List.flatten_nil,List.append_nil];omega
theorem zgL (e:Ex):zit e.args e.args.length=e.nodes.length:=by unfold zit;rw[Ex.nodes_eq e,List.take_of_length_le (Nat.le_refl _)];simp only[List.length_cons];omega
def Y0 (e:Ex) (n:Int) (r:Ending):Prop:=∃c:Int,r=.returned (.int .i64 c)/\1<=c/\c<=n+1/\(c<=n->c=e.nodes.length)
theorem zeD (e:Ex):∀(n:Int) (a:Option Addr) (cap:Nat) (w:World),yA w e a cap->0<=n->n<=1000 ->
 Calls Tryz.prog 100 #[.agg #[.int .i64 e.op,.int .i64 e.n,.string e.name,.slice a e.args.length cap],.int .i64 n] w λr w'=>Y0 e n r/\Below w.heap.size w w':=by
 induction e using Ex.ind with
 |_ e ih =>
  intro n a cap w hE h0 h1;have HE:=Lib.hid hE.2;have HA:=Lib.hid hE.2.addr;have hlen:=hE.2.2.1;have HI:=Lib.hid ih;have HAll:=Lib.hid (zgL e);have HSu:=Lib.hid (λk (h:k<e.args.length)=>zfu e.args h);have HMem:Hid (∀k (h:k<e.args.length),(e.args[k]'h)∈e.args):=λk h=>List.getElem_mem h;clear ih hE;unfold Y0;generalize e.nodes.length=N at HAll⊢;obtain⟨op,nn,s,args⟩:=e;simp only[Ex.op_mk,Ex.n_mk,Ex.name_mk,Ex.args_mk]at HE HA hlen HI HAll HSu HMem⊢;go_enter Tryz.func100, Tryz.ntmps100;go_wp2_with fail;go_loopw [6,5] (λi k wr=>∃(j:Nat) (c:Int),i=.int .i64 j/\k=.int .i64 c/\j<=args.length/\1<=c/\c<=n+1/\Hid (c<=n->c=zit args j)/\Hid (Below (w.heap.size+1) (w.alloc (.cells #[.int .i64 op,.int .i64 nn,.string s,.slice a args.length cap] 24)) wr)) (λi _ _=>args.length-(intOf i).toNat);case atStart=>exact⟨0,1,rfl,rfl,Nat.zero_le _,by omega,by omega,λ_=>by simp[zit],Below.refl _ _⟩
  case round =>
   obtain⟨j,c,rfl,rfl,hj,hc1,hc2,HP,HB⟩:=hrel;have HBw:=Lib.hid (zjO _ HB.out);have hzr:=HB.out.size;simp only[World.size_alloc]at hzr;have hzl:w.heap.size<wr.heap.size:=by omega
   have b0:=zeq HB.out 3
   (try simp at b0)
   by_cases hlt:j<args.length
   ·by_cases hcn:c<=n
    ·have hd:decide (c<=n)=true:=decide_eq_true hcn;obtain⟨b,off,ha⟩:=HA.out.resolve_left (by omega);subst ha;obtain⟨a',cap',g0,g1,g2,g3,hX⟩:=HE.out.get rfl hlt;have kk:=za HBw.out;have HC:=Lib.hid (HI.out _ (HMem.out j hlt) (n-c) a' cap' wr (hX.keep kk) (by omega) (by omega));have HPs:=Lib.hid (HSu.out j hlt);have HP':=Lib.hid (HP.out hcn);generalize (args[j]'hlt)=e at g0 g1 g2 g3 hX HC HPs;obtain⟨op',n',s',args'⟩:=e;unfold Y0 at HC;generalize (Ex.mk op' n' s' args').nodes.length=M at HC HPs;simp only[Ex.op_mk,Ex.n_mk,Ex.name_mk,Ex.args_mk]at g0 g1 g2 g3 HC;have c0:=kk _ _ g0;have c1:=kk _ _ g1;have c2:=kk _ _ g2;have c3:=kk _ _ g3;clear g0 g1 g2 g3 hX kk;go_wp2_with fail;refine HC.out.mono ?_;rintro r w2 ⟨⟨d,rfl,hd1,hd2,hd3⟩,hb2⟩;have HD:=Lib.hid hd3;have HB2:Hid (Below (w.heap.size+1) (w.alloc (.cells #[.int .i64 op,.int .i64 nn,.string s,.slice (some ⟨b,off,none⟩) args.length cap] 24)) w2):=HB.out.trans (hb2.mono (by simpa using hzr));clear hb2 c0 c1 c2 c3 b0 hd3 hd;go_wp2_with fail;go_roundw;case rel=>exact⟨j+1,c+d,by go_num,rfl,by omega,by omega,by omega,(λh=>by rw[HD.out (by omega),HP'.out,HPs.out];omega),HB2.out⟩
     case measure=>simp[intOf];omega
    ·have hd:decide (c<=n)=false:=decide_eq_false hcn;go_wp2_with fail;go_ret;exact⟨⟨c,rfl,hc1,hc2,λh=>absurd h (by omega)⟩,HBw.out⟩
   ·obtain rfl:j=args.length:=by omega
    go_wp2_with fail;go_ret;exact⟨⟨c,rfl,hc1,hc2,λh=>by rw[HP.out h,HAll.out]⟩,HBw.out⟩
theorem zea (e:Ex) (n:Int) (a:Option Addr) (cap:Nat) (w:World) (hE:yA w e a cap) (h0:0<=n) (h1:n<=1000) :
 Calls Tryz.prog 40 #[.agg #[.int .i64 e.op,.int .i64 e.n,.string e.name,.slice a e.args.length cap],.int .i64 n] w λr w'=>(∃b:Bool,r=.returned (.bool b)/\(b=true->(e.nodes.length:Int)<=n))/\Below w.heap.size w w':=by
 have hB:Below w.heap.size w (w.alloc (.cells #[.int .i64 e.op,.int .i64 e.n,.string e.name,.slice a e.args.length cap] 24)):=(Below.refl _ _).alloc (Nat.le_refl _) _;have HC:=Lib.hid (zeD e n a cap _ (hE.keep (za hB)) h0 h1);have HB:=Lib.hid hB;clear hE hB;unfold Y0 at HC;generalize e.nodes.length=N at HC⊢;obtain⟨op,nn,s,args⟩:=e;simp only[Ex.op_mk,Ex.n_mk,Ex.name_mk,Ex.args_mk]at HC HB⊢;go_enter Tryz.func40, Tryz.ntmps40;go_wp2_with fail;refine HC.out.mono ?_;rintro r w2 ⟨⟨d,rfl,hd1,hd2,hd3⟩,hb2⟩;have HD:=Lib.hid hd3;have HB2:Hid (Below w.heap.size w w2):=HB.out.trans (hb2.mono (by simp));clear hb2 hd3;go_wp2_with fail;go_ret;exact⟨⟨_,rfl,λh=>by have h':=of_decide_eq_true h;rw[←HD.out h'];exact h'⟩,HB2.out⟩
def zd9 (P:Prop) (w:World) (e:Ending) (w':World):Prop:=(∃b:Bool,e=.returned (.bool b)/\(b=true->P))/\Below w.heap.size w w'
structure ziS (e:zk):Prop where
 gl:e.guards.length<=10
 sl:e.sets.length<=10
 gs:∀g∈e.guards,g.nodes.length<=60
 ss:∀b∈e.sets,b.expr.nodes.length<=60
def qT (n:zt):Prop:=n.states<=60/\n.edges.length<=120/\n.accept.length<=60/\∀e∈n.edges,ziS e
theorem qT.small {n:zt} (h:qT n):qq n:=λe he=>⟨λg hg=>by have:=(h.2.2.2 e he).gs g hg;omega,λb hb=>by have:=(h.2.2.2 e he).ss b hb;omega⟩
theorem qT.step {n:zt} (h:qT n):∀e∈n.edges,zce e:=λe he=>⟨λg hg=>by have:=(h.2.2.2 e he).gs g hg;omega,λb hb=>by have:=(h.2.2.2 e he).ss b hb;omega,by have:=(h.2.2.2 e he).sl;omega⟩
theorem zdT (n:zt) (x:qn) (w:World) (h:yb w n x):Calls Tryz.prog 13 #[ye n x] w (zd9 (qT n) w):=by
 have HNs:=Lib.hid h.es;have HNa:Hid (n.edges.length=0\/∃b off,x.ae=some ⟨b,off,none⟩):=h.es.addr;have hel:=h.es.len;have hal:=h.ac.2.1;have HNo:Hid (∀W,Below w.heap.size w W->zd9 (qT n) w (.returned (.bool false)) W):=λW hW=>⟨⟨false,rfl,λh=>by cases h⟩,hW⟩;have HYes:Hid (n.states<=60->n.edges.length<=120->n.accept.length<=60->(∀j (hj:j<n.edges.length),ziS (n.edges[j]'hj))->∀W,Below w.heap.size w W->zd9 (qT n) w (.returned (.bool true)) W):=λh1 h2 h3 h4 W hW=>⟨⟨true,rfl,λ_=>⟨h1,h2,h3,λe he=>by obtain⟨j,hj,rfl⟩:=List.getElem_of_mem he;exact h4 j hj⟩⟩,hW⟩;generalize zd9 (qT n) w=Po at HNo HYes⊢;rw[zz];clear h;obtain⟨xae,xce,xaa,xca⟩:=x;obtain⟨st,es,ac⟩:=n;simp only at HNs HNa hel hal HYes⊢;go_enter Tryz.func13, Tryz.ntmps13;go_upto_region 1 with fail;generalize hW2:World.alloc w _=W2;have HB2:Hid (Below w.heap.size w W2):=by show Below _ _ _;rw[←hW2];exact(Below.refl _ _).alloc (Nat.le_refl _) _
 have HX2:Hid (W2.heap[w.heap.size]? = some (.cells #[.int .i64 st,.slice xae es.length xce,.slice xaa ac.length xca] 33 (0,0))):=by show _=_;rw[←hW2];exact zh rfl
 have hz2:w.heap.size+1<=W2.heap.size:=by rw[←hW2];simp
 clear hW2;obtain⟨b0,b1,b2⟩:=zo HX2.out;have HF2:=Lib.hid (HNo.out W2 HB2.out);by_cases h1:st<=60
 ·have h1I:¬60<st:=by omega
  by_cases h2:es.length<=120
  ·have h2I:¬(120:Int)<es.length:=by omega
   by_cases h3:ac.length<=60
   ·have h3I:¬(60:Int)<ac.length:=by omega
    have HY2:=Lib.hid (HYes.out h1 h2 h3);go_wp2_with fail;clear b0 b1 b2;go_loopw [3,4,5,6] (λi _ _ _ wr=>∃k:Nat,i=.int .i64 k/\k<=es.length/\Hid (∀j (hj:j<es.length),j<k->ziS (es[j]'hj))/\Hid (Below W2.heap.size W2 wr)) (λi _ _ _ _=>es.length-(intOf i).toNat);case atStart=>exact⟨0,rfl,Nat.zero_le _,λ_ _ h=>absurd h (Nat.not_lt_zero _),Below.refl _ _⟩
    case round =>
     (try rename World=>wr)
     obtain⟨k,rfl,hk,HN,HBr⟩:=hrel;have hzr:=HBr.out.size;have HBw:Hid (Below w.heap.size w wr):=HB2.out.trans (HBr.out.mono HB2.out.size);obtain⟨x0,x1,x2⟩:=zo ((HBr.out.block _ (by omega)).trans HX2.out);by_cases hlt:k<es.length
     ·have hkl:(k:Int)<es.length:=by omega
      obtain⟨b,off,hb⟩:=HNa.out.resolve_left (by omega);subst hb;obtain⟨ag,cg,aS,cs,g0,g1,g2,g3,hg,hs⟩:=yz (HNs.out.keep (za HBw.out)) rfl hlt;have HNx:Hid (ziS (es[k]'hlt)->∀j (hj:j<es.length),j<k+1->ziS (es[j]'hj)):=λhe j hj hjk=>by
       by_cases e:j=k
       ·subst e;exact he
       ·exact HN.out j hj (by omega)
      generalize (es[k]'hlt)=y at g0 g1 g2 g3 hg hs HNx;have HGs:=Lib.hid hg;have HSs:=Lib.hid hs;have HGa:Hid (y.guards.length=0\/∃b off,ag=some ⟨b,off,none⟩):=hg.addr;have HSa:Hid (y.sets.length=0\/∃b off,aS=some ⟨b,off,none⟩):=hs.addr;have hgl:=hg.len;have hsl:=hs.len;clear HN hg hs;go_upto_region 7 with fail;generalize hW6:World.alloc wr _=W6;have hB6:Below wr.heap.size wr W6:=by rw[←hW6];exact(Below.refl _ _).alloc (Nat.le_refl _) _
      have HE6:Hid (W6.heap[wr.heap.size]? = some (.cells #[.int .i64 y.fr,.int .i64 y.to,.slice ag y.guards.length cg,.slice aS y.sets.length cs] 77 (0,0))):=by show _=_;rw[←hW6];exact zh rfl
      have HB6:=Lib.hid hB6;have hz6:wr.heap.size+1<=W6.heap.size:=by rw[←hW6];simp
      have HBw6:Hid (Below w.heap.size w W6):=HBw.out.trans (hB6.mono HBw.out.size);have HB26:Hid (Below W2.heap.size W2 W6):=HBr.out.trans (hB6.mono hzr);have HEw:Hid (∀W,Below W6.heap.size W6 W->W.cell? ⟨wr.heap.size,2,none⟩=some (.slice ag y.guards.length cg)/\W.cell? ⟨wr.heap.size,3,none⟩=some (.slice aS y.sets.length cs)):=λW hW=>by obtain⟨-,-,e2,e3,-⟩:=zR ((hW.block _ (by omega)).trans HE6.out);exact⟨e2,e3⟩
      obtain⟨e2,e3⟩:=HEw.out W6 (Below.refl _ _);have HF6:Hid (∀W,Below W6.heap.size W6 W->Po (.returned (.bool false)) W):=λW hW=>HNo.out W (HBw6.out.trans (hW.mono HBw6.out.size));clear hW6 hB6 HE6 g0 g1 g2 g3 x0 x1 x2;by_cases hgl2:y.guards.length<=10
      ·have hgI:¬(10:Int)<y.guards.length:=by omega
       by_cases hsl2:y.sets.length<=10
       ·have hsI:¬(10:Int)<y.sets.length:=by omega
        go_wp2_with fail;clear e2 e3;go_loopw [5] (λi wq=>∃m:Nat,i=.int .i64 m/\m<=y.guards.length/\Hid (∀j (hj:j<y.guards.length),j<m->(y.guards[j]'hj).nodes.length<=60)/\Hid (Below W6.heap.size W6 wq)) (λi _=>y.guards.length-(intOf i).toNat);case atStart=>exact⟨0,rfl,Nat.zero_le _,λ_ _ h=>absurd h (Nat.not_lt_zero _),Below.refl _ _⟩
        case round =>
         (try rename World=>wq)
         obtain⟨m,rfl,hm,HNg,HBq⟩:=hrel;have hzq:=HBq.out.size;have HBwq:Hid (Below w.heap.size w wq):=HBw6.out.trans (HBq.out.mono HBw6.out.size);have HB6q:Hid (Below wr.heap.size wr wq):=HB6.out.trans (HBq.out.mono HB6.out.size);obtain⟨e2,e3⟩:=HEw.out wq HBq.out;by_cases hltm:m<y.guards.length
         ·have hml:(m:Int)<y.guards.length:=by omega
          obtain⟨bg,og,hbg⟩:=HGa.out.resolve_left (by omega);subst hbg;obtain⟨a',c',g0,g1,g2,g3,hX⟩:=Zc (HGs.out.keep (za HB6q.out)) rfl hltm;have HNn:Hid ((y.guards[m]'hltm).nodes.length<=60->∀j (hj:j<y.guards.length),j<m+1->(y.guards[j]'hj).nodes.length<=60):=λhe j hj hjk=>by
           by_cases e:j=m
           ·subst e;exact he
           ·exact HNg.out j hj (by omega)
          generalize (y.guards[m]'hltm)=z at g0 g1 g2 g3 hX HNn;have HFw:=Lib.hid (zea z 60 a' c' wq hX (by omega) (by omega));clear hX HNg;go_wp2_with fail;refine HFw.out.mono ?_;rintro e w5 ⟨⟨bb,rfl,hbb⟩,hb5⟩;have HB5:Hid (Below W6.heap.size W6 w5):=HBq.out.trans (hb5.mono hzq);clear hb5 g0 g1 g2 g3 HFw;cases bb with
          |false =>have HF:=Lib.hid (HF6.out w5 HB5.out);clear hbb;go_wp2_with fail;first|exact HF.out|(go_ret2;exact HF.out)
          |true =>
           have HN2:=Lib.hid (HNn.out (by have:=hbb rfl;omega));clear hbb;go_wp2_with fail;go_roundw;case rel=>exact⟨m+1,by go_num,by omega,HN2.out,HB5.out⟩
           case measure=>(simp[intOf];try omega)
         ·obtain rfl:m=y.guards.length:=by omega
          have HGall:Hid (∀g∈y.guards,g.nodes.length<=60):=λg hg=>by obtain⟨j,hj,rfl⟩:=List.getElem_of_mem hg;exact HNg.out j hj hj
          clear HNg;go_wp2_with fail;clear e2 e3;go_loopw [6] (λi wv=>∃m:Nat,i=.int .i64 m/\m<=y.sets.length/\Hid (∀j (hj:j<y.sets.length),j<m->(y.sets[j]'hj).expr.nodes.length<=60)/\Hid (Below W6.heap.size W6 wv)) (λi _=>y.sets.length-(intOf i).toNat);case atStart=>exact⟨0,rfl,Nat.zero_le _,λ_ _ h=>absurd h (Nat.not_lt_zero _),HBq.out⟩
          case round =>
           (try rename World=>wv)
           obtain⟨m,rfl,hm,HNg,HBv⟩:=hrel;have hzv:=HBv.out.size;have HB6v:Hid (Below wr.heap.size wr wv):=HB6.out.trans (HBv.out.mono HB6.out.size);obtain⟨e2,e3⟩:=HEw.out wv HBv.out;by_cases hltm:m<y.sets.length
           ·have hml:(m:Int)<y.sets.length:=by omega
            obtain⟨bg,og,hbg⟩:=HSa.out.resolve_left (by omega);subst hbg;obtain⟨a',c',g0,g1,g2,g3,g4,hns,hX⟩:=qY (HSs.out.keep (za HB6v.out)) rfl hltm;have HNn:Hid ((y.sets[m]'hltm).expr.nodes.length<=60->∀j (hj:j<y.sets.length),j<m+1->(y.sets[j]'hj).expr.nodes.length<=60):=λhe j hj hjk=>by
             by_cases e:j=m
             ·subst e;exact he
             ·exact HNg.out j hj (by omega)
            generalize (y.sets[m]'hltm)=z at g0 g1 g2 g3 g4 hX hns HNn;obtain⟨nm,z⟩:=z;simp only at g0 g1 g2 g3 g4 hX hns HNn;have HFw:=Lib.hid (zea z 60 a' c' wv hX (by omega) (by omega));clear hX HNg;go_wp2_with fail;refine HFw.out.mono ?_;rintro e w5 ⟨⟨bb,rfl,hbb⟩,hb5⟩;have HB5:Hid (Below W6.heap.size W6 w5):=HBv.out.trans (hb5.mono hzv);have q0:=za hb5 _ _ g0;obtain⟨f2,f3⟩:=HEw.out w5 HB5.out;clear hb5 g0 g1 g2 g3 g4 e2 e3 HFw;cases bb with
            |false =>have HF:=Lib.hid (HF6.out w5 HB5.out);clear hbb;go_wp2_with fail;first|exact HF.out|(go_ret2;exact HF.out)
            |true =>
             have HN2:=Lib.hid (HNn.out (by have:=hbb rfl;omega));clear hbb;by_cases hn40:nm.size<=40
             ·have hnI:¬((40:Int)<(nm.size:Int)):=by omega
              go_wp2_with fail;go_roundw;case rel=>exact⟨m+1,by go_num,by omega,HN2.out,HB5.out⟩
              case measure=>(simp[intOf];try omega)
             ·have hnI:((40:Int)<(nm.size:Int)):=by omega
              have HF:=Lib.hid (HF6.out w5 HB5.out);go_wp2_with fail;first|exact HF.out|(go_ret2;exact HF.out)
           ·obtain rfl:m=y.sets.length:=by omega
            have HNk:=Lib.hid (HNx.out ⟨hgl2,hsl2,HGall.out,λg hg=>by obtain⟨j,hj,rfl⟩:=List.getElem_of_mem hg;exact HNg.out j hj hj⟩);have HB9:Hid (Below W2.heap.size W2 wv):=HB26.out.trans (HBv.out.mono HB26.out.size);clear HNg;go_wp2_with fail;go_roundw;case rel=>exact⟨k+1,by go_num,by omega,HNk.out,HB9.out⟩
            case measure=>(simp[intOf];try omega)
       ·have hsI:(10:Int)<y.sets.length:=by omega
        have HF:=Lib.hid (HF6.out W6 (Below.refl _ _));go_wp2_with fail;first|exact HF.out|(go_ret2;exact HF.out)
      ·have hgI:(10:Int)<y.guards.length:=by omega
       have HF:=Lib.hid (HF6.out W6 (Below.refl _ _));go_wp2_with fail;first|exact HF.out|(go_ret2;exact HF.out)
     ·obtain rfl:k=es.length:=by omega
      have HF:=Lib.hid (HY2.out (λj hj=>HN.out j hj hj) wr HBw.out);go_wp2_with fail;first|exact HF.out|(go_ret2;exact HF.out)
   ·have h3I:(60:Int)<ac.length:=by omega
    go_wp2_with fail;first|exact HF2.out|(go_ret2;exact HF2.out)
  ·have h2I:(120:Int)<es.length:=by omega
   go_wp2_with fail;first|exact HF2.out|(go_ret2;exact HF2.out)
 ·have h1I:60<st:=by omega
  go_wp2_with fail;first|exact HF2.out|(go_ret2;exact HF2.out)
end Go.Proofs.YtnfkbliokjjggaaGreatDoor
