/- nfa.edge, nfa.Valid: which automata are valid. -/
import Derived.Test.YtnfkbliokjjggaaGreatDoorH09
import Derived.Test.YtnfkbliokjjggaaGreatDoorH10
import Derived.Deep.Cut
import Derived.Deep.RegionLaw
import Derived.Laws.OwnMore
import Derived.Lib.SliceRun
import Derived.Deep.LoopGhost
set_option maxHeartbeats 8000000
set_option maxRecDepth 100000
set_option linter.unusedSimpArgs false
set_option linter.unusedVariables false
set_option linter.unnecessarySimpa false
namespace Go.Proofs.YtnfkbliokjjggaaGreatDoor
open Go.RowKit
attribute [local go_sem ↓] Go.wp_at_zero Go.wp_at_succ
def ziT (l:List Ex):Prop:=∀g∈l,g.nodes.length<=1000000000
structure ZJ (e:zk):Prop where
 gs:ziT e.guards
 ss:∀b∈e.sets,b.expr.nodes.length<=1000000000
def yX (e:zk) (ag:Option Addr) (cg:Nat) (aS:Option Addr) (cs:Nat):Value:=.agg #[.int .i64 e.fr,.int .i64 e.to,.slice ag e.guards.length cg,.slice aS e.sets.length cs]
theorem Zc {w:World} {l:List Ex} {a:Option Addr} {cap:Nat} (h:exE.In w l a cap) {b off:Nat} (ha:a=some ⟨b,off,none⟩) {i:Nat} (hi:i<l.length) :
 ∃a' cap',w.cell? ⟨b,off+i*4,none⟩=some (.int .i64 (l[i]'hi).op)/\w.cell? ⟨b,off+i*4+1,none⟩=some (.int .i64 (l[i]'hi).n)/\w.cell? ⟨b,off+i*4+2,none⟩=some (.string (l[i]'hi).name) /\
  w.cell? ⟨b,off+i*4+3,none⟩=some (.slice a' (l[i]'hi).args.length cap')/\yA w (l[i]'hi) a' cap':=(zco.1 h).get ha hi
theorem qY {w:World} {l:List xG} {a:Option Addr} {cap:Nat} (h:bdE.In w l a cap) {b off:Nat} (ha:a=some ⟨b,off,none⟩) {i:Nat} (hi:i<l.length) :
 ∃a' cap',w.cell? ⟨b,off+i*5,none⟩=some (.string (l[i]'hi).name)/\w.cell? ⟨b,off+i*5+1,none⟩=some (.int .i64 (l[i]'hi).expr.op)/\w.cell? ⟨b,off+i*5+2,none⟩=some (.int .i64 (l[i]'hi).expr.n)/\w.cell? ⟨b,off+i*5+3,none⟩=some (.string (l[i]'hi).expr.name) /\
  w.cell? ⟨b,off+i*5+4,none⟩=some (.slice a' (l[i]'hi).expr.args.length cap')/\(l[i]'hi).name.size<=1073741824/\yA w (l[i]'hi).expr a' cap':=by
 obtain⟨vs,⟨a',cap',rfl,h1,h2⟩,hc⟩:=h.get ha hi;exact⟨a',cap',hc 0 _ rfl,hc 1 _ rfl,hc 2 _ rfl,hc 3 _ rfl,hc 4 _ rfl,h1,h2⟩
theorem yz {w:World} {l:List zk} {a:Option Addr} {cap:Nat} (h:edE.In w l a cap) {b off:Nat} (ha:a=some ⟨b,off,none⟩) {i:Nat} (hi:i<l.length) :
 ∃ag cg aS cs,w.cell? ⟨b,off+i*4,none⟩=some (.int .i64 (l[i]'hi).fr)/\w.cell? ⟨b,off+i*4+1,none⟩=some (.int .i64 (l[i]'hi).to)/\w.cell? ⟨b,off+i*4+2,none⟩=some (.slice ag (l[i]'hi).guards.length cg) /\
  w.cell? ⟨b,off+i*4+3,none⟩=some (.slice aS (l[i]'hi).sets.length cs)/\exE.In w (l[i]'hi).guards ag cg/\bdE.In w (l[i]'hi).sets aS cs:=by
 obtain⟨vs,⟨ag,cg,aS,cs,rfl,h1,h2⟩,hc⟩:=h.get ha hi;exact⟨ag,cg,aS,cs,hc 0 _ rfl,hc 1 _ rfl,hc 2 _ rfl,hc 3 _ rfl,h1,h2⟩
theorem Qc {α:Type} {p:α->Bool} {l:List α} {k:Nat} (hk:k<l.length) (h:p (l[k]'hk)=false):l.all p=false:=by rw[←Bool.not_eq_true,List.all_eq_true];intro h2;rw[h2 _ (List.getElem_mem hk)]at h;simp at h
theorem Yv {α:Type} {p:α->Bool} {l:List α} (h:∀j (hj:j<l.length),p (l[j]'hj)=true):l.all p=true:=by rw[List.all_eq_true];intro x hx;obtain⟨j,hj,rfl⟩:=List.getElem_of_mem hx;exact h j hj
theorem zak (e:Ex) (a:Option Addr) (c:Nat) (w:World) (hG:qW w) (h:yA w e a c) (hn:e.nodes.length<=1000000000):Calls Tryz.prog 101 #[zL e a c] w λe' w'=>e'=.returned (.int .i64 (zD e))/\Below w.heap.size w w':=by obtain⟨op,n,s,args⟩:=e;exact zbo op n s args a c w hG h (by omega)
theorem ze7 (e:zk) (ag:Option Addr) (cg:Nat) (aS:Option Addr) (cs:Nat) (st:Int) (w:World) (hG:qW w) (h1:exE.In w e.guards ag cg) (h2:bdE.In w e.sets aS cs) (hs:ZJ e) :
 Calls Tryz.prog 41 #[yX e ag cg aS cs,.int .i64 st] w λe' w'=>e'=.returned (.bool (edgeOk st e))/\Below w.heap.size w w':=by
 have HG:=Lib.hid hG;have H1:=Lib.hid h1;have H2:=Lib.hid h2;have HS:=Lib.hid hs;have hl1:=h1.len;have hl2:=h2.len;have HA1:=Lib.hid h1.addr;have HA2:=Lib.hid h2.addr;have HR:Hid (∀b,(decide (0<=e.fr/\e.fr<st/\0<=e.to/\e.to<st))=b->(b&&e.guards.all okX&&e.sets.all YT)=edgeOk st e):=λb hb=>by rw[←hb];rfl
 have HR0:Hid (¬(0<=e.fr/\e.fr<st/\0<=e.to/\e.to<st)->edgeOk st e=false):=λh=>by rw[←HR.out false (decide_eq_false h)];rfl
 have HR1:Hid ((0<=e.fr/\e.fr<st/\0<=e.to/\e.to<st)->edgeOk st e=(e.guards.all okX&&e.sets.all YT)):=λh=>by rw[←HR.out true (decide_eq_true h)];rfl
 clear h1 h2 hG hs HR;unfold yX;generalize edgeOk st e=R at HR0 HR1⊢;obtain⟨fr,to,gs,ss⟩:=e;simp only at H1 H2 hl1 hl2 HR0 HR1⊢;have HB0:Hid (Below w.heap.size w (w.alloc (.cells #[.int .i64 fr,.int .i64 to,.slice ag gs.length cg,.slice aS ss.length cs] 77))):=by show Below _ _ _;exact bel
 by_cases hA:fr<0
 ·have hR:=HR0.out (by omega);subst hR;go_enter Tryz.func41, Tryz.ntmps41;go_wp2_with fail;go_ret;exact⟨rfl,HB0.out⟩
 by_cases hB:st<=fr
 ·have hR:=HR0.out (by omega);subst hR;go_enter Tryz.func41, Tryz.ntmps41;go_wp2_with fail;go_ret;exact⟨rfl,HB0.out⟩
 by_cases hC:to<0
 ·have hR:=HR0.out (by omega);subst hR;go_enter Tryz.func41, Tryz.ntmps41;go_wp2_with fail;go_ret;exact⟨rfl,HB0.out⟩
 by_cases hD:st<=to
 ·have hR:=HR0.out (by omega);subst hR;go_enter Tryz.func41, Tryz.ntmps41;go_wp2_with fail;go_ret;exact⟨rfl,HB0.out⟩
 have HRt:=Lib.hid (HR1.out ⟨by omega,by omega,by omega,by omega⟩);clear HR0 HR1;go_enter Tryz.func41, Tryz.ntmps41;go_wp2_with fail;generalize hW1:w.alloc (.cells #[.int .i64 fr,.int .i64 to,.slice ag gs.length cg,.slice aS ss.length cs] 77)=W1 at HB0⊢;have hx3:W1.cell? ⟨w.heap.size,3,none⟩=some (.slice aS ss.length cs):=by rw[←hW1];simp
 have hz1:W1.heap.size=w.heap.size+1:=by rw[←hW1];simp
 have HX3:=Lib.hid hx3;have hz1a:w.heap.size<W1.heap.size:=by omega
 have hz1b:=Lib.hid hz1;clear hW1 hx3 hz1 hA hB hC hD;go_loopw [32,6] (λi _ wr=>∃k:Nat,i=.int .i64 k/\k<=gs.length/\Hid (∀j (hj:j<gs.length),j<k->okX (gs[j]'hj)=true)/\Hid (Below W1.heap.size W1 wr)) (λi _ _=>gs.length-(intOf i).toNat);case atStart=>exact⟨0,rfl,Nat.zero_le _,λ_ _ h=>absurd h (by omega),Below.refl _ _⟩
 case round =>
  obtain⟨k,rfl,hk,HAl,HBr⟩:=hrel;have HBw:Hid (Below w.heap.size w wr):=HB0.out.trans (HBr.out.mono (by omega));have hzr:=HBr.out.size;by_cases hlt:k<gs.length
  ·obtain⟨b,off,ha⟩:=HA1.out.resolve_left (by omega);subst ha;obtain⟨a',cap',g0,g1,g2,g3,hX⟩:=Zc H1.out rfl hlt;have hn:=HS.out.gs _ (List.getElem_mem hlt);have HNx:Hid (okX (gs[k]'hlt)=true->∀j (hj:j<gs.length),j<k+1->okX (gs[j]'hj)=true):=λhv j hj hjk=>by
    by_cases e:j=k
    ·subst e;exact hv
    ·exact HAl.out j hj (by omega)
   have HNo:Hid (okX (gs[k]'hlt)=false->R=false):=λh=>by rw[HRt.out,Qc hlt h];rfl
   have HV:=Lib.hid (λW (hW:Below wr.heap.size wr W)=>zak (gs[k]'hlt) a' cap' W (HG.out.below (HBw.out.trans (hW.mono HBw.out.size))) (hX.keep (za (HBw.out.trans (hW.mono HBw.out.size)))) hn);have HOk:Hid (okX (gs[k]'hlt)=(zD (gs[k]'hlt)==0)):=rfl;have kk:=za HBw.out;have c0:=kk _ _ g0;have c1:=kk _ _ g1;have c2:=kk _ _ g2;have c3:=kk _ _ g3;clear g0 g1 g2 g3 kk hX hn;generalize (gs[k]'hlt)=y at c0 c1 c2 c3 HNx HNo HV HOk;unfold zL at HV;by_cases hv:zD y=0
   ·have HOk2:=Lib.hid (HNx.out (by rw[HOk.out,hv];rfl));rw[hv]at HV;clear HNx HNo HOk hv;go_wp2_with (go_at_call 101;go_must (refine(HV.out _ bel).mono ?_;rintro e w5 ⟨rfl,hb5⟩));have HB5:Hid (Below wr.heap.size wr w5):=((Below.refl wr.heap.size wr).alloc (Nat.le_refl _) _).trans (hb5.mono (by simp));go_roundw;case rel=>exact⟨k+1,by go_num,by omega,HOk2.out,HBr.out.trans (HB5.out.mono hzr)⟩
    case measure=>(simp[intOf];try omega)
   ·have hR:=HNo.out (by rw[HOk.out];exact beq_eq_false_iff_ne.2 hv);have hv':(zD y != 0)=true:=by simpa using hv
    subst hR;generalize zD y=vv at HV hv hv';clear HNx HNo HOk hv;go_wp2_with (go_at_call 101;go_must (refine(HV.out _ bel).mono ?_;rintro e w5 ⟨rfl,hb5⟩));have HB5:Hid (Below wr.heap.size wr w5):=((Below.refl wr.heap.size wr).alloc (Nat.le_refl _) _).trans (hb5.mono (by simp));go_ret;exact⟨rfl,HBw.out.trans (HB5.out.mono HBw.out.size)⟩
  ·obtain rfl:k=gs.length:=by omega
   have HR2:Hid (R=ss.all YT):=by show R=_;rw[HRt.out,Yv λj hj=>HAl.out j hj hj,Bool.true_and]
   have hx3:=(HBr.out.cell (p:=⟨w.heap.size,3,none⟩) hz1a).trans HX3.out;clear HAl HRt HX3;go_wp2_with fail;clear hx3;go_loopw [43,8] (λi _ wq=>∃k:Nat,i=.int .i64 k/\k<=ss.length/\Hid (∀j (hj:j<ss.length),j<k->YT (ss[j]'hj)=true)/\Hid (Below w.heap.size w wq)) (λi _ _=>ss.length-(intOf i).toNat);case atStart=>exact⟨0,rfl,Nat.zero_le _,λ_ _ h=>absurd h (by omega),HBw.out⟩
   case round =>
    obtain⟨m,rfl,hm,HAm,HBq⟩:=hrel;have hzq:=HBq.out.size;by_cases hlt2:m<ss.length
    ·obtain⟨b,off,ha⟩:=HA2.out.resolve_left (by omega);subst ha;obtain⟨a',cap',g0,g1,g2,g3,g4,hns,hX⟩:=qY H2.out rfl hlt2;have hn:=HS.out.ss _ (List.getElem_mem hlt2);have HNx:Hid (YT (ss[m]'hlt2)=true->∀j (hj:j<ss.length),j<m+1->YT (ss[j]'hj)=true):=λhv j hj hjk=>by
      by_cases e:j=m
      ·subst e;exact hv
      ·exact HAm.out j hj (by omega)
     have HNo:Hid (YT (ss[m]'hlt2)=false->R=false):=λh=>by rw[HR2.out,Qc hlt2 h]
     have HV:=Lib.hid (λW (hW:Below wr.heap.size wr W)=>zak (ss[m]'hlt2).expr a' cap' W (HG.out.below (HBq.out.trans (hW.mono hzq))) (hX.keep (za (HBq.out.trans (hW.mono hzq)))) hn);have HNm:=Lib.hid (λW (hW:Below wr.heap.size wr W)=>qx (ss[m]'hlt2).name W hns (HG.out.below (HBq.out.trans (hW.mono hzq))));have HOk:Hid (YT (ss[m]'hlt2)=(yQ (ss[m]'hlt2).name.data.toList&&(zD (ss[m]'hlt2).expr==0))):=rfl;have kk:=za HBq.out;have c0:=kk _ _ g0;have c1:=kk _ _ g1;have c2:=kk _ _ g2;have c3:=kk _ _ g3;have c4:=kk _ _ g4;clear g0 g1 g2 g3 g4 kk hX hn hns;generalize (ss[m]'hlt2)=y at c0 c1 c2 c3 c4 HNx HNo HV HOk HNm;obtain⟨nm,x⟩:=y;simp only at c0 c1 c2 c3 c4 HV HOk HNm;unfold zL at HV;generalize yQ nm.data.toList=nb at HNm HOk;cases nb
     ·have hR:=HNo.out (by rw[HOk.out];rfl);subst hR;clear HNx HNo HOk HV;go_wp2_with (go_at_call 102;go_must (refine(HNm.out _ bel).mono ?_;rintro e w5 ⟨rfl,hb5⟩));have HB5:Hid (Below wr.heap.size wr w5):=((Below.refl wr.heap.size wr).alloc (Nat.le_refl _) _).trans (hb5.mono (by simp));go_ret;exact⟨rfl,HBq.out.trans (HB5.out.mono hzq)⟩
     ·by_cases hv:zD x=0
      ·have HOk2:=Lib.hid (HNx.out (by rw[HOk.out,hv];rfl));rw[hv]at HV;clear HNx HNo HOk hv;go_wp2_with (first|(go_at_call 102;go_must (refine(HNm.out _ bel).mono ?_;rintro e w5 ⟨rfl,hb5⟩;have HB5:Hid (Below wr.heap.size wr w5):=((Below.refl wr.heap.size wr).alloc (Nat.le_refl _) _).trans (hb5.mono (by simp));have k5:=za hb5;have e1:=k5 ⟨wr.heap.size,1,none⟩ (.int .i64 x.op) (by simp);have e2:=k5 ⟨wr.heap.size,2,none⟩ (.int .i64 x.n) (by simp);have e3:=k5 ⟨wr.heap.size,3,none⟩ (.string x.name) (by simp);have e4:=k5 ⟨wr.heap.size,4,none⟩ (.slice a' x.args.length cap') (by simp);clear k5))|(go_at_call 101;go_must (refine(HV.out _ HB5.out).mono ?_;rintro e w6 ⟨rfl,hb6⟩;have HB6:Hid (Below wr.heap.size wr w6):=HB5.out.trans (hb6.mono HB5.out.size))));go_roundw;case rel=>exact⟨m+1,by go_num,by omega,HOk2.out,HBq.out.trans (HB6.out.mono hzq)⟩
       case measure=>(simp[intOf];try omega)
      ·have hR:=HNo.out (by rw[HOk.out];exact beq_eq_false_iff_ne.2 hv);have hv':(zD x != 0)=true:=by simpa using hv
       subst hR;generalize zD x=vv at HV hv hv';clear HNx HNo HOk hv;go_wp2_with (first|(go_at_call 102;go_must (refine(HNm.out _ bel).mono ?_;rintro e w5 ⟨rfl,hb5⟩;have HB5:Hid (Below wr.heap.size wr w5):=((Below.refl wr.heap.size wr).alloc (Nat.le_refl _) _).trans (hb5.mono (by simp));have k5:=za hb5;have e1:=k5 ⟨wr.heap.size,1,none⟩ (.int .i64 x.op) (by simp);have e2:=k5 ⟨wr.heap.size,2,none⟩ (.int .i64 x.n) (by simp);have e3:=k5 ⟨wr.heap.size,3,none⟩ (.string x.name) (by simp);have e4:=k5 ⟨wr.heap.size,4,none⟩ (.slice a' x.args.length cap') (by simp);clear k5))|(go_at_call 101;go_must (refine(HV.out _ HB5.out).mono ?_;rintro e w6 ⟨rfl,hb6⟩;have HB6:Hid (Below wr.heap.size wr w6):=HB5.out.trans (hb6.mono HB5.out.size))));go_ret;exact⟨rfl,HBq.out.trans (HB6.out.mono hzq)⟩
    ·obtain rfl:m=ss.length:=by omega
     have hR:R=true:=by rw[HR2.out,Yv λj hj=>HAm.out j hj hj]
     subst hR;go_wp2_with fail;go_ret;exact⟨rfl,HBq.out⟩
section
variable {τ : Type} {E : Enc τ} {w w' : World} {l : List τ}
theorem x5 {P:Program} {ops:Array Oper} {o:Oper} {a:Act} {K:Act->World->Prop} {Q:Exit->Act->World->Prop} {X:Prop} {t e:TypeId} (he:Elem P t e E.sz) (hgd:o.guard=none) (s x:Operand)
 (ho:o.op=.call { callee:=.builtin .append,args:=#[s,x],argTypes:=#[t,t] })
 (p:Nat->Bool) (B:Nat) (v:Value) (hs:a.eval s=v) (hown:E.Own e p w B v l) (y:τ) (vs:List Value) (hR:E.R (World.hide w (hid p v)) y vs)
 (k c:Nat) (hx:a.eval x=.slice (some ⟨k,0,none⟩) 1 c) (hk:w.heap[k]? = some (.cells vs.toArray e (0,0))) (n:Nat) (hln:l.length=n) (hn:n+1<=1073741824) (hB:B<=w.heap.size) (H:Nat) (hH:w.heap.size=H)
 (h:∀g cap w',E.Own e p w' B (.slice (some ⟨g,0,none⟩) (n+1) cap) (l++[y])->w.grownBy w' v.ownBlock->(v.ownBlock=some g\/g=H)->g<w'.heap.size->K (a.put o.dst (.slice (some ⟨g,0,none⟩) (n+1) cap)) w') :
 if Region.wanted o (yielded ops a.tmps)=true then Oper.wp P o a w K Q else X:=by
 subst hln;obtain⟨ht,i,z,bytes,hi,hz,hsz,hby,hzs,h0,hb⟩:=he;obtain⟨xs,h1,h2⟩:=hown;refine step_append_lies w hgd s x t ho B e i z E.sz bytes ht hi hz hsz hby hzs h0 v l.length xs hs h1 ⟨k,0,none⟩ 1 c vs hx (by rw[E.len hR,Nat.one_mul]) ?_ (E.one hR) (by omega) (by unfold maxLen;omega) ?_ hB H hH (λg cap w' h3 h4 h5 h6=>?_)
 ·have:=World.news_of_block hk;simpa using this
 ·calc (l.length+1)*bytes<=1073741824*1024:=Nat.mul_le_mul hn hb
   _<=_:=by decide
 ·exact h g cap w' (Enc.Own.put h2 (Enc.Vals.one hR) h4 (h5.imp id (by omega)) h3 (by simp)) h4 h5 h6
end
structure xN (q:Nat->Bool) (k:Nat) (w0 w:World) (st:Int) (L:List zk) (ve va:Value):Prop where
 kB:w0.heap.size<=k
 qk:q k=true
 blk:w.heap[k]? = some (.cells #[.int .i64 st,ve,va,.bool (decide (4097<L.length))] 150 (0,0))
 es:edE.Own 77 q w w0.heap.size ve (L.take 4097)
 bel:Below w0.heap.size w0 w
structure zU (k:Nat) (w:World) (ve:Value) (w':World) (ve':Value):Prop where
 size:w.heap.size<=w'.heap.size
 block:∀j,j<w.heap.size->j≠k->ve.ownBlock≠some j->w'.heap[j]? = w.heap[j]?
 row:ve'.ownBlock=ve.ownBlock\/∀g,ve'.ownBlock=some g->w.heap.size<=g
theorem zU.refl (k:Nat) (w:World) (ve:Value):zU k w ve w ve:=⟨Nat.le_refl _,λ_ _ _ _=>rfl,Or.inl rfl⟩
theorem zU.trans {k:Nat} {w w1 w2:World} {v v1 v2:Value} (h:zU k w v w1 v1) (h2:zU k w1 v1 w2 v2):zU k w v w2 v2:=by
 refine⟨Nat.le_trans h.size h2.size,λj hj hk hv=>?_,?_⟩
 ·refine(h2.block j (Nat.lt_of_lt_of_le hj h.size) hk ?_).trans (h.block j hj hk hv);rcases h.row with e|e
  ·rw[e];exact hv
  ·intro e2;have:=e j e2;omega
 ·rcases h2.row with e|e
  ·rw[e];exact h.row
  ·exact Or.inr λg hg=>Nat.le_trans h.size (e g hg)
theorem zU.below {k:Nat} {w w':World} (v:Value) (hb:Below w.heap.size w w'):zU k w v w' v:=⟨hb.size,λj hj _ _=>hb.block j hj,Or.inl rfl⟩
theorem zU.kp {k:Nat} {w w':World} {v v':Value} {q q':Nat->Bool} (h:zU k w v w' v') (hk:q k=true) (hq:∀j,j<w.heap.size->q' j=true->q j=true):Kp (World.hide w (hid q v)) (World.hide w' (hid q' v')):=by
 intro a u ha;obtain⟨h1,h2⟩:=zr.1 ha;have hlt:=xV h2;have hne:a.block≠k:=λe=>by rw[e]at h1;have:hid q v k=true:=ze.2 (Or.inl hk);rw[this]at h1;simp at h1
 have hnv:v.ownBlock≠some a.block:=λe=>by have:hid q v a.block=true:=ze.2 (Or.inr e);rw[this]at h1;simp at h1
 refine zr.2 ⟨?_,?_⟩
 ·cases hp:hid q' v' a.block with
  |false=>rfl
  |true =>
   rcases ze.1 hp with e|e
   ·have:hid q v a.block=true:=ze.2 (Or.inl (hq _ hlt e));rw[this]at h1;simp at h1
   ·rcases h.row with e2|e2
    ·rw[e2]at e;exact absurd e hnv
    ·have:=e2 _ e;omega
 ·rw[World.cell?_of_block (h.block _ hlt hne hnv)];exact h2
theorem zU.own {k:Nat} {w w':World} {v v':Value} (h:zU k w v w' v') {B B':Nat} {t te:TypeId} {size:Nat} {u:Value} {n m:Nat} {xs ys:List Value} {z:Nat} {cs:Array Value} {tk:TypeId} {fz:Nat×Nat} (ho:w.ownsRow B t size u n xs) (he:w.ownsRow B' te z v m ys) (hk:w.heap[k]? = some (.cells cs tk fz)) (h1:te≠t) (h2:tk≠t):w'.ownsRow B t size u n xs:=by
 obtain⟨g1,g2⟩:=ho;refine⟨g1,g2.imp id ?_⟩;rintro ⟨g,cap,cur,hv,hg,hh,r⟩;refine⟨g,cap,cur,hv,hg,?_,r⟩;rw[h.block g (lt_of_block hh) ?_ ?_]
 ·exact hh
 ·rintro rfl;rw[hk]at hh;simp only[Option.some.injEq,Obj.cells.injEq]at hh;exact h2 hh.2.1
 ·intro e;exact zv he hh h1.symm e.symm
theorem xN.below {q:Nat->Bool} {k:Nat} {w0 w w':World} {st:Int} {L:List zk} {ve va:Value} (h:xN q k w0 w st L ve va) (hb:Below w.heap.size w w'):xN q k w0 w' st L ve va :=
 ⟨h.kB,h.qk,(hb.block k (lt_of_block h.blk)).trans h.blk,h.es.below hb,h.bel.trans (hb.mono h.bel.size)⟩
theorem xN.klt {q:Nat->Bool} {k:Nat} {w0 w:World} {st:Int} {L:List zk} {ve va:Value} (h:xN q k w0 w st L ve va):k<w.heap.size:=lt_of_block h.blk
theorem xN.ne {q:Nat->Bool} {k:Nat} {w0 w:World} {st:Int} {L:List zk} {ve va:Value} (h:xN q k w0 w st L ve va):some k≠ve.ownBlock:=by obtain⟨xs,h1,_⟩:=h.es;exact zv h1 h.blk (by decide)
theorem Yw {w:World} {k:Nat} {c0 c1 c2 c3 u:Value} {t:TypeId} (h:w.heap[k]? = some (.cells #[c0,c1,c2,c3] t (0,0))) (o:Nat):(w.setCell ⟨k,o,none⟩ u).heap[k]? = some (.cells (#[c0,c1,c2,c3].setIfInBounds o u) t (0,0)):=heap_setCell_same _ k o _ t u h
theorem xN.esSet {q:Nat->Bool} {k:Nat} {w:World} {B:Nat} {L:List zk} {ve u:Value} {o:Nat} (hq:q k=true) (hne:some k≠ve.ownBlock) (h:edE.Own 77 q w B ve L):edE.Own 77 q (w.setCell ⟨k,o,none⟩ u) B ve L:=by obtain⟨xs,h1,h2⟩:=h;exact⟨xs,ownsRow_setCell_other h1 (λe=>hne e.symm) u,h2.keep (zj (ze.2 (Or.inl hq)))⟩
theorem zU.set {k:Nat} {w w':World} {v v':Value} (h:zU k w v w' v') (o:Nat) (u:Value):zU k w v (w'.setCell ⟨k,o,none⟩ u) v' :=
 ⟨by rw[World.size_setCell];exact h.size,λj hj hk hv=>(Below.heap_setCell _ _ _ _ (λe=>hk (by simpa using e))).trans (h.block j hj hk hv),h.row⟩
theorem zU.grown {k:Nat} {w w1 w':World} {v:Value} {g n cap:Nat} (hb:Below w.heap.size w w1) (hg:w1.grownBy w' v.ownBlock) (hat:v.ownBlock=some g\/w.heap.size<=g):zU k w v w' (.slice (some ⟨g,0,none⟩) n cap) :=
 ⟨Nat.le_trans hb.size hg.size,λj hj _ hv=>(hg.block j (Nat.lt_of_lt_of_le hj hb.size) (Ne.symm hv)).trans (hb.block j hj),hat.imp (λe=>e.symm) λe g' hg'=>by have:=Option.some.inj hg';simp only at this;omega⟩
def yu (q:Nat->Bool) (k:Nat) (w0 w:World) (st:Int) (L:List zk) (ve va:Value) (e:Ending) (w':World):Prop:=e=.returned (.tuple #[])/\∃ve',xN q k w0 w' st L ve' va/\zU k w ve w' ve'
theorem Xf {q:Nat->Bool} {k:Nat} {w0 w:World} {st:Int} {L:List zk} {ve va:Value} (hB:xN q k w0 w st L ve va) (e:zk) (ag:Option Addr) (cg:Nat) (aS:Option Addr) (cs:Nat)
 (h1:exE.In (World.hide w (hid q ve)) e.guards ag cg) (h2:bdE.In (World.hide w (hid q ve)) e.sets aS cs) :
 Calls Tryz.prog 146 #[.pointer (some ⟨k,0,none⟩),yX e ag cg aS cs] w (yu q k w0 w st (L++[e]) ve va):=by
 have hLl:(L.take 4097).length=min 4097 L.length:=List.length_take;obtain⟨a,cap,hv,_⟩:=hB.es.slice (by omega);have HB:=Lib.hid hB;have hk:=hB.klt;have hblk:=hB.blk;have HNe:=Lib.hid hB.ne;have HP:Hid (∀ve' w',xN q k w0 w' st (L++[e]) ve' va->zU k w ve w' ve'->yu q k w0 w st (L++[e]) ve va (.returned (.tuple #[])) w'):=λve' w' g1 g2=>⟨rfl,ve',g1,g2⟩;have HR:Hid (∀w',Below w.heap.size w w'->edR (World.hide w' (hid q ve)) e [.int .i64 e.fr,.int .i64 e.to,.slice ag e.guards.length cg,.slice aS e.sets.length cs]):=λw' hb=>by have hkk:=zg (p:=hid q ve) (q:=hid q ve) hb λ_ _ h=>h;exact⟨ag,cg,aS,cs,rfl,h1.keep hkk,h2.keep hkk⟩
 clear hB h1 h2;generalize yu q k w0 w st (L++[e]) ve va=Po at HP⊢;unfold yX;have c1:w.cell? ⟨k,1,none⟩=some ve:=by simp[World.cell?,hblk]
 rw[hv]at c1;have f1:w.frozen? ⟨k,1,none⟩=false:=by simp[World.frozen?,hblk]
 have f3:w.frozen? ⟨k,3,none⟩=false:=by simp[World.frozen?,hblk]
 have c3:w.cell? ⟨k,3,none⟩=some (.bool (decide (4097<L.length))):=by simp[World.cell?,hblk]
 have HBlk:=Lib.hid hblk;clear hblk;by_cases hbig:4096<L.length
 ·have hlt:¬((L.take 4097).length:Int)<=4096:=by omega
  have hlt2:(4096:Int)<((L.take 4097).length:Int):=by omega
  have HF:Hid (decide (4097<(L++[e]).length)=true):=decide_eq_true (by rw[List.length_append,List.length_singleton];omega);have HT:Hid ((L++[e]).take 4097=L.take 4097):=List.take_append_of_le_length (by omega);have HV:=Lib.hid hv;clear hv;generalize (L.take 4097).length=n at c1 hlt hlt2 HV;clear hLl hbig;go_enter Tryz.func146, Tryz.ntmps146;go_wp2_with fail;have HD:Hid (xN q k w0 ((w.setCell ⟨k,3,none⟩ (.bool true)).alloc (.cells #[.int .i64 e.fr,.int .i64 e.to,.slice ag e.guards.length cg,.slice aS e.sets.length cs] 77)) st (L++[e]) ve va):=by
   have hB1:=HB.out;have h:xN q k w0 (w.setCell ⟨k,3,none⟩ (.bool true)) st (L++[e]) ve va:=by
    refine⟨hB1.kB,hB1.qk,?_,?_,hB1.bel.setCell hB1.kB _⟩
    ·rw[Yw hB1.blk 3,HF.out];rfl
    ·rw[HT.out];exact xN.esSet hB1.qk hB1.ne hB1.es
   exact h.below ((Below.refl _ _).alloc (Nat.le_refl _) _)
  have HS:Hid (zU k w ve ((w.setCell ⟨k,3,none⟩ (.bool true)).alloc (.cells #[.int .i64 e.fr,.int .i64 e.to,.slice ag e.guards.length cg,.slice aS e.sets.length cs] 77)) ve) :=
   ((zU.refl k w ve).set 3 _).trans (zU.below ve ((Below.refl _ _).alloc (Nat.le_refl _) _))
  first|exact HP.out _ _ HD.out HS.out|(refine bodyPost_ret (results_none rfl _ _ _) rfl ?_;exact HP.out _ _ HD.out HS.out)
 ·have hlt:((L.take 4097).length:Int)<=4096:=by omega
  have hlt2:¬(4096:Int)<((L.take 4097).length:Int):=by omega
  have HF:Hid (decide (4097<(L++[e]).length)=decide (4097<L.length)):=by show _=_;rw[List.length_append,List.length_singleton,decide_eq_false (by omega),decide_eq_false (by omega)]
  have HT:Hid ((L++[e]).take 4097=L.take 4097++[e]):=by show _=_;rw[List.take_of_length_le (by rw[List.length_append,List.length_singleton];omega),List.take_of_length_le (by omega)]
  have HLn:Hid ((L.take 4097).length=(L.take 4097).length):=rfl;have hn:(L.take 4097).length+1<=1073741824:=by omega
  have HV:=Lib.hid hv;clear hv;have c1o:∀o,(w.alloc o).cell? ⟨k,1,none⟩=some (.slice a (L.take 4097).length cap):=λo=>Lib.cell?_alloc_some _ c1;have f1o:∀o,(w.alloc o).frozen? ⟨k,1,none⟩=false:=λo=>(World.frozen?_alloc_old _ _ _ (Nat.ne_of_lt hk)).trans f1;have c1p:∀o o2,((w.alloc o).alloc o2).cell? ⟨k,1,none⟩=some (.slice a (L.take 4097).length cap):=λo o2=>Lib.cell?_alloc_some _ (c1o o);have hvn:¬(some k=ve.ownBlock):=HNe.out;obtain⟨L4,hL4⟩:∃L4,L.take 4097=L4:=⟨_,rfl⟩;rw[hL4]at c1 hlt hlt2 HT HLn hn HV c1o c1p;have HL4:=Lib.hid hL4;clear hL4 hLl;obtain⟨n,hnl⟩:∃n,L4.length=n:=⟨_,rfl⟩;rw[hnl]at c1 hlt hlt2 HLn hn HV c1o c1p;have HNl:=Lib.hid hnl;clear hnl hbig;go_enter Tryz.func146, Tryz.ntmps146;go_wp2_with fail;generalize hWc:w.alloc (.cells #[.int .i64 e.fr,.int .i64 e.to,.slice ag e.guards.length cg,.slice aS e.sets.length cs] 77)=wc;have hbc:Below w.heap.size w wc:=by rw[←hWc];exact(Below.refl _ _).alloc (Nat.le_refl _) _
  have b0:wc.cell? ⟨w.heap.size,0,none⟩=some (.int .i64 e.fr):=by rw[←hWc];simp
  have b1:wc.cell? ⟨w.heap.size,1,none⟩=some (.int .i64 e.to):=by rw[←hWc];simp
  have b2:wc.cell? ⟨w.heap.size,2,none⟩=some (.slice ag e.guards.length cg):=by rw[←hWc];simp
  have b3:wc.cell? ⟨w.heap.size,3,none⟩=some (.slice aS e.sets.length cs):=by rw[←hWc];simp
  have c1:wc.cell? ⟨k,1,none⟩=some (.slice a n cap):=by rw[←hWc];exact c1o _
  have f1:wc.frozen? ⟨k,1,none⟩=false:=by rw[←hWc];exact f1o _
  have hkc:k<wc.heap.size:=Nat.lt_of_lt_of_le hk hbc.size;have HBc:=Lib.hid (HB.out.below hbc);have Hbc:=Lib.hid hbc;have hzc:w.heap.size<wc.heap.size:=by rw[←hWc];simp
  have HRc:Hid (∀o,edR (World.hide ((wc.alloc o).drew) (hid q ve)) e [.int .i64 e.fr,.int .i64 e.to,.slice ag e.guards.length cg,.slice aS e.sets.length cs]):=λo=>HR.out _ (hbc.trans ((Below.drew ((Below.refl wc.heap.size wc).alloc (Nat.le_refl _) o)).mono hbc.size));have HOc:Hid (∀o,edE.Own 77 q ((wc.alloc o).drew) w0.heap.size ve L4):=λo=>by have:=(HBc.out.es).below (Below.drew ((Below.refl wc.heap.size wc).alloc (Nat.le_refl _) o));rwa [HL4.out]at this
  have c1o:∀o,(wc.alloc o).cell? ⟨k,1,none⟩=some (.slice a n cap):=λo=>Lib.cell?_alloc_some _ c1;have hBz:w0.heap.size<=wc.heap.size:=by have:=HBc.out.kB;omega
  clear hWc c1p HB HR HBlk f1o f3 c3 hbc;go_region_law ((refine x5 (E:=edE) zcn (by rfl) _ _ (by rfl) q w0.heap.size (.slice a n cap) (by rfl) (by rw[←HV.out];exact HOc.out _) e [.int .i64 e.fr,.int .i64 e.to,.slice ag e.guards.length cg,.slice aS e.sets.length cs] (by rw[←HV.out];exact HRc.out _) wc.heap.size 1 (by rfl) (zi wc _) n HNl.out hn (by simp;omega) (wc.heap.size+1) (by simp) ?_;intro gg gcap wg hownG hgrow hatG hltG;have f1g:wg.frozen? ⟨k,1,none⟩=false:=((hgrow.frozen_far ⟨k,1,none⟩ (by simp;omega) (by rw[←HV.out];exact hvn)).trans (World.frozen?_alloc_old _ _ _ (Nat.ne_of_lt hkc))).trans f1;have c1g:wg.cell? ⟨k,1,none⟩=some (.slice a n cap):=(hgrow.cell_far ⟨k,1,none⟩ (by simp;omega) (by rw[←HV.out];exact hvn)).trans (c1o _)));all_goals go_wp2_with fail
  all_goals
   have hkg:k≠gg:=by
    rcases hatG with h|h
    ·rintro rfl;exact hvn (by rw[HV.out];exact h.symm)
    ·omega
   have hblk:wg.heap[k]? = some (.cells #[.int .i64 st,ve,va,.bool (decide (4097<L.length))] 150 (0,0)):=by rw[hgrow.block k (by simp;omega) (by rw[←HV.out];exact hvn)];exact(Below.drew ((Below.refl wc.heap.size wc).alloc (Nat.le_refl _) _)).block k hkc ▸ HBc.out.blk
   have hD:xN q k w0 (wg.setCell ⟨k,1,none⟩ (.slice (some ⟨gg,0,none⟩) (n+1) gcap)) st (L++[e]) (.slice (some ⟨gg,0,none⟩) (n+1) gcap) va:=by
    refine⟨HBc.out.kB,HBc.out.qk,?_,?_,?_⟩
    ·rw[Yw hblk 1,HF.out];rfl
    ·rw[HT.out];exact xN.esSet HBc.out.qk (λh=>hkg (Option.some.inj h)) hownG
    ·refine Below.setCell ?_ HBc.out.kB _;refine Below.grown (Below.drew (HBc.out.bel.alloc hBz _)) hgrow (by simp;omega) λj hj=>?_;obtain⟨xs,hx,_⟩:=HBc.out.es;rw[←HV.out]at hj;exact(hx.lt j hj).1
   have hS:zU k w ve (wg.setCell ⟨k,1,none⟩ (.slice (some ⟨gg,0,none⟩) (n+1) gcap)) (.slice (some ⟨gg,0,none⟩) (n+1) gcap):=by
    refine zU.set (zU.grown (w1:=(wc.alloc _).drew) (Hbc.out.trans ((Below.drew ((Below.refl wc.heap.size wc).alloc (Nat.le_refl _) _)).mono Hbc.out.size)) (by rw[HV.out];exact hgrow) ?_) 1 _;rcases hatG with h|h
    ·exact Or.inl (by rw[HV.out];exact h)
    ·exact Or.inr (by omega)
   have HD:=Lib.hid hD;have HS:=Lib.hid hS;first|exact HP.out _ _ HD.out HS.out|(refine bodyPost_ret (results_none rfl _ _ _) rfl ?_;exact HP.out _ _ HD.out HS.out)
theorem yu.from {q:Nat->Bool} {k:Nat} {w0 w W w':World} {st:Int} {L:List zk} {ve va:Value} {e:Ending} (hb:Below w.heap.size w W) (h:yu q k w0 W st L ve va e w'):yu q k w0 w st L ve va e w':=by obtain⟨h1,ve',h2,h3⟩:=h;exact⟨h1,ve',h2,(zU.below ve hb).trans h3⟩
theorem zaU {q:Nat->Bool} {k:Nat} {w0 w:World} {st:Int} {L:List zk} {ve va:Value} (hB:xN q k w0 w st L ve va) (e:zk) (ag:Option Addr) (cg:Nat) (aS:Option Addr) (cs:Nat) (f t:Int)
 (h1:exE.In (World.hide w (hid q ve)) e.guards ag cg) (h2:bdE.In (World.hide w (hid q ve)) e.sets aS cs) :
 Calls Tryz.prog 152 #[.pointer (some ⟨k,0,none⟩),yX e ag cg aS cs,.int .i64 f,.int .i64 t] w (yu q k w0 w st (L++[mvE e f t]) ve va):=by
 have HA:Hid (∀W,Below w.heap.size w W->Calls Tryz.prog 146 #[.pointer (some ⟨k,0,none⟩),yX (mvE e f t) ag cg aS cs] W (yu q k w0 w st (L++[mvE e f t]) ve va)):=λW hW=>by have hkk:=zg (p:=hid q ve) (q:=hid q ve) hW λ_ _ h=>h;exact(Xf (hB.below hW) (mvE e f t) ag cg aS cs (h1.keep hkk) (h2.keep hkk)).mono λ_ _ h=>h.from hW
 have HV:Hid (∀e' w',yu q k w0 w st (L++[mvE e f t]) ve va e' w'->e'=.returned (.tuple #[])):=λe' w' h=>h.1;clear hB h1 h2;generalize yu q k w0 w st (L++[mvE e f t]) ve va=Po at HA HV⊢;unfold yX at HA⊢;simp only[mvE]at HA;go_enter Tryz.func152, Tryz.ntmps152;go_wp2_with fail;refine(HA.out _ bel).mono ?_;intro e5 w5 h5;have H5:=Lib.hid h5;obtain rfl:=HV.out _ _ h5;clear h5;go_wp2_with fail;first|exact H5.out|(refine bodyPost_ret (results_none rfl _ _ _) rfl ?_;exact H5.out)
def zfZ (g:FuncId) (lb:Array Value) (d:zk->Bool) (K:World->Prop):Prop :=
 ∀(W:World) (x:zk) (vs:List Value),K W->edR W x vs->Calls Tryz.prog g (#[.agg vs.toArray]++lb) W λe W'=>e=.returned (.bool (d x))/\Below W.heap.size W W'
def zd6 (d:zk->Bool) (l:List zk):Int:=match l.findIdx? d with|some i=>(i:Int)|none=>-1
theorem zgt {d:zk->Bool} {l:List zk} {k:Nat} (hk:k<l.length) (h:d (l[k]'hk)=true) (hb:∀j (hj:j<l.length),j<k->d (l[j]'hj)=false):zd6 d l=k:=by
 have:l.findIdx? d=some k:=by rw[List.findIdx?_eq_some_iff_getElem];exact⟨hk,h,λj hj=>by simpa using hb j (by omega) hj⟩
 unfold zd6;rw[this]
theorem zeX {d:zk->Bool} {l:List zk} (hb:∀j (hj:j<l.length),d (l[j]'hj)=false):zd6 d l=-1:=by
 have:l.findIdx? d=none:=by rw[List.findIdx?_eq_none_iff];intro x hx;obtain⟨j,hj,rfl⟩:=List.getElem_of_mem hx;exact hb j hj
 unfold zd6;rw[this]
theorem zdm (g:FuncId) (eg:∀args w,(callFunc g args).run Tryz.prog w=.ok (.enter g args) w) (lb:Array Value) (d:zk->Bool) (K:World->Prop) (hP:zfZ g lb d K) (hKb:∀W W',K W->Below W.heap.size W W'->K W') (l:List zk) (a:Option Addr) (cap:Nat) (w:World) (hE:edE.In w l a cap) (hK:K w) :
 Calls Tryz.prog 262 #[.slice a l.length cap,.func (.func g) #[] lb] w λe w'=>e=.returned (.int .i64 (zd6 d l))/\Below w.heap.size w w':=by
 have HP:=Lib.hid hP;have HE:=Lib.hid hE;have HKb:=Lib.hid hKb;have HK:=Lib.hid hK;have hlen:=hE.len;have HA:=Lib.hid hE.addr;have HY:Hid (∀k (hk:k<l.length),d (l[k]'hk)=true->(∀j (hj:j<l.length),j<k->d (l[j]'hj)=false)->zd6 d l=k):=λk hk h hb=>zgt hk h hb;have HN:Hid ((∀j (hj:j<l.length),d (l[j]'hj)=false)->zd6 d l=-1):=zeX;clear hP hE hKb hK;generalize zd6 d l=R at HY HN⊢;go_enter Tryz.func262, Tryz.ntmps262;go_wp2_with fail;go_loopw [8,5] (λi _ wr=>∃k:Nat,i=.int .i64 k/\k<=l.length/\Hid (∀j (hj:j<l.length),j<k->d (l[j]'hj)=false)/\Hid (Below w.heap.size w wr)) (λi _ _=>l.length-(intOf i).toNat);case atStart=>exact⟨0,rfl,Nat.zero_le _,λ_ _ h=>absurd h (by omega),Below.refl _ _⟩
 case round =>
  obtain⟨k,rfl,hk,HAl,HBr⟩:=hrel;have hzr:=HBr.out.size;by_cases hlt:k<l.length
  ·obtain⟨b,off,ha⟩:=HA.out.resolve_left (by omega);subst ha;obtain⟨ag,cg,aS,cs,g0,g1,g2,g3,h1,h2⟩:=yz HE.out rfl hlt;have HNx:Hid (d (l[k]'hlt)=false->∀j (hj:j<l.length),j<k+1->d (l[j]'hj)=false):=λhv j hj hjk=>by
    by_cases e:j=k
    ·subst e;exact hv
    ·exact HAl.out j hj (by omega)
   have HYx:Hid (d (l[k]'hlt)=true->R=k):=λh=>HY.out k hlt h HAl.out;have hC:=HP.out wr (l[k]'hlt) _ (HKb.out _ _ HK.out HBr.out) ⟨ag,cg,aS,cs,rfl,h1.keep (za HBr.out),h2.keep (za HBr.out)⟩;have kk:=za HBr.out;have c0:=kk _ _ g0;have c1:=kk _ _ g1;have c2:=kk _ _ g2;have c3:=kk _ _ g3;clear g0 g1 g2 g3 kk h1 h2;generalize (l[k]'hlt)=y at c0 c1 c2 c3 HNx HYx hC;cases hd:d y with
   |false =>
    have HAl2:=Lib.hid (HNx.out hd);rw[hd]at hC;have HC:=Lib.hid hC;clear HNx HYx hC hd;go_wp2_with (go_at_fn g;go_must (refine HC.out.mono ?_;rintro e w5 ⟨rfl,hb5⟩));have HB5:=Lib.hid hb5;go_roundw;case rel=>exact⟨k+1,by go_num,by omega,HAl2.out,HBr.out.trans (HB5.out.mono hzr)⟩
    case measure=>(simp[intOf];try omega)
   |true =>have hR:=HYx.out hd;subst hR;rw[hd]at hC;have HC:=Lib.hid hC;clear HNx HYx hC hd;go_wp2_with (go_at_fn g;go_must (refine HC.out.mono ?_;rintro e w5 ⟨rfl,hb5⟩));have HB5:=Lib.hid hb5;go_ret;exact⟨rfl,HBr.out.trans (HB5.out.mono hzr)⟩
  ·obtain rfl:k=l.length:=by omega
   have hR:=HN.out λj hj=>HAl.out j hj hj;subst hR;go_wp2_with fail;go_ret;exact⟨rfl,HBr.out⟩
end Go.Proofs.YtnfkbliokjjggaaGreatDoor
