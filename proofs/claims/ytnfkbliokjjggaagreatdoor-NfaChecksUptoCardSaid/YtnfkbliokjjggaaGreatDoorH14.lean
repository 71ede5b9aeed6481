/- nfa.first, others, from: the edges from a state. -/
import Derived.Test.YtnfkbliokjjggaaGreatDoorH13
import Derived.Test.YtnfkbliokjjggaaGreatDoorH12
import Derived.Deep.LoopGhost
import Derived.Test.YtnfkbliokjjggaaGreatDoorH09
set_option maxHeartbeats 8000000
set_option maxRecDepth 100000
set_option linter.unusedSimpArgs false
set_option linter.unusedVariables false
set_option linter.unnecessarySimpa false
namespace Go.Proofs.YtnfkbliokjjggaaGreatDoor
open Go.RowKit
attribute [local go_sem ↓] Go.wp_at_zero Go.wp_at_succ
theorem zi6:zfZ 217 #[] (λx=>!(x.fr==0)) (λ_=>True):=by
 rintro W x vs _ ⟨ag,cg,aS,cs,rfl,_⟩;show Calls _ _ #[.agg #[.int .i64 x.fr,.int .i64 x.to,.slice ag x.guards.length cg,.slice aS x.sets.length cs]] W λe W'=>e=.returned (.bool (!(x.fr==0)))/\Below W.heap.size W W';by_cases h:x.fr=0
 ·have h1:(x.fr != 0)=false:=by simp[h]
  have h2:(!(x.fr==0))=false:=by simp[h]
  rw[h2];go_enter Tryz.func217, Tryz.ntmps217;go_wp2_with fail;go_ret;exact⟨rfl,bel⟩
 ·have h1:(x.fr != 0)=true:=by simp[h]
  have h2:(!(x.fr==0))=true:=by simp[h]
  rw[h2];go_enter Tryz.func217, Tryz.ntmps217;go_wp2_with fail;go_ret;exact⟨rfl,bel⟩
theorem zin:zfZ 220 #[] (λx=>x.fr==0) (λ_=>True):=by
 rintro W x vs _ ⟨ag,cg,aS,cs,rfl,_⟩;show Calls _ _ #[.agg #[.int .i64 x.fr,.int .i64 x.to,.slice ag x.guards.length cg,.slice aS x.sets.length cs]] W λe W'=>e=.returned (.bool (x.fr==0))/\Below W.heap.size W W';by_cases h:x.fr=0
 ·have h1:(x.fr==0)=true:=by simp[h]
  rw[h1];go_enter Tryz.func220, Tryz.ntmps220;go_wp2_with fail;go_ret;exact⟨rfl,bel⟩
 ·have h1:(x.fr==0)=false:=by simp[h]
  rw[h1];go_enter Tryz.func220, Tryz.ntmps220;go_wp2_with fail;go_ret;exact⟨rfl,bel⟩
def ZX (p:Nat->Bool) (l:List zk) (w:World) (e:Ending) (w':World):Prop:=(∃a c,e=.returned (.slice a l.length c)/\edE.In (World.hide w' p) l a c)/\Below w.heap.size w w'
theorem Zp {B:Nat} {w0 w w':World} {row:Option Nat} (h:Below B w0 w) (hg:w.grownBy w' row) (hB:B<=w.heap.size) (hr:∀k,row=some k->B<=k):Below B w0 w':=h.grown hg hB hr
theorem zeS (n:zt):(n.edges.filter λx=>!((λx=>!(x.fr==0)) x))=zS n:=by unfold zS;congr 1;try (funext x;simp)
theorem zaI (p:Nat->Bool) (n:zt) (x:qn) (w:World) (hE:edE.In (World.hide w p) n.edges x.ae x.ce) (hp:∀k,p k=true->k<w.heap.size) :
 Calls Tryz.prog 147 #[ye n x] w (ZX p (zS n) w):=by
 have eg:∀args w,(callFunc 217 args).run Tryz.prog w=.ok (.enter 217 args) w:=enters_of Tryz.func217 (by kernel_rfl) rfl;have hlen:=hE.len;have HE:=Lib.hid hE;have HPo:Hid (∀v w',edE.Own 77 p w' w.heap.size v (zS n)->Below w.heap.size w w'->∃a c,v=.slice a (zS n).length c/\ZX p (zS n) w (.returned v) w'):=λv w' h1 h2=>by
  have hl:(zS n).length<=n.edges.length:=List.length_filter_le _ _;obtain⟨a,c,rfl,h3⟩:=h1.sliceP (by omega) λk hk=>by
   cases h:p k with
   |false=>rfl
   |true=>have:=hp k h;omega
  exact⟨a,c,rfl,⟨a,c,rfl,h3⟩,h2⟩
 have HD:Hid (∀W v,w.heap.size<=W.heap.size->edE.Own 77 p W w.heap.size v n.edges->Calls Tryz.prog 215 #[v,.func (.func 217) #[] #[]] W (Xb p w.heap.size v (zS n) W)):=λW v hW h=>by rw[←zeS];exact Xt _ eg #[] _ _ zi6 (λ_ _ _ _=>trivial) p _ v (λ_ _ _ _=>trivial) n.edges W h trivial hlen
 have HC:Hid (∀W,Below w.heap.size w W->Calls Tryz.prog 216 #[.slice x.ae n.edges.length x.ce] W (yR edE 77 p n.edges W)):=λW hW=>zeu p n.edges x.ae x.ce W (HE.out.keep (zg hW λ_ _ h=>h));clear hE hp eg;rw[zz];generalize ZX p (zS n) w=Po at HPo⊢;generalize zS n=R at HPo HD;have hz0:w.heap.size+1<=(w.alloc (.cells #[.int .i64 n.states,.slice x.ae n.edges.length x.ce,.slice x.aa n.accept.length x.ca] 33)).heap.size:=by simp
 go_enter Tryz.func147, Tryz.ntmps147;go_wp2_with fail;refine(HC.out _ bel).mono ?_;rintro e w5 ⟨⟨v,rfl,hO⟩,hb5⟩;have hO2:edE.Own 77 p w5 w.heap.size v n.edges:=by obtain⟨xs,h1,h2⟩:=hO;refine⟨xs,⟨h1.1,h1.2.imp id ?_⟩,h2⟩;rintro ⟨g,cap,cur,q1,q2,q3⟩;exact⟨g,cap,cur,q1,by omega,q3⟩
 have HOw:=Lib.hid hO2;have Hb5:Hid (Below w.heap.size w w5):=((Below.refl w.heap.size w).alloc (Nat.le_refl _) _).trans (hb5.mono (by simp));have hz5:=Hb5.out.size;obtain⟨va,vc,hv,_⟩:=hO.slice hlen;subst hv;have HDl:=Lib.hid (HD.out w5 _ hz5 hO2);clear hO hO2 hb5 HC HD;go_wp2_with fail;refine HDl.out.mono ?_;rintro e w6 ⟨v',rfl,hO6,hg6⟩;have HB6:Hid (Below w.heap.size w w6):=Zp Hb5.out hg6 hz5 λk hk=>by obtain⟨xs,h1,_⟩:=HOw.out;exact(h1.lt k hk).1
 obtain⟨a6,c6,hv,h6⟩:=HPo.out v' w6 hO6 HB6.out;subst hv;have H6:=Lib.hid h6;clear h6 hO6 hg6;go_wp2_with fail;first|exact H6.out|(go_ret;exact H6.out)
theorem zdA (n:zt):(n.edges.filter λx=>!((λx=>x.fr==0) x))=yq n:=by unfold yq;congr 1;try (funext x;simp)
theorem zdz (p:Nat->Bool) (n:zt) (x:qn) (w:World) (hE:edE.In (World.hide w p) n.edges x.ae x.ce) (hp:∀k,p k=true->k<w.heap.size) :
 Calls Tryz.prog 151 #[ye n x] w (ZX p (yq n) w):=by
 have eg:∀args w,(callFunc 220 args).run Tryz.prog w=.ok (.enter 220 args) w:=enters_of Tryz.func220 (by kernel_rfl) rfl;have hlen:=hE.len;have HE:=Lib.hid hE;have HPo:Hid (∀v w',edE.Own 77 p w' w.heap.size v (yq n)->Below w.heap.size w w'->∃a c,v=.slice a (yq n).length c/\ZX p (yq n) w (.returned v) w'):=λv w' h1 h2=>by
  have hl:(yq n).length<=n.edges.length:=List.length_filter_le _ _;obtain⟨a,c,rfl,h3⟩:=h1.sliceP (by omega) λk hk=>by
   cases h:p k with
   |false=>rfl
   |true=>have:=hp k h;omega
  exact⟨a,c,rfl,⟨a,c,rfl,h3⟩,h2⟩
 have HD:Hid (∀W v,w.heap.size<=W.heap.size->edE.Own 77 p W w.heap.size v n.edges->Calls Tryz.prog 215 #[v,.func (.func 220) #[] #[]] W (Xb p w.heap.size v (yq n) W)):=λW v hW h=>by rw[←zdA];exact Xt _ eg #[] _ _ zin (λ_ _ _ _=>trivial) p _ v (λ_ _ _ _=>trivial) n.edges W h trivial hlen
 have HC:Hid (∀W,Below w.heap.size w W->Calls Tryz.prog 216 #[.slice x.ae n.edges.length x.ce] W (yR edE 77 p n.edges W)):=λW hW=>zeu p n.edges x.ae x.ce W (HE.out.keep (zg hW λ_ _ h=>h));clear hE hp eg;rw[zz];generalize ZX p (yq n) w=Po at HPo⊢;generalize yq n=R at HPo HD;have hz0:w.heap.size+1<=(w.alloc (.cells #[.int .i64 n.states,.slice x.ae n.edges.length x.ce,.slice x.aa n.accept.length x.ca] 33)).heap.size:=by simp
 go_enter Tryz.func151, Tryz.ntmps151;go_wp2_with fail;refine(HC.out _ bel).mono ?_;rintro e w5 ⟨⟨v,rfl,hO⟩,hb5⟩;have hO2:edE.Own 77 p w5 w.heap.size v n.edges:=by obtain⟨xs,h1,h2⟩:=hO;refine⟨xs,⟨h1.1,h1.2.imp id ?_⟩,h2⟩;rintro ⟨g,cap,cur,q1,q2,q3⟩;exact⟨g,cap,cur,q1,by omega,q3⟩
 have HOw:=Lib.hid hO2;have Hb5:Hid (Below w.heap.size w w5):=((Below.refl w.heap.size w).alloc (Nat.le_refl _) _).trans (hb5.mono (by simp));have hz5:=Hb5.out.size;obtain⟨va,vc,hv,_⟩:=hO.slice hlen;subst hv;have HDl:=Lib.hid (HD.out w5 _ hz5 hO2);clear hO hO2 hb5 HC HD;go_wp2_with fail;refine HDl.out.mono ?_;rintro e w6 ⟨v',rfl,hO6,hg6⟩;have HB6:Hid (Below w.heap.size w w6):=Zp Hb5.out hg6 hz5 λk hk=>by obtain⟨xs,h1,_⟩:=HOw.out;exact(h1.lt k hk).1
 obtain⟨a6,c6,hv,h6⟩:=HPo.out v' w6 hO6 HB6.out;subst hv;have H6:=Lib.hid h6;clear h6 hO6 hg6;go_wp2_with fail;first|exact H6.out|(go_ret;exact H6.out)
def ziR (n:zt):Prop:=∀e∈n.edges,0<=e.fr/\e.fr<=100000/\0<=e.to/\e.to<=100000
theorem xN.vlt {q:Nat->Bool} {k:Nat} {w0 w:World} {st:Int} {L:List zk} {ve va:Value} (h:xN q k w0 w st L ve va):∀j,ve.ownBlock=some j->w0.heap.size<=j/\j<w.heap.size:=by obtain⟨xs,h1,_⟩:=h.es;exact h1.lt
theorem xN.hlt {q:Nat->Bool} {k:Nat} {w0 w:World} {st:Int} {L:List zk} {ve va:Value} (h:xN q k w0 w st L ve va) (hq:∀j,q j=true->j<w.heap.size):∀j,hid q ve j=true->j<w.heap.size:=λj hj=>(ze.1 hj).elim (hq j) λe=>(h.vlt j e).2
theorem zU.kpq {k:Nat} {w w':World} {v v':Value} {q:Nat->Bool} (h:zU k w v w' v') (hk:q k=true):Kp (World.hide w (hid q v)) (World.hide w' (hid q v')):=h.kp hk λ_ _ h=>h
theorem yB {q:Nat->Bool} {v:Value} {w w':World} (hb:Below w.heap.size w w'):Kp (World.hide w (hid q v)) (World.hide w' (hid q v)):=zg hb λ_ _ h=>h
theorem zax (l:List Int) (n:zt) (base:Int) {i:Nat} (hi:i<l.length):zO (l.take (i+1)) n base=zO (l.take i) n base++(zS n).map λf=>mvE f (l[i]'hi) (base+f.to):=by unfold zO;rw[List.take_succ_eq_append_getElem hi,List.flatMap_append];simp
theorem Qe {q:Nat->Bool} {k:Nat} {w0 w:World} {st:Int} {L:List zk} {ve va:Value} (hB:xN q k w0 w st L ve va) (hq:∀j,q j=true->j<w.heap.size) (l:List Int) (al:Option Addr) (cl:Nat) (n:zt) (x:qn) (base:Int)
 (hI:IntsIn (World.hide w (hid q ve)) l al cl) (hE:edE.In (World.hide w (hid q ve)) n.edges x.ae x.ce) (hends:ziR n) (hb0:0<=base) (hb1:base<=100000) :
 Calls Tryz.prog 150 #[.pointer (some ⟨k,0,none⟩),.slice al l.length cl,ye n x,.int .i64 base] w (yu q k w0 w st (L++zO l n base) ve va):=by
 have hll:=hI.2.1;have hel:=hE.len;have hfl:(zS n).length<=n.edges.length:=List.length_filter_le _ _;have HA:Hid (l.length=0\/∃b off,al=some ⟨b,off,none⟩):=zw.addr hI;have HAt0:Hid (L++zO (l.take 0) n base=L):=by show _=_;simp[zO]
 have HAtS:Hid (∀i (hi:i<l.length),L++zO (l.take (i+1)) n base=(L++zO (l.take i) n base)++(zS n).map λf=>mvE f (l[i]'hi) (base+f.to)):=λi hi=>by rw[zax l n base hi,List.append_assoc]
 have HAtA:Hid (L++zO (l.take l.length) n base=L++zO l n base):=by show _=_;rw[List.take_length]
 have HEn:Hid (∀m (hm:m<(zS n).length),0<=((zS n)[m]'hm).to/\((zS n)[m]'hm).to<=100000):=λm hm=>(hends _ (List.mem_filter.1 (List.getElem_mem hm)).1).2.2;have HPo:Hid (∀ve' w',xN q k w0 w' st (L++zO l n base) ve' va->zU k w ve w' ve'->yu q k w0 w st (L++zO l n base) ve va (.returned (.tuple #[])) w'):=λve' w' g1 g2=>⟨rfl,ve',g1,g2⟩;have HF:Hid (∀W v,xN q k w0 W st [] v va\/True->zU k w ve W v->(∀j,hid q v j=true->j<W.heap.size)->Calls Tryz.prog 147 #[ye n x] W (ZX (hid q v) (zS n) W)):=λW v _ hs hh=>zaI (hid q v) n x W (hE.keep (hs.kpq hB.qk)) hh;have HIk:Hid (∀W v,zU k w ve W v->IntsIn W l al cl):=λW v hs=>hI.keep λa u ha=>zc _ _ (hs.kpq hB.qk a u ha);have Hq:=Lib.hid hq;have HB:=Lib.hid hB;have hqk:=hB.qk;clear hI hE hends hB hq;generalize yu q k w0 w st (L++zO l n base) ve va=Po at HPo⊢;generalize hAT:(λi=>L++zO (l.take i) n base)=AT;have HAT:Hid (∀i,AT i=L++zO (l.take i) n base):=λi=>by rw[←hAT]
 have HT0:Hid (AT 0=L):=by show _=_;rw[HAT.out,HAt0.out]
 have HTS:Hid (∀i (hi:i<l.length),AT (i+1)=AT i++(zS n).map λf=>mvE f (l[i]'hi) (base+f.to)):=λi hi=>by rw[HAT.out,HAT.out];exact HAtS.out i hi
 have HTA:Hid (AT l.length=L++zO l n base):=by show _=_;rw[HAT.out];exact HAtA.out
 clear hAT HAT HAt0 HAtS HAtA;generalize L++zO l n base=LA at HPo HTA;generalize zS n=F at HTS HEn HF hfl;rw[zz];simp only[zz]at HF;have HB1:Hid (zU k w ve (w.alloc (.cells #[.int .i64 n.states,.slice x.ae n.edges.length x.ce,.slice x.aa n.accept.length x.ca] 33)) ve):=zU.below ve ((Below.refl _ _).alloc (Nat.le_refl _) _);have HD1:Hid (xN q k w0 (w.alloc (.cells #[.int .i64 n.states,.slice x.ae n.edges.length x.ce,.slice x.aa n.accept.length x.ca] 33)) st L ve va):=HB.out.below ((Below.refl _ _).alloc (Nat.le_refl _) _);have hx0:(w.alloc (.cells #[.int .i64 n.states,.slice x.ae n.edges.length x.ce,.slice x.aa n.accept.length x.ca] 33)).heap[w.heap.size]? = some (.cells #[.int .i64 n.states,.slice x.ae n.edges.length x.ce,.slice x.aa n.accept.length x.ca] 33 (0,0)):=zh rfl;have hvk:∀j,ve.ownBlock=some j->j<w.heap.size:=λj hj=>(HB.out.vlt j hj).2;have hkk:=HB.out.klt;go_enter Tryz.func150, Tryz.ntmps150;go_wp2_with fail;generalize hW1:w.alloc (.cells #[.int .i64 n.states,.slice x.ae n.edges.length x.ce,.slice x.aa n.accept.length x.ca] 33)=W1 at HB1 HD1 hx0⊢;have hz1:w.heap.size+1<=W1.heap.size:=by rw[←hW1];simp
 clear hW1;go_loopw [14,9,11] (λi _ _ wr=>∃(m:Nat) (v:Value),i=.int .i64 m/\m<=l.length/\Hid (xN q k w0 wr st (AT m) v va)/\Hid (zU k W1 ve wr v)) (λi _ _ _=>l.length-(intOf i).toNat);case atStart=>exact⟨0,ve,rfl,Nat.zero_le _,by rw[HT0.out];exact HD1,zU.refl _ _ _⟩
 case round =>
  obtain⟨m,v,rfl,hm,HD,HSt⟩:=hrel;have HSw:Hid (zU k w ve wr v):=HB1.out.trans HSt.out;have hzr:=HSt.out.size;by_cases hlt:m<l.length
  ·obtain⟨bl,ol,hla⟩:=HA.out.resolve_left (by omega);subst hla;have g0:=(HIk.out wr v HSw.out).get rfl hlt;have hbx:wr.heap[w.heap.size]? = some (.cells #[.int .i64 n.states,.slice x.ae n.edges.length x.ce,.slice x.aa n.accept.length x.ca] 33 (0,0)):=(HSt.out.block _ (by omega) (by omega) (λe=>by have:=hvk _ e;omega)).trans hx0;have HTm:=Lib.hid (HTS.out m hlt);have c0:=zb hbx 0;have c1:=zb hbx 1;have c2:=zb hbx 2;simp at c0 c1 c2;have HFr:=Lib.hid (HF.out wr v (Or.inr trivial) HSw.out (HD.out.hlt λj hj=>Nat.lt_of_lt_of_le (Hq.out j hj) (by omega)));have e0:l.getD m 0=l[m]'hlt:=by simp[List.getD_eq_getElem?_getD,hlt]
   rw[e0]at g0;generalize (l[m]'hlt)=s at g0 HTm;clear e0 hbx;go_wp2_with fail;refine HFr.out.mono ?_;rintro e w5 ⟨⟨fa,fc,rfl,hF⟩,hb5⟩;have HF5:=Lib.hid hF;have HFA:Hid (F.length=0\/∃b off,fa=some ⟨b,off,none⟩):=hF.addr;have HD5:=Lib.hid (HD.out.below hb5);have HS5:Hid (zU k W1 ve w5 v):=HSt.out.trans (zU.below v hb5);have hz5:=hb5.size;clear hF hb5 c0 c1 c2 g0;go_wp2_with fail;go_loopw [21,11] (λi _ wr=>∃(t:Nat) (u:Value),i=.int .i64 t/\t<=F.length/\Hid (xN q k w0 wr st (AT m++(F.take t).map λf=>mvE f s (base+f.to)) u va)/\Hid (zU k w5 v wr u)) (λi _ _=>F.length-(intOf i).toNat);case atStart=>exact⟨0,v,rfl,Nat.zero_le _,by simpa using HD5,zU.refl _ _ _⟩
   case round =>
    obtain⟨t,u,rfl,ht,HDi,HSi⟩:=hrel;by_cases hlt2:t<F.length
    ·obtain⟨bf,of,hfa⟩:=HFA.out.resolve_left (by omega);subst hfa;have HFi:=Lib.hid (HF5.out.keep (HSi.out.kpq hqk));obtain⟨ag,cg,aS,cs,g0,g1,g2,g3,h1,h2⟩:=yz (HF5.out.keep (HSi.out.kpq hqk)) rfl hlt2;have e0:=zc _ _ g0;have e1:=zc _ _ g1;have e2:=zc _ _ g2;have e3:=zc _ _ g3;have HEt:=HEn.out t hlt2;have HTt:Hid (∀z,AT m++(F.take t).map (λf=>mvE f s (base+f.to))++[mvE (F[t]'hlt2) s z]=AT m++(F.take t).map (λf=>mvE f s (base+f.to))++[mvE (F[t]'hlt2) s z]):=λ_=>rfl;have HTn:Hid (AT m++(F.take t).map (λf=>mvE f s (base+f.to))++[mvE (F[t]'hlt2) s (base+(F[t]'hlt2).to)]=AT m++(F.take (t+1)).map λf=>mvE f s (base+f.to)):=by
      show _=_;rw[List.take_succ_eq_append_getElem hlt2,List.map_append,List.append_assoc];rfl
     have HM:Hid (∀W z,Below wr.heap.size wr W->Calls Tryz.prog 152 #[.pointer (some ⟨k,0,none⟩),yX (F[t]'hlt2) ag cg aS cs,.int .i64 s,.int .i64 z] W (yu q k w0 W st ((AT m++(F.take t).map λf=>mvE f s (base+f.to))++[mvE (F[t]'hlt2) s z]) u va)):=λW z hW=>zaU (HDi.out.below hW) (F[t]'hlt2) ag cg aS cs s z (h1.keep (yB hW)) (h2.keep (yB hW));clear g0 g1 g2 g3 h1 h2 HTt;unfold yX at HM;generalize (F[t]'hlt2)=y at e0 e1 e2 e3 HEt HTn HM;obtain⟨hy0,hy1⟩:=HEt;go_wp2_with (go_at_call 152;go_must (refine(HM.out _ _ bel).mono ?_;rintro e w7 ⟨rfl,u',hD7,hS7⟩));have HD7:Hid (xN q k w0 w7 st (AT m++(F.take (t+1)).map λf=>mvE f s (base+f.to)) u' va):=by show xN _ _ _ _ _ _ _ _;rw[←HTn.out];exact hD7
     have HS7:Hid (zU k w5 v w7 u'):=HSi.out.trans ((zU.below u ((Below.refl wr.heap.size wr).alloc (Nat.le_refl _) _)).trans hS7);go_roundw;case rel=>exact⟨t+1,u',by go_num,by omega,HD7.out,HS7.out⟩
     case measure=>(simp[intOf];try omega)
    ·obtain rfl:t=F.length:=by omega
     have HD8:Hid (xN q k w0 wr st (AT (m+1)) u va):=by show xN _ _ _ _ _ _ _ _;rw[HTm.out];have:=HDi.out;rwa [List.take_length]at this
     have HS8:Hid (zU k W1 ve wr u):=HS5.out.trans HSi.out;go_wp2_with fail;go_roundw;case rel=>exact⟨m+1,u,by go_num,by omega,HD8.out,HS8.out⟩
     case measure=>(simp[intOf];try omega)
  ·obtain rfl:m=l.length:=by omega
   have HDf:Hid (xN q k w0 wr st LA v va):=by show xN _ _ _ _ _ _ _ _;rw[←HTA.out];exact HD.out
   go_wp2_with fail;first|exact HPo.out _ _ HDf.out HSw.out|(refine bodyPost_ret (results_none rfl _ _ _) rfl ?_;exact HPo.out _ _ HDf.out HSw.out)
def LeB (o q:List Bool):Prop:=o.length=q.length/\∀k,o.getD k false=true->q.getD k false=true
theorem LeB.refl (o:List Bool):LeB o o:=⟨rfl,λ_ h=>h⟩
theorem LeB.trans {o q r:List Bool} (h:LeB o q) (h2:LeB q r):LeB o r:=⟨h.1.trans h2.1,λk hk=>h2.2 k (h.2 k hk)⟩
theorem LeB.antisymm {o q:List Bool} (h:LeB o q) (h2:LeB q o):o=q:=by refine List.ext_getElem h.1 λk hk hk'=>?_;have e1:=h.2 k;have e2:=h2.2 k;simp only[List.getD_eq_getElem?_getD,List.getElem?_eq_getElem hk,List.getElem?_eq_getElem hk',Option.getD_some]at e1 e2;cases h3:o[k]<;>cases h4:q[k]<;>simp_all
theorem Y7 {o:List Bool} {k j:Nat}:(o.set k true).getD j false=(o.getD j false||(decide (k=j)&&decide (j<o.length))):=by
 simp only[List.getD_eq_getElem?_getD,List.getElem?_set];by_cases h:k=j
 ·subst h;by_cases h2:k<o.length
  ·simp[h2]
  ·simp[h2,List.getElem?_eq_none (Nat.le_of_not_lt h2)]
 ·simp[h]
theorem Xo (o:List Bool) (p:Nat×Nat):LeB o (zJ o p):=by
 refine⟨(YO o p).symm,λk hk=>?_⟩;unfold zJ;split
 ·rw[Y7,hk,Bool.true_or]
 ·exact hk
theorem Xm (l:List (Nat×Nat)):∀o,LeB o (l.foldl zJ o):=by
 induction l with
 |nil=>exact LeB.refl
 |cons p l ih=>intro o;exact(Xo o p).trans (ih _)
theorem QU {l:List (Nat×Nat)}:∀{o:List Bool},zn l o=o->∀p∈l,zJ o p=o:=by
 unfold zn
 induction l with
 |nil=>intro _ _ p hp;cases hp
 |cons q l ih =>
  intro o h p hp;rw[List.foldl_cons]at h;have h1:zJ o q=o:=by have a:=Xo o q;have b:=Xm l (zJ o q);rw[h]at b;exact(a.antisymm b).symm
  rw[h1]at h;rcases List.mem_cons.1 hp with rfl|hp
  ·exact h1
  ·exact ih h p hp
inductive Rch (l:List (Nat×Nat)):Nat->Nat->Prop where
 |refl (s:Nat):Rch l s s
 |step {s t u:Nat} (h:Rch l s t) (hp:(t,u)∈l):Rch l s u
theorem Rch.head {l:List (Nat×Nat)} {s t u:Nat} (hp:(s,t)∈l) (h:Rch l t u):Rch l s u:=by
 induction h with
 |refl=>exact(Rch.refl s).step hp
 |step _ hq ih=>exact ih.step hq
theorem Rch.trans {l:List (Nat×Nat)} {s t u:Nat} (h:Rch l s t) (h2:Rch l t u):Rch l s u:=by
 induction h2 with
 |refl=>exact h
 |step _ hq ih=>exact ih.step hq
def Snd (l:List (Nat×Nat)) (o q:List Bool):Prop:=∀k,q.getD k false=true->∃s,o.getD s false=true/\Rch l s k
theorem ziE {l:List (Nat×Nat)} {o q:List Bool} {p:Nat×Nat} (h:Snd l o q) (hp:p∈l):Snd l o (zJ q p):=by
 intro k hk;unfold zJ at hk;split at hk
 ·rename_i hc;rw[Y7]at hk;simp only[Bool.and_eq_true]at hc;rw[Bool.or_eq_true]at hk;rcases hk with hk|hk
  ·exact h k hk
  ·simp only[Bool.and_eq_true,decide_eq_true_eq]at hk;obtain⟨s,h1,h2⟩:=h _ hc.1;exact⟨s,h1,by rw[←hk.1];exact h2.step hp⟩
 ·exact h k hk
theorem zgU {l:List (Nat×Nat)} {o:List Bool}:∀(m:List (Nat×Nat)) (q:List Bool),(∀p∈m,p∈l)->Snd l o q->Snd l o (m.foldl zJ q):=by
 intro m
 induction m with
 |nil=>intro q _ h;exact h
 |cons p m ih=>intro q hm h;exact ih _ (λx hx=>hm x (List.mem_cons_of_mem _ hx)) (ziE h (hm p (List.mem_cons_self ..)))
theorem zjX {l:List (Nat×Nat)} {o:List Bool}:∀(n:Nat) (q:List Bool),Snd l o q->Snd l o (yM l n q):=by
 intro n
 induction n with
 |zero=>intro q h;exact h
 |succ n ih=>intro q h;exact ih _ (zgU l q (λ_ h=>h) h)
theorem zev (l:List (Nat×Nat)):∀n o,LeB o (yM l n o):=by
 intro n
 induction n with
 |zero=>exact LeB.refl
 |succ n ih=>intro o;exact(Xm l o).trans (ih _)
theorem Qk (l:List (Nat×Nat)) (o:List Bool):(yT l o).length=o.length:=Zr _ _ _
theorem zc6 {l:List (Nat×Nat)} {o:List Bool} (hl:∀p∈l,p.2<o.length) (k:Nat):(yT l o).getD k false=true<->∃s,o.getD s false=true/\Rch l s k:=by
 refine⟨λh=>zjX _ _ (λk hk=>⟨k,hk,Rch.refl k⟩) k h,?_⟩;rintro ⟨s,h1,h2⟩;have hfix:=QU (Z6 l o.length o (Ya o))
 induction h2 with
 |refl=>exact(zev l _ o).2 _ h1
 | @step t u h2 hp ih =>
  have h3:=hfix _ hp;unfold yT at ih⊢;unfold zJ at h3;by_cases hb:(yM l o.length o).getD u false=true
  ·exact hb
  ·have hc:((yM l o.length o).getD t false&&!(yM l o.length o).getD u false)=true:=by rw[ih];simpa using hb
   rw[if_pos hc]at h3;rw[←h3,Y7];have hlt:=hl _ hp;simp only at hlt;simp[Zr,hlt]
theorem zaT (st:Nat) (l:List Nat) (k:Nat):(YC st l).getD k false=true<->k∈l/\k<st:=by
 unfold YC;have:∀(o:List Bool),(l.foldl (λo s=>o.set s true) o).getD k false=true<->o.getD k false=true\/(k∈l/\k<o.length):=by
  induction l with
  |nil=>intro o;simp
  |cons a l ih =>
   intro o;rw[List.foldl_cons,ih,Y7];simp only[Bool.or_eq_true,Bool.and_eq_true,decide_eq_true_eq,List.length_set,List.mem_cons];constructor
   ·rintro ((h|⟨rfl,h⟩)|⟨h,h2⟩)
    ·exact Or.inl h
    ·exact Or.inr ⟨Or.inl rfl,h⟩
    ·exact Or.inr ⟨Or.inr h,h2⟩
   ·rintro (h|⟨rfl|h,h2⟩)
    ·exact Or.inl (Or.inl h)
    ·exact Or.inl (Or.inr ⟨rfl,h2⟩)
    ·exact Or.inr ⟨h,h2⟩
 rw[this];simp only[List.length_replicate,List.getD_eq_getElem?_getD,List.getElem?_replicate];constructor
 ·rintro (h|h)
  ·split at h<;>simp at h
  ·exact h
 ·exact Or.inr
theorem zA {n:zt}:zC n=true<->(1<=n.states/\n.states<=256/\n.edges.length<=4096)/\(∀e∈n.edges,edgeOk n.states e=true)/\X5 n.states n.accept n.accept.length=true:=by unfold zC;simp only[Bool.and_eq_true,decide_eq_true_eq,List.all_eq_true,and_assoc]
theorem zZ {st:Int} {e:zk}:edgeOk st e=true<->(0<=e.fr/\e.fr<st/\0<=e.to/\e.to<st)/\(∀g∈e.guards,okX g=true)/\(∀b∈e.sets,YT b=true):=by unfold edgeOk;simp only[Bool.and_eq_true,decide_eq_true_eq,List.all_eq_true,and_assoc]
theorem Z4 {st:Int} {l:List Int}:X5 st l l.length=true<->(∀a∈l,0<=a/\a<st)/\l.Pairwise (·<·):=by
 have key:X5 st l l.length=true<->∀i,i<l.length->0<=l.getD i 0/\l.getD i 0<st/\(0<i->l.getD (i-1) 0<l.getD i 0):=by unfold X5;simp only[List.all_eq_true,List.mem_range,decide_eq_true_eq]
 rw[key];constructor
 ·intro h;refine⟨λa ha=>?_,?_⟩
  ·obtain⟨i,hi,rfl⟩:=List.getElem_of_mem ha;have:=h i hi;simp only[List.getD_eq_getElem?_getD,List.getElem?_eq_getElem hi,Option.getD_some]at this;exact⟨this.1,this.2.1⟩
  ·rw[List.pairwise_iff_getElem];intro i j hi hj hij;have step:∀d,i+d<l.length->l.getD i 0<=l.getD (i+d) 0:=by
    intro d
    induction d with
    |zero=>intro _;exact Int.le_refl _
    |succ d ih =>intro hd;have h1:=ih (by omega);have h2:=(h (i+d+1) (by omega)).2.2 (by omega);rw[show i+d+1-1=i+d by omega]at h2;rw[←Nat.add_assoc];omega
   have h1:=step (j-1-i) (by omega);have h2:=(h j hj).2.2 (by omega);rw[show i+(j-1-i)=j-1 by omega]at h1;simp only[List.getD_eq_getElem?_getD,List.getElem?_eq_getElem hi,List.getElem?_eq_getElem hj,Option.getD_some]at h1 h2;omega
 ·rintro ⟨h1,h2⟩ i hi;rw[List.pairwise_iff_getElem]at h2;simp only[List.getD_eq_getElem?_getD,List.getElem?_eq_getElem hi,Option.getD_some];refine⟨(h1 _ (List.getElem_mem hi)).1,(h1 _ (List.getElem_mem hi)).2,λh0=>?_⟩;have:=h2 (i-1) i (by omega) hi (by omega);rw[List.getElem?_eq_getElem (by omega)];exact this
theorem zjl {n:zt} (h:zC n=true):0<n.states.toNat:=by have:=(zA.1 h).1;omega
theorem zg1 {n:zt} (h:zC n=true):∀p∈Yq n,p.1<n.states.toNat/\p.2<n.states.toNat:=by intro p hp;obtain⟨e,he,rfl⟩:=List.mem_map.1 hp;have:=(zZ.1 ((zA.1 h).2.1 e he)).1;constructor<;>simp only<;>omega
theorem Xg {n:zt} (h:zC n=true) (s:Nat):(yl n).getD s false=true<->Rch (Yq n) 0 s:=by
 unfold yl;rw[zc6 (by intro p hp;rw[Yg];exact(zg1 h p hp).2)];constructor
 ·rintro ⟨q,h1,h2⟩;obtain⟨h3,_⟩:=(zaT _ _ _).1 h1;obtain rfl:=List.mem_singleton.1 h3;exact h2
 ·intro h2;exact⟨0,(zaT _ _ _).2 ⟨by simp,zjl h⟩,h2⟩
section
variable {a b : List Bool}
theorem za1:yp a b 0=0:=by simp[yp]
end
end Go.Proofs.YtnfkbliokjjggaaGreatDoor
