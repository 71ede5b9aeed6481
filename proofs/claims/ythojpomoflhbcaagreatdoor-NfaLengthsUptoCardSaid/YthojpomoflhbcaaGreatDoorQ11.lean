/- nfa.Valid. -/
import Derived.Test.YthojpomoflhbcaaGreatDoorQ09
import Derived.Test.YthojpomoflhbcaaGreatDoorQ10
import Derived.Deep.LoopGhost
import Derived.Test.YthojpomoflhbcaaGreatDoorQ08
import Derived.Test.YthojpomoflhbcaaGreatDoorQ06
set_option maxHeartbeats 8000000
set_option maxRecDepth 100000
set_option linter.unusedSimpArgs false
set_option linter.unusedVariables false
set_option linter.unnecessarySimpa false
namespace Go.Proofs.YthojpomoflhbcaaGreatDoor
open Go.RowKit
attribute [local go_sem ↓] Go.wp_at_zero Go.wp_at_succ
theorem zH (n:zm) (x:YL):xq n x=.agg #[.int .i64 n.states,.slice x.ae n.edges.length x.ce,.slice x.aa n.accept.length x.ca]:=rfl
def yH (n:zm):Prop:=∀e∈n.edges,XK e
theorem XX (n:zm) (x:YL) (w:World) (hG:ZW w) (hE:xS w n x) (hs:yH n) :
 Calls Tryz.prog 32 #[xq n x] w λe' w'=>e'=.returned (.bool (zY n))/\Below w.heap.size w w':=by
 have HG:=Lib.hid hG;have H1:=Lib.hid hE.es;have H2:=Lib.hid hE.ac;have HS:=Lib.hid hs;have hl1:=hE.es.len;have hl2:=hE.ac.2.1;have HA1:=Lib.hid hE.es.addr;have HA2:Hid (n.accept.length=0\/∃b off,x.aa=some ⟨b,off,none⟩):=zr.addr hE.ac;have HR0:Hid (¬(1<=n.states/\n.states<=256/\n.edges.length<=4096)->zY n=false):=λh=>by unfold zY;rw[decide_eq_false h];rfl
 have HR1:Hid ((1<=n.states/\n.states<=256/\n.edges.length<=4096)->zY n=(n.edges.all (edgeOk n.states)&&zb0 n.states n.accept n.accept.length)):=λh=>by unfold zY;rw[decide_eq_true h,Bool.true_and]
 clear hE hG hs;rw[zH];generalize zY n=R at HR0 HR1⊢;obtain⟨st,es,ac⟩:=n;obtain⟨ae,ce,aa,ca⟩:=x;simp only at H1 H2 hl1 hl2 HA1 HA2 HR0 HR1⊢;have HSt:Hid (∀e∈es,XK e):=HS.out;clear HS;have HB0:Hid (Below w.heap.size w (w.alloc (.cells #[.int .i64 st,.slice ae es.length ce,.slice aa ac.length ca] 33))):=by show Below _ _ _;exact bel
 by_cases hA:st<1
 ·have hR:=HR0.out (by omega);subst hR;go_enter Tryz.func32, Tryz.ntmps32;go_wp2_with fail;go_ret;exact⟨rfl,HB0.out⟩
 by_cases hB:256<st
 ·have hR:=HR0.out (by omega);subst hR;go_enter Tryz.func32, Tryz.ntmps32;go_wp2_with fail;go_ret;exact⟨rfl,HB0.out⟩
 by_cases hC:4096<es.length
 ·have hR:=HR0.out (by omega);subst hR;have hC2:(4096:Int)<(es.length:Int):=by omega
  go_enter Tryz.func32, Tryz.ntmps32;go_wp2_with fail;go_ret;exact⟨rfl,HB0.out⟩
 have HRt:=Lib.hid (HR1.out ⟨by omega,by omega,by omega⟩);have hC2:¬(4096:Int)<(es.length:Int):=by omega
 clear HR0 HR1;go_enter Tryz.func32, Tryz.ntmps32;go_wp2_with fail;generalize hW1:w.alloc (.cells #[.int .i64 st,.slice ae es.length ce,.slice aa ac.length ca] 33)=W1 at HB0⊢;have HX0:Hid (W1.cell? ⟨w.heap.size,0,none⟩=some (.int .i64 st)):=by show _=_;rw[←hW1];simp
 have HX2:Hid (W1.cell? ⟨w.heap.size,2,none⟩=some (.slice aa ac.length ca)):=by show _=_;rw[←hW1];simp
 have hz1:W1.heap.size=w.heap.size+1:=by rw[←hW1];simp
 have hz1a:w.heap.size<W1.heap.size:=by omega
 clear hW1 hz1 hC hC2;go_loopw [24,4] (λi _ wr=>∃k:Nat,i=.int .i64 k/\k<=es.length/\Hid (∀j (hj:j<es.length),j<k->edgeOk st (es[j]'hj)=true)/\Hid (Below W1.heap.size W1 wr)) (λi _ _=>es.length-(intOf i).toNat);case atStart=>exact⟨0,rfl,Nat.zero_le _,λ_ _ h=>absurd h (by omega),Below.refl _ _⟩
 case round =>
  obtain⟨k,rfl,hk,HAl,HBr⟩:=hrel;have HBw:Hid (Below w.heap.size w wr):=HB0.out.trans (HBr.out.mono (by omega));have hzr:=HBr.out.size;by_cases hlt:k<es.length
  ·obtain⟨b,off,ha⟩:=HA1.out.resolve_left (by omega);subst ha;obtain⟨ag,cg,aS,cs,g0,g1,g2,g3,h1,h2⟩:=yR H1.out rfl hlt;have hn:=HSt.out _ (List.getElem_mem hlt);have HNx:Hid (edgeOk st (es[k]'hlt)=true->∀j (hj:j<es.length),j<k+1->edgeOk st (es[j]'hj)=true):=λhv j hj hjk=>by
    by_cases e:j=k
    ·subst e;exact hv
    ·exact HAl.out j hj (by omega)
   have HNo:Hid (edgeOk st (es[k]'hlt)=false->R=false):=λh=>by rw[HRt.out,zb8 hlt h];rfl
   have HV:=Lib.hid (λW (hW:Below wr.heap.size wr W)=>zhr (es[k]'hlt) ag cg aS cs st W (HG.out.below (HBw.out.trans (hW.mono HBw.out.size))) (h1.keep (za (HBw.out.trans (hW.mono HBw.out.size)))) (h2.keep (za (HBw.out.trans (hW.mono HBw.out.size)))) hn);have kk:=za HBw.out;have c0:=kk _ _ g0;have c1:=kk _ _ g1;have c2:=kk _ _ g2;have c3:=kk _ _ g3;have x0:∀o,(wr.alloc o).cell? ⟨w.heap.size,0,none⟩=some (.int .i64 st):=λo=>Lib.cell?_alloc_some _ ((HBr.out.cell (p:=⟨w.heap.size,0,none⟩) hz1a).trans HX0.out);clear g0 g1 g2 g3 kk hn h1 h2;unfold yT at HV;generalize (es[k]'hlt)=y at c0 c1 c2 c3 HNx HNo HV;cases hv:edgeOk st y with
   |true =>
    have HOk2:=Lib.hid (HNx.out hv);rw[hv]at HV;clear HNx HNo hv;go_wp2_with (go_at_call 69;go_must (refine(HV.out _ bel).mono ?_;rintro e w5 ⟨rfl,hb5⟩));have HB5:Hid (Below wr.heap.size wr w5):=((Below.refl wr.heap.size wr).alloc (Nat.le_refl _) _).trans (hb5.mono (by simp));go_roundw;case rel=>exact⟨k+1,by go_num,by omega,HOk2.out,HBr.out.trans (HB5.out.mono hzr)⟩
    case measure=>(simp[intOf];try omega)
   |false =>have hR:=HNo.out hv;subst hR;rw[hv]at HV;clear HNx HNo hv;go_wp2_with (go_at_call 69;go_must (refine(HV.out _ bel).mono ?_;rintro e w5 ⟨rfl,hb5⟩));have HB5:Hid (Below wr.heap.size wr w5):=((Below.refl wr.heap.size wr).alloc (Nat.le_refl _) _).trans (hb5.mono (by simp));go_ret;exact⟨rfl,HBw.out.trans (HB5.out.mono HBw.out.size)⟩
  ·obtain rfl:k=es.length:=by omega
   have HR2:Hid (R=zb0 st ac ac.length):=by show R=_;rw[HRt.out,QK λj hj=>HAl.out j hj hj,Bool.true_and]
   have x0:=(HBr.out.cell (p:=⟨w.heap.size,0,none⟩) hz1a).trans HX0.out;have x2:=(HBr.out.cell (p:=⟨w.heap.size,2,none⟩) hz1a).trans HX2.out;clear HAl HRt HX0 HX2 HA1 H1;go_wp2_with fail;go_loop [37,5,6] (λi _ _=>∃k:Nat,i=.int .i64 k/\k<=ac.length/\Hid (zb0 st ac k=true)) (λi _ _=>ac.length-(intOf i).toNat);case atStart=>exact⟨0,rfl,Nat.zero_le _,rfl⟩
   case round =>
    obtain⟨m,rfl,hm,HAm⟩:=hrel;by_cases hlt2:m<ac.length
    ·obtain⟨b,off,ha⟩:=HA2.out.resolve_left (by omega);subst ha;have g0:=(za HBw.out) _ _ (H2.out.get rfl hlt2);have HNo:Hid (decide (0<=ac.getD m 0/\ac.getD m 0<st/\(0<m->ac.getD (m-1) 0<ac.getD m 0))=false->R=false):=λh=>by rw[HR2.out];exact zkZ hlt2 h
     have HNx:Hid ((0<=ac.getD m 0/\ac.getD m 0<st/\(0<m->ac.getD (m-1) 0<ac.getD m 0))->zb0 st ac (m+1)=true):=λh=>by rw[zb4,HAm.out,decide_eq_true h];rfl
     cases m with
     |zero =>
      rw[Nat.add_zero]at g0;generalize ac.getD 0 0=y at g0 HNo HNx;by_cases h1:y<0
      ·have hR:=HNo.out (decide_eq_false (by omega));subst hR;clear HNo HNx;go_wp2_with fail;go_ret;exact⟨rfl,HBw.out⟩
      by_cases h2:st<=y
      ·have hR:=HNo.out (decide_eq_false (by omega));subst hR;clear HNo HNx;go_wp2_with fail;go_ret;exact⟨rfl,HBw.out⟩
      have HA2':=Lib.hid (HNx.out ⟨by omega,by omega,λh=>absurd h (Nat.lt_irrefl 0)⟩);clear HNo HNx;go_wp2_with fail;go_round;case rel=>exact⟨1,by go_num,by omega,HA2'.out⟩
      case measure=>(simp[intOf];try omega)
     |succ m =>
      have g1:=(za HBw.out) _ _ (H2.out.get rfl (show m<ac.length by omega));rw[Nat.add_sub_cancel]at HNo HNx;generalize ac.getD (m+1) 0=y at g0 HNo HNx;generalize ac.getD m 0=z at g1 HNo HNx;by_cases h1:y<0
      ·have hR:=HNo.out (decide_eq_false (by omega));subst hR;clear HNo HNx;go_wp2_with fail;go_ret;exact⟨rfl,HBw.out⟩
      by_cases h2:st<=y
      ·have hR:=HNo.out (decide_eq_false (by omega));subst hR;clear HNo HNx;go_wp2_with fail;go_ret;exact⟨rfl,HBw.out⟩
      by_cases h3:y<=z
      ·have hR:=HNo.out (decide_eq_false (by omega));subst hR;clear HNo HNx;go_wp2_with fail;go_ret;exact⟨rfl,HBw.out⟩
      have HA2':=Lib.hid (HNx.out ⟨by omega,by omega,λ_=>by omega⟩);clear HNo HNx;go_wp2_with fail;go_round;case rel=>exact⟨m+1+1,by go_num,by omega,HA2'.out⟩
      case measure=>(simp[intOf];try omega)
    ·obtain rfl:m=ac.length:=by omega
     have hR:R=true:=by rw[HR2.out,HAm.out]
     subst hR;go_wp2_with fail;go_ret;exact⟨rfl,HBw.out⟩
theorem zmB:zgm 206 #[] (λx=>!(x.fr==0)) (λ_=>True):=by
 rintro W x vs _ ⟨ag,cg,aS,cs,rfl,_⟩;show Calls _ _ #[.agg #[.int .i64 x.fr,.int .i64 x.to,.slice ag x.guards.length cg,.slice aS x.sets.length cs]] W λe W'=>e=.returned (.bool (!(x.fr==0)))/\Below W.heap.size W W';by_cases h:x.fr=0
 ·have h1:(x.fr != 0)=false:=by simp[h]
  have h2:(!(x.fr==0))=false:=by simp[h]
  rw[h2];go_enter Tryz.func206, Tryz.ntmps206;go_wp2_with fail;go_ret;exact⟨rfl,bel⟩
 ·have h1:(x.fr != 0)=true:=by simp[h]
  have h2:(!(x.fr==0))=true:=by simp[h]
  rw[h2];go_enter Tryz.func206, Tryz.ntmps206;go_wp2_with fail;go_ret;exact⟨rfl,bel⟩
theorem zlB:zgm 209 #[] (λx=>x.fr==0) (λ_=>True):=by
 rintro W x vs _ ⟨ag,cg,aS,cs,rfl,_⟩;show Calls _ _ #[.agg #[.int .i64 x.fr,.int .i64 x.to,.slice ag x.guards.length cg,.slice aS x.sets.length cs]] W λe W'=>e=.returned (.bool (x.fr==0))/\Below W.heap.size W W';by_cases h:x.fr=0
 ·have h1:(x.fr==0)=true:=by simp[h]
  rw[h1];go_enter Tryz.func209, Tryz.ntmps209;go_wp2_with fail;go_ret;exact⟨rfl,bel⟩
 ·have h1:(x.fr==0)=false:=by simp[h]
  rw[h1];go_enter Tryz.func209, Tryz.ntmps209;go_wp2_with fail;go_ret;exact⟨rfl,bel⟩
theorem znr (b:Nat) (s:Int):zgm 252 #[.pointer (some ⟨b,0,none⟩)] (λx=>!(x.fr==s)) (λW=>W.cell? ⟨b,0,none⟩=some (.int .i64 s)):=by
 rintro W x vs hc ⟨ag,cg,aS,cs,rfl,_⟩;show Calls _ _ #[.agg #[.int .i64 x.fr,.int .i64 x.to,.slice ag x.guards.length cg,.slice aS x.sets.length cs],.pointer (some ⟨b,0,none⟩)] W λe W'=>e=.returned (.bool (!(x.fr==s)))/\Below W.heap.size W W';have hco:∀o,(W.alloc o).cell? ⟨b,0,none⟩=some (.int .i64 s):=λo=>Lib.cell?_alloc_some _ hc;by_cases h:x.fr=s
 ·have h1:(x.fr != s)=false:=by simp[h]
  have h2:(!(x.fr==s))=false:=by simp[h]
  rw[h2];clear h h2;go_enter Tryz.func252, Tryz.ntmps252;go_wp2_with fail;go_ret;exact⟨rfl,bel⟩
 ·have h1:(x.fr != s)=true:=by simp[h]
  have h2:(!(x.fr==s))=true:=by simp[h]
  rw[h2];clear h h2;go_enter Tryz.func252, Tryz.ntmps252;go_wp2_with fail;go_ret;exact⟨rfl,bel⟩
def qS (p:Nat->Bool) (l:List zn) (w:World) (e:Ending) (w':World):Prop:=(∃a c,e=.returned (.slice a l.length c)/\edE.In (World.hide w' p) l a c)/\Below w.heap.size w w'
theorem Yv {B:Nat} {w0 w w':World} {row:Option Nat} (h:Below B w0 w) (hg:w.grownBy w' row) (hB:B<=w.heap.size) (hr:∀k,row=some k->B<=k):Below B w0 w':=h.grown hg hB hr
theorem zg5 (n:zm):(n.edges.filter λx=>!((λx=>!(x.fr==0)) x))=yo n:=by unfold yo;congr 1;try (funext x;simp)
theorem zcm (p:Nat->Bool) (n:zm) (x:YL) (w:World) (hE:edE.In (World.hide w p) n.edges x.ae x.ce) (hp:∀k,p k=true->k<w.heap.size) :
 Calls Tryz.prog 137 #[xq n x] w (qS p (yo n) w):=by
 have eg:∀args w,(callFunc 206 args).run Tryz.prog w=.ok (.enter 206 args) w:=enters_of Tryz.func206 (by kernel_rfl) rfl;have hlen:=hE.len;have HE:=Lib.hid hE;have HPo:Hid (∀v w',edE.Own 69 p w' w.heap.size v (yo n)->Below w.heap.size w w'->∃a c,v=.slice a (yo n).length c/\qS p (yo n) w (.returned v) w'):=λv w' h1 h2=>by
  have hl:(yo n).length<=n.edges.length:=List.length_filter_le _ _;obtain⟨a,c,rfl,h3⟩:=h1.sliceP (by omega) λk hk=>by
   cases h:p k with
   |false=>rfl
   |true=>have:=hp k h;omega
  exact⟨a,c,rfl,⟨a,c,rfl,h3⟩,h2⟩
 have HD:Hid (∀W v,w.heap.size<=W.heap.size->edE.Own 69 p W w.heap.size v n.edges->Calls Tryz.prog 204 #[v,.func (.func 206) #[] #[]] W (XJ p w.heap.size v (yo n) W)):=λW v hW h=>by rw[←zg5];exact YS _ eg #[] _ _ zmB (λ_ _ _ _=>trivial) p _ v (λ_ _ _ _=>trivial) n.edges W h trivial hlen
 have HC:Hid (∀W,Below w.heap.size w W->Calls Tryz.prog 205 #[.slice x.ae n.edges.length x.ce] W (yS edE 69 p n.edges W)):=λW hW=>zdn p n.edges x.ae x.ce W (HE.out.keep (zg hW λ_ _ h=>h));clear hE hp eg;rw[zH];generalize qS p (yo n) w=Po at HPo⊢;generalize yo n=R at HPo HD;have hz0:w.heap.size+1<=(w.alloc (.cells #[.int .i64 n.states,.slice x.ae n.edges.length x.ce,.slice x.aa n.accept.length x.ca] 33)).heap.size:=by simp
 go_enter Tryz.func137, Tryz.ntmps137;go_wp2_with fail;refine(HC.out _ bel).mono ?_;rintro e w5 ⟨⟨v,rfl,hO⟩,hb5⟩;have hO2:edE.Own 69 p w5 w.heap.size v n.edges:=by obtain⟨xs,h1,h2⟩:=hO;refine⟨xs,⟨h1.1,h1.2.imp id ?_⟩,h2⟩;rintro ⟨g,cap,cur,q1,q2,q3⟩;exact⟨g,cap,cur,q1,by omega,q3⟩
 have HOw:=Lib.hid hO2;have Hb5:Hid (Below w.heap.size w w5):=((Below.refl w.heap.size w).alloc (Nat.le_refl _) _).trans (hb5.mono (by simp));have hz5:=Hb5.out.size;obtain⟨va,vc,hv,_⟩:=hO.slice hlen;subst hv;have HDl:=Lib.hid (HD.out w5 _ hz5 hO2);clear hO hO2 hb5 HC HD;go_wp2_with fail;refine HDl.out.mono ?_;rintro e w6 ⟨v',rfl,hO6,hg6⟩;have HB6:Hid (Below w.heap.size w w6):=Yv Hb5.out hg6 hz5 λk hk=>by obtain⟨xs,h1,_⟩:=HOw.out;exact(h1.lt k hk).1
 obtain⟨a6,c6,hv,h6⟩:=HPo.out v' w6 hO6 HB6.out;subst hv;have H6:=Lib.hid h6;clear h6 hO6 hg6;go_wp2_with fail;first|exact H6.out|(go_ret;exact H6.out)
theorem zfO (n:zm):(n.edges.filter λx=>!((λx=>x.fr==0) x))=yd n:=by unfold yd;congr 1;try (funext x;simp)
theorem za2 (p:Nat->Bool) (n:zm) (x:YL) (w:World) (hE:edE.In (World.hide w p) n.edges x.ae x.ce) (hp:∀k,p k=true->k<w.heap.size) :
 Calls Tryz.prog 141 #[xq n x] w (qS p (yd n) w):=by
 have eg:∀args w,(callFunc 209 args).run Tryz.prog w=.ok (.enter 209 args) w:=enters_of Tryz.func209 (by kernel_rfl) rfl;have hlen:=hE.len;have HE:=Lib.hid hE;have HPo:Hid (∀v w',edE.Own 69 p w' w.heap.size v (yd n)->Below w.heap.size w w'->∃a c,v=.slice a (yd n).length c/\qS p (yd n) w (.returned v) w'):=λv w' h1 h2=>by
  have hl:(yd n).length<=n.edges.length:=List.length_filter_le _ _;obtain⟨a,c,rfl,h3⟩:=h1.sliceP (by omega) λk hk=>by
   cases h:p k with
   |false=>rfl
   |true=>have:=hp k h;omega
  exact⟨a,c,rfl,⟨a,c,rfl,h3⟩,h2⟩
 have HD:Hid (∀W v,w.heap.size<=W.heap.size->edE.Own 69 p W w.heap.size v n.edges->Calls Tryz.prog 204 #[v,.func (.func 209) #[] #[]] W (XJ p w.heap.size v (yd n) W)):=λW v hW h=>by rw[←zfO];exact YS _ eg #[] _ _ zlB (λ_ _ _ _=>trivial) p _ v (λ_ _ _ _=>trivial) n.edges W h trivial hlen
 have HC:Hid (∀W,Below w.heap.size w W->Calls Tryz.prog 205 #[.slice x.ae n.edges.length x.ce] W (yS edE 69 p n.edges W)):=λW hW=>zdn p n.edges x.ae x.ce W (HE.out.keep (zg hW λ_ _ h=>h));clear hE hp eg;rw[zH];generalize qS p (yd n) w=Po at HPo⊢;generalize yd n=R at HPo HD;have hz0:w.heap.size+1<=(w.alloc (.cells #[.int .i64 n.states,.slice x.ae n.edges.length x.ce,.slice x.aa n.accept.length x.ca] 33)).heap.size:=by simp
 go_enter Tryz.func141, Tryz.ntmps141;go_wp2_with fail;refine(HC.out _ bel).mono ?_;rintro e w5 ⟨⟨v,rfl,hO⟩,hb5⟩;have hO2:edE.Own 69 p w5 w.heap.size v n.edges:=by obtain⟨xs,h1,h2⟩:=hO;refine⟨xs,⟨h1.1,h1.2.imp id ?_⟩,h2⟩;rintro ⟨g,cap,cur,q1,q2,q3⟩;exact⟨g,cap,cur,q1,by omega,q3⟩
 have HOw:=Lib.hid hO2;have Hb5:Hid (Below w.heap.size w w5):=((Below.refl w.heap.size w).alloc (Nat.le_refl _) _).trans (hb5.mono (by simp));have hz5:=Hb5.out.size;obtain⟨va,vc,hv,_⟩:=hO.slice hlen;subst hv;have HDl:=Lib.hid (HD.out w5 _ hz5 hO2);clear hO hO2 hb5 HC HD;go_wp2_with fail;refine HDl.out.mono ?_;rintro e w6 ⟨v',rfl,hO6,hg6⟩;have HB6:Hid (Below w.heap.size w w6):=Yv Hb5.out hg6 hz5 λk hk=>by obtain⟨xs,h1,_⟩:=HOw.out;exact(h1.lt k hk).1
 obtain⟨a6,c6,hv,h6⟩:=HPo.out v' w6 hO6 HB6.out;subst hv;have H6:=Lib.hid h6;clear h6 hO6 hg6;go_wp2_with fail;first|exact H6.out|(go_ret;exact H6.out)
theorem zjp (n:zm) (s:Int):(n.edges.filter λx=>!(!(x.fr==s)))=yL n s:=by unfold yL;congr 1;funext x;simp
theorem zer (p:Nat->Bool) (n:zm) (x:YL) (s:Int) (w:World) (hE:edE.In (World.hide w p) n.edges x.ae x.ce) (hp:∀k,p k=true->k<w.heap.size) :
 Calls Tryz.prog 211 #[xq n x,.int .i64 s] w (qS p (yL n s) w):=by
 have eg:∀args w,(callFunc 252 args).run Tryz.prog w=.ok (.enter 252 args) w:=enters_of Tryz.func252 (by kernel_rfl) rfl;have hlen:=hE.len;have HE:=Lib.hid hE;have HPo:Hid (∀v w',edE.Own 69 p w' w.heap.size v (yL n s)->Below w.heap.size w w'->∃a c,v=.slice a (yL n s).length c/\qS p (yL n s) w (.returned v) w'):=λv w' h1 h2=>by
  have hl:(yL n s).length<=n.edges.length:=List.length_filter_le _ _;obtain⟨a,c,rfl,h3⟩:=h1.sliceP (by omega) λk hk=>by
   cases h:p k with
   |false=>rfl
   |true=>have:=hp k h;omega
  exact⟨a,c,rfl,⟨a,c,rfl,h3⟩,h2⟩
 have HD:Hid (∀W v b,(∀k,v.ownBlock=some k->k≠b)->W.cell? ⟨b,0,none⟩=some (.int .i64 s)->edE.Own 69 p W w.heap.size v n.edges->Calls Tryz.prog 204 #[v,.func (.func 252) #[] #[.pointer (some ⟨b,0,none⟩)]] W (XJ p w.heap.size v (yL n s) W)):=λW v b hv hc h=>by rw[←zjp];refine YS _ eg #[.pointer (some ⟨b,0,none⟩)] _ _ (znr b s) (λW1 W2 h1 h2=>za h2 _ _ h1) p _ v (λW1 W2 h1 h2=>?_) n.edges W h hc hlen;rw[World.cell?_of_block (h2.block b (qF h1) λe=>hv b e.symm rfl)];exact h1
 have HC:Hid (∀W,Below w.heap.size w W->Calls Tryz.prog 205 #[.slice x.ae n.edges.length x.ce] W (yS edE 69 p n.edges W)):=λW hW=>zdn p n.edges x.ae x.ce W (HE.out.keep (zg hW λ_ _ h=>h));clear hE hp eg;rw[zH];generalize qS p (yL n s) w=Po at HPo⊢;generalize yL n s=R at HPo HD;go_enter Tryz.func211, Tryz.ntmps211;go_wp2_with fail;refine(HC.out _ bel).mono ?_;rintro e w5 ⟨⟨v,rfl,hO⟩,hb5⟩;have hc5:w5.cell? ⟨w.heap.size+1,0,none⟩=some (.int .i64 s):=za hb5 _ _ (by simp);have hO2:edE.Own 69 p w5 w.heap.size v n.edges:=by obtain⟨xs,h1,h2⟩:=hO;refine⟨xs,⟨h1.1,h1.2.imp id ?_⟩,h2⟩;rintro ⟨g,cap,cur,q1,q2,q3⟩;simp only[World.size_alloc]at q2;exact⟨g,cap,cur,q1,by omega,q3⟩
 have hvb:∀k,v.ownBlock=some k->k≠w.heap.size+1:=λk hk=>by obtain⟨xs,h1,_⟩:=hO;have:=(h1.lt k hk).1;simp only[World.size_alloc]at this;omega
 have HOw:=Lib.hid hO2;have Hb5:Hid (Below w.heap.size w w5):=(((Below.refl w.heap.size w).alloc (Nat.le_refl _) _).alloc (by simp) _).trans (hb5.mono (by simp;omega));have hz5:=Hb5.out.size;obtain⟨va,vc,hv,_⟩:=hO.slice hlen;subst hv;have HDl:=Lib.hid (HD.out w5 _ (w.heap.size+1) hvb hc5 hO2);clear hO hO2 hb5 HC HD hvb hc5;go_wp2_with fail;refine HDl.out.mono ?_;rintro e w6 ⟨v',rfl,hO6,hg6⟩;have HB6:Hid (Below w.heap.size w w6):=Yv Hb5.out hg6 hz5 λk hk=>by obtain⟨xs,h1,_⟩:=HOw.out;exact(h1.lt k hk).1
 obtain⟨a6,c6,hv,h6⟩:=HPo.out v' w6 hO6 HB6.out;subst hv;have H6:=Lib.hid h6;clear h6 hO6 hg6;go_wp2_with fail;first|exact H6.out|(go_ret;exact H6.out)
def zmi (n:zm):Prop:=∀e∈n.edges,0<=e.fr/\e.fr<=100000/\0<=e.to/\e.to<=100000
theorem xI.vlt {q:Nat->Bool} {k:Nat} {w0 w:World} {st:Int} {L:List zn} {ve va:Value} (h:xI q k w0 w st L ve va):∀j,ve.ownBlock=some j->w0.heap.size<=j/\j<w.heap.size:=by obtain⟨xs,h1,_⟩:=h.es;exact h1.lt
theorem xI.hlt {q:Nat->Bool} {k:Nat} {w0 w:World} {st:Int} {L:List zn} {ve va:Value} (h:xI q k w0 w st L ve va) (hq:∀j,q j=true->j<w.heap.size):∀j,hid q ve j=true->j<w.heap.size:=λj hj=>(ze.1 hj).elim (hq j) λe=>(h.vlt j e).2
theorem yw.kpq {k:Nat} {w w':World} {v v':Value} {q:Nat->Bool} (h:yw k w v w' v') (hk:q k=true):Kp (World.hide w (hid q v)) (World.hide w' (hid q v')):=h.kp hk λ_ _ h=>h
theorem zP {q:Nat->Bool} {v:Value} {w w':World} (hb:Below w.heap.size w w'):Kp (World.hide w (hid q v)) (World.hide w' (hid q v)):=zg hb λ_ _ h=>h
theorem zcb (l:List Int) (n:zm) (base:Int) {i:Nat} (hi:i<l.length):zJ (l.take (i+1)) n base=zJ (l.take i) n base++(yo n).map λf=>mvE f (l[i]'hi) (base+f.to):=by unfold zJ;rw[List.take_succ_eq_append_getElem hi,List.flatMap_append];simp
theorem XM {q:Nat->Bool} {k:Nat} {w0 w:World} {st:Int} {L:List zn} {ve va:Value} (hB:xI q k w0 w st L ve va) (hq:∀j,q j=true->j<w.heap.size) (l:List Int) (al:Option Addr) (cl:Nat) (n:zm) (x:YL) (base:Int)
 (hI:IntsIn (World.hide w (hid q ve)) l al cl) (hE:edE.In (World.hide w (hid q ve)) n.edges x.ae x.ce) (hends:zmi n) (hb0:0<=base) (hb1:base<=100000) :
 Calls Tryz.prog 140 #[.pointer (some ⟨k,0,none⟩),.slice al l.length cl,xq n x,.int .i64 base] w (yl q k w0 w st (L++zJ l n base) ve va):=by
 have hll:=hI.2.1;have hel:=hE.len;have hfl:(yo n).length<=n.edges.length:=List.length_filter_le _ _;have HA:Hid (l.length=0\/∃b off,al=some ⟨b,off,none⟩):=zr.addr hI;have HAt0:Hid (L++zJ (l.take 0) n base=L):=by show _=_;simp[zJ]
 have HAtS:Hid (∀i (hi:i<l.length),L++zJ (l.take (i+1)) n base=(L++zJ (l.take i) n base)++(yo n).map λf=>mvE f (l[i]'hi) (base+f.to)):=λi hi=>by rw[zcb l n base hi,List.append_assoc]
 have HAtA:Hid (L++zJ (l.take l.length) n base=L++zJ l n base):=by show _=_;rw[List.take_length]
 have HEn:Hid (∀m (hm:m<(yo n).length),0<=((yo n)[m]'hm).to/\((yo n)[m]'hm).to<=100000):=λm hm=>(hends _ (List.mem_filter.1 (List.getElem_mem hm)).1).2.2;have HPo:Hid (∀ve' w',xI q k w0 w' st (L++zJ l n base) ve' va->yw k w ve w' ve'->yl q k w0 w st (L++zJ l n base) ve va (.returned (.tuple #[])) w'):=λve' w' g1 g2=>⟨rfl,ve',g1,g2⟩;have HF:Hid (∀W v,xI q k w0 W st [] v va\/True->yw k w ve W v->(∀j,hid q v j=true->j<W.heap.size)->Calls Tryz.prog 137 #[xq n x] W (qS (hid q v) (yo n) W)):=λW v _ hs hh=>zcm (hid q v) n x W (hE.keep (hs.kpq hB.qk)) hh;have HIk:Hid (∀W v,yw k w ve W v->IntsIn W l al cl):=λW v hs=>hI.keep λa u ha=>zb _ _ (hs.kpq hB.qk a u ha);have Hq:=Lib.hid hq;have HB:=Lib.hid hB;have hqk:=hB.qk;clear hI hE hends hB hq;generalize yl q k w0 w st (L++zJ l n base) ve va=Po at HPo⊢;generalize hAT:(λi=>L++zJ (l.take i) n base)=AT;have HAT:Hid (∀i,AT i=L++zJ (l.take i) n base):=λi=>by rw[←hAT]
 have HT0:Hid (AT 0=L):=by show _=_;rw[HAT.out,HAt0.out]
 have HTS:Hid (∀i (hi:i<l.length),AT (i+1)=AT i++(yo n).map λf=>mvE f (l[i]'hi) (base+f.to)):=λi hi=>by rw[HAT.out,HAT.out];exact HAtS.out i hi
 have HTA:Hid (AT l.length=L++zJ l n base):=by show _=_;rw[HAT.out];exact HAtA.out
 clear hAT HAT HAt0 HAtS HAtA;generalize L++zJ l n base=LA at HPo HTA;generalize yo n=F at HTS HEn HF hfl;rw[zH];simp only[zH]at HF;have HB1:Hid (yw k w ve (w.alloc (.cells #[.int .i64 n.states,.slice x.ae n.edges.length x.ce,.slice x.aa n.accept.length x.ca] 33)) ve):=yw.below ve ((Below.refl _ _).alloc (Nat.le_refl _) _);have HD1:Hid (xI q k w0 (w.alloc (.cells #[.int .i64 n.states,.slice x.ae n.edges.length x.ce,.slice x.aa n.accept.length x.ca] 33)) st L ve va):=HB.out.below ((Below.refl _ _).alloc (Nat.le_refl _) _);have hx0:(w.alloc (.cells #[.int .i64 n.states,.slice x.ae n.edges.length x.ce,.slice x.aa n.accept.length x.ca] 33)).heap[w.heap.size]? = some (.cells #[.int .i64 n.states,.slice x.ae n.edges.length x.ce,.slice x.aa n.accept.length x.ca] 33 (0,0)):=zh rfl;have hvk:∀j,ve.ownBlock=some j->j<w.heap.size:=λj hj=>(HB.out.vlt j hj).2;have hkk:=HB.out.klt;go_enter Tryz.func140, Tryz.ntmps140;go_wp2_with fail;generalize hW1:w.alloc (.cells #[.int .i64 n.states,.slice x.ae n.edges.length x.ce,.slice x.aa n.accept.length x.ca] 33)=W1 at HB1 HD1 hx0⊢;have hz1:w.heap.size+1<=W1.heap.size:=by rw[←hW1];simp
 clear hW1;go_loopw [14,9,11] (λi _ _ wr=>∃(m:Nat) (v:Value),i=.int .i64 m/\m<=l.length/\Hid (xI q k w0 wr st (AT m) v va)/\Hid (yw k W1 ve wr v)) (λi _ _ _=>l.length-(intOf i).toNat);case atStart=>exact⟨0,ve,rfl,Nat.zero_le _,by rw[HT0.out];exact HD1,yw.refl _ _ _⟩
 case round =>
  obtain⟨m,v,rfl,hm,HD,HSt⟩:=hrel;have HSw:Hid (yw k w ve wr v):=HB1.out.trans HSt.out;have hzr:=HSt.out.size;by_cases hlt:m<l.length
  ·obtain⟨bl,ol,hla⟩:=HA.out.resolve_left (by omega);subst hla;have g0:=(HIk.out wr v HSw.out).get rfl hlt;have hbx:wr.heap[w.heap.size]? = some (.cells #[.int .i64 n.states,.slice x.ae n.edges.length x.ce,.slice x.aa n.accept.length x.ca] 33 (0,0)):=(HSt.out.block _ (by omega) (by omega) (λe=>by have:=hvk _ e;omega)).trans hx0;have HTm:=Lib.hid (HTS.out m hlt);have c0:=zc hbx 0;have c1:=zc hbx 1;have c2:=zc hbx 2;simp at c0 c1 c2;have HFr:=Lib.hid (HF.out wr v (Or.inr trivial) HSw.out (HD.out.hlt λj hj=>Nat.lt_of_lt_of_le (Hq.out j hj) (by omega)));have e0:l.getD m 0=l[m]'hlt:=by simp[List.getD_eq_getElem?_getD,hlt]
   rw[e0]at g0;generalize (l[m]'hlt)=s at g0 HTm;clear e0 hbx;go_wp2_with fail;refine HFr.out.mono ?_;rintro e w5 ⟨⟨fa,fc,rfl,hF⟩,hb5⟩;have HF5:=Lib.hid hF;have HFA:Hid (F.length=0\/∃b off,fa=some ⟨b,off,none⟩):=hF.addr;have HD5:=Lib.hid (HD.out.below hb5);have HS5:Hid (yw k W1 ve w5 v):=HSt.out.trans (yw.below v hb5);have hz5:=hb5.size;clear hF hb5 c0 c1 c2 g0;go_wp2_with fail;go_loopw [21,11] (λi _ wr=>∃(t:Nat) (u:Value),i=.int .i64 t/\t<=F.length/\Hid (xI q k w0 wr st (AT m++(F.take t).map λf=>mvE f s (base+f.to)) u va)/\Hid (yw k w5 v wr u)) (λi _ _=>F.length-(intOf i).toNat);case atStart=>exact⟨0,v,rfl,Nat.zero_le _,by simpa using HD5,yw.refl _ _ _⟩
   case round =>
    obtain⟨t,u,rfl,ht,HDi,HSi⟩:=hrel;by_cases hlt2:t<F.length
    ·obtain⟨bf,of,hfa⟩:=HFA.out.resolve_left (by omega);subst hfa;have HFi:=Lib.hid (HF5.out.keep (HSi.out.kpq hqk));obtain⟨ag,cg,aS,cs,g0,g1,g2,g3,h1,h2⟩:=yR (HF5.out.keep (HSi.out.kpq hqk)) rfl hlt2;have e0:=zb _ _ g0;have e1:=zb _ _ g1;have e2:=zb _ _ g2;have e3:=zb _ _ g3;have HEt:=HEn.out t hlt2;have HTt:Hid (∀z,AT m++(F.take t).map (λf=>mvE f s (base+f.to))++[mvE (F[t]'hlt2) s z]=AT m++(F.take t).map (λf=>mvE f s (base+f.to))++[mvE (F[t]'hlt2) s z]):=λ_=>rfl;have HTn:Hid (AT m++(F.take t).map (λf=>mvE f s (base+f.to))++[mvE (F[t]'hlt2) s (base+(F[t]'hlt2).to)]=AT m++(F.take (t+1)).map λf=>mvE f s (base+f.to)):=by
      show _=_;rw[List.take_succ_eq_append_getElem hlt2,List.map_append,List.append_assoc];rfl
     have HM:Hid (∀W z,Below wr.heap.size wr W->Calls Tryz.prog 142 #[.pointer (some ⟨k,0,none⟩),yT (F[t]'hlt2) ag cg aS cs,.int .i64 s,.int .i64 z] W (yl q k w0 W st ((AT m++(F.take t).map λf=>mvE f s (base+f.to))++[mvE (F[t]'hlt2) s z]) u va)):=λW z hW=>Yg (HDi.out.below hW) (F[t]'hlt2) ag cg aS cs s z (h1.keep (zP hW)) (h2.keep (zP hW));clear g0 g1 g2 g3 h1 h2 HTt;unfold yT at HM;generalize (F[t]'hlt2)=y at e0 e1 e2 e3 HEt HTn HM;obtain⟨hy0,hy1⟩:=HEt;go_wp2_with (go_at_call 142;go_must (refine(HM.out _ _ bel).mono ?_;rintro e w7 ⟨rfl,u',hD7,hS7⟩));have HD7:Hid (xI q k w0 w7 st (AT m++(F.take (t+1)).map λf=>mvE f s (base+f.to)) u' va):=by show xI _ _ _ _ _ _ _ _;rw[←HTn.out];exact hD7
     have HS7:Hid (yw k w5 v w7 u'):=HSi.out.trans ((yw.below u ((Below.refl wr.heap.size wr).alloc (Nat.le_refl _) _)).trans hS7);go_roundw;case rel=>exact⟨t+1,u',by go_num,by omega,HD7.out,HS7.out⟩
     case measure=>(simp[intOf];try omega)
    ·obtain rfl:t=F.length:=by omega
     have HD8:Hid (xI q k w0 wr st (AT (m+1)) u va):=by show xI _ _ _ _ _ _ _ _;rw[HTm.out];have:=HDi.out;rwa [List.take_length]at this
     have HS8:Hid (yw k W1 ve wr u):=HS5.out.trans HSi.out;go_wp2_with fail;go_roundw;case rel=>exact⟨m+1,u,by go_num,by omega,HD8.out,HS8.out⟩
     case measure=>(simp[intOf];try omega)
  ·obtain rfl:m=l.length:=by omega
   have HDf:Hid (xI q k w0 wr st LA v va):=by show xI _ _ _ _ _ _ _ _;rw[←HTA.out];exact HD.out
   go_wp2_with fail;first|exact HPo.out _ _ HDf.out HSw.out|(refine bodyPost_ret (results_none rfl _ _ _) rfl ?_;exact HPo.out _ _ HDf.out HSw.out)
def PE (K:Nat) (e:zn):Prop:=1<=e.to/\e.guards.length<=K/\e.sets.length<=K
theorem PE.mono {K K':Nat} {e:zn} (h:PE K e) (hk:K<=K'):PE K' e:=⟨h.1,by have:=h.2.1;omega,by have:=h.2.2;omega⟩
structure qn (K:Nat) (n:zm):Prop where
 ok:zY n=true
 es:∀e∈n.edges,PE K e
 ac:∀a∈n.accept,1<=a
theorem qn.st {K:Nat} {n:zm} (h:qn K n):1<=n.states/\n.states<=256:=by have:=(zz.1 h.ok).1;omega
theorem qn.mono {K K':Nat} {n:zm} (h:qn K n) (hk:K<=K'):qn K' n:=⟨h.ok,λe he=>(h.es e he).mono hk,h.ac⟩
theorem zQ {n m:zm} (h:doneN n=some m):n=m/\zY m=true:=by
 unfold doneN at h;split at h
 ·rename_i h2;obtain rfl:=Option.some.inj h;exact⟨rfl,h2⟩
 ·simp at h
theorem zeJ {K:Nat} {n:zm} (h:∀e∈n.edges,PE K e):∀e∈yo n,PE K e:=λe he=>h e (List.mem_filter.1 he).1
theorem zae {K:Nat} {l:List Int} {n:zm} {base:Int} (hb:0<=base) (h:∀e∈n.edges,PE K e):∀e∈zJ l n base,PE K e:=by intro e he;obtain⟨s,_,he⟩:=List.mem_flatMap.1 he;obtain⟨f,hf,rfl⟩:=List.mem_map.1 he;have:=zeJ h f hf;refine⟨?_,this.2⟩;have:=this.1;simp only[mvE];omega
theorem zhL {K:Nat} {n:zm} {base:Int} (hb:0<=base) (h:∀e∈n.edges,PE K e):∀e∈Qt n base,PE K e:=by intro e he;obtain⟨f,hf,rfl⟩:=List.mem_map.1 he;have:=h f (List.mem_filter.1 hf).1;refine⟨?_,this.2⟩;have:=this.1;simp only[mvE];omega
theorem zgT {lo hi:Int} {Kx Ky:Nat} {x y:zm} (hx:qn Kx x) (hy:qn Ky y) (hok:zY (yC lo hi x y)=true):qn (Kx+Ky) (yC lo hi x y):=by
 have hs:=hx.st;have hb:0<=x.states+(zW hi:Int)-1:=by omega
 have ex:∀e∈x.edges,PE (Kx+Ky) e:=λe he=>(hx.es e he).mono (by omega);have ey:∀e∈y.edges,PE (Kx+Ky) e:=λe he=>(hy.es e he).mono (by omega);refine⟨hok,?_,?_⟩
 ·intro e he;simp only[yC,List.mem_append]at he;rcases he with ((((he|he)|he)|he)|he)|he
  ·exact ex e he
  ·split at he
   ·rcases List.mem_append.1 he with he|he
    ·obtain⟨a,_,rfl⟩:=List.mem_map.1 he;exact⟨by simp only;omega,Nat.zero_le _,Nat.zero_le _⟩
    ·obtain⟨a,_,rfl⟩:=List.mem_map.1 he;exact⟨by simp only;omega,Nat.zero_le _,Nat.zero_le _⟩
   ·simp at he
  ·split at he
   ·obtain⟨e1,h1,he⟩:=List.mem_flatMap.1 he;split at he
    ·obtain⟨f,hf,rfl⟩:=List.mem_map.1 he;have a:=hx.es e1 h1;have b:=zeJ hy.es f hf;refine⟨?_,?_,?_⟩
     ·have:=b.1;simp only[zO];omega
     ·have:=a.2.1;have:=b.2.1;simp only[zO,List.length_append,List.length_map];omega
     ·have:=a.2.2;have:=b.2.2;simp only[zO,List.length_append];omega
    ·simp at he
   ·simp at he
  ·split at he
   ·exact zae hb ey e he
   ·simp at he
  ·obtain⟨i,_,he⟩:=List.mem_flatMap.1 he;split at he
   ·exact zae hb ey e he
   ·simp at he
  ·exact zhL hb ey e he
 ·intro a ha;obtain⟨b,hb2,rfl⟩:=List.mem_map.1 ha;have:=hy.ac b hb2;omega
theorem zho {c:Nat} {st:Int} (h:1<=st):0<=(c:Int)*(st-1):=Int.mul_nonneg (by omega) (by omega)
theorem zlM {lo hi:Int} {K:Nat} {n:zm} (hn:qn K n) (hok:zY (zcP lo hi n)=true):qn K (zcP lo hi n):=by
 have hs:=hn.st;refine⟨hok,?_,?_⟩
 ·have:∀c,∀e∈Xy n c,PE K e:=by
   intro c
   induction c with
   |zero=>intro e he;cases he
   |succ c ih =>
    cases c with
    |zero=>exact hn.es
    |succ c =>
     intro e he;rw[Xy]at he
     ·rcases List.mem_append.1 he with he|he
      ·rcases List.mem_append.1 he with he|he
       ·exact ih e he
       ·exact zae (zho hs.1) hn.es e he
      ·exact zhL (zho hs.1) hn.es e he
     ·simp
  exact this _
 ·intro a ha;simp only[zcP,Yn]at ha;obtain⟨i,_,ha⟩:=List.mem_flatMap.1 ha;split at ha
  ·obtain⟨b,hb,rfl⟩:=List.mem_map.1 ha;have:=hn.ac b hb;have:=zho (c:=i) hs.1;omega
  ·simp at ha
theorem zcK {base s:Int} (hb:0<=base) (hs:1<=s):1<=xJ base s:=by unfold xJ;split<;>omega
theorem zmT {K:Nat}:∀(ps:List zm) (out:zm),(∀n∈ps,qn K n)->1<=out.states->(∀e∈out.edges,PE K e)->(∀a∈out.accept,1<=a)->(∀e∈(ps.foldl xG out).edges,PE K e)/\∀a∈(ps.foldl xG out).accept,1<=a:=by
 intro ps
 induction ps with
 |nil=>intro out _ _ h1 h2;exact⟨h1,h2⟩
 |cons n ps ih =>
  intro out hp hst h1 h2;have hn:=hp n (List.mem_cons_self ..);rw[List.foldl_cons];refine ih _ (λm hm=>hp m (List.mem_cons_of_mem _ hm)) ?_ ?_ ?_
  ·have:=hn.st;simp only[xG];omega
  ·intro e he;simp only[xG,List.mem_append]at he;rcases he with he|he
   ·exact h1 e he
   ·obtain⟨f,hf,rfl⟩:=List.mem_map.1 he;have:=hn.es f hf;exact⟨zcK (by omega) this.1,this.2⟩
  ·intro a ha;simp only[xG,List.mem_append]at ha;rcases ha with ha|ha
   ·exact h2 a ha
   ·obtain⟨b,hb,rfl⟩:=List.mem_map.1 ha;exact zcK (by omega) (hn.ac b hb)
theorem zlX {K:Nat} {n:zm} {nm:ByteArray} {x:Ex} (hn:qn K n) (hok:zY (zax nm x n)=true):qn (K+1) (zax nm x n):=by
 have hs:=hn.st;refine⟨hok,?_,?_⟩
 ·intro e he;simp only[zax,List.mem_append]at he;rcases he with he|he
  ·exact(hn.es e he).mono (by omega)
  ·obtain⟨f,hf,he⟩:=List.mem_filterMap.1 he;split at he
   ·obtain rfl:=Option.some.inj he;have:=hn.es f hf;refine⟨?_,?_,?_⟩
    ·simp only;omega
    ·have:=this.2.1;simp only;omega
    ·have:=this.2.2;simp only[List.length_append,List.length_singleton];omega
   ·simp at he
 ·intro a ha;obtain⟨i,_,rfl⟩:=List.mem_map.1 ha;omega
theorem zjs {K:Nat} {n:zm} {x:Ex} (hn:qn K n) (hok:zY (Qs x n)=true):qn (K+1) (Qs x n):=by
 refine⟨hok,?_,hn.ac⟩;intro e he;obtain⟨f,hf,rfl⟩:=List.mem_map.1 he;have:=hn.es f hf;refine⟨this.1,?_,?_⟩
 ·have:=this.2.1;simp only[List.length_append,List.length_singleton];omega
 ·have:=this.2.2;simp only;omega
structure JInv (K:Nat) (j:zU):Prop where
 hd:j.pairs.head? = some (0,0)
 es:∀e∈j.edges,PE K e
theorem zl6 {K i:Nat} {g:List Ex} {j:zU} {p:Int×Int} (hj:JInv K j) (hg:g.length<=K) (hp:p≠(0,0)):JInv K (toJ i g j p):=by
 obtain⟨h1,h2⟩:=hj;cases hc:j.pairs with
 |nil=>rw[hc]at h1;simp at h1
 |cons q r =>
  rw[hc]at h1;have hq:q=(0,0):=by simpa using h1
  refine⟨?_,?_⟩
  ·simp only[toJ,hc];split<;>simp[hq]
  ·intro e he;simp only[toJ,List.mem_append,List.mem_singleton]at he;rcases he with he|rfl
   ·exact h2 e he
   ·refine⟨?_,hg,Nat.zero_le _⟩;simp only[hc];rw[List.idxOf_cons,show (q==p)=false from by rw[hq];exact beq_eq_false_iff_ne.2 (Ne.symm hp)];simp only[cond_false];omega
theorem qw {α:Type} {P:zU->Prop} {f:zU->α->zU}:∀(l:List α) (j:zU),P j->(∀j x,x∈l->P j->P (f j x))->P (l.foldl f j):=by
 intro l
 induction l with
 |nil=>intro j h _;exact h
 |cons x l ih=>intro j h hf;exact ih _ (hf j x (List.mem_cons_self ..) h) λj y hy=>hf j y (List.mem_cons_of_mem _ hy)
theorem zbT {K i:Nat} {g:List Ex} {s t:Int} {l r:Bool} {j:zU} (hj:JInv K j) (hg:g.length<=K) (hs:s≠0) (ht:t≠0):JInv K (Y1 i g s t l r j):=by
 unfold Y1;refine qw _ _ hj λj p hp hj=>zl6 hj hg ?_;intro e;subst e;unfold Xc at hp;simp only[List.mem_cons,List.mem_append,Prod.mk.injEq]at hp;rcases hp with h|(h|h)|h
 ·exact hs h.1.symm
 ·split at h<;>simp at h
 ·split at h<;>simp at h
 ·split at h<;>simp at h
theorem zgy {Kx Ky:Nat} {x y:zm} (hx:qn Kx x) (hy:qn Ky y):∀i,JInv (Kx+Ky) (yc x y i):=by
 intro i
 induction i with
 |zero=>rw[Zs];exact⟨rfl,λe he=>by cases he⟩
 |succ i ih =>
  rw[qP];unfold XY;split
  ·exact ih
  ·split
   ·exact ih
   ·split
    ·refine qw _ _ ih λj f hf hj=>?_;have:=hy.es f (List.mem_filter.1 hf).1;exact zbT hj (by have:=this.2.1;omega) (by decide) (by have:=this.1;omega)
    ·split
     ·refine qw _ _ ih λj f hf hj=>?_;have:=hx.es f (List.mem_filter.1 hf).1;exact zbT hj (by have:=this.2.1;omega) (by have:=this.1;omega) (by decide)
     ·refine qw _ _ ih λj e he hj=>qw _ _ hj λj f hf hj=>?_;have a:=hx.es e (List.mem_filter.1 he).1;have b:=hy.es f (List.mem_filter.1 hf).1;exact zbT hj (by have:=a.2.1;have:=b.2.1;rw[List.length_append];omega) (by have:=a.1;omega) (by have:=b.1;omega)
theorem zdf {Kx Ky:Nat} {x y n:zm} (hx:qn Kx x) (hy:qn Ky y) (h:zb9 x y=some n):qn (Kx+Ky) n:=by
 unfold zb9 at h;split at h
 ·obtain⟨rfl,hok⟩:=zQ h;have hj:=zgy hx hy 256;refine⟨hok,hj.es,?_⟩;intro a ha;simp only[xv]at ha;split at ha
  ·obtain rfl:=List.mem_singleton.1 ha;have h1:=hj.hd;cases hc:(yc x y 256).pairs with
   |nil=>rw[hc]at h1;simp at h1
   |cons q r =>
    rw[hc]at h1;have hq:q=(0,0):=by simpa using h1
    rw[List.idxOf_cons,show (q==(-1,-1))=false from by rw[hq];exact beq_eq_false_iff_ne.2 (by simp)];simp only[cond_false];omega
  ·simp at ha
 ·simp at h
inductive RegL:List Nat->List zm->Prop where
 |nil:RegL [] []
 |cons {k:Nat} {p:zm} {ks:List Nat} {ps:List zm} (h:qn k p) (hs:RegL ks ps):RegL (k::ks) (p::ps)
theorem zk2:∀(ps:List zm) (ks:List Nat) (K:Nat) (n m:zm),qn K n->RegL ks ps->Xd n ps=some m->qn (K+ks.sum) m:=by
 intro ps
 induction ps with
 |nil =>intro ks K n m hn hp h;cases hp;simp only[Xd,Option.some.injEq]at h;subst h;exact hn.mono (by omega)
 |cons p ps ih =>
  intro ks K n m hn hp h;cases hp with
  | @cons k _ ks _ hk hks =>
   rw[Xd]at h;cases h2:zb9 n p with
   |none=>rw[h2]at h;simp at h
   |some q =>rw[h2]at h;have:=ih _ _ _ _ (zdf hn hk h2) hks h;rw[List.sum_cons];rw[Nat.add_assoc]at this;exact this
theorem qX:∀{l:List (Option zm)} {ps:List zm},qW l=some ps->l=ps.map some:=by
 intro l
 induction l with
 |nil=>intro ps h;simp only[qW,Option.some.injEq]at h;subst h;rfl
 |cons a l ih =>
  intro ps h;cases a with
  |none=>simp[qW]at h
  |some n =>rw[qW]at h;obtain⟨r,hr,rfl⟩:=Option.map_eq_some_iff.1 h;rw[ih hr];rfl
theorem xD {s:Tq} {b:Bool} (h:xZ s b=0):qJ s=true/\(zS s.op=true\/YK s.expr=true)/\(s.op=6\/s.name.size=0)/\(s.op=6->yW s.name.data.toList=true)/\(zS s.op=true->zZ s.expr=0)/\(s.op=6->b=false)/\(s.op=7->XB s=false):=by
 unfold xZ at h;split at h
 ·simp at h
 rename_i h1;split at h
 ·simp at h
 rename_i h2;split at h
 ·rename_i h3;exact absurd h h3.2
 rename_i h3;split at h
 ·simp at h
 rename_i h4;split at h
 ·simp at h
 rename_i h5;simp only[not_or,not_and,Bool.not_eq_false,Decidable.not_not,ne_eq,Bool.not_eq_true]at h1 h2 h3 h4 h5;refine⟨h1.1,?_,?_,h2,h3,h4,h5⟩
 ·cases hw:zS s.op with
  |true=>exact Or.inl rfl
  |false=>exact Or.inr (h1.2.1 hw)
 ·by_cases h6:s.op=6
  ·exact Or.inl h6
  ·exact Or.inr (h1.2.2 h6)
theorem xy {s:Tq} (h:qJ s=true):(s.op=1/\s.args.length=0/\s.lo=0/\s.hi=0)\/(s.op=2/\s.args.length=2/\0<=s.lo/\s.lo<=s.hi/\s.hi<=16)\/(s.op=3/\s.args.length=1/\1<=s.lo/\s.lo<=s.hi/\s.hi<=16) \/
 ((s.op=4\/s.op=5)/\2<=s.args.length/\s.args.length<=8/\s.lo=0/\s.hi=0)\/((s.op=6\/s.op=7)/\s.args.length=1/\s.lo=0/\s.hi=0):=by
 unfold qJ at h;repeat' split at h
 all_goals first
  |(simp only[decide_eq_true_eq]at h;simp_all;done)
  |(simp at h;done)
  |skip
theorem xC {s:Tq} {b:Bool} (h:zC s b=0):xZ s b=0/\∀a∈s.args,zC a (b||s.op==5)=0:=by
 rw[qe]at h;split at h
 ·rename_i h1;refine⟨h1,λa ha=>?_⟩;exact YU.1 h _ (List.mem_map.2 ⟨a,ha,rfl⟩)
 ·rename_i h1;exact absurd h h1
theorem Xx:∀{args:List Tq} {ps:List zm},args.map yz=ps.map some->(∀a∈args,∀n,yz a=some n->qn a.nodes n)->RegL (args.map Tq.nodes) ps:=by
 intro args
 induction args with
 |nil=>intro ps h _;cases ps with|nil=>exact RegL.nil|cons p ps=>simp at h
 |cons a args ih =>
  intro ps h hr;cases ps with
  |nil=>simp at h
  |cons p ps =>simp only[List.map_cons,List.cons.injEq]at h;exact RegL.cons (hr a (List.mem_cons_self ..) p h.1) (ih h.2 λb hb=>hr b (List.mem_cons_of_mem _ hb))
theorem zcq {K:Nat}:∀{ks:List Nat} {ps:List zm},RegL ks ps->(∀k∈ks,k<=K)->∀p∈ps,qn K p:=by
 intro ks ps h
 induction h with
 |nil=>intro _ p hp;cases hp
 |cons h1 _ ih =>
  intro hk p hp;rcases List.mem_cons.1 hp with rfl|hp
  ·exact h1.mono (hk _ (List.mem_cons_self ..))
  ·exact ih (λk hk2=>hk k (List.mem_cons_of_mem _ hk2)) p hp
theorem zkC {l:List Nat} {k:Nat} (h:k∈l):k<=l.sum:=by
 induction l with
 |nil=>cases h
 |cons a l ih =>
  rw[List.sum_cons];rcases List.mem_cons.1 h with rfl|h
  ·omega
  ·have:=ih h;omega
theorem zjF {s:Tq} {b:Bool} {ps:List zm} {ks:List Nat} (hn:xZ s b=0) (hl:s.args.length=ps.length) (hp:RegL ks ps) {m:zm} (h:Zb s ps=some m):qn (1+ks.sum) m:=by
 obtain⟨hs,_⟩:=xD hn;rcases xy hs with ⟨ho,_⟩|⟨ho,h2,_⟩|⟨ho,h2,_⟩|⟨ho,h2,h3,_⟩|⟨ho,h2,_⟩
 ·simp only[Zb,ho,Int.reduceEq,if_false,if_true]at h;obtain⟨rfl,hok⟩:=zQ h;refine⟨hok,λe he=>?_,λa ha=>?_⟩
  ·obtain rfl:=List.mem_singleton.1 he;exact⟨Int.le_refl 1,by simp only[List.length_singleton];omega,Nat.zero_le _⟩
  ·obtain rfl:=List.mem_singleton.1 ha;decide
 ·simp only[Zb,ho,Int.reduceEq,if_false,if_true]at h;obtain⟨rfl,hok⟩:=zQ h;cases hp with
  |nil=>rw[List.length_nil]at hl;omega
  | @cons k1 p1 ks ps h1 hp =>
   cases hp with
   |nil=>rw[List.length_cons,List.length_nil]at hl;omega
   | @cons k2 p2 ks ps h2 hp =>refine(zgT h1 h2 hok).mono ?_;simp only[List.sum_cons];omega
 ·simp only[Zb,ho,Int.reduceEq,if_false,if_true]at h;obtain⟨rfl,hok⟩:=zQ h;cases hp with
  |nil=>rw[List.length_nil]at hl;omega
  | @cons k1 p1 ks ps h1 hp =>refine(zlM h1 hok).mono ?_;simp only[List.sum_cons];omega
 ·rcases ho with ho|ho
  ·simp only[Zb,ho,Int.reduceEq,if_false,if_true]at h;obtain⟨rfl,hok⟩:=zQ h;have:=zmT ps ⟨1,[],[]⟩ (zcq hp (K:=1+ks.sum) λk hk=>Nat.le_trans (zkC hk) (by omega)) (by decide) (λe he=>by cases he) (λa ha=>by cases ha);exact⟨hok,this.1,this.2⟩
  ·simp only[Zb,ho,Int.reduceEq,if_false,if_true]at h;cases hp with
   |nil=>rw[List.length_nil]at hl;omega
   | @cons k1 p1 ks ps h1 hp =>refine(zk2 _ _ _ _ _ h1 hp h).mono ?_;simp only[List.sum_cons];omega
 ·rcases ho with ho|ho
  ·simp only[Zb,ho,Int.reduceEq,if_false,if_true]at h;obtain⟨rfl,hok⟩:=zQ h;cases hp with
   |nil=>rw[List.length_nil]at hl;omega
   | @cons k1 p1 ks ps h1 hp =>refine(zlX h1 hok).mono ?_;simp only[List.sum_cons];omega
  ·simp only[Zb,ho,Int.reduceEq,if_false,if_true]at h;obtain⟨rfl,hok⟩:=zQ h;cases hp with
   |nil=>rw[List.length_nil]at hl;omega
   | @cons k1 p1 ks ps h1 hp =>refine(zjs h1 hok).mono ?_;simp only[List.sum_cons];omega
theorem ZG (s:Tq):∀b,zC s b=0->∀n,yz s=some n->qn s.nodes n:=by
 induction s using Tq.ind with
 |h s ih =>
  intro b hc n h;obtain⟨hn,ha⟩:=xC hc;rw[Yx]at h;cases hp:qW (s.args.map yz) with
  |none=>rw[hp]at h;simp at h
  |some ps =>rw[hp]at h;have he:=qX hp;rw[Tq.nodes_eq];exact zjF hn (by have:=congrArg List.length he;simpa using this) (Xx he λa ha2 n2 h2=>ih a ha2 _ (ha a ha2) n2 h2) h
end Go.Proofs.YthojpomoflhbcaaGreatDoor
