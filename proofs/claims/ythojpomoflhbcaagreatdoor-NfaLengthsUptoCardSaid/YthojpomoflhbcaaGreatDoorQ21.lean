/- slices.BinarySearchFunc at threads. -/
import Derived.Test.YthojpomoflhbcaaGreatDoorQ09
import Derived.Test.YthojpomoflhbcaaGreatDoorQ20
import Derived.Deep.LoopGhost
import Derived.Deep.RegionHeld3
import Derived.BigQuiet
import Derived.Test.YthojpomoflhbcaaGreatDoorQ17
set_option maxHeartbeats 16000000
set_option maxRecDepth 100000
set_option linter.unusedSimpArgs false
set_option linter.unusedVariables false
set_option linter.unnecessarySimpa false
namespace Go.Proofs.YthojpomoflhbcaaGreatDoor
open Go.RowKit
attribute [local go_sem ↓] Go.wp_at_zero Go.wp_at_succ
theorem zbq (y:yU) (ay:Option Addr) (cy:Nat) (l:List yU) (a:Option Addr) (cap:Nat) (w:World) (hE:thE.In w l a cap) (hY:zT w y.env ay cy)
 (hmono:∀i j (hi:i<l.length) (hj:j<l.length),i<=j->zB (l[j]'hj) y<0->zB (l[i]'hi) y<0) :
 Calls Tryz.prog 50 #[.slice a l.length cap,.agg #[.int .i64 y.state,.slice ay y.env.length cy],.func (.func 51) #[] #[]] w (Y6 (λx=>zB x y) l w):=by
 have HC:Hid (∀(x:yU) ax cx W,Below w.heap.size w W->zT W x.env ax cx->Calls Tryz.prog 51 #[.agg #[.int .i64 x.state,.slice ax x.env.length cx],.agg #[.int .i64 y.state,.slice ay y.env.length cy]] W λe w'=>e=.returned (.int .i64 (zB x y))/\Below W.heap.size W w'):=λx ax cx W hW hx=>zfn x y ax ay cx cy W hx (hY.keep (za hW));have HE:=Lib.hid hE;have HM:=Lib.hid hmono;have hlen:=hE.len;have HA:Hid (l.length=0\/∃b off,a=some ⟨b,off,none⟩):=hE.addr;have HPo:Hid (∀i,i<=l.length->(∀t (ht:t<l.length),t<i->zB (l[t]'ht) y<0)->(∀t (ht:t<l.length),i<=t->0<=zB (l[t]'ht) y)->∀W,Below w.heap.size w W->(∀(h:i<l.length),Y6 (λx=>zB x y) l w (.returned (.tuple #[.int .i64 i,.bool (decide (zB (l[i]'h) y=0))])) W)/\(¬i<l.length->Y6 (λx=>zB x y) l w (.returned (.tuple #[.int .i64 i,.bool false])) W)):=λi hi h1 h2 W hb=>by
  have e:bsP (λx=>zB x y) l=i:=zaO _ l i hi (λt ht hti=>decide_eq_true (h1 t ht hti)) (λt ht hti=>decide_eq_false (show ¬zB (l[t]'ht) y<0 by have:=h2 t ht hti;omega));refine⟨λh=>⟨?_,hb⟩,λh=>⟨?_,hb⟩⟩
  ·unfold bsF;rw[e,List.getElem?_eq_getElem h]
  ·unfold bsF;rw[e,List.getElem?_eq_none (by omega)]
 generalize Y6 (λx=>zB x y) l w=Po at HPo⊢;clear hE hY hmono;go_enter Tryz.func50, Tryz.ntmps50;go_upto_region 1 with fail;generalize hW2:World.alloc w _=W2;have HB2:Hid (Below w.heap.size w W2):=by show Below _ _ _;rw[←hW2];exact(Below.refl _ _).alloc (Nat.le_refl _) _
 have HX2:Hid (W2.heap[w.heap.size]? = some (.cells #[.int .i64 y.state,.slice ay y.env.length cy] 49 (0,0))):=by show _=_;rw[←hW2];exact zh rfl
 have hz2:w.heap.size+1<=W2.heap.size:=by rw[←hW2];simp
 clear hW2;go_wp2_with fail;go_loopg [9,10,11] l.length (λkx s9 s10 _ wr=>∃lo hi:Nat,s9=.int .i64 lo/\s10=.int .i64 hi/\lo<=hi/\hi<=l.length/\hi-lo<=kx/\Hid ((∀t (ht:t<l.length),t<lo->zB (l[t]'ht) y<0)/\(∀t (ht:t<l.length),hi<=t->0<=zB (l[t]'ht) y))/\Hid (Below W2.heap.size W2 wr));case atStart=>exact⟨0,l.length,rfl,rfl,Nat.zero_le _,Nat.le_refl _,by omega,⟨λt ht h=>absurd h (by omega),λt ht h=>absurd h (by omega)⟩,Below.refl _ _⟩
 case round =>
  (try rename World=>wr)
  obtain⟨lo,hi,rfl,rfl,hlh,hin,hg,HI,HBr⟩:=hrel;have hzr:=HBr.out.size;have HBw:Hid (Below w.heap.size w wr):=HB2.out.trans (HBr.out.mono HB2.out.size);obtain⟨x0,x1,-⟩:=xm ((HBr.out.block w.heap.size (by omega)).trans HX2.out);by_cases hlt:lo<hi
  ·have hmn:(lo+hi) / 2<l.length:=by omega
   have hm1:lo<=(lo+hi) / 2:=by omega
   have hm2:(lo+hi) / 2<hi:=by omega
   have hmi:((lo:Int)+(hi:Int)) / 2<(l.length:Int):=by omega
   have hltI:(lo:Int)<(hi:Int):=by omega
   have hm0:(0:Int)<=((lo:Int)+(hi:Int)) / 2:=by omega
   have htn:(((lo:Int)+(hi:Int)) / 2).toNat=(lo+hi) / 2:=by omega
   obtain⟨b,off,ha⟩:=HA.out.resolve_left (by omega);subst ha;obtain⟨xa,xc,g0,g1,hx⟩:=Qc (HE.out.keep (za HBw.out)) rfl hmn;have hC:=λW (hW:Below wr.heap.size wr W)=>(HC.out (l[(lo+hi) / 2]'hmn) xa xc W (HBw.out.trans (Below.mono hW HBw.out.size)) (zT.keep (za hW) hx)).mono λe w' h=>(⟨h.1,hW.trans (h.2.mono hW.size)⟩:_/\Below wr.heap.size wr w');have HY1:Hid (zB (l[(lo+hi) / 2]'hmn) y<0->∀t (ht:t<l.length),t<(lo+hi) / 2+1->zB (l[t]'ht) y<0):=λh t ht htm=>HM.out t ((lo+hi) / 2) ht hmn (by omega) h;have HY2:Hid (¬zB (l[(lo+hi) / 2]'hmn) y<0->∀t (ht:t<l.length),(lo+hi) / 2<=t->0<=zB (l[t]'ht) y):=λh t ht htm=>Int.not_lt.1 λh2=>h (HM.out ((lo+hi) / 2) t hmn ht htm h2);generalize (l[(lo+hi) / 2]'hmn)=x at *;have HCc:=Lib.hid hC;clear hC hx;generalize zB x y=cv at HCc HY1 HY2;by_cases hcv:cv<0
   ·have HN:=Lib.hid (HY1.out hcv);go_upto_region 5 with fail;go_region_law (go_simp;(with_reducible refine(HCc.out _ (by first|with_reducible assumption|exact yx)).mono ?_);rintro e w5 ⟨rfl,hb5⟩)
    all_goals
     have HB5:Hid (Below W2.heap.size W2 w5):=HBr.out.trans (Below.mono hb5 hzr);clear hb5;go_wp2_with fail;go_roundg (hi-((lo+hi) / 2+1));case measure=>omega
     case rel=>exact⟨(lo+hi) / 2+1,hi,by rw[show ((lo:Int)+(hi:Int)) / 2+1=(((lo+hi) / 2+1:Nat):Int) by omega],rfl,by omega,hin,Nat.le_refl _,⟨HN.out,HI.out.2⟩,HB5.out⟩
   ·have HN:=Lib.hid (HY2.out hcv);go_upto_region 5 with fail;go_region_law (go_simp;(with_reducible refine(HCc.out _ (by first|with_reducible assumption|exact yx)).mono ?_);rintro e w5 ⟨rfl,hb5⟩)
    all_goals
     have HB5:Hid (Below W2.heap.size W2 w5):=HBr.out.trans (Below.mono hb5 hzr);clear hb5;go_wp2_with fail;go_roundg ((lo+hi) / 2-lo);case measure=>omega
     case rel=>exact⟨lo,(lo+hi) / 2,rfl,by rw[show ((lo:Int)+(hi:Int)) / 2=(((lo+hi) / 2:Nat):Int) by omega],by omega,by omega,Nat.le_refl _,⟨HI.out.1,HN.out⟩,HB5.out⟩
  ·obtain rfl:hi=lo:=by omega
   have HF:=Lib.hid (HPo.out hi hin HI.out.1 HI.out.2);by_cases hmn:hi<l.length
   ·have hmnI:(hi:Int)<(l.length:Int):=by omega
    obtain⟨b,off,ha⟩:=HA.out.resolve_left (by omega);subst ha;obtain⟨xa,xc,g0,g1,hx⟩:=Qc (HE.out.keep (za HBw.out)) rfl hmn;have hC:=λW (hW:Below wr.heap.size wr W)=>(HC.out (l[hi]'hmn) xa xc W (HBw.out.trans (Below.mono hW HBw.out.size)) (zT.keep (za hW) hx)).mono λe w' h=>(⟨h.1,hW.trans (h.2.mono hW.size)⟩:_/\Below wr.heap.size wr w');have HF2:Hid (∀W,Below w.heap.size w W->Po (.returned (.tuple #[.int .i64 hi,.bool (decide (zB (l[hi]'hmn) y=0))])) W):=λW hW=>(HF.out W hW).1 hmn;clear HF;generalize (l[hi]'hmn)=x at *;have HCc:=Lib.hid hC;clear hC hx;have HALL:Hid (∀W,Below wr.heap.size wr W->W.cell? ⟨w.heap.size,0,none⟩=some (.int .i64 y.state)/\W.cell? ⟨w.heap.size,1,none⟩=some (.slice ay y.env.length cy)/\W.cell? ⟨b,off+hi*2,none⟩=some (.int .i64 x.state)/\W.cell? ⟨b,off+hi*2+1,none⟩=some (.slice xa x.env.length xc)):=λW hW=>⟨za hW _ _ x0,za hW _ _ x1,za hW _ _ g0,za hW _ _ g1⟩;generalize zB x y=cv at HCc HF2;by_cases hcv:cv=0
    ·subst hcv;go_wp2_with fail
     go_region_held3 (λw'=>Below wr.heap.size wr w'/\w'.cell? ⟨w.heap.size,0,none⟩=some (.int .i64 y.state)/\w'.cell? ⟨w.heap.size,1,none⟩=some (.slice ay y.env.length cy)/\w'.cell? ⟨b,off+hi*2,none⟩=some (.int .i64 x.state)/\w'.cell? ⟨b,off+hi*2+1,none⟩=some (.slice xa x.env.length xc))
      ((refine(λh=>⟨h,HALL.out _ h⟩) ?_;first|with_reducible assumption|exact yx))
      (first|(go_at_fn 51;(with_reducible refine(HCc.out _ (by first|with_reducible assumption|exact yx)).mono ?_);rintro e w5 ⟨rfl,hb5⟩)|((with_reducible refine(HCc.out _ (by first|with_reducible assumption|exact yx)).mono ?_);rintro e w5 ⟨rfl,hb5⟩))
     all_goals
      have HB5:Hid (Below w.heap.size w w5):=HBw.out.trans (Below.mono hb5 HBw.out.size);have HF3:=Lib.hid (HF2.out w5 HB5.out);clear hb5;go_wp2_with fail;first|exact HF3.out|(go_ret2;exact HF3.out)
    ·have hcb:(cv==0)=false:=by simp[hcv]
     have HF4:Hid (∀W,Below w.heap.size w W->Po (.returned (.tuple #[.int .i64 hi,.bool false])) W):=λW hW=>by have:=HF2.out W hW;rwa [decide_eq_false hcv]at this
     go_wp2_with fail
     go_region_held3 (λw'=>Below wr.heap.size wr w'/\w'.cell? ⟨w.heap.size,0,none⟩=some (.int .i64 y.state)/\w'.cell? ⟨w.heap.size,1,none⟩=some (.slice ay y.env.length cy)/\w'.cell? ⟨b,off+hi*2,none⟩=some (.int .i64 x.state)/\w'.cell? ⟨b,off+hi*2+1,none⟩=some (.slice xa x.env.length xc))
      ((refine(λh=>⟨h,HALL.out _ h⟩) ?_;first|with_reducible assumption|exact yx))
      (first|(go_at_fn 51;(with_reducible refine(HCc.out _ (by first|with_reducible assumption|exact yx)).mono ?_);rintro e w5 ⟨rfl,hb5⟩)|((with_reducible refine(HCc.out _ (by first|with_reducible assumption|exact yx)).mono ?_);rintro e w5 ⟨rfl,hb5⟩))
     all_goals
      have HB5:Hid (Below w.heap.size w w5):=HBw.out.trans (Below.mono hb5 HBw.out.size);have HF3:=Lib.hid (HF4.out w5 HB5.out);clear hb5;go_wp2_with fail;first|exact HF3.out|(go_ret2;exact HF3.out)
   ·have HF3:=Lib.hid ((HF.out wr HBw.out).2 hmn);have hmnI:decide ((hi:Int)<(l.length:Int))=false:=decide_eq_false (by omega);go_wp2_with fail;go_quiet (fail);go_wp2_with fail;have HF5:Hid (∀W,Below w.heap.size w W->Po (.returned (.tuple #[.int .i64 hi,.bool false])) W):=λW hW=>(HF.out W hW).2 hmn;first|exact HF5.out _ (HBw.out.trans (below_drewN (Below.refl _ _) _))|exact HF5.out _ (below_drewN HBw.out _)|exact HF3.out|(go_ret2;exact HF5.out _ (below_drewN HBw.out _))
theorem zih (env:List Sg) (t:yU) (out:List yU) (e:zn):(qZ env t out e).length<=out.length+1:=by
 unfold qZ;split
 ·split
  ·exact zes _ _
  ·omega
 ·omega
theorem zbc (n:zm) (env:List Sg) (out:List yU) (t:yU):stepT n env out t 0=out:=by unfold stepT;simp
theorem zeV (n:zm) (env:List Sg) (out:List yU) (t:yU) {k:Nat} (h:k<n.edges.length):stepT n env out t (k+1)=qZ env t (stepT n env out t k) (n.edges[k]'h):=by unfold stepT;rw[List.take_succ_eq_append_getElem h,List.foldl_append];rfl
theorem Y0 (n:zm) (env:List Sg) (out:List yU) (t:yU) (ha:Asc zB out):∀k,k<=n.edges.length->Asc zB (stepT n env out t k)/\(stepT n env out t k).length<=out.length+k
 |0,_=>by rw[zbc];exact⟨ha,by omega⟩
 |k+1,h=>by obtain⟨h1,h2⟩:=Y0 n env out t ha k (by omega);rw[zeV n env out t (by omega:k<n.edges.length)];have:=zih env t (stepT n env out t k) (n.edges[k]'(by omega));exact⟨zca h1,by omega⟩
theorem zar (n:zm) (env:List Sg) (l:List yU):yF n env l 0=[]:=by unfold yF;simp
theorem zc2 (n:zm) (env:List Sg) (l:List yU) {k:Nat} (h:k<l.length):yF n env l (k+1)=stepT n env (yF n env l k) (l[k]'h) n.edges.length:=by unfold yF;rw[List.take_succ_eq_append_getElem h,List.foldl_append];rfl
theorem XF (n:zm) (env:List Sg) (l:List yU):∀k,k<=l.length->Asc zB (yF n env l k)/\(yF n env l k).length<=k*n.edges.length
 |0,_=>by rw[zar];exact⟨List.Pairwise.nil,by simp⟩
 |k+1,h=>by obtain⟨h1,h2⟩:=XF n env l k (by omega);rw[zc2 n env l (by omega:k<l.length)];obtain⟨h3,h4⟩:=Y0 n env (yF n env l k) (l[k]'(by omega)) h1 n.edges.length (Nat.le_refl _);exact⟨h3,by rw[Nat.add_mul];omega⟩
theorem zla {l:List yU} {y:yU} (ha:Asc zB l):(bsF (λx:yU=>zB x y) l=true->Y5 zB l y=l)/\(bsF (λx:yU=>zB x y) l=false->bsP (λx:yU=>zB x y) l<=l.length/\Y5 zB l y=l.take (bsP (λx:yU=>zB x y) l)++y::l.drop (bsP (λx:yU=>zB x y) l)):=by
 have e:bsP (λx:yU=>zB x y) l=zgj zB l y:=rfl;have hle:zgj zB l y<=l.length:=List.countP_le_length;unfold bsF;rw[e,zlp zbs ha];cases hx:l[zgj zB l y]? with
 |none=>simp[hle]
 |some x =>simp only[Option.any_some,decide_eq_true_eq,decide_eq_false_iff_not];exact⟨λh=>by rw[if_pos h],λh=>⟨hle,by rw[if_neg h]⟩⟩
theorem zgA {l:List yU} {y:yU} (h:Asc zB l):∀i j (hi:i<l.length) (hj:j<l.length),i<=j->zB (l[j]'hj) y<0->zB (l[i]'hi) y<0:=λi j hi hj hij h2=>by
 by_cases e:i=j
 ·subst e;exact h2
 ·exact zbs.trans _ _ _ (List.pairwise_iff_getElem.1 h i j hi hj (by omega)) h2
theorem zfE {l:List Sg} (h:qf l=true):zbm l:=by have h1:=Q7.1 h;exact h1.1
def zgs (p:Nat->Bool) (r:List yU×Int) (w:World) (e:Ending) (w':World):Prop:=(∃a c,e=.returned (.tuple #[.slice a r.1.length c,.int .i64 r.2])/\thE.In (World.hide w' p) r.1 a c)/\Below w.heap.size w w'
theorem yQ {w wr w':World} {row:Option Nat} (h:Below w.heap.size w wr) (hg:wr.grownBy w' row) (hr:∀k,row=some k->w.heap.size<=k):Below w.heap.size w w':=Yv h hg h.size hr
theorem zeW (p:Nat->Bool) (n:zm) (x:YL) (l:List yU) (al:Option Addr) (cl:Nat) (env:List Sg) (ae:Option Addr) (ce:Nat) (w:World) (hp:∀j,p j=true->j<w.heap.size) (hG:ZW w) (hN:xS w n x) (hs:yH n) (hse:∀e∈n.edges,Qf e)
 (hL:thE.In w l al cl) (hll:l.length<=1000) (hlt:∀t∈l,t.env.length<=50000) (hE:sgE.In w env ae ce) (he:env.length<=50000) :
 Calls Tryz.prog 19 #[xq n x,.slice al l.length cl,.slice ae env.length ce] w (zgs p (yq n l env) w):=by
 have HV:=Lib.hid λW (hW:Below w.heap.size w W)=>XX n x W (hG.below hW) (hN.keep (za hW)) hs;have HSo:Hid (∀(k:Nat) (hk:k<l.length) (W:World) (at_:Option Addr) (ct:Nat),zT W (l[k]'hk).env at_ ct->Calls Tryz.prog 48 #[.slice at_ (l[k]'hk).env.length ct] W λe w'=>e=.returned (.bool (qf (l[k]'hk).env))/\Below W.heap.size W w'):=λk hk W a c h=>zdK _ a c W h
 have HTk:Hid (∀(k:Nat) (hk:k<l.length) (m:Nat) (hm:m<n.edges.length) (q:Nat->Bool) (W:World) (at_:Option Addr) (ct:Nat) (ag:Option Addr) (cg:Nat) (aS:Option Addr) (cs:Nat),Below w.heap.size w W->(∀j,q j=true->j<W.heap.size)->qf (l[k]'hk).env=true->zT W (l[k]'hk).env at_ ct->exE.In W (n.edges[m]'hm).guards ag cg->bdE.In W (n.edges[m]'hm).sets aS cs ->
  Calls Tryz.prog 49 #[.agg #[.int .i64 (l[k]'hk).state,.slice at_ (l[k]'hk).env.length ct],.agg #[.int .i64 (n.edges[m]'hm).fr,.int .i64 (n.edges[m]'hm).to,.slice ag (n.edges[m]'hm).guards.length cg,.slice aS (n.edges[m]'hm).sets.length cs],.slice ae env.length ce] W (zgt q (xj (n.edges[m]'hm) (l[k]'hk).env env) (n.edges[m]'hm).to W)) :=
  λk hk m hm q W at_ ct ag cg aS cs hW hq hlo h1 h2 h3=>zj4 q (l[k]'hk) at_ ct (n.edges[m]'hm) ag cg aS cs env ae ce W hq (hG.below hW) (Yo.2 h1) h2 h3 (hE.keep (za hW)) (zfE hlo) (hlt _ (List.getElem_mem hk)) he (hse _ (List.getElem_mem hm))
 have HNo:Hid (zY n=false\/l.all (YI n)=false->∀W,Below w.heap.size w W->zgs p (yq n l env) w (.returned (.tuple #[.slice none 0 0,.int .i64 1])) W):=λh W hW=>by
  have:yq n l env=([],1):=by
   unfold yq;rcases h with h|h
   ·rw[if_pos h]
   ·by_cases h2:zY n=false
    ·rw[if_pos h2]
    ·rw[if_neg h2,if_pos h]
  rw[this];exact⟨⟨none,0,rfl,Enc.In.nil _⟩,hW⟩
 have HBig:Hid (zY n=true->l.all (YI n)=true->256<(yF n env l l.length).length->∀W,Below w.heap.size w W->zgs p (yq n l env) w (.returned (.tuple #[.slice none 0 0,.int .i64 2])) W):=λh1 h2 h3 W hW=>by
  have:yq n l env=([],2):=by unfold yq;rw[if_neg (by simp[h1]),if_neg (by simp[h2]),if_pos h3]
  rw[this];exact⟨⟨none,0,rfl,Enc.In.nil _⟩,hW⟩
 have HYes:Hid (zY n=true->l.all (YI n)=true->¬256<(yF n env l l.length).length->∀W a c,Below w.heap.size w W->thE.In (World.hide W p) (yF n env l l.length) a c->zgs p (yq n l env) w (.returned (.tuple #[.slice a (yF n env l l.length).length c,.int .i64 0])) W):=λh1 h2 h3 W a c hW hin=>by
  have:yq n l env=(yF n env l l.length,0):=by unfold yq;rw[if_neg (by simp[h1]),if_neg (by simp[h2]),if_neg h3]
  rw[this];exact⟨⟨a,c,rfl,hin⟩,hW⟩
 have HNs:=Lib.hid hN.es;have HLs:=Lib.hid hL;have Hp:=Lib.hid hp;have HNa:Hid (n.edges.length=0\/∃b off,x.ae=some ⟨b,off,none⟩):=hN.es.addr;have HLa:Hid (l.length=0\/∃b off,al=some ⟨b,off,none⟩):=hL.addr;have hel:=hN.es.len;rw[zH]at HV⊢;generalize hPo:zgs p (yq n l env) w=Po at HNo HBig HYes⊢;clear hPo hp hG hN hs hse hL hlt hE he;obtain⟨xae,xce,xaa,xca⟩:=x;simp only at HV HNs HNa⊢;go_enter Tryz.func19, Tryz.ntmps19;go_upto_region 1 with fail;generalize hW2:World.alloc w _=W2;have HB2:Hid (Below w.heap.size w W2):=by show Below _ _ _;rw[←hW2];exact(Below.refl _ _).alloc (Nat.le_refl _) _
 have HX2:Hid (W2.heap[w.heap.size]? = some (.cells #[.int .i64 n.states,.slice xae n.edges.length xce,.slice xaa n.accept.length xca] 33 (0,0))):=by show _=_;rw[←hW2];exact zh rfl
 have hz2:w.heap.size+1<=W2.heap.size:=by rw[←hW2];simp
 clear hW2;obtain⟨b0,b1,b2⟩:=zv HX2.out;go_wp2_with fail;refine(HV.out _ HB2.out).mono ?_;rintro e w3 ⟨rfl,hb3⟩;have HB3:Hid (Below w.heap.size w w3):=HB2.out.trans (hb3.mono HB2.out.size);have HX3:Hid (w3.heap[w.heap.size]? = some (.cells #[.int .i64 n.states,.slice xae n.edges.length xce,.slice xaa n.accept.length xca] 33 (0,0))):=(hb3.block _ (by omega)).trans HX2.out;have hz3:w.heap.size+1<=w3.heap.size:=by have:=hb3.size;omega
 clear hb3 HX2 HB2 HV b0 b1 b2 hz2;cases hok:zY n with
 |false =>have HN:=Lib.hid (HNo.out (Or.inl hok));clear hok HNo HYes HBig;go_wp2_with fail;have HN2:=Lib.hid (HN.out w3 HB3.out);first|exact HN2.out|(go_ret2;exact HN2.out)
 |true =>
  have HOk:=Lib.hid hok;have hne:n.edges.length<=4096:=(zz.1 hok).1.2.2;clear hok;go_wp2_with fail;go_loopw [24,9] (λi _ wr=>∃k:Nat,i=.int .i64 k/\k<=l.length/\Hid (∀j (hj:j<l.length),j<k->YI n (l[j]'hj)=true)/\Hid (Below w3.heap.size w3 wr)) (λi _ _=>l.length-(intOf i).toNat);case atStart=>exact⟨0,rfl,Nat.zero_le _,λj _ h=>absurd h (by omega),Below.refl _ _⟩
  case round =>
   (try rename World=>wr)
   obtain⟨k,rfl,hk,HN,HBr⟩:=hrel;have hzr:=HBr.out.size;have HBw:Hid (Below w.heap.size w wr):=HB3.out.trans (HBr.out.mono HB3.out.size);have HXr:Hid (wr.heap[w.heap.size]? = some (.cells #[.int .i64 n.states,.slice xae n.edges.length xce,.slice xaa n.accept.length xca] 33 (0,0))):=(HBr.out.block _ (by omega)).trans HX3.out;by_cases hltk:k<l.length
   ·obtain⟨bl,ol,hla⟩:=HLa.out.resolve_left (by omega);subst hla;obtain⟨ta,tc,g0,g1,ht⟩:=Qc (HLs.out.keep (za HBw.out)) rfl hltk;have HS1:=λW h=>HSo.out k hltk W ta tc h;have HBad:Hid (YI n (l[k]'hltk)=false->l.all (YI n)=false):=λh=>by
     rw[←Bool.not_eq_true,List.all_eq_true];intro h2;rw[h2 _ (List.getElem_mem hltk)]at h;cases h
    have HGo:Hid (YI n (l[k]'hltk)=true->∀j (hj:j<l.length),j<k+1->YI n (l[j]'hj)=true):=λh j hj hjk=>by
     by_cases e:j=k
     ·subst e;exact h
     ·exact HN.out j hj (by omega)
    generalize (l[k]'hltk)=t at HS1 HBad HGo g0 g1 ht;have HOk1:Hid (YI n t=(decide (0<=t.state/\t.state<n.states)&&qf t.env)):=rfl;have HT:=Lib.hid ht;have HS2:=Lib.hid HS1;generalize YI n t=okt at HOk1 HBad HGo;generalize qf t.env=lo at HS1 HS2 HOk1;clear ht HS1;go_upto_region 6 with fail;generalize hW5:World.alloc wr _=W5;have hB5:Below wr.heap.size wr W5:=by rw[←hW5];exact(Below.refl _ _).alloc (Nat.le_refl _) _
    have hy5:W5.heap[wr.heap.size]? = some (.cells #[.int .i64 t.state,.slice ta t.env.length tc] 49 (0,0)):=by rw[←hW5];exact zh rfl
    have hx5:=(hB5.block _ (lt_of_block HXr.out)).trans HXr.out;have HBw5:Hid (Below w.heap.size w W5):=HBw.out.trans (hB5.mono HBw.out.size);have HBr5:Hid (Below w3.heap.size w3 W5):=HBr.out.trans (hB5.mono hzr);have HS3:=Lib.hid (HS2.out W5 (zT.keep (za hB5) HT.out));obtain⟨y0,y1,-⟩:=xm hy5;obtain⟨x0,-,-⟩:=zv hx5;clear hW5 hB5 hy5 hx5 g0 g1 HS2;by_cases hr1:t.state<0
    ·have HE1:=Lib.hid (HNo.out (Or.inr (HBad.out (by rw[HOk1.out,decide_eq_false (by omega)];rfl))) W5 HBw5.out);go_wp2_with fail;first|exact HE1.out|(go_ret2;exact HE1.out)
    ·by_cases hr2:n.states<=t.state
     ·have HE1:=Lib.hid (HNo.out (Or.inr (HBad.out (by rw[HOk1.out,decide_eq_false (by omega)];rfl))) W5 HBw5.out);go_wp2_with fail;first|exact HE1.out|(go_ret2;exact HE1.out)
     ·cases lo with
      |true =>
       have HN2:=Lib.hid (HGo.out (by rw[HOk1.out,decide_eq_true (by omega)];rfl));go_wp2_with (go_at_call 48;go_must (refine HS3.out.mono ?_;rintro e w6 ⟨rfl,hb6⟩;have HB6:=Lib.hid hb6;clear hb6));go_roundw;case rel=>exact⟨k+1,by go_num,by omega,HN2.out,HBr5.out.trans (HB6.out.mono HBr5.out.size)⟩
       case measure=>(simp[intOf];try omega)
      |false =>have HE1:=Lib.hid (HNo.out (Or.inr (HBad.out (by rw[HOk1.out];simp))));go_wp2_with (go_at_call 48;go_must (refine HS3.out.mono ?_;rintro e w6 ⟨rfl,hb6⟩;have HB6:Hid (Below w.heap.size w w6):=HBw5.out.trans (hb6.mono HBw5.out.size);clear hb6));have HE2:=Lib.hid (HE1.out w6 HB6.out);first|exact HE2.out|(go_ret2;exact HE2.out)
   ·obtain rfl:k=l.length:=by omega
    have HAll:Hid (l.all (YI n)=true):=by show _=_;rw[List.all_eq_true];intro t ht;obtain⟨j,hj,rfl⟩:=List.getElem_of_mem ht;exact HN.out j hj hj
    have HThr:Hid (∀j (hj:j<l.length),qf (l[j]'hj).env=true):=λj hj=>by have:=HN.out j hj hj;unfold YI at this;exact(Bool.and_eq_true_iff.1 this).2
    have HBg:=Lib.hid (HBig.out HOk.out HAll.out);have HYs:=Lib.hid (HYes.out HOk.out HAll.out);clear HNo HBig HYes HN HOk HAll HSo;have H0:=zar n env l;have HFt:Hid (∀k,k<=l.length->Asc zB (yF n env l k)/\(yF n env l k).length<=4096000):=λk hk=>by
     obtain⟨h1,h2⟩:=XF n env l k hk;exact⟨h1,by
      calc _<=k*n.edges.length:=h2
      _<=1000*4096:=Nat.mul_le_mul (by omega) hne⟩
    have HTs:Hid (∀k (hk:k<l.length),yF n env l (k+1)=stepT n env (yF n env l k) (l[k]'hk) n.edges.length):=λk hk=>zc2 n env l hk;generalize yF n env l=OT at HBg HYs H0 HFt HTs;have HOw0:Hid (thE.Own 49 p wr (w.heap.size+1) (.slice none 0 0) (OT 0)):=by show thE.Own _ _ _ _ _ _;rw[H0];exact Enc.Own.nil _ _ _ _ _
    clear H0;obtain⟨x0,x1,x2⟩:=zv HXr.out;go_wp2_with fail;clear x0 x1 x2;go_loopw [47,10,12,14,15,16,17,18] (λi o _ _ _ _ _ _ wd=>∃m:Nat,i=.int .i64 m/\m<=l.length/\Hid (thE.Own 49 p wd (w.heap.size+1) o (OT m))/\Hid (wd.heap[w.heap.size]? = some (.cells #[.int .i64 n.states,.slice xae n.edges.length xce,.slice xaa n.accept.length xca] 33 (0,0)))/\Hid (Below w.heap.size w wd)) (λi _ _ _ _ _ _ _ _=>l.length-(intOf i).toNat);case atStart=>exact⟨0,rfl,Nat.zero_le _,HOw0.out,HXr.out,HBw.out⟩
    case round =>
     (try rename World=>wd)
     obtain⟨m,rfl,hm,HO,HXd,HBd⟩:=hrel;have hzd:=lt_of_block HXd.out;have hfm:=HFt.out m hm;obtain⟨ha,hlen⟩:=hfm;by_cases hltm:m<l.length
     ·obtain⟨bl,ol,hla⟩:=HLa.out.resolve_left (by omega);subst hla;obtain⟨ta,tc,g0w,g1w,ht⟩:=Qc HLs.out rfl hltm;have g0:=za HBd.out _ _ g0w;have g1:=za HBd.out _ _ g1w;clear g0w g1w;have HTk1:=λm2 hm2 q W ag cg aS cs h1 h2 h3=>HTk.out m hltm m2 hm2 q W ta tc ag cg aS cs h1 h2 (HThr.out m hltm) h3;have HT1:=HTs.out m hltm;generalize (l[m]'hltm)=t at HTk1 HT1 g0 g1 ht;have HTk2:=Lib.hid HTk1;have HT:=Lib.hid ht;have HF2:Hid (∀k,k<=n.edges.length->Asc zB (stepT n env (OT m) t k)/\(stepT n env (OT m) t k).length<=5000000):=λk hk=>by
       obtain⟨h1,h2⟩:=Y0 n env (OT m) t ha k hk;exact⟨h1,by omega⟩
      have HDs:Hid (∀k (hk:k<n.edges.length),stepT n env (OT m) t (k+1)=qZ env t (stepT n env (OT m) t k) (n.edges[k]'hk)):=λk hk=>zeV n env (OT m) t hk;have HD0:=zbc n env (OT m) t;generalize stepT n env (OT m) t=D at HT1 HF2 HDs HD0;have HT2:=Lib.hid HT1;clear HTk1 ht HT1;go_upto_region 13 with fail;generalize hW5:World.alloc wd _=W5;have hB5:Below wd.heap.size wd W5:=by rw[←hW5];exact(Below.refl _ _).alloc (Nat.le_refl _) _
      have HY5:Hid (W5.heap[wd.heap.size]? = some (.cells #[.int .i64 t.state,.slice ta t.env.length tc] 49 (0,0))):=by show _=_;rw[←hW5];exact zh rfl
      have HX5:Hid (W5.heap[w.heap.size]? = some (.cells #[.int .i64 n.states,.slice xae n.edges.length xce,.slice xaa n.accept.length xca] 33 (0,0))):=(hB5.block _ hzd).trans HXd.out;have HBw5:Hid (Below w.heap.size w W5):=HBd.out.trans (hB5.mono HBd.out.size);have HO5:Hid (thE.Own 49 p W5 (w.heap.size+1) u10 (D 0)):=by show thE.Own _ _ _ _ _ _;rw[HD0];exact HO.out.below hB5
      have HNe5:Hid (u10.ownBlock≠some wd.heap.size):=λe=>by have:=(zl HO.out _ e).2;omega
      obtain⟨x0,x1,x2⟩:=zv HX5.out;clear hW5 hB5 g0 g1 HD0 HO HXd;go_wp2_with fail;clear x0 x1 x2;go_loopw [54,10,14,15,16,17,18] (λi o _ _ _ _ _ we=>∃k:Nat,i=.int .i64 k/\k<=n.edges.length/\Hid (thE.Own 49 p we (w.heap.size+1) o (D k))/\Hid (we.heap[w.heap.size]? = some (.cells #[.int .i64 n.states,.slice xae n.edges.length xce,.slice xaa n.accept.length xca] 33 (0,0)))/\Hid (we.heap[wd.heap.size]? = some (.cells #[.int .i64 t.state,.slice ta t.env.length tc] 49 (0,0)))/\Hid (o.ownBlock≠some wd.heap.size)/\Hid (Below w.heap.size w we)) (λi _ _ _ _ _ _ _=>n.edges.length-(intOf i).toNat);case atStart=>exact⟨0,rfl,Nat.zero_le _,HO5.out,HX5.out,HY5.out,HNe5.out,HBw5.out⟩
      case round =>
       (try rename World=>we)
       obtain⟨k,rfl,hk,HOe,HXe,HYe,HNe,HBe⟩:=hrel;have hze:=lt_of_block HXe.out;have hye:=lt_of_block HYe.out;by_cases hltk:k<n.edges.length
       ·obtain⟨bE,oE,hEa⟩:=HNa.out.resolve_left (by omega);subst hEa;obtain⟨ag,cg,aS,cs,f0w,f1w,f2w,f3w,hg,hs⟩:=yR HNs.out rfl hltk;have f0:=za HBe.out _ _ f0w;have f1:=za HBe.out _ _ f1w;have f2:=za HBe.out _ _ f2w;have f3:=za HBe.out _ _ f3w;clear f0w f1w f2w f3w;have HTk3:=λq W hW hq=>HTk2.out k hltk q W ag cg aS cs hW hq (zT.keep (za hW) HT.out) (hg.keep (za hW)) (hs.keep (za hW));obtain⟨hak,hlk⟩:=HF2.out k hk;have HD1:=HDs.out k hltk;generalize (n.edges[k]'hltk)=e at HTk3 HD1 f0 f1 f2 f3 hg hs;have HTk4:=Lib.hid HTk3;have HD2:=Lib.hid HD1;clear HTk3 HD1 hg hs;obtain⟨ao,co,hov,hin⟩:=HOe.out.slice (by omega);subst hov;go_upto_region 16 with fail;generalize hW6:World.alloc we _=W6;have hB6:Below we.heap.size we W6:=by rw[←hW6];exact(Below.refl _ _).alloc (Nat.le_refl _) _
        have he6:W6.heap[we.heap.size]? = some (.cells #[.int .i64 e.fr,.int .i64 e.to,.slice ag e.guards.length cg,.slice aS e.sets.length cs] 69 (0,0)):=by rw[←hW6];exact zh rfl
        have HX6:Hid (W6.heap[w.heap.size]? = some (.cells #[.int .i64 n.states,.slice (some ⟨bE,oE,none⟩) n.edges.length xce,.slice xaa n.accept.length xca] 33 (0,0))):=(hB6.block _ hze).trans HXe.out;have HY6:Hid (W6.heap[wd.heap.size]? = some (.cells #[.int .i64 t.state,.slice ta t.env.length tc] 49 (0,0))):=(hB6.block _ hye).trans HYe.out;have HB6:Hid (Below w.heap.size w W6):=HBe.out.trans (hB6.mono HBe.out.size);have HO6:Hid (thE.Own 49 p W6 (w.heap.size+1) (.slice ao (D k).length co) (D k)):=HOe.out.below hB6;have HI6:Hid (thE.In W6 (D k) ao co):=hin.keep (za hB6);obtain⟨e0,e1,e2,e3,-⟩:=zN he6;obtain⟨t0,t1,-⟩:=xm HY6.out;clear hW6 hB6 he6 f0 f1 f2 f3 hin HOe HXe HYe;by_cases hfr:e.fr=t.state
        ·have HD3:Hid (D (k+1)=match xj e t.env env with|some loc=>Y5 zB (D k) ⟨e.to,loc⟩|none=>D k):=by show _=_;rw[HD2.out];unfold qZ;rw[if_pos hfr];cases xj e t.env env<;>rfl
         have hqlt:∀j,hid p (.slice ao (D k).length co) j=true->j<W6.heap.size:=λj hj=>(ze.1 hj).elim (λh=>by have:=Hp.out j h;have:=HB6.out.size;omega) λh=>(zl HO6.out j h).2;have HTk5:=Lib.hid (HTk4.out (hid p (.slice ao (D k).length co)) W6 HB6.out hqlt);generalize xj e t.env env=tk at HTk5 HD3;have hfb:(e.fr != t.state)=false:=by simp[hfr]
         clear hqlt HD2 hfr;have HYb:Hid (∀W,Below W6.heap.size W6 W->W.heap[wd.heap.size]? = some (.cells #[.int .i64 t.state,.slice ta t.env.length tc] 49 (0,0))):=λW hW=>(hW.block _ (lt_of_block HY6.out)).trans HY6.out;have HXb:Hid (∀W,Below W6.heap.size W6 W->W.heap[w.heap.size]? = some (.cells #[.int .i64 n.states,.slice (some ⟨bE,oE,none⟩) n.edges.length xce,.slice xaa n.accept.length xca] 33 (0,0))):=λW hW=>(hW.block _ (lt_of_block HX6.out)).trans HX6.out;have hs6:=HB6.out.size;cases tk with
         |none =>
          have HO7:Hid (∀W,Below W6.heap.size W6 W->thE.Own 49 p W (w.heap.size+1) (.slice ao (D k).length co) (D (k+1))):=λW hW=>by rw[HD3.out];exact HO6.out.below hW
          go_wp2_with (go_at_call 49;go_must (refine HTk5.out.mono ?_;rintro e7 w7 ⟨rfl,hb7⟩;have HB7:=Lib.hid hb7;clear hb7));have hA:Below W6.heap.size W6 (w7.alloc (.cells #[.int .i64 0,.slice none 0 0] 49)):=HB7.out.alloc HB7.out.size _;have HA:=Lib.hid hA;clear hA;go_roundw;case rel=>exact⟨k+1,by go_num,by omega,HO7.out _ HA.out,HXb.out _ HA.out,HYb.out _ HA.out,HNe.out,HB6.out.trans (HA.out.mono hs6)⟩
          case measure=>(simp[intOf];try omega)
         |some loc =>
          go_upto_region 19 with (go_at_call 49;go_must (refine HTk5.out.mono ?_;rintro e7 w7 ⟨⟨a7,c7,rfl,hin7⟩,hb7⟩));generalize hW8:World.alloc w7 _=W8;have hB8:Below W6.heap.size W6 W8:=by rw[←hW8];exact hb7.alloc hb7.size _
          have hB78:Below w7.heap.size w7 W8:=by rw[←hW8];exact(Below.refl _ _).alloc (Nat.le_refl _) _
          have hy8:W8.heap[w7.heap.size]? = some (.cells #[.int .i64 e.to,.slice a7 loc.length c7] 49 (0,0)):=by rw[←hW8];exact zh rfl
          have HIn8:Hid (sgE.In (World.hide W8 (hid p (.slice ao (D k).length co))) loc a7 c7):=hin7.keep (zg hB78 λ_ _ h=>h);have HB8:=Lib.hid hB8;have HY8:=Lib.hid hy8;obtain⟨q0,q1,-⟩:=xm hy8;obtain⟨hi1,hi2⟩:=zla (y:=⟨e.to,loc⟩) hak;have HBs:Hid (Calls Tryz.prog 50 #[.slice ao (D k).length co,.agg #[.int .i64 e.to,.slice a7 loc.length c7],.func (.func 51) #[] #[]] W8 λe' w'=>e'=.returned (.tuple #[.int .i64 (bsP (λz=>zB z ⟨e.to,loc⟩) (D k):Nat),.bool (bsF (λz=>zB z ⟨e.to,loc⟩) (D k))])/\Below W8.heap.size W8 w'):=zbq ⟨e.to,loc⟩ a7 c7 (D k) ao co W8 (HI6.out.keep (za hB8)) (Yo.1 (HIn8.out.keep zb)) (zgA hak);generalize bsP (λz=>zB z ⟨e.to,loc⟩) (D k)=ps at HBs hi1 hi2;generalize bsF (λz=>zB z ⟨e.to,loc⟩) (D k)=fd at HBs hi1 hi2;have HI1:=Lib.hid hi1;have HI2:=Lib.hid hi2;clear hW8 hB8 hB78 hy8 hin7 hb7 hi1 hi2 t0 t1 e0 e1 e2 e3;cases fd with
          |true =>
           have HO7:Hid (∀W,Below W6.heap.size W6 W->thE.Own 49 p W (w.heap.size+1) (.slice ao (D k).length co) (D (k+1))):=λW hW=>by rw[HD3.out];show thE.Own _ _ _ _ _ (Y5 zB (D k) _);rw[HI1.out rfl];exact HO6.out.below hW
           go_wp2_with (go_at_call 50;go_must (refine HBs.out.mono ?_;rintro e9 w9 ⟨rfl,hb9⟩;have HA:Hid (Below W6.heap.size W6 w9):=HB8.out.trans (hb9.mono HB8.out.size);clear hb9));go_roundw;case rel=>exact⟨k+1,by go_num,by omega,HO7.out _ HA.out,HXb.out _ HA.out,HYb.out _ HA.out,HNe.out,HB6.out.trans (HA.out.mono hs6)⟩
           case measure=>(simp[intOf];try omega)
          |false =>
           obtain⟨hps,hins⟩:=HI2.out rfl;have HD4:Hid (D (k+1)=(D k).take ps++⟨e.to,loc⟩::(D k).drop ps):=by show _=_;rw[HD3.out];exact hins
           clear hins;go_upto_region 21 with (go_at_call 50;go_must (refine HBs.out.mono ?_;rintro e9 w9 ⟨rfl,hb9⟩));have HA:Hid (Below W6.heap.size W6 w9):=HB8.out.trans (hb9.mono HB8.out.size);have hs9:=HA.out.size;have hy9:=(hb9.block _ (lt_of_block HY8.out)).trans HY8.out;obtain⟨z0,z1,-⟩:=xm hy9;have HOv:Hid (∀j,(Value.slice ao (D k).length co).ownBlock=some j->w.heap.size+1<=j/\j<W6.heap.size):=zl HO6.out
           have HIns:=Lib.hid (zcv p (w.heap.size+1) ps (.slice ao (D k).length co) (D k) ⟨e.to,loc⟩ w9.heap.size 1 [.int .i64 e.to,.slice a7 loc.length c7] (w9.alloc (.cells #[.int .i64 e.to,.slice a7 loc.length c7] 49)) (HO6.out.below (HA.out.alloc hs9 _)) hps
            ⟨a7,c7,rfl,(Yo.1 HIn8.out).keep (zg ((hb9).alloc hb9.size _) λ_ _ h=>h)⟩ (zi w9 _)
            (by
             cases hq:p w9.heap.size with
             |false=>rfl
             |true=>have:=Hp.out _ hq;omega) (λe'=>by have:=(HOv.out _ e').2;omega) (by omega) (by simp;omega) (by omega))
           clear q0 q1 hy9 hb9 hps;go_wp2_with (go_at_call 52;go_must (refine HIns.out.mono ?_;rintro e3 w3' ⟨v3,rfl,ho3,hg3,hat3⟩;have HO3:=Lib.hid ho3;have HG3:=Lib.hid hg3;have HAt3:=Lib.hid hat3;clear ho3 hg3 hat3));have HA9:Hid (Below W6.heap.size W6 (w9.alloc (.cells #[.int .i64 e.to,.slice a7 loc.length c7] 49))):=HA.out.alloc hs9 _;have hlX:w.heap.size<(w9.alloc (.cells #[.int .i64 e.to,.slice a7 loc.length c7] 49)).heap.size:=by simp;omega
           have hyl:=lt_of_block HY6.out;have hlY:wd.heap.size<(w9.alloc (.cells #[.int .i64 e.to,.slice a7 loc.length c7] 49)).heap.size:=by simp;omega
           have HX9:Hid (w3'.heap[w.heap.size]? = some (.cells #[.int .i64 n.states,.slice (some ⟨bE,oE,none⟩) n.edges.length xce,.slice xaa n.accept.length xca] 33 (0,0))):=(HG3.out.block _ hlX (λe'=>by have:=(HOv.out _ e'.symm).1;omega)).trans (HXb.out _ HA9.out);have HY9:Hid (w3'.heap[wd.heap.size]? = some (.cells #[.int .i64 t.state,.slice ta t.env.length tc] 49 (0,0))):=(HG3.out.block _ hlY (λe'=>HNe.out e'.symm)).trans (HYb.out _ HA9.out);have HN9:Hid (v3.ownBlock≠some wd.heap.size):=by
            rcases HAt3.out with h|⟨g,h,hg⟩
            ·rw[h];exact HNe.out
            ·rw[h];intro e';have:=Option.some.inj e';omega
           have HB9:Hid (Below w.heap.size w w3'):=yQ (HB6.out.trans (HA9.out.mono hs6)) HG3.out λj hj=>by have:=(HOv.out j hj).1;omega
           have HO9:Hid (thE.Own 49 p w3' (w.heap.size+1) v3 (D (k+1))):=by show thE.Own _ _ _ _ _ _;rw[HD4.out];exact HO3.out
           go_roundw;case rel=>exact⟨k+1,by go_num,by omega,HO9.out,HX9.out,HY9.out,HN9.out,HB9.out⟩
           case measure=>(simp[intOf];try omega)
        ·have HD3:Hid (D (k+1)=D k):=by show _=_;rw[HD2.out];unfold qZ;rw[if_neg hfr]
         have hfb:(e.fr != t.state)=true:=by simp[hfr]
         have HO7:Hid (thE.Own 49 p W6 (w.heap.size+1) (.slice ao (D k).length co) (D (k+1))):=by show thE.Own _ _ _ _ _ _;rw[HD3.out];exact HO6.out
         clear hfr;go_wp2_with fail;go_roundw;case rel=>exact⟨k+1,by go_num,by omega,HO7.out,HX6.out,HY6.out,HNe.out,HB6.out⟩
         case measure=>(simp[intOf];try omega)
       ·obtain rfl:k=n.edges.length:=by omega
        have HO7:Hid (thE.Own 49 p we (w.heap.size+1) u10 (OT (m+1))):=by show thE.Own _ _ _ _ _ _;rw[HT2.out];exact HOe.out
        go_wp2_with fail;go_roundw;case rel=>exact⟨m+1,by go_num,by omega,HO7.out,HXe.out,HBe.out⟩
        case measure=>(simp[intOf];try omega)
     ·obtain rfl:m=l.length:=by omega
      obtain⟨ao,co,hov,hin⟩:=HO.out.sliceP (by omega) (λj hj=>by
       cases hq:p j with
       |false=>rfl
       |true=>have:=Hp.out _ hq;omega)
      subst hov;by_cases hbig:256<(OT l.length).length
      ·have HE1:=Lib.hid (HBg.out hbig _ HBd.out);have hbI:((256:Int)<((OT l.length).length:Int)):=by omega
       go_wp2_with fail;first|exact HE1.out|(go_ret2;exact HE1.out)
      ·have HE1:=Lib.hid (HYs.out hbig _ _ _ HBd.out hin);have hbI:¬((256:Int)<((OT l.length).length:Int)):=by omega
       go_wp2_with fail;first|exact HE1.out|(go_ret2;exact HE1.out)
theorem Qb:∀l:List Sg,zbm (qq l)/\(qq l).length<=l.length
 | []=>⟨List.Pairwise.nil,by simp[qq]⟩
 |x::r=>by obtain⟨h1,h2⟩:=Qb r;have e:qq (x::r)=Z4 (qq r) x.1 (YJ x.2):=rfl;rw[e];have:=zeK (qq r) x.1 (YJ x.2);exact⟨zbO h1,by rw[List.length_cons];omega⟩
def zfa (p:Nat->Bool) (r:List yU) (w:World) (e:Ending) (w':World):Prop:=(∃a c,e=.returned (.slice a r.length c)/\thE.In (World.hide w' p) r a c)/\Below w.heap.size w w'
theorem zc1 (p:Nat->Bool) (env:List Sg) (ae:Option Addr) (ce:Nat) (w:World) (hp:∀j,p j=true->j<w.heap.size) (hE:sgE.In w env ae ce) (he:env.length<=50000) :
 Calls Tryz.prog 22 #[.slice ae env.length ce] w (zfa p [⟨0,qq env⟩] w):=by
 have HEn:=Lib.hid hE;have Hp:=Lib.hid hp;have HEa:Hid (env.length=0\/∃b off,ae=some ⟨b,off,none⟩):=hE.addr;have HWi:Hid (∀k (hk:k<env.length) (q:Nat->Bool) W a c,sgE.In (World.hide W q) (qq (env.drop (k+1))) a c->(∀j,q j=true->j<W.heap.size)->Calls Tryz.prog 56 #[.slice a (qq (env.drop (k+1))).length c,.string (env[k]'hk).1,.int .i64 (YJ (env[k]'hk).2)] W (Xa q (qq (env.drop k)) W)):=λk hk q W a c h1 h2=>by
  have e:qq (env.drop k)=Z4 (qq (env.drop (k+1))) (env[k]'hk).1 (YJ (env[k]'hk).2):=by rw[List.drop_eq_getElem_cons hk];rfl
  rw[e];obtain⟨h3,h4⟩:=Qb (env.drop (k+1));rw[List.length_drop]at h4;exact ze3 q _ a c _ _ W h1 h2 h3 (by omega)
 have HLn:Hid (∀k,(qq (env.drop k)).length<=50000):=λk=>by have:=(Qb (env.drop k)).2;rw[List.length_drop]at this;omega
 have HLe:qq (env.drop env.length)=[]:=by rw[List.drop_length];rfl
 have HL0:qq (env.drop 0)=qq env:=rfl;rw[←HL0];clear hp hE HL0;generalize hS:(λk=>qq (env.drop k))=S at *;have hSe:∀k,qq (env.drop k)=S k:=λk=>by rw[←hS]
 simp only[hSe]at HWi HLn HLe⊢;clear hSe hS;have HPo:Hid (∀W a c,Below w.heap.size w W->thE.In (World.hide W p) [⟨0,S 0⟩] a c->zfa p [⟨0,S 0⟩] w (.returned (.slice a 1 c)) W):=λW a c h1 h2=>⟨⟨a,c,rfl,h2⟩,h1⟩;generalize zfa p [⟨0,S 0⟩] w=Po at HPo⊢;go_enter Tryz.func22, Tryz.ntmps22;go_upto_region 2 with fail;generalize hW2:World.alloc w _=W2;have HB2:Hid (Below w.heap.size w W2):=by show Below _ _ _;rw[←hW2];exact(Below.refl _ _).alloc (Nat.le_refl _) _
 have HX2:Hid (W2.heap[w.heap.size]? = some (.cells #[.int .i64 0,.slice none 0 0] 49 (0,0))):=by show _=_;rw[←hW2];exact zh rfl
 have hz2:w.heap.size+1<=W2.heap.size:=by rw[←hW2];simp
 clear hW2;obtain⟨q,hq⟩:∃q:Nat->Bool,(λj=>p j||j==w.heap.size)=q:=⟨_,rfl⟩;have Q:Hid (∀j,q j=true<->p j=true\/j=w.heap.size):=λj=>by rw[←hq];simp
 clear hq;have HX0:Hid (W2.heap[w.heap.size]? = some (.cells #[.int .i64 0,.slice none (S env.length).length 0] 49 (0,0))):=by show _=_;rw[HLe];exact HX2.out
 have HI0:Hid (sgE.In (World.hide W2 q) (S env.length) none 0):=by show sgE.In _ _ _ _;rw[HLe];exact Enc.In.nil _
 clear HLe;go_wp2_with fail;go_loopw [4] (λi wr=>∃(k:Nat) (a:Option Addr) (c:Nat),i=.int .i64 ((k:Int)-1)/\k<=env.length/\Hid (wr.heap[w.heap.size]? = some (.cells #[.int .i64 0,.slice a (S k).length c] 49 (0,0)))/\Hid (sgE.In (World.hide wr q) (S k) a c)/\Hid (Below w.heap.size w wr)) (λi _=>(intOf i+1).toNat);case atStart=>exact⟨env.length,none,0,rfl,Nat.le_refl _,HX0.out,HI0.out,HB2.out⟩
 case round =>
  (try rename World=>wr)
  obtain⟨k,a,c,hi,hk,HX,HI,HB⟩:=hrel;have hzr:=lt_of_block HX.out;cases k with
  |zero =>
   rw[show (((0:Nat):Int)-1)=-1 by omega]at hi;subst hi;obtain⟨x0,x1,-⟩:=xm HX.out;go_wp2_with fail;have hI9:thE.In (World.hide (wr.alloc (.cells #[.int .i64 0,.slice a (S 0).length c] 49)) p) [⟨0,S 0⟩] (some ⟨wr.heap.size,0,none⟩) 1:=by
    have hb:Below wr.heap.size wr (wr.alloc (.cells #[.int .i64 0,.slice a (S 0).length c] 49)):=(Below.refl _ _).alloc (Nat.le_refl _) _;refine(Enc.Vals.one (E:=thE) (x:=⟨0,S 0⟩) (vs:=[.int .i64 0,.slice a (S 0).length c]) ⟨a,c,rfl,(Yo.1 HI.out).keep (zg hb λj _ hj=>(Q.out j).2 (Or.inl hj))⟩).in (λj u hj=>?_) (by simp) (by simp);refine zy.2 ⟨?_,?_⟩
    ·show p wr.heap.size=false;cases hq:p wr.heap.size with
     |false=>rfl
     |true=>have:=Hp.out _ hq;omega
    ·rw[zc (zh rfl)];simpa using hj
   have HE1:=Lib.hid (HPo.out _ _ _ (HB.out.alloc HB.out.size _) hI9);first|exact HE1.out|(go_ret2;exact HE1.out)
  |succ k =>
   rw[show (((k+1:Nat):Int)-1)=(k:Int) by omega]at hi;subst hi;have hltk:k<env.length:=by omega
   have hltI:(k:Int)<(env.length:Int):=by omega
   obtain⟨bE,oE,hEa⟩:=HEa.out.resolve_left (by omega);subst hEa;obtain⟨g0,g1⟩:=ZP (Yo.1 (HEn.out.keep (za HB.out))) rfl hltk;have HW1:=λq W a c h1 h2=>HWi.out k hltk q W a c h1 h2;generalize (env[k]'hltk)=y at HW1 g0 g1;obtain⟨nm,yv⟩:=y;simp only at HW1 g0 g1;have HQl:Hid (∀W:World,wr.heap.size<=W.heap.size->∀j,q j=true->j<W.heap.size):=λW hW j hj=>by
    rcases (Q.out j).1 hj with h|h
    ·have:=Hp.out j h;omega
    ·omega
   have HW5:Hid (∀W,Below wr.heap.size wr W->Calls Tryz.prog 56 #[.slice a (S (k+1)).length c,.string nm,.int .i64 (YJ yv)] W λe w'=>(∃a c,e=.returned (.slice a (S k).length c)/\sgE.In (World.hide w' q) (S k) a c)/\Below wr.heap.size wr w'):=λW hW=>(HW1 q W a c (HI.out.keep (zg hW λ_ _ h=>h)) (HQl.out W hW.size)).mono λe w' ⟨⟨v,h1,h2⟩,h3⟩=>by
    obtain⟨a,c,rfl,h6⟩:=XD h2 (by have:=HLn.out k;omega);exact⟨⟨a,c,h1,h6 q λj hj _=>by
     cases hqk:q j with
     |false=>rfl
     |true=>have:=HQl.out W hW.size j hqk;omega⟩,hW.trans (h3.mono hW.size)⟩
   have HZb:Hid (∀W,Below wr.heap.size wr W->W.heap[w.heap.size]? = some (.cells #[.int .i64 0,.slice a (S (k+1)).length c] 49 (0,0))):=λW hW=>(hW.block _ hzr).trans HX.out;have HWr:Hid (∀W,Calls Tryz.prog 57 #[.int .i64 yv] W λe w'=>e=.returned (.int .i64 (YJ yv))/\w'=W):=λW=>(zb3 yv W).mono λe w' h=>⟨h.1,h.2.symm⟩;obtain⟨-,x1,xf⟩:=xm HX.out;have xf1:=xf 1;generalize YJ yv=wv at HWr HW5;clear HW1 xf;go_upto_region 5 with fail
   go_region_law (first
    |(go_simp;go_at_call 57;(with_reducible refine(HWr.out _).mono ?_);rintro e v1 ⟨rfl,rfl⟩)
    |(go_simp;go_at_call 56;(with_reducible refine(HW5.out _ (by first|with_reducible assumption|exact yx)).mono ?_);rintro e v2 ⟨⟨a2,c2,rfl,hin2⟩,hB2⟩;obtain⟨-,l1,lf⟩:=xm (HZb.out _ hB2);have lf1:=lf 1;have HIn2:=Lib.hid hin2;have HB2v:=Lib.hid hB2;clear hin2 hB2 lf))
   all_goals
    have HK9:Hid ((v2.setCell ⟨w.heap.size,1,none⟩ (.slice a2 (S k).length c2)).heap[w.heap.size]? = some (.cells #[.int .i64 0,.slice a2 (S k).length c2] 49 (0,0))):=by show _=_;rw[heap_setCell_same v2 w.heap.size 1 _ _ _ (HZb.out v2 HB2v.out)];rfl
    have HI9:Hid (sgE.In (World.hide (v2.setCell ⟨w.heap.size,1,none⟩ (.slice a2 (S k).length c2)) q) (S k) a2 c2):=HIn2.out.keep (zj ((Q.out w.heap.size).2 (Or.inr rfl)));have HB9:Hid (Below w.heap.size w (v2.setCell ⟨w.heap.size,1,none⟩ (.slice a2 (S k).length c2))):=(HB.out.trans (HB2v.out.mono HB.out.size)).setCell (Nat.le_refl _) _;go_wp2_with fail;go_roundw;case rel=>exact⟨k,a2,c2,by go_num,by omega,HK9.out,HI9.out,HB9.out⟩
    case measure=>(simp[intOf];try omega)
end Go.Proofs.YthojpomoflhbcaaGreatDoor
