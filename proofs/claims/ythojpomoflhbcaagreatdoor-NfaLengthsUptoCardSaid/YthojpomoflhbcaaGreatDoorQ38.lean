/- law41: run. -/
import Derived.Test.YthojpomoflhbcaaGreatDoorQ36
import Derived.Test.YthojpomoflhbcaaGreatDoorQ37
import Derived.Test.YthojpomoflhbcaaGreatDoorQ22
import Derived.Test.YthojpomoflhbcaaGreatDoorQ32
import Derived.Test.YthojpomoflhbcaaGreatDoorQ09
import Derived.Test.YthojpomoflhbcaaGreatDoorQ29
set_option maxHeartbeats 16000000
set_option maxRecDepth 100000
set_option linter.unusedSimpArgs false
set_option linter.unusedVariables false
set_option linter.unnecessarySimpa false
namespace Go.Proofs.YthojpomoflhbcaaGreatDoor
open Go.RowKit
attribute [local go_sem ↓] Go.wp_at_zero Go.wp_at_succ
def esR (w:World) (l:List (List Sg)) (vs:List Value):Prop:=∃a cap,vs=[.slice a l.length cap]/\XT.In w l a cap
def zkx:Enc (List (List Sg)) where
 sz:=1
 R:=esR
 pos:=by decide
 len:=by rintro _ _ _ ⟨_,_,rfl,_⟩;rfl
 keep:=by rintro _ _ _ _ hk ⟨a,cap,rfl,h⟩;exact⟨a,cap,rfl,h.keep hk⟩
 one:=by rintro _ _ _ ⟨_,_,rfl,_⟩ v hv;simp at hv;subst hv;rfl
theorem zjf {w:World} {l:List (List (List Sg))} {a:Option Addr} {cap:Nat} (h:zkx.In w l a cap) {b off:Nat} (ha:a=some ⟨b,off,none⟩) {i:Nat} (hi:i<l.length):∃a' c',w.cell? ⟨b,off+i,none⟩=some (.slice a' (l[i]'hi).length c')/\XT.In w (l[i]'hi) a' c':=by obtain⟨vs,⟨a',c',rfl,h1⟩,hc⟩:=h.get ha hi;have:=hc 0 _ rfl;rw[show zkx.sz=1 from rfl,Nat.mul_one,Nat.add_zero]at this;exact⟨a',c',this,h1⟩
theorem zmy:Elem Tryz.prog 59 62 1:=Elem.of Tryz.underlying59 (by kernel_rfl) (z:=.slice none 0 0) (bytes:=24) rfl (by decide) (by decide)
def Za (v:zbl) (s:Nat):List (List Sg):=(List.range (v.rows.length-s)).map λi=>ZY v (s+i)
theorem zcl (v:zbl) (s:Nat):(Za v s).length=v.rows.length-s:=by unfold Za;simp
theorem zjh (v:zbl) (s:Nat) {k:Nat} (h:k<(Za v s).length):(Za v s)[k]'h=ZY v (s+k):=by simp only[Za,List.getElem_map,List.getElem_range]
theorem zjG (n:zm) (es:List (List Sg)) (L:List yU) {k:Nat} (h:k<es.length):qG n (es.drop k) L=if (yq n L (es[k]'h)).2=0 then (qG n (es.drop (k+1)) (yq n L (es[k]'h)).1).map (zgv n (yq n L (es[k]'h)).1::·) else none:=by rw[List.drop_eq_getElem_cons h,qG]
theorem zdL {n:zm} {L:List yU} {env:List Sg} {M B:Nat} (hs:∀e∈n.edges,e.sets.length<=M) (hL:∀t∈L,t.env.length<=B) (h:(yq n L env).2=0):(yq n L env).1.length<=256/\∀t∈(yq n L env).1,t.env.length<=B+M:=by
 unfold yq at h⊢;split at h
 ·cases h
 ·split at h
  ·cases h
  ·split at h
   ·cases h
   ·rename_i h1 h2 h3;rw[if_neg h1,if_neg h2,if_neg h3];refine⟨by simp only;omega,λy hy=>?_⟩;obtain⟨t,ht,e,he,-,-,hk⟩:=((Yp n env L).2 y).1 hy;obtain⟨-,hr⟩:=yD.1 hk;have h4:=qt (l:=e.sets) (env:=env) (loc:=t.env) e.sets.length;have h5:=hL t ht;have h6:=hs e he;rw[hr]at h4;omega
def zgw (n:zm) (l:List yU) (k:Nat):List (List Sg):=((yP n l).take k).foldl (λes t=>Y5 zu es t.env) []
theorem zb6 (n:zm) (l:List yU):zgw n l 0=[]:=by unfold zgw;simp
theorem zb5 (n:zm) (l:List yU) {k:Nat} (h:k<(yP n l).length):zgw n l (k+1)=Y5 zu (zgw n l k) ((yP n l)[k]'h).env:=by unfold zgw;rw[List.take_succ_eq_append_getElem h,List.foldl_append];rfl
theorem ziM (n:zm) (l:List yU):zgw n l (yP n l).length=zgv n l:=by unfold zgw zgv;rw[List.take_length]
theorem zaI (n:zm) (l:List yU):∀k,k<=(yP n l).length->Asc zu (zgw n l k)/\(zgw n l k).length<=k
 |0,_=>by rw[zb6];exact⟨List.Pairwise.nil,by simp⟩
 |k+1,h=>by obtain⟨h1,h2⟩:=zaI n l k (by omega);rw[zb5 n l (by omega:k<(yP n l).length)];have:=zes (c:=zu) (zgw n l k) ((yP n l)[k]'(by omega)).env;exact⟨zbB Z8 h1,by omega⟩
def zne:Option (List (List (List Sg)))->World->Ending->Prop
 |none,_,e=>e=.returned (.tuple #[.slice none 0 0,.bool false])
 |some A,w',e=>∃a c,e=.returned (.tuple #[.slice a A.length c,.bool true])/\zkx.In w' A a c
def zaH (r:Option (List (List (List Sg)))) (w:World) (e:Ending) (w':World):Prop:=zne r w' e/\Below w.heap.size w w'
theorem zlR (n:zm) (y:YL) (v:zbl) (x:zgh) (s M:Nat) (w:World) (hN:xS w n y) (hV:zaz w v x) (hv:ze2 v=true) (hs:yH n) (hse:∀e∈n.edges,Qf e) (hM:∀e∈n.edges,e.sets.length<=M) (hM2:M<=1000) (hr:v.rows.length<=20) (hs2:s<=v.rows.length) (hG:ZW w) :
 Calls Tryz.prog 30 #[xq n y,ZV v x,.int .i64 s] w (zaH (qG n (Za v s) [⟨0,[]⟩]) w):=by
 have HSt:Hid (∀W,Below w.heap.size w W->Calls Tryz.prog 22 #[.slice none 0 0] W λe w'=>(∃a c,e=.returned (.slice a 1 c)/\thE.In w' [⟨0,[]⟩] a c)/\Below W.heap.size W w'):=λW hW =>
  (zc1 y8 [] none 0 W (λj hj=>by cases hj) (Enc.In.nil _) (by simp)).mono λe w' ⟨⟨a,c,h4,h5⟩,h6⟩=>⟨⟨a,c,h4,h5.keep zb⟩,h6⟩
 have HEv:Hid (∀t,t<v.rows.length->∀W,Below w.heap.size w W->Calls Tryz.prog 67 #[ZV v x,.int .i64 t] W λe w'=>(∃a c,e=.returned (.tuple #[.slice a (ZY v t).length c,.bool true])/\sgE.In w' (ZY v t) a c)/\Below W.heap.size W w'):=λt ht W hW=>zki v x t W (hV.keep (za hW)) hv ht;have hel:∀t,(ZY v t).length<=48:=λt=>by unfold ZY;unfold ze2 at hv;simp only[Bool.and_eq_true,decide_eq_true_eq]at hv;have:=hv.1.1.1;rw[List.length_zip];omega
 have HSp:Hid (∀(q:Nat->Bool) (L:List yU) (al:Option Addr) (cl:Nat) (t:Nat) (ae:Option Addr) (ce:Nat) (W:World),(∀j,q j=true->j<W.heap.size)->Below w.heap.size w W->thE.In W L al cl->L.length<=1000->(∀t∈L,t.env.length<=50000)->sgE.In W (ZY v t) ae ce->Calls Tryz.prog 19 #[xq n y,.slice al L.length cl,.slice ae (ZY v t).length ce] W λe w'=>(∃a c,e=.returned (.tuple #[.slice a (yq n L (ZY v t)).1.length c,.int .i64 (yq n L (ZY v t)).2])/\thE.In (World.hide w' q) (yq n L (ZY v t)).1 a c)/\Below W.heap.size W w'):=λq L al cl t ae ce W hq hW h1 h2 h3 h4 =>
  zeW q n y L al cl (ZY v t) ae ce W hq (hG.below hW) (hN.keep (za hW)) hs hse h1 h2 h3 h4 (by have:=hel t;omega)
 have HAc:Hid (∀(q:Nat->Bool) (L:List yU) (al:Option Addr) (cl:Nat) (W:World),(∀j,q j=true->j<W.heap.size)->Below w.heap.size w W->thE.In W L al cl->L.length<=1000->(∀t∈L,t.env.length<=50000)->Calls Tryz.prog 25 #[xq n y,.slice al L.length cl] W λe w'=>(∃a c,e=.returned (.slice a (yP n L).length c)/\thE.In (World.hide w' q) (yP n L) a c)/\Below W.heap.size W w'):=λq L al cl W hq hW h1 h2 h3 =>
  Xb q n y L al cl W hq (hN.keep (za hW)) h1 h3 (by omega)
 have HBd:Hid (∀(L:List yU) (B t:Nat),(∀z∈L,z.env.length<=B)->(yq n L (ZY v t)).2=0->(yq n L (ZY v t)).1.length<=256/\∀z∈(yq n L (ZY v t)).1,z.env.length<=B+M):=λL B t hL h=>zdL hM hL h;have HNo:Hid (qG n (Za v s) [⟨0,[]⟩]=none->∀W,Below w.heap.size w W->zaH (qG n (Za v s) [⟨0,[]⟩]) w (.returned (.tuple #[.slice none 0 0,.bool false])) W):=λh W hW=>by rw[h];exact⟨rfl,hW⟩
 have HYes:Hid (∀A,qG n (Za v s) [⟨0,[]⟩]=some A->∀W a c,Below w.heap.size w W->zkx.In W A a c->zaH (qG n (Za v s) [⟨0,[]⟩]) w (.returned (.tuple #[.slice a A.length c,.bool true])) W):=λA h W a c hW hin=>by rw[h];exact⟨⟨a,c,rfl,hin⟩,hW⟩
 generalize zaH (qG n (Za v s) [⟨0,[]⟩]) w=Po at HNo HYes⊢;have HRa:Hid (∀(k:Nat),k<v.rows.length-s->∀L,qG n ((Za v s).drop k) L=if (yq n L (ZY v (s+k))).2=0 then (qG n ((Za v s).drop (k+1)) (yq n L (ZY v (s+k))).1).map (zgv n (yq n L (ZY v (s+k))).1::·) else none):=λk hk L=>by
  have hk2:k<(Za v s).length:=by rw[zcl];exact hk
  rw[zjG n _ L hk2,zjh]
 have HRe:Hid (∀L,qG n ((Za v s).drop (v.rows.length-s)) L=some []):=λL=>by rw[←zcl v s,List.drop_length];rfl
 obtain⟨RN,hRN⟩:∃RN:Nat->List yU->Option (List (List (List Sg))),RN=λk L=>qG n ((Za v s).drop k) L:=⟨_,rfl⟩;have hRk:∀k L,qG n ((Za v s).drop k) L=RN k L:=λk L=>by rw[hRN]
 have hR0:qG n (Za v s) [⟨0,[]⟩]=RN 0 [⟨0,[]⟩]:=by rw[hRN];rfl
 simp only[hRk]at HRa HRe;rw[hR0]at HNo HYes;clear hRN hRk hR0 hN hV hv hs hse hM hG hel;rw[Yt]at HEv⊢;rw[zH]at HSp HAc⊢;obtain⟨xae,xce,xaa,xca⟩:=y;obtain⟨van,vcn,var,vcr⟩:=x;simp only at HEv HSp HAc⊢;go_enter Tryz.func30, Tryz.ntmps30;go_upto_region 1 with fail;generalize hW2:World.alloc (World.alloc w _) _=W2;have HB2:Hid (Below w.heap.size w W2):=by show Below _ _ _;rw[←hW2];exact((Below.refl _ _).alloc (Nat.le_refl _) _).alloc (by simp) _
 have HX2:Hid (W2.heap[w.heap.size]? = some (.cells #[.int .i64 n.states,.slice xae n.edges.length xce,.slice xaa n.accept.length xca] 33 (0,0))):=by show _=_;rw[←hW2];exact zk (zh rfl)
 have HY2:Hid (W2.heap[w.heap.size+1]? = some (.cells #[.slice van v.names.length vcn,.slice var v.rows.length vcr] 54 (0,0))):=by show _=_;rw[←hW2];exact zh (by simp)
 have hz2:w.heap.size+2<=W2.heap.size:=by rw[←hW2];simp
 clear hW2;go_wp2_with fail;refine(HSt.out W2 HB2.out).mono ?_;rintro r w3 ⟨⟨a3,c3,rfl,hin3⟩,hb3⟩;have HB3:Hid (Below w.heap.size w w3):=HB2.out.trans (hb3.mono HB2.out.size);have HX3:Hid (w3.heap[w.heap.size]? = some (.cells #[.int .i64 n.states,.slice xae n.edges.length xce,.slice xaa n.accept.length xca] 33 (0,0))):=(hb3.block _ (by omega)).trans HX2.out;have HY3:Hid (w3.heap[w.heap.size+1]? = some (.cells #[.slice van v.names.length vcn,.slice var v.rows.length vcr] 54 (0,0))):=(hb3.block _ (by omega)).trans HY2.out;have HI3:=Lib.hid hin3;clear hb3 hin3;go_wp2_with fail;go_loopw [10,9,8,11,12,13,14,15,16,17] (λi l o _ _ _ _ _ _ _ wr=>∃(k:Nat) (L:List yU) (A:List (List (List Sg))) (a:Option Addr) (c:Nat),i=.int .i64 ((s+k:Nat):Int)/\l=.slice a L.length c/\k<=v.rows.length-s/\A.length=k/\L.length<=256/\Hid (∀z∈L,z.env.length<=M*k)/\Hid (thE.In (World.hide wr (hid y8 o)) L a c)/\Hid (zkx.Own 62 y8 wr (w.heap.size+2) o A)/\Hid (RN 0 [⟨0,[]⟩]=(RN k L).map (A++·))/\Hid (wr.heap[w.heap.size]? = some (.cells #[.int .i64 n.states,.slice xae n.edges.length xce,.slice xaa n.accept.length xca] 33 (0,0)))/\Hid (wr.heap[w.heap.size+1]? = some (.cells #[.slice van v.names.length vcn,.slice var v.rows.length vcr] 54 (0,0)))/\Hid (Below w.heap.size w wr)) (λi _ _ _ _ _ _ _ _ _ _=>v.rows.length-(intOf i).toNat)
 case atStart=>exact⟨0,[⟨0,[]⟩],[],a3,c3,rfl,rfl,Nat.zero_le _,rfl,by simp,(λz hz=>by obtain rfl:=List.mem_singleton.1 hz;simp),HI3.out.keep (λ_ _ h=>zy.2 ⟨rfl,h⟩),Enc.Own.nil _ _ _ _ _,(by show _=_;cases RN 0 [⟨0,[]⟩]<;>simp),HX3.out,HY3.out,HB3.out⟩
 case round =>
  (try rename World=>wr)
  obtain⟨k,L,A,la,lc,rfl,rfl,hk,hAl,hLl,HBo,HIn,HO,HR,HX,HY,HB⟩:=hrel;have hzx:=lt_of_block HX.out;have hzy:=lt_of_block HY.out;have HVo:Hid (∀j,u8.ownBlock=some j->w.heap.size+2<=j/\j<wr.heap.size):=zl HO.out;obtain⟨y0,y1,-⟩:=xm HY.out;by_cases hlt:k<v.rows.length-s
  ·have hkl:((s+k:Nat):Int)<(v.rows.length:Int):=by omega
   have HE1:=Lib.hid (HEv.out (s+k) (by omega) wr HB.out);have HRk:=Lib.hid (HRa.out k hlt L);have HBd1:=Lib.hid (HBd.out L (M*k) (s+k) HBo.out);have hMk:M*k<=1000*20:=Nat.mul_le_mul hM2 (show k<=20 by omega);have HQl:Hid (∀W:World,wr.heap.size<=W.heap.size->∀j,hid y8 u8 j=true->j<W.heap.size):=λW hW j hj=>(ze.1 hj).elim (λh=>by cases h) λe=>by have:=(HVo.out j e).2;omega
   go_upto_region 6 with fail;go_wp2_with fail;refine HE1.out.mono ?_;rintro r w5 ⟨⟨a5,c5,rfl,hin5⟩,hb5⟩;have HB5:Hid (Below wr.heap.size wr w5):=hb5;have HBw5:Hid (Below w.heap.size w w5):=HB.out.trans (hb5.mono HB.out.size);have HSp5:=Lib.hid (HSp.out (hid y8 u8) L la lc (s+k) a5 c5 w5 (HQl.out w5 hb5.size) HBw5.out (HIn.out.keep (Kp.trans zb (za hb5))) (by omega) (λz hz=>by have:=HBo.out z hz;omega) hin5);have HX5:Hid (w5.heap[w.heap.size]? = some (.cells #[.int .i64 n.states,.slice xae n.edges.length xce,.slice xaa n.accept.length xca] 33 (0,0))):=(hb5.block _ hzx).trans HX.out;obtain⟨x0,x1,x2⟩:=zv HX5.out;clear hb5 hin5 y0 y1 HE1;generalize yq n L (ZY v (s+k))=S at HSp5 HRk HBd1;obtain⟨L',er⟩:=S;simp only at HSp5 HRk HBd1;go_wp2_with fail;refine HSp5.out.mono ?_;rintro r w6 ⟨⟨a6,c6,rfl,hin6⟩,hb6⟩;have HB6:Hid (Below wr.heap.size wr w6):=HB5.out.trans (hb6.mono HB5.out.size);have HBw6:Hid (Below w.heap.size w w6):=HB.out.trans (HB6.out.mono HB.out.size);have HI6:=Lib.hid hin6;clear hb6 hin6 x0 x1 x2 HSp5;by_cases her:er=0
   ·subst her;have HRk2:Hid (RN k L=(RN (k+1) L').map (zgv n L'::·)):=by show _=_;rw[HRk.out];rfl
    obtain⟨hl256,hbo⟩:=HBd1.out rfl;have HBo2:=Lib.hid hbo;have HX6:Hid (w6.heap[w.heap.size]? = some (.cells #[.int .i64 n.states,.slice xae n.edges.length xce,.slice xaa n.accept.length xca] 33 (0,0))):=(HB6.out.block _ hzx).trans HX.out;obtain⟨x0,x1,x2⟩:=zv HX6.out;have hMk2:M*k+M<=21000:=by omega
    have HAc6:=Lib.hid (HAc.out (hid y8 u8) L' a6 c6 w6 (HQl.out w6 HB6.out.size) HBw6.out (HI6.out.keep zb) (by omega) (λz hz=>by have:=HBo2.out z hz;omega));clear hbo HRk HBd1;go_wp2_with fail;refine HAc6.out.mono ?_;rintro r w7 ⟨⟨a7,c7,rfl,hin7⟩,hb7⟩;have HB7:Hid (Below wr.heap.size wr w7):=HB6.out.trans (hb7.mono HB6.out.size);have HBw7:Hid (Below w.heap.size w w7):=HB.out.trans (HB7.out.mono HB.out.size);have HI7:Hid (thE.In (World.hide w7 (hid y8 u8)) L' a6 c6):=HI6.out.keep (zg hb7 λ_ _ h=>h);have HA7:=Lib.hid hin7;have HAa:Hid ((yP n L').length=0\/∃b off,a7=some ⟨b,off,none⟩):=hin7.addr;have HAl7:Hid ((yP n L').length<=256):=by show _<=_;have:=List.length_filter_le (λt:yU=>n.accept.contains t.state) L';unfold yP;omega
    have HK0:=Lib.hid (zb6 n L');have HKs:=Lib.hid (λk (h:k<(yP n L').length)=>zb5 n L' h);have HKe:=Lib.hid (ziM n L');have HKf:=Lib.hid (zaI n L');clear hb7 hin7 x0 x1 x2 HAc6 HI6;generalize yP n L'=AC at HA7 HAa HAl7 HKs HKe HKf;generalize zgw n L'=KE at HK0 HKs HKe HKf;have hz7:=HB7.out.size;have hal7:=HAl7.out;go_wp2_with fail;go_loopw [17,15] (λi e wq=>∃(m:Nat) (ea:Option Addr) (ec:Nat),i=.int .i64 m/\e=.slice ea (KE m).length ec/\m<=AC.length/\Hid (XT.In (World.hide wq (hid y8 u8)) (KE m) ea ec)/\Hid (Below w7.heap.size w7 wq)) (λi _ _=>AC.length-(intOf i).toNat);case atStart=>exact⟨0,none,0,rfl,by rw[HK0.out];rfl,Nat.zero_le _,(by show XT.In _ _ _ _;rw[HK0.out];exact Enc.In.nil _),Below.refl _ _⟩
    case round =>
     (try rename World=>wq)
     obtain⟨m,ea,ec,rfl,rfl,hm,HEI,HBq⟩:=hrel;have hzq:=HBq.out.size;have HBrq:Hid (Below wr.heap.size wr wq):=HB7.out.trans (HBq.out.mono hz7);by_cases hltm:m<AC.length
     ·have hml:(m:Int)<AC.length:=by omega
      obtain⟨bA,oA,hAa⟩:=HAa.out.resolve_left (by omega);subst hAa;obtain⟨ta,tc,g0,g1,ht⟩:=Qc (HA7.out.keep (zg HBq.out λ_ _ h=>h)) rfl hltm;have HKm:=Lib.hid (HKs.out m hltm);obtain⟨hka,hkl2⟩:=HKf.out m hm;generalize (AC[m]'hltm)=t at g0 g1 ht HKm;have hadd:=ziN (hid y8 u8) (KE m) ea ec t.env ta tc wq (HQl.out wq HBrq.out.size) HEI.out ht hka (by omega);rw[←HKm.out]at hadd;have HAdd:=Lib.hid hadd;have f1:=zb _ _ g1;clear hadd g0 g1 ht hka;go_wp2_with fail;refine HAdd.out.mono ?_;rintro r w8 ⟨⟨a8,c8,rfl,hin8⟩,hb8⟩;have HE8:=Lib.hid hin8;have HB8:Hid (Below w7.heap.size w7 w8):=HBq.out.trans (hb8.mono hzq);clear hin8 hb8 HAdd f1;go_wp2_with fail;go_roundw;case rel=>exact⟨m+1,a8,c8,by go_num,rfl,by omega,HE8.out,HB8.out⟩
      case measure=>(simp[intOf];try omega)
     ·have hml:¬(m:Int)<AC.length:=by omega
      obtain rfl:m=AC.length:=by omega
      have HEr:Hid (zkx.R (World.hide wq (hid y8 u8)) (KE AC.length) [.slice ea (KE AC.length).length ec]):=⟨ea,ec,rfl,HEI.out⟩;have HOq:Hid (zkx.Own 62 y8 wq (w.heap.size+2) u8 A):=HO.out.below HBrq.out;have HBwq:Hid (Below w.heap.size w wq):=HB.out.trans (HBrq.out.mono HB.out.size);have hzw:=HBwq.out.size;have hzrq:=HBrq.out.size;go_wp2_with (at_builtin;go_must (refine yi (E:=zkx) zmy _ rfl (.tmp 59) (.tmp 61) rfl y8 (w.heap.size+2) _ rfl HOq.out (KE AC.length) [.slice ea (KE AC.length).length ec] HEr.out _ _ rfl rfl k hAl (by omega) (by omega) ?_));intro g9 cap9 w9 ho9 hg9 hat9;rw[HKe.out]at ho9;have HO9:=Lib.hid ho9;have HX9:Hid (w9.heap[w.heap.size]? = some (.cells #[.int .i64 n.states,.slice xae n.edges.length xce,.slice xaa n.accept.length xca] 33 (0,0))):=(hg9.block _ (by omega) (λe'=>by have:=(HVo.out _ e'.symm).1;omega)).trans ((HBrq.out.block _ hzx).trans HX.out);have HY9:Hid (w9.heap[w.heap.size+1]? = some (.cells #[.slice van v.names.length vcn,.slice var v.rows.length vcr] 54 (0,0))):=(hg9.block _ (by omega) (λe'=>by have:=(HVo.out _ e'.symm).1;omega)).trans ((HBrq.out.block _ hzy).trans HY.out);have HB9:Hid (Below w.heap.size w w9):=yQ HBwq.out hg9 λj hj=>by have:=(HVo.out j hj).1;omega
      have HI9:Hid (thE.In (World.hide w9 (hid y8 (.slice (some ⟨g9,0,none⟩) (k+1) cap9))) L' a6 c6):=(HI7.out.keep (zg HBq.out λ_ _ h=>h)).keep (yV hg9 (λj hj=>ze.2 (Or.inr hj)) λj hj hq=>(ze.1 hq).elim (λh=>by cases h) λe=>by
       have e2:g9=j:=Option.some.inj e;subst e2;rcases hat9 with h|h
       ·exact ze.2 (Or.inr h)
       ·omega)
      have HR9:Hid (RN 0 [⟨0,[]⟩]=(RN (k+1) L').map ((A++[zgv n L'])++·)):=by show _=_;rw[HR.out,HRk2.out];cases RN (k+1) L'<;>simp
      have HBo9:Hid (∀z∈L',z.env.length<=M*(k+1)):=λz hz=>by rw[Nat.mul_add,Nat.mul_one];exact HBo2.out z hz
      clear ho9 hg9 hat9 HKe HKf HKs HK0 HR HRk2;go_wp2_with fail;go_roundw;case rel=>exact⟨k+1,L',A++[zgv n L'],a6,c6,by go_num,rfl,by omega,by rw[List.length_append,hAl];rfl,hl256,HBo9.out,HI9.out,HO9.out,HR9.out,HX9.out,HY9.out,HB9.out⟩
      case measure=>(simp[intOf];try omega)
   ·have HRk2:Hid (RN k L=none):=by show _=_;rw[HRk.out,if_neg her]
    have HF:=Lib.hid (HNo.out (by rw[HR.out,HRk2.out];rfl) w6 HBw6.out);have her2:(er != 0)=true:=by simpa using her
    clear HRk HBd1 her;go_wp2_with fail;first|exact HF.out|(go_ret2;exact HF.out)
  ·have hkl:¬((s+k:Nat):Int)<(v.rows.length:Int):=by omega
   have hkl2:¬(s+k<v.rows.length):=by omega
   have hkl3:¬((s:Int)+(k:Int)<(v.rows.length:Int)):=by omega
   have HRe2:Hid (RN k L=some []):=by
    have hke:k=v.rows.length-s:=by omega
    show _=_;rw[hke];exact HRe.out L
   obtain⟨ao,co,hov,hin⟩:=HO.out.slice (by omega);subst hov;have hf:=HYes.out A (by rw[HR.out,HRe2.out];simp) wr _ _ HB.out hin;rw[hAl]at hf;have HF:=Lib.hid hf;clear hf hin;go_wp2_with fail;first|exact HF.out|(go_ret2;exact HF.out)
def ze9 (v:zbl):Prop:=v.names.length<=50/\v.rows.length<=20
theorem zjl (v:zbl) (x:zgh) (w:World) (h:zaz w v x):Calls Tryz.prog 27 #[ZV v x] w (zgl (ze9 v) w):=by
 have HRs:=Lib.hid h.rs;have HNs:=Lib.hid h.ns;have HRa:Hid (v.rows.length=0\/∃b off,x.ar=some ⟨b,off,none⟩):=h.rs.addr;have HNa:Hid (v.names.length=0\/∃b off,x.an=some ⟨b,off,none⟩):=zr.addr h.ns;have hl1:=h.ns.2.1;have hl2:=h.rs.len;have HNo:Hid (∀W,Below w.heap.size w W->zgl (ze9 v) w (.returned (.bool false)) W):=λW hW=>⟨⟨false,rfl,λh=>by cases h⟩,hW⟩;have HYes:Hid (v.names.length<=50->v.rows.length<=20->∀W,Below w.heap.size w W->zgl (ze9 v) w (.returned (.bool true)) W):=λh1 h2 W hW=>⟨⟨true,rfl,λ_=>⟨h1,h2⟩⟩,hW⟩;generalize zgl (ze9 v) w=Po at HNo HYes⊢;rw[Yt];obtain⟨ns,rs⟩:=v;obtain⟨an,cn,ar,cr⟩:=x;simp only at HRs HNs HRa HNa hl1 hl2 HYes⊢;clear h;go_enter Tryz.func27, Tryz.ntmps27;go_upto_region 1 with fail;generalize hW2:World.alloc w _=W2;have HB2:Hid (Below w.heap.size w W2):=by show Below _ _ _;rw[←hW2];exact(Below.refl _ _).alloc (Nat.le_refl _) _
 have HX2:Hid (W2.heap[w.heap.size]? = some (.cells #[.slice an ns.length cn,.slice ar rs.length cr] 54 (0,0))):=by show _=_;rw[←hW2];exact zh rfl
 clear hW2;obtain⟨b0,b1,-⟩:=xm HX2.out;have HF:=Lib.hid (HNo.out W2 HB2.out);by_cases h1:ns.length<=50
 ·have h1I:¬(50:Int)<ns.length:=by omega
  by_cases h2:rs.length<=20
  ·have h2I:¬(20:Int)<rs.length:=by omega
   have HF1:=Lib.hid (HYes.out h1 h2 W2 HB2.out);go_wp2_with fail;go_loop [3] (λi=>∃k:Nat,i=.int .i64 k/\k<=ns.length) (λi=>ns.length-(intOf i).toNat);case atStart=>exact⟨0,rfl,Nat.zero_le _⟩
   case round =>
    obtain⟨k,rfl,hk⟩:=hrel;by_cases hlt:k<ns.length
    ·have hkl:(k:Int)<ns.length:=by omega
     obtain⟨b,off,ha⟩:=HNa.out.resolve_left (by omega);subst ha;have g0:=zE.get (zE.keep (za HB2.out) HNs.out) rfl hlt;generalize (ns[k]'hlt)=nm at g0;by_cases hs:nm.size<=40
     ·have hsI:¬((40:Int)<(nm.size:Int)):=by omega
      go_wp2_with fail;go_round;case rel=>exact⟨k+1,by go_num,by omega⟩
      case measure=>(simp[intOf];try omega)
     ·have hsI:((40:Int)<(nm.size:Int)):=by omega
      go_wp2_with fail;first|exact HF.out|(go_ret2;exact HF.out)
    ·have hkl:¬(k:Int)<ns.length:=by omega
     go_wp2_with fail;go_loop [4] (λi=>∃k:Nat,i=.int .i64 k/\k<=rs.length) (λi=>rs.length-(intOf i).toNat);case atStart=>exact⟨0,rfl,Nat.zero_le _⟩
     case round =>
      obtain⟨m,rfl,hm⟩:=hrel;by_cases hltm:m<rs.length
      ·have hml:(m:Int)<rs.length:=by omega
       obtain⟨b,off,ha⟩:=HRa.out.resolve_left (by omega);subst ha;obtain⟨a',c',g0,hI⟩:=zdI (HRs.out.keep (za HB2.out)) rfl hltm;have hrl:=hI.2.1;generalize (rs[m]'hltm)=r at g0 hrl;clear hI;by_cases hs:r.length<=52
       ·have hsI:¬((52:Int)<(r.length:Int)):=by omega
        go_wp2_with fail;go_round;case rel=>exact⟨m+1,by go_num,by omega⟩
        case measure=>(simp[intOf];try omega)
       ·have hsI:((52:Int)<(r.length:Int)):=by omega
        go_wp2_with fail;first|exact HF.out|(go_ret2;exact HF.out)
      ·have hml:¬(m:Int)<rs.length:=by omega
       go_wp2_with fail;first|exact HF1.out|(go_ret2;exact HF1.out)
  ·have h2I:(20:Int)<rs.length:=by omega
   go_wp2_with fail;first|exact HF.out|(go_ret2;exact HF.out)
 ·have h1I:(50:Int)<ns.length:=by omega
  go_wp2_with fail;first|exact HF.out|(go_ret2;exact HF.out)
theorem zne.any {r:Option (List (List (List Sg)))} {w:World} {e:Ending} (h:zne r w e):∃(a:Option Addr) (n c:Nat) (b:Bool),e=.returned (.tuple #[.slice a n c,.bool b]):=by
 cases r with
 |none=>exact⟨_,_,_,_,h⟩
 |some A=>obtain⟨a,c,h1,_⟩:=h;exact⟨_,_,_,_,h1⟩
theorem zeY {n:zm} {e:zn} (h:e∈(trimS n).edges):∃f∈n.edges,e.guards=f.guards/\e.sets=f.sets:=by
 unfold trimS at h;split at h
 ·obtain⟨f,hf,rfl⟩:=List.mem_map.1 h;exact⟨f,(List.mem_filter.1 hf).1,rfl,rfl⟩
 ·cases h
theorem zgN {s:Tq} (hn:s.nodes<=24) (h:(ZX s).2=0):∃m,(ZX s).1=some m/\yH m/\(∀e∈m.edges,Qf e)/\(∀e∈m.edges,e.sets.length<=24)/\yG s=0 /\
 ∀envs A,qG m envs [⟨0,[]⟩]=some A->∀t (ht:t<A.length),A[t]'ht≠[]->ziA s<=(t:Int)+1/\(t:Int)+1<=ziz s:=by
 unfold ZX at h⊢;by_cases hv:yG s≠0
 ·rw[if_pos hv]at h;cases h
 ·rw[if_neg hv]at h⊢;cases hc:yz s with
  |none=>rw[hc]at h;cases h
  |some n =>
   have hv0:yG s=0:=by simpa using hv
   obtain⟨hck,-⟩:=ZC hv0;have hreg:=ZG s false hck n hc;have hok2:zY (trimS n)=true:=by unfold trimS;rw[if_pos hreg.ok];exact zio hreg.ok
   refine⟨trimS n,rfl,Xv hok2,λe he=>?_,λe he=>?_,hv0,?_⟩
   ·obtain⟨h1,h2⟩:=ZK hok2 he;obtain⟨f,hf,_,e2⟩:=zeY he;have:=(hreg.es f hf).2.2;exact⟨λg hg=>by have:=h1 g hg;omega,λb hb=>by have:=h2 b hb;omega,by rw[e2];omega⟩
   ·obtain⟨f,hf,_,e2⟩:=zeY he;have:=(hreg.es f hf).2.2;rw[e2];omega
   ·intro envs A hA t ht hne;obtain⟨h1,h2⟩:=zh4 (E:=λj=>envs.getD j []) hck hc (i:=0) (envs:=envs) (λj hj=>by
     rw[Nat.zero_add,List.getD_eq_getElem?_getD,List.getElem?_eq_getElem hj];rfl) hA
    obtain⟨x,hx⟩:=List.exists_mem_of_ne_nil _ hne;have hm:=((h2 t ht).2 x).1 hx;have hl:=(zkF (E:=λj=>envs.getD j []) s false hck).2 _ _ _ _ hm;unfold ziA ziz;rw[if_pos hv0,if_pos hv0];omega
theorem zi1 {s:Tq} (h:(ZX s).2≠0):(ZX s).1=none:=by
 unfold ZX at h⊢;split
 ·rfl
 ·cases hc:yz s with
  |none=>rfl
  |some n=>rw[if_neg (by assumption),hc]at h;exact absurd rfl h
end Go.Proofs.YthojpomoflhbcaaGreatDoor
