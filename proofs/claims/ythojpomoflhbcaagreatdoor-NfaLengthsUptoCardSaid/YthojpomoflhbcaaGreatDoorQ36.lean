/- ref39: Min, Max. -/
import Derived.Test.YthojpomoflhbcaaGreatDoorQ35
import Derived.Test.YthojpomoflhbcaaGreatDoorQ32
set_option maxHeartbeats 16000000
set_option maxRecDepth 100000
set_option linter.unusedSimpArgs false
set_option linter.unusedVariables false
set_option linter.unnecessarySimpa false
namespace Go.Proofs.YthojpomoflhbcaaGreatDoor
open Go.RowKit
attribute [local go_sem ↓] Go.wp_at_zero Go.wp_at_succ
theorem ZC {s:Tq} (h:yG s=0):zC s false=0/\s.depth<=8:=by
 unfold yG at h;split at h
 ·simp at h
 ·exact⟨h,by omega⟩
noncomputable def ziA (s:Tq):Int:=if yG s=0 then (zA s).1 else 0
noncomputable def ziz (s:Tq):Int:=if yG s=0 then (zA s).2 else 0
theorem zfR (s:Tq) (p:Nat->Bool) (ae:Option Addr) (ce:Nat) (a:Option Addr) (cap:Nat) (w:World) (hX:Zr (World.hide w p) s ae ce a cap) (hp:∀j,p j=true->j<w.heap.size) (hs:SmT s) :
 Calls Tryz.prog 34 #[ym s ae ce a cap] w λe w'=>e=.returned (.int .i64 (ziA s))/\Below w.heap.size w w':=by
 have hpW:∀W,Below w.heap.size w W->∀j,p j=true->j<W.heap.size:=λW hW j hj=>by have:=hp j hj;have:=hW.size;omega
 have HVl:=Lib.hid λW (hW:Below w.heap.size w W)=>Qq s p ae ce a cap W (hX.keep (zg hW λ_ _ h=>h)) (hpW W hW) hs;have HLn:=Lib.hid λ(hv:yG s=0) W (hW:Below w.heap.size w W)=>Q5 s false p ae ce a cap W (hX.keep (zg hW λ_ _ h=>h)) (hpW W hW) (ZC hv).1 (ZC hv).2;have HR1:Hid (yG s=0->ziA s=(zA s).1):=λh=>if_pos h;have HR2:Hid (¬yG s=0->ziA s=0):=λh=>if_neg h;generalize ziA s=R at HR1 HR2⊢;generalize yG s=v at HVl HLn HR1 HR2;clear hX hp hs hpW;rw[zo]at HVl HLn⊢;go_enter Tryz.func34, Tryz.ntmps34;go_upto_region 1 with fail;generalize hBx:World.alloc w _=Bx;have HB0:Hid (Below w.heap.size w Bx):=by show Below _ _ _;rw[←hBx];exact(Below.refl _ _).alloc (Nat.le_refl _) _
 have hzB:=HB0.out.size;have h0:Bx.heap[w.heap.size]? = some (ye s ae ce a cap):=by rw[←hBx];exact zh rfl
 clear hBx;obtain⟨b0,b1,b2,b3,b4,b5,b6,b7,b8⟩:=zt h0;have HR:=Lib.hid (HVl.out Bx HB0.out);by_cases hv:v=0
 ·subst hv;obtain rfl:=HR1.out rfl;go_wp2_with fail;refine HR.out.mono ?_;rintro e w1 ⟨rfl,hb1⟩;have HB1:Hid (Below w.heap.size w w1):=HB0.out.trans (hb1.mono hzB);have h1:=(hb1.block _ (lt_of_block h0)).trans h0;have HW1:=Lib.hid (HLn.out (by first|rfl|trivial) w1 HB1.out);clear hb1 b0 b1 b2 b3 b4 b5 b6 b7 b8;obtain⟨b0,b1,b2,b3,b4,b5,b6,b7,b8⟩:=zt h1;go_wp2_with fail;refine HW1.out.mono ?_;rintro e w2 ⟨rfl,hb2⟩;have HE:=Lib.hid (HB1.out.trans (hb2.mono HB1.out.size));clear hb2;go_wp2_with fail;go_ret;exact⟨rfl,HE.out⟩
 ·obtain rfl:=HR2.out hv;have hvb:(v==0)=false:=by simp[hv]
  go_wp2_with fail;refine HR.out.mono ?_;rintro e w1 ⟨rfl,hb1⟩;have HE:=Lib.hid (HB0.out.trans (hb1.mono hzB));clear hb1;go_wp2_with fail;go_ret;exact⟨rfl,HE.out⟩
theorem zfQ (s:Tq) (p:Nat->Bool) (ae:Option Addr) (ce:Nat) (a:Option Addr) (cap:Nat) (w:World) (hX:Zr (World.hide w p) s ae ce a cap) (hp:∀j,p j=true->j<w.heap.size) (hs:SmT s) :
 Calls Tryz.prog 35 #[ym s ae ce a cap] w λe w'=>e=.returned (.int .i64 (ziz s))/\Below w.heap.size w w':=by
 have hpW:∀W,Below w.heap.size w W->∀j,p j=true->j<W.heap.size:=λW hW j hj=>by have:=hp j hj;have:=hW.size;omega
 have HVl:=Lib.hid λW (hW:Below w.heap.size w W)=>Qq s p ae ce a cap W (hX.keep (zg hW λ_ _ h=>h)) (hpW W hW) hs;have HLn:=Lib.hid λ(hv:yG s=0) W (hW:Below w.heap.size w W)=>Q5 s false p ae ce a cap W (hX.keep (zg hW λ_ _ h=>h)) (hpW W hW) (ZC hv).1 (ZC hv).2;have HR1:Hid (yG s=0->ziz s=(zA s).2):=λh=>if_pos h;have HR2:Hid (¬yG s=0->ziz s=0):=λh=>if_neg h;generalize ziz s=R at HR1 HR2⊢;generalize yG s=v at HVl HLn HR1 HR2;clear hX hp hs hpW;rw[zo]at HVl HLn⊢;go_enter Tryz.func35, Tryz.ntmps35;go_upto_region 1 with fail;generalize hBx:World.alloc w _=Bx;have HB0:Hid (Below w.heap.size w Bx):=by show Below _ _ _;rw[←hBx];exact(Below.refl _ _).alloc (Nat.le_refl _) _
 have hzB:=HB0.out.size;have h0:Bx.heap[w.heap.size]? = some (ye s ae ce a cap):=by rw[←hBx];exact zh rfl
 clear hBx;obtain⟨b0,b1,b2,b3,b4,b5,b6,b7,b8⟩:=zt h0;have HR:=Lib.hid (HVl.out Bx HB0.out);by_cases hv:v=0
 ·subst hv;obtain rfl:=HR1.out rfl;go_wp2_with fail;refine HR.out.mono ?_;rintro e w1 ⟨rfl,hb1⟩;have HB1:Hid (Below w.heap.size w w1):=HB0.out.trans (hb1.mono hzB);have h1:=(hb1.block _ (lt_of_block h0)).trans h0;have HW1:=Lib.hid (HLn.out (by first|rfl|trivial) w1 HB1.out);clear hb1 b0 b1 b2 b3 b4 b5 b6 b7 b8;obtain⟨b0,b1,b2,b3,b4,b5,b6,b7,b8⟩:=zt h1;go_wp2_with fail;refine HW1.out.mono ?_;rintro e w2 ⟨rfl,hb2⟩;have HE:=Lib.hid (HB1.out.trans (hb2.mono HB1.out.size));clear hb2;go_wp2_with fail;go_ret;exact⟨rfl,HE.out⟩
 ·obtain rfl:=HR2.out hv;have hvb:(v==0)=false:=by simp[hv]
  go_wp2_with fail;refine HR.out.mono ?_;rintro e w1 ⟨rfl,hb1⟩;have HE:=Lib.hid (HB0.out.trans (hb1.mono hzB));clear hb1;go_wp2_with fail;go_ret;exact⟨rfl,HE.out⟩
def evR (w:World) (l:List Sg) (vs:List Value):Prop:=∃a cap,vs=[.slice a l.length cap]/\zT w l a cap
def XT:Enc (List Sg) where
 sz:=1
 R:=evR
 pos:=by decide
 len:=by rintro _ _ _ ⟨_,_,rfl,_⟩;rfl
 keep:=by rintro _ _ _ _ hk ⟨a,cap,rfl,h⟩;exact⟨a,cap,rfl,h.keep hk⟩
 one:=by rintro _ _ _ ⟨_,_,rfl,_⟩ v hv;simp at hv;subst hv;rfl
theorem zjg {w:World} {l:List (List Sg)} {a:Option Addr} {cap:Nat} (h:XT.In w l a cap) {b off:Nat} (ha:a=some ⟨b,off,none⟩) {i:Nat} (hi:i<l.length):∃a' c',w.cell? ⟨b,off+i,none⟩=some (.slice a' (l[i]'hi).length c')/\zT w (l[i]'hi) a' c':=by obtain⟨vs,⟨a',c',rfl,h1⟩,hc⟩:=h.get ha hi;have:=hc 0 _ rfl;rw[show XT.sz=1 from rfl,Nat.mul_one,Nat.add_zero]at this;exact⟨a',c',this,h1⟩
theorem zaQ:Elem Tryz.prog 62 39 1:=Elem.of Tryz.underlying62 (by kernel_rfl) (z:=.slice none 0 0) (bytes:=24) rfl (by decide) (by decide)
theorem monE {l:List (List Sg)} {t:List Sg} (h:Asc zu l):MonG (λx:List Sg=>zu x t) l:=λi j hi hj hij h1=>by
 have h2:=List.pairwise_iff_getElem.1 h i j hi hj hij;simp only at h1⊢;rcases Int.lt_trichotomy (zu (l[j]'hj) t) 0 with h3|h3|h3
 ·exact absurd (Z8.trans _ _ _ h2 h3) h1
 ·have e:=(Z8.zero _ _).1 h3;rw[←e]at h1;exact absurd h2 h1
 ·exact h3
def zgn (p:Nat->Bool) (l:List (List Sg)) (w:World) (e:Ending) (w':World):Prop:=(∃a c,e=.returned (.slice a l.length c)/\XT.In (World.hide w' p) l a c)/\Below w.heap.size w w'
theorem ziN (p:Nat->Bool) (l:List (List Sg)) (al:Option Addr) (cl:Nat) (env:List Sg) (ae:Option Addr) (ce:Nat) (w:World) (hp:∀j,p j=true->j<w.heap.size) (hL:XT.In (World.hide w p) l al cl) (hE:zT (World.hide w p) env ae ce) (ha:Asc zu l) (hl:l.length<=100000000) :
 Calls Tryz.prog 68 #[.slice al l.length cl,.slice ae env.length ce] w (zgn p (Y5 zu l env) w):=by
 have HLs:=Lib.hid hL;have HE:=Lib.hid hE;have Hp:=Lib.hid hp;have HLa:Hid (l.length=0\/∃b off,al=some ⟨b,off,none⟩):=hL.addr
 have HS:Hid (∀k (hk:k<l.length),(dnG (λz:List Sg=>zu z env) l k=false->zu (l[k]'hk) env<0->dnG (λz:List Sg=>zu z env) l (k+1)=false/\atG (λz:List Sg=>zu z env) env l (k+1)=atG (λz:List Sg=>zu z env) env l k++[l[k]'hk]) /\
  (dnG (λz:List Sg=>zu z env) l k=false->zu (l[k]'hk) env=0->dnG (λz:List Sg=>zu z env) l (k+1)=true/\atG (λz:List Sg=>zu z env) env l (k+1)=atG (λz:List Sg=>zu z env) env l k++[env]) /\
  (dnG (λz:List Sg=>zu z env) l k=false->0<zu (l[k]'hk) env->dnG (λz:List Sg=>zu z env) l (k+1)=true/\atG (λz:List Sg=>zu z env) env l (k+1)=atG (λz:List Sg=>zu z env) env l k++[env]++[l[k]'hk]) /\
  (dnG (λz:List Sg=>zu z env) l k=true->0<zu (l[k]'hk) env/\dnG (λz:List Sg=>zu z env) l (k+1)=true/\atG (λz:List Sg=>zu z env) env l (k+1)=atG (λz:List Sg=>zu z env) env l k++[l[k]'hk])):=λk hk=>stepG (monE ha) hk
 have HLn:Hid (∀k,(atG (λz:List Sg=>zu z env) env l k).length<=l.length+1):=λk=>zk7 l k;have HEnd:Y5 zu l env=if dnG (λz:List Sg=>zu z env) l l.length=true then atG (λz:List Sg=>zu z env) env l l.length else atG (λz:List Sg=>zu z env) env l l.length++[env]:=by rw[zjw];exact endG
 have hD0:dnG (λz:List Sg=>zu z env) l 0=false:=zeo l;have hA0:atG (λz:List Sg=>zu z env) env l 0=[]:=ziU l;rw[HEnd];clear hL hE ha HEnd hp;generalize dnG (λz:List Sg=>zu z env) l=D at HS hD0⊢;generalize atG (λz:List Sg=>zu z env) env l=A at HS HLn hA0⊢;have HPo:Hid (∀a c W,XT.In (World.hide W p) (if D l.length=true then A l.length else A l.length++[env]) a c->Below w.heap.size w W->zgn p (if D l.length=true then A l.length else A l.length++[env]) w (.returned (.slice a (if D l.length=true then A l.length else A l.length++[env]).length c)) W):=λa c W h1 h2=>⟨⟨a,c,rfl,h1⟩,h2⟩;generalize zgn p (if D l.length=true then A l.length else A l.length++[env]) w=Po at HPo⊢;have HO0:Hid (∀W,XT.Own 39 p W w.heap.size (.slice none 0 0) (A 0)):=λW=>by rw[hA0];exact Enc.Own.nil _ _ _ _ _
 have HD0:=Lib.hid hD0;have HRe:Hid (∀W (v:Value),Below w.heap.size w W->(∀j,v.ownBlock=some j->w.heap.size<=j)->XT.R (World.hide W (hid p v)) env [.slice ae env.length ce]):=λW v hW hv=>⟨ae,ce,rfl,zT.keep (zg hW λj hj hq=>(ze.1 hq).elim id λe=>by have:=hv j e;omega) HE.out⟩;clear hD0 hA0;go_enter Tryz.func68, Tryz.ntmps68;go_wp2_with fail;go_loopw [7,5,6] (λi o d wr=>∃k:Nat,i=.int .i64 k/\k<=l.length/\d=.bool (D k)/\Hid (XT.Own 39 p wr w.heap.size o (A k))/\Hid (Below w.heap.size w wr)) (λi _ _ _=>l.length-(intOf i).toNat);case atStart=>exact⟨0,rfl,Nat.zero_le _,by rw[HD0.out],HO0.out _,Below.refl _ _⟩
 case round =>
  (try rename World=>wr)
  obtain⟨k,rfl,hk,hd,HO,HB⟩:=hrel;have hzr:=HB.out.size;have hAk:=HLn.out k;by_cases hlt:k<l.length
  ·have hkl:(k:Int)<l.length:=by omega
   obtain⟨bl,ol,hla⟩:=HLa.out.resolve_left (by omega);subst hla;obtain⟨xa,xc,g0w,hx⟩:=zjg HLs.out rfl hlt;obtain⟨hs1,hs2,hs3,hs4⟩:=HS.out k hlt;generalize (l[k]'hlt)=x at g0w hx hs1 hs2 hs3 hs4;have HXe:=Lib.hid hx;have HC:Hid (∀W,Below w.heap.size w W->W.cell? ⟨bl,ol+k,none⟩=some (.slice xa x.length xc)):=λW hW=>za hW _ _ (zb _ _ g0w);have HSm:Hid (∀W,Below w.heap.size w W->Calls Tryz.prog 55 #[.slice xa x.length xc,.slice ae env.length ce] W λe w'=>e=.returned (.bool (pB (x=env)))/\Below W.heap.size W w'):=λW hW=>zcU x env xa xc ae ce W (zT.keep (Kp.trans zb (za hW)) HXe.out) (zT.keep (Kp.trans zb (za hW)) HE.out);have HLt:Hid (∀W,Below w.heap.size w W->Calls Tryz.prog 109 #[.slice ae env.length ce,.slice xa x.length xc] W λe w'=>e=.returned (.bool (decide (zu env x<0)))/\Below W.heap.size W w'):=λW hW=>zcQ env x ae ce xa xc W (zT.keep (Kp.trans zb (za hW)) HE.out) (zT.keep (Kp.trans zb (za hW)) HXe.out);have HRx:Hid (∀W (v:Value),Below w.heap.size w W->(∀j,v.ownBlock=some j->w.heap.size<=j)->XT.R (World.hide W (hid p v)) x [.slice xa x.length xc]):=λW v hW hv=>⟨xa,xc,rfl,zT.keep (zg hW λj hj hq=>(ze.1 hq).elim id λe=>by have:=hv j e;omega) HXe.out⟩
   have hz0:zu x env=0<->x=env:=Z8.zero x env;have han:zu env x<0<->0<zu x env:=Z8.anti env x;have c0:=HC.out wr HB.out;clear g0w hx;cases hDk:D k with
   |true =>
    obtain⟨hpos,hd2,ha2⟩:=hs4 hDk;rw[hDk]at hd;subst hd;have hsame:pB (x=env)=false:=QC λe=>by have:=hz0.2 e;omega
    have HD2:=Lib.hid hd2;have HA2:=Lib.hid ha2;clear hs1 hs2 hs3 hs4 hd2 ha2 hpos hz0 han;have HSm2:Hid (Calls Tryz.prog 55 #[.slice xa x.length xc,.slice ae env.length ce] wr λe w'=>e=.returned (.bool false)/\Below wr.heap.size wr w'):=by have h:=HSm.out wr HB.out;rw[hsame]at h;exact h
    clear HSm hsame;go_wp2_with fail;refine HSm2.out.mono ?_;rintro r w5 ⟨rfl,hb5⟩;have HB5:Hid (Below w.heap.size w w5):=HB.out.trans (hb5.mono hzr);have HO5:Hid (XT.Own 39 p w5 w.heap.size u5 (A k)):=HO.out.below hb5;have hz5:=HB5.out.size;have c5:=HC.out w5 HB5.out;clear hb5 c0;go_wp2_with (at_builtin;go_must (refine yi (E:=XT) zaQ _ rfl (.tmp 34) (.tmp 39) rfl p w.heap.size _ rfl HO5.out x [.slice xa x.length xc] (HRx.out _ _ HB5.out λj hj=>(zl HO5.out j hj).1) _ _ rfl rfl (A k).length rfl (by omega) hz5 ?_));intro g7 cap7 w7 ho7 hg7 hat7;have HB7:Hid (Below w.heap.size w w7):=yQ HB5.out hg7 λj hj=>(zl HO5.out j hj).1;rw[←HA2.out]at ho7;have HO9:=Lib.hid ho7;clear ho7 hg7 hat7;go_wp2_with fail;go_roundw;case rel=>exact⟨k+1,by go_num,by omega,by rw[HD2.out],HO9.out,HB7.out⟩
    case measure=>(simp[intOf];try omega)
   |false =>
    rw[hDk]at hd;subst hd;rcases Int.lt_trichotomy (zu x env) 0 with hc|hc|hc
    ·obtain⟨hd2,ha2⟩:=hs1 hDk hc;have hsame:pB (x=env)=false:=QC λe=>by have:=hz0.2 e;omega
     have hless:decide (zu env x<0)=false:=decide_eq_false λh=>by have:=han.1 h;omega
     have HD2:=Lib.hid hd2;have HA2:=Lib.hid ha2;clear hs1 hs2 hs3 hs4 hd2 ha2 hc hz0 han;have HSm2:Hid (Calls Tryz.prog 55 #[.slice xa x.length xc,.slice ae env.length ce] wr λe w'=>e=.returned (.bool false)/\Below wr.heap.size wr w'):=by have h:=HSm.out wr HB.out;rw[hsame]at h;exact h
     clear HSm hsame;go_wp2_with fail;refine HSm2.out.mono ?_;rintro r w5 ⟨rfl,hb5⟩;have HB5:Hid (Below w.heap.size w w5):=HB.out.trans (hb5.mono hzr);have HO5:Hid (XT.Own 39 p w5 w.heap.size u5 (A k)):=HO.out.below hb5;have hz5:=HB5.out.size;have c5:=HC.out w5 HB5.out;clear hb5 c0;have HLt2:Hid (Calls Tryz.prog 109 #[.slice ae env.length ce,.slice xa x.length xc] w5 λe w'=>e=.returned (.bool false)/\Below w5.heap.size w5 w'):=by have h:=HLt.out w5 HB5.out;rw[hless]at h;exact h
     clear HLt hless;go_wp2_with fail;refine HLt2.out.mono ?_;rintro r w6 ⟨rfl,hb6⟩;have HB6:Hid (Below w.heap.size w w6):=HB5.out.trans (hb6.mono hz5);have HO6:Hid (XT.Own 39 p w6 w.heap.size u5 (A k)):=HO5.out.below hb6;have hz6:=HB6.out.size;have c6:=HC.out w6 HB6.out;clear hb6 c5;go_wp2_with (at_builtin;go_must (refine yi (E:=XT) zaQ _ rfl (.tmp 34) (.tmp 39) rfl p w.heap.size _ rfl HO6.out x [.slice xa x.length xc] (HRx.out _ _ HB6.out λj hj=>(zl HO6.out j hj).1) _ _ rfl rfl (A k).length rfl (by omega) hz6 ?_));intro g7 cap7 w7 ho7 hg7 hat7;have HB7:Hid (Below w.heap.size w w7):=yQ HB6.out hg7 λj hj=>(zl HO6.out j hj).1;rw[←HA2.out]at ho7;have HO9:=Lib.hid ho7;clear ho7 hg7 hat7;go_wp2_with fail;go_roundw;case rel=>exact⟨k+1,by go_num,by omega,by rw[HD2.out],HO9.out,HB7.out⟩
     case measure=>(simp[intOf];try omega)
    ·obtain⟨hd2,ha2⟩:=hs2 hDk hc;have hxe:=hz0.1 hc;have hsame:pB (x=env)=true:=zhK hxe;rw[←hxe]at ha2;have HD2:=Lib.hid hd2;have HA2:=Lib.hid ha2;clear hs1 hs2 hs3 hs4 hd2 ha2 hc hz0 han hxe;have HSm2:Hid (Calls Tryz.prog 55 #[.slice xa x.length xc,.slice ae env.length ce] wr λe w'=>e=.returned (.bool true)/\Below wr.heap.size wr w'):=by
      have h:=HSm.out wr HB.out;rw[hsame]at h;exact h
     clear HSm hsame;go_wp2_with fail;refine HSm2.out.mono ?_;rintro r w5 ⟨rfl,hb5⟩;have HB5:Hid (Below w.heap.size w w5):=HB.out.trans (hb5.mono hzr);have HO5:Hid (XT.Own 39 p w5 w.heap.size u5 (A k)):=HO.out.below hb5;have hz5:=HB5.out.size;have c5:=HC.out w5 HB5.out;clear hb5 c0;go_wp2_with (at_builtin;go_must (refine yi (E:=XT) zaQ _ rfl (.tmp 34) (.tmp 39) rfl p w.heap.size _ rfl HO5.out x [.slice xa x.length xc] (HRx.out _ _ HB5.out λj hj=>(zl HO5.out j hj).1) _ _ rfl rfl (A k).length rfl (by omega) hz5 ?_));intro g7 cap7 w7 ho7 hg7 hat7;have HB7:Hid (Below w.heap.size w w7):=yQ HB5.out hg7 λj hj=>(zl HO5.out j hj).1;rw[←HA2.out]at ho7;have HO9:=Lib.hid ho7;clear ho7 hg7 hat7;go_wp2_with fail;go_roundw;case rel=>exact⟨k+1,by go_num,by omega,by rw[HD2.out],HO9.out,HB7.out⟩
     case measure=>(simp[intOf];try omega)
    ·obtain⟨hd2,ha2⟩:=hs3 hDk hc;have hsame:pB (x=env)=false:=QC λe=>by have:=hz0.2 e;omega
     have hless:decide (zu env x<0)=true:=decide_eq_true (han.2 hc);simp only[List.append_assoc,List.cons_append,List.nil_append]at ha2;have HD2:=Lib.hid hd2;have HA2:=Lib.hid ha2;clear hs1 hs2 hs3 hs4 hd2 ha2 hc hz0 han;have HSm2:Hid (Calls Tryz.prog 55 #[.slice xa x.length xc,.slice ae env.length ce] wr λe w'=>e=.returned (.bool false)/\Below wr.heap.size wr w'):=by have h:=HSm.out wr HB.out;rw[hsame]at h;exact h
     clear HSm hsame;go_wp2_with fail;refine HSm2.out.mono ?_;rintro r w5 ⟨rfl,hb5⟩;have HB5:Hid (Below w.heap.size w w5):=HB.out.trans (hb5.mono hzr);have HO5:Hid (XT.Own 39 p w5 w.heap.size u5 (A k)):=HO.out.below hb5;have hz5:=HB5.out.size;have c5:=HC.out w5 HB5.out;clear hb5 c0;have HLt2:Hid (Calls Tryz.prog 109 #[.slice ae env.length ce,.slice xa x.length xc] w5 λe w'=>e=.returned (.bool true)/\Below w5.heap.size w5 w'):=by have h:=HLt.out w5 HB5.out;rw[hless]at h;exact h
     clear HLt hless;go_wp2_with fail;refine HLt2.out.mono ?_;rintro r w6 ⟨rfl,hb6⟩;have HB6:Hid (Below w.heap.size w w6):=HB5.out.trans (hb6.mono hz5);have HO6:Hid (XT.Own 39 p w6 w.heap.size u5 (A k)):=HO5.out.below hb6;have hz6:=HB6.out.size;have c6:=HC.out w6 HB6.out;clear hb6 c5;go_wp2_with (at_builtin;go_must (refine yi (E:=XT) zaQ _ rfl (.tmp 30) (.tmp 32) rfl p w.heap.size _ rfl HO6.out env [.slice ae env.length ce] (HRe.out _ _ HB6.out λj hj=>(zl HO6.out j hj).1) _ _ rfl rfl (A k).length rfl (by omega) hz6 ?_));intro g7 cap7 w7 ho7 hg7 hat7;have HB7:Hid (Below w.heap.size w w7):=yQ HB6.out hg7 λj hj=>(zl HO6.out j hj).1;have HO7:=Lib.hid ho7;have hz7:=HB7.out.size;have c7:=HC.out w7 HB7.out;have HL7:Hid ((A k++[env]:List (List Sg)).length=(A k).length+1):=by show _=_;simp
     clear ho7 hg7 hat7 c6;go_wp2_with (at_builtin;go_must (refine yi (E:=XT) zaQ _ rfl (.tmp 34) (.tmp 39) rfl p w.heap.size _ rfl HO7.out x [.slice xa x.length xc] (HRx.out _ _ HB7.out λj hj=>(zl HO7.out j hj).1) _ _ rfl rfl ((A k).length+1) HL7.out (by omega) hz7 ?_));intro g8 cap8 w8 ho8 hg8 hat8;have HB8:Hid (Below w.heap.size w w8):=yQ HB7.out hg8 λj hj=>(zl HO7.out j hj).1;rw[←HA2.out]at ho8;have HO9:=Lib.hid ho8;clear ho8 hg8 hat8;go_wp2_with fail;go_roundw;case rel=>exact⟨k+1,by go_num,by omega,by rw[HD2.out],HO9.out,HB8.out⟩
     case measure=>(simp[intOf];try omega)
  ·have hkl:¬(k:Int)<l.length:=by omega
   obtain rfl:k=l.length:=by omega
   cases hDk:D l.length with
   |true =>
    have HP1:Hid (∀a c W,XT.In (World.hide W p) (A l.length) a c->Below w.heap.size w W->Po (.returned (.slice a (A l.length).length c)) W):=by have h:=HPo.out;rw[if_pos hDk]at h;exact h
    rw[hDk]at hd;subst hd;obtain⟨ao,co,hov,hin⟩:=HO.out.sliceP (by omega) (λj hj=>by
     cases hq:p j with
     |false=>rfl
     |true=>have:=Hp.out _ hq;omega)
    subst hov;have HF:=Lib.hid (HP1.out _ _ _ hin HB.out);clear HPo hin;go_wp2_with fail;first|exact HF.out|(go_ret2;exact HF.out)
   |false =>
    have HP1:Hid (∀a c W,XT.In (World.hide W p) (A l.length++[env]) a c->Below w.heap.size w W->Po (.returned (.slice a (A l.length++[env]).length c)) W):=by have h:=HPo.out;rw[if_neg (by rw[hDk];simp)]at h;exact h
    rw[hDk]at hd;subst hd;clear HPo;go_wp2_with (at_builtin;go_must (refine yi (E:=XT) zaQ _ rfl (.tmp 43) (.tmp 45) rfl p w.heap.size _ rfl HO.out env [.slice ae env.length ce] (HRe.out _ _ HB.out λj hj=>(zl HO.out j hj).1) _ _ rfl rfl (A l.length).length rfl (by omega) hzr ?_));intro g7 cap7 w7 ho7 hg7 hat7;have HB7:Hid (Below w.heap.size w w7):=yQ HB.out hg7 λj hj=>(zl HO.out j hj).1;have HL7:(A l.length++[env]:List (List Sg)).length=(A l.length).length+1:=by simp
    obtain⟨ao,co,hov,hin⟩:=ho7.sliceP (by rw[HL7];omega) (λj hj=>by
     cases hq:p j with
     |false=>rfl
     |true=>have:=Hp.out _ hq;omega)
    have HF:=Lib.hid (HP1.out _ _ _ hin HB7.out);rw[←hov]at HF;clear ho7 hg7 hat7 hin hov HL7;go_wp2_with fail;first|exact HF.out|(go_ret2;exact HF.out)
end Go.Proofs.YthojpomoflhbcaaGreatDoor
