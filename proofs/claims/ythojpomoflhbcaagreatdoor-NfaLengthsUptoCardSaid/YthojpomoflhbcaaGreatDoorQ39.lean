/- law41: NfaLengths. -/
import Derived.Test.YthojpomoflhbcaaGreatDoorQ38
set_option maxRecDepth 100000
set_option maxHeartbeats 16000000
set_option linter.unusedSimpArgs false
set_option linter.unusedVariables false
set_option linter.unnecessarySimpa false
namespace Go.Proofs.YthojpomoflhbcaaGreatDoor
open Go.RowKit
attribute [local go_sem ↓] Go.wp_at_zero Go.wp_at_succ
theorem zi2 {s:Tq} (hn:s.nodes<=24) {w:World} {e:Ending} {w':World} (h:ze7 y8 (ZX s) w e w') :
 (∃(m:zm) (y:YL),e=.returned (.tuple #[.agg #[.int .i64 m.states,.slice y.ae m.edges.length y.ce,.slice y.aa m.accept.length y.ca],.int .i64 (ZX s).2])/\xS w' m y/\yH m/\(∀e∈m.edges,Qf e)/\(∀e∈m.edges,e.sets.length<=24) /\
  ((ZX s).2=0->∀envs A,qG m envs [⟨0,[]⟩]=some A->∀t (ht:t<A.length),A[t]'ht≠[]->ziA s<=(t:Int)+1/\(t:Int)+1<=ziz s))/\Below w.heap.size w w':=by
 obtain⟨h1,h2⟩:=h;refine⟨?_,h2⟩;by_cases h0:(ZX s).2=0
 ·obtain⟨m,e1,e2,e3,e4,_,e6⟩:=zgN hn h0;rw[e1]at h1;obtain⟨y,h3,h4⟩:=h1;exact⟨m,y,h3,h4.keep zb,e2,e3,e4,λ_=>e6⟩
 ·rw[zi1 h0]at h1;refine⟨⟨0,[],[]⟩,⟨none,0,none,0⟩,h1,⟨Enc.In.nil _,⟨Nat.le_refl _,by simp,Or.inl rfl⟩⟩,λe he=>(by cases he),λe he=>(by cases he),λe he=>(by cases he),λh=>absurd h h0⟩
theorem zay (s:Tq) (ae:Option Addr) (ce:Nat) (a:Option Addr) (cap:Nat) (v:zbl) (x:zgh) (w:World) (hX:Zr w s ae ce a cap) (hV:zaz w v x) (hG:ZW w) :
 Calls Tryz.prog 8 #[ym s ae ce a cap,ZV v x] w (yO true w):=by
 have HF:Hid (∀W,Below w.heap.size w W->Calls Tryz.prog 11 #[ym s ae ce a cap] W (ziB s W)):=λW hW=>zjk s ae ce a cap W (hX.keep (za hW));have HFw:Hid (∀W,Below w.heap.size w W->Calls Tryz.prog 27 #[ZV v x] W (zgl (ze9 v) W)):=λW hW=>zjl v x W (hV.keep (za hW));have HVw:Hid (∀W,Below w.heap.size w W->Calls Tryz.prog 28 #[ZV v x] W (yO (ze2 v) W)):=λW hW=>zbh v x W (hV.keep (za hW));have HC:Hid (s.nodes<=24->SmT s->∀W,Below w.heap.size w W->Calls Tryz.prog 13 #[ym s ae ce a cap] W (ze7 y8 (ZX s) W)):=λh1 h2 W hW=>QG s y8 ae ce a cap W ((hX.keep (za hW)).keep xW) (λj hj=>by cases hj) (by omega) h2 (hG.below hW);have HAw:Hid (∀W,Below w.heap.size w W->Calls Tryz.prog 12 #[] W λe w'=>e=.returned (.bool true)/\Below W.heap.size W w'):=λW hW=>zfe W (hG.below hW);have HMi:Hid (SmT s->∀W,Below w.heap.size w W->Calls Tryz.prog 34 #[ym s ae ce a cap] W λe w'=>e=.returned (.int .i64 (ziA s))/\Below W.heap.size W w'):=λh W hW=>zfR s y8 ae ce a cap W ((hX.keep (za hW)).keep xW) (λj hj=>by cases hj) h;have HMa:Hid (SmT s->∀W,Below w.heap.size w W->Calls Tryz.prog 35 #[ym s ae ce a cap] W λe w'=>e=.returned (.int .i64 (ziz s))/\Below W.heap.size W w'):=λh W hW=>zfQ s y8 ae ce a cap W ((hX.keep (za hW)).keep xW) (λj hj=>by cases hj) h
 have HRu:Hid (∀(m:zm) (y:YL) W,Below w.heap.size w W->xS W m y->yH m->(∀e∈m.edges,Qf e)->(∀e∈m.edges,e.sets.length<=24)->ze9 v->ze2 v=true->Calls Tryz.prog 30 #[xq m y,ZV v x,.int .i64 0] W (zaH (qG m (Za v 0) [⟨0,[]⟩]) W)):=λm y W hW h1 h2 h3 h4 h5 h6=>zlR m y v x 0 24 W h1 (hV.keep (za hW)) h6 h2 h3 h4 (by omega) h5.2 (Nat.zero_le _) (hG.below hW);have HPo:Hid (∀W,Below w.heap.size w W->yO true w (.returned (.bool true)) W):=λW hW=>⟨rfl,hW⟩;have HCo:Hid (s.nodes<=24->∀w e w',ze7 y8 (ZX s) w e w'->_):=λh w e w' hr=>zi2 (s:=s) h hr;generalize yO true w=Po at HPo⊢;generalize ZX s=R at HC HCo;rw[Yt]at HFw HVw HRu⊢;rw[zo]at HF HC HMi HMa⊢;clear hX hV hG;obtain⟨van,vcn,var,vcr⟩:=x;simp only at HFw HVw HRu⊢;unfold yO at HVw;unfold zaH at HRu;go_enter Tryz.func8, Tryz.ntmps8;go_upto_region 1 with fail;generalize hW2:World.alloc (World.alloc w _) _=W2;have HB2:Hid (Below w.heap.size w W2):=by show Below _ _ _;rw[←hW2];exact((Below.refl _ _).alloc (Nat.le_refl _) _).alloc (by simp) _
 have HX2:Hid (W2.heap[w.heap.size]? = some (ye s ae ce a cap)):=by show _=_;rw[←hW2];exact zk (zh rfl)
 have HY2:Hid (W2.heap[w.heap.size+1]? = some (.cells #[.slice van v.names.length vcn,.slice var v.rows.length vcr] 54 (0,0))):=by show _=_;rw[←hW2];exact zh (by simp)
 have hz2:w.heap.size+2<=W2.heap.size:=by rw[←hW2];simp
 clear hW2;have HXt:Hid (∀W,Below W2.heap.size W2 W->W.heap[w.heap.size]? = some (ye s ae ce a cap)):=λW hW=>(hW.block _ (by omega)).trans HX2.out;have HXv:Hid (∀W,Below W2.heap.size W2 W->W.cell? ⟨w.heap.size+1,0,none⟩=some (.slice van v.names.length vcn)/\W.cell? ⟨w.heap.size+1,1,none⟩=some (.slice var v.rows.length vcr)):=λW hW=>by obtain⟨y0,y1,-⟩:=xm ((hW.block _ (by omega)).trans HY2.out);exact⟨y0,y1⟩
 obtain⟨b0,b1,b2,b3,b4,b5,b6,b7,b8⟩:=zt HX2.out;go_wp2_with fail;refine(HF.out W2 HB2.out).mono ?_;rintro r w3 ⟨⟨b,rfl,hfew⟩,hb3⟩;have HBx3:Hid (Below W2.heap.size W2 w3):=hb3;have HB3:Hid (Below w.heap.size w w3):=HB2.out.trans (hb3.mono HB2.out.size);clear hb3 b0 b1 b2 b3 b4 b5 b6 b7 b8;cases b with
 |false =>clear hfew;go_wp2_with fail;refine(HAw.out _ HB3.out).mono ?_;rintro r w4 ⟨rfl,hb4⟩;have HE:=Lib.hid (HPo.out _ (HB3.out.trans (hb4.mono HB3.out.size)));clear hb4;go_wp2_with fail;first|exact HE.out|(go_ret2;exact HE.out)
 |true =>
  obtain⟨hn,hsm⟩:=hfew rfl;clear hfew;replace HC:=Lib.hid (HC.out hn hsm);replace HMi:=Lib.hid (HMi.out hsm);replace HMa:=Lib.hid (HMa.out hsm);clear hsm;obtain⟨d0,d1⟩:=HXv.out w3 HBx3.out;go_wp2_with fail;refine(HFw.out w3 HB3.out).mono ?_;rintro r w4 ⟨⟨b,rfl,hfw⟩,hb4⟩;have HBx4:Hid (Below W2.heap.size W2 w4):=HBx3.out.trans (hb4.mono HBx3.out.size);have HB4:Hid (Below w.heap.size w w4):=HB3.out.trans (hb4.mono HB3.out.size);clear hb4 d0 d1;cases b with
  |false =>clear hfw;go_wp2_with fail;refine(HAw.out _ HB4.out).mono ?_;rintro r w5 ⟨rfl,hb5⟩;have HE:=Lib.hid (HPo.out _ (HB4.out.trans (hb5.mono HB4.out.size)));clear hb5;go_wp2_with fail;first|exact HE.out|(go_ret2;exact HE.out)
  |true =>
   have hfw2:=hfw rfl;clear hfw;obtain⟨d0,d1⟩:=HXv.out w4 HBx4.out;generalize ze2 v=wb at HVw HRu;go_wp2_with fail;refine(HVw.out w4 HB4.out).mono ?_;rintro r w5 ⟨rfl,hb5⟩;have HBx5:Hid (Below W2.heap.size W2 w5):=HBx4.out.trans (hb5.mono HBx4.out.size);have HB5:Hid (Below w.heap.size w w5):=HB4.out.trans (hb5.mono HB4.out.size);clear hb5 d0 d1;cases wb with
   |false =>go_wp2_with fail;refine(HAw.out _ HB5.out).mono ?_;rintro r w6 ⟨rfl,hb6⟩;have HE:=Lib.hid (HPo.out _ (HB5.out.trans (hb6.mono HB5.out.size)));clear hb6;go_wp2_with fail;first|exact HE.out|(go_ret2;exact HE.out)
   |true =>
    obtain⟨b0,b1,b2,b3,b4,b5,b6,b7,b8⟩:=zt (HXt.out w5 HBx5.out);go_wp2_with fail;refine(HC.out w5 HB5.out).mono ?_;intro r w6 hr;obtain⟨⟨m,y,rfl,hm1,hm2,hm3,hm4,hm5⟩,hb6⟩:=HCo.out hn _ _ _ hr;have HBx6:Hid (Below W2.heap.size W2 w6):=HBx5.out.trans (hb6.mono HBx5.out.size);have HB6:Hid (Below w.heap.size w w6):=HB5.out.trans (hb6.mono HB5.out.size);have HM6:=Lib.hid hm1;have HB5':=Lib.hid hm5;have HRn:Hid (∀W,Below w.heap.size w W->xS W m y->Calls Tryz.prog 30 #[.agg #[.int .i64 m.states,.slice y.ae m.edges.length y.ce,.slice y.aa m.accept.length y.ca],.agg #[.slice van v.names.length vcn,.slice var v.rows.length vcr],.int .i64 0] W λe w'=>zne (qG m (Za v 0) [⟨0,[]⟩]) w' e/\Below W.heap.size W w'):=λW hW hN=>by have h:=HRu.out m y W hW hN hm2 hm3 hm4 hfw2 (by first|rfl|trivial);rw[zH]at h;exact h
    clear hb6 hr hm1 hm2 hm3 hm4 hm5 hfw2 HRu HC HCo HF HFw HVw b0 b1 b2 b3 b4 b5 b6 b7 b8;obtain⟨xae,xce,xaa,xca⟩:=y;simp only at HM6 HRn⊢;obtain⟨d0,d1⟩:=HXv.out w6 HBx6.out;go_upto_region 4 with fail;generalize hW7:World.alloc w6 _=W7;have HB67:Hid (Below w6.heap.size w6 W7):=by show Below _ _ _;rw[←hW7];exact(Below.refl _ _).alloc (Nat.le_refl _) _
    have HX7:Hid (W7.heap[w6.heap.size]? = some (.cells #[.int .i64 m.states,.slice xae m.edges.length xce,.slice xaa m.accept.length xca] 33 (0,0))):=by show _=_;rw[←hW7];exact zh rfl
    clear hW7 d0 d1;have HBx7:Hid (Below W2.heap.size W2 W7):=HBx6.out.trans (HB67.out.mono HBx6.out.size);have HB7:Hid (Below w.heap.size w W7):=HB6.out.trans (HB67.out.mono HB6.out.size);have HR7:=Lib.hid (HRn.out W7 HB7.out (HM6.out.keep (za HB67.out)));obtain⟨d0,d1⟩:=HXv.out W7 HBx7.out;obtain⟨x0,x1,x2⟩:=zv HX7.out;clear HRn HM6;go_wp2_with fail;refine HR7.out.mono ?_;rintro r w8 ⟨hrun,hb8⟩;have HBx8:Hid (Below W2.heap.size W2 w8):=HBx7.out.trans (hb8.mono HBx7.out.size);have HB8:Hid (Below w.heap.size w w8):=HB7.out.trans (hb8.mono HB7.out.size);clear hb8 d0 d1 x0 x1 x2 HR7;replace HB5':=Lib.hid λh=>HB5'.out h (Za v 0);generalize qG m (Za v 0) [⟨0,[]⟩]=R2 at hrun HB5';cases R2 with
    |none =>
     obtain rfl:r=.returned (.tuple #[.slice none 0 0,.bool false]):=hrun;go_wp2_with fail;clear HB5';go_loopw [9] (λi wr=>i=.int .i64 0/\Hid (Below w8.heap.size w8 wr)) (λ_ _=>0);case atStart=>exact⟨rfl,Below.refl _ _⟩
     case round =>obtain⟨rfl,HBr⟩:=hrel;have HBw:Hid (Below w.heap.size w wr):=HB8.out.trans (HBr.out.mono HB8.out.size);go_wp2_with fail;refine(HAw.out _ HBw.out).mono ?_;rintro r w9 ⟨rfl,hb9⟩;have HE:=Lib.hid (HPo.out _ (HBw.out.trans (hb9.mono HBw.out.size)));clear hb9;go_wp2_with fail;first|exact HE.out|(go_ret2;exact HE.out)
    |some A =>
     obtain⟨al,cl,rfl,hA⟩:=hrun;have HA:=Lib.hid hA;have HL:Hid (R.2=0->∀t (ht:t<A.length),A[t]'ht≠[]->ziA s<=(t:Int)+1/\(t:Int)+1<=ziz s):=λh=>HB5'.out h A rfl;have hal:=hA.len;have HAa:Hid (A.length=0\/∃b off,al=some ⟨b,off,none⟩):=hA.addr;clear hA HB5';go_wp2_with fail;go_loopw [9] (λi wr=>∃k:Nat,i=.int .i64 k/\k<=A.length/\Hid (Below w8.heap.size w8 wr)) (λi _=>A.length-(intOf i).toNat);case atStart=>exact⟨0,rfl,Nat.zero_le _,Below.refl _ _⟩
     case round =>
      obtain⟨k,rfl,hk,HBr⟩:=hrel;have HBw:Hid (Below w.heap.size w wr):=HB8.out.trans (HBr.out.mono HB8.out.size);by_cases hlt:k<A.length
      ·by_cases h0:R.2=0
       ·have h0b:(R.2==0)=true:=by simp[h0]
        have hL:=HL.out h0 k hlt;clear h0;obtain⟨b,off,ha⟩:=HAa.out.resolve_left (by omega);subst ha;obtain⟨xa,xc,hcell,hxl⟩:=zjf (HA.out.keep (kpB HBr.out)) rfl hlt;generalize (A[k]'hlt)=Y at hcell hL hxl;by_cases hy:Y.length=0
        ·have hyb:¬(0:Int)<(Y.length:Int):=by omega
         go_wp2_with fail;go_roundw;case rel=>exact⟨k+1,by go_num,by omega,HBr.out⟩
         case measure=>(simp[intOf];try omega)
        ·have hyb:(0:Int)<(Y.length:Int):=by omega
         obtain⟨l1,l2⟩:=hL (λe=>hy (by rw[e];rfl));have n1:¬(k:Int)+1<ziA s:=by omega
         have n2:¬ziz s<(k:Int)+1:=by omega
         obtain⟨b0,b1,b2,b3,b4,b5,b6,b7,b8⟩:=zt (HXt.out wr (HBx8.out.trans (HBr.out.mono HBx8.out.size)));go_wp2_with fail;refine(HMi.out wr HBw.out).mono ?_;rintro r w9 ⟨rfl,hb9⟩;have HBr9:Hid (Below w8.heap.size w8 w9):=HBr.out.trans (hb9.mono HBr.out.size);have HB9:Hid (Below w.heap.size w w9):=HBw.out.trans (hb9.mono HBw.out.size);clear hb9 b0 b1 b2 b3 b4 b5 b6 b7 b8 hcell;obtain⟨b0,b1,b2,b3,b4,b5,b6,b7,b8⟩:=zt (HXt.out w9 (HBx8.out.trans (HBr9.out.mono HBx8.out.size)));go_wp2_with fail;refine(HMa.out w9 HB9.out).mono ?_;rintro r wa ⟨rfl,hba⟩;have HBra:Hid (Below w8.heap.size w8 wa):=HBr9.out.trans (hba.mono HBr9.out.size);clear hba b0 b1 b2 b3 b4 b5 b6 b7 b8;go_wp2_with fail;go_roundw;case rel=>exact⟨k+1,by go_num,by omega,HBra.out⟩
         case measure=>(simp[intOf];try omega)
       ·have h0b:(R.2==0)=false:=by simp[h0]
        go_wp2_with fail;refine(HAw.out _ HBw.out).mono ?_;rintro r w9 ⟨rfl,hb9⟩;have HE:=Lib.hid (HPo.out _ (HBw.out.trans (hb9.mono HBw.out.size)));clear hb9;go_wp2_with fail;first|exact HE.out|(go_ret2;exact HE.out)
      ·obtain rfl:k=A.length:=by omega
       go_wp2_with fail;refine(HAw.out _ HBw.out).mono ?_;rintro r w9 ⟨rfl,hb9⟩;have HE:=Lib.hid (HPo.out _ (HBw.out.trans (hb9.mono HBw.out.size)));clear hb9;go_wp2_with fail;first|exact HE.out|(go_ret2;exact HE.out)
end Go.Proofs.YthojpomoflhbcaaGreatDoor
