/- nfa.Trim. -/
import Derived.Test.YtnfkbliokjjggaaGreatDoorH32
import Derived.Test.YtnfkbliokjjggaaGreatDoorH29
import Derived.Test.YtnfkbliokjjggaaGreatDoorH25
import Derived.Test.YtnfkbliokjjggaaGreatDoorH19
import Derived.Deep.CutRange
set_option maxHeartbeats 16000000
set_option maxRecDepth 100000
set_option linter.unusedSimpArgs false
set_option linter.unusedVariables false
set_option linter.unnecessarySimpa false
namespace Go.Proofs.YtnfkbliokjjggaaGreatDoor
open Go.RowKit
attribute [local go_sem ↓] Go.wp_at_zero Go.wp_at_succ
def zas (p:Nat->Bool) (m:zt) (w:World) (e:Ending) (w':World):Prop:=(∃y:qn,e=.returned (.agg #[.int .i64 m.states,.slice y.ae m.edges.length y.ce,.slice y.aa m.accept.length y.ca])/\yb (World.hide w' p) m y)/\Below w.heap.size w w'
theorem zfa (fn:Func) (hr:fn.results=#[.cell 2 33]) (W:World) (tm:Array Value) (b:Nat) (m0 m1 m2:Value) (hW:W.heap[b]? = some (.cells #[m0,m1,m2] 33 (0,0))) (h0:tm.getD 2 undef=.pointer (some ⟨b,0,none⟩)) :
 (results fn tm).run Tryz.prog W=.ok (.agg #[m0,m1,m2]) W:=by
 have c0:=zb hW 0;have c1:=zb hW 1;have c2:=zb hW 2;simp at c0 c1 c2;rw[ym hr,h0];simp[asAddr];go_simp
def zho:Nat->Bool:=λ_=>true
theorem zjn {τ:Type} {E:Enc τ} {t:TypeId} {p:Nat->Bool} {w:World} {B:Nat} {v4:Value} {l:List τ} {g:Nat} {v3:Value} (h4:E.Own t p w B v4 l) (hne:∀j,v3.ownBlock=some j->v4.ownBlock≠some j) (hat:v3.ownBlock=some g\/w.heap.size<g):v4.ownBlock≠some g:=by
 rcases hat with h|h
 ·exact hne g h
 ·intro e;have:=(zq h4 g e).2;omega
theorem zcM (p:Nat->Bool) (n:zt) (x:qn) (w:World) (hx:yb (World.hide w p) n x) (hp:∀j,p j=true->j<w.heap.size) (hG:qW w) (hs:qq n) :
 Calls Tryz.prog 18 #[ye n x] w (zas p (trimS n) w):=by
 have HV:=Lib.hid λW (hW:Below w.heap.size w W)=>qA n x W (hG.below hW) ((hx.keep zc).keep (za hW)) hs;have HXE:=Lib.hid hx.es;have HXC:=Lib.hid hx.ac;have hel:=hx.es.len;have hal:=hx.ac.2.1;have HEA:Hid (n.edges.length=0\/∃b off,x.ae=some ⟨b,off,none⟩):=hx.es.addr;have HCA:Hid (n.accept.length=0\/∃b off,x.aa=some ⟨b,off,none⟩):=zw.addr hx.ac;have Hp:=Lib.hid hp;have HNo:Hid (zC n=false->∀W,Below w.heap.size w W->zas p (trimS n) w (.returned (.agg #[.int .i64 0,.slice none 0 0,.slice none 0 0])) W):=λh W hb=>by unfold trimS;rw[h];exact⟨⟨⟨none,0,none,0⟩,rfl,⟨Enc.In.nil _,⟨Nat.le_refl _,by simp,Or.inl rfl⟩⟩⟩,hb⟩
 have HYes:Hid (zC n=true->∀W (y:qn),yb (World.hide W p) (y7 n (yl n) (zX n)) y->Below w.heap.size w W->zas p (trimS n) w (.returned (.agg #[.int .i64 (y7 n (yl n) (zX n)).states,.slice y.ae (y7 n (yl n) (zX n)).edges.length y.ce,.slice y.aa (y7 n (yl n) (zX n)).accept.length y.ca])) W):=λh W y h1 hb=>by unfold trimS;rw[if_pos h];exact⟨⟨y,rfl,h1⟩,hb⟩
 generalize zas p (trimS n) w=Po at HNo HYes⊢;clear hx hp hG hs;simp only[zz]at HV⊢;obtain⟨xae,xce,xaa,xca⟩:=x;simp only at HXE HXC hel hal HEA HCA HV⊢;go_enter Tryz.func18, Tryz.ntmps18;go_upto_region 1 with fail;generalize hW2:World.alloc (World.alloc w _) _=W2;have HB2:Hid (Below w.heap.size w W2):=by show Below _ _ _;rw[←hW2];exact((Below.refl _ _).alloc (Nat.le_refl _) _).alloc (by simp) _
 have HX2:Hid (W2.heap[w.heap.size]? = some (zbt n ⟨xae,xce,xaa,xca⟩)):=by show _=_;rw[←hW2];exact zl (zh rfl)
 have HY2:Hid (W2.heap[w.heap.size+1]? = some xO):=by show _=_;rw[←hW2];exact zh (by simp)
 have hz2:w.heap.size+2<=W2.heap.size:=by rw[←hW2];simp
 clear hW2;obtain⟨b0,b1,b2⟩:=zo HX2.out;go_wp2_with fail;refine(HV.out _ HB2.out).mono ?_;rintro e w3 ⟨rfl,hb3⟩;have HB3:Hid (Below w.heap.size w w3):=HB2.out.trans (hb3.mono HB2.out.size);have HX3:Hid (w3.heap[w.heap.size]? = some (zbt n ⟨xae,xce,xaa,xca⟩)):=(hb3.block _ (by omega)).trans HX2.out;have HY3:Hid (w3.heap[w.heap.size+1]? = some xO):=(hb3.block _ (by omega)).trans HY2.out;have hz3:w.heap.size+2<=w3.heap.size:=by have:=hb3.size;omega
 clear hb3 HX2 HY2 HB2 HV b0 b1 b2 hz2;cases hok:zC n with
 |false =>
  have HN:=Lib.hid (HNo.out hok);have hy:w3.heap[w.heap.size+1]? = some (.cells #[.int .i64 0,.slice none 0 0,.slice none 0 0] 33 (0,0)):=HY3.out;obtain⟨r0,r1,r2⟩:=zo hy;have r0f:w3.frozen? ⟨w.heap.size+1,0,none⟩=false:=by simp[World.frozen?,hy]
  have r1f:w3.frozen? ⟨w.heap.size+1,1,none⟩=false:=by simp[World.frozen?,hy]
  have r2f:w3.frozen? ⟨w.heap.size+1,2,none⟩=false:=by simp[World.frozen?,hy]
  have HY:=Lib.hid hy;clear hy HYes HNo hok;go_wp2_with fail;refine bodyPost_ret (v:=.agg #[.int .i64 0,.slice none 0 0,.slice none 0 0]) (zfa _ rfl _ _ (w.heap.size+1) _ _ _ (zdQ HY.out) rfl) rfl ?_;exact HN.out _ (((HB3.out.setCell (by simp) _).setCell (by simp) _).setCell (by simp) _)
 |true =>
  have HY:=Lib.hid (HYes.out hok);have HOk:=Lib.hid hok;have hst:=(zA.1 hok).1;obtain⟨st,hste⟩:=Int.eq_ofNat_of_zero_le (show 0<=n.states by omega);have hst1:1<=st:=by omega
  have hst2:st<=256:=by omega
  have HSt:=Lib.hid hste;have HEd:Hid (∀e∈n.edges,(0<=e.fr/\e.fr<(st:Int))/\0<=e.to/\e.to<(st:Int)):=λe he=>by have:=(zZ.1 ((zA.1 hok).2.1 e he)).1;omega
  have HAc:Hid (∀a∈n.accept,0<=a/\a<(st:Int)):=λa ha=>by have:=((Z4.1 (zA.1 hok).2.2).1 a ha);omega
  have hx3:=HX3.out;unfold zbt at hx3;rw[hste]at hx3;have HX3':=Lib.hid hx3;clear HYes HNo hok hst hste hx3;obtain⟨b0,b1,b2⟩:=zo HX3'.out;simp only at b1 b2;obtain⟨TH,hTH⟩:∃TH,n.edges.map (λe=>(e.fr,e.to))=TH:=⟨_,rfl⟩;obtain⟨BK,hBK⟩:∃BK,n.edges.map (λe=>(e.to,e.fr))=BK:=⟨_,rfl⟩;have HTHs:Hid (∀k (h:k<n.edges.length),TH.take (k+1)=TH.take k++[((n.edges[k]'h).fr,(n.edges[k]'h).to)]):=λk h=>by rw[←hTH,←List.map_take,←List.map_take,List.take_succ_eq_append_getElem h,List.map_append];rfl
  have HBKs:Hid (∀k (h:k<n.edges.length),BK.take (k+1)=BK.take k++[((n.edges[k]'h).to,(n.edges[k]'h).fr)]):=λk h=>by rw[←hBK,←List.map_take,←List.map_take,List.take_succ_eq_append_getElem h,List.map_append];rfl
  have HTl:Hid (TH.length=n.edges.length/\BK.length=n.edges.length):=by rw[←hTH,←hBK];exact⟨List.length_map _,List.length_map _⟩
  have HTH:=Lib.hid hTH;have HBK:=Lib.hid hBK;clear hTH hBK;go_wp2_with fail;clear b0 b1 b2;go_loopw [29,3,4,6] (λi v3 v4 _ wr=>∃k:Nat,i=.int .i64 k/\k<=n.edges.length/\Hid (prE.Own 96 zho wr (w.heap.size+2) v3 (TH.take k))/\Hid (prE.Own 96 zho wr (w.heap.size+2) v4 (BK.take k))/\Hid (∀j,v3.ownBlock=some j->v4.ownBlock≠some j)/\Hid (Below (w.heap.size+2) w3 wr)) (λi _ _ _ _=>n.edges.length-(intOf i).toNat);case atStart=>exact⟨0,rfl,Nat.zero_le _,Enc.Own.nil _ _ _ _ _,Enc.Own.nil _ _ _ _ _,λj h=>by simp[Value.ownBlock]at h,Below.refl _ _⟩
  case round =>
   (try rename World=>wr)
   obtain⟨k,rfl,hk,HO3,HO4,HNe,HBr⟩:=hrel;have hzr:=HBr.out.size;have HBw:Hid (Below w.heap.size w wr):=HB3.out.trans (HBr.out.mono (by omega));have HL3:Hid ((TH.take k).length=k):=List.length_take_of_le (by rw[HTl.out.1];exact hk);have HL4:Hid ((BK.take k).length=k):=List.length_take_of_le (by rw[HTl.out.2];exact hk);obtain⟨a3,c3,hv3,hs3'⟩:=HO3.out.slice (by rw[HL3.out];omega);obtain⟨a4,c4,hv4,hs4'⟩:=HO4.out.slice (by rw[HL4.out];omega);rw[HL3.out]at hv3;rw[HL4.out]at hv4;subst hv3 hv4;by_cases hlt:k<n.edges.length
   ·obtain⟨bf,of,hfa⟩:=HEA.out.resolve_left (by omega);subst hfa;obtain⟨ag,cg,aS,cs,g0,g1,g2,g3,h1,h2⟩:=yz (HXE.out.keep (zg (q:=p) HBw.out λ_ _ h=>h)) rfl hlt;have e0:=zc _ _ g0;have e1:=zc _ _ g1;have e2:=zc _ _ g2;have e3:=zc _ _ g3;have HT1:=Lib.hid (HTHs.out k hlt);have HT2:=Lib.hid (HBKs.out k hlt);clear g0 g1 g2 g3 h1 h2 hs3' hs4';generalize (n.edges[k]'hlt)=y at e0 e1 e2 e3 HT1 HT2;go_upto_region 7 with fail;generalize hW5:World.alloc wr _=W5;have hB5:Below wr.heap.size wr W5:=by rw[←hW5];exact(Below.refl _ _).alloc (Nat.le_refl _) _
    have hy5:W5.heap[wr.heap.size]? = some (.cells #[.int .i64 y.fr,.int .i64 y.to,.slice ag y.guards.length cg,.slice aS y.sets.length cs] 77 (0,0)):=by rw[←hW5];exact zh rfl
    have hz5:wr.heap.size<W5.heap.size:=lt_of_block hy5;obtain⟨y0,y1,-,-,-⟩:=zR hy5;have HY5:=Lib.hid hy5;have HO35:=Lib.hid (HO3.out.below hB5);have HO45:=Lib.hid (HO4.out.below hB5);have HB5:=Lib.hid hB5;clear hW5 hB5 hy5 e0 e1 e2 e3;go_wp2_with (at_builtin;go_must (refine yr (E:=prE) zhr _ rfl (.tmp 33) (.tmp 39) rfl zho (w.heap.size+2) _ rfl HO35.out (y.fr,y.to) [.int .i64 y.fr,.int .i64 y.to] rfl _ _ rfl rfl k HL3.out (by omega) (by omega) ?_));intro g7 cap7 w7 ho7 hg7 hat7;have hne7:=zjn HO45.out HNe.out hat7;have HO47:Hid (prE.Own 96 zho w7 (w.heap.size+2) (.slice a4 k c4) (BK.take k)):=HO45.out.grown hg7 λj hj=>⟨rfl,HNe.out j hj⟩;have hy7:w7.heap[wr.heap.size]? = some (.cells #[.int .i64 y.fr,.int .i64 y.to,.slice ag y.guards.length cg,.slice aS y.sets.length cs] 77 (0,0)):=(hg7.block _ hz5 λe=>by have:=(zq HO3.out _ e.symm).2;omega).trans HY5.out;obtain⟨y0,y1,-,-,-⟩:=zR hy7;have HO37:Hid (prE.Own 96 zho w7 (w.heap.size+2) (.slice (some ⟨g7,0,none⟩) (k+1) cap7) (TH.take (k+1))):=by show prE.Own _ _ _ _ _ _;rw[HT1.out];exact ho7
    have HB7:Hid (Below (w.heap.size+2) w3 w7):=(HBr.out.trans (HB5.out.mono (by omega))).grown hg7 (by omega) λj hj=>(zq HO3.out j hj).1;have hz7:w.heap.size+2<=w7.heap.size:=by have:=HB7.out.size;omega
    clear ho7 hg7 hat7 hy7;go_wp2_with (at_builtin;go_must (refine yr (E:=prE) zhr _ rfl (.tmp 41) (.tmp 47) rfl zho (w.heap.size+2) _ rfl HO47.out (y.to,y.fr) [.int .i64 y.to,.int .i64 y.fr] rfl _ _ rfl rfl k HL4.out (by omega) (by omega) ?_));intro g8 cap8 w8 ho8 hg8 hat8;have HO38:Hid (prE.Own 96 zho w8 (w.heap.size+2) (.slice (some ⟨g7,0,none⟩) (k+1) cap7) (TH.take (k+1))):=HO37.out.grown hg8 λj hj=>⟨rfl,λe=>hne7 (by rw[hj,←e];rfl)⟩;have HO48:Hid (prE.Own 96 zho w8 (w.heap.size+2) (.slice (some ⟨g8,0,none⟩) (k+1) cap8) (BK.take (k+1))):=by show prE.Own _ _ _ _ _ _;rw[HT2.out];exact ho8
    have HNe8:Hid (∀j,(Value.slice (some ⟨g7,0,none⟩) (k+1) cap7).ownBlock=some j->(Value.slice (some ⟨g8,0,none⟩) (k+1) cap8).ownBlock≠some j):=λj hj e=>by
     have e1:=Option.some.inj hj;have e2:=Option.some.inj e;simp only at e1 e2;rcases hat8 with h|h
     ·exact hne7 (by rw[h,e2,←e1])
     ·have:=(zq HO37.out g7 rfl).2;omega
    have HB8:Hid (Below (w.heap.size+2) w3 w8):=HB7.out.grown hg8 (by omega) λj hj=>(zq HO47.out j hj).1;clear ho8 hg8 hat8 hne7 y0 y1;go_wp2_with fail;go_roundw;case rel=>exact⟨k+1,by go_num,by omega,HO38.out,HO48.out,HNe8.out,HB8.out⟩
    case measure=>(simp[intOf];try omega)
   ·obtain rfl:k=n.edges.length:=by omega
    have HI3:Hid (prE.In wr TH a3 c3):=by show prE.In _ _ _ _;rwa [←HTl.out.1,List.take_length]at hs3'
    have HI4:Hid (prE.In wr BK a4 c4):=by show prE.In _ _ _ _;rwa [←HTl.out.2,List.take_length]at hs4'
    have hbx:=(HBr.out.block w.heap.size (by omega)).trans HX3'.out;obtain⟨b0,b1,b2⟩:=zo hbx
    (try simp only at b1 b2)
    have HX:=Lib.hid hbx;have HYr:Hid (wr.heap[w.heap.size+1]? = some xO):=(HBr.out.block _ (by omega)).trans HY3.out;obtain⟨A,hA⟩:∃A,yl n=A:=⟨_,rfl⟩;obtain⟨Z,hZ⟩:∃Z,zX n=Z:=⟨_,rfl⟩;have HAl:Hid (A.length=st/\Z.length=st):=by rw[←hA,←hZ,zau,Qf,HSt.out,Int.toNat_natCast];exact⟨rfl,rfl⟩
    have HRe1:Hid (∀W kb,Below wr.heap.size wr W->W.cell? ⟨kb,0,none⟩=some (.int .i64 0)->Calls Tryz.prog 48 #[.int .i64 st,.slice (some ⟨kb,0,none⟩) 1 1,.slice a3 n.edges.length c3] W λe w'=>∃bA,e=.returned (.slice (some ⟨bA,0,none⟩) st st)/\wr.heap.size<=bA/\xx w' bA A/\Below W.heap.size W w'/\Below wr.heap.size wr w'):=λW kb hW hc=>by
     have h:=XQ st (by omega) [0] (some ⟨kb,0,none⟩) 1 TH a3 c3 W ⟨Nat.le_refl _,by simp,Or.inr ⟨kb,0,rfl,λi hi=>by
      have hi0:i=0:=by simpa using hi
      subst hi0;exact⟨0,rfl,hc⟩⟩⟩ (λx hx=>by obtain rfl:=List.mem_singleton.1 hx;omega) (HI3.out.keep (za hW)) (λpr hpr=>by rw[←HTH.out]at hpr;obtain⟨e,he,rfl⟩:=List.mem_map.1 hpr;exact HEd.out e he)
     rw[HTl.out.1]at h;refine h.mono ?_;rintro e w' ⟨rfl,h1,h2⟩;refine⟨_,rfl,hW.size,?_,h2,hW.trans (h2.mono hW.size)⟩;rw[←hA];unfold yl;rw[←zfb,HTH.out,HSt.out,Int.toNat_natCast];exact h1
    have HRe2:Hid (∀W,Below wr.heap.size wr W->Calls Tryz.prog 48 #[.int .i64 st,.slice xaa n.accept.length xca,.slice a4 n.edges.length c4] W λe w'=>∃bA,e=.returned (.slice (some ⟨bA,0,none⟩) st st)/\wr.heap.size<=bA/\xx w' bA Z/\Below W.heap.size W w'/\Below wr.heap.size wr w'):=λW hW=>by have h:=XQ st (by omega) n.accept xaa xca BK a4 c4 W ((HXC.out.keep zc).keep (za (HBw.out.trans (hW.mono HBw.out.size)))) (λx hx=>HAc.out x hx) (HI4.out.keep (za hW)) (λpr hpr=>by rw[←HBK.out]at hpr;obtain⟨e,he,rfl⟩:=List.mem_map.1 hpr;exact⟨(HEd.out e he).2,(HEd.out e he).1⟩);rw[HTl.out.2]at h;refine h.mono ?_;rintro e w' ⟨rfl,h1,h2⟩;refine⟨_,rfl,hW.size,?_,h2,hW.trans (h2.mono hW.size)⟩;rw[←hZ];unfold zX;rw[←zgC,HBK.out,HSt.out,Int.toNat_natCast];exact h1
    have HCs:Hid (∀W,Below wr.heap.size wr W->W.cell? ⟨w.heap.size,0,none⟩=some (.int .i64 st)/\W.cell? ⟨w.heap.size,2,none⟩=some (.slice xaa n.accept.length xca)):=λW hW=>⟨za hW _ _ b0,za hW _ _ b2⟩;have B0:∀o,(wr.alloc o).cell? ⟨w.heap.size,0,none⟩=some (.int .i64 st):=λo=>Lib.cell?_alloc_some _ b0;have B2:∀o,(wr.alloc o).cell? ⟨w.heap.size,2,none⟩=some (.slice xaa n.accept.length xca):=λo=>Lib.cell?_alloc_some _ b2;have HA:=Lib.hid hA;have HZ:=Lib.hid hZ;clear hs3' hs4' hbx hA hZ HO3 HO4 HNe HL3 HL4 b1;go_upto_region 10 with fail;go_cut [7,8] from 50 to 60 (λs7 s8 wx=>∃bA bB:Nat,s7=.slice (some ⟨bA,0,none⟩) st st/\s8=.slice (some ⟨bB,0,none⟩) st st/\Hid (xx wx bA A)/\Hid (xx wx bB Z)/\Hid (wr.heap.size<=bA/\wr.heap.size<=bB)/\Hid (Below wr.heap.size wr wx));case first =>
     go_region_law (first
      |(go_simp;(fail_if_success (have q9:=hb1));go_at_call 48;(with_reducible refine(HRe1.out _ _ (by first|with_reducible assumption|exact zW) (by first|(simp;done)|(simp[World.cell?];done))).mono ?_);rintro e v1 ⟨bA,rfl,hbA,hrA,hb1,hB1⟩;obtain⟨j0,j2⟩:=HCs.out _ hB1;have J0:=λo=>Lib.cell?_alloc_some o j0;have J2:=λo=>Lib.cell?_alloc_some o j2;have HRA:=Lib.hid hrA;clear hrA)
      |(go_simp;(have q9:=hb1);go_at_call 48;(with_reducible refine(HRe2.out _ (by first|with_reducible assumption|exact zW)).mono ?_);rintro e v2 ⟨bB,rfl,hbB,hrB,hb2,hB2⟩;have HRB:=Lib.hid hrB;clear hrB q9))
     all_goals
      have HRA2:Hid (xx v2 bA A):=HRA.out.below (by first|with_reducible assumption|(refine Below.trans ?_ (Below.mono hb2 ?_);· exact zW;· first|omega|(simp;omega)|simp));have HB2f:=Lib.hid hB2;go_wp2_with fail;go_meet;case rel=>exact⟨bA,bB,rfl,rfl,HRA2,HRB,⟨hbA,hbB⟩,HB2f⟩
    case rest =>
     obtain⟨bA,bB,e7,e8,HRA,HRB,HbA,HBc⟩:=hcut;subst e7 e8;clear HRe1 HRe2 HCs B0 B2 b0 b2 HI3 HI4 HTH HBK HTHs HBKs HTl;have hmm:=@run_makeMap Tryz.prog;have hxc:=(HBc.out.block _ (lt_of_block HX.out)).trans HX.out;obtain⟨b0,b1,b2⟩:=zo hxc
     (try simp only at b1 b2)
     have B0:∀o,(wc.alloc o).cell? ⟨w.heap.size,0,none⟩=some (.int .i64 st):=λo=>Lib.cell?_alloc_some _ b0;clear hxc;go_wp2_with fail;have HM0:Hid (xH (wc.alloc (.map #[] 0)) Tryz.prog 3 wc.heap.size (yp A Z 0) (XK A Z 0)):=by show xH _ _ _ _ _ _;rw[show yp A Z 0=0 from za1];exact(xH.made wc _ _).congr (zfg A Z)
     have HBm:Hid (Below wc.heap.size wc (wc.alloc (.map #[] 0))):=(Below.refl _ _).alloc (Nat.le_refl _) _;clear b0 b1 b2 B0 hmm;go_loopw [64,10] (λi _ wr=>∃k:Nat,i=.int .i64 k/\k<=st/\Hid (xH wr Tryz.prog 3 wc.heap.size (yp A Z k) (XK A Z k))/\Hid (Below wc.heap.size wc wr)) (λi _ _=>st-(intOf i).toNat);case atStart=>exact⟨0,rfl,Nat.zero_le _,HM0,HBm⟩
     case round =>
      clear HM0 HBm;obtain⟨k,rfl,hk,HM,HBk⟩:=hrel;by_cases hlt:k<st
      ·have HKs:=Lib.hid (za0 A Z k);have c0:=(HRA.out.below HBk.out).cell (i:=k) (by rw[HAl.out.1];exact hlt);have c1:=(HRB.out.below HBk.out).cell (i:=k) (by rw[HAl.out.2];exact hlt);have HKd:Hid (yd A Z k=(k==0||(A.getD k false&&Z.getD k false))):=rfl;generalize A.getD k false=va at c0 HKd;generalize Z.getD k false=vz at c1 HKd;have hgo:((k=0\/(¬k=0/\va=true/\vz=true))/\yd A Z k=true)\/(((¬k=0/\va=true/\vz=false)\/(¬k=0/\va=false))/\yd A Z k=false):=by
        rw[HKd.out];by_cases h0:k=0
        ·subst h0;left;exact⟨Or.inl rfl,by simp⟩
        ·cases va<;>cases vz<;>simp[h0]
       clear HKd;rcases hgo with ⟨hc,hkp⟩|⟨hc,hkp⟩
       ·have HP:=Lib.hid (zgF hkp);have HNk:Hid (yp A Z (k+1)=yp A Z k+1):=by show _=_;rw[HKs.out,if_pos hkp]
        have hnl:=XL A Z k;rcases hc with h0|⟨h0,h1,h2⟩
        ·subst h0;go_wp2_with (first|(at_len;refine ZU _ rfl _ 99 3 3 rfl (by kernel_rfl) rfl HM.out ?_)|(at_mapUpdate;go_must (refine X1 _ rfl _ _ _ 99 3 rfl zT (by kernel_rfl) rfl HM.out (by omega) _ _ _ rfl rfl (yK (i:=0) (by omega)) trivial ?_);intro w7 hM7 hg7));have hM8:xH w7 Tryz.prog 3 wc.heap.size (yp A Z 0+if (XK A Z 0 (.int .i64 ((0:Nat):Int))).isSome then 0 else 1) (zgM (XK A Z 0) (.int .i64 ((0:Nat):Int)) (some (.int .i64 (yp A Z 0:Nat)))):=hM7;rw[zcy]at hM8;have HM7:Hid (xH w7 Tryz.prog 3 wc.heap.size (yp A Z 1) (XK A Z 1)):=by
          show xH _ _ _ _ _ _;rw[show yp A Z 1=yp A Z 0+1 from HNk.out];exact hM8.congr HP.out
         have HB7:Hid (Below wc.heap.size wc w7):=HBk.out.grown hg7 HBk.out.size λj hj=>by have:=Option.some.inj hj;omega
         clear hM7 hM8 hg7;go_wp2_with fail;go_roundw;case rel=>exact⟨1,by go_num,by omega,HM7.out,HB7.out⟩
         case measure=>(simp[intOf];try omega)
        ·subst h1 h2;have h0b:((k:Int)==0)=false:=by simp;omega
         have h0c:¬((k:Int)=0):=by omega
         go_wp2_with (first|(at_len;refine ZU _ rfl _ 99 3 3 rfl (by kernel_rfl) rfl HM.out ?_)|(at_mapUpdate;go_must (refine X1 _ rfl _ _ _ 99 3 rfl zT (by kernel_rfl) rfl HM.out (by omega) _ _ _ rfl rfl (yK (i:=k) (by omega)) trivial ?_);intro w7 hM7 hg7));rw[zcy]at hM7;have HM7:Hid (xH w7 Tryz.prog 3 wc.heap.size (yp A Z (k+1)) (XK A Z (k+1))):=by show xH _ _ _ _ _ _;rw[HNk.out];exact hM7.congr HP.out
         have HB7:Hid (Below wc.heap.size wc w7):=HBk.out.grown hg7 HBk.out.size λj hj=>by have:=Option.some.inj hj;omega
         clear hM7 hg7;go_wp2_with fail;go_roundw;case rel=>exact⟨k+1,by go_num,by omega,HM7.out,HB7.out⟩
         case measure=>(simp[intOf];try omega)
       ·have HNk:Hid (yp A Z (k+1)=yp A Z k):=by show _=_;rw[HKs.out,if_neg (by rw[hkp];simp)];rfl
        have HMn:Hid (xH wr Tryz.prog 3 wc.heap.size (yp A Z (k+1)) (XK A Z (k+1))):=by show xH _ _ _ _ _ _;rw[HNk.out];exact HM.out.congr (zff hkp)
        have h0:¬k=0:=by rcases hc with h|h<;>exact h.1
        have h0b:((k:Int)==0)=false:=by simp;omega
        have h0c:¬((k:Int)=0):=by omega
        rcases hc with ⟨-,h1,h2⟩|⟨-,h1⟩
        ·subst h1 h2;go_wp2_with fail;go_roundw;case rel=>exact⟨k+1,by go_num,by omega,HMn.out,HBk.out⟩
         case measure=>(simp[intOf];try omega)
        ·subst h1;go_wp2_with fail;go_roundw;case rel=>exact⟨k+1,by go_num,by omega,HMn.out,HBk.out⟩
         case measure=>(simp[intOf];try omega)
      ·obtain rfl:st=k:=by omega
       have hbx:=(HBk.out.block _ (lt_of_block ((HBc.out.block _ (lt_of_block HX.out)).trans HX.out))).trans ((HBc.out.block _ (lt_of_block HX.out)).trans HX.out);obtain⟨-,b1,b2⟩:=zo hbx
       (try simp only at b1 b2)
       have B1:∀o,(wr.alloc o).cell? ⟨w.heap.size,1,none⟩=some (.slice xae n.edges.length xce):=λo=>Lib.cell?_alloc_some _ b1;have HXk:=Lib.hid hbx;clear hbx;go_wp2_with (at_len;refine ZU _ rfl _ 99 3 3 rfl (by kernel_rfl) rfl HM.out ?_);generalize hW8:World.alloc wr _=W8;have HB8:Hid (Below wr.heap.size wr W8):=by show Below _ _ _;rw[←hW8];exact(Below.refl _ _).alloc (Nat.le_refl _) _
       have HO8:Hid (W8.heap[wr.heap.size]? = some (.cells #[.int .i64 (yp A Z st:Nat),.slice none 0 0,.slice none 0 0] 33 (0,0))):=by show _=_;rw[←hW8];exact zh rfl
       have HM8:Hid (xH W8 Tryz.prog 3 wc.heap.size (yp A Z st) (XK A Z st)):=HM.out.below HB8.out;have HBc8:Hid (Below wc.heap.size wc W8):=HBk.out.trans (HB8.out.mono HBk.out.size);have HRA8:Hid (xx W8 bA A):=HRA.out.below HBc8.out;have HRB8:Hid (xx W8 bB Z):=HRB.out.below HBc8.out;have HX8:Hid (W8.heap[w.heap.size]? = some (.cells #[.int .i64 st,.slice xae n.edges.length xce,.slice xaa n.accept.length xca] 33 (0,0))):=(HB8.out.block _ (lt_of_block HXk.out)).trans HXk.out;have HBw8:Hid (Below w.heap.size w W8):=HBw.out.trans ((HBc.out.trans (HBc8.out.mono HBc.out.size)).mono HBw.out.size);have hz8:w.heap.size+2<=wr.heap.size:=by have h1:=HBk.out.size;have h2:=HBc.out.size;omega
       have HY8:Hid (W8.heap[w.heap.size+1]? = some xO):=(HBc8.out.block _ (by have:=HBc.out.size;omega)).trans ((HBc.out.block _ (by omega)).trans HYr.out);have hmlt:wc.heap.size<wr.heap.size:=HM.out.lt;have hAlt:bA<wr.heap.size:=by have:=lt_of_block HRA.out;have:=HBk.out.size;omega
       have hBlt:bB<wr.heap.size:=by have:=lt_of_block HRB.out;have:=HBk.out.size;omega
       obtain⟨Bo,hBo⟩:∃Bo,wr.heap.size=Bo:=⟨_,rfl⟩;rw[hBo]at HO8 hz8 hmlt hAlt hBlt⊢;have hzo:Bo<W8.heap.size:=lt_of_block HO8.out;clear hW8 HM HBk HRA HRB HXk HYr HBc8 HB8 b1 b2 B1;obtain⟨q,hq⟩:∃q:Nat->Bool,(λj=>p j||(j==w.heap.size+1)||(j==Bo))=q:=⟨_,rfl⟩;have Q:Hid (∀j,q j=true<->p j=true\/j=w.heap.size+1\/j=Bo):=λj=>by rw[←hq];simp[or_assoc]
       have HQl:Hid (∀j,q j=true->j<Bo+1):=λj hj=>by
        rcases (Q.out j).1 hj with h|h|h
        ·have:=Hp.out j h;omega
        ·omega
        ·omega
       have HKq:Hid (∀W v,Below w.heap.size w W->(∀j,Value.ownBlock v=some j->w.heap.size<=j)->Kp (World.hide w p) (World.hide W (hid q v))):=λW v hb hv=>zg hb λj hj h=>(ze.1 h).elim (λh=>((Q.out j).1 h).elim id λe=>by omega) λe=>by have:=hv j e;omega
       clear hq;obtain⟨EL,HEL⟩:∃EL:Nat->List zk,Hid (∀m,EL m=((n.edges.take m).filter (Zd A Z)).map (zg2 A Z)):=⟨_,λ_=>rfl⟩;have HEL0:Hid (EL 0=[]):=by show _=_;rw[HEL.out];simp
       have HELs:Hid (∀m (h:m<n.edges.length),EL (m+1)=EL m++(if Zd A Z (n.edges[m]'h)=true then [mvE (n.edges[m]'h) (yp A Z (n.edges[m]'h).fr.toNat:Nat) (yp A Z (n.edges[m]'h).to.toNat:Nat)] else [])):=λm h=>by
        rw[HEL.out,HEL.out,List.take_succ_eq_append_getElem h,List.filter_append,List.map_append];congr 1;by_cases hg:Zd A Z (n.edges[m]'h)=true
        ·rw[List.filter_cons,if_pos hg,if_pos hg];rfl
        ·rw[List.filter_cons,if_neg hg,if_neg hg];rfl
       have HELl:Hid (∀m,(EL m).length<=m):=λm=>by rw[HEL.out,List.length_map];exact Nat.le_trans (List.length_filter_le _ _) (by rw[List.length_take];omega)
       have HELe:Hid (EL n.edges.length=(y7 n A Z).edges):=by show _=_;rw[HEL.out,List.take_length];rfl
       have HGd:Hid (∀e∈n.edges,Zd A Z e=(yd A Z e.fr.toNat&&yd A Z e.to.toNat&&A.getD e.fr.toNat false&&Z.getD e.fr.toNat false&&Z.getD e.to.toNat false)):=λe he=>by rw[←HA.out,←HZ.out];exact zfQ HOk.out he
       clear HEL;go_loopw [92,13,14,15,16,17] (λi _ _ _ _ _ wr=>∃(m:Nat) (ve:Value),i=.int .i64 m/\m<=n.edges.length/\Hid (wr.heap[Bo]? = some (.cells #[.int .i64 (yp A Z st:Nat),ve,.slice none 0 0] 33 (0,0)))/\Hid (edE.Own 77 q wr (Bo+1) ve (EL m))/\Hid (Below Bo W8 wr)) (λi _ _ _ _ _ _=>n.edges.length-(intOf i).toNat);case atStart=>exact⟨0,.slice none 0 0,rfl,Nat.zero_le _,HO8,by show edE.Own _ _ _ _ _ _;rw[HEL0.out];exact Enc.Own.nil _ _ _ _ _,Below.refl _ _⟩
       case round =>
        (try rename World=>wr)
        obtain⟨m,ve,rfl,hm,HB,HO,HBr⟩:=hrel;have hzr:=lt_of_block HB.out;have HBwr:Hid (Below w.heap.size w wr):=HBw8.out.trans (HBr.out.mono (by omega));have hell:=HELl.out m;obtain⟨va,vc,hv,hsl⟩:=HO.out.slice (by omega);obtain⟨L,HL⟩:∃L,Hid ((EL m).length=L):=⟨_,rfl⟩;rw[HL.out]at hv hell;subst hv;have HVo:Hid (∀j,(Value.slice va L vc).ownBlock=some j->Bo+1<=j/\j<wr.heap.size):=zq HO.out;have HQw:Hid (∀j,hid q (.slice va L vc) j=true->j<wr.heap.size):=λj hj=>(ze.1 hj).elim (λh=>by have:=HQl.out j h;omega) λe=>(HVo.out j e).2;have HMr:Hid (xH wr Tryz.prog 3 wc.heap.size (yp A Z st) (XK A Z st)):=HM8.out.belowB HBr.out hmlt;have HRAr:Hid (xx wr bA A):=(HBr.out.block _ hAlt).trans HRA8.out;have HRBr:Hid (xx wr bB Z):=(HBr.out.block _ hBlt).trans HRB8.out;by_cases hlt:m<n.edges.length
        ·obtain⟨bf,of,hfa⟩:=HEA.out.resolve_left (by omega);subst hfa;obtain⟨ag,cg,aS,cs,g0,g1,g2,g3,h1,h2⟩:=yz (HXE.out.keep (HKq.out wr (.slice va L vc) HBwr.out λj hj=>by have:=(HVo.out j hj).1;omega)) rfl hlt;have e0:=zc _ _ g0;have e1:=zc _ _ g1;have e2:=zc _ _ g2;have e3:=zc _ _ g3;have HS:=Lib.hid (HELs.out m hlt);have HGm:=Lib.hid (HGd.out _ (List.getElem_mem hlt));obtain⟨⟨x0,x1⟩,y0,y1⟩:=HEd.out _ (List.getElem_mem hlt);have H1:=Lib.hid h1;have H2:=Lib.hid h2;clear g0 g1 g2 g3 h1 h2 hsl;generalize (n.edges[m]'hlt)=y at e0 e1 e2 e3 HS HGm x0 x1 y0 y1 H1 H2;obtain⟨yf,yt,yg,ys⟩:=y;simp only at e0 e1 e2 e3 x0 x1 y0 y1 H1 H2;obtain⟨fn,rfl⟩:=Int.eq_ofNat_of_zero_le x0;obtain⟨tn,rfl⟩:=Int.eq_ofNat_of_zero_le y0;simp only[Int.toNat_natCast]at HS HGm;have hfn:fn<st:=by omega
         have htn:tn<st:=by omega
         go_upto_region 22 with fail;generalize hW5:World.alloc wr _=W5;have hB5:Below wr.heap.size wr W5:=by rw[←hW5];exact(Below.refl _ _).alloc (Nat.le_refl _) _
         have hy5:W5.heap[wr.heap.size]? = some (.cells #[.int .i64 fn,.int .i64 tn,.slice ag yg.length cg,.slice aS ys.length cs] 77 (0,0)):=by rw[←hW5];exact zh rfl
         have HB5:=Lib.hid hB5;have HY5:=Lib.hid hy5;have hs5:=lt_of_block hy5;obtain⟨q0,q1,q2,q3,-⟩:=zR hy5;have HM5:Hid (xH W5 Tryz.prog 3 wc.heap.size (yp A Z st) (XK A Z st)):=HMr.out.below hB5;have cA:=(HRAr.out.below hB5).cell (i:=fn) (by rw[HAl.out.1];exact hfn);have cB:=(HRBr.out.below hB5).cell (i:=fn) (by rw[HAl.out.2];exact hfn);have cC:=(HRBr.out.below hB5).cell (i:=tn) (by rw[HAl.out.2];exact htn);have HF1:=Lib.hid (zaa A Z hfn);have HF2:=Lib.hid (zaa A Z htn);clear hW5 hB5 hy5 e0 e1 e2 e3;have HNg:Hid (Zd A Z ⟨fn,tn,yg,ys⟩=false->EL (m+1)=EL m):=λh=>by rw[HS.out,h];simp
         have HNw:Hid (Zd A Z ⟨fn,tn,yg,ys⟩=false->edE.Own 77 q W5 (Bo+1) (.slice va L vc) (EL (m+1))/\Below Bo W8 W5/\W5.heap[Bo]? = some (.cells #[.int .i64 (yp A Z st:Nat),.slice va L vc,.slice none 0 0] 33 (0,0))):=λh=>by rw[HNg.out h];exact⟨HO.out.below HB5.out,HBr.out.trans (HB5.out.mono (by omega)),(HB5.out.block _ hzr).trans HB.out⟩
         clear HNg;have hbb:Zd A Z ⟨fn,tn,yg,ys⟩=(yd A Z fn&&yd A Z tn&&A.getD fn false&&Z.getD fn false&&Z.getD tn false):=HGm.out;clear HGm;rw[hbb]at HNw;rw[hbb]at HS;clear hbb;generalize hk1:yd A Z fn=k1 at HF1 HNw HS;generalize hk2:yd A Z tn=k2 at HF2 HNw HS;generalize hA1:A.getD fn false=a1 at cA HNw HS;generalize hZ1:Z.getD fn false=z1 at cB HNw HS;generalize hZ2:Z.getD tn false=z2 at cC HNw HS;clear hk1 hk2 hA1 hZ1 hZ2;have hgo:(k1=true/\k2=true/\a1=true/\z1=true/\z2=true)\/((k1&&k2&&a1&&z1&&z2)=false/\((k1=false/\k2=false)\/(k1=false/\k2=true)\/(k1=true/\k2=false)\/(k1=true/\k2=true/\a1=false)\/(k1=true/\k2=true/\a1=true/\z1=false)\/(k1=true/\k2=true/\a1=true/\z1=true/\z2=false))):=by cases k1<;>cases k2<;>cases a1<;>cases z1<;>cases z2<;>simp
         rcases hgo with ⟨rfl,rfl,rfl,rfl,rfl⟩|⟨hg,hgo⟩
         ·rw[if_pos rfl]at HF1 HF2;have HS':Hid (EL (m+1)=EL m++[(⟨(yp A Z fn:Nat),(yp A Z tn:Nat),yg,ys⟩:zk)]):=by show _=_;rw[HS.out];simp[mvE]
          have hbo5:W5.heap[Bo]? = some (.cells #[.int .i64 (yp A Z st:Nat),.slice va L vc,.slice none 0 0] 33 (0,0)):=(HB5.out.block _ hzr).trans HB.out;clear HNw HS
          go_upto_region 25 with (first
           |(at_lookup;refine xh _ rfl _ _ 99 3 rfl zT (by kernel_rfl) (yD _) rfl HM5.out _ _ rfl (yK (i:=fn) (by omega)) _ HF1.out ?_)
           |(at_lookup;refine xh _ rfl _ _ 99 3 rfl zT (by kernel_rfl) (yD _) rfl HM5.out _ _ rfl (yK (i:=tn) (by omega)) _ HF2.out ?_)
           |(at_lookup;refine xd _ rfl _ _ 99 3 rfl zT (by kernel_rfl) (yD _) rfl HM5.out _ _ rfl (yK (i:=fn) (by omega)) HF1.out ?_)
           |(at_lookup;refine xd _ rfl _ _ 99 3 rfl zT (by kernel_rfl) (yD _) rfl HM5.out _ _ rfl (yK (i:=tn) (by omega)) HF2.out ?_))
          generalize yp A Z fn=nf at HF1 HS'⊢;generalize yp A Z tn=nt at HF2 HS'⊢;obtain⟨-,i1,-⟩:=zo hbo5;have f1:W5.frozen? ⟨Bo,1,none⟩=false:=by simp[World.frozen?,hbo5]
          have HBo5:=Lib.hid hbo5;have HO5:=Lib.hid (HO.out.below HB5.out);have HCp:Hid (∀W,Below W5.heap.size W5 W->Calls Tryz.prog 49 #[.agg #[.int .i64 fn,.int .i64 tn,.slice ag yg.length cg,.slice aS ys.length cs],.int .i64 nf,.int .i64 nt] W λe w'=>(∃ag' cg' aS' cs',e=.returned (.agg #[.int .i64 nf,.int .i64 nt,.slice ag' yg.length cg',.slice aS' ys.length cs'])/\exE.In (World.hide w' (hid q (.slice va L vc))) yg ag' cg'/\bdE.In (World.hide w' (hid q (.slice va L vc))) ys aS' cs')/\Below W.heap.size W w'/\Below W5.heap.size W5 w'):=λW hW=>by have hWr:=HB5.out.trans (hW.mono HB5.out.size);refine(zbO (hid q (.slice va L vc)) ⟨fn,tn,yg,ys⟩ ag cg aS cs nf nt W (λj hj=>Nat.lt_of_lt_of_le (HQw.out j hj) hWr.size) (H1.out.keep (zg hWr λ_ _ h=>h)) (H2.out.keep (zg hWr λ_ _ h=>h))).mono ?_;rintro e w' ⟨⟨ag',cg',aS',cs',rfl,k1,k2⟩,k3⟩;exact⟨⟨ag',cg',aS',cs',rfl,k1,k2⟩,k3,hW.trans (k3.mono hW.size)⟩
          have HRx:Hid (∀v1 W ag' cg' aS' cs',exE.In (World.hide v1 (hid q (.slice va L vc))) yg ag' cg'->bdE.In (World.hide v1 (hid q (.slice va L vc))) ys aS' cs'->Below v1.heap.size v1 W->edE.R (World.hide W (hid q (.slice va L vc))) ⟨nf,nt,yg,ys⟩ [.int .i64 nf,.int .i64 nt,.slice ag' yg.length cg',.slice aS' ys.length cs']):=λv1 W ag' cg' aS' cs' k1 k2 hW=>⟨ag',cg',aS',cs',rfl,k1.keep (zg hW λ_ _ h=>h),k2.keep (zg hW λ_ _ h=>h)⟩;have HZ2:Hid (∀W,Below W5.heap.size W5 W->W.cell? ⟨Bo,1,none⟩=some (.slice va L vc)/\W.cell? ⟨wr.heap.size,0,none⟩=some (.int .i64 fn)/\W.cell? ⟨wr.heap.size,1,none⟩=some (.int .i64 tn)/\W.cell? ⟨wr.heap.size,2,none⟩=some (.slice ag yg.length cg)/\W.cell? ⟨wr.heap.size,3,none⟩=some (.slice aS ys.length cs)):=λW hW=>⟨za hW _ _ i1,za hW _ _ q0,za hW _ _ q1,za hW _ _ q2,za hW _ _ q3⟩;clear hbo5 cA cB cC HF1 HF2 HM5 HMr HRAr HRBr
          go_region_law (first
           |(go_simp;go_at_call 49;(with_reducible refine(HCp.out _ (by first|with_reducible assumption|exact zW)).mono ?_);rintro e v1 ⟨⟨ag',cg',aS',cs',rfl,hg1,hs1⟩,hb1,hB1⟩;have hz1:=hB1.size;have HG1:=Lib.hid hg1;have HS1:=Lib.hid hs1;obtain⟨j5,j0,j1,j2,j3⟩:=HZ2.out _ hB1;have J5:=λo=>Lib.cell?_alloc_some o j5;clear hg1 hs1)
           |(refine x5 (E:=edE) zcn (by rfl) _ _ (by rfl) q (Bo+1) (.slice va L vc) (by rfl) (HO5.out.below (by first|exact Below.refl _ _|exact zW)) ⟨nf,nt,yg,ys⟩ [.int .i64 nf,.int .i64 nt,.slice ag' yg.length cg',.slice aS' ys.length cs'] (HRx.out _ _ _ _ _ _ HG1.out HS1.out (by first|with_reducible assumption|exact zW)) _ 1 (by rfl) (by first|exact zi _ _|exact hbT hb1 (zh rfl)) L HL.out (by omega) (by first|omega|(simp;omega)) _ rfl ?_;intro gg gcap wg hownG hgrow hatG hltG;have hbg:wg.heap[Bo]? = some (.cells #[.int .i64 (yp A Z st:Nat),.slice va L vc,.slice none 0 0] 33 (0,0)):=((hgrow.block Bo (by first|omega|(simp;omega)) (λe=>by have:=(HVo.out _ e.symm).1;omega)).trans ((Below.block (B:=W5.heap.size) (by first|with_reducible assumption|exact zW) _ (by omega)).trans HBo5.out));obtain⟨i0,i1,i2⟩:=zo hbg;have iF1:wg.frozen? ⟨Bo,1,none⟩=false:=(by simp[World.frozen?,hbg])))
          all_goals
           have hNew:=zbE HBr.out HB5.out (by first|with_reducible assumption|exact zW) hgrow (by omega) (λj hj=>by have:=(HVo.out j hj).1;omega);have hgg:=(zq hownG gg rfl).1;have hq2:q Bo=true:=(Q.out _).2 (Or.inr (Or.inr rfl));have HO9:Hid (edE.Own 77 q (wg.setCell ⟨Bo,1,none⟩ (.slice (some ⟨gg,0,none⟩) (L+1) gcap)) (Bo+1) (.slice (some ⟨gg,0,none⟩) (L+1) gcap) (EL (m+1))):=by show edE.Own _ _ _ _ _ _;rw[HS'.out];exact yF hq2 (λe=>by have:=Option.some.inj e;simp only at this;omega) hownG
           have HZ9:Hid ((wg.setCell ⟨Bo,1,none⟩ (.slice (some ⟨gg,0,none⟩) (L+1) gcap)).heap[Bo]? = some (.cells #[.int .i64 (yp A Z st:Nat),.slice (some ⟨gg,0,none⟩) (L+1) gcap,.slice none 0 0] 33 (0,0))):=by show _=_;rw[heap_setCell_same _ Bo 1 _ _ _ hbg];rfl
           have HB9:Hid (Below Bo W8 (wg.setCell ⟨Bo,1,none⟩ (.slice (some ⟨gg,0,none⟩) (L+1) gcap))):=hNew.setCell (Nat.le_refl _) _;clear hNew hownG hgrow hatG hltG hbg hgg;go_wp2_with fail;go_roundw;case rel=>exact⟨m+1,_,by go_num,by omega,HZ9.out,HO9.out,HB9.out⟩
           case measure=>(simp[intOf];try omega)
         ·obtain⟨hO,hBl,hBx⟩:=HNw.out hg;have HO':=Lib.hid hO;have HBl:=Lib.hid hBl;have HBx:=Lib.hid hBx;clear hO hBl hBx HNw HS hg;rcases hgo with ⟨rfl,rfl⟩|⟨rfl,rfl⟩|⟨rfl,rfl⟩|⟨rfl,rfl,rfl⟩|⟨rfl,rfl,rfl,rfl⟩|⟨rfl,rfl,rfl,rfl,rfl⟩
          all_goals
           (try rw[if_pos rfl]at HF1)
           (try rw[if_neg (by decide)]at HF1)
           (try rw[if_pos rfl]at HF2)
           (try rw[if_neg (by decide)]at HF2)
           go_wp2_with (first
            |(at_lookup;refine xh _ rfl _ _ 99 3 rfl zT (by kernel_rfl) (yD _) rfl HM5.out _ _ rfl (yK (i:=fn) (by omega)) _ HF1.out ?_)
            |(at_lookup;refine xh _ rfl _ _ 99 3 rfl zT (by kernel_rfl) (yD _) rfl HM5.out _ _ rfl (yK (i:=tn) (by omega)) _ HF2.out ?_)
            |(at_lookup;refine xd _ rfl _ _ 99 3 rfl zT (by kernel_rfl) (yD _) rfl HM5.out _ _ rfl (yK (i:=fn) (by omega)) HF1.out ?_)
            |(at_lookup;refine xd _ rfl _ _ 99 3 rfl zT (by kernel_rfl) (yD _) rfl HM5.out _ _ rfl (yK (i:=tn) (by omega)) HF2.out ?_))
           go_roundw;case rel=>exact⟨m+1,_,by go_num,by omega,HBx.out,HO'.out,HBl.out⟩
           case measure=>(simp[intOf];try omega)
        ·obtain rfl:m=n.edges.length:=by omega
         obtain⟨a',c',hv',hin⟩:=HO.out.sliceR (by rw[HL.out];omega) (λ_ h=>h) HQl.out;rw[HL.out]at hv';injection hv' with e1 e2 e3;subst e1 e3;have HE0:=Lib.hid hin;have hbx:=(HBr.out.block w.heap.size (by omega)).trans HX8.out;obtain⟨-,-,b2⟩:=zo hbx
         (try simp only at b2)
         have HXr:=Lib.hid hbx;clear hbx hin HO HVo HQw hsl;go_wp2_with fail;clear b2;obtain⟨AL,HAL⟩:∃AL:Nat->List Int,Hid (∀m,AL m=((n.accept.take m).filter λs=>yd A Z s.toNat).map λs=>(yp A Z s.toNat:Int)):=⟨_,λ_=>rfl⟩;have HAL0:Hid (AL 0=[]):=by show _=_;rw[HAL.out];simp
         have HALs:Hid (∀m (h:m<n.accept.length),AL (m+1)=AL m++(if yd A Z (n.accept[m]'h).toNat=true then [(yp A Z (n.accept[m]'h).toNat:Int)] else [])):=λm h=>by
          rw[HAL.out,HAL.out,List.take_succ_eq_append_getElem h,List.filter_append,List.map_append];congr 1;by_cases hg:yd A Z (n.accept[m]'h).toNat=true
          ·rw[List.filter_cons,if_pos hg,if_pos hg];rfl
          ·rw[List.filter_cons,if_neg hg,if_neg hg];rfl
         have HALl:Hid (∀m,(AL m).length<=m):=λm=>by rw[HAL.out,List.length_map];exact Nat.le_trans (List.length_filter_le _ _) (by rw[List.length_take];omega)
         have HALe:Hid (AL n.accept.length=(y7 n A Z).accept):=by show _=_;rw[HAL.out,List.take_length];rfl
         have HAk:Hid (∀s,yd A Z s=(yd A Z s&&A.getD s false)):=λs=>by have:=zg3 HOk.out s;rw[HA.out,HZ.out]at this;exact this
         clear HAL;have HS0:Hid (Below Bo W8 wr):=HBr;go_loopw [148,19,20,21] (λi _ _ _ wr=>∃(m:Nat) (va2:Value),i=.int .i64 m/\m<=n.accept.length/\Hid (wr.heap[Bo]? = some (.cells #[.int .i64 (yp A Z st:Nat),.slice va L vc,va2] 33 (0,0)))/\Hid (edE.In (World.hide wr (hid q va2)) (EL n.edges.length) va vc)/\Hid (inE.Own 3 q wr (Bo+1) va2 (AL m))/\Hid (Below Bo W8 wr)) (λi _ _ _ _=>n.accept.length-(intOf i).toNat);case atStart=>exact⟨0,.slice none 0 0,rfl,Nat.zero_le _,HB,HE0.out.keep (zB λk hk=>(ze.1 hk).elim id λe=>by simp[Value.ownBlock]at e),by show inE.Own _ _ _ _ _ _;rw[HAL0.out];exact Enc.Own.nil _ _ _ _ _,HS0⟩
         case round =>
          clear HE0 HS0 HB HBr HMr HRAr HRBr HXr
          (try rename World=>wr)
          obtain⟨m,va2,rfl,hm2,HB,HE,HO,HBr⟩:=hrel;have hzr:=lt_of_block HB.out;have HBwr:Hid (Below w.heap.size w wr):=HBw8.out.trans (HBr.out.mono (by omega));have hell:=HALl.out m;obtain⟨vb,vd,hv,hsl⟩:=HO.out.slice (by omega);obtain⟨L2,HL2⟩:∃L2,Hid ((AL m).length=L2):=⟨_,rfl⟩;rw[HL2.out]at hv hell;subst hv;have HVo:Hid (∀j,(Value.slice vb L2 vd).ownBlock=some j->Bo+1<=j/\j<wr.heap.size):=zq HO.out;have HMr:Hid (xH wr Tryz.prog 3 wc.heap.size (yp A Z st) (XK A Z st)):=HM8.out.belowB HBr.out hmlt;have HRAr:Hid (xx wr bA A):=(HBr.out.block _ hAlt).trans HRA8.out;clear hsl;by_cases hlt:m<n.accept.length
          ·obtain⟨bf,of,hfa⟩:=HCA.out.resolve_left (by omega);subst hfa;have g0:=za HBwr.out _ _ (zc _ _ (HXC.out.get rfl hlt));rw[List.getD_eq_getElem?_getD,List.getElem?_eq_getElem hlt,Option.getD_some]at g0;have HS:=Lib.hid (HALs.out m hlt);obtain⟨x0,x1⟩:=HAc.out _ (List.getElem_mem hlt);generalize (n.accept[m]'hlt)=y at g0 HS x0 x1;obtain⟨s,rfl⟩:=Int.eq_ofNat_of_zero_le x0;simp only[Int.toNat_natCast]at HS;have hs:s<st:=by omega
           have cA:=HRAr.out.cell (i:=s) (by rw[HAl.out.1];exact hs);have HF1:=Lib.hid (zaa A Z hs);have HK1:=HAk.out s;generalize hk1:yd A Z s=k1 at HF1 HS HK1;generalize hA1:A.getD s false=a1 at cA HK1;clear hk1 hA1;have hgo:(k1=true/\a1=true)\/k1=false:=by cases k1<;>cases a1<;>simp at HK1⊢
           clear HK1;rcases hgo with ⟨rfl,rfl⟩|rfl
           ·rw[if_pos rfl]at HF1;have HS':Hid (AL (m+1)=AL m++[(yp A Z s:Int)]):=by show _=_;rw[HS.out];rfl
            obtain⟨-,-,i2⟩:=zo HB.out;have f2:wr.frozen? ⟨Bo,2,none⟩=false:=by have:=HB.out;simp[World.frozen?,this]
            have I2:∀o,(wr.alloc o).cell? ⟨Bo,2,none⟩=some (.slice vb L2 vd):=λo=>Lib.cell?_alloc_some _ i2;clear HS
            go_wp2_with (first
             |(at_lookup;refine xh _ rfl _ _ 99 3 rfl zT (by kernel_rfl) (yD _) rfl HMr.out _ _ rfl (yK (i:=s) (by omega)) _ HF1.out ?_)
             |(at_lookup;refine xd _ rfl _ _ 99 3 rfl zT (by kernel_rfl) (yD _) rfl HMr.out _ _ rfl (yK (i:=s) (by omega)) HF1.out ?_)
             |(at_builtin;go_must (refine yr (E:=inE) zeN _ rfl (.tmp 166) (.tmp 168) rfl q (Bo+1) _ rfl HO.out (yp A Z s:Int) [.int .i64 (yp A Z s:Int)] rfl _ _ rfl rfl L2 HL2.out (by omega) (by omega) ?_)))
            intro g9 cap9 w7 ho hg hat
            have hbg:w7.heap[Bo]? = some (.cells #[.int .i64 (yp A Z st:Nat),.slice va L vc,.slice vb L2 vd] 33 (0,0)):=(hg.block _ hzr λe=>by have:=(HVo.out _ e.symm).1;omega).trans HB.out;obtain⟨-,-,i3⟩:=zo hbg;have f3:w7.frozen? ⟨Bo,2,none⟩=false:=by simp[World.frozen?,hbg]
            have hgg:=(zq ho g9 rfl).1;have hq2:q Bo=true:=(Q.out _).2 (Or.inr (Or.inr rfl));have HO9:Hid (inE.Own 3 q (w7.setCell ⟨Bo,2,none⟩ (.slice (some ⟨g9,0,none⟩) (L2+1) cap9)) (Bo+1) (.slice (some ⟨g9,0,none⟩) (L2+1) cap9) (AL (m+1))):=by show inE.Own _ _ _ _ _ _;rw[HS'.out];exact yF hq2 (λe=>by have:=Option.some.inj e;simp only at this;omega) ho
            have HZ9:Hid ((w7.setCell ⟨Bo,2,none⟩ (.slice (some ⟨g9,0,none⟩) (L2+1) cap9)).heap[Bo]? = some (.cells #[.int .i64 (yp A Z st:Nat),.slice va L vc,.slice (some ⟨g9,0,none⟩) (L2+1) cap9] 33 (0,0))):=by show _=_;rw[heap_setCell_same _ Bo 2 _ _ _ hbg];rfl
            have HB9:Hid (Below Bo W8 (w7.setCell ⟨Bo,2,none⟩ (.slice (some ⟨g9,0,none⟩) (L2+1) cap9))):=(HBr.out.grown hg (by omega) λj hj=>by have:=(HVo.out j hj).1;omega).setCell (Nat.le_refl _) _;have HE9:Hid (edE.In (World.hide (w7.setCell ⟨Bo,2,none⟩ (.slice (some ⟨g9,0,none⟩) (L2+1) cap9)) (hid q (.slice (some ⟨g9,0,none⟩) (L2+1) cap9))) (EL n.edges.length) va vc):=(HE.out.keep (yE hg (λj hj=>ze.2 (Or.inr hj)) λj hj h=>by
             rcases ze.1 h with h|h
             ·exact ze.2 (Or.inl h)
             ·have e:=Option.some.inj h;simp only at e;subst e;rcases hat with h2|h2
              ·exact ze.2 (Or.inr h2)
              ·omega)).keep (zj (ze.2 (Or.inl hq2)))
            clear ho hg hat hbg hgg;go_wp2_with fail;go_roundw;case rel=>exact⟨m+1,_,by go_num,by omega,HZ9.out,HE9.out,HO9.out,HB9.out⟩
            case measure=>(simp[intOf];try omega)
           ·rw[if_neg (by decide)]at HF1;have HS':Hid (AL (m+1)=AL m):=by show _=_;rw[HS.out];simp
            have HOn:Hid (inE.Own 3 q wr (Bo+1) (.slice vb L2 vd) (AL (m+1))):=by show inE.Own _ _ _ _ _ _;rw[HS'.out];exact HO.out
            clear HS HS'
            go_wp2_with (first
             |(at_lookup;refine xh _ rfl _ _ 99 3 rfl zT (by kernel_rfl) (yD _) rfl HMr.out _ _ rfl (yK (i:=s) (by omega)) _ HF1.out ?_)
             |(at_lookup;refine xd _ rfl _ _ 99 3 rfl zT (by kernel_rfl) (yD _) rfl HMr.out _ _ rfl (yK (i:=s) (by omega)) HF1.out ?_))
            go_roundw;case rel=>exact⟨m+1,_,by go_num,by omega,HB.out,HE.out,HOn.out,HBr.out⟩
            case measure=>(simp[intOf];try omega)
          ·obtain rfl:m=n.accept.length:=by omega
           obtain⟨a'',c'',hv',hin⟩:=HO.out.sliceR (by rw[HL2.out];omega) (λ_ h=>h) HQl.out;rw[HL2.out]at hv';injection hv' with e1 e2 e3;subst e1 e3;have HC9:=Lib.hid (qR.1 hin);have hy:wr.heap[w.heap.size+1]? = some (.cells #[.int .i64 0,.slice none 0 0,.slice none 0 0] 33 (0,0)):=(HBr.out.block _ (by omega)).trans HY8.out;obtain⟨z0,z1,z2⟩:=zo HB.out;obtain⟨r0,r1,r2⟩:=zo hy;have r0f:wr.frozen? ⟨w.heap.size+1,0,none⟩=false:=by simp[World.frozen?,hy]
           have r1f:wr.frozen? ⟨w.heap.size+1,1,none⟩=false:=by simp[World.frozen?,hy]
           have r2f:wr.frozen? ⟨w.heap.size+1,2,none⟩=false:=by simp[World.frozen?,hy]
           have HYe:=Lib.hid hy;clear hy hin;go_wp2_with fail;refine bodyPost_ret (v:=.agg #[.int .i64 (yp A Z st:Nat),.slice va L vc,.slice vb L2 vd]) (zfa _ rfl _ _ (w.heap.size+1) _ _ _ (zdQ HYe.out) rfl) rfl ?_;have hq1:q (w.heap.size+1)=true:=(Q.out _).2 (Or.inr (Or.inl rfl));have hkp:∀(s:Nat->Bool) (u0 u1 u2:Value),(∀j,q j=true->s j=true)->Kp (World.hide wr s) (World.hide (((wr.setCell ⟨w.heap.size+1,0,none⟩ u0).setCell ⟨w.heap.size+1,1,none⟩ u1).setCell ⟨w.heap.size+1,2,none⟩ u2) p):=λs u0 u1 u2 hs =>
            Kp.trans (zj (hs _ hq1)) (Kp.trans (zj (hs _ hq1)) (Kp.trans (zj (hs _ hq1)) (zB λj hj=>hs _ ((Q.out j).2 (Or.inl hj)))))
           have hE1:=HE.out.keep (hkp _ (.int .i64 (yp A Z st:Nat)) (.slice va L vc) (.slice vb L2 vd) λj hj=>ze.2 (Or.inl hj));have hC1:=IntsIn.keep (hkp _ (.int .i64 (yp A Z st:Nat)) (.slice va L vc) (.slice vb L2 vd) λ_ h=>h) HC9.out;have hF:=HY.out (((wr.setCell ⟨w.heap.size+1,0,none⟩ (.int .i64 (yp A Z st:Nat))).setCell ⟨w.heap.size+1,1,none⟩ (.slice va L vc)).setCell ⟨w.heap.size+1,2,none⟩ (.slice vb L2 vd)) ⟨va,vc,vb,vd⟩ (by rw[HA.out,HZ.out];exact⟨by rw[←HELe.out];exact hE1,by rw[←HALe.out];exact hC1⟩) (((HBwr.out.setCell (by simp) _).setCell (by simp) _).setCell (by simp) _);rw[HA.out,HZ.out,←HELe.out,←HALe.out,HL.out,HL2.out]at hF;simp only[y7,HSt.out,Int.toNat_natCast]at hF;exact hF
end Go.Proofs.YtnfkbliokjjggaaGreatDoor
