/- nfa.value. -/
import Derived.Test.YtnfkbliokjjggaaGreatDoorH26
import Derived.Test.YtnfkbliokjjggaaGreatDoorH10
import Derived.Test.YtnfkbliokjjggaaGreatDoorH04
import Derived.Test.YtnfkbliokjjggaaGreatDoorH17
set_option maxHeartbeats 8000000
set_option maxRecDepth 100000
set_option linter.unusedSimpArgs false
set_option linter.unusedVariables false
set_option linter.unnecessarySimpa false
namespace Go.Proofs.YtnfkbliokjjggaaGreatDoor
open Go.RowKit
attribute [local go_sem ↓] Go.wp_at_zero Go.wp_at_succ
def x9:Nat->Bool:=λ_=>false
theorem xC {w:World}:Kp w (World.hide w x9):=λ_ _ h=>zr.2 ⟨rfl,h⟩
theorem ziF {w w':World} {l:List ByteArray} {a:Option Addr} {cap:Nat} {row:Option Nat} (h:zM w l a cap) (hg:w.grownBy w' row) (hne:0<l.length->∀ad,a=some ad->row≠some ad.block):zM w' l a cap:=by
 refine⟨h.1,h.2.1,?_⟩;rcases h.2.2 with h0|⟨b,off,ha,hq⟩
 ·exact Or.inl h0
 ·refine Or.inr ⟨b,off,ha,λi hi=>?_⟩;obtain⟨s,h1,h2⟩:=hq i hi;have hb:b<w.heap.size:=block_lt_of_cell h2;exact⟨s,h1,(World.cell?_of_block (a:=⟨b,_,none⟩) (hg.block b hb (λe=>hne (by omega) _ ha e.symm))).trans h2⟩
def zfY (w:World) (bx:Obj) (L:List Sg) (ns:List ByteArray) (an:Option Addr) (cn:Nat) (v:Value) (wr:World):Prop :=
 sgE.Own 68 x9 wr (w.heap.size+1) v L/\wr.heap[w.heap.size]? = some bx/\Below w.heap.size w wr/\zM wr ns an cn/\∀ad,an=some ad->v.ownBlock≠some ad.block
theorem zfY.step {w:World} {bx:Obj} {L L':List Sg} {ns:List ByteArray} {an:Option Addr} {cn:Nat} {v v':Value} {wr w':World} {g:Nat} (h:zfY w bx L ns an cn v wr) (ho:sgE.Own 68 x9 w' (w.heap.size+1) v' L') (hg:wr.grownBy w' v.ownBlock) (hv:v'.ownBlock=some g) (hat:v.ownBlock=some g\/wr.heap.size<g) :
 sgE.Own 68 x9 w' (w.heap.size+1) v' L'/\w'.heap[w.heap.size]? = some bx/\Below w.heap.size w w'/\zM w' ns an cn/\(0<ns.length->∀ad,an=some ad->v'.ownBlock≠some ad.block):=by
 obtain⟨h1,h2,h3,h4,h5⟩:=h;have hlt:=zq h1;refine⟨ho,?_,Zp h3 hg h3.size λk hk=>by have:=(hlt k hk).1;omega,ziF h4 hg λ_=>h5,λhn ad ha e=>?_⟩
 ·rw[hg.block _ (lt_of_block h2) (λe=>by have:=(hlt _ e.symm).1;omega)];exact h2
 ·rw[hv]at e;have e2:=Option.some.inj e;rcases hat with h|h
  ·exact h5 ad ha (by rw[h,e2])
  ·rcases h4.2.2 with h0|⟨b,off,ha2,hq⟩
   ·omega
   ·obtain⟨s,_,h7⟩:=hq 0 hn;have hb:b<wr.heap.size:=block_lt_of_cell h7;rw[ha]at ha2;have:=Option.some.inj ha2;rw[this]at e2;simp only at e2;omega
theorem zaV (ops:List Int) (e:Ex):(zG ops e).length<=e.nodes.length:=by have:=Zg ops e.nodes [];unfold zG;simpa using this
theorem ziK (e:Ex) (loc env:List Sg):Yt e loc env=(qU ((loc++env++(zG [2] e).map λs=>(s,(0:Int)))++(zG [3,24] e).map λs=>(s++(⟨#[91,48,93]⟩:ByteArray),(0:Int))) e).1:=by unfold Yt zi5;rw[List.append_assoc (loc++env)]
theorem Qu (x:Ex) (loc env:List Sg) (ax:Option Addr) (cx:Nat) (al:Option Addr) (cl:Nat) (ae:Option Addr) (ce:Nat) (w:World) (hG:qW w) (hX:yA w x ax cx) (hn:x.nodes.length<=1000000) (hL:sgE.In w loc al cl) (hE:sgE.In w env ae ce) (hl:loc.length<=100000) (he:env.length<=100000) :
 Calls Tryz.prog 127 #[.agg #[.int .i64 x.op,.int .i64 x.n,.string x.name,.slice ax x.args.length cx],.slice al loc.length cl,.slice ae env.length ce] w λe w'=>e=.returned (.int .i64 (Yt x loc env))/\Below w.heap.size w w':=by
 rw[ziK];have hn2:=zaV [2] x;have hn3:=zaV [3,24] x;have HNm:Hid (∀W,Below w.heap.size w W->Calls Tryz.prog 200 #[.agg #[.int .i64 x.op,.int .i64 x.n,.string x.name,.slice ax x.args.length cx]] W λe w'=>(∃a' c',e=.returned (.slice a' (zG [2] x).length c')/\zM w' (zG [2] x) a' c'/\∀p:Addr,a'=some p->W.heap.size<=p.block)/\Below W.heap.size W w'):=λW hW=>by have h2:=hX.keep (za hW);have h3:=hn;clear hX hn hn2 hn3;obtain⟨op,n,nm,args⟩:=x;exact zcU op n nm args ax cx W h2 (by omega)
 have HAr:Hid (∀W,Below w.heap.size w W->Calls Tryz.prog 201 #[.agg #[.int .i64 x.op,.int .i64 x.n,.string x.name,.slice ax x.args.length cx]] W λe w'=>(∃a' c',e=.returned (.slice a' (zG [3,24] x).length c')/\zM w' (zG [3,24] x) a' c'/\∀p:Addr,a'=some p->W.heap.size<=p.block)/\Below W.heap.size W w'):=λW hW=>by have h2:=hX.keep (za hW);have h3:=hn;clear hX hn hn2 hn3;obtain⟨op,n,nm,args⟩:=x;exact zbr op n nm args ax cx W h2 (by omega)
 have HEv:Hid (∀l a c W,Below w.heap.size w W->sgE.In W l a c->Calls Tryz.prog 202 #[.agg #[.int .i64 x.op,.int .i64 x.n,.string x.name,.slice ax x.args.length cx],.slice a l.length c] W λe w'=>e=.returned (.tuple #[.int .i64 (qU l x).1,.int .i64 (qU l x).2])/\Below W.heap.size W w'):=λl a c W hW hl=>by have h2:=hX.keep (za hW);have h3:=hn;clear hX hn hn2 hn3;obtain⟨op,n,nm,args⟩:=x;exact zgm l a c op n nm args ax cx W (hG.below hW) (Zm.1 hl) h2 (by omega)
 have HSz:Hid (∀s∈zG [3,24] x,s.size<=1073741824):=YD hX [3,24];generalize zG [2] x=A at HNm hn2⊢;generalize zG [3,24] x=C at HAr hn3 HSz⊢;have HPo:Hid (∀W,Below w.heap.size w W->(λ(e:Ending) (w':World)=>e=.returned (.int .i64 (qU ((loc++env++A.map λs=>(s,(0:Int)))++C.map λs=>(s++(⟨#[91,48,93]⟩:ByteArray),(0:Int))) x).1)/\Below w.heap.size w w') (.returned (.int .i64 (qU ((loc++env++A.map λs=>(s,(0:Int)))++C.map λs=>(s++(⟨#[91,48,93]⟩:ByteArray),(0:Int))) x).1)) W):=λW hW=>⟨rfl,hW⟩;generalize (λ(e:Ending) (w':World)=>e=.returned (.int .i64 (qU ((loc++env++A.map λs=>(s,(0:Int)))++C.map λs=>(s++(⟨#[91,48,93]⟩:ByteArray),(0:Int))) x).1)/\Below w.heap.size w w')=Po at HPo⊢;have HL:=Lib.hid hL;have HE:=Lib.hid hE;clear hX hL hE hG;go_enter Tryz.func127, Tryz.ntmps127;go_wp2_with fail;refine(zgf x9 loc env al ae cl ce (w.heap.size+1) _ (ZS (by simp)).1 (ZS (by simp)).2 ((HL.out.keep (za bel)).keep xC) ((HE.out.keep (za bel)).keep xC) (by simp;omega)).mono ?_;rintro e w3 ⟨⟨v,rfl,ho⟩,hb⟩;have hx1:((w.alloc (.cells #[.int .i64 x.op,.int .i64 x.n,.string x.name,.slice ax x.args.length cx] 24)).alloc (.cells #[.slice al loc.length cl,.slice ae env.length ce] 69)).heap[w.heap.size]? = some (.cells #[.int .i64 x.op,.int .i64 x.n,.string x.name,.slice ax x.args.length cx] 24 (0,0)):=zl (zh rfl)
 have HX3:Hid (w3.heap[w.heap.size]? = some (.cells #[.int .i64 x.op,.int .i64 x.n,.string x.name,.slice ax x.args.length cx] 24 (0,0))):=(hb.block _ (by simp;omega)).trans hx1;have HB3:Hid (Below w.heap.size w w3):=Below.trans (bel:Below w.heap.size w ((w.alloc (.cells #[.int .i64 x.op,.int .i64 x.n,.string x.name,.slice ax x.args.length cx] 24)).alloc (.cells #[.slice al loc.length cl,.slice ae env.length ce] 69))) (hb.mono (by simp;omega));have HO3:Hid (sgE.Own 68 x9 w3 (w.heap.size+1) v (loc++env)):=Zh ho (by simp);clear hb ho hx1;obtain⟨b0,b1,b2,b3⟩:=zR HX3.out;have HNm3:=Lib.hid (HNm.out w3 HB3.out);go_upto_region 3 with (go_at_call 200;go_must (refine HNm3.out.mono ?_;rintro e w4 ⟨⟨an,cn,rfl,hs4,hf4⟩,hb4⟩));have HR4:Hid (zfY w (.cells #[.int .i64 x.op,.int .i64 x.n,.string x.name,.slice ax x.args.length cx] 24 (0,0)) (loc++env++(A.take 0).map λs=>(s,(0:Int))) A an cn v w4):=by
  refine⟨?_,(hb4.block _ (lt_of_block HX3.out)).trans HX3.out,HB3.out.trans (hb4.mono HB3.out.size),hs4,λad ha e=>?_⟩
  ·simpa using HO3.out.below hb4
  ·have h1:=hf4 ad ha;have h2:=(zq HO3.out _ e).2;omega
 have HAn:Hid (A.length=0\/∃b off,an=some ⟨b,off,none⟩):=zw.addr hs4;have HLn:Hid (∀m,m<=A.length->(loc++env++(A.take m).map λs=>(s,(0:Int))).length=loc.length+env.length+m):=λm hm=>by simp;omega
 have HLs:Hid (∀m (hm:m<A.length),(loc++env++(A.take (m+1)).map λs=>(s,(0:Int)))=(loc++env++(A.take m).map λs=>(s,(0:Int)))++[(A[m]'hm,0)]):=λm hm=>by rw[List.take_succ_eq_append_getElem hm,List.map_append,←List.append_assoc];rfl
 have HLe:Hid ((loc++env++(A.take A.length).map λs=>(s,(0:Int)))=loc++env++A.map λs=>(s,(0:Int))):=by show _=_;rw[List.take_length]
 clear hs4 hf4 hb4 HNm3 b0 b1 b2 b3 HX3 HB3 HO3 HNm;generalize hDL:(λm=>loc++env++(A.take m).map λs=>(s,(0:Int)))=DL;have hD:∀m,(loc++env++(A.take m).map λs=>(s,(0:Int)))=DL m:=λm=>by rw[←hDL]
 simp only[hD]at HR4 HLn HLs HLe;clear hD hDL;go_loopw [21,7,9] (λi u _ wr=>∃k:Nat,i=.int .i64 k/\k<=A.length/\Hid (zfY w (.cells #[.int .i64 x.op,.int .i64 x.n,.string x.name,.slice ax x.args.length cx] 24 (0,0)) (DL k) A an cn u wr)) (λi _ _ _=>A.length-(intOf i).toNat);case atStart=>exact⟨0,rfl,Nat.zero_le _,HR4.out⟩
 case round =>
  (try rename World=>wr)
  obtain⟨k,rfl,hk,HR⟩:=hrel;by_cases hlt:k<A.length
  ·obtain⟨bn,off,han⟩:=HAn.out.resolve_left (by omega);subst han;obtain⟨ho,hbx,hbr,hsn,hne⟩:=HR.out;have g0:=zM.get hsn rfl hlt;have HO:=Lib.hid ho;have HL0:=Lib.hid (HLn.out k hk);have HS1:=Lib.hid (HLs.out k hlt);have hzr:=lt_of_block hbx;clear ho hbx hbr hsn hne;generalize (A[k]'hlt)=s at g0 HS1;go_wp2_with (at_builtin;go_must (refine yr (E:=sgE) Xv _ rfl (.tmp 25) (.tmp 28) rfl x9 (w.heap.size+1) _ rfl HO.out (s,0) [.string s,.int .i64 0] rfl _ _ rfl rfl (loc.length+env.length+k) HL0.out (by omega) (by omega) ?_));intro g7 cap7 w7 ho7 hg7 hat7;obtain⟨q1,q2,q3,q4,q5⟩:=HR.out.step ho7 hg7 rfl hat7;have HR7:Hid (zfY w (.cells #[.int .i64 x.op,.int .i64 x.n,.string x.name,.slice ax x.args.length cx] 24 (0,0)) (DL (k+1)) A (some ⟨bn,off,none⟩) cn (.slice (some ⟨g7,0,none⟩) (loc.length+env.length+k+1) cap7) w7):=by
    show zfY _ _ _ _ _ _ _ _;rw[HS1.out];exact⟨q1,q2,q3,q4,q5 (by omega)⟩
   clear q1 q2 q3 q4 q5 ho7 hg7 hat7 g0;go_wp2_with fail;go_roundw;case rel=>exact⟨k+1,by go_num,by omega,HR7.out⟩
   case measure=>(simp[intOf];try omega)
  ·obtain rfl:k=A.length:=by omega
   obtain⟨ho,hbx,hbr,-,-⟩:=HR.out;have HO3:Hid (sgE.Own 68 x9 wr (w.heap.size+1) u7 (loc++env++A.map λs=>(s,(0:Int)))):=by show sgE.Own _ _ _ _ _ _;rw[←HLe.out];exact ho
   have HX3:=Lib.hid hbx;have HB3:=Lib.hid hbr;obtain⟨b0,b1,b2,b3,-⟩:=zR hbx;have HAr3:=Lib.hid (HAr.out wr hbr);clear ho hbx hbr HR HLe HLs HLn;generalize hBL:(loc++env++A.map λs=>(s,(0:Int)))=BL at HO3 HPo;have HBL:Hid (BL.length=loc.length+env.length+A.length):=by show _=_;rw[←hBL];simp;omega
   clear hBL;go_upto_region 8 with (go_at_call 201;go_must (refine HAr3.out.mono ?_;rintro e w4 ⟨⟨aq,cq,rfl,hs4,hf4⟩,hb4⟩));have HR4:Hid (zfY w (.cells #[.int .i64 x.op,.int .i64 x.n,.string x.name,.slice ax x.args.length cx] 24 (0,0)) (BL++(C.take 0).map λs=>(s++(⟨#[91,48,93]⟩:ByteArray),(0:Int))) C aq cq u7 w4):=by
    refine⟨?_,(hb4.block _ (lt_of_block HX3.out)).trans HX3.out,HB3.out.trans (hb4.mono HB3.out.size),hs4,λad ha e=>?_⟩
    rotate_left
    ·have h1:=hf4 ad ha;have h2:=(zq HO3.out _ e).2;omega
    ·simpa using HO3.out.below hb4
   have HCn:Hid (C.length=0\/∃b off,aq=some ⟨b,off,none⟩):=zw.addr hs4;have HLn:Hid (∀m,m<=C.length->(BL++(C.take m).map λs=>(s++(⟨#[91,48,93]⟩:ByteArray),(0:Int))).length=BL.length+m):=λm hm=>by simp;omega
   have HLs:Hid (∀m (hm:m<C.length),(BL++(C.take (m+1)).map λs=>(s++(⟨#[91,48,93]⟩:ByteArray),(0:Int)))=(BL++(C.take m).map λs=>(s++(⟨#[91,48,93]⟩:ByteArray),(0:Int)))++[(C[m]'hm++(⟨#[91,48,93]⟩:ByteArray),0)]):=λm hm=>by rw[List.take_succ_eq_append_getElem hm,List.map_append,←List.append_assoc];rfl
   have HLe:Hid ((BL++(C.take C.length).map λs=>(s++(⟨#[91,48,93]⟩:ByteArray),(0:Int)))=BL++C.map λs=>(s++(⟨#[91,48,93]⟩:ByteArray),(0:Int))):=by show _=_;rw[List.take_length]
   clear hs4 hf4 hb4 HAr3 b0 b1 b2 b3 HX3 HB3 HO3 HAr;generalize hDM:(λm=>BL++(C.take m).map λs=>(s++(⟨#[91,48,93]⟩:ByteArray),(0:Int)))=DM;have hD:∀m,(BL++(C.take m).map λs=>(s++(⟨#[91,48,93]⟩:ByteArray),(0:Int)))=DM m:=λm=>by rw[←hDM]
   simp only[hD]at HR4 HLn HLs HLe;clear hD hDM;go_loopw [34,7,11] (λi u _ wr=>∃k:Nat,i=.int .i64 k/\k<=C.length/\Hid (zfY w (.cells #[.int .i64 x.op,.int .i64 x.n,.string x.name,.slice ax x.args.length cx] 24 (0,0)) (DM k) C aq cq u wr)) (λi _ _ _=>C.length-(intOf i).toNat);case atStart=>exact⟨0,rfl,Nat.zero_le _,HR4.out⟩
   case round =>
    (try rename World=>wv)
    obtain⟨k,rfl,hk,HR⟩:=hrel;by_cases hlt:k<C.length
    ·obtain⟨bn,off,han⟩:=HCn.out.resolve_left (by omega);subst han;obtain⟨ho,hbx,hbr,hsn,hne⟩:=HR.out;have g0:=zM.get hsn rfl hlt;have HO:=Lib.hid ho;have HL0:=Lib.hid (HLn.out k hk);have HS1:=Lib.hid (HLs.out k hlt);have hzr:=lt_of_block hbx;have hss:=HSz.out _ (List.getElem_mem hlt);clear ho hbx hbr hsn hne;generalize (C[k]'hlt)=s at g0 HS1 hss;have hs3:¬(9223372036854775807<s.size+3):=by omega
     go_wp2_with (at_builtin;go_must (refine yr (E:=sgE) Xv _ rfl (.tmp 38) (.tmp 42) rfl x9 (w.heap.size+1) _ rfl HO.out (s++(⟨#[91,48,93]⟩:ByteArray),0) [.string (s++(⟨#[91,48,93]⟩:ByteArray)),.int .i64 0] rfl _ _ rfl rfl (BL.length+k) HL0.out (by have:=HBL.out;omega) (by omega) ?_));intro g7 cap7 w7 ho7 hg7 hat7;obtain⟨q1,q2,q3,q4,q5⟩:=HR.out.step ho7 hg7 rfl hat7;have HR7:Hid (zfY w (.cells #[.int .i64 x.op,.int .i64 x.n,.string x.name,.slice ax x.args.length cx] 24 (0,0)) (DM (k+1)) C (some ⟨bn,off,none⟩) cq (.slice (some ⟨g7,0,none⟩) (BL.length+k+1) cap7) w7):=by show zfY _ _ _ _ _ _ _ _;rw[HS1.out];exact⟨q1,q2,q3,q4,q5 (by omega)⟩
     clear q1 q2 q3 q4 q5 ho7 hg7 hat7 g0;go_wp2_with fail;go_roundw;case rel=>exact⟨k+1,by go_num,by omega,HR7.out⟩
     case measure=>(simp[intOf];try omega)
    ·obtain rfl:k=C.length:=by omega
     obtain⟨ho,hbx,hbr,-,-⟩:=HR.out;rw[HLe.out]at ho;have HPo2:Hid (∀W,Below w.heap.size w W->Po (.returned (.int .i64 (qU (BL++C.map λs=>(s++(⟨#[91,48,93]⟩:ByteArray),(0:Int))) x).1)) W):=HPo.out;have hel:(BL++C.map λs=>(s++(⟨#[91,48,93]⟩:ByteArray),(0:Int))).length<=1073741824:=by have:=HBL.out;simp;omega
     clear HPo HLs HLn HLe;generalize (BL++C.map λs=>(s++(⟨#[91,48,93]⟩:ByteArray),(0:Int)))=EL at ho HPo2 hel;obtain⟨av,cv,rfl,hin⟩:=ho.slice hel;have HEv3:=Lib.hid (HEv.out EL av cv wv hbr hin);have HB3:=Lib.hid hbr;obtain⟨b0,b1,b2,b3,-⟩:=zR hbx;clear ho hbx hbr HR hin;go_wp2_with (go_at_call 202;go_must (refine HEv3.out.mono ?_;rintro e w5 ⟨rfl,hb5⟩));have HF:=Lib.hid (HPo2.out _ (HB3.out.trans (hb5.mono HB3.out.size)));first|exact HF.out|(go_ret;exact HF.out)
end Go.Proofs.YtnfkbliokjjggaaGreatDoor
