/- tseq.fold at numbers and at lists of names. -/
import Derived.Test.YthojpomoflhbcaaGreatDoorQ06
import Derived.Laws.OwnMore
import Derived.Test.YthojpomoflhbcaaGreatDoorRows
import Derived.Lib.SmallJoins
import Derived.Deep.Slices
import Derived.Test.YthojpomoflhbcaaGreatDoorCards
import Derived.Test.YthojpomoflhbcaaGreatDoorTie
import Derived.WalkKit
import Derived.ProofKit
import Derived.OpenShut
import Derived.Carry
import Derived.SliceStrings
import Derived.JoinedCond
import Derived.SevenTiedAt
import Derived.Deep.DeepHandedRow
import Derived.Deep.DeepWitnessRowRef
import Derived.Lib.LaidIn
import Derived.Shelf.Vars
set_option maxHeartbeats 8000000
set_option maxRecDepth 100000
set_option linter.unusedSimpArgs false
set_option linter.unusedVariables false
set_option linter.unnecessarySimpa false
namespace Go.Proofs.YthojpomoflhbcaaGreatDoor
open Go.RowKit
attribute [local go_sem ↓] Go.wp_at_zero Go.wp_at_succ
def stR (_:World) (s:ByteArray) (vs:List Value):Prop:=vs=[.string s]
def stE:Enc ByteArray where
 sz:=1
 R:=stR
 pos:=by decide
 len:=by rintro _ _ _ rfl;rfl
 keep:=by rintro _ _ _ _ _ h;exact h
 one:=by rintro _ _ _ rfl v hv;simp at hv;subst hv;rfl
theorem zkN {w:World} {s:ByteArray} {b o:Nat}:stE.At w s b o<->w.cell? ⟨b,o,none⟩=some (.string s):=by
 constructor
 ·rintro ⟨vs,rfl,hc⟩;exact hc 0 _ rfl
 ·intro h0;refine⟨_,rfl,λj v hv=>?_⟩
  match j with
  |0=>simp at hv;subst hv;exact h0
  |j+1=>simp at hv
theorem zig {w:World} {l:List ByteArray} {a:Option Addr} {cap:Nat}:stE.In w l a cap<->zE w l a cap :=
 ⟨λh=>h.mono λ_ _ _ _ ⟨x,h1,h2⟩=>⟨x,h1,zkN.1 h2⟩,λh=>h.mono λ_ _ _ _ ⟨x,h1,h2⟩=>⟨x,h1,zkN.2 h2⟩⟩
def slR (w:World) (l:List ByteArray) (vs:List Value):Prop:=∃a cap,vs=[.slice a l.length cap]/\zE w l a cap
def slE:Enc (List ByteArray) where
 sz:=1
 R:=slR
 pos:=by decide
 len:=by rintro _ _ _ ⟨_,_,rfl,_⟩;rfl
 keep:=by rintro _ _ _ _ hk ⟨a,cap,rfl,h⟩;exact⟨a,cap,rfl,h.keep hk⟩
 one:=by rintro _ _ _ ⟨_,_,rfl,_⟩ v hv;simp at hv;subst hv;rfl
theorem zgZ:Elem Tryz.prog 31 3 1:=Elem.of Tryz.underlying31 (by kernel_rfl) (z:=.int .i64 0) (bytes:=8) rfl (by decide) (by decide)
theorem zkw:Elem Tryz.prog 51 9 1:=Elem.of Tryz.underlying51 (by kernel_rfl) (z:=.string .empty) (bytes:=16) rfl (by decide) (by decide)
theorem zkv:Elem Tryz.prog 249 51 1:=Elem.of Tryz.underlying249 (by kernel_rfl) (z:=.slice none 0 0) (bytes:=24) rfl (by decide) (by decide)
theorem zmP {P:Program} {t e:TypeId} {size:Nat} (he:Elem P t e size) (n:Nat) (hn:n<=1073741824):∃cur:Array Value,cur.size=n*size/\∀W:World,(Instr.makeSlice t (.int .i64 0) (.int .i64 (n:Int))).run P W=.ok (.slice (some ⟨W.heap.size,0,none⟩) 0 n) (W.alloc (.cells cur e)):=by
 obtain⟨ht,i,z,bytes,hi,hz,hsz,hby,hzs,h0,hb⟩:=he;have hbb:(i.bytes:Int)*(n:Int)<=281474976710656:=by
  have:i.bytes*n<=1024*1073741824:=by rw[hby];exact Nat.mul_le_mul hb hn
  rw[←Int.natCast_mul];omega
 refine⟨madeCells z.cells (n*size),size_madeCells _ _,λW=>?_⟩;have hrun:=run_make (P:=P) W t e i z ht hi hz .i64 .i64 0 n (Int.le_refl _) (by omega) hbb (by omega);simp only[Int.toNat_natCast,hsz,Int.toNat_zero]at hrun;exact hrun
theorem Yq (s:Tq):1<=s.nodes:=by rw[Tq.nodes_eq];omega
theorem zl3 {l:List Nat} {k:Nat} (h:k∈l):k<=l.sum:=by
 induction l with
 |nil=>cases h
 |cons a l ih =>
  rw[List.sum_cons];rcases List.mem_cons.1 h with rfl|h
  ·omega
  ·have:=ih h;omega
theorem xY {s x:Tq} (h:x∈s.args):x.nodes<s.nodes:=by rw[Tq.nodes_eq s];have:=zl3 (List.mem_map.2 ⟨x,h,rfl⟩:x.nodes∈s.args.map Tq.nodes);omega
theorem Zu {w:World} {b o:Nat} {s:Tq} {ae:Option Addr} {ce:Nat} {a:Option Addr} {cap:Nat} (h:∀(j:Nat) (v:Value),(y9 s ae ce a cap)[j]? = some v->w.cell? ⟨b,o+j,none⟩=some v) :
 w.cell? ⟨b,o,none⟩=some (.int .i64 s.op)/\w.cell? ⟨b,o+1,none⟩=some (.int .i64 s.lo)/\w.cell? ⟨b,o+2,none⟩=some (.int .i64 s.hi)/\w.cell? ⟨b,o+3,none⟩=some (.int .i64 s.expr.op)/\w.cell? ⟨b,o+4,none⟩=some (.int .i64 s.expr.n) /\
 w.cell? ⟨b,o+5,none⟩=some (.string s.expr.name)/\w.cell? ⟨b,o+6,none⟩=some (.slice ae s.expr.args.length ce)/\w.cell? ⟨b,o+7,none⟩=some (.string s.name)/\w.cell? ⟨b,o+8,none⟩=some (.slice a s.args.length cap) :=
 ⟨h 0 _ rfl,h 1 _ rfl,h 2 _ rfl,h 3 _ rfl,h 4 _ rfl,h 5 _ rfl,h 6 _ rfl,h 7 _ rfl,h 8 _ rfl⟩
def ye (s:Tq) (ae:Option Addr) (ce:Nat) (a:Option Addr) (cap:Nat):Obj:=.cells #[.int .i64 s.op,.int .i64 s.lo,.int .i64 s.hi,.int .i64 s.expr.op,.int .i64 s.expr.n,.string s.expr.name,.slice ae s.expr.args.length ce,.string s.name,.slice a s.args.length cap] 27 (0,0)
theorem zt {w:World} {b:Nat} {z0 z1 z2 z3 z4 z5 z6 z7 z8:Value} {t:TypeId} (h:w.heap[b]? = some (.cells #[z0,z1,z2,z3,z4,z5,z6,z7,z8] t (0,0))):w.cell? ⟨b,0,none⟩=some z0/\w.cell? ⟨b,1,none⟩=some z1/\w.cell? ⟨b,2,none⟩=some z2/\w.cell? ⟨b,3,none⟩=some z3/\w.cell? ⟨b,4,none⟩=some z4/\w.cell? ⟨b,5,none⟩=some z5/\w.cell? ⟨b,6,none⟩=some z6/\w.cell? ⟨b,7,none⟩=some z7/\w.cell? ⟨b,8,none⟩=some z8:=by refine⟨?_,?_,?_,?_,?_,?_,?_,?_,?_⟩<;>(rw[zc h];rfl)
theorem Yj {τ:Type} {E:Enc τ} {t:TypeId} {p:Nat->Bool} {w:World} {B B':Nat} {v:Value} {l:List τ} (h:E.Own t p w B v l) (hB:B'<=B):E.Own t p w B' v l:=by obtain⟨xs,h1,h2⟩:=h;refine⟨xs,⟨h1.1,h1.2.imp id ?_⟩,h2⟩;rintro ⟨g,cap,cur,q1,q2,q3⟩;exact⟨g,cap,cur,q1,by omega,q3⟩
theorem zo (s:Tq) (ae:Option Addr) (ce:Nat) (a:Option Addr) (cap:Nat):ym s ae ce a cap=.agg #[.int .i64 s.op,.int .i64 s.lo,.int .i64 s.hi,.int .i64 s.expr.op,.int .i64 s.expr.n,.string s.expr.name,.slice ae s.expr.args.length ce,.string s.name,.slice a s.args.length cap]:=rfl
def zb2 {τ:Type} (E:Enc τ) (p:Nat->Bool) (r:τ) (w:World) (e:Ending) (w':World):Prop:=(∃u,e=.returned u/\E.R (World.hide w' p) r [u])/\Below w.heap.size w w'
def zgq {τ:Type} (E:Enc τ) (t:TypeId) (g:FuncId) (F:Tq->τ):Prop:=∀(p:Nat->Bool) (B:Nat) (s:Tq) (ae:Option Addr) (ce:Nat) (a:Option Addr) (cap:Nat) (v:Value) (W:World),E.Own t p W B v (s.args.map F)->(∀j,p j=true->j<B)->B<=W.heap.size->s.nodes<=1000000000->s.args.length<=1073741824 ->
 Calls Tryz.prog g #[ym s ae ce a cap,v] W λe w'=>(∃u,e=.returned u/\E.R (World.hide w' p) (F s) [u])/\Below B W w'
theorem zcn (g:FuncId) (eg:∀args w,(callFunc g args).run Tryz.prog w=.ok (.enter g args) w) (F:Tq->Int) (hC:zgq inE 3 g F) (s:Tq) :
 ∀(p:Nat->Bool) (ae:Option Addr) (ce:Nat) (a:Option Addr) (cap:Nat) (w:World),Zr (World.hide w p) s ae ce a cap->(∀j,p j=true->j<w.heap.size)->s.nodes<=1000000000 ->
  Calls Tryz.prog 130 #[ym s ae ce a cap,.func (.func g) #[] #[]] w (zb2 inE p (F s) w):=by
 induction s using Tq.ind with
 |h s ih =>
  intro p ae ce a cap w hX hp hn;have HIH:Hid (∀k (hk:k<s.args.length),∀(q:Nat->Bool) (ae:Option Addr) (ce:Nat) (a:Option Addr) (cap:Nat) (W:World),Zr (World.hide W q) (s.args[k]'hk) ae ce a cap->(∀j,q j=true->j<W.heap.size)->Calls Tryz.prog 130 #[ym (s.args[k]'hk) ae ce a cap,.func (.func g) #[] #[]] W (zb2 inE q (F (s.args[k]'hk)) W)):=λk hk q ae ce a cap W h1 h2=>ih _ (List.getElem_mem hk) q ae ce a cap W h1 h2 (Nat.le_trans (Nat.le_of_lt (xY (List.getElem_mem hk))) hn);have hlen:=hX.ar.2.1;have HA:=Lib.hid hX.ar;have HAd:Hid (s.args.length=0\/∃b off,a=some ⟨b,off,none⟩):=zr.addr hX.ar;have HCl:Hid (∀(v:Value) (W:World),inE.Own 3 p W w.heap.size v (s.args.map F)->Below w.heap.size w W->Calls Tryz.prog g #[ym s ae ce a cap,v] W λe w'=>∃u,e=.returned u/\zb2 inE p (F s) w (.returned u) w'):=λv W h1 h2=>(hC p w.heap.size s ae ce a cap v W h1 hp h2.size hn hlen).mono λe w' h=>by obtain⟨⟨u,h3,h4⟩,h5⟩:=h;exact⟨u,h3,⟨u,rfl,h4⟩,h2.trans h5⟩
  have Hp:=Lib.hid hp;clear hX hC hp ih hn;generalize zb2 inE p (F s) w=Po at HCl⊢;have HFLl:Hid ((s.args.map F).length=s.args.length):=List.length_map _;have HFLg:Hid (∀k (hk:k<s.args.length) (h:k<(s.args.map F).length),(s.args.map F)[k]'h=F (s.args[k]'hk)):=λk hk h=>List.getElem_map _;generalize s.args.map F=FL at HCl HFLl HFLg;obtain⟨cur,hcur,hmk⟩:=zmP zgZ s.args.length hlen;rw[zo]at HCl⊢;go_enter Tryz.func130, Tryz.ntmps130;go_wp2_with fail;generalize hW2:World.alloc (World.alloc w _) _=W2;have hz2:w.heap.size+2<=W2.heap.size:=by rw[←hW2];simp
  have hz2b:W2.heap.size<=w.heap.size+2:=by rw[←hW2];simp
  have HB2:Hid (Below w.heap.size w W2):=by show Below _ _ _;rw[←hW2];exact((Below.refl _ _).alloc (Nat.le_refl _) _).alloc (by simp) _
  have HX2:Hid (W2.heap[w.heap.size]? = some (ye s ae ce a cap)):=by show _=_;rw[←hW2];exact zk (zh rfl)
  have HO2:Hid (inE.Own 3 p W2 (w.heap.size+1) (.slice (some ⟨w.heap.size+1,0,none⟩) 0 s.args.length) []):=by refine⟨[],?_,Enc.Vals.nil _⟩;rw[←hW2];have:=World.ownsRow_made (base:=w.heap.size+1) (e:=3) (size:=1) (w.alloc (ye s ae ce a cap)) cur s.args.length (by simp) (by unfold maxLen;omega) hcur;simp only[World.size_alloc]at this;exact this
  clear hW2 hcur hmk;obtain⟨-,-,-,-,-,-,-,-,b8⟩:=zt HX2.out;go_wp2_with fail;clear b8;go_loopw [15,5,7] (λi v _ wr=>∃(k:Nat),i=.int .i64 k/\k<=s.args.length/\Hid (inE.Own 3 p wr (w.heap.size+1) v (FL.take k))/\Hid (wr.heap[w.heap.size]? = some (ye s ae ce a cap))/\Hid (Below w.heap.size w wr)) (λi _ _ _=>s.args.length-(intOf i).toNat);case atStart=>exact⟨0,rfl,Nat.zero_le _,HO2,HX2,HB2⟩
  case round =>
   obtain⟨k,rfl,hk,HO,HBx,HBr⟩:=hrel;have hzr:=lt_of_block HBx.out;have hzb:=HBr.out.size;have HLk:Hid ((FL.take k).length=k):=List.length_take_of_le (by rw[HFLl.out];exact hk);obtain⟨va,vc,hv,hsl⟩:=HO.out.slice (by rw[HLk.out];omega);rw[HLk.out]at hv;subst hv;have HVo:Hid (∀q,(Value.slice va k vc).ownBlock=some q->w.heap.size+1<=q/\q<wr.heap.size):=zl HO.out;by_cases hlt:k<s.args.length
   ·obtain⟨bE,oE,hEa⟩:=HAd.out.resolve_left (by omega);have HKp:Hid (Kp (World.hide w p) (World.hide wr (hid p (.slice va k vc)))):=zg HBr.out λj hj hq=>(ze.1 hq).elim id λe=>by have:=(HVo.out j e).1;omega
    have HA':Hid (qL (World.hide w p) s.args (some ⟨bE,oE,none⟩) cap):=by show qL _ _ _ _;rw[←hEa];exact HA.out
    obtain⟨xe,xc,xa,xk,gc,hX⟩:=(qL.keep HKp.out HA'.out).get rfl hlt;obtain⟨g0,g1,g2,g3,g4,g5,g6,g7,g8⟩:=Zu gc;have f0:=zb _ _ g0;have f1:=zb _ _ g1;have f2:=zb _ _ g2;have f3:=zb _ _ g3;have f4:=zb _ _ g4;have f5:=zb _ _ g5;have f6:=zb _ _ g6;have f7:=zb _ _ g7;have f8:=zb _ _ g8;have HC:=Lib.hid (λW (hW:Below wr.heap.size wr W)=>HIH.out k hlt (hid p (.slice va k vc)) xe xc xa xk W (hX.keep (zg hW λ_ _ h=>h)) λj hj=>(ze.1 hj).elim (λh=>by have:=Hp.out j h;have:=hW.size;omega) λe=>by have:=(HVo.out j e).2;have:=hW.size;omega);subst hEa;have HLx:Hid (FL.take k++[F (s.args[k]'hlt)]=FL.take (k+1)):=by show _=_;rw[List.take_succ_eq_append_getElem (by rw[HFLl.out];exact hlt),HFLg.out k hlt]
    clear hsl hX gc g0 g1 g2 g3 g4 g5 g6 g7 g8;generalize (s.args[k]'hlt)=y at f0 f1 f2 f3 f4 f5 f6 f7 f8 HC HLx;rw[zo]at HC;generalize F y=fy at HC HLx;go_wp2_with fail;refine(HC.out _ yx).mono ?_;rintro e w5 ⟨⟨u,rfl,hr5⟩,hb5⟩;have hz5:=hb5.size;simp only[World.size_alloc]at hz5;have HB5:Hid (Below wr.heap.size wr w5):=((Below.refl wr.heap.size wr).alloc (Nat.le_refl _) _).trans (hb5.mono (by simp));have HO5:=Lib.hid (HO.out.below HB5.out);have HR5:=Lib.hid hr5;have hu5:u=.int .i64 fy:=(List.cons.inj hr5).1;subst hu5;clear hb5 f0 f1 f2 f3 f4 f5 f6 f7 f8;go_wp2_with (at_builtin;go_must (refine yi (E:=inE) zgZ _ rfl (.tmp 19) (.tmp 23) rfl p (w.heap.size+1) _ rfl HO5.out fy _ HR5.out _ _ rfl rfl k HLk.out (by omega) (by omega) ?_));intro g9 cap9 w7 ho hg hat
    rw[HLx.out]at ho;have HO7:=Lib.hid ho;have HB7:Hid (Below w.heap.size w w7):=(HBr.out.trans (HB5.out.mono hzb)).grown hg (by omega) λq hq=>by have:=(HVo.out q hq).1;omega
    have HBx7:Hid (w7.heap[w.heap.size]? = some (ye s ae ce (some ⟨bE,oE,none⟩) cap)):=(hg.block _ (by omega) λe=>by have:=(HVo.out _ e.symm).1;omega).trans ((HB5.out.block _ hzr).trans HBx.out);clear ho hg hat HLx;go_wp2_with fail;go_roundw;case rel=>exact⟨k+1,by go_num,by omega,HO7.out,HBx7.out,HB7.out⟩
    case measure=>(simp[intOf];try omega)
   ·obtain rfl:k=s.args.length:=by omega
    have HOe:Hid (inE.Own 3 p wr w.heap.size (.slice va s.args.length vc) FL):=by have:=Yj HO.out (B':=w.heap.size) (by omega);rw[←HFLl.out,List.take_length]at this;rw[←HFLl.out];exact this
    obtain⟨b0,b1,b2,b3,b4,b5,b6,b7,b8⟩:=zt HBx.out;clear hsl;go_wp2_with (go_at_fn g;go_must (refine(HCl.out _ _ HOe.out HBr.out).mono ?_;rintro e w5 ⟨u,rfl,h5⟩;have HP5:=Lib.hid h5;clear h5));first|exact HP5.out|(go_ret;exact HP5.out)
theorem zg6 (g:FuncId) (eg:∀args w,(callFunc g args).run Tryz.prog w=.ok (.enter g args) w) (F:Tq->List ByteArray) (hC:zgq slE 51 g F) (s:Tq) :
 ∀(p:Nat->Bool) (ae:Option Addr) (ce:Nat) (a:Option Addr) (cap:Nat) (w:World),Zr (World.hide w p) s ae ce a cap->(∀j,p j=true->j<w.heap.size)->s.nodes<=1000000000 ->
  Calls Tryz.prog 242 #[ym s ae ce a cap,.func (.func g) #[] #[]] w (zb2 slE p (F s) w):=by
 induction s using Tq.ind with
 |h s ih =>
  intro p ae ce a cap w hX hp hn;have HIH:Hid (∀k (hk:k<s.args.length),∀(q:Nat->Bool) (ae:Option Addr) (ce:Nat) (a:Option Addr) (cap:Nat) (W:World),Zr (World.hide W q) (s.args[k]'hk) ae ce a cap->(∀j,q j=true->j<W.heap.size)->Calls Tryz.prog 242 #[ym (s.args[k]'hk) ae ce a cap,.func (.func g) #[] #[]] W (zb2 slE q (F (s.args[k]'hk)) W)):=λk hk q ae ce a cap W h1 h2=>ih _ (List.getElem_mem hk) q ae ce a cap W h1 h2 (Nat.le_trans (Nat.le_of_lt (xY (List.getElem_mem hk))) hn);have hlen:=hX.ar.2.1;have HA:=Lib.hid hX.ar;have HAd:Hid (s.args.length=0\/∃b off,a=some ⟨b,off,none⟩):=zr.addr hX.ar;have HCl:Hid (∀(v:Value) (W:World),slE.Own 51 p W w.heap.size v (s.args.map F)->Below w.heap.size w W->Calls Tryz.prog g #[ym s ae ce a cap,v] W λe w'=>∃u,e=.returned u/\zb2 slE p (F s) w (.returned u) w'):=λv W h1 h2=>(hC p w.heap.size s ae ce a cap v W h1 hp h2.size hn hlen).mono λe w' h=>by obtain⟨⟨u,h3,h4⟩,h5⟩:=h;exact⟨u,h3,⟨u,rfl,h4⟩,h2.trans h5⟩
  have Hp:=Lib.hid hp;clear hX hC hp ih hn;generalize zb2 slE p (F s) w=Po at HCl⊢;have HFLl:Hid ((s.args.map F).length=s.args.length):=List.length_map _;have HFLg:Hid (∀k (hk:k<s.args.length) (h:k<(s.args.map F).length),(s.args.map F)[k]'h=F (s.args[k]'hk)):=λk hk h=>List.getElem_map _;generalize s.args.map F=FL at HCl HFLl HFLg;obtain⟨cur,hcur,hmk⟩:=zmP zkv s.args.length hlen;rw[zo]at HCl⊢;go_enter Tryz.func242, Tryz.ntmps242;go_wp2_with fail;generalize hW2:World.alloc (World.alloc w _) _=W2;have hz2:w.heap.size+2<=W2.heap.size:=by rw[←hW2];simp
  have hz2b:W2.heap.size<=w.heap.size+2:=by rw[←hW2];simp
  have HB2:Hid (Below w.heap.size w W2):=by show Below _ _ _;rw[←hW2];exact((Below.refl _ _).alloc (Nat.le_refl _) _).alloc (by simp) _
  have HX2:Hid (W2.heap[w.heap.size]? = some (ye s ae ce a cap)):=by show _=_;rw[←hW2];exact zk (zh rfl)
  have HO2:Hid (slE.Own 51 p W2 (w.heap.size+1) (.slice (some ⟨w.heap.size+1,0,none⟩) 0 s.args.length) []):=by refine⟨[],?_,Enc.Vals.nil _⟩;rw[←hW2];have:=World.ownsRow_made (base:=w.heap.size+1) (e:=51) (size:=1) (w.alloc (ye s ae ce a cap)) cur s.args.length (by simp) (by unfold maxLen;omega) hcur;simp only[World.size_alloc]at this;exact this
  clear hW2 hcur hmk;obtain⟨-,-,-,-,-,-,-,-,b8⟩:=zt HX2.out;go_wp2_with fail;clear b8;go_loopw [15,5,7] (λi v _ wr=>∃(k:Nat),i=.int .i64 k/\k<=s.args.length/\Hid (slE.Own 51 p wr (w.heap.size+1) v (FL.take k))/\Hid (wr.heap[w.heap.size]? = some (ye s ae ce a cap))/\Hid (Below w.heap.size w wr)) (λi _ _ _=>s.args.length-(intOf i).toNat);case atStart=>exact⟨0,rfl,Nat.zero_le _,HO2,HX2,HB2⟩
  case round =>
   obtain⟨k,rfl,hk,HO,HBx,HBr⟩:=hrel;have hzr:=lt_of_block HBx.out;have hzb:=HBr.out.size;have HLk:Hid ((FL.take k).length=k):=List.length_take_of_le (by rw[HFLl.out];exact hk);obtain⟨va,vc,hv,hsl⟩:=HO.out.slice (by rw[HLk.out];omega);rw[HLk.out]at hv;subst hv;have HVo:Hid (∀q,(Value.slice va k vc).ownBlock=some q->w.heap.size+1<=q/\q<wr.heap.size):=zl HO.out;by_cases hlt:k<s.args.length
   ·obtain⟨bE,oE,hEa⟩:=HAd.out.resolve_left (by omega);have HKp:Hid (Kp (World.hide w p) (World.hide wr (hid p (.slice va k vc)))):=zg HBr.out λj hj hq=>(ze.1 hq).elim id λe=>by have:=(HVo.out j e).1;omega
    have HA':Hid (qL (World.hide w p) s.args (some ⟨bE,oE,none⟩) cap):=by show qL _ _ _ _;rw[←hEa];exact HA.out
    obtain⟨xe,xc,xa,xk,gc,hX⟩:=(qL.keep HKp.out HA'.out).get rfl hlt;obtain⟨g0,g1,g2,g3,g4,g5,g6,g7,g8⟩:=Zu gc;have f0:=zb _ _ g0;have f1:=zb _ _ g1;have f2:=zb _ _ g2;have f3:=zb _ _ g3;have f4:=zb _ _ g4;have f5:=zb _ _ g5;have f6:=zb _ _ g6;have f7:=zb _ _ g7;have f8:=zb _ _ g8;have HC:=Lib.hid (λW (hW:Below wr.heap.size wr W)=>HIH.out k hlt (hid p (.slice va k vc)) xe xc xa xk W (hX.keep (zg hW λ_ _ h=>h)) λj hj=>(ze.1 hj).elim (λh=>by have:=Hp.out j h;have:=hW.size;omega) λe=>by have:=(HVo.out j e).2;have:=hW.size;omega);subst hEa;have HLx:Hid (FL.take k++[F (s.args[k]'hlt)]=FL.take (k+1)):=by show _=_;rw[List.take_succ_eq_append_getElem (by rw[HFLl.out];exact hlt),HFLg.out k hlt]
    clear hsl hX gc g0 g1 g2 g3 g4 g5 g6 g7 g8;generalize (s.args[k]'hlt)=y at f0 f1 f2 f3 f4 f5 f6 f7 f8 HC HLx;rw[zo]at HC;generalize F y=fy at HC HLx;go_wp2_with fail;refine(HC.out _ yx).mono ?_;rintro e w5 ⟨⟨u,rfl,hr5⟩,hb5⟩;have hz5:=hb5.size;simp only[World.size_alloc]at hz5;have HB5:Hid (Below wr.heap.size wr w5):=((Below.refl wr.heap.size wr).alloc (Nat.le_refl _) _).trans (hb5.mono (by simp));have HO5:=Lib.hid (HO.out.below HB5.out);have HR5:=Lib.hid hr5;obtain⟨xa9,xc9,hu9,-⟩:=hr5;have hu5:u=.slice xa9 fy.length xc9:=(List.cons.inj hu9).1;subst hu5;clear hb5 f0 f1 f2 f3 f4 f5 f6 f7 f8;go_wp2_with (at_builtin;go_must (refine yi (E:=slE) zkv _ rfl (.tmp 19) (.tmp 23) rfl p (w.heap.size+1) _ rfl HO5.out fy _ HR5.out _ _ rfl rfl k HLk.out (by omega) (by omega) ?_));intro g9 cap9 w7 ho hg hat
    rw[HLx.out]at ho;have HO7:=Lib.hid ho;have HB7:Hid (Below w.heap.size w w7):=(HBr.out.trans (HB5.out.mono hzb)).grown hg (by omega) λq hq=>by have:=(HVo.out q hq).1;omega
    have HBx7:Hid (w7.heap[w.heap.size]? = some (ye s ae ce (some ⟨bE,oE,none⟩) cap)):=(hg.block _ (by omega) λe=>by have:=(HVo.out _ e.symm).1;omega).trans ((HB5.out.block _ hzr).trans HBx.out);clear ho hg hat HLx;go_wp2_with fail;go_roundw;case rel=>exact⟨k+1,by go_num,by omega,HO7.out,HBx7.out,HB7.out⟩
    case measure=>(simp[intOf];try omega)
   ·obtain rfl:k=s.args.length:=by omega
    have HOe:Hid (slE.Own 51 p wr w.heap.size (.slice va s.args.length vc) FL):=by have:=Yj HO.out (B':=w.heap.size) (by omega);rw[←HFLl.out,List.take_length]at this;rw[←HFLl.out];exact this
    obtain⟨b0,b1,b2,b3,b4,b5,b6,b7,b8⟩:=zt HBx.out;clear hsl;go_wp2_with (go_at_fn g;go_must (refine(HCl.out _ _ HOe.out HBr.out).mono ?_;rintro e w5 ⟨u,rfl,h5⟩;have HP5:=Lib.hid h5;clear h5));first|exact HP5.out|(go_ret;exact HP5.out)
open Go.RowKit Go.ChangeShapes Go.Deep Go.Joins
theorem zcS {w:World} {a:Addr} {len sz:Nat} {Q:Nat->List Value->Prop} (hs:0<sz) (hn:0<len) (h:∀i,i<len->∃cs,w.cells? 0 (a.add (i*sz)) sz=some cs/\Q i cs) :
 ∃b off,a=⟨b,off,none⟩/\∀i,i<len->∃cs:List Value,(∀j,j<sz->w.cell? ⟨b,off+i*sz+j,none⟩=cs[j]?)/\cs.length=sz/\Q i cs:=by
 obtain⟨b,off,sp⟩:=a;have hsp:sp=none:=by
  obtain⟨cs,hc,_⟩:=h 0 hn;rw[Nat.zero_mul]at hc;have h1:=(World.cells?_some hc);obtain⟨_,hl,h2⟩:=h1;have h3:=h2 0 (by omega);simp only[Addr.add,if_true]at h3;cases sp with
  |none=>rfl
  |some q =>
   exfalso;simp[World.cell?]at h3;split at h3
   ·have:cs[0]? = none:=h3.symm;rw[List.getElem?_eq_none_iff]at this;omega
   ·have:cs[0]? = none:=h3.symm;rw[List.getElem?_eq_none_iff]at this;omega
 subst hsp;refine⟨b,off,rfl,λi hi=>?_⟩;obtain⟨cs,hc,hq⟩:=h i hi;obtain⟨_,hl,h2⟩:=World.cells?_some hc;refine⟨cs,λj hj=>?_,hl,hq⟩;have h3:=h2 j (by omega);rw[←h3];congr 1;unfold Addr.add;split<;>split<;>simp_all<;>omega
theorem QM {H:Type} (l:List (DataW H)):∀d,d∈l->Rows.uptoBulk d<=Rows.uptoBulkAll l:=by
 induction l with
 |nil=>intro d hd;simp at hd
 |cons c l ih =>
  intro d hd;simp only[Rows.uptoBulkAll];rcases List.mem_cons.1 hd with rfl|hd
  ·omega
  ·have:=ih d hd;omega
theorem zi0 {H:Type} (d:DataW H):1<=Rows.uptoBulk d:=by
 cases d with
 |lit l=>cases l<;>simp[Rows.uptoBulk]
 |_=>simp[Rows.uptoBulk]
theorem QL {H:Type} (l:List (DataW H)):l.length<=Rows.uptoBulkAll l:=by
 induction l with
 |nil=>simp
 |cons c l ih =>simp only[Rows.uptoBulkAll,List.length_cons];have:=zi0 c;omega
theorem XO : Tryz.prog.cellsOf 24=4:=by kernel_rfl
theorem QP : Tryz.prog.cellsOf 3=1:=by kernel_rfl
theorem Xf : Tryz.prog.cellsOf 9=1:=by kernel_rfl
theorem zdi : Tryz.prog.cellsOf 22=1:=by kernel_rfl
theorem zmN {α:Type} {l:List α} (h:l.length=4):∃a b c d,l=[a,b,c,d]:=by
 match l,h with
 | [a,b,c,d],_=>exact⟨a,b,c,d,rfl⟩
theorem zap (s:ByteArray):s.size=s.data.toList.length:=by show s.data.size=_;exact Array.length_toList.symm
theorem YC {α:Type} [Inhabited α] {H:Type} {enc:TypeId×Value->H} {w:World} {sp:Nat->Bool} {hd:Bool} {t e:TypeId} {sz:Nat} (Q:α->Nat->Nat->Prop) (ht : Tryz.prog.underlying t=some (.slice e)) (hc : Tryz.prog.cellsOf e=sz) (hs:0<sz)
 {fuel:Nat} {cs:List Value} {x:DataW H×List MemPlace} (h:DataW.trod enc Tryz.prog w 0 sp hd fuel t cs=some x) (hb:Rows.uptoBulk x.1<=1048576)
 (ih:∀n cs' y,DataW.trod enc Tryz.prog w 0 sp hd n e cs'=some y->Rows.uptoBulk y.1<Rows.uptoBulk x.1->∃v:α,∀b o,(∀j,j<sz->w.cell? ⟨b,o+j,none⟩=cs'[j]?)->Q v b o) :
 ∃(l:List α) (a:Option Addr) (cap:Nat),cs=[.slice a l.length cap]/\zr sz l.length a cap (λi b o=>∃v,l[i]? = some v/\Q v b o):=by
 rcases open_slice ht h with ⟨rfl,rfl⟩|⟨a,len,cap,m,n,D,Pl,rfl,_,hlc,hcm,hm,rfl,hel⟩
 ·exact⟨[],none,0,rfl,⟨by simp,by simp,Or.inl rfl⟩⟩
 ·rw[hc]at hel;have hlm:len<=m:=by rw[hm];split<;>omega
  simp only[Rows.uptoBulk]at hb ih;have hlb:=QL ((List.range len).map D);simp only[List.length_map,List.length_range]at hlb;by_cases h0:len=0
  ·subst h0;exact⟨[],some a,cap,rfl,⟨by simp,by simp,Or.inl rfl⟩⟩
  ·have hch:∀i,i<len->∃cs',w.cells? 0 (a.add (i*sz)) sz=some cs'/\(∃v:α,∀b o,(∀j,j<sz->w.cell? ⟨b,o+j,none⟩=cs'[j]?)->Q v b o):=λi hi=>by
    obtain⟨cs',h1,h2⟩:=hel i (by omega);refine⟨cs',h1,ih n cs' _ h2 ?_⟩;have:=QM ((List.range len).map D) (D i) (List.mem_map.2 ⟨i,List.mem_range.2 hi,rfl⟩);simp only;omega
   obtain⟨b,off,rfl,hr⟩:=zcS hs (by omega) hch;have hch2:∀i,i<len->∃v:α,Q v b (off+i*sz):=λi hi=>by obtain⟨cs',h1,_,v,hv⟩:=hr i hi;exact⟨v,hv b _ h1⟩
   obtain⟨f,hf⟩:=choose_lt hch2;refine⟨(List.range len).map f,some ⟨b,off,none⟩,cap,by simp,?_⟩;refine⟨by simp;omega,by simp;omega,Or.inr ⟨b,off,rfl,λi hi=>?_⟩⟩;simp only[List.length_map,List.length_range]at hi;exact⟨f i,by simp[hi],hf i hi⟩
theorem zfj : Tryz.prog.cellsOf 31=1:=by kernel_rfl
theorem zmM {α:Type} {l:List α} (h:l.length=2):∃a b,l=[a,b]:=by
 match l,h with
 | [a,b],_=>exact⟨a,b,rfl⟩
theorem zfM {H:Type} {enc:TypeId×Value->H} {w:World} {sp:Nat->Bool} {hd:Bool} {fuel:Nat} {cs:List Value} {x:DataW H×List MemPlace} (h:DataW.trod enc Tryz.prog w 0 sp hd fuel 31 cs=some x) (hb:Rows.uptoBulk x.1<=1048576) :
 ∃(l:List Int) (a:Option Addr) (cap:Nat),cs=[.slice a l.length cap]/\IntsIn w l a cap:=by
 refine YC (λ(v:Int) b o=>w.cell? ⟨b,o,none⟩=some (.int .i64 v)) Tryz.underlying31 QP (by omega) h hb ?_;intro n cs' y hy hlt;obtain⟨n1,rfl,_,_⟩:=DataW.trod_int Tryz.underlying3 hy;exact⟨n1,λb o hc=>hc 0 (by omega)⟩
theorem zfk : Tryz.prog.cellsOf 51=1:=by kernel_rfl
noncomputable def qx (l:List Ex):Nat:=((l.map Ex.nodes).flatten).length
theorem zhx (e:Ex):e.nodes.length=qx e.args+1:=by rw[Ex.nodes_eq,List.length_cons];rfl
theorem zbK (e:Ex) (l:List Ex):qx (e::l)=e.nodes.length+qx l:=by unfold qx;simp
theorem zcE {H:Type} (l:List Nat) (f:Nat->Ex) (D:Nat->DataW H) (h:∀i,i∈l->(f i).nodes.length<=Rows.uptoBulk (D i)):qx (l.map f)<=Rows.uptoBulkAll (l.map D):=by
 induction l with
 |nil=>simp[qx]
 |cons c l ih =>simp only[List.map_cons,Rows.uptoBulkAll];rw[zbK];have h1:=h c (by simp);have h2:=ih λi hi=>h i (by simp[hi]);omega
section
variable {H : Type} {enc : TypeId × Value → H} {w : World} {sp : Nat → Bool} {hd : Bool}
theorem zdM {fuel:Nat} {cs:List Value} {x:DataW H×List MemPlace} (h:DataW.trod enc Tryz.prog w 0 sp hd fuel 22 cs=some x) (hb:Rows.uptoBulk x.1<=1048576)
 (ih:∀n cs' y,DataW.trod enc Tryz.prog w 0 sp hd n 24 cs'=some y->Rows.uptoBulk y.1<Rows.uptoBulk x.1->∃(e:Ex) (a:Option Addr) (cap:Nat),cs'=[.int .i64 e.op,.int .i64 e.n,.string e.name,.slice a e.args.length cap]/\yY w e a cap/\e.nodes.length<=Rows.uptoBulk y.1) :
 ∃(l:List Ex) (a:Option Addr) (cap:Nat),cs=[.slice a l.length cap]/\Z6 w l a cap/\qx l<=Rows.uptoBulk x.1/\l.length<=Rows.uptoBulk x.1:=by
 rcases open_slice Tryz.underlying22 h with ⟨rfl,rfl⟩|⟨a,len,cap,m,n,D,Pl,rfl,_,hlc,hcm,hm,rfl,hel⟩
 ·exact⟨[],none,0,rfl,⟨by simp,by simp,Or.inl rfl⟩,by simp[qx],by simp⟩
 ·rw[XO]at hel;have hlm:len<=m:=by rw[hm];split<;>omega
  simp only[Rows.uptoBulk]at hb ih⊢;have hlb:=QL ((List.range len).map D);simp only[List.length_map,List.length_range]at hlb;by_cases h0:len=0
  ·subst h0;exact⟨[],some a,cap,rfl,⟨by simp,by simp,Or.inl rfl⟩,by simp[qx],by simp⟩
  ·have hch:∀i,i<len->∃cs',w.cells? 0 (a.add (i*4)) 4=some cs'/\(∃(e:Ex) (a:Option Addr) (cap:Nat),cs'=[.int .i64 e.op,.int .i64 e.n,.string e.name,.slice a e.args.length cap]/\yY w e a cap/\e.nodes.length<=Rows.uptoBulk (D i)):=λi hi=>by
    obtain⟨cs',h1,h2⟩:=hel i (by omega);refine⟨cs',h1,ih n cs' _ h2 ?_⟩;have:=QM ((List.range len).map D) (D i) (List.mem_map.2 ⟨i,List.mem_range.2 hi,rfl⟩);simp only;omega
   obtain⟨b,off,rfl,hr⟩:=zcS (by omega) (by omega) hch;have hch2:∀i,i<len->∃e:Ex,zkq w e b (off+i*4)/\e.nodes.length<=Rows.uptoBulk (D i):=λi hi=>by obtain⟨cs',h1,_,e,a',cap',rfl,hX,hN⟩:=hr i hi;exact⟨e,(Qx _ _ _ _).2 ⟨a',cap',h1 0 (by omega),h1 1 (by omega),h1 2 (by omega),h1 3 (by omega),hX⟩,hN⟩
   haveI:Inhabited Ex:=⟨.mk 0 0 ⟨#[]⟩ []⟩
   obtain⟨f,hf⟩:=choose_lt hch2;have hall:=zcE (List.range len) f D (λi hi=>(hf i (List.mem_range.1 hi)).2);refine⟨(List.range len).map f,some ⟨b,off,none⟩,cap,by simp,?_,by omega,by simp;omega⟩;refine⟨by simp;omega,by simp;omega,Or.inr ⟨b,off,rfl,λi hi=>?_⟩⟩;simp only[List.length_map,List.length_range]at hi;exact⟨f i,by simp[hi],(hf i hi).1⟩
theorem zfL:∀(N:Nat),N<=1048576->∀(fuel:Nat) (cs:List Value) (x:DataW H×List MemPlace),DataW.trod enc Tryz.prog w 0 sp hd fuel 24 cs=some x->Rows.uptoBulk x.1<=N ->
 ∃(e:Ex) (a:Option Addr) (cap:Nat),cs=[.int .i64 e.op,.int .i64 e.n,.string e.name,.slice a e.args.length cap]/\yY w e a cap/\e.nodes.length<=Rows.uptoBulk x.1:=by
 intro N
 induction N using Nat.strongRecOn with
 |_ N ih =>
  intro hN fuel cs x h hb;obtain⟨y0,y1,y2,y3,n,rfl,hl,h0,h1,h2,h3⟩:=trod_struct4 Tryz.underlying24 h;rw[XO]at hl;obtain⟨c0,c1,c2,c3,rfl⟩:∃c0 c1 c2 c3,cs=[c0,c1,c2,c3]:=by exact zmN hl
  simp only[QP,Xf,zdi,List.drop,List.take]at h0 h1 h2 h3;obtain⟨op,e0,rfl,_⟩:=DataW.trod_int Tryz.underlying3 h0;obtain⟨nn,e1,rfl,_⟩:=DataW.trod_int Tryz.underlying3 h1;obtain⟨s,e2,rfl,_⟩:=DataW.trod_string Tryz.underlying9 h2;simp only[List.cons.injEq,and_true]at e0 e1 e2;subst e0 e1 e2;simp only[Rows.uptoBulk,Rows.uptoBulkAll]at hb⊢;obtain⟨l,a,cap,e3,hX,hn,_⟩:=zdM h3 (by omega) (λm cs' y hy hlt=>ih (Rows.uptoBulk y.1) (by omega) (by omega) m cs' y hy (Nat.le_refl _));simp only[List.cons.injEq,and_true]at e3;subst e3;refine⟨.mk op nn s l,a,cap,rfl,⟨?_,hX⟩,?_⟩
  ·show s.size<=_;have:=zap s;omega
  ·rw[zhx];show qx l+1<=_;omega
end
section
variable {H : Type} {enc : TypeId × Value → H} {w : World} {sp : Nat → Bool} {hd : Bool}
theorem zcA {α:Type} {sz:Nat} {l:List α} {a:Option Addr} {cap:Nat} {Q:α->Nat->Nat->Prop} (h:zr sz l.length a cap (λi b o=>∃v,l[i]? = some v/\Q v b o)) {v:α} (hv:v∈l):∃b o,Q v b o:=by
 obtain⟨i,hi,rfl⟩:=List.getElem_of_mem hv;rcases h.2.2 with h|⟨b,off,_,hq⟩
 ·omega
 ·obtain⟨u,hu,hQ⟩:=hq i hi;rw[List.getElem?_eq_getElem hi]at hu;obtain rfl:=Option.some.inj hu;exact⟨_,_,hQ⟩
theorem open_strs {fuel:Nat} {cs:List Value} {x:DataW H×List MemPlace} (h:DataW.trod enc Tryz.prog w 0 sp hd fuel 51 cs=some x) (hb:Rows.uptoBulk x.1<=1048576) :
 ∃(l:List ByteArray) (a:Option Addr) (cap:Nat),cs=[.slice a l.length cap]/\zE w l a cap/\∀s∈l,s.size<=1048576:=by
 haveI:Inhabited ByteArray:=⟨⟨#[]⟩⟩
 obtain⟨l,a,cap,e,hS⟩:=YC (λ(v:ByteArray) b o=>w.cell? ⟨b,o,none⟩=some (.string v)/\v.size<=1048576) Tryz.underlying51 Xf (by omega) h hb (λn cs' y hy hlt=>by obtain⟨s,rfl,hs,_⟩:=DataW.trod_string Tryz.underlying9 hy;rw[hs]at hlt;simp only[Rows.uptoBulk]at hlt;have:=zap s;exact⟨s,λb o hc=>⟨hc 0 (by omega),by omega⟩⟩);exact⟨l,a,cap,e,hS.mono λi b o _ ⟨v,hv,h1,_⟩=>⟨v,hv,h1⟩,λs hs=>by obtain⟨_,_,_,h1⟩:=zcA hS hs;exact h1⟩
theorem zbU {P:Program} {base:Nat} {t:TypeId} {f0 f1 f2 f3 f4 f5:Field} {fuel:Nat} {cs:List Value} {x:DataW H×List MemPlace} (ht:P.underlying t=some (.struct #[f0,f1,f2,f3,f4,f5])) (h:DataW.trod enc P w base sp hd fuel t cs=some x) :
 ∃y0 y1 y2 y3 y4 y5 n,x=(.agg [y0.1,y1.1,y2.1,y3.1,y4.1,y5.1],y0.2++(y1.2++(y2.2++(y3.2++(y4.2++y5.2)))))/\cs.length=P.cellsOf t/\DataW.trod enc P w base sp hd n f0.type ((cs.drop f0.offset).take (P.cellsOf f0.type))=some y0 /\
  DataW.trod enc P w base sp hd n f1.type ((cs.drop f1.offset).take (P.cellsOf f1.type))=some y1/\DataW.trod enc P w base sp hd n f2.type ((cs.drop f2.offset).take (P.cellsOf f2.type))=some y2 /\
  DataW.trod enc P w base sp hd n f3.type ((cs.drop f3.offset).take (P.cellsOf f3.type))=some y3/\DataW.trod enc P w base sp hd n f4.type ((cs.drop f4.offset).take (P.cellsOf f4.type))=some y4/\DataW.trod enc P w base sp hd n f5.type ((cs.drop f5.offset).take (P.cellsOf f5.type))=some y5:=by
 obtain⟨xs,n,_,rfl,hl,hlen,hf⟩:=DataW.trod_struct ht h
 match xs,hlen with
 | [y0,y1,y2,y3,y4,y5],_=>exact⟨y0,y1,y2,y3,y4,y5,n,by simp,hl,by simpa using hf 0 f0 rfl,by simpa using hf 1 f1 rfl,by simpa using hf 2 f2 rfl,by simpa using hf 3 f3 rfl,by simpa using hf 4 f4 rfl,by simpa using hf 5 f5 rfl⟩
theorem zaL : Tryz.prog.cellsOf 27=9:=by kernel_rfl
theorem zdk : Tryz.prog.cellsOf 25=1:=by kernel_rfl
theorem zmO {α:Type} {l:List α} (h:l.length=9):∃c0 c1 c2 c3 c4 c5 c6 c7 c8,l=[c0,c1,c2,c3,c4,c5,c6,c7,c8]:=by rcases l with _|⟨c0,_|⟨c1,_|⟨c2,_|⟨c3,_|⟨c4,_|⟨c5,_|⟨c6,_|⟨c7,_|⟨c8,_|⟨c9,l⟩⟩⟩⟩⟩⟩⟩⟩⟩⟩<;>simp at h⊢
theorem zlz:∀(N:Nat),N<=1048576->∀(fuel:Nat) (cs:List Value) (x:DataW H×List MemPlace),DataW.trod enc Tryz.prog w 0 sp hd fuel 27 cs=some x->Rows.uptoBulk x.1<=N ->
 ∃(s:Tq) (ae:Option Addr) (ce:Nat) (a:Option Addr) (cap:Nat),cs=y9 s ae ce a cap/\Zr w s ae ce a cap:=by
 intro N
 induction N using Nat.strongRecOn with
 |_ N ih =>
  intro hN fuel cs x h hb;obtain⟨y0,y1,y2,y3,y4,y5,n,rfl,hl,h0,h1,h2,h3,h4,h5⟩:=zbU Tryz.underlying27 h;rw[zaL]at hl;obtain⟨c0,c1,c2,c3,c4,c5,c6,c7,c8,rfl⟩:∃c0 c1 c2 c3 c4 c5 c6 c7 c8,cs=[c0,c1,c2,c3,c4,c5,c6,c7,c8]:=zmO hl;simp only[QP,Xf,XO,zdk,List.drop,List.take]at h0 h1 h2 h3 h4 h5;obtain⟨op,e0,rfl,_⟩:=DataW.trod_int Tryz.underlying3 h0;obtain⟨lo,e1,rfl,_⟩:=DataW.trod_int Tryz.underlying3 h1;obtain⟨hi,e2,rfl,_⟩:=DataW.trod_int Tryz.underlying3 h2;obtain⟨s,e4,rfl,_⟩:=DataW.trod_string Tryz.underlying9 h4;simp only[List.cons.injEq,and_true]at e0 e1 e2 e4;subst e0 e1 e2 e4;simp only[Rows.uptoBulk,Rows.uptoBulkAll]at hb;obtain⟨ex,ae,ce,e3,hE,_⟩:=zfL 1048576 (Nat.le_refl _) _ _ _ h3 (by omega);simp only[List.cons.injEq,and_true]at e3;obtain⟨rfl,rfl,rfl,rfl⟩:=e3
  haveI:Inhabited Tq:=⟨.mk 0 0 0 (.mk 0 0 ⟨#[]⟩ []) ⟨#[]⟩ []⟩
  obtain⟨l,a,cap,e5,hA⟩:=YC (λ(v:Tq) b o=>zks w v b o) Tryz.underlying25 zaL (by omega) h5 (by omega) (λm cs' y hy hlt=>by obtain⟨v,ae',ce',a',cap',rfl,hv⟩:=ih (Rows.uptoBulk y.1) (by omega) (by omega) m cs' y hy (Nat.le_refl _);exact⟨v,λb o hc=>(Y8 _ _ _ _).2 ⟨ae',ce',a',cap',λj u hj=>(hc j (by have:=(List.getElem?_eq_some_iff.1 hj).1;simpa [y9] using this)).trans hj,hv⟩⟩);simp only[List.cons.injEq,and_true]at e5;subst e5;refine⟨.mk op lo hi ex s l,ae,ce,a,cap,rfl,?_,hE,hA⟩;show s.size<=_;have:=zap s;omega
end
open Go.ChangeShapes Go.WideShapes Go.ChangeAt Go.RowKit
theorem ownK:ownKnob Tryz.prog.godebug=none:=by kernel_rfl
theorem zex:laidOutB Tryz.prog=true:=by kernel_rfl
def bytesOf {H:Type}:DataW H->List UInt8
 | .lit (.string b)=>b
 |_=>[]
theorem zga {H:Type} (ss:List ByteArray):((strs ss:List (DataW H)).map bytesOf)=ss.map (·.data.toList):=by unfold strs;rw[List.map_map];rfl
theorem zjy:∃l r,(Rows.laid_testbench_lexer_keywords:DataW Unit)=.slice l r/\l.map bytesOf=kwL:=⟨_,_,rfl,rfl⟩
theorem zmJ {ss:List ByteArray} (h:ss.map (·.data.toList)=kwL):ss=kwS:=by
 unfold kwS;rw[←h,List.map_map]
 conv=>lhs;rw[←List.map_id ss]
 apply List.map_congr_left;intro s _;show s=ByteArray.mk s.data.toList.toArray;rw[Array.toArray_toList]
theorem zli {W:World} {g:Nat} {t:TypeId} {cs:Array Value} {fuel:Nat} {p:List MemPlace} (hsh:W.ShapedOpen Tryz.prog) (h1 : Tryz.prog.globalNamed "testbench/lexer.keywords"=some g) (h2:(Tryz.prog.globals[g]?).map (·.type)=some t) (h3:W.var? Tryz.prog "testbench/lexer.keywords"=some cs)
 (h4:DataW.trod (λ_=>()) Tryz.prog W 0 (λ_=>true) false fuel t cs.toList=some (Rows.laid_testbench_lexer_keywords,p)):ZW W:=by
 refine⟨cell_of_shapedOpen_int (P:=Tryz.prog) (g:=0) (t:=3) (zero:=#[.int .i64 0]) hsh (of_decide_eq_true (by kernel_rfl)) (by kernel_rfl) rfl (by kernel_rfl) (by kernel_rfl) Tryz.underlying3,?_⟩;obtain rfl:1=g:=Option.some.inj ((show Tryz.prog.globalNamed "testbench/lexer.keywords"=some 1 by kernel_rfl).symm.trans h1);obtain rfl : 51=t:=Option.some.inj ((show (Tryz.prog.globals[1]?).map (·.type)=some 51 by kernel_rfl).symm.trans h2);have h0:W.cell? ⟨1,0,none⟩=cs[0]?:=by
  unfold World.var? at h3;rw[h1]at h3;simp only[Option.bind_some]at h3;split at h3
  ·rename_i c t0 f0 hh;obtain rfl:=Option.some.inj h3;simp[World.cell?,hh]
  ·simp at h3
 obtain⟨kl,kr,hk,hkl⟩:=zjy;rw[hk]at h4;rcases open_strings Tryz.underlying51 Tryz.underlying9 Xf h4 with ⟨_,hx⟩|⟨a,len,cap,ss,hcs,_,hl,_,hz,hx,hcell,_⟩
 ·have:=congrArg Prod.fst hx;simp at this
 ·have hx1:=congrArg Prod.fst hx;simp only[DataW.slice.injEq]at hx1;have he:=congrArg (List.map bytesOf) hx1.1;rw[hkl,zga]at he;have hS:=zmJ he.symm;have hsl:ss.length=cap:=by simpa using hz
  have hlen:len=24:=by
   have h24:(ss.take len).length=24:=by rw[hS];rfl
   rw[List.length_take]at h24;omega
  subst hlen;obtain⟨b,off,sp⟩:=a;have hsp:sp=none:=by simpa [Addr.add] using World.cell?_spot (hcell 0 (by omega))
  subst hsp;refine⟨b,off,cap,?_,λi hi=>?_⟩
  ·rw[h0];have:cs=#[Value.slice (some ⟨b,off,none⟩) 24 cap]:=by
    apply Array.toList_inj.1;rw[hcs]
   rw[this];rfl
  ·have hc:=hcell i (by omega);have hg:ss.getD i ByteArray.empty=kwS.getD i ByteArray.empty:=by
    rw[←hS,List.getD_eq_getElem?_getD,List.getD_eq_getElem?_getD,List.getElem?_take_of_lt hi]
   rw[hg]at hc;have ha:((⟨b,off,none⟩:Addr).add i)=⟨b,off+i,none⟩:=by unfold Addr.add;split<;>simp_all
   rw[ha]at hc;exact hc
theorem zg8 {W:World} (hsh:W.ShapedOpen Tryz.prog) (hL:laidMetH Tryz.prog [("testbench/lexer.keywords",Rows.laid_testbench_lexer_keywords)] W):ZW W:=by have hL':laidMet Tryz.prog [("testbench/lexer.keywords",Rows.laid_testbench_lexer_keywords)] W:=hL;obtain⟨ps,hv,_⟩:=hL';obtain⟨_,_,_,_,_,_,h1,h2,h3,h4,_,_⟩:=hv;exact zli hsh h1 h2 h3 h4
noncomputable def Xr (os:Os):World :=
 let N:=(World.settled Tryz.prog os).heap.size
 let w0:=World.holding Tryz.prog os ⟨#[.cells (kwS.map Value.string).toArray 9],#[],[]⟩
 let put (h:Array Obj) (g:Nat) (cs:Array Value):Array Obj:=h.modify g fun
  | .cells _ t frozen=>.cells cs t frozen
  |o=>o
 let h4:=put w0.heap 1 #[.slice (some ⟨N,0,none⟩) 24 24]
 { w0 with heap:=h4 }
theorem zjz (os:Os) (args:Array Value):laidMet Tryz.prog [("testbench/lexer.keywords",Rows.laid_testbench_lexer_keywords)] ((Xr os).forCall (λ_ _=>0) ⟨#[],args,[]⟩).memory :=
 (LaidIn.of_run (l:=[("testbench/lexer.keywords",Rows.laid_testbench_lexer_keywords)]) [1,(World.settled Tryz.prog default).heap.size] 8 (by kernel_rfl) (by kernel_rfl) (by kernel_rfl) (by kernel_rfl)).met
section
variable {H : Type} {enc : TypeId × Value → H} {w : World} {base b0 : Nat} {sp : Nat → Bool} {hd : Bool} {r : Reach} {v : Value} {d : DataW H} {ps : List MemPlace}
theorem zmq (hv:Value.okWide Tryz.prog w r b0 27 v) (h:DataW.Trod enc Tryz.prog w 0 sp hd 27 v d ps) (hb:Rows.uptoBulk d<=1048576):∃(s:Tq) (ae:Option Addr) (ce:Nat) (a:Option Addr) (cap:Nat),v=ym s ae ce a cap/\Zr w s ae ce a cap:=by
 obtain⟨cs,rfl,_⟩:=okWide_struct Tryz.underlying27 hv;obtain⟨fuel,hf⟩:=h;obtain⟨s,ae,ce,a,cap,e,hP⟩:=zlz 1048576 (Nat.le_refl _) _ _ _ hf hb;refine⟨s,ae,ce,a,cap,?_,hP⟩;have:cs=(y9 s ae ce a cap).toArray:=by apply Array.toList_inj.1;exact e
 rw[this];rfl
end
open Go.RowKit Go.ChangeShapes Go.WideShapes Go.ChangeAt Go.Deep Go.Joins
section
variable {H : Type} {enc : TypeId × Value → H} {w : World} {sp : Nat → Bool} {hd : Bool}
theorem ziV {τ:Type} {E:Enc τ} {x:τ} {cs:List Value} {b o:Nat} (hR:E.R w x cs) (hc:∀j,j<cs.length->w.cell? ⟨b,o+j,none⟩=cs[j]?):E.At w x b o :=
 ⟨cs,hR,λj v hj=>(hc j (List.getElem?_eq_some_iff.1 hj).1).trans hj⟩
end
section
variable {H : Type} {enc : TypeId × Value → H} {w : World} {base b0 : Nat} {sp : Nat → Bool} {hd : Bool} {r : Reach} {v : Value} {d : DataW H} {ps : List MemPlace}
end
end Go.Proofs.YthojpomoflhbcaaGreatDoor
