/- nfa.builder: set. -/
import Derived.Test.YthojpomoflhbcaaGreatDoorQ13
import Derived.Test.YthojpomoflhbcaaGreatDoorQ15
import Derived.Test.YthojpomoflhbcaaGreatDoorQ11
import Derived.Test.YthojpomoflhbcaaGreatDoorQ12
set_option maxHeartbeats 16000000
set_option maxRecDepth 100000
set_option linter.unusedSimpArgs false
set_option linter.unusedVariables false
set_option linter.unnecessarySimpa false
namespace Go.Proofs.YthojpomoflhbcaaGreatDoor
open Go.RowKit
attribute [local go_sem ↓] Go.wp_at_zero Go.wp_at_succ
def zm2 (nm:ByteArray) (x:Ex) (st:Int) (acc:List Int) (e:zn):Option zn:=if acc.contains e.to then some ⟨e.fr,st+(acc.idxOf e.to:Nat),e.guards,e.sets++[⟨nm,x⟩]⟩ else none
def za9 (nm:ByteArray) (x:Ex) (st:Int) (acc:List Int) (l m:List zn):List zn:=l++m.filterMap (zm2 nm x st acc)
theorem zlV {nm:ByteArray} {x:Ex} {st:Int} {acc:List Int} {l es:List zn} {m:Nat} (h:m<es.length) (hc:acc.contains (es[m]'h).to=false):za9 nm x st acc l (es.take (m+1))=za9 nm x st acc l (es.take m):=by unfold za9;rw[List.take_succ_eq_append_getElem h,List.filterMap_append,show (List.filterMap (zm2 nm x st acc) [es[m]'h])=[] from by rw[List.filterMap_cons,show zm2 nm x st acc (es[m]'h)=none from by unfold zm2;rw[hc];rfl];rfl,List.append_nil]
theorem zjU {nm:ByteArray} {x:Ex} {st:Int} {acc:List Int} {l es:List zn} {m:Nat} (h:m<es.length) (hc:acc.contains (es[m]'h).to=true):za9 nm x st acc l (es.take (m+1))=za9 nm x st acc l (es.take m)++[⟨(es[m]'h).fr,st+(acc.idxOf (es[m]'h).to:Nat),(es[m]'h).guards,(es[m]'h).sets++[⟨nm,x⟩]⟩]:=by unfold za9;rw[List.take_succ_eq_append_getElem h,List.filterMap_append,←List.append_assoc];congr 1;simp only[List.filterMap_cons,List.filterMap_nil,zm2,hc,if_true]
def zje (st:Int) (k:Nat):List Int:=(List.range k).map λ(i:Nat)=>st+i
theorem zg2 (st:Int) (k:Nat):zje st (k+1)=zje st k++[st+k]:=by unfold zje;rw[List.range_succ,List.map_append];rfl
theorem Qz (st:Int) (k:Nat):(zje st k).length=k:=by simp[zje]
theorem zlW {p:Nat->Bool} {k:Nat} {w0 w:World} (hk:w0.heap.size<=k) (hblk:w.heap[k]? = some (.cells #[.int .i64 0,.slice none 0 0,.slice none 0 0,.bool false] 134 (0,0))) (hb:Below w0.heap.size w0 w) (hp:∀j,p j=true->j<w0.heap.size)
 (s:Tq) (ae:Option Addr) (ce:Nat) (a:Option Addr) (cap:Nat) (x:zm) (ax:YL) {K:Nat} (hr:qn K x) (hK:K<=1000000) (hnm:s.name.size<=1073741824) (hE:yY (World.hide w0 p) s.expr ae ce) (hx:xS (World.hide w0 p) x ax) :
 Calls Tryz.prog 88 #[.pointer (some ⟨k,0,none⟩),ym s ae ce a cap,xq x ax] w (XI p k w0 (zax s.name s.expr x)):=by
 have hkw:=lt_of_block hblk;have hel:=hx.es.len;have hacl:=hx.ac.2.1;have hst:=hr.st;have HXE:=Lib.hid hx.es;have HXC:=Lib.hid hx.ac;have HXA:Hid (x.edges.length=0\/∃b off,ax.ae=some ⟨b,off,none⟩):=hx.es.addr;have HSE:=Lib.hid hE;have Hp:=Lib.hid hp;have HGl:Hid (∀m (h:m<x.edges.length),(x.edges[m]'h).sets.length+1<=1073741824):=λm h=>by have:=(hr.es _ (List.getElem_mem h)).2.2;omega
 have HPo:Hid (∀ve va W,zM (qk p k) k w0 W (x.states+x.accept.length) (za9 s.name s.expr x.states x.accept x.edges x.edges) (zje x.states x.accept.length) ve va->XI p k w0 (zax s.name s.expr x) (.returned (.tuple #[])) W):=λve va W h=>h.post hp rfl rfl rfl (by rw[Qz];exact hacl);have hal:x.accept.length<=256:=by
  have h:=qM.1 (zz.1 hr.ok).2.2;have:∀(l:List Int) (lo:Int),(∀a∈l,lo<=a/\a<256)->l.Pairwise (·<·)->(l.length:Int)<=256-lo\/l.length=0:=by
   intro l
   induction l with
   |nil=>intro lo _ _;exact Or.inr rfl
   |cons y l ih =>
    intro lo h1 h2;have hp2:=List.pairwise_cons.1 h2;have hy:=h1 y (List.mem_cons_self ..);rcases ih (y+1) (λa ha=>⟨by have:=hp2.1 a ha;omega,(h1 a (List.mem_cons_of_mem _ ha)).2⟩) hp2.2 with h3|h3
    ·left;rw[List.length_cons];omega
    ·left;rw[List.length_cons,h3];omega
  have:=this x.accept 0 (λa ha=>by have:=h.1 a ha;omega) h.2;omega
 clear hx hE hp hr;generalize XI p k w0 (zax s.name s.expr x)=Po at HPo⊢;rw[qy,zH];obtain⟨xs,xE,xA⟩:=x;obtain⟨xae,xce,xaa,xca⟩:=ax;simp only at hel hacl hst HXE HXA HXC HGl HPo hal⊢;obtain⟨c0,c1,c2,c3,f0⟩:=zN hblk;have f00:=f0 0;have HBlk:=Lib.hid hblk;clear f0 c1 c3 c2 hblk;go_enter Tryz.func88, Tryz.ntmps88;go_wp2_with fail;generalize hW4:World.alloc (World.alloc (World.setCell w _ _) _) _=W4;have hblk4:W4.heap[k]? = some (.cells #[.int .i64 (xs+xA.length),.slice none 0 0,.slice none 0 0,.bool false] 134 (0,0)):=by rw[←hW4];refine zk (zk ?_);rw[qc HBlk.out 0];rfl
 have hbs4:W4.heap[w.heap.size]? = some (.cells #[.int .i64 s.op,.int .i64 s.lo,.int .i64 s.hi,.int .i64 s.expr.op,.int .i64 s.expr.n,.string s.expr.name,.slice ae s.expr.args.length ce,.string s.name,.slice a s.args.length cap] 27 (0,0)):=by rw[←hW4];exact zk (zh (by simp))
 have hbx4:W4.heap[w.heap.size+1]? = some (.cells #[.int .i64 xs,.slice xae xE.length xce,.slice xaa xA.length xca] 33 (0,0)):=by rw[←hW4];exact zh (by simp)
 have hb4:Below w0.heap.size w0 W4:=by rw[←hW4];have hz:=hb.size;exact((hb.setCell hk _).alloc (by simp;omega) _).alloc (by simp;omega) _
 have hz4:w.heap.size+2<=W4.heap.size:=by rw[←hW4];simp
 clear hW4 c0 f00;have HS4:Hid (zM (qk p k) k w0 W4 (xs+xA.length) [] [] (.slice none 0 0) (.slice none 0 0)):=zM.mk0 hk hblk4 hb4;have HBS:Hid (∀wr ve va,BF k W4 ve va wr->wr.heap[w.heap.size]? = some (.cells #[.int .i64 s.op,.int .i64 s.lo,.int .i64 s.hi,.int .i64 s.expr.op,.int .i64 s.expr.n,.string s.expr.name,.slice ae s.expr.args.length ce,.string s.name,.slice a s.args.length cap] 27 (0,0))):=λwr ve va h=>(h.block w.heap.size (by omega) (by omega)).trans hbs4;have HBX:Hid (∀wr ve va,BF k W4 ve va wr->wr.heap[w.heap.size+1]? = some (.cells #[.int .i64 xs,.slice xae xE.length xce,.slice xaa xA.length xca] 33 (0,0))):=λwr ve va h=>(h.block (w.heap.size+1) (by omega) (by omega)).trans hbx4;have HKP:Hid (∀{wr st L A ve va},zM (qk p k) k w0 wr st L A ve va->Kp (World.hide w0 p) (World.hide wr (hid (hid (qk p k) va) ve))):=λh=>h.kp (zcM hk);have HQL:Hid (∀{wr st L A ve va},zM (qk p k) k w0 wr st L A ve va->∀j,hid (hid (qk p k) va) ve j=true->j<wr.heap.size):=λh j hj=>by
  rcases ze.1 hj with h1|h1
  ·rcases ze.1 h1 with h2|h2
   ·rcases xw.1 h2 with h3|h3
    ·have:=Hp.out j h3;have:=h.sz;omega
    ·subst h3;exact h.e.klt
   ·exact(h.alt j h2).2
  ·exact(h.e.vlt j h1).2
 clear hblk4 hbs4 hbx4 hb4 hb HBlk;generalize hva0:Value.slice none 0 0=va0 at HS4;have HVA0:=Lib.hid hva0;clear hva0;go_loopw [25,7] (λi _ wr=>∃(m:Nat) (ve:Value),i=.int .i64 m/\m<=xE.length/\Hid (zM (qk p k) k w0 wr (xs+xA.length) (xE.take m) [] ve va0)/\Hid (BF k W4 ve va0 wr)) (λi _ _=>xE.length-(intOf i).toNat);case atStart=>exact⟨0,va0,rfl,Nat.zero_le _,by simpa using HS4,by show BF _ _ _ _ _;rw[←HVA0.out];exact BF.refl _ _⟩
 case round =>
  obtain⟨m,ve,rfl,hm,HD,HF⟩:=hrel;have hzr:=HF.out.size;by_cases hlt:m<xE.length
  ·obtain⟨bf,of,hfa⟩:=HXA.out.resolve_left (by omega);subst hfa;have HK0:=Lib.hid (HKP.out HD.out);obtain⟨ag,cg,aS,cs,g0,g1,g2,g3,h1,h2⟩:=yR (HXE.out.keep HK0.out) rfl hlt;have e0:=zb _ _ g0;have e1:=zb _ _ g1;have e2:=zb _ _ g2;have e3:=zb _ _ g3;have HTn:Hid (xE.take m++[xE[m]'hlt]=xE.take (m+1)):=(List.take_succ_eq_append_getElem hlt).symm;have HM:Hid (∀W,Below wr.heap.size wr W->Calls Tryz.prog 136 #[.pointer (some ⟨k,0,none⟩),yT (xE[m]'hlt) ag cg aS cs] W (yl (hid (qk p k) va0) k w0 W (xs+xA.length) (xE.take m++[xE[m]'hlt]) ve va0)):=λW hW=>ZF (HD.out.below hW).e (xE[m]'hlt) ag cg aS cs (h1.keep (zP hW)) (h2.keep (zP hW));clear g0 g1 g2 g3 h1 h2;unfold yT at HM;generalize (xE[m]'hlt)=y at e0 e1 e2 e3 HTn HM;go_wp2_with (go_at_call 136;go_must (refine(HM.out _ bel).mono ?_;rintro e w7 ⟨rfl,u',hD7,hS7⟩));have hBa:Below wr.heap.size wr (wr.alloc (.cells #[.int .i64 y.fr,.int .i64 y.to,.slice ag y.guards.length cg,.slice aS y.sets.length cs] 69)):=(Below.refl _ _).alloc (Nat.le_refl _) _;have HD7:Hid (zM (qk p k) k w0 w7 (xs+xA.length) (xE.take (m+1)) [] u' va0):=by
    show zM _ _ _ _ _ _ _ _ _;rw[←HTn.out];exact(HD.out.below hBa).step hD7 hS7
   have HF7:Hid (BF k W4 u' va0 w7):=(HF.out.below hBa).step hS7;clear hD7 hS7 hBa;go_roundw;case rel=>exact⟨m+1,u',by go_num,by omega,HD7.out,HF7.out⟩
   case measure=>(simp[intOf];try omega)
  ·obtain rfl:m=xE.length:=by omega
   have HDf:Hid (zM (qk p k) k w0 wr (xs+xA.length) (za9 s.name s.expr xs xA xE (xE.take 0)) [] ve va0):=by show zM _ _ _ _ _ _ _ _ _;have:=HD.out;rw[List.take_length]at this;simpa [za9] using this
   have hbx:=HBX.out _ _ _ HF.out;obtain⟨x0,x1,x2⟩:=zv hbx;clear HD hbx;go_wp2_with fail;rename World=>wa;clear x0 x1 x2;go_loopw [36,9,10] (λi _ _ wr=>∃(m:Nat) (ve:Value),i=.int .i64 m/\m<=xE.length/\Hid (zM (qk p k) k w0 wr (xs+xA.length) (za9 s.name s.expr xs xA xE (xE.take m)) [] ve va0)/\Hid (BF k W4 ve va0 wr)) (λi _ _ _=>xE.length-(intOf i).toNat);case atStart=>exact⟨0,ve,rfl,Nat.zero_le _,HDf.out,HF.out⟩
   case round =>
    clear HDf HF;obtain⟨m,ve,rfl,hm2,HD,HF⟩:=hrel;have hzr:=HF.out.size;by_cases hlt:m<xE.length
    ·obtain⟨bf,of,hfa⟩:=HXA.out.resolve_left (by omega);subst hfa;have HK0:=Lib.hid (HKP.out HD.out);obtain⟨ag,cg,aS,cs,g0,g1,g2,g3,h1,h2⟩:=yR (HXE.out.keep HK0.out) rfl hlt;have e0:=zb _ _ g0;have e1:=zb _ _ g1;have e2:=zb _ _ g2;have e3:=zb _ _ g3;have hgl:=HGl.out m hlt;have HNo:Hid (xA.contains (xE[m]'hlt).to=false->za9 s.name s.expr xs xA xE (xE.take (m+1))=za9 s.name s.expr xs xA xE (xE.take m)):=λh=>zlV hlt h;have HYes:Hid (xA.contains (xE[m]'hlt).to=true->za9 s.name s.expr xs xA xE (xE.take m)++[⟨(xE[m]'hlt).fr,xs+(xA.idxOf (xE[m]'hlt).to:Nat),(xE[m]'hlt).guards,(xE[m]'hlt).sets++[⟨s.name,s.expr⟩]⟩]=za9 s.name s.expr xs xA xE (xE.take (m+1))):=λh=>(zjU hlt h).symm;have HH1:=Lib.hid h1;have HH2:=Lib.hid h2;have HSE1:=Lib.hid (HSE.out.keep HK0.out);have hbx:=HBX.out _ _ _ HF.out;obtain⟨x0,x1,x2⟩:=zv hbx;have x0o:∀o,(wr.alloc o).cell? ⟨w.heap.size+1,0,none⟩=some (.int .i64 xs):=λo=>Lib.cell?_alloc_some _ x0;have x2o:∀o,(wr.alloc o).cell? ⟨w.heap.size+1,2,none⟩=some (.slice xaa xA.length xca):=λo=>Lib.cell?_alloc_some _ x2;have HXI:Hid (∀W,Below wr.heap.size wr W->IntsIn W xA xaa xca):=λW hW=>HXC.out.keep λa u h=>za hW _ _ (zb _ _ (HK0.out _ _ h));have HIx:Hid (∀W,Below wr.heap.size wr W->Calls Tryz.prog 116 #[.slice xaa xA.length xca,.int .i64 (xE[m]'hlt).to] W λe w'=>e=.returned (.int .i64 (zkz xA (xE[m]'hlt).to))/\w'=W):=λW hW=>zjv xA xaa xca _ W (HXI.out W hW)
     clear g0 g1 g2 g3 h1 h2 hbx;generalize (xE[m]'hlt)=y at e0 e1 e2 e3 hgl HNo HYes HH1 HH2 HIx;cases hc:xA.contains y.to with
     |false =>
      have hiz:zkz xA y.to=-1:=by unfold zkz;rw[hc];rfl
      have HTn:=Lib.hid (HNo.out hc);rw[hiz]at HIx;clear hiz hc HNo HYes x0o x0 x1;go_wp2_with (go_at_call 116;go_must (refine(HIx.out _ bel).mono ?_;rintro e w7 ⟨rfl,rfl⟩));have hBa:Below wr.heap.size wr (wr.alloc (.cells #[.int .i64 y.fr,.int .i64 y.to,.slice ag y.guards.length cg,.slice aS y.sets.length cs] 69)):=(Below.refl _ _).alloc (Nat.le_refl _) _;have HD7:Hid (zM (qk p k) k w0 (wr.alloc (.cells #[.int .i64 y.fr,.int .i64 y.to,.slice ag y.guards.length cg,.slice aS y.sets.length cs] 69)) (xs+xA.length) (za9 s.name s.expr xs xA xE (xE.take (m+1))) [] ve va0):=by show zM _ _ _ _ _ _ _ _ _;rw[HTn.out];exact HD.out.below hBa
      have HF7:=Lib.hid (HF.out.below hBa);clear hBa;go_roundw;case rel=>exact⟨m+1,ve,by go_num,by omega,HD7.out,HF7.out⟩
      case measure=>(simp[intOf];try omega)
     |true =>
      have hiz:zkz xA y.to=(xA.idxOf y.to:Nat):=by unfold zkz;rw[hc];rfl
      have HTn:=Lib.hid (HYes.out hc);have hil:xA.idxOf y.to<256:=Nat.lt_of_lt_of_le (List.idxOf_lt_length_of_mem (by simpa using hc)) hal;rw[hiz]at HIx;clear hiz hc HNo HYes x1;generalize xA.idxOf y.to=ix at HIx HTn hil;have hix0:(0:Int)<=(ix:Int):=by omega
      go_upto_region 12 with (go_at_call 116;go_must (refine(HIx.out _ bel).mono ?_;rintro e w7 ⟨rfl,rfl⟩));generalize hW5:World.alloc wr _=W5;have hbw5:W5.heap[wr.heap.size]? = some (.cells #[.int .i64 y.fr,.int .i64 y.to,.slice ag y.guards.length cg,.slice aS y.sets.length cs] 69 (0,0)):=by rw[←hW5];exact zh rfl
      have hB5:Below wr.heap.size wr W5:=by rw[←hW5];exact(Below.refl _ _).alloc (Nat.le_refl _) _
      have hz5:wr.heap.size<W5.heap.size:=by rw[←hW5];simp
      have hbs:=HBS.out _ _ _ HF.out;obtain⟨-,-,-,x3,x4,x5,x6,x7,-⟩:=QO ((hB5.block _ (lt_of_block hbs)).trans hbs);have y0:W5.cell? ⟨w.heap.size+1,0,none⟩=some (.int .i64 xs):=by rw[←hW5];exact x0o _
      obtain⟨b0,b1,b2,b3,bF⟩:=zN hbw5;clear hW5 x0o x2o e0 e1 e2 e3 hbs x0 x2;obtain⟨q6,hq6⟩:∃q6:Nat->Bool,(λj=>hid (hid (qk p k) va0) ve j||j==wr.heap.size)=q6:=⟨_,rfl⟩;have Q6:Hid (∀j,q6 j=true<->hid (hid (qk p k) va0) ve j=true\/j=wr.heap.size):=λj=>by rw[←hq6];simp
      have HQlt:=Lib.hid (HQL.out HD.out);have hk65:Kp (World.hide wr (hid (hid (qk p k) va0) ve)) (World.hide W5 q6):=zg hB5 λj hj h=>((Q6.out j).1 h).elim id λe=>by omega
      clear hq6;have HCl:Hid (∀W,Below W5.heap.size W5 W->Calls Tryz.prog 145 #[.slice aS y.sets.length cs] W λe w'=>(∃a c,e=.returned (.slice a y.sets.length c)/\bdE.Own 85 q6 w' W5.heap.size (.slice a y.sets.length c) y.sets)/\Below W.heap.size W w'/\Below W5.heap.size W5 w'):=λW hW=>by refine(zlc q6 y.sets aS cs W (HH2.out.keep (hk65.trans (zg hW λ_ _ h=>h)))).mono ?_;rintro e w' ⟨⟨v,rfl,h1⟩,h2⟩;obtain⟨a,c,rfl,_⟩:=h1.slice (by omega);exact⟨⟨a,c,rfl,zeH h1 hW.size⟩,h2,hW.trans (h2.mono hW.size)⟩
      have HRx:Hid (∀W v,Below W5.heap.size W5 W->(∀j,Value.ownBlock v=some j->W5.heap.size<=j)->bdR (World.hide W (hid q6 v)) ⟨s.name,s.expr⟩ [.string s.name,.int .i64 s.expr.op,.int .i64 s.expr.n,.string s.expr.name,.slice ae s.expr.args.length ce]):=λW v hW hv=>⟨ae,ce,rfl,hnm,HSE1.out.keep (hk65.trans (zg hW λj hj h=>(ze.1 h).elim id λe=>by have:=hv j e;omega))⟩;have HS5:Hid (∀W,Below W5.heap.size W5 W->W.cell? ⟨wr.heap.size,3,none⟩=some (.slice aS y.sets.length cs)/\W.cell? ⟨w.heap.size,3,none⟩=some (.int .i64 s.expr.op)/\W.cell? ⟨w.heap.size,4,none⟩=some (.int .i64 s.expr.n)/\W.cell? ⟨w.heap.size,5,none⟩=some (.string s.expr.name)/\W.cell? ⟨w.heap.size,6,none⟩=some (.slice ae s.expr.args.length ce)/\W.cell? ⟨w.heap.size,7,none⟩=some (.string s.name)):=λW hW=>⟨za hW _ _ b3,za hW _ _ x3,za hW _ _ x4,za hW _ _ x5,za hW _ _ x6,za hW _ _ x7⟩;have HBw5:=Lib.hid hbw5;have HB5:=Lib.hid hB5;have hs5:Below W5.heap.size W5 W5:=Below.refl _ _;have X3:∀o,(W5.alloc o).cell? ⟨w.heap.size,3,none⟩=some (.int .i64 s.expr.op):=λo=>Lib.cell?_alloc_some _ x3;have X4:∀o,(W5.alloc o).cell? ⟨w.heap.size,4,none⟩=some (.int .i64 s.expr.n):=λo=>Lib.cell?_alloc_some _ x4;have X5:∀o,(W5.alloc o).cell? ⟨w.heap.size,5,none⟩=some (.string s.expr.name):=λo=>Lib.cell?_alloc_some _ x5;have X6:∀o,(W5.alloc o).cell? ⟨w.heap.size,6,none⟩=some (.slice ae s.expr.args.length ce):=λo=>Lib.cell?_alloc_some _ x6
      have X7:∀o,(W5.alloc o).cell? ⟨w.heap.size,7,none⟩=some (.string s.name):=λo=>Lib.cell?_alloc_some _ x7;have B3:∀o,(W5.alloc o).cell? ⟨wr.heap.size,3,none⟩=some (.slice aS y.sets.length cs):=λo=>Lib.cell?_alloc_some _ b3;have HY0:=Lib.hid y0;clear hbw5 hB5 hk65 bF b0 b1 b2 y0
      go_region_law (first
       |(go_simp;go_at_call 145;(with_reducible refine(HCl.out _ (by first|with_reducible assumption|exact yx)).mono ?_);rintro e v1 ⟨⟨a1,k1,rfl,hc1⟩,hb1,hB1⟩;have hs1:=hB1.size;have HC1:=Lib.hid hc1;obtain⟨j2,j3,j4,j5,j6,j7⟩:=HS5.out _ hB1;clear hc1)
       |(refine xR (E:=bdE) zci (by rfl) _ _ (by rfl) q6 W5.heap.size (.slice a1 y.sets.length k1) (by rfl) (HC1.out.below (by first|exact Below.refl _ _|exact yx)) ⟨s.name,s.expr⟩ [.string s.name,.int .i64 s.expr.op,.int .i64 s.expr.n,.string s.expr.name,.slice ae s.expr.args.length ce] (HRx.out _ _ (by first|with_reducible assumption|exact yx) (λj hj=>(zl HC1.out j hj).1)) _ 1 (by rfl) (by first|exact zi _ _|exact hbT hb1 (zh rfl)) y.sets.length rfl hgl (by first|omega|(simp;omega)) _ rfl ?_;intro gg gcap wg hownG hgrow hatG hltG;have hbg:wg.heap[wr.heap.size]? = some (.cells #[.int .i64 y.fr,.int .i64 y.to,.slice ag y.guards.length cg,.slice aS y.sets.length cs] 69 (0,0)):=((hgrow.block wr.heap.size (by first|omega|(simp;omega)) (λe=>by have:=(zl HC1.out _ e.symm).1;omega)).trans ((Below.block (B:=W5.heap.size) (by first|with_reducible assumption|exact yx) _ hz5).trans HBw5.out));obtain⟨i0,i1,i2,i3,iF⟩:=zN hbg))
      all_goals
       have hBg:=zg9 hgrow HB5.out (by first|with_reducible assumption|exact yx) (λj hj=>(zl HC1.out j hj).1);have hgg:=zl hownG gg rfl;have hq6b:q6 wr.heap.size=true:=(Q6.out _).2 (Or.inr rfl);have hown9:=qR (o:=3) (u:=.slice (some ⟨gg,0,none⟩) (y.sets.length+1) gcap) hq6b (λe=>by have:=Option.some.inj e;simp only at this;omega) hownG;have hIn9:bdE.In (World.hide (wg.setCell ⟨wr.heap.size,3,none⟩ (.slice (some ⟨gg,0,none⟩) (y.sets.length+1) gcap)) (hid (hid (qk p k) va0) ve)) (y.sets++[⟨s.name,s.expr⟩]) (some ⟨gg,0,none⟩) gcap:=zkI hown9 (by rw[List.length_append];simpa using hgl) (λj hj=>(Q6.out j).2 (Or.inl hj)) λj hj=>by have:=HQlt.out j hj;omega
       have hB9:Below wr.heap.size wr (wg.setCell ⟨wr.heap.size,3,none⟩ (.slice (some ⟨gg,0,none⟩) (y.sets.length+1) gcap)):=hBg.setCell (Nat.le_refl _) _;have hbx9:=HBX.out _ _ _ (HF.out.below hB9);obtain⟨z0,-,-⟩:=zv hbx9;have HM:Hid (Calls Tryz.prog 142 #[.pointer (some ⟨k,0,none⟩),.agg #[.int .i64 y.fr,.int .i64 y.to,.slice ag y.guards.length cg,.slice (some ⟨gg,0,none⟩) (y.sets.length+1) gcap],.int .i64 y.fr,.int .i64 (xs+(ix:Int))] (wg.setCell ⟨wr.heap.size,3,none⟩ (.slice (some ⟨gg,0,none⟩) (y.sets.length+1) gcap)) (yl (hid (qk p k) va0) k w0 (wg.setCell ⟨wr.heap.size,3,none⟩ (.slice (some ⟨gg,0,none⟩) (y.sets.length+1) gcap)) (xs+xA.length) (za9 s.name s.expr xs xA xE (xE.take m)++[⟨y.fr,xs+(ix:Int),y.guards,y.sets++[⟨s.name,s.expr⟩]⟩]) ve va0)):=by
        have h:=Yg (HD.out.below hB9).e ⟨y.fr,y.to,y.guards,y.sets++[⟨s.name,s.expr⟩]⟩ ag cg (some ⟨gg,0,none⟩) gcap y.fr (xs+(ix:Int)) (HH1.out.keep (zP hB9)) hIn9;have e:(y.sets++[(⟨s.name,s.expr⟩:qi)]).length=y.sets.length+1:=by simp
        unfold yT at h;simp only at h;rw[e]at h;exact h
       have HB9:=Lib.hid hB9;clear hBg hgg hq6b hown9 hIn9 hB9 hownG hgrow hatG hltG hbg hbx9;go_wp2_with fail;refine HM.out.mono ?_;rintro e w7 ⟨rfl,u',hD7,hS7⟩;have HD7:Hid (zM (qk p k) k w0 w7 (xs+xA.length) (za9 s.name s.expr xs xA xE (xE.take (m+1))) [] u' va0):=by show zM _ _ _ _ _ _ _ _ _;rw[←HTn.out];exact(HD.out.below HB9.out).step hD7 hS7
       have HF7:Hid (BF k W4 u' va0 w7):=(HF.out.below HB9.out).step hS7;clear hD7 hS7;go_wp2_with fail;go_roundw;case rel=>exact⟨m+1,u',by go_num,by omega,HD7.out,HF7.out⟩
       case measure=>(simp[intOf];try omega)
    ·obtain rfl:m=xE.length:=by omega
     have HDf:Hid (zM (qk p k) k w0 wr (xs+xA.length) (za9 s.name s.expr xs xA xE xE) (zje xs 0) ve va0):=by show zM _ _ _ _ _ _ _ _ _;have:=HD.out;rw[List.take_length]at this;exact this
     have hbx:=HBX.out _ _ _ HF.out;obtain⟨x0,x1,x2⟩:=zv hbx;clear HD hbx;go_wp2_with fail;rename World=>wb;clear x0 x1 x2;go_loopw [71,11] (λi _ wr=>∃(m:Nat) (va:Value),i=.int .i64 m/\m<=xA.length/\Hid (zM (qk p k) k w0 wr (xs+xA.length) (za9 s.name s.expr xs xA xE xE) (zje xs m) ve va)/\Hid (BF k W4 ve va wr)) (λi _ _=>xA.length-(intOf i).toNat);case atStart=>exact⟨0,va0,rfl,Nat.zero_le _,HDf.out,HF.out⟩
     case round =>
      clear HDf HF;obtain⟨m,va,rfl,hm3,HD,HF⟩:=hrel;have hzr:=HF.out.size;by_cases hlt:m<xA.length
      ·have hbx:=HBX.out _ _ _ HF.out;obtain⟨x0,-,-⟩:=zv hbx;obtain⟨av,cv,hv,_⟩:=HD.out.a.slice (by rw[Qz];omega);rw[Qz]at hv;have hblk:=HD.out.e.blk;obtain⟨-,-,d2,-,df⟩:=zN hblk;have df2:=df 2;have hkl:=HD.out.e.klt;have hne:=HD.out.ane;subst hv;have d2o:∀o,(wr.alloc o).cell? ⟨k,2,none⟩=some (.slice av m cv):=λo=>Lib.cell?_alloc_some _ d2;have x0o:∀o,(wr.alloc o).cell? ⟨w.heap.size+1,0,none⟩=some (.int .i64 xs):=λo=>Lib.cell?_alloc_some _ x0;have hzB:=HD.out.sz;have hm256:(m:Int)<256:=by omega
       have hst1:=hst.1;have hst2:=hst.2;have hkw:IntKind.i64.wrap (xs+(m:Int))=xs+m:=by rw[IntKind.wrap_i64];omega
       clear hbx hblk df;go_upto_region 18 with fail;go_region_law ((refine xR (E:=inE) zaR (by rfl) _ _ (by rfl) (qk p k) w0.heap.size (.slice av m cv) (by rfl) (HD.out.a.below yx) (xs+m) [.int .i64 (xs+m)] rfl wr.heap.size 1 (by rfl) (zi wr _) m (Qz _ _) (by omega) (by simp;omega) (wr.heap.size+1) (by simp) ?_;intro gg gcap wg hownG hgrow hatG hltG;have f1g:wg.frozen? ⟨k,2,none⟩=false:=((hgrow.frozen_far ⟨k,2,none⟩ (by simp;omega) hne).trans (World.frozen?_alloc_old _ _ _ (Nat.ne_of_lt hkl))).trans df2;have c1g:wg.cell? ⟨k,2,none⟩=some (.slice av m cv):=(hgrow.cell_far ⟨k,2,none⟩ (by simp;omega) hne).trans (d2o _)))
       all_goals
        have hal2:Below wr.heap.size wr (wr.alloc (.cells #[.int .i64 (xs+m)] 3)).drew:=Below.drew ((Below.refl _ _).alloc (Nat.le_refl _) _);have hD9:zM (qk p k) k w0 (wg.setCell ⟨k,2,none⟩ (.slice (some ⟨gg,0,none⟩) (m+1) gcap)) (xs+xA.length) (za9 s.name s.expr xs xA xE xE) (zje xs (m+1)) ve (.slice (some ⟨gg,0,none⟩) (m+1) gcap):=by rw[zg2];exact(HD.out.below hal2).acc hownG hgrow (hatG.imp (λe=>e.symm) λe=>⟨gg,rfl,by simp;omega⟩)
        have hF9:BF k W4 ve (.slice (some ⟨gg,0,none⟩) (m+1) gcap) (wg.setCell ⟨k,2,none⟩ (.slice (some ⟨gg,0,none⟩) (m+1) gcap)):=(HF.out.below hal2).acc hgrow (hatG.imp (λe=>e.symm) λe=>⟨gg,rfl,by simp;omega⟩) _ _;have HD9:=Lib.hid hD9;have HF9:=Lib.hid hF9;clear hD9 hF9 hownG hgrow hatG hltG f1g c1g;go_wp2_with fail;go_roundw;case rel=>exact⟨m+1,_,by go_num,by omega,HD9.out,HF9.out⟩
        case measure=>(simp[intOf];try omega)
      ·obtain rfl:m=xA.length:=by omega
       go_wp2_with fail;first|exact HPo.out _ _ _ HD.out|(refine bodyPost_ret (results_none rfl _ _ _) rfl ?_;exact HPo.out _ _ _ HD.out)
def Y7 (e:zn):Prop:=(∀g∈e.guards,g.nodes.length<=400)/\∀b∈e.sets,b.expr.nodes.length<=400
theorem Y7.small {e:zn} (h:Y7 e):XK e:=⟨λg hg=>by have:=h.1 g hg;omega,λb hb=>by have:=h.2 b hb;omega⟩
theorem zaq {l:List Int} {n:zm} {base:Int} (h:∀e∈n.edges,Y7 e):∀e∈zJ l n base,Y7 e:=λe he=>by obtain⟨s,_,he⟩:=List.mem_flatMap.1 he;obtain⟨f,hf,rfl⟩:=List.mem_map.1 he;exact h f (List.mem_filter.1 hf).1
theorem zif {n:zm} {base:Int} (h:∀e∈n.edges,Y7 e):∀e∈Qt n base,Y7 e:=λe he=>by obtain⟨f,hf,rfl⟩:=List.mem_map.1 he;exact h f (List.mem_filter.1 hf).1
theorem zkM (f t:Int):XK ⟨f,t,[],[]⟩:=⟨λg hg=>(by cases hg),λb hb=>(by cases hb)⟩
theorem zi8 {lo hi:Int} {x y:zm} (hx:∀e∈x.edges,Y7 e) (hy:∀e∈y.edges,Y7 e):yH (yC lo hi x y):=by
 intro e he;simp only[yC,List.mem_append]at he;rcases he with ((((he|he)|he)|he)|he)|he
 ·exact(hx e he).small
 ·split at he
  ·rcases List.mem_append.1 he with he|he
   ·obtain⟨a,_,rfl⟩:=List.mem_map.1 he;exact zkM _ _
   ·obtain⟨i,_,rfl⟩:=List.mem_map.1 he;exact zkM _ _
  ·cases he
 ·split at he
  ·obtain⟨g,hg,he⟩:=List.mem_flatMap.1 he;split at he
   ·obtain⟨f,hf,rfl⟩:=List.mem_map.1 he;have h1:=hx g hg;have h2:=hy f (List.mem_filter.1 hf).1;refine⟨λz hz=>?_,λb hb=>?_⟩
    ·rcases List.mem_append.1 hz with hz|hz
     ·have:=h1.1 z hz;omega
     ·obtain⟨z0,hz0,rfl⟩:=List.mem_map.1 hz;have:=zd7 h1.2 g.sets.length z0 (by have:=h2.1 z0 hz0;omega);omega
    ·rcases List.mem_append.1 hb with hb|hb
     ·have:=h1.2 b hb;omega
     ·have:=h2.2 b hb;omega
   ·cases he
  ·cases he
 ·split at he
  ·exact(zaq hy e he).small
  ·cases he
 ·obtain⟨i,_,he⟩:=List.mem_flatMap.1 he;split at he
  ·exact(zaq hy e he).small
  ·cases he
 ·exact(zif hy e he).small
theorem zmW {lo hi:Int} {n:zm} (hn:∀e∈n.edges,Y7 e):yH (zcP lo hi n):=by
 have:∀c,∀e∈Xy n c,Y7 e:=by
  intro c
  induction c with
  |zero=>intro e he;cases he
  |succ c ih =>
   cases c with
   |zero=>exact hn
   |succ c =>
    intro e he;rw[Xy]at he
    ·rcases List.mem_append.1 he with he|he
     ·rcases List.mem_append.1 he with he|he
      ·exact ih e he
      ·exact zaq hn e he
     ·exact zif hn e he
    ·simp
 exact λe he=>(this _ e he).small
theorem znw:∀(ps:List zm) (out:zm),(∀n∈ps,∀e∈n.edges,Y7 e)->yH out->yH (ps.foldl xG out):=by
 intro ps
 induction ps with
 |nil=>intro out _ h;exact h
 |cons n ps ih =>
  intro out hp h1;rw[List.foldl_cons];refine ih _ (λm hm=>hp m (List.mem_cons_of_mem _ hm)) λe he=>?_;simp only[xG,List.mem_append]at he;rcases he with he|he
  ·exact h1 e he
  ·obtain⟨f,hf,rfl⟩:=List.mem_map.1 he;have h:=(hp n (List.mem_cons_self ..) f hf).small;exact⟨h.gs,h.ss⟩
theorem zm3 {n:zm} {nm:ByteArray} {x:Ex} (hn:∀e∈n.edges,Y7 e) (hx:x.nodes.length<=400):yH (zax nm x n):=by
 intro e he;simp only[zax,List.mem_append]at he;rcases he with he|he
 ·exact(hn e he).small
 ·obtain⟨f,hf,he⟩:=List.mem_filterMap.1 he;split at he
  ·obtain rfl:=Option.some.inj he;have h1:=hn f hf;refine⟨λg hg=>by have:=h1.1 g hg;omega,λb hb=>?_⟩;rcases List.mem_append.1 hb with hb|hb
   ·have:=h1.2 b hb;omega
   ·obtain rfl:=List.mem_singleton.1 hb;show x.nodes.length<=_;omega
  ·cases he
theorem zll {n:zm} {x:Ex} (hn:∀e∈n.edges,Y7 e) (hx:x.nodes.length<=400):yH (Qs x n):=by
 intro e he;obtain⟨f,hf,rfl⟩:=List.mem_map.1 he;have h1:=hn f hf;refine⟨λg hg=>?_,λb hb=>by have:=h1.2 b hb;omega⟩;rcases List.mem_append.1 hg with hg|hg
 ·have:=h1.1 g hg;omega
 ·obtain rfl:=List.mem_singleton.1 hg;omega
theorem X8 {K:Nat} {n:zm} (h:qn K n):∀e∈n.edges,Y7 e:=λe he=>ZK h.ok he
theorem zk8 {x:Ex} (hx:x.nodes.length<=400):yH ⟨2,[⟨0,1,[x],[]⟩],[1]⟩:=λe he=>by obtain rfl:=List.mem_singleton.1 he;exact⟨λg hg=>by obtain rfl:=List.mem_singleton.1 hg;omega,λb hb=>by cases hb⟩
theorem zlD {w:World} {B g size:Nat} {t:TypeId} {vs:List Value} (hB:B<=g) (hl:vs.length=size) (h:w.heap[g]? = some (.cells vs.toArray t (0,0))):w.ownsRow B t size (.slice (some ⟨g,0,none⟩) 1 1) 1 vs :=
 ⟨by simpa using hl,.inr ⟨g,1,vs.toArray,rfl,hB,h,Nat.le_refl _,by unfold maxLen;omega,by simpa using hl,by simp[←hl]⟩⟩
theorem ziX {q:Nat->Bool} {wr W:World} {kb g1 g2 g3:Nat} {x:Ex} {xa:Option Addr} {xc:Nat} (hk:wr.heap.size<=kb) (h1:W.heap[g1]? = some (.cells #[.int .i64 x.op,.int .i64 x.n,.string x.name,.slice xa x.args.length xc] 24 (0,0)))
 (h2:W.heap[g2]? = some (.cells #[.int .i64 0,.int .i64 1,.slice (some ⟨g1,0,none⟩) 1 1,.slice none 0 0] 69 (0,0))) (h3:W.heap[g3]? = some (.cells #[.int .i64 1] 3 (0,0)))
 (hkb:W.heap[kb]? = some (.cells #[.int .i64 2,.slice (some ⟨g2,0,none⟩) 1 1,.slice (some ⟨g3,0,none⟩) 1 1,.bool false] 134 (0,0))) (hb:Below wr.heap.size wr W) (hx:yY (World.hide wr q) x xa xc) (hq:∀j,q j=true->j<wr.heap.size) (hg:kb<g1/\g1<g2/\g2<g3) :
 XI q kb wr ⟨2,[⟨0,1,[x],[]⟩],[1]⟩ (.returned (.tuple #[])) W:=by
 have hqo:∀j,wr.heap.size<=j->q j=false:=λj hj=>by
  cases h:q j with
  |false=>rfl
  |true=>have:=hq j h;omega
 have hqk:∀j,j≠kb->wr.heap.size<=j->qk q kb j=false:=λj hj hl=>by
  cases h:qk q kb j with
  |false=>rfl
  |true =>
   rcases xw.1 h with h|h
   ·rw[hqo j hl]at h;cases h
   ·exact absurd h hj
 have hk2:Kp (World.hide wr q) (World.hide W (hid (qk q kb) (.slice (some ⟨g2,0,none⟩) 1 1))):=zg hb λj hj h=>by
  rcases ze.1 h with h|h
  ·rcases xw.1 h with h|h
   ·exact h
   ·omega
  ·have:=Option.some.inj h;simp only at this;omega
 refine⟨rfl,qk q kb,.slice (some ⟨g2,0,none⟩) 1 1,some ⟨g3,0,none⟩,1,λj hj=>xw.2 (Or.inl hj),⟨hk,xw.2 (Or.inr rfl),hkb,⟨_,zlD (vs:=[.int .i64 0,.int .i64 1,.slice (some ⟨g1,0,none⟩) 1 1,.slice none 0 0]) (by omega) rfl h2,Enc.Vals.one ⟨some ⟨g1,0,none⟩,1,none,0,rfl,?_,Enc.In.nil _⟩⟩,hb⟩,?_⟩
 ·refine Enc.Vals.in (E:=exE) (Enc.Vals.one (E:=exE) (x:=x) ⟨xa,xc,rfl,hx.keep hk2⟩) (λj v hj=>?_) (by simp) (Nat.le_refl _);refine zy.2 ⟨?_,?_⟩
  ·show hid _ _ g1=false;cases h:hid (qk q kb) (.slice (some ⟨g2,0,none⟩) 1 1) g1 with
   |false=>rfl
   |true =>
    rcases ze.1 h with h|h
    ·rw[hqk g1 (by omega) (by omega)]at h;cases h
    ·have:=Option.some.inj h;simp only at this;omega
  ·rw[zc h1,Nat.zero_add];simpa using hj
 ·refine⟨Nat.le_refl _,by simp,Or.inr ⟨g3,0,rfl,λi hi=>?_⟩⟩;have hi0:i=0:=by simpa using hi
  subst hi0;refine⟨1,rfl,zy.2 ⟨hqo _ (by show _<=g3;omega),?_⟩⟩;rw[zc h3];rfl
end Go.Proofs.YthojpomoflhbcaaGreatDoor
