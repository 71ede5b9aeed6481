/- nfa.builder: delay. -/
import Derived.Test.YtnfkbliokjjggaaGreatDoorH17
import Derived.Test.YtnfkbliokjjggaaGreatDoorH28
set_option maxHeartbeats 32000000
set_option maxRecDepth 100000
set_option linter.unusedSimpArgs false
set_option linter.unusedVariables false
set_option linter.unnecessarySimpa false
namespace Go.Proofs.YtnfkbliokjjggaaGreatDoor
open Go.RowKit
attribute [local go_sem ↓] Go.wp_at_zero Go.wp_at_succ
theorem zdi (x y:zt) (base:Int) {m:Nat} (h:m<x.edges.length):(x.edges.take (m+1)).flatMap (λe=>if x.accept.contains e.to then (zS y).map λf=>zQ e f (base+f.to) else [])=(x.edges.take m).flatMap (λe=>if x.accept.contains e.to then (zS y).map λf=>zQ e f (base+f.to) else [])++(if x.accept.contains (x.edges[m]'h).to then (zS y).map λf=>zQ (x.edges[m]'h) f (base+f.to) else []):=by rw[List.take_succ_eq_append_getElem h,List.flatMap_append,List.flatMap_singleton]
theorem QF (x y:zt) (lo hi base:Int) (k:Nat):Yr x y lo hi base (k+1)=Yr x y lo hi base k++(if lo<=k+2/\(k:Int)+2<=hi then zO [x.states+k] y base else []):=by unfold Yr;rw[List.range_succ,List.flatMap_append,List.flatMap_singleton]
def YZ (st a:Int):zk:=⟨a,st,[],[]⟩
theorem zbA (st:Int) (k:Nat):qa st (k+1)=qa st k++[⟨st+k,st+k+1,[],[]⟩]:=by unfold qa;rw[List.range_succ,List.map_append];rfl
theorem zeG {p:Nat->Bool} {k:Nat} {w0 w:World} (hk:w0.heap.size<=k) (hblk:w.heap[k]? = some (.cells #[.int .i64 0,.slice none 0 0,.slice none 0 0,.bool false] 150 (0,0))) (hb:Below w0.heap.size w0 w) (hp:∀j,p j=true->j<w0.heap.size)
 (s:Tq) (ae:Option Addr) (ce:Nat) (a:Option Addr) (cap:Nat) (x y:zt) (ax ay:qn) {K K':Nat} (hrx:qO K x) (hry:qO K' y) (hK:K+K'<=1000000) (hlo:0<=s.lo) (hlh:s.lo<=s.hi) (hhi:s.hi<=16) (hx:yb (World.hide w0 p) x ax) (hy:yb (World.hide w0 p) y ay) :
 Calls Tryz.prog 83 #[.pointer (some ⟨k,0,none⟩),xw s ae ce a cap,ye x ax,ye y ay] w (zhI p k w0 (y5 s.lo s.hi x y)):=by
 have hkw:=lt_of_block hblk;have hel:=hx.es.len;have hyl:=hy.es.len;have hacl:=hx.ac.2.1;have hycl:=hy.ac.2.1;obtain⟨hst1,hst2⟩:=hrx.st;obtain⟨hyt1,hyt2⟩:=hry.st;have HXE:=Lib.hid hx.es;have HXC:=Lib.hid hx.ac;have HYI:=Lib.hid hy;have HXA:Hid (x.edges.length=0\/∃b off,ax.ae=some ⟨b,off,none⟩):=hx.es.addr;have HXCA:Hid (x.accept.length=0\/∃b off,ax.aa=some ⟨b,off,none⟩):=zw.addr hx.ac;have HYCA:Hid (y.accept.length=0\/∃b off,ay.aa=some ⟨b,off,none⟩):=zw.addr hy.ac;have Hp:=Lib.hid hp;have HYE:=Lib.hid hry.ends;have HXacc:=Lib.hid hrx.acc;have HYacc:=Lib.hid hry.acc;have HXs:Hid (∀e∈x.edges,(∀g∈e.guards,g.nodes.length<=400)/\(∀b∈e.sets,b.expr.nodes.length<=400)/\e.guards.length<=K/\e.sets.length<=K):=λe he=>⟨(Zw hrx.ok he).1,(Zw hrx.ok he).2,(hrx.es e he).2.1,(hrx.es e he).2.2⟩;have HYs:Hid (∀e∈y.edges,(∀g∈e.guards,g.nodes.length<=400)/\(∀b∈e.sets,b.expr.nodes.length<=400)/\e.guards.length<=K'/\e.sets.length<=K'):=λe he=>⟨(Zw hry.ok he).1,(Zw hry.ok he).2,(hry.es e he).2.1,(hry.es e he).2.2⟩;have HYel:Hid (∀(ve va:Value) (W:World),yk (qk p k) k w0 W (x.states+y8 s.hi-1+y.states) (y5 s.lo s.hi x y).edges (y5 s.lo s.hi x y).accept ve va->zhI p k w0 (y5 s.lo s.hi x y) (.returned (.tuple #[])) W):=λve va W h=>h.post hp rfl rfl rfl (by show (y.accept.map _).length<=_;rw[List.length_map];exact hycl)
 have HdE:Hid ((y5 s.lo s.hi x y).edges=x.edges++(if 0<y8 s.hi then x.accept.map (λa=>⟨a,x.states,[],[]⟩)++qa x.states (y8 s.hi-1) else [])++(if s.lo=0 then zh6 x y (x.states+y8 s.hi-1) else []) ++
  (if s.lo<=1/\1<=s.hi then zO x.accept y (x.states+y8 s.hi-1) else [])++Yr x y s.lo s.hi (x.states+y8 s.hi-1) (y8 s.hi)++zfx y (x.states+y8 s.hi-1)):=rfl
 have HdA:Hid ((y5 s.lo s.hi x y).accept=y.accept.map (x.states+y8 s.hi-1+·)):=rfl;have hwt:(y8 s.hi:Int)=max (s.hi-1) 0:=by unfold y8;omega
 have hw16:y8 s.hi<=15:=by unfold y8;omega
 clear hx hy hp hrx hry;generalize zhI p k w0 (y5 s.lo s.hi x y)=Po at HYel⊢;generalize (y5 s.lo s.hi x y).edges=dE at HYel HdE;generalize (y5 s.lo s.hi x y).accept=dA at HYel HdA;rw[Y9,zz,zz];obtain⟨c0,c1,c2,c3,f0⟩:=zR hblk;have f00:=f0 0;have HBlk:=Lib.hid hblk;have c0o:∀o o2 o3,(((w.alloc o).alloc o2).alloc o3).cell? ⟨k,0,none⟩=some (.int .i64 0):=λo o2 o3=>Lib.cell?_alloc_some _ (Lib.cell?_alloc_some _ (Lib.cell?_alloc_some _ c0));have f0o:∀o o2 o3,(((w.alloc o).alloc o2).alloc o3).frozen? ⟨k,0,none⟩=false:=λo o2 o3=>(World.frozen?_alloc_old _ _ _ (by simp;omega)).trans ((World.frozen?_alloc_old _ _ _ (by simp;omega)).trans ((World.frozen?_alloc_old _ _ _ (by simp;omega)).trans f00));clear f0 c1 c3 c2 hblk c0 f00;go_enter Tryz.func83, Tryz.ntmps83;go_wp2_with fail;rw[←hwt];obtain⟨xae,xce,xaa,xca⟩:=ax;obtain⟨yae,yce,yaa,yca⟩:=ay;simp only at HXE HXA HXC HXCA HYI HYCA⊢;have hwt2:(y8 s.hi:Int)=max (s.hi-1) 0:=hwt;clear hwt;generalize y8 s.hi=wn at *;generalize hBd:x.states+(wn:Int)-1=B at *;have hB0:0<=B:=by omega
 have hB1:B<=300:=by omega
 have HWT:=Lib.hid hwt2;have HBD:=Lib.hid hBd;clear hwt2 hBd;generalize hW4:World.setCell (World.alloc (World.alloc (World.alloc w _) _) _) _ _=W4;have hblk4:W4.heap[k]? = some (.cells #[.int .i64 (B+y.states),.slice none 0 0,.slice none 0 0,.bool false] 150 (0,0)):=by rw[←hW4];rw[Yw (zl (zl (zl HBlk.out))) 0];rfl
 have hbs4:W4.heap[w.heap.size]? = some (.cells #[.int .i64 s.op,.int .i64 s.lo,.int .i64 s.hi,.int .i64 s.expr.op,.int .i64 s.expr.n,.string s.expr.name,.slice ae s.expr.args.length ce,.string s.name,.slice a s.args.length cap] 27 (0,0)):=by rw[←hW4];rw[Below.heap_setCell _ _ _ _ (show w.heap.size≠k by omega)];exact zl (zl (zh rfl))
 have hbx4:W4.heap[w.heap.size+1]? = some (.cells #[.int .i64 x.states,.slice xae x.edges.length xce,.slice xaa x.accept.length xca] 33 (0,0)):=by rw[←hW4];rw[Below.heap_setCell _ _ _ _ (show w.heap.size+1≠k by omega)];exact zl (zh (by simp))
 have hby4:W4.heap[w.heap.size+1+1]? = some (.cells #[.int .i64 y.states,.slice yae y.edges.length yce,.slice yaa y.accept.length yca] 33 (0,0)):=by rw[←hW4];rw[Below.heap_setCell _ _ _ _ (show w.heap.size+1+1≠k by omega)];exact zh (by simp)
 have hb4:Below w0.heap.size w0 W4:=by rw[←hW4];have hz:=hb.size;exact(((hb.alloc (by omega) _).alloc (by simp;omega) _).alloc (by simp;omega) _).setCell hk _
 have hz4:w.heap.size+3<=W4.heap.size:=by rw[←hW4];simp
 clear hW4 c0o f0o;have HS4:Hid (yk (qk p k) k w0 W4 (B+y.states) [] [] (.slice none 0 0) (.slice none 0 0)):=yk.mk0 hk hblk4 hb4;have HBS:Hid (∀wr ve va,BF k W4 ve va wr->wr.heap[w.heap.size]? = some (.cells #[.int .i64 s.op,.int .i64 s.lo,.int .i64 s.hi,.int .i64 s.expr.op,.int .i64 s.expr.n,.string s.expr.name,.slice ae s.expr.args.length ce,.string s.name,.slice a s.args.length cap] 27 (0,0))):=λwr ve va h=>(h.block w.heap.size (by omega) (by omega)).trans hbs4;have HBX:Hid (∀wr ve va,BF k W4 ve va wr->wr.heap[w.heap.size+1]? = some (.cells #[.int .i64 x.states,.slice xae x.edges.length xce,.slice xaa x.accept.length xca] 33 (0,0))):=λwr ve va h=>(h.block (w.heap.size+1) (by omega) (by omega)).trans hbx4;have HBY:Hid (∀wr ve va,BF k W4 ve va wr->wr.heap[w.heap.size+1+1]? = some (.cells #[.int .i64 y.states,.slice yae y.edges.length yce,.slice yaa y.accept.length yca] 33 (0,0))):=λwr ve va h=>(h.block (w.heap.size+1+1) (by omega) (by omega)).trans hby4;have HKP:Hid (∀{wr st L A ve va},yk (qk p k) k w0 wr st L A ve va->Kp (World.hide w0 p) (World.hide wr (hid (hid (qk p k) va) ve))):=λh=>h.kp (zjo hk);have HQL:Hid (∀{wr st L A ve va},yk (qk p k) k w0 wr st L A ve va->∀j,hid (hid (qk p k) va) ve j=true->j<wr.heap.size):=λh j hj=>by
  rcases ze.1 hj with h1|h1
  ·rcases ze.1 h1 with h2|h2
   ·rcases yY.1 h2 with h3|h3
    ·have:=Hp.out j h3;have:=h.sz;omega
    ·subst h3;exact h.e.klt
   ·exact(h.alt j h2).2
  ·exact(h.e.vlt j h1).2
 clear hblk4 hbs4 hbx4 hby4 hb4 hb HBlk;generalize hva0:Value.slice none 0 0=va0 at HS4;have HVA0:=Lib.hid hva0;clear hva0;obtain⟨LB,HLB⟩:∃LB:List zk,Hid (x.edges++(if 0<wn then x.accept.map (YZ x.states)++qa x.states (wn-1) else [])=LB):=⟨_,rfl⟩;obtain⟨LC,HLC⟩:∃LC:List zk,Hid (LB++(if s.lo=0 then zh6 x y B else [])=LC):=⟨_,rfl⟩;obtain⟨LD,HLD⟩:∃LD:List zk,Hid (LC++(if s.lo<=1/\1<=s.hi then zO x.accept y B else [])=LD):=⟨_,rfl⟩;have HdE2:Hid (dE=LD++Yr x y s.lo s.hi B wn++(yq y).map (λf=>mvE f (B+f.fr) (B+f.to))):=by show _=_;rw[←HLD.out,←HLC.out,←HLB.out];exact HdE.out
 clear HdE;go_loopw [44,11] (λi _ wr=>∃(m:Nat) (ve:Value),i=.int .i64 m/\m<=x.edges.length/\Hid (yk (qk p k) k w0 wr (B+y.states) (x.edges.take m) [] ve va0)/\Hid (BF k W4 ve va0 wr)) (λi _ _=>x.edges.length-(intOf i).toNat);case atStart=>exact⟨0,va0,rfl,Nat.zero_le _,by simpa using HS4,by show BF _ _ _ _ _;rw[←HVA0.out];exact BF.refl _ _⟩
 case round =>
  obtain⟨m,ve,rfl,hm,HD,HF⟩:=hrel;have hzr:=HF.out.size;by_cases hlt:m<x.edges.length
  ·obtain⟨bf,of,hfa⟩:=HXA.out.resolve_left (by omega);subst hfa;have HK0:=Lib.hid (HKP.out HD.out);obtain⟨ag,cg,aS,cs,g0,g1,g2,g3,h1,h2⟩:=yz (HXE.out.keep HK0.out) rfl hlt;have e0:=zc _ _ g0;have e1:=zc _ _ g1;have e2:=zc _ _ g2;have e3:=zc _ _ g3;have HTn:Hid (x.edges.take m++[x.edges[m]'hlt]=x.edges.take (m+1)):=(List.take_succ_eq_append_getElem hlt).symm;have HM:Hid (∀W,Below wr.heap.size wr W->Calls Tryz.prog 146 #[.pointer (some ⟨k,0,none⟩),yX (x.edges[m]'hlt) ag cg aS cs] W (yu (hid (qk p k) va0) k w0 W (B+y.states) (x.edges.take m++[x.edges[m]'hlt]) ve va0)):=λW hW=>Xf (HD.out.below hW).e (x.edges[m]'hlt) ag cg aS cs (h1.keep (yB hW)) (h2.keep (yB hW));clear g0 g1 g2 g3 h1 h2;unfold yX at HM;generalize (x.edges[m]'hlt)=z at e0 e1 e2 e3 HTn HM;go_wp2_with (go_at_call 146;go_must (refine(HM.out _ bel).mono ?_;rintro e w7 ⟨rfl,u',hD7,hS7⟩));have hBa:Below wr.heap.size wr (wr.alloc (.cells #[.int .i64 z.fr,.int .i64 z.to,.slice ag z.guards.length cg,.slice aS z.sets.length cs] 77)):=(Below.refl _ _).alloc (Nat.le_refl _) _;have HD7:Hid (yk (qk p k) k w0 w7 (B+y.states) (x.edges.take (m+1)) [] u' va0):=by
    show yk _ _ _ _ _ _ _ _ _;rw[←HTn.out];exact(HD.out.below hBa).step hD7 hS7
   have HF7:Hid (BF k W4 u' va0 w7):=(HF.out.below hBa).step hS7;clear hD7 hS7 hBa;go_roundw;case rel=>exact⟨m+1,u',by go_num,by omega,HD7.out,HF7.out⟩
   case measure=>(simp[intOf];try omega)
  ·obtain rfl:m=x.edges.length:=by omega
   have HDf:Hid (yk (qk p k) k w0 wr (B+y.states) x.edges [] ve va0):=by show yk _ _ _ _ _ _ _ _ _;have:=HD.out;rwa [List.take_length]at this
   clear HD;go_upto_if 53 with fail;go_cut [] from 52 to 84 (λwx=>∃ve,Hid (yk (qk p k) k w0 wx (B+y.states) LB [] ve va0)/\Hid (BF k W4 ve va0 wx));case first =>
    by_cases hwn:0<wn
    ·have hwnI:(0:Int)<(wn:Int):=by omega
     (first|rw[show decide ((0:Int)<(wn:Int))=true from decide_eq_true hwnI]|rw[show decide (0<wn)=true from decide_eq_true hwn])
     have hbx:=HBX.out _ _ _ HF.out;obtain⟨x0,x1,x2⟩:=zo hbx;clear hbx;go_wp2_with fail;rename World=>wa;clear x0 x1 x2;go_loopw [57,13] (λi _ wr=>∃(m:Nat) (ve:Value),i=.int .i64 m/\m<=x.accept.length/\Hid (yk (qk p k) k w0 wr (B+y.states) (x.edges++(x.accept.take m).map (YZ x.states)) [] ve va0)/\Hid (BF k W4 ve va0 wr)) (λi _ _=>x.accept.length-(intOf i).toNat);case atStart=>exact⟨0,ve,rfl,Nat.zero_le _,by simpa using HDf,HF.out⟩
     case round =>
      clear HDf HF;obtain⟨m,ve,rfl,hm2,HD,HF⟩:=hrel;have hzr:=HF.out.size;have hbx:=HBX.out _ _ _ HF.out;obtain⟨x0,x1,x2⟩:=zo hbx;clear hbx;by_cases hlt:m<x.accept.length
      ·obtain⟨bf,of,hfa⟩:=HXCA.out.resolve_left (by omega);subst hfa;have g0:=zc _ _ ((Qq.1 ((qR.2 (HXC.out.keep (HKP.out HD.out))).get rfl hlt)));rw[show inE.sz=1 from rfl,Nat.mul_one]at g0;have HTn:Hid ((x.edges++(x.accept.take m).map (YZ x.states))++[(⟨x.accept[m]'hlt,x.states,[],[]⟩:zk)]=x.edges++(x.accept.take (m+1)).map (YZ x.states)):=by
        show _=_;rw[List.take_succ_eq_append_getElem hlt,List.map_append,List.append_assoc];rfl
       have HM:Hid (∀W,Below wr.heap.size wr W->Calls Tryz.prog 146 #[.pointer (some ⟨k,0,none⟩),.agg #[.int .i64 (x.accept[m]'hlt),.int .i64 x.states,.slice none 0 0,.slice none 0 0]] W (yu (hid (qk p k) va0) k w0 W (B+y.states) ((x.edges++(x.accept.take m).map (YZ x.states))++[(⟨x.accept[m]'hlt,x.states,[],[]⟩:zk)]) ve va0)):=λW hW=>Xf (HD.out.below hW).e ⟨x.accept[m]'hlt,x.states,[],[]⟩ none 0 none 0 (Enc.In.nil _) (Enc.In.nil _);generalize (x.accept[m]'hlt)=z at g0 HTn HM;go_wp2_with (go_at_call 146;go_must (refine(HM.out _ bel).mono ?_;rintro e w7 ⟨rfl,u',hD7,hS7⟩));have HD7:Hid (yk (qk p k) k w0 w7 (B+y.states) (x.edges++(x.accept.take (m+1)).map (YZ x.states)) [] u' va0):=by show yk _ _ _ _ _ _ _ _ _;rw[←HTn.out];exact HD.out.step hD7 hS7
       have HF7:Hid (BF k W4 u' va0 w7):=HF.out.step hS7;clear hD7 hS7;go_roundw;case rel=>exact⟨m+1,u',by go_num,by omega,HD7.out,HF7.out⟩
       case measure=>(simp[intOf];try omega)
      ·obtain rfl:m=x.accept.length:=by omega
       have HDf:Hid (yk (qk p k) k w0 wr (B+y.states) (x.edges++x.accept.map (YZ x.states)++qa x.states 0) [] ve va0):=by show yk _ _ _ _ _ _ _ _ _;have:=HD.out;rw[List.take_length]at this;simpa [qa] using this
       clear HD;go_wp2_with fail;rename World=>wb;clear x0 x1 x2;go_loopw [14] (λi wr=>∃(m:Nat) (ve:Value),i=.int .i64 ((m:Int)+1)/\m+1<=wn/\Hid (yk (qk p k) k w0 wr (B+y.states) (x.edges++x.accept.map (YZ x.states)++qa x.states m) [] ve va0)/\Hid (BF k W4 ve va0 wr)) (λi _=>wn-(intOf i).toNat);case atStart=>exact⟨0,ve,rfl,by omega,HDf.out,HF.out⟩
       case round =>
        clear HDf HF;obtain⟨m,ve,rfl,hm3,HD,HF⟩:=hrel;have hzr:=HF.out.size;have hbx:=HBX.out _ _ _ HF.out;obtain⟨x0,x1,x2⟩:=zo hbx;clear hbx;by_cases hlt:m+1<wn
        ·have hltI:(m:Int)+1<(wn:Int):=by omega
         have HTn:Hid ((x.edges++x.accept.map (YZ x.states)++qa x.states m)++[(⟨x.states+m,x.states+m+1,[],[]⟩:zk)]=x.edges++x.accept.map (YZ x.states)++qa x.states (m+1)):=by show _=_;rw[zbA,List.append_assoc _ (qa _ _)]
         have HM:Hid (∀W u v,Below wr.heap.size wr W->u=x.states+m->v=x.states+m+1->Calls Tryz.prog 146 #[.pointer (some ⟨k,0,none⟩),.agg #[.int .i64 u,.int .i64 v,.slice none 0 0,.slice none 0 0]] W (yu (hid (qk p k) va0) k w0 W (B+y.states) ((x.edges++x.accept.map (YZ x.states)++qa x.states m)++[(⟨x.states+m,x.states+m+1,[],[]⟩:zk)]) ve va0)):=λW u v hW hu hv=>by subst hu hv;exact Xf (HD.out.below hW).e ⟨x.states+m,x.states+m+1,[],[]⟩ none 0 none 0 (Enc.In.nil _) (Enc.In.nil _)
         go_wp2_with (go_at_call 146;go_must (refine(HM.out _ _ _ bel (by omega) (by omega)).mono ?_;rintro e w7 ⟨rfl,u',hD7,hS7⟩));have HD7:Hid (yk (qk p k) k w0 w7 (B+y.states) (x.edges++x.accept.map (YZ x.states)++qa x.states (m+1)) [] u' va0):=by show yk _ _ _ _ _ _ _ _ _;rw[←HTn.out];exact HD.out.step hD7 hS7
         have HF7:Hid (BF k W4 u' va0 w7):=HF.out.step hS7;clear hD7 hS7;go_roundw;case rel=>exact⟨m+1,u',by go_num,by omega,HD7.out,HF7.out⟩
         case measure=>(simp[intOf];try omega)
        ·have hltI:¬(m:Int)+1<(wn:Int):=by omega
         have HDg:Hid (yk (qk p k) k w0 wr (B+y.states) LB [] ve va0):=by show yk _ _ _ _ _ _ _ _ _;rw[←HLB.out,if_pos hwn,show wn-1=m by omega,←List.append_assoc];exact HD.out
         clear HD;go_wp2_with fail;go_meet;exact⟨ve,HDg,HF⟩
    ·have hwn0:wn=0:=by omega
     have HDg:Hid (yk (qk p k) k w0 wr (B+y.states) LB [] ve va0):=by show yk _ _ _ _ _ _ _ _ _;rw[←HLB.out,if_neg hwn,List.append_nil];exact HDf.out
     have hwnI:¬(0:Int)<(wn:Int):=by omega
     clear HDf hwn0;go_wp2_with fail;go_meet;exact⟨ve,HDg,HF⟩
   case rest =>
    clear HDf HF HLB;obtain⟨ve,HD,HF⟩:=hcut;have hbs:=HBS.out _ _ _ HF.out;obtain⟨-,s1,s2,-⟩:=zes hbs;clear hbs;go_upto_if 87 with fail;go_cut [] from 85 to 123 (λwx=>∃ve,Hid (yk (qk p k) k w0 wx (B+y.states) LC [] ve va0)/\Hid (BF k W4 ve va0 wx));case first =>
     by_cases hl0:s.lo=0
     ·(first|rw[show (s.lo==0)=true from by simp[hl0]]|rw[show decide (s.lo=0)=true from decide_eq_true hl0])
      have hbx:=HBX.out _ _ _ HF.out;obtain⟨x0,x1,x2⟩:=zo hbx;clear hbx s1 s2;have HL0:=Lib.hid hl0;clear hl0;obtain⟨FU,HFU⟩:∃FU:Nat->List zk,Hid (∀m,FU m=(x.edges.take m).flatMap λe=>if x.accept.contains e.to then (zS y).map λf=>zQ e f (B+f.to) else []):=⟨_,λ_=>rfl⟩;have HFU0:Hid (LB++FU 0=LB):=by show _=_;rw[HFU.out];simp
      have HFUS:Hid (∀m (h:m<x.edges.length),LB++FU (m+1)=LB++FU m++(if x.accept.contains (x.edges[m]'h).to then (zS y).map λf=>zQ (x.edges[m]'h) f (B+f.to) else [])):=λm h=>by rw[HFU.out,HFU.out,zdi x y B h,List.append_assoc]
      have HFUA:Hid (LB++FU x.edges.length=LC):=by show _=_;rw[←HLC.out,if_pos HL0.out,HFU.out,List.take_length];rfl
      clear HFU HLC;go_wp2_with fail;clear x0 x1 x2;go_loopw [91,16,18] (λi _ _ wr=>∃(m:Nat) (ve:Value),i=.int .i64 m/\m<=x.edges.length/\Hid (yk (qk p k) k w0 wr (B+y.states) (LB++FU m) [] ve va0)/\Hid (BF k W4 ve va0 wr)) (λi _ _ _=>x.edges.length-(intOf i).toNat);case atStart=>exact⟨0,ve,rfl,Nat.zero_le _,by show yk _ _ _ _ _ _ _ _ _;rw[HFU0.out];exact HD.out,HF.out⟩
      case round =>
       clear HD HF;obtain⟨m,ve,rfl,hm2,HD,HF⟩:=hrel;have hzr:=HF.out.size;by_cases hlt:m<x.edges.length
       ·obtain⟨bf,of,hfa⟩:=HXA.out.resolve_left (by omega);subst hfa;have HK0:=Lib.hid (HKP.out HD.out);obtain⟨ag,cg,aS,cs,g0,g1,g2,g3,h1,h2⟩:=yz (HXE.out.keep HK0.out) rfl hlt;have e0:=zc _ _ g0;have e1:=zc _ _ g1;have e2:=zc _ _ g2;have e3:=zc _ _ g3;have HTn:=Lib.hid (HFUS.out m hlt);have HH1:=Lib.hid h1;have HH2:=Lib.hid h2;have HXz:=Lib.hid (HXs.out _ (List.getElem_mem hlt));have hby:=HBY.out _ _ _ HF.out;obtain⟨y0,y1,y2⟩:=zo hby;have y0o:∀o,(wr.alloc o).cell? ⟨w.heap.size+1+1,0,none⟩=some (.int .i64 y.states):=λo=>Lib.cell?_alloc_some _ y0;have y1o:∀o,(wr.alloc o).cell? ⟨w.heap.size+1+1,1,none⟩=some (.slice yae y.edges.length yce):=λo=>Lib.cell?_alloc_some _ y1;have y2o:∀o,(wr.alloc o).cell? ⟨w.heap.size+1+1,2,none⟩=some (.slice yaa y.accept.length yca):=λo=>Lib.cell?_alloc_some _ y2;clear g0 g1 g2 g3 h1 h2 hby;generalize (x.edges[m]'hlt)=z at e0 e1 e2 e3 HTn HH1 HH2 HXz;have HFr:Hid (∀W,Below wr.heap.size wr W->Calls Tryz.prog 147 #[.agg #[.int .i64 y.states,.slice yae y.edges.length yce,.slice yaa y.accept.length yca]] W (ZX (hid (hid (qk p k) va0) ve) (zS y) W)):=λW hW=>by
         have h:=zaI (hid (hid (qk p k) va0) ve) y ⟨yae,yce,yaa,yca⟩ W (HYI.out.es.keep (HK0.out.trans (zg hW λ_ _ h=>h))) λj hj=>Nat.lt_of_lt_of_le (HQL.out HD.out j hj) hW.size;rw[zz]at h;exact h
        have HFs:Hid (∀t (h:t<(zS y).length),(0<=((zS y)[t]'h).to/\((zS y)[t]'h).to<=100000)/\(∀g∈((zS y)[t]'h).guards,g.nodes.length<=400)/\((zS y)[t]'h).guards.length<=K'/\((zS y)[t]'h).sets.length<=K'):=λt h=>by have hm:=(List.mem_filter.1 (List.getElem_mem h)).1;exact⟨(HYE.out _ hm).2.2,(HYs.out _ hm).1,(HYs.out _ hm).2.2⟩
        have hfl:(zS y).length<=y.edges.length:=List.length_filter_le _ _;generalize zS y=F at HTn HFr HFs hfl;go_wp2_with fail;generalize hWa:World.alloc wr _=Wa;have hBa:Below wr.heap.size wr Wa:=by rw[←hWa];exact(Below.refl _ _).alloc (Nat.le_refl _) _
        have hza:Wa.heap[wr.heap.size]? = some (.cells #[.int .i64 z.fr,.int .i64 z.to,.slice ag z.guards.length cg,.slice aS z.sets.length cs] 77 (0,0)):=by rw[←hWa];exact zh rfl
        clear hWa;refine(HFr.out _ hBa).mono ?_;rintro e w5 ⟨⟨fa,fc,rfl,hF5⟩,hb5⟩;have HF5:=Lib.hid hF5;have HFA:Hid (F.length=0\/∃b off,fa=some ⟨b,off,none⟩):=hF5.addr;have hB5:Below wr.heap.size wr w5:=hBa.trans (hb5.mono hBa.size);have HD5:=Lib.hid (HD.out.below hB5);have HFf:=Lib.hid (HF.out.below hB5);have HZ5:Hid (w5.heap[wr.heap.size]? = some (.cells #[.int .i64 z.fr,.int .i64 z.to,.slice ag z.guards.length cg,.slice aS z.sets.length cs] 77 (0,0))):=(hb5.block _ (lt_of_block hza)).trans hza;have HZn:Hid (wr.heap.size<w5.heap.size/\wr.heap.size≠k/\ve.ownBlock≠some wr.heap.size):=⟨lt_of_block HZ5.out,λe=>by have:=HD.out.e.klt;omega,λe=>by have:=(HD.out.e.vlt _ e).2;omega⟩;have HH15:=Lib.hid (HH1.out.keep (yB hB5));have HH25:=Lib.hid (HH2.out.keep (yB hB5));have hz5:=HFf.out.size;clear hF5 hb5 hBa hza hB5 HFr y0 y1 y2 y0o y1o y2o e0 e1 e2 e3 HH1 HH2 HD HF HK0;go_wp2_with fail;cases hcc:x.accept.contains z.to with
        |false =>
         have HTn2:Hid (LB++FU (m+1)=LB++FU m):=by show _=_;rw[HTn.out,hcc];simp
         have HAc:Hid (∀W,IntsIn W x.accept xaa xca->Calls Tryz.prog 148 #[.agg #[.int .i64 x.states,.slice (some ⟨bf,of,none⟩) x.edges.length xce,.slice xaa x.accept.length xca],.int .i64 z.to] W λe w'=>e=.returned (.bool false)/\Below W.heap.size W w'):=λW hW=>by have h:=Xe x ⟨some ⟨bf,of,none⟩,xce,xaa,xca⟩ z.to W hW;rw[zz,hcc]at h;exact h
         clear hcc HTn;go_loopw [98,18] (λi _ wr=>∃(t:Nat),i=.int .i64 t/\t<=F.length/\Hid (Below w5.heap.size w5 wr)) (λi _ _=>F.length-(intOf i).toNat);case atStart=>exact⟨0,rfl,Nat.zero_le _,Below.refl _ _⟩
         case round =>
          obtain⟨t,rfl,ht,HB9⟩:=hrel;have hz9:=HB9.out.size;by_cases hlt2:t<F.length
          ·obtain⟨bq,oq,hfa⟩:=HFA.out.resolve_left (by omega);subst hfa;obtain⟨ag2,cg2,aS2,cs2,g0,g1,g2,g3,h1,h2⟩:=yz (HF5.out.keep (zg HB9.out λ_ _ h=>h)) rfl hlt2;have e0:=zc _ _ g0;have e1:=zc _ _ g1;have e2:=zc _ _ g2;have e3:=zc _ _ g3;clear g0 g1 g2 g3 h1 h2;generalize (F[t]'hlt2)=f at e0 e1 e2 e3;have hbx:=HBX.out _ _ _ (HFf.out.below HB9.out);obtain⟨x0,x1,x2⟩:=zo hbx;have x0o:∀o,(wr.alloc o).cell? ⟨w.heap.size+1,0,none⟩=some (.int .i64 x.states):=λo=>Lib.cell?_alloc_some _ x0;have x1o:∀o,(wr.alloc o).cell? ⟨w.heap.size+1,1,none⟩=some _:=λo=>Lib.cell?_alloc_some _ x1;have x2o:∀o,(wr.alloc o).cell? ⟨w.heap.size+1,2,none⟩=some _:=λo=>Lib.cell?_alloc_some _ x2;have hbz:=(HB9.out.block _ HZn.out.1).trans HZ5.out;obtain⟨z0,z1,z2,z3,zf⟩:=zR hbz;have z1o:∀o,(wr.alloc o).cell? ⟨_,1,none⟩=some _:=λo=>Lib.cell?_alloc_some _ z1;have HXI:Hid (∀W,Below wr.heap.size wr W->IntsIn W x.accept xaa xca):=λW hW=>HXC.out.keep λa u h=>za hW _ _ (za HB9.out _ _ (zc _ _ ((HKP.out HD5.out) _ _ h)));clear hbx hbz zf z0 z2 z3;go_wp2_with (go_at_call 148;go_must (refine(HAc.out _ (HXI.out _ bel)).mono ?_;rintro e w7 ⟨rfl,hb7⟩));have HB7:Hid (Below wr.heap.size wr w7):=((Below.refl wr.heap.size wr).alloc (Nat.le_refl _) _).trans (hb7.mono (by simp));clear hb7;go_roundw;case rel=>exact⟨t+1,by go_num,by omega,HB9.out.trans (HB7.out.mono hz9)⟩
           case measure=>(simp[intOf];try omega)
          ·obtain rfl:t=F.length:=by omega
           have HD8:Hid (yk (qk p k) k w0 wr (B+y.states) (LB++FU (m+1)) [] ve va0):=by show yk _ _ _ _ _ _ _ _ _;rw[HTn2.out];exact HD5.out.below HB9.out
           have HF8:=Lib.hid (HFf.out.below HB9.out);go_wp2_with fail;go_roundw;case rel=>exact⟨m+1,ve,by go_num,by omega,HD8.out,HF8.out⟩
           case measure=>(simp[intOf];try omega)
        |true =>
         have HTn2:Hid (LB++FU (m+1)=LB++FU m++F.map λf=>zQ z f (B+f.to)):=by show _=_;rw[HTn.out,hcc];rfl
         have HAc:Hid (∀W,IntsIn W x.accept xaa xca->Calls Tryz.prog 148 #[.agg #[.int .i64 x.states,.slice (some ⟨bf,of,none⟩) x.edges.length xce,.slice xaa x.accept.length xca],.int .i64 z.to] W λe w'=>e=.returned (.bool true)/\Below W.heap.size W w'):=λW hW=>by have h:=Xe x ⟨some ⟨bf,of,none⟩,xce,xaa,xca⟩ z.to W hW;rw[zz,hcc]at h;exact h
         clear hcc HTn;go_loopw [98,18] (λi _ wr=>∃(t:Nat) (v:Value),i=.int .i64 t/\t<=F.length/\Hid (yk (qk p k) k w0 wr (B+y.states) (LB++FU m++(F.take t).map λf=>zQ z f (B+f.to)) [] v va0)/\Hid (BG k w5 ve va0 wr v va0)) (λi _ _=>F.length-(intOf i).toNat);case atStart=>exact⟨0,ve,rfl,Nat.zero_le _,by simpa using HD5,BG.refl _ _ _ _⟩
         case round =>
          obtain⟨t,v,rfl,ht,HD,HG⟩:=hrel;have hz9:=HG.out.size;have HFc:Hid (BF k W4 v va0 wr):=HFf.out.then HG.out;by_cases hlt2:t<F.length
          ·obtain⟨bq,oq,hfa⟩:=HFA.out.resolve_left (by omega);subst hfa;have HKg:Hid (Kp (World.hide w5 (hid (hid (qk p k) va0) ve)) (World.hide wr (hid (hid (qk p k) va0) v))):=HG.out.kp (yY.2 (Or.inr rfl));obtain⟨ag2,cg2,aS2,cs2,g0,g1,g2,g3,h1,h2⟩:=yz (HF5.out.keep HKg.out) rfl hlt2;have e0:=zc _ _ g0;have e1:=zc _ _ g1;have e2:=zc _ _ g2;have e3:=zc _ _ g3;have HTt:Hid ((LB++FU m++(F.take t).map λf=>zQ z f (B+f.to))++[zQ z (F[t]'hlt2) (B+(F[t]'hlt2).to)]=LB++FU m++(F.take (t+1)).map λf=>zQ z f (B+f.to)):=by
            show _=_;rw[List.take_succ_eq_append_getElem hlt2,List.map_append,List.append_assoc _ ((F.take t).map _)];rfl
           have HFt:=HFs.out t hlt2;have HBh:Hid (∀W,Below wr.heap.size wr W->Calls Tryz.prog 149 #[yX z ag cg aS cs,yX (F[t]'hlt2) ag2 cg2 aS2 cs2,.int .i64 (B+(F[t]'hlt2).to)] W (zbs (hid (hid (qk p k) va0) v) (zQ z (F[t]'hlt2) (B+(F[t]'hlt2).to)) W)):=λW hW =>
            zc2 (hid (hid (qk p k) va0) v) z (F[t]'hlt2) ag cg aS cs ag2 cg2 aS2 cs2 _ W (λj hj=>Nat.lt_of_lt_of_le (HQL.out HD.out j hj) hW.size) ((HH15.out.keep HKg.out).keep (yB hW)) ((HH25.out.keep HKg.out).keep (yB hW)) (h1.keep (yB hW)) (h2.keep (yB hW)) HFt.2.1 HXz.out.2.1 (by have:=HXz.out.2.2.1;have:=HFt.2.2.1;omega) (by have:=HXz.out.2.2.2;have:=HFt.2.2.2;omega)
           have HAd:Hid (∀W ag cg aS cs,Below wr.heap.size wr W->exE.In (World.hide W (hid (hid (qk p k) va0) v)) (zQ z (F[t]'hlt2) (B+(F[t]'hlt2).to)).guards ag cg->bdE.In (World.hide W (hid (hid (qk p k) va0) v)) (zQ z (F[t]'hlt2) (B+(F[t]'hlt2).to)).sets aS cs->Calls Tryz.prog 146 #[.pointer (some ⟨k,0,none⟩),yX (zQ z (F[t]'hlt2) (B+(F[t]'hlt2).to)) ag cg aS cs] W (yu (hid (qk p k) va0) k w0 W (B+y.states) ((LB++FU m++(F.take t).map λf=>zQ z f (B+f.to))++[zQ z (F[t]'hlt2) (B+(F[t]'hlt2).to)]) v va0)):=λW ag cg aS cs hW h1 h2=>Xf (HD.out.below hW).e _ ag cg aS cs h1 h2;clear g0 g1 g2 g3 h1 h2;obtain⟨hft0,hft1⟩:=HFt.1;clear HFt;generalize zQ z (F[t]'hlt2) (B+(F[t]'hlt2).to)=R at HTt HBh HAd;generalize (F[t]'hlt2)=f at e0 e1 e2 e3 HBh hft0 hft1;unfold yX at HBh;have hbx:=HBX.out _ _ _ HFc.out;obtain⟨x0,x1,x2⟩:=zo hbx;have x0o:∀o,(wr.alloc o).cell? ⟨w.heap.size+1,0,none⟩=some (.int .i64 x.states):=λo=>Lib.cell?_alloc_some _ x0;have x1o:∀o,(wr.alloc o).cell? ⟨w.heap.size+1,1,none⟩=some _:=λo=>Lib.cell?_alloc_some _ x1;have x2o:∀o,(wr.alloc o).cell? ⟨w.heap.size+1,2,none⟩=some _:=λo=>Lib.cell?_alloc_some _ x2;have hbz:=(HG.out.block _ HZn.out.1 HZn.out.2.1 HZn.out.2.2 (by rw[←HVA0.out];simp[Value.ownBlock])).trans HZ5.out;obtain⟨z0,z1,z2,z3,zf⟩:=zR hbz;have z1o:∀o,(wr.alloc o).cell? ⟨_,1,none⟩=some _:=λo=>Lib.cell?_alloc_some _ z1
           have HXI:Hid (∀W,Below wr.heap.size wr W->IntsIn W x.accept xaa xca):=λW hW=>HXC.out.keep λa u h=>za hW _ _ (zc _ _ ((HKP.out HD.out) _ _ h));obtain⟨-,-,-,d3,-⟩:=zR HD.out.e.blk;have hkl:=HD.out.e.klt;have HEb:Hid (w5.heap.size<=w5.heap.size):=Nat.le_refl _;have HBz:=Lib.hid hbz;clear hbx hbz zf;by_cases hfull:4097<(LB++FU m++(F.take t).map λf=>zQ z f (B+f.to)).length
           ·rw[decide_eq_true hfull]at d3;have HDn:Hid (yk (qk p k) k w0 wr (B+y.states) (LB++FU m++(F.take (t+1)).map λf=>zQ z f (B+f.to)) [] v va0):=by
             show yk _ _ _ _ _ _ _ _ _;rw[←HTt.out];exact HD.out.full hfull _
            clear hfull HD HTt HBh HAd;go_wp2_with (go_at_call 148;go_must (refine(HAc.out _ (HXI.out _ bel)).mono ?_;rintro e w7 ⟨rfl,hb7⟩);have d37:w7.cell? ⟨k,3,none⟩=some (.bool true):=(za hb7 _ _ (Lib.cell?_alloc_some _ d3)));have hB7:Below wr.heap.size wr w7:=((Below.refl wr.heap.size wr).alloc (Nat.le_refl _) _).trans (hb7.mono (by simp));have HD7:=Lib.hid (HDn.out.below hB7);have HG7:=Lib.hid (HG.out.below hB7);clear hb7 hB7 d37;go_roundw;case rel=>exact⟨t+1,v,by go_num,by omega,HD7.out,HG7.out⟩
            case measure=>(simp[intOf];try omega)
           ·rw[decide_eq_false hfull]at d3;clear hfull
            go_wp2_with (first
             |(go_at_call 148;go_must (refine(HAc.out _ (HXI.out _ bel)).mono ?_;rintro e w7 ⟨rfl,hb7⟩);have d37:w7.cell? ⟨k,3,none⟩=some (.bool false):=(za hb7 _ _ (Lib.cell?_alloc_some _ d3));have hB7:Below wr.heap.size wr w7:=((Below.refl wr.heap.size wr).alloc (Nat.le_refl _) _).trans (hb7.mono (by simp));have f0:w7.cell? ⟨wr.heap.size,0,none⟩=some (.int .i64 f.fr):=(za hb7 _ _ (by simp));have f1:w7.cell? ⟨wr.heap.size,1,none⟩=some (.int .i64 f.to):=(za hb7 _ _ (by simp));have f2:w7.cell? ⟨wr.heap.size,2,none⟩=some (.slice ag2 f.guards.length cg2):=(za hb7 _ _ (by simp));have f3:w7.cell? ⟨wr.heap.size,3,none⟩=some (.slice aS2 f.sets.length cs2):=(za hb7 _ _ (by simp));obtain⟨q0,q1,q2,q3,-⟩:=zR ((hB7.block _ (lt_of_block HBz.out)).trans HBz.out))
             |(go_at_call 149;go_must (refine(HBh.out _ hB7).mono ?_;rintro e w8 ⟨⟨ag3,cg3,aS3,cs3,rfl,hg3,hs3⟩,hb8⟩);have hB8:=hB7.trans (hb8.mono hB7.size))
             |(go_at_call 146;go_must (refine(HAd.out _ _ _ _ _ hB8 hg3 hs3).mono ?_;rintro e w9 ⟨rfl,u',hD9,hS9⟩)))
            have HD9:Hid (yk (qk p k) k w0 w9 (B+y.states) (LB++FU m++(F.take (t+1)).map λf=>zQ z f (B+f.to)) [] u' va0):=by show yk _ _ _ _ _ _ _ _ _;rw[←HTt.out];exact(HD.out.below hB8).step hD9 hS9
            have HG9:=Lib.hid ((HG.out.below hB8).step hS9);clear hD9 hS9 hB8 hb8 hg3 hs3 hB7 hb7 d37 f0 f1 f2 f3 q0 q1 q2 q3;go_roundw;case rel=>exact⟨t+1,u',by go_num,by omega,HD9.out,HG9.out⟩
            case measure=>(simp[intOf];try omega)
          ·obtain rfl:t=F.length:=by omega
           have HD8:Hid (yk (qk p k) k w0 wr (B+y.states) (LB++FU (m+1)) [] v va0):=by show yk _ _ _ _ _ _ _ _ _;have:=HD.out;rw[List.take_length]at this;rw[HTn2.out];exact this
           go_wp2_with fail;go_roundw;case rel=>exact⟨m+1,v,by go_num,by omega,HD8.out,HFc.out⟩
           case measure=>(simp[intOf];try omega)
       ·obtain rfl:m=x.edges.length:=by omega
        have HDg:Hid (yk (qk p k) k w0 wr (B+y.states) LC [] ve va0):=by show yk _ _ _ _ _ _ _ _ _;rw[←HFUA.out];exact HD.out
        go_wp2_with fail;go_meet;exact⟨ve,HDg,HF⟩
     ·have HDg:Hid (yk (qk p k) k w0 wc (B+y.states) LC [] ve va0):=by
       show yk _ _ _ _ _ _ _ _ _;rw[←HLC.out,if_neg hl0,List.append_nil];exact HD.out
      have hl1:(s.lo==0)=false:=by simp[hl0]
      go_wp2_with fail;go_meet;exact⟨ve,HDg,HF⟩
    case rest =>
     clear HD HF HLC s1 s2;obtain⟨ve,HD,HF⟩:=hcut;have hbs:=HBS.out _ _ _ HF.out;obtain⟨-,s1,s2,-⟩:=zes hbs;clear hbs;go_upto_if 131 with fail
     all_goals
      clear s1 s2;go_cut [] from 124 to 137 (λwx=>∃ve,Hid (yk (qk p k) k w0 wx (B+y.states) LD [] ve va0)/\Hid (BF k W4 ve va0 wx));case first =>
       by_cases hc:s.lo<=1/\1<=s.hi
       ·obtain⟨hcA,hcB⟩:=hc;have hc:s.lo<=1/\1<=s.hi:=⟨hcA,hcB⟩
        first
         |(exfalso;omega)
         |(
          have hbx:=HBX.out _ _ _ HF.out;obtain⟨x0,x1,x2⟩:=zo hbx;have hby:=HBY.out _ _ _ HF.out;obtain⟨y0,y1,y2⟩:=zo hby;have HTn:Hid (LC++zO x.accept y B=LD):=by show _=_;rw[←HLD.out,if_pos hc]
          have HK0:=Lib.hid (HKP.out HD.out);have HA:=Qe (q:=hid (qk p k) va0) HD.out.e (λj hj=>HQL.out HD.out j (ze.2 (Or.inl hj))) x.accept xaa xca y ⟨yae,yce,yaa,yca⟩ B (HXC.out.keep HK0.out) (HYI.out.es.keep HK0.out) HYE.out hB0 (by omega);rw[zz]at HA;have HAt:=Lib.hid HA;clear HA hbx hby hc;go_wp2_with fail;refine HAt.out.mono ?_;rintro e w7 ⟨rfl,u',hD7,hS7⟩;have HD7:Hid (yk (qk p k) k w0 w7 (B+y.states) LD [] u' va0):=by show yk _ _ _ _ _ _ _ _ _;rw[←HTn.out];exact HD.out.step hD7 hS7
          have HF7:Hid (BF k W4 u' va0 w7):=HF.out.step hS7;clear hD7 hS7;go_wp2_with fail;go_meet;exact⟨u',HD7,HF7⟩)
       ·first
         |(exfalso;omega)
         |(
          have HDg:Hid (yk (qk p k) k w0 wc (B+y.states) LD [] ve va0):=by show yk _ _ _ _ _ _ _ _ _;rw[←HLD.out,if_neg hc,List.append_nil];exact HD.out
          by_cases hcB:1<=s.hi
          ·go_wp2_with fail;all_goals first|(exfalso;omega)|(go_meet;exact⟨ve,HDg,HF⟩)
          ·go_wp2_with fail;all_goals first|(exfalso;omega)|(go_meet;exact⟨ve,HDg,HF⟩))
      case rest =>
       clear HD HF HLD;obtain⟨ve,HD,HF⟩:=hcut;go_wp2_with fail;go_loopw [19] (λi wr=>∃(m:Nat) (ve:Value),i=.int .i64 ((m:Int)+1)/\m<=wn/\Hid (yk (qk p k) k w0 wr (B+y.states) (LD++Yr x y s.lo s.hi B m) [] ve va0)/\Hid (BF k W4 ve va0 wr)) (λi _=>wn+1-(intOf i).toNat);case atStart=>exact⟨0,ve,rfl,Nat.zero_le _,by simpa [Yr] using HD,HF.out⟩
       case round =>
        clear HD HF;obtain⟨m,ve,rfl,hm,HD,HF⟩:=hrel;have hzr:=HF.out.size;by_cases hlt:m<wn
        ·have hltI:(m:Int)+1<=(wn:Int):=by omega
         have hbs:=HBS.out _ _ _ HF.out;obtain⟨-,s1,s2,-⟩:=zes hbs;have hbx:=HBX.out _ _ _ HF.out;obtain⟨x0,x1,x2⟩:=zo hbx;have hby:=HBY.out _ _ _ HF.out;obtain⟨y0,y1,y2⟩:=zo hby;have y0o:∀o,(wr.alloc o).cell? ⟨w.heap.size+1+1,0,none⟩=some (.int .i64 y.states):=λo=>Lib.cell?_alloc_some _ y0;have y1o:∀o,(wr.alloc o).cell? ⟨w.heap.size+1+1,1,none⟩=some (.slice yae y.edges.length yce):=λo=>Lib.cell?_alloc_some _ y1;have y2o:∀o,(wr.alloc o).cell? ⟨w.heap.size+1+1,2,none⟩=some (.slice yaa y.accept.length yca):=λo=>Lib.cell?_alloc_some _ y2;clear hbs hbx hby;by_cases hc:s.lo<=m+2/\(m:Int)+2<=s.hi
         ·have hc1:s.lo<=(m:Int)+1+1:=by omega
          have hc2:(m:Int)+1+1<=s.hi:=by omega
          have HTn:Hid (LD++Yr x y s.lo s.hi B m++zO [x.states+m] y B=LD++Yr x y s.lo s.hi B (m+1)):=by show _=_;rw[QF,if_pos hc,List.append_assoc]
          have HAt:Hid (∀u,u=x.states+m->Calls Tryz.prog 150 #[.pointer (some ⟨k,0,none⟩),.slice (some ⟨wr.heap.size,0,none⟩) 1 1,.agg #[.int .i64 y.states,.slice yae y.edges.length yce,.slice yaa y.accept.length yca],.int .i64 B] (wr.alloc (.cells #[.int .i64 u] 3)) (yu (hid (qk p k) va0) k w0 (wr.alloc (.cells #[.int .i64 u] 3)) (B+y.states) (LD++Yr x y s.lo s.hi B m++zO [x.states+m] y B) ve va0)):=λu hu=>by
           subst hu;have hBa:Below wr.heap.size wr (wr.alloc (.cells #[.int .i64 (x.states+m)] 3)):=(Below.refl _ _).alloc (Nat.le_refl _) _;have hDa:=HD.out.below hBa;have hKa:=HKP.out hDa;have hI:IntsIn (World.hide (wr.alloc (.cells #[.int .i64 (x.states+m)] 3)) (hid (hid (qk p k) va0) ve)) [x.states+m] (some ⟨wr.heap.size,0,none⟩) 1:=by
            refine qR.1 (Enc.Vals.in (xs:=[.int .i64 (x.states+m)]) (Enc.Vals.one rfl) (λj v hv=>?_) (by simp) (by simp));refine zr.2 ⟨?_,?_⟩
            ·cases e:hid (hid (qk p k) va0) ve wr.heap.size with
             |false=>rfl
             |true=>have:=HQL.out HD.out _ e;omega
            ·match j with
             |0=>simp at hv;subst hv;simp
             |j+1=>simp at hv
           have h:=Qe (q:=hid (qk p k) va0) hDa.e (λj hj=>HQL.out hDa j (ze.2 (Or.inl hj))) [x.states+m] (some ⟨wr.heap.size,0,none⟩) 1 y ⟨yae,yce,yaa,yca⟩ B hI (HYI.out.es.keep hKa) HYE.out hB0 (by omega);rw[zz]at h;exact h
          clear hc;go_wp2_with (go_at_call 150;go_must (refine(HAt.out _ (by omega)).mono ?_;rintro e w7 ⟨rfl,u',hD7,hS7⟩));have hBa:Below wr.heap.size wr (wr.alloc (.cells #[.int .i64 (x.states+(m+1)-1)] 3)):=(Below.refl _ _).alloc (Nat.le_refl _) _;have hex:x.states+((m:Int)+1)-1=x.states+m:=by omega
          have HD7:Hid (yk (qk p k) k w0 w7 (B+y.states) (LD++Yr x y s.lo s.hi B (m+1)) [] u' va0):=by show yk _ _ _ _ _ _ _ _ _;rw[←HTn.out];exact(HD.out.below ((Below.refl _ _).alloc (Nat.le_refl _) _)).step hD7 hS7
          have HF7:Hid (BF k W4 u' va0 w7):=(HF.out.below ((Below.refl _ _).alloc (Nat.le_refl _) _)).step hS7;clear hD7 hS7 hBa hex;go_roundw;case rel=>exact⟨m+1,u',by go_num,by omega,HD7.out,HF7.out⟩
          case measure=>(simp[intOf];try omega)
         ·have HD7:Hid (yk (qk p k) k w0 wr (B+y.states) (LD++Yr x y s.lo s.hi B (m+1)) [] ve va0):=by
           show yk _ _ _ _ _ _ _ _ _;rw[QF,if_neg hc,List.append_nil];exact HD.out
          by_cases hcB:(m:Int)+1+1<=s.hi
          ·go_wp2_with fail
           all_goals first
            |(exfalso;omega)
            |(
             go_roundw;case rel=>exact⟨m+1,ve,by go_num,by omega,HD7.out,HF.out⟩
             case measure=>(simp[intOf];try omega))
          ·go_wp2_with fail
           all_goals first
            |(exfalso;omega)
            |(
             go_roundw;case rel=>exact⟨m+1,ve,by go_num,by omega,HD7.out,HF.out⟩
             case measure=>(simp[intOf];try omega))
        ·have hltI:¬(m:Int)+1<=(wn:Int):=by omega
         obtain rfl:m=wn:=by omega
         have hby:=HBY.out _ _ _ HF.out;obtain⟨y0,y1,y2⟩:=zo hby;have HOt:Hid (Calls Tryz.prog 151 #[.agg #[.int .i64 y.states,.slice yae y.edges.length yce,.slice yaa y.accept.length yca]] wr (ZX (hid (hid (qk p k) va0) ve) (yq y) wr)):=by have h:=zdz (hid (hid (qk p k) va0) ve) y ⟨yae,yce,yaa,yca⟩ wr (HYI.out.es.keep (HKP.out HD.out)) (HQL.out HD.out);rw[zz]at h;exact h
         obtain⟨LE,HLE⟩:∃LE:List zk,Hid (LD++Yr x y s.lo s.hi B m=LE):=⟨_,rfl⟩;have HDe:Hid (yk (qk p k) k w0 wr (B+y.states) LE [] ve va0):=by show yk _ _ _ _ _ _ _ _ _;rw[←HLE.out];exact HD.out
         have HdE3:Hid (dE=LE++(yq y).map (λf=>mvE f (B+f.fr) (B+f.to))):=by show _=_;rw[←HLE.out];exact HdE2.out
         have HFs:Hid (∀t (h:t<(yq y).length),0<=((yq y)[t]'h).fr/\((yq y)[t]'h).fr<=100000/\0<=((yq y)[t]'h).to/\((yq y)[t]'h).to<=100000):=λt h=>HYE.out _ (List.mem_filter.1 (List.getElem_mem h)).1;have hfl:(yq y).length<=y.edges.length:=List.length_filter_le _ _;generalize yq y=F at HOt HdE3 HFs hfl;clear hby HLE HD;go_wp2_with fail;refine HOt.out.mono ?_;rintro e w5 ⟨⟨fa,fc,rfl,hF5⟩,hb5⟩;have HF5:=Lib.hid hF5;have HFA:Hid (F.length=0\/∃b off,fa=some ⟨b,off,none⟩):=hF5.addr;have HD5:=Lib.hid (HDe.out.below hb5);have HFf:=Lib.hid (HF.out.below hb5);clear hF5 hb5 y0 y1 y2 HOt;go_wp2_with fail;go_loopw [168,21] (λi _ wr=>∃(t:Nat) (v:Value),i=.int .i64 t/\t<=F.length/\Hid (yk (qk p k) k w0 wr (B+y.states) (LE++(F.take t).map λf=>mvE f (B+f.fr) (B+f.to)) [] v va0)/\Hid (BG k w5 ve va0 wr v va0)) (λi _ _=>F.length-(intOf i).toNat);case atStart=>exact⟨0,ve,rfl,Nat.zero_le _,by simpa using HD5,BG.refl _ _ _ _⟩
         case round =>
          obtain⟨t,v,rfl,ht,HD,HG⟩:=hrel;by_cases hlt2:t<F.length
          ·obtain⟨bq,oq,hfa⟩:=HFA.out.resolve_left (by omega);subst hfa;have HKg:Hid (Kp (World.hide w5 (hid (hid (qk p k) va0) ve)) (World.hide wr (hid (hid (qk p k) va0) v))):=HG.out.kp (yY.2 (Or.inr rfl));obtain⟨ag2,cg2,aS2,cs2,g0,g1,g2,g3,h1,h2⟩:=yz (HF5.out.keep HKg.out) rfl hlt2;have e0:=zc _ _ g0;have e1:=zc _ _ g1;have e2:=zc _ _ g2;have e3:=zc _ _ g3;have HTt:Hid ((LE++(F.take t).map λf=>mvE f (B+f.fr) (B+f.to))++[mvE (F[t]'hlt2) (B+(F[t]'hlt2).fr) (B+(F[t]'hlt2).to)]=LE++(F.take (t+1)).map λf=>mvE f (B+f.fr) (B+f.to)):=by
            show _=_;rw[List.take_succ_eq_append_getElem hlt2,List.map_append,List.append_assoc];rfl
           have HFt:=HFs.out t hlt2;have HM:Hid (∀W,Below wr.heap.size wr W->Calls Tryz.prog 152 #[.pointer (some ⟨k,0,none⟩),yX (F[t]'hlt2) ag2 cg2 aS2 cs2,.int .i64 (B+(F[t]'hlt2).fr),.int .i64 (B+(F[t]'hlt2).to)] W (yu (hid (qk p k) va0) k w0 W (B+y.states) ((LE++(F.take t).map λf=>mvE f (B+f.fr) (B+f.to))++[mvE (F[t]'hlt2) (B+(F[t]'hlt2).fr) (B+(F[t]'hlt2).to)]) v va0)):=λW hW=>zaU (HD.out.below hW).e (F[t]'hlt2) ag2 cg2 aS2 cs2 _ _ (h1.keep (yB hW)) (h2.keep (yB hW));clear g0 g1 g2 g3 h1 h2;unfold yX at HM;generalize (F[t]'hlt2)=f at e0 e1 e2 e3 HTt HFt HM;obtain⟨hq0,hq1,hq2,hq3⟩:=HFt;go_wp2_with (go_at_call 152;go_must (refine(HM.out _ bel).mono ?_;rintro e w7 ⟨rfl,u',hD7,hS7⟩));have hBa:Below wr.heap.size wr (wr.alloc (.cells #[.int .i64 f.fr,.int .i64 f.to,.slice ag2 f.guards.length cg2,.slice aS2 f.sets.length cs2] 77)):=(Below.refl _ _).alloc (Nat.le_refl _) _;have HD7:Hid (yk (qk p k) k w0 w7 (B+y.states) (LE++(F.take (t+1)).map λf=>mvE f (B+f.fr) (B+f.to)) [] u' va0):=by show yk _ _ _ _ _ _ _ _ _;rw[←HTt.out];exact(HD.out.below hBa).step hD7 hS7
           have HG7:=Lib.hid ((HG.out.below hBa).step hS7);clear hD7 hS7 hBa;go_roundw;case rel=>exact⟨t+1,u',by go_num,by omega,HD7.out,HG7.out⟩
           case measure=>(simp[intOf];try omega)
          ·obtain rfl:t=F.length:=by omega
           have HFc:Hid (BF k W4 v va0 wr):=HFf.out.then HG.out;have HDz:Hid (yk (qk p k) k w0 wr (B+y.states) dE (y.accept.take 0 |>.map (B+·)) v va0):=by show yk _ _ _ _ _ _ _ _ _;have:=HD.out;rw[List.take_length]at this;rw[HdE3.out];simpa using this
           have hby:=HBY.out _ _ _ HFc.out;obtain⟨y0,y1,y2⟩:=zo hby;clear HD HG hby HD5 HFf HF HDe;go_wp2_with fail;rename World=>wd;clear y0 y1 y2;go_loopw [187,23] (λi _ wr=>∃(t:Nat) (va:Value),i=.int .i64 t/\t<=y.accept.length/\Hid (yk (qk p k) k w0 wr (B+y.states) dE ((y.accept.take t).map (B+·)) v va)/\Hid (BF k W4 v va wr)) (λi _ _=>y.accept.length-(intOf i).toNat);case atStart=>exact⟨0,va0,rfl,Nat.zero_le _,HDz.out,HFc.out⟩
           case round =>
            clear HDz HFc;obtain⟨t,va,rfl,ht2,HD,HF⟩:=hrel;have hzr:=HF.out.size;by_cases hlt3:t<y.accept.length
            ·obtain⟨bq,oq,hfa⟩:=HYCA.out.resolve_left (by omega);subst hfa;have g0:=zc _ _ (Qq.1 ((qR.2 (HYI.out.ac.keep (HKP.out HD.out))).get rfl hlt3));rw[show inE.sz=1 from rfl,Nat.mul_one]at g0;have hya:=HYacc.out _ (List.getElem_mem hlt3);have HTt:Hid ((y.accept.take t).map (B+·)++[B+y.accept[t]'hlt3]=(y.accept.take (t+1)).map (B+·)):=by
              show _=_;rw[List.take_succ_eq_append_getElem hlt3,List.map_append];rfl
             have hln:((y.accept.take t).map (B+·)).length=t:=by rw[List.length_map,List.length_take];omega
             obtain⟨AT,hAT⟩:∃AT,(y.accept.take t).map (B+·)=AT:=⟨_,rfl⟩;rw[hAT]at HTt hln;have HDa:Hid (yk (qk p k) k w0 wr (B+y.states) dE AT v va):=by show yk _ _ _ _ _ _ _ _ _;rw[←hAT];exact HD.out
             clear HD hAT;generalize (y.accept[t]'hlt3)=z at g0 hya HTt;obtain⟨av,cv,hv,_⟩:=HDa.out.a.slice (by omega);rw[hln]at hv;obtain⟨-,-,d2,-,df⟩:=zR HDa.out.e.blk;have df2:=df 2;have hkl:=HDa.out.e.klt;have hne:=HDa.out.ane;have hzB:=HDa.out.sz;have HLn:=Lib.hid hln;subst hv;have d2o:∀o,(wr.alloc o).cell? ⟨k,2,none⟩=some (.slice av t cv):=λo=>Lib.cell?_alloc_some _ d2;have df2o:∀o,(wr.alloc o).frozen? ⟨k,2,none⟩=false:=λo=>(World.frozen?_alloc_old _ _ _ (Nat.ne_of_lt hkl)).trans df2;have ht30:t+1<=1073741824:=by omega
             clear df hln;go_wp2_with (at_builtin;go_must (refine yr (E:=inE) zeN _ rfl (.tmp 196) (.tmp 200) rfl (qk p k) w0.heap.size _ rfl HDa.out.a (B+z) [.int .i64 (B+z)] rfl _ _ rfl rfl t HLn.out ht30 hzB ?_));intro g cap w7 ho hg hat
             have g2:w7.cell? ⟨k,2,none⟩=some (.slice av t cv):=(hg.cell_far ⟨k,2,none⟩ hkl hne).trans d2;have gf2:w7.frozen? ⟨k,2,none⟩=false:=(hg.frozen_far ⟨k,2,none⟩ hkl hne).trans df2;have HD9:Hid (yk (qk p k) k w0 (w7.setCell ⟨k,2,none⟩ (.slice (some ⟨g,0,none⟩) (t+1) cap)) (B+y.states) dE ((y.accept.take (t+1)).map (B+·)) v (.slice (some ⟨g,0,none⟩) (t+1) cap)):=by show yk _ _ _ _ _ _ _ _ _;rw[←HTt.out];exact HDa.out.acc ho hg (hat.imp (λe=>e.symm) λe=>⟨g,rfl,Nat.le_of_lt e⟩)
             have HF9:Hid (BF k W4 v (.slice (some ⟨g,0,none⟩) (t+1) cap) (w7.setCell ⟨k,2,none⟩ (.slice (some ⟨g,0,none⟩) (t+1) cap))):=HF.out.acc hg (hat.imp (λe=>e.symm) λe=>⟨g,rfl,Nat.le_of_lt e⟩) _ _;clear ho hg hat d2o df2o;go_wp2_with fail;go_roundw;case rel=>exact⟨t+1,_,by go_num,by omega,HD9.out,HF9.out⟩
             case measure=>(simp[intOf];try omega)
            ·obtain rfl:t=y.accept.length:=by omega
             have HDx:Hid (yk (qk p k) k w0 wr (B+y.states) dE dA v va):=by show yk _ _ _ _ _ _ _ _ _;have:=HD.out;rw[List.take_length]at this;rw[HdA.out];exact this
             go_wp2_with fail;first|exact HYel.out _ _ _ HDx.out|(refine bodyPost_ret (results_none rfl _ _ _) rfl ?_;exact HYel.out _ _ _ HDx.out)
end Go.Proofs.YtnfkbliokjjggaaGreatDoor
