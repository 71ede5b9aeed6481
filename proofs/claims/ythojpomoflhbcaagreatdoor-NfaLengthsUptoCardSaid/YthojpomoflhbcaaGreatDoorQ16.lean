/- nfa.builder: repeat. -/
import Derived.Test.YthojpomoflhbcaaGreatDoorQ13
import Derived.Deep.RegionLawGrows
set_option maxHeartbeats 32000000
set_option maxRecDepth 100000
set_option linter.unusedSimpArgs false
set_option linter.unusedVariables false
set_option linter.unnecessarySimpa false
namespace Go.Proofs.YthojpomoflhbcaaGreatDoor
open Go.RowKit
attribute [local go_sem ↓] Go.wp_at_zero Go.wp_at_succ
theorem zhW (n:zm) (c:Nat):Xy n (c+1+1)=Xy n (c+1)++zJ (n.accept.map λa=>(c:Int)*(n.states-1)+a) n (((c:Int)+1)*(n.states-1))++Qt n (((c:Int)+1)*(n.states-1)):=by show Xy n (c+1)++zJ (n.accept.map λa=>(((c+1:Nat):Int)-1)*(n.states-1)+a) n (((c+1:Nat):Int)*(n.states-1))++Qt n (((c+1:Nat):Int)*(n.states-1))=_;rw[show (((c+1:Nat):Int)-1)=(c:Int) by omega,show ((c+1:Nat):Int)=(c:Int)+1 by omega]
theorem zcO (n:zm) (lo:Int) (c:Nat):Yn n lo (c+1)=Yn n lo c++(if lo<=c+1 then n.accept.map (λa=>(c:Int)*(n.states-1)+a) else []):=by unfold Yn;rw[List.range_succ,List.flatMap_append,List.flatMap_singleton]
theorem zde {K:Nat} {x:zm} (hr:qn K x):x.accept.length<=256:=by
 have h:=qM.1 (zz.1 hr.ok).2.2;have hst:=hr.st;have:∀(l:List Int) (lo:Int),(∀a∈l,lo<=a/\a<256)->l.Pairwise (·<·)->(l.length:Int)<=256-lo\/l.length=0:=by
  intro l
  induction l with
  |nil=>intro lo _ _;exact Or.inr rfl
  |cons y l ih =>
   intro lo h1 h2;have hp2:=List.pairwise_cons.1 h2;have hy:=h1 y (List.mem_cons_self ..);rcases ih (y+1) (λa ha=>⟨by have:=hp2.1 a ha;omega,(h1 a (List.mem_cons_of_mem _ ha)).2⟩) hp2.2 with h3|h3
   ·left;rw[List.length_cons];omega
   ·left;rw[List.length_cons,h3];omega
 have:=this x.accept 0 (λa ha=>by have:=h.1 a ha;omega) h.2;omega
theorem zeM (n:zm) (lo:Int):∀c:Nat,(Yn n lo c).length<=c*n.accept.length:=by
 intro c
 induction c with
 |zero=>simp[Yn]
 |succ c ih =>
  rw[zcO,List.length_append,Nat.add_mul,Nat.one_mul];have:(if lo<=(c:Int)+1 then n.accept.map (λa=>(c:Int)*(n.states-1)+a) else []).length<=n.accept.length:=by
   split
   ·rw[List.length_map];exact Nat.le_refl _
   ·simp
  omega
def znq (n:zm) (c:Nat):List Int:=n.accept.map λa=>(c:Int)*(n.states-1)+a
def Zk (n:zm):Nat->List Int
 |0=>[]
 |c+1=>znq n c
theorem zfX {p:Nat->Bool} {k:Nat} {w0 w:World} (hk:w0.heap.size<=k) (hblk:w.heap[k]? = some (.cells #[.int .i64 0,.slice none 0 0,.slice none 0 0,.bool false] 134 (0,0))) (hb:Below w0.heap.size w0 w) (hp:∀j,p j=true->j<w0.heap.size)
 (s:Tq) (ae:Option Addr) (ce:Nat) (a:Option Addr) (cap:Nat) (x:zm) (ax:YL) {K:Nat} (hrx:qn K x) (hlo:1<=s.lo) (hlh:s.lo<=s.hi) (hhi:s.hi<=16) (hx:xS (World.hide w0 p) x ax) :
 Calls Tryz.prog 85 #[.pointer (some ⟨k,0,none⟩),ym s ae ce a cap,xq x ax] w (XI p k w0 (zcP s.lo s.hi x)):=by
 have hkw:=lt_of_block hblk;have hel:=hx.es.len;have hacl:=hx.ac.2.1;obtain⟨hst1,hst2⟩:=hrx.st;have HXE:=Lib.hid hx.es;have HXC:=Lib.hid hx.ac;have HXA:Hid (x.edges.length=0\/∃b off,ax.ae=some ⟨b,off,none⟩):=hx.es.addr;have HXCA:Hid (x.accept.length=0\/∃b off,ax.aa=some ⟨b,off,none⟩):=zr.addr hx.ac;have Hp:=Lib.hid hp;have HYE:=Lib.hid hrx.ends;have HXacc:=Lib.hid hrx.acc;have hal:x.accept.length<=256:=zde hrx
 have HYel:Hid (∀(ve va:Value) (W:World),zM (qk p k) k w0 W (1+s.hi*(x.states-1)) (Xy x s.hi.toNat) (Yn x s.lo s.hi.toNat) ve va->XI p k w0 (zcP s.lo s.hi x) (.returned (.tuple #[])) W):=λve va W h=>h.post hp rfl rfl rfl (Nat.le_trans (zeM x s.lo s.hi.toNat) (by have:s.hi.toNat<=16:=(by omega);calc s.hi.toNat*x.accept.length<=16*256:=Nat.mul_le_mul this hal
  _<=_:=by decide))
 clear hx hp hrx;generalize XI p k w0 (zcP s.lo s.hi x)=Po at HYel⊢;rw[qy,zH];obtain⟨c0,c1,c2,c3,f0⟩:=zN hblk;have f00:=f0 0;have HBlk:=Lib.hid hblk;have hm0:0<=s.hi*(x.states-1):=Int.mul_nonneg (by omega) (by omega);have hm1:s.hi*(x.states-1)<=16*255:=Int.le_trans (Int.mul_le_mul_of_nonneg_right hhi (by omega)) (Int.mul_le_mul_of_nonneg_left (by omega) (by decide));clear f0 c1 c3 c2 hblk;go_enter Tryz.func85, Tryz.ntmps85;go_wp2_with fail;obtain⟨xae,xce,xaa,xca⟩:=ax;simp only at HXE HXA HXC HXCA⊢;generalize hSTd:1+s.hi*(x.states-1)=ST at *;generalize hW4:World.alloc (World.alloc (World.setCell w _ _) _) _=W4;have hblk4:W4.heap[k]? = some (.cells #[.int .i64 ST,.slice none 0 0,.slice none 0 0,.bool false] 134 (0,0)):=by rw[←hW4];refine zk (zk ?_);rw[qc HBlk.out 0];rfl
 have hbs4:W4.heap[w.heap.size]? = some (.cells #[.int .i64 s.op,.int .i64 s.lo,.int .i64 s.hi,.int .i64 s.expr.op,.int .i64 s.expr.n,.string s.expr.name,.slice ae s.expr.args.length ce,.string s.name,.slice a s.args.length cap] 27 (0,0)):=by rw[←hW4];exact zk (zh (by simp))
 have hbx4:W4.heap[w.heap.size+1]? = some (.cells #[.int .i64 x.states,.slice xae x.edges.length xce,.slice xaa x.accept.length xca] 33 (0,0)):=by rw[←hW4];exact zh (by simp)
 have hb4:Below w0.heap.size w0 W4:=by rw[←hW4];have hz:=hb.size;exact((hb.setCell hk _).alloc (by simp;omega) _).alloc (by simp;omega) _
 have hz4:w.heap.size+2<=W4.heap.size:=by rw[←hW4];simp
 clear hW4 c0 f00 hSTd hm0 hm1;have HS4:Hid (zM (qk p k) k w0 W4 ST [] [] (.slice none 0 0) (.slice none 0 0)):=zM.mk0 hk hblk4 hb4;have HBS:Hid (∀wr ve va,BF k W4 ve va wr->wr.heap[w.heap.size]? = some (.cells #[.int .i64 s.op,.int .i64 s.lo,.int .i64 s.hi,.int .i64 s.expr.op,.int .i64 s.expr.n,.string s.expr.name,.slice ae s.expr.args.length ce,.string s.name,.slice a s.args.length cap] 27 (0,0))):=λwr ve va h=>(h.block w.heap.size (by omega) (by omega)).trans hbs4;have HBX:Hid (∀wr ve va,BF k W4 ve va wr->wr.heap[w.heap.size+1]? = some (.cells #[.int .i64 x.states,.slice xae x.edges.length xce,.slice xaa x.accept.length xca] 33 (0,0))):=λwr ve va h=>(h.block (w.heap.size+1) (by omega) (by omega)).trans hbx4;have HKP:Hid (∀{wr st L A ve va},zM (qk p k) k w0 wr st L A ve va->Kp (World.hide w0 p) (World.hide wr (hid (hid (qk p k) va) ve))):=λh=>h.kp (zcM hk);have HQL:Hid (∀{wr st L A ve va},zM (qk p k) k w0 wr st L A ve va->∀j,hid (hid (qk p k) va) ve j=true->j<wr.heap.size):=λh j hj=>by
  rcases ze.1 hj with h1|h1
  ·rcases ze.1 h1 with h2|h2
   ·rcases xw.1 h2 with h3|h3
    ·have:=Hp.out j h3;have:=h.sz;omega
    ·subst h3;exact h.e.klt
   ·exact(h.alt j h2).2
  ·exact(h.e.vlt j h1).2
 clear hblk4 hbs4 hbx4 hb4 hb HBlk;have HRA:Hid (∀m,(Yn x s.lo m).length<=m*x.accept.length):=λm=>zeM x s.lo m;go_loopw [7,6,8,10,12,14] (λc en _ _ _ _ wr=>∃(m:Nat) (ve va:Value) (al:Option Addr) (cl:Nat),c=.int .i64 ((m:Int)+1)/\en=.slice al (Zk x m).length cl/\m<=s.hi.toNat/\Hid (zM (qk p k) k w0 wr ST (Xy x m) (Yn x s.lo m) ve va)/\Hid (BF k W4 ve va wr)/\Hid (IntsIn (World.hide wr (hid (hid (qk p k) va) ve)) (Zk x m) al cl)) (λc _ _ _ _ _ _=>s.hi.toNat+1-(intOf c).toNat);case atStart=>exact⟨0,.slice none 0 0,.slice none 0 0,none,0,rfl,rfl,Nat.zero_le _,HS4.out,BF.refl _ _,qI.1 (Enc.In.nil _)⟩
 case round =>
  obtain⟨m,ve,va,al,cl,rfl,rfl,hm,HD,HF,HEn⟩:=hrel;have hzr:=HF.out.size;have hbs:=HBS.out _ _ _ HF.out;obtain⟨-,s1,s2,-⟩:=QO hbs;clear hbs;by_cases hlt:m<s.hi.toNat
  ·have hltI:(m:Int)+1<=s.hi:=by omega
   have hm15:m<=15:=by omega
   have hbx:=HBX.out _ _ _ HF.out;obtain⟨x0,x1,x2⟩:=zv hbx;clear hbx;have hp0:0<=(m:Int)*(x.states-1):=Int.mul_nonneg (by omega) (by omega);have hp1:(m:Int)*(x.states-1)<=15*255:=Int.le_trans (Int.mul_le_mul_of_nonneg_right (show (m:Int)<=15 by omega) (by omega)) (Int.mul_le_mul_of_nonneg_left (by omega) (by decide));have hp2:(m:Int)*(x.states-1)<=100000:=by omega
   have HRE0:Hid (m=0->Xy x m=[]/\Xy x (m+1)=x.edges):=λh=>by subst h;exact⟨rfl,rfl⟩
   have HRES:Hid (0<m->Xy x (m+1)=Xy x m++zJ (Zk x m) x ((m:Int)*(x.states-1))++Qt x ((m:Int)*(x.states-1))):=λh=>by obtain⟨c,rfl⟩:∃c,m=c+1:=⟨m-1,by omega⟩;rw[zhW,show ((c+1:Nat):Int)=(c:Int)+1 by omega];rfl
   have HRAS:Hid (Yn x s.lo (m+1)=Yn x s.lo m++(if s.lo<=(m:Int)+1 then Zk x (m+1) else [])):=by show _=_;rw[zcO];rfl
   have HEB:Hid (Zk x (m+1)=x.accept.map (λa=>(m:Int)*(x.states-1)+a)):=rfl;go_upto_if 39 with fail;clear x0 x1 x2 s1 s2;generalize (m:Int)*(x.states-1)=B at *;obtain⟨R1,hR1⟩:∃R1,Xy x (m+1)=R1:=⟨_,rfl⟩;rw[hR1]at HRE0 HRES;have HR1:=Lib.hid hR1;clear hR1;go_cut [] from 38 to 74 (λwx=>∃ve,Hid (zM (qk p k) k w0 wx ST R1 (Yn x s.lo m) ve va)/\Hid (BF k W4 ve va wx));case first =>
    rcases Nat.eq_zero_or_pos m with h0|h0
    ·rw[show ((m:Int)+1==1)=true from by simp[h0]];have HDz:Hid (zM (qk p k) k w0 wr ST (x.edges.take 0) (Yn x s.lo m) ve va):=by
      show zM _ _ _ _ _ _ _ _ _;have:=HD.out;rw[(HRE0.out h0).1]at this;simpa using this
     have HRx:Hid (R1=x.edges):=(HRE0.out h0).2;have hbx:=HBX.out _ _ _ HF.out;obtain⟨x0,x1,x2⟩:=zv hbx;clear h0 hbx HD HRE0 HRES HEn;go_wp2_with fail;rename World=>wa;clear x0 x1 x2;go_loopw [43,10] (λi _ wr=>∃(t:Nat) (ve:Value),i=.int .i64 t/\t<=x.edges.length/\Hid (zM (qk p k) k w0 wr ST (x.edges.take t) (Yn x s.lo m) ve va)/\Hid (BF k W4 ve va wr)) (λi _ _=>x.edges.length-(intOf i).toNat);case atStart=>exact⟨0,ve,rfl,Nat.zero_le _,HDz.out,HF.out⟩
     case round =>
      clear HDz HF;obtain⟨t,ve,rfl,ht,HD,HF⟩:=hrel;by_cases hlt2:t<x.edges.length
      ·obtain⟨bf,of,hfa⟩:=HXA.out.resolve_left (by omega);subst hfa;have HK0:=Lib.hid (HKP.out HD.out);obtain⟨ag,cg,aS,cs,g0,g1,g2,g3,h1,h2⟩:=yR (HXE.out.keep HK0.out) rfl hlt2;have e0:=zb _ _ g0;have e1:=zb _ _ g1;have e2:=zb _ _ g2;have e3:=zb _ _ g3;have HTn:Hid (x.edges.take t++[x.edges[t]'hlt2]=x.edges.take (t+1)):=(List.take_succ_eq_append_getElem hlt2).symm;have HM:Hid (∀W,Below wr.heap.size wr W->Calls Tryz.prog 136 #[.pointer (some ⟨k,0,none⟩),yT (x.edges[t]'hlt2) ag cg aS cs] W (yl (hid (qk p k) va) k w0 W ST (x.edges.take t++[x.edges[t]'hlt2]) ve va)):=λW hW=>ZF (HD.out.below hW).e (x.edges[t]'hlt2) ag cg aS cs (h1.keep (zP hW)) (h2.keep (zP hW));clear g0 g1 g2 g3 h1 h2;unfold yT at HM;generalize (x.edges[t]'hlt2)=z at e0 e1 e2 e3 HTn HM;go_wp2_with (go_at_call 136;go_must (refine(HM.out _ bel).mono ?_;rintro e w7 ⟨rfl,u',hD7,hS7⟩));have hBa:Below wr.heap.size wr (wr.alloc (.cells #[.int .i64 z.fr,.int .i64 z.to,.slice ag z.guards.length cg,.slice aS z.sets.length cs] 69)):=(Below.refl _ _).alloc (Nat.le_refl _) _;have HD7:Hid (zM (qk p k) k w0 w7 ST (x.edges.take (t+1)) (Yn x s.lo m) u' va):=by
        show zM _ _ _ _ _ _ _ _ _;rw[←HTn.out];exact(HD.out.below hBa).step hD7 hS7
       have HF7:Hid (BF k W4 u' va w7):=(HF.out.below hBa).step hS7;clear hD7 hS7 hBa;go_roundw;case rel=>exact⟨t+1,u',by go_num,by omega,HD7.out,HF7.out⟩
       case measure=>(simp[intOf];try omega)
      ·obtain rfl:t=x.edges.length:=by omega
       have HDf:Hid (zM (qk p k) k w0 wr ST R1 (Yn x s.lo m) ve va):=by show zM _ _ _ _ _ _ _ _ _;have:=HD.out;rw[List.take_length]at this;rw[HRx.out];exact this
       go_wp2_with fail;go_meet;exact⟨ve,HDf,HF⟩
    ·rw[show ((m:Int)+1==1)=false from by simp;omega];have HRx:=Lib.hid (HRES.out h0);have hbx:=HBX.out _ _ _ HF.out;obtain⟨x0,x1,x2⟩:=zv hbx;have HAt:Hid (Calls Tryz.prog 140 #[.pointer (some ⟨k,0,none⟩),.slice al (Zk x m).length cl,.agg #[.int .i64 x.states,.slice xae x.edges.length xce,.slice xaa x.accept.length xca],.int .i64 B] wr (yl (hid (qk p k) va) k w0 wr ST (Xy x m++zJ (Zk x m) x B) ve va)):=by
      have h:=XM (q:=hid (qk p k) va) HD.out.e (λj hj=>HQL.out HD.out j (ze.2 (Or.inl hj))) (Zk x m) al cl x ⟨xae,xce,xaa,xca⟩ B HEn.out (HXE.out.keep (HKP.out HD.out)) HYE.out hp0 hp2;rw[zH]at h;exact h
     clear hbx HRE0 HRES;go_wp2_with fail;refine HAt.out.mono ?_;rintro e w7 ⟨rfl,u',hD7,hS7⟩;have HD7:Hid (zM (qk p k) k w0 w7 ST (Xy x m++zJ (Zk x m) x B) (Yn x s.lo m) u' va):=HD.out.step hD7 hS7;have HF7:Hid (BF k W4 u' va w7):=HF.out.step hS7;have hbx:=HBX.out _ _ _ HF7.out;obtain⟨x0,x1,x2⟩:=zv hbx;have HOt:Hid (Calls Tryz.prog 141 #[.agg #[.int .i64 x.states,.slice xae x.edges.length xce,.slice xaa x.accept.length xca]] w7 (qS (hid (hid (qk p k) va) u') (yd x) w7)):=by have h:=za2 (hid (hid (qk p k) va) u') x ⟨xae,xce,xaa,xca⟩ w7 (HXE.out.keep (HKP.out HD7.out)) (HQL.out HD7.out);rw[zH]at h;exact h
     have HRy:Hid (R1=Xy x m++zJ (Zk x m) x B++(yd x).map (λf=>mvE f (B+f.fr) (B+f.to))):=HRx.out;have HFs:Hid (∀t (h:t<(yd x).length),0<=((yd x)[t]'h).fr/\((yd x)[t]'h).fr<=100000/\0<=((yd x)[t]'h).to/\((yd x)[t]'h).to<=100000):=λt h=>HYE.out _ (List.mem_filter.1 (List.getElem_mem h)).1;have hfl:(yd x).length<=x.edges.length:=List.length_filter_le _ _;generalize yd x=F at HOt HRy HFs hfl;generalize Xy x m++zJ (Zk x m) x B=LE at HD7 HRy;clear hbx hD7 hS7 HAt HD HF HRx HEn;go_wp2_with fail;refine HOt.out.mono ?_;rintro e w5 ⟨⟨fa,fc,rfl,hF5⟩,hb5⟩;have HF5:=Lib.hid hF5;have HFA:Hid (F.length=0\/∃b off,fa=some ⟨b,off,none⟩):=hF5.addr;have HD5:=Lib.hid (HD7.out.below hb5);have HFf:=Lib.hid (HF7.out.below hb5);clear hF5 hb5 x0 x1 x2 HOt HD7 HF7;go_wp2_with fail;go_loopw [59,12] (λi _ wr=>∃(t:Nat) (v:Value),i=.int .i64 t/\t<=F.length/\Hid (zM (qk p k) k w0 wr ST (LE++(F.take t).map λf=>mvE f (B+f.fr) (B+f.to)) (Yn x s.lo m) v va)/\Hid (BG k w5 u' va wr v va)) (λi _ _=>F.length-(intOf i).toNat);case atStart=>exact⟨0,u',rfl,Nat.zero_le _,by simpa using HD5,BG.refl _ _ _ _⟩
     case round =>
      obtain⟨t,v,rfl,ht,HD,HG⟩:=hrel;by_cases hlt2:t<F.length
      ·obtain⟨bq,oq,hfa⟩:=HFA.out.resolve_left (by omega);subst hfa;have HKg:Hid (Kp (World.hide w5 (hid (hid (qk p k) va) u')) (World.hide wr (hid (hid (qk p k) va) v))):=HG.out.kp (xw.2 (Or.inr rfl));obtain⟨ag2,cg2,aS2,cs2,g0,g1,g2,g3,h1,h2⟩:=yR (HF5.out.keep HKg.out) rfl hlt2;have e0:=zb _ _ g0;have e1:=zb _ _ g1;have e2:=zb _ _ g2;have e3:=zb _ _ g3;have HTt:Hid ((LE++(F.take t).map λf=>mvE f (B+f.fr) (B+f.to))++[mvE (F[t]'hlt2) (B+(F[t]'hlt2).fr) (B+(F[t]'hlt2).to)]=LE++(F.take (t+1)).map λf=>mvE f (B+f.fr) (B+f.to)):=by
        show _=_;rw[List.take_succ_eq_append_getElem hlt2,List.map_append,List.append_assoc];rfl
       have HFt:=HFs.out t hlt2;have HM:Hid (∀W,Below wr.heap.size wr W->Calls Tryz.prog 142 #[.pointer (some ⟨k,0,none⟩),yT (F[t]'hlt2) ag2 cg2 aS2 cs2,.int .i64 (B+(F[t]'hlt2).fr),.int .i64 (B+(F[t]'hlt2).to)] W (yl (hid (qk p k) va) k w0 W ST ((LE++(F.take t).map λf=>mvE f (B+f.fr) (B+f.to))++[mvE (F[t]'hlt2) (B+(F[t]'hlt2).fr) (B+(F[t]'hlt2).to)]) v va)):=λW hW=>Yg (HD.out.below hW).e (F[t]'hlt2) ag2 cg2 aS2 cs2 _ _ (h1.keep (zP hW)) (h2.keep (zP hW));clear g0 g1 g2 g3 h1 h2;unfold yT at HM;generalize (F[t]'hlt2)=f at e0 e1 e2 e3 HTt HFt HM;obtain⟨hq0,hq1,hq2,hq3⟩:=HFt;go_wp2_with (go_at_call 142;go_must (refine(HM.out _ bel).mono ?_;rintro e w7 ⟨rfl,u2,hD7,hS7⟩));have hBa:Below wr.heap.size wr (wr.alloc (.cells #[.int .i64 f.fr,.int .i64 f.to,.slice ag2 f.guards.length cg2,.slice aS2 f.sets.length cs2] 69)):=(Below.refl _ _).alloc (Nat.le_refl _) _;have HD7:Hid (zM (qk p k) k w0 w7 ST (LE++(F.take (t+1)).map λf=>mvE f (B+f.fr) (B+f.to)) (Yn x s.lo m) u2 va):=by show zM _ _ _ _ _ _ _ _ _;rw[←HTt.out];exact(HD.out.below hBa).step hD7 hS7
       have HG7:=Lib.hid ((HG.out.below hBa).step hS7);clear hD7 hS7 hBa;go_roundw;case rel=>exact⟨t+1,u2,by go_num,by omega,HD7.out,HG7.out⟩
       case measure=>(simp[intOf];try omega)
      ·obtain rfl:t=F.length:=by omega
       have HFc:Hid (BF k W4 v va wr):=HFf.out.then HG.out;have HDf:Hid (zM (qk p k) k w0 wr ST R1 (Yn x s.lo m) v va):=by show zM _ _ _ _ _ _ _ _ _;have:=HD.out;rw[List.take_length]at this;rw[HRy.out];exact this
       go_wp2_with fail;go_meet;exact⟨v,HDf,HFc⟩
   case rest =>
    clear HD HF HRE0 HRES HEn;obtain⟨ve,HD,HF⟩:=hcut;have hzc:=HF.out.size;have hbx:=HBX.out _ _ _ HF.out;obtain⟨x0,x1,x2⟩:=zv hbx;clear hbx;go_wp2_with fail;clear x0 x1 x2;go_loopw [78,6,14] (λi en _ wr=>∃(t:Nat) (vE:Value),i=.int .i64 t/\vE=en/\t<=x.accept.length/\Hid (inE.Own 3 (λ_=>false) wr wc.heap.size vE ((x.accept.take t).map (B+·)))/\Hid (Below wc.heap.size wc wr)) (λi _ _ _=>x.accept.length-(intOf i).toNat);case atStart=>exact⟨0,_,rfl,rfl,Nat.zero_le _,Enc.Own.nil _ _ _ _ _,Below.refl _ _⟩
    case round =>
     obtain⟨t,vE,rfl,hen,ht,HO,HB⟩:=hrel;subst hen;have hzq:=HB.out.size;have hln:((x.accept.take t).map (B+·)).length=t:=by rw[List.length_map,List.length_take];omega
     by_cases hlt2:t<x.accept.length
     ·obtain⟨bq,oq,hfa⟩:=HXCA.out.resolve_left (by omega);subst hfa;have g0:=za HB.out _ _ (zb _ _ (Qo.1 ((qI.2 (HXC.out.keep (HKP.out HD.out))).get rfl hlt2)));rw[show inE.sz=1 from rfl,Nat.mul_one]at g0;have hya:=HXacc.out _ (List.getElem_mem hlt2);have HTt:Hid ((x.accept.take t).map (B+·)++[B+x.accept[t]'hlt2]=(x.accept.take (t+1)).map (B+·)):=by
       show _=_;rw[List.take_succ_eq_append_getElem hlt2,List.map_append];rfl
      obtain⟨AT,hAT⟩:∃AT,(x.accept.take t).map (B+·)=AT:=⟨_,rfl⟩;rw[hAT]at HTt hln HO;generalize (x.accept[t]'hlt2)=z at g0 hya HTt;obtain⟨av,cv,hv,_⟩:=HO.out.slice (by omega);rw[hln]at hv;subst hv;have HLn:=Lib.hid hln;have ht30:t+1<=1073741824:=by omega
      obtain⟨hya1,hya2⟩:=hya;clear hln hAT;go_wp2_with (at_builtin;go_must (refine yi (E:=inE) zaR _ rfl (.tmp 82) (.tmp 86) rfl (λ_=>false) wc.heap.size _ rfl HO.out (B+z) [.int .i64 (B+z)] rfl _ _ rfl rfl t HLn.out ht30 hzq ?_));intro g cap w7 ho hg hat
      have HO7:Hid (inE.Own 3 (λ_=>false) w7 wc.heap.size (.slice (some ⟨g,0,none⟩) (t+1) cap) ((x.accept.take (t+1)).map (B+·))):=by show Enc.Own _ _ _ _ _ _ _;rw[←HTt.out];exact ho
      have HB7:Hid (Below wc.heap.size wc w7):=HB.out.grown hg hzq λj hj=>(zl HO.out j hj).1;clear ho hg hat
      go_wp2_with fail;go_roundw;case rel=>exact⟨t+1,_,by go_num,rfl,by omega,HO7.out,HB7.out⟩
      case measure=>(simp[intOf];try omega)
     ·obtain rfl:t=x.accept.length:=by omega
      have HOe:Hid (inE.Own 3 (λ_=>false) wr wc.heap.size vE (Zk x (m+1))):=by show Enc.Own _ _ _ _ _ _ _;have:=HO.out;rw[List.take_length]at this;rw[HEB.out];exact this
      have HLe:Hid ((Zk x (m+1)).length=x.accept.length):=by show _=_;rw[HEB.out,List.length_map]
      have HDw:=Lib.hid (HD.out.below HB.out);have HFw:=Lib.hid (HF.out.below HB.out);obtain⟨ae2,ce2,hv,hEin⟩:=(zlo (q:=hid (hid (qk p k) va) ve) HOe.out).sliceP (by rw[HLe.out];exact hacl) (λj hj=>by
       cases e:hid (hid (qk p k) va) ve j with
       |false=>rfl
       |true=>have:=HQL.out HD.out j e;omega)
      subst hv;have HEin:=Lib.hid hEin;have hrl:=HRA.out m;have hrl2:m*x.accept.length<=15*256:=Nat.mul_le_mul hm15 hal;obtain⟨av,cv,hva,_⟩:=HDw.out.a.slice (by omega);obtain⟨-,-,d2,-,df⟩:=zN HDw.out.e.blk;have df2:=df 2;rw[hva]at d2;have hkl:=HDw.out.e.klt;have hne:=HDw.out.ane;have hzB:=HDw.out.sz;obtain⟨-,s1,s2,-⟩:=QO (HBS.out _ _ _ HFw.out);have hln2:(Yn x s.lo m).length+(Zk x (m+1)).length<=1073741824:=by rw[HLe.out];omega
      have HVa:=Lib.hid hva;clear df hEin HO HOe hva hrl hrl2 HEB;by_cases hge:s.lo<=(m:Int)+1
      ·have HTa:Hid (Yn x s.lo m++Zk x (m+1)=Yn x s.lo (m+1)):=by show _=_;rw[HRAS.out,if_pos hge]
       have HAP:Hid (∀{ops:Array Oper} {rest:List Oper} {o:Oper} {a:Act} {Q:Exit->Act->World->Prop},o.guard=none->(∀(_:o.op=.call { callee:=.builtin .append,args:=#[.tmp 98,.tmp 99],argTypes:=#[31, 31] }),a.eval (.tmp 98)=.slice av (Yn x s.lo m).length cv->a.eval (.tmp 99)=.slice ae2 (Zk x (m+1)).length ce2->(∀(v':Value) w',inE.Own 3 (qk p k) w' w0.heap.size v' (Yn x s.lo m++Zk x (m+1))->wr.grownBy w' va.ownBlock->(v'.ownBlock=va.ownBlock\/∃g,v'.ownBlock=some g/\wr.heap.size<=g)->wpList Tryz.prog ops Q rest (a.put o.dst v') w')->wpList Tryz.prog ops Q (o::rest) a wr)):=λhg ho h1 h2 h=>xu (E:=inE) zaR wr hg (.tmp 98) (.tmp 99) ho (qk p k) w0.heap.size va (by rw[h1,HVa.out]) HDw.out.a ae2 ce2 (HEin.out.keep (zR λj hj=>ze.2 (Or.inl hj))) h2 hln2 hzB h;go_wp2_with (at_builtin;go_must (refine HAP.out rfl rfl rfl rfl ?_));intro v' w' ho hg hat
       obtain⟨av',cv',hv',_⟩:=ho.slice (by rw[List.length_append];exact hln2);rw[List.length_append]at hv';subst hv';have g2:w'.cell? ⟨k,2,none⟩=some (.slice av (Yn x s.lo m).length cv):=(hg.cell_far ⟨k,2,none⟩ hkl hne).trans d2;have gf2:w'.frozen? ⟨k,2,none⟩=false:=(hg.frozen_far ⟨k,2,none⟩ hkl hne).trans df2;have HD9:=Lib.hid (HDw.out.acc ho hg hat);have HF9:=Lib.hid (HFw.out.acc hg hat (.slice av' ((Yn x s.lo m).length+(Zk x (m+1)).length) cv') 2);have HE9:=Lib.hid (qI.1 (HEin.out.keep (HDw.out.accKp hg hat 2 (.slice av' ((Yn x s.lo m).length+(Zk x (m+1)).length) cv'))));have HD10:Hid (zM (qk p k) k w0 (w'.setCell ⟨k,2,none⟩ (.slice av' ((Yn x s.lo m).length+(Zk x (m+1)).length) cv')) ST (Xy x (m+1)) (Yn x s.lo (m+1)) ve (.slice av' ((Yn x s.lo m).length+(Zk x (m+1)).length) cv')):=by show zM _ _ _ _ _ _ _ _ _;rw[HR1.out,←HTa.out];exact HD9.out
       clear ho hg hat HD9;go_wp2_with fail;go_roundw;case rel=>exact⟨m+1,ve,_,ae2,ce2,by go_num,rfl,by omega,HD10.out,HF9.out,HE9.out⟩
       case measure=>(simp[intOf];try omega)
      ·have HD10:Hid (zM (qk p k) k w0 wr ST (Xy x (m+1)) (Yn x s.lo (m+1)) ve va):=by
        show zM _ _ _ _ _ _ _ _ _;rw[HR1.out,HRAS.out,if_neg hge,List.append_nil];exact HDw.out
       go_wp2_with fail;go_roundw;case rel=>exact⟨m+1,ve,va,ae2,ce2,by go_num,rfl,by omega,HD10.out,HFw.out,qI.1 HEin.out⟩
       case measure=>(simp[intOf];try omega)
  ·have hltI:¬(m:Int)+1<=s.hi:=by omega
   obtain rfl:m=s.hi.toNat:=by omega
   clear HEn;go_wp2_with fail;first|exact HYel.out _ _ _ HD.out|(refine bodyPost_ret (results_none rfl _ _ _) rfl ?_;exact HYel.out _ _ _ HD.out)
theorem Yi {w:World} {l:List zm} {a:Option Addr} {cap:Nat} (h:nfE.In w l a cap) {b off:Nat} (ha:a=some ⟨b,off,none⟩) {i:Nat} (hi:i<l.length) :
 ∃x:YL,w.cell? ⟨b,off+i*3,none⟩=some (.int .i64 (l[i]'hi).states)/\w.cell? ⟨b,off+i*3+1,none⟩=some (.slice x.ae (l[i]'hi).edges.length x.ce)/\w.cell? ⟨b,off+i*3+2,none⟩=some (.slice x.aa (l[i]'hi).accept.length x.ca)/\xS w (l[i]'hi) x:=by
 obtain⟨vs,⟨x,rfl,h1⟩,hc⟩:=h.get ha hi;exact⟨x,hc 0 _ rfl,hc 1 _ rfl,hc 2 _ rfl,h1⟩
theorem zhN (base s:Int) (b:Nat) (w:World) (hc:w.cell? ⟨b,0,none⟩=some (.int .i64 base)) (h1:0<=base) (h2:base<=100000) (h3:0<=s) (h4:s<=100000) :
 Calls Tryz.prog 143 #[.int .i64 s,.pointer (some ⟨b,0,none⟩)] w λe w'=>e=.returned (.int .i64 (xJ base s))/\w'=w:=by
 by_cases h0:s=0
 ·have hv:xJ base s=0:=by unfold xJ;rw[if_pos h0]
  rw[hv];have h5:(s==0)=true:=by simp[h0]
  clear h0;go_enter Tryz.func143, Tryz.ntmps143;go_wp2_with fail;go_ret;exact⟨rfl,rfl⟩
 ·have hv:xJ base s=base+s:=by unfold xJ;rw[if_neg h0]
  rw[hv];have h5:(s==0)=false:=by simp[h0]
  go_enter Tryz.func143, Tryz.ntmps143;go_wp2_with fail;go_ret;exact⟨rfl,rfl⟩
def orK (ps:List zm) (k:Nat):zm:=(ps.take k).foldl xG ⟨1,[],[]⟩
theorem zeF {ps:List zm} {k:Nat} (h:k<ps.length):orK ps (k+1)=xG (orK ps k) (ps[k]'h):=by unfold orK;rw[List.take_succ_eq_append_getElem h,List.foldl_append];rfl
theorem zdP (ps:List zm):orK ps ps.length=orN ps:=by unfold orK orN;rw[List.take_length]
theorem zlA {ps:List zm} (hp:∀n∈ps,(1<=n.states/\n.states<=256)/\n.accept.length<=256):∀k,k<=ps.length->(1<=(orK ps k).states/\(orK ps k).states<=1+255*k)/\(orK ps k).accept.length<=256*k:=by
 intro k
 induction k with
 |zero=>intro _;exact⟨⟨Int.le_refl _,Int.le_refl _⟩,Nat.le_refl _⟩
 |succ k ih =>intro hk;have h1:=ih (by omega);have h2:=hp _ (List.getElem_mem (show k<ps.length by omega));rw[zeF (by omega)];simp only[xG,List.length_append,List.length_map];omega
theorem zmS {p:Nat->Bool} {k:Nat} {w0 w:World} (hk:w0.heap.size<=k) (hblk:w.heap[k]? = some (.cells #[.int .i64 0,.slice none 0 0,.slice none 0 0,.bool false] 134 (0,0))) (hb:Below w0.heap.size w0 w) (hp:∀j,p j=true->j<w0.heap.size)
 (ps:List zm) (pa:Option Addr) (pc:Nat) {K:Nat} (hr:∀n∈ps,qn K n) (hl8:ps.length<=8) (hI:nfE.In (World.hide w0 p) ps pa pc) :
 Calls Tryz.prog 86 #[.pointer (some ⟨k,0,none⟩),.slice pa ps.length pc] w (XI p k w0 (orN ps)):=by
 have hkw:=lt_of_block hblk;have HPI:=Lib.hid hI;have HPA:Hid (ps.length=0\/∃b off,pa=some ⟨b,off,none⟩):=hI.addr;have Hp:=Lib.hid hp;have HRn:=Lib.hid hr;have HOr:=Lib.hid (zlA (ps:=ps) λn hn=>⟨(hr n hn).st,zde (hr n hn)⟩);have HSu:Hid (∀m (h:m<ps.length),orK ps (m+1)=xG (orK ps m) (ps[m]'h)):=λm h=>zeF h;have HPo:Hid (∀(ve va:Value) (W:World),zM (qk p k) k w0 W (orK ps ps.length).states (orK ps ps.length).edges (orK ps ps.length).accept ve va->XI p k w0 (orN ps) (.returned (.tuple #[])) W):=λve va W h=>h.post hp (by rw[zdP]) (by rw[zdP]) (by rw[zdP]) (by have:=(HOr.out ps.length (Nat.le_refl _)).2;omega);clear hI hp hr;generalize XI p k w0 (orN ps)=Po at HPo⊢;obtain⟨c0,c1,c2,c3,f0⟩:=zN hblk;have f00:=f0 0;have HBlk:=Lib.hid hblk;clear f0 c1 c3 c2 hblk;go_enter Tryz.func86, Tryz.ntmps86;go_wp2_with fail;generalize hW4:World.setCell w _ _=W4;have hblk4:W4.heap[k]? = some (.cells #[.int .i64 1,.slice none 0 0,.slice none 0 0,.bool false] 134 (0,0)):=by rw[←hW4,qc HBlk.out 0];rfl
 have hb4:Below w0.heap.size w0 W4:=by rw[←hW4];exact hb.setCell hk _
 clear hW4 c0 f00;have HS4:Hid (zM (qk p k) k w0 W4 1 [] [] (.slice none 0 0) (.slice none 0 0)):=zM.mk0 hk hblk4 hb4;have HKP:Hid (∀{wr st L A ve va},zM (qk p k) k w0 wr st L A ve va->Kp (World.hide w0 p) (World.hide wr (hid (hid (qk p k) va) ve))):=λh=>h.kp (zcM hk);clear hblk4 hb4 hb HBlk;go_loopw [18,5,6,7,9,11] (λi _ _ _ _ _ wr=>∃(m:Nat) (ve va:Value),i=.int .i64 m/\m<=ps.length/\Hid (zM (qk p k) k w0 wr (orK ps m).states (orK ps m).edges (orK ps m).accept ve va)/\Hid (BF k W4 ve va wr)) (λi _ _ _ _ _ _=>ps.length-(intOf i).toNat);case atStart=>exact⟨0,.slice none 0 0,.slice none 0 0,rfl,Nat.zero_le _,HS4.out,BF.refl _ _⟩
 case round =>
  obtain⟨m,ve,va,rfl,hm,HD,HF⟩:=hrel;by_cases hlt:m<ps.length
  ·obtain⟨bp,op,hpa⟩:=HPA.out.resolve_left (by omega);subst hpa;obtain⟨⟨xae,xce,xaa,xca⟩,g0,g1,g2,hN⟩:=Yi HPI.out rfl hlt;have n0:=zb _ _ (HKP.out HD.out _ _ g0);have n1:=zb _ _ (HKP.out HD.out _ _ g1);have n2:=zb _ _ (HKP.out HD.out _ _ g2);have HN:=Lib.hid hN;have hrg:=HOr.out m hm;have hrn:=HRn.out _ (List.getElem_mem hlt);have HSm:=Lib.hid (HSu.out m hlt);have hNst:=hrn.st;have HEnds:=Lib.hid hrn.ends;have HAcc:=Lib.hid hrn.acc;have hAl:=zde hrn;clear g0 g1 g2 hN hrn;generalize (ps[m]'hlt)=n at n0 n1 n2 HN HSm hNst HEnds HAcc hAl;simp only at n1 n2;obtain⟨OK,hOK⟩:∃OK,orK ps m=OK:=⟨_,rfl⟩;obtain⟨ON,hON⟩:∃ON,orK ps (m+1)=ON:=⟨_,rfl⟩;rw[hOK]at HD hrg HSm;rw[hON]at HSm;have HON:=Lib.hid hON;clear hOK hON;obtain⟨SK,EK,AK⟩:=OK;simp only at HD hrg;obtain⟨⟨hS1,hS2⟩,hA1⟩:=hrg;obtain⟨hN1,hN2⟩:=hNst;have hS3:SK<=2000:=by omega
   have hA2:AK.length<=2100:=by omega
   have hel:=HN.out.es.len;have HNA:Hid (n.edges.length=0\/∃b off,xae=some ⟨b,off,none⟩):=HN.out.es.addr;have HNCA:Hid (n.accept.length=0\/∃b off,xaa=some ⟨b,off,none⟩):=zr.addr HN.out.ac;obtain⟨d0,-,-,-,-⟩:=zN HD.out.e.blk;have hkl:=HD.out.e.klt;have d0o:∀o,(wr.alloc o).cell? ⟨k,0,none⟩=some (.int .i64 SK):=λo=>Lib.cell?_alloc_some _ d0;go_wp2_with fail;generalize hW5:World.alloc (World.alloc wr _) _=W5;have hbn5:W5.heap[wr.heap.size]? = some (.cells #[.int .i64 n.states,.slice xae n.edges.length xce,.slice xaa n.accept.length xca] 33 (0,0)):=by rw[←hW5];exact zk (zh rfl)
   have hbb5:W5.heap[wr.heap.size+1]? = some (.cells #[.int .i64 (SK-1)] 3 (0,0)):=by rw[←hW5];exact zh (by simp)
   have hB5:Below wr.heap.size wr W5:=by rw[←hW5];exact((Below.refl _ _).alloc (Nat.le_refl _) _).alloc (by simp) _
   have hz5:wr.heap.size+2<=W5.heap.size:=by rw[←hW5];simp
   clear hW5 d0o d0 n0 n1 n2;have HD5:=Lib.hid (HD.out.below hB5);have HF5:=Lib.hid (HF.out.below hB5);have HVn:Hid (∀j,wr.heap.size<=j->j≠k/\ve.ownBlock≠some j/\va.ownBlock≠some j):=λj hj=>⟨by omega,λe=>by have:=(HD.out.e.vlt j e).2;omega,λe=>by have:=(HD.out.alt j e).2;omega⟩;have HNb:Hid (∀wq v a,BG k W5 ve va wq v a->wq.heap[wr.heap.size]? = some (.cells #[.int .i64 n.states,.slice xae n.edges.length xce,.slice xaa n.accept.length xca] 33 (0,0))):=λwq v a h=>by have:=HVn.out wr.heap.size (Nat.le_refl _);exact(h.block wr.heap.size (by omega) this.1 this.2.1 this.2.2).trans hbn5
   have HBb:Hid (∀wq v a,BG k W5 ve va wq v a->wq.heap[wr.heap.size+1]? = some (.cells #[.int .i64 (SK-1)] 3 (0,0))):=λwq v a h=>by have:=HVn.out (wr.heap.size+1) (by omega);exact(h.block (wr.heap.size+1) (by omega) this.1 this.2.1 this.2.2).trans hbb5
   rename World=>w1;clear hbn5 hbb5 hB5 HD HVn;clear HF;generalize wr.heap.size=nb at *;have hb0:0<=SK-1:=by omega
   have hb1:SK-1<=100000:=by omega
   have HPl:Hid (∀s W,W.cell? ⟨nb+1,0,none⟩=some (.int .i64 (SK-1))->0<=s->s<=100000->Calls Tryz.prog 143 #[.int .i64 s,.pointer (some ⟨nb+1,0,none⟩)] W λe w'=>e=.returned (.int .i64 (xJ (SK-1) s))/\w'=W):=λs W hc h3 h4=>zhN (SK-1) s (nb+1) W hc hb0 hb1 h3 h4;generalize hPL:xJ (SK-1)=PL at HPl;have HPL:=Lib.hid hPL;clear hPL;go_loopw [32,9] (λi _ wr=>∃(t:Nat) (v:Value),i=.int .i64 t/\t<=n.edges.length/\Hid (zM (qk p k) k w0 wr SK (EK++(n.edges.take t).map λe=>mvE e (PL e.fr) (PL e.to)) AK v va)/\Hid (BG k w1 ve va wr v va)) (λi _ _=>n.edges.length-(intOf i).toNat);case atStart=>exact⟨0,ve,rfl,Nat.zero_le _,by simpa using HD5,BG.refl _ _ _ _⟩
   case round =>
    obtain⟨t,v,rfl,ht,HD,HG⟩:=hrel;have hzr:=HG.out.size;have hbb:=HBb.out _ _ _ HG.out;have q0:wr.cell? ⟨nb+1,0,none⟩=some (.int .i64 (SK-1)):=by rw[zc hbb];rfl
    have q0o:∀o,(wr.alloc o).cell? ⟨nb+1,0,none⟩=some (.int .i64 (SK-1)):=λo=>Lib.cell?_alloc_some _ q0;have q0d:∀o,(wr.alloc o).drew.cell? ⟨nb+1,0,none⟩=some (.int .i64 (SK-1)):=q0o;by_cases hlt2:t<n.edges.length
    ·obtain⟨bf,of,hfa⟩:=HNA.out.resolve_left (by omega);subst hfa;obtain⟨ag,cg,aS,cs,g0,g1,g2,g3,h1,h2⟩:=yR (HN.out.es.keep (HKP.out HD.out)) rfl hlt2;have e0:=zb _ _ g0;have e1:=zb _ _ g1;have e2:=zb _ _ g2;have e3:=zb _ _ g3;have hee:=HEnds.out _ (List.getElem_mem hlt2);have HTt:Hid ((EK++(n.edges.take t).map λe=>mvE e (PL e.fr) (PL e.to))++[mvE (n.edges[t]'hlt2) (PL (n.edges[t]'hlt2).fr) (PL (n.edges[t]'hlt2).to)]=EK++(n.edges.take (t+1)).map λe=>mvE e (PL e.fr) (PL e.to)):=by
      show _=_;rw[List.take_succ_eq_append_getElem hlt2,List.map_append,List.append_assoc];rfl
     have HM:Hid (∀W u1 u2,Below wr.heap.size wr W->Calls Tryz.prog 142 #[.pointer (some ⟨k,0,none⟩),yT (n.edges[t]'hlt2) ag cg aS cs,.int .i64 u1,.int .i64 u2] W (yl (hid (qk p k) va) k w0 W SK ((EK++(n.edges.take t).map λe=>mvE e (PL e.fr) (PL e.to))++[mvE (n.edges[t]'hlt2) u1 u2]) v va)):=λW u1 u2 hW=>Yg (HD.out.below hW).e (n.edges[t]'hlt2) ag cg aS cs _ _ (h1.keep (zP hW)) (h2.keep (zP hW));clear g0 g1 g2 g3 h1 h2 hbb;unfold yT at HM;generalize (n.edges[t]'hlt2)=y at e0 e1 e2 e3 hee HTt HM;obtain⟨hq0,hq1,hq2,hq3⟩:=hee;go_upto_region 9 with fail
     go_region_with (first
      |(go_at_call 143;go_must (refine(HPl.out _ _ (by first|exact q0d _|exact q0o _|assumption) (by assumption) (by assumption)).mono ?_;rintro e w1 ⟨rfl,rfl⟩))
      |(go_at_call 142;go_must (refine(HM.out _ _ _ bel).mono ?_;rintro e w7 ⟨rfl,u',hD7,hS7⟩)))
     all_goals
      have hBa:Below wr.heap.size wr (wr.alloc (.cells #[.int .i64 y.fr,.int .i64 y.to,.slice ag y.guards.length cg,.slice aS y.sets.length cs] 69)):=(Below.refl _ _).alloc (Nat.le_refl _) _;have HD7:Hid (zM (qk p k) k w0 w7 SK (EK++(n.edges.take (t+1)).map λe=>mvE e (PL e.fr) (PL e.to)) AK u' va):=by show zM _ _ _ _ _ _ _ _ _;rw[←HTt.out];exact(HD.out.below (Below.drew hBa)).step hD7 hS7
      have HG7:=Lib.hid ((HG.out.below (Below.drew hBa)).step hS7);clear hD7 hS7 hBa;go_wp2_with fail;go_roundw;case rel=>exact⟨t+1,u',by go_num,by omega,HD7.out,HG7.out⟩
      case measure=>(simp[intOf];try omega)
    ·obtain rfl:t=n.edges.length:=by omega
     obtain⟨EN,hEN⟩:∃EN,EK++n.edges.map (λe=>mvE e (PL e.fr) (PL e.to))=EN:=⟨_,rfl⟩;have HEN:=Lib.hid hEN;have HDz:Hid (zM (qk p k) k w0 wr SK EN (AK++(n.accept.take 0).map PL) v va):=by show zM _ _ _ _ _ _ _ _ _;have:=HD.out;rw[List.take_length,hEN]at this;simpa using this
     have hbn:=HNb.out _ _ _ HG.out;obtain⟨x0,x1,x2⟩:=zv hbn;clear hEN HD hbn hbb q0o q0d q0 HD5;go_wp2_with fail;rename World=>w2;clear x0 x1 x2;go_loopw [51,11] (λi _ wr=>∃(t:Nat) (va2:Value),i=.int .i64 t/\t<=n.accept.length/\Hid (zM (qk p k) k w0 wr SK EN (AK++(n.accept.take t).map PL) v va2)/\Hid (BG k w1 ve va wr v va2)) (λi _ _=>n.accept.length-(intOf i).toNat);case atStart=>exact⟨0,va,rfl,Nat.zero_le _,HDz.out,HG.out⟩
     case round =>
      clear HDz HG;obtain⟨t,va2,rfl,ht2,HD,HG⟩:=hrel;have hzr:=HG.out.size;have hbb:=HBb.out _ _ _ HG.out;have q0:wr.cell? ⟨nb+1,0,none⟩=some (.int .i64 (SK-1)):=by rw[zc hbb];rfl
      have q0d:wr.drew.cell? ⟨nb+1,0,none⟩=some (.int .i64 (SK-1)):=q0;by_cases hlt3:t<n.accept.length
      ·obtain⟨bf,of,hfa⟩:=HNCA.out.resolve_left (by omega);subst hfa;have g0:=zb _ _ (Qo.1 ((qI.2 (HN.out.ac.keep (HKP.out HD.out))).get rfl hlt3));rw[show inE.sz=1 from rfl,Nat.mul_one]at g0;have hya:=HAcc.out _ (List.getElem_mem hlt3);have HTt:Hid ((AK++(n.accept.take t).map PL)++[PL (n.accept[t]'hlt3)]=AK++(n.accept.take (t+1)).map PL):=by
        show _=_;rw[List.take_succ_eq_append_getElem hlt3,List.map_append,List.append_assoc];rfl
       have hln:(AK++(n.accept.take t).map PL).length=AK.length+t:=by rw[List.length_append,List.length_map,List.length_take];omega
       obtain⟨AT,hAT⟩:∃AT,AK++(n.accept.take t).map PL=AT:=⟨_,rfl⟩;rw[hAT]at HTt hln HD;clear hAT;generalize (n.accept[t]'hlt3)=z at g0 hya HTt;obtain⟨hya1,hya2⟩:=hya;obtain⟨av,cv,hv,_⟩:=HD.out.a.slice (by omega);obtain⟨LT,hLT⟩:∃LT,AT.length=LT:=⟨_,rfl⟩;rw[hLT]at hv;have hLT2:LT+1<=1073741824:=by omega
       have HLn:=Lib.hid hLT;obtain⟨-,-,d2,-,df⟩:=zN HD.out.e.blk;have df2:=df 2;have hkl:=HD.out.e.klt;have hne:=HD.out.ane;have hzB:=HD.out.sz;subst hv;have d2o:∀o,(wr.alloc o).cell? ⟨k,2,none⟩=some (.slice av LT cv):=λo=>Lib.cell?_alloc_some _ d2;have hz0':0<=z:=by omega
       have hz1':z<=100000:=by omega
       clear df hln hLT hbb;go_upto_region 14 with fail
       go_region_law (first
        |(go_simp;go_at_call 143;(with_reducible refine(HPl.out _ _ (by first|with_reducible exact q0|exact q0d|assumption) (by assumption) (by assumption)).mono ?_);rintro e w9 ⟨rfl,rfl⟩)
        |(refine xR (E:=inE) zaR (by rfl) _ _ (by rfl) (qk p k) w0.heap.size (.slice av LT cv) (by rfl) (HD.out.a.below yx) (PL z) [.int .i64 (PL z)] rfl wr.heap.size 1 (by rfl) (zi wr _) LT HLn.out hLT2 (by simp;omega) (wr.heap.size+1) (by simp) ?_;intro gg gcap wg hownG hgrow hatG hltG;have f1g:wg.frozen? ⟨k,2,none⟩=false:=((hgrow.frozen_far ⟨k,2,none⟩ (by simp;omega) hne).trans (World.frozen?_alloc_old _ _ _ (Nat.ne_of_lt hkl))).trans df2;have c1g:wg.cell? ⟨k,2,none⟩=some (.slice av LT cv):=(hgrow.cell_far ⟨k,2,none⟩ (by simp;omega) hne).trans (d2o _)))
       all_goals
        have hal2:Below wr.heap.size wr (wr.alloc (.cells #[.int .i64 (PL z)] 3)).drew:=Below.drew ((Below.refl _ _).alloc (Nat.le_refl _) _);have HD9:Hid (zM (qk p k) k w0 (wg.setCell ⟨k,2,none⟩ (.slice (some ⟨gg,0,none⟩) (LT+1) gcap)) SK EN (AK++(n.accept.take (t+1)).map PL) v (.slice (some ⟨gg,0,none⟩) (LT+1) gcap)):=by show zM _ _ _ _ _ _ _ _ _;rw[←HTt.out];exact(HD.out.below hal2).acc hownG hgrow (hatG.imp (λe=>e.symm) λe=>⟨gg,rfl,by simp;omega⟩)
        have HG9:Hid (BG k w1 ve va (wg.setCell ⟨k,2,none⟩ (.slice (some ⟨gg,0,none⟩) (LT+1) gcap)) v (.slice (some ⟨gg,0,none⟩) (LT+1) gcap)):=(HG.out.below hal2).acc hgrow (hatG.imp (λe=>e.symm) λe=>⟨gg,rfl,by simp;omega⟩) _ _;clear hownG hgrow hatG hltG f1g c1g hal2;go_wp2_with fail;go_roundw;case rel=>exact⟨t+1,_,by go_num,by omega,HD9.out,HG9.out⟩
        case measure=>(simp[intOf];try omega)
      ·obtain rfl:t=n.accept.length:=by omega
       have hbn:=HNb.out _ _ _ HG.out;obtain⟨x0,x1,x2⟩:=zv hbn;obtain⟨d0,-,-,-,df⟩:=zN HD.out.e.blk;have df0:=df 0;have hkl:=HD.out.e.klt;have HDf:Hid (zM (qk p k) k w0 (wr.drew.setCell ⟨k,0,none⟩ (.int .i64 (SK+(n.states-1)))) (orK ps (m+1)).states (orK ps (m+1)).edges (orK ps (m+1)).accept v va2):=by show zM _ _ _ _ _ _ _ _ _;have h1:=(HD.out.below (Below.drew (Below.refl _ _))).setSt (SK+(n.states-1));rw[List.take_length]at h1;rw[HON.out,HSm.out];simp only[xG];rw[HPL.out,HEN.out];exact h1
       have HFf:Hid (BF k W4 v va2 (wr.drew.setCell ⟨k,0,none⟩ (.int .i64 (SK+(n.states-1))))):=(HF5.out.then ((HG.out.below (Below.drew (Below.refl _ _))).setSt _ _));clear hbn hbb df HD HG x1 x2 q0 q0d;go_upto_region 16 with fail;go_region;go_wp2_with fail;go_roundw;case rel=>exact⟨m+1,v,va2,by go_num,by omega,HDf.out,HFf.out⟩
       case measure=>(simp[intOf];try omega)
  ·obtain rfl:m=ps.length:=by omega
   go_wp2_with fail;first|exact HPo.out _ _ _ HD.out|(refine bodyPost_ret (results_none rfl _ _ _) rfl ?_;exact HPo.out _ _ _ HD.out)
end Go.Proofs.YthojpomoflhbcaaGreatDoor
