/- nfa.builder.and's closure: an edge to a pair of states. -/
import Derived.Test.YthojpomoflhbcaaGreatDoorQ13
import Derived.Deep.RegionLawGrows
import Derived.Test.YthojpomoflhbcaaGreatDoorQ11
set_option maxHeartbeats 8000000
set_option maxRecDepth 100000
set_option linter.unusedSimpArgs false
set_option linter.unusedVariables false
set_option linter.unnecessarySimpa false
namespace Go.Proofs.YthojpomoflhbcaaGreatDoor
open Go.RowKit
attribute [local go_sem ↓] Go.wp_at_zero Go.wp_at_succ
def zdc (p:Nat->Bool) (Q:JB) (w0 w:World) (j:zU) (ve vp:Value) (e:Ending) (w':World):Prop:=e=.returned (.tuple #[])/\∃ve' vp',JnS p Q w0 w' j ve' vp'/\JG Q w ve vp w' ve' vp'
theorem zl9 {i:Nat} {g:List Ex} {j:zU} {q:Int×Int} (h:j.pairs.contains q=true):toJ i g j q=⟨j.pairs,j.edges++[⟨i,(j.pairs.idxOf q:Nat),g,[]⟩]⟩:=by unfold toJ;rw[if_pos h]
theorem zl8 {i:Nat} {g:List Ex} {j:zU} {q:Int×Int} (h:j.pairs.contains q=false):toJ i g j q=⟨j.pairs++[q],j.edges++[⟨i,(j.pairs.length:Nat),g,[]⟩]⟩:=by unfold toJ;rw[if_neg (by rw[h];decide),List.idxOf_eq_length (λe=>by rw[List.contains_iff_mem.2 e]at h;cases h)]
theorem QJ {p:Nat->Bool} {Q:JB} {w0 w:World} {j:zU} {ve vp:Value} (hJ:JnS p Q w0 w j ve vp) (hl:j.pairs.length<=500000000) (i:Nat) (g:List Ex) (ag:Option Addr) (cg:Nat) (hg:exE.In (World.hide w (hid (hid (qj p Q) vp) ve)) g ag cg) (s t:Int) (hq:SmP (s,t)) :
 Calls Tryz.prog 210 #[.int .i64 i,.slice ag g.length cg,.int .i64 s,.int .i64 t,.pointer (some ⟨Q.m,0,none⟩),.pointer (some ⟨Q.r,0,none⟩),.pointer (some ⟨Q.b,0,none⟩)] w (zdc p Q w0 w (toJ i g j (s,t)) ve vp):=by
 obtain⟨PS,ES⟩:=j;simp only at hl;have HKey:=Lib.hid (zcy hq);unfold prV at HKey;have HJ:=Lib.hid hJ;have HG:=Lib.hid hg;have hbm:=hJ.bm;have hbr:=hJ.br;have hbb:=hJ.bb;obtain⟨m,f,hM,hml,hf⟩:=hJ.mp;have HF:Hid (f (prL (s,t))=if PS.contains (s,t) then some (.int .i64 (PS.idxOf (s,t):Nat)) else none):=hf _ hq;have HAdd:Hid (∀W j' ve' vp' (at_:Int),JnS p Q w0 W j' ve' vp'->JG Q w ve vp W ve' vp'->Calls Tryz.prog 136 #[.pointer (some ⟨Q.k,0,none⟩),yT ⟨i,at_,g,[]⟩ ag cg none 0] W (yl (hid (qj p Q) vp') Q.k w0 W 0 (j'.edges++[⟨i,at_,g,[]⟩]) ve' (.slice none 0 0))):=λW j' ve' vp' at_ h1 h2 =>
  ZF h1.e ⟨i,at_,g,[]⟩ ag cg none 0 (hg.keep h2.kp) (Enc.In.nil _)
 have HPo:Hid (∀W w' j' ve' vp' u' (at_:Int),JnS p Q w0 W j' ve' vp'->JG Q w ve vp W ve' vp'->xI (hid (qj p Q) vp') Q.k w0 w' 0 (j'.edges++[⟨i,at_,g,[]⟩]) u' (.slice none 0 0)->yw Q.k W ve' w' u'->toJ i g ⟨PS,ES⟩ (s,t)=⟨j'.pairs,j'.edges++[⟨i,at_,g,[]⟩]⟩->zdc p Q w0 w (toJ i g ⟨PS,ES⟩ (s,t)) ve vp (.returned (.tuple #[])) w'):=λW w' j' ve' vp' u' at_ h1 h2 h3 h4 h5=>by rw[h5];exact⟨rfl,u',vp',h1.step h3 h4,h2.trans (JG.ofStep _ h4)⟩
 obtain⟨c7,f7⟩:=QN hbm;obtain⟨c6,f6⟩:=QN hbr;obtain⟨c3,f3⟩:=QN hbb;have h7:=lt_of_block hbm;have h6:=lt_of_block hbr;have h3:=lt_of_block hbb;have c7o:∀o,(w.alloc o).cell? ⟨Q.m,0,none⟩=some (.map (some Q.h)):=λo=>Lib.cell?_alloc_some _ c7;have c6o:∀o,(w.alloc o).cell? ⟨Q.r,0,none⟩=some vp:=λo=>Lib.cell?_alloc_some _ c6;have c3o:∀o,(w.alloc o).cell? ⟨Q.b,0,none⟩=some (.pointer (some ⟨Q.k,0,none⟩)):=λo=>Lib.cell?_alloc_some _ c3;have HTJ:Hid (toJ i g ⟨PS,ES⟩ (s,t)=toJ i g ⟨PS,ES⟩ (s,t)):=rfl;by_cases hin:PS.contains (s,t)=true
 ·have HFv:Hid (f (prL (s,t))=some (.int .i64 (PS.idxOf (s,t):Nat))):=by have:=HF.out;rw[if_pos hin]at this;exact this
  have HT:Hid (toJ i g ⟨PS,ES⟩ (s,t)=⟨PS,ES++[⟨i,(PS.idxOf (s,t):Nat),g,[]⟩]⟩):=zl9 hin;generalize zdc p Q w0 w (toJ i g ⟨PS,ES⟩ (s,t)) ve vp=Po at HPo⊢;generalize (PS.idxOf (s,t))=n at HFv HT;have HMo:Hid (∀o,xT (w.alloc o) Tryz.prog 109 Q.h m f):=λo=>hM.alloc o;unfold yT at HAdd;clear hM hf hin HF hbm hbr hbb HTJ hJ hg;go_enter Tryz.func210, Tryz.ntmps210;go_wp2_with (at_lookup;go_must (refine y6 _ rfl _ _ 227 3 rfl ZJ (by kernel_rfl) (XH _) rfl (HMo.out _) _ _ rfl HKey.out (.int .i64 n) HFv.out ?_));have HJa:Hid (JnS p Q w0 (w.alloc (.cells #[.int .i64 s,.int .i64 t] 109)) ⟨PS,ES⟩ ve vp):=HJ.out.below ((Below.refl _ _).alloc (Nat.le_refl _) _);have HGa:Hid (JG Q w ve vp (w.alloc (.cells #[.int .i64 s,.int .i64 t] 109)) ve vp):=JG.ofBelow _ _ _ ((Below.refl _ _).alloc (Nat.le_refl _) _);refine(HAdd.out _ _ _ _ (n:Int) HJa.out HGa.out).mono ?_;rintro e w7 ⟨rfl,u',hD7,hS7⟩;have HE:=Lib.hid (HPo.out _ _ _ _ _ _ _ HJa.out HGa.out hD7 hS7 HT.out);clear hD7 hS7 HAdd;go_wp2_with fail;first|exact HE.out|(refine bodyPost_ret (results_none rfl _ _ _) rfl ?_;exact HE.out)
 ·have hin:PS.contains (s,t)=false:=by simpa using hin
  have HFv:Hid (f (prL (s,t))=none):=by have:=HF.out;rw[hin]at this;exact this
  have HT:Hid (toJ i g ⟨PS,ES⟩ (s,t)=⟨PS++[(s,t)],ES++[⟨i,(PS.length:Nat),g,[]⟩]⟩):=zl8 hin;have HMo:Hid (∀o,xT (w.alloc o) Tryz.prog 109 Q.h m f):=λo=>hM.alloc o;obtain⟨av,cv,hv,_⟩:=hJ.pr.slice (by simp only;omega);obtain⟨n,hn⟩:∃n,PS.length=n:=⟨_,rfl⟩;have HPut:Hid (∀W,xT W Tryz.prog 109 Q.h (m+if (f (prL (s,t))).isSome then 0 else 1) (zhU f (prL (s,t)) (some (.int .i64 n)))->zbZ W Q.h (PS++[(s,t)])):=λW h=>zbZ.put hml hf hq hin hn.symm h;simp only[hn]at hv hl hml HT;have HLn:=Lib.hid hn;have hm9:m<1000000000:=by omega
  have hn9:n+1<=1073741824:=by omega
  generalize zdc p Q w0 w (toJ i g ⟨PS,ES⟩ (s,t)) ve vp=Po at HPo⊢;have Hpn:Hid (vp.ownBlock≠some Q.m/\vp.ownBlock≠some Q.r/\vp.ownBlock≠some Q.b/\vp.ownBlock≠some Q.h/\∀j,vp.ownBlock=some j->w0.heap.size<=j/\j<w.heap.size):=⟨hJ.pne hbm (by decide),hJ.pne hbr (by decide),hJ.pne hbb (by decide),hJ.pnm,hJ.plt⟩;have Hmn:Hid (Q.m≠Q.h/\Q.r≠Q.h/\Q.b≠Q.h/\Q.r≠Q.b/\w0.heap.size<=w.heap.size):=⟨qb hJ.mp hbm,qb hJ.mp hbr,qb hJ.mp hbb,Xe hbr hbb (by decide),hJ.e.bel.size⟩;have HV:=Lib.hid hv;subst hv;unfold yT at HAdd;clear hM hf hin HF hbm hbr hbb HTJ hJ hg hn;go_enter Tryz.func210, Tryz.ntmps210
  go_upto_region 5 with (first
   |(at_lookup;go_must (refine yZ _ rfl _ _ 227 3 rfl ZJ (by kernel_rfl) (XH _) rfl (HMo.out _) _ _ rfl HKey.out HFv.out ?_))
   |(at_mapUpdate;go_must (refine Y4 _ rfl _ _ _ 227 3 rfl ZJ (by kernel_rfl) rfl (HMo.out _) hm9 _ _ _ rfl rfl HKey.out trivial ?_);intro wm hMm hgm))
  have HM7:=Lib.hid (HPut.out _ hMm);have hgw:w.grownBy wm (some Q.h):=QZ hgm λk hk=>by have:=HJ.out.mp.lt;have:=Option.some.inj hk;omega
  have HGw:=Lib.hid hgw;have c6m:wm.cell? ⟨Q.r,0,none⟩=some (.slice av n cv):=(HMo.out _).cells hgm _ _ (c6o _);have c3m:wm.cell? ⟨Q.b,0,none⟩=some (.pointer (some ⟨Q.k,0,none⟩)):=(HMo.out _).cells hgm _ _ (c3o _);have k0m:wm.cell? ⟨w.heap.size,0,none⟩=some (.int .i64 s):=(HMo.out _).cells hgm _ _ (by rw[zc (zi w _)];rfl);have k1m:wm.cell? ⟨w.heap.size,1,none⟩=some (.int .i64 t):=(HMo.out _).cells hgm _ _ (by rw[zc (zi w _)];rfl);have f6m:wm.frozen? ⟨Q.r,0,none⟩=false:=(World.frozen?_of_block (hgw.block Q.r h6 (λe=>Hmn.out.2.1 (Option.some.inj e)))).trans (f6 0);have hzm:=hgw.size;have HO:Hid (prE.Own 109 (qj p Q) wm w0.heap.size (.slice av n cv) PS):=HJ.out.pr.grown hgw λk hk=>by obtain rfl:=Option.some.inj hk;exact⟨Zm.2 (Or.inr (Or.inr (Or.inr (Or.inr (Or.inr rfl))))),Hpn.out.2.2.2.1⟩
  have hzB:w0.heap.size<=wm.heap.size:=Nat.le_trans Hmn.out.2.2.2.2 hzm;clear hMm hgm hgw c7 c6 c3 c7o c6o c3o f7 f3;go_wp2_with (at_builtin;go_must (refine yi (E:=prE) zg0 _ rfl (.tmp 30) (.tmp 32) rfl (qj p Q) w0.heap.size _ rfl HO.out (s,t) [.int .i64 s,.int .i64 t] rfl _ _ rfl rfl n HLn.out hn9 hzB ?_);intro gg gcap wg hownG hgrow hatG;have f6g:wg.frozen? ⟨Q.r,0,none⟩=false:=((World.frozen?_of_block (hgrow.block Q.r (Nat.lt_of_lt_of_le h6 hzm) (Ne.symm Hpn.out.2.1))).trans f6m);have c6g:wg.cell? ⟨Q.r,0,none⟩=some (.slice av n cv):=(World.cell?_of_block (hgrow.block Q.r (Nat.lt_of_lt_of_le h6 hzm) (Ne.symm Hpn.out.2.1))).trans c6m;have c3g:(wg.setCell ⟨Q.r,0,none⟩ (.slice (some ⟨gg,0,none⟩) (n+1) gcap)).cell? ⟨Q.b,0,none⟩=some (.pointer (some ⟨Q.k,0,none⟩)):=(World.cell?_of_block ((Below.heap_setCell _ _ _ _ (λe=>Hmn.out.2.2.2.1 (by simpa using e.symm))).trans (hgrow.block Q.b (Nat.lt_of_lt_of_le h3 hzm) (Ne.symm Hpn.out.2.2.1)))).trans c3m);have hpush:=HJ.out.push HGw.out HM7.out hownG hgrow (hatG.imp (λe=>e.symm) λe=>⟨gg,rfl,by omega⟩);have HJa:=Lib.hid hpush.1;have HGa:=Lib.hid hpush.2;clear hpush;refine(HAdd.out _ _ _ _ (n:Int) HJa.out HGa.out).mono ?_;rintro e w7 ⟨rfl,u',hD7,hS7⟩;have HE:=Lib.hid (HPo.out _ _ _ _ _ _ _ HJa.out HGa.out hD7 hS7 HT.out);clear hD7 hS7 HAdd;go_wp2_with fail;first|exact HE.out|(refine bodyPost_ret (results_none rfl _ _ _) rfl ?_;exact HE.out)
theorem JnS.hlt {p:Nat->Bool} {Q:JB} {w0 w:World} {j:zU} {ve vp:Value} (h:JnS p Q w0 w j ve vp) (hp:∀i,p i=true->i<w0.heap.size):∀i,hid (hid (qj p Q) vp) ve i=true->i<w.heap.size:=by
 have hsz:=h.e.bel.size;intro i hi;rcases ze.1 hi with h1|h1
 ·rcases ze.1 h1 with h2|h2
  ·rcases Zm.1 h2 with h3|rfl|rfl|rfl|rfl|rfl
   ·exact Nat.lt_of_lt_of_le (hp i h3) hsz
   ·exact lt_of_block h.e.blk
   ·exact lt_of_block h.bm
   ·exact lt_of_block h.br
   ·exact lt_of_block h.bb
   ·exact h.mp.lt
  ·exact(h.plt i h2).2
 ·exact(zl h.e.es i h1).2
theorem zl7 {i:Nat} {g:List Ex} {j:zU} {q:Int×Int}:(toJ i g j q).pairs.length<=j.pairs.length+1:=by
 unfold toJ;simp only;split
 ·omega
 ·simp
theorem zns {p:Nat->Bool} {Q:JB} {w0 w W w1:World} {j:zU} {ve vp u:Value} {G:List Ex} (h:JnS p Q w0 w j ve vp) (hp:∀i,p i=true->i<w0.heap.size) (hz:w.heap.size<=W.heap.size) (ho:exE.Own 24 (hid (hid (qj p Q) vp) ve) w1 W.heap.size u G) (hn:G.length<=1073741824):∃a c,u=.slice a G.length c/\exE.In (World.hide w1 (hid (hid (qj p Q) vp) ve)) G a c:=by
 obtain⟨a,c,h1,h2⟩:=ho.sliceP hn (λk hk=>by
  cases e:hid (hid (qj p Q) vp) ve k with
  |false=>rfl
  |true=>have:=h.hlt hp k e;omega)
 exact⟨a,c,h1,h2⟩
def Tg (p:Nat->Bool) (Q:JB) (w0 w W2:World) (G:List Ex) (ga:Option Addr) (gc:Nat) (ve vp:Value) (N:Nat) (W:World) (j:zU):Prop :=
 ∃ve' vp',JnS p Q w0 W j ve' vp'/\JG Q W2 ve vp W ve' vp'/\exE.In (World.hide W (hid (hid (qj p Q) vp') ve')) G ga gc/\j.pairs.length<=N
theorem zc4 {p:Nat->Bool} {Q:JB} {w0 w:World} {j:zU} {ve vp:Value} (hJ:JnS p Q w0 w j ve vp) (hp:∀i,p i=true->i<w0.heap.size) (hl:j.pairs.length<=400000000) (i:Nat) (e f:zn) (eg:Option Addr) (cg:Nat) (eS:Option Addr) (cS:Nat) (fg:Option Addr) (dg:Nat) (fS:Option Addr) (dS:Nat)
 (h1:exE.In (World.hide w (hid (hid (qj p Q) vp) ve)) e.guards eg cg) (h2:exE.In (World.hide w (hid (hid (qj p Q) vp) ve)) f.guards fg dg) (he:0<=e.to/\e.to<=100000) (hf:0<=f.to/\f.to<=100000) (hK:(e.guards++f.guards).length<=1073741824) (l r:Bool) :
 Calls Tryz.prog 212 #[.pointer (some ⟨Q.k,0,none⟩),.int .i64 i,yT e eg cg eS cS,yT f fg dg fS dS,.bool l,.bool r,.func (.func 210) #[] #[.pointer (some ⟨Q.m,0,none⟩),.pointer (some ⟨Q.r,0,none⟩),.pointer (some ⟨Q.b,0,none⟩)]] w
  (zdc p Q w0 w (Y1 i (e.guards++f.guards) e.to f.to l r j) ve vp):=by
 have eg2:∀args w,(callFunc 210 args).run Tryz.prog w=.ok (.enter 210 args) w:=enters_of Tryz.func210 (by kernel_rfl) rfl;have HJ:=Lib.hid hJ;have Hp:=Lib.hid hp;have HK:=Lib.hid hK;have HLj:=Lib.hid hl;have H1:=Lib.hid h1;have H2:=Lib.hid h2;have s1:SmP (e.to,f.to):=⟨⟨by show -1<=e.to;omega,he.2⟩,by show -1<=f.to;omega,hf.2⟩;have s2:SmP (-1,f.to):=⟨⟨by show (-1:Int)<=-1;omega,by show (-1:Int)<=_;omega⟩,by show -1<=f.to;omega,hf.2⟩;have s3:SmP (e.to,-1):=⟨⟨by show -1<=e.to;omega,he.2⟩,by show (-1:Int)<=-1;omega,by show (-1:Int)<=_;omega⟩;have s4:SmP (-1,-1):=⟨⟨by show (-1:Int)<=-1;omega,by show (-1:Int)<=_;omega⟩,by show (-1:Int)<=-1;omega,by show (-1:Int)<=_;omega⟩;have HTj:Hid (Y1 i (e.guards++f.guards) e.to f.to l r j=(Xc e.to f.to l r).foldl (toJ i (e.guards++f.guards)) j):=rfl;have HPo:Hid (∀W ve' vp' j',JnS p Q w0 W j' ve' vp'->JG Q w ve vp W ve' vp'->Y1 i (e.guards++f.guards) e.to f.to l r j=j'->zdc p Q w0 w (Y1 i (e.guards++f.guards) e.to f.to l r j) ve vp (.returned (.tuple #[])) W):=λW ve' vp' j' q1 q2 q3=>by rw[q3];exact⟨rfl,ve',vp',q1,q2⟩
 generalize zdc p Q w0 w (Y1 i (e.guards++f.guards) e.to f.to l r j) ve vp=Po at HPo⊢;have Hbn:Hid (∀b,w.heap.size<=b->b≠Q.k/\b≠Q.r/\b≠Q.h/\ve.ownBlock≠some b/\vp.ownBlock≠some b):=λb hb=>by have a1:=lt_of_block hJ.e.blk;have a2:=lt_of_block hJ.br;have a3:=hJ.mp.lt;exact⟨by omega,by omega,by omega,λe=>by have:=(zl hJ.e.es b e).2;omega,λe=>by have:=(hJ.plt b e).2;omega⟩
 unfold yT;clear hJ hp h1 h2 hK hl he hf;go_enter Tryz.func212, Tryz.ntmps212;go_upto_region 1 with fail;generalize hW2:World.alloc (World.alloc w _) _=W2;have hx1:W2.heap[w.heap.size]? = some (.cells #[.int .i64 e.fr,.int .i64 e.to,.slice eg e.guards.length cg,.slice eS e.sets.length cS] 69 (0,0)):=by rw[←hW2];exact zk (zh rfl)
 have hx2:W2.heap[w.heap.size+1]? = some (.cells #[.int .i64 f.fr,.int .i64 f.to,.slice fg f.guards.length dg,.slice fS f.sets.length dS] 69 (0,0)):=by rw[←hW2];exact zh (by simp)
 have hB2:Below w.heap.size w W2:=by rw[←hW2];exact((Below.refl _ _).alloc (Nat.le_refl _) _).alloc (by simp) _
 have hz2:w.heap.size+2<=W2.heap.size:=by rw[←hW2];simp
 obtain⟨a0,a1,a2,a3,-⟩:=zN hx1;obtain⟨b0,b1,b2,b3,-⟩:=zN hx2;have HB2:=Lib.hid hB2;have HX1:=Lib.hid hx1;have HX2:=Lib.hid hx2;have HJ2:=Lib.hid (HJ.out.below hB2);have HCo:Hid (∀W b,Below W2.heap.size W2 W->W.cell? ⟨b,0,none⟩=some (.slice eg e.guards.length cg)->W.cell? ⟨b,1,none⟩=some (.slice fg f.guards.length dg)->Calls Tryz.prog 253 #[.slice (some ⟨b,0,none⟩) 2 2] W (yS exE 24 (hid (hid (qj p Q) vp) ve) (e.guards++f.guards) W)):=λW b hW c0 c1 =>
  zi5 _ e.guards f.guards eg fg cg dg b W c0 c1 (H1.out.keep (zP (hB2.trans (hW.mono (by omega))))) (H2.out.keep (zP (hB2.trans (hW.mono (by omega))))) HK.out
 clear hW2 hx1 hx2 hB2;go_wp2_with fail;refine(HCo.out _ _ bel (by rw[zc (zi W2 _)];rfl) (by rw[zc (zi W2 _)];rfl)).mono ?_;rintro e5 w5 ⟨⟨u,rfl,hO⟩,hb5⟩;obtain⟨ga,gc,rfl,hG⟩:=zns HJ2.out Hp.out (Nat.le_trans (Nat.le_of_eq rfl) (by simp)) hO HK.out;have hb25:Below W2.heap.size W2 w5:=((Below.refl W2.heap.size W2).alloc (Nat.le_refl _) _).trans (hb5.mono (by simp));have HJ5:=Lib.hid (HJ2.out.below hb25);obtain⟨G,hGe⟩:∃G,e.guards++f.guards=G:=⟨_,rfl⟩;rw[hGe]at hG HTj HPo⊢;have HT0:Hid (Tg p Q w0 w W2 G ga gc ve vp 400000000 w5 j):=⟨ve,vp,HJ5.out,JG.ofBelow _ _ _ hb25,hG,HLj.out⟩;have HG2:Hid (JG Q w ve vp W2 ve vp):=JG.ofBelow _ _ _ HB2.out;have HTo:Hid (∀W jj N s t,Tg p Q w0 w W2 G ga gc ve vp N W jj->N<=400000004->SmP (s,t)->Calls Tryz.prog 210 #[.int .i64 i,.slice ga G.length gc,.int .i64 s,.int .i64 t,.pointer (some ⟨Q.m,0,none⟩),.pointer (some ⟨Q.r,0,none⟩),.pointer (some ⟨Q.b,0,none⟩)] W λe w'=>e=.returned (.tuple #[])/\Tg p Q w0 w W2 G ga gc ve vp (N+1) w' (toJ i G jj (s,t))):=by rintro W jj N s t ⟨ve',vp',t1,t2,t3,t4⟩ hN hs;refine(QJ t1 (by omega) i G ga gc t3 s t hs).mono ?_;rintro e6 w6 ⟨rfl,v6,p6,t5,t6⟩;exact⟨rfl,v6,p6,t5,t2.trans t6,t3.keep t6.kp,by have:=zl7 (i:=i) (g:=G) (j:=jj) (q:=(s,t));omega⟩
 have HBx:Hid (∀W jj N,Tg p Q w0 w W2 G ga gc ve vp N W jj->W.cell? ⟨w.heap.size,1,none⟩=some (.int .i64 e.to)/\W.cell? ⟨w.heap.size+1,1,none⟩=some (.int .i64 f.to)):=by rintro W jj N ⟨ve',vp',t1,t2,t3,t4⟩;obtain⟨n1,n2,n3,n4,n5⟩:=Hbn.out w.heap.size (Nat.le_refl _);obtain⟨m1,m2,m3,m4,m5⟩:=Hbn.out (w.heap.size+1) (by omega);have g1:=(t2.block w.heap.size (by omega) n1 n2 n3 n4 n5).trans HX1.out;have g2:=(t2.block (w.heap.size+1) (by omega) m1 m2 m3 m4 m5).trans HX2.out;exact⟨(zN g1).2.1,(zN g2).2.1⟩
 have HEnd:Hid (∀W jj N,Tg p Q w0 w W2 G ga gc ve vp N W jj->Y1 i G e.to f.to l r j=jj->Po (.returned (.tuple #[])) W):=by rintro W jj N ⟨ve',vp',t1,t2,t3,t4⟩ h;exact HPo.out W ve' vp' jj t1 (HG2.out.trans t2) h
 generalize w.heap.size=bx at *;clear HCo hO hb5 hG hb25 HJ5 HJ2 HPo HX1 HX2 a0 a1 a2 a3 b0 b1 b2 b3 HB2 HG2 Hbn H1 H2 HJ hGe HK;obtain⟨x1,x2⟩:=HBx.out _ _ _ HT0.out;go_wp2_with fail;refine(HTo.out _ _ _ _ _ HT0.out (by omega) s1).mono ?_;rintro e6 w6 ⟨rfl,hT⟩;have HT1:=Lib.hid hT;obtain⟨x1,x2⟩:=HBx.out _ _ _ hT;clear hT HT0;cases l<;>cases r
 ·go_wp2_with fail;first|exact HEnd.out _ _ _ HT1.out rfl|(refine bodyPost_ret (results_none rfl _ _ _) rfl ?_;exact HEnd.out _ _ _ HT1.out rfl)
 ·go_wp2_with fail;refine(HTo.out _ _ _ _ _ HT1.out (by omega) s3).mono ?_;rintro e7 w7 ⟨rfl,hT⟩;have HT2:=Lib.hid hT;obtain⟨y1,y2⟩:=HBx.out _ _ _ hT;clear hT HT1 x1 x2;go_wp2_with fail;first|exact HEnd.out _ _ _ HT2.out rfl|(refine bodyPost_ret (results_none rfl _ _ _) rfl ?_;exact HEnd.out _ _ _ HT2.out rfl)
 ·go_wp2_with fail;refine(HTo.out _ _ _ _ _ HT1.out (by omega) s2).mono ?_;rintro e7 w7 ⟨rfl,hT⟩;have HT2:=Lib.hid hT;obtain⟨y1,y2⟩:=HBx.out _ _ _ hT;clear hT HT1 x1 x2;go_wp2_with fail;first|exact HEnd.out _ _ _ HT2.out rfl|(refine bodyPost_ret (results_none rfl _ _ _) rfl ?_;exact HEnd.out _ _ _ HT2.out rfl)
 ·go_wp2_with fail;refine(HTo.out _ _ _ _ _ HT1.out (by omega) s2).mono ?_;rintro e7 w7 ⟨rfl,hT⟩;have HT2:=Lib.hid hT;obtain⟨y1,y2⟩:=HBx.out _ _ _ hT;clear hT HT1 x1 x2;go_wp2_with fail;refine(HTo.out _ _ _ _ _ HT2.out (by omega) s3).mono ?_;rintro e8 w8 ⟨rfl,hT⟩;have HT3:=Lib.hid hT;obtain⟨x1,x2⟩:=HBx.out _ _ _ hT;clear hT HT2 y1 y2;go_wp2_with fail;refine(HTo.out _ _ _ _ _ HT3.out (by omega) s4).mono ?_;rintro e9 w9 ⟨rfl,hT⟩;have HT4:=Lib.hid hT;clear hT HT3;go_wp2_with fail;first|exact HEnd.out _ _ _ HT4.out rfl|(refine bodyPost_ret (results_none rfl _ _ _) rfl ?_;exact HEnd.out _ _ _ HT4.out rfl)
theorem Yz {α β:Type} (F:β->α->β) (j:β) {l:List α} {a:Nat} (h:a<l.length):(l.take (a+1)).foldl F j=F ((l.take a).foldl F j) (l[a]'h):=by rw[List.take_succ_eq_append_getElem h,List.foldl_append];rfl
def JLe (j j':zU):Prop:=j.pairs.length<=j'.pairs.length/\j.edges.length<=j'.edges.length
theorem JLe.refl (j:zU):JLe j j:=⟨Nat.le_refl _,Nat.le_refl _⟩
theorem JLe.trans {a b c:zU} (h:JLe a b) (g:JLe b c):JLe a c:=⟨Nat.le_trans h.1 g.1,Nat.le_trans h.2 g.2⟩
theorem zm6 (i:Nat) (g:List Ex) (j:zU) (q:Int×Int):JLe j (toJ i g j q):=by
 unfold toJ;constructor
 ·simp only;split
  ·exact Nat.le_refl _
  ·simp
 ·simp
theorem QY {α:Type} {F:zU->α->zU} (hF:∀j a,JLe j (F j a)):∀(l:List α) (j:zU),JLe j (l.foldl F j):=by
 intro l
 induction l with
 |nil=>intro j;exact JLe.refl j
 |cons a l ih=>intro j;exact(hF j a).trans (ih _)
theorem Yy {α:Type} {F:zU->α->zU} {c:Nat} (hF:∀j a,(F j a).pairs.length<=j.pairs.length+c):∀(l:List α) (j:zU),(l.foldl F j).pairs.length<=j.pairs.length+c*l.length:=by
 intro l
 induction l with
 |nil=>intro j;simp
 |cons a l ih =>intro j;have h1:=ih (F j a);have h2:=hF j a;rw[List.foldl_cons,List.length_cons,Nat.mul_add];omega
theorem zbS (i:Nat) (g:List Ex) (j:zU) (q:Int×Int):(toJ i g j q).pairs.length<=j.pairs.length+1:=by
 unfold toJ;simp only;split
 ·omega
 ·simp
theorem ziP (s t:Int) (l r:Bool):(Xc s t l r).length<=4:=by unfold Xc;cases l<;>cases r<;>simp
theorem QE (i:Nat) (g:List Ex) (s t:Int) (l r:Bool) (j:zU):(Y1 i g s t l r j).pairs.length<=j.pairs.length+4:=by unfold Y1;have h1:=Yy (F:=toJ i g) (c:=1) (λj q=>zbS i g j q) (Xc s t l r) j;have h2:=ziP s t l r;omega
theorem zd2 (i:Nat) (g:List Ex) (s t:Int) (l r:Bool) (j:zU):JLe j (Y1 i g s t l r j):=by unfold Y1;exact QY (λj q=>zm6 i g j q) _ j
def zdg (x y:zm) (i:Nat) (t:Int) (j:zU) (e:zn):zU:=(yL y t).foldl (λj f=>Y1 i (e.guards++f.guards) e.to f.to (x.accept.contains e.to) (y.accept.contains f.to) j) j
theorem zgE (x y:zm) (i:Nat) (t:Int) (j:zU) (e:zn):(zdg x y i t j e).pairs.length<=j.pairs.length+4*(yL y t).length:=by unfold zdg;exact Yy (λj f=>QE ..) _ j
theorem zjN (x y:zm) (i:Nat) (j:zU):JLe j (XY x y i j):=by
 unfold XY;split
 ·exact JLe.refl _
 ·split
  ·exact JLe.refl _
  ·split
   ·exact QY (λj f=>zd2 ..) _ j
   ·split
    ·exact QY (λj f=>zd2 ..) _ j
    ·exact QY (λj e=>QY (λj f=>zd2 ..) _ j) _ j
theorem ziQ (x y:zm) (m:Nat):∀k,JLe (yc x y m) (yc x y (m+k)):=by
 intro k
 induction k with
 |zero=>exact JLe.refl _
 |succ k ih=>rw[←Nat.add_assoc,qP];exact ih.trans (zjN ..)
theorem zfd {x y:zm} {m:Nat} (h:(yc x y m).pairs.length<=m):∀k,yc x y (m+k)=yc x y m:=by
 intro k
 induction k with
 |zero=>rfl
 |succ k ih =>rw[←Nat.add_assoc,qP,ih];unfold XY;rw[List.getElem?_eq_none (by omega)]
theorem zew {j:zU} (h:256<j.pairs.length\/4096<j.edges.length):doneN (xv j)=none:=by unfold doneN;rw[if_neg];intro e;have:=(zz.1 e).1;simp only[xv]at this;omega
theorem ziR {x y:zm} {m:Nat} (hm:m<=256) (h:(yc x y m).pairs.length<=m\/256<(yc x y m).pairs.length\/4097<(yc x y m).edges.length):doneN (xv (yc x y m))=zb9 x y:=by
 have hle:JLe (yc x y m) (yc x y 256):=by have:=ziQ x y m (256-m);rwa [show m+(256-m)=256 from by omega]at this
 unfold zb9;rcases h with h|h
 ·have:=zfd h (256-m);rw[show m+(256-m)=256 from by omega]at this;rw[this,if_pos (by omega)]
 ·rw[zew (h.imp id (by omega))];split
  ·rw[zew];rcases h with h|h
   ·exact Or.inl (Nat.lt_of_lt_of_le h hle.1)
   ·exact Or.inr (by have:=hle.2;omega)
  ·rfl
section
variable {P : Program} {w : World} {ops : Array Oper} {rest : List Oper} {o : Oper} {a : Act} {Q : Exit → Act → World → Prop} {k : TypeId} {b n : Nat} {f : Lit → Option Value}
theorem zeb (w:World) (hg:o.guard=none) (m x v:Operand) (t e:TypeId) (hop:o.op=Op.insert t m x v) (K:Maps.Keyed P k) (ht:P.underlying t=some (.map k e)) (hm:a.eval m=.map (some b)) (hown:xT w P k b n f) (hn:n<1000000000)
 (key val:Value) (kl:Lit) (hx:a.eval x=key) (hv:a.eval v=val) (hkey:keyOf P k key=some kl) (hk:WideAt.IsKeyLit kl)
 (hK:∀w',xT w' P k b (n+if (f kl).isSome then 0 else 1) (zhU f kl (some val))->w.grownBy w' (some b)->wpList P ops Q rest (a.put o.dst undef) w'):wpList P ops Q (o::rest) a w:=by
 obtain⟨D,h1,h2,h3,h4⟩:=hown;obtain⟨w',hrun,h5,h6⟩:=h1.update (R:=zdz) K ht (by unfold maxLen;omega) (val:=val) hkey rfl;have:=xT.put hk h2 h4 h5;rw[h3]at this;refine wpList_plain hg λK' hK'=>?_;unfold Oper.wp;simp[execOp,hop,hm,hx,hv,hrun,Result.andThen];exact hK' _ _ (hK w' this h6)
end
theorem JnS.start {p:Nat->Bool} {k s:Nat} {w0 w W1 wm:World} (hk:w0.heap.size<=k) (hblk:w.heap[k]? = some (.cells #[.int .i64 0,.slice none 0 0,.slice none 0 0,.bool false] 134 (0,0))) (hb:Below w0.heap.size w0 w)
 (hs:s=w.heap.size) (hb1:Below w.heap.size w W1) (h0:W1.heap[s]? = some (.cells #[.pointer (some ⟨k,0,none⟩)] 132 (0,0))) (h3:W1.heap[s+3]? = some (.cells #[.int .i64 0,.int .i64 0] 109 (0,0)))
 (h4:W1.heap[s+4]? = some (.cells #[.slice (some ⟨s+3,0,none⟩) 1 1] 108 (0,0))) (hm:zbZ wm W1.heap.size [(0,0)]) (hg:(W1.alloc (.map #[] 0)).grownBy wm (some W1.heap.size)) :
 JnS p ⟨k,wm.heap.size,s+4,s,W1.heap.size⟩ w0 (wm.alloc (.cells #[.map (some W1.heap.size)] 227)) ⟨[(0,0)],[]⟩ (.slice none 0 0) (.slice (some ⟨s+3,0,none⟩) 1 1)/\Below W1.heap.size W1 (wm.alloc (.cells #[.map (some W1.heap.size)] 227)):=by
 subst hs;have hkw:=lt_of_block hblk;have hz:=hb.size;have hl4:=lt_of_block h4;have hB:Below W1.heap.size W1 wm:=Below.grown ((Below.refl _ _).alloc (Nat.le_refl _) _) hg (by simp) λj hj=>by have:=Option.some.inj hj;omega
 have hB2:Below W1.heap.size W1 (wm.alloc (.cells #[.map (some W1.heap.size)] 227)):=hB.alloc hB.size _;have hBw:Below w0.heap.size w0 (wm.alloc (.cells #[.map (some W1.heap.size)] 227)):=hb.trans ((hb1.mono hz).trans (hB2.mono (by omega)));have hbl:∀{j:Nat} {o:Obj},W1.heap[j]? = some o->(wm.alloc (.cells #[.map (some W1.heap.size)] 227)).heap[j]? = some o:=λh=>(hB2.block _ (lt_of_block h)).trans h;refine⟨⟨xI.mk0 hk (ze.2 (Or.inl (Zm.2 (Or.inr (Or.inl rfl))))) (hbl ((hb1.block k hkw).trans hblk)) hBw,?_,zi wm _,hbl h4,hbl h0,hm.block (Below.heap_alloc _ _ _ hm.lt),by show w0.heap.size<=w.heap.size+4;omega,by show w0.heap.size<=W1.heap.size;have:=hb1.size;omega⟩,hB2⟩;refine Yl.2 ⟨[.int .i64 0,.int .i64 0],⟨rfl,Or.inr ⟨w.heap.size+3,1,#[.int .i64 0,.int .i64 0],rfl,by omega,hbl h3,Nat.le_refl _,by unfold maxLen;omega,rfl,rfl⟩⟩,?_⟩;exact Enc.Vals.one (E:=prE) (x:=(0,0)) rfl
theorem JnS.kpI {p:Nat->Bool} {Q:JB} {w0 w:World} {j:zU} {ve vp:Value} (h:JnS p Q w0 w j ve vp) (hm:w0.heap.size<=Q.m) (hb:w0.heap.size<=Q.b):Kp (World.hide w0 p) (World.hide w (hid (hid (qj p Q) vp) ve)):=zg h.e.bel λj hj hq=>by
 rcases ze.1 hq with h1|h1
 ·rcases ze.1 h1 with h2|h2
  ·rcases Zm.1 h2 with h3|rfl|rfl|rfl|rfl|rfl
   ·exact h3
   ·have:=h.e.kB;omega
   ·omega
   ·have:=h.ir;omega
   ·omega
   ·have:=h.ih;omega
  ·have:=(h.plt j h2).1;omega
 ·have:=(zl h.e.es j h1).1;omega
theorem xI.setStJ {q:Nat->Bool} {k:Nat} {w0 w:World} {st:Int} {L:List zn} {ve va:Value} (h:xI q k w0 w st L ve va) (s2:Int):xI q k w0 (w.setCell ⟨k,0,none⟩ (.int .i64 s2)) s2 L ve va :=
 ⟨h.kB,h.qk,by rw[qc h.blk 0];rfl,xI.esSet h.qk h.ne h.es,h.bel.setCell h.kB _⟩
theorem xI.setAcJ {q:Nat->Bool} {k:Nat} {w0 w:World} {st:Int} {L:List zn} {ve va:Value} (h:xI q k w0 w st L ve va) (v2:Value):xI q k w0 (w.setCell ⟨k,2,none⟩ v2) st L ve v2 :=
 ⟨h.kB,h.qk,by rw[qc h.blk 2];rfl,xI.esSet h.qk h.ne h.es,h.bel.setCell h.kB _⟩
theorem JnS.fin0 {p:Nat->Bool} {Q:JB} {w0 w:World} {PS:List (Int×Int)} {ES:List zn} {ve vp:Value} {n:Nat} (h:JnS p Q w0 w ⟨PS,ES⟩ ve vp) (hn:PS.length=n) (hc:PS.contains (-1,-1)=false):XI p Q.k w0 (xv ⟨PS,ES⟩) (.returned (.tuple #[])) (w.setCell ⟨Q.k,0,none⟩ (.int .i64 n)):=by
 subst hn;refine⟨rfl,hid (qj p Q) vp,ve,none,0,λj hj=>ze.2 (Or.inl (Zm.2 (Or.inl hj))),?_,?_⟩
 ·simp only[xv,hc];exact h.e.setStJ _
 ·simp only[xv,hc];exact qI.1 (Enc.In.nil _)
theorem JnS.fin1 {p:Nat->Bool} {Q:JB} {w0 w:World} {PS:List (Int×Int)} {ES:List zn} {ve vp:Value} {n i:Nat} (h:JnS p Q w0 w ⟨PS,ES⟩ ve vp) (hp:∀j,p j=true->j<w0.heap.size) (hn:PS.length=n) (hi:PS.idxOf (-1,-1)=i) (hc:PS.contains (-1,-1)=true) :
 XI p Q.k w0 (xv ⟨PS,ES⟩) (.returned (.tuple #[])) (((w.setCell ⟨Q.k,0,none⟩ (.int .i64 n)).alloc (.cells #[.int .i64 i] 3)).setCell ⟨Q.k,2,none⟩ (.slice (some ⟨w.heap.size,0,none⟩) 1 1)):=by
 subst hn hi;have h1:=(h.e.setStJ PS.length).below (w':=(w.setCell ⟨Q.k,0,none⟩ (.int .i64 PS.length)).alloc (.cells #[.int .i64 (PS.idxOf (-1,-1):Nat)] 3)) ((Below.refl _ _).alloc (Nat.le_refl _) _);refine⟨rfl,hid (qj p Q) vp,ve,some ⟨w.heap.size,0,none⟩,1,λj hj=>ze.2 (Or.inl (Zm.2 (Or.inl hj))),?_,?_⟩
 ·simp only[xv,hc];exact h1.setAcJ _
 ·simp only[xv,hc];have hsz:=h.e.bel.size;have hpw:p w.heap.size=false:=by
   cases e:p w.heap.size with
   |false=>rfl
   |true=>have:=hp _ e;omega
  have hkw:Q.k<w.heap.size:=lt_of_block h.e.blk;have hcell:(((w.setCell ⟨Q.k,0,none⟩ (.int .i64 PS.length)).alloc (.cells #[.int .i64 (PS.idxOf (-1,-1):Nat)] 3)).setCell ⟨Q.k,2,none⟩ (.slice (some ⟨w.heap.size,0,none⟩) 1 1)).cell? ⟨w.heap.size,0,none⟩=some (.int .i64 (PS.idxOf (-1,-1):Nat)):=by
   have e1:(((w.setCell ⟨Q.k,0,none⟩ (.int .i64 PS.length)).alloc (.cells #[.int .i64 (PS.idxOf (-1,-1):Nat)] 3)).setCell ⟨Q.k,2,none⟩ (.slice (some ⟨w.heap.size,0,none⟩) 1 1)).heap[w.heap.size]? = some (.cells #[.int .i64 (PS.idxOf (-1,-1):Nat)] 3 (0,0)):=by refine(Below.heap_setCell _ _ _ _ (by simp;omega)).trans ?_;have:=zi (w.setCell ⟨Q.k,0,none⟩ (.int .i64 PS.length)) (.cells #[.int .i64 (PS.idxOf (-1,-1):Nat)] 3);rwa [World.size_setCell]at this
   rw[zc e1];rfl
  refine qI.1 (Enc.Vals.in (E:=inE) (xs:=[.int .i64 (PS.idxOf (-1,-1):Nat)]) (Enc.Vals.one (E:=inE) rfl) ?_ (by simp) (by simp));intro j v hv
  match j with
  |0 =>simp at hv;subst hv;exact zy.2 ⟨hpw,hcell⟩
  |j+1=>simp at hv
theorem JnS.new {p:Nat->Bool} {Q:JB} {w0 w:World} {j:zU} {ve vp:Value} (h:JnS p Q w0 w j ve vp):∀b,w.heap.size<=b->b≠Q.k/\b≠Q.r/\b≠Q.h/\ve.ownBlock≠some b/\vp.ownBlock≠some b:=λb hb=>by have a1:=lt_of_block h.e.blk;have a2:=lt_of_block h.br;have a3:=h.mp.lt;exact⟨by omega,by omega,by omega,λe=>by have:=(zl h.e.es b e).2;omega,λe=>by have:=(h.plt b e).2;omega⟩
theorem JG.at {Q:JB} {W wr:World} {v0 p0 v pv:Value} {b:Nat} {o:Obj} (h:JG Q W v0 p0 wr v pv) (hn:b≠Q.k/\b≠Q.r/\b≠Q.h/\v0.ownBlock≠some b/\p0.ownBlock≠some b) (hb:W.heap[b]? = some o):wr.heap[b]? = some o:=(h.block b (lt_of_block hb) hn.1 hn.2.1 hn.2.2.1 hn.2.2.2.1 hn.2.2.2.2).trans hb
end Go.Proofs.YthojpomoflhbcaaGreatDoor
