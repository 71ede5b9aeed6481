/- nfa.builder.and. -/
import Derived.Test.YthojpomoflhbcaaGreatDoorN18
import Derived.BigQuiet
import Derived.Deep.RegionHeld3
set_option linter.unusedSimpArgs false
set_option linter.unusedVariables false
set_option linter.unnecessarySimpa false
namespace Go.Proofs.YthojpomoflhbcaaGreatDoor
open Go.RowKit
attribute [local go_sem ↓] Go.wp_at_zero Go.wp_at_succ
def NfBox (n:NfaD) (x:NfaA):Obj:=.cells #[.int .i64 n.states,.slice x.ae n.edges.length x.ce,.slice x.aa n.accept.length x.ca] 33 (0,0)
set_option maxHeartbeats 64000000 in
set_option maxRecDepth 100000 in
theorem and_any {p:Nat→Bool} {k:Nat} {w0 w:World} (hk:w0.heap.size≤k) (hblk:w.heap[k]? = some (.cells #[.int .i64 0,.slice none 0 0,.slice none 0 0,.bool false] 134 (0,0))) (hb:Below w0.heap.size w0 w) (hp:∀ j,p j=true→j < w0.heap.size)
  (x y:NfaD) (xa ya:NfaA) {Kx Ky:Nat} (hx:RegN Kx x) (hy:RegN Ky y) (hK:Kx+Ky≤1000000000) (hX:NfaIn (World.hide w0 p) x xa) (hY:NfaIn (World.hide w0 p) y ya) :
  Calls Tryz.prog 144 #[.pointer (some ⟨k,0,none⟩),nfaVal x xa,nfaVal y ya] w (fun e w'=>∃ m,BldP p k w0 (jointN (andAt x y m)) e w'∧doneN (jointN (andAt x y m))=andN x y):=by
 have eg2:∀ args w,(callFunc 210 args).run Tryz.prog w=.ok (.enter 210 args) w:=enters_of Tryz.func210 (by kernel_rfl) rfl
 have hmm:=@run_makeMap Tryz.prog
 generalize hPo:(fun (e:Ending) (w':World)=>∃ m,BldP p k w0 (jointN (andAt x y m)) e w'∧doneN (jointN (andAt x y m))=andN x y)=Po
 have HPo:Hid (∀ n W,(∃ m,n=jointN (andAt x y m))→BldP p k w0 n (.returned (.tuple #[])) W→doneN n=andN x y→Po (.returned (.tuple #[])) W):=fun n W h0 h1 h2=>by
  rw[← hPo]
  obtain⟨m,rfl⟩:=h0
  exact⟨m,h1,h2⟩
 clear hPo
 have HX:=Lib.hid hX
 have HY:=Lib.hid hY
 have Hp:=Lib.hid hp
 have HRx:=Lib.hid hx
 have HRy:=Lib.hid hy
 have HK:=Lib.hid hK
 have Hz:=Lib.hid hb.size
 have Hkw:=Lib.hid (lt_of_block hblk)
 have HBlk:=Lib.hid hblk
 have HB:=Lib.hid hb
 clear hX hY hp hx hy hK hblk hb
 obtain⟨xae,xce,xaa,xca⟩:=xa
 obtain⟨yae,yce,yaa,yca⟩:=ya
 simp only[nfaVal_eq]
 go_enter Tryz.func144, Tryz.ntmps144
 go_upto_region 2 with fail
 generalize hW1:World.alloc (World.alloc (World.alloc (World.alloc (World.alloc w _) _) _) _) _=W1
 have x0:W1.heap[w.heap.size]? = some (.cells #[.pointer (some ⟨k,0,none⟩)] 132 (0,0)):=by rw[← hW1];exact hx_oldT (hx_oldT (hx_oldT (hx_oldT (hx_newT rfl))))
 have x1:W1.heap[w.heap.size+1]? = some (NfBox x ⟨xae,xce,xaa,xca⟩):=by rw[← hW1];exact hx_oldT (hx_oldT (hx_oldT (hx_newT (by simp))))
 have x2:W1.heap[w.heap.size+1+1]? = some (NfBox y ⟨yae,yce,yaa,yca⟩):=by rw[← hW1];exact hx_oldT (hx_oldT (hx_newT (by simp)))
 have x3:W1.heap[w.heap.size+3]? = some (.cells #[.int .i64 0,.int .i64 0] 109 (0,0)):=by rw[← hW1];exact hx_oldT (hx_newT (by simp))
 have x4:W1.heap[w.heap.size+4]? = some (.cells #[.slice (some ⟨w.heap.size+3,0,none⟩) 1 1] 108 (0,0)):=by rw[← hW1];exact hx_newT (by simp)
 have hB1:Below w.heap.size w W1:=by rw[← hW1];exact((((((Below.refl _ _).alloc (Nat.le_refl _) _).alloc (by simp) _).alloc (by simp;omega) _).alloc (by simp;omega) _).alloc (by simp;omega) _)
 have hz1:W1.heap.size=w.heap.size+5:=by rw[← hW1];simp
 have X0:=Lib.hid x0
 have X1:=Lib.hid x1
 have X2:=Lib.hid x2
 have X3:=Lib.hid x3
 have X4:=Lib.hid x4
 have HB1:=Lib.hid hB1
 have Hz1:=Lib.hid hz1
 clear hW1 x0 x1 x2 x3 x4 hB1 hz1
 have HM0:Hid (MapV (W1.alloc (.map #[] 0)) Tryz.prog 109 W1.heap.size 0 (fun _=>none)):=MapV.made W1 _ _
 have HK0:Hid (keyOf Tryz.prog 109 (.agg #[.int .i64 0,.int .i64 0])=some (prL (0,0))):=key_pr (p:=(0,0)) ⟨⟨by show (-1:Int)≤0;omega,by show (0:Int)≤_;omega⟩,by show (-1:Int)≤0;omega,by show (0:Int)≤_;omega⟩
 go_wp2_with (refine wp_mapV_ins _ rfl _ _ _ 227 3 rfl keyed_pr (by kernel_rfl) rfl HM0.out (by omega) _ (.int .i64 ((0:Nat):Int)) _ rfl rfl HK0.out trivial ?_;intro wm hMm hgm)
 have HMm:Hid (MapJ wm W1.heap.size [(0,0)]):=MapJ.put (f:=fun _=>none) (ps:=[]) (q:=(0,0)) (n:=0) (Nat.le_refl _) (fun p hp=>rfl) ⟨⟨by show (-1:Int)≤0;omega,by show (0:Int)≤_;omega⟩,by show (-1:Int)≤0;omega,by show (0:Int)≤_;omega⟩ rfl rfl hMm
 have HS:=JnS.start (p:=p) hk HBlk.out HB.out rfl HB1.out X0.out X3.out X4.out HMm.out hgm
 have HS1:=Lib.hid HS.1
 have HS2:=Lib.hid HS.2
 have Hzm:=Lib.hid hgm.size
 clear HS hMm hgm
 have HS1':Hid (JnS p ⟨k,wm.heap.size,w.heap.size+1+1+1+1,w.heap.size,W1.heap.size⟩ w0 (wm.alloc (.cells #[.map (some W1.heap.size)] 227)) ⟨[(0,0)],[]⟩ (.slice none 0 0) (.slice (some ⟨w.heap.size+3,0,none⟩) 1 1)):=HS1.out
 have hzw:=Hz.out
 have hkw:=Hkw.out
 have hz1:=Hz1.out
 have hzm:=Hzm.out
 rw[World.size_alloc] at hzm
 have HBX:Hid (∀ wr v pv,JG ⟨k,wm.heap.size,w.heap.size+1+1+1+1,w.heap.size,W1.heap.size⟩ (wm.alloc (.cells #[.map (some W1.heap.size)] 227)) (.slice none 0 0) (.slice (some ⟨w.heap.size+3,0,none⟩) 1 1) wr v pv→wr.heap[w.heap.size+1]? = some (NfBox x ⟨xae,xce,xaa,xca⟩)∧wr.heap[w.heap.size+1+1]? = some (NfBox y ⟨yae,yce,yaa,yca⟩)):=fun wr v pv h=>by
  refine⟨(h.block _ ?_ ?_ ?_ ?_ ?_ ?_).trans ((HS2.out.block _ (by omega)).trans X1.out),(h.block _ ?_ ?_ ?_ ?_ ?_ ?_).trans ((HS2.out.block _ (by omega)).trans X2.out)⟩
  all_goals (first | (simp only[Value.ownBlock,ne_eq,Option.some.injEq,reduceCtorEq,not_false_eq_true];done) | (simp only[Value.ownBlock,ne_eq,Option.some.injEq];omega) | (rw[World.size_alloc];omega) | (show _≠_;simp only[ne_eq];omega))
 have HQm:Hid (w0.heap.size≤wm.heap.size∧w0.heap.size≤w.heap.size):=⟨by omega,hzw⟩
 obtain⟨Q,e1,e2,e3,e4,e5⟩:∃ Q:JB,k=Q.k∧wm.heap.size=Q.m∧w.heap.size+1+1+1+1=Q.r∧w.heap.size=Q.b∧W1.heap.size=Q.h:=⟨⟨k,wm.heap.size,w.heap.size+1+1+1+1,w.heap.size,W1.heap.size⟩,rfl,rfl,rfl,rfl,rfl⟩
 obtain⟨xb,e6⟩:∃ xb,w.heap.size+1=xb:=⟨_,rfl⟩
 obtain⟨yb,e7⟩:∃ yb,w.heap.size+1+1=yb:=⟨_,rfl⟩
 generalize hW3:wm.alloc (.cells #[.map (some W1.heap.size)] 227)=W3 at HS1' HBX⊢
 generalize (Value.slice (some ⟨w.heap.size+3,0,none⟩) 1 1)=vp0 at HS1' HBX
 rw[e3,e7,e6,e2,e4,e5,e1]
 rw[e3,e7,e6,e2,e4,e5,e1] at HBX
 rw[e2,e4] at HQm
 rw[e3,e2,e4,e5,e1] at HS1'
 rw[e1] at HPo
 clear hW3 e1 e2 e3 e4 e5 e6 e7 HS1 HS2 Hzm HMm HK0 HM0 Hz1 HB1 X0 X1 X2 X3 X4 HB HBlk Hkw Hz hzw hkw hz1 hzm hmm
 go_loopw [9,10,11,13,15,17,19] (fun i _ _ _ _ _ _ wr=>∃ (m:Nat) (ve vp:Value),i=.int .i64 m∧m≤256∧Hid (JnS p Q w0 wr (andAt x y m) ve vp)∧Hid (JG Q W3 (.slice none 0 0) vp0 wr ve vp)∧Hid ((andAt x y m).pairs.length≤70000000)) (fun i _ _ _ _ _ _ _=>257 - (intOf i).toNat)
 case atStart=>exact⟨0,_,_,rfl,by omega,by rw[andAt_zero];exact HS1'.out,JG.refl _ _ _ _,by rw[andAt_zero];show (1:Nat)≤70000000;omega⟩
 case round =>
  clear HS1'
  obtain⟨m,ve,vp,rfl,hm,HJ,HG,HL⟩:=hrel
  obtain⟨J,hJe⟩:∃ J,andAt x y m=J:=⟨_,rfl⟩
  have HSt:Hid ((andAt x y m).pairs.length≤m∨256 < (andAt x y m).pairs.length∨4097 < (andAt x y m).edges.length→doneN (jointN (andAt x y m))=andN x y):=and_stop hm
  have HSu:Hid (andAt x y (m+1)=procJ x y m (andAt x y m)):=andAt_succ x y m
  rw[hJe] at HJ HL HSt HSu
  have HJe:=Lib.hid hJe
  clear hJe
  obtain⟨PS,ES⟩:=J
  simp only at HL HSt
  obtain⟨av,cv,hv,hPS⟩:=HJ.out.pr.slice (by have:=HL.out;simp only;omega)
  have HPS:=Lib.hid hPS
  obtain⟨n,hn⟩:∃ n,PS.length=n:=⟨_,rfl⟩
  simp only[hn] at hv HL HSt
  have HLn:=Lib.hid hn
  have hL7:=HL.out
  subst hv
  clear hPS hn
  obtain⟨c7,f7⟩:=cell1T HJ.out.bm
  obtain⟨c6,f6⟩:=cell1T HJ.out.br
  obtain⟨c3,f3⟩:=cell1T HJ.out.bb
  obtain⟨d0,-,d2,d3,df⟩:=cell4B HJ.out.e.blk
  have hkl:=HJ.out.e.klt
  have df0:=df 0
  have df2:=df 2
  clear df f7 f6 f3
  by_cases hgo:m < n∧n≤256∧¬ 4097 < ES.length
  ·obtain⟨h1,h2,h3⟩:=hgo
   obtain⟨bp,op,hav⟩:=(HPS.out.addr).resolve_left (by rw[HLn.out];omega)
   have hml:m < PS.length:=by rw[HLn.out];exact h1
   obtain⟨g0,g1⟩:=prE_at (HPS.out.get hav hml)
   rw[show prE.sz=2 from rfl] at g0 g1
   subst hav
   have HPr:Hid (∀ J',procJ x y m ⟨PS,ES⟩=J'→andAt x y (m+1)=J'):=fun J' h=>HSu.out.trans h
   have HPe:Hid (procJ x y m ⟨PS,ES⟩=if (PS[m]'hml).1=-1∧(PS[m]'hml).2=-1 then ⟨PS,ES⟩ else if (PS[m]'hml).1=-1 then rightJ y m (PS[m]'hml).2 ⟨PS,ES⟩ else if (PS[m]'hml).2=-1 then leftJ x m (PS[m]'hml).1 ⟨PS,ES⟩ else bothJ x y m (PS[m]'hml) ⟨PS,ES⟩):=by
    show _=_
    unfold procJ
    simp only[List.getElem?_eq_getElem hml]
   generalize (PS[m]'hml)=st at g0 g1 HPe
   obtain⟨s,t⟩:=st
   simp only at g0 g1 HPe
   obtain⟨xx,yy⟩:=HBX.out _ _ _ HG.out
   have HFx:Hid (∀ W v pv J',JnS p Q w0 W J' v pv→Calls Tryz.prog 211 #[.agg #[.int .i64 x.states,.slice xae x.edges.length xce,.slice xaa x.accept.length xca],.int .i64 s] W (EdsRet (hid (hid (qj p Q) pv) v) (fromL x s) W)):=fun W v pv J' h=>from_any _ x ⟨xae,xce,xaa,xca⟩ s W (HX.out.es.keep (h.kpI HQm.out.1 HQm.out.2)) (h.hlt Hp.out)
   have HFy:Hid (∀ W v pv J',JnS p Q w0 W J' v pv→Calls Tryz.prog 211 #[.agg #[.int .i64 y.states,.slice yae y.edges.length yce,.slice yaa y.accept.length yca],.int .i64 t] W (EdsRet (hid (hid (qj p Q) pv) v) (fromL y t) W)):=fun W v pv J' h=>from_any _ y ⟨yae,yce,yaa,yca⟩ t W (HY.out.es.keep (h.kpI HQm.out.1 HQm.out.2)) (h.hlt Hp.out)
   have HAx:Hid (∀ W v pv J' u,JnS p Q w0 W J' v pv→Calls Tryz.prog 138 #[.agg #[.int .i64 x.states,.slice xae x.edges.length xce,.slice xaa x.accept.length xca],.int .i64 u] W fun e w'=>e=.returned (.bool (x.accept.contains u))∧Below W.heap.size W w'):=fun W v pv J' u h=>accepts_any x ⟨xae,xce,xaa,xca⟩ u W ((HX.out.ac.keep (h.kpI HQm.out.1 HQm.out.2)).keep hide_cell)
   have HAy:Hid (∀ W v pv J' u,JnS p Q w0 W J' v pv→Calls Tryz.prog 138 #[.agg #[.int .i64 y.states,.slice yae y.edges.length yce,.slice yaa y.accept.length yca],.int .i64 u] W fun e w'=>e=.returned (.bool (y.accept.contains u))∧Below W.heap.size W w'):=fun W v pv J' u h=>accepts_any y ⟨yae,yce,yaa,yca⟩ u W ((HY.out.ac.keep (h.kpI HQm.out.1 HQm.out.2)).keep hide_cell)
   have HLx:Hid (∀ e∈fromL x s,(0≤e.to∧e.to≤100000)∧e.guards.length≤Kx):=fun e he=>⟨(HRx.out.ends e (List.mem_filter.1 he).1).2.2,(HRx.out.es e (List.mem_filter.1 he).1).2.1⟩
   have HLy:Hid (∀ e∈fromL y t,(0≤e.to∧e.to≤100000)∧e.guards.length≤Ky):=fun e he=>⟨(HRy.out.ends e (List.mem_filter.1 he).1).2.2,(HRy.out.es e (List.mem_filter.1 he).1).2.1⟩
   have HNx:Hid ((fromL x s).length≤4096):=Nat.le_trans (List.length_filter_le _ _) (nfaOk_iff.1 HRx.out.ok).1.2.2
   have HNy:Hid ((fromL y t).length≤4096):=Nat.le_trans (List.length_filter_le _ _) (nfaOk_iff.1 HRy.out.ok).1.2.2
   unfold NfBox at xx yy
   simp only at xx yy
   obtain⟨p0,p1,p2⟩:=cell3T xx
   obtain⟨q0,q1,q2⟩:=cell3T yy
   have HXX:=Lib.hid xx
   have HYY:=Lib.hid yy
   clear xx yy HX HY HRx HRy HSt HSu hml
   by_cases hs:s=-1
   ·by_cases ht:t=-1
    ·have hs2:(s != -1)=false:=by simp[hs]
     have ht2:(t != -1)=false:=by simp[ht]
     have HP1:Hid (andAt x y (m+1)=⟨PS,ES⟩):=HPr.out _ (by rw[HPe.out,if_pos ⟨hs,ht⟩])
     have HJ1:Hid (JnS p Q w0 wr (andAt x y (m+1)) ve (.slice (some ⟨bp,op,none⟩) n cv)):=by rw[HP1.out];exact HJ
     have HL1:Hid ((andAt x y (m+1)).pairs.length≤70000000):=by rw[HP1.out];show PS.length≤_;rw[HLn.out];exact hL7
     clear HPr HPe
     go_upto_region 7 with fail
     go_quiet (fail)
     go_wp2_with fail
     have hbq:Below wr.heap.size wr (wr.drewN nq):=⟨rfl,rfl,rfl,Nat.le_refl _,fun _ _=>rfl⟩
     have HJq:=Lib.hid (HJ1.out.below hbq)
     have HGq:=Lib.hid (HG.out.below hbq)
     go_roundw
     case rel=>exact⟨m+1,ve,_,by go_num,by omega,HJq,HGq,HL1⟩
     case measure=>(simp[intOf];try omega)
    ·have hs2:(s != -1)=false:=by simp[hs]
     have ht2:(t != -1)=true:=by simp[ht]
     have HP1:Hid (andAt x y (m+1)=(fromL y t).foldl (fun j e=>togJ m e.guards (-1) e.to false (y.accept.contains e.to) j) ⟨PS,ES⟩):=HPr.out _ (by rw[HPe.out,if_neg (fun h=>ht h.2),if_pos hs];rfl)
     clear HPr HPe
     go_upto_region 7 with fail
     go_quiet (fail)
     go_wp2_with fail
     have hbq:Below wr.heap.size wr (wr.drewN nq):=⟨rfl,rfl,rfl,Nat.le_refl _,fun _ _=>rfl⟩
     have HJq:=Lib.hid (HJ.out.below hbq)
     have HGq:=Lib.hid (HG.out.below hbq)
     refine(HFy.out _ _ _ _ HJq.out).mono ?_
     rintro e w5 ⟨⟨la,lc,rfl,hL⟩,hb5⟩
     have HL5:=Lib.hid hL
     have HLA:Hid ((fromL y t).length=0∨∃ b off,la=some ⟨b,off,none⟩):=hL.addr
     have HJ5:=Lib.hid (HJq.out.below hb5)
     have HG5:=Lib.hid (HGq.out.below hb5)
     clear hL hb5 hbq HJ HJq HG HGq HPS c7 c6 c3 d0 d2 d3 df0 df2 g0 g1 p0 p1 p2 q0 q1 q2 HXX HYY
     generalize (Value.slice (some ⟨bp,op,none⟩) n cv)=vpm at HJ5 HG5 HL5
     obtain⟨L,hLe⟩:∃ L,fromL y t=L:=⟨_,rfl⟩
     rw[hLe] at HLy HNy HL5 HLA HP1⊢
     obtain⟨F,hF⟩:∃ F:Nat→Joint,∀ a,(L.take a).foldl (fun j e=>togJ m e.guards (-1) e.to false (y.accept.contains e.to) j) ⟨PS,ES⟩=F a:=⟨_,fun _=>rfl⟩
     have HF0:Hid (F 0=⟨PS,ES⟩):=by rw[← hF];rfl
     have HFS:Hid (∀ a (h:a < L.length),F (a+1)=(fun j e=>togJ m e.guards (-1) e.to false (y.accept.contains e.to) j) (F a) (L[a]'h)):=fun a h=>by rw[← hF,← hF];exact foldl_succ _ _ h
     have HFE:Hid (andAt x y (m+1)=F L.length):=by rw[← hF,List.take_length];exact HP1.out
     have HFL:Hid (∀ a,(F a).pairs.length≤67109120):=fun a=>by
      have q1:=fold_len (F:=fun j e=>togJ m e.guards (-1) e.to false (y.accept.contains e.to) j) (c:=4) (fun j f=>togJ_len ..) (L.take a) ⟨PS,ES⟩
      rw[hF] at q1
      have q3:=HNy.out
      have q4:(L.take a).length≤4096:=by rw[List.length_take];omega
      have q6:=HLn.out
      simp only at q1
      omega
     clear hF hLe HP1
     go_wp2_with fail
     clear hkl wr
     go_loopw [130,19] (fun i _ wr=>∃ (a:Nat) (v pv:Value),i=.int .i64 a∧a≤L.length∧Hid (JnS p Q w0 wr (F a) v pv)∧Hid (JG Q w5 ve vpm wr v pv)) (fun i _ _=>L.length - (intOf i).toNat)
     case atStart=>exact⟨0,ve,vpm,rfl,Nat.zero_le _,by rw[HF0.out];exact HJ5,JG.refl _ _ _ _⟩
     case round =>
      clear HJ5
      obtain⟨a,v,pv,rfl,ha,HJi,HGi⟩:=hrel
      have hL4:=HNy.out
      by_cases hlt:a < L.length
      ·obtain⟨bl,ol,hla⟩:=HLA.out.resolve_left (by omega)
       subst hla
       obtain⟨ag,cg,aS,cs,i0,i1,i2,i3,eh1,-⟩:=edE_get (HL5.out.keep (HGi.out.kp (p:=p))) rfl hlt
       have e0:=hide_cell _ _ i0
       have e1:=hide_cell _ _ i1
       have e2:=hide_cell _ _ i2
       have e3:=hide_cell _ _ i3
       have HLe:=Lib.hid (HLy.out _ (List.getElem_mem hlt))
       have HFa:=Lib.hid (HFS.out a hlt)
       have hb6:=fun o=>((Below.refl wr.heap.size wr).alloc (Nat.le_refl _) o)
       have HEh:=Lib.hid (fun o=>eh1.keep ((JG.ofBelow Q v pv (hb6 o)).kp (p:=p)))
       clear eh1 i0 i1 i2 i3
       generalize (L[a]'hlt)=e at e0 e1 e2 e3 HEh HLe HFa
       obtain⟨lx,hlx⟩:∃ b,y.accept.contains e.to=b:=⟨_,rfl⟩
       simp only[hlx] at HFa
       have hsm:SmP (-1,e.to):=by
        have:=HLe.out.1
        exact⟨⟨by show (-1:Int)≤_;omega,by show (_:Int)≤100000;omega⟩,by show (-1:Int)≤_;omega,by show (_:Int)≤100000;omega⟩
       have hsm2:SmP (-1,-1):=⟨⟨by show (-1:Int)≤-1;omega,by show (-1:Int)≤_;omega⟩,by show (-1:Int)≤-1;omega,by show (-1:Int)≤_;omega⟩
       have hfl:=HFL.out a
       go_wp2_with fail
       have hbW:=hb6 (.cells #[.int .i64 e.fr,.int .i64 e.to,.slice ag e.guards.length cg,.slice aS e.sets.length cs] 69)
       have HEW:=Lib.hid (HEh.out (.cells #[.int .i64 e.fr,.int .i64 e.to,.slice ag e.guards.length cg,.slice aS e.sets.length cs] 69))
       have HJW:=Lib.hid (HJi.out.below hbW)
       have HGW:=Lib.hid (HGi.out.below hbW)
       have hEb:=heap_alloc_new' wr (.cells #[.int .i64 e.fr,.int .i64 e.to,.slice ag e.guards.length cg,.slice aS e.sets.length cs] 69)
       have HEn:=Lib.hid (HJi.out.new wr.heap.size (Nat.le_refl _))
       refine(aim_any HJW.out (by omega) m e.guards ag cg HEW.out (-1) e.to hsm).mono ?_
       rintro e7 w7 ⟨rfl,v7,p7,t1,t2⟩
       have HJ7:=Lib.hid t1
       have HG7:=Lib.hid (HGW.out.trans t2)
       have HE7:=Lib.hid (HEW.out.keep (t2.kp (p:=p)))
       have HEb7:=Lib.hid (t2.at HEn.out hEb)
       clear t1 t2 hEb hbW HEW HJW HGW HEh hb6 e0 e1 e2 e3
       have hbx:=HBX.out _ _ _ (HG5.out.trans HG7.out)
       have hbx1:=hbx.2
       unfold NfBox at hbx1
       simp only at hbx1
       obtain⟨x0,x1,x2⟩:=cell3T hbx1
       obtain⟨f0,f1,f2,f3,-⟩:=cell4B HEb7.out
       go_wp2_with fail
       refine(HAy.out _ _ _ _ e.to HJ7.out).mono ?_
       rintro e8 w8 ⟨rfl,hb8⟩
       rw[hlx]
       have HJ8:=Lib.hid (HJ7.out.below hb8)
       have HG8:=Lib.hid (HG7.out.below hb8)
       have HE8:=Lib.hid (HE7.out.keep ((JG.ofBelow Q v7 p7 hb8).kp (p:=p)))
       obtain⟨f0,f1,f2,f3,-⟩:=cell4B (hbT hb8 HEb7.out)
       clear hb8 hbx hbx1 HJ7 HG7 HE7 HEb7 x0 x1 x2 hlx
       cases lx
       ·have HJn:Hid (JnS p Q w0 w8 (F (a+1)) v7 p7):=by rw[HFa.out];exact HJ8
        go_wp2_with fail
        go_roundw
        case rel=>exact⟨a+1,v7,p7,by go_num,by omega,HJn,HG8⟩
        case measure=>(simp[intOf];try omega)
       ·have htl:=toJ_lenD m e.guards (F a) (-1,e.to)
        go_wp2_with fail
        refine(aim_any HJ8.out (by omega) m e.guards ag cg HE8.out (-1) (-1) hsm2).mono ?_
        rintro e9 w9 ⟨rfl,v9,p9,t1,t2⟩
        have HJn:Hid (JnS p Q w0 w9 (F (a+1)) v9 p9):=by rw[HFa.out];exact t1
        have HGn:=Lib.hid (HG8.out.trans t2)
        clear t1 t2
        go_wp2_with fail
        go_roundw
        case rel=>exact⟨a+1,v9,p9,by go_num,by omega,HJn,HGn⟩
        case measure=>(simp[intOf];try omega)
      ·obtain rfl:a=L.length:=by omega
       have HJn:Hid (JnS p Q w0 wr (andAt x y (m+1)) v pv):=by rw[HFE.out];exact HJi
       have HGn:=Lib.hid (HG5.out.trans HGi.out)
       have HLn2:Hid ((andAt x y (m+1)).pairs.length≤70000000):=by have:=HFL.out L.length;rw[← HFE.out] at this;show _≤_;omega
       go_wp2_with fail
       go_roundw
       case rel=>exact⟨m+1,v,pv,by go_num,by omega,HJn,HGn,HLn2⟩
       case measure=>(simp[intOf];try omega)
   ·by_cases ht:t=-1
    ·have hs2:(s != -1)=true:=by simp[hs]
     have ht2:(t != -1)=false:=by simp[ht]
     have HP1:Hid (andAt x y (m+1)=(fromL x s).foldl (fun j e=>togJ m e.guards e.to (-1) (x.accept.contains e.to) false j) ⟨PS,ES⟩):=HPr.out _ (by rw[HPe.out,if_neg (fun h=>hs h.1),if_neg hs,if_pos ht];rfl)
     clear HPr HPe
     go_upto_region 7 with fail
     go_quiet (fail)
     go_wp2_with fail
     have hbq:Below wr.heap.size wr (wr.drewN nq):=⟨rfl,rfl,rfl,Nat.le_refl _,fun _ _=>rfl⟩
     have HJq:=Lib.hid (HJ.out.below hbq)
     have HGq:=Lib.hid (HG.out.below hbq)
     refine(HFx.out _ _ _ _ HJq.out).mono ?_
     rintro e w5 ⟨⟨la,lc,rfl,hL⟩,hb5⟩
     have HL5:=Lib.hid hL
     have HLA:Hid ((fromL x s).length=0∨∃ b off,la=some ⟨b,off,none⟩):=hL.addr
     have HJ5:=Lib.hid (HJq.out.below hb5)
     have HG5:=Lib.hid (HGq.out.below hb5)
     clear hL hb5 hbq HJ HJq HG HGq HPS c7 c6 c3 d0 d2 d3 df0 df2 g0 g1 p0 p1 p2 q0 q1 q2 HXX HYY
     generalize (Value.slice (some ⟨bp,op,none⟩) n cv)=vpm at HJ5 HG5 HL5
     obtain⟨L,hLe⟩:∃ L,fromL x s=L:=⟨_,rfl⟩
     rw[hLe] at HLx HNx HL5 HLA HP1⊢
     obtain⟨F,hF⟩:∃ F:Nat→Joint,∀ a,(L.take a).foldl (fun j e=>togJ m e.guards e.to (-1) (x.accept.contains e.to) false j) ⟨PS,ES⟩=F a:=⟨_,fun _=>rfl⟩
     have HF0:Hid (F 0=⟨PS,ES⟩):=by rw[← hF];rfl
     have HFS:Hid (∀ a (h:a < L.length),F (a+1)=(fun j e=>togJ m e.guards e.to (-1) (x.accept.contains e.to) false j) (F a) (L[a]'h)):=fun a h=>by rw[← hF,← hF];exact foldl_succ _ _ h
     have HFE:Hid (andAt x y (m+1)=F L.length):=by rw[← hF,List.take_length];exact HP1.out
     have HFL:Hid (∀ a,(F a).pairs.length≤67109120):=fun a=>by
      have q1:=fold_len (F:=fun j e=>togJ m e.guards e.to (-1) (x.accept.contains e.to) false j) (c:=4) (fun j f=>togJ_len ..) (L.take a) ⟨PS,ES⟩
      rw[hF] at q1
      have q3:=HNx.out
      have q4:(L.take a).length≤4096:=by rw[List.length_take];omega
      have q6:=HLn.out
      simp only at q1
      omega
     clear hF hLe HP1
     go_wp2_with fail
     clear hkl wr
     go_loopw [102,17] (fun i _ wr=>∃ (a:Nat) (v pv:Value),i=.int .i64 a∧a≤L.length∧Hid (JnS p Q w0 wr (F a) v pv)∧Hid (JG Q w5 ve vpm wr v pv)) (fun i _ _=>L.length - (intOf i).toNat)
     case atStart=>exact⟨0,ve,vpm,rfl,Nat.zero_le _,by rw[HF0.out];exact HJ5,JG.refl _ _ _ _⟩
     case round =>
      clear HJ5
      obtain⟨a,v,pv,rfl,ha,HJi,HGi⟩:=hrel
      have hL4:=HNx.out
      by_cases hlt:a < L.length
      ·obtain⟨bl,ol,hla⟩:=HLA.out.resolve_left (by omega)
       subst hla
       obtain⟨ag,cg,aS,cs,i0,i1,i2,i3,eh1,-⟩:=edE_get (HL5.out.keep (HGi.out.kp (p:=p))) rfl hlt
       have e0:=hide_cell _ _ i0
       have e1:=hide_cell _ _ i1
       have e2:=hide_cell _ _ i2
       have e3:=hide_cell _ _ i3
       have HLe:=Lib.hid (HLx.out _ (List.getElem_mem hlt))
       have HFa:=Lib.hid (HFS.out a hlt)
       have hb6:=fun o=>((Below.refl wr.heap.size wr).alloc (Nat.le_refl _) o)
       have HEh:=Lib.hid (fun o=>eh1.keep ((JG.ofBelow Q v pv (hb6 o)).kp (p:=p)))
       clear eh1 i0 i1 i2 i3
       generalize (L[a]'hlt)=e at e0 e1 e2 e3 HEh HLe HFa
       obtain⟨lx,hlx⟩:∃ b,x.accept.contains e.to=b:=⟨_,rfl⟩
       simp only[hlx] at HFa
       have hsm:SmP (e.to,-1):=by
        have:=HLe.out.1
        exact⟨⟨by show (-1:Int)≤_;omega,by show (_:Int)≤100000;omega⟩,by show (-1:Int)≤_;omega,by show (_:Int)≤100000;omega⟩
       have hsm2:SmP (-1,-1):=⟨⟨by show (-1:Int)≤-1;omega,by show (-1:Int)≤_;omega⟩,by show (-1:Int)≤-1;omega,by show (-1:Int)≤_;omega⟩
       have hfl:=HFL.out a
       go_wp2_with fail
       have hbW:=hb6 (.cells #[.int .i64 e.fr,.int .i64 e.to,.slice ag e.guards.length cg,.slice aS e.sets.length cs] 69)
       have HEW:=Lib.hid (HEh.out (.cells #[.int .i64 e.fr,.int .i64 e.to,.slice ag e.guards.length cg,.slice aS e.sets.length cs] 69))
       have HJW:=Lib.hid (HJi.out.below hbW)
       have HGW:=Lib.hid (HGi.out.below hbW)
       have hEb:=heap_alloc_new' wr (.cells #[.int .i64 e.fr,.int .i64 e.to,.slice ag e.guards.length cg,.slice aS e.sets.length cs] 69)
       have HEn:=Lib.hid (HJi.out.new wr.heap.size (Nat.le_refl _))
       refine(aim_any HJW.out (by omega) m e.guards ag cg HEW.out e.to (-1) hsm).mono ?_
       rintro e7 w7 ⟨rfl,v7,p7,t1,t2⟩
       have HJ7:=Lib.hid t1
       have HG7:=Lib.hid (HGW.out.trans t2)
       have HE7:=Lib.hid (HEW.out.keep (t2.kp (p:=p)))
       have HEb7:=Lib.hid (t2.at HEn.out hEb)
       clear t1 t2 hEb hbW HEW HJW HGW HEh hb6 e0 e1 e2 e3
       have hbx:=HBX.out _ _ _ (HG5.out.trans HG7.out)
       have hbx1:=hbx.1
       unfold NfBox at hbx1
       simp only at hbx1
       obtain⟨x0,x1,x2⟩:=cell3T hbx1
       obtain⟨f0,f1,f2,f3,-⟩:=cell4B HEb7.out
       go_wp2_with fail
       refine(HAx.out _ _ _ _ e.to HJ7.out).mono ?_
       rintro e8 w8 ⟨rfl,hb8⟩
       rw[hlx]
       have HJ8:=Lib.hid (HJ7.out.below hb8)
       have HG8:=Lib.hid (HG7.out.below hb8)
       have HE8:=Lib.hid (HE7.out.keep ((JG.ofBelow Q v7 p7 hb8).kp (p:=p)))
       obtain⟨f0,f1,f2,f3,-⟩:=cell4B (hbT hb8 HEb7.out)
       clear hb8 hbx hbx1 HJ7 HG7 HE7 HEb7 x0 x1 x2 hlx
       cases lx
       ·have HJn:Hid (JnS p Q w0 w8 (F (a+1)) v7 p7):=by rw[HFa.out];exact HJ8
        go_wp2_with fail
        go_roundw
        case rel=>exact⟨a+1,v7,p7,by go_num,by omega,HJn,HG8⟩
        case measure=>(simp[intOf];try omega)
       ·have htl:=toJ_lenD m e.guards (F a) (e.to,-1)
        go_wp2_with fail
        refine(aim_any HJ8.out (by omega) m e.guards ag cg HE8.out (-1) (-1) hsm2).mono ?_
        rintro e9 w9 ⟨rfl,v9,p9,t1,t2⟩
        have HJn:Hid (JnS p Q w0 w9 (F (a+1)) v9 p9):=by rw[HFa.out];exact t1
        have HGn:=Lib.hid (HG8.out.trans t2)
        clear t1 t2
        go_wp2_with fail
        go_roundw
        case rel=>exact⟨a+1,v9,p9,by go_num,by omega,HJn,HGn⟩
        case measure=>(simp[intOf];try omega)
      ·obtain rfl:a=L.length:=by omega
       have HJn:Hid (JnS p Q w0 wr (andAt x y (m+1)) v pv):=by rw[HFE.out];exact HJi
       have HGn:=Lib.hid (HG5.out.trans HGi.out)
       have HLn2:Hid ((andAt x y (m+1)).pairs.length≤70000000):=by have:=HFL.out L.length;rw[← HFE.out] at this;show _≤_;omega
       go_wp2_with fail
       go_roundw
       case rel=>exact⟨m+1,v,pv,by go_num,by omega,HJn,HGn,HLn2⟩
       case measure=>(simp[intOf];try omega)
    ·have HP1:Hid (andAt x y (m+1)=(fromL x s).foldl (bothE x y m t) ⟨PS,ES⟩):=HPr.out _ (by rw[HPe.out,if_neg (fun h=>hs h.1),if_neg hs,if_neg ht];rfl)
     clear HPr HPe
     have hs2:(s != -1)=true:=by simp[hs]
     have ht2:(t != -1)=true:=by simp[ht]
     go_upto_region 7 with fail
     go_quiet (fail)
     go_wp2_with fail
     have hbq:Below wr.heap.size wr (wr.drewN nq):=⟨rfl,rfl,rfl,Nat.le_refl _,fun _ _=>rfl⟩
     have HJq:=Lib.hid (HJ.out.below hbq)
     have HGq:=Lib.hid (HG.out.below hbq)
     refine(HFx.out _ _ _ _ HJq.out).mono ?_
     rintro e w5 ⟨⟨la,lc,rfl,hL⟩,hb5⟩
     have HL5:=Lib.hid hL
     have HLA:Hid ((fromL x s).length=0∨∃ b off,la=some ⟨b,off,none⟩):=hL.addr
     have HJ5:=Lib.hid (HJq.out.below hb5)
     have HG5:=Lib.hid (HGq.out.below hb5)
     clear hL hb5 hbq HJ HJq HG HGq HPS c7 c6 c3 d0 d2 d3 df0 df2 g0 g1 p0 p1 p2 q0 q1 q2 HXX HYY
     generalize (Value.slice (some ⟨bp,op,none⟩) n cv)=vpm at HJ5 HG5 HL5
     obtain⟨L,hLe⟩:∃ L,fromL x s=L:=⟨_,rfl⟩
     rw[hLe] at HLx HNx HL5 HLA HP1⊢
     obtain⟨M,hMe⟩:∃ M,fromL y t=M:=⟨_,rfl⟩
     have HEs:Hid (∀ j e,bothE x y m t j e=M.foldl (fun j f=>togJ m (e.guards++f.guards) e.to f.to (x.accept.contains e.to) (y.accept.contains f.to) j) j):=fun j e=>by rw[← hMe];rfl
     obtain⟨F,hF⟩:∃ F:Nat→Joint,∀ a,(L.take a).foldl (bothE x y m t) ⟨PS,ES⟩=F a:=⟨_,fun _=>rfl⟩
     have HF0:Hid (F 0=⟨PS,ES⟩):=by rw[← hF];rfl
     have HFS:Hid (∀ a (h:a < L.length),F (a+1)=bothE x y m t (F a) (L[a]'h)):=fun a h=>by rw[← hF,← hF];exact foldl_succ _ _ h
     have HFE:Hid (andAt x y (m+1)=F L.length):=by rw[← hF,List.take_length];exact HP1.out
     have HFL:Hid (∀ a,(F a).pairs.length≤67109120):=fun a=>by
      have q1:=fold_len (F:=bothE x y m t) (c:=4 * (fromL y t).length) (fun j e=>bothE_len ..) (L.take a) ⟨PS,ES⟩
      rw[hF] at q1
      have q2:=HNy.out
      have q3:=HNx.out
      have q4:(L.take a).length≤4096:=by rw[List.length_take];omega
      have q5:4 * (fromL y t).length * (L.take a).length≤16384 * 4096:=Nat.mul_le_mul (by omega) q4
      have q6:=HLn.out
      simp only at q1
      omega
     rw[hMe] at HFy HLy HNy
     clear hF hLe hMe HP1
     go_wp2_with fail
     clear hkl wr
     go_loopw [67,13,15] (fun i _ _ wr2=>∃ (a:Nat) (v pv:Value),i=.int .i64 a∧a≤L.length∧Hid (JnS p Q w0 wr2 (F a) v pv)∧Hid (JG Q w5 ve vpm wr2 v pv)) (fun i _ _ _=>L.length - (intOf i).toNat)
     case atStart=>exact⟨0,ve,vpm,rfl,Nat.zero_le _,by rw[HF0.out];exact HJ5,JG.refl _ _ _ _⟩
     case round =>
      clear HJ5
      obtain⟨a,v,pv,rfl,ha,HJi,HGi⟩:=hrel
      by_cases hlt:a < L.length
      ·obtain⟨bl,ol,hla⟩:=HLA.out.resolve_left (by omega)
       subst hla
       obtain⟨ag,cg,aS,cs,i0,i1,i2,i3,eh1,-⟩:=edE_get (HL5.out.keep (HGi.out.kp (p:=p))) rfl hlt
       have e0:=hide_cell _ _ i0
       have e1:=hide_cell _ _ i1
       have e2:=hide_cell _ _ i2
       have e3:=hide_cell _ _ i3
       have HEh:=Lib.hid eh1
       have HLe:=Lib.hid (HLx.out _ (List.getElem_mem hlt))
       have HFa:=Lib.hid (HFS.out a hlt)
       clear eh1 i0 i1 i2 i3
       generalize (L[a]'hlt)=e at e0 e1 e2 e3 HEh HLe HFa
       obtain⟨xx,yy⟩:=HBX.out _ _ _ (HG5.out.trans HGi.out)
       unfold NfBox at xx yy
       simp only at xx yy
       obtain⟨q0,q1,q2⟩:=cell3T yy
       have q0o:∀ o,(wr.alloc o).cell? ⟨yb,0,none⟩=_:=fun o=>Lib.cell?_alloc_some _ q0
       have q1o:∀ o,(wr.alloc o).cell? ⟨yb,1,none⟩=_:=fun o=>Lib.cell?_alloc_some _ q1
       have q2o:∀ o,(wr.alloc o).cell? ⟨yb,2,none⟩=_:=fun o=>Lib.cell?_alloc_some _ q2
       go_wp2_with fail
       have hb6:Below wr.heap.size wr (wr.alloc (.cells #[.int .i64 e.fr,.int .i64 e.to,.slice ag e.guards.length cg,.slice aS e.sets.length cs] 69)):=(Below.refl _ _).alloc (Nat.le_refl _) _
       refine(HFy.out _ _ _ _ (HJi.out.below hb6)).mono ?_
       rintro e7 w7 ⟨⟨ma,mc,rfl,hM⟩,hb7⟩
       have hb67:Below wr.heap.size wr w7:=hb6.trans (hb7.mono (by simp))
       have HM7:=Lib.hid hM
       have HMA:Hid (M.length=0∨∃ b off,ma=some ⟨b,off,none⟩):=hM.addr
       have HJ7:=Lib.hid (HJi.out.below hb67)
       have HG7:=Lib.hid (HGi.out.below hb67)
       have HEb:Hid (w7.heap[wr.heap.size]? = some (.cells #[.int .i64 e.fr,.int .i64 e.to,.slice ag e.guards.length cg,.slice aS e.sets.length cs] 69 (0,0))):=(hb7.block wr.heap.size (by simp)).trans (heap_alloc_new' wr _)
       have HEn:=Lib.hid (HJi.out.new wr.heap.size (Nat.le_refl _))
       have HEg:=Lib.hid (HEh.out.keep ((JG.ofBelow Q v pv hb67).kp (p:=p)))
       obtain⟨eb,heb⟩:∃ eb,wr.heap.size=eb:=⟨_,rfl⟩
       rw[heb] at HEb HEn⊢
       have HEn7:Hid (eb≠Q.k∧eb≠Q.r∧eb≠Q.h∧v.ownBlock≠some eb∧pv.ownBlock≠some eb):=HEn.out
       obtain⟨G,hG⟩:∃ G:Nat→Joint,∀ b,(M.take b).foldl (fun j f=>togJ m (e.guards++f.guards) e.to f.to (x.accept.contains e.to) (y.accept.contains f.to) j) (F a)=G b:=⟨_,fun _=>rfl⟩
       have HG0:Hid (G 0=F a):=by rw[← hG];rfl
       have HGS:Hid (∀ b (h:b < M.length),G (b+1)=togJ m (e.guards++(M[b]'h).guards) e.to (M[b]'h).to (x.accept.contains e.to) (y.accept.contains (M[b]'h).to) (G b)):=fun b h=>by rw[← hG,← hG];exact foldl_succ _ _ h
       have HGE:Hid (F (a+1)=G M.length):=by show _=_;rw[← hG,List.take_length,HFa.out,HEs.out]
       have HGL:Hid (∀ b,(G b).pairs.length≤400000000):=fun b=>by
        have q1:=fold_len (F:=fun j f=>togJ m (e.guards++f.guards) e.to f.to (x.accept.contains e.to) (y.accept.contains f.to) j) (c:=4) (fun j f=>togJ_len ..) (M.take b) (F a)
        rw[hG] at q1
        have q2:=HNy.out
        have q3:=HFL.out a
        have q4:(M.take b).length≤4096:=by rw[List.length_take];omega
        omega
       clear hM hb7 hb67 hb6 HJi HGi xx yy q0 q1 q2 q0o q1o q2o e0 e1 e2 e3 HEh HEn heb hG HFa
       go_wp2_with fail
       clear wr
       go_loopw [75,15] (fun i _ wr=>∃ (b:Nat) (v3 p3:Value),i=.int .i64 b∧b≤M.length∧Hid (JnS p Q w0 wr (G b) v3 p3)∧Hid (JG Q w7 v pv wr v3 p3)) (fun i _ _=>M.length - (intOf i).toNat)
       case atStart=>exact⟨0,v,pv,rfl,Nat.zero_le _,by rw[HG0.out];exact HJ7,JG.refl _ _ _ _⟩
       case round =>
        clear HJ7
        obtain⟨b,v3,p3,rfl,hb,HJi,HGi⟩:=hrel
        by_cases hlt2:b < M.length
        ·obtain⟨bm,om,hma⟩:=HMA.out.resolve_left (by omega)
         subst hma
         obtain⟨fg,dg,fS,dS,i0,i1,i2,i3,fh1,-⟩:=edE_get (HM7.out.keep (HGi.out.kp (p:=p))) rfl hlt2
         have e0:=hide_cell _ _ i0
         have e1:=hide_cell _ _ i1
         have e2:=hide_cell _ _ i2
         have e3:=hide_cell _ _ i3
         have HFh:=Lib.hid fh1
         have HLf:=Lib.hid (HLy.out _ (List.getElem_mem hlt2))
         have HGb:=Lib.hid (HGS.out b hlt2)
         clear fh1 i0 i1 i2 i3
         generalize (M[b]'hlt2)=f at e0 e1 e2 e3 HFh HLf HGb
         have hbx:=HBX.out _ _ _ (HG5.out.trans (HG7.out.trans HGi.out))
         have heb:=HGi.out.at HEn7.out HEb.out
         have hbb:=HJi.out.bb
         go_upto_region 15 with fail
         generalize hW8:World.alloc wr _=W8
         have hb8:Below wr.heap.size wr W8:=by rw[← hW8];exact(Below.refl _ _).alloc (Nat.le_refl _) _
         have hfb:W8.heap[wr.heap.size]? = some (.cells #[.int .i64 f.fr,.int .i64 f.to,.slice fg f.guards.length dg,.slice fS f.sets.length dS] 69 (0,0)):=by rw[← hW8];exact heap_alloc_new' wr _
         have HJ8:=Lib.hid (HJi.out.below hb8)
         have HG8:=Lib.hid (HGi.out.below hb8)
         have HEg8:=Lib.hid (HEg.out.keep (HG8.out.kp (p:=p)))
         have HFg8:=Lib.hid (HFh.out.keep ((JG.ofBelow Q v3 p3 hb8).kp (p:=p)))
         obtain⟨fb,hfbe⟩:∃ fb,wr.heap.size=fb:=⟨_,rfl⟩
         rw[hfbe] at hfb⊢
         have HCb:Hid (∀ W:World,W.heap[Q.b]? = some (.cells #[.pointer (some ⟨Q.k,0,none⟩)] 132 (0,0))→W.heap[xb]? = some (NfBox x ⟨xae,xce,xaa,xca⟩)→W.heap[yb]? = some (NfBox y ⟨yae,yce,yaa,yca⟩)→W.heap[eb]? = some (.cells #[.int .i64 e.fr,.int .i64 e.to,.slice ag e.guards.length cg,.slice aS e.sets.length cs] 69 (0,0))→W.heap[fb]? = some (.cells #[.int .i64 f.fr,.int .i64 f.to,.slice fg f.guards.length dg,.slice fS f.sets.length dS] 69 (0,0))→W.cell? ⟨Q.b,0,none⟩=some (.pointer (some ⟨Q.k,0,none⟩))∧W.cell? ⟨xb,0,none⟩=some (.int .i64 x.states)∧W.cell? ⟨xb,1,none⟩=some (.slice xae x.edges.length xce)∧W.cell? ⟨xb,2,none⟩=some (.slice xaa x.accept.length xca)∧W.cell? ⟨yb,0,none⟩=some (.int .i64 y.states)∧W.cell? ⟨yb,1,none⟩=some (.slice yae y.edges.length yce)∧W.cell? ⟨yb,2,none⟩=some (.slice yaa y.accept.length yca)∧W.cell? ⟨eb,0,none⟩=some (.int .i64 e.fr)∧W.cell? ⟨eb,1,none⟩=some (.int .i64 e.to)∧W.cell? ⟨eb,2,none⟩=some (.slice ag e.guards.length cg)∧W.cell? ⟨eb,3,none⟩=some (.slice aS e.sets.length cs)∧W.cell? ⟨fb,0,none⟩=some (.int .i64 f.fr)∧W.cell? ⟨fb,1,none⟩=some (.int .i64 f.to)∧W.cell? ⟨fb,2,none⟩=some (.slice fg f.guards.length dg)∧W.cell? ⟨fb,3,none⟩=some (.slice fS f.sets.length dS)):=fun W z1 z2 z3 z4 z5=>by
          obtain⟨y10,-⟩:=cell1T z1
          obtain⟨y20,y21,y22⟩:=cell3T z2
          obtain⟨y30,y31,y32⟩:=cell3T z3
          obtain⟨y40,y41,y42,y43,-⟩:=cell4B z4
          obtain⟨y50,y51,y52,y53,-⟩:=cell4B z5
          exact⟨y10,y20,y21,y22,y30,y31,y32,y40,y41,y42,y43,y50,y51,y52,y53⟩
         have HCel:Hid (∀ W,Below W8.heap.size W8 W→W.cell? ⟨Q.b,0,none⟩=some (.pointer (some ⟨Q.k,0,none⟩))∧W.cell? ⟨xb,0,none⟩=some (.int .i64 x.states)∧W.cell? ⟨xb,1,none⟩=some (.slice xae x.edges.length xce)∧W.cell? ⟨xb,2,none⟩=some (.slice xaa x.accept.length xca)∧W.cell? ⟨yb,0,none⟩=some (.int .i64 y.states)∧W.cell? ⟨yb,1,none⟩=some (.slice yae y.edges.length yce)∧W.cell? ⟨yb,2,none⟩=some (.slice yaa y.accept.length yca)∧W.cell? ⟨eb,0,none⟩=some (.int .i64 e.fr)∧W.cell? ⟨eb,1,none⟩=some (.int .i64 e.to)∧W.cell? ⟨eb,2,none⟩=some (.slice ag e.guards.length cg)∧W.cell? ⟨eb,3,none⟩=some (.slice aS e.sets.length cs)∧W.cell? ⟨fb,0,none⟩=some (.int .i64 f.fr)∧W.cell? ⟨fb,1,none⟩=some (.int .i64 f.to)∧W.cell? ⟨fb,2,none⟩=some (.slice fg f.guards.length dg)∧W.cell? ⟨fb,3,none⟩=some (.slice fS f.sets.length dS)):=fun W hW=>HCb.out W (hbT hW (hbT hb8 hbb)) (hbT hW (hbT hb8 hbx.1)) (hbT hW (hbT hb8 hbx.2)) (hbT hW (hbT hb8 heb)) (hbT hW hfb)
         obtain⟨lx,hlx⟩:∃ b,x.accept.contains e.to=b:=⟨_,rfl⟩
         obtain⟨ry,hry⟩:∃ b,y.accept.contains f.to=b:=⟨_,rfl⟩
         rw[hlx,hry] at HGb
         have HAx8:Hid (∀ W,Below W8.heap.size W8 W→Calls Tryz.prog 138 #[.agg #[.int .i64 x.states,.slice xae x.edges.length xce,.slice xaa x.accept.length xca],.int .i64 e.to] W fun ee w'=>ee=.returned (.bool lx)∧Below W.heap.size W w'∧Below W8.heap.size W8 w'∧(w'.cell? ⟨Q.b,0,none⟩=some (.pointer (some ⟨Q.k,0,none⟩))∧w'.cell? ⟨xb,0,none⟩=some (.int .i64 x.states)∧w'.cell? ⟨xb,1,none⟩=some (.slice xae x.edges.length xce)∧w'.cell? ⟨xb,2,none⟩=some (.slice xaa x.accept.length xca)∧w'.cell? ⟨yb,0,none⟩=some (.int .i64 y.states)∧w'.cell? ⟨yb,1,none⟩=some (.slice yae y.edges.length yce)∧w'.cell? ⟨yb,2,none⟩=some (.slice yaa y.accept.length yca)∧w'.cell? ⟨eb,0,none⟩=some (.int .i64 e.fr)∧w'.cell? ⟨eb,1,none⟩=some (.int .i64 e.to)∧w'.cell? ⟨eb,2,none⟩=some (.slice ag e.guards.length cg)∧w'.cell? ⟨eb,3,none⟩=some (.slice aS e.sets.length cs)∧w'.cell? ⟨fb,0,none⟩=some (.int .i64 f.fr)∧w'.cell? ⟨fb,1,none⟩=some (.int .i64 f.to)∧w'.cell? ⟨fb,2,none⟩=some (.slice fg f.guards.length dg)∧w'.cell? ⟨fb,3,none⟩=some (.slice fS f.sets.length dS))):=fun W hW=>(HAx.out W _ _ _ e.to (HJ8.out.below hW)).mono fun e w' h=>⟨by rw[← hlx];exact h.1,h.2,hW.trans (h.2.mono hW.size),HCel.out _ (hW.trans (h.2.mono hW.size))⟩
         have HAy8:Hid (∀ W,Below W8.heap.size W8 W→Calls Tryz.prog 138 #[.agg #[.int .i64 y.states,.slice yae y.edges.length yce,.slice yaa y.accept.length yca],.int .i64 f.to] W fun ee w'=>ee=.returned (.bool ry)∧Below W.heap.size W w'∧Below W8.heap.size W8 w'∧(w'.cell? ⟨Q.b,0,none⟩=some (.pointer (some ⟨Q.k,0,none⟩))∧w'.cell? ⟨xb,0,none⟩=some (.int .i64 x.states)∧w'.cell? ⟨xb,1,none⟩=some (.slice xae x.edges.length xce)∧w'.cell? ⟨xb,2,none⟩=some (.slice xaa x.accept.length xca)∧w'.cell? ⟨yb,0,none⟩=some (.int .i64 y.states)∧w'.cell? ⟨yb,1,none⟩=some (.slice yae y.edges.length yce)∧w'.cell? ⟨yb,2,none⟩=some (.slice yaa y.accept.length yca)∧w'.cell? ⟨eb,0,none⟩=some (.int .i64 e.fr)∧w'.cell? ⟨eb,1,none⟩=some (.int .i64 e.to)∧w'.cell? ⟨eb,2,none⟩=some (.slice ag e.guards.length cg)∧w'.cell? ⟨eb,3,none⟩=some (.slice aS e.sets.length cs)∧w'.cell? ⟨fb,0,none⟩=some (.int .i64 f.fr)∧w'.cell? ⟨fb,1,none⟩=some (.int .i64 f.to)∧w'.cell? ⟨fb,2,none⟩=some (.slice fg f.guards.length dg)∧w'.cell? ⟨fb,3,none⟩=some (.slice fS f.sets.length dS))):=fun W hW=>(HAy.out W _ _ _ f.to (HJ8.out.below hW)).mono fun e w' h=>⟨by rw[← hry];exact h.1,h.2,hW.trans (h.2.mono hW.size),HCel.out _ (hW.trans (h.2.mono hW.size))⟩
         have HTg:Hid (∀ W,Below W8.heap.size W8 W→Calls Tryz.prog 212 #[.pointer (some ⟨Q.k,0,none⟩),.int .i64 m,.agg #[.int .i64 e.fr,.int .i64 e.to,.slice ag e.guards.length cg,.slice aS e.sets.length cs],.agg #[.int .i64 f.fr,.int .i64 f.to,.slice fg f.guards.length dg,.slice fS f.sets.length dS],.bool lx,.bool ry,.func (.func 210) #[] #[.pointer (some ⟨Q.m,0,none⟩),.pointer (some ⟨Q.r,0,none⟩),.pointer (some ⟨Q.b,0,none⟩)]] W
           fun ee w'=>ee=.returned (.tuple #[])∧(w'.cell? ⟨Q.b,0,none⟩=some (.pointer (some ⟨Q.k,0,none⟩))∧w'.cell? ⟨xb,0,none⟩=some (.int .i64 x.states)∧w'.cell? ⟨xb,1,none⟩=some (.slice xae x.edges.length xce)∧w'.cell? ⟨xb,2,none⟩=some (.slice xaa x.accept.length xca)∧w'.cell? ⟨yb,0,none⟩=some (.int .i64 y.states)∧w'.cell? ⟨yb,1,none⟩=some (.slice yae y.edges.length yce)∧w'.cell? ⟨yb,2,none⟩=some (.slice yaa y.accept.length yca)∧w'.cell? ⟨eb,0,none⟩=some (.int .i64 e.fr)∧w'.cell? ⟨eb,1,none⟩=some (.int .i64 e.to)∧w'.cell? ⟨eb,2,none⟩=some (.slice ag e.guards.length cg)∧w'.cell? ⟨eb,3,none⟩=some (.slice aS e.sets.length cs)∧w'.cell? ⟨fb,0,none⟩=some (.int .i64 f.fr)∧w'.cell? ⟨fb,1,none⟩=some (.int .i64 f.to)∧w'.cell? ⟨fb,2,none⟩=some (.slice fg f.guards.length dg)∧w'.cell? ⟨fb,3,none⟩=some (.slice fS f.sets.length dS))∧∃ v' p',Hid (JnS p Q w0 w' (G (b+1)) v' p')∧Hid (JG Q w7 v pv w' v' p')):=fun W hW=>by
          have hg:=JG.ofBelow Q v3 p3 hW
          refine(together_any (HJ8.out.below hW) Hp.out (HGL.out b) m e f ag cg aS cs fg dg fS dS (HEg8.out.keep (hg.kp (p:=p))) (HFg8.out.keep (hg.kp (p:=p))) HLe.out.1 HLf.out.1 (by have:=HLe.out.2;have:=HLf.out.2;have:=HK.out;rw[List.length_append];omega) _ _).mono ?_
          rintro e9 w9 ⟨rfl,v',p',t1,t2⟩
          rw[← HGb.out] at t1
          have hG9:=HG8.out.trans (hg.trans t2)
          have hbx9:=HBX.out _ _ _ (HG5.out.trans (HG7.out.trans hG9))
          have hfb9:=(hg.trans t2).at (by have:=HJi.out.new fb (by omega);exact this) hfb
          exact⟨rfl,HCb.out w9 t1.bb hbx9.1 hbx9.2 (hG9.at HEn7.out HEb.out) hfb9,v',p',t1,hG9⟩
         obtain⟨z10,z20,z21,z22,z30,z31,z32,z40,z41,z42,z43,z50,z51,z52,z53⟩:=HCel.out _ (Below.refl _ _)
         clear hW8 hbx heb hbb hb8 hfb HJi HGi HJ8 HG8 HEg8 HFg8 HAx HAy HFx HFy e0 e1 e2 e3 HFh HGb HCb hfbe hlx hry
         go_region_held3 (fun w'=>w'.cell? ⟨Q.b,0,none⟩=some (.pointer (some ⟨Q.k,0,none⟩))∧w'.cell? ⟨xb,0,none⟩=some (.int .i64 x.states)∧w'.cell? ⟨xb,1,none⟩=some (.slice xae x.edges.length xce)∧w'.cell? ⟨xb,2,none⟩=some (.slice xaa x.accept.length xca)∧w'.cell? ⟨yb,0,none⟩=some (.int .i64 y.states)∧w'.cell? ⟨yb,1,none⟩=some (.slice yae y.edges.length yce)∧w'.cell? ⟨yb,2,none⟩=some (.slice yaa y.accept.length yca)∧w'.cell? ⟨eb,0,none⟩=some (.int .i64 e.fr)∧w'.cell? ⟨eb,1,none⟩=some (.int .i64 e.to)∧w'.cell? ⟨eb,2,none⟩=some (.slice ag e.guards.length cg)∧w'.cell? ⟨eb,3,none⟩=some (.slice aS e.sets.length cs)∧w'.cell? ⟨fb,0,none⟩=some (.int .i64 f.fr)∧w'.cell? ⟨fb,1,none⟩=some (.int .i64 f.to)∧w'.cell? ⟨fb,2,none⟩=some (.slice fg f.guards.length dg)∧w'.cell? ⟨fb,3,none⟩=some (.slice fS f.sets.length dS))
          (first | with_reducible assumption | exact hC10 | (refine(fun h=>HCel.out _ h) ?_;first | with_reducible assumption | with_reducible exact Below.refl _ _ | exact belR))
          (first
           | (go_at_call 138;(first | (with_reducible refine(HAx8.out _ (by first | with_reducible assumption | exact belR)).mono ?_) | (with_reducible refine(HAy8.out _ (by first | with_reducible assumption | exact belR)).mono ?_));rintro e9 w9 ⟨rfl,hb9,hB9,hC9⟩;have hs9:=hB9.size)
           | (go_at_call 212;(with_reducible refine(HTg.out _ (by first | with_reducible assumption | exact belR)).mono ?_);rintro e10 w10 ⟨rfl,hC10,v',p',HJn,HGn⟩))
         all_goals
          have hM4:=HNy.out
          go_wp2_with fail
          go_roundw
          case rel=>exact⟨b+1,v',p',by go_num,by omega,HJn,HGn⟩
          case measure=>(simp[intOf];try omega)
        ·obtain rfl:b=M.length:=by omega
         have HJn:Hid (JnS p Q w0 wr (F (a+1)) v3 p3):=by rw[HGE.out];exact HJi
         have HGn:=Lib.hid (HG7.out.trans HGi.out)
         have hL4:=HNx.out
         go_wp2_with fail
         go_roundw
         case rel=>exact⟨a+1,v3,p3,by go_num,by omega,HJn,HGn⟩
         case measure=>(simp[intOf];try omega)
      ·obtain rfl:a=L.length:=by omega
       have HJn:Hid (JnS p Q w0 wr (andAt x y (m+1)) v pv):=by rw[HFE.out];exact HJi
       have HGn:=Lib.hid (HG5.out.trans HGi.out)
       have HLn2:Hid ((andAt x y (m+1)).pairs.length≤70000000):=by have:=HFL.out L.length;rw[← HFE.out] at this;show _≤_;omega
       go_wp2_with fail
       go_roundw
       case rel=>exact⟨m+1,v,pv,by go_num,by omega,HJn,HGn,HLn2⟩
       case measure=>(simp[intOf];try omega)
  ·have HDn:=Lib.hid (HSt.out (by omega))
   have HFin0:Hid (PS.contains (-1,-1)=false→Po (.returned (.tuple #[])) (wr.setCell ⟨Q.k,0,none⟩ (.int .i64 n))):=fun h=>HPo.out _ _ ⟨m,by rw[HJe.out]⟩ (HJ.out.fin0 HLn.out h) HDn.out
   have HFin1:Hid (∀ i,PS.idxOf (-1,-1)=i→PS.contains (-1,-1)=true→Po (.returned (.tuple #[])) (((wr.setCell ⟨Q.k,0,none⟩ (.int .i64 n)).setCell ⟨Q.k,2,none⟩ (.slice (some ⟨wr.heap.size,0,none⟩) 1 1)).alloc (.cells #[.int .i64 i] 3))):=fun i h1 h2=>by
    have:=HPo.out _ _ ⟨m,by rw[HJe.out]⟩ (HJ.out.fin1 Hp.out HLn.out h1 h2) HDn.out
    rwa [World.setCell_alloc_past _ _ _ _ (by rw[World.size_setCell];exact HJ.out.e.klt)] at this
   obtain⟨mm,f,hM,hml,hf⟩:=HJ.out.mp
   have hsm:SmP (-1,-1):=⟨⟨by show (-1:Int)≤-1;omega,by show (-1:Int)≤_;omega⟩,by show (-1:Int)≤-1;omega,by show (-1:Int)≤_;omega⟩
   have HK1:Hid (keyOf Tryz.prog 109 (.agg #[.int .i64 (-1),.int .i64 (-1)])=some (prL (-1,-1))):=key_pr hsm
   have HF:Hid (f (prL (-1,-1))=if PS.contains (-1,-1) then some (.int .i64 (PS.idxOf (-1,-1):Nat)) else none):=hf _ hsm
   have hmk:Q.m≠Q.k:=blk_ne HJ.out.bm HJ.out.e.blk (by decide)
   have hbk:Q.b≠Q.k:=blk_ne HJ.out.bb HJ.out.e.blk (by decide)
   have hhk:Q.h≠Q.k:=Ne.symm (blk_nemap HJ.out.mp HJ.out.e.blk)
   have HM8:Hid (MapV (wr.setCell ⟨Q.k,0,none⟩ (.int .i64 n)) Tryz.prog 109 Q.h mm f):=hM.setCell (by simpa using hhk) _
   have c78:(wr.setCell ⟨Q.k,0,none⟩ (.int .i64 n)).cell? ⟨Q.m,0,none⟩=some (.map (some Q.h)):=(World.cell?_of_block (Below.heap_setCell _ _ _ _ (by simpa using hmk))).trans c7
   have c38:(wr.setCell ⟨Q.k,0,none⟩ (.int .i64 n)).cell? ⟨Q.b,0,none⟩=some (.pointer (some ⟨Q.k,0,none⟩)):=(World.cell?_of_block (Below.heap_setCell _ _ _ _ (by simpa using hbk))).trans c3
   have c38o:∀ o,((wr.setCell ⟨Q.k,0,none⟩ (.int .i64 n)).alloc o).cell? ⟨Q.b,0,none⟩=some (.pointer (some ⟨Q.k,0,none⟩)):=fun o=>Lib.cell?_alloc_some _ c38
   have d28:(wr.setCell ⟨Q.k,0,none⟩ (.int .i64 n)).cell? ⟨Q.k,2,none⟩=some (.slice none 0 0):=by rw[cell_of_blkT (blk_set HJ.out.e.blk 0)];rfl
   have d28o:∀ o,((wr.setCell ⟨Q.k,0,none⟩ (.int .i64 n)).alloc o).cell? ⟨Q.k,2,none⟩=some (.slice none 0 0):=fun o=>Lib.cell?_alloc_some _ d28
   clear hM hml hf hmk hbk hhk HPS HSu hsm
   have hcase:¬ (m < n)∨(m < n∧¬ (n≤256))∨(m < n∧n≤256∧4097 < ES.length):=by omega
   clear hgo
   rcases hcase with h1 | ⟨h1,h2⟩ | ⟨h1,h2,h3⟩
   all_goals
    by_cases hin:PS.contains (-1,-1)=true
    ·have HF1:Hid (f (prL (-1,-1))=some (.int .i64 (PS.idxOf (-1,-1):Nat))):=by have:=HF.out;rw[if_pos hin] at this;exact this
     have HFin1:=Lib.hid (fun i h=>HFin1.out i h hin)
     clear hin HF
     generalize PS.idxOf (-1,-1)=ix at HF1 HFin1
     have HFin:=Lib.hid (HFin1.out ix rfl)
     clear HFin0 HFin1
     go_wp2_with (at_lookup;go_must (refine wp_mapV_some _ rfl _ _ 227 3 rfl keyed_pr (by kernel_rfl) (zero_intP _) rfl HM8.out _ _ rfl HK1.out (.int .i64 ix) HF1.out ?_))
     first | exact HFin.out | (refine bodyPost_ret (results_none rfl _ _ _) rfl ?_;exact HFin.out)
    ·have hin:PS.contains (-1,-1)=false:=by simpa using hin
     have HF1:Hid (f (prL (-1,-1))=none):=by have:=HF.out;rw[hin] at this;exact this
     have HFin:=Lib.hid (HFin0.out hin)
     clear hin HF HFin0 HFin1
     go_wp2_with (at_lookup;go_must (refine wp_mapV_none _ rfl _ _ 227 3 rfl keyed_pr (by kernel_rfl) (zero_intP _) rfl HM8.out _ _ rfl HK1.out HF1.out ?_))
     first | exact HFin.out | (refine bodyPost_ret (results_none rfl _ _ _) rfl ?_;exact HFin.out)
end Go.Proofs.YthojpomoflhbcaaGreatDoor
