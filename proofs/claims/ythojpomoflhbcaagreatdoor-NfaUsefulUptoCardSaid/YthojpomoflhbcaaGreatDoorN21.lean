/- nfa.builder: or. -/
import Derived.Test.YthojpomoflhbcaaGreatDoorN20
import Derived.Deep.RegionLawGrows
import Derived.Test.YthojpomoflhbcaaGreatDoorN19
import Derived.Test.YthojpomoflhbcaaGreatDoorN15
import Derived.Laws.Rows
set_option linter.unusedSimpArgs false
set_option linter.unusedVariables false
set_option linter.unnecessarySimpa false
namespace Go.Proofs.YthojpomoflhbcaaGreatDoor
open Go.RowKit
attribute [local go_sem ↓] Go.wp_at_zero Go.wp_at_succ
theorem nfE_get {w:World} {l:List NfaD} {a:Option Addr} {cap:Nat} (h:nfE.In w l a cap) {b off:Nat} (ha:a=some ⟨b,off,none⟩) {i:Nat} (hi:i < l.length) :
  ∃ x:NfaA,w.cell? ⟨b,off+i * 3,none⟩=some (.int .i64 (l[i]'hi).states)∧w.cell? ⟨b,off+i * 3+1,none⟩=some (.slice x.ae (l[i]'hi).edges.length x.ce)∧w.cell? ⟨b,off+i * 3+2,none⟩=some (.slice x.aa (l[i]'hi).accept.length x.ca)∧NfaIn w (l[i]'hi) x:=by
 obtain⟨vs,⟨x,rfl,h1⟩,hc⟩:=h.get ha hi
 exact⟨x,hc 0 _ rfl,hc 1 _ rfl,hc 2 _ rfl,h1⟩
theorem place_any (base s:Int) (b:Nat) (w:World) (hc:w.cell? ⟨b,0,none⟩=some (.int .i64 base)) (h1:0≤base) (h2:base≤100000) (h3:0≤s) (h4:s≤100000) :
  Calls Tryz.prog 143 #[.int .i64 s,.pointer (some ⟨b,0,none⟩)] w fun e w'=>e=.returned (.int .i64 (placeI base s))∧w'=w:=by
 by_cases h0:s=0
 ·have hv:placeI base s=0:=by unfold placeI;rw[if_pos h0]
  rw[hv]
  have h5:(s == 0)=true:=by simp[h0]
  clear h0
  go_enter Tryz.func143, Tryz.ntmps143
  go_wp2_with fail
  go_ret
  exact⟨rfl,rfl⟩
 ·have hv:placeI base s=base+s:=by unfold placeI;rw[if_neg h0]
  rw[hv]
  have h5:(s == 0)=false:=by simp[h0]
  go_enter Tryz.func143, Tryz.ntmps143
  go_wp2_with fail
  go_ret
  exact⟨rfl,rfl⟩
def orK (ps:List NfaD) (k:Nat):NfaD:=(ps.take k).foldl orOne ⟨1,[],[]⟩
theorem orK_succ {ps:List NfaD} {k:Nat} (h:k < ps.length):orK ps (k+1)=orOne (orK ps k) (ps[k]'h):=by
 unfold orK;rw[List.take_succ_eq_append_getElem h,List.foldl_append];rfl
theorem orK_all (ps:List NfaD):orK ps ps.length=orN ps:=by unfold orK orN;rw[List.take_length]
theorem orK_rng {ps:List NfaD} (hp:∀ n∈ps,(1≤n.states∧n.states≤256)∧n.accept.length≤256):∀ k,k≤ps.length→(1≤(orK ps k).states∧(orK ps k).states≤1+255 * k)∧(orK ps k).accept.length≤256 * k:=by
 intro k
 induction k with
 | zero=>intro _;exact⟨⟨Int.le_refl _,Int.le_refl _⟩,Nat.le_refl _⟩
 | succ k ih =>
  intro hk
  have h1:=ih (by omega)
  have h2:=hp _ (List.getElem_mem (show k < ps.length by omega))
  rw[orK_succ (by omega)]
  simp only[orOne,List.length_append,List.length_map]
  omega
set_option maxHeartbeats 32000000 in
set_option maxRecDepth 100000 in
theorem or_any {p:Nat→Bool} {k:Nat} {w0 w:World} (hk:w0.heap.size≤k) (hblk:w.heap[k]? = some (.cells #[.int .i64 0,.slice none 0 0,.slice none 0 0,.bool false] 134 (0,0))) (hb:Below w0.heap.size w0 w) (hp:∀ j,p j=true→j < w0.heap.size)
  (ps:List NfaD) (pa:Option Addr) (pc:Nat) {K:Nat} (hr:∀ n∈ps,RegN K n) (hl8:ps.length≤8) (hI:nfE.In (World.hide w0 p) ps pa pc) :
  Calls Tryz.prog 86 #[.pointer (some ⟨k,0,none⟩),.slice pa ps.length pc] w (BldP p k w0 (orN ps)):=by
 have hkw:=lt_of_block hblk
 have HPI:=Lib.hid hI
 have HPA:Hid (ps.length=0∨∃ b off,pa=some ⟨b,off,none⟩):=hI.addr
 have Hp:=Lib.hid hp
 have HRn:=Lib.hid hr
 have HOr:=Lib.hid (orK_rng (ps:=ps) fun n hn=>⟨(hr n hn).st,acc_len (hr n hn)⟩)
 have HSu:Hid (∀ m (h:m < ps.length),orK ps (m+1)=orOne (orK ps m) (ps[m]'h)):=fun m h=>orK_succ h
 have HPo:Hid (∀ (ve va:Value) (W:World),BldS (qk p k) k w0 W (orK ps ps.length).states (orK ps ps.length).edges (orK ps ps.length).accept ve va→BldP p k w0 (orN ps) (.returned (.tuple #[])) W):=fun ve va W h=>h.post hp (by rw[orK_all]) (by rw[orK_all]) (by rw[orK_all]) (by have:=(HOr.out ps.length (Nat.le_refl _)).2;omega)
 clear hI hp hr
 generalize BldP p k w0 (orN ps)=Po at HPo⊢
 obtain⟨c0,c1,c2,c3,f0⟩:=cell4B hblk
 have f00:=f0 0
 have HBlk:=Lib.hid hblk
 clear f0 c1 c3 c2 hblk
 go_enter Tryz.func86, Tryz.ntmps86
 go_wp2_with fail
 generalize hW4:World.setCell w _ _=W4
 have hblk4:W4.heap[k]? = some (.cells #[.int .i64 1,.slice none 0 0,.slice none 0 0,.bool false] 134 (0,0)):=by
  rw[← hW4,blk_set HBlk.out 0];rfl
 have hb4:Below w0.heap.size w0 W4:=by rw[← hW4];exact hb.setCell hk _
 clear hW4 c0 f00
 have HS4:Hid (BldS (qk p k) k w0 W4 1 [] [] (.slice none 0 0) (.slice none 0 0)):=BldS.mk0 hk hblk4 hb4
 have HKP:Hid (∀ {wr st L A ve va},BldS (qk p k) k w0 wr st L A ve va→Kp (World.hide w0 p) (World.hide wr (hid (hid (qk p k) va) ve))):=fun h=>h.kp (qk_old hk)
 clear hblk4 hb4 hb HBlk
 go_loopw [18,5,6,7,9,11] (fun i _ _ _ _ _ wr=>∃ (m:Nat) (ve va:Value),i=.int .i64 m∧m≤ps.length∧Hid (BldS (qk p k) k w0 wr (orK ps m).states (orK ps m).edges (orK ps m).accept ve va)∧Hid (BF k W4 ve va wr)) (fun i _ _ _ _ _ _=>ps.length - (intOf i).toNat)
 case atStart=>exact⟨0,.slice none 0 0,.slice none 0 0,rfl,Nat.zero_le _,HS4.out,BF.refl _ _⟩
 case round =>
  obtain⟨m,ve,va,rfl,hm,HD,HF⟩:=hrel
  by_cases hlt:m < ps.length
  ·obtain⟨bp,op,hpa⟩:=HPA.out.resolve_left (by omega)
   subst hpa
   obtain⟨⟨xae,xce,xaa,xca⟩,g0,g1,g2,hN⟩:=nfE_get HPI.out rfl hlt
   have n0:=hide_cell _ _ (HKP.out HD.out _ _ g0)
   have n1:=hide_cell _ _ (HKP.out HD.out _ _ g1)
   have n2:=hide_cell _ _ (HKP.out HD.out _ _ g2)
   have HN:=Lib.hid hN
   have hrg:=HOr.out m hm
   have hrn:=HRn.out _ (List.getElem_mem hlt)
   have HSm:=Lib.hid (HSu.out m hlt)
   have hNst:=hrn.st
   have HEnds:=Lib.hid hrn.ends
   have HAcc:=Lib.hid hrn.acc
   have hAl:=acc_len hrn
   clear g0 g1 g2 hN hrn
   generalize (ps[m]'hlt)=n at n0 n1 n2 HN HSm hNst HEnds HAcc hAl
   simp only at n1 n2
   obtain⟨OK,hOK⟩:∃ OK,orK ps m=OK:=⟨_,rfl⟩
   obtain⟨ON,hON⟩:∃ ON,orK ps (m+1)=ON:=⟨_,rfl⟩
   rw[hOK] at HD hrg HSm
   rw[hON] at HSm
   have HON:=Lib.hid hON
   clear hOK hON
   obtain⟨SK,EK,AK⟩:=OK
   simp only at HD hrg
   obtain⟨⟨hS1,hS2⟩,hA1⟩:=hrg
   obtain⟨hN1,hN2⟩:=hNst
   have hS3:SK≤2000:=by omega
   have hA2:AK.length≤2100:=by omega
   have hel:=HN.out.es.len
   have HNA:Hid (n.edges.length=0∨∃ b off,xae=some ⟨b,off,none⟩):=HN.out.es.addr
   have HNCA:Hid (n.accept.length=0∨∃ b off,xaa=some ⟨b,off,none⟩):=SliceIn.addr HN.out.ac
   obtain⟨d0,-,-,-,-⟩:=cell4B HD.out.e.blk
   have hkl:=HD.out.e.klt
   have d0o:∀ o,(wr.alloc o).cell? ⟨k,0,none⟩=some (.int .i64 SK):=fun o=>Lib.cell?_alloc_some _ d0
   go_wp2_with fail
   generalize hW5:World.alloc (World.alloc wr _) _=W5
   have hbn5:W5.heap[wr.heap.size]? = some (.cells #[.int .i64 n.states,.slice xae n.edges.length xce,.slice xaa n.accept.length xca] 33 (0,0)):=by rw[← hW5];exact hx_oldT (hx_newT rfl)
   have hbb5:W5.heap[wr.heap.size+1]? = some (.cells #[.int .i64 (SK - 1)] 3 (0,0)):=by rw[← hW5];exact hx_newT (by simp)
   have hB5:Below wr.heap.size wr W5:=by rw[← hW5];exact((Below.refl _ _).alloc (Nat.le_refl _) _).alloc (by simp) _
   have hz5:wr.heap.size+2≤W5.heap.size:=by rw[← hW5];simp
   clear hW5 d0o d0 n0 n1 n2
   have HD5:=Lib.hid (HD.out.below hB5)
   have HF5:=Lib.hid (HF.out.below hB5)
   have HVn:Hid (∀ j,wr.heap.size≤j→j≠k∧ve.ownBlock≠some j∧va.ownBlock≠some j):=fun j hj=>⟨by omega,fun e=>by have:=(HD.out.e.vlt j e).2;omega,fun e=>by have:=(HD.out.alt j e).2;omega⟩
   have HNb:Hid (∀ wq v a,BG k W5 ve va wq v a→wq.heap[wr.heap.size]? = some (.cells #[.int .i64 n.states,.slice xae n.edges.length xce,.slice xaa n.accept.length xca] 33 (0,0))):=fun wq v a h=>by
    have:=HVn.out wr.heap.size (Nat.le_refl _)
    exact(h.block wr.heap.size (by omega) this.1 this.2.1 this.2.2).trans hbn5
   have HBb:Hid (∀ wq v a,BG k W5 ve va wq v a→wq.heap[wr.heap.size+1]? = some (.cells #[.int .i64 (SK - 1)] 3 (0,0))):=fun wq v a h=>by
    have:=HVn.out (wr.heap.size+1) (by omega)
    exact(h.block (wr.heap.size+1) (by omega) this.1 this.2.1 this.2.2).trans hbb5
   rename World=>w1
   clear hbn5 hbb5 hB5 HD HVn
   clear HF
   generalize wr.heap.size=nb at *
   have hb0:0≤SK - 1:=by omega
   have hb1:SK - 1≤100000:=by omega
   have HPl:Hid (∀ s W,W.cell? ⟨nb+1,0,none⟩=some (.int .i64 (SK - 1))→0≤s→s≤100000→Calls Tryz.prog 143 #[.int .i64 s,.pointer (some ⟨nb+1,0,none⟩)] W fun e w'=>e=.returned (.int .i64 (placeI (SK - 1) s))∧w'=W):=fun s W hc h3 h4=>place_any (SK - 1) s (nb+1) W hc hb0 hb1 h3 h4
   generalize hPL:placeI (SK - 1)=PL at HPl
   have HPL:=Lib.hid hPL
   clear hPL
   go_loopw [32,9] (fun i _ wr=>∃ (t:Nat) (v:Value),i=.int .i64 t∧t≤n.edges.length∧Hid (BldS (qk p k) k w0 wr SK (EK++(n.edges.take t).map fun e=>mvE e (PL e.fr) (PL e.to)) AK v va)∧Hid (BG k w1 ve va wr v va)) (fun i _ _=>n.edges.length - (intOf i).toNat)
   case atStart=>exact⟨0,ve,rfl,Nat.zero_le _,by simpa using HD5,BG.refl _ _ _ _⟩
   case round =>
    obtain⟨t,v,rfl,ht,HD,HG⟩:=hrel
    have hzr:=HG.out.size
    have hbb:=HBb.out _ _ _ HG.out
    have q0:wr.cell? ⟨nb+1,0,none⟩=some (.int .i64 (SK - 1)):=by rw[cell_of_blkT hbb];rfl
    have q0o:∀ o,(wr.alloc o).cell? ⟨nb+1,0,none⟩=some (.int .i64 (SK - 1)):=fun o=>Lib.cell?_alloc_some _ q0
    have q0d:∀ o,(wr.alloc o).drew.cell? ⟨nb+1,0,none⟩=some (.int .i64 (SK - 1)):=q0o
    by_cases hlt2:t < n.edges.length
    ·obtain⟨bf,of,hfa⟩:=HNA.out.resolve_left (by omega)
     subst hfa
     obtain⟨ag,cg,aS,cs,g0,g1,g2,g3,h1,h2⟩:=edE_get (HN.out.es.keep (HKP.out HD.out)) rfl hlt2
     have e0:=hide_cell _ _ g0
     have e1:=hide_cell _ _ g1
     have e2:=hide_cell _ _ g2
     have e3:=hide_cell _ _ g3
     have hee:=HEnds.out _ (List.getElem_mem hlt2)
     have HTt:Hid ((EK++(n.edges.take t).map fun e=>mvE e (PL e.fr) (PL e.to))++[mvE (n.edges[t]'hlt2) (PL (n.edges[t]'hlt2).fr) (PL (n.edges[t]'hlt2).to)]=EK++(n.edges.take (t+1)).map fun e=>mvE e (PL e.fr) (PL e.to)):=by
      show _=_
      rw[List.take_succ_eq_append_getElem hlt2,List.map_append,List.append_assoc];rfl
     have HM:Hid (∀ W u1 u2,Below wr.heap.size wr W→Calls Tryz.prog 142 #[.pointer (some ⟨k,0,none⟩),edVal (n.edges[t]'hlt2) ag cg aS cs,.int .i64 u1,.int .i64 u2] W (AddPost (hid (qk p k) va) k w0 W SK ((EK++(n.edges.take t).map fun e=>mvE e (PL e.fr) (PL e.to))++[mvE (n.edges[t]'hlt2) u1 u2]) v va)):=fun W u1 u2 hW=>moved_any (HD.out.below hW).e (n.edges[t]'hlt2) ag cg aS cs _ _ (h1.keep (hid_below hW)) (h2.keep (hid_below hW))
     clear g0 g1 g2 g3 h1 h2 hbb
     unfold edVal at HM
     generalize (n.edges[t]'hlt2)=y at e0 e1 e2 e3 hee HTt HM
     obtain⟨hq0,hq1,hq2,hq3⟩:=hee
     go_upto_region 9 with fail
     go_region_with (first
      | (go_at_call 143;go_must (refine(HPl.out _ _ (by first | exact q0d _ | exact q0o _ | assumption) (by assumption) (by assumption)).mono ?_;rintro e w1 ⟨rfl,rfl⟩))
      | (go_at_call 142;go_must (refine(HM.out _ _ _ bel).mono ?_;rintro e w7 ⟨rfl,u',hD7,hS7⟩)))
     all_goals
      have hBa:Below wr.heap.size wr (wr.alloc (.cells #[.int .i64 y.fr,.int .i64 y.to,.slice ag y.guards.length cg,.slice aS y.sets.length cs] 69)):=(Below.refl _ _).alloc (Nat.le_refl _) _
      have HD7:Hid (BldS (qk p k) k w0 w7 SK (EK++(n.edges.take (t+1)).map fun e=>mvE e (PL e.fr) (PL e.to)) AK u' va):=by
       show BldS _ _ _ _ _ _ _ _ _
       rw[← HTt.out];exact(HD.out.below (Below.drew hBa)).step hD7 hS7
      have HG7:=Lib.hid ((HG.out.below (Below.drew hBa)).step hS7)
      clear hD7 hS7 hBa
      go_wp2_with fail
      go_roundw
      case rel=>exact⟨t+1,u',by go_num,by omega,HD7.out,HG7.out⟩
      case measure=>(simp[intOf];try omega)
    ·obtain rfl:t=n.edges.length:=by omega
     obtain⟨EN,hEN⟩:∃ EN,EK++n.edges.map (fun e=>mvE e (PL e.fr) (PL e.to))=EN:=⟨_,rfl⟩
     have HEN:=Lib.hid hEN
     have HDz:Hid (BldS (qk p k) k w0 wr SK EN (AK++(n.accept.take 0).map PL) v va):=by
      show BldS _ _ _ _ _ _ _ _ _
      have:=HD.out
      rw[List.take_length,hEN] at this
      simpa using this
     have hbn:=HNb.out _ _ _ HG.out
     obtain⟨x0,x1,x2⟩:=cell3T hbn
     clear hEN HD hbn hbb q0o q0d q0 HD5
     go_wp2_with fail
     rename World=>w2
     clear x0 x1 x2
     go_loopw [51,11] (fun i _ wr=>∃ (t:Nat) (va2:Value),i=.int .i64 t∧t≤n.accept.length∧Hid (BldS (qk p k) k w0 wr SK EN (AK++(n.accept.take t).map PL) v va2)∧Hid (BG k w1 ve va wr v va2)) (fun i _ _=>n.accept.length - (intOf i).toNat)
     case atStart=>exact⟨0,va,rfl,Nat.zero_le _,HDz.out,HG.out⟩
     case round =>
      clear HDz HG
      obtain⟨t,va2,rfl,ht2,HD,HG⟩:=hrel
      have hzr:=HG.out.size
      have hbb:=HBb.out _ _ _ HG.out
      have q0:wr.cell? ⟨nb+1,0,none⟩=some (.int .i64 (SK - 1)):=by rw[cell_of_blkT hbb];rfl
      have q0d:wr.drew.cell? ⟨nb+1,0,none⟩=some (.int .i64 (SK - 1)):=q0
      by_cases hlt3:t < n.accept.length
      ·obtain⟨bf,of,hfa⟩:=HNCA.out.resolve_left (by omega)
       subst hfa
       have g0:=hide_cell _ _ (inE_at.1 ((inE_in.2 (HN.out.ac.keep (HKP.out HD.out))).get rfl hlt3))
       rw[show inE.sz=1 from rfl,Nat.mul_one] at g0
       have hya:=HAcc.out _ (List.getElem_mem hlt3)
       have HTt:Hid ((AK++(n.accept.take t).map PL)++[PL (n.accept[t]'hlt3)]=AK++(n.accept.take (t+1)).map PL):=by
        show _=_
        rw[List.take_succ_eq_append_getElem hlt3,List.map_append,List.append_assoc];rfl
       have hln:(AK++(n.accept.take t).map PL).length=AK.length+t:=by rw[List.length_append,List.length_map,List.length_take];omega
       obtain⟨AT,hAT⟩:∃ AT,AK++(n.accept.take t).map PL=AT:=⟨_,rfl⟩
       rw[hAT] at HTt hln HD
       clear hAT
       generalize (n.accept[t]'hlt3)=z at g0 hya HTt
       obtain⟨hya1,hya2⟩:=hya
       obtain⟨av,cv,hv,_⟩:=HD.out.a.slice (by omega)
       obtain⟨LT,hLT⟩:∃ LT,AT.length=LT:=⟨_,rfl⟩
       rw[hLT] at hv
       have hLT2:LT+1≤1073741824:=by omega
       have HLn:=Lib.hid hLT
       obtain⟨-,-,d2,-,df⟩:=cell4B HD.out.e.blk
       have df2:=df 2
       have hkl:=HD.out.e.klt
       have hne:=HD.out.ane
       have hzB:=HD.out.sz
       subst hv
       have d2o:∀ o,(wr.alloc o).cell? ⟨k,2,none⟩=some (.slice av LT cv):=fun o=>Lib.cell?_alloc_some _ d2
       have hz0':0≤z:=by omega
       have hz1':z≤100000:=by omega
       clear df hln hLT hbb
       go_upto_region 14 with fail
       go_region_law (first
        | (go_simp;go_at_call 143;(with_reducible refine(HPl.out _ _ (by first | with_reducible exact q0 | exact q0d | assumption) (by assumption) (by assumption)).mono ?_);rintro e w9 ⟨rfl,rfl⟩)
        | (refine step_addE (E:=inE) elemIN (by rfl) _ _ (by rfl) (qk p k) w0.heap.size (.slice av LT cv) (by rfl) (HD.out.a.below belR) (PL z) [.int .i64 (PL z)] rfl wr.heap.size 1 (by rfl) (heap_alloc_new' wr _) LT HLn.out hLT2 (by simp;omega) (wr.heap.size+1) (by simp) ?_;intro gg gcap wg hownG hgrow hatG hltG;have f1g:wg.frozen? ⟨k,2,none⟩=false:=((hgrow.frozen_far ⟨k,2,none⟩ (by simp;omega) hne).trans (World.frozen?_alloc_old _ _ _ (Nat.ne_of_lt hkl))).trans df2;have c1g:wg.cell? ⟨k,2,none⟩=some (.slice av LT cv):=(hgrow.cell_far ⟨k,2,none⟩ (by simp;omega) hne).trans (d2o _)))
       all_goals
        have hal2:Below wr.heap.size wr (wr.alloc (.cells #[.int .i64 (PL z)] 3)).drew:=Below.drew ((Below.refl _ _).alloc (Nat.le_refl _) _)
        have HD9:Hid (BldS (qk p k) k w0 (wg.setCell ⟨k,2,none⟩ (.slice (some ⟨gg,0,none⟩) (LT+1) gcap)) SK EN (AK++(n.accept.take (t+1)).map PL) v (.slice (some ⟨gg,0,none⟩) (LT+1) gcap)):=by
         show BldS _ _ _ _ _ _ _ _ _
         rw[← HTt.out]
         exact(HD.out.below hal2).acc hownG hgrow (hatG.imp (fun e=>e.symm) fun e=>⟨gg,rfl,by simp;omega⟩)
        have HG9:Hid (BG k w1 ve va (wg.setCell ⟨k,2,none⟩ (.slice (some ⟨gg,0,none⟩) (LT+1) gcap)) v (.slice (some ⟨gg,0,none⟩) (LT+1) gcap)):=(HG.out.below hal2).acc hgrow (hatG.imp (fun e=>e.symm) fun e=>⟨gg,rfl,by simp;omega⟩) _ _
        clear hownG hgrow hatG hltG f1g c1g hal2
        go_wp2_with fail
        go_roundw
        case rel=>exact⟨t+1,_,by go_num,by omega,HD9.out,HG9.out⟩
        case measure=>(simp[intOf];try omega)
      ·obtain rfl:t=n.accept.length:=by omega
       have hbn:=HNb.out _ _ _ HG.out
       obtain⟨x0,x1,x2⟩:=cell3T hbn
       obtain⟨d0,-,-,-,df⟩:=cell4B HD.out.e.blk
       have df0:=df 0
       have hkl:=HD.out.e.klt
       have HDf:Hid (BldS (qk p k) k w0 (wr.drew.setCell ⟨k,0,none⟩ (.int .i64 (SK+(n.states - 1)))) (orK ps (m+1)).states (orK ps (m+1)).edges (orK ps (m+1)).accept v va2):=by
        show BldS _ _ _ _ _ _ _ _ _
        have h1:=(HD.out.below (Below.drew (Below.refl _ _))).setSt (SK+(n.states - 1))
        rw[List.take_length] at h1
        rw[HON.out,HSm.out]
        simp only[orOne]
        rw[HPL.out,HEN.out]
        exact h1
       have HFf:Hid (BF k W4 v va2 (wr.drew.setCell ⟨k,0,none⟩ (.int .i64 (SK+(n.states - 1))))):=(HF5.out.then ((HG.out.below (Below.drew (Below.refl _ _))).setSt _ _))
       clear hbn hbb df HD HG x1 x2 q0 q0d
       go_upto_region 16 with fail
       go_region
       go_wp2_with fail
       go_roundw
       case rel=>exact⟨m+1,v,va2,by go_num,by omega,HDf.out,HFf.out⟩
       case measure=>(simp[intOf];try omega)
  ·obtain rfl:m=ps.length:=by omega
   go_wp2_with fail
   first | exact HPo.out _ _ _ HD.out | (refine bodyPost_ret (results_none rfl _ _ _) rfl ?_;exact HPo.out _ _ _ HD.out)
end Go.Proofs.YthojpomoflhbcaaGreatDoor
namespace Go.Proofs.YthojpomoflhbcaaGreatDoor
open Go.RowKit
attribute [local go_sem ↓] Go.wp_at_zero Go.wp_at_succ
theorem In_tail {τ:Type} {E:Enc τ} {w:World} {x:τ} {l:List τ} {b off cap:Nat} (h:E.In w (x::l) (some ⟨b,off,none⟩) cap) {c2:Nat} (hc:l.length≤c2):E.In w l (some ⟨b,off+E.sz,none⟩) c2:=by
 refine⟨hc,by have:=h.len;simp only[List.length_cons] at this;omega,Or.inr ⟨b,off+E.sz,rfl,fun i hi=>?_⟩⟩
 have:=h.get rfl (i:=i+1) (by simpa using hi)
 refine⟨l[i]'hi,List.getElem?_eq_getElem hi,?_⟩
 rw[show off+E.sz+i * E.sz=off+(i+1) * E.sz by rw[Nat.add_mul,Nat.one_mul];omega]
 simpa using this
theorem rest_nf {w:World} {x:NfaD} {l:List NfaD} {b off cap:Nat} (h:nfE.In w (x::l) (some ⟨b,off,none⟩) cap) :
  ∃ a2 c2,(∀ W:World,(Instr.sliceAt 131 (.slice (some ⟨b,off,none⟩) (l.length+1) cap) (some (.int .i64 1)) none none).run Tryz.prog W=.ok (.slice a2 l.length c2) W)∧nfE.In w l a2 c2:=by
 have hcp:=h.cap
 rw[List.length_cons] at hcp
 have hrun:∀ W:World,(Instr.sliceAt 131 (.slice (some ⟨b,off,none⟩) (l.length+1) cap) (some (.int .i64 ((1:Nat):Int))) none none).run Tryz.prog W=.ok (sliced (some ⟨b,off,none⟩) 1 (l.length+1) cap 3) W:=fun W=>by
  have ht : Tryz.prog.underlying 131=some (.slice (Tryz.prog.elem 131)):=by kernel_rfl
  rw[run_sliceAt_slice (h:=ht),run_slice_l (ht:=ht) (h0:=by omega) (h1:=by omega)]
  have hs:(Go.sizeOf (Tryz.prog.elem 131)).run Tryz.prog W=.ok 3 W:=by kernel_rfl
  rw[hs]
  simp[Result.andThen]
 unfold sliced at hrun
 rw[Nat.add_sub_cancel] at hrun
 by_cases hck:cap=1
 ·rw[if_pos hck] at hrun
  obtain rfl:l=[]:=List.eq_nil_of_length_eq_zero (by omega)
  exact⟨_,_,hrun,Nat.zero_le _,Nat.zero_le _,Or.inl rfl⟩
 ·rw[if_neg hck] at hrun
  refine⟨_,_,hrun,?_⟩
  have h3:nfE.In w l (some ⟨b,off+3,none⟩) (cap - 1):=In_tail h (c2:=cap - 1) (by omega)
  simpa [Addr.add] using h3
theorem ok_smallN {n:NfaD} (h:nfaOk n=true):SmallN n:=fun e he=>by
 obtain⟨h1,h2⟩:=ok_small h he
 exact⟨fun g hg=>by have:=h1 g hg;omega,fun b hb=>by have:=h2 b hb;omega⟩
theorem NfaRet.outNo {p:Nat→Bool} {w w':World} {e:Ending} (h:NfaRet p none w e w'):e=.returned (.tuple #[.agg #[.int .i64 0,.slice none 0 0,.slice none 0 0],.int .i64 2])∧Below w.heap.size w w':=h
theorem NfaRet.outYes {p:Nat→Bool} {n:NfaD} {w w':World} {e:Ending} (h:NfaRet p (some n) w e w'):∃ x:NfaA,e=.returned (.tuple #[.agg #[.int .i64 n.states,.slice x.ae n.edges.length x.ce,.slice x.aa n.accept.length x.ca],.int .i64 0])∧NfaIn (World.hide w' p) n x∧Below w.heap.size w w':=by
 obtain⟨⟨x,h1,h2⟩,h3⟩:=h
 exact⟨x,h1,h2,h3⟩
theorem regL_at {ks:List Nat} {ps:List NfaD} (h:RegL ks ps):∀ m (hm:m < ps.length),∃ k,RegN k (ps[m]'hm)∧(ks.drop m).sum=k+(ks.drop (m+1)).sum:=by
 induction h with
 | nil=>intro m hm;simp at hm
 | cons h hs ih =>
  intro m hm
  cases m with
  | zero=>exact⟨_,h,by simp⟩
  | succ m =>
   obtain⟨k,h1,h2⟩:=ih m (by simpa using hm)
   exact⟨k,by simpa using h1,by simpa using h2⟩
theorem box3A {w:World} {b:Nat} {z0 z1 z2:Value} {t:TypeId} (h:w.heap[b]? = some (.cells #[z0,z1,z2] t (0,0))) :
  ((∀ o,(w.alloc o).cell? ⟨b,0,none⟩=some z0)∧(∀ o,(w.alloc o).cell? ⟨b,1,none⟩=some z1)∧(∀ o,(w.alloc o).cell? ⟨b,2,none⟩=some z2))∧((∀ o,(w.alloc o).frozen? ⟨b,0,none⟩=false)∧(∀ o,(w.alloc o).frozen? ⟨b,1,none⟩=false)∧∀ o,(w.alloc o).frozen? ⟨b,2,none⟩=false):=by
 have h2:∀ o,(w.alloc o).heap[b]? = _:=fun o=>hx_oldT (o:=o) h
 refine⟨⟨fun o=>?_,fun o=>?_,fun o=>?_⟩,fun o=>?_,fun o=>?_,fun o=>?_⟩
 ·rw[cell_of_blkT (h2 o)];rfl
 ·rw[cell_of_blkT (h2 o)];rfl
 ·rw[cell_of_blkT (h2 o)];rfl
 ·simp[World.frozen?,h2 o]
 ·simp[World.frozen?,h2 o]
 ·simp[World.frozen?,h2 o]
def NfBox0:Obj:=.cells #[.int .i64 0,.slice none 0 0,.slice none 0 0] 33 (0,0)
structure BothSt (q:Nat→Bool) (n0:NfaD) (rest:List NfaD) (ks:List Nat) (w wr:World) (m:Nat) (cur:NfaD) (x:NfaA) (K:Nat):Prop where
 blk0:wr.heap[w.heap.size]? = some NfBox0
 blk1:wr.heap[w.heap.size+1]? = some (NfBox cur x)
 nin:NfaIn (World.hide wr q) cur x
 reg:RegN K cur
 sum:K+(ks.drop m).sum≤1000000
 eq:allN n0 rest=allN cur (rest.drop m)
 bel:Below w.heap.size w wr
 sz:w.heap.size+2≤wr.heap.size
theorem BothSt.next {q:Nat→Bool} {n0:NfaD} {rest:List NfaD} {ks:List Nat} {w wr w8:World} {m:Nat} {cur n':NfaD} {x x':NfaA} {K ky:Nat} (h:BothSt q n0 rest ks w wr m cur x K) (hb:Below wr.heap.size wr w8) (hk:(ks.drop m).sum=ky+(ks.drop (m+1)).sum) (hr:RegN (K+ky) n')
  (he:allN n0 rest=allN n' (rest.drop (m+1))) (hn:NfaIn (World.hide w8 q) n' x') (hq:q (w.heap.size+1)=true) (hql:∀ j,q j=true→j < wr.heap.size) (o:Obj) :
  BothSt q n0 rest ks w ((((w8.alloc o).setCell ⟨w.heap.size+1,0,none⟩ (.int .i64 n'.states)).setCell ⟨w.heap.size+1,1,none⟩ (.slice x'.ae n'.edges.length x'.ce)).setCell ⟨w.heap.size+1,2,none⟩ (.slice x'.aa n'.accept.length x'.ca)) (m+1) n' x' (K+ky):=by
 have hz:=h.sz
 have hz8:=hb.size
 have hba:Below wr.heap.size wr (w8.alloc o):=hb.alloc hz8 _
 have h1:(w8.alloc o).heap[w.heap.size+1]? = some (NfBox cur x):=(hba.block _ (by omega)).trans h.blk1
 have h0:(w8.alloc o).heap[w.heap.size]? = some NfBox0:=(hba.block _ (by omega)).trans h.blk0
 refine⟨?_,set3 h1,?_,hr,by have:=h.sum;omega,he,?_,by simp only[World.size_setCell,World.size_alloc];omega⟩
 ·rw[Below.heap_setCell _ _ _ _ (by show w.heap.size≠w.heap.size+1;omega),Below.heap_setCell _ _ _ _ (by show w.heap.size≠w.heap.size+1;omega),Below.heap_setCell _ _ _ _ (by show w.heap.size≠w.heap.size+1;omega)]
  exact h0
 ·refine hn.keep (Kp.trans (hide_below (q:=q) ((Below.refl _ w8).alloc (Nat.le_refl _) o) fun _ _ h=>h) ?_)
  exact Kp.trans (hide_store hq) (Kp.trans (hide_store hq) (hide_store hq))
 ·have hbw:=h.bel.trans (hba.mono h.bel.size)
  exact((hbw.setCell (by show _≤w.heap.size+1;omega) _).setCell (by show _≤w.heap.size+1;omega) _).setCell (by show _≤w.heap.size+1;omega) _
set_option maxHeartbeats 16000000 in
set_option maxRecDepth 100000 in
theorem both_any (p:Nat→Bool) (n0:NfaD) (rest:List NfaD) (k0:Nat) (ks:List Nat) (h0:RegN k0 n0) (hreg:RegL ks rest) (hK:k0+ks.sum≤1000000) (a:Option Addr) (c:Nat) (w:World) (hG:Glob w) (hp:∀ j,p j=true→j < w.heap.size) (hL:nfE.In (World.hide w p) (n0::rest) a c) :
  Calls Tryz.prog 87 #[.slice a (rest.length+1) c] w (NfaRet p (allN n0 rest) w):=by
 obtain⟨b,off,rfl⟩:=hL.addr.resolve_left (by simp)
 obtain⟨a2,c2,hrun,hR⟩:=rest_nf hL
 obtain⟨x0,g0,g1,g2,hx0⟩:=nfE_get hL rfl (i:=0) (by simp)
 simp only[List.getElem_cons_zero,Nat.zero_mul,Nat.add_zero] at g0 g1 g2 hx0
 have e0:=hide_cell _ _ g0
 have e1:=hide_cell _ _ g1
 have e2:=hide_cell _ _ g2
 have HX0:=Lib.hid hx0
 have HR:=Lib.hid hR
 have hlr:=hR.len
 have HRA:Hid (rest.length=0∨∃ b off,a2=some ⟨b,off,none⟩):=hR.addr
 have HG:=Lib.hid hG
 have Hp:=Lib.hid hp
 have H0:=Lib.hid h0
 have HRg:=Lib.hid hreg
 have HKK:=Lib.hid hK
 have HNo:Hid (∀ W,allN n0 rest=none→Below w.heap.size w W→NfaRet p (allN n0 rest) w (.returned (.tuple #[.agg #[.int .i64 0,.slice none 0 0,.slice none 0 0],.int .i64 2])) W):=fun W h hb=>by rw[h];exact NfaRet.no hb
 have HYes:Hid (∀ W m x,allN n0 rest=some m→NfaIn (World.hide W p) m x→Below w.heap.size w W→NfaRet p (allN n0 rest) w (.returned (.tuple #[.agg #[.int .i64 m.states,.slice x.ae m.edges.length x.ce,.slice x.aa m.accept.length x.ca],.int .i64 0])) W):=fun W m x h h1 hb=>by rw[h];exact NfaRet.yes h1 hb
 generalize NfaRet p (allN n0 rest) w=Po at HNo HYes⊢
 have E0:∀ o,(w.alloc o).cell? ⟨b,off,none⟩=some (.int .i64 n0.states):=fun o=>Lib.cell?_alloc_some _ e0
 have E1:∀ o,(w.alloc o).cell? ⟨b,off+1,none⟩=some (.slice x0.ae n0.edges.length x0.ce):=fun o=>Lib.cell?_alloc_some _ e1
 have E2:∀ o,(w.alloc o).cell? ⟨b,off+2,none⟩=some (.slice x0.aa n0.accept.length x0.ca):=fun o=>Lib.cell?_alloc_some _ e2
 clear g0 g1 g2 hx0 hL hR hG hp h0 hreg hK
 obtain⟨N1,hN1⟩:∃ N1,rest.length+1=N1:=⟨_,rfl⟩
 rw[hN1] at hrun⊢
 have hN0:0 < N1:=by omega
 have hN0i:(0:Int) < (N1:Int):=by omega
 clear hN1
 go_enter Tryz.func87, Tryz.ntmps87
 go_wp2_with fail
 generalize hW2:World.alloc (World.alloc w _) _=W2
 have hB2:Below w.heap.size w W2:=by rw[← hW2];exact((Below.refl _ _).alloc (Nat.le_refl _) _).alloc (by simp) _
 obtain⟨q,hq⟩:∃ q:Nat→Bool,(fun j=>p j || (j == w.heap.size) || (j == w.heap.size+1))=q:=⟨_,rfl⟩
 have Q:Hid (∀ j,q j=true↔p j=true∨j=w.heap.size∨j=w.heap.size+1):=fun j=>by rw[← hq];simp[or_assoc]
 have HKq:Hid (∀ W,Below w.heap.size w W→Kp (World.hide w p) (World.hide W q)):=fun W hb=>hide_below hb fun j hj h=>((Q.out j).1 h).elim id fun e=>by omega
 have HS2:Hid (BothSt q n0 rest ks w W2 0 n0 x0 k0):=by
  refine⟨?_,?_,HX0.out.keep (HKq.out _ hB2),H0.out,by simpa using HKK.out,by simp,hB2,by rw[← hW2];simp⟩
  ·rw[← hW2];exact hx_oldT (hx_newT rfl)
  ·rw[← hW2];exact hx_newT (by simp)
 clear hW2 hq hB2 e0 e1 e2 E0 E1 E2
 go_loopw [16,6,7,8,9] (fun i _ _ _ _ wr=>∃ (m:Nat) (cur:NfaD) (x:NfaA) (K:Nat),i=.int .i64 m∧m≤rest.length∧Hid (BothSt q n0 rest ks w wr m cur x K)) (fun i _ _ _ _ _=>rest.length - (intOf i).toNat)
 case atStart=>exact⟨0,n0,x0,k0,rfl,Nat.zero_le _,HS2⟩
 case round =>
  (try rename World=>wr)
  obtain⟨m,cur,x,K,rfl,hm,HS⟩:=hrel
  have hzr:=HS.out.sz
  by_cases hlt:m < rest.length
  ·obtain⟨bf,of,hfa⟩:=HRA.out.resolve_left (by omega)
   subst hfa
   obtain⟨ay,g0,g1,g2,hy⟩:=nfE_get (HR.out.keep (HKq.out wr HS.out.bel)) rfl hlt
   have f0:=hide_cell _ _ g0
   have f1:=hide_cell _ _ g1
   have f2:=hide_cell _ _ g2
   obtain⟨ky,hky,hks⟩:=regL_at HRg.out m hlt
   have HY:=Lib.hid hy
   have HKy:=Lib.hid hky
   have HKs:=Lib.hid hks
   have HEq:Hid (∀ r,andN cur (rest[m]'hlt)=r→allN n0 rest=match r with | some k=>allN k (rest.drop (m+1)) | none=>none):=fun r hr=>by
    rw[HS.out.eq,List.drop_eq_getElem_cons hlt,allN,hr];cases r<;>rfl
   clear g0 g1 g2 hy hky hks
   generalize (rest[m]'hlt)=y at f0 f1 f2 HY HKy HEq
   obtain⟨⟨r0,r1,r2⟩,-⟩:=box3A HS.out.blk1
   go_upto_region 6 with fail
   generalize hW5:World.alloc (World.alloc wr _) _=W5
   have hB5:Below wr.heap.size wr W5:=by rw[← hW5];exact((Below.refl _ _).alloc (Nat.le_refl _) _).alloc (by simp) _
   have hy5:W5.heap[wr.heap.size]? = some (NfBox y ay):=by rw[← hW5];exact hx_oldT (hx_newT rfl)
   have hk5:W5.heap[wr.heap.size+1]? = some (.cells #[.int .i64 0,.slice none 0 0,.slice none 0 0,.bool false] 134 (0,0)):=by rw[← hW5];exact hx_newT (by simp)
   have hn5:W5.heap[w.heap.size+1]? = some (NfBox cur x):=(hB5.block _ (by omega)).trans HS.out.blk1
   obtain⟨y0,y1,y2⟩:=cell3T hy5
   obtain⟨x0',x1',x2'⟩:=cell3T hn5
   have HQl:Hid (∀ j,q j=true→j < wr.heap.size):=fun j hj=>by
    rcases (Q.out j).1 hj with h | h
    ·have:=Hp.out j h;omega
    ·omega
   have HAnd:=Lib.hid (and_any (p:=q) (k:=wr.heap.size+1) (w0:=wr) (w:=W5) (by omega) hk5 hB5 HQl.out cur y x ay HS.out.reg HKy.out (by have:=HS.out.sum;have:=HKs.out;omega) HS.out.nin HY.out)
   have HSm:Hid (∀ m,SmallN (jointN (andAt cur y m))):=fun m=>jointN_sm (ok_smallN HS.out.reg.ok) (ok_smallN HKy.out.ok) m
   have HReg:Hid (∀ n',andN cur y=some n'→RegN (K+ky) n'):=fun n' h=>and_reg HS.out.reg HKy.out h
   simp only[nfaVal_eq] at HAnd
   have HB5:=Lib.hid hB5
   clear hW5 hB5 hy5 hk5 hn5 f0 f1 f2 r0 r1 r2
   go_wp2_with fail
   refine HAnd.out.mono ?_
   rintro e w7 ⟨mm,⟨rfl,q7,ve,aa,ca,hq7,hB7,hA7⟩,hd7⟩
   have HG7:Hid (Glob w7):=HG.out.below (HS.out.bel.trans (hB7.bel.mono HS.out.bel.size))
   have HB7:=Lib.hid hB7.bel
   have HD:Hid (Calls Tryz.prog 90 #[.pointer (some ⟨wr.heap.size+1,0,none⟩)] w7 (NfaRet q (andN cur y) w7)):=by
    have h:=done_any hB7 hq7 HQl.out hA7 HG7.out (HSm.out mm)
    show Calls _ _ _ _ _
    rw[← hd7]
    exact h
   clear hq7 hB7 hA7 hd7 HSm HAnd y0 y1 y2 x0' x1' x2'
   cases hr:andN cur y with
   | none =>
    have HN:Hid (allN n0 rest=none):=HEq.out none hr
    rw[hr] at HD
    clear HEq HReg hr
    go_wp2_with fail
    refine HD.out.mono ?_
    intro e w8 h8
    obtain⟨rfl,hb8⟩:=h8.outNo
    have HB8:Hid (Below wr.heap.size wr w8):=HB7.out.trans (hb8.mono HB7.out.size)
    have hz8:=HB8.out.size
    have hbx8:w8.heap[w.heap.size]? = some NfBox0:=(HB8.out.block _ (by omega)).trans HS.out.blk0
    obtain⟨⟨c0,c1,c2⟩,⟨d0,d1,d2⟩⟩:=box3A hbx8
    have HBx8:=Lib.hid hbx8
    clear h8 hb8 hbx8
    go_wp2_with fail
    refine bodyPost_ret (v:=.tuple #[.agg #[.int .i64 0,.slice none 0 0,.slice none 0 0],.int .i64 2]) (nfa_res _ rfl _ _ w.heap.size _ _ _ _ (set3 (hx_oldT HBx8.out)) rfl rfl) rfl ?_
    have hbw:=HS.out.bel.trans (HB8.out.mono HS.out.bel.size)
    exact HNo.out _ HN.out ((((hbw.alloc (by omega) _).setCell (Nat.le_refl _) _).setCell (Nat.le_refl _) _).setCell (Nat.le_refl _) _)
   | some n' =>
    have HE':Hid (allN n0 rest=allN n' (rest.drop (m+1))):=HEq.out _ hr
    have HR':=Lib.hid (HReg.out _ hr)
    rw[hr] at HD
    clear HEq HReg hr
    go_wp2_with fail
    refine HD.out.mono ?_
    intro e w8 h8
    obtain⟨x',rfl,hn8,hb8⟩:=h8.outYes
    have HB8:Hid (Below wr.heap.size wr w8):=HB7.out.trans (hb8.mono HB7.out.size)
    have HN8:=Lib.hid hn8
    have hz8:=HB8.out.size
    have hbx8:w8.heap[w.heap.size+1]? = some (NfBox cur x):=(HB8.out.block _ (by omega)).trans HS.out.blk1
    obtain⟨⟨c0,c1,c2⟩,⟨d0,d1,d2⟩⟩:=box3A hbx8
    have HNx:Hid (∀ o,BothSt q n0 rest ks w ((((w8.alloc o).setCell ⟨w.heap.size+1,0,none⟩ (.int .i64 n'.states)).setCell ⟨w.heap.size+1,1,none⟩ (.slice x'.ae n'.edges.length x'.ce)).setCell ⟨w.heap.size+1,2,none⟩ (.slice x'.aa n'.accept.length x'.ca)) (m+1) n' x' (K+ky)):=fun o=>HS.out.next HB8.out HKs.out HR'.out HE'.out hn8 ((Q.out _).2 (Or.inr (Or.inr rfl))) HQl.out o
    clear h8 hb8 hn8 hbx8
    go_wp2_with fail
    go_roundw
    case rel=>exact⟨m+1,n',x',K+ky,by go_num,by omega,HNx.out _⟩
    case measure=>(simp[intOf];try omega)
  ·obtain rfl:m=rest.length:=by omega
   have HE':Hid (allN n0 rest=some cur):=by
    show _=_
    have:=HS.out.eq
    rwa [List.drop_length] at this
   obtain⟨c0,c1,c2⟩:=cell3T HS.out.blk1
   have hb0:wr.heap[w.heap.size]? = some (.cells #[.int .i64 0,.slice none 0 0,.slice none 0 0] 33 (0,0)):=HS.out.blk0
   obtain⟨e0,e1,e2⟩:=cell3T hb0
   have f0:wr.frozen? ⟨w.heap.size,0,none⟩=false:=by simp[World.frozen?,hb0]
   have f1:wr.frozen? ⟨w.heap.size,1,none⟩=false:=by simp[World.frozen?,hb0]
   have f2:wr.frozen? ⟨w.heap.size,2,none⟩=false:=by simp[World.frozen?,hb0]
   have HB0:=Lib.hid hb0
   clear hb0
   go_wp2_with fail
   refine bodyPost_ret (v:=.tuple #[.agg #[.int .i64 cur.states,.slice x.ae cur.edges.length x.ce,.slice x.aa cur.accept.length x.ca],.int .i64 0]) (nfa_res _ rfl _ _ w.heap.size _ _ _ _ (set3 HB0.out) rfl rfl) rfl ?_
   have hqb:q w.heap.size=true:=(Q.out _).2 (Or.inr (Or.inl rfl))
   refine HYes.out _ cur x HE'.out ?_ (((HS.out.bel.setCell (Nat.le_refl _) _).setCell (Nat.le_refl _) _).setCell (Nat.le_refl _) _)
   exact HS.out.nin.keep (Kp.trans (hide_store hqb) (Kp.trans (hide_store hqb) (Kp.trans (hide_store hqb) (hide_mono fun j hj=>(Q.out j).2 (Or.inl hj)))))
end Go.Proofs.YthojpomoflhbcaaGreatDoor
