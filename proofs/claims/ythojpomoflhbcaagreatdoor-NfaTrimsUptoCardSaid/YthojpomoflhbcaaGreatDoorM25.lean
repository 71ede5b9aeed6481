/- nfa.Start. -/
import Derived.Test.YthojpomoflhbcaaGreatDoorM24
import Derived.Test.YthojpomoflhbcaaGreatDoorM14
import Derived.Test.YthojpomoflhbcaaGreatDoorM15
import Derived.Test.YthojpomoflhbcaaGreatDoorM08
import Derived.Deep.LoopGhost
import Derived.OneCell
import Derived.Test.YthojpomoflhbcaaGreatDoorM09
set_option linter.unusedSimpArgs false
set_option linter.unusedVariables false
set_option linter.unnecessarySimpa false
namespace Go.Proofs.YthojpomoflhbcaaGreatDoor
open Go.RowKit
attribute [local go_sem ↓] Go.wp_at_zero Go.wp_at_succ
theorem startL_asc:∀ l:List Sg,ascS (startL l)∧(startL l).length≤l.length
 | []=>⟨List.Pairwise.nil,by simp[startL]⟩
 | x::r=>by
  obtain⟨h1,h2⟩:=startL_asc r
  have e:startL (x::r)=putS (startL r) x.1 (wrapW x.2):=rfl
  rw[e]
  have:=putS_len (startL r) x.1 (wrapW x.2)
  exact⟨putS_asc h1,by rw[List.length_cons];omega⟩
def ThRet (p:Nat→Bool) (r:List ThrD) (w:World) (e:Ending) (w':World):Prop:=(∃ a c,e=.returned (.slice a r.length c)∧thE.In (World.hide w' p) r a c)∧Below w.heap.size w w'
set_option maxHeartbeats 8000000 in
set_option maxRecDepth 100000 in
theorem start_any (p:Nat→Bool) (env:List Sg) (ae:Option Addr) (ce:Nat) (w:World) (hp:∀ j,p j=true→j < w.heap.size) (hE:sgE.In w env ae ce) (he:env.length≤50000) :
  Calls Tryz.prog 22 #[.slice ae env.length ce] w (ThRet p [⟨0,startL env⟩] w):=by
 have HEn:=Lib.hid hE
 have Hp:=Lib.hid hp
 have HEa:Hid (env.length=0∨∃ b off,ae=some ⟨b,off,none⟩):=hE.addr
 have HWi:Hid (∀ k (hk:k < env.length) (q:Nat→Bool) W a c,sgE.In (World.hide W q) (startL (env.drop (k+1))) a c→(∀ j,q j=true→j < W.heap.size)→Calls Tryz.prog 56 #[.slice a (startL (env.drop (k+1))).length c,.string (env[k]'hk).1,.int .i64 (wrapW (env[k]'hk).2)] W (WithPost q (startL (env.drop k)) W)):=fun k hk q W a c h1 h2=>by
  have e:startL (env.drop k)=putS (startL (env.drop (k+1))) (env[k]'hk).1 (wrapW (env[k]'hk).2):=by
   rw[List.drop_eq_getElem_cons hk];rfl
  rw[e]
  obtain⟨h3,h4⟩:=startL_asc (env.drop (k+1))
  rw[List.length_drop] at h4
  exact with_any q _ a c _ _ W h1 h2 h3 (by omega)
 have HLn:Hid (∀ k,(startL (env.drop k)).length≤50000):=fun k=>by
  have:=(startL_asc (env.drop k)).2
  rw[List.length_drop] at this
  omega
 have HLe:startL (env.drop env.length)=[]:=by rw[List.drop_length];rfl
 have HL0:startL (env.drop 0)=startL env:=rfl
 rw[← HL0]
 clear hp hE HL0
 generalize hS:(fun k=>startL (env.drop k))=S at *
 have hSe:∀ k,startL (env.drop k)=S k:=fun k=>by rw[← hS]
 simp only[hSe] at HWi HLn HLe⊢
 clear hSe hS
 have HPo:Hid (∀ W a c,Below w.heap.size w W→thE.In (World.hide W p) [⟨0,S 0⟩] a c→ThRet p [⟨0,S 0⟩] w (.returned (.slice a 1 c)) W):=fun W a c h1 h2=>⟨⟨a,c,rfl,h2⟩,h1⟩
 generalize ThRet p [⟨0,S 0⟩] w=Po at HPo⊢
 go_enter Tryz.func22, Tryz.ntmps22
 go_upto_region 2 with fail
 generalize hW2:World.alloc w _=W2
 have HB2:Hid (Below w.heap.size w W2):=by show Below _ _ _;rw[← hW2];exact(Below.refl _ _).alloc (Nat.le_refl _) _
 have HX2:Hid (W2.heap[w.heap.size]? = some (.cells #[.int .i64 0,.slice none 0 0] 49 (0,0))):=by show _=_;rw[← hW2];exact hx_newT rfl
 have hz2:w.heap.size+1≤W2.heap.size:=by rw[← hW2];simp
 clear hW2
 obtain⟨q,hq⟩:∃ q:Nat→Bool,(fun j=>p j || j == w.heap.size)=q:=⟨_,rfl⟩
 have Q:Hid (∀ j,q j=true↔p j=true∨j=w.heap.size):=fun j=>by rw[← hq];simp
 clear hq
 have HX0:Hid (W2.heap[w.heap.size]? = some (.cells #[.int .i64 0,.slice none (S env.length).length 0] 49 (0,0))):=by show _=_;rw[HLe];exact HX2.out
 have HI0:Hid (sgE.In (World.hide W2 q) (S env.length) none 0):=by show sgE.In _ _ _ _;rw[HLe];exact Enc.In.nil _
 clear HLe
 go_wp2_with fail
 go_loopw [4] (fun i wr=>∃ (k:Nat) (a:Option Addr) (c:Nat),i=.int .i64 ((k:Int) - 1)∧k≤env.length∧Hid (wr.heap[w.heap.size]? = some (.cells #[.int .i64 0,.slice a (S k).length c] 49 (0,0)))∧Hid (sgE.In (World.hide wr q) (S k) a c)∧Hid (Below w.heap.size w wr)) (fun i _=>(intOf i+1).toNat)
 case atStart=>exact⟨env.length,none,0,rfl,Nat.le_refl _,HX0.out,HI0.out,HB2.out⟩
 case round =>
  (try rename World=>wr)
  obtain⟨k,a,c,hi,hk,HX,HI,HB⟩:=hrel
  have hzr:=lt_of_block HX.out
  cases k with
  | zero =>
   rw[show (((0:Nat):Int) - 1)=-1 by omega] at hi
   subst hi
   obtain⟨x0,x1,-⟩:=cell2H HX.out
   go_wp2_with fail
   have hI9:thE.In (World.hide (wr.alloc (.cells #[.int .i64 0,.slice a (S 0).length c] 49)) p) [⟨0,S 0⟩] (some ⟨wr.heap.size,0,none⟩) 1:=by
    have hb:Below wr.heap.size wr (wr.alloc (.cells #[.int .i64 0,.slice a (S 0).length c] 49)):=(Below.refl _ _).alloc (Nat.le_refl _) _
    refine(Enc.Vals.one (E:=thE) (x:=⟨0,S 0⟩) (vs:=[.int .i64 0,.slice a (S 0).length c]) ⟨a,c,rfl,(sgE_in.1 HI.out).keep (hide_below hb fun j _ hj=>(Q.out j).2 (Or.inl hj))⟩).in (fun j u hj=>?_) (by simp) (by simp)
    refine cell_hide.2 ⟨?_,?_⟩
    ·show p wr.heap.size=false
     cases hq:p wr.heap.size with
     | false=>rfl
     | true=>have:=Hp.out _ hq;omega
    ·rw[cell_of_blkT (hx_newT rfl)]
     simpa using hj
   have HE1:=Lib.hid (HPo.out _ _ _ (HB.out.alloc HB.out.size _) hI9)
   first | exact HE1.out | (go_ret2;exact HE1.out)
  | succ k =>
   rw[show (((k+1:Nat):Int) - 1)=(k:Int) by omega] at hi
   subst hi
   have hltk:k < env.length:=by omega
   have hltI:(k:Int) < (env.length:Int):=by omega
   obtain⟨bE,oE,hEa⟩:=HEa.out.resolve_left (by omega)
   subst hEa
   obtain⟨g0,g1⟩:=sgE_get (sgE_in.1 (HEn.out.keep (keeps_of_below HB.out))) rfl hltk
   have HW1:=fun q W a c h1 h2=>HWi.out k hltk q W a c h1 h2
   generalize (env[k]'hltk)=y at HW1 g0 g1
   obtain⟨nm,yv⟩:=y
   simp only at HW1 g0 g1
   have HQl:Hid (∀ W:World,wr.heap.size≤W.heap.size→∀ j,q j=true→j < W.heap.size):=fun W hW j hj=>by
    rcases (Q.out j).1 hj with h | h
    ·have:=Hp.out j h;omega
    ·omega
   have HW5:Hid (∀ W,Below wr.heap.size wr W→Calls Tryz.prog 56 #[.slice a (S (k+1)).length c,.string nm,.int .i64 (wrapW yv)] W fun e w'=>(∃ a c,e=.returned (.slice a (S k).length c)∧sgE.In (World.hide w' q) (S k) a c)∧Below wr.heap.size wr w'):=fun W hW=>(HW1 q W a c (HI.out.keep (hide_below hW fun _ _ h=>h)) (HQl.out W hW.size)).mono fun e w' ⟨⟨v,h1,h2⟩,h3⟩=>by
    obtain⟨a,c,rfl,h6⟩:=sg_own_in h2 (by have:=HLn.out k;omega)
    exact⟨⟨a,c,h1,h6 q fun j hj _=>by
     cases hqk:q j with
     | false=>rfl
     | true=>have:=HQl.out W hW.size j hqk;omega⟩,hW.trans (h3.mono hW.size)⟩
   have HZb:Hid (∀ W,Below wr.heap.size wr W→W.heap[w.heap.size]? = some (.cells #[.int .i64 0,.slice a (S (k+1)).length c] 49 (0,0))):=fun W hW=>(hW.block _ hzr).trans HX.out
   have HWr:Hid (∀ W,Calls Tryz.prog 57 #[.int .i64 yv] W fun e w'=>e=.returned (.int .i64 (wrapW yv))∧w'=W):=fun W=>(WWrap_any yv W).mono fun e w' h=>⟨h.1,h.2.symm⟩
   obtain⟨-,x1,xf⟩:=cell2H HX.out
   have xf1:=xf 1
   generalize wrapW yv=wv at HWr HW5
   clear HW1 xf
   go_upto_region 5 with fail
   go_region_law (first
    | (go_simp;go_at_call 57;(with_reducible refine(HWr.out _).mono ?_);rintro e v1 ⟨rfl,rfl⟩)
    | (go_simp;go_at_call 56;(with_reducible refine(HW5.out _ (by first | with_reducible assumption | exact belR)).mono ?_);rintro e v2 ⟨⟨a2,c2,rfl,hin2⟩,hB2⟩;obtain⟨-,l1,lf⟩:=cell2H (HZb.out _ hB2);have lf1:=lf 1;have HIn2:=Lib.hid hin2;have HB2v:=Lib.hid hB2;clear hin2 hB2 lf))
   all_goals
    have HK9:Hid ((v2.setCell ⟨w.heap.size,1,none⟩ (.slice a2 (S k).length c2)).heap[w.heap.size]? = some (.cells #[.int .i64 0,.slice a2 (S k).length c2] 49 (0,0))):=by
     show _=_
     rw[heap_setCell_same v2 w.heap.size 1 _ _ _ (HZb.out v2 HB2v.out)];rfl
    have HI9:Hid (sgE.In (World.hide (v2.setCell ⟨w.heap.size,1,none⟩ (.slice a2 (S k).length c2)) q) (S k) a2 c2):=HIn2.out.keep (hide_store ((Q.out w.heap.size).2 (Or.inr rfl)))
    have HB9:Hid (Below w.heap.size w (v2.setCell ⟨w.heap.size,1,none⟩ (.slice a2 (S k).length c2))):=(HB.out.trans (HB2v.out.mono HB.out.size)).setCell (Nat.le_refl _) _
    go_wp2_with fail
    go_roundw
    case rel=>exact⟨k,a2,c2,by go_num,by omega,HK9.out,HI9.out,HB9.out⟩
    case measure=>(simp[intOf];try omega)
end Go.Proofs.YthojpomoflhbcaaGreatDoor
namespace Go.Proofs.YthojpomoflhbcaaGreatDoor
open Go.RowKit
attribute [local go_sem ↓] Go.wp_at_zero Go.wp_at_succ
set_option maxHeartbeats 8000000 in
set_option maxRecDepth 100000 in
theorem accepting_any (p:Nat→Bool) (n:NfaD) (x:NfaA) (l:List ThrD) (al:Option Addr) (cl:Nat) (w:World) (hp:∀ j,p j=true→j < w.heap.size) (hN:NfaIn w n x) (hL:thE.In w l al cl) (hlt:∀ t∈l,t.env.length≤50000) (hll:l.length≤100000000) :
  Calls Tryz.prog 25 #[nfaVal n x,.slice al l.length cl] w (ThRet p (acceptS n l) w):=by
 have HCo:Hid (∀ W,Below w.heap.size w W→∀ s,Calls Tryz.prog 60 #[.slice x.aa n.accept.length x.ca,.int .i64 s] W fun e w'=>e=.returned (.bool (n.accept.contains s))∧w'=W):=fun W hW s=>contI_any _ _ _ _ W (hN.ac.keep (keeps_of_below hW))
 have HLs:=Lib.hid hL
 have Hp:=Lib.hid hp
 have HLa:Hid (l.length=0∨∃ b off,al=some ⟨b,off,none⟩):=hL.addr
 have HLt:=Lib.hid hlt
 obtain⟨A,hA⟩:∃ A:Nat→List ThrD,A=fun k=>(l.take k).filter fun t=>n.accept.contains t.state:=⟨_,rfl⟩
 have HA0:Hid (A 0=[]):=by show _=_;rw[hA];simp
 have HAl:Hid (∀ k,k≤l.length→(A k).length≤k):=fun k hk=>by
  rw[hA]
  exact Nat.le_trans (List.length_filter_le _ _) (by rw[List.length_take];omega)
 have HAs:Hid (∀ k (hk:k < l.length),A (k+1)=if n.accept.contains (l[k]'hk).state=true then A k++[l[k]'hk] else A k):=fun k hk=>by
  rw[hA]
  simp only[List.take_succ_eq_append_getElem hk,List.filter_append,List.filter_cons,List.filter_nil]
  split<;>simp
 have hAe:acceptS n l=A l.length:=by rw[hA];simp[acceptS]
 rw[hAe]
 have HPo:Hid (∀ W a c,Below w.heap.size w W→thE.In (World.hide W p) (A l.length) a c→ThRet p (A l.length) w (.returned (.slice a (A l.length).length c)) W):=fun W a c h1 h2=>⟨⟨a,c,rfl,h2⟩,h1⟩
 generalize ThRet p (A l.length) w=Po at HPo⊢
 rw[nfaVal_eq]
 clear hp hN hL hlt hA hAe
 obtain⟨xae,xce,xaa,xca⟩:=x
 simp only at HCo⊢
 go_enter Tryz.func25, Tryz.ntmps25
 go_upto_region 1 with fail
 generalize hW2:World.alloc w _=W2
 have HB2:Hid (Below w.heap.size w W2):=by show Below _ _ _;rw[← hW2];exact(Below.refl _ _).alloc (Nat.le_refl _) _
 have HX2:Hid (W2.heap[w.heap.size]? = some (.cells #[.int .i64 n.states,.slice xae n.edges.length xce,.slice xaa n.accept.length xca] 33 (0,0))):=by show _=_;rw[← hW2];exact hx_newT rfl
 clear hW2
 have HO2:Hid (thE.Own 49 p W2 (w.heap.size+1) (.slice none 0 0) (A 0)):=by show thE.Own _ _ _ _ _ _;rw[HA0.out];exact Enc.Own.nil _ _ _ _ _
 go_wp2_with fail
 go_loopw [10,5,7] (fun i o _ wr=>∃ k:Nat,i=.int .i64 k∧k≤l.length∧Hid (thE.Own 49 p wr (w.heap.size+1) o (A k))∧Hid (wr.heap[w.heap.size]? = some (.cells #[.int .i64 n.states,.slice xae n.edges.length xce,.slice xaa n.accept.length xca] 33 (0,0)))∧Hid (Below w.heap.size w wr)) (fun i _ _ _=>l.length - (intOf i).toNat)
 case atStart=>exact⟨0,rfl,Nat.zero_le _,HO2.out,HX2.out,HB2.out⟩
 case round =>
  (try rename World=>wr)
  obtain⟨k,rfl,hk,HO,HX,HB⟩:=hrel
  have hzr:=lt_of_block HX.out
  have hAk:=HAl.out k hk
  obtain⟨ao,co,hov,hin⟩:=HO.out.sliceP (by omega) (fun j hj=>by
   cases hq:p j with
   | false=>rfl
   | true=>have:=Hp.out _ hq;omega)
  subst hov
  by_cases hltk:k < l.length
  ·obtain⟨bl,ol,hla⟩:=HLa.out.resolve_left (by omega)
   subst hla
   obtain⟨ta,tc,g0w,g1w,ht⟩:=thE_get HLs.out rfl hltk
   have g0:=keeps_of_below HB.out _ _ g0w
   have g1:=keeps_of_below HB.out _ _ g1w
   have hlen:=HLt.out _ (List.getElem_mem hltk)
   have HS1:=Lib.hid (HAs.out k hltk)
   generalize (l[k]'hltk)=t at HS1 g0 g1 ht hlen
   have HT:=Lib.hid ht
   clear g0w g1w ht hin
   go_upto_region 5 with fail
   generalize hW5:World.alloc wr _=W5
   have hB5:Below wr.heap.size wr W5:=by rw[← hW5];exact(Below.refl _ _).alloc (Nat.le_refl _) _
   have HY5:Hid (W5.heap[wr.heap.size]? = some (.cells #[.int .i64 t.state,.slice ta t.env.length tc] 49 (0,0))):=by show _=_;rw[← hW5];exact hx_newT rfl
   have HX5:Hid (W5.heap[w.heap.size]? = some (.cells #[.int .i64 n.states,.slice xae n.edges.length xce,.slice xaa n.accept.length xca] 33 (0,0))):=(hB5.block _ hzr).trans HX.out
   have HBw5:Hid (Below w.heap.size w W5):=HB.out.trans (hB5.mono HB.out.size)
   have HO5:Hid (thE.Own 49 p W5 (w.heap.size+1) (.slice ao (A k).length co) (A k)):=HO.out.below hB5
   have HVo:Hid (∀ j,(Value.slice ao (A k).length co).ownBlock=some j→w.heap.size+1≤j∧j < W5.heap.size):=own_vlt HO5.out
   have hs5:=HBw5.out.size
   have hs6:=lt_of_block HX5.out
   have HC5:=Lib.hid (HCo.out W5 HBw5.out t.state)
   obtain⟨-,-,x2⟩:=cell3T HX5.out
   obtain⟨y0,y1,-⟩:=cell2H HY5.out
   clear hW5 hB5 g0 g1 HO HX HB
   generalize n.accept.contains t.state=ct at HC5 HS1
   cases ct with
   | false =>
    have HO9:Hid (thE.Own 49 p W5 (w.heap.size+1) (.slice ao (A k).length co) (A (k+1))):=by show thE.Own _ _ _ _ _ _;rw[HS1.out];exact HO5.out
    go_wp2_with (go_at_call 60;go_must (refine HC5.out.mono ?_;rintro e w6 ⟨rfl,rfl⟩))
    go_roundw
    case rel=>exact⟨k+1,by go_num,by omega,HO9.out,HX5.out,HBw5.out⟩
    case measure=>(simp[intOf];try omega)
   | true =>
    have HS2:Hid (A (k+1)=A k++[t]):=HS1.out
    have HCl:Hid (∀ W,Below W5.heap.size W5 W→Calls Tryz.prog 61 #[.slice ta t.env.length tc] W fun e w'=>(∃ a c,e=.returned (.slice a t.env.length c)∧sgE.In (World.hide w' (hid p (.slice ao (A k).length co))) t.env a c)∧Below W.heap.size W w'∧Below W5.heap.size W5 w'):=fun W hW=>(cloneSG noneT t.env ta tc W (((sgE_in.2 HT.out).keep (keeps_of_below (HBw5.out.trans (hW.mono HBw5.out.size)))).keep hide_noneT)).mono fun e w' ⟨⟨v,h1,h2⟩,h3⟩=>by
     obtain⟨a,c,rfl,h6⟩:=sg_own_in h2 (by omega)
     refine⟨⟨a,c,h1,h6 _ fun j hj _=>?_⟩,h3,hW.trans (h3.mono hW.size)⟩
     have:=hW.size
     cases hq:hid p (.slice ao (A k).length co) j with
     | false=>rfl
     | true =>
      rcases hid_true.1 hq with h | h
      ·have:=Hp.out _ h;omega
      ·have:=(HVo.out _ h).2;omega
    have HZ2:Hid (∀ W,Below W5.heap.size W5 W→W.cell? ⟨wr.heap.size,0,none⟩=some (.int .i64 t.state)∧W.cell? ⟨wr.heap.size,1,none⟩=some (.slice ta t.env.length tc)):=fun W hW=>⟨keeps_of_below hW _ _ y0,keeps_of_below hW _ _ y1⟩
    have HRx:Hid (∀ v1 W a1 c1,sgE.In (World.hide v1 (hid p (.slice ao (A k).length co))) t.env a1 c1→Below v1.heap.size v1 W→thE.R (World.hide W (hid p (.slice ao (A k).length co))) t [.int .i64 t.state,.slice a1 t.env.length c1]):=fun v1 W a1 c1 h1 h2=>⟨a1,c1,rfl,(sgE_in.1 h1).keep (hide_below h2 fun _ _ h=>h)⟩
    go_upto_region 6 with (go_at_call 60;go_must (refine HC5.out.mono ?_;rintro e w6 ⟨rfl,h6⟩;have h7:=h6.symm;clear h6;subst h7))
    go_region_law (first
     | (go_simp;go_at_call 61;(with_reducible refine(HCl.out _ (by first | with_reducible assumption | exact belR)).mono ?_);rintro e v1 ⟨⟨a1,k1,rfl,hc1⟩,hb1,hB1⟩;have hs1:=hB1.size;have HC1:=Lib.hid hc1;obtain⟨j0,j1⟩:=HZ2.out _ hB1;have J0:=fun o=>Lib.cell?_alloc_some o j0;clear hc1)
     | (refine step_addE (E:=thE) elemTH (by rfl) _ _ (by rfl) p (w.heap.size+1) (.slice ao (A k).length co) (by rfl) (HO5.out.below (by first | exact Below.refl _ _ | exact belR)) t [.int .i64 t.state,.slice a1 t.env.length k1] (HRx.out _ _ _ _ HC1.out (by first | with_reducible assumption | exact belR)) _ 1 (by rfl) (by first | exact heap_alloc_new' _ _ | exact hbT hb1 (hx_newT rfl)) (A k).length (by rfl) (by omega) (by first | omega | (simp;omega)) _ rfl ?_;intro gg gcap wg hownG hgrow hatG hltG))
    all_goals
     have HA9:Hid (Below W5.heap.size W5 (v1.alloc (.cells #[.int .i64 t.state,.slice a1 t.env.length k1] 49))):=by show Below _ _ _;first | with_reducible assumption | exact belR
     have HO9:Hid (thE.Own 49 p wg (w.heap.size+1) (.slice (some ⟨gg,0,none⟩) ((A k).length+1) gcap) (A (k+1))):=by show thE.Own _ _ _ _ _ _;rw[HS2.out];exact hownG
     have HX9:Hid (wg.heap[w.heap.size]? = some (.cells #[.int .i64 n.states,.slice xae n.edges.length xce,.slice xaa n.accept.length xca] 33 (0,0))):=(hgrow.block _ (by simp;omega) (fun e'=>by have:=(HVo.out _ e'.symm).1;omega)).trans ((HA9.out.block _ hs6).trans HX5.out)
     have HB9:Hid (Below w.heap.size w wg):=below_growF (HBw5.out.trans (HA9.out.mono hs5)) hgrow fun j hj=>by have:=(HVo.out j hj).1;omega
     clear hownG hgrow hatG hltG
     go_wp2_with fail
     go_roundw
     case rel=>exact⟨k+1,by go_num,by omega,HO9.out,HX9.out,HB9.out⟩
     case measure=>(simp[intOf];try omega)
  ·obtain rfl:k=l.length:=by omega
   have HE1:=Lib.hid (HPo.out _ _ _ HB.out hin)
   go_wp2_with fail
   first | exact HE1.out | (go_ret2;exact HE1.out)
end Go.Proofs.YthojpomoflhbcaaGreatDoor
namespace Go.Proofs.YthojpomoflhbcaaGreatDoor
open Go.RowKit
section
variable {α : Type} (f : α → Int) (y : α)
def genL:List α→List α
 | []=>[y]
 | x::r=>if f x < 0 then x::genL r else if f x=0 then y::r else y::x::r
def dnG (l:List α) (k:Nat):Bool:=(l.take k).any fun x=>!decide (f x < 0)
def atG (l:List α) (k:Nat):List α:=if dnG f l k=true then genL f y (l.take k) else l.take k
variable {f y}
theorem genL_before {a b:List α} (h:∀ x∈a,f x < 0):genL f y (a++b)=a++genL f y b:=by
 induction a with
 | nil=>rfl
 | cons x a ih =>
  rw[List.cons_append,genL,if_pos (h x (List.mem_cons_self ..)),ih fun z hz=>h z (List.mem_cons_of_mem _ hz)];rfl
theorem genL_behind {a b:List α} (h:∃ x∈a,¬ f x < 0):genL f y (a++b)=genL f y a++b:=by
 induction a with
 | nil=>obtain⟨x,hx,_⟩:=h;cases hx
 | cons x a ih =>
  rw[List.cons_append,genL,genL]
  by_cases h1:f x < 0
  ·rw[if_pos h1,if_pos h1,ih]
   ·rfl
   ·obtain⟨z,hz,h2⟩:=h
    rcases List.mem_cons.1 hz with rfl | hz
    ·exact absurd h1 h2
    ·exact⟨z,hz,h2⟩
  ·rw[if_neg h1,if_neg h1]
   by_cases h2:f x=0
   ·rw[if_pos h2,if_pos h2];rfl
   ·rw[if_neg h2,if_neg h2];rfl
theorem dnG_true {l:List α} {k:Nat}:dnG f l k=true↔∃ x∈l.take k,¬ f x < 0:=by
 unfold dnG;simp
theorem dnG_false {l:List α} {k:Nat} (h:dnG f l k=false):∀ x∈l.take k,f x < 0:=fun x hx=>by
 by_cases h1:f x < 0
 ·exact h1
 ·have:=dnG_true.2 ⟨x,hx,h1⟩
  rw[h] at this;cases this
theorem dnG_zero (l:List α):dnG f l 0=false:=by unfold dnG;simp
theorem atG_zero (l:List α):atG f y l 0=[]:=by unfold atG;rw[dnG_zero];simp
def MonG (f:α→Int) (l:List α):Prop:=∀ i j (hi:i < l.length) (hj:j < l.length),i < j→¬ f (l[i]'hi) < 0→0 < f (l[j]'hj)
theorem stepG {l:List α} (hm:MonG f l) {k:Nat} (hk:k < l.length) :
  (dnG f l k=false→f (l[k]'hk) < 0→dnG f l (k+1)=false∧atG f y l (k+1)=atG f y l k++[l[k]'hk]) ∧
  (dnG f l k=false→f (l[k]'hk)=0→dnG f l (k+1)=true∧atG f y l (k+1)=atG f y l k++[y]) ∧
  (dnG f l k=false→0 < f (l[k]'hk)→dnG f l (k+1)=true∧atG f y l (k+1)=atG f y l k++[y]++[l[k]'hk]) ∧
  (dnG f l k=true→0 < f (l[k]'hk)∧dnG f l (k+1)=true∧atG f y l (k+1)=atG f y l k++[l[k]'hk]):=by
 have e:l.take (k+1)=l.take k++[l[k]'hk]:=List.take_succ_eq_append_getElem hk
 have hd:dnG f l (k+1)=(dnG f l k || !decide (f (l[k]'hk) < 0)):=by unfold dnG;rw[e,List.any_append];simp
 refine⟨fun h1 h2=>?_,fun h1 h2=>?_,fun h1 h2=>?_,fun h1=>?_⟩
 ·have hd2:dnG f l (k+1)=false:=by rw[hd,h1];simp[h2]
  refine⟨hd2,?_⟩
  unfold atG;rw[hd2,h1];simp only[Bool.false_eq_true,if_false];exact e
 ·have hd2:dnG f l (k+1)=true:=by rw[hd];simp[h2]
  refine⟨hd2,?_⟩
  unfold atG;rw[hd2,h1,e,genL_before (dnG_false h1)]
  simp[genL,h2]
 ·have hd2:dnG f l (k+1)=true:=by rw[hd];simp;omega
  refine⟨hd2,?_⟩
  unfold atG;rw[hd2,h1,e,genL_before (dnG_false h1)]
  have h3:¬ f (l[k]'hk) < 0:=by omega
  have h4:¬ f (l[k]'hk)=0:=by omega
  simp[genL,h3,h4]
 ·have hd2:dnG f l (k+1)=true:=by rw[hd,h1];rfl
  obtain⟨x,hx,h3⟩:=dnG_true.1 h1
  refine⟨?_,hd2,?_⟩
  ·obtain⟨i,hi,rfl⟩:=List.getElem_of_mem hx
   rw[List.length_take] at hi
   rw[List.getElem_take] at h3
   exact hm i k (by omega) hk (by omega) h3
  ·unfold atG;rw[hd2,h1,e]
   simp only[if_true]
   exact genL_behind ⟨x,hx,h3⟩
theorem endG {l:List α}:genL f y l=if dnG f l l.length=true then atG f y l l.length else atG f y l l.length++[y]:=by
 by_cases h:dnG f l l.length=true
 ·rw[if_pos h];unfold atG;rw[if_pos h,List.take_length]
 ·have h':dnG f l l.length=false:=by simpa using h
  rw[if_neg h];unfold atG;rw[if_neg h]
  have h2:=dnG_false h'
  rw[List.take_length] at h2⊢
  have:=genL_before (y:=y) (b:=[]) h2
  rwa [List.append_nil] at this
theorem genL_len (l:List α):(genL f y l).length≤l.length+1:=by
 induction l with
 | nil=>simp[genL]
 | cons x r ih=>rw[genL];split<;>(try split)<;>simp<;>omega
theorem atG_len (l:List α) (k:Nat):(atG f y l k).length≤l.length+1:=by
 unfold atG
 split
 ·have:=genL_len (f:=f) (y:=y) (l.take k);rw[List.length_take] at this;omega
 ·rw[List.length_take];omega
end
theorem putS_gen (l:List Sg) (nm:ByteArray) (v:Int):putS l nm v=genL (fun x:Sg=>cmpB x.1 nm) (nm,v) l:=by
 induction l with
 | nil=>rfl
 | cons x r ih=>rw[putS,genL,ih]
theorem insL_gen {α:Type} (c:α→α→Int) (l:List α) (t:α):insL c l t=genL (fun x=>c x t) t l:=by
 induction l with
 | nil=>rfl
 | cons x r ih=>rw[insL,genL,ih]
theorem monS {l:List Sg} {nm:ByteArray} (h:ascS l):MonG (fun x:Sg=>cmpB x.1 nm) l:=fun i j hi hj hij h1=>by
 have h2:=List.pairwise_iff_getElem.1 h i j hi hj hij
 simp only at h1⊢
 rcases Int.lt_trichotomy (cmpB (l[j]'hj).1 nm) 0 with h3 | h3 | h3
 ·exact absurd (cmp3B.trans _ _ _ h2 h3) h1
 ·have e:=(cmp3B.zero _ _).1 h3
  rw[← e] at h1
  exact absurd h2 h1
 ·exact h3
theorem monT {l:List ThrD} {t:ThrD} (h:Asc cmpThr l):MonG (fun x:ThrD=>cmpThr x t) l:=fun i j hi hj hij h1=>by
 have h2:=List.pairwise_iff_getElem.1 h i j hi hj hij
 simp only at h1⊢
 rcases Int.lt_trichotomy (cmpThr (l[j]'hj) t) 0 with h3 | h3 | h3
 ·exact absurd (cmp3Thr.trans _ _ _ h2 h3) h1
 ·have e:=(cmp3Thr.zero _ _).1 h3
  rw[← e] at h1
  exact absurd h2 h1
 ·exact h3
theorem cmpL_at {α:Type} {c:α→α→Int} {l m:List α} {k:Nat} (hl:k < l.length) (hm:k < m.length):cmpL c (l.drop k) (m.drop k)=if c (l[k]'hl) (m[k]'hm)=0 then cmpL c (l.drop (k+1)) (m.drop (k+1)) else c (l[k]'hl) (m[k]'hm):=by
 rw[List.drop_eq_getElem_cons hl,List.drop_eq_getElem_cons hm,cmpL]
theorem cmpL_end {α:Type} {c:α→α→Int} {l m:List α} {k:Nat} (hl:k≤l.length) (hm:k≤m.length) (h:¬ (k < l.length∧k < m.length)):cmpL c (l.drop k) (m.drop k) < 0↔l.length < m.length:=by
 by_cases h1:k < l.length
 ·have h2:k=m.length:=by omega
  rw[List.drop_eq_getElem_cons h1,List.drop_eq_nil_of_le (by omega:m.length≤k),cmpL]
  simp;omega
 ·have h2:k=l.length:=by omega
  rw[h2,List.drop_length]
  by_cases h3:l.length < m.length
  ·rw[List.drop_eq_getElem_cons h3,cmpL];simp;omega
  ·rw[List.drop_eq_nil_of_le (by omega:m.length≤l.length),cmpL];simp;omega
end Go.Proofs.YthojpomoflhbcaaGreatDoor
namespace Go.Proofs.YthojpomoflhbcaaGreatDoor
open Go.RowKit
attribute [local go_sem ↓] Go.wp_at_zero Go.wp_at_succ
def BRow (w:World) (b:Nat) (o:List Bool):Prop:=w.heap[b]? = some (.cells (o.map Value.bool).toArray 4 (0,0))
theorem BRow.cell {w:World} {b:Nat} {o:List Bool} (h:BRow w b o) {i:Nat} (hi:i < o.length):w.cell? ⟨b,i,none⟩=some (.bool (o.getD i false)):=by
 unfold BRow at h
 rw[cell_of_blkT h,List.getElem?_toArray,List.getElem?_map,List.getElem?_eq_getElem hi,List.getD_eq_getElem?_getD,List.getElem?_eq_getElem hi]
 rfl
theorem BRow.free {w:World} {b:Nat} {o:List Bool} (h:BRow w b o) (i:Nat):w.frozen? ⟨b,i,none⟩=false:=by
 unfold BRow at h
 simp[World.frozen?,h]
theorem BRow.set {w:World} {b:Nat} {o:List Bool} (h:BRow w b o) (i:Nat):BRow (w.setCell ⟨b,i,none⟩ (.bool true)) b (o.set i true):=by
 unfold BRow at h⊢
 rw[heap_setCell_same w b i _ _ _ h]
 congr 2
 apply Array.ext'
 simp[List.map_set]
theorem BRow.below {w w':World} {b:Nat} {o:List Bool} (h:BRow w b o) (hb:Below w.heap.size w w'):BRow w' b o:=(hb.block _ (lt_of_block h)).trans h
theorem makeB (n:Nat) (h:n≤1073741824) (w:World):(Instr.makeSlice 110 (.int .i64 n) (.int .i64 n)).run Tryz.prog w=.ok (.slice (some ⟨w.heap.size,0,none⟩) n n) (w.alloc (.cells (Array.replicate n (.bool false)) 4)):=by
 obtain⟨i,h1,h2,h3,h4⟩:=info_parts (show (Tryz.prog.info? 4).map (fun i=>(i.zero,i.size,i.bytes))=some (some (.bool false),1,1) from by kernel_rfl)
 have:=run_make (P:=Tryz.prog) w 110 4 i _ Tryz.underlying110 h1 h2 .i64 .i64 n n (by omega) (by omega) (by rw[h4];omega) (by omega)
 rw[this,h3,show (Value.bool false).cells=#[Value.bool false] from rfl,Int.toNat_natCast,Nat.mul_one,← List.toArray_replicate,← toList_madeCells_one]
def nnP (p:Int × Int):Nat × Nat:=(p.1.toNat,p.2.toNat)
def markTo (st:Nat) (l:List Int) (k:Nat):List Bool:=((l.take k).map Int.toNat).foldl (fun o s=>o.set s true) (List.replicate st false)
theorem markTo_succ (st:Nat) (l:List Int) {k:Nat} (h:k < l.length):markTo st l (k+1)=(markTo st l k).set (l[k]'h).toNat true:=by
 unfold markTo
 rw[List.take_succ_eq_append_getElem h,List.map_append,List.foldl_append];rfl
theorem markTo_all (st:Nat) (l:List Int):markTo st l l.length=markS st (l.map Int.toNat):=by
 unfold markTo markS;rw[List.take_length]
theorem markTo_len (st:Nat) (l:List Int) (k:Nat):(markTo st l k).length=st:=markS_len _ _
theorem prE_get {w:World} {l:List (Int × Int)} {a:Option Addr} {cap:Nat} (h:prE.In w l a cap) {b off:Nat} (ha:a=some ⟨b,off,none⟩) {i:Nat} (hi:i < l.length) :
  w.cell? ⟨b,off+i * 2,none⟩=some (.int .i64 (l[i]'hi).1)∧w.cell? ⟨b,off+i * 2+1,none⟩=some (.int .i64 (l[i]'hi).2):=by
 obtain⟨vs,hv,hc⟩:=h.get ha hi
 have hv':vs=[.int .i64 (l[i]'hi).1,.int .i64 (l[i]'hi).2]:=hv
 subst hv'
 exact⟨hc 0 _ rfl,hc 1 _ rfl⟩
set_option maxHeartbeats 8000000 in
set_option maxRecDepth 100000 in
theorem reached_any (st:Nat) (hst:st≤256) (fr:List Int) (fa:Option Addr) (fc:Nat) (steps:List (Int × Int)) (sa:Option Addr) (sc:Nat) (w:World) (hf:IntsIn w fr fa fc) (hfb:∀ x∈fr,0≤x∧x < (st:Int)) (hs:prE.In w steps sa sc) (hsb:∀ p∈steps,(0≤p.1∧p.1 < (st:Int))∧0≤p.2∧p.2 < (st:Int)) :
  Calls Tryz.prog 70 #[.int .i64 st,.slice fa fr.length fc,.slice sa steps.length sc] w fun e w'=>e=.returned (.slice (some ⟨w.heap.size,0,none⟩) st st)∧BRow w' w.heap.size (closeS (steps.map nnP) (markS st (fr.map Int.toNat)))∧Below w.heap.size w w':=by
 have HF:=Lib.hid hf
 have HS:=Lib.hid hs
 have HFb:=Lib.hid hfb
 have HSb:=Lib.hid hsb
 have hfl:=hf.2.1
 have hsl:=hs.len
 have HFA:Hid (fr.length=0∨∃ b off,fa=some ⟨b,off,none⟩):=SliceIn.addr hf
 have HSA:Hid (steps.length=0∨∃ b off,sa=some ⟨b,off,none⟩):=hs.addr
 have hmk:=makeB st (by omega)
 obtain⟨SP,HSP⟩:∃ SP,Hid (steps.map nnP=SP):=⟨_,rfl⟩
 have HSPl:Hid (SP.length=steps.length):=by show _=_;rw[← HSP.out,List.length_map]
 have HSPg:Hid (∀ k (h:k < steps.length) (h2:k < SP.length),SP[k]'h2=nnP (steps[k]'h)):=fun k h h2=>by simp only[← HSP.out,List.getElem_map]
 rw[HSP.out,← markTo_all]
 clear hf hs hfb hsb HSP
 generalize hPo:(fun (e:Ending) (w':World)=>e=.returned (.slice (some ⟨w.heap.size,0,none⟩) st st)∧BRow w' w.heap.size (closeS SP (markTo st fr fr.length))∧Below w.heap.size w w')=Po
 have HPo:Hid (∀ W,BRow W w.heap.size (closeS SP (markTo st fr fr.length))→Below w.heap.size w W→Po (.returned (.slice (some ⟨w.heap.size,0,none⟩) st st)) W):=fun W h1 h2=>by rw[← hPo];exact⟨rfl,h1,h2⟩
 clear hPo
 go_enter Tryz.func70, Tryz.ntmps70
 go_wp2_with fail
 generalize hW2:World.alloc w _=W2
 have HB2:Hid (Below w.heap.size w W2):=by show Below _ _ _;rw[← hW2];exact(Below.refl _ _).alloc (Nat.le_refl _) _
 have HR2:Hid (BRow W2 w.heap.size (markTo st fr 0)):=by show BRow _ _ _;rw[← hW2];unfold BRow markTo;rw[List.take_zero,List.map_nil,List.foldl_nil,List.map_replicate,List.toArray_replicate];exact hx_newT rfl
 have hz2:=lt_of_block HR2.out
 clear hW2 hmk
 go_loopw [17,9] (fun i _ wr=>∃ k:Nat,i=.int .i64 k∧k≤fr.length∧Hid (BRow wr w.heap.size (markTo st fr k))∧Hid (Below w.heap.size w wr)) (fun i _ _=>fr.length - (intOf i).toNat)
 case atStart=>exact⟨0,rfl,Nat.zero_le _,HR2,HB2⟩
 case round =>
  obtain⟨k,rfl,hk,HR,HBr⟩:=hrel
  have hzr:=HBr.out.size
  by_cases hlt:k < fr.length
  ·obtain⟨bf,of,hfa⟩:=HFA.out.resolve_left (by omega)
   subst hfa
   have g0:=keeps_of_below HBr.out _ _ (HF.out.get rfl hlt)
   rw[List.getD_eq_getElem?_getD,List.getElem?_eq_getElem hlt,Option.getD_some] at g0
   have HMk:Hid (markTo st fr (k+1)=(markTo st fr k).set (fr[k]'hlt).toNat true):=markTo_succ st fr hlt
   obtain⟨x0,x1⟩:=HFb.out _ (List.getElem_mem hlt)
   generalize (fr[k]'hlt)=x at g0 HMk x0 x1
   obtain⟨m,rfl⟩:=Int.eq_ofNat_of_zero_le x0
   rw[Int.toNat_natCast] at HMk
   have hm:m < st:=by omega
   have c0:=HR.out.cell (i:=m) (by rw[markTo_len];exact hm)
   have d0:=HR.out.free m
   go_wp2_with fail
   have HR':Hid (BRow (wr.setCell ⟨w.heap.size,m,none⟩ (.bool true)) w.heap.size (markTo st fr (k+1))):=by show BRow _ _ _;rw[HMk.out];exact HR.out.set m
   have HB':Hid (Below w.heap.size w (wr.setCell ⟨w.heap.size,m,none⟩ (.bool true))):=HBr.out.setCell (Nat.le_refl _) _
   go_roundw
   case rel=>exact⟨k+1,by go_num,by omega,HR',HB'⟩
   case measure=>(simp[intOf];try omega)
  ·obtain rfl:k=fr.length:=by omega
   obtain⟨o,ho⟩:∃ o,markTo st fr fr.length=o:=⟨_,rfl⟩
   have hol:o.length=st:=by rw[← ho,markTo_len]
   rw[ho] at HR HPo
   have HOl:=Lib.hid hol
   clear ho hol
   go_wp2_with fail
   rename World=>w3
   go_loopg [10,12] (st+1) (fun kx m _ wr=>∃ (mo:Bool) (n:Nat) (q:List Bool),m=.bool mo∧Hid (q=closeN SP n o)∧Hid (mo=false→closeStep SP q=q)∧Hid (falses q+(if mo=true then 1 else 0)≤kx)∧Hid (BRow wr w.heap.size q)∧Hid (Below w.heap.size w wr))
   case atStart=>exact⟨true,0,o,rfl,rfl,fun h=>(by cases h),by show falses o+1≤st+1;have:=falses_le o;have:=HOl.out;omega,HR,HBr⟩
   case round =>
    obtain⟨mo,n,q,rfl,HQn,HQs,HQf,HR,HBr⟩:=hrel
    have hzr:=HBr.out.size
    have HQl:Hid (q.length=st):=by show _=_;rw[HQn.out,closeN_len,HOl.out]
    cases mo with
    | false =>
     have HE:Hid (q=closeS SP o):=closeS_of HQn.out (HQs.out rfl)
     go_wp2_with fail
     have HRe:Hid (BRow wr w.heap.size (closeS SP o)):=by show BRow _ _ _;rw[← HE.out];exact HR.out
     first | exact HPo.out _ HRe.out HBr.out | (go_ret;exact HPo.out _ HRe.out HBr.out)
    | true =>
     have HQf':Hid (falses q+1≤gk):=HQf.out
     clear HQs HQf
     go_wp2_with fail
     generalize wr=w4 at HR HBr hzr⊢
     go_loopw [28,10,12] (fun i m _ wr=>∃ (k:Nat) (mo:Bool),i=.int .i64 k∧k≤steps.length∧m=.bool mo∧Hid ((mo=false∧closeTo SP q k=q)∨(mo=true∧falses (closeTo SP q k) < falses q))∧Hid (BRow wr w.heap.size (closeTo SP q k))∧Hid (Below w.heap.size w wr)) (fun i _ _ _=>steps.length - (intOf i).toNat)
     case atStart=>exact⟨0,false,rfl,Nat.zero_le _,rfl,Or.inl ⟨rfl,closeTo_zero _ _⟩,by show BRow _ _ _;rw[closeTo_zero];exact HR.out,HBr⟩
     case round =>
      clear HR HBr hzr
      obtain⟨k,mo,rfl,hk,rfl,HMo,HR,HBr⟩:=hrel
      have hzr:=HBr.out.size
      by_cases hlt:k < steps.length
      ·obtain⟨bs,os,hsa⟩:=HSA.out.resolve_left (by omega)
       subst hsa
       obtain⟨g0,g1⟩:=prE_get HS.out rfl hlt
       have f0:=keeps_of_below HBr.out _ _ g0
       have f1:=keeps_of_below HBr.out _ _ g1
       have HCk:Hid (closeTo SP q (k+1)=closeOne (closeTo SP q k) (nnP (steps[k]'hlt))):=by show _=_;rw[closeTo_succ SP q (by rw[HSPl.out];exact hlt),HSPg.out k hlt]
       obtain⟨⟨x0,x1⟩,y0,y1⟩:=HSb.out _ (List.getElem_mem hlt)
       unfold nnP at HCk
       clear g0 g1
       generalize (steps[k]'hlt).1=x at f0 HCk x0 x1
       generalize (steps[k]'hlt).2=y at f1 HCk y0 y1
       obtain⟨i,rfl⟩:=Int.eq_ofNat_of_zero_le x0
       obtain⟨j,rfl⟩:=Int.eq_ofNat_of_zero_le y0
       simp only[Int.toNat_natCast] at HCk
       have hi:i < st:=by omega
       have hj:j < st:=by omega
       have HCl:Hid ((closeTo SP q k).length=st):=by show _=_;rw[closeTo_len,HQl.out]
       obtain⟨C,hC⟩:∃ C,closeTo SP q k=C:=⟨_,rfl⟩
       rw[hC] at HMo HR HCk HCl
       have c0:=HR.out.cell (i:=i) (by rw[HCl.out];exact hi)
       have c1:=HR.out.cell (i:=j) (by rw[HCl.out];exact hj)
       have d1:=HR.out.free j
       have HGi:Hid (C.getD i false=C.getD i false):=rfl
       unfold closeOne at HCk
       simp only at HCk
       have Hfs:Hid (C.getD j false=false→falses (C.set j true)+1=falses C):=fun h=>falses_set (by rw[HCl.out];exact hj) h
       clear hC HGi
       have C0:∀ o,(wr.alloc o).cell? ⟨w.heap.size,i,none⟩=some (.bool (C.getD i false)):=fun o=>Lib.cell?_alloc_some _ c0
       have C1:∀ o,(wr.alloc o).cell? ⟨w.heap.size,j,none⟩=some (.bool (C.getD j false)):=fun o=>Lib.cell?_alloc_some _ c1
       have hbl:w.heap.size < wr.heap.size:=lt_of_block HR.out
       have D1:∀ o,(wr.alloc o).frozen? ⟨w.heap.size,j,none⟩=false:=fun o=>by
        have:=hx_oldT (o:=o) HR.out
        simp[World.frozen?,this]
       clear c0 c1 d1
       cases hvi:C.getD i false with
       | false =>
        rw[hvi] at C0 HCk
        have HCk':Hid (closeTo SP q (k+1)=C):=by show _=_;rw[HCk.out];rfl
        clear hvi HCk Hfs D1
        go_wp2_with fail
        go_roundw
        case rel=>exact⟨k+1,mo,by go_num,by omega,rfl,by rw[HCk'.out];exact HMo,by rw[HCk'.out];exact Lib.hid (HR.out.below ((Below.refl _ _).alloc (Nat.le_refl _) _)),HBr.out.alloc hzr _⟩
        case measure=>(simp[intOf];try omega)
       | true =>
        cases hvj:C.getD j false with
        | true =>
         rw[hvi] at C0
         rw[hvj] at C1
         rw[hvi,hvj] at HCk
         have HCk':Hid (closeTo SP q (k+1)=C):=by show _=_;rw[HCk.out];rfl
         clear hvi hvj HCk Hfs D1
         go_wp2_with fail
         go_roundw
         case rel=>exact⟨k+1,mo,by go_num,by omega,rfl,by rw[HCk'.out];exact HMo,by rw[HCk'.out];exact Lib.hid (HR.out.below ((Below.refl _ _).alloc (Nat.le_refl _) _)),HBr.out.alloc hzr _⟩
         case measure=>(simp[intOf];try omega)
        | false =>
         rw[hvi] at C0
         rw[hvj] at C1
         rw[hvi,hvj] at HCk
         have HCk':Hid (closeTo SP q (k+1)=C.set j true):=by show _=_;rw[HCk.out];rfl
         have HMo':Hid (falses (C.set j true) < falses q):=by
          have h1:=Hfs.out hvj
          show _ < _
          rcases HMo.out with ⟨_,h⟩ | ⟨_,h⟩
          ·rw[h] at h1⊢;omega
          ·omega
         clear hvi hvj HCk Hfs
         go_wp2_with fail
         go_roundw
         case rel=>exact⟨k+1,true,by go_num,by omega,rfl,by rw[HCk'.out];exact Lib.hid (Or.inr ⟨rfl,HMo'.out⟩),by rw[HCk'.out];exact Lib.hid ((BRow.set HR.out j).below ((Below.refl _ _).alloc (Nat.le_refl _) _)),(HBr.out.setCell (Nat.le_refl _) _).alloc (by rw[World.size_setCell];exact hzr) _⟩
         case measure=>(simp[intOf];try omega)
      ·obtain rfl:k=steps.length:=by omega
       have HCa:Hid (closeTo SP q steps.length=closeStep SP q):=by show _=_;rw[← HSPl.out,closeTo_all]
       have HQn':Hid (closeStep SP q=closeN SP (n+1) o):=by show _=_;rw[closeN_step,← HQn.out]
       have HR':Hid (BRow wr w.heap.size (closeStep SP q)):=by show BRow _ _ _;rw[← HCa.out];exact HR.out
       rw[HCa.out] at HMo
       have HMs:Hid (mo=false→closeStep SP (closeStep SP q)=closeStep SP q):=fun h=>by
        rcases HMo.out with ⟨_,h2⟩ | ⟨h2,_⟩
        ·rw[h2,h2]
        ·rw[h] at h2;cases h2
       have HMf:Hid (falses (closeStep SP q)+(if mo=true then 1 else 0)≤falses q):=by
        show _≤_
        rcases HMo.out with ⟨h1,h2⟩ | ⟨h1,h2⟩
        ·rw[h1,h2];simp
        ·rw[h1,if_pos rfl];omega
       go_wp2_with fail
       go_roundg (falses q)
       case measure=>have:=HQf'.out;omega
       case rel=>exact⟨mo,n+1,closeStep SP q,rfl,HQn'.out,HMs.out,HMf.out,HR'.out,HBr.out⟩
end Go.Proofs.YthojpomoflhbcaaGreatDoor
namespace Go.Proofs.YthojpomoflhbcaaGreatDoor
open Go.RowKit Go.WideMaps
theorem keyed_intT:Maps.Keyed Tryz.prog 3:=Maps.int_keyed Tryz.underlying3
theorem key_intT {i:Nat} (h:i≤1073741824):keyOf Tryz.prog 3 (.int .i64 i)=some (.int .i64 i):=Maps.keyOf_int_mk Tryz.underlying3 (WalkArith.wf_i64 (by omega))
theorem zero_intT (w:World):(zeroValue 3).run Tryz.prog w=.ok (.int .i64 0) w:=by kernel_rfl
theorem ahead_zero {n:NfaD} (h:nfaOk n=true):(aheadS n).getD 0 false=true:=(ahead_iff h 0).2 (Rch.refl 0)
theorem ahead_edge {n:NfaD} (h:nfaOk n=true) {e:EdgeD} (he:e∈n.edges) (ha:(aheadS n).getD e.fr.toNat false=true):(aheadS n).getD e.to.toNat false=true :=
 (ahead_iff h _).2 (((ahead_iff h _).1 ha).step (List.mem_map.2 ⟨e,he,rfl⟩))
theorem trim_cond {n:NfaD} (h:nfaOk n=true) {e:EdgeD} (he:e∈n.edges):goodE (aheadS n) (behindS n) e=(keptS (aheadS n) (behindS n) e.fr.toNat && keptS (aheadS n) (behindS n) e.to.toNat && (aheadS n).getD e.fr.toNat false && (behindS n).getD e.fr.toNat false && (behindS n).getD e.to.toNat false):=by
 have h1:=ahead_edge h he
 unfold goodE keptS
 cases ha:(aheadS n).getD e.fr.toNat false with
 | false=>simp
 | true =>
  rw[h1 ha]
  cases (behindS n).getD e.fr.toNat false<;>cases (behindS n).getD e.to.toNat false<;>simp
theorem trim_acc {n:NfaD} (h:nfaOk n=true) (s:Nat):keptS (aheadS n) (behindS n) s=(keptS (aheadS n) (behindS n) s && (aheadS n).getD s false):=by
 unfold keptS
 by_cases h0:s=0
 ·subst h0
  rw[ahead_zero h];simp
 ·cases (aheadS n).getD s false<;>simp[h0]
theorem ahead_len (n:NfaD):(aheadS n).length=n.states.toNat:=by unfold aheadS;rw[closeS_len,markS_len]
theorem behind_len (n:NfaD):(behindS n).length=n.states.toNat:=by unfold behindS;rw[closeS_len,markS_len]
def numF (a b:List Bool) (k:Nat) (kl:Lit):Option Value:=match kl with
 | .int .i64 z=>if 0≤z∧z < k∧keptS a b z.toNat=true then some (.int .i64 (numK a b z.toNat:Nat)) else none
 | _=>none
theorem numF_zero (a b:List Bool):∀ x,(fun _=>none:Lit→Option Value) x=numF a b 0 x:=by
 intro x
 unfold numF
 split
 ·rw[if_neg (by omega)]
 ·rfl
theorem numF_at (a b:List Bool) {k s:Nat} (h:s < k):numF a b k (.int .i64 s)=if keptS a b s=true then some (.int .i64 (numK a b s:Nat)) else none:=by
 unfold numF
 simp only[Int.toNat_natCast]
 by_cases hk:keptS a b s=true
 ·rw[if_pos ⟨by omega,by omega,hk⟩,if_pos hk]
 ·rw[if_neg (fun h=>hk h.2.2),if_neg hk]
theorem numF_new (a b:List Bool) (k:Nat):numF a b k (.int .i64 k)=none:=by
 unfold numF
 simp only
 rw[if_neg (by omega)]
theorem numF_skip {a b:List Bool} {k:Nat} (h:keptS a b k=false):∀ x,numF a b k x=numF a b (k+1) x:=by
 intro x
 unfold numF
 split
 ·rename_i z
  by_cases hz:0≤z∧z < (k:Int)∧keptS a b z.toNat=true
  ·rw[if_pos hz,if_pos ⟨hz.1,by omega,hz.2.2⟩]
  ·rw[if_neg hz,if_neg]
   rintro ⟨h1,h2,h3⟩
   by_cases e:z=k
   ·subst e;rw[Int.toNat_natCast,h] at h3;cases h3
   ·exact hz ⟨h1,by omega,h3⟩
 ·rfl
theorem numF_put {a b:List Bool} {k:Nat} (h:keptS a b k=true):∀ x,putL (numF a b k) (.int .i64 k) (some (.int .i64 (numK a b k:Nat))) x=numF a b (k+1) x:=by
 intro x
 by_cases hx:x=.int .i64 (k:Int)
 ·subst hx
  rw[putL_same,numF_at a b (Nat.lt_succ_self k),if_pos h]
 ·rw[putL_other _ hx]
  unfold numF
  split
  ·rename_i z
   have hz:z≠(k:Int):=fun e=>hx (by rw[e])
   by_cases hc:0≤z∧z < (k:Int)∧keptS a b z.toNat=true
   ·rw[if_pos hc,if_pos ⟨hc.1,by omega,hc.2.2⟩]
   ·rw[if_neg hc,if_neg (fun h=>hc ⟨h.1,by omega,h.2.2⟩)]
  ·rfl
theorem nnP_there (n:NfaD):(n.edges.map fun e=>(e.fr,e.to)).map nnP=thereL n:=by
 unfold thereL;rw[List.map_map];rfl
theorem nnP_back (n:NfaD):(n.edges.map fun e=>(e.to,e.fr)).map nnP=backL n:=by
 unfold backL;rw[List.map_map];rfl
end Go.Proofs.YthojpomoflhbcaaGreatDoor
