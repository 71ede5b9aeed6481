/- ref41: Start, Accepting. -/
import Derived.Test.YthojpomoflhbcaaGreatDoorM33
import Derived.Deep.RegionHeld3
import Derived.BigQuiet
set_option linter.unusedSimpArgs false
set_option linter.unusedVariables false
set_option linter.unnecessarySimpa false
namespace Go.Proofs.YthojpomoflhbcaaGreatDoor
open Go.RowKit
attribute [local go_sem ↓] Go.wp_at_zero Go.wp_at_succ
def RThRet (r:List ThrD) (w:World) (e:Ending) (w':World):Prop:=(∃ a c,e=.returned (.slice a r.length c)∧thE.In w' r a c)∧Below w.heap.size w w'
set_option maxHeartbeats 8000000 in
set_option maxRecDepth 100000 in
theorem rstart_any (env:List Sg) (ae:Option Addr) (ce:Nat) (w:World) (hE:sgE.In w env ae ce) (he:env.length≤50000) :
  Calls Tryz.prog 23 #[.slice ae env.length ce] w (RThRet [⟨0,startL env⟩] w):=by
 have HEn:=Lib.hid hE
 have HEa:Hid (env.length=0∨∃ b off,ae=some ⟨b,off,none⟩):=hE.addr
 have HPu:Hid (∀ k (hk:k < env.length) W a c,sgE.In W (startL (env.drop (k+1))) a c→Calls Tryz.prog 58 #[.slice a (startL (env.drop (k+1))).length c,.string (env[k]'hk).1,.int .i64 (wrapW (env[k]'hk).2)] W (WithPost noneT (startL (env.drop k)) W)):=fun k hk W a c h1=>by
  have e:startL (env.drop k)=putS (startL (env.drop (k+1))) (env[k]'hk).1 (wrapW (env[k]'hk).2):=by
   rw[List.drop_eq_getElem_cons hk];rfl
  rw[e]
  obtain⟨h3,h4⟩:=startL_asc (env.drop (k+1))
  rw[List.length_drop] at h4
  exact rput_any noneT _ a c _ _ W h1 h3 (by omega)
 have HLn:Hid (∀ k,(startL (env.drop k)).length≤50000):=fun k=>by
  have:=(startL_asc (env.drop k)).2
  rw[List.length_drop] at this
  omega
 have HLe:startL (env.drop env.length)=[]:=by rw[List.drop_length];rfl
 have HL0:startL (env.drop 0)=startL env:=rfl
 rw[← HL0]
 clear hE HL0
 generalize hS:(fun k=>startL (env.drop k))=S at *
 have hSe:∀ k,startL (env.drop k)=S k:=fun k=>by rw[← hS]
 simp only[hSe] at HPu HLn HLe⊢
 clear hSe hS
 have HPo:Hid (∀ W a c,Below w.heap.size w W→thE.In W [⟨0,S 0⟩] a c→RThRet [⟨0,S 0⟩] w (.returned (.slice a 1 c)) W):=fun W a c h1 h2=>⟨⟨a,c,rfl,h2⟩,h1⟩
 generalize RThRet [⟨0,S 0⟩] w=Po at HPo⊢
 have HI0:Hid (sgE.In w (S env.length) none 0):=by show sgE.In _ _ _ _;rw[HLe];exact Enc.In.nil _
 have HLe2:Hid ((S env.length).length=0):=by show _=_;rw[HLe];rfl
 clear HLe
 go_enter Tryz.func23, Tryz.ntmps23
 go_wp2_with fail
 go_loopw [4,3] (fun i o wr=>∃ (k:Nat) (a:Option Addr) (c:Nat),i=.int .i64 ((k:Int) - 1)∧o=.slice a (S k).length c∧k≤env.length∧Hid (sgE.In wr (S k) a c)∧Hid (Below w.heap.size w wr)) (fun i _ _=>(intOf i+1).toNat)
 case atStart=>exact⟨env.length,none,0,rfl,by rw[HLe2.out],Nat.le_refl _,HI0.out,Below.refl _ _⟩
 case round =>
  (try rename World=>wr)
  obtain⟨k,a,c,hi,ho,hk,HI,HB⟩:=hrel
  have hzr:=HB.out.size
  subst ho
  cases k with
  | zero =>
   rw[show (((0:Nat):Int) - 1)=-1 by omega] at hi
   subst hi
   have hI9:thE.In (wr.alloc (.cells #[.int .i64 0,.slice a (S 0).length c] 49)) [⟨0,S 0⟩] (some ⟨wr.heap.size,0,none⟩) 1:=by
    have hb:Below wr.heap.size wr (wr.alloc (.cells #[.int .i64 0,.slice a (S 0).length c] 49)):=(Below.refl _ _).alloc (Nat.le_refl _) _
    refine(Enc.Vals.one (E:=thE) (x:=⟨0,S 0⟩) (vs:=[.int .i64 0,.slice a (S 0).length c]) ⟨a,c,rfl,SigsIn.keep (keeps_of_below hb) (sgE_in.1 HI.out)⟩).in (fun j u hj=>?_) (by simp) (by simp)
    rw[cell_of_blkT (hx_newT rfl)]
    simpa using hj
   have HE1:=Lib.hid (HPo.out _ _ _ (HB.out.alloc HB.out.size _) hI9)
   clear hI9
   go_wp2_with fail
   first | exact HE1.out | (go_ret2;exact HE1.out)
  | succ k =>
   rw[show (((k+1:Nat):Int) - 1)=(k:Int) by omega] at hi
   subst hi
   have hltk:k < env.length:=by omega
   have hltI:(k:Int) < (env.length:Int):=by omega
   obtain⟨bE,oE,hEa⟩:=HEa.out.resolve_left (by omega)
   subst hEa
   obtain⟨g0,g1⟩:=sgE_get (sgE_in.1 (HEn.out.keep (keeps_of_below HB.out))) rfl hltk
   have HP1:=fun W a c h1=>HPu.out k hltk W a c h1
   generalize (env[k]'hltk)=y at HP1 g0 g1
   obtain⟨nm,yv⟩:=y
   simp only at HP1 g0 g1
   have HP2:Hid (∀ W,Below wr.heap.size wr W→Calls Tryz.prog 58 #[.slice a (S (k+1)).length c,.string nm,.int .i64 (wrapW yv)] W fun e w'=>(∃ a c,e=.returned (.slice a (S k).length c)∧sgE.In w' (S k) a c)∧Below wr.heap.size wr w'):=fun W hW=>(HP1 W a c (HI.out.keep (keeps_of_below hW))).mono fun e w' ⟨⟨v,h1,h2⟩,h3⟩=>by
    obtain⟨a,c,rfl,h6⟩:=h2.slice (by have:=HLn.out k;omega)
    exact⟨⟨a,c,h1,h6⟩,hW.trans (h3.mono hW.size)⟩
   have HWr:Hid (∀ W,Calls Tryz.prog 59 #[.int .i64 yv] W fun e w'=>e=.returned (.int .i64 (wrapW yv))∧w'=W):=fun W=>(RWrap_any yv W).mono fun e w' h=>⟨h.1,h.2.symm⟩
   generalize wrapW yv=wv at HWr HP2
   have HC:Hid (∀ W,Below wr.heap.size wr W→W.cell? ⟨bE,oE+k * 2,none⟩=some (.string nm)∧W.cell? ⟨bE,oE+k * 2+1,none⟩=some (.int .i64 yv)):=fun W hW=>⟨keeps_of_below hW _ _ g0,keeps_of_below hW _ _ g1⟩
   clear HP1
   go_wp2_with fail
   go_region_held3 (fun W=>Below wr.heap.size wr W∧(W.cell? ⟨bE,oE+k * 2,none⟩=some (.string nm)∧W.cell? ⟨bE,oE+k * 2+1,none⟩=some (.int .i64 yv)))
    ((refine(fun h=>⟨h,HC.out _ h⟩) ?_;first | with_reducible assumption | exact belR))
    (first
     | (go_at_call 59;(with_reducible refine(HWr.out _).mono ?_);rintro e w4 ⟨rfl,h4⟩;have h5:=h4.symm;clear h4;subst h5)
     | (go_at_call 58;(with_reducible refine(HP2.out _ (by first | with_reducible assumption | exact belR)).mono ?_);rintro e w5 ⟨⟨a5,c5,rfl,hin5⟩,hb5⟩))
   all_goals
    have HB9:Hid (Below w.heap.size w w5):=HB.out.trans (Below.mono hb5 hzr)
    have HI9:=Lib.hid hin5
    clear hb5 hin5
    go_wp2_with fail
    go_roundw
    case rel=>exact⟨k,a5,c5,by go_num,rfl,by omega,HI9.out,HB9.out⟩
    case measure=>(simp[intOf];try omega)
set_option maxHeartbeats 8000000 in
set_option maxRecDepth 100000 in
theorem raccepting_any (n:NfaD) (x:NfaA) (l:List ThrD) (al:Option Addr) (cl:Nat) (w:World) (hN:NfaIn w n x) (hL:thE.In w l al cl) (hll:l.length≤100000000) :
  Calls Tryz.prog 26 #[nfaVal n x,.slice al l.length cl] w (RThRet (acceptS n l) w):=by
 have HCo:Hid (∀ W,Below w.heap.size w W→∀ s,Calls Tryz.prog 62 #[.agg #[.int .i64 n.states,.slice x.ae n.edges.length x.ce,.slice x.aa n.accept.length x.ca],.int .i64 s] W fun e w'=>e=.returned (.bool (n.accept.contains s))∧Below W.heap.size W w'):=fun W hW s=>raccepts_any n x s W (hN.keep (keeps_of_below hW))
 have HLs:=Lib.hid hL
 have HLa:Hid (l.length=0∨∃ b off,al=some ⟨b,off,none⟩):=hL.addr
 obtain⟨A,hA⟩:∃ A:Nat→List ThrD,A=fun k=>(l.take k).filter fun t=>n.accept.contains t.state:=⟨_,rfl⟩
 have HA0:Hid (A 0=[]):=by show _=_;rw[hA];simp
 have HAl:Hid (∀ k,k≤l.length→(A k).length≤k):=fun k hk=>by
  rw[hA]
  exact Nat.le_trans (List.length_filter_le _ _) (by rw[List.length_take];omega)
 have HAs:Hid (∀ k (hk:k < l.length),A (k+1)=if n.accept.contains (l[k]'hk).state=true then A k++[l[k]'hk] else A k):=fun k hk=>by
  rw[hA]
  simp only[List.take_succ_eq_append_getElem hk,List.filter_append,List.filter_cons,List.filter_nil]
  split<;>simp
 have hAe:acceptS n l=A l.length:=by rw[hA];simp[acceptS]
 rw[hAe]
 have HPo:Hid (∀ W a c,Below w.heap.size w W→thE.In W (A l.length) a c→RThRet (A l.length) w (.returned (.slice a (A l.length).length c)) W):=fun W a c h1 h2=>⟨⟨a,c,rfl,h2⟩,h1⟩
 generalize RThRet (A l.length) w=Po at HPo⊢
 rw[nfaVal_eq]
 clear hN hL hA hAe
 obtain⟨xae,xce,xaa,xca⟩:=x
 simp only at HCo⊢
 go_enter Tryz.func26, Tryz.ntmps26
 go_upto_region 1 with fail
 generalize hW2:World.alloc w _=W2
 have HB2:Hid (Below w.heap.size w W2):=by show Below _ _ _;rw[← hW2];exact(Below.refl _ _).alloc (Nat.le_refl _) _
 have HX2:Hid (W2.heap[w.heap.size]? = some (.cells #[.int .i64 n.states,.slice xae n.edges.length xce,.slice xaa n.accept.length xca] 33 (0,0))):=by show _=_;rw[← hW2];exact hx_newT rfl
 clear hW2
 have HO2:Hid (thE.Own 49 noneT W2 (w.heap.size+1) (.slice none 0 0) (A 0)):=by show thE.Own _ _ _ _ _ _;rw[HA0.out];exact Enc.Own.nil _ _ _ _ _
 go_wp2_with fail
 go_loopw [6,5] (fun i o wr=>∃ k:Nat,i=.int .i64 k∧k≤l.length∧Hid (thE.Own 49 noneT wr (w.heap.size+1) o (A k))∧Hid (wr.heap[w.heap.size]? = some (.cells #[.int .i64 n.states,.slice xae n.edges.length xce,.slice xaa n.accept.length xca] 33 (0,0)))∧Hid (Below w.heap.size w wr)) (fun i _ _=>l.length - (intOf i).toNat)
 case atStart=>exact⟨0,rfl,Nat.zero_le _,HO2.out,HX2.out,HB2.out⟩
 case round =>
  (try rename World=>wr)
  obtain⟨k,rfl,hk,HO,HX,HB⟩:=hrel
  have hzr:=lt_of_block HX.out
  have hAk:=HAl.out k hk
  obtain⟨ao,co,hov,hin⟩:=HO.out.slice (by omega)
  subst hov
  have HVo:Hid (∀ j,(Value.slice ao (A k).length co).ownBlock=some j→w.heap.size+1≤j∧j < wr.heap.size):=own_vlt HO.out
  by_cases hltk:k < l.length
  ·obtain⟨bl,ol,hla⟩:=HLa.out.resolve_left (by omega)
   subst hla
   obtain⟨ta,tc,g0w,g1w,ht⟩:=thE_get HLs.out rfl hltk
   have g0:=keeps_of_below HB.out _ _ g0w
   have g1:=keeps_of_below HB.out _ _ g1w
   have HS1:=Lib.hid (HAs.out k hltk)
   generalize (l[k]'hltk)=t at HS1 g0 g1 ht
   have HT:=Lib.hid ht
   have hkl:(k:Int) < l.length:=by omega
   have HAc:Hid (∀ W,Below wr.heap.size wr W→Calls Tryz.prog 62 #[.agg #[.int .i64 n.states,.slice xae n.edges.length xce,.slice xaa n.accept.length xca],.int .i64 t.state] W fun e w'=>e=.returned (.bool (n.accept.contains t.state))∧Below wr.heap.size wr w'):=fun W hW=>(HCo.out W (HB.out.trans (hW.mono HB.out.size)) t.state).mono fun e w' h=>⟨h.1,hW.trans (h.2.mono hW.size)⟩
   obtain⟨x0,x1,x2⟩:=cell3T HX.out
   have HC:Hid (∀ W,Below wr.heap.size wr W→W.cell? ⟨w.heap.size,0,none⟩=some (.int .i64 n.states)∧W.cell? ⟨w.heap.size,1,none⟩=some (.slice xae n.edges.length xce)∧W.cell? ⟨w.heap.size,2,none⟩=some (.slice xaa n.accept.length xca)∧W.cell? ⟨bl,ol+k * 2,none⟩=some (.int .i64 t.state)∧W.cell? ⟨bl,ol+k * 2+1,none⟩=some (.slice ta t.env.length tc)):=fun W hW=>⟨keeps_of_below hW _ _ x0,keeps_of_below hW _ _ x1,keeps_of_below hW _ _ x2,keeps_of_below hW _ _ g0,keeps_of_below hW _ _ g1⟩
   clear g0w g1w ht hin
   generalize n.accept.contains t.state=ct at HAc HS1
   cases ct with
   | false =>
    have HS2:Hid (A (k+1)=A k):=HS1.out
    go_wp2_with fail
    go_region_held3 (fun W=>Below wr.heap.size wr W∧(W.cell? ⟨w.heap.size,0,none⟩=some (.int .i64 n.states)∧W.cell? ⟨w.heap.size,1,none⟩=some (.slice xae n.edges.length xce)∧W.cell? ⟨w.heap.size,2,none⟩=some (.slice xaa n.accept.length xca)∧W.cell? ⟨bl,ol+k * 2,none⟩=some (.int .i64 t.state)∧W.cell? ⟨bl,ol+k * 2+1,none⟩=some (.slice ta t.env.length tc)))
     ((refine(fun h=>⟨h,HC.out _ h⟩) ?_;first | with_reducible assumption | exact belR))
     (first | (go_at_call 62;(with_reducible refine(HAc.out _ (by first | with_reducible assumption | exact belR)).mono ?_);rintro e w5 ⟨rfl,hb5⟩))
    all_goals
     have HB5:Hid (Below wr.heap.size wr w5):=hb5
     have HO9:Hid (thE.Own 49 noneT w5 (w.heap.size+1) (.slice ao (A k).length co) (A (k+1))):=by show thE.Own _ _ _ _ _ _;rw[HS2.out];exact HO.out.below HB5.out
     have HX9:Hid (w5.heap[w.heap.size]? = some (.cells #[.int .i64 n.states,.slice xae n.edges.length xce,.slice xaa n.accept.length xca] 33 (0,0))):=(HB5.out.block _ hzr).trans HX.out
     have HB9:Hid (Below w.heap.size w w5):=HB.out.trans (HB5.out.mono HB.out.size)
     clear hb5
     go_wp2_with fail
     go_roundw
     case rel=>exact⟨k+1,by go_num,by omega,HO9.out,HX9.out,HB9.out⟩
     case measure=>(simp[intOf];try omega)
   | true =>
    have HS2:Hid (A (k+1)=A k++[t]):=HS1.out
    go_wp2_with fail
    go_region_held3 (fun W=>Below wr.heap.size wr W∧(W.cell? ⟨w.heap.size,0,none⟩=some (.int .i64 n.states)∧W.cell? ⟨w.heap.size,1,none⟩=some (.slice xae n.edges.length xce)∧W.cell? ⟨w.heap.size,2,none⟩=some (.slice xaa n.accept.length xca)∧W.cell? ⟨bl,ol+k * 2,none⟩=some (.int .i64 t.state)∧W.cell? ⟨bl,ol+k * 2+1,none⟩=some (.slice ta t.env.length tc)))
     ((refine(fun h=>⟨h,HC.out _ h⟩) ?_;first | with_reducible assumption | exact belR))
     (first | (go_at_call 62;(with_reducible refine(HAc.out _ (by first | with_reducible assumption | exact belR)).mono ?_);rintro e w5 ⟨rfl,hb5⟩))
    all_goals
     have HB5:Hid (Below wr.heap.size wr w5):=hb5
     have HO5:Hid (thE.Own 49 noneT w5 (w.heap.size+1) (.slice ao (A k).length co) (A k)):=HO.out.below HB5.out
     have HX5:Hid (w5.heap[w.heap.size]? = some (.cells #[.int .i64 n.states,.slice xae n.edges.length xce,.slice xaa n.accept.length xca] 33 (0,0))):=(HB5.out.block _ hzr).trans HX.out
     have HB6:Hid (Below w.heap.size w w5):=HB.out.trans (HB5.out.mono HB.out.size)
     have HR5:Hid (thE.R (World.hide w5 (hid noneT (.slice ao (A k).length co))) t [.int .i64 t.state,.slice ta t.env.length tc]):=⟨ta,tc,rfl,SigsIn.keep (hide_old HB6.out (hid_noneT fun j hj=>by have:=(HVo.out j hj).1;omega)) HT.out⟩
     obtain⟨-,-,-,d0,d1⟩:=HC.out w5 HB5.out
     have hz5:=lt_of_block HX5.out
     clear hb5
     go_wp2_with (at_builtin;go_must (refine own_addE (E:=thE) elemTH _ rfl (.tmp 20) (.tmp 25) rfl noneT (w.heap.size+1) _ rfl HO5.out t [.int .i64 t.state,.slice ta t.env.length tc] HR5.out _ _ rfl rfl (A k).length rfl (by omega) (by omega) ?_))
     intro g7 cap7 w7 ho7 hg7 hat7
     have HO9:Hid (thE.Own 49 noneT w7 (w.heap.size+1) (.slice (some ⟨g7,0,none⟩) ((A k).length+1) cap7) (A (k+1))):=by show thE.Own _ _ _ _ _ _;rw[HS2.out];exact ho7
     have HX9:Hid (w7.heap[w.heap.size]? = some (.cells #[.int .i64 n.states,.slice xae n.edges.length xce,.slice xaa n.accept.length xca] 33 (0,0))):=(hg7.block _ hz5 (fun e'=>by have:=(HVo.out _ e'.symm).1;omega)).trans HX5.out
     have HB9:Hid (Below w.heap.size w w7):=below_growF HB6.out hg7 fun j hj=>by have:=(HVo.out j hj).1;omega
     clear ho7 hg7 hat7
     go_wp2_with fail
     go_roundw
     case rel=>exact⟨k+1,by go_num,by omega,HO9.out,HX9.out,HB9.out⟩
     case measure=>(simp[intOf];try omega)
  ·obtain rfl:k=l.length:=by omega
   have HE1:=Lib.hid (HPo.out _ _ _ HB.out hin)
   go_wp2_with fail
   first | exact HE1.out | (go_ret2;exact HE1.out)
end Go.Proofs.YthojpomoflhbcaaGreatDoor
namespace Go.Proofs.YthojpomoflhbcaaGreatDoor
open Go.RowKit
attribute [local go_sem ↓] Go.wp_at_zero Go.wp_at_succ
end Go.Proofs.YthojpomoflhbcaaGreatDoor
