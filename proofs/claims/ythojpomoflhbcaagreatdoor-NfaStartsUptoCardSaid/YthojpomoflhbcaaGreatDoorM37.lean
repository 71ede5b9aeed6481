/- law41: NfaStarts. -/
import Derived.Test.YthojpomoflhbcaaGreatDoorM34
import Derived.Test.YthojpomoflhbcaaGreatDoorM35
import Derived.Test.YthojpomoflhbcaaGreatDoorM36
import Derived.Test.YthojpomoflhbcaaGreatDoorM25
set_option linter.unusedSimpArgs false
set_option linter.unusedVariables false
set_option linter.unnecessarySimpa false
namespace Go.Proofs.YthojpomoflhbcaaGreatDoor
open Go.RowKit
attribute [local go_sem ↓] Go.wp_at_zero Go.wp_at_succ
theorem wrapW_rng (n:Int):0≤wrapW n∧wrapW n≤65535:=by unfold wrapW;omega
theorem startL_loc (env:List Sg):localsB (startL env)=true:=by
 rw[localsB_iff]
 induction env with
 | nil=>exact⟨List.Pairwise.nil,fun x hx=>by cases hx⟩
 | cons x r ih=>exact LocOk.put ih (wrapW_rng x.2)
set_option maxRecDepth 100000 in
set_option maxHeartbeats 8000000 in
theorem NfaStarts_any (n:NfaD) (y:NfaA) (l:List ThrD) (al:Option Addr) (cl:Nat) (env:List Sg) (ae:Option Addr) (ce:Nat) (w:World) (hN:NfaIn w n y) (hL:thE.In w l al cl) (hE:SigsIn w env ae ce) (hG:Glob w) :
  Calls Tryz.prog 5 #[nfaVal n y,.slice al l.length cl,.slice ae env.length ce] w (BoolRet true w):=by
 have HSm:Hid (∀ W,Below w.heap.size w W→Calls Tryz.prog 16 #[nfaVal n y] W (BrRet (SmNfa n) W)):=fun W hW=>smallN_any n y W (hN.keep (keeps_of_below hW))
 have HTh:Hid (∀ W,Below w.heap.size w W→Calls Tryz.prog 17 #[.slice al l.length cl] W (BrRet (SmThr l) W)):=fun W hW=>threads_any l al cl W (hL.keep (keeps_of_below hW))
 have HBr:Hid (∀ W,Below w.heap.size w W→Calls Tryz.prog 18 #[.slice ae env.length ce] W (BrRet (env.length≤40) W)):=fun W hW=>brief_any env ae ce W (hE.keep (keeps_of_below hW))
 have HAw:Hid (∀ W,Below w.heap.size w W→Calls Tryz.prog 12 #[] W fun e w'=>e=.returned (.bool true)∧Below W.heap.size W w'):=fun W hW=>awakeD_any W (hG.below hW)
 have HSt:Hid (env.length≤40→∀ W,Below w.heap.size w W→Calls Tryz.prog 22 #[.slice ae env.length ce] W fun e w'=>(∃ a c,e=.returned (.slice a 1 c)∧thE.In w' [⟨0,startL env⟩] a c)∧Below W.heap.size W w'):=fun h W hW =>
  (start_any noneT env ae ce W (fun j hj=>by cases hj) (sgE_in.2 (hE.keep (keeps_of_below hW))) (by omega)).mono fun e w' ⟨⟨a,c,h4,h5⟩,h6⟩=>⟨⟨a,c,h4,h5.keep hide_cell⟩,h6⟩
 have HSr:Hid (env.length≤40→∀ W,Below w.heap.size w W→Calls Tryz.prog 23 #[.slice ae env.length ce] W fun e w'=>(∃ a c,e=.returned (.slice a 1 c)∧thE.In w' [⟨0,startL env⟩] a c)∧Below W.heap.size W w'):=fun h W hW =>
  (rstart_any env ae ce W (sgE_in.2 (hE.keep (keeps_of_below hW))) (by omega)).mono fun e w' ⟨⟨a,c,h4,h5⟩,h6⟩=>⟨⟨a,c,h4,h5⟩,h6⟩
 have HAc:Hid (SmThr l→∀ W,Below w.heap.size w W→Calls Tryz.prog 25 #[nfaVal n y,.slice al l.length cl] W fun e w'=>(∃ a c,e=.returned (.slice a (acceptS n l).length c)∧thE.In w' (acceptS n l) a c)∧Below W.heap.size W w'):=fun h W hW =>
  (accepting_any noneT n y l al cl W (fun j hj=>by cases hj) (hN.keep (keeps_of_below hW)) (hL.keep (keeps_of_below hW)) (fun t ht=>by have:=h.2 t ht;omega) (by have:=h.1;omega)).mono fun e w' ⟨⟨a,c,h4,h5⟩,h6⟩=>⟨⟨a,c,h4,h5.keep hide_cell⟩,h6⟩
 have HAr:Hid (SmThr l→∀ W,Below w.heap.size w W→Calls Tryz.prog 26 #[nfaVal n y,.slice al l.length cl] W fun e w'=>(∃ a c,e=.returned (.slice a (acceptS n l).length c)∧thE.In w' (acceptS n l) a c)∧Below W.heap.size W w'):=fun h W hW =>
  raccepting_any n y l al cl W (hN.keep (keeps_of_below hW)) (hL.keep (keeps_of_below hW)) (by have:=h.1;omega)
 have HLo:Hid (∀ W a c,SigsIn W (startL env) a c→Calls Tryz.prog 24 #[.slice a (startL env).length c] W fun e w'=>e=.returned (.bool true)∧Below W.heap.size W w'):=fun W a c h=>(rlocals_any (startL env) a c W h).mono fun e w' h=>⟨by rw[h.1,startL_loc env],h.2⟩
 have HSa:Hid (∀ (r:List ThrD) W a1 c1 a2 c2,thE.In W r a1 c1→thE.In W r a2 c2→Calls Tryz.prog 21 #[.slice a1 r.length c1,.slice a2 r.length c2] W fun e w'=>e=.returned (.bool true)∧Below W.heap.size W w'):=fun r W a1 c1 a2 c2 h1 h2=>rsameThr_eq r a1 c1 a2 c2 W h1 h2
 have HPo:Hid (∀ W,Below w.heap.size w W→BoolRet true w (.returned (.bool true)) W):=fun W hW=>⟨rfl,hW⟩
 generalize BoolRet true w=Po at HPo⊢
 generalize acceptS n l=R at HAc HAr
 generalize startL env=S at HSt HSr HLo
 rw[nfaVal_eq] at HSm HAc HAr⊢
 clear hN hL hE hG
 obtain⟨xae,xce,xaa,xca⟩:=y
 simp only at HSm HAc HAr⊢
 go_enter Tryz.func5, Tryz.ntmps5
 go_upto_region 1 with fail
 generalize hW2:World.alloc w _=W2
 have HB2:Hid (Below w.heap.size w W2):=by show Below _ _ _;rw[← hW2];exact(Below.refl _ _).alloc (Nat.le_refl _) _
 have HX2:Hid (W2.heap[w.heap.size]? = some (.cells #[.int .i64 n.states,.slice xae n.edges.length xce,.slice xaa n.accept.length xca] 33 (0,0))):=by show _=_;rw[← hW2];exact hx_newT rfl
 have hz2:w.heap.size+1≤W2.heap.size:=by rw[← hW2];simp
 clear hW2
 have HXw:Hid (∀ W,Below W2.heap.size W2 W→W.cell? ⟨w.heap.size,0,none⟩=some (.int .i64 n.states)∧W.cell? ⟨w.heap.size,1,none⟩=some (.slice xae n.edges.length xce)∧W.cell? ⟨w.heap.size,2,none⟩=some (.slice xaa n.accept.length xca)):=fun W hW=>cell3T ((hW.block _ (by omega)).trans HX2.out)
 obtain⟨b0,b1,b2⟩:=HXw.out W2 (Below.refl _ _)
 go_wp2_with fail
 refine(HSm.out W2 HB2.out).mono ?_
 rintro r w3 ⟨⟨b,rfl,hsm⟩,hb3⟩
 have HB3:Hid (Below w.heap.size w w3):=HB2.out.trans (hb3.mono HB2.out.size)
 have HBx3:Hid (Below W2.heap.size W2 w3):=hb3
 clear hb3 b0 b1 b2
 cases b with
 | false =>
  clear hsm
  go_wp2_with fail
  refine(HAw.out _ HB3.out).mono ?_
  rintro r w4 ⟨rfl,hb4⟩
  have HF:=Lib.hid (HPo.out _ (HB3.out.trans (hb4.mono HB3.out.size)))
  clear hb4
  go_wp2_with fail
  first | exact HF.out | (go_ret2;exact HF.out)
 | true =>
  have hsm2:=hsm rfl
  clear hsm
  go_wp2_with fail
  refine(HTh.out w3 HB3.out).mono ?_
  rintro r w4 ⟨⟨b,rfl,hth⟩,hb4⟩
  have HB4:Hid (Below w.heap.size w w4):=HB3.out.trans (hb4.mono HB3.out.size)
  have HBx4:Hid (Below W2.heap.size W2 w4):=HBx3.out.trans (hb4.mono HBx3.out.size)
  clear hb4
  cases b with
  | false =>
   clear hth
   go_wp2_with fail
   refine(HAw.out _ HB4.out).mono ?_
   rintro r w5 ⟨rfl,hb5⟩
   have HF:=Lib.hid (HPo.out _ (HB4.out.trans (hb5.mono HB4.out.size)))
   clear hb5
   go_wp2_with fail
   first | exact HF.out | (go_ret2;exact HF.out)
  | true =>
   have hth2:=hth rfl
   clear hth
   go_wp2_with fail
   refine(HBr.out w4 HB4.out).mono ?_
   rintro r w5 ⟨⟨b,rfl,hbr⟩,hb5⟩
   have HB5:Hid (Below w.heap.size w w5):=HB4.out.trans (hb5.mono HB4.out.size)
   have HBx5:Hid (Below W2.heap.size W2 w5):=HBx4.out.trans (hb5.mono HBx4.out.size)
   clear hb5
   cases b with
   | false =>
    clear hbr
    go_wp2_with fail
    refine(HAw.out _ HB5.out).mono ?_
    rintro r w6 ⟨rfl,hb6⟩
    have HF:=Lib.hid (HPo.out _ (HB5.out.trans (hb6.mono HB5.out.size)))
    clear hb6
    go_wp2_with fail
    first | exact HF.out | (go_ret2;exact HF.out)
   | true =>
    have HSt2:=Lib.hid (HSt.out (hbr rfl))
    have HSr2:=Lib.hid (HSr.out (hbr rfl))
    have HAc2:=Lib.hid (HAc.out hth2)
    have HAr2:=Lib.hid (HAr.out hth2)
    clear hbr hsm2 hth2 HSt HSr HAc HAr
    go_wp2_with fail
    refine(HSt2.out w5 HB5.out).mono ?_
    rintro r w6 ⟨⟨a6,c6,rfl,hin6⟩,hb6⟩
    have HB6:Hid (Below w.heap.size w w6):=HB5.out.trans (hb6.mono HB5.out.size)
    have HBx6:Hid (Below W2.heap.size W2 w6):=HBx5.out.trans (hb6.mono HBx5.out.size)
    have HI6:=Lib.hid hin6
    have ha6:=hin6.addr
    clear hb6
    obtain⟨b6,o6,ha6⟩:=ha6.resolve_left (by simp)
    subst ha6
    obtain⟨sa,sc,g0,g1,hs⟩:=thE_get hin6 rfl (show 0 < [(⟨0,S⟩:ThrD)].length by simp)
    simp only[List.getElem_cons_zero,Nat.zero_mul,Nat.add_zero] at g0 g1 hs
    have HS6:=Lib.hid hs
    clear hs hin6
    obtain⟨b0,b1,b2⟩:=HXw.out w6 HBx6.out
    have hz6:=HB6.out.size
    have HC:Hid (∀ W,Below w6.heap.size w6 W→W.cell? ⟨w.heap.size,0,none⟩=some (.int .i64 n.states)∧W.cell? ⟨w.heap.size,1,none⟩=some (.slice xae n.edges.length xce)∧W.cell? ⟨w.heap.size,2,none⟩=some (.slice xaa n.accept.length xca)∧W.cell? ⟨b6,o6+1,none⟩=some (.slice sa S.length sc)):=fun W hW=>⟨keeps_of_below hW _ _ b0,keeps_of_below hW _ _ b1,keeps_of_below hW _ _ b2,keeps_of_below hW _ _ g1⟩
    have H1:Hid (∀ W,Below w6.heap.size w6 W→Calls Tryz.prog 23 #[.slice ae env.length ce] W fun e w'=>(∃ a c,e=.returned (.slice a 1 c)∧thE.In w' [⟨0,S⟩] a c)∧Below w6.heap.size w6 w'):=fun W hW=>(HSr2.out W (HB6.out.trans (hW.mono hz6))).mono fun e w' h=>⟨h.1,hW.trans (h.2.mono hW.size)⟩
    have H2:Hid (∀ W a c,Below w6.heap.size w6 W→thE.In W [⟨0,S⟩] a c→Calls Tryz.prog 21 #[.slice (some ⟨b6,o6,none⟩) 1 c6,.slice a 1 c] W fun e w'=>e=.returned (.bool true)∧Below w6.heap.size w6 w'):=fun W a c hW h2=>(HSa.out [⟨0,S⟩] W _ c6 a c (HI6.out.keep (keeps_of_below hW)) h2).mono fun e w' h=>⟨h.1,hW.trans (h.2.mono hW.size)⟩
    have H3:Hid (∀ W,Below w6.heap.size w6 W→Calls Tryz.prog 24 #[.slice sa S.length sc] W fun e w'=>e=.returned (.bool true)∧Below w6.heap.size w6 w'):=fun W hW=>(HLo.out W sa sc (HS6.out.keep (keeps_of_below hW))).mono fun e w' h=>⟨h.1,hW.trans (h.2.mono hW.size)⟩
    have H4:Hid (∀ W,Below w6.heap.size w6 W→Calls Tryz.prog 25 #[.agg #[.int .i64 n.states,.slice xae n.edges.length xce,.slice xaa n.accept.length xca],.slice al l.length cl] W fun e w'=>(∃ a c,e=.returned (.slice a R.length c)∧thE.In w' R a c)∧Below w6.heap.size w6 w'):=fun W hW=>(HAc2.out W (HB6.out.trans (hW.mono hz6))).mono fun e w' h=>⟨h.1,hW.trans (h.2.mono hW.size)⟩
    have H5:Hid (∀ W,Below w6.heap.size w6 W→Calls Tryz.prog 26 #[.agg #[.int .i64 n.states,.slice xae n.edges.length xce,.slice xaa n.accept.length xca],.slice al l.length cl] W fun e w'=>(∃ a c,e=.returned (.slice a R.length c)∧thE.In w' R a c)∧Below w6.heap.size w6 w'∧Below W.heap.size W w'):=fun W hW=>(HAr2.out W (HB6.out.trans (hW.mono hz6))).mono fun e w' h=>⟨h.1,hW.trans (h.2.mono hW.size),h.2⟩
    have H6:Hid (∀ W a1 c1 a2 c2,Below w6.heap.size w6 W→thE.In W R a1 c1→thE.In W R a2 c2→Calls Tryz.prog 21 #[.slice a1 R.length c1,.slice a2 R.length c2] W fun e w'=>e=.returned (.bool true)∧Below w6.heap.size w6 w'):=fun W a1 c1 a2 c2 hW h1 h2=>(HSa.out R W a1 c1 a2 c2 h1 h2).mono fun e w' h=>⟨h.1,hW.trans (h.2.mono hW.size)⟩
    have H7:Hid (∀ W,Below w6.heap.size w6 W→Calls Tryz.prog 12 #[] W fun e w'=>e=.returned (.bool true)∧Below w6.heap.size w6 w'):=fun W hW=>(HAw.out W (HB6.out.trans (hW.mono hz6))).mono fun e w' h=>⟨h.1,hW.trans (h.2.mono hW.size)⟩
    clear HSt2 HSr2 HAc2 HAr2 HSa HLo HAw g0
    go_wp2_with fail
    go_region_held3 (fun W=>Below w6.heap.size w6 W∧(W.cell? ⟨w.heap.size,0,none⟩=some (.int .i64 n.states)∧W.cell? ⟨w.heap.size,1,none⟩=some (.slice xae n.edges.length xce)∧W.cell? ⟨w.heap.size,2,none⟩=some (.slice xaa n.accept.length xca)∧W.cell? ⟨b6,o6+1,none⟩=some (.slice sa S.length sc)))
     ((refine(fun h=>⟨h,HC.out _ h⟩) ?_;first | with_reducible assumption | exact belR))
     (first
      | (go_at_call 23;(with_reducible refine(H1.out _ (by first | with_reducible assumption | exact belR)).mono ?_);rintro e q1 ⟨⟨a1,c1,rfl,i1⟩,hq1⟩;have I1:=Lib.hid i1;clear i1)
      | (go_at_call 21;(with_reducible refine(H2.out _ a1 c1 (by first | with_reducible assumption | exact belR) (I1.out.keep (kpB (by first | exact Below.refl _ _ | exact belR)))).mono ?_);rintro e q2 ⟨rfl,hq2⟩;clear I1)
      | (go_at_call 24;(with_reducible refine(H3.out _ (by first | with_reducible assumption | exact belR)).mono ?_);rintro e q3 ⟨rfl,hq3⟩)
      | (go_at_call 25;(with_reducible refine(H4.out _ (by first | with_reducible assumption | exact belR)).mono ?_);rintro e q4 ⟨⟨a4,c4,rfl,i4⟩,hq4⟩;have I4:=Lib.hid i4;clear i4)
      | (go_at_call 26;(with_reducible refine(H5.out _ (by first | with_reducible assumption | exact belR)).mono ?_);rintro e q5 ⟨⟨a5,c5,rfl,i5⟩,hq5,hq5'⟩;have I5:=Lib.hid i5;have I45:=Lib.hid (I4.out.keep (Kp.trans (kpB (by first | exact Below.refl _ _ | exact belR)) (kpB hq5')));clear i5 hq5' I4)
      | (go_at_call 21;(with_reducible refine(H6.out _ a4 c4 a5 c5 (by first | with_reducible assumption | exact belR) (I45.out.keep (kpB (by first | exact Below.refl _ _ | exact belR))) (I5.out.keep (kpB (by first | exact Below.refl _ _ | exact belR)))).mono ?_);rintro e q6 ⟨rfl,hq6⟩;clear I5 I45)
      | (go_at_call 12;(with_reducible refine(H7.out _ (by first | with_reducible assumption | exact belR)).mono ?_);rintro e q7 ⟨rfl,hq7⟩))
    all_goals
     have HF:=Lib.hid (HPo.out q7 (HB6.out.trans (Below.mono hq7 hz6)))
     clear hq7
     go_wp2_with fail
     first | exact HF.out | (go_ret2;exact HF.out)
end Go.Proofs.YthojpomoflhbcaaGreatDoor
