/- ref41: insert. -/
import Derived.Test.YthojpomoflhbcaaGreatDoorM34
set_option linter.unusedSimpArgs false
set_option linter.unusedVariables false
set_option linter.unnecessarySimpa false
namespace Go.Proofs.YthojpomoflhbcaaGreatDoor
open Go.RowKit
attribute [local go_sem ↓] Go.wp_at_zero Go.wp_at_succ
theorem cmpThr_le {x t:ThrD} (h:x.state < t.state):cmpThr x t < 0:=cmpThr_state.2 (Or.inl h)
theorem cmpThr_gt {x t:ThrD} (h:t.state < x.state):0 < cmpThr x t:=by
 have h1:cmpThr t x < 0:=cmpThr_state.2 (Or.inl h)
 exact(cmp3Thr.anti _ _).1 h1
theorem cmpThr_eq {x t:ThrD} (h:x.state=t.state):cmpThr x t=cmpEnv x.env t.env:=by
 unfold cmpThr orZ Lib.compareInt
 rw[h];simp
theorem cmpThr_zero {x t:ThrD}:cmpThr x t=0↔x.state=t.state∧t.env=x.env:=by
 rw[cmp3Thr.zero]
 constructor
 ·rintro rfl;exact⟨rfl,rfl⟩
 ·rintro ⟨h1,h2⟩
  obtain⟨a,b⟩:=x
  obtain⟨c,d⟩:=t
  simp only at h1 h2
  rw[h1,h2]
theorem stepB {α:Type} {f:α→Int} {y:α} {l:List α} (hm:MonG f l) {k:Nat} (hk:k < l.length) :
    ((!dnG f l k && decide (0≤f (l[k]'hk)))=false→dnG f l (k+1)=dnG f l k∧atG f y l (k+1)=atG f y l k++[l[k]'hk]) ∧
    ((!dnG f l k && decide (0≤f (l[k]'hk)))=true→dnG f l (k+1)=true∧atG f y l (k+1)=if decide (f (l[k]'hk)=0)=true then atG f y l k++[y] else atG f y l k++[y]++[l[k]'hk]):=by
  obtain⟨h1,h2,h3,h4⟩:=stepG (y:=y) hm hk
  cases hd:dnG f l k with
  | true=>exact⟨fun _=>(h4 hd).2,fun h=>by simp at h⟩
  | false =>
    refine⟨fun h=>?_,fun h=>?_⟩
    · exact h1 hd (by have:¬ 0≤f (l[k]'hk):=by simpa using h
                      omega)
    · have hn:¬ f (l[k]'hk) < 0:=by
        have:0≤f (l[k]'hk):=by simpa using h
        omega
      by_cases h0:f (l[k]'hk)=0
      · rw[if_pos (decide_eq_true h0)];exact h2 hd h0
      · rw[if_neg (by simpa using h0)];exact h3 hd (by omega)
set_option maxHeartbeats 16000000 in
set_option maxRecDepth 100000 in
theorem rinsert_any (l:List ThrD) (al:Option Addr) (cl:Nat) (t:ThrD) (ta:Option Addr) (tc:Nat) (w:World) (hL:thE.In w l al cl) (hT:SigsIn w t.env ta tc) (ha:Asc cmpThr l) (hl:l.length≤100000000) :
  Calls Tryz.prog 54 #[.slice al l.length cl,.agg #[.int .i64 t.state,.slice ta t.env.length tc]] w (RThRet (insL cmpThr l t) w):=by
 have HLs:=Lib.hid hL
 have HT:=Lib.hid hT
 have HLa:Hid (l.length=0∨∃ b off,al=some ⟨b,off,none⟩):=hL.addr
 have HS:Hid (∀ k (hk:k < l.length),((!dnG (fun z:ThrD=>cmpThr z t) l k && decide (0≤cmpThr (l[k]'hk) t))=false→dnG (fun z:ThrD=>cmpThr z t) l (k+1)=dnG (fun z:ThrD=>cmpThr z t) l k∧atG (fun z:ThrD=>cmpThr z t) t l (k+1)=atG (fun z:ThrD=>cmpThr z t) t l k++[l[k]'hk]) ∧
   ((!dnG (fun z:ThrD=>cmpThr z t) l k && decide (0≤cmpThr (l[k]'hk) t))=true→dnG (fun z:ThrD=>cmpThr z t) l (k+1)=true∧atG (fun z:ThrD=>cmpThr z t) t l (k+1)=if decide (cmpThr (l[k]'hk) t=0)=true then atG (fun z:ThrD=>cmpThr z t) t l k++[t] else atG (fun z:ThrD=>cmpThr z t) t l k++[t]++[l[k]'hk])):=fun k hk=>stepB (monT ha) hk
 have HLn:Hid (∀ k,(atG (fun z:ThrD=>cmpThr z t) t l k).length≤l.length+1):=fun k=>atG_len l k
 have HEnd:insL cmpThr l t=if dnG (fun z:ThrD=>cmpThr z t) l l.length=true then atG (fun z:ThrD=>cmpThr z t) t l l.length else atG (fun z:ThrD=>cmpThr z t) t l l.length++[t]:=by rw[insL_gen];exact endG
 have hD0:dnG (fun z:ThrD=>cmpThr z t) l 0=false:=dnG_zero l
 have hA0:atG (fun z:ThrD=>cmpThr z t) t l 0=[]:=atG_zero l
 rw[HEnd]
 clear hL hT ha HEnd
 generalize dnG (fun z:ThrD=>cmpThr z t) l=D at HS hD0⊢
 generalize atG (fun z:ThrD=>cmpThr z t) t l=A at HS HLn hA0⊢
 have HPo:Hid (∀ a c W,thE.In W (if D l.length=true then A l.length else A l.length++[t]) a c→Below w.heap.size w W→RThRet (if D l.length=true then A l.length else A l.length++[t]) w (.returned (.slice a (if D l.length=true then A l.length else A l.length++[t]).length c)) W):=fun a c W h1 h2=>⟨⟨a,c,rfl,h1⟩,h2⟩
 generalize RThRet (if D l.length=true then A l.length else A l.length++[t]) w=Po at HPo⊢
 have HO0:Hid (∀ W,thE.Own 49 noneT W (w.heap.size+1) (.slice none 0 0) (A 0)):=fun W=>by rw[hA0];exact Enc.Own.nil _ _ _ _ _
 have HD0:=Lib.hid hD0
 clear hD0 hA0
 go_enter Tryz.func54, Tryz.ntmps54
 go_upto_region 1 with fail
 generalize hW2:World.alloc w _=W2
 have HB2:Hid (Below w.heap.size w W2):=by show Below _ _ _;rw[← hW2];exact(Below.refl _ _).alloc (Nat.le_refl _) _
 have HX2:Hid (W2.heap[w.heap.size]? = some (.cells #[.int .i64 t.state,.slice ta t.env.length tc] 49 (0,0))):=by show _=_;rw[← hW2];exact hx_newT rfl
 clear hW2
 go_wp2_with fail
 go_loopw [7,5,6] (fun i o d wr=>∃ k:Nat,i=.int .i64 k∧k≤l.length∧d=.bool (D k)∧Hid (thE.Own 49 noneT wr (w.heap.size+1) o (A k))∧Hid (wr.heap[w.heap.size]? = some (.cells #[.int .i64 t.state,.slice ta t.env.length tc] 49 (0,0)))∧Hid (Below w.heap.size w wr)) (fun i _ _ _=>l.length - (intOf i).toNat)
 case atStart=>exact⟨0,rfl,Nat.zero_le _,by rw[HD0.out],HO0.out _,HX2.out,HB2.out⟩
 case round =>
  (try rename World=>wr)
  obtain⟨k,rfl,hk,hd,HO,HX,HB⟩:=hrel
  subst hd
  have hzr:=lt_of_block HX.out
  have hAk:=HLn.out k
  by_cases hlt:k < l.length
  ·obtain⟨bl,ol,hla⟩:=HLa.out.resolve_left (by omega)
   subst hla
   obtain⟨xa,xc,g0w,g1w,hx⟩:=thE_get HLs.out rfl hlt
   obtain⟨hs1,hs2⟩:=HS.out k hlt
   generalize (l[k]'hlt)=x at g0w g1w hx hs1 hs2
   have HXe:=Lib.hid hx
   have hkl:(k:Int) < l.length:=by omega
   have HC:Hid (∀ W,Below wr.heap.size wr W→W.cell? ⟨w.heap.size,0,none⟩=some (.int .i64 t.state)∧W.cell? ⟨w.heap.size,1,none⟩=some (.slice ta t.env.length tc)∧W.cell? ⟨bl,ol+k * 2,none⟩=some (.int .i64 x.state)∧W.cell? ⟨bl,ol+k * 2+1,none⟩=some (.slice xa x.env.length xc)):=fun W hW=>by
    obtain⟨x0,x1,-⟩:=cell2H ((hW.block _ hzr).trans HX.out)
    exact⟨x0,x1,keeps_of_below (HB.out.trans (hW.mono HB.out.size)) _ _ g0w,keeps_of_below (HB.out.trans (hW.mono HB.out.size)) _ _ g1w⟩
   have HCl:Hid (∀ W,Below w.heap.size w W→W.cell? ⟨bl,ol+k * 2,none⟩=some (.int .i64 x.state)∧W.cell? ⟨bl,ol+k * 2+1,none⟩=some (.slice xa x.env.length xc)):=fun W hW=>⟨keeps_of_below hW _ _ g0w,keeps_of_below hW _ _ g1w⟩
   have HLt:Hid (∀ W,Below wr.heap.size wr W→Calls Tryz.prog 109 #[.slice xa x.env.length xc,.slice ta t.env.length tc] W fun e w'=>e=.returned (.bool (decide (cmpEnv x.env t.env < 0)))∧Below wr.heap.size wr w'):=fun W hW=>(rlessEnv_any x.env t.env xa xc ta tc W (SigsIn.keep (keeps_of_below (HB.out.trans (hW.mono HB.out.size))) HXe.out) (SigsIn.keep (keeps_of_below (HB.out.trans (hW.mono HB.out.size))) HT.out)).mono fun e w' h=>⟨h.1,hW.trans (h.2.mono hW.size)⟩
   have HSm:Hid (∀ W,Below w.heap.size w W→Calls Tryz.prog 55 #[.slice ta t.env.length tc,.slice xa x.env.length xc] W fun e w'=>e=.returned (.bool (pB (t.env=x.env)))∧Below W.heap.size W w'):=fun W hW=>(rsameEnv_any t.env x.env ta tc xa xc W (SigsIn.keep (keeps_of_below hW) HT.out) (SigsIn.keep (keeps_of_below hW) HXe.out)).mono fun e w' h=>⟨h.1,h.2⟩
   obtain⟨c0,c1,c2,c3⟩:=HC.out wr (Below.refl _ _)
   have HF1:Hid (x.state < t.state→cmpThr x t < 0):=cmpThr_le
   have HF2:Hid (t.state < x.state→0 < cmpThr x t):=cmpThr_gt
   have HF3:Hid (x.state=t.state→cmpThr x t=cmpEnv x.env t.env):=cmpThr_eq
   have HF4:Hid (cmpThr x t=0↔x.state=t.state∧t.env=x.env):=cmpThr_zero
   generalize cmpThr x t=ft at hs1 hs2 HF1 HF2 HF3 HF4
   obtain⟨dk,hdk⟩:∃ dk,D k=dk:=⟨_,rfl⟩
   rw[hdk] at hs1 hs2⊢
   clear hdk
   have HS1:=Lib.hid hs1
   have HS2:=Lib.hid hs2
   obtain⟨b6,hb6⟩:∃ b6,(!dk && decide (0≤ft))=b6:=⟨_,rfl⟩
   have HB6:=Lib.hid hb6
   obtain⟨xs,xe⟩:=x
   obtain⟨ts,te⟩:=t
   simp only at c0 c1 c2 c3 HC HCl HLt HSm HF1 HF2 HF3 HF4 HXe HT HX
   clear hx g0w g1w hs1 hs2 hb6
   cases dk with
   | true =>
    go_upto_region 6 with fail
    go_cut [46] from 14 to 46 (fun s wx=>s=.bool b6∧Hid (Below wr.heap.size wr wx))
    case first =>
     obtain rfl:b6=false:=by rw[← HB6.out];rfl
     go_quiet (fail)
     go_wp2_with fail
     go_meet
     case rel=>exact⟨rfl,below_drewN (Below.refl _ _) _⟩
    case rest =>
     obtain⟨hs6,HBx⟩:=hcut
     subst hs6
     have hzx:=HBx.out.size
     have HBwx:Hid (Below w.heap.size w wc):=HB.out.trans (HBx.out.mono HB.out.size)
     have HXx:Hid (wc.heap[w.heap.size]? = some (.cells #[.int .i64 ts,.slice ta te.length tc] 49 (0,0))):=(HBx.out.block _ hzr).trans HX.out
     have HOx:Hid (thE.Own 49 noneT wc (w.heap.size+1) u5 (A k)):=HO.out.below HBx.out
     have HVo:Hid (∀ j,u5.ownBlock=some j→w.heap.size+1≤j∧j < wc.heap.size):=own_vlt HOx.out
     have hzc:=lt_of_block HXx.out
     have HRx:Hid (∀ W (v:Value),Below w.heap.size w W→(∀ j,v.ownBlock=some j→w.heap.size+1≤j)→thE.R (World.hide W (hid noneT v)) ⟨xs,xe⟩ [.int .i64 xs,.slice xa xe.length xc]):=fun W v hW hv=>⟨xa,xc,rfl,SigsIn.keep (hide_old hW (hid_noneT fun j hj=>by have:=hv j hj;omega)) HXe.out⟩
     have HRt:Hid (∀ W (v:Value),Below w.heap.size w W→(∀ j,v.ownBlock=some j→w.heap.size+1≤j)→thE.R (World.hide W (hid noneT v)) ⟨ts,te⟩ [.int .i64 ts,.slice ta te.length tc]):=fun W v hW hv=>⟨ta,tc,rfl,SigsIn.keep (hide_old hW (hid_noneT fun j hj=>by have:=hv j hj;omega)) HT.out⟩
     obtain⟨d0,d1,d2,d3⟩:=HC.out wc HBx.out
     clear c0 c1 c2 c3 HC HLt HF1 HF2 HF3 HBx
     cases b6 with
     | false =>
      obtain⟨hD,hA⟩:=HS1.out HB6.out
      have HD2:=Lib.hid hD
      have HA2:=Lib.hid hA
      clear hD hA HS1 HS2 HB6
      go_wp2_with (at_builtin;go_must (refine own_addE (E:=thE) elemTH _ rfl (.tmp 69) (.tmp 74) rfl noneT (w.heap.size+1) _ rfl HOx.out ⟨xs,xe⟩ [.int .i64 xs,.slice xa xe.length xc] (HRx.out _ _ HBwx.out fun j hj=>(HVo.out j hj).1) _ _ rfl rfl (A k).length rfl (by omega) (by omega) ?_))
      intro g7 cap7 w7 ho7 hg7 hat7
      have HO9:Hid (thE.Own 49 noneT w7 (w.heap.size+1) (.slice (some ⟨g7,0,none⟩) ((A k).length+1) cap7) (A (k+1))):=by show thE.Own _ _ _ _ _ _;rw[HA2.out];exact ho7
      have HX9:Hid (w7.heap[w.heap.size]? = some (.cells #[.int .i64 ts,.slice ta te.length tc] 49 (0,0))):=(hg7.block _ hzc (fun e'=>by have:=(HVo.out _ e'.symm).1;omega)).trans HXx.out
      have HB9:Hid (Below w.heap.size w w7):=below_growF HBwx.out hg7 fun j hj=>by have:=(HVo.out j hj).1;omega
      clear ho7 hg7 hat7 d0 d1 d2 d3
      go_wp2_with fail
      go_roundw
      case rel=>exact⟨k+1,by go_num,by omega,by rw[HD2.out],HO9.out,HX9.out,HB9.out⟩
      case measure=>(simp[intOf];try omega)
     | true =>
      obtain⟨hD,hA⟩:=HS2.out HB6.out
      have HD2:=Lib.hid hD
      have HA2:=Lib.hid hA
      clear hD hA HS1 HS2 HB6
      go_wp2_with (at_builtin;go_must (refine own_addE (E:=thE) elemTH _ rfl (.tmp 47) (.tmp 49) rfl noneT (w.heap.size+1) _ rfl HOx.out ⟨ts,te⟩ [.int .i64 ts,.slice ta te.length tc] (HRt.out _ _ HBwx.out fun j hj=>(HVo.out j hj).1) _ _ rfl rfl (A k).length rfl (by omega) (by omega) ?_))
      intro g7 cap7 w7 ho7 hg7 hat7
      have HO7:Hid (thE.Own 49 noneT w7 (w.heap.size+1) (.slice (some ⟨g7,0,none⟩) ((A k).length+1) cap7) (A k++[⟨ts,te⟩])):=ho7
      have HX7:Hid (w7.heap[w.heap.size]? = some (.cells #[.int .i64 ts,.slice ta te.length tc] 49 (0,0))):=(hg7.block _ hzc (fun e'=>by have:=(HVo.out _ e'.symm).1;omega)).trans HXx.out
      have HB7:Hid (Below w.heap.size w w7):=below_growF HBwx.out hg7 fun j hj=>by have:=(HVo.out j hj).1;omega
      have HV7:Hid (∀ j,(Value.slice (some ⟨g7,0,none⟩) ((A k).length+1) cap7).ownBlock=some j→w.heap.size+1≤j∧j < w7.heap.size):=own_vlt HO7.out
      have hz7:=lt_of_block HX7.out
      have HL7:Hid ((A k++[⟨ts,te⟩]:List ThrD).length=(A k).length+1):=by show _=_;simp
      clear ho7 hg7 hat7 d0 d1 d2 d3 HOx HXx HVo hzc
      obtain⟨e2,e3⟩:=HCl.out w7 HB7.out
      obtain⟨e0,e1,-⟩:=cell2H HX7.out
      obtain⟨b9,hb9⟩:∃ b9,decide (ft=0)=b9:=⟨_,rfl⟩
      rw[hb9] at HA2
      have HB9e:=Lib.hid hb9
      clear hb9
      have HC7:Hid (∀ W,Below w7.heap.size w7 W→W.cell? ⟨w.heap.size,0,none⟩=some (.int .i64 ts)∧W.cell? ⟨w.heap.size,1,none⟩=some (.slice ta te.length tc)∧W.cell? ⟨bl,ol+k * 2,none⟩=some (.int .i64 xs)∧W.cell? ⟨bl,ol+k * 2+1,none⟩=some (.slice xa xe.length xc)):=fun W hW=>⟨keeps_of_below hW _ _ e0,keeps_of_below hW _ _ e1,keeps_of_below hW _ _ e2,keeps_of_below hW _ _ e3⟩
      go_upto_region 9 with fail
      go_cut [68] from 51 to 68 (fun s wx=>s=.bool b9∧Hid (Below w7.heap.size w7 wx))
      case first =>
       by_cases heq:xs=ts
       ·have hq:(ts == xs)=true:=by simpa using heq.symm
        have hv:pB (te=xe)=b9:=by
         rw[← HB9e.out]
         by_cases h:te=xe
         ·rw[pB_true h,decide_eq_true (HF4.out.2 ⟨heq,h⟩)]
         ·rw[pB_false h,decide_eq_false (fun h2=>h (HF4.out.1 h2).2)]
        have HSm2:Hid (∀ W,Below w7.heap.size w7 W→Calls Tryz.prog 55 #[.slice ta te.length tc,.slice xa xe.length xc] W fun e w'=>e=.returned (.bool b9)∧Below w7.heap.size w7 w'):=fun W hW=>(HSm.out W (HB7.out.trans (hW.mono HB7.out.size))).mono fun e w' h=>⟨by rw[h.1,hv],hW.trans (h.2.mono hW.size)⟩
        clear heq hv
        go_region_held3 (fun W=>Below w7.heap.size w7 W∧(W.cell? ⟨w.heap.size,0,none⟩=some (.int .i64 ts)∧W.cell? ⟨w.heap.size,1,none⟩=some (.slice ta te.length tc)∧W.cell? ⟨bl,ol+k * 2,none⟩=some (.int .i64 xs)∧W.cell? ⟨bl,ol+k * 2+1,none⟩=some (.slice xa xe.length xc)))
         ((refine(fun h=>⟨h,HC7.out _ h⟩) ?_;first | with_reducible assumption | exact belR))
         (first | (go_at_call 55;(with_reducible refine(HSm2.out _ (by first | with_reducible assumption | exact belR)).mono ?_);rintro e w9 ⟨rfl,hb9⟩))
        all_goals
         have HB9:Hid (Below w7.heap.size w7 w9):=hb9
         clear hb9
         go_wp2_with fail
         go_meet
         case rel=>exact⟨rfl,HB9.out⟩
       ·have hq:(ts == xs)=false:=by simp;omega
        obtain rfl:b9=false:=by rw[← HB9e.out];exact decide_eq_false (fun h=>heq (HF4.out.1 h).1)
        clear heq
        go_quiet (fail)
        go_wp2_with fail
        go_meet
        case rel=>exact⟨rfl,below_drewN (Below.refl _ _) _⟩
      case rest =>
       (try rename World=>wd)
       obtain⟨hs9,HBd⟩:=hcut
       subst hs9
       have hzd:=HBd.out.size
       have HBwd:Hid (Below w.heap.size w wd):=HB7.out.trans (HBd.out.mono HB7.out.size)
       have HXd:Hid (wd.heap[w.heap.size]? = some (.cells #[.int .i64 ts,.slice ta te.length tc] 49 (0,0))):=(HBd.out.block _ hz7).trans HX7.out
       have HOd:Hid (thE.Own 49 noneT wd (w.heap.size+1) (.slice (some ⟨g7,0,none⟩) ((A k).length+1) cap7) (A k++[⟨ts,te⟩])):=HO7.out.below HBd.out
       obtain⟨f0,f1,f2,f3⟩:=HC7.out wd HBd.out
       have hzdd:=lt_of_block HXd.out
       clear e0 e1 e2 e3 HC7 HBd
       cases b9 with
       | true =>
        have HO9:Hid (thE.Own 49 noneT wd (w.heap.size+1) (.slice (some ⟨g7,0,none⟩) ((A k).length+1) cap7) (A (k+1))):=by show thE.Own _ _ _ _ _ _;rw[HA2.out];exact HOd.out
        clear f0 f1 f2 f3
        go_wp2_with fail
        go_roundw
        case rel=>exact⟨k+1,by go_num,by omega,by rw[HD2.out],HO9.out,HXd.out,HBwd.out⟩
        case measure=>(simp[intOf];try omega)
       | false =>
        have HA3:Hid (A (k+1)=A k++[⟨ts,te⟩]++[⟨xs,xe⟩]):=HA2.out
        go_wp2_with (at_builtin;go_must (refine own_addE (E:=thE) elemTH _ rfl (.tmp 69) (.tmp 74) rfl noneT (w.heap.size+1) _ rfl HOd.out ⟨xs,xe⟩ [.int .i64 xs,.slice xa xe.length xc] (HRx.out _ _ HBwd.out fun j hj=>(HV7.out j hj).1) _ _ rfl rfl ((A k).length+1) HL7.out (by omega) (by omega) ?_))
        intro g8 cap8 w8 ho8 hg8 hat8
        have HO9:Hid (thE.Own 49 noneT w8 (w.heap.size+1) (.slice (some ⟨g8,0,none⟩) ((A k).length+1+1) cap8) (A (k+1))):=by show thE.Own _ _ _ _ _ _;rw[HA3.out,List.append_assoc];exact ho8
        have HX9:Hid (w8.heap[w.heap.size]? = some (.cells #[.int .i64 ts,.slice ta te.length tc] 49 (0,0))):=(hg8.block _ hzdd (fun e'=>by have:=(HV7.out _ e'.symm).1;omega)).trans HXd.out
        have HB9:Hid (Below w.heap.size w w8):=below_growF HBwd.out hg8 fun j hj=>by have:=(HV7.out j hj).1;omega
        clear ho8 hg8 hat8 f0 f1 f2 f3
        go_wp2_with fail
        go_roundw
        case rel=>exact⟨k+1,by go_num,by omega,by rw[HD2.out],HO9.out,HX9.out,HB9.out⟩
        case measure=>(simp[intOf];try omega)
   | false =>
    go_upto_region 6 with fail
    go_cut [46] from 14 to 46 (fun s wx=>s=.bool b6∧Hid (Below wr.heap.size wr wx))
    case first =>
     have HB7:Hid (decide (0≤ft)=b6):=by
      show _=_
      rw[← HB6.out];rfl
     by_cases hlt1:ts < xs
     ·obtain rfl:b6=true:=by rw[← HB7.out];exact decide_eq_true (by have:=HF2.out hlt1;omega)
      have hd1:decide (ts < xs)=true:=decide_eq_true hlt1
      go_quiet (fail)
      go_wp2_with fail
      go_meet
      case rel=>exact⟨rfl,below_drewN (Below.refl _ _) _⟩
     ·have hd1:decide (ts < xs)=false:=decide_eq_false hlt1
      by_cases heq:xs=ts
      ·have HF5:=Lib.hid (HF3.out heq)
       have hq:(ts == xs)=true:=by simpa using heq.symm
       have HB8:Hid ((!decide (cmpEnv xe te < 0))=b6):=by
        show _=_
        rw[← HB7.out,HF5.out,← decide_not];exact decide_eq_decide.2 (by omega)
       generalize decide (cmpEnv xe te < 0)=lt at HB8 HLt
       obtain rfl:=HB8.out
       clear heq
       go_region_held3 (fun W=>Below wr.heap.size wr W∧(W.cell? ⟨w.heap.size,0,none⟩=some (.int .i64 ts)∧W.cell? ⟨w.heap.size,1,none⟩=some (.slice ta te.length tc)∧W.cell? ⟨bl,ol+k * 2,none⟩=some (.int .i64 xs)∧W.cell? ⟨bl,ol+k * 2+1,none⟩=some (.slice xa xe.length xc)))
        ((refine(fun h=>⟨h,HC.out _ h⟩) ?_;first | with_reducible assumption | exact belR))
        (first | (go_at_call 109;(with_reducible refine(HLt.out _ (by first | with_reducible assumption | exact belR)).mono ?_);rintro e w5 ⟨rfl,hb5⟩))
       all_goals
        have HB5:Hid (Below wr.heap.size wr w5):=hb5
        clear hb5
        go_wp2_with fail
        go_meet
        case rel=>exact⟨rfl,HB5.out⟩
      ·obtain rfl:b6=false:=by rw[← HB7.out];exact decide_eq_false (by have:=HF1.out (by omega);omega)
       have hq:(ts == xs)=false:=by simp;omega
       clear heq
       go_quiet (fail)
       go_wp2_with fail
       go_meet
       case rel=>exact⟨rfl,below_drewN (Below.refl _ _) _⟩
    case rest =>
     obtain⟨hs6,HBx⟩:=hcut
     subst hs6
     have hzx:=HBx.out.size
     have HBwx:Hid (Below w.heap.size w wc):=HB.out.trans (HBx.out.mono HB.out.size)
     have HXx:Hid (wc.heap[w.heap.size]? = some (.cells #[.int .i64 ts,.slice ta te.length tc] 49 (0,0))):=(HBx.out.block _ hzr).trans HX.out
     have HOx:Hid (thE.Own 49 noneT wc (w.heap.size+1) u5 (A k)):=HO.out.below HBx.out
     have HVo:Hid (∀ j,u5.ownBlock=some j→w.heap.size+1≤j∧j < wc.heap.size):=own_vlt HOx.out
     have hzc:=lt_of_block HXx.out
     have HRx:Hid (∀ W (v:Value),Below w.heap.size w W→(∀ j,v.ownBlock=some j→w.heap.size+1≤j)→thE.R (World.hide W (hid noneT v)) ⟨xs,xe⟩ [.int .i64 xs,.slice xa xe.length xc]):=fun W v hW hv=>⟨xa,xc,rfl,SigsIn.keep (hide_old hW (hid_noneT fun j hj=>by have:=hv j hj;omega)) HXe.out⟩
     have HRt:Hid (∀ W (v:Value),Below w.heap.size w W→(∀ j,v.ownBlock=some j→w.heap.size+1≤j)→thE.R (World.hide W (hid noneT v)) ⟨ts,te⟩ [.int .i64 ts,.slice ta te.length tc]):=fun W v hW hv=>⟨ta,tc,rfl,SigsIn.keep (hide_old hW (hid_noneT fun j hj=>by have:=hv j hj;omega)) HT.out⟩
     obtain⟨d0,d1,d2,d3⟩:=HC.out wc HBx.out
     clear c0 c1 c2 c3 HC HLt HF1 HF2 HF3 HBx
     cases b6 with
     | false =>
      obtain⟨hD,hA⟩:=HS1.out HB6.out
      have HD2:=Lib.hid hD
      have HA2:=Lib.hid hA
      clear hD hA HS1 HS2 HB6
      go_wp2_with (at_builtin;go_must (refine own_addE (E:=thE) elemTH _ rfl (.tmp 69) (.tmp 74) rfl noneT (w.heap.size+1) _ rfl HOx.out ⟨xs,xe⟩ [.int .i64 xs,.slice xa xe.length xc] (HRx.out _ _ HBwx.out fun j hj=>(HVo.out j hj).1) _ _ rfl rfl (A k).length rfl (by omega) (by omega) ?_))
      intro g7 cap7 w7 ho7 hg7 hat7
      have HO9:Hid (thE.Own 49 noneT w7 (w.heap.size+1) (.slice (some ⟨g7,0,none⟩) ((A k).length+1) cap7) (A (k+1))):=by show thE.Own _ _ _ _ _ _;rw[HA2.out];exact ho7
      have HX9:Hid (w7.heap[w.heap.size]? = some (.cells #[.int .i64 ts,.slice ta te.length tc] 49 (0,0))):=(hg7.block _ hzc (fun e'=>by have:=(HVo.out _ e'.symm).1;omega)).trans HXx.out
      have HB9:Hid (Below w.heap.size w w7):=below_growF HBwx.out hg7 fun j hj=>by have:=(HVo.out j hj).1;omega
      clear ho7 hg7 hat7 d0 d1 d2 d3
      go_wp2_with fail
      go_roundw
      case rel=>exact⟨k+1,by go_num,by omega,by rw[HD2.out],HO9.out,HX9.out,HB9.out⟩
      case measure=>(simp[intOf];try omega)
     | true =>
      obtain⟨hD,hA⟩:=HS2.out HB6.out
      have HD2:=Lib.hid hD
      have HA2:=Lib.hid hA
      clear hD hA HS1 HS2 HB6
      go_wp2_with (at_builtin;go_must (refine own_addE (E:=thE) elemTH _ rfl (.tmp 47) (.tmp 49) rfl noneT (w.heap.size+1) _ rfl HOx.out ⟨ts,te⟩ [.int .i64 ts,.slice ta te.length tc] (HRt.out _ _ HBwx.out fun j hj=>(HVo.out j hj).1) _ _ rfl rfl (A k).length rfl (by omega) (by omega) ?_))
      intro g7 cap7 w7 ho7 hg7 hat7
      have HO7:Hid (thE.Own 49 noneT w7 (w.heap.size+1) (.slice (some ⟨g7,0,none⟩) ((A k).length+1) cap7) (A k++[⟨ts,te⟩])):=ho7
      have HX7:Hid (w7.heap[w.heap.size]? = some (.cells #[.int .i64 ts,.slice ta te.length tc] 49 (0,0))):=(hg7.block _ hzc (fun e'=>by have:=(HVo.out _ e'.symm).1;omega)).trans HXx.out
      have HB7:Hid (Below w.heap.size w w7):=below_growF HBwx.out hg7 fun j hj=>by have:=(HVo.out j hj).1;omega
      have HV7:Hid (∀ j,(Value.slice (some ⟨g7,0,none⟩) ((A k).length+1) cap7).ownBlock=some j→w.heap.size+1≤j∧j < w7.heap.size):=own_vlt HO7.out
      have hz7:=lt_of_block HX7.out
      have HL7:Hid ((A k++[⟨ts,te⟩]:List ThrD).length=(A k).length+1):=by show _=_;simp
      clear ho7 hg7 hat7 d0 d1 d2 d3 HOx HXx HVo hzc
      obtain⟨e2,e3⟩:=HCl.out w7 HB7.out
      obtain⟨e0,e1,-⟩:=cell2H HX7.out
      obtain⟨b9,hb9⟩:∃ b9,decide (ft=0)=b9:=⟨_,rfl⟩
      rw[hb9] at HA2
      have HB9e:=Lib.hid hb9
      clear hb9
      have HC7:Hid (∀ W,Below w7.heap.size w7 W→W.cell? ⟨w.heap.size,0,none⟩=some (.int .i64 ts)∧W.cell? ⟨w.heap.size,1,none⟩=some (.slice ta te.length tc)∧W.cell? ⟨bl,ol+k * 2,none⟩=some (.int .i64 xs)∧W.cell? ⟨bl,ol+k * 2+1,none⟩=some (.slice xa xe.length xc)):=fun W hW=>⟨keeps_of_below hW _ _ e0,keeps_of_below hW _ _ e1,keeps_of_below hW _ _ e2,keeps_of_below hW _ _ e3⟩
      go_upto_region 9 with fail
      go_cut [68] from 51 to 68 (fun s wx=>s=.bool b9∧Hid (Below w7.heap.size w7 wx))
      case first =>
       by_cases heq:xs=ts
       ·have hq:(ts == xs)=true:=by simpa using heq.symm
        have hv:pB (te=xe)=b9:=by
         rw[← HB9e.out]
         by_cases h:te=xe
         ·rw[pB_true h,decide_eq_true (HF4.out.2 ⟨heq,h⟩)]
         ·rw[pB_false h,decide_eq_false (fun h2=>h (HF4.out.1 h2).2)]
        have HSm2:Hid (∀ W,Below w7.heap.size w7 W→Calls Tryz.prog 55 #[.slice ta te.length tc,.slice xa xe.length xc] W fun e w'=>e=.returned (.bool b9)∧Below w7.heap.size w7 w'):=fun W hW=>(HSm.out W (HB7.out.trans (hW.mono HB7.out.size))).mono fun e w' h=>⟨by rw[h.1,hv],hW.trans (h.2.mono hW.size)⟩
        clear heq hv
        go_region_held3 (fun W=>Below w7.heap.size w7 W∧(W.cell? ⟨w.heap.size,0,none⟩=some (.int .i64 ts)∧W.cell? ⟨w.heap.size,1,none⟩=some (.slice ta te.length tc)∧W.cell? ⟨bl,ol+k * 2,none⟩=some (.int .i64 xs)∧W.cell? ⟨bl,ol+k * 2+1,none⟩=some (.slice xa xe.length xc)))
         ((refine(fun h=>⟨h,HC7.out _ h⟩) ?_;first | with_reducible assumption | exact belR))
         (first | (go_at_call 55;(with_reducible refine(HSm2.out _ (by first | with_reducible assumption | exact belR)).mono ?_);rintro e w9 ⟨rfl,hb9⟩))
        all_goals
         have HB9:Hid (Below w7.heap.size w7 w9):=hb9
         clear hb9
         go_wp2_with fail
         go_meet
         case rel=>exact⟨rfl,HB9.out⟩
       ·have hq:(ts == xs)=false:=by simp;omega
        obtain rfl:b9=false:=by rw[← HB9e.out];exact decide_eq_false (fun h=>heq (HF4.out.1 h).1)
        clear heq
        go_quiet (fail)
        go_wp2_with fail
        go_meet
        case rel=>exact⟨rfl,below_drewN (Below.refl _ _) _⟩
      case rest =>
       (try rename World=>wd)
       obtain⟨hs9,HBd⟩:=hcut
       subst hs9
       have hzd:=HBd.out.size
       have HBwd:Hid (Below w.heap.size w wd):=HB7.out.trans (HBd.out.mono HB7.out.size)
       have HXd:Hid (wd.heap[w.heap.size]? = some (.cells #[.int .i64 ts,.slice ta te.length tc] 49 (0,0))):=(HBd.out.block _ hz7).trans HX7.out
       have HOd:Hid (thE.Own 49 noneT wd (w.heap.size+1) (.slice (some ⟨g7,0,none⟩) ((A k).length+1) cap7) (A k++[⟨ts,te⟩])):=HO7.out.below HBd.out
       obtain⟨f0,f1,f2,f3⟩:=HC7.out wd HBd.out
       have hzdd:=lt_of_block HXd.out
       clear e0 e1 e2 e3 HC7 HBd
       cases b9 with
       | true =>
        have HO9:Hid (thE.Own 49 noneT wd (w.heap.size+1) (.slice (some ⟨g7,0,none⟩) ((A k).length+1) cap7) (A (k+1))):=by show thE.Own _ _ _ _ _ _;rw[HA2.out];exact HOd.out
        clear f0 f1 f2 f3
        go_wp2_with fail
        go_roundw
        case rel=>exact⟨k+1,by go_num,by omega,by rw[HD2.out],HO9.out,HXd.out,HBwd.out⟩
        case measure=>(simp[intOf];try omega)
       | false =>
        have HA3:Hid (A (k+1)=A k++[⟨ts,te⟩]++[⟨xs,xe⟩]):=HA2.out
        go_wp2_with (at_builtin;go_must (refine own_addE (E:=thE) elemTH _ rfl (.tmp 69) (.tmp 74) rfl noneT (w.heap.size+1) _ rfl HOd.out ⟨xs,xe⟩ [.int .i64 xs,.slice xa xe.length xc] (HRx.out _ _ HBwd.out fun j hj=>(HV7.out j hj).1) _ _ rfl rfl ((A k).length+1) HL7.out (by omega) (by omega) ?_))
        intro g8 cap8 w8 ho8 hg8 hat8
        have HO9:Hid (thE.Own 49 noneT w8 (w.heap.size+1) (.slice (some ⟨g8,0,none⟩) ((A k).length+1+1) cap8) (A (k+1))):=by show thE.Own _ _ _ _ _ _;rw[HA3.out,List.append_assoc];exact ho8
        have HX9:Hid (w8.heap[w.heap.size]? = some (.cells #[.int .i64 ts,.slice ta te.length tc] 49 (0,0))):=(hg8.block _ hzdd (fun e'=>by have:=(HV7.out _ e'.symm).1;omega)).trans HXd.out
        have HB9:Hid (Below w.heap.size w w8):=below_growF HBwd.out hg8 fun j hj=>by have:=(HV7.out j hj).1;omega
        clear ho8 hg8 hat8 f0 f1 f2 f3
        go_wp2_with fail
        go_roundw
        case rel=>exact⟨k+1,by go_num,by omega,by rw[HD2.out],HO9.out,HX9.out,HB9.out⟩
        case measure=>(simp[intOf];try omega)
  ·obtain rfl:k=l.length:=by omega
   have HVo:Hid (∀ j,u5.ownBlock=some j→w.heap.size+1≤j∧j < wr.heap.size):=own_vlt HO.out
   cases hDk:D l.length with
   | true =>
    have HP1:Hid (∀ a c W,thE.In W (A l.length) a c→Below w.heap.size w W→Po (.returned (.slice a (A l.length).length c)) W):=by
     have h:=HPo.out
     rw[if_pos hDk] at h
     exact h
    rw[hDk] at *
    obtain⟨ao,co,hov,hin⟩:=HO.out.slice (by omega)
    subst hov
    have HF:=Lib.hid (HP1.out _ _ _ hin HB.out)
    clear HPo hin
    go_wp2_with fail
    first | exact HF.out | (go_ret2;exact HF.out)
   | false =>
    have HP1:Hid (∀ a c W,thE.In W (A l.length++[t]) a c→Below w.heap.size w W→Po (.returned (.slice a (A l.length++[t]).length c)) W):=by
     have h:=HPo.out
     rw[if_neg (by rw[hDk];simp)] at h
     exact h
    rw[hDk] at *
    have HRt:Hid (thE.R (World.hide wr (hid noneT u5)) t [.int .i64 t.state,.slice ta t.env.length tc]):=⟨ta,tc,rfl,SigsIn.keep (hide_old HB.out (hid_noneT fun j hj=>by have:=(HVo.out j hj).1;omega)) HT.out⟩
    obtain⟨c0,c1,-⟩:=cell2H HX.out
    clear HPo
    go_wp2_with (at_builtin;go_must (refine own_addE (E:=thE) elemTH _ rfl (.tmp 78) (.tmp 80) rfl noneT (w.heap.size+1) _ rfl HO.out t [.int .i64 t.state,.slice ta t.env.length tc] HRt.out _ _ rfl rfl (A l.length).length rfl (by omega) (by omega) ?_))
    intro g7 cap7 w7 ho7 hg7 hat7
    have HL7:(A l.length++[t]:List ThrD).length=(A l.length).length+1:=by simp
    obtain⟨ao,co,hov,hin⟩:=ho7.slice (by rw[HL7];omega)
    have HF:=Lib.hid (HP1.out _ _ _ hin (below_growF HB.out hg7 fun j hj=>by have:=(HVo.out j hj).1;omega))
    rw[← hov] at HF
    clear ho7 hg7 hat7 hin hov HL7
    go_wp2_with fail
    first | exact HF.out | (go_ret2;exact HF.out)
end Go.Proofs.YthojpomoflhbcaaGreatDoor
