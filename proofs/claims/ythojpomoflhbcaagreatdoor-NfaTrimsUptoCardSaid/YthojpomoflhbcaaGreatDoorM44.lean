/- law41: same, NfaTrims; law35: Few. -/
import Derived.Test.YthojpomoflhbcaaGreatDoorM43
import Derived.Test.YthojpomoflhbcaaGreatDoorM35
import Derived.Test.YthojpomoflhbcaaGreatDoorM36
import Derived.Test.YthojpomoflhbcaaGreatDoorM38
import Derived.Test.YthojpomoflhbcaaGreatDoorM10
set_option linter.unusedSimpArgs false
set_option linter.unusedVariables false
set_option linter.unnecessarySimpa false
namespace Go.Proofs.YthojpomoflhbcaaGreatDoor
open Go.RowKit
attribute [local go_sem ↓] Go.wp_at_zero Go.wp_at_succ
set_option maxHeartbeats 4000000 in
set_option maxRecDepth 100000 in
theorem sameL_eq (l:List (List Sg)) (a1:Option Addr) (c1:Nat) (a2:Option Addr) (c2:Nat) (w:World) (h1:envE.In w l a1 c1) (h2:envE.In w l a2 c2) :
  Calls Tryz.prog 31 #[.slice a1 l.length c1,.slice a2 l.length c2] w (BoolRet true w):=by
 have HE:=Lib.hid h1
 have HE2:=Lib.hid h2
 have HA:Hid (l.length=0∨∃ b off,a1=some ⟨b,off,none⟩):=h1.addr
 have HA2:Hid (l.length=0∨∃ b off,a2=some ⟨b,off,none⟩):=h2.addr
 have hlen:=h1.len
 have HYes:Hid (∀ W,Below w.heap.size w W→BoolRet true w (.returned (.bool true)) W):=fun W hW=>⟨rfl,hW⟩
 generalize BoolRet true w=Po at HYes⊢
 clear h1 h2
 go_enter Tryz.func31, Tryz.ntmps31
 go_wp2_with fail
 go_loopw [5] (fun i wr=>∃ k:Nat,i=.int .i64 k∧k≤l.length∧Hid (Below w.heap.size w wr)) (fun i _=>l.length - (intOf i).toNat)
 case atStart=>exact⟨0,rfl,Nat.zero_le _,Below.refl _ _⟩
 case round =>
  (try rename World=>wr)
  obtain⟨k,rfl,hk,HB⟩:=hrel
  by_cases hlt:k < l.length
  ·obtain⟨b,off,ha⟩:=HA.out.resolve_left (by omega)
   subst ha
   obtain⟨b2,off2,ha2⟩:=HA2.out.resolve_left (by omega)
   subst ha2
   obtain⟨ta,tc,p1,hp⟩:=envE_get (HE.out.keep (keeps_of_below HB.out)) rfl hlt
   obtain⟨sa,sc,q1,hq⟩:=envE_get (HE2.out.keep (keeps_of_below HB.out)) rfl hlt
   generalize (l[k]'hlt)=t at p1 q1 hp hq
   have HS:Hid (∀ W,Below wr.heap.size wr W→Calls Tryz.prog 55 #[.slice ta t.length tc,.slice sa t.length sc] W fun e w'=>e=.returned (.bool true)∧Below wr.heap.size wr w'):=fun W hW=>(rsameEnv_any t t ta tc sa sc W (SigsIn.keep (keeps_of_below hW) hp) (SigsIn.keep (keeps_of_below hW) hq)).mono fun e w' h=>⟨by rw[h.1,pB_self],hW.trans (h.2.mono hW.size)⟩
   have hkl:(k:Int) < l.length:=by omega
   have HC:Hid (∀ W,Below wr.heap.size wr W→W.cell? ⟨b,off+k,none⟩=some (.slice ta t.length tc)∧W.cell? ⟨b2,off2+k,none⟩=some (.slice sa t.length sc)):=fun W hW=>⟨keeps_of_below hW _ _ p1,keeps_of_below hW _ _ q1⟩
   clear hp hq
   go_wp2_with fail
   go_region_held3 (fun W=>Below wr.heap.size wr W∧(W.cell? ⟨b,off+k,none⟩=some (.slice ta t.length tc)∧W.cell? ⟨b2,off2+k,none⟩=some (.slice sa t.length sc)))
    ((refine(fun h=>⟨h,HC.out _ h⟩) ?_;first | with_reducible assumption | exact belR))
    (first | (go_at_call 55;(with_reducible refine(HS.out _ (by first | with_reducible assumption | exact belR)).mono ?_);rintro e w5 ⟨rfl,hb5⟩))
   all_goals
    have HB9:Hid (Below w.heap.size w w5):=HB.out.trans (Below.mono hb5 HB.out.size)
    clear hb5
    go_wp2_with fail
    go_roundw
    case rel=>exact⟨k+1,by go_num,by omega,HB9.out⟩
    case measure=>(simp[intOf];try omega)
  ·obtain rfl:k=l.length:=by omega
   have HN:=Lib.hid (HYes.out _ HB.out)
   go_wp2_with fail
   first | exact HN.out | (go_ret2;exact HN.out)
def SmWav (v:WavD):Prop:=v.names.length≤50∧v.rows.length≤20
set_option maxHeartbeats 4000000 in
set_option maxRecDepth 100000 in
theorem fewW_any (v:WavD) (x:WavA) (w:World) (h:WavIn w v x):Calls Tryz.prog 27 #[wavVal v x] w (BrRet (SmWav v) w):=by
 have HRs:=Lib.hid h.rs
 have HNs:=Lib.hid h.ns
 have HRa:Hid (v.rows.length=0∨∃ b off,x.ar=some ⟨b,off,none⟩):=h.rs.addr
 have HNa:Hid (v.names.length=0∨∃ b off,x.an=some ⟨b,off,none⟩):=SliceIn.addr h.ns
 have hl1:=h.ns.2.1
 have hl2:=h.rs.len
 have HNo:Hid (∀ W,Below w.heap.size w W→BrRet (SmWav v) w (.returned (.bool false)) W):=fun W hW=>⟨⟨false,rfl,fun h=>by cases h⟩,hW⟩
 have HYes:Hid (v.names.length≤50→v.rows.length≤20→∀ W,Below w.heap.size w W→BrRet (SmWav v) w (.returned (.bool true)) W):=fun h1 h2 W hW=>⟨⟨true,rfl,fun _=>⟨h1,h2⟩⟩,hW⟩
 generalize BrRet (SmWav v) w=Po at HNo HYes⊢
 rw[wavVal_eq]
 obtain⟨ns,rs⟩:=v
 obtain⟨an,cn,ar,cr⟩:=x
 simp only at HRs HNs HRa HNa hl1 hl2 HYes⊢
 clear h
 go_enter Tryz.func27, Tryz.ntmps27
 go_upto_region 1 with fail
 generalize hW2:World.alloc w _=W2
 have HB2:Hid (Below w.heap.size w W2):=by show Below _ _ _;rw[← hW2];exact(Below.refl _ _).alloc (Nat.le_refl _) _
 have HX2:Hid (W2.heap[w.heap.size]? = some (.cells #[.slice an ns.length cn,.slice ar rs.length cr] 54 (0,0))):=by show _=_;rw[← hW2];exact hx_newT rfl
 clear hW2
 obtain⟨b0,b1,-⟩:=cell2H HX2.out
 have HF:=Lib.hid (HNo.out W2 HB2.out)
 by_cases h1:ns.length≤50
 ·have h1I:¬ (50:Int) < ns.length:=by omega
  by_cases h2:rs.length≤20
  ·have h2I:¬ (20:Int) < rs.length:=by omega
   have HF1:=Lib.hid (HYes.out h1 h2 W2 HB2.out)
   go_wp2_with fail
   go_loop [3] (fun i=>∃ k:Nat,i=.int .i64 k∧k≤ns.length) (fun i=>ns.length - (intOf i).toNat)
   case atStart=>exact⟨0,rfl,Nat.zero_le _⟩
   case round =>
    obtain⟨k,rfl,hk⟩:=hrel
    by_cases hlt:k < ns.length
    ·have hkl:(k:Int) < ns.length:=by omega
     obtain⟨b,off,ha⟩:=HNa.out.resolve_left (by omega)
     subst ha
     have g0:=StrsIn.get (StrsIn.keep (keeps_of_below HB2.out) HNs.out) rfl hlt
     generalize (ns[k]'hlt)=nm at g0
     by_cases hs:nm.size≤40
     ·have hsI:¬ ((40:Int) < (nm.size:Int)):=by omega
      go_wp2_with fail
      go_round
      case rel=>exact⟨k+1,by go_num,by omega⟩
      case measure=>(simp[intOf];try omega)
     ·have hsI:((40:Int) < (nm.size:Int)):=by omega
      go_wp2_with fail
      first | exact HF.out | (go_ret2;exact HF.out)
    ·have hkl:¬ (k:Int) < ns.length:=by omega
     go_wp2_with fail
     go_loop [4] (fun i=>∃ k:Nat,i=.int .i64 k∧k≤rs.length) (fun i=>rs.length - (intOf i).toNat)
     case atStart=>exact⟨0,rfl,Nat.zero_le _⟩
     case round =>
      obtain⟨m,rfl,hm⟩:=hrel
      by_cases hltm:m < rs.length
      ·have hml:(m:Int) < rs.length:=by omega
       obtain⟨b,off,ha⟩:=HRa.out.resolve_left (by omega)
       subst ha
       obtain⟨a',c',g0,hI⟩:=niE_get (HRs.out.keep (keeps_of_below HB2.out)) rfl hltm
       have hrl:=hI.2.1
       generalize (rs[m]'hltm)=r at g0 hrl
       clear hI
       by_cases hs:r.length≤52
       ·have hsI:¬ ((52:Int) < (r.length:Int)):=by omega
        go_wp2_with fail
        go_round
        case rel=>exact⟨m+1,by go_num,by omega⟩
        case measure=>(simp[intOf];try omega)
       ·have hsI:((52:Int) < (r.length:Int)):=by omega
        go_wp2_with fail
        first | exact HF.out | (go_ret2;exact HF.out)
      ·have hml:¬ (m:Int) < rs.length:=by omega
       go_wp2_with fail
       first | exact HF1.out | (go_ret2;exact HF1.out)
  ·have h2I:(20:Int) < rs.length:=by omega
   go_wp2_with fail
   first | exact HF.out | (go_ret2;exact HF.out)
 ·have h1I:(50:Int) < ns.length:=by omega
  go_wp2_with fail
  first | exact HF.out | (go_ret2;exact HF.out)
theorem RunM.any {r:Option (List (List (List Sg)))} {w:World} {e:Ending} (h:RunM r w e):∃ (a:Option Addr) (n c:Nat) (b:Bool),e=.returned (.tuple #[.slice a n c,.bool b]):=by
 cases r with
 | none=>exact⟨_,_,_,_,h⟩
 | some A=>obtain⟨a,c,h1,_⟩:=h;exact⟨_,_,_,_,h1⟩
theorem trim_sub {n:NfaD} {e:EdgeD} (h:e∈(trimS n).edges):∃ f∈n.edges,e.guards=f.guards∧e.sets=f.sets:=by
 unfold trimS at h
 split at h
 ·obtain⟨f,hf,rfl⟩:=List.mem_map.1 h
  exact⟨f,(List.mem_filter.1 hf).1,rfl,rfl⟩
 ·cases h
theorem SmNfa.trim {n:NfaD} (h:SmNfa n):SmallN (trimS n)∧(∀ e∈(trimS n).edges,StepEd e)∧∀ e∈(trimS n).edges,e.sets.length≤10:=by
 refine⟨fun e he=>?_,fun e he=>?_,fun e he=>?_⟩
 ·obtain⟨f,hf,h1,h2⟩:=trim_sub he
  have:=h.small f hf
  exact⟨by rw[h1];exact this.gs,by rw[h2];exact this.ss⟩
 ·obtain⟨f,hf,h1,h2⟩:=trim_sub he
  have:=h.step f hf
  exact⟨by rw[h1];exact this.gs,by rw[h2];exact this.ss,by rw[h2];exact this.sl⟩
 ·obtain⟨f,hf,_,h2⟩:=trim_sub he
  rw[h2];exact(h.2.2.2 f hf).sl
set_option maxRecDepth 100000 in
set_option maxHeartbeats 16000000 in
theorem NfaTrims_any (n:NfaD) (y:NfaA) (v:WavD) (x:WavA) (w:World) (hN:NfaIn w n y) (hV:WavIn w v x) (hG:Glob w) :
  Calls Tryz.prog 9 #[nfaVal n y,wavVal v x] w (BoolRet true w):=by
 have HSm:Hid (∀ W,Below w.heap.size w W→Calls Tryz.prog 16 #[nfaVal n y] W (BrRet (SmNfa n) W)):=fun W hW=>smallN_any n y W (hN.keep (keeps_of_below hW))
 have HFw:Hid (∀ W,Below w.heap.size w W→Calls Tryz.prog 27 #[wavVal v x] W (BrRet (SmWav v) W)):=fun W hW=>fewW_any v x W (hV.keep (keeps_of_below hW))
 have HVw:Hid (∀ W,Below w.heap.size w W→Calls Tryz.prog 28 #[wavVal v x] W (BoolRet (wavB v) W)):=fun W hW=>wvalid_any v x W (hV.keep (keeps_of_below hW))
 have HVn:Hid (SmNfa n→∀ W,Below w.heap.size w W→Calls Tryz.prog 36 #[nfaVal n y] W (BoolRet (nfaOk n) W)):=fun h W hW=>rnvalid_any n y W (hN.keep (keeps_of_below hW)) h.small
 have HAw:Hid (∀ W,Below w.heap.size w W→Calls Tryz.prog 12 #[] W fun e w'=>e=.returned (.bool true)∧Below W.heap.size W w'):=fun W hW=>awakeD_any W (hG.below hW)
 have HR1:Hid (SmNfa n→SmWav v→wavB v=true→∀ W,Below w.heap.size w W→Calls Tryz.prog 30 #[nfaVal n y,wavVal v x,.int .i64 0] W (RunRet (nrunS n (envsW v 0) [⟨0,[]⟩]) W)):=fun h1 h2 h3 W hW=>run_any n y v x 0 10 W (hN.keep (keeps_of_below hW)) (hV.keep (keeps_of_below hW)) h3 h1.small h1.step (fun e he=>(h1.2.2.2 e he).sl) (by omega) h2.2 (Nat.zero_le _) (hG.below hW)
 have HTr:Hid (SmNfa n→∀ W,Below w.heap.size w W→Calls Tryz.prog 33 #[nfaVal n y] W fun e w'=>(∃ z:NfaA,e=.returned (.agg #[.int .i64 (trimS n).states,.slice z.ae (trimS n).edges.length z.ce,.slice z.aa (trimS n).accept.length z.ca])∧NfaIn w' (trimS n) z)∧Below W.heap.size W w'):=fun h W hW =>
  (trim_any noneT n y W ((hN.keep (keeps_of_below hW)).keep hide_noneT) (fun j hj=>by cases hj) (hG.below hW) h.small).mono fun e w' ⟨⟨z,h1,h2⟩,h3⟩=>⟨⟨z,h1,h2.keep hide_cell⟩,h3⟩
 have HR2:Hid (SmNfa n→SmWav v→wavB v=true→∀ (z:NfaA) W,Below w.heap.size w W→NfaIn W (trimS n) z→Calls Tryz.prog 30 #[.agg #[.int .i64 (trimS n).states,.slice z.ae (trimS n).edges.length z.ce,.slice z.aa (trimS n).accept.length z.ca],wavVal v x,.int .i64 0] W (RunRet (nrunS (trimS n) (envsW v 0) [⟨0,[]⟩]) W)):=fun h1 h2 h3 z W hW hz=>run_any (trimS n) z v x 0 10 W hz (hV.keep (keeps_of_below hW)) h3 h1.trim.1 h1.trim.2.1 h1.trim.2.2 (by omega) h2.2 (Nat.zero_le _) (hG.below hW)
 have HEq:Hid (nfaOk n=true→∀ A,nrunS n (envsW v 0) [⟨0,[]⟩]=some A→nrunS (trimS n) (envsW v 0) [⟨0,[]⟩]=some A):=fun h A hA=>run_trim h _ hA
 have HSa:Hid (∀ (r:List (List Sg)) W a1 c1 a2 c2,envE.In W r a1 c1→envE.In W r a2 c2→Calls Tryz.prog 31 #[.slice a1 r.length c1,.slice a2 r.length c2] W fun e w'=>e=.returned (.bool true)∧Below W.heap.size W w'):=fun r W a1 c1 a2 c2 h1 h2=>sameL_eq r a1 c1 a2 c2 W h1 h2
 have HPo:Hid (∀ W,Below w.heap.size w W→BoolRet true w (.returned (.bool true)) W):=fun W hW=>⟨rfl,hW⟩
 generalize BoolRet true w=Po at HPo⊢
 generalize nrunS n (envsW v 0) [⟨0,[]⟩]=R1 at HR1 HEq
 generalize nrunS (trimS n) (envsW v 0) [⟨0,[]⟩]=R2 at HR2 HEq
 generalize trimS n=m at HTr HR2
 rw[nfaVal_eq] at HSm HVn HR1 HTr⊢
 rw[wavVal_eq] at HFw HVw HR1 HR2⊢
 clear hN hV hG
 obtain⟨xae,xce,xaa,xca⟩:=y
 obtain⟨van,vcn,var,vcr⟩:=x
 simp only at HSm HFw HVw HVn HR1 HTr HR2⊢
 unfold BoolRet at HVw HVn
 unfold RunRet at HR1 HR2
 go_enter Tryz.func9, Tryz.ntmps9
 go_upto_region 1 with fail
 generalize hW2:World.alloc (World.alloc w _) _=W2
 have HB2:Hid (Below w.heap.size w W2):=by show Below _ _ _;rw[← hW2];exact((Below.refl _ _).alloc (Nat.le_refl _) _).alloc (by simp) _
 have HX2:Hid (W2.heap[w.heap.size]? = some (.cells #[.int .i64 n.states,.slice xae n.edges.length xce,.slice xaa n.accept.length xca] 33 (0,0))):=by show _=_;rw[← hW2];exact hx_oldT (hx_newT rfl)
 have HY2:Hid (W2.heap[w.heap.size+1]? = some (.cells #[.slice van v.names.length vcn,.slice var v.rows.length vcr] 54 (0,0))):=by show _=_;rw[← hW2];exact hx_newT (by simp)
 have hz2:w.heap.size+2≤W2.heap.size:=by rw[← hW2];simp
 clear hW2
 have HXw:Hid (∀ W,Below W2.heap.size W2 W→(W.cell? ⟨w.heap.size,0,none⟩=some (.int .i64 n.states)∧W.cell? ⟨w.heap.size,1,none⟩=some (.slice xae n.edges.length xce)∧W.cell? ⟨w.heap.size,2,none⟩=some (.slice xaa n.accept.length xca))∧W.cell? ⟨w.heap.size+1,0,none⟩=some (.slice van v.names.length vcn)∧W.cell? ⟨w.heap.size+1,1,none⟩=some (.slice var v.rows.length vcr)):=fun W hW=>by
  obtain⟨y0,y1,-⟩:=cell2H ((hW.block _ (by omega)).trans HY2.out)
  exact⟨cell3T ((hW.block _ (by omega)).trans HX2.out),y0,y1⟩
 obtain⟨⟨b0,b1,b2⟩,d0,d1⟩:=HXw.out W2 (Below.refl _ _)
 go_wp2_with fail
 refine(HSm.out W2 HB2.out).mono ?_
 rintro r w3 ⟨⟨b,rfl,hsm⟩,hb3⟩
 have HBx3:Hid (Below W2.heap.size W2 w3):=hb3
 have HB3:Hid (Below w.heap.size w w3):=HB2.out.trans (hb3.mono HB2.out.size)
 clear hb3 b0 b1 b2 d0 d1
 cases b with
 | false =>
  clear hsm
  go_wp2_with fail
  refine(HAw.out _ HB3.out).mono ?_
  rintro r w4 ⟨rfl,hb4⟩
  have HF:=Lib.hid (HPo.out _ (HB3.out.trans (hb4.mono HB3.out.size)))
  clear hb4
  go_wp2_with fail
  first | exact HF.out | (go_ret2;exact HF.out)
 | true =>
  have hsm2:=hsm rfl
  clear hsm
  obtain⟨-,d0,d1⟩:=HXw.out w3 HBx3.out
  go_wp2_with fail
  refine(HFw.out w3 HB3.out).mono ?_
  rintro r w4 ⟨⟨b,rfl,hfw⟩,hb4⟩
  have HBx4:Hid (Below W2.heap.size W2 w4):=HBx3.out.trans (hb4.mono HBx3.out.size)
  have HB4:Hid (Below w.heap.size w w4):=HB3.out.trans (hb4.mono HB3.out.size)
  clear hb4 d0 d1
  cases b with
  | false =>
   clear hfw
   go_wp2_with fail
   refine(HAw.out _ HB4.out).mono ?_
   rintro r w5 ⟨rfl,hb5⟩
   have HF:=Lib.hid (HPo.out _ (HB4.out.trans (hb5.mono HB4.out.size)))
   clear hb5
   go_wp2_with fail
   first | exact HF.out | (go_ret2;exact HF.out)
  | true =>
   have hfw2:=hfw rfl
   clear hfw
   have HR1a:=HR1.out hsm2 hfw2
   have HR2a:=HR2.out hsm2 hfw2
   have HVn2:=Lib.hid (HVn.out hsm2)
   have HTr2:=Lib.hid (HTr.out hsm2)
   clear HR1 HR2 HVn HTr hsm2 hfw2
   obtain⟨-,d0,d1⟩:=HXw.out w4 HBx4.out
   generalize wavB v=wb at HVw HR1a HR2a
   go_wp2_with fail
   refine(HVw.out w4 HB4.out).mono ?_
   rintro r w5 ⟨rfl,hb5⟩
   have HBx5:Hid (Below W2.heap.size W2 w5):=HBx4.out.trans (hb5.mono HBx4.out.size)
   have HB5:Hid (Below w.heap.size w w5):=HB4.out.trans (hb5.mono HB4.out.size)
   clear hb5 d0 d1
   cases wb with
   | false =>
    clear HR1a HR2a
    go_wp2_with fail
    refine(HAw.out _ HB5.out).mono ?_
    rintro r w6 ⟨rfl,hb6⟩
    have HF:=Lib.hid (HPo.out _ (HB5.out.trans (hb6.mono HB5.out.size)))
    clear hb6
    go_wp2_with fail
    first | exact HF.out | (go_ret2;exact HF.out)
   | true =>
    have HR1b:=Lib.hid (HR1a rfl)
    have HR2b:=Lib.hid (HR2a rfl)
    clear HR1a HR2a
    obtain⟨⟨b0,b1,b2⟩,-⟩:=HXw.out w5 HBx5.out
    generalize nfaOk n=nb at HVn2 HEq
    go_wp2_with fail
    refine(HVn2.out w5 HB5.out).mono ?_
    rintro r w6 ⟨rfl,hb6⟩
    have HBx6:Hid (Below W2.heap.size W2 w6):=HBx5.out.trans (hb6.mono HBx5.out.size)
    have HB6:Hid (Below w.heap.size w w6):=HB5.out.trans (hb6.mono HB5.out.size)
    clear hb6 b0 b1 b2
    cases nb with
    | false =>
     clear HEq
     go_wp2_with fail
     refine(HAw.out _ HB6.out).mono ?_
     rintro r w7 ⟨rfl,hb7⟩
     have HF:=Lib.hid (HPo.out _ (HB6.out.trans (hb7.mono HB6.out.size)))
     clear hb7
     go_wp2_with fail
     first | exact HF.out | (go_ret2;exact HF.out)
    | true =>
     have HEq2:=Lib.hid (HEq.out rfl)
     clear HEq
     obtain⟨⟨b0,b1,b2⟩,d0,d1⟩:=HXw.out w6 HBx6.out
     go_wp2_with fail
     refine(HR1b.out w6 HB6.out).mono ?_
     rintro r w7 ⟨hrun,hb7⟩
     have HBx7:Hid (Below W2.heap.size W2 w7):=HBx6.out.trans (hb7.mono HBx6.out.size)
     have HB7:Hid (Below w.heap.size w w7):=HB6.out.trans (hb7.mono HB6.out.size)
     have hz7:=HB7.out.size
     clear hb7 b0 b1 b2 d0 d1
     obtain⟨⟨b0,b1,b2⟩,d0,d1⟩:=HXw.out w7 HBx7.out
     have HC:Hid (∀ W,Below w7.heap.size w7 W→W.cell? ⟨w.heap.size,0,none⟩=some (.int .i64 n.states)∧W.cell? ⟨w.heap.size,1,none⟩=some (.slice xae n.edges.length xce)∧W.cell? ⟨w.heap.size,2,none⟩=some (.slice xaa n.accept.length xca)∧W.cell? ⟨w.heap.size+1,0,none⟩=some (.slice van v.names.length vcn)∧W.cell? ⟨w.heap.size+1,1,none⟩=some (.slice var v.rows.length vcr)):=fun W hW=>⟨keeps_of_below hW _ _ b0,keeps_of_below hW _ _ b1,keeps_of_below hW _ _ b2,keeps_of_below hW _ _ d0,keeps_of_below hW _ _ d1⟩
     have HT7:Hid (∀ W,Below w7.heap.size w7 W→Calls Tryz.prog 33 #[.agg #[.int .i64 n.states,.slice xae n.edges.length xce,.slice xaa n.accept.length xca]] W fun e w'=>(∃ (za:Option Addr) (zc:Nat) (ya:Option Addr) (yc:Nat),e=.returned (.agg #[.int .i64 m.states,.slice za m.edges.length zc,.slice ya m.accept.length yc])∧NfaIn w' m ⟨za,zc,ya,yc⟩)∧Below w7.heap.size w7 w'):=fun W hW=>(HTr2.out W (HB7.out.trans (hW.mono hz7))).mono fun e w' ⟨⟨z,h1,h2⟩,h3⟩=>⟨⟨z.ae,z.ce,z.aa,z.ca,h1,h2⟩,hW.trans (h3.mono hW.size)⟩
     have HR7:Hid (∀ W za zc ya yc,Below w7.heap.size w7 W→NfaIn W m ⟨za,zc,ya,yc⟩→Calls Tryz.prog 30 #[.agg #[.int .i64 m.states,.slice za m.edges.length zc,.slice ya m.accept.length yc],.agg #[.slice van v.names.length vcn,.slice var v.rows.length vcr],.int .i64 0] W fun e w'=>RunM R2 w' e∧Below w7.heap.size w7 w'):=fun W za zc ya yc hW hz=>(HR2b.out ⟨za,zc,ya,yc⟩ W (HB7.out.trans (hW.mono hz7)) hz).mono fun e w' h=>⟨h.1,hW.trans (h.2.mono hW.size)⟩
     clear HTr2 HR2b HR1b HVn2 HVw HFw HSm
     cases R1 with
     | none =>
      obtain rfl:r=_:=hrun
      have HR8:Hid (∀ W za zc ya yc,Below w7.heap.size w7 W→NfaIn W m ⟨za,zc,ya,yc⟩→Calls Tryz.prog 30 #[.agg #[.int .i64 m.states,.slice za m.edges.length zc,.slice ya m.accept.length yc],.agg #[.slice van v.names.length vcn,.slice var v.rows.length vcr],.int .i64 0] W fun e w'=>(∃ (a:Option Addr) (n c:Nat) (b:Bool),e=.returned (.tuple #[.slice a n c,.bool b]))∧Below w7.heap.size w7 w'):=fun W za zc ya yc hW hz=>(HR7.out W za zc ya yc hW hz).mono fun e w' h=>⟨h.1.any,h.2⟩
      clear HR7 HEq2
      go_wp2_with fail
      go_region_held3 (fun W=>Below w7.heap.size w7 W∧(W.cell? ⟨w.heap.size,0,none⟩=some (.int .i64 n.states)∧W.cell? ⟨w.heap.size,1,none⟩=some (.slice xae n.edges.length xce)∧W.cell? ⟨w.heap.size,2,none⟩=some (.slice xaa n.accept.length xca)∧W.cell? ⟨w.heap.size+1,0,none⟩=some (.slice van v.names.length vcn)∧W.cell? ⟨w.heap.size+1,1,none⟩=some (.slice var v.rows.length vcr)))
       ((refine(fun h=>⟨h,HC.out _ h⟩) ?_;first | with_reducible assumption | exact belR))
       (first
        | (go_at_call 33;(with_reducible refine(HT7.out _ (by first | with_reducible assumption | exact belR)).mono ?_);rintro e q1 ⟨⟨za,zc,ya,yc,rfl,i1⟩,hq1⟩;have I1:=Lib.hid i1;clear i1)
        | (go_at_call 30;(with_reducible refine(HR8.out _ za zc ya yc (by first | with_reducible assumption | exact belR) (I1.out.keep (kpB (by first | exact Below.refl _ _ | exact belR)))).mono ?_);rintro e q2 ⟨⟨ra,rn,rc,rb,rfl⟩,hq2⟩))
      all_goals
       have HBq:Hid (Below w.heap.size w q2):=HB7.out.trans (Below.mono hq2 hz7)
       clear hq2
       go_wp2_with fail
       refine(HAw.out _ HBq.out).mono ?_
       rintro r w8 ⟨rfl,hb8⟩
       have HF:=Lib.hid (HPo.out _ (HBq.out.trans (hb8.mono HBq.out.size)))
       clear hb8
       go_wp2_with fail
       first | exact HF.out | (go_ret2;exact HF.out)
     | some A =>
      have hR2:=HEq2.out A rfl
      subst hR2
      obtain⟨a7,c7,hre,hin7⟩:=hrun
      subst hre
      have HI7:=Lib.hid hin7
      have HIa:Hid (A.length=0∨∃ b off,a7=some ⟨b,off,none⟩):=hin7.addr
      have hAl:=hin7.len
      have HR8:Hid (∀ W za zc ya yc,Below w7.heap.size w7 W→NfaIn W m ⟨za,zc,ya,yc⟩→Calls Tryz.prog 30 #[.agg #[.int .i64 m.states,.slice za m.edges.length zc,.slice ya m.accept.length yc],.agg #[.slice van v.names.length vcn,.slice var v.rows.length vcr],.int .i64 0] W fun e w'=>(∃ a c,e=.returned (.tuple #[.slice a A.length c,.bool true])∧ensE.In w' A a c)∧Below w7.heap.size w7 w'):=HR7.out
      clear HR7 HEq2 hin7
      go_wp2_with fail
      go_region_held3 (fun W=>Below w7.heap.size w7 W∧(W.cell? ⟨w.heap.size,0,none⟩=some (.int .i64 n.states)∧W.cell? ⟨w.heap.size,1,none⟩=some (.slice xae n.edges.length xce)∧W.cell? ⟨w.heap.size,2,none⟩=some (.slice xaa n.accept.length xca)∧W.cell? ⟨w.heap.size+1,0,none⟩=some (.slice van v.names.length vcn)∧W.cell? ⟨w.heap.size+1,1,none⟩=some (.slice var v.rows.length vcr)))
       ((refine(fun h=>⟨h,HC.out _ h⟩) ?_;first | with_reducible assumption | exact belR))
       (first
        | (go_at_call 33;(with_reducible refine(HT7.out _ (by first | with_reducible assumption | exact belR)).mono ?_);rintro e q1 ⟨⟨za,zc,ya,yc,rfl,i1⟩,hq1⟩;have I1:=Lib.hid i1;clear i1)
        | (go_at_call 30;(with_reducible refine(HR8.out _ za zc ya yc (by first | with_reducible assumption | exact belR) (I1.out.keep (kpB (by first | exact Below.refl _ _ | exact belR)))).mono ?_);rintro e q2 ⟨⟨ra,rc,rfl,i2⟩,hq2⟩;have I2:=Lib.hid i2;clear i2))
      all_goals
       have HBq:Hid (Below w.heap.size w q2):=HB7.out.trans (Below.mono hq2 hz7)
       have HI8:Hid (ensE.In q2 A a7 c7):=HI7.out.keep (keeps_of_below hq2)
       have HJa:Hid (A.length=0∨∃ b off,ra=some ⟨b,off,none⟩):=I2.out.addr
       clear hq2 b0 b1 b2 d0 d1
       go_wp2_with fail
       go_loopw [9] (fun i wr=>∃ k:Nat,i=.int .i64 k∧k≤A.length∧Hid (Below q2.heap.size q2 wr)) (fun i _=>A.length - (intOf i).toNat)
       case atStart=>exact⟨0,rfl,Nat.zero_le _,Below.refl _ _⟩
       case round =>
        (try rename World=>wr)
        obtain⟨k,rfl,hk,HB⟩:=hrel
        have HBw:Hid (Below w.heap.size w wr):=HBq.out.trans (HB.out.mono HBq.out.size)
        by_cases hlt:k < A.length
        ·have hkl:(k:Int) < A.length:=by omega
         obtain⟨p,o,ha⟩:=HIa.out.resolve_left (by omega)
         subst ha
         obtain⟨p2,o2,ha2⟩:=HJa.out.resolve_left (by omega)
         subst ha2
         obtain⟨ta,tc,g1,hp⟩:=ensE_get (HI8.out.keep (keeps_of_below HB.out)) rfl hlt
         obtain⟨sa,sc,g2,hq⟩:=ensE_get (I2.out.keep (keeps_of_below HB.out)) rfl hlt
         generalize (A[k]'hlt)=t at g1 g2 hp hq
         have HS:Hid (∀ W,Below wr.heap.size wr W→Calls Tryz.prog 31 #[.slice ta t.length tc,.slice sa t.length sc] W fun e w'=>e=.returned (.bool true)∧Below wr.heap.size wr w'):=fun W hW=>(HSa.out t W ta tc sa sc (hp.keep (keeps_of_below hW)) (hq.keep (keeps_of_below hW))).mono fun e w' h=>⟨h.1,hW.trans (h.2.mono hW.size)⟩
         have HC2:Hid (∀ W,Below wr.heap.size wr W→W.cell? ⟨p,o+k,none⟩=some (.slice ta t.length tc)∧W.cell? ⟨p2,o2+k,none⟩=some (.slice sa t.length sc)):=fun W hW=>⟨keeps_of_below hW _ _ g1,keeps_of_below hW _ _ g2⟩
         clear hp hq
         go_wp2_with fail
         go_region_held3 (fun W=>Below wr.heap.size wr W∧(W.cell? ⟨p,o+k,none⟩=some (.slice ta t.length tc)∧W.cell? ⟨p2,o2+k,none⟩=some (.slice sa t.length sc)))
          ((refine(fun h=>⟨h,HC2.out _ h⟩) ?_;first | with_reducible assumption | exact belR))
          (first | (go_at_call 31;(with_reducible refine(HS.out _ (by first | with_reducible assumption | exact belR)).mono ?_);rintro e w9 ⟨rfl,hb9⟩))
         all_goals
          have HB9:Hid (Below q2.heap.size q2 w9):=HB.out.trans (Below.mono hb9 HB.out.size)
          clear hb9
          go_wp2_with fail
          go_roundw
          case rel=>exact⟨k+1,by go_num,by omega,HB9.out⟩
          case measure=>(simp[intOf];try omega)
        ·have hkl:¬ (k:Int) < A.length:=by omega
         go_wp2_with fail
         refine(HAw.out _ HBw.out).mono ?_
         rintro r w8 ⟨rfl,hb8⟩
         have HF:=Lib.hid (HPo.out _ (HBw.out.trans (hb8.mono HBw.out.size)))
         clear hb8
         go_wp2_with fail
         first | exact HF.out | (go_ret2;exact HF.out)
end Go.Proofs.YthojpomoflhbcaaGreatDoor
