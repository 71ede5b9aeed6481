/- ref35: Valid, Env; law35: Few. -/
import Derived.Test.YthojpomoflhbcaaGreatDoorM42
import Derived.Test.YthojpomoflhbcaaGreatDoorM23
import Derived.Test.YthojpomoflhbcaaGreatDoorM35
import Derived.Test.YthojpomoflhbcaaGreatDoorM24
import Derived.Test.YthojpomoflhbcaaGreatDoorM14
import Derived.Test.YthojpomoflhbcaaGreatDoorM25
set_option linter.unusedSimpArgs false
set_option linter.unusedVariables false
set_option linter.unnecessarySimpa false
namespace Go.Proofs.YthojpomoflhbcaaGreatDoor
open Go.RowKit
attribute [local go_sem ↓] Go.wp_at_zero Go.wp_at_succ
def wavB (v:WavD):Bool:=decide (v.names.length≤48∧v.rows.length≤4096) && diffB v.names v.names.length && v.rows.all fun r=>decide (r.length=v.names.length) && fitB r
def envW (v:WavD) (t:Nat):List Sg:=v.names.zip (v.rows.getD t [])
set_option maxHeartbeats 8000000 in
set_option maxRecDepth 100000 in
theorem wvalid_any (v:WavD) (x:WavA) (w:World) (h:WavIn w v x):Calls Tryz.prog 28 #[wavVal v x] w (BoolRet (wavB v) w):=by
 have HD:Hid (∀ W,Below w.heap.size w W→Calls Tryz.prog 63 #[.slice x.an v.names.length x.cn] W (BoolRet (diffB v.names v.names.length) W)):=fun W hW=>different_any v.names x.an x.cn W (StrsIn.keep (keeps_of_below hW) h.ns) h.sz
 have HRs:=Lib.hid h.rs
 have HRa:Hid (v.rows.length=0∨∃ b off,x.ar=some ⟨b,off,none⟩):=h.rs.addr
 have hl1:=h.ns.2.1
 have hl2:=h.rs.len
 have HPo:Hid (∀ b,b=wavB v→∀ W,Below w.heap.size w W→BoolRet (wavB v) w (.returned (.bool b)) W):=fun b hb W hW=>⟨by rw[hb],hW⟩
 have HW:Hid (wavB v=(decide (v.names.length≤48∧v.rows.length≤4096) && diffB v.names v.names.length && v.rows.all fun r=>decide (r.length=v.names.length) && fitB r)):=rfl
 generalize BoolRet (wavB v) w=Po at HPo⊢
 generalize wavB v=R at HPo HW
 rw[wavVal_eq]
 obtain⟨ns,rs⟩:=v
 obtain⟨an,cn,ar,cr⟩:=x
 simp only at HD HRs HRa hl1 hl2 HW⊢
 generalize diffB ns ns.length=db at HD HW
 clear h
 unfold BoolRet at HD
 go_enter Tryz.func28, Tryz.ntmps28
 go_upto_region 1 with fail
 generalize hW2:World.alloc w _=W2
 have HB2:Hid (Below w.heap.size w W2):=by show Below _ _ _;rw[← hW2];exact(Below.refl _ _).alloc (Nat.le_refl _) _
 have HX2:Hid (W2.heap[w.heap.size]? = some (.cells #[.slice an ns.length cn,.slice ar rs.length cr] 54 (0,0))):=by show _=_;rw[← hW2];exact hx_newT rfl
 have hz2:w.heap.size+1≤W2.heap.size:=by rw[← hW2];simp
 clear hW2
 have HXw:Hid (∀ W,Below W2.heap.size W2 W→W.cell? ⟨w.heap.size,0,none⟩=some (.slice an ns.length cn)∧W.cell? ⟨w.heap.size,1,none⟩=some (.slice ar rs.length cr)):=fun W hW=>by
  obtain⟨x0,x1,-⟩:=cell2H ((hW.block _ (by omega)).trans HX2.out)
  exact⟨x0,x1⟩
 obtain⟨b0,b1⟩:=HXw.out W2 (Below.refl _ _)
 by_cases h1:ns.length≤48
 ·have h1I:¬ (48:Int) < ns.length:=by omega
  by_cases h2:rs.length≤4096
  ·have h2I:¬ (4096:Int) < rs.length:=by omega
   have HW2:Hid (R=(db && rs.all fun r=>decide (r.length=ns.length) && fitB r)):=by show _=_;rw[HW.out,decide_eq_true ⟨h1,h2⟩,Bool.true_and]
   clear HW
   cases db with
   | false =>
    have HF:=Lib.hid (HPo.out false HW2.out.symm)
    go_wp2_with (go_at_call 63;go_must (refine(HD.out _ HB2.out).mono ?_;rintro e w5 ⟨rfl,hb5⟩))
    have HF2:=Lib.hid (HF.out w5 (HB2.out.trans (hb5.mono HB2.out.size)))
    clear hb5
    first | exact HF2.out | (go_ret2;exact HF2.out)
   | true =>
    have HW3:Hid (R=rs.all fun r=>decide (r.length=ns.length) && fitB r):=HW2.out
    go_wp2_with (go_at_call 63;go_must (refine(HD.out _ HB2.out).mono ?_;rintro e w5 ⟨rfl,hb5⟩))
    have HB5:Hid (Below W2.heap.size W2 w5):=hb5
    clear hb5 b0 b1 HW2
    go_loopw [3] (fun i wr=>∃ k:Nat,i=.int .i64 k∧k≤rs.length∧Hid (∀ j (hj:j < rs.length),j < k→(decide ((rs[j]'hj).length=ns.length) && fitB (rs[j]'hj))=true)∧Hid (Below W2.heap.size W2 wr)) (fun i _=>rs.length - (intOf i).toNat)
    case atStart=>exact⟨0,rfl,Nat.zero_le _,fun _ _ h=>absurd h (Nat.not_lt_zero _),HB5.out⟩
    case round =>
     (try rename World=>wr)
     obtain⟨k,rfl,hk,HAl,HBr⟩:=hrel
     have HBw:Hid (Below w.heap.size w wr):=HB2.out.trans (HBr.out.mono HB2.out.size)
     obtain⟨x0,x1⟩:=HXw.out wr HBr.out
     by_cases hlt:k < rs.length
     ·have hkl:(k:Int) < rs.length:=by omega
      obtain⟨b,off,ha⟩:=HRa.out.resolve_left (by omega)
      subst ha
      obtain⟨a',c',g0,hI⟩:=niE_get (HRs.out.keep (keeps_of_below HBw.out)) rfl hlt
      have HNx:Hid ((decide ((rs[k]'hlt).length=ns.length) && fitB (rs[k]'hlt))=true→∀ j (hj:j < rs.length),j < k+1→(decide ((rs[j]'hj).length=ns.length) && fitB (rs[j]'hj))=true):=fun he j hj hjk=>by
       by_cases e:j=k
       ·subst e;exact he
       ·exact HAl.out j hj (by omega)
      have HNn:Hid ((decide ((rs[k]'hlt).length=ns.length) && fitB (rs[k]'hlt))=false→∀ W,Below w.heap.size w W→Po (.returned (.bool false)) W):=fun he=>HPo.out false (by rw[HW3.out];exact(all_no hlt he).symm)
      generalize (rs[k]'hlt)=r at g0 hI HNx HNn
      have HFi:Hid (∀ W,Below wr.heap.size wr W→Calls Tryz.prog 64 #[.slice a' r.length c'] W fun e w'=>e=.returned (.bool (fitB r))∧w'=W):=fun W hW=>fits_any r a' c' W (hI.keep (keeps_of_below hW))
      have hrl:=hI.2.1
      clear HAl hI
      by_cases hl:r.length=ns.length
      ·have hl1b:((r.length:Int) != (ns.length:Int))=false:=by simp;omega
       have hl2b:(r.length != ns.length)=false:=by simpa using hl
       generalize fitB r=fb at HFi HNx HNn
       cases fb with
       | true =>
        have HN2:=Lib.hid (HNx.out (by rw[decide_eq_true hl];rfl))
        clear HNx HNn hl
        go_wp2_with fail
        go_quiet ((go_at_call 64;exact Calls.quiet_of_same ((HFi.out _ (below_drewN (Below.refl _ _) _)).mono fun e w' h=>⟨h.1,h.2⟩)))
        go_wp2_with fail
        go_roundw
        case rel=>exact⟨k+1,by go_num,by omega,HN2.out,below_drewN HBr.out _⟩
        case measure=>(simp[intOf];try omega)
       | false =>
        have HF:=Lib.hid (HNn.out (by rw[Bool.and_false]))
        clear HNx HNn hl
        go_wp2_with fail
        go_quiet ((go_at_call 64;exact Calls.quiet_of_same ((HFi.out _ (below_drewN (Below.refl _ _) _)).mono fun e w' h=>⟨h.1,h.2⟩)))
        go_wp2_with fail
        first | exact HF.out _ (below_drewN HBw.out _) | (go_ret2;exact HF.out _ (below_drewN HBw.out _))
      ·have hl1b:((r.length:Int) != (ns.length:Int))=true:=by simp;omega
       have hl2b:(r.length != ns.length)=true:=by simpa using hl
       have HF:=Lib.hid (HNn.out (by rw[decide_eq_false hl];rfl))
       clear HNx HNn hl
       go_wp2_with fail
       go_quiet (fail)
       go_wp2_with fail
       first | exact HF.out _ (below_drewN HBw.out _) | (go_ret2;exact HF.out _ (below_drewN HBw.out _))
     ·have hkl:¬ (k:Int) < rs.length:=by omega
      obtain rfl:k=rs.length:=by omega
      have HF:=Lib.hid (HPo.out true (by rw[HW3.out];exact(all_yes fun j hj=>HAl.out j hj hj).symm) wr HBw.out)
      go_wp2_with fail
      first | exact HF.out | (go_ret2;exact HF.out)
  ·have h2I:(4096:Int) < rs.length:=by omega
   have HF:=Lib.hid (HPo.out false (by rw[HW.out,decide_eq_false (by omega)];rfl) W2 HB2.out)
   go_wp2_with fail
   first | exact HF.out | (go_ret2;exact HF.out)
 ·have h1I:(48:Int) < ns.length:=by omega
  have HF:=Lib.hid (HPo.out false (by rw[HW.out,decide_eq_false (by omega)];rfl) W2 HB2.out)
  go_wp2_with fail
  first | exact HF.out | (go_ret2;exact HF.out)
theorem wavB_row {v:WavD} (h:wavB v=true) {t:Nat} (ht:t < v.rows.length):(v.rows[t]'ht).length=v.names.length:=by
 unfold wavB at h
 simp only[Bool.and_eq_true,List.all_eq_true,decide_eq_true_eq] at h
 exact(h.2 _ (List.getElem_mem ht)).1
def EnvRet (l:List Sg) (w:World) (e:Ending) (w':World):Prop:=(∃ a c,e=.returned (.tuple #[.slice a l.length c,.bool true])∧sgE.In w' l a c)∧Below w.heap.size w w'
set_option maxHeartbeats 8000000 in
set_option maxRecDepth 100000 in
theorem wenv_any (v:WavD) (x:WavA) (t:Nat) (w:World) (h:WavIn w v x) (hv:wavB v=true) (ht:t < v.rows.length):Calls Tryz.prog 67 #[wavVal v x,.int .i64 t] w (EnvRet (envW v t) w):=by
 have HV:Hid (∀ W,Below w.heap.size w W→Calls Tryz.prog 28 #[wavVal v x] W fun e w'=>e=.returned (.bool true)∧Below W.heap.size W w'):=fun W hW=>(wvalid_any v x W (h.keep (keeps_of_below hW))).mono fun e w' h=>⟨by rw[h.1,hv],h.2⟩
 have hrow:=wavB_row hv ht
 have HRs:=Lib.hid h.rs
 have HNs:=Lib.hid h.ns
 obtain⟨bR,oR,hRa⟩:=h.rs.addr.resolve_left (by omega)
 have HNa:Hid (v.names.length=0∨∃ b off,x.an=some ⟨b,off,none⟩):=SliceIn.addr h.ns
 have hl1:=h.ns.2.1
 have hl2:=h.rs.len
 have htI:(t:Int) < v.rows.length:=by omega
 have HEv:Hid (∀ k (hk:k < v.names.length),(envW v t).take (k+1)=(envW v t).take k++[(v.names[k]'hk,(v.rows[t]'ht).getD k 0)]):=fun k hk=>by
  have hrt:v.rows.getD t []=v.rows[t]'ht:=by rw[List.getD_eq_getElem?_getD,List.getElem?_eq_getElem ht];rfl
  have hkz:k < (envW v t).length:=by unfold envW;rw[List.length_zip,hrt,hrow];omega
  rw[List.take_succ_eq_append_getElem hkz]
  unfold envW
  simp only[hrt,List.getElem_zip]
  rw[List.getD_eq_getElem?_getD (l:=v.rows[t]'ht),List.getElem?_eq_getElem (by rw[hrow];exact hk)]
  rfl
 have hel:(envW v t).length=v.names.length:=by
  unfold envW
  rw[List.length_zip,List.getD_eq_getElem?_getD,List.getElem?_eq_getElem ht,Option.getD_some,hrow];omega
 have HEl:Hid ((envW v t).take v.names.length=envW v t):=List.take_of_length_le (by omega)
 have HEn:Hid (∀ k,k≤v.names.length→((envW v t).take k).length=k):=fun k hk=>by rw[List.length_take];omega
 have HPo:Hid (∀ W a c,Below w.heap.size w W→sgE.In W (envW v t) a c→EnvRet (envW v t) w (.returned (.tuple #[.slice a (envW v t).length c,.bool true])) W):=fun W a c h1 h2=>⟨⟨a,c,rfl,h2⟩,h1⟩
 generalize EnvRet (envW v t) w=Po at HPo⊢
 have H0:Hid ((envW v t).take 0=[]):=List.take_zero
 obtain⟨A,hA⟩:∃ A:Nat→List Sg,A=fun k=>(envW v t).take k:=⟨_,rfl⟩
 have hAk:∀ k,(envW v t).take k=A k:=fun k=>by rw[hA]
 simp only[hAk] at HEv HEl HEn H0
 rw[← HEl.out] at HPo
 clear hA hAk hel HEl hv
 rw[wavVal_eq] at HV⊢
 obtain⟨ra,rc,g0,hI⟩:=niE_get h.rs hRa ht
 rw[hrow] at g0
 have HIr:=Lib.hid (inE_in.2 hI)
 have HIa:Hid ((v.rows[t]'ht).length=0∨∃ b off,ra=some ⟨b,off,none⟩):=SliceIn.addr hI
 clear h hI
 obtain⟨r,hr⟩:∃ r,v.rows[t]'ht=r:=⟨_,rfl⟩
 simp only[hr] at HIr HIa HEv hrow
 obtain⟨ns,rs⟩:=v
 obtain⟨an,cn,ar,cr⟩:=x
 simp only at HV HRs HNs hRa HNa hl1 hl2 htI HEv HEn HPo hrow g0⊢
 subst hRa
 clear hr ht HRs
 go_enter Tryz.func67, Tryz.ntmps67
 go_upto_region 1 with fail
 generalize hW2:World.alloc w _=W2
 have HB2:Hid (Below w.heap.size w W2):=by show Below _ _ _;rw[← hW2];exact(Below.refl _ _).alloc (Nat.le_refl _) _
 have HX2:Hid (W2.heap[w.heap.size]? = some (.cells #[.slice an ns.length cn,.slice (some ⟨bR,oR,none⟩) rs.length cr] 54 (0,0))):=by show _=_;rw[← hW2];exact hx_newT rfl
 have hz2:w.heap.size+1≤W2.heap.size:=by rw[← hW2];simp
 clear hW2
 obtain⟨b0,b1,-⟩:=cell2H HX2.out
 have ht0:¬ ((t:Int) < 0):=by omega
 have ht0b:decide ((t:Int) < 0)=false:=decide_eq_false ht0
 have ht1:¬ ((rs.length:Int)≤(t:Int)):=by omega
 go_cut [21] from 8 to 21 (fun s wx=>s=.bool false∧Hid (Below W2.heap.size W2 wx))
 case first =>
  go_wp2_with (go_at_call 28;go_must (refine(HV.out _ HB2.out).mono ?_;rintro e w5 ⟨rfl,hb5⟩;have HB5:=Lib.hid hb5;have q0:=keeps_of_below hb5 _ _ b0;have q1:=keeps_of_below hb5 _ _ b1;clear hb5))
  go_meet
  case rel=>exact⟨by simp;omega,HB5.out⟩
 case rest =>
 rename World=>w5
 obtain⟨e21,HB5⟩:=hcut
 subst e21
 have HX5:Hid (w5.heap[w.heap.size]? = some (.cells #[.slice an ns.length cn,.slice (some ⟨bR,oR,none⟩) rs.length cr] 54 (0,0))):=(HB5.out.block _ (by omega)).trans HX2.out
 have HBw5:Hid (Below w.heap.size w w5):=HB2.out.trans (HB5.out.mono HB2.out.size)
 have HO5:Hid (sgE.Own 78 noneT w5 (w.heap.size+1) (.slice none 0 0) (A 0)):=by show sgE.Own _ _ _ _ _ _;rw[H0.out];exact Enc.Own.nil _ _ _ _ _
 clear b0 b1
 go_wp2_with fail
 go_loopw [7,6] (fun i o wr=>∃ k:Nat,i=.int .i64 k∧k≤ns.length∧Hid (sgE.Own 78 noneT wr (w.heap.size+1) o (A k))∧Hid (wr.heap[w.heap.size]? = some (.cells #[.slice an ns.length cn,.slice (some ⟨bR,oR,none⟩) rs.length cr] 54 (0,0)))∧Hid (Below w.heap.size w wr)) (fun i _ _=>ns.length - (intOf i).toNat)
 case atStart=>exact⟨0,rfl,Nat.zero_le _,HO5.out,HX5.out,HBw5.out⟩
 case round =>
  (try rename World=>wr)
  obtain⟨k,rfl,hk,HO,HX,HB⟩:=hrel
  have hzr:=lt_of_block HX.out
  have HAk:=Lib.hid (HEn.out k hk)
  obtain⟨ao,co,hov,hin⟩:=HO.out.slice (by rw[HAk.out];omega)
  rw[HAk.out] at hov
  subst hov
  obtain⟨x0,x1,-⟩:=cell2H HX.out
  by_cases hlt:k < ns.length
  ·have hkl:(k:Int) < ns.length:=by omega
   obtain⟨bn,on,ha⟩:=HNa.out.resolve_left (by omega)
   subst ha
   have hltr:k < r.length:=by omega
   obtain⟨bi,oi,hia⟩:=HIa.out.resolve_left (by omega)
   subst hia
   have n0:=StrsIn.get (StrsIn.keep (keeps_of_below HB.out) HNs.out) rfl hlt
   have i0:=inE_at.1 ((HIr.out.keep (keeps_of_below HB.out)).get rfl hltr)
   have ei:r[k]'hltr=r.getD k 0:=by rw[List.getD_eq_getElem?_getD,List.getElem?_eq_getElem hltr];rfl
   rw[show inE.sz=1 from rfl,Nat.mul_one,ei] at i0
   have r0:=keeps_of_below HB.out _ _ g0
   have HS1:=Lib.hid (HEv.out k hlt)
   generalize (ns[k]'hlt)=nm at n0 HS1
   generalize r.getD k 0=z at i0 HS1
   have HVo:Hid (∀ j,(Value.slice ao k co).ownBlock=some j→w.heap.size+1≤j∧j < wr.heap.size):=own_vlt HO.out
   clear hin
   go_wp2_with fail
   go_region_law (refine step_addE (E:=sgE) elemSG (by rfl) _ _ (by rfl) noneT (w.heap.size+1) (.slice ao k co) (by rfl) (HO.out.below (by first | exact Below.refl _ _ | exact belR)) (nm,z) [.string nm,.int .i64 z] (by rfl) _ 1 (by rfl) (by exact heap_alloc_new' _ _) k HAk.out (by omega) (by first | omega | (simp;omega)) _ rfl ?_;intro gg gcap wg hownG hgrow hatG hltG)
   all_goals
    have HO9:Hid (sgE.Own 78 noneT wg (w.heap.size+1) (.slice (some ⟨gg,0,none⟩) (k+1) gcap) (A (k+1))):=by show sgE.Own _ _ _ _ _ _;rw[HS1.out];exact hownG
    have HA9:Hid (Below wr.heap.size wr (wr.alloc (.cells #[.string nm,.int .i64 z] 78)).drew):=by show Below _ _ _;exact belR
    have HX9:Hid (wg.heap[w.heap.size]? = some (.cells #[.slice (some ⟨bn,on,none⟩) ns.length cn,.slice (some ⟨bR,oR,none⟩) rs.length cr] 54 (0,0))):=(hgrow.block _ (by simp;omega) (fun e'=>by have:=(HVo.out _ e'.symm).1;omega)).trans ((HA9.out.block _ hzr).trans HX.out)
    have HB9:Hid (Below w.heap.size w wg):=below_growF (HB.out.trans (HA9.out.mono HB.out.size)) hgrow fun j hj=>by have:=(HVo.out j hj).1;omega
    clear hownG hgrow hatG hltG
    go_wp2_with fail
    go_roundw
    case rel=>exact⟨k+1,by go_num,by omega,HO9.out,HX9.out,HB9.out⟩
    case measure=>(simp[intOf];try omega)
  ·have hkl:¬ (k:Int) < ns.length:=by omega
   obtain rfl:k=ns.length:=by omega
   have HF:=HPo.out wr ao co HB.out hin
   rw[HAk.out] at HF
   have HF2:=Lib.hid HF
   clear HF hin
   go_wp2_with fail
   first | exact HF2.out | (go_ret2;exact HF2.out)
end Go.Proofs.YthojpomoflhbcaaGreatDoor
namespace Go.Proofs.YthojpomoflhbcaaGreatDoor
open Go.RowKit
attribute [local go_sem ↓] Go.wp_at_zero Go.wp_at_succ
def esR (w:World) (l:List (List Sg)) (vs:List Value):Prop:=∃ a cap,vs=[.slice a l.length cap]∧envE.In w l a cap
def ensE:Enc (List (List Sg)) where
 sz:=1
 R:=esR
 pos:=by decide
 len:=by rintro _ _ _ ⟨_,_,rfl,_⟩;rfl
 keep:=by rintro _ _ _ _ hk ⟨a,cap,rfl,h⟩;exact⟨a,cap,rfl,h.keep hk⟩
 one:=by rintro _ _ _ ⟨_,_,rfl,_⟩ v hv;simp at hv;subst hv;rfl
theorem ensE_get {w:World} {l:List (List (List Sg))} {a:Option Addr} {cap:Nat} (h:ensE.In w l a cap) {b off:Nat} (ha:a=some ⟨b,off,none⟩) {i:Nat} (hi:i < l.length):∃ a' c',w.cell? ⟨b,off+i,none⟩=some (.slice a' (l[i]'hi).length c')∧envE.In w (l[i]'hi) a' c':=by
 obtain⟨vs,⟨a',c',rfl,h1⟩,hc⟩:=h.get ha hi
 have:=hc 0 _ rfl
 rw[show ensE.sz=1 from rfl,Nat.mul_one,Nat.add_zero] at this
 exact⟨a',c',this,h1⟩
theorem elemES:Elem Tryz.prog 59 62 1:=Elem.of Tryz.underlying59 (by kernel_rfl) (z:=.slice none 0 0) (bytes:=24) rfl (by decide) (by decide)
def envsW (v:WavD) (s:Nat):List (List Sg):=(List.range (v.rows.length - s)).map fun i=>envW v (s+i)
theorem envsW_len (v:WavD) (s:Nat):(envsW v s).length=v.rows.length - s:=by unfold envsW;simp
theorem envsW_at (v:WavD) (s:Nat) {k:Nat} (h:k < (envsW v s).length):(envsW v s)[k]'h=envW v (s+k):=by simp only[envsW,List.getElem_map,List.getElem_range]
theorem nrunS_at (n:NfaD) (es:List (List Sg)) (L:List ThrD) {k:Nat} (h:k < es.length):nrunS n (es.drop k) L=if (nstepS n L (es[k]'h)).2=0 then (nrunS n (es.drop (k+1)) (nstepS n L (es[k]'h)).1).map (accE n (nstepS n L (es[k]'h)).1::·) else none:=by
 rw[List.drop_eq_getElem_cons h,nrunS]
theorem nstep_bound {n:NfaD} {L:List ThrD} {env:List Sg} {M B:Nat} (hs:∀ e∈n.edges,e.sets.length≤M) (hL:∀ t∈L,t.env.length≤B) (h:(nstepS n L env).2=0):(nstepS n L env).1.length≤256∧∀ t∈(nstepS n L env).1,t.env.length≤B+M:=by
 unfold nstepS at h⊢
 split at h
 ·cases h
 ·split at h
  ·cases h
  ·split at h
   ·cases h
   ·rename_i h1 h2 h3
    rw[if_neg h1,if_neg h2,if_neg h3]
    refine⟨by simp only;omega,fun y hy=>?_⟩
    obtain⟨t,ht,e,he,-,-,hk⟩:=((stepTo_facts n env L).2 y).1 hy
    obtain⟨-,hr⟩:=takeS_iff.1 hk
    have h4:=setsTo_lenT (l:=e.sets) (env:=env) (loc:=t.env) e.sets.length
    have h5:=hL t ht
    have h6:=hs e he
    rw[hr] at h4
    omega
def accK (n:NfaD) (l:List ThrD) (k:Nat):List (List Sg):=((acceptS n l).take k).foldl (fun es t=>insL cmpEnv es t.env) []
theorem accK_zero (n:NfaD) (l:List ThrD):accK n l 0=[]:=by unfold accK;simp
theorem accK_succ (n:NfaD) (l:List ThrD) {k:Nat} (h:k < (acceptS n l).length):accK n l (k+1)=insL cmpEnv (accK n l k) ((acceptS n l)[k]'h).env:=by
 unfold accK;rw[List.take_succ_eq_append_getElem h,List.foldl_append];rfl
theorem accK_all (n:NfaD) (l:List ThrD):accK n l (acceptS n l).length=accE n l:=by unfold accK accE;rw[List.take_length]
theorem accK_facts (n:NfaD) (l:List ThrD):∀ k,k≤(acceptS n l).length→Asc cmpEnv (accK n l k)∧(accK n l k).length≤k
 | 0,_=>by rw[accK_zero];exact⟨List.Pairwise.nil,by simp⟩
 | k+1,h=>by
  obtain⟨h1,h2⟩:=accK_facts n l k (by omega)
  rw[accK_succ n l (by omega:k < (acceptS n l).length)]
  have:=insL_len (c:=cmpEnv) (accK n l k) ((acceptS n l)[k]'(by omega)).env
  exact⟨insL_asc cmp3Env h1,by omega⟩
def RunM:Option (List (List (List Sg)))→World→Ending→Prop
 | none,_,e=>e=.returned (.tuple #[.slice none 0 0,.bool false])
 | some A,w',e=>∃ a c,e=.returned (.tuple #[.slice a A.length c,.bool true])∧ensE.In w' A a c
def RunRet (r:Option (List (List (List Sg)))) (w:World) (e:Ending) (w':World):Prop:=RunM r w' e∧Below w.heap.size w w'
set_option maxHeartbeats 16000000 in
set_option maxRecDepth 100000 in
theorem run_any (n:NfaD) (y:NfaA) (v:WavD) (x:WavA) (s M:Nat) (w:World) (hN:NfaIn w n y) (hV:WavIn w v x) (hv:wavB v=true) (hs:SmallN n) (hse:∀ e∈n.edges,StepEd e) (hM:∀ e∈n.edges,e.sets.length≤M) (hM2:M≤1000) (hr:v.rows.length≤20) (hs2:s≤v.rows.length) (hG:Glob w) :
  Calls Tryz.prog 30 #[nfaVal n y,wavVal v x,.int .i64 s] w (RunRet (nrunS n (envsW v s) [⟨0,[]⟩]) w):=by
 have HSt:Hid (∀ W,Below w.heap.size w W→Calls Tryz.prog 22 #[.slice none 0 0] W fun e w'=>(∃ a c,e=.returned (.slice a 1 c)∧thE.In w' [⟨0,[]⟩] a c)∧Below W.heap.size W w'):=fun W hW =>
  (start_any noneT [] none 0 W (fun j hj=>by cases hj) (Enc.In.nil _) (by simp)).mono fun e w' ⟨⟨a,c,h4,h5⟩,h6⟩=>⟨⟨a,c,h4,h5.keep hide_cell⟩,h6⟩
 have HEv:Hid (∀ t,t < v.rows.length→∀ W,Below w.heap.size w W→Calls Tryz.prog 67 #[wavVal v x,.int .i64 t] W fun e w'=>(∃ a c,e=.returned (.tuple #[.slice a (envW v t).length c,.bool true])∧sgE.In w' (envW v t) a c)∧Below W.heap.size W w'):=fun t ht W hW=>wenv_any v x t W (hV.keep (keeps_of_below hW)) hv ht
 have hel:∀ t,(envW v t).length≤48:=fun t=>by
  unfold envW
  unfold wavB at hv
  simp only[Bool.and_eq_true,decide_eq_true_eq] at hv
  have:=hv.1.1.1
  rw[List.length_zip]
  omega
 have HSp:Hid (∀ (q:Nat→Bool) (L:List ThrD) (al:Option Addr) (cl:Nat) (t:Nat) (ae:Option Addr) (ce:Nat) (W:World),(∀ j,q j=true→j < W.heap.size)→Below w.heap.size w W→thE.In W L al cl→L.length≤1000→(∀ t∈L,t.env.length≤50000)→sgE.In W (envW v t) ae ce→Calls Tryz.prog 19 #[nfaVal n y,.slice al L.length cl,.slice ae (envW v t).length ce] W fun e w'=>(∃ a c,e=.returned (.tuple #[.slice a (nstepS n L (envW v t)).1.length c,.int .i64 (nstepS n L (envW v t)).2])∧thE.In (World.hide w' q) (nstepS n L (envW v t)).1 a c)∧Below W.heap.size W w'):=fun q L al cl t ae ce W hq hW h1 h2 h3 h4 =>
  step_any q n y L al cl (envW v t) ae ce W hq (hG.below hW) (hN.keep (keeps_of_below hW)) hs hse h1 h2 h3 h4 (by have:=hel t;omega)
 have HAc:Hid (∀ (q:Nat→Bool) (L:List ThrD) (al:Option Addr) (cl:Nat) (W:World),(∀ j,q j=true→j < W.heap.size)→Below w.heap.size w W→thE.In W L al cl→L.length≤1000→(∀ t∈L,t.env.length≤50000)→Calls Tryz.prog 25 #[nfaVal n y,.slice al L.length cl] W fun e w'=>(∃ a c,e=.returned (.slice a (acceptS n L).length c)∧thE.In (World.hide w' q) (acceptS n L) a c)∧Below W.heap.size W w'):=fun q L al cl W hq hW h1 h2 h3 =>
  accepting_any q n y L al cl W hq (hN.keep (keeps_of_below hW)) h1 h3 (by omega)
 have HBd:Hid (∀ (L:List ThrD) (B t:Nat),(∀ z∈L,z.env.length≤B)→(nstepS n L (envW v t)).2=0→(nstepS n L (envW v t)).1.length≤256∧∀ z∈(nstepS n L (envW v t)).1,z.env.length≤B+M):=fun L B t hL h=>nstep_bound hM hL h
 have HNo:Hid (nrunS n (envsW v s) [⟨0,[]⟩]=none→∀ W,Below w.heap.size w W→RunRet (nrunS n (envsW v s) [⟨0,[]⟩]) w (.returned (.tuple #[.slice none 0 0,.bool false])) W):=fun h W hW=>by rw[h];exact⟨rfl,hW⟩
 have HYes:Hid (∀ A,nrunS n (envsW v s) [⟨0,[]⟩]=some A→∀ W a c,Below w.heap.size w W→ensE.In W A a c→RunRet (nrunS n (envsW v s) [⟨0,[]⟩]) w (.returned (.tuple #[.slice a A.length c,.bool true])) W):=fun A h W a c hW hin=>by rw[h];exact⟨⟨a,c,rfl,hin⟩,hW⟩
 generalize RunRet (nrunS n (envsW v s) [⟨0,[]⟩]) w=Po at HNo HYes⊢
 have HRa:Hid (∀ (k:Nat),k < v.rows.length - s→∀ L,nrunS n ((envsW v s).drop k) L=if (nstepS n L (envW v (s+k))).2=0 then (nrunS n ((envsW v s).drop (k+1)) (nstepS n L (envW v (s+k))).1).map (accE n (nstepS n L (envW v (s+k))).1::·) else none):=fun k hk L=>by
  have hk2:k < (envsW v s).length:=by rw[envsW_len];exact hk
  rw[nrunS_at n _ L hk2,envsW_at]
 have HRe:Hid (∀ L,nrunS n ((envsW v s).drop (v.rows.length - s)) L=some []):=fun L=>by rw[← envsW_len v s,List.drop_length];rfl
 obtain⟨RN,hRN⟩:∃ RN:Nat→List ThrD→Option (List (List (List Sg))),RN=fun k L=>nrunS n ((envsW v s).drop k) L:=⟨_,rfl⟩
 have hRk:∀ k L,nrunS n ((envsW v s).drop k) L=RN k L:=fun k L=>by rw[hRN]
 have hR0:nrunS n (envsW v s) [⟨0,[]⟩]=RN 0 [⟨0,[]⟩]:=by rw[hRN];rfl
 simp only[hRk] at HRa HRe
 rw[hR0] at HNo HYes
 clear hRN hRk hR0 hN hV hv hs hse hM hG hel
 rw[wavVal_eq] at HEv⊢
 rw[nfaVal_eq] at HSp HAc⊢
 obtain⟨xae,xce,xaa,xca⟩:=y
 obtain⟨van,vcn,var,vcr⟩:=x
 simp only at HEv HSp HAc⊢
 go_enter Tryz.func30, Tryz.ntmps30
 go_upto_region 1 with fail
 generalize hW2:World.alloc (World.alloc w _) _=W2
 have HB2:Hid (Below w.heap.size w W2):=by show Below _ _ _;rw[← hW2];exact((Below.refl _ _).alloc (Nat.le_refl _) _).alloc (by simp) _
 have HX2:Hid (W2.heap[w.heap.size]? = some (.cells #[.int .i64 n.states,.slice xae n.edges.length xce,.slice xaa n.accept.length xca] 33 (0,0))):=by show _=_;rw[← hW2];exact hx_oldT (hx_newT rfl)
 have HY2:Hid (W2.heap[w.heap.size+1]? = some (.cells #[.slice van v.names.length vcn,.slice var v.rows.length vcr] 54 (0,0))):=by show _=_;rw[← hW2];exact hx_newT (by simp)
 have hz2:w.heap.size+2≤W2.heap.size:=by rw[← hW2];simp
 clear hW2
 go_wp2_with fail
 refine(HSt.out W2 HB2.out).mono ?_
 rintro r w3 ⟨⟨a3,c3,rfl,hin3⟩,hb3⟩
 have HB3:Hid (Below w.heap.size w w3):=HB2.out.trans (hb3.mono HB2.out.size)
 have HX3:Hid (w3.heap[w.heap.size]? = some (.cells #[.int .i64 n.states,.slice xae n.edges.length xce,.slice xaa n.accept.length xca] 33 (0,0))):=(hb3.block _ (by omega)).trans HX2.out
 have HY3:Hid (w3.heap[w.heap.size+1]? = some (.cells #[.slice van v.names.length vcn,.slice var v.rows.length vcr] 54 (0,0))):=(hb3.block _ (by omega)).trans HY2.out
 have HI3:=Lib.hid hin3
 clear hb3 hin3
 go_wp2_with fail
 go_loopw [10,9,8,11,12,13,14,15,16,17] (fun i l o _ _ _ _ _ _ _ wr=>∃ (k:Nat) (L:List ThrD) (A:List (List (List Sg))) (a:Option Addr) (c:Nat),i=.int .i64 ((s+k:Nat):Int)∧l=.slice a L.length c∧k≤v.rows.length - s∧A.length=k∧L.length≤256∧Hid (∀ z∈L,z.env.length≤M * k)∧Hid (thE.In (World.hide wr (hid noneT o)) L a c)∧Hid (ensE.Own 62 noneT wr (w.heap.size+2) o A)∧Hid (RN 0 [⟨0,[]⟩]=(RN k L).map (A++·))∧Hid (wr.heap[w.heap.size]? = some (.cells #[.int .i64 n.states,.slice xae n.edges.length xce,.slice xaa n.accept.length xca] 33 (0,0)))∧Hid (wr.heap[w.heap.size+1]? = some (.cells #[.slice van v.names.length vcn,.slice var v.rows.length vcr] 54 (0,0)))∧Hid (Below w.heap.size w wr)) (fun i _ _ _ _ _ _ _ _ _ _=>v.rows.length - (intOf i).toNat)
 case atStart=>exact⟨0,[⟨0,[]⟩],[],a3,c3,rfl,rfl,Nat.zero_le _,rfl,by simp,(fun z hz=>by obtain rfl:=List.mem_singleton.1 hz;simp),HI3.out.keep (fun _ _ h=>cell_hide.2 ⟨rfl,h⟩),Enc.Own.nil _ _ _ _ _,(by show _=_;cases RN 0 [⟨0,[]⟩]<;>simp),HX3.out,HY3.out,HB3.out⟩
 case round =>
  (try rename World=>wr)
  obtain⟨k,L,A,la,lc,rfl,rfl,hk,hAl,hLl,HBo,HIn,HO,HR,HX,HY,HB⟩:=hrel
  have hzx:=lt_of_block HX.out
  have hzy:=lt_of_block HY.out
  have HVo:Hid (∀ j,u8.ownBlock=some j→w.heap.size+2≤j∧j < wr.heap.size):=own_vlt HO.out
  obtain⟨y0,y1,-⟩:=cell2H HY.out
  by_cases hlt:k < v.rows.length - s
  ·have hkl:((s+k:Nat):Int) < (v.rows.length:Int):=by omega
   have HE1:=Lib.hid (HEv.out (s+k) (by omega) wr HB.out)
   have HRk:=Lib.hid (HRa.out k hlt L)
   have HBd1:=Lib.hid (HBd.out L (M * k) (s+k) HBo.out)
   have hMk:M * k≤1000 * 20:=Nat.mul_le_mul hM2 (show k≤20 by omega)
   have HQl:Hid (∀ W:World,wr.heap.size≤W.heap.size→∀ j,hid noneT u8 j=true→j < W.heap.size):=fun W hW j hj=>(hid_true.1 hj).elim (fun h=>by cases h) fun e=>by have:=(HVo.out j e).2;omega
   go_upto_region 6 with fail
   go_wp2_with fail
   refine HE1.out.mono ?_
   rintro r w5 ⟨⟨a5,c5,rfl,hin5⟩,hb5⟩
   have HB5:Hid (Below wr.heap.size wr w5):=hb5
   have HBw5:Hid (Below w.heap.size w w5):=HB.out.trans (hb5.mono HB.out.size)
   have HSp5:=Lib.hid (HSp.out (hid noneT u8) L la lc (s+k) a5 c5 w5 (HQl.out w5 hb5.size) HBw5.out (HIn.out.keep (Kp.trans hide_cell (keeps_of_below hb5))) (by omega) (fun z hz=>by have:=HBo.out z hz;omega) hin5)
   have HX5:Hid (w5.heap[w.heap.size]? = some (.cells #[.int .i64 n.states,.slice xae n.edges.length xce,.slice xaa n.accept.length xca] 33 (0,0))):=(hb5.block _ hzx).trans HX.out
   obtain⟨x0,x1,x2⟩:=cell3T HX5.out
   clear hb5 hin5 y0 y1 HE1
   generalize nstepS n L (envW v (s+k))=S at HSp5 HRk HBd1
   obtain⟨L',er⟩:=S
   simp only at HSp5 HRk HBd1
   go_wp2_with fail
   refine HSp5.out.mono ?_
   rintro r w6 ⟨⟨a6,c6,rfl,hin6⟩,hb6⟩
   have HB6:Hid (Below wr.heap.size wr w6):=HB5.out.trans (hb6.mono HB5.out.size)
   have HBw6:Hid (Below w.heap.size w w6):=HB.out.trans (HB6.out.mono HB.out.size)
   have HI6:=Lib.hid hin6
   clear hb6 hin6 x0 x1 x2 HSp5
   by_cases her:er=0
   ·subst her
    have HRk2:Hid (RN k L=(RN (k+1) L').map (accE n L'::·)):=by show _=_;rw[HRk.out];rfl
    obtain⟨hl256,hbo⟩:=HBd1.out rfl
    have HBo2:=Lib.hid hbo
    have HX6:Hid (w6.heap[w.heap.size]? = some (.cells #[.int .i64 n.states,.slice xae n.edges.length xce,.slice xaa n.accept.length xca] 33 (0,0))):=(HB6.out.block _ hzx).trans HX.out
    obtain⟨x0,x1,x2⟩:=cell3T HX6.out
    have hMk2:M * k+M≤21000:=by omega
    have HAc6:=Lib.hid (HAc.out (hid noneT u8) L' a6 c6 w6 (HQl.out w6 HB6.out.size) HBw6.out (HI6.out.keep hide_cell) (by omega) (fun z hz=>by have:=HBo2.out z hz;omega))
    clear hbo HRk HBd1
    go_wp2_with fail
    refine HAc6.out.mono ?_
    rintro r w7 ⟨⟨a7,c7,rfl,hin7⟩,hb7⟩
    have HB7:Hid (Below wr.heap.size wr w7):=HB6.out.trans (hb7.mono HB6.out.size)
    have HBw7:Hid (Below w.heap.size w w7):=HB.out.trans (HB7.out.mono HB.out.size)
    have HI7:Hid (thE.In (World.hide w7 (hid noneT u8)) L' a6 c6):=HI6.out.keep (hide_below hb7 fun _ _ h=>h)
    have HA7:=Lib.hid hin7
    have HAa:Hid ((acceptS n L').length=0∨∃ b off,a7=some ⟨b,off,none⟩):=hin7.addr
    have HAl7:Hid ((acceptS n L').length≤256):=by show _≤_;have:=List.length_filter_le (fun t:ThrD=>n.accept.contains t.state) L';unfold acceptS;omega
    have HK0:=Lib.hid (accK_zero n L')
    have HKs:=Lib.hid (fun k (h:k < (acceptS n L').length)=>accK_succ n L' h)
    have HKe:=Lib.hid (accK_all n L')
    have HKf:=Lib.hid (accK_facts n L')
    clear hb7 hin7 x0 x1 x2 HAc6 HI6
    generalize acceptS n L'=AC at HA7 HAa HAl7 HKs HKe HKf
    generalize accK n L'=KE at HK0 HKs HKe HKf
    have hz7:=HB7.out.size
    have hal7:=HAl7.out
    go_wp2_with fail
    go_loopw [17,15] (fun i e wq=>∃ (m:Nat) (ea:Option Addr) (ec:Nat),i=.int .i64 m∧e=.slice ea (KE m).length ec∧m≤AC.length∧Hid (envE.In (World.hide wq (hid noneT u8)) (KE m) ea ec)∧Hid (Below w7.heap.size w7 wq)) (fun i _ _=>AC.length - (intOf i).toNat)
    case atStart=>exact⟨0,none,0,rfl,by rw[HK0.out];rfl,Nat.zero_le _,(by show envE.In _ _ _ _;rw[HK0.out];exact Enc.In.nil _),Below.refl _ _⟩
    case round =>
     (try rename World=>wq)
     obtain⟨m,ea,ec,rfl,rfl,hm,HEI,HBq⟩:=hrel
     have hzq:=HBq.out.size
     have HBrq:Hid (Below wr.heap.size wr wq):=HB7.out.trans (HBq.out.mono hz7)
     by_cases hltm:m < AC.length
     ·have hml:(m:Int) < AC.length:=by omega
      obtain⟨bA,oA,hAa⟩:=HAa.out.resolve_left (by omega)
      subst hAa
      obtain⟨ta,tc,g0,g1,ht⟩:=thE_get (HA7.out.keep (hide_below HBq.out fun _ _ h=>h)) rfl hltm
      have HKm:=Lib.hid (HKs.out m hltm)
      obtain⟨hka,hkl2⟩:=HKf.out m hm
      generalize (AC[m]'hltm)=t at g0 g1 ht HKm
      have hadd:=addL_any (hid noneT u8) (KE m) ea ec t.env ta tc wq (HQl.out wq HBrq.out.size) HEI.out ht hka (by omega)
      rw[← HKm.out] at hadd
      have HAdd:=Lib.hid hadd
      have f1:=hide_cell _ _ g1
      clear hadd g0 g1 ht hka
      go_wp2_with fail
      refine HAdd.out.mono ?_
      rintro r w8 ⟨⟨a8,c8,rfl,hin8⟩,hb8⟩
      have HE8:=Lib.hid hin8
      have HB8:Hid (Below w7.heap.size w7 w8):=HBq.out.trans (hb8.mono hzq)
      clear hin8 hb8 HAdd f1
      go_wp2_with fail
      go_roundw
      case rel=>exact⟨m+1,a8,c8,by go_num,rfl,by omega,HE8.out,HB8.out⟩
      case measure=>(simp[intOf];try omega)
     ·have hml:¬ (m:Int) < AC.length:=by omega
      obtain rfl:m=AC.length:=by omega
      have HEr:Hid (ensE.R (World.hide wq (hid noneT u8)) (KE AC.length) [.slice ea (KE AC.length).length ec]):=⟨ea,ec,rfl,HEI.out⟩
      have HOq:Hid (ensE.Own 62 noneT wq (w.heap.size+2) u8 A):=HO.out.below HBrq.out
      have HBwq:Hid (Below w.heap.size w wq):=HB.out.trans (HBrq.out.mono HB.out.size)
      have hzw:=HBwq.out.size
      have hzrq:=HBrq.out.size
      go_wp2_with (at_builtin;go_must (refine own_addE (E:=ensE) elemES _ rfl (.tmp 59) (.tmp 61) rfl noneT (w.heap.size+2) _ rfl HOq.out (KE AC.length) [.slice ea (KE AC.length).length ec] HEr.out _ _ rfl rfl k hAl (by omega) (by omega) ?_))
      intro g9 cap9 w9 ho9 hg9 hat9
      rw[HKe.out] at ho9
      have HO9:=Lib.hid ho9
      have HX9:Hid (w9.heap[w.heap.size]? = some (.cells #[.int .i64 n.states,.slice xae n.edges.length xce,.slice xaa n.accept.length xca] 33 (0,0))):=(hg9.block _ (by omega) (fun e'=>by have:=(HVo.out _ e'.symm).1;omega)).trans ((HBrq.out.block _ hzx).trans HX.out)
      have HY9:Hid (w9.heap[w.heap.size+1]? = some (.cells #[.slice van v.names.length vcn,.slice var v.rows.length vcr] 54 (0,0))):=(hg9.block _ (by omega) (fun e'=>by have:=(HVo.out _ e'.symm).1;omega)).trans ((HBrq.out.block _ hzy).trans HY.out)
      have HB9:Hid (Below w.heap.size w w9):=below_growF HBwq.out hg9 fun j hj=>by have:=(HVo.out j hj).1;omega
      have HI9:Hid (thE.In (World.hide w9 (hid noneT (.slice (some ⟨g9,0,none⟩) (k+1) cap9))) L' a6 c6):=(HI7.out.keep (hide_below HBq.out fun _ _ h=>h)).keep (hide_grown hg9 (fun j hj=>hid_true.2 (Or.inr hj)) fun j hj hq=>(hid_true.1 hq).elim (fun h=>by cases h) fun e=>by
       have e2:g9=j:=Option.some.inj e
       subst e2
       rcases hat9 with h | h
       ·exact hid_true.2 (Or.inr h)
       ·omega)
      have HR9:Hid (RN 0 [⟨0,[]⟩]=(RN (k+1) L').map ((A++[accE n L'])++·)):=by
       show _=_
       rw[HR.out,HRk2.out]
       cases RN (k+1) L'<;>simp
      have HBo9:Hid (∀ z∈L',z.env.length≤M * (k+1)):=fun z hz=>by rw[Nat.mul_add,Nat.mul_one];exact HBo2.out z hz
      clear ho9 hg9 hat9 HKe HKf HKs HK0 HR HRk2
      go_wp2_with fail
      go_roundw
      case rel=>exact⟨k+1,L',A++[accE n L'],a6,c6,by go_num,rfl,by omega,by rw[List.length_append,hAl];rfl,hl256,HBo9.out,HI9.out,HO9.out,HR9.out,HX9.out,HY9.out,HB9.out⟩
      case measure=>(simp[intOf];try omega)
   ·have HRk2:Hid (RN k L=none):=by show _=_;rw[HRk.out,if_neg her]
    have HF:=Lib.hid (HNo.out (by rw[HR.out,HRk2.out];rfl) w6 HBw6.out)
    have her2:(er != 0)=true:=by simpa using her
    clear HRk HBd1 her
    go_wp2_with fail
    first | exact HF.out | (go_ret2;exact HF.out)
  ·have hkl:¬ ((s+k:Nat):Int) < (v.rows.length:Int):=by omega
   have hkl2:¬ (s+k < v.rows.length):=by omega
   have hkl3:¬ ((s:Int)+(k:Int) < (v.rows.length:Int)):=by omega
   have HRe2:Hid (RN k L=some []):=by
    have hke:k=v.rows.length - s:=by omega
    show _=_
    rw[hke]
    exact HRe.out L
   obtain⟨ao,co,hov,hin⟩:=HO.out.slice (by omega)
   subst hov
   have hf:=HYes.out A (by rw[HR.out,HRe2.out];simp) wr _ _ HB.out hin
   rw[hAl] at hf
   have HF:=Lib.hid hf
   clear hf hin
   go_wp2_with fail
   first | exact HF.out | (go_ret2;exact HF.out)
end Go.Proofs.YthojpomoflhbcaaGreatDoor
