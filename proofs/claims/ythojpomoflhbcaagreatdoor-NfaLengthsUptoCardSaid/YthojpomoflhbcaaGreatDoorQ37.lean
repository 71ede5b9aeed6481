/- law08: Brief; law41: threads, Small. -/
import Derived.Test.YthojpomoflhbcaaGreatDoorQ31
import Derived.Test.YthojpomoflhbcaaGreatDoorQ20
import Derived.Test.YthojpomoflhbcaaGreatDoorQ30
import Derived.Test.YthojpomoflhbcaaGreatDoorQ21
import Derived.Test.YthojpomoflhbcaaGreatDoorQ13
set_option maxHeartbeats 8000000
set_option maxRecDepth 100000
set_option linter.unusedSimpArgs false
set_option linter.unusedVariables false
set_option linter.unnecessarySimpa false
namespace Go.Proofs.YthojpomoflhbcaaGreatDoor
open Go.RowKit
attribute [local go_sem ↓] Go.wp_at_zero Go.wp_at_succ
theorem kpB {w w':World} (h:Below w.heap.size w w'):Kp w w':=za h
def zgl (P:Prop) (w:World) (e:Ending) (w':World):Prop:=(∃b:Bool,e=.returned (.bool b)/\(b=true->P))/\Below w.heap.size w w'
structure SmEd (e:zn):Prop where
 gl:e.guards.length<=10
 sl:e.sets.length<=10
 gs:∀g∈e.guards,g.nodes.length<=60
 ss:∀b∈e.sets,b.expr.nodes.length<=60
def ziD (n:zm):Prop:=n.states<=60/\n.edges.length<=120/\n.accept.length<=60/\∀e∈n.edges,SmEd e
theorem ziD.small {n:zm} (h:ziD n):yH n:=λe he=>⟨λg hg=>by have:=(h.2.2.2 e he).gs g hg;omega,λb hb=>by have:=(h.2.2.2 e he).ss b hb;omega⟩
theorem ziD.step {n:zm} (h:ziD n):∀e∈n.edges,Qf e:=λe he=>⟨λg hg=>by have:=(h.2.2.2 e he).gs g hg;omega,λb hb=>by have:=(h.2.2.2 e he).ss b hb;omega,by have:=(h.2.2.2 e he).sl;omega⟩
def ze2 (v:zbl):Bool:=decide (v.names.length<=48/\v.rows.length<=4096)&&ZH v.names v.names.length&&v.rows.all λr=>decide (r.length=v.names.length)&&zc8 r
def ZY (v:zbl) (t:Nat):List Sg:=v.names.zip (v.rows.getD t [])
theorem zbh (v:zbl) (x:zgh) (w:World) (h:zaz w v x):Calls Tryz.prog 28 #[ZV v x] w (yO (ze2 v) w):=by
 have HD:Hid (∀W,Below w.heap.size w W->Calls Tryz.prog 63 #[.slice x.an v.names.length x.cn] W (yO (ZH v.names v.names.length) W)):=λW hW=>zbv v.names x.an x.cn W (zE.keep (za hW) h.ns) h.sz;have HRs:=Lib.hid h.rs;have HRa:Hid (v.rows.length=0\/∃b off,x.ar=some ⟨b,off,none⟩):=h.rs.addr;have hl1:=h.ns.2.1;have hl2:=h.rs.len;have HPo:Hid (∀b,b=ze2 v->∀W,Below w.heap.size w W->yO (ze2 v) w (.returned (.bool b)) W):=λb hb W hW=>⟨by rw[hb],hW⟩;have HW:Hid (ze2 v=(decide (v.names.length<=48/\v.rows.length<=4096)&&ZH v.names v.names.length&&v.rows.all λr=>decide (r.length=v.names.length)&&zc8 r)):=rfl;generalize yO (ze2 v) w=Po at HPo⊢;generalize ze2 v=R at HPo HW;rw[Yt];obtain⟨ns,rs⟩:=v;obtain⟨an,cn,ar,cr⟩:=x;simp only at HD HRs HRa hl1 hl2 HW⊢;generalize ZH ns ns.length=db at HD HW;clear h;unfold yO at HD;go_enter Tryz.func28, Tryz.ntmps28;go_upto_region 1 with fail;generalize hW2:World.alloc w _=W2;have HB2:Hid (Below w.heap.size w W2):=by show Below _ _ _;rw[←hW2];exact(Below.refl _ _).alloc (Nat.le_refl _) _
 have HX2:Hid (W2.heap[w.heap.size]? = some (.cells #[.slice an ns.length cn,.slice ar rs.length cr] 54 (0,0))):=by show _=_;rw[←hW2];exact zh rfl
 have hz2:w.heap.size+1<=W2.heap.size:=by rw[←hW2];simp
 clear hW2;have HXw:Hid (∀W,Below W2.heap.size W2 W->W.cell? ⟨w.heap.size,0,none⟩=some (.slice an ns.length cn)/\W.cell? ⟨w.heap.size,1,none⟩=some (.slice ar rs.length cr)):=λW hW=>by obtain⟨x0,x1,-⟩:=xm ((hW.block _ (by omega)).trans HX2.out);exact⟨x0,x1⟩
 obtain⟨b0,b1⟩:=HXw.out W2 (Below.refl _ _);by_cases h1:ns.length<=48
 ·have h1I:¬(48:Int)<ns.length:=by omega
  by_cases h2:rs.length<=4096
  ·have h2I:¬(4096:Int)<rs.length:=by omega
   have HW2:Hid (R=(db&&rs.all λr=>decide (r.length=ns.length)&&zc8 r)):=by show _=_;rw[HW.out,decide_eq_true ⟨h1,h2⟩,Bool.true_and]
   clear HW;cases db with
   |false =>have HF:=Lib.hid (HPo.out false HW2.out.symm);go_wp2_with (go_at_call 63;go_must (refine(HD.out _ HB2.out).mono ?_;rintro e w5 ⟨rfl,hb5⟩));have HF2:=Lib.hid (HF.out w5 (HB2.out.trans (hb5.mono HB2.out.size)));clear hb5;first|exact HF2.out|(go_ret2;exact HF2.out)
   |true =>
    have HW3:Hid (R=rs.all λr=>decide (r.length=ns.length)&&zc8 r):=HW2.out;go_wp2_with (go_at_call 63;go_must (refine(HD.out _ HB2.out).mono ?_;rintro e w5 ⟨rfl,hb5⟩));have HB5:Hid (Below W2.heap.size W2 w5):=hb5;clear hb5 b0 b1 HW2;go_loopw [3] (λi wr=>∃k:Nat,i=.int .i64 k/\k<=rs.length/\Hid (∀j (hj:j<rs.length),j<k->(decide ((rs[j]'hj).length=ns.length)&&zc8 (rs[j]'hj))=true)/\Hid (Below W2.heap.size W2 wr)) (λi _=>rs.length-(intOf i).toNat);case atStart=>exact⟨0,rfl,Nat.zero_le _,λ_ _ h=>absurd h (Nat.not_lt_zero _),HB5.out⟩
    case round =>
     (try rename World=>wr)
     obtain⟨k,rfl,hk,HAl,HBr⟩:=hrel;have HBw:Hid (Below w.heap.size w wr):=HB2.out.trans (HBr.out.mono HB2.out.size);obtain⟨x0,x1⟩:=HXw.out wr HBr.out;by_cases hlt:k<rs.length
     ·have hkl:(k:Int)<rs.length:=by omega
      obtain⟨b,off,ha⟩:=HRa.out.resolve_left (by omega);subst ha;obtain⟨a',c',g0,hI⟩:=zdI (HRs.out.keep (za HBw.out)) rfl hlt;have HNx:Hid ((decide ((rs[k]'hlt).length=ns.length)&&zc8 (rs[k]'hlt))=true->∀j (hj:j<rs.length),j<k+1->(decide ((rs[j]'hj).length=ns.length)&&zc8 (rs[j]'hj))=true):=λhe j hj hjk=>by
       by_cases e:j=k
       ·subst e;exact he
       ·exact HAl.out j hj (by omega)
      have HNn:Hid ((decide ((rs[k]'hlt).length=ns.length)&&zc8 (rs[k]'hlt))=false->∀W,Below w.heap.size w W->Po (.returned (.bool false)) W):=λhe=>HPo.out false (by rw[HW3.out];exact(zb8 hlt he).symm);generalize (rs[k]'hlt)=r at g0 hI HNx HNn;have HFi:Hid (∀W,Below wr.heap.size wr W->Calls Tryz.prog 64 #[.slice a' r.length c'] W λe w'=>e=.returned (.bool (zc8 r))/\w'=W):=λW hW=>zjn r a' c' W (hI.keep (za hW));have hrl:=hI.2.1;clear HAl hI;by_cases hl:r.length=ns.length
      ·have hl1b:((r.length:Int) != (ns.length:Int))=false:=by simp;omega
       have hl2b:(r.length != ns.length)=false:=by simpa using hl
       generalize zc8 r=fb at HFi HNx HNn;cases fb with
       |true =>
        have HN2:=Lib.hid (HNx.out (by rw[decide_eq_true hl];rfl));clear HNx HNn hl;go_wp2_with fail;go_quiet ((go_at_call 64;exact Calls.quiet_of_same ((HFi.out _ (below_drewN (Below.refl _ _) _)).mono λe w' h=>⟨h.1,h.2⟩)));go_wp2_with fail;go_roundw;case rel=>exact⟨k+1,by go_num,by omega,HN2.out,below_drewN HBr.out _⟩
        case measure=>(simp[intOf];try omega)
       |false =>have HF:=Lib.hid (HNn.out (by rw[Bool.and_false]));clear HNx HNn hl;go_wp2_with fail;go_quiet ((go_at_call 64;exact Calls.quiet_of_same ((HFi.out _ (below_drewN (Below.refl _ _) _)).mono λe w' h=>⟨h.1,h.2⟩)));go_wp2_with fail;first|exact HF.out _ (below_drewN HBw.out _)|(go_ret2;exact HF.out _ (below_drewN HBw.out _))
      ·have hl1b:((r.length:Int) != (ns.length:Int))=true:=by simp;omega
       have hl2b:(r.length != ns.length)=true:=by simpa using hl
       have HF:=Lib.hid (HNn.out (by rw[decide_eq_false hl];rfl));clear HNx HNn hl;go_wp2_with fail;go_quiet (fail);go_wp2_with fail;first|exact HF.out _ (below_drewN HBw.out _)|(go_ret2;exact HF.out _ (below_drewN HBw.out _))
     ·have hkl:¬(k:Int)<rs.length:=by omega
      obtain rfl:k=rs.length:=by omega
      have HF:=Lib.hid (HPo.out true (by rw[HW3.out];exact(QK λj hj=>HAl.out j hj hj).symm) wr HBw.out);go_wp2_with fail;first|exact HF.out|(go_ret2;exact HF.out)
  ·have h2I:(4096:Int)<rs.length:=by omega
   have HF:=Lib.hid (HPo.out false (by rw[HW.out,decide_eq_false (by omega)];rfl) W2 HB2.out);go_wp2_with fail;first|exact HF.out|(go_ret2;exact HF.out)
 ·have h1I:(48:Int)<ns.length:=by omega
  have HF:=Lib.hid (HPo.out false (by rw[HW.out,decide_eq_false (by omega)];rfl) W2 HB2.out);go_wp2_with fail;first|exact HF.out|(go_ret2;exact HF.out)
theorem zkh {v:zbl} (h:ze2 v=true) {t:Nat} (ht:t<v.rows.length):(v.rows[t]'ht).length=v.names.length:=by unfold ze2 at h;simp only[Bool.and_eq_true,List.all_eq_true,decide_eq_true_eq]at h;exact(h.2 _ (List.getElem_mem ht)).1
def zgo (l:List Sg) (w:World) (e:Ending) (w':World):Prop:=(∃a c,e=.returned (.tuple #[.slice a l.length c,.bool true])/\sgE.In w' l a c)/\Below w.heap.size w w'
theorem zki (v:zbl) (x:zgh) (t:Nat) (w:World) (h:zaz w v x) (hv:ze2 v=true) (ht:t<v.rows.length):Calls Tryz.prog 67 #[ZV v x,.int .i64 t] w (zgo (ZY v t) w):=by
 have HV:Hid (∀W,Below w.heap.size w W->Calls Tryz.prog 28 #[ZV v x] W λe w'=>e=.returned (.bool true)/\Below W.heap.size W w'):=λW hW=>(zbh v x W (h.keep (za hW))).mono λe w' h=>⟨by rw[h.1,hv],h.2⟩;have hrow:=zkh hv ht;have HRs:=Lib.hid h.rs;have HNs:=Lib.hid h.ns;obtain⟨bR,oR,hRa⟩:=h.rs.addr.resolve_left (by omega);have HNa:Hid (v.names.length=0\/∃b off,x.an=some ⟨b,off,none⟩):=zr.addr h.ns;have hl1:=h.ns.2.1;have hl2:=h.rs.len;have htI:(t:Int)<v.rows.length:=by omega
 have HEv:Hid (∀k (hk:k<v.names.length),(ZY v t).take (k+1)=(ZY v t).take k++[(v.names[k]'hk,(v.rows[t]'ht).getD k 0)]):=λk hk=>by
  have hrt:v.rows.getD t []=v.rows[t]'ht:=by rw[List.getD_eq_getElem?_getD,List.getElem?_eq_getElem ht];rfl
  have hkz:k<(ZY v t).length:=by unfold ZY;rw[List.length_zip,hrt,hrow];omega
  rw[List.take_succ_eq_append_getElem hkz];unfold ZY;simp only[hrt,List.getElem_zip];rw[List.getD_eq_getElem?_getD (l:=v.rows[t]'ht),List.getElem?_eq_getElem (by rw[hrow];exact hk)];rfl
 have hel:(ZY v t).length=v.names.length:=by unfold ZY;rw[List.length_zip,List.getD_eq_getElem?_getD,List.getElem?_eq_getElem ht,Option.getD_some,hrow];omega
 have HEl:Hid ((ZY v t).take v.names.length=ZY v t):=List.take_of_length_le (by omega);have HEn:Hid (∀k,k<=v.names.length->((ZY v t).take k).length=k):=λk hk=>by rw[List.length_take];omega
 have HPo:Hid (∀W a c,Below w.heap.size w W->sgE.In W (ZY v t) a c->zgo (ZY v t) w (.returned (.tuple #[.slice a (ZY v t).length c,.bool true])) W):=λW a c h1 h2=>⟨⟨a,c,rfl,h2⟩,h1⟩;generalize zgo (ZY v t) w=Po at HPo⊢;have H0:Hid ((ZY v t).take 0=[]):=List.take_zero;obtain⟨A,hA⟩:∃A:Nat->List Sg,A=λk=>(ZY v t).take k:=⟨_,rfl⟩;have hAk:∀k,(ZY v t).take k=A k:=λk=>by rw[hA]
 simp only[hAk]at HEv HEl HEn H0;rw[←HEl.out]at HPo;clear hA hAk hel HEl hv;rw[Yt]at HV⊢;obtain⟨ra,rc,g0,hI⟩:=zdI h.rs hRa ht;rw[hrow]at g0;have HIr:=Lib.hid (qI.2 hI);have HIa:Hid ((v.rows[t]'ht).length=0\/∃b off,ra=some ⟨b,off,none⟩):=zr.addr hI;clear h hI;obtain⟨r,hr⟩:∃r,v.rows[t]'ht=r:=⟨_,rfl⟩;simp only[hr]at HIr HIa HEv hrow;obtain⟨ns,rs⟩:=v;obtain⟨an,cn,ar,cr⟩:=x;simp only at HV HRs HNs hRa HNa hl1 hl2 htI HEv HEn HPo hrow g0⊢;subst hRa;clear hr ht HRs;go_enter Tryz.func67, Tryz.ntmps67;go_upto_region 1 with fail;generalize hW2:World.alloc w _=W2;have HB2:Hid (Below w.heap.size w W2):=by show Below _ _ _;rw[←hW2];exact(Below.refl _ _).alloc (Nat.le_refl _) _
 have HX2:Hid (W2.heap[w.heap.size]? = some (.cells #[.slice an ns.length cn,.slice (some ⟨bR,oR,none⟩) rs.length cr] 54 (0,0))):=by show _=_;rw[←hW2];exact zh rfl
 have hz2:w.heap.size+1<=W2.heap.size:=by rw[←hW2];simp
 clear hW2;obtain⟨b0,b1,-⟩:=xm HX2.out;have ht0:¬((t:Int)<0):=by omega
 have ht0b:decide ((t:Int)<0)=false:=decide_eq_false ht0;have ht1:¬((rs.length:Int)<=(t:Int)):=by omega
 go_cut [21] from 8 to 21 (λs wx=>s=.bool false/\Hid (Below W2.heap.size W2 wx));case first =>go_wp2_with (go_at_call 28;go_must (refine(HV.out _ HB2.out).mono ?_;rintro e w5 ⟨rfl,hb5⟩;have HB5:=Lib.hid hb5;have q0:=za hb5 _ _ b0;have q1:=za hb5 _ _ b1;clear hb5));go_meet;case rel=>exact⟨by simp;omega,HB5.out⟩
 case rest =>
 rename World=>w5;obtain⟨e21,HB5⟩:=hcut;subst e21;have HX5:Hid (w5.heap[w.heap.size]? = some (.cells #[.slice an ns.length cn,.slice (some ⟨bR,oR,none⟩) rs.length cr] 54 (0,0))):=(HB5.out.block _ (by omega)).trans HX2.out;have HBw5:Hid (Below w.heap.size w w5):=HB2.out.trans (HB5.out.mono HB2.out.size);have HO5:Hid (sgE.Own 78 y8 w5 (w.heap.size+1) (.slice none 0 0) (A 0)):=by show sgE.Own _ _ _ _ _ _;rw[H0.out];exact Enc.Own.nil _ _ _ _ _
 clear b0 b1;go_wp2_with fail;go_loopw [7,6] (λi o wr=>∃k:Nat,i=.int .i64 k/\k<=ns.length/\Hid (sgE.Own 78 y8 wr (w.heap.size+1) o (A k))/\Hid (wr.heap[w.heap.size]? = some (.cells #[.slice an ns.length cn,.slice (some ⟨bR,oR,none⟩) rs.length cr] 54 (0,0)))/\Hid (Below w.heap.size w wr)) (λi _ _=>ns.length-(intOf i).toNat);case atStart=>exact⟨0,rfl,Nat.zero_le _,HO5.out,HX5.out,HBw5.out⟩
 case round =>
  (try rename World=>wr)
  obtain⟨k,rfl,hk,HO,HX,HB⟩:=hrel;have hzr:=lt_of_block HX.out;have HAk:=Lib.hid (HEn.out k hk);obtain⟨ao,co,hov,hin⟩:=HO.out.slice (by rw[HAk.out];omega);rw[HAk.out]at hov;subst hov;obtain⟨x0,x1,-⟩:=xm HX.out;by_cases hlt:k<ns.length
  ·have hkl:(k:Int)<ns.length:=by omega
   obtain⟨bn,on,ha⟩:=HNa.out.resolve_left (by omega);subst ha;have hltr:k<r.length:=by omega
   obtain⟨bi,oi,hia⟩:=HIa.out.resolve_left (by omega);subst hia;have n0:=zE.get (zE.keep (za HB.out) HNs.out) rfl hlt;have i0:=Qo.1 ((HIr.out.keep (za HB.out)).get rfl hltr);have ei:r[k]'hltr=r.getD k 0:=by rw[List.getD_eq_getElem?_getD,List.getElem?_eq_getElem hltr];rfl
   rw[show inE.sz=1 from rfl,Nat.mul_one,ei]at i0;have r0:=za HB.out _ _ g0;have HS1:=Lib.hid (HEv.out k hlt);generalize (ns[k]'hlt)=nm at n0 HS1;generalize r.getD k 0=z at i0 HS1;have HVo:Hid (∀j,(Value.slice ao k co).ownBlock=some j->w.heap.size+1<=j/\j<wr.heap.size):=zl HO.out;clear hin;go_wp2_with fail;go_region_law (refine xR (E:=sgE) Qm (by rfl) _ _ (by rfl) y8 (w.heap.size+1) (.slice ao k co) (by rfl) (HO.out.below (by first|exact Below.refl _ _|exact yx)) (nm,z) [.string nm,.int .i64 z] (by rfl) _ 1 (by rfl) (by exact zi _ _) k HAk.out (by omega) (by first|omega|(simp;omega)) _ rfl ?_;intro gg gcap wg hownG hgrow hatG hltG)
   all_goals
    have HO9:Hid (sgE.Own 78 y8 wg (w.heap.size+1) (.slice (some ⟨gg,0,none⟩) (k+1) gcap) (A (k+1))):=by show sgE.Own _ _ _ _ _ _;rw[HS1.out];exact hownG
    have HA9:Hid (Below wr.heap.size wr (wr.alloc (.cells #[.string nm,.int .i64 z] 78)).drew):=by show Below _ _ _;exact yx
    have HX9:Hid (wg.heap[w.heap.size]? = some (.cells #[.slice (some ⟨bn,on,none⟩) ns.length cn,.slice (some ⟨bR,oR,none⟩) rs.length cr] 54 (0,0))):=(hgrow.block _ (by simp;omega) (λe'=>by have:=(HVo.out _ e'.symm).1;omega)).trans ((HA9.out.block _ hzr).trans HX.out);have HB9:Hid (Below w.heap.size w wg):=yQ (HB.out.trans (HA9.out.mono HB.out.size)) hgrow λj hj=>by have:=(HVo.out j hj).1;omega
    clear hownG hgrow hatG hltG;go_wp2_with fail;go_roundw;case rel=>exact⟨k+1,by go_num,by omega,HO9.out,HX9.out,HB9.out⟩
    case measure=>(simp[intOf];try omega)
  ·have hkl:¬(k:Int)<ns.length:=by omega
   obtain rfl:k=ns.length:=by omega
   have HF:=HPo.out wr ao co HB.out hin;rw[HAk.out]at HF;have HF2:=Lib.hid HF;clear HF hin;go_wp2_with fail;first|exact HF2.out|(go_ret2;exact HF2.out)
end Go.Proofs.YthojpomoflhbcaaGreatDoor
