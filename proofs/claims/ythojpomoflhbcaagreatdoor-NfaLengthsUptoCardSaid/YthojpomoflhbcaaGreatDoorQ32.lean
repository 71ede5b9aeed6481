/- ref41: Put. -/
import Derived.Test.YthojpomoflhbcaaGreatDoorQ29
import Derived.Test.YthojpomoflhbcaaGreatDoorQ05
import Derived.Test.YthojpomoflhbcaaGreatDoorQ02
set_option maxHeartbeats 8000000
set_option maxRecDepth 100000
set_option linter.unusedSimpArgs false
set_option linter.unusedVariables false
set_option linter.unnecessarySimpa false
namespace Go.Proofs.YthojpomoflhbcaaGreatDoor
open Go.RowKit
attribute [local go_sem ↓] Go.wp_at_zero Go.wp_at_succ
theorem zdU (x y:Sg) (w:World):Calls Tryz.prog 170 #[.agg #[.string x.1,.int .i64 x.2],.agg #[.string y.1,.int .i64 y.2]] w λe w'=>e=.returned (.int .i64 (qp x y))/\Below w.heap.size w w':=by
 obtain⟨s,z⟩:=x;obtain⟨s',z'⟩:=y;simp only;have hv:qp (s,z) (s',z')=if Zj s s'=0 then Lib.compareInt z z' else Zj s s':=rfl
 rw[hv];have HL:=zce s s';by_cases he:s=s'
 ·subst he;have h0:Zj s s=0:=(XQ.zero _ _).2 rfl;have hI:Hid (Lib.compareInt z z'=if z<z' then -1 else if z'<z then 1 else 0):=rfl;rw[if_pos h0];generalize Lib.compareInt z z'=c at hI⊢;clear hv HL h0;by_cases h1:z<z'
  ·obtain rfl:c=-1:=by rw[hI.out,if_pos h1]
   have h2:(z != z')=true:=by simp;omega
   go_enter Tryz.func170, Tryz.ntmps170;go_wp2_with fail;first|exact⟨rfl,bel⟩|(go_ret;exact⟨rfl,bel⟩)
  ·by_cases h3:z'<z
   ·obtain rfl:c=1:=by rw[hI.out,if_neg h1,if_pos h3]
    have h2:(z != z')=true:=by simp;omega
    go_enter Tryz.func170, Tryz.ntmps170;go_wp2_with fail;first|exact⟨rfl,bel⟩|(go_ret;exact⟨rfl,bel⟩)
   ·obtain rfl:c=0:=by rw[hI.out,if_neg h1,if_neg h3]
    obtain rfl:z=z':=by omega
    go_enter Tryz.func170, Tryz.ntmps170;go_wp2_with fail;first|exact⟨rfl,bel⟩|(go_ret;exact⟨rfl,bel⟩)
 ·have he1:=zl5 he;have he2:(s.toList==s'.toList)=false:=by simpa [bne] using he1
  have he3:¬s.toList=s'.toList:=by simpa using he2
  rcases Zv s s' with ⟨hc,-⟩|⟨-,hc⟩|⟨hc,-⟩
  ·rw[hc]at HL⊢;have hb1:Op.bytesLess s.toList s'.toList=true:=by rw[HL];rfl
   clear hv HL hc he;go_enter Tryz.func170, Tryz.ntmps170;go_wp2_with fail;first|exact⟨rfl,bel⟩|(go_ret;exact⟨rfl,bel⟩)
  ·exact absurd hc he
  ·rw[hc]at HL⊢;have hb1:Op.bytesLess s.toList s'.toList=false:=by rw[HL];rfl
   clear hv HL hc he;go_enter Tryz.func170, Tryz.ntmps170;go_wp2_with fail;first|exact⟨rfl,bel⟩|(go_ret;exact⟨rfl,bel⟩)
theorem zcQ (l m:List Sg) (a1:Option Addr) (c1:Nat) (a2:Option Addr) (c2:Nat) (w:World) (h1:zT w l a1 c1) (h2:zT w m a2 c2) :
 Calls Tryz.prog 109 #[.slice a1 l.length c1,.slice a2 m.length c2] w (yO (decide (zu l m<0)) w):=by
 have HPo:Hid (∀b,b=decide (zu l m<0)->∀W,Below w.heap.size w W->yO (decide (zu l m<0)) w (.returned (.bool b)) W):=λb h W hW=>⟨by rw[h],hW⟩;generalize yO (decide (zu l m<0)) w=Po at HPo⊢;have HE:=Lib.hid h1;have HE2:=Lib.hid h2;have HA:Hid (l.length=0\/∃b off,a1=some ⟨b,off,none⟩):=zr.addr h1;have HA2:Hid (m.length=0\/∃b off,a2=some ⟨b,off,none⟩):=zr.addr h2;have hlen:=h1.2.1;have hlen2:=h2.2.1;clear h1 h2;go_enter Tryz.func109, Tryz.ntmps109;go_wp2_with fail;go_loopw [5,6] (λi _ wr=>∃k:Nat,i=.int .i64 k/\k<=l.length/\k<=m.length/\Hid (zu l m=cmpL qp (l.drop k) (m.drop k))/\Hid (Below w.heap.size w wr)) (λi _ _=>l.length-(intOf i).toNat);case atStart=>exact⟨0,rfl,Nat.zero_le _,Nat.zero_le _,rfl,Below.refl _ _⟩
 case round =>
  (try rename World=>wr)
  obtain⟨k,rfl,hk,hk2,HQ,HB⟩:=hrel;have hzr:=HB.out.size;by_cases hlt:k<l.length
  ·have hkl:(k:Int)<l.length:=by omega
   by_cases hlt2:k<m.length
   ·have hkl2:(k:Int)<m.length:=by omega
    have dd:decide (k<m.length)=true:=decide_eq_true hlt2;obtain⟨b,off,ha⟩:=HA.out.resolve_left (by omega);subst ha;obtain⟨b2,off2,ha2⟩:=HA2.out.resolve_left (by omega);subst ha2;obtain⟨p0,p1⟩:=ZP (zT.keep (za HB.out) HE.out) rfl hlt;obtain⟨q0,q1⟩:=ZP (zT.keep (za HB.out) HE2.out) rfl hlt2;have HStep:Hid (zu l m=if qp (l[k]'hlt) (m[k]'hlt2)=0 then cmpL qp (l.drop (k+1)) (m.drop (k+1)) else qp (l[k]'hlt) (m[k]'hlt2)):=by show _=_;rw[HQ.out,zld hlt hlt2]
    have HBf:Hid (∀W,Below wr.heap.size wr W->Calls Tryz.prog 170 #[.agg #[.string (l[k]'hlt).1,.int .i64 (l[k]'hlt).2],.agg #[.string (m[k]'hlt2).1,.int .i64 (m[k]'hlt2).2]] W λe w'=>e=.returned (.int .i64 (qp (l[k]'hlt) (m[k]'hlt2)))/\Below wr.heap.size wr w'):=λW hW=>(zdU _ _ W).mono λe w' h=>⟨h.1,hW.trans (h.2.mono hW.size)⟩;generalize qp (l[k]'hlt) (m[k]'hlt2)=cc at HStep HBf;generalize (l[k]'hlt).1=s at p0 HBf;generalize (l[k]'hlt).2=z at p1 HBf;generalize (m[k]'hlt2).1=s' at q0 HBf;generalize (m[k]'hlt2).2=z' at q1 HBf;have HC:Hid (∀W,Below wr.heap.size wr W->W.cell? ⟨b,off+k*2,none⟩=some (.string s)/\W.cell? ⟨b,off+k*2+1,none⟩=some (.int .i64 z)/\W.cell? ⟨b2,off2+k*2,none⟩=some (.string s')/\W.cell? ⟨b2,off2+k*2+1,none⟩=some (.int .i64 z')):=λW hW=>⟨za hW _ _ p0,za hW _ _ p1,za hW _ _ q0,za hW _ _ q1⟩;by_cases hc:cc=0
    ·subst hc;have HN:Hid (zu l m=cmpL qp (l.drop (k+1)) (m.drop (k+1))):=by show _=_;rw[HStep.out,if_pos rfl]
     clear HStep;go_wp2_with fail
     go_region_held3 (λW=>Below wr.heap.size wr W/\(W.cell? ⟨b,off+k*2,none⟩=some (.string s)/\W.cell? ⟨b,off+k*2+1,none⟩=some (.int .i64 z)/\W.cell? ⟨b2,off2+k*2,none⟩=some (.string s')/\W.cell? ⟨b2,off2+k*2+1,none⟩=some (.int .i64 z')))
      ((refine(λh=>⟨h,HC.out _ h⟩) ?_;first|with_reducible assumption|exact yx))
      (first|(go_at_call 170;(with_reducible refine(HBf.out _ (by first|with_reducible assumption|exact yx)).mono ?_);rintro e w5 ⟨rfl,hb5⟩))
     all_goals
      have HB9:Hid (Below w.heap.size w w5):=HB.out.trans (Below.mono hb5 HB.out.size);clear hb5;go_wp2_with fail;go_roundw;case rel=>exact⟨k+1,by go_num,by omega,by omega,HN.out,HB9.out⟩
      case measure=>(simp[intOf];try omega)
    ·have HN:=Lib.hid (HPo.out (decide (cc<0)) (by rw[HStep.out,if_neg hc]));have hc2:(cc != 0)=true:=by simpa using hc
     clear HStep hc;go_wp2_with fail
     go_region_held3 (λW=>Below wr.heap.size wr W/\(W.cell? ⟨b,off+k*2,none⟩=some (.string s)/\W.cell? ⟨b,off+k*2+1,none⟩=some (.int .i64 z)/\W.cell? ⟨b2,off2+k*2,none⟩=some (.string s')/\W.cell? ⟨b2,off2+k*2+1,none⟩=some (.int .i64 z')))
      ((refine(λh=>⟨h,HC.out _ h⟩) ?_;first|with_reducible assumption|exact yx))
      (first|(go_at_call 170;(with_reducible refine(HBf.out _ (by first|with_reducible assumption|exact yx)).mono ?_);rintro e w5 ⟨rfl,hb5⟩))
     all_goals
      have HF:=Lib.hid (HN.out w5 (HB.out.trans (Below.mono hb5 HB.out.size)));clear hb5;go_wp2_with fail;first|exact HF.out|(go_ret2;exact HF.out)
   ·have dd:decide (k<m.length)=false:=decide_eq_false hlt2;have dd2:decide ((k:Int)<(m.length:Int))=false:=decide_eq_false (by omega);have HF:=Lib.hid (HPo.out (decide (l.length<m.length)) (by rw[HQ.out];exact decide_eq_decide.2 (zel hk hk2 (by omega)).symm) wr HB.out);go_wp2_with fail;first|exact HF.out|(go_ret2;exact HF.out)
  ·have hkl:¬(k:Int)<l.length:=by omega
   have dd:decide (k<l.length)=false:=decide_eq_false hlt;have HF:=Lib.hid (HPo.out (decide (l.length<m.length)) (by rw[HQ.out];exact decide_eq_decide.2 (zel hk hk2 (by omega)).symm) wr HB.out);go_wp2_with fail;first|exact HF.out|(go_ret2;exact HF.out)
theorem zh5 (e:Ex) (a:Option Addr) (c:Nat) (w:World) (h:yY w e a c) (hn:e.nodes.length<=1000000000):Calls Tryz.prog 124 #[yu e a c] w λe' w'=>e'=.returned (.int .i64 (zZ e))/\Below w.heap.size w w':=by obtain⟨op,n,s,args⟩:=e;exact zfU op n s args a c w h (by omega)
end Go.Proofs.YthojpomoflhbcaaGreatDoor
