/- ref08: Same, for automata. -/
import Derived.Test.YthojpomoflhbcaaGreatDoorM32
import Derived.Test.YthojpomoflhbcaaGreatDoorM25
set_option linter.unusedSimpArgs false
set_option linter.unusedVariables false
set_option linter.unnecessarySimpa false
namespace Go.Proofs.YthojpomoflhbcaaGreatDoor
open Go.RowKit
attribute [local go_sem ↓] Go.wp_at_zero Go.wp_at_succ
noncomputable def pB (P:Prop):Bool:=@decide P (Classical.propDecidable P)
theorem pB_true {P:Prop} (h:P):pB P=true:=by unfold pB;exact @decide_eq_true P (Classical.propDecidable P) h
theorem pB_false {P:Prop} (h:¬ P):pB P=false:=by unfold pB;exact @decide_eq_false P (Classical.propDecidable P) h
theorem tl_ne {s s':ByteArray} (h:¬ s=s'):(s.toList != s'.toList)=true:=by
 cases he:(s.toList == s'.toList)
 ·simp[bne,he]
 ·have h1:s.toList=s'.toList:=by simpa using he
  rw[ByteArray.toList_eq,ByteArray.toList_eq] at h1
  exact absurd (ByteArray.ext (Array.toList_inj.1 h1)) h
end Go.Proofs.YthojpomoflhbcaaGreatDoor
namespace Go.Proofs.YthojpomoflhbcaaGreatDoor
open Go.RowKit
attribute [local go_sem ↓] Go.wp_at_zero Go.wp_at_succ
def BoolRet (b:Bool) (w:World) (e:Ending) (w':World):Prop:=e=.returned (.bool b)∧Below w.heap.size w w'
theorem hid_noneT {v:Value} {B:Nat} (hv:∀ j,v.ownBlock=some j→B≤j):∀ k,k < B→hid noneT v k=false:=fun k hk=>by
 cases h:hid noneT v k with
 | false=>rfl
 | true =>
  rcases hid_true.1 h with h | h
  ·cases h
  ·have:=hv k h;omega
theorem pB_self {α:Type} (x:α):pB (x=x)=true:=pB_true rfl
theorem drop_prefix_ne {α:Type} {l m:List α} {k:Nat} (hl:k < l.length) (hm:k < m.length) (h:l[k]'hl≠m[k]'hm):¬ l=m:=by
 rintro rfl
 exact h rfl
set_option maxHeartbeats 8000000 in
set_option maxRecDepth 100000 in
theorem rsameEnv_any (l m:List Sg) (a1:Option Addr) (c1:Nat) (a2:Option Addr) (c2:Nat) (w:World) (h1:SigsIn w l a1 c1) (h2:SigsIn w m a2 c2) :
  Calls Tryz.prog 55 #[.slice a1 l.length c1,.slice a2 m.length c2] w (BoolRet (pB (l=m)) w):=by
 have HYes:Hid (l=m→∀ W,Below w.heap.size w W→BoolRet (pB (l=m)) w (.returned (.bool true)) W):=fun h W hW=>⟨by rw[pB_true h],hW⟩
 have HNo:Hid (¬ l=m→∀ W,Below w.heap.size w W→BoolRet (pB (l=m)) w (.returned (.bool false)) W):=fun h W hW=>⟨by rw[pB_false h],hW⟩
 generalize BoolRet (pB (l=m)) w=Po at HYes HNo⊢
 have HE:=Lib.hid h1
 have HE2:=Lib.hid h2
 have HA:Hid (l.length=0∨∃ b off,a1=some ⟨b,off,none⟩):=SliceIn.addr h1
 have HA2:Hid (m.length=0∨∃ b off,a2=some ⟨b,off,none⟩):=SliceIn.addr h2
 have hlen:=h1.2.1
 have hlen2:=h2.2.1
 clear h1 h2
 by_cases hl:l.length=m.length
 ·have HL:=Lib.hid hl
  have d1:((l.length:Int) != (m.length:Int))=false:=by simp;omega
  clear hl
  go_enter Tryz.func55, Tryz.ntmps55
  go_wp2_with fail
  clear d1
  go_loopw [5] (fun i wr=>∃ k:Nat,i=.int .i64 k∧k≤l.length∧Hid (∀ j (hj:j < l.length) (hj2:j < m.length),j < k→l[j]'hj=m[j]'hj2)∧Hid (Below w.heap.size w wr)) (fun i _=>l.length - (intOf i).toNat)
  case atStart=>exact⟨0,rfl,Nat.zero_le _,fun _ _ _ h=>absurd h (Nat.not_lt_zero _),Below.refl _ _⟩
  case round =>
   (try rename World=>wr)
   obtain⟨k,rfl,hk,HAl,HB⟩:=hrel
   by_cases hlt:k < l.length
   ·have hlt2:k < m.length:=by have:=HL.out;omega
    obtain⟨b,off,ha⟩:=HA.out.resolve_left (by omega)
    subst ha
    obtain⟨b2,off2,ha2⟩:=HA2.out.resolve_left (by omega)
    subst ha2
    obtain⟨p0,p1⟩:=(HE.out.keep (keeps_of_below HB.out)).get rfl hlt
    obtain⟨q0,q1⟩:=(HE2.out.keep (keeps_of_below HB.out)).get rfl hlt2
    have HNx:Hid (l[k]'hlt=m[k]'hlt2→∀ j (hj:j < l.length) (hj2:j < m.length),j < k+1→l[j]'hj=m[j]'hj2):=fun he j hj hj2 hjk=>by
     by_cases e:j=k
     ·subst e;exact he
     ·exact HAl.out j hj hj2 (by omega)
    have HNn:Hid (¬ l[k]'hlt=m[k]'hlt2→∀ W,Below w.heap.size w W→Po (.returned (.bool false)) W):=fun h=>HNo.out (drop_prefix_ne hlt hlt2 h)
    generalize (l[k]'hlt)=x at p0 p1 HNx HNn
    generalize (m[k]'hlt2)=y at q0 q1 HNx HNn
    obtain⟨s,z⟩:=x
    obtain⟨s',z'⟩:=y
    simp only at p0 p1 q0 q1
    have hkl:(k:Int) < l.length:=by omega
    have hkl2:(k:Int) < m.length:=by omega
    clear HAl
    by_cases he:s=s'
    ·by_cases hz:z=z'
     ·subst he
      subst hz
      have HN:=Lib.hid (HNx.out rfl)
      clear HNx HNn
      go_wp2_with fail
      go_quiet (fail)
      go_wp2_with fail
      go_roundw
      case rel=>exact⟨k+1,by go_num,by omega,HN.out,below_drewN HB.out _⟩
      case measure=>(simp[intOf];try omega)
     ·subst he
      have HN:=Lib.hid (HNn.out (fun h=>hz (Prod.mk.inj h).2))
      have hz1:(z == z')=false:=by simpa using hz
      have hz2:(z != z')=true:=by simpa using hz
      clear HNx HNn
      go_wp2_with fail
      go_quiet (fail)
      go_wp2_with fail
      first | exact HN.out _ (below_drewN HB.out _) | (go_ret2;exact HN.out _ (below_drewN HB.out _))
    ·have HN:=Lib.hid (HNn.out (fun h=>he (Prod.mk.inj h).1))
     have he1:=tl_ne he
     have he2:(s.toList == s'.toList)=false:=by simpa [bne] using he1
     have he3:¬ s.toList=s'.toList:=by simpa using he2
     clear HNx HNn
     go_wp2_with fail
     go_quiet (fail)
     go_wp2_with fail
     first | exact HN.out _ (below_drewN HB.out _) | (go_ret2;exact HN.out _ (below_drewN HB.out _))
   ·obtain rfl:k=l.length:=by omega
    have HEq:Hid (l=m):=List.ext_getElem HL.out fun j hj hj2=>HAl.out j hj hj2 hj
    have HN:=Lib.hid (HYes.out HEq.out _ HB.out)
    go_wp2_with fail
    first | exact HN.out | (go_ret2;exact HN.out)
 ·have d1:((l.length:Int) != (m.length:Int))=true:=by simp;omega
  have HN:=Lib.hid (HNo.out (fun h=>hl (by rw[h])) _ (Below.refl _ _))
  go_enter Tryz.func55, Tryz.ntmps55
  go_wp2_with fail
  first | exact HN.out | (go_ret2;exact HN.out)
set_option maxHeartbeats 8000000 in
set_option maxRecDepth 100000 in
theorem rsameThr_eq (l:List ThrD) (a1:Option Addr) (c1:Nat) (a2:Option Addr) (c2:Nat) (w:World) (h1:thE.In w l a1 c1) (h2:thE.In w l a2 c2) :
  Calls Tryz.prog 21 #[.slice a1 l.length c1,.slice a2 l.length c2] w (BoolRet true w):=by
 have HE:=Lib.hid h1
 have HE2:=Lib.hid h2
 have HA:Hid (l.length=0∨∃ b off,a1=some ⟨b,off,none⟩):=h1.addr
 have HA2:Hid (l.length=0∨∃ b off,a2=some ⟨b,off,none⟩):=h2.addr
 have hlen:=h1.len
 have HYes:Hid (∀ W,Below w.heap.size w W→BoolRet true w (.returned (.bool true)) W):=fun W hW=>⟨rfl,hW⟩
 generalize BoolRet true w=Po at HYes⊢
 clear h1 h2
 go_enter Tryz.func21, Tryz.ntmps21
 go_wp2_with fail
 go_loopw [5] (fun i wr=>∃ k:Nat,i=.int .i64 k∧k≤l.length∧Hid (Below w.heap.size w wr)) (fun i _=>l.length - (intOf i).toNat)
 case atStart=>exact⟨0,rfl,Nat.zero_le _,Below.refl _ _⟩
 case round =>
  (try rename World=>wr)
  obtain⟨k,rfl,hk,HB⟩:=hrel
  by_cases hlt:k < l.length
  ·obtain⟨b,off,ha⟩:=HA.out.resolve_left (by omega)
   subst ha
   obtain⟨b2,off2,ha2⟩:=HA2.out.resolve_left (by omega)
   subst ha2
   obtain⟨ta,tc,p0,p1,hp⟩:=thE_get (HE.out.keep (keeps_of_below HB.out)) rfl hlt
   obtain⟨sa,sc,q0,q1,hq⟩:=thE_get (HE2.out.keep (keeps_of_below HB.out)) rfl hlt
   generalize (l[k]'hlt)=t at p0 p1 q0 q1 hp hq
   have HS:Hid (∀ W,Below wr.heap.size wr W→Calls Tryz.prog 55 #[.slice ta t.env.length tc,.slice sa t.env.length sc] W fun e w'=>e=.returned (.bool true)∧Below wr.heap.size wr w'):=fun W hW=>(rsameEnv_any t.env t.env ta tc sa sc W (SigsIn.keep (keeps_of_below hW) hp) (SigsIn.keep (keeps_of_below hW) hq)).mono fun e w' h=>⟨by rw[h.1,pB_self],hW.trans (h.2.mono hW.size)⟩
   have hkl:(k:Int) < l.length:=by omega
   have qs:(t.state != t.state)=false:=by simp
   have HC:Hid (∀ W,Below wr.heap.size wr W→W.cell? ⟨b,off+k * 2,none⟩=some (.int .i64 t.state)∧W.cell? ⟨b,off+k * 2+1,none⟩=some (.slice ta t.env.length tc)∧W.cell? ⟨b2,off2+k * 2,none⟩=some (.int .i64 t.state)∧W.cell? ⟨b2,off2+k * 2+1,none⟩=some (.slice sa t.env.length sc)):=fun W hW=>⟨keeps_of_below hW _ _ p0,keeps_of_below hW _ _ p1,keeps_of_below hW _ _ q0,keeps_of_below hW _ _ q1⟩
   clear hp hq
   go_wp2_with fail
   go_region_held3 (fun W=>Below wr.heap.size wr W∧(W.cell? ⟨b,off+k * 2,none⟩=some (.int .i64 t.state)∧W.cell? ⟨b,off+k * 2+1,none⟩=some (.slice ta t.env.length tc)∧W.cell? ⟨b2,off2+k * 2,none⟩=some (.int .i64 t.state)∧W.cell? ⟨b2,off2+k * 2+1,none⟩=some (.slice sa t.env.length sc)))
    ((refine(fun h=>⟨h,HC.out _ h⟩) ?_;first | with_reducible assumption | exact belR))
    (first | (go_at_call 55;(with_reducible refine(HS.out _ (by first | with_reducible assumption | exact belR)).mono ?_);rintro e w5 ⟨rfl,hb5⟩))
   all_goals
    have HB9:Hid (Below w.heap.size w w5):=HB.out.trans (Below.mono hb5 HB.out.size)
    clear hb5
    go_wp2_with fail
    go_roundw
    case rel=>exact⟨k+1,by go_num,by omega,HB9.out⟩
    case measure=>(simp[intOf];try omega)
  ·obtain rfl:k=l.length:=by omega
   have HN:=Lib.hid (HYes.out _ HB.out)
   go_wp2_with fail
   first | exact HN.out | (go_ret2;exact HN.out)
end Go.Proofs.YthojpomoflhbcaaGreatDoor
namespace Go.Proofs.YthojpomoflhbcaaGreatDoor
open Go.RowKit
attribute [local go_sem ↓] Go.wp_at_zero Go.wp_at_succ
set_option maxHeartbeats 8000000 in
set_option maxRecDepth 100000 in
theorem rput_any (p:Nat→Bool) (l:List Sg) (a:Option Addr) (c:Nat) (nm:ByteArray) (v:Int) (w:World) (h:sgE.In w l a c) (ha:ascS l) (hl:l.length≤100000) :
  Calls Tryz.prog 58 #[.slice a l.length c,.string nm,.int .i64 v] w (WithPost p (putS l nm v) w):=by
 have HE:=Lib.hid (sgE_in.1 h)
 have HA:Hid (l.length=0∨∃ b off,a=some ⟨b,off,none⟩):=h.addr
 have HS:Hid (∀ k (hk:k < l.length),(dnG (fun x:Sg=>cmpB x.1 nm) l k=false→cmpB (l[k]'hk).1 nm < 0→dnG (fun x:Sg=>cmpB x.1 nm) l (k+1)=false∧atG (fun x:Sg=>cmpB x.1 nm) (nm,v) l (k+1)=atG (fun x:Sg=>cmpB x.1 nm) (nm,v) l k++[l[k]'hk]) ∧
   (dnG (fun x:Sg=>cmpB x.1 nm) l k=false→cmpB (l[k]'hk).1 nm=0→dnG (fun x:Sg=>cmpB x.1 nm) l (k+1)=true∧atG (fun x:Sg=>cmpB x.1 nm) (nm,v) l (k+1)=atG (fun x:Sg=>cmpB x.1 nm) (nm,v) l k++[(nm,v)]) ∧
   (dnG (fun x:Sg=>cmpB x.1 nm) l k=false→0 < cmpB (l[k]'hk).1 nm→dnG (fun x:Sg=>cmpB x.1 nm) l (k+1)=true∧atG (fun x:Sg=>cmpB x.1 nm) (nm,v) l (k+1)=atG (fun x:Sg=>cmpB x.1 nm) (nm,v) l k++[(nm,v)]++[l[k]'hk]) ∧
   (dnG (fun x:Sg=>cmpB x.1 nm) l k=true→0 < cmpB (l[k]'hk).1 nm∧dnG (fun x:Sg=>cmpB x.1 nm) l (k+1)=true∧atG (fun x:Sg=>cmpB x.1 nm) (nm,v) l (k+1)=atG (fun x:Sg=>cmpB x.1 nm) (nm,v) l k++[l[k]'hk])):=fun k hk=>stepG (monS ha) hk
 have HLn:Hid (∀ k,(atG (fun x:Sg=>cmpB x.1 nm) (nm,v) l k).length≤l.length+1):=fun k=>atG_len l k
 have HEnd:putS l nm v=if dnG (fun x:Sg=>cmpB x.1 nm) l l.length=true then atG (fun x:Sg=>cmpB x.1 nm) (nm,v) l l.length else atG (fun x:Sg=>cmpB x.1 nm) (nm,v) l l.length++[(nm,v)]:=by rw[putS_gen];exact endG
 have hD0:dnG (fun x:Sg=>cmpB x.1 nm) l 0=false:=dnG_zero l
 have hA0:atG (fun x:Sg=>cmpB x.1 nm) (nm,v) l 0=[]:=atG_zero l
 rw[HEnd]
 clear h ha HEnd
 generalize dnG (fun x:Sg=>cmpB x.1 nm) l=D at HS hD0⊢
 generalize atG (fun x:Sg=>cmpB x.1 nm) (nm,v) l=A at HS HLn hA0⊢
 have HPo:Hid (∀ v' W,sgE.Own 78 p W w.heap.size v' (if D l.length=true then A l.length else A l.length++[(nm,v)])→Below w.heap.size w W→WithPost p (if D l.length=true then A l.length else A l.length++[(nm,v)]) w (.returned v') W):=fun v' W h1 h2=>⟨⟨v',rfl,h1⟩,h2⟩
 generalize WithPost p (if D l.length=true then A l.length else A l.length++[(nm,v)]) w=Po at HPo⊢
 have HO0:Hid (sgE.Own 78 p w w.heap.size (.slice none 0 0) (A 0)):=by show sgE.Own _ _ _ _ _ _;rw[hA0];exact Enc.Own.nil _ _ _ _ _
 have HD0:=Lib.hid hD0
 clear hD0 hA0
 go_enter Tryz.func58, Tryz.ntmps58
 go_wp2_with fail
 go_loopw [9,7,8] (fun i o d wr=>∃ k:Nat,i=.int .i64 k∧k≤l.length∧d=.bool (D k)∧Hid (sgE.Own 78 p wr w.heap.size o (A k))∧Hid (Below w.heap.size w wr)) (fun i _ _ _=>l.length - (intOf i).toNat)
 case atStart=>exact⟨0,rfl,Nat.zero_le _,by rw[HD0.out],HO0.out,Below.refl _ _⟩
 case round =>
  (try rename World=>wr)
  obtain⟨k,rfl,hk,hd,HO,HB⟩:=hrel
  have hzr:=HB.out.size
  have hAk:=HLn.out k
  by_cases hlt:k < l.length
  ·obtain⟨b,off,hb⟩:=HA.out.resolve_left (by omega)
   subst hb
   have HC:Hid (∀ W,Below w.heap.size w W→W.cell? ⟨b,off+k * 2,none⟩=some (.string (l[k]'hlt).1)∧W.cell? ⟨b,off+k * 2+1,none⟩=some (.int .i64 (l[k]'hlt).2)):=fun W hW=>sgE_get (SigsIn.keep (keeps_of_below hW) HE.out) rfl hlt
   obtain⟨hs1,hs2,hs3,hs4⟩:=HS.out k hlt
   generalize (l[k]'hlt)=x at HC hs1 hs2 hs3 hs4
   obtain⟨s,z⟩:=x
   simp only at HC hs1 hs2 hs3 hs4
   have HLs:=Lib.hid (cmpB_less s nm)
   have hkl:(k:Int) < l.length:=by omega
   obtain⟨c0,c1⟩:=HC.out wr HB.out
   have HZ:Hid (cmpB s nm=0↔s=nm):=cmp3B.zero s nm
   cases hDk:D k with
   | true =>
    obtain⟨hpos,hd2,ha2⟩:=hs4 hDk
    have hne:¬ s=nm:=fun e=>by have:=HZ.out.2 e;omega
    have he1:=tl_ne hne
    have he2:(s.toList == nm.toList)=false:=by simpa [bne] using he1
    have he3:¬ s.toList=nm.toList:=by simpa using he2
    rw[hDk] at hd
    subst hd
    have HD2:=Lib.hid hd2
    have HA2:=Lib.hid ha2
    clear hs1 hs2 hs3 hs4 hpos hd2 ha2 hne
    go_wp2_with (at_builtin;go_must (refine own_addE (E:=sgE) elemSG _ rfl (.tmp 40) (.tmp 45) rfl p w.heap.size _ rfl HO.out (s,z) [.string s,.int .i64 z] rfl _ _ rfl rfl (A k).length rfl (by omega) hzr ?_))
    intro g7 cap7 w7 ho7 hg7 hat7
    have HO7:Hid (sgE.Own 78 p w7 w.heap.size (.slice (some ⟨g7,0,none⟩) ((A k).length+1) cap7) (A (k+1))):=by show sgE.Own _ _ _ _ _ _;rw[HA2.out];exact ho7
    have HB7:Hid (Below w.heap.size w w7):=below_growF HB.out hg7 fun j hj=>(own_vlt HO.out j hj).1
    clear ho7 hg7 hat7
    go_wp2_with fail
    go_roundw
    case rel=>exact⟨k+1,by go_num,by omega,by rw[HD2.out],HO7.out,HB7.out⟩
    case measure=>(simp[intOf];try omega)
   | false =>
    rw[hDk] at hd
    subst hd
    rcases Int.lt_trichotomy (cmpB s nm) 0 with hc | hc | hc
    ·obtain⟨hd2,ha2⟩:=hs1 hDk hc
     have hne:¬ s=nm:=fun e=>by have:=HZ.out.2 e;omega
     have he1:=tl_ne hne
     have he2:(s.toList == nm.toList)=false:=by simpa [bne] using he1
     have he3:¬ s.toList=nm.toList:=by simpa using he2
     have hb1:Op.bytesLess s.toList nm.toList=true:=by rw[HLs.out];exact decide_eq_true hc
     have HD2:=Lib.hid hd2
     have HA2:=Lib.hid ha2
     clear hs1 hs2 hs3 hs4 hc hd2 ha2 hne
     go_wp2_with (at_builtin;go_must (refine own_addE (E:=sgE) elemSG _ rfl (.tmp 40) (.tmp 45) rfl p w.heap.size _ rfl HO.out (s,z) [.string s,.int .i64 z] rfl _ _ rfl rfl (A k).length rfl (by omega) hzr ?_))
     intro g7 cap7 w7 ho7 hg7 hat7
     have HO7:Hid (sgE.Own 78 p w7 w.heap.size (.slice (some ⟨g7,0,none⟩) ((A k).length+1) cap7) (A (k+1))):=by show sgE.Own _ _ _ _ _ _;rw[HA2.out];exact ho7
     have HB7:Hid (Below w.heap.size w w7):=below_growF HB.out hg7 fun j hj=>(own_vlt HO.out j hj).1
     clear ho7 hg7 hat7
     go_wp2_with fail
     go_roundw
     case rel=>exact⟨k+1,by go_num,by omega,by rw[HD2.out],HO7.out,HB7.out⟩
     case measure=>(simp[intOf];try omega)
    ·obtain⟨hd2,ha2⟩:=hs2 hDk hc
     have hb1:Op.bytesLess s.toList nm.toList=false:=by rw[HLs.out];exact decide_eq_false (by omega)
     have he:=HZ.out.1 hc
     subst he
     have HD2:=Lib.hid hd2
     have HA2:=Lib.hid ha2
     clear hs1 hs2 hs3 hs4 hc hd2 ha2
     go_wp2_with (at_builtin;go_must (refine own_addE (E:=sgE) elemSG _ rfl (.tmp 27) (.tmp 31) rfl p w.heap.size _ rfl HO.out (s,v) [.string s,.int .i64 v] rfl _ _ rfl rfl (A k).length rfl (by omega) hzr ?_))
     intro g7 cap7 w7 ho7 hg7 hat7
     have HO7:Hid (sgE.Own 78 p w7 w.heap.size (.slice (some ⟨g7,0,none⟩) ((A k).length+1) cap7) (A (k+1))):=by show sgE.Own _ _ _ _ _ _;rw[HA2.out];exact ho7
     have HB7:Hid (Below w.heap.size w w7):=below_growF HB.out hg7 fun j hj=>(own_vlt HO.out j hj).1
     obtain⟨d0,d1⟩:=HC.out w7 HB7.out
     clear ho7 hg7 hat7 c0 c1
     go_wp2_with fail
     go_roundw
     case rel=>exact⟨k+1,by go_num,by omega,by rw[HD2.out],HO7.out,HB7.out⟩
     case measure=>(simp[intOf];try omega)
    ·obtain⟨hd2,ha2⟩:=hs3 hDk hc
     have hne:¬ s=nm:=fun e=>by have:=HZ.out.2 e;omega
     have he1:=tl_ne hne
     have he2:(s.toList == nm.toList)=false:=by simpa [bne] using he1
     have he3:¬ s.toList=nm.toList:=by simpa using he2
     have hb1:Op.bytesLess s.toList nm.toList=false:=by rw[HLs.out];exact decide_eq_false (by omega)
     have HD2:=Lib.hid hd2
     have HA2:=Lib.hid ha2
     clear hs1 hs2 hs3 hs4 hc hd2 ha2 hne
     go_wp2_with (at_builtin;go_must (refine own_addE (E:=sgE) elemSG _ rfl (.tmp 27) (.tmp 31) rfl p w.heap.size _ rfl HO.out (nm,v) [.string nm,.int .i64 v] rfl _ _ rfl rfl (A k).length rfl (by omega) hzr ?_))
     intro g7 cap7 w7 ho7 hg7 hat7
     have HO7:Hid (sgE.Own 78 p w7 w.heap.size (.slice (some ⟨g7,0,none⟩) ((A k).length+1) cap7) (A k++[(nm,v)])):=ho7
     have HB7:Hid (Below w.heap.size w w7):=below_growF HB.out hg7 fun j hj=>(own_vlt HO.out j hj).1
     obtain⟨d0,d1⟩:=HC.out w7 HB7.out
     have hz7:=HB7.out.size
     have HL7:Hid ((A k++[(nm,v)]).length=(A k).length+1):=by show _=_;simp
     clear ho7 hg7 hat7 c0 c1
     go_wp2_with (at_builtin;go_must (refine own_addE (E:=sgE) elemSG _ rfl (.tmp 40) (.tmp 45) rfl p w.heap.size _ rfl HO7.out (s,z) [.string s,.int .i64 z] rfl _ _ rfl rfl ((A k).length+1) HL7.out (by omega) hz7 ?_))
     intro g8 cap8 w8 ho8 hg8 hat8
     have HO8:Hid (sgE.Own 78 p w8 w.heap.size (.slice (some ⟨g8,0,none⟩) ((A k).length+1+1) cap8) (A (k+1))):=by show sgE.Own _ _ _ _ _ _;rw[HA2.out,List.append_assoc];exact ho8
     have HB8:Hid (Below w.heap.size w w8):=below_growF HB7.out hg8 fun j hj=>(own_vlt HO7.out j hj).1
     clear ho8 hg8 hat8 d0 d1
     go_wp2_with fail
     go_roundw
     case rel=>exact⟨k+1,by go_num,by omega,by rw[HD2.out],HO8.out,HB8.out⟩
     case measure=>(simp[intOf];try omega)
  ·obtain rfl:k=l.length:=by omega
   cases hDk:D l.length with
   | true =>
    rw[hDk] at hd
    subst hd
    have HP1:Hid (∀ v' W,sgE.Own 78 p W w.heap.size v' (A l.length)→Below w.heap.size w W→Po (.returned v') W):=fun v' W h1 h2=>HPo.out v' W (by rw[if_pos hDk];exact h1) h2
    have HF:=Lib.hid (HP1.out _ _ HO.out HB.out)
    clear HPo
    go_wp2_with fail
    first | exact HF.out | (go_ret2;exact HF.out)
   | false =>
    rw[hDk] at hd
    subst hd
    have HP1:Hid (∀ v' W,sgE.Own 78 p W w.heap.size v' (A l.length++[(nm,v)])→Below w.heap.size w W→Po (.returned v') W):=fun v' W h1 h2=>HPo.out v' W (by rw[if_neg (by rw[hDk];simp)];exact h1) h2
    clear HPo
    go_wp2_with (at_builtin;go_must (refine own_addE (E:=sgE) elemSG _ rfl (.tmp 49) (.tmp 53) rfl p w.heap.size _ rfl HO.out (nm,v) [.string nm,.int .i64 v] rfl _ _ rfl rfl (A l.length).length rfl (by omega) hzr ?_))
    intro g7 cap7 w7 ho7 hg7 hat7
    have HF:=Lib.hid (HP1.out _ _ ho7 (below_growF HB.out hg7 fun j hj=>(own_vlt HO.out j hj).1))
    clear ho7 hg7 hat7
    go_wp2_with fail
    first | exact HF.out | (go_ret2;exact HF.out)
end Go.Proofs.YthojpomoflhbcaaGreatDoor
namespace Go.Proofs.YthojpomoflhbcaaGreatDoor
open Go.RowKit
attribute [local go_sem ↓] Go.wp_at_zero Go.wp_at_succ
theorem rbefore_any (x y:Sg) (w:World):Calls Tryz.prog 170 #[.agg #[.string x.1,.int .i64 x.2],.agg #[.string y.1,.int .i64 y.2]] w fun e w'=>e=.returned (.int .i64 (cmpSg x y))∧Below w.heap.size w w':=by
 obtain⟨s,z⟩:=x
 obtain⟨s',z'⟩:=y
 simp only
 have hv:cmpSg (s,z) (s',z')=if cmpB s s'=0 then Lib.compareInt z z' else cmpB s s':=rfl
 rw[hv]
 have HL:=cmpB_less s s'
 by_cases he:s=s'
 ·subst he
  have h0:cmpB s s=0:=(cmp3B.zero _ _).2 rfl
  have hI:Hid (Lib.compareInt z z'=if z < z' then -1 else if z' < z then 1 else 0):=rfl
  rw[if_pos h0]
  generalize Lib.compareInt z z'=c at hI⊢
  clear hv HL h0
  by_cases h1:z < z'
  ·obtain rfl:c=-1:=by rw[hI.out,if_pos h1]
   have h2:(z != z')=true:=by simp;omega
   go_enter Tryz.func170, Tryz.ntmps170
   go_wp2_with fail
   first | exact⟨rfl,bel⟩ | (go_ret;exact⟨rfl,bel⟩)
  ·by_cases h3:z' < z
   ·obtain rfl:c=1:=by rw[hI.out,if_neg h1,if_pos h3]
    have h2:(z != z')=true:=by simp;omega
    go_enter Tryz.func170, Tryz.ntmps170
    go_wp2_with fail
    first | exact⟨rfl,bel⟩ | (go_ret;exact⟨rfl,bel⟩)
   ·obtain rfl:c=0:=by rw[hI.out,if_neg h1,if_neg h3]
    obtain rfl:z=z':=by omega
    go_enter Tryz.func170, Tryz.ntmps170
    go_wp2_with fail
    first | exact⟨rfl,bel⟩ | (go_ret;exact⟨rfl,bel⟩)
 ·have he1:=tl_ne he
  have he2:(s.toList == s'.toList)=false:=by simpa [bne] using he1
  have he3:¬ s.toList=s'.toList:=by simpa using he2
  rcases cmpB_cases s s' with ⟨hc,-⟩ | ⟨-,hc⟩ | ⟨hc,-⟩
  ·rw[hc] at HL⊢
   have hb1:Op.bytesLess s.toList s'.toList=true:=by rw[HL];rfl
   clear hv HL hc he
   go_enter Tryz.func170, Tryz.ntmps170
   go_wp2_with fail
   first | exact⟨rfl,bel⟩ | (go_ret;exact⟨rfl,bel⟩)
  ·exact absurd hc he
  ·rw[hc] at HL⊢
   have hb1:Op.bytesLess s.toList s'.toList=false:=by rw[HL];rfl
   clear hv HL hc he
   go_enter Tryz.func170, Tryz.ntmps170
   go_wp2_with fail
   first | exact⟨rfl,bel⟩ | (go_ret;exact⟨rfl,bel⟩)
set_option maxHeartbeats 8000000 in
set_option maxRecDepth 100000 in
theorem rlessEnv_any (l m:List Sg) (a1:Option Addr) (c1:Nat) (a2:Option Addr) (c2:Nat) (w:World) (h1:SigsIn w l a1 c1) (h2:SigsIn w m a2 c2) :
  Calls Tryz.prog 109 #[.slice a1 l.length c1,.slice a2 m.length c2] w (BoolRet (decide (cmpEnv l m < 0)) w):=by
 have HPo:Hid (∀ b,b=decide (cmpEnv l m < 0)→∀ W,Below w.heap.size w W→BoolRet (decide (cmpEnv l m < 0)) w (.returned (.bool b)) W):=fun b h W hW=>⟨by rw[h],hW⟩
 generalize BoolRet (decide (cmpEnv l m < 0)) w=Po at HPo⊢
 have HE:=Lib.hid h1
 have HE2:=Lib.hid h2
 have HA:Hid (l.length=0∨∃ b off,a1=some ⟨b,off,none⟩):=SliceIn.addr h1
 have HA2:Hid (m.length=0∨∃ b off,a2=some ⟨b,off,none⟩):=SliceIn.addr h2
 have hlen:=h1.2.1
 have hlen2:=h2.2.1
 clear h1 h2
 go_enter Tryz.func109, Tryz.ntmps109
 go_wp2_with fail
 go_loopw [5,6] (fun i _ wr=>∃ k:Nat,i=.int .i64 k∧k≤l.length∧k≤m.length∧Hid (cmpEnv l m=cmpL cmpSg (l.drop k) (m.drop k))∧Hid (Below w.heap.size w wr)) (fun i _ _=>l.length - (intOf i).toNat)
 case atStart=>exact⟨0,rfl,Nat.zero_le _,Nat.zero_le _,rfl,Below.refl _ _⟩
 case round =>
  (try rename World=>wr)
  obtain⟨k,rfl,hk,hk2,HQ,HB⟩:=hrel
  have hzr:=HB.out.size
  by_cases hlt:k < l.length
  ·have hkl:(k:Int) < l.length:=by omega
   by_cases hlt2:k < m.length
   ·have hkl2:(k:Int) < m.length:=by omega
    have dd:decide (k < m.length)=true:=decide_eq_true hlt2
    obtain⟨b,off,ha⟩:=HA.out.resolve_left (by omega)
    subst ha
    obtain⟨b2,off2,ha2⟩:=HA2.out.resolve_left (by omega)
    subst ha2
    obtain⟨p0,p1⟩:=sgE_get (SigsIn.keep (keeps_of_below HB.out) HE.out) rfl hlt
    obtain⟨q0,q1⟩:=sgE_get (SigsIn.keep (keeps_of_below HB.out) HE2.out) rfl hlt2
    have HStep:Hid (cmpEnv l m=if cmpSg (l[k]'hlt) (m[k]'hlt2)=0 then cmpL cmpSg (l.drop (k+1)) (m.drop (k+1)) else cmpSg (l[k]'hlt) (m[k]'hlt2)):=by show _=_;rw[HQ.out,cmpL_at hlt hlt2]
    have HBf:Hid (∀ W,Below wr.heap.size wr W→Calls Tryz.prog 170 #[.agg #[.string (l[k]'hlt).1,.int .i64 (l[k]'hlt).2],.agg #[.string (m[k]'hlt2).1,.int .i64 (m[k]'hlt2).2]] W fun e w'=>e=.returned (.int .i64 (cmpSg (l[k]'hlt) (m[k]'hlt2)))∧Below wr.heap.size wr w'):=fun W hW=>(rbefore_any _ _ W).mono fun e w' h=>⟨h.1,hW.trans (h.2.mono hW.size)⟩
    generalize cmpSg (l[k]'hlt) (m[k]'hlt2)=cc at HStep HBf
    generalize (l[k]'hlt).1=s at p0 HBf
    generalize (l[k]'hlt).2=z at p1 HBf
    generalize (m[k]'hlt2).1=s' at q0 HBf
    generalize (m[k]'hlt2).2=z' at q1 HBf
    have HC:Hid (∀ W,Below wr.heap.size wr W→W.cell? ⟨b,off+k * 2,none⟩=some (.string s)∧W.cell? ⟨b,off+k * 2+1,none⟩=some (.int .i64 z)∧W.cell? ⟨b2,off2+k * 2,none⟩=some (.string s')∧W.cell? ⟨b2,off2+k * 2+1,none⟩=some (.int .i64 z')):=fun W hW=>⟨keeps_of_below hW _ _ p0,keeps_of_below hW _ _ p1,keeps_of_below hW _ _ q0,keeps_of_below hW _ _ q1⟩
    by_cases hc:cc=0
    ·subst hc
     have HN:Hid (cmpEnv l m=cmpL cmpSg (l.drop (k+1)) (m.drop (k+1))):=by show _=_;rw[HStep.out,if_pos rfl]
     clear HStep
     go_wp2_with fail
     go_region_held3 (fun W=>Below wr.heap.size wr W∧(W.cell? ⟨b,off+k * 2,none⟩=some (.string s)∧W.cell? ⟨b,off+k * 2+1,none⟩=some (.int .i64 z)∧W.cell? ⟨b2,off2+k * 2,none⟩=some (.string s')∧W.cell? ⟨b2,off2+k * 2+1,none⟩=some (.int .i64 z')))
      ((refine(fun h=>⟨h,HC.out _ h⟩) ?_;first | with_reducible assumption | exact belR))
      (first | (go_at_call 170;(with_reducible refine(HBf.out _ (by first | with_reducible assumption | exact belR)).mono ?_);rintro e w5 ⟨rfl,hb5⟩))
     all_goals
      have HB9:Hid (Below w.heap.size w w5):=HB.out.trans (Below.mono hb5 HB.out.size)
      clear hb5
      go_wp2_with fail
      go_roundw
      case rel=>exact⟨k+1,by go_num,by omega,by omega,HN.out,HB9.out⟩
      case measure=>(simp[intOf];try omega)
    ·have HN:=Lib.hid (HPo.out (decide (cc < 0)) (by rw[HStep.out,if_neg hc]))
     have hc2:(cc != 0)=true:=by simpa using hc
     clear HStep hc
     go_wp2_with fail
     go_region_held3 (fun W=>Below wr.heap.size wr W∧(W.cell? ⟨b,off+k * 2,none⟩=some (.string s)∧W.cell? ⟨b,off+k * 2+1,none⟩=some (.int .i64 z)∧W.cell? ⟨b2,off2+k * 2,none⟩=some (.string s')∧W.cell? ⟨b2,off2+k * 2+1,none⟩=some (.int .i64 z')))
      ((refine(fun h=>⟨h,HC.out _ h⟩) ?_;first | with_reducible assumption | exact belR))
      (first | (go_at_call 170;(with_reducible refine(HBf.out _ (by first | with_reducible assumption | exact belR)).mono ?_);rintro e w5 ⟨rfl,hb5⟩))
     all_goals
      have HF:=Lib.hid (HN.out w5 (HB.out.trans (Below.mono hb5 HB.out.size)))
      clear hb5
      go_wp2_with fail
      first | exact HF.out | (go_ret2;exact HF.out)
   ·have dd:decide (k < m.length)=false:=decide_eq_false hlt2
    have dd2:decide ((k:Int) < (m.length:Int))=false:=decide_eq_false (by omega)
    have HF:=Lib.hid (HPo.out (decide (l.length < m.length)) (by rw[HQ.out];exact decide_eq_decide.2 (cmpL_end hk hk2 (by omega)).symm) wr HB.out)
    go_wp2_with fail
    first | exact HF.out | (go_ret2;exact HF.out)
  ·have hkl:¬ (k:Int) < l.length:=by omega
   have dd:decide (k < l.length)=false:=decide_eq_false hlt
   have HF:=Lib.hid (HPo.out (decide (l.length < m.length)) (by rw[HQ.out];exact decide_eq_decide.2 (cmpL_end hk hk2 (by omega)).symm) wr HB.out)
   go_wp2_with fail
   first | exact HF.out | (go_ret2;exact HF.out)
set_option maxHeartbeats 8000000 in
set_option maxRecDepth 100000 in
theorem raccepts_any (n:NfaD) (x:NfaA) (s:Int) (w:World) (h:NfaIn w n x) :
  Calls Tryz.prog 62 #[nfaVal n x,.int .i64 s] w (BoolRet (n.accept.contains s) w):=by
 have HYes:Hid (∀ k (hk:k < n.accept.length),n.accept[k]'hk=s→∀ W,Below w.heap.size w W→BoolRet (n.accept.contains s) w (.returned (.bool true)) W):=fun k hk h W hW=>⟨by rw[List.contains_iff_mem.2 (by rw[← h];exact List.getElem_mem hk)],hW⟩
 have HNo:Hid ((∀ k (hk:k < n.accept.length),n.accept[k]'hk≠s)→∀ W,Below w.heap.size w W→BoolRet (n.accept.contains s) w (.returned (.bool false)) W):=fun h W hW=>⟨by
  have:n.accept.contains s=false:=by
   rw[← Bool.not_eq_true]
   intro h2
   obtain⟨k,hk,e⟩:=List.getElem_of_mem (List.contains_iff_mem.1 h2)
   exact h k hk e
  rw[this],hW⟩
 generalize BoolRet (n.accept.contains s) w=Po at HYes HNo⊢
 have HI:=Lib.hid (inE_in.2 h.ac)
 have HA:Hid (n.accept.length=0∨∃ b off,x.aa=some ⟨b,off,none⟩):=SliceIn.addr h.ac
 have hlen:=(inE_in.2 h.ac).len
 rw[nfaVal_eq]
 clear h
 obtain⟨st,es,ac⟩:=n
 obtain⟨xae,xce,xaa,xca⟩:=x
 simp only at HYes HNo HI HA hlen⊢
 go_enter Tryz.func62, Tryz.ntmps62
 go_upto_region 1 with fail
 generalize hW2:World.alloc w _=W2
 have HB2:Hid (Below w.heap.size w W2):=by show Below _ _ _;rw[← hW2];exact(Below.refl _ _).alloc (Nat.le_refl _) _
 have HX2:W2.heap[w.heap.size]? = some (.cells #[.int .i64 st,.slice xae es.length xce,.slice xaa ac.length xca] 33 (0,0)):=by rw[← hW2];exact hx_newT rfl
 clear hW2
 obtain⟨-,-,x2⟩:=cell3T HX2
 clear HX2
 go_wp2_with fail
 go_loop [5] (fun i=>∃ k:Nat,i=.int .i64 k∧k≤ac.length∧Hid (∀ j (hj:j < ac.length),j < k→ac[j]'hj≠s)) (fun i=>ac.length - (intOf i).toNat)
 case atStart=>exact⟨0,rfl,Nat.zero_le _,fun _ _ h=>absurd h (Nat.not_lt_zero _)⟩
 case round =>
  obtain⟨k,rfl,hk,HN⟩:=hrel
  by_cases hlt:k < ac.length
  ·have hkl:(k:Int) < ac.length:=by omega
   obtain⟨b,off,ha⟩:=HA.out.resolve_left (by omega)
   subst ha
   have g0:=inE_at.1 ((HI.out.keep (keeps_of_below HB2.out)).get rfl hlt)
   rw[show inE.sz=1 from rfl,Nat.mul_one] at g0
   have HY1:=Lib.hid (HYes.out k hlt)
   have HNx:Hid (ac[k]'hlt≠s→∀ j (hj:j < ac.length),j < k+1→ac[j]'hj≠s):=fun he j hj hjk=>by
    by_cases e:j=k
    ·subst e;exact he
    ·exact HN.out j hj (by omega)
   generalize (ac[k]'hlt)=y at g0 HY1 HNx
   by_cases he:y=s
   ·have HF:=Lib.hid (HY1.out he W2 HB2.out)
    have hs:(y == s)=true:=by simpa using he
    clear he
    go_wp2_with fail
    first | exact HF.out | (go_ret2;exact HF.out)
   ·have HN2:=Lib.hid (HNx.out he)
    have hs:(y == s)=false:=by simpa using he
    clear he
    go_wp2_with fail
    go_round
    case rel=>exact⟨k+1,by go_num,by omega,HN2.out⟩
    case measure=>(simp[intOf];try omega)
  ·obtain rfl:k=ac.length:=by omega
   have HF:=Lib.hid (HNo.out (fun j hj=>HN.out j hj hj) W2 HB2.out)
   go_wp2_with fail
   first | exact HF.out | (go_ret2;exact HF.out)
set_option maxHeartbeats 8000000 in
set_option maxRecDepth 100000 in
theorem rlocals_any (l:List Sg) (a:Option Addr) (c:Nat) (w:World) (h:SigsIn w l a c):Calls Tryz.prog 24 #[.slice a l.length c] w fun e w'=>e=.returned (.bool (localsB l))∧Below w.heap.size w w':=by
 have H:=Lib.hid h
 have hlen:=h.2.1
 have HA:Hid (l.length=0∨∃ b off,a=some ⟨b,off,none⟩):=SliceIn.addr h
 have HN:Hid (∀ k (hk:k < l.length),decide (0≤(l[k]'hk).2∧(l[k]'hk).2≤65535∧(0 < k→cmpB (l.getD (k - 1) (.empty,0)).1 (l[k]'hk).1 < 0))=false→localsB l=false):=fun k hk hd=>by
  refine locB_no hk ?_
  rw[List.getD_eq_getElem?_getD (l:=l) (i:=k),List.getElem?_eq_getElem hk,Option.getD_some];exact hd
 have HY:Hid (∀ k (hk:k < l.length),locB l k=true→decide (0≤(l[k]'hk).2∧(l[k]'hk).2≤65535∧(0 < k→cmpB (l.getD (k - 1) (.empty,0)).1 (l[k]'hk).1 < 0))=true→locB l (k+1)=true):=fun k hk h1 hd=>by
  rw[locB_succ,h1,List.getD_eq_getElem?_getD (l:=l) (i:=k),List.getElem?_eq_getElem hk,Option.getD_some,hd];rfl
 have HE:Hid (localsB l=locB l l.length):=rfl
 generalize localsB l=R at HN HE⊢
 clear h
 go_enter Tryz.func24, Tryz.ntmps24
 go_wp2_with fail
 go_loopw [3] (fun i wr=>∃ k:Nat,i=.int .i64 k∧k≤l.length∧Hid (locB l k=true)∧Hid (Below w.heap.size w wr)) (fun i _=>l.length - (intOf i).toNat)
 case atStart=>exact⟨0,rfl,Nat.zero_le _,rfl,Below.refl _ _⟩
 case round =>
  obtain⟨k,rfl,hk,HL,HBr⟩:=hrel
  have hzr:=HBr.out.size
  by_cases hlt:k < l.length
  ·obtain⟨b,off,ha⟩:=HA.out.resolve_left (by omega)
   subst ha
   obtain⟨g0,g1⟩:=sgE_get H.out rfl hlt
   have c0:=keeps_of_below HBr.out _ _ g0
   have c1:=keeps_of_below HBr.out _ _ g1
   have HN1:=Lib.hid (HN.out k hlt)
   have HY1:=Lib.hid (HY.out k hlt HL.out)
   have HPv:Hid (0 < k→wr.cell? ⟨b,off+(k - 1) * 2,none⟩=some (.string (l.getD (k - 1) (.empty,0)).1)):=fun h0=>by
    have hk1:k - 1 < l.length:=by omega
    have:=keeps_of_below HBr.out _ _ (sgE_get H.out rfl hk1).1
    rw[List.getD_eq_getElem?_getD,List.getElem?_eq_getElem hk1,Option.getD_some];exact this
   generalize (l[k]'hlt)=x at c0 c1 HN1 HY1
   generalize (l.getD (k - 1) (.empty,0)).1=pn at HN1 HY1 HPv
   obtain⟨nm,v⟩:=x
   simp only at c0 c1 HN1 HY1
   clear g0 g1
   by_cases h1:v < 0
   ·have hd1:decide (v < 0)=true:=decide_eq_true h1
    obtain rfl:R=false:=HN1.out (decide_eq_false (by omega))
    go_upto_region 4 with fail
    go_quiet (fail)
    go_wp2_with fail
    go_ret
    exact⟨rfl,bel⟩
   ·have hd1:decide (v < 0)=false:=decide_eq_false h1
    by_cases h2:65535 < v
    ·have hd2:decide (65535 < v)=true:=decide_eq_true h2
     obtain rfl:R=false:=HN1.out (decide_eq_false (by omega))
     go_upto_region 4 with fail
     go_quiet (fail)
     go_wp2_with fail
     go_ret
     exact⟨rfl,bel⟩
    ·have hd2:decide (65535 < v)=false:=decide_eq_false h2
     by_cases h0:k=0
     ·subst h0
      rw[Nat.zero_mul,Nat.add_zero] at c0 c1
      have HL1:=Lib.hid (HY1.out (decide_eq_true ⟨by omega,by omega,fun h=>absurd h (by omega)⟩))
      go_upto_region 4 with fail
      go_quiet (fail)
      go_wp2_with fail
      go_roundw
      case rel=>exact⟨1,by go_num,by omega,HL1.out,bel⟩
      case measure=>(simp[intOf];try omega)
     ·have h0':0 < k:=by omega
      have cp:=HPv.out h0'
      have hd0:decide ((0:Int) < (k:Int))=true:=decide_eq_true (by omega)
      have hd3:decide (0 < k)=true:=decide_eq_true h0'
      have HLs:=Lib.hid (cmpB_less pn nm)
      obtain⟨k1,rfl⟩:∃ k1,k=k1+1:=⟨k - 1,by omega⟩
      rw[Nat.add_sub_cancel] at cp
      have e2:IntKind.i64.wrap (k1:Int)=(k1:Int):=by rw[IntKind.wrap_i64];omega
      have CP:∀ o,(wr.alloc o).cell? ⟨b,off+k1 * 2,none⟩=some (.string pn):=fun o=>Lib.cell?_alloc_some _ cp
      have hk1:k1 < l.length:=by omega
      by_cases hc:cmpB pn nm < 0
      ·have b1:Op.bytesLess nm.toList pn.toList=false:=by rw[cmpB_less];exact decide_eq_false (fun h=>by have:=(cmp3B.anti nm pn).1 h;omega)
       have b2:(nm.toList == pn.toList)=false:=by
        have hne:¬ nm=pn:=fun e=>by subst e;have:=(cmp3B.zero nm nm).2 rfl;omega
        have:=tl_ne hne
        simpa [bne] using this
       have b3:¬ nm.toList=pn.toList:=by simpa using b2
       have HL1:=Lib.hid (HY1.out (decide_eq_true ⟨by omega,by omega,fun _=>hc⟩))
       clear hc
       go_upto_region 4 with fail
       go_quiet (fail)
       go_wp2_with fail
       go_roundw
       case rel=>exact⟨k1+1+1,by go_num,by omega,HL1.out,bel⟩
       case measure=>(simp[intOf];try omega)
      ·obtain rfl:R=false:=HN1.out (decide_eq_false (by rintro ⟨_,_,h⟩;exact hc (h (by omega))))
       by_cases heq:nm=pn
       ·subst heq
        have b1:Op.bytesLess nm.toList nm.toList=false:=by rw[cmpB_less];exact decide_eq_false hc
        clear hc
        go_upto_region 4 with fail
        go_quiet (fail)
        go_wp2_with fail
        go_ret
        exact⟨rfl,bel⟩
       ·have b1:Op.bytesLess nm.toList pn.toList=true:=by
         rw[cmpB_less]
         refine decide_eq_true ((cmp3B.anti nm pn).2 ?_)
         have:cmpB pn nm≠0:=fun e=>heq ((cmp3B.zero pn nm).1 e).symm
         omega
        clear hc heq
        go_upto_region 4 with fail
        go_quiet (fail)
        go_wp2_with fail
        go_ret
        exact⟨rfl,bel⟩
  ·obtain rfl:k=l.length:=by omega
   obtain rfl:R=true:=by rw[HE.out];exact HL.out
   go_wp2_with fail
   go_ret
   exact⟨rfl,HBr.out⟩
end Go.Proofs.YthojpomoflhbcaaGreatDoor
