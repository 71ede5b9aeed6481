/- soft: the names of a problem in a map. -/
import Derived.Test.YtcplmcjbkpmhdaaGreatDoorSD
import Derived.Maps.OwnOps
import Derived.Maps.OwnSet
import Derived.Test.YtcplmcjbkpmhdaaGreatDoorKB
import Derived.Test.YtcplmcjbkpmhdaaGreatDoorKL
import Derived.Test.YtcplmcjbkpmhdaaGreatDoorKO
set_option linter.unusedSimpArgs false
set_option linter.unusedVariables false
set_option linter.unnecessarySimpa false
namespace Go.Proofs.YtcplmcjbkpmhdaaGreatDoor
open Go.RowKit Go.WideMaps
attribute [local go_sem ↓] Go.wp_at_zero Go.wp_at_succ
def inV (vs:List VarD) (k:Nat) (s:ByteArray):Bool:=(vs.take k).any fun v=>v.name.toList == s.toList
def MapHas (w:World) (b:Nat) (vs:List VarD) (k:Nat):Prop:=∃ D:DataW Unit,w.ownsMap Tryz.prog 9 (plainElem Tryz.prog 4) b k D∧Maps.IsMap D∧∀ s:ByteArray,D.atKey (.string s.data.toList) (.lit (.bool false))=.lit (.bool (inV vs k s))
theorem toList_beq (s t:ByteArray):(s.toList == t.toList)=decide (s.data.toList=t.data.toList):=by
 cases h:(s.toList == t.toList)
 ·symm
  rw[decide_eq_false_iff_not]
  intro e
  rw[(toList_eq_iff _ _).2 e] at h
  simp at h
 ·symm
  rw[decide_eq_true_eq]
  exact(toList_eq_iff _ _).1 h
theorem inV_succ {vs:List VarD} {k:Nat} (h:k < vs.length) (s:ByteArray):inV vs (k+1) s=(inV vs k s || ((vs[k]'h).name.toList == s.toList)):=by
 unfold inV
 rw[List.take_succ_eq_append_getElem h,List.any_append]
 simp
theorem inV_find (vs:List VarD) (s:ByteArray):inV vs vs.length s=decide (0≤findV vs s 0):=by
 unfold inV
 rw[List.take_length]
 cases h:vs.any fun v=>v.name.toList == s.toList
 ·rw[List.any_eq_false] at h
  rw[findV_none s vs 0 (fun i hi=>by have:=h _ (List.getElem_mem hi);simpa using this)];rfl
 ·rcases findV_cases vs s with ⟨_,hn⟩ | ⟨k,hk,h1,_⟩
  ·rw[List.any_eq_true] at h
   obtain⟨v,hv,hh⟩:=h
   obtain⟨i,hi,rfl⟩:=List.getElem_of_mem hv
   rw[hn i hi] at hh;simp at hh
  ·rw[h1];simp
theorem MapHas.start (w:World) (vs:List VarD):MapHas (w.alloc (.map #[] 0)) w.heap.size vs 0:=⟨.map [],World.ownsMap_made w _ _ _,⟨_,rfl⟩,fun s=>rfl⟩
theorem MapHas.below {w w':World} {b k:Nat} {vs:List VarD} (h:MapHas w b vs k) (hb:Below w.heap.size w w'):MapHas w' b vs k:=by
 obtain⟨D,h1,h2,h3⟩:=h
 obtain⟨es,clock,g1,g2⟩:=h1
 exact⟨D,⟨es,clock,(hb.block _ (Array.getElem?_eq_some_iff.1 g1).1).trans g1,g2⟩,h2,h3⟩
theorem MapHas.lt {w:World} {b k:Nat} {vs:List VarD} (h:MapHas w b vs k):b < w.heap.size:=by
 obtain⟨D,h1,_⟩:=h
 exact h1.lt
set_option maxRecDepth 100000 in
theorem wp_mapHas {ops:Array Oper} {rest:List Oper} {o:Oper} {a:Act} {Q:Exit→Act→World→Prop} (w:World) (hg:o.guard=none) (m x v:Operand) (hop:o.op=Op.mapUpdate 128 m x v)
  (b k:Nat) (vs:List VarD) (hm:a.eval m=.map (some b)) (hown:MapHas w b vs k) (hk:k < vs.length) (hk1:k≤1000000) (hx:a.eval x=.string (vs[k]'hk).name) (hv:a.eval v=.bool true) (hsz:(vs[k]'hk).name.size≤1073741824)
  (hK:∀ w',MapHas w' b vs (k+1)→w.grownBy w' (some b)→wpList Tryz.prog ops Q rest (a.put o.dst undef) w'):wpList Tryz.prog ops Q (o::rest) a w:=by
 obtain⟨D,h1,h2,h3⟩:=hown
 have hK':=Maps.string_keyed (P:=Tryz.prog) (k:=9) Tryz.underlying9
 refine wpList_mapUpdate_own w hg m x v 128 hop 9 4 hK' (by kernel_rfl) (plainElem Tryz.prog 4) b k D hm h1 (by unfold maxLen;omega) (.string (vs[k]'hk).name) (.bool true) (.string (vs[k]'hk).name.data.toList) hx hv (keyOf_string_mk Tryz.underlying9 (by unfold maxLen;omega)) (.lit (.bool true)) [] (plainElem_bool Tryz.underlying4 true) ?_
 intro w' h4 h5
 refine hK w' ⟨_,h4,h4.isMap,fun s=>?_⟩ h5
 rw[inV_succ hk,toList_beq]
 by_cases he:(vs[k]'hk).name.data.toList=s.data.toList
 ·rw[he,decide_eq_true rfl,Bool.or_true]
  exact Maps.atKey_put_same (k:=.string s.data.toList) h2 trivial _ _
 ·rw[decide_eq_false he,Bool.or_false,← h3 s]
  exact Maps.atKey_put_other (fun e=>he (by injection e with e;exact e.symm)) _ _
theorem zero_bool (w:World):(zeroValue 4).run Tryz.prog w=.ok (.bool false) w:=by kernel_rfl
set_option maxRecDepth 100000 in
theorem plainElem_bool_inv {v:Value} {z:DataW Unit × List MemPlace} (h:plainElem Tryz.prog 4 v=some z):∃ c,v=.bool c∧z.1=.lit (.bool c):=by
 unfold plainElem at h
 rw[Tryz.underlying4] at h
 cases v<;>simp at h
 subst h
 exact⟨_,rfl,rfl⟩
set_option maxRecDepth 100000 in
theorem wp_mapLook {ops:Array Oper} {rest:List Oper} {o:Oper} {a:Act} {Q:Exit→Act→World→Prop} (w:World) (hg:o.guard=none) (m x:Operand) (hop:o.op=Op.lookup 128 m x false)
  (b k:Nat) (vs:List VarD) (hm:a.eval m=.map (some b)) (hown:MapHas w b vs k) (s:ByteArray) (hx:a.eval x=.string s) (hsz:s.size≤1073741824)
  (hK:wpList Tryz.prog ops Q rest (a.put o.dst (.bool (inV vs k s))) w):wpList Tryz.prog ops Q (o::rest) a w:=by
 obtain⟨D,h1,h2,h3⟩:=hown
 have hK':=Maps.string_keyed (P:=Tryz.prog) (k:=9) Tryz.underlying9
 have hz:(zeroValue 4).run Tryz.prog w=.ok (.bool false) w:=zero_bool w
 refine wpList_plain hg fun K' hKK=>?_
 obtain⟨v,ps,hrun,hR⟩:=h1.lookup hK' (t:=128) (e:=4) (by kernel_rfl) hz (plainElem_bool Tryz.underlying4 false) (keyOf_string_mk (s:=s) Tryz.underlying9 (by unfold maxLen;omega))
 obtain⟨c,rfl,hc⟩:=plainElem_bool_inv hR
 have hc':c=inV vs k s:=by
  have h4:=h3 s
  simp only at hc
  rw[h4] at hc
  injection hc with hc
  injection hc with hc
  exact hc.symm
 subst hc'
 unfold Oper.wp
 simp[execOp,hop,hm,hx,hrun,Result.andThen]
 exact hKK _ _ hK
end Go.Proofs.YtcplmcjbkpmhdaaGreatDoor
namespace Go.Proofs.YtcplmcjbkpmhdaaGreatDoor
open Go.RowKit
attribute [local go_sem ↓] Go.wp_at_zero Go.wp_at_succ
noncomputable def knE (vs:List VarD) (e:Ex):Bool:=decide ((namesS [3,24] e).length=0) && (namesS [2] e).all fun s=>decide (0≤findV vs s 0)
noncomputable def solvErr (p:ProbD) (l:List Ex):Int:=if pB (ProbOk p)=true then (if (l.all fun e=>validS e == 0)=true then (if l.all (knE p.vars)=true then 0 else 7) else 1) else 1
theorem solvErr_ok {p:ProbD} {l:List Ex} (h:solvErr p l=0):ProbOk p∧∀ i (hi:i < l.length),ExprOk p.vars (l[i]'hi):=by
 unfold solvErr at h
 split at h
 ·rename_i h1
  split at h
  ·rename_i h2
   split at h
   ·rename_i h3
    refine⟨pB_iff.1 h1,fun i hi=>?_⟩
    have a:=List.all_eq_true.1 h2 _ (List.getElem_mem hi)
    have b:=List.all_eq_true.1 h3 _ (List.getElem_mem hi)
    unfold knE at b
    rw[Bool.and_eq_true,decide_eq_true_eq] at b
    exact(exprOk_iff _ _).2 ⟨by simpa using a,b.1,fun j hj=>by have:=List.all_eq_true.1 b.2 _ (List.getElem_mem hj);simpa using this⟩
   ·simp at h
  ·simp at h
 ·simp at h
theorem all_not {α:Type} {P:α→Bool} {l:List α} {k:Nat} (h:k < l.length) (hp:P (l[k]'h)=false):l.all P=false:=by
 rw[List.all_eq_false]
 exact⟨_,List.getElem_mem h,by rw[hp];simp⟩
theorem all_yes {α:Type} {P:α→Bool} {l:List α} (h:∀ j (hj:j < l.length),P (l[j]'hj)=true):l.all P=true:=List.all_eq_true.2 fun x hx=>by
 obtain⟨i,hi,rfl⟩:=List.getElem_of_mem hx
 exact h i hi
theorem grown_below {w W W':World} {b:Nat} (h:Below w.heap.size w W) (hb:w.heap.size≤b) (hg:W.grownBy W' (some b)):Below w.heap.size w W' :=
 h.trans ⟨hg.os,hg.tape,hg.output,hg.size,fun k hk=>hg.block k (Nat.lt_of_lt_of_le hk h.size) (fun e=>by injection e with e;omega)⟩
theorem grown_below2 {w wr W W':World} {b:Nat} (h:Below w.heap.size w wr) (h2:Below wr.heap.size wr W) (hb:w.heap.size≤b) (hg:W.grownBy W' (some b)):Below w.heap.size w W' :=
 grown_below (h.trans (h2.mono h.size)) hb hg
set_option maxRecDepth 100000 in
set_option maxHeartbeats 16000000 in
theorem check_any (p:ProbD) (x:ProbA) (l:List Ex) (al:Option Addr) (cl:Nat) (w:World) (hE:ProbIn w p x) (hs:ProbSmall p) (hL:ExsIn w l al cl) (hsl:ExsSmall l) (hG:Glob w) :
  Calls Tryz.prog 52 #[probVal p x,.slice al l.length cl] w fun e w'=>e=.returned (.int .i64 (solvErr p l))∧Below w.heap.size w w':=by
 have HV0:=Lib.hid (fun W (hW:Below w.heap.size w W)=>Valid_any p x W (hE.keep (keeps_of_below hW)) hs (hG.below hW))
 have HVa:=Lib.hid (fun op n s args a cap W (hW:Below w.heap.size w W) (hX:ExIn W (.mk op n s args) a cap) (hn:(Ex.mk op n s args).nodes.length≤1000000000)=>valid_any op n s args a cap W (hG.below hW) hX (by omega))
 have HAr:=Lib.hid (fun op n s args a cap W (hX:ExIn W (.mk op n s args) a cap) (hn:(Ex.mk op n s args).nodes.length≤1000000000)=>Arrays_any op n s args a cap W hX (by omega))
 have HNa:=Lib.hid (fun op n s args a cap W (hX:ExIn W (.mk op n s args) a cap) (hn:(Ex.mk op n s args).nodes.length≤1000000000)=>Names_any op n s args a cap W hX (by omega))
 have HL:=Lib.hid hL
 have HSl:=Lib.hid hsl
 have HVs:=Lib.hid hE.vars
 have hlen:=hE.vars.2.1
 have hll:=hL.2.1
 by_cases hp:ProbOk p
 ·have HV1:=Lib.hid (fun W hW=>errT (HV0.out W hW) hp)
  have hv16:=hp.vars.len
  have HE1:Hid (∀ k (h:k < l.length),¬ validS (l[k]'h)=0→solvErr p l=1):=fun k h h1=>by
   unfold solvErr
   rw[if_pos (pB_true hp),if_neg]
   rw[all_not (P:=fun e=>validS e == 0) h (by simpa using h1)];simp
  have HE7:Hid ((∀ j (hj:j < l.length),validS (l[j]'hj)=0)→∀ k (h:k < l.length),knE p.vars (l[k]'h)=false→solvErr p l=7):=fun h0 k h h1=>by
   unfold solvErr
   rw[if_pos (pB_true hp),if_pos (all_yes (P:=fun e=>validS e == 0) (fun j hj=>by simpa using h0 j hj)),if_neg]
   rw[all_not h h1];simp
  have HE0:Hid ((∀ j (hj:j < l.length),validS (l[j]'hj)=0)→(∀ j (hj:j < l.length),knE p.vars (l[j]'hj)=true)→solvErr p l=0):=fun h0 h1=>by
   unfold solvErr
   rw[if_pos (pB_true hp),if_pos (all_yes (P:=fun e=>validS e == 0) (fun j hj=>by simpa using h0 j hj)),if_pos (all_yes h1)]
  generalize solvErr p l=err at HE1 HE7 HE0⊢
  clear hE hs hL hsl hG hp HV0
  simp only[probVal_eq] at HV1⊢
  obtain⟨vs,hard,soft,ds,gs⟩:=p
  obtain⟨av,cv,ah,ch,ao,co,ad,cd,ag,cg⟩:=x
  simp only at HV1 HVs HE7 HE0 hlen hv16⊢
  have HV:=Lib.hid (HV1.out (w.alloc (.cells #[.slice av vs.length cv,.slice ah hard.length ch,.slice ao soft.length co,.slice ad ds.length cd,.slice ag gs.length cg] 27)) ((Below.refl _ _).alloc (Nat.le_refl _) _))
  clear HV1
  go_enter Tryz.func52, Tryz.ntmps52
  go_wp2_with fail
  refine HV.out.mono ?_
  rintro r w1 ⟨rfl,hb1⟩
  simp only[World.size_alloc] at hb1
  have HB1:=Lib.hid hb1
  have hz1:=hb1.size
  simp only[World.size_alloc] at hz1
  clear hb1
  go_wp2_with fail
  go_loopw [19,6] (fun i _ wr=>∃ k:Nat,i=.int .i64 k∧k≤l.length∧Hid (∀ j (hj:j < l.length),j < k→validS (l[j]'hj)=0)∧Below (w.heap.size+1) (w.alloc (.cells #[.slice av vs.length cv,.slice ah hard.length ch,.slice ao soft.length co,.slice ad ds.length cd,.slice ag gs.length cg] 27)) wr) (fun i _ _=>l.length - (intOf i).toNat)
  case atStart=>exact⟨0,rfl,Nat.zero_le _,fun _ _ h=>absurd h (by omega),HB1.out⟩
  case round =>
   obtain⟨k,rfl,hk,HAl,hB⟩:=hrel
   have HB:=Lib.hid hB
   have HBw:=Lib.hid (boxW _ hB)
   have hzr:=hB.size
   simp only[World.size_alloc] at hzr
   clear hB
   by_cases hlt:k < l.length
   ·obtain⟨b,off,ha⟩:=HL.out.addr.resolve_left (by omega)
    subst ha
    obtain⟨ea,ec,g0,g1,g2,g3,hX⟩:=HL.out.get rfl hlt
    have hnn:=HSl.out _ (List.getElem_mem hlt)
    have kk:=keeps_of_below HBw.out
    have c0:=kk _ _ g0
    have c1:=kk _ _ g1
    have c2:=kk _ _ g2
    have c3:=kk _ _ g3
    have HX:=Lib.hid (hX.keep kk)
    have HNx:Hid (validS (l[k]'hlt)=0→∀ j (hj:j < l.length),j < k+1→validS (l[j]'hj)=0):=fun h j hj hjk=>by
     by_cases e:j=k
     ·subst e;exact h
     ·exact HAl.out j hj (by omega)
    have HNo:=Lib.hid (HE1.out k hlt)
    generalize (l[k]'hlt)=e at c0 c1 c2 c3 HX hnn HNx HNo
    obtain⟨op,n,s,args⟩:=e
    simp only[Ex.op_mk,Ex.n_mk,Ex.name_mk,Ex.args_mk] at c0 c1 c2 c3
    have hbA:Below wr.heap.size wr (wr.alloc (.cells #[.int .i64 op,.int .i64 n,.string s,.slice ea args.length ec] 55)):=(Below.refl _ _).alloc (Nat.le_refl _) _
    have HC:=Lib.hid (HVa.out op n s args ea ec (wr.alloc (.cells #[.int .i64 op,.int .i64 n,.string s,.slice ea args.length ec] 55)) (HBw.out.trans (hbA.mono HBw.out.size)) (HX.out.keep (keeps_of_below hbA)) hnn)
    have HbA:=Lib.hid hbA
    generalize validS (.mk op n s args)=vv at HC HNx HNo
    have hkw:IntKind.i64.wrap ((k:Int)+1)=(k:Int)+1:=by rw[IntKind.wrap_i64];omega
    clear g0 g1 g2 g3 hX kk hbA
    by_cases hv:vv=0
    ·have HNx2:=Lib.hid (HNx.out hv)
     clear HNx
     subst hv
     go_wp2_with (go_at_call 98;(with_reducible refine HC.out.mono ?_);rintro r w5 ⟨rfl,hb5⟩)
     go_roundw
     case rel=>exact⟨k+1,by go_num,by omega,HNx2.out,HB.out.trans ((HbA.out.trans (hb5.mono HbA.out.size)).mono (by omega))⟩
     case measure=>(simp[intOf];try omega)
    ·have HNo:=Lib.hid (HNo.out hv)
     have hne:(vv != (0:Int))=true:=by simpa using hv
     clear hv
     go_wp2_with (go_at_call 98;(with_reducible refine HC.out.mono ?_);rintro r w5 ⟨rfl,hb5⟩)
     go_ret
     exact⟨by rw[HNo.out];rfl,HBw.out.trans ((HbA.out.trans (hb5.mono HbA.out.size)).mono HBw.out.size)⟩
   ·rename World=>w2
    obtain rfl:k=l.length:=by omega
    have HVd:Hid (∀ j (hj:j < l.length),validS (l[j]'hj)=0):=fun j hj=>HAl.out j hj hj
    have HE7:=Lib.hid (HE7.out HVd.out)
    have HE0:=Lib.hid (HE0.out HVd.out)
    clear HAl HVd HE1
    ((try clear b0 b1 b2 b3 b4);have b0:=box_cell HB.out 0;have b1:=box_cell HB.out 1;have b2:=box_cell HB.out 2;have b3:=box_cell HB.out 3;have b4:=box_cell HB.out 4;(try simp at b0 b1 b2 b3 b4))
    clear HB hz1 HB1
    go_wp2_with fail
    rw[run_makeMap]
    have HM0:=Lib.hid (MapHas.start w2 vs)
    have HBm:Hid (Below w2.heap.size w2 (w2.alloc (.map #[] 0))):=(Below.refl _ _).alloc (Nat.le_refl _) _
    have b0m:(w2.alloc (.map #[] 0)).cell? ⟨w.heap.size,0,none⟩=some (.slice av vs.length cv):=(HBm.out.cell (p:=⟨w.heap.size,0,none⟩) (by show w.heap.size < w2.heap.size;omega)).trans b0
    clear b0 b1 b2 b3 b4
    generalize w2.alloc (.map #[] 0)=wm at HM0 HBm b0m⊢
    go_wp2_with fail
    go_loopw [31,9] (fun i _ wr=>∃ k:Nat,i=.int .i64 k∧k≤vs.length∧Hid (MapHas wr w2.heap.size vs k)∧Hid (Below w2.heap.size w2 wr)) (fun i _ _=>vs.length - (intOf i).toNat)
    case atStart=>exact⟨0,rfl,Nat.zero_le _,HM0,HBm⟩
    case round =>
     obtain⟨k,rfl,hk,HMa,HBr⟩:=hrel
     have hmlt:=HMa.out.lt
     by_cases hlt:k < vs.length
     ·obtain⟨bv,ov,hav⟩:=HVs.out.addr.resolve_left (by omega)
      subst hav
      have HVk:=Lib.hid (HVs.out.keep (keeps_of_below (HBw.out.trans (HBr.out.mono HBw.out.size))))
      obtain⟨c0,c1,c2,c3,hsz⟩:=HVk.out.get rfl hlt
      go_wp2_with (at_mapUpdate;refine wp_mapHas _ rfl _ _ _ rfl w2.heap.size k vs rfl (HMa.out.below bel) hlt (by omega) rfl rfl hsz ?_;intro w7 hM7 hg7;have HM7:=Lib.hid hM7;have HB7:Hid (Below w2.heap.size w2 w7):=grown_below2 HBr.out bel (Nat.le_refl _) hg7)
      go_roundw
      case rel=>exact⟨k+1,by go_num,by omega,HM7,HB7⟩
      case measure=>(simp[intOf];try omega)
     ·rename World=>w3
      obtain rfl:k=vs.length:=by omega
      have HBw3:=Lib.hid (HBw.out.trans (HBr.out.mono HBw.out.size))
      clear HM0 HBm HBr HBw b0m HVs HV HVa
      go_wp2_with fail
      go_loopw [41,11,13] (fun i _ _ wq=>∃ k:Nat,i=.int .i64 k∧k≤l.length∧Hid (∀ j (hj:j < l.length),j < k→knE vs (l[j]'hj)=true)∧Hid (Below w3.heap.size w3 wq)) (fun i _ _ _=>l.length - (intOf i).toNat)
      case atStart=>exact⟨0,rfl,Nat.zero_le _,fun _ _ h=>absurd h (by omega),Below.refl _ _⟩
      case round =>
       rename World=>wq
       obtain⟨k,rfl,hk,HAl,HBq⟩:=hrel
       have HBwq:=Lib.hid (HBw3.out.trans (HBq.out.mono HBw3.out.size))
       by_cases hlt:k < l.length
       ·obtain⟨b,off,ha⟩:=HL.out.addr.resolve_left (by omega)
        subst ha
        obtain⟨ea,ec,g0,g1,g2,g3,hX⟩:=HL.out.get rfl hlt
        have hnn:=HSl.out _ (List.getElem_mem hlt)
        have kk:=keeps_of_below HBwq.out
        have c0:=kk _ _ g0
        have c1:=kk _ _ g1
        have c2:=kk _ _ g2
        have c3:=kk _ _ g3
        have HX:=Lib.hid (hX.keep kk)
        have HNx:Hid (knE vs (l[k]'hlt)=true→∀ j (hj:j < l.length),j < k+1→knE vs (l[j]'hj)=true):=fun h j hj hjk=>by
         by_cases e:j=k
         ·subst e;exact h
         ·exact HAl.out j hj (by omega)
        have HNo:=Lib.hid (HE7.out k hlt)
        have HKe:Hid (knE vs (l[k]'hlt)=(decide ((namesS [3,24] (l[k]'hlt)).length=0) && (namesS [2] (l[k]'hlt)).all fun s=>decide (0≤findV vs s 0))):=rfl
        have HSz:Hid (∀ s∈namesS [2] (l[k]'hlt),s.size≤1073741824):=names_size hX [2]
        generalize (l[k]'hlt)=e at c0 c1 c2 c3 HX hnn HNx HNo HKe HSz
        obtain⟨op,n,s,args⟩:=e
        simp only[Ex.op_mk,Ex.n_mk,Ex.name_mk,Ex.args_mk] at c0 c1 c2 c3
        have hbA:Below wq.heap.size wq (wq.alloc (.cells #[.int .i64 op,.int .i64 n,.string s,.slice ea args.length ec] 55)):=(Below.refl _ _).alloc (Nat.le_refl _) _
        have HbA:=Lib.hid hbA
        have HXA:=Lib.hid (HX.out.keep (keeps_of_below hbA))
        have HCA:=Lib.hid (HAr.out op n s args ea ec _ HXA.out hnn)
        have HCN:=Lib.hid (fun W (hW:Below (wq.alloc (.cells #[.int .i64 op,.int .i64 n,.string s,.slice ea args.length ec] 55)).heap.size (wq.alloc (.cells #[.int .i64 op,.int .i64 n,.string s,.slice ea args.length ec] 55)) W)=>HNa.out op n s args ea ec W (HXA.out.keep (keeps_of_below hW)) hnn)
        have hx0:(wq.alloc (.cells #[.int .i64 op,.int .i64 n,.string s,.slice ea args.length ec] 55)).heap[wq.heap.size]? = some (.cells #[.int .i64 op,.int .i64 n,.string s,.slice ea args.length ec] 55):=heap_alloc_at _ _ _ rfl
        have HX0:=Lib.hid hx0
        generalize namesS [3,24] (Ex.mk op n s args)=A3 at HCA HKe
        generalize namesS [2] (Ex.mk op n s args)=N2 at HCN HKe HSz
        generalize knE vs (Ex.mk op n s args)=kn at HNx HNo HKe
        have hkw:IntKind.i64.wrap ((k:Int)+1)=(k:Int)+1:=by rw[IntKind.wrap_i64];omega
        clear g0 g1 g2 g3 hX kk hbA hx0 HXA HX hnn
        by_cases hA:A3.length=0
        ·obtain rfl:A3=[]:=List.eq_nil_of_length_eq_zero hA
         have HKe2:Hid (kn=N2.all fun s=>decide (0≤findV vs s 0)):=by show _=_;rw[HKe.out];simp
         clear hA HKe
         go_wp2_with (go_at_call 99;(with_reducible refine HCA.out.mono ?_);rintro r w5 ⟨⟨aa,ca,rfl,_⟩,hb5⟩;have HB5:=Lib.hid hb5;have h5:=(hb5.block wq.heap.size (by simp)).trans HX0.out;have p0:w5.cell? ⟨wq.heap.size,0,none⟩=some (.int .i64 op):=(by simp[World.cell?,h5]);have p1:w5.cell? ⟨wq.heap.size,1,none⟩=some (.int .i64 n):=(by simp[World.cell?,h5]);have p2:w5.cell? ⟨wq.heap.size,2,none⟩=some (.string s):=(by simp[World.cell?,h5]);have p3:w5.cell? ⟨wq.heap.size,3,none⟩=some (.slice ea args.length ec):=(by simp[World.cell?,h5]);clear h5 hb5)
         refine(HCN.out w5 HB5.out).mono ?_
         rintro r w6 ⟨⟨an,cn,rfl,hst⟩,hb6⟩
         have HSt:=Lib.hid hst
         have HAN:=Lib.hid hst.addr
         have hln:=hst.2.1
         have HBw6:=Lib.hid (HBwq.out.trans ((HbA.out.trans ((HB5.out.trans (hb6.mono HB5.out.size)).mono HbA.out.size)).mono HBwq.out.size))
         have HB36:=Lib.hid (HBq.out.trans ((HbA.out.trans ((HB5.out.trans (hb6.mono HB5.out.size)).mono HbA.out.size)).mono HBq.out.size))
         have HM6:=Lib.hid (HMa.out.below HB36.out)
         clear hst hb6 p0 p1 p2 p3 c0 c1 c2 c3 HCN HB5 HbA HBwq HBq HX0 HCA
         go_wp2_with fail
         go_loopw [52,13] (fun i _ wz=>∃ j:Nat,i=.int .i64 j∧j≤N2.length∧Hid (∀ q (hq:q < N2.length),q < j→0≤findV vs (N2[q]'hq) 0)∧Hid (Below w6.heap.size w6 wz)) (fun i _ _=>N2.length - (intOf i).toNat)
         case atStart=>exact⟨0,rfl,Nat.zero_le _,fun _ _ h=>absurd h (by omega),Below.refl _ _⟩
         case round =>
          rename World=>wz
          obtain⟨j,rfl,hj,HAj,HBz⟩:=hrel
          by_cases hlj:j < N2.length
          ·obtain⟨bn,on,han⟩:=HAN.out.resolve_left (by omega)
           subst han
           have hc:=(keeps_of_below HBz.out) _ _ (HSt.out.get rfl hlj)
           have hsz:=HSz.out _ (List.getElem_mem hlj)
           have HMz:=Lib.hid (HM6.out.below HBz.out)
           have hin:inV vs vs.length (N2[j]'hlj)=decide (0≤findV vs (N2[j]'hlj) 0):=inV_find _ _
           have HNj:Hid (0≤findV vs (N2[j]'hlj) 0→∀ q (hq:q < N2.length),q < j+1→0≤findV vs (N2[q]'hq) 0):=fun h q hq hqj=>by
            by_cases e:q=j
            ·subst e;exact h
            ·exact HAj.out q hq (by omega)
           have HNk:Hid (¬ 0≤findV vs (N2[j]'hlj) 0→err=7):=fun h=>HNo.out (by rw[HKe2.out];exact all_not hlj (decide_eq_false h))
           have hkj:IntKind.i64.wrap ((j:Int)+1)=(j:Int)+1:=by rw[IntKind.wrap_i64];omega
           generalize (N2[j]'hlj)=nm at hc hsz hin HNj HNk
           by_cases hf:0≤findV vs nm 0
           ·have HNj2:=Lib.hid (HNj.out hf)
            rw[decide_eq_true hf] at hin
            clear HNj HNk hf HNo HNx HKe2
            go_wp2_with (at_lookup;refine wp_mapLook _ rfl _ _ rfl w2.heap.size vs.length vs rfl HMz.out nm rfl hsz ?_;rw[hin])
            go_roundw
            case rel=>exact⟨j+1,by go_num,by omega,HNj2,HBz⟩
            case measure=>(simp[intOf];try omega)
           ·have HNk2:=Lib.hid (HNk.out hf)
            rw[decide_eq_false hf] at hin
            clear HNj HNk hf HNo HNx HKe2
            go_wp2_with (at_lookup;refine wp_mapLook _ rfl _ _ rfl w2.heap.size vs.length vs rfl HMz.out nm rfl hsz ?_;rw[hin])
            go_ret
            exact⟨by rw[HNk2.out];rfl,HBw6.out.trans (HBz.out.mono HBw6.out.size)⟩
          ·obtain rfl:j=N2.length:=by omega
           have HNx2:=Lib.hid (HNx.out (by rw[HKe2.out];exact all_yes (fun q hq=>decide_eq_true (HAj.out q hq hq))))
           clear HNx HKe2 HAj HAl
           go_wp2_with fail
           go_roundw
           case rel=>exact⟨k+1,by go_num,by omega,HNx2,HB36.out.trans (HBz.out.mono HB36.out.size)⟩
           case measure=>(simp[intOf];try omega)
        ·have HNo2:Hid (kn=false):=by show _=_;rw[HKe.out,decide_eq_false hA];rfl
         have HNo:=Lib.hid (HNo.out HNo2.out)
         have hA1:0 < A3.length:=by omega
         clear hA HKe HNx HNo2
         go_wp2_with (go_at_call 99;(with_reducible refine HCA.out.mono ?_);rintro r w5 ⟨⟨aa,ca,rfl,_⟩,hb5⟩;have HB5:=Lib.hid hb5;clear hb5)
         go_ret
         exact⟨by rw[HNo.out];rfl,HBwq.out.trans ((HbA.out.trans (HB5.out.mono HbA.out.size)).mono HBwq.out.size)⟩
       ·obtain rfl:k=l.length:=by omega
        have HE:=Lib.hid (HE0.out (fun j hj=>HAl.out j hj hj))
        go_wp2_with fail
        go_ret
        exact⟨by rw[HE.out];rfl,HBwq.out⟩
 ·have HV1:=Lib.hid (fun W hW=>errF (HV0.out W hW) hp)
  have HNo:Hid (solvErr p l=1):=by show _=_;unfold solvErr;rw[if_neg (by rw[pB_false hp];simp)]
  generalize solvErr p l=err at HNo⊢
  simp only[probVal_eq] at HV1⊢
  clear hE hs hL hsl hG hp HV0
  obtain⟨vs,hard,soft,ds,gs⟩:=p
  obtain⟨av,cv,ah,ch,ao,co,ad,cd,ag,cg⟩:=x
  simp only at HV1⊢
  have HV:=Lib.hid (HV1.out (w.alloc (.cells #[.slice av vs.length cv,.slice ah hard.length ch,.slice ao soft.length co,.slice ad ds.length cd,.slice ag gs.length cg] 27)) ((Below.refl _ _).alloc (Nat.le_refl _) _))
  clear HV1
  go_enter Tryz.func52, Tryz.ntmps52
  go_wp2_with fail
  refine HV.out.mono ?_
  rintro r w1 ⟨⟨m,rfl,hm⟩,hb1⟩
  have HBw:Hid (Below w.heap.size w w1):=boxW _ (by simpa using hb1)
  clear hb1
  go_wp2_with fail
  go_ret
  exact⟨by rw[HNo.out];rfl,HBw.out⟩
end Go.Proofs.YtcplmcjbkpmhdaaGreatDoor
namespace Go.Proofs.YtcplmcjbkpmhdaaGreatDoor
open Go.RowKit
attribute [local go_sem ↓] Go.wp_at_zero Go.wp_at_succ
noncomputable def solvA (p:ProbD) (l:List Ex):Bool:=if solvErr p l=0 then solvB p.vars l else false
set_option maxRecDepth 100000 in
set_option maxHeartbeats 8000000 in
theorem Solvable_any (p:ProbD) (x:ProbA) (l:List Ex) (al:Option Addr) (cl:Nat) (w:World) (hE:ProbIn w p x) (hs:ProbSmall p) (hL:ExsIn w l al cl) (hsl:ExsSmall l) (hG:Glob w) (hT:ProbOk p→bitsTo p.vars p.vars.length≤10) :
  Calls Tryz.prog 18 #[probVal p x,.slice al l.length cl] w fun e w'=>e=.returned (.tuple #[.bool (solvA p l),.int .i64 (solvErr p l)])∧Below w.heap.size w w':=by
 have HC0:=Lib.hid (fun W (hW:Below w.heap.size w W)=>check_any p x l al cl W (hE.keep (keeps_of_below hW)) hs (hL.keep (keeps_of_below hW)) hsl (hG.below hW))
 have HS0:=Lib.hid (fun W (hW:Below w.heap.size w W) (h0:solvErr p l=0)=>solvable_any p x l al cl W (hE.keep (keeps_of_below hW)) hs (hL.keep (keeps_of_below hW)) hsl (hG.below hW) (solvErr_ok h0).1 (solvErr_ok h0).2 (hT (solvErr_ok h0).1))
 have HY:Hid (solvErr p l=0→solvA p l=solvB p.vars l):=fun h=>if_pos h
 have HN:Hid (¬ solvErr p l=0→solvA p l=false):=fun h=>if_neg h
 generalize solvA p l=r at HY HN⊢
 generalize solvErr p l=err at HC0 HS0 HY HN⊢
 generalize hsb:solvB p.vars l=sb at HS0 HY
 clear hE hs hL hsl hG hT hsb
 simp only[probVal_eq] at HC0 HS0⊢
 obtain⟨vs,hard,soft,ds,gs⟩:=p
 obtain⟨av,cv,ah,ch,ao,co,ad,cd,ag,cg⟩:=x
 simp only at HC0 HS0⊢
 have HC:=Lib.hid (HC0.out (w.alloc (.cells #[.slice av vs.length cv,.slice ah hard.length ch,.slice ao soft.length co,.slice ad ds.length cd,.slice ag gs.length cg] 27)) ((Below.refl _ _).alloc (Nat.le_refl _) _))
 clear HC0
 go_enter Tryz.func18, Tryz.ntmps18
 go_wp2_with fail
 refine HC.out.mono ?_
 rintro e w1 ⟨rfl,hb1⟩
 simp only[World.size_alloc] at hb1
 have HB1:=Lib.hid hb1
 have HBw:=Lib.hid (boxW _ hb1)
 have hz1:=hb1.size
 simp only[World.size_alloc] at hz1
 clear hb1
 by_cases h0:err=0
 ·have HS:=Lib.hid (HS0.out w1 HBw.out h0)
  obtain rfl:=HY.out h0
  clear HS0 HY HN
  subst h0
  ((try clear b0 b1 b2 b3 b4);have b0:=box_cell HB1.out 0;have b1:=box_cell HB1.out 1;have b2:=box_cell HB1.out 2;have b3:=box_cell HB1.out 3;have b4:=box_cell HB1.out 4;(try simp at b0 b1 b2 b3 b4))
  go_wp2_with (go_at_call 53;(with_reducible refine HS.out.mono ?_);rintro e w2 ⟨rfl,hb2⟩;have HB2:=Lib.hid (HBw.out.trans (hb2.mono HBw.out.size));clear hb2)
  go_ret2
  exact⟨rfl,HB2.out⟩
 ·obtain rfl:=HN.out h0
  have hne:(err != (0:Int))=true:=by simpa using h0
  clear HS0 HY HN h0
  go_wp2_with fail
  go_ret2
  exact⟨rfl,HBw.out⟩
end Go.Proofs.YtcplmcjbkpmhdaaGreatDoor
