/- search: known. -/
import Derived.Test.YtcplmcjbkpmhdaaGreatDoorKO
import Derived.Test.YtcplmcjbkpmhdaaGreatDoorKP
import Derived.Test.YtcplmcjbkpmhdaaGreatDoorKI
set_option linter.unusedSimpArgs false
set_option linter.unusedVariables false
set_option linter.unnecessarySimpa false
namespace Go.Proofs.YtcplmcjbkpmhdaaGreatDoor
open Go.RowKit
set_option maxHeartbeats 400000 in
theorem known1_any (v:VarD) (c:Nat) (s:ByteArray) (w:World) (hc:w.cell? ⟨c,0,none⟩=some (.string s)) :
  Calls Tryz.prog 138 #[varVal v,.pointer (some ⟨c,0,none⟩)] w fun e w'=>e=.returned (.bool (v.name.toList == s.toList))∧Below w.heap.size w w':=by
 have hlt:=World.block_lt_of_cell? _ _ hc
 have hcA:∀ o,(w.alloc o).cell? ⟨c,0,none⟩=_:=fun o=>(World.cell?_alloc_lt _ _ _ hlt).trans hc
 unfold varVal
 go_enter Tryz.func138, Tryz.ntmps138
 go_wp2_with fail
 go_ret
 exact⟨rfl,bel⟩
theorem any_findV (l:List VarD) (s:ByteArray):(l.any fun v=>v.name.toList == s.toList)=decide (0≤findV l s 0):=by
 cases h:l.any fun v=>v.name.toList == s.toList
 ·rw[List.any_eq_false] at h
  rw[findV_none s l 0 (fun i hi=>by have:=h _ (List.getElem_mem hi);simpa using this)];rfl
 ·rcases findV_cases l s with ⟨_,hn⟩ | ⟨k,hk,h1,_⟩
  ·rw[List.any_eq_true] at h
   obtain⟨v,hv,hh⟩:=h
   obtain⟨i,hi,rfl⟩:=List.getElem_of_mem hv
   rw[hn i hi] at hh;simp at hh
  ·rw[h1];simp
set_option maxRecDepth 100000 in
set_option maxHeartbeats 8000000 in
theorem known18_any (p:ProbD) (x:ProbA) (op n:Int) (s:ByteArray) (args:List Ex) (a:Option Addr) (cap:Nat) (w:World) (hE:ProbIn w p x) (hX:ExIn w (.mk op n s args) a cap) (hn:(Ex.mk op n s args).nodes.length≤1000000000) (hG:Glob w) :
  Calls Tryz.prog 90 #[probVal p x,.agg #[.int .i64 op,.int .i64 n,.string s,.slice a args.length cap]] w fun e w'=>e=.returned (.bool (pB (ExprOk p.vars (.mk op n s args))))∧Below w.heap.size w w':=by
 have HOk:=Lib.hid (exprOk_iff p.vars (.mk op n s args))
 have HP:=Lib.hid hE
 have HX:=Lib.hid hX
 have HG:=Lib.hid hG
 have hlen:=hE.vars.2.1
 have HVs:=Lib.hid hE.vars
 clear hE hX hG
 simp only[probVal_eq]
 obtain⟨vs,hard,soft,ds,gs⟩:=p
 obtain⟨av,cv,ah,ch,ao,co,ad,cd,ag,cg⟩:=x
 simp only at HVs HOk hlen⊢
 have HVa:=Lib.hid (fun W (hW:Below (w.heap.size+2) ((w.alloc (.cells #[.slice av vs.length cv,.slice ah hard.length ch,.slice ao soft.length co,.slice ad ds.length cd,.slice ag gs.length cg] 27)).alloc (.cells #[.int .i64 op,.int .i64 n,.string s,.slice a args.length cap] 55)) W)=>frB (Q:=fun e _=>e=_) (valid_any op n s args a cap W (HG.out.below (below_two hW)) (HX.out.keep (keeps_of_below (below_two hW))) (by omega)) hW (by simp))
 have HAa:=Lib.hid (fun W (hW:Below (w.heap.size+2) ((w.alloc (.cells #[.slice av vs.length cv,.slice ah hard.length ch,.slice ao soft.length co,.slice ad ds.length cd,.slice ag gs.length cg] 27)).alloc (.cells #[.int .i64 op,.int .i64 n,.string s,.slice a args.length cap] 55)) W)=>frB (Q:=StrsRet (namesS [3,24] (.mk op n s args))) (Arrays_any op n s args a cap W (HX.out.keep (keeps_of_below (below_two hW))) (by omega)) hW (by simp))
 have HNa:=Lib.hid (fun W (hW:Below (w.heap.size+2) ((w.alloc (.cells #[.slice av vs.length cv,.slice ah hard.length ch,.slice ao soft.length co,.slice ad ds.length cd,.slice ag gs.length cg] 27)).alloc (.cells #[.int .i64 op,.int .i64 n,.string s,.slice a args.length cap] 55)) W)=>frB (Q:=StrsRet (namesS [2] (.mk op n s args))) (Names_any op n s args a cap W (HX.out.keep (keeps_of_below (below_two hW))) (by omega)) hW (by simp))
 have HB0:Hid (Below (w.heap.size+2) ((w.alloc (.cells #[.slice av vs.length cv,.slice ah hard.length ch,.slice ao soft.length co,.slice ad ds.length cd,.slice ag gs.length cg] 27)).alloc (.cells #[.int .i64 op,.int .i64 n,.string s,.slice a args.length cap] 55)) ((w.alloc (.cells #[.slice av vs.length cv,.slice ah hard.length ch,.slice ao soft.length co,.slice ad ds.length cd,.slice ag gs.length cg] 27)).alloc (.cells #[.int .i64 op,.int .i64 n,.string s,.slice a args.length cap] 55))):=Below.refl _ _
 clear hn
 generalize namesS [3,24] (Ex.mk op n s args)=A3 at HAa HOk
 generalize namesS [2] (Ex.mk op n s args)=N2 at HNa HOk
 by_cases hv:validS (Ex.mk op n s args)=0
 ·rw[hv] at HVa
  by_cases ha:A3.length=0
  ·obtain rfl:A3=[]:=List.eq_nil_of_length_eq_zero ha
   have HOk':Hid (ExprOk vs (.mk op n s args)↔∀ i (h:i < N2.length),0≤findV vs (N2[i]'h) 0):=by
    show _↔_;rw[HOk.out];simp[hv]
   clear hv ha HOk
   go_enter Tryz.func90, Tryz.ntmps90
   go_wp2_with fail
   refine(HVa.out _ HB0.out).mono ?_
   rintro e w1 ⟨rfl,hc1,hb1⟩
   have hzl:w.heap.size < w1.heap.size:=(by have:=hb1.size;simp at this;omega)
   go_wp2_with fail
   refine(HAa.out _ hb1).mono ?_
   rintro e w2 ⟨⟨aa,ca,rfl,_⟩,hc2,hb2⟩
   have hzl2:w.heap.size < w2.heap.size:=(by have:=hb2.size;simp at this;omega)
   clear hc1 hb1 hzl
   go_wp2_with fail
   refine(HNa.out _ hb2).mono ?_
   rintro e w1 ⟨⟨an,cn,rfl,hst⟩,hc1,hb1⟩
   have HX0:=Lib.hid (⟨hb1,hst⟩:_∧_)
   clear hc1 hb1 hst hc2 hb2 hzl2
   go_wp2_with fail
   obtain⟨hb1,hst⟩:=HX0.out
   have HSt:=Lib.hid hst
   have HAN:=Lib.hid hst.addr
   have hln:=hst.2.1
   have Hb1:=Lib.hid hb1
   clear hst hb1 HX0
   go_loopw [19,6] (fun i _ wr=>∃ k:Nat,i=.int .i64 k∧k≤N2.length∧(∀ j (hj:j < N2.length),j < k→0≤findV vs (N2[j]'hj) 0)∧Below w1.heap.size w1 wr) (fun i _ _=>N2.length - (intOf i).toNat)
   case atStart=>exact⟨0,rfl,Nat.zero_le _,fun _ _ h=>absurd h (by omega),Below.refl _ _⟩
   case round =>
    obtain⟨k,rfl,hk,hall,hB⟩:=hrel
    have HAl:=Lib.hid hall
    have HBr:Hid (Below (w.heap.size+2) ((w.alloc (.cells #[.slice av vs.length cv,.slice ah hard.length ch,.slice ao soft.length co,.slice ad ds.length cd,.slice ag gs.length cg] 27)).alloc (.cells #[.int .i64 op,.int .i64 n,.string s,.slice a args.length cap] 55)) wr):=Hb1.out.trans (hB.mono (by have:=Hb1.out.size;simpa using this))
    have HB:=Lib.hid hB
    clear hall hB
    by_cases hlt:k < N2.length
    ·obtain⟨b,off,ha⟩:=HAN.out.resolve_left (by omega)
     subst ha
     have c0:=HSt.out.get rfl hlt
     have c0:=(keeps_of_below HB.out) _ _ c0
     have b0:wr.cell? ⟨w.heap.size,0,none⟩=some (.slice av vs.length cv):=(HBr.out.cell (p:=⟨w.heap.size,0,none⟩) (by simp)).trans (by simp)
     have hzr:=HBr.out.size
     simp only[World.size_alloc] at hzr
     have hzl:w.heap.size < wr.heap.size:=by omega
     have HK:=Lib.hid (fun W (hW:Below wr.heap.size wr W) (hz:wr.heap.size < W.heap.size) (hc:W.cell? ⟨wr.heap.size,0,none⟩=some (.string (N2[k]'hlt)))=>(containsFunc_known wr.heap.size (fun v=>v.name.toList == (N2[k]'hlt).toList) vs av cv W (HVs.out.keep (keeps_of_below ((below_two HBr.out).trans (hW.mono (below_two HBr.out).size)))) (fun v _ w' hb=>known1_any v wr.heap.size (N2[k]'hlt) w' ((hb.cell hz).trans hc))).mono fun e w' h=>(⟨h.1,hW.trans (h.2.mono hW.size)⟩:_∧Below wr.heap.size wr w'))
     rw[any_findV] at HK
     by_cases hf:0≤findV vs (N2[k]'hlt) 0
     ·rw[decide_eq_true hf] at HK
      go_wp2_with fail
      refine(HK.out _ ?hb ?hz ?hc).mono ?_
      case hb=>exact bel
      case hz=>simp
      case hc=>simp
      rintro e w4 ⟨rfl,hb4⟩
      clear c0 b0
      go_wp2_with fail
      go_roundw
      case rel=>exact⟨k+1,by go_num,by omega,fun j hj hjk=>by
       by_cases e:j=k
       ·subst e;exact hf
       ·exact HAl.out j hj (by omega),HB.out.trans ((by assumption:Below wr.heap.size wr _).mono HB.out.size)⟩
      case measure=>simp[intOf];omega
     ·rw[decide_eq_false hf] at HK
      have HNo:Hid (pB (ExprOk vs (.mk op n s args))=false):=pB_false (fun h=>hf (HOk'.out.1 h k hlt))
      go_wp2_with fail
      refine(HK.out _ ?hb ?hz ?hc).mono ?_
      case hb=>exact bel
      case hz=>simp
      case hc=>simp
      rintro e w4 ⟨rfl,hb4⟩
      clear c0 b0
      go_wp2_with fail
      go_ret
      exact⟨by rw[HNo.out];rfl,(below_two HBr.out).trans ((by assumption:Below wr.heap.size wr _).mono (below_two HBr.out).size)⟩
    ·obtain rfl:k=N2.length:=by omega
     have HY:Hid (pB (ExprOk vs (.mk op n s args))=true):=pB_true (HOk'.out.2 (fun i h=>HAl.out i h h))
     go_wp2_with fail
     go_ret
     exact⟨by rw[HY.out];rfl,below_two HBr.out⟩
  ·have HNo:Hid (pB (ExprOk vs (.mk op n s args))=false):=pB_false (fun h=>ha (HOk.out.1 h).2.1)
   have ha':1≤A3.length:=by omega
   clear hv ha HOk
   go_enter Tryz.func90, Tryz.ntmps90
   go_wp2_with (first | (go_at_call 98;(with_reducible refine(HVa.out _ (by first | assumption | exact HB0.out)).mono ?_);rintro e w1 ⟨rfl,hc1,hb1⟩;have hzl:w.heap.size < w1.heap.size:=(by have:=hb1.size;simp at this;omega)) | (go_at_call 99;(with_reducible refine(HAa.out _ (by assumption)).mono ?_);rintro e w1 ⟨⟨aa,ca,rfl,_⟩,hc1,hb1⟩;have hzl:w.heap.size < w1.heap.size:=(by have:=hb1.size;simp at this;omega)) | (go_at_call 100;(with_reducible refine(HNa.out _ (by assumption)).mono ?_);rintro e w1 ⟨⟨an,cn,rfl,hst⟩,hc1,hb1⟩;have HX1:=Lib.hid (⟨hb1,hst⟩:_∧_);clear hb1 hst))
   go_ret
   exact⟨by rw[HNo.out];rfl,below_two (by assumption)⟩
 ·have HNo:Hid (pB (ExprOk vs (.mk op n s args))=false):=pB_false (fun h=>hv h.valid)
  have hv':(validS (Ex.mk op n s args) != 0)=true:=by simpa using hv
  generalize validS (Ex.mk op n s args)=vv at HVa hv hv'
  clear hv HOk
  go_enter Tryz.func90, Tryz.ntmps90
  go_wp2_with (first | (go_at_call 98;(with_reducible refine(HVa.out _ (by first | assumption | exact HB0.out)).mono ?_);rintro e w1 ⟨rfl,hc1,hb1⟩;have hzl:w.heap.size < w1.heap.size:=(by have:=hb1.size;simp at this;omega)) | (go_at_call 99;(with_reducible refine(HAa.out _ (by assumption)).mono ?_);rintro e w1 ⟨⟨aa,ca,rfl,_⟩,hc1,hb1⟩;have hzl:w.heap.size < w1.heap.size:=(by have:=hb1.size;simp at this;omega)) | (go_at_call 100;(with_reducible refine(HNa.out _ (by assumption)).mono ?_);rintro e w1 ⟨⟨an,cn,rfl,hst⟩,hc1,hb1⟩;have HX1:=Lib.hid (⟨hb1,hst⟩:_∧_);clear hb1 hst))
  go_ret
  exact⟨by rw[HNo.out];rfl,below_two (by assumption)⟩
end Go.Proofs.YtcplmcjbkpmhdaaGreatDoor
namespace Go.Proofs.YtcplmcjbkpmhdaaGreatDoor
open Go.RowKit
def BeginRet (ok:Prop) (B:Nat) (pv:Array Value) (lv:Value) (A:List Int) (steps:Int) (e:Ending) (w':World):Prop :=
 (ok∧∃ bf v,e=.returned (.tuple #[.pointer (some ⟨bf,0,none⟩),.int .i64 0])∧Fin w' B bf v pv lv A false steps)∨(¬ ok∧e=.returned (.tuple #[.pointer none,.int .i64 1]))
def startN (vs:List VarD) (i:Nat):List Int:=(List.range vs.length).map fun j=>if j < i then (nthN vs 0).getD j 0 else 0
theorem startN_len (vs:List VarD) (i:Nat):(startN vs i).length=vs.length:=by simp[startN]
theorem startN_all (vs:List VarD):startN vs vs.length=nthN vs 0:=by
 apply List.ext_getElem
 ·rw[startN_len,nthN_len]
 ·intro j h1 h2
  rw[startN_len] at h1
  simp only[startN,List.getElem_map,List.getElem_range,if_pos h1]
  rw[List.getD_eq_getElem?_getD,List.getElem?_eq_getElem h2];rfl
theorem nthN_zero (vs:List VarD) {i:Nat} (h:i < vs.length):(nthN vs 0).getD i 0=if (vs[i]'h).mode=0 then (vs[i]'h).value else 0:=by
 rw[List.getD_eq_getElem?_getD,List.getElem?_eq_getElem (by rw[nthN_len];exact h)]
 simp only[Option.getD_some]
 rw[nthN_get vs 0 i h]
 unfold digN
 split
 ·rfl
 ·simp
theorem startN_state (vs:List VarD) {i:Nat} (h:i < vs.length) (hm:(vs[i]'h).mode=0):startN vs (i+1)=(startN vs i).set i (vs[i]'h).value:=by
 have hz:=nthN_zero vs h
 rw[if_pos hm] at hz
 apply List.ext_getElem
 ·rw[List.length_set,startN_len,startN_len]
 ·intro j h1 h2
  rw[List.getElem_set]
  simp only[startN,List.getElem_map,List.getElem_range]
  by_cases e:i=j
  ·subst e;rw[if_pos (by omega),if_pos rfl,hz]
  ·rw[if_neg e]
   by_cases h3:j < i
   ·rw[if_pos h3,if_pos (by omega)]
   ·rw[if_neg h3,if_neg (by omega)]
theorem startN_rand (vs:List VarD) {i:Nat} (h:i < vs.length) (hm:¬ (vs[i]'h).mode=0):startN vs (i+1)=startN vs i:=by
 have hz:=nthN_zero vs h
 rw[if_neg hm] at hz
 apply List.ext_getElem
 ·rw[startN_len,startN_len]
 ·intro j h1 h2
  simp only[startN,List.getElem_map,List.getElem_range]
  by_cases e:i=j
  ·subst e;rw[if_pos (by omega),if_neg (by omega),hz]
  ·by_cases h3:j < i
   ·rw[if_pos h3,if_pos (by omega)]
   ·rw[if_neg h3,if_neg (by omega)]
theorem startN_none (vs:List VarD):startN vs 0=List.replicate vs.length 0:=by
 apply List.ext_getElem
 ·simp[startN]
 ·intro j h1 h2;simp[startN]
theorem own_made (w:World) (B n b:Nat) (hB:B≤b) (h:w.heap[b]? = some (.cells (Array.replicate n (Value.int .i64 0)) 3 (0,0))) (hn:n≤1073741824):w.ownsRow B 3 1 (.slice (some ⟨b,0,none⟩) n n) n ((List.replicate n (0:Int)).map (Value.int .i64)):=by
 have hm:1073741824≤maxLen:=by decide
 exact⟨by simp,Or.inr ⟨b,n,_,rfl,hB,h,Nat.le_refl _,by omega,by simp,by simp⟩⟩
set_option maxRecDepth 100000 in
set_option maxHeartbeats 8000000 in
theorem begin_any (p:ProbD) (x:ProbA) (l:List Ex) (al:Option Addr) (cl:Nat) (steps:Int) (w:World) (hE:ProbIn w p x) (hs:ProbSmall p) (hL:ExsIn w l al cl) (hsl:ExsSmall l) (hG:Glob w) :
  Calls Tryz.prog 42 #[probVal p x,.slice al l.length cl,.int .i64 steps] w fun e w'=>BeginRet (ComOk p l steps) w.heap.size (probVals p x) (.slice al l.length cl) (nthN p.vars 0) steps e w'∧Below w.heap.size w w':=by
 have hlen:=hL.2.1
 have HV0:=Lib.hid (fun W (hW:Below w.heap.size w W)=>Valid_any p x W (hE.keep (keeps_of_below hW)) hs (hG.below hW))
 have HRt:=Lib.hid (fun op n s args a cap W (hW:Below w.heap.size w W) (hX:ExIn W (.mk op n s args) a cap) (hn:(Ex.mk op n s args).nodes.length≤1000000000)=>known18_any p x op n s args a cap W (hE.keep (keeps_of_below hW)) hX hn (hG.below hW))
 have HL:=Lib.hid hL
 have HA:=Lib.hid hL.addr
 have HSl:=Lib.hid hsl
 have HVs:=Lib.hid hE.vars
 have HAV:=Lib.hid hE.vars.addr
 have hvl:=hE.vars.2.1
 clear hE hs hL hsl hG
 have HCO:Hid (∀ (h1:ProbOk p) (h2:0≤steps) (h3:steps≤262144),(∀ i (h:i < l.length),ExprOk p.vars (l[i]'h))→ComOk p l steps):=fun h1 h2 h3 h4=>⟨h1,h2,h3,h4⟩
 by_cases hp:ProbOk p
 ·have HV1:=Lib.hid (fun W hW=>errT (HV0.out W hW) hp)
  have HCO':=Lib.hid (HCO.out hp)
  simp only[probVal_eq] at HV1 HRt⊢
  obtain⟨vs,hard,soft,ds,gs⟩:=p
  obtain⟨av,cv,ah,ch,ao,co,ad,cd,ag,cg⟩:=x
  simp only at HV1 HRt HCO' HVs HAV hvl⊢
  have HV:=Lib.hid (HV1.out (w.alloc (.cells #[.slice av vs.length cv,.slice ah hard.length ch,.slice ao soft.length co,.slice ad ds.length cd,.slice ag gs.length cg] 27)) ((Below.refl _ _).alloc (Nat.le_refl _) _))
  by_cases hst:0≤steps∧steps≤262144
  ·obtain⟨h2,h3⟩:=hst
   have HCO2:=Lib.hid (HCO'.out h2 h3)
   clear HCO HCO' HV0 HV1 hp
   go_enter Tryz.func42, Tryz.ntmps42
   go_wp2_with fail
   refine HV.out.mono ?_
   rintro e w1 ⟨rfl,hb1⟩
   simp only[World.size_alloc] at hb1
   have Hb1:=Lib.hid hb1
   clear hb1
   go_wp2_with fail
   go_loopw [26,9] (fun i _ wr=>∃ k:Nat,i=.int .i64 k∧k≤l.length∧(∀ j (hj:j < l.length),j < k→ExprOk vs (l[j]'hj))∧Below (w.heap.size+1) (w.alloc (.cells #[.slice av vs.length cv,.slice ah hard.length ch,.slice ao soft.length co,.slice ad ds.length cd,.slice ag gs.length cg] 27)) wr) (fun i _ _=>l.length - (intOf i).toNat)
   case atStart=>exact⟨0,rfl,Nat.zero_le _,fun _ _ h=>absurd h (by omega),Hb1.out⟩
   case round =>
    obtain⟨k,rfl,hk,hall,hB⟩:=hrel
    have HAl:=Lib.hid hall
    have HB:=Lib.hid hB
    have HBw:=Lib.hid (boxW _ hB)
    have hzr:=hB.size
    simp only[World.size_alloc] at hzr
    clear hall hB
    have hzl:w.heap.size < wr.heap.size:=by omega
    have b0:=box_cell HB.out 0
    have b1:=box_cell HB.out 1
    have b2:=box_cell HB.out 2
    have b3:=box_cell HB.out 3
    have b4:=box_cell HB.out 4
    (try simp at b0 b1 b2 b3 b4)
    by_cases hlt:k < l.length
    ·obtain⟨b,off,ha⟩:=HA.out.resolve_left (by omega)
     subst ha
     obtain⟨a',cap',g0,g1,g2,g3,hX⟩:=HL.out.get rfl hlt
     have hn:=HSl.out _ (List.getElem_mem hlt)
     have HNx:Hid (ExprOk vs (l[k]'hlt)→∀ j (hj:j < l.length),j < k+1→ExprOk vs (l[j]'hj)):=fun hv j hj hjk=>by
      by_cases e:j=k
      ·subst e;exact hv
      ·exact HAl.out j hj (by omega)
     have HNo:Hid (¬ ExprOk vs (l[k]'hlt)→¬ ComOk ⟨vs,hard,soft,ds,gs⟩ l steps):=fun h h'=>h (h'.exprs k hlt)
     generalize (l[k]'hlt)=e at g0 g1 g2 g3 hX hn HNx HNo
     obtain⟨op,n,s,args⟩:=e
     simp only[Ex.op_mk,Ex.n_mk,Ex.name_mk,Ex.args_mk] at g0 g1 g2 g3
     have kk:=keeps_of_below HBw.out
     have c0:=kk _ _ g0
     have c1:=kk _ _ g1
     have c2:=kk _ _ g2
     have c3:=kk _ _ g3
     have HC:=Lib.hid (fun W (hW:Below wr.heap.size wr W)=>(HRt.out op n s args a' cap' W (HBw.out.trans (hW.mono HBw.out.size)) ((hX.keep kk).keep (keeps_of_below hW)) hn).mono fun e w' h=>(⟨h.1,hW.trans (h.2.mono hW.size)⟩:_∧Below wr.heap.size wr w'))
     clear g0 g1 g2 g3 hX hn kk
     by_cases hv:ExprOk vs (Ex.mk op n s args)
     ·have HNx':=Lib.hid (HNx.out hv)
      rw[pB_true hv] at HC
      clear hv HNx HNo
      go_wp2_with fail
      refine(HC.out _ ?hb).mono ?_
      case hb=>exact bel
      rintro e w4 ⟨rfl,hb4⟩
      clear c0 c1 c2 c3 b0 b1 b2 b3 b4
      go_wp2_with fail
      go_roundw
      case rel=>exact⟨k+1,by go_num,by omega,HNx'.out,HB.out.trans (hb4.mono (by simpa using hzr))⟩
      case measure=>simp[intOf];omega
     ·have HNo':=Lib.hid (HNo.out hv)
      rw[pB_false hv] at HC
      clear hv HNx HNo
      go_wp2_with fail
      refine(HC.out _ ?hb).mono ?_
      case hb=>exact bel
      rintro e w4 ⟨rfl,hb4⟩
      clear c0 c1 c2 c3 b0 b1 b2 b3 b4
      go_wp2_with fail
      (try rw[Exit.noGoto_ret])
      go_ret2
      exact⟨Or.inr ⟨HNo'.out,rfl⟩,HBw.out.trans (hb4.mono HBw.out.size)⟩
    ·obtain rfl:k=l.length:=by omega
     have HY:Hid (ComOk ⟨vs,hard,soft,ds,gs⟩ l steps):=HCO2.out (fun i h=>HAl.out i h h)
     have hmk:=mk_ints vs.length hvl
     go_wp2_with fail
     go_region
     generalize hW2:((wr.alloc (Obj.cells (Array.replicate vs.length (Value.int .i64 0)) 3)).alloc (Obj.cells #[.slice av vs.length cv,.slice ah hard.length ch,.slice ao soft.length co,.slice ad ds.length cd,.slice ag gs.length cg,.slice al l.length cl,.slice (some ⟨wr.heap.size,0,none⟩) vs.length vs.length,.bool false,.int .i64 steps] 66)).drew=w2
     have HF0:Hid (Fin w2 w.heap.size (wr.heap.size+1) (.slice (some ⟨wr.heap.size,0,none⟩) vs.length vs.length) (probVals ⟨vs,hard,soft,ds,gs⟩ ⟨av,cv,ah,ch,ao,co,ad,cd,ag,cg⟩) (.slice al l.length cl) (startN vs 0) false steps):=by
      subst hW2
      refine⟨by omega,?_,?_⟩
      ·exact heap_alloc_at _ _ _ (by simp)
      ·rw[startN_len,startN_none]
       refine own_made _ _ _ _ (by omega) ?_ hvl
       show (World.alloc _ _).heap[_]? = _
       rw[Below.heap_alloc _ _ _ (by simp)]
       exact heap_alloc_at _ _ _ rfl
     have HB2:Hid (Below wr.heap.size wr w2):=by
      subst hW2
      exact bel
     have hz2:w2.heap.size=wr.heap.size+2:=by subst hW2;simp
     have HBP:Hid (Below (w.heap.size+1) (w.alloc (.cells #[.slice av vs.length cv,.slice ah hard.length ch,.slice ao soft.length co,.slice ad ds.length cd,.slice ag gs.length cg] 27)) w2):=HB.out.trans (HB2.out.mono hzr)
     clear hW2 b0 b1 b2 b3 b4 HB2
     have hzl2:w.heap.size < w2.heap.size:=by omega
     have hbf2:wr.heap.size+1 < w2.heap.size:=by omega
     generalize hbf:wr.heap.size+1=bf at HF0 hbf2⊢
     generalize hbg:wr.heap.size=ba at HF0⊢
     have b0:=box_cell HBP.out 0
     (try simp at b0)
     clear hmk
     go_wp2_with fail
     clear b0
     go_loopw [47,11,12] (fun i _ _ wy=>∃ k:Nat,i=.int .i64 k∧k≤vs.length∧Hid (Below (w.heap.size+1) (w.alloc (.cells #[.slice av vs.length cv,.slice ah hard.length ch,.slice ao soft.length co,.slice ad ds.length cd,.slice ag gs.length cg] 27)) wy)∧bf < wy.heap.size∧Hid (Fin wy w.heap.size bf (.slice (some ⟨ba,0,none⟩) vs.length vs.length) (probVals ⟨vs,hard,soft,ds,gs⟩ ⟨av,cv,ah,ch,ao,co,ad,cd,ag,cg⟩) (.slice al l.length cl) (startN vs k) false steps)) (fun i _ _ _=>vs.length - (intOf i).toNat)
     case atStart=>exact⟨0,rfl,Nat.zero_le _,HBP,hbf2,HF0⟩
     case round =>
      obtain⟨k,rfl,hk,HBy,hbfy,HFy⟩:=hrel
      have HBw2:=Lib.hid (boxW _ HBy.out)
      have hzy:=HBy.out.size
      simp only[World.size_alloc] at hzy
      have hzly:w.heap.size < wr.heap.size:=by omega
      by_cases hlt:k < vs.length
      ·obtain⟨b,off,ha⟩:=HAV.out.resolve_left (by omega)
       subst ha
       obtain⟨c0,c1,c2,c3,_⟩:=HVs.out.get rfl hlt
       have kk:=keeps_of_below HBw2.out
       have c0:=kk _ _ c0
       have c1:=kk _ _ c1
       have c2:=kk _ _ c2
       have c3:=kk _ _ c3
       have f6:=HFy.out.cell 6
       simp[probVals] at f6
       have hba:=HFy.out.own.lt ba rfl
       have hown:=HFy.out.own
       rw[startN_len] at hown
       have q0:wr.frozen? ⟨ba,k,none⟩=false:=hown.frozenAt k
       obtain⟨z0,e0⟩:∃ z,wr.cell? ⟨ba,k,none⟩=some (.int .i64 z):=⟨_,(hown.cellAt k (by omega)).trans (by rw[List.getElem?_map,List.getElem?_eq_getElem (by rw[startN_len];omega)];rfl)⟩
       have HSt:=Lib.hid (startN_state vs hlt)
       have HSr:=Lib.hid (startN_rand vs hlt)
       generalize (vs[k]'hlt).mode=mode at c2 HSt HSr
       generalize (vs[k]'hlt).value=vv at c3 HSt
       clear kk hown
       by_cases hm:mode=0
       ·have HS:=Lib.hid (HSt.out hm)
        subst hm
        clear HSt HSr
        go_wp2_with fail
        go_region
        go_wp2_with fail
        go_roundw
        case rel =>
         refine⟨k+1,by go_num,by omega,?_,by simp;omega,?_⟩
         ·show Below _ _ _
          refine(HBy.out.setCell (p:=⟨ba,k,none⟩) (by show w.heap.size+1≤ba;omega) (.int .i64 vv)).trans (Below.mono (?_:Below (wr.setCell ⟨ba,k,none⟩ (.int .i64 vv)).heap.size _ _) (by simpa using hzy))
          exact((Below.refl _ _).alloc (Nat.le_refl _) _).drew
         ·show Fin _ _ _ _ _ _ _ _ _
          rw[HS.out]
          exact(HFy.out.setA (startN_len _ _).symm k vv).below (((Below.refl _ _).alloc (Nat.le_refl _) _).drew)
        case measure=>simp[intOf];omega
       ·have HS:=Lib.hid (HSr.out hm)
        have hm':(mode == 0)=false:=by simpa using hm
        clear HSt HSr hm
        go_wp2_with fail
        go_roundw
        case rel =>
         refine⟨k+1,by go_num,by omega,?_,by simp;omega,?_⟩
         ·show Below _ _ _
          exact HBy.out.trans (Below.mono (bel:Below wr.heap.size wr _) hzy)
         ·show Fin _ _ _ _ _ _ _ _ _
          rw[HS.out]
          exact HFy.out.below (by show Below wr.heap.size wr _;exact bel)
        case measure=>simp[intOf];omega
      ·obtain rfl:k=vs.length:=by omega
       go_wp2_with fail
       (try rw[Exit.noGoto_ret])
       go_ret2
       refine⟨Or.inl ⟨HY.out,bf,.slice (some ⟨ba,0,none⟩) vs.length vs.length,rfl,?_⟩,HBw2.out⟩
       have:=HFy.out
       rw[startN_all] at this
       exact this
  ·have HNo:Hid (¬ ComOk ⟨vs,hard,soft,ds,gs⟩ l steps):=(fun h=>hst ⟨h.lo,h.hi⟩)
   clear HCO HCO' HV0 HV1 hp
   by_cases hneg:steps < 0
   ·have hd:decide (steps < 0)=true:=decide_eq_true hneg
    go_enter Tryz.func42, Tryz.ntmps42
    go_wp2_with fail
    refine HV.out.mono ?_
    rintro e w1 ⟨rfl,hb1⟩
    simp only[World.size_alloc] at hb1
    have Hb1:=Lib.hid hb1
    clear hb1
    go_wp2_with fail
    (try rw[Exit.noGoto_ret])
    go_ret2
    exact⟨Or.inr ⟨HNo.out,rfl⟩,boxW _ Hb1.out⟩
   ·have hd0:decide (steps < 0)=false:=decide_eq_false hneg
    have hd:decide (262144 < steps)=true:=by simp;omega
    clear hst
    go_enter Tryz.func42, Tryz.ntmps42
    go_wp2_with fail
    refine HV.out.mono ?_
    rintro e w1 ⟨rfl,hb1⟩
    simp only[World.size_alloc] at hb1
    have Hb1:=Lib.hid hb1
    clear hb1
    go_wp2_with fail
    (try rw[Exit.noGoto_ret])
    go_ret2
    exact⟨Or.inr ⟨HNo.out,rfl⟩,boxW _ Hb1.out⟩
 ·have HNo:Hid (¬ ComOk p l steps):=(fun h=>hp h.prob)
  have HV1:=Lib.hid (fun W hW=>errF (HV0.out W hW) hp)
  simp only[probVal_eq] at HV1 HNo⊢
  obtain⟨vs,hard,soft,ds,gs⟩:=p
  obtain⟨av,cv,ah,ch,ao,co,ad,cd,ag,cg⟩:=x
  simp only at HV1 HNo⊢
  have HV:=Lib.hid (HV1.out (w.alloc (.cells #[.slice av vs.length cv,.slice ah hard.length ch,.slice ao soft.length co,.slice ad ds.length cd,.slice ag gs.length cg] 27)) ((Below.refl _ _).alloc (Nat.le_refl _) _))
  clear HCO HV0 HV1 hp
  go_enter Tryz.func42, Tryz.ntmps42
  go_wp2_with fail
  refine HV.out.mono ?_
  rintro e w1 ⟨⟨n,rfl,hn⟩,hb1⟩
  simp only[World.size_alloc] at hb1
  have Hb1:=Lib.hid hb1
  clear hb1
  go_wp2_with fail
  (try rw[Exit.noGoto_ret])
  go_ret2
  exact⟨Or.inr ⟨HNo.out,rfl⟩,boxW _ Hb1.out⟩
end Go.Proofs.YtcplmcjbkpmhdaaGreatDoor
namespace Go.Proofs.YtcplmcjbkpmhdaaGreatDoor
open Go.RowKit
def HitCase (B bf:Nat) (v:Value) (p:ProbD) (x:ProbA) (lv:Value) (T:Nat) (r:Option Nat × Nat × Nat) (e:Ending) (w':World):Prop :=
 (∃ j a cap,r.1=some j∧e=.returned (.tuple #[.slice a p.vars.length cap,.bool true])∧IntsIn w' (nthN p.vars j) a cap∧w'.cell? ⟨bf,7,none⟩=some (.bool (decide (T≤r.2.1)))) ∨
 (r.1=none∧e=.returned (.tuple #[.slice none 0 0,.bool false])∧w'.cell? ⟨bf,7,none⟩=some (.bool (decide (T≤r.2.1))))
theorem hit_case (B bf:Nat) (v:Value) (p:ProbD) (x:ProbA) (l:List Ex) (al:Option Addr) (cl k s:Nat) (w0 w:World) (hBw:B=w0.heap.size) (hG:Glob w0) (hE:ProbIn w0 p x) (hV:VarsOk p.vars) (hL:ExsIn w0 l al cl) (hsl:ExsSmall l) (hold:Below B w0 w)
  (hF:Fin w B bf v (probVals p x) (.slice al l.length cl) (nthN p.vars k) (decide (totN p.vars≤k)) s) (hk:k≤totN p.vars) (hs:s≤262144) :
  Calls Tryz.prog 43 #[.pointer (some ⟨bf,0,none⟩)] w fun e w'=>HitCase B bf v p x (.slice al l.length cl) (totN p.vars) (scanN (hitN p.vars l) (totN p.vars) s k) e w'∧Below B w0 w':=by
 refine(hit_any B bf v p x l al cl k s w0 w hBw hG hE hV hL hsl hold hF hk hs).mono fun e w' ⟨h1,h2,h3⟩=>?_
 have f7:=h2.cell 7
 simp[probVals] at f7
 refine⟨?_,hold.trans (h3.below hF.hB (hBw ▸ hold.size) (fun k hk=>(hF.own.lt k hk).1))⟩
 rcases h1 with ⟨j,u,h4,h5,h6⟩ | ⟨h4,h5⟩
 ·have h6':=h6
  rw[← nthN_len p.vars j] at h6'
  obtain⟨a,cap,hv,hI⟩:=ints_of_own h6' (by rw[nthN_len];exact hE.vars.2.1)
  subst hv
  exact Or.inl ⟨j,a,cap,h4,by rw[h5,nthN_len],hI,f7⟩
 ·exact Or.inr ⟨h4,h5,f7⟩
set_option maxRecDepth 100000 in
set_option maxHeartbeats 4000000 in
theorem First_any (p:ProbD) (x:ProbA) (l:List Ex) (al:Option Addr) (cl:Nat) (steps:Int) (w:World) (hE:ProbIn w p x) (hs:ProbSmall p) (hL:ExsIn w l al cl) (hsl:ExsSmall l) (hG:Glob w) :
  Calls Tryz.prog 13 #[probVal p x,.slice al l.length cl,.int .i64 steps] w fun e w'=>FirstRet p l steps True 0 11 e w'∧Below w.heap.size w w':=by
 have HB0:=Lib.hid (fun W (hW:Below w.heap.size w W)=>begin_any p x l al cl steps W (hE.keep (keeps_of_below hW)) hs (hL.keep (keeps_of_below hW)) hsl (hG.below hW))
 have HH0:=Lib.hid (fun W0 (hW:Below w.heap.size w W0) (hc:ComOk p l steps) bf v W (hb:Below W0.heap.size W0 W) (hF:Fin W W0.heap.size bf v (probVals p x) (.slice al l.length cl) (nthN p.vars 0) false steps)=>hit_case W0.heap.size bf v p x l al cl 0 steps.toNat W0 W rfl (hG.below hW) (hE.keep (keeps_of_below hW)) hc.prob.vars (hL.keep (keeps_of_below hW)) hsl hb (by
  have h0:decide (totN p.vars≤0)=false:=by have:=totN_pos p.vars;simp;omega
  rw[h0,Int.toNat_of_nonneg hc.lo];exact hF) (Nat.zero_le _) (by have:=hc.hi;have:=hc.lo;omega))
 clear hE hs hL hsl hG
 simp only[probVal_eq] at HB0⊢
 obtain⟨vs,hard,soft,ds,gs⟩:=p
 obtain⟨av,cv,ah,ch,ao,co,ad,cd,ag,cg⟩:=x
 simp only at HB0 HH0⊢
 have hPB:Below w.heap.size w (w.alloc (.cells #[.slice av vs.length cv,.slice ah hard.length ch,.slice ao soft.length co,.slice ad ds.length cd,.slice ag gs.length cg] 27)):=(Below.refl _ _).alloc (Nat.le_refl _) _
 have HB:=Lib.hid (HB0.out (w.alloc (.cells #[.slice av vs.length cv,.slice ah hard.length ch,.slice ao soft.length co,.slice ad ds.length cd,.slice ag gs.length cg] 27)) hPB)
 have HH:=Lib.hid (HH0.out (w.alloc (.cells #[.slice av vs.length cv,.slice ah hard.length ch,.slice ao soft.length co,.slice ad ds.length cd,.slice ag gs.length cg] 27)) hPB)
 clear HB0 HH0
 go_enter Tryz.func13, Tryz.ntmps13
 go_wp2_with fail
 refine HB.out.mono ?_
 rintro e w1 ⟨hr,hb1⟩
 have Hb1:=Lib.hid hb1
 have HBw:Hid (Below w.heap.size w w1):=hPB.trans (hb1.mono hPB.size)
 clear hb1
 rcases hr with ⟨hok,bf,v,rfl,hF⟩ | ⟨hno,rfl⟩
 ·have HHc:=Lib.hid (HH.out hok bf v w1 Hb1.out hF)
  have HOk:=Lib.hid hok
  clear hok hF HH
  go_wp2_with fail
  refine HHc.out.mono ?_
  rintro e w2 ⟨hr,hb2⟩
  have HB2:Hid (Below w.heap.size w w2):=hPB.trans (hb2.mono hPB.size)
  clear hb2
  rcases hr with ⟨j,a,cap,h1,rfl,hI,f7⟩ | ⟨h1,rfl,f7⟩
  ·have HS:=Lib.hid (⟨h1,hI⟩:_∧_)
   clear h1 hI
   go_wp2_with fail
   (try rw[Exit.noGoto_ret])
   go_ret2
   exact⟨Or.inl ⟨⟨HOk.out,trivial⟩,Or.inl ⟨j,a,cap,HS.out.1,rfl,HS.out.2⟩⟩,HB2.out⟩
  ·have HS:=Lib.hid h1
   clear h1
   by_cases hov:totN vs≤(scanN (hitN vs l) (totN vs) steps.toNat 0).2.1
   ·rw[decide_eq_true hov] at f7
    have HO:=Lib.hid hov
    clear hov
    go_wp2_with fail
    (try rw[Exit.noGoto_ret])
    go_ret2
    exact⟨Or.inl ⟨⟨HOk.out,trivial⟩,Or.inr (Or.inl ⟨HS.out,HO.out,rfl⟩)⟩,HB2.out⟩
   ·rw[decide_eq_false hov] at f7
    have HO:=Lib.hid hov
    clear hov
    go_wp2_with fail
    (try rw[Exit.noGoto_ret])
    go_ret2
    exact⟨Or.inl ⟨⟨HOk.out,trivial⟩,Or.inr (Or.inr ⟨HS.out,Nat.lt_of_not_le HO.out,rfl⟩)⟩,HB2.out⟩
 ·have HNo:=Lib.hid hno
  clear hno HH
  go_wp2_with fail
  (try rw[Exit.noGoto_ret])
  go_ret2
  exact⟨Or.inr ⟨fun h=>HNo.out h.1,rfl⟩,HBw.out⟩
end Go.Proofs.YtcplmcjbkpmhdaaGreatDoor
