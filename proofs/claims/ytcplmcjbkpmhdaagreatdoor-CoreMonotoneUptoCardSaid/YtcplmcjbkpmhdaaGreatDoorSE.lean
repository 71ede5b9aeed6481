/- ref22: Satisfies, First, Next, possible; ref14: SameInts. -/
import Derived.Test.YtcplmcjbkpmhdaaGreatDoorSD
import Derived.BigQuiet
import Derived.Deep.LoopGhost
import Derived.Test.YtcplmcjbkpmhdaaGreatDoorKT
import Derived.Test.YtcplmcjbkpmhdaaGreatDoorKO
set_option linter.unusedSimpArgs false
set_option linter.unusedVariables false
set_option linter.unnecessarySimpa false
namespace Go.Proofs.YtcplmcjbkpmhdaaGreatDoor
open Go.RowKit
attribute [local go_sem ↓] Go.wp_at_zero Go.wp_at_succ
set_option maxRecDepth 100000 in
set_option maxHeartbeats 4000000 in
theorem Satisfies_any (p:ProbD) (x:ProbA) (l:List Ex) (al:Option Addr) (cl:Nat) (A:List Int) (aa:Option Addr) (ca:Nat) (w:World) (hE:ProbIn w p x) (hL:ExsIn w l al cl) (hsl:ExsSmall l) (hI:IntsIn w A aa ca) :
  Calls Tryz.prog 77 #[probVal p x,.slice aa A.length ca,.slice al l.length cl] w fun e w'=>e=.returned (.bool (allS p.vars l A))∧Below w.heap.size w w':=by
 have hlen:=hL.2.1
 have hlv:(envS p.vars A).length≤1073741824:=by
  by_cases h:A.length=p.vars.length
  ·rw[envS_len h];exact hE.vars.2.1
  ·unfold envS;rw[if_neg h];simp
 have HEv:=Lib.hid (r14Env_any p x A aa ca _ (hE.keep (keeps_of_below ((Below.refl _ _).alloc (Nat.le_refl _) (.cells (probVals p x) 27)))) (hI.keep (keeps_of_below ((Below.refl _ _).alloc (Nat.le_refl _) (.cells (probVals p x) 27)))))
 have HL:=Lib.hid hL
 have HA:=Lib.hid hL.addr
 have HSl:=Lib.hid hsl
 clear hE hL hsl hI
 simp only[probVal_eq,probVals] at HEv⊢
 obtain⟨vs,hard,soft,ds,gs⟩:=p
 obtain⟨av,cv,ah,ch,ao,co,ad,cd,ag,cg⟩:=x
 simp only at HEv hlv⊢
 go_enter Tryz.func77, Tryz.ntmps77
 go_wp2_with fail
 refine HEv.out.mono ?_
 rintro e w1 ⟨v,rfl,hown,hb1⟩
 obtain⟨ae,ce,rfl,hSg⟩:=sigs_of_own hown hlv
 have HSg:=Lib.hid hSg
 have Hb1:Hid (Below w.heap.size w w1):=((Below.refl _ _).alloc (Nat.le_refl _) _).trans (hb1.mono (by simp))
 clear hown hb1 hSg
 go_wp2_with fail
 go_loopw [8] (fun i wr=>∃ k:Nat,i=.int .i64 k∧k≤l.length∧(∀ j (hj:j < l.length),j < k→((evalS (envS vs A) (l[j]'hj)).1 != 0)=true)∧Below w1.heap.size w1 wr) (fun i _=>l.length - (intOf i).toNat)
 case atStart=>exact⟨0,rfl,Nat.zero_le _,fun _ _ h=>absurd h (by omega),Below.refl _ _⟩
 case round =>
  obtain⟨k,rfl,hk,hall,hB⟩:=hrel
  have HAl:=Lib.hid hall
  have HB:=Lib.hid hB
  have HBw:Hid (Below w.heap.size w wr):=Hb1.out.trans (hB.mono Hb1.out.size)
  clear hall hB
  by_cases hlt:k < l.length
  ·obtain⟨b,off,ha⟩:=HA.out.resolve_left (by omega)
   subst ha
   obtain⟨a',cap',g0,g1,g2,g3,hX⟩:=HL.out.get rfl hlt
   have hn:=HSl.out _ (List.getElem_mem hlt)
   have HNx:Hid (((evalS (envS vs A) (l[k]'hlt)).1 != 0)=true→∀ j (hj:j < l.length),j < k+1→((evalS (envS vs A) (l[j]'hj)).1 != 0)=true):=fun hv j hj hjk=>by
    by_cases e:j=k
    ·subst e;exact hv
    ·exact HAl.out j hj (by omega)
   have HNo:Hid (((evalS (envS vs A) (l[k]'hlt)).1 != 0)=false→allS vs l A=false):=fun h=>by
    unfold allS
    rw[List.all_eq_false]
    exact⟨_,List.getElem_mem hlt,by rw[h];simp⟩
   generalize (l[k]'hlt)=e at g0 g1 g2 g3 hX hn HNx HNo
   obtain⟨op,n,s,args⟩:=e
   simp only[Ex.op_mk,Ex.n_mk,Ex.name_mk,Ex.args_mk] at g0 g1 g2 g3
   have kk:=keeps_of_below HBw.out
   have c0:=kk _ _ g0
   have c1:=kk _ _ g1
   have c2:=kk _ _ g2
   have c3:=kk _ _ g3
   have HC:=Lib.hid ((rValue_any (envS vs A) ae ce op n s args a' cap' wr (HSg.out.keep (keeps_of_below HB.out)) (hX.keep kk) hn).mono fun e w' h=>(⟨h.1,HB.out.trans (h.2.mono HB.out.size)⟩:_∧Below w1.heap.size w1 w'))
   generalize (evalS (envS vs A) (Ex.mk op n s args)).1=z at HC HNx HNo
   clear g0 g1 g2 g3 hX hn kk
   by_cases hz:z=0
   ·have HNo':=Lib.hid (HNo.out (by rw[hz];rfl))
    subst hz
    go_wp2_with fail
    refine HC.out.mono ?_
    rintro e w2 ⟨rfl,hb2⟩
    have HB2:=Lib.hid hb2
    clear hb2 c0 c1 c2 c3
    go_wp2_with fail
    go_ret
    exact⟨by rw[HNo'.out];rfl,Hb1.out.trans (HB2.out.mono Hb1.out.size)⟩
   ·have hz':(z == 0)=false:=by simpa using hz
    have HNx':=Lib.hid (HNx.out (by simpa using hz))
    clear hz
    go_wp2_with fail
    refine HC.out.mono ?_
    rintro e w2 ⟨rfl,hb2⟩
    have HB2:=Lib.hid hb2
    clear hb2 c0 c1 c2 c3
    go_wp2_with fail
    go_roundw
    case rel=>exact⟨k+1,by go_num,by omega,HNx'.out,HB2.out⟩
    case measure=>simp[intOf];omega
  ·obtain rfl:k=l.length:=by omega
   have HY:Hid (allS vs l A=true):=by
    show _=_
    unfold allS
    rw[List.all_eq_true]
    intro e he
    obtain⟨j,hj,rfl⟩:=List.getElem_of_mem he
    exact HAl.out j hj hj
   go_wp2_with fail
   go_ret
   exact⟨by rw[HY.out];rfl,HBw.out⟩
theorem row_lt {w:World} {g cap n:Nat} {e:TypeId} {size:Nat} {xs:List Value} (h:w.ownsRow g e size (.slice (some ⟨g,0,none⟩) n cap) n xs):g < w.heap.size:=(h.lt g rfl).2
set_option maxRecDepth 100000 in
set_option maxHeartbeats 8000000 in
theorem r22Next_any (p:ProbD) (x:ProbA) (A:List Int) (g cap:Nat) (w0 w:World) (hE:ProbIn w0 p x) (hV:VarsOk p.vars) (hA:Asg p.vars A) (hg:w0.heap.size≤g) (hown:w.ownsRow g 3 1 (.slice (some ⟨g,0,none⟩) A.length cap) A.length (A.map (Value.int .i64))) (hold:Below w0.heap.size w0 w) :
  Calls Tryz.prog 76 #[probVal p x,.slice (some ⟨g,0,none⟩) A.length cap] w fun e w'=>e=.returned (.bool (!(advN p.vars A).2))∧w'.ownsRow g 3 1 (.slice (some ⟨g,0,none⟩) A.length cap) A.length ((advN p.vars A).1.map (Value.int .i64))∧Below w0.heap.size w0 w':=by
 have hlA:=hA.len
 have hlen:=hE.vars.2.1
 have hgl:=row_lt hown
 have HA:=Lib.hid hE.vars.addr
 have HE:=Lib.hid hE.vars
 have HV:=Lib.hid hV
 have HAs:=Lib.hid hA
 have HOld:=Lib.hid hold
 have HO:=Lib.hid hown
 have HLA:=Lib.hid hlA
 have hz0:=hold.size
 clear hE hV hA hold hown
 simp only[probVal_eq]
 obtain⟨vs,hard,soft,ds,gs⟩:=p
 obtain⟨av,cv,ah,ch,ao,co,ad,cd,ag,cg⟩:=x
 simp only at HA HE HV HAs hlen HLA⊢
 have hA30:A.length≤1073741824:=by have:=HLA.out;omega
 have hlw:IntKind.i64.wrap ((A.length:Int) - 1)=(A.length:Int) - 1:=by rw[IntKind.wrap_i64];omega
 clear hlA
 go_enter Tryz.func76, Tryz.ntmps76
 go_wp2_with fail
 go_loopw [5] (fun i wr=>∃ c:Nat,i=.int .i64 ((c:Int) - 1)∧c≤A.length∧Hid ((advN (vs.drop c) (A.drop c)).2=true)∧wr.ownsRow g 3 1 (.slice (some ⟨g,0,none⟩) A.length cap) A.length ((advTo vs A c).map (Value.int .i64))∧Hid (wr.heap[w.heap.size]? = some (.cells #[.slice av vs.length cv,.slice ah hard.length ch,.slice ao soft.length co,.slice ad ds.length cd,.slice ag gs.length cg] 27 (0,0)))∧Below w0.heap.size w0 wr) (fun i _=>(intOf i+1).toNat)
 case atStart=>exact⟨A.length,by go_num,Nat.le_refl _,by show _=_;rw[List.drop_of_length_le (by have:=HLA.out;omega)];rfl,by have h:=advTo_all HLA.out;rw[← HLA.out] at h;rw[h];exact HO.out.alloc _,heap_alloc_new' _ _,HOld.out.alloc (by omega) _⟩
 case round =>
  obtain⟨c,hi,hc,HC,hown,HK,hB⟩:=hrel
  have hgr:=row_lt hown
  have HOr:=Lib.hid hown
  have HB:=Lib.hid hB
  have hKl:=lt_of_block HK.out
  have b0:wr.cell? ⟨w.heap.size,0,none⟩=some (.slice av vs.length cv):=by simp[World.cell?,HK.out]
  have hgw:g≠w.heap.size:=by omega
  have hwg:w.heap.size≠g:=by omega
  cases c with
  | succ d =>
   obtain rfl:=hi.trans (show Value.int .i64 (((d+1:Nat):Int) - 1)=.int .i64 (d:Int) by congr 1;omega)
   clear hi
   have hdA:d < A.length:=by omega
   have hdv:d < vs.length:=by have:=HLA.out;omega
   obtain⟨b,off,ha⟩:=HA.out.resolve_left (by omega)
   subst ha
   obtain⟨_,c1,c2,_,_⟩:=HE.out.get rfl hdv
   have hbB:=World.block_lt_of_cell? _ _ c1
   simp only at hbB
   have c1:=keeps_of_below hB _ _ c1
   have c2:=keeps_of_below hB _ _ c2
   have hlT:=advTo_len HLA.out (d+1) (by omega)
   have hspl:advTo vs A (d+1)=A.take d++A[d]'hdA::(advN (vs.drop (d+1)) (A.drop (d+1))).1:=keep_split hdA
   have e0:wr.cell? ⟨g,d,none⟩=some (.int .i64 (A[d]'hdA)):=by
    rw[hown.cellAt d (by omega),hspl,List.getElem?_map,List.getElem?_append_right (by simp;omega)]
    simp[show d - min d A.length=0 from by omega]
   have q0:=hown.frozenAt d
   have HSto:=Lib.hid (fun (u:Int)=>(hown.stored d (.int .i64 u)).1)
   have hgb:g≠b:=by omega
   have hbg:b≠g:=by omega
   have HP:=Lib.hid (adv_parts HLA.out hdv)
   rw[HC.out,if_pos rfl] at HP
   have hw:=width_of_ok (HV.out.ok d hdv)
   obtain⟨hm1,hx0,hx1⟩:=HAs.out.at' d hdv
   obtain⟨pw,hpw,hwp,p1,p2⟩:=pow_pack (vs[d]'hdv).width hw.2
   rw[hpw] at hx1 HP
   have HSt:=Lib.hid (fun (u:Int)=>@set_split A (advN (vs.drop (d+1)) (A.drop (d+1))).1 d hdA u)
   have HStop:=Lib.hid (adv_stop HLA.out d (by omega))
   have HTo:Hid (advTo vs A d=A.take d++(advN (vs.drop d) (A.drop d)).1):=rfl
   have HTo1:Hid (advTo vs A (d+1)=A.take (d+1)++(advN (vs.drop (d+1)) (A.drop (d+1))).1):=rfl
   have Hspl:=Lib.hid hspl
   have hw0:0≤(vs[d]'hdv).width:=by omega
   have hw8:=hw.2
   have HSet:Hid (∀ u:Int,(wr.setCell ⟨g,d,none⟩ (.int .i64 u)).ownsRow g 3 1 (.slice (some ⟨g,0,none⟩) A.length cap) A.length (((advTo vs A (d+1)).set d u).map (Value.int .i64))):=fun u=>by
    rw[List.map_set];exact HSto.out u
   have HKs:Hid (∀ u:Value,(wr.setCell ⟨g,d,none⟩ u).heap[w.heap.size]? = some (.cells #[.slice (some ⟨b,off,none⟩) vs.length cv,.slice ah hard.length ch,.slice ao soft.length co,.slice ad ds.length cd,.slice ag gs.length cg] 27 (0,0))):=fun u=>(Below.heap_setCell wr ⟨g,d,none⟩ u w.heap.size hwg).trans HK.out
   have HBs:Hid (∀ u:Value,Below w0.heap.size w0 (wr.setCell ⟨g,d,none⟩ u)):=fun u=>HB.out.setCell hg u
   generalize (vs[d]'hdv).width=width at *
   generalize (vs[d]'hdv).mode=mode at *
   generalize A[d]'hdA=z at *
   clear hlT hB hown hspl hpw hm1 hw HSto
   by_cases hm:mode=0
   ·have HC':Hid ((advN (vs.drop d) (A.drop d)).2=true∧advTo vs A d=advTo vs A (d+1)):=by
     rw[if_pos hm] at HP
     exact⟨by rw[HP.out],by rw[HTo.out,HP.out,Hspl.out]⟩
    subst hm
    clear HC
    go_wp2_with fail
    go_roundw
    case rel=>exact⟨d,by go_num,by omega,HC'.out.1,by rw[HC'.out.2];exact HOr.out,HK.out,HB.out⟩
    case measure=>simp[intOf]<;>omega
   ·rw[if_neg hm] at HP
    have hm':=op_ne hm
    clear hm
    by_cases hlt:z+1 < pw
    ·have hd:decide (z+1 < pw)=true:=decide_eq_true hlt
     rw[if_pos hlt] at HP
     have HY:Hid ((advN vs A).2=false∧(advTo vs A (d+1)).set d (z+1)=(advN vs A).1):=by
      have h1:=HStop.out (by rw[HP.out])
      refine⟨by rw[h1],?_⟩
      rw[h1,HP.out,HTo1.out,HSt.out]
     clear hlt
     go_wp2_with fail
     go_quiet (fail)
     go_wp2_with fail
     go_ret
     refine⟨by rw[HY.out.1];rfl,?_,below_drewN (HBs.out _) _⟩
     rw[← HY.out.2]
     exact ownsRow_below (HSet.out (z+1)) (below_drewN (Below.refl _ _) _)
    ·have hd:decide (z+1 < pw)=false:=decide_eq_false hlt
     rw[if_neg hlt] at HP
     have HC':Hid ((advN (vs.drop d) (A.drop d)).2=true∧advTo vs A d=(advTo vs A (d+1)).set d 0):=by
      refine⟨by rw[HP.out],?_⟩
      rw[HTo.out,HP.out,HTo1.out,HSt.out]
     clear hlt HC
     go_wp2_with fail
     go_quiet (fail)
     go_wp2_with fail
     go_roundw
     case rel=>exact⟨d,by go_num,by omega,HC'.out.1,by
      have h1:=ownsRow_below (HSet.out (z+1)) (below_drewN (Below.refl _ _) nq)
      have h2:=(h1.stored d (.int .i64 0)).1
      rw[← List.map_set,List.set_set,← HC'.out.2] at h2
      exact h2,(Below.heap_setCell _ ⟨g,d,none⟩ _ w.heap.size hwg).trans (((below_drewN (Below.refl _ _) nq:Below (wr.setCell ⟨g,d,none⟩ (.int .i64 (z+1))).heap.size (wr.setCell ⟨g,d,none⟩ (.int .i64 (z+1))) _).block w.heap.size (by simp only[World.size_setCell];omega)).trans (HKs.out _)),(below_drewN (HBs.out _) _).setCell hg _⟩
     case measure=>simp[intOf]<;>omega
  | zero =>
   subst hi
   have HAdv:Hid ((advN vs A).2=true∧advTo vs A 0=(advN vs A).1):=⟨by have:=HC.out;simpa using this,by unfold advTo;simp⟩
   clear hB hown
   go_wp2_with fail
   go_ret
   refine⟨by rw[HAdv.out.1];rfl,?_,HB.out⟩
   rw[← HAdv.out.2]
   exact HOr.out
theorem fill_set {α:Type} {V cur:List α} {k:Nat} (h:k < V.length) (hc:cur.length=V.length):(V.take k++cur.drop k).set k (V[k]'h)=V.take (k+1)++cur.drop (k+1):=by
 rw[List.set_append_right _ _ (by simp;omega),List.drop_eq_getElem_cons (show k < cur.length by omega),List.length_take,show k - min k V.length=0 from by omega,List.set_cons_zero,List.take_succ_eq_append_getElem h,List.append_assoc]
 rfl
theorem vals_nth {vs:List VarD} (h:VarsOk vs):vs.map (fun v=>v.value)=nthN vs 0:=by
 apply List.ext_getElem
 ·simp[nthN_len]
 ·intro i h1 h2
  have hi:i < vs.length:=by simpa using h1
  rw[List.getElem_map,nthN_get vs 0 i hi,Nat.zero_div]
  have hok:=h.ok i hi
  unfold varOkB varNumsB at hok
  simp only[Bool.and_eq_true,Bool.or_eq_true,decide_eq_true_eq,beq_iff_eq] at hok
  unfold digN
  by_cases hm:(vs[i]'hi).mode=0
  ·rw[if_pos hm]
  ·rw[if_neg hm,Nat.zero_mod]
   rcases hok.2.2 with h3 | h3
   ·exact absurd h3 hm
   ·rw[h3];rfl
set_option maxRecDepth 100000 in
set_option maxHeartbeats 8000000 in
theorem r22First_any (p:ProbD) (x:ProbA) (w:World) (hE:ProbIn w p x) (hV:VarsOk p.vars) :
  Calls Tryz.prog 75 #[probVal p x] w fun e w'=>∃ g,w.heap.size≤g∧e=.returned (.slice (some ⟨g,0,none⟩) p.vars.length p.vars.length)∧w'.ownsRow g 3 1 (.slice (some ⟨g,0,none⟩) p.vars.length p.vars.length) p.vars.length ((nthN p.vars 0).map (Value.int .i64))∧Below w.heap.size w w':=by
 have hlen:=hE.vars.2.1
 have HAV:=Lib.hid hE.vars.addr
 have HVs:=Lib.hid hE.vars
 have HN:=Lib.hid (vals_nth hV)
 clear hE hV
 simp only[probVal_eq]
 obtain⟨vs,hard,soft,ds,gs⟩:=p
 obtain⟨av,cv,ah,ch,ao,co,ad,cd,ag,cg⟩:=x
 simp only at HAV HVs HN hlen⊢
 go_enter Tryz.func75, Tryz.ntmps75
 go_wp2_with (at_make;go_must (refine make_blk elemI rfl (.tmp 7) (.tmp 7) rfl vs.length _ rfl rfl (by simp) (by omega) ?_))
 intro cur hcur
 have hcur:cur.length=vs.length:=by simpa using hcur
 try simp only[World.size_alloc] at *
 have HoA:Hid (((w.alloc (.cells #[.slice av vs.length cv,.slice ah hard.length ch,.slice ao soft.length co,.slice ad ds.length cd,.slice ag gs.length cg] 27)).alloc (.cells cur.toArray 3)).ownsRow (w.heap.size+1) 3 1 (.slice (some ⟨w.heap.size+1,0,none⟩) vs.length vs.length) vs.length cur):=⟨by omega,Or.inr ⟨w.heap.size+1,vs.length,_,rfl,Nat.le_refl _,(by have h:=heap_alloc_new' (w.alloc (.cells #[.slice av vs.length cv,.slice ah hard.length ch,.slice ao soft.length co,.slice ad ds.length cd,.slice ag gs.length cg] 27)) (.cells cur.toArray 3);simp only[World.size_alloc] at h;exact h),Nat.le_refl _,by unfold maxLen;omega,by simp[hcur],by simp only[];exact List.take_of_length_le (by omega)⟩⟩
 have HBA:Hid (Below (w.heap.size+1) (w.alloc (.cells #[.slice av vs.length cv,.slice ah hard.length ch,.slice ao soft.length co,.slice ad ds.length cd,.slice ag gs.length cg] 27)) ((w.alloc (.cells #[.slice av vs.length cv,.slice ah hard.length ch,.slice ao soft.length co,.slice ad ds.length cd,.slice ag gs.length cg] 27)).alloc (.cells cur.toArray 3))):=(Below.refl _ _).alloc (by simp) _
 generalize (w.alloc (.cells #[.slice av vs.length cv,.slice ah hard.length ch,.slice ao soft.length co,.slice ad ds.length cd,.slice ag gs.length cg] 27)).alloc (.cells cur.toArray 3)=wA at HoA HBA⊢
 go_wp2_with fail
 go_loopw [4] (fun i wr=>∃ k:Nat,i=.int .i64 k∧k≤vs.length∧wr.ownsRow (w.heap.size+1) 3 1 (.slice (some ⟨w.heap.size+1,0,none⟩) vs.length vs.length) vs.length (((vs.map fun v=>v.value).map (Value.int .i64)).take k++cur.drop k)∧Below (w.heap.size+1) (w.alloc (.cells #[.slice av vs.length cv,.slice ah hard.length ch,.slice ao soft.length co,.slice ad ds.length cd,.slice ag gs.length cg] 27)) wr) (fun i _=>vs.length - (intOf i).toNat)
 case atStart=>exact⟨0,rfl,Nat.zero_le _,by simpa using HoA.out,HBA.out⟩
 case round =>
  obtain⟨k,rfl,hk,hown,hB⟩:=hrel
  have HB:=Lib.hid hB
  have HBw:=Lib.hid (boxW _ hB)
  have HO:=Lib.hid hown
  ((try clear b0 b1 b2 b3 b4);have b0:=box_cell HB.out 0;have b1:=box_cell HB.out 1;have b2:=box_cell HB.out 2;have b3:=box_cell HB.out 3;have b4:=box_cell HB.out 4;(try simp at b0 b1 b2 b3 b4))
  by_cases hlt:k < vs.length
  ·obtain⟨b,off,ha⟩:=HAV.out.resolve_left (by omega)
   subst ha
   obtain⟨_,_,_,c3,_⟩:=HVs.out.get rfl hlt
   have c3:=keeps_of_below HBw.out _ _ c3
   have hvl:k < ((vs.map fun v=>v.value).map (Value.int .i64)).length:=by simpa using hlt
   have HF:=Lib.hid (fill_set (cur:=cur) hvl (by simp;omega))
   have hge:((vs.map fun v=>v.value).map (Value.int .i64))[k]'hvl=.int .i64 (vs[k]'hlt).value:=by simp
   rw[hge] at HF
   have hxl:(((vs.map fun v=>v.value).map (Value.int .i64)).take k++cur.drop k).length=vs.length:=by simp;omega
   have hcz:=hown.cellAt k (by omega)
   rw[List.getElem?_eq_getElem (by omega)] at hcz
   have hfz:=hown.frozenAt k
   have HSt:=Lib.hid (hown.stored k (.int .i64 (vs[k]'hlt).value)).1
   rw[HF.out] at HSt
   generalize (vs[k]'hlt).value=u at c3 HSt
   generalize (((vs.map fun v=>v.value).map (Value.int .i64)).take k++cur.drop k)[k]'(by omega)=old at hcz
   clear hown hB hge HF hxl
   go_wp2_with fail
   go_roundw
   case rel=>exact⟨k+1,by go_num,by omega,HSt.out,HB.out.setCell (p:=⟨w.heap.size+1,k,none⟩) (Nat.le_refl _) _⟩
   case measure=>(simp[intOf];try omega)
  ·obtain rfl:k=vs.length:=by omega
   rw[List.take_of_length_le (by simp),List.drop_of_length_le (by omega),List.append_nil,HN.out] at hown
   have HO2:=Lib.hid hown
   clear hown hB
   go_wp2_with fail
   go_ret
   exact⟨w.heap.size+1,Nat.le_succ _,rfl,HO2.out,HBw.out⟩
end Go.Proofs.YtcplmcjbkpmhdaaGreatDoor
namespace Go.Proofs.YtcplmcjbkpmhdaaGreatDoor
open Go.RowKit
attribute [local go_sem ↓] Go.wp_at_zero Go.wp_at_succ
theorem ints_row {w:World} {g cap:Nat} {A:List Int} (h:w.ownsRow g 3 1 (.slice (some ⟨g,0,none⟩) A.length cap) A.length (A.map (Value.int .i64))) (hn:A.length≤1073741824):IntsIn w A (some ⟨g,0,none⟩) cap:=by
 obtain⟨a,c,hv,hI⟩:=ints_of_own h hn
 injection hv with e1 e2 e3
 subst e1 e3
 exact hI
set_option maxRecDepth 100000 in
set_option maxHeartbeats 8000000 in
theorem possible_any (p:ProbD) (x:ProbA) (l:List Ex) (al:Option Addr) (cl:Nat) (w:World) (hE:ProbIn w p x) (hV:VarsOk p.vars) (hL:ExsIn w l al cl) (hsl:ExsSmall l) :
  Calls Tryz.prog 56 #[probVal p x,.slice al l.length cl] w fun e w'=>e=.returned (.bool (solvB p.vars l))∧Below w.heap.size w w':=by
 have hlen:=hE.vars.2.1
 have HF0:=Lib.hid (fun W (hW:Below w.heap.size w W)=>r22First_any p x W (hE.keep (keeps_of_below hW)) hV)
 have HS0:=Lib.hid (fun A aa ca W (hW:Below w.heap.size w W) (hI:IntsIn W A aa ca)=>Satisfies_any p x l al cl A aa ca W (hE.keep (keeps_of_below hW)) (hL.keep (keeps_of_below hW)) hsl hI)
 have HN0:=Lib.hid (fun k g cap W0 W (h0:Below w.heap.size w W0) (hg:W0.heap.size≤g) (hown:W.ownsRow g 3 1 (.slice (some ⟨g,0,none⟩) (nthN p.vars k).length cap) (nthN p.vars k).length ((nthN p.vars k).map (Value.int .i64))) (hW:Below W0.heap.size W0 W)=>r22Next_any p x (nthN p.vars k) g cap W0 W (hE.keep (keeps_of_below h0)) hV (asg_nth hV.ok k) hg hown hW)
 have HT:=totN_pos p.vars
 have HY:Hid (∀ k,k < totN p.vars→allS p.vars l (nthN p.vars k)=true→solvB p.vars l=true):=fun k h1 h2=>pB_true ⟨k,h1,h2⟩
 have HNo:Hid ((∀ k,k < totN p.vars→allS p.vars l (nthN p.vars k)=false)→solvB p.vars l=false):=fun h=>pB_false (fun ⟨k,h1,h2⟩=>by
  have h3:=h k h1
  unfold hitN at h2
  rw[h3] at h2;simp at h2)
 generalize solvB p.vars l=R at HY HNo⊢
 clear hE hV hL hsl
 simp only[probVal_eq] at HF0 HS0 HN0⊢
 obtain⟨vs,hard,soft,ds,gs⟩:=p
 obtain⟨av,cv,ah,ch,ao,co,ad,cd,ag,cg⟩:=x
 simp only at HF0 HS0 HN0 HT HY HNo hlen⊢
 have HF:=Lib.hid (HF0.out (w.alloc (.cells #[.slice av vs.length cv,.slice ah hard.length ch,.slice ao soft.length co,.slice ad ds.length cd,.slice ag gs.length cg] 27)) ((Below.refl _ _).alloc (Nat.le_refl _) _))
 clear HF0
 go_enter Tryz.func56, Tryz.ntmps56
 go_wp2_with fail
 refine HF.out.mono ?_
 rintro e w1 ⟨g,hg,rfl,hown,hb1⟩
 simp only[World.size_alloc] at hg hb1
 have HB1:=Lib.hid hb1
 have HO1:=Lib.hid hown
 clear hown hb1
 go_wp2_with fail
 go_loopg [15] (totN vs) (fun gk _ wr=>∃ q:Nat,q+gk=totN vs∧q < totN vs∧Hid (∀ j,j < q→allS vs l (nthN vs j)=false)∧wr.ownsRow g 3 1 (.slice (some ⟨g,0,none⟩) vs.length vs.length) vs.length ((nthN vs q).map (Value.int .i64))∧Below (w.heap.size+1) (w.alloc (.cells #[.slice av vs.length cv,.slice ah hard.length ch,.slice ao soft.length co,.slice ad ds.length cd,.slice ag gs.length cg] 27)) wr)
 case atStart=>exact⟨0,by omega,HT,(fun j hj=>by omega),HO1.out,HB1.out⟩
 case round =>
  obtain⟨q,hqg,hq,HQ,hown,hB⟩:=hrel
  have HB:=Lib.hid hB
  have HBw:=Lib.hid (boxW _ hB)
  have HO:=Lib.hid hown
  have hgr:=row_lt hown
  have hzr:=hB.size
  simp only[World.size_alloc] at hzr
  ((try clear b0 b1 b2 b3 b4);have b0:=box_cell HB.out 0;have b1:=box_cell HB.out 1;have b2:=box_cell HB.out 2;have b3:=box_cell HB.out 3;have b4:=box_cell HB.out 4;(try simp at b0 b1 b2 b3 b4))
  have hnl:(nthN vs q).length=vs.length:=nthN_len vs q
  have hI:IntsIn wr (nthN vs q) (some ⟨g,0,none⟩) vs.length:=ints_row (by rw[hnl];exact hown) (by omega)
  have HS:=Lib.hid (HS0.out (nthN vs q) (some ⟨g,0,none⟩) vs.length wr HBw.out hI)
  rw[hnl] at HS
  clear hown hB hI
  cases hs:allS vs l (nthN vs q)
  ·rw[hs] at HS
   have HQ1:Hid (∀ j,j < q+1→allS vs l (nthN vs j)=false):=fun j hj=>by
    by_cases e:j=q
    ·rw[e];exact hs
    ·exact HQ.out j (by omega)
   clear hs
   go_wp2_with fail
   refine HS.out.mono ?_
   rintro e w2 ⟨rfl,hb2⟩
   have HO2:=Lib.hid (ownsRow_below HO.out hb2)
   have HB2:=Lib.hid (HB.out.trans (hb2.mono (by omega)))
   have HN2:=Lib.hid (HN0.out q g vs.length (w.alloc (.cells #[.slice av vs.length cv,.slice ah hard.length ch,.slice ao soft.length co,.slice ad ds.length cd,.slice ag gs.length cg] 27)) w2 ((Below.refl _ _).alloc (Nat.le_refl _) _) (by simpa using hg) (by rw[hnl];exact HO2.out) (by simpa using HB2.out))
   rw[hnl,advN_nth] at HN2
   simp only at HN2
   ((try clear b0 b1 b2 b3 b4);have b0:=box_cell HB2.out 0;have b1:=box_cell HB2.out 1;have b2:=box_cell HB2.out 2;have b3:=box_cell HB2.out 3;have b4:=box_cell HB2.out 4;(try simp at b0 b1 b2 b3 b4))
   clear hb2
   by_cases hl:q+1 < totN vs
   ·rw[show decide ((q+1) % totN vs=0)=false from by rw[Nat.mod_eq_of_lt hl];simp] at HN2
    simp only[Bool.not_false] at HN2
    go_wp2_with fail
    refine HN2.out.mono ?_
    rintro e w3 ⟨rfl,ho3,hb3⟩
    have HO3:=Lib.hid ho3
    have HB3:=Lib.hid hb3
    simp only[World.size_alloc] at HB3
    clear ho3 hb3
    go_wp2_with fail
    go_roundg (totN vs - (q+1))
    case measure=>omega
    case rel=>exact⟨q+1,by omega,hl,HQ1.out,HO3.out,HB3.out⟩
   ·have he:q+1=totN vs:=by omega
    rw[show decide ((q+1) % totN vs=0)=true from by rw[he,Nat.mod_self];rfl] at HN2
    simp only[Bool.not_true] at HN2
    have HR:=Lib.hid (HNo.out (fun k hk=>HQ1.out k (by omega)))
    go_wp2_with fail
    refine HN2.out.mono ?_
    rintro e w3 ⟨rfl,ho3,hb3⟩
    have HB3:=Lib.hid hb3
    simp only[World.size_alloc] at HB3
    clear ho3 hb3
    go_wp2_with fail
    go_ret
    exact⟨by rw[HR.out];rfl,boxW _ HB3.out⟩
  ·rw[hs] at HS
   have HR:=Lib.hid (HY.out q hq hs)
   clear hs
   go_wp2_with fail
   refine HS.out.mono ?_
   rintro e w2 ⟨rfl,hb2⟩
   have HB2:=Lib.hid (HBw.out.trans (hb2.mono HBw.out.size))
   clear hb2
   go_wp2_with fail
   go_ret
   exact⟨by rw[HR.out];rfl,HB2.out⟩
end Go.Proofs.YtcplmcjbkpmhdaaGreatDoor
namespace Go.Proofs.YtcplmcjbkpmhdaaGreatDoor
open Go.RowKit
theorem bounds_len (P:Nat→Bool):∀ k,(boundsN P (k+1)).length≤k+2∧(P k=false→(boundsN P (k+1)).length≤k+1):=by
 intro k
 induction k with
 | zero =>
  cases h:P 0
  ·refine⟨?_,fun _=>?_⟩<;>simp[boundsN,boundsTo,stepB,h]
  ·refine⟨?_,fun h'=>?_⟩
   ·simp[boundsN,boundsTo,stepB,h]
   ·simp at h'
 | succ k ih =>
  cases h:P (k+1)
  ·rw[(bounds_last P (k+1)).2.2 h]
   exact⟨by have:=ih.1;omega,fun _=>ih.1⟩
  ·rw[bounds_step P (k+1) h]
   refine⟨?_,fun h'=>by simp at h'⟩
   unfold flatStep
   split
   ·rw[List.length_append,List.length_dropLast]
    have:=ih.1
    simp;omega
   ·rename_i hl
    have hk:P k=false:=by
     cases hk:P k
     ·rfl
     ·exact absurd (by rw[(bounds_last P k).2.1 hk];rfl) hl
    have:=ih.2 hk
    simp;omega
def NodeOk (vs:List VarD) (x:Ex):Prop:=nodeS x=0∧arrN x=false∧forN vs x=false
def AllOk (vs:List VarD) (e:Ex):Prop:=∀ x,x∈e.nodes→NodeOk vs x
theorem AllOk.node {vs:List VarD} {e:Ex} (h:NodeOk vs e) (ha:∀ x,x∈e.args→AllOk vs x):AllOk vs e:=fun y hy=>by
 rw[Ex.nodes_eq] at hy
 rcases List.mem_cons.1 hy with rfl | hy
 ·exact h
 ·obtain⟨l,hl,hyl⟩:=List.mem_flatten.1 hy
  obtain⟨a,ha',rfl⟩:=List.mem_map.1 hl
  exact ha a ha' y hyl
theorem firstE_all:∀ l:List Ex,(∀ x,x∈l→nodeS x=0)→firstE l=0:=by
 intro l
 induction l with
 | nil=>intro _;rfl
 | cons e l ih =>
  intro h
  unfold firstE
  rw[h e List.mem_cons_self]
  simpa using ih (fun x hx=>h x (List.mem_cons_of_mem _ hx))
theorem nodeS_ok {e:Ex} (h1:1≤e.op∧e.op≤25) (h2:e.op=1→0≤e.n∧e.n≤65535) (h2':e.op≠1→e.n=0) (h3:e.op=2∨e.name.data.toList=[]) (h4:operandsB e.op e.args.length=true) (h5:e.op=2→varB e.name.data.toList=true) (h6:¬ (e.op=3∨e.op=24)):nodeS e=0:=by
 unfold nodeS
 rw[if_neg (by omega),if_neg (fun h=>?_),if_neg (fun h=>?_),if_neg (fun h=>?_)]
 ·rcases h with ⟨h,h'⟩ | ⟨h,_⟩
  ·rw[h5 h] at h';simp at h'
  ·exact h6 h
 ·rcases h with ⟨h,h'⟩ | h
  ·rcases h3 with h3 | h3
   ·exact h (Or.inl h3)
   ·exact h' h3
  ·rw[h4] at h;simp at h
 ·rcases h with ⟨h,h'⟩ | ⟨h,h'⟩
  ·have:=h2 h;omega
  ·exact h' (h2' h)
theorem AllOk.ok {vs:List VarD} {e:Ex} (h:AllOk vs e) (hd:e.depth≤24) (hn:e.nodes.length≤400):ExprOk vs e:=by
 refine⟨?_,?_,?_⟩
 ·unfold validS
  rw[firstE_all _ (fun x hx=>(h x hx).1),if_neg (fun h'=>by omega)]
 ·rw[List.any_eq_false]
  intro x hx
  rw[(h x hx).2.1];simp
 ·rw[List.any_eq_false]
  intro x hx
  rw[(h x hx).2.2];simp
theorem cE_ok (vs:List VarD) {n:Nat} (h:n≤65535):AllOk vs (cE n):=by
 refine AllOk.node ⟨nodeS_ok ?_ ?_ ?_ ?_ ?_ ?_ ?_,rfl,rfl⟩ (fun x hx=>by simp[cE,Ex.args_mk] at hx)
 ·show (1:Int)≤1∧(1:Int)≤25;decide
 ·intro _;show (0:Int)≤(n:Int)∧(n:Int)≤65535;omega
 ·intro h';exact absurd rfl h'
 ·exact Or.inr rfl
 ·rfl
 ·intro h';exact absurd (show (1:Int)=2 from h') (by decide)
 ·show ¬ ((1:Int)=3∨(1:Int)=24);decide
theorem vE_ok {vs:List VarD} {s:ByteArray} (h:varB s.data.toList=true) (hf:¬ findV vs s 0 < 0):AllOk vs (vE s):=by
 refine AllOk.node ⟨nodeS_ok ?_ ?_ ?_ ?_ ?_ ?_ ?_,rfl,?_⟩ (fun x hx=>by simp[vE,Ex.args_mk] at hx)
 ·show (1:Int)≤2∧(2:Int)≤25;decide
 ·intro h';exact absurd (show (2:Int)=1 from h') (by decide)
 ·intro _;rfl
 ·exact Or.inl rfl
 ·rfl
 ·intro _;exact h
 ·show ¬ ((2:Int)=3∨(2:Int)=24);decide
 ·show ((2:Int) == 2 && decide (findV vs s 0 < 0))=false
  rw[decide_eq_false hf];rfl
theorem iE_ok {vs:List VarD} {s:ByteArray} {bs:List Nat} (h:varB s.data.toList=true) (hf:¬ findV vs s 0 < 0) (hb:∀ n,n∈bs→n≤65535) (he:bs.length % 2=0) (h32:bs.length≤32) (h0:bs≠[]):AllOk vs (iE s bs):=by
 have hl:0 < bs.length:=List.length_pos_iff.2 h0
 refine AllOk.node ⟨nodeS_ok ?_ ?_ ?_ ?_ ?_ ?_ ?_,rfl,rfl⟩ (fun x hx=>?_)
 ·show (1:Int)≤23∧(23:Int)≤25;decide
 ·intro h';exact absurd (show (23:Int)=1 from h') (by decide)
 ·intro _;rfl
 ·exact Or.inr rfl
 ·rw[iE_len,show (iE s bs).op=23 from rfl]
  unfold operandsB
  rw[if_pos rfl]
  exact decide_eq_true (by omega)
 ·intro h';exact absurd (show (23:Int)=2 from h') (by decide)
 ·show ¬ ((23:Int)=3∨(23:Int)=24);decide
 ·rw[iE_args] at hx
  rcases List.mem_cons.1 hx with rfl | hx
  ·exact vE_ok h hf
  ·obtain⟨n,hn,rfl⟩:=List.mem_map.1 hx
   exact cE_ok vs (hb n hn)
theorem eE_ok {vs:List VarD} {a b:Ex} (ha:AllOk vs a) (hb:AllOk vs b):AllOk vs (eE a b):=by
 refine AllOk.node ⟨nodeS_ok ?_ ?_ ?_ ?_ ?_ ?_ ?_,rfl,rfl⟩ (fun x hx=>?_)
 ·show (1:Int)≤20∧(20:Int)≤25;decide
 ·intro h';exact absurd (show (20:Int)=1 from h') (by decide)
 ·intro _;rfl
 ·exact Or.inr rfl
 ·show operandsB 20 2=true;decide
 ·intro h';exact absurd (show (20:Int)=2 from h') (by decide)
 ·show ¬ ((20:Int)=3∨(20:Int)=24);decide
 ·simp[eE,Ex.args_mk] at hx
  rcases hx with rfl | rfl
  ·exact ha
  ·exact hb
theorem chE_ok {vs:List VarD} {s:ByteArray} {bs:List Nat} (h:varB s.data.toList=true) (hf:¬ findV vs s 0 < 0) (hb:∀ n,n∈bs→n≤65535) (he:bs.length % 2=0):∀ c,32 * (c - 1) < bs.length∨c=0→AllOk vs (chE s bs c):=by
 have hpart:∀ c,32 * c < bs.length→AllOk vs (iE s ((bs.drop (32 * c)).take 32)):=fun c hc=>by
  refine iE_ok h hf (fun n hn=>hb n (List.mem_of_mem_drop (List.mem_of_mem_take hn))) ?_ ?_ ?_
  ·rw[List.length_take,List.length_drop];omega
  ·rw[List.length_take];omega
  ·intro h0
   have:=congrArg List.length h0
   rw[List.length_take,List.length_drop] at this
   simp at this;omega
 intro c
 induction c with
 | zero=>intro _;exact cE_ok vs (n:=0) (by decide)
 | succ c ih =>
  intro hc
  have hc':32 * c < bs.length:=by omega
  by_cases h0:c=0
  ·subst h0
   have:=hpart 0 (by omega)
   simpa [chE_one] using this
  ·rw[chE_succ s bs c (by omega)]
   exact eE_ok (ih (by omega)) (hpart c hc')
theorem size_iE (s:ByteArray) (bs:List Nat):(iE s bs).nodes.length=bs.length+2∧(iE s bs).depth=2:=by
 have hc:∀ n:Nat,(cE n).nodes.length=1:=fun n=>by unfold cE;rw[nodes_leaf];rfl
 constructor
 ·rw[Ex.nodes_eq,iE_args]
  simp only[List.map_cons,List.flatten_cons,List.length_cons,List.length_append,List.map_map]
  have h1:(vE s).nodes.length=1:=by unfold vE;rw[nodes_leaf];rfl
  have h2:∀ l:List Nat,(l.map (Ex.nodes ∘ fun (n:Nat)=>cE (n:Int))).flatten.length=l.length:=by
   intro l
   induction l with
   | nil=>rfl
   | cons n l ih=>simp only[List.map_cons,List.flatten_cons,List.length_append,List.length_cons,ih,Function.comp,hc];omega
  rw[h1,h2];omega
 ·rw[Ex.depth_eq,iE_args]
  have hd:∀ (op n:Int) (s:ByteArray),(Ex.mk op n s []).depth=1:=fun op n s=>by rw[Ex.depth_eq];simp[Ex.args_mk]
  have h2:∀ l:List Nat,((l.map fun (n:Nat)=>cE (n:Int)).map Ex.depth).foldl max 1=1:=by
   intro l
   induction l with
   | nil=>rfl
   | cons n l ih =>
    simp only[List.map_cons,List.foldl_cons]
    rw[show (cE (n:Int)).depth=1 from hd _ _ _]
    exact ih
  simp only[List.map_cons,List.foldl_cons]
  rw[show (vE s).depth=1 from hd _ _ _]
  rw[show max 0 1=1 from rfl,h2]
theorem size_eE (a b:Ex):(eE a b).nodes.length=1+a.nodes.length+b.nodes.length∧(eE a b).depth=max a.depth b.depth+1:=by
 constructor
 ·rw[Ex.nodes_eq]
  simp[eE,Ex.args_mk];omega
 ·rw[Ex.depth_eq]
  simp[eE,Ex.args_mk]
theorem size_chE (s:ByteArray) (bs:List Nat):∀ c,(chE s bs (c+1)).nodes.length≤(bs.take (32 * (c+1))).length+3 * (c+1)∧(chE s bs (c+1)).depth≤c+2:=by
 intro c
 induction c with
 | zero =>
  rw[chE_one]
  obtain⟨h1,h2⟩:=size_iE s (bs.take 32)
  rw[h1,h2]
  exact⟨by simp only[Nat.zero_add,Nat.mul_one];omega,Nat.le_refl _⟩
 | succ c ih =>
  rw[chE_succ s bs (c+1) (by omega)]
  obtain⟨h1,h2⟩:=size_iE s ((bs.drop (32 * (c+1))).take 32)
  obtain⟨h3,h4⟩:=size_eE (chE s bs (c+1)) (iE s ((bs.drop (32 * (c+1))).take 32))
  rw[h3,h4,h1,h2]
  simp only[List.length_take,List.length_drop] at *
  omega
theorem unE_ok {vs:List VarD} {s:ByteArray} {bs:List Nat} (h:varB s.data.toList=true) (hf:¬ findV vs s 0 < 0) (hb:∀ n,n∈bs→n≤65535) (he:bs.length % 2=0) (hl:bs.length≤257):ExprOk vs (unE s bs)∧(unE s bs).nodes.length≤1000000000:=by
 unfold unE
 have hok:=chE_ok h hf hb he ((bs.length+31) / 32) (by omega)
 cases hc:(bs.length+31) / 32 with
 | zero =>
  rw[hc] at hok
  have h1:(chE s bs 0).nodes.length=1:=by show (cE 0).nodes.length=1;unfold cE;rw[nodes_leaf];rfl
  have h2:(chE s bs 0).depth=1:=by show (cE 0).depth=1;unfold cE;rw[Ex.depth_eq];simp[Ex.args_mk]
  exact⟨hok.ok (by rw[h2];decide) (by rw[h1];decide),by rw[h1];decide⟩
 | succ c =>
  rw[hc] at hok
  obtain⟨h1,h2⟩:=size_chE s bs c
  have h3:(bs.take (32 * (c+1))).length≤bs.length:=by rw[List.length_take];omega
  exact⟨hok.ok (by omega) (by omega),by omega⟩
theorem supp_rok {p:ProbD} (hp:ProbOk p):Rok p (suppsE p):=fun e he=>by
 unfold suppsE at he
 obtain⟨d,hd,rfl⟩:=List.mem_map.1 he
 obtain⟨i,hi,rfl⟩:=List.getElem_of_mem hd
 obtain⟨h0,v,hv,hm⟩:=(hp.dists i hi).var
 unfold suppE
 rw[hv]
 simp only[]
 obtain⟨hlt,hve⟩:=List.getElem?_eq_some_iff.1 hv
 have hok:=hp.vars.ok _ hlt
 rw[hve] at hok
 have hw:=width_of_ok hok
 have h256:2 ^ v.width.toNat≤256:=by
  calc 2 ^ v.width.toNat≤2 ^ 8:=Nat.pow_le_pow_right (by decide) (by omega)
   _=256:=by decide
 have hpos:0 < 2 ^ v.width.toNat:=Nat.pow_pos (by decide)
 refine unE_ok (varB_of_ok hok) ?_ ?_ (bounds_even _ _) ?_
 ·intro hf
  rcases findV_cases p.vars v.name with ⟨_,h2⟩ | ⟨k,hk,h1,_,_⟩
  ·have:=h2 _ hlt
   rw[hve] at this
   simp at this
  ·rw[h1] at hf;omega
 ·intro n hn
  have hall:∀ N j,∀ m,m∈boundsTo (suppP (p.dists[i]'hi)) N j→m < j:=by
   intro N j
   induction j with
   | zero=>intro m hm;simp[boundsTo] at hm
   | succ j ih =>
    intro m hm
    rw[boundsTo_succ,List.mem_append] at hm
    rcases hm with hm | hm
    ·have:=ih m hm;omega
    ·unfold stepB at hm
     split at hm
     ·rw[List.mem_append] at hm
      rcases hm with hm | hm<;>split at hm<;>simp at hm<;>omega
     ·simp at hm
  have:=hall _ _ n hn
  omega
 ·obtain⟨k,hk⟩:∃ k,2 ^ v.width.toNat=k+1:=⟨2 ^ v.width.toNat - 1,by omega⟩
  rw[hk]
  have:=(bounds_len (suppP (p.dists[i]'hi)) k).1
  omega
end Go.Proofs.YtcplmcjbkpmhdaaGreatDoor
namespace Go.Proofs.YtcplmcjbkpmhdaaGreatDoor
open Go.RowKit
attribute [local go_sem ↓] Go.wp_at_zero Go.wp_at_succ
set_option maxRecDepth 100000 in
set_option maxHeartbeats 4000000 in
theorem SameInts_any (A:List Int) (aa:Option Addr) (ca:Nat) (B:List Int) (ab:Option Addr) (cb:Nat) (w:World) (hA:IntsIn w A aa ca) (hB:IntsIn w B ab cb) :
  Calls Tryz.prog 26 #[.slice aa A.length ca,.slice ab B.length cb] w fun e w'=>e=.returned (.bool (decide (A=B)))∧Below w.heap.size w w':=by
 have HA:=Lib.hid hA
 have HB:=Lib.hid hB
 have HAA:=Lib.hid hA.addr
 have HAB:=Lib.hid hB.addr
 have hla:=hA.2.1
 have hlb:=hB.2.1
 clear hA hB
 by_cases hl:A.length=B.length
 ·have Hl:=Lib.hid hl
  have hd:((A.length:Int) != (B.length:Int))=false:=by simp;omega
  clear hl
  go_enter Tryz.func26, Tryz.ntmps26
  go_wp2_with fail
  go_loopw [5] (fun i wr=>∃ k:Nat,i=.int .i64 k∧k≤A.length∧Hid (∀ j (hj:j < A.length),j < k→A[j]'hj=B[j]'(by have:=Hl.out;omega))∧Hid (Below w.heap.size w wr)) (fun i _=>A.length - (intOf i).toNat)
  case atStart=>exact⟨0,rfl,Nat.zero_le _,fun _ _ h=>absurd h (by omega),Below.refl _ _⟩
  case round =>
   obtain⟨k,rfl,hk,HAl,HW⟩:=hrel
   by_cases hlt:k < A.length
   ·have hltb:k < B.length:=by have:=Hl.out;omega
    obtain⟨ba,oa,ha⟩:=HAA.out.resolve_left (by omega)
    obtain⟨bb,ob,hb⟩:=HAB.out.resolve_left (by omega)
    subst ha
    subst hb
    have c0:=keeps_of_below HW.out _ _ (HA.out.get rfl hlt)
    have c1:=keeps_of_below HW.out _ _ (HB.out.get rfl hltb)
    rw[getD_at hlt] at c0
    rw[getD_at hltb] at c1
    by_cases he:A[k]'hlt=B[k]'hltb
    ·have HNx:Hid (∀ j (hj:j < A.length),j < k+1→A[j]'hj=B[j]'(by have:=Hl.out;omega)):=fun j hj hjk=>by
      by_cases e:j=k
      ·subst e;exact he
      ·exact HAl.out j hj (by omega)
     generalize A[k]'hlt=x at c0 he
     generalize B[k]'hltb=y at c1 he
     have hne:(x != y)=false:=by simp[he]
     clear he
     go_wp2_with fail
     go_quiet (fail)
     go_wp2_with fail
     go_roundw
     case rel=>exact⟨k+1,by go_num,by omega,HNx.out,below_drewN HW.out _⟩
     case measure=>simp[intOf];omega
    ·have HNo:Hid (decide (A=B)=false):=decide_eq_false (fun h=>he (by subst h;rfl))
     generalize A[k]'hlt=x at c0 he
     generalize B[k]'hltb=y at c1 he
     have hne:(x != y)=true:=by simpa using he
     clear he
     go_wp2_with fail
     go_quiet (fail)
     go_wp2_with fail
     go_ret
     exact⟨by rw[HNo.out];rfl,below_drewN HW.out _⟩
   ·obtain rfl:k=A.length:=by omega
    have HY:Hid (decide (A=B)=true):=decide_eq_true (eq_of_all Hl.out (fun j hj=>HAl.out j hj hj))
    go_wp2_with fail
    go_ret
    exact⟨by rw[HY.out];rfl,HW.out⟩
 ·have HNo:Hid (decide (A=B)=false):=decide_eq_false (fun h=>hl (by rw[h]))
  have hd:((A.length:Int) != (B.length:Int))=true:=by simp;omega
  clear hl
  go_enter Tryz.func26, Tryz.ntmps26
  go_wp2_with fail
  go_ret
  exact⟨by rw[HNo.out];rfl,Below.refl _ _⟩
end Go.Proofs.YtcplmcjbkpmhdaaGreatDoor
