/- law25, plain: what satisfied answers. -/
import Derived.Test.YtcplmcjbkpmhdaaGreatDoorGA
import Derived.Test.YtcplmcjbkpmhdaaGreatDoorSM
import Derived.Test.YtcplmcjbkpmhdaaGreatDoorGG
import Derived.Test.YtcplmcjbkpmhdaaGreatDoorSE
set_option linter.unusedSimpArgs false
set_option linter.unusedVariables false
set_option linter.unnecessarySimpa false
namespace Go.Proofs.YtcplmcjbkpmhdaaGreatDoor
theorem hit_chos {p:ProbD} (hp:ProbOk p) (l:List Nat) (k:Nat):hitN p.vars (chosL p l) k=(posA p (nthN p.vars k) && allS p.vars (pickL p l) (nthN p.vars k)):=by
 rw[← supp_hit hp k]
 unfold hitN chosL allS
 rw[List.all_append]
noncomputable def satT (p:ProbD) (l:List Nat):Bool:=!conT p l
theorem satT_iff {p:ProbD} (hp:ProbOk p) (l:List Nat):satT p l=true↔∃ k,k < totN p.vars∧posA p (nthN p.vars k)=true∧allS p.vars (pickL p l) (nthN p.vars k)=true:=by
 unfold satT conT solvB
 rw[Bool.not_not,pB_iff]
 constructor
 ·rintro ⟨k,hk,h⟩
  rw[hit_chos hp,Bool.and_eq_true] at h
  exact⟨k,hk,h⟩
 ·rintro ⟨k,hk,h⟩
  exact⟨k,hk,by rw[hit_chos hp,Bool.and_eq_true];exact h⟩
theorem satT_no {p:ProbD} (hp:ProbOk p) (l:List Nat) (h:∀ k,k < totN p.vars→(posA p (nthN p.vars k) && allS p.vars (pickL p l) (nthN p.vars k))=false):satT p l=false:=by
 cases e:satT p l with
 | false=>rfl
 | true =>
  obtain⟨k,hk,h1,h2⟩:=(satT_iff hp l).1 e
  have:=h k hk
  rw[h1,h2] at this
  simp at this
theorem allS_take {vs:List VarD} {p:ProbD} {l:List Nat} {A:List Int} {k:Nat} (h:k < l.length) (hk:(l[k]'h) < p.hard.length):allS vs (pickL p (l.take (k+1))) A=(allS vs (pickL p (l.take k)) A && allS vs [p.hard[l[k]'h]'hk] A):=by
 rw[List.take_succ_eq_append_getElem h,pickL_append,pickL_one hk]
 unfold allS
 rw[List.all_append]
theorem core_sat {p:ProbD} (h:conT p (allL p)=true):satT p (coreW p (allL p))=false∧∀ j,j < (coreW p (allL p)).length→satT p ((coreW p (allL p)).eraseIdx j)=true:=by
 refine⟨by unfold satT;rw[coreW_con h];rfl,fun j hj=>by unfold satT;rw[coreW_min _ hj];rfl⟩
end Go.Proofs.YtcplmcjbkpmhdaaGreatDoor
namespace Go.Proofs.YtcplmcjbkpmhdaaGreatDoor
open Go.RowKit
attribute [local go_sem ↓] Go.wp_at_zero Go.wp_at_succ
def pozS (p:ProbD) (A:List Int) (j:Nat):Bool:=(p.dists.take j).all fun d=>posW d.weights (A.getD d.var.toNat 0)
theorem pozS_succ {p:ProbD} {A:List Int} {j:Nat} (h:j < p.dists.length):pozS p A (j+1)=(pozS p A j && posW (p.dists[j]'h).weights (A.getD (p.dists[j]'h).var.toNat 0)):=by
 unfold pozS
 rw[List.take_succ_eq_append_getElem h,List.all_append]
 simp
theorem ExsIn.one {w:World} {l:List Ex} {b off cap:Nat} (h:ExsIn w l (some ⟨b,off,none⟩) cap) {i:Nat} (hi:i < l.length) (c:Nat) (hc:1≤c):ExsIn w [l[i]'hi] (some ⟨b,off+i * 4,none⟩) c:=by
 obtain⟨h1,h2,h3⟩:=h
 rcases h3 with h3 | ⟨b',off',ha,h3⟩
 ·omega
 ·simp only[Option.some.injEq,Addr.mk.injEq,and_true] at ha
  obtain⟨rfl,rfl⟩:=ha
  obtain⟨e,he,hX⟩:=h3 i hi
  refine⟨by simpa using hc,by simp,Or.inr ⟨b,off+i * 4,rfl,fun j hj=>?_⟩⟩
  have hj0:j=0:=by simp at hj;exact hj
  subst hj0
  refine⟨e,?_,by simpa using hX⟩
  rw[List.getElem?_eq_getElem hi] at he
  simpa using he
set_option maxRecDepth 100000 in
set_option maxHeartbeats 32000000 in
theorem satisfied25_any (p:ProbD) (x:ProbA) (l:List Nat) (al:Option Addr) (cl:Nat) (w:World) (hE:ProbIn w p x) (hs:ProbSmall p) (hp:ProbOk p) (hI:IntsIn w (intsN l) al cl) (hl:∀ i,i∈l→i < p.hard.length) (hl7:l.length≤1000) :
  Calls Tryz.prog 31 #[probVal p x,.slice al l.length cl] w fun e w'=>e=.returned (.bool (satT p l))∧Below w.heap.size w w':=by
 have hV:=hp.vars
 have hlen:=hE.vars.2.1
 have HF0:=Lib.hid (fun W (hW:Below w.heap.size w W)=>r22First_any p x W (hE.keep (keeps_of_below hW)) hV)
 have HSo:=Lib.hid (fun e (he:e∈p.hard) al cl A aa ca W (hW:Below w.heap.size w W) (hL:ExsIn W [e] al cl) (hI:IntsIn W A aa ca)=>Satisfies_any p x [e] al cl A aa ca W (hE.keep (keeps_of_below hW)) hL (fun e' he'=>by rw[List.mem_singleton.1 he'];exact hs.hard e he) hI)
 have HN0:=Lib.hid (fun k g cap W0 W (h0:Below w.heap.size w W0) (hg:W0.heap.size≤g) (hown:W.ownsRow g 3 1 (.slice (some ⟨g,0,none⟩) (nthN p.vars k).length cap) (nthN p.vars k).length ((nthN p.vars k).map (Value.int .i64))) (hW:Below W0.heap.size W0 W)=>r22Next_any p x (nthN p.vars k) g cap W0 W (hE.keep (keeps_of_below h0)) hV (asg_nth hV.ok k) hg hown hW)
 have HT:=totN_pos p.vars
 have HYes:Hid (∀ k,k < totN p.vars→(allS p.vars (pickL p (l.take l.length)) (nthN p.vars k) && pozS p (nthN p.vars k) p.dists.length)=true→satT p l=true):=fun k hk h=>by
  rw[Bool.and_eq_true,List.take_length] at h
  refine(satT_iff hp l).2 ⟨k,hk,?_,h.1⟩
  have:=h.2
  unfold pozS at this
  rw[List.take_length] at this
  exact this
 have HNo:Hid ((∀ k,k < totN p.vars→(allS p.vars (pickL p (l.take l.length)) (nthN p.vars k) && pozS p (nthN p.vars k) p.dists.length)=false)→satT p l=false):=fun h=>satT_no hp l fun k hk=>by
  have:=h k hk
  unfold pozS at this
  rw[List.take_length,List.take_length] at this
  rw[Bool.and_comm]
  exact this
 have HPs:=Lib.hid (fun A j (h:j < p.dists.length)=>pozS_succ (A:=A) h)
 have HP0:Hid (∀ A,pozS p A 0=true):=fun A=>rfl
 have HA0:Hid (∀ A,allS p.vars (pickL p (l.take 0)) A=true):=fun A=>rfl
 have HAs:Hid (∀ A k (h:k < l.length),allS p.vars (pickL p (l.take (k+1))) A=(allS p.vars (pickL p (l.take k)) A && allS p.vars [p.hard[l[k]'h]'(hl _ (List.getElem_mem h))] A)):=fun A k h=>allS_take h (hl _ (List.getElem_mem h))
 have HLt:=Lib.hid (fun k (h:k < l.length)=>hl _ (List.getElem_mem h))
 have HDv:=Lib.hid (fun i (h:i < p.dists.length)=>(hp.dists i h).var)
 have HHI:=Lib.hid hE.hard
 have HDI:=Lib.hid hE.dists
 have HI:=Lib.hid hI
 obtain⟨QA,hQA⟩:∃ QA:Nat→List Int→Bool,∀ k A,allS p.vars (pickL p (l.take k)) A=QA k A:=⟨_,fun _ _=>rfl⟩
 simp only[hQA] at HYes HNo HA0 HAs
 generalize satT p l=R at HYes HNo⊢
 generalize pozS p=PT at HYes HNo HPs HP0
 clear hQA hE hs hp hV hI
 simp only[probVal_eq] at HF0 HSo HN0⊢
 obtain⟨vs,hard,soft,ds,gs⟩:=p
 obtain⟨av,cv,ah,ch,ao,co,ad,cd,ag,cg⟩:=x
 simp only at HF0 HSo HN0 HT HYes HNo HPs HAs HLt HDv HHI HDI hlen⊢
 have HF:=Lib.hid (HF0.out (w.alloc (.cells #[.slice av vs.length cv,.slice ah hard.length ch,.slice ao soft.length co,.slice ad ds.length cd,.slice ag gs.length cg] 27)) ((Below.refl _ _).alloc (Nat.le_refl _) _))
 clear HF0
 go_enter Tryz.func31, Tryz.ntmps31
 go_wp2_with fail
 refine HF.out.mono ?_
 rintro e w1 ⟨g,hg,rfl,hown,hb1⟩
 simp only[World.size_alloc] at hg hb1
 have HB1:=Lib.hid hb1
 have HO1:=Lib.hid hown
 have hgl:=row_lt hown
 have hz1:=hb1.size
 simp only[World.size_alloc] at hz1
 clear hown hb1
 go_wp2_with fail
 have HStart:Hid (∀ k,k < 0→k < totN vs→(QA l.length (nthN vs k) && PT (nthN vs k) ds.length)=false):=fun k h=>absurd h (Nat.not_lt_zero _)
 go_loopg [6,7,9,11] (totN vs) (fun gk more _ _ _ wr=>∃ q:Nat,q+gk=totN vs∧more=.bool (decide (q < totN vs))∧Hid (∀ k,k < q→k < totN vs→(QA l.length (nthN vs k) && PT (nthN vs k) ds.length)=false)∧(q < totN vs→wr.ownsRow g 3 1 (.slice (some ⟨g,0,none⟩) vs.length vs.length) vs.length ((nthN vs q).map (Value.int .i64)))∧Below (w.heap.size+1) (w.alloc (.cells #[.slice av vs.length cv,.slice ah hard.length ch,.slice ao soft.length co,.slice ad ds.length cd,.slice ag gs.length cg] 27)) wr)
 case atStart=>exact⟨0,by omega,by rw[decide_eq_true HT],HStart,fun _=>HO1.out,HB1.out⟩
 case round =>
  obtain⟨q,hqg,rfl,HNq,hown,hB⟩:=hrel
  have HB:=Lib.hid hB
  have HBw:=Lib.hid (boxW _ hB)
  by_cases hq:q < totN vs
  ·have HO:=Lib.hid (hown hq)
   rw[decide_eq_true hq]
   ((try clear b0 b1 b2 b3 b4);have b0:=box_cell HB.out 0;have b1:=box_cell HB.out 1;have b2:=box_cell HB.out 2;have b3:=box_cell HB.out 3;have b4:=box_cell HB.out 4;(try simp at b0 b1 b2 b3 b4))
   have hnl:(nthN vs q).length=vs.length:=nthN_len vs q
   have hI:IntsIn wr (nthN vs q) (some ⟨g,0,none⟩) vs.length:=ints_row (by rw[hnl];exact HO.out) (by omega)
   have HIq:=Lib.hid hI
   have hzr:=HB.out.size
   simp only[World.size_alloc] at hzr
   have HY:=Lib.hid (HYes.out q hq)
   have HNs:Hid ((QA l.length (nthN vs q) && PT (nthN vs q) ds.length)=false→∀ k,k < q+1→k < totN vs→(QA l.length (nthN vs k) && PT (nthN vs k) ds.length)=false):=fun h k h1 h2=>by
    by_cases e:k=q
    ·subst e;exact h
    ·exact HNq.out k (by omega) h2
   have HA0q:=Lib.hid (HA0.out (nthN vs q))
   have HAsq:=Lib.hid (fun k h=>HAs.out (nthN vs q) k h)
   have HSoq:=Lib.hid (fun e he al cl W hW hL hI=>HSo.out e he al cl (nthN vs q) (some ⟨g,0,none⟩) vs.length W hW hL hI)
   rw[hnl] at HSoq
   have HDec:Hid ((!(decide ((q+1) % totN vs=0)))=decide (q+1 < totN vs)):=by
    show _=_
    by_cases h:q+1 < totN vs
    ·rw[Nat.mod_eq_of_lt h];simp[h]
    ·rw[show q+1=totN vs from by omega,Nat.mod_self];simp
   have Hnl:=Lib.hid hnl
   clear hown hB hI hnl
   go_wp2_with fail
   generalize wr=wt at *
   go_loopw [20,7,9] (fun i o _ wd=>∃ j:Nat,i=.int .i64 j∧j≤l.length∧o=.bool (QA j (nthN vs q))∧Hid (Below (w.heap.size+1) (w.alloc (.cells #[.slice av vs.length cv,.slice ah hard.length ch,.slice ao soft.length co,.slice ad ds.length cd,.slice ag gs.length cg] 27)) wd)∧Hid (Below wt.heap.size wt wd)) (fun i _ _ _=>l.length - (intOf i).toNat)
   case atStart=>exact⟨0,rfl,Nat.zero_le _,by rw[HA0q.out],HB,Below.refl _ _⟩
   case round =>
    obtain⟨j,rfl,hj,rfl,HBj,HBt⟩:=hrel
    have HBjw:=Lib.hid (boxW _ HBj.out)
    have hjw:IntKind.i64.wrap ((j:Int)+1)=(j:Int)+1:=by rw[IntKind.wrap_i64];omega
    by_cases hlt:j < l.length
    ·obtain⟨ib,io,hia⟩:=HI.out.addr.resolve_left (by rw[intsN_len];omega)
     subst hia
     have hlt9:j < (intsN l).length:=by rw[intsN_len];exact hlt
     have i0:=(keeps_of_below HBjw.out) _ _ (intsIn_get HI.out rfl hlt9)
     rw[intsN_get hlt hlt9] at i0
     have hi:=HLt.out j hlt
     obtain⟨hb,ho,hha⟩:=HHI.out.addr.resolve_left (by omega)
     subst hha
     have HX:=HAsq.out j hlt
     have hcap:=HHI.out.1
     have hhl9:=HHI.out.2.1
     have HC:=Lib.hid (fun W (hW:Below wr.heap.size wr W)=>HSoq.out _ (List.getElem_mem hi) (some ⟨hb,ho+l[j]'hlt * 4,none⟩) (ch - l[j]'hlt) W (HBjw.out.trans (hW.mono HBjw.out.size)) (((HHI.out.one hi (ch - l[j]'hlt) (by omega)).keep (keeps_of_below HBjw.out)).keep (keeps_of_below hW)) ((HIq.out.keep (keeps_of_below HBt.out)).keep (keeps_of_below hW)))
     generalize (hard[l[j]'hlt]'hi)=e at HX HC
     generalize (l[j]'hlt)=i1 at i0 hi HC
     ((try clear b0 b1 b2 b3 b4);have b0:=box_cell HBj.out 0;have b1:=box_cell HBj.out 1;have b2:=box_cell HBj.out 2;have b3:=box_cell HBj.out 3;have b4:=box_cell HBj.out 4;(try simp at b0 b1 b2 b3 b4))
     have hi0:(0:Int)≤(i1:Int):=by omega
     have hi1:(i1:Int)+1≤(hard.length:Int):=by omega
     have hi2:(hard.length:Int)≤(ch:Int):=by omega
     have hi3:(i1:Int)≤(i1:Int)+1:=by omega
     have hi4:(i1:Int)+1≤(ch:Int):=by omega
     have hiw:IntKind.i64.wrap ((i1:Int)+1)=(i1:Int)+1:=by rw[IntKind.wrap_i64];omega
     cases hf:QA j (nthN vs q)
     ·rw[hf] at HX
      have HX1:Hid (QA (j+1) (nthN vs q)=false):=HX
      clear hf HX HC
      go_wp2_with fail
      (refine wp_region_grow (B:=wr.heap.size) (w0:=wr) (by kernel_rfl) (by kernel_rfl) bel ?_;(repeat (go_big_quiet_step (fail)));refine wpQuiet_nil ?_;intro wg hCg;have hbg:=grow_out hCg;clear hCg)
      go_wp2_with fail
      go_roundw
      case rel=>exact⟨j+1,by go_num,by omega,by rw[HX1.out],HBj.out.trans (hbg.mono (by have:=HBj.out.size;simpa using this)),HBt.out.trans (hbg.mono HBt.out.size)⟩
      case measure=>(simp[intOf];try omega)
     ·rw[hf,Bool.true_and] at HX
      generalize allS vs [e] (nthN vs q)=ok at HX HC
      have HX1:Hid (QA (j+1) (nthN vs q)=ok):=HX
      have d0:∀ gg:Grow wr.heap.size wr,gg.w'.cell? _=_:=Grow.old b0 (Nat.le_refl _)
      have d1:∀ gg:Grow wr.heap.size wr,gg.w'.cell? _=_:=Grow.old b1 (Nat.le_refl _)
      have d2:∀ gg:Grow wr.heap.size wr,gg.w'.cell? _=_:=Grow.old b2 (Nat.le_refl _)
      have d3:∀ gg:Grow wr.heap.size wr,gg.w'.cell? _=_:=Grow.old b3 (Nat.le_refl _)
      have d4:∀ gg:Grow wr.heap.size wr,gg.w'.cell? _=_:=Grow.old b4 (Nat.le_refl _)
      simp only[List.length_cons,List.length_nil,Nat.zero_add] at HC
      clear hf HX
      go_wp2_with fail
      (refine wp_region_grow (B:=wr.heap.size) (w0:=wr) (by kernel_rfl) (by kernel_rfl) bel ?_;(repeat (go_big_quiet_step ((go_at_call 77;(with_reducible exact grow_callB (Nat.le_refl _) _ (HC.out _ (Grow.h _)))))));refine wpQuiet_nil ?_;intro wg hCg;have hbg:=grow_out hCg;clear hCg)
      go_wp2_with fail
      go_roundw
      case rel=>exact⟨j+1,by go_num,by omega,by rw[HX1.out],HBj.out.trans (hbg.mono (by have:=HBj.out.size;simpa using this)),HBt.out.trans (hbg.mono HBt.out.size)⟩
      case measure=>(simp[intOf];try omega)
    ·obtain rfl:j=l.length:=by omega
     generalize hok0:QA l.length (nthN vs q)=ok0
     have HOk0:=Lib.hid hok0
     have HO2:=Lib.hid (ownsRow_below HO.out HBt.out)
     have hz2:=HBt.out.size
     have HI2:=Lib.hid (HIq.out.keep (keeps_of_below HBt.out))
     ((try clear b0 b1 b2 b3 b4);have b0:=box_cell HBj.out 0;have b1:=box_cell HBj.out 1;have b2:=box_cell HBj.out 2;have b3:=box_cell HBj.out 3;have b4:=box_cell HBj.out 4;(try simp at b0 b1 b2 b3 b4))
     clear hok0 HBt HIq HO
     go_wp2_with fail
     generalize wr=w2 at *
     go_loopw [40,7,11] (fun i o _ wd=>∃ j:Nat,i=.int .i64 j∧j≤ds.length∧o=.bool (ok0 && PT (nthN vs q) j)∧Hid (Below w2.heap.size w2 wd)) (fun i _ _ _=>ds.length - (intOf i).toNat)
     case atStart=>exact⟨0,rfl,Nat.zero_le _,by rw[HP0.out,Bool.and_true],Below.refl _ _⟩
     case round =>
      obtain⟨j,rfl,hj,rfl,HBd⟩:=hrel
      have HBwd:=Lib.hid (HBjw.out.trans (HBd.out.mono HBjw.out.size))
      have hzd:=HBd.out.size
      by_cases hlt:j < ds.length
      ·obtain⟨db,dof,hda⟩:=HDI.out.addr.resolve_left (by omega)
       obtain⟨hv0,hvx,hvs,_⟩:=HDv.out j hlt
       have HPx:=Lib.hid (HPs.out (nthN vs q) j hlt)
       subst hda
       obtain⟨aw,cw,g0,g1,hW⟩:=HDI.out.get rfl hlt
       have kk:=keeps_of_below HBwd.out
       have c0:=kk _ _ g0
       have c1:=kk _ _ g1
       have HW:=Lib.hid (hW.keep kk)
       generalize (ds[j]'hlt)=d at c0 c1 HW HPx hv0 hvs
       obtain⟨var,ws⟩:=d
       simp only at c0 c1 HW HPx hv0 hvs
       obtain⟨iv,rfl⟩:=Int.eq_ofNat_of_zero_le hv0
       have hiv:iv < vs.length:=by have:=(List.getElem?_eq_some_iff.1 hvs).1;simpa using this
       have hivl:iv < (nthN vs q).length:=by rw[Hnl.out];exact hiv
       have ca:wr.cell? ⟨g,iv,none⟩=some (.int .i64 ((nthN vs q)[iv]'hivl)):=by
        have h:=keeps_of_below HBd.out _ _ (HI2.out.get rfl hivl)
        rw[Nat.zero_add,getD_at hivl] at h
        exact h
       have HPx2:Hid (PT (nthN vs q) (j+1)=(PT (nthN vs q) j && posW ws ((nthN vs q)[iv]'hivl))):=by
        show _=_
        rw[HPx.out,Int.toNat_natCast,getD_at hivl]
       generalize (nthN vs q)[iv]'hivl=xv at ca HPx2
       have hng:(0:Int)≤(iv:Int):=by omega
       have hkw:IntKind.i64.wrap ((j:Int)+1)=(j:Int)+1:=by rw[IntKind.wrap_i64];have:=HDI.out.2.1;omega
       clear g0 g1 hW kk HPx hvs
       go_wp2_with fail
       generalize hWA:wr.alloc (.cells #[.int .i64 (iv:Int),.slice aw ws.length cw] 76)=WA
       have hzA:WA.heap.size=wr.heap.size+1:=by rw[← hWA];simp
       have HBA:Hid (Below wr.heap.size wr WA):=by show Below _ _ _;rw[← hWA];exact bel
       have HkA:WA.heap[wr.heap.size]? = some (.cells #[.int .i64 (iv:Int),.slice aw ws.length cw] 76 (0,0)):=by rw[← hWA];exact heap_alloc_new' _ _
       clear hWA
       have x0:WA.cell? ⟨wr.heap.size,0,none⟩=some (.int .i64 (iv:Int)):=by simp[World.cell?,HkA]
       have x1:WA.cell? ⟨wr.heap.size,1,none⟩=some (.slice aw ws.length cw):=by simp[World.cell?,HkA]
       have d0:∀ gg:Grow WA.heap.size WA,gg.w'.cell? _=_:=Grow.old x0 (Nat.le_refl _)
       have d1:∀ gg:Grow WA.heap.size WA,gg.w'.cell? _=_:=Grow.old x1 (Nat.le_refl _)
       have d2:∀ gg:Grow WA.heap.size WA,gg.w'.cell? _=_:=Grow.old (keeps_of_below HBA.out _ _ ca) (Nat.le_refl _)
       have HPo:=Lib.hid (fun W (hW:Below WA.heap.size WA W)=>Positive_any ws aw cw xv W ((HW.out.keep (keeps_of_below HBA.out)).keep (keeps_of_below hW)))
       cases hcur:(ok0 && PT (nthN vs q) j)
       ·have HNx:Hid ((ok0 && PT (nthN vs q) (j+1))=false):=by show _=_;rw[HPx2.out,← Bool.and_assoc,hcur];rfl
        clear hcur
        (refine wp_region_grow (B:=WA.heap.size) (w0:=WA) (by kernel_rfl) (by kernel_rfl) bel ?_;(repeat (go_big_quiet_step (fail)));refine wpQuiet_nil ?_;intro wg hCg;have hbg:=grow_out hCg;clear hCg)
        go_wp2_with fail
        go_roundw
        case rel=>exact⟨j+1,by go_num,by omega,by rw[HNx.out],HBd.out.trans ((HBA.out.trans (hbg.mono HBA.out.size)).mono hzd)⟩
        case measure=>(simp[intOf];try omega)
       ·have HNx:Hid ((ok0 && PT (nthN vs q) (j+1))=posW ws xv):=by show _=_;rw[HPx2.out,← Bool.and_assoc,hcur];rfl
        clear hcur
        (refine wp_region_grow (B:=WA.heap.size) (w0:=WA) (by kernel_rfl) (by kernel_rfl) bel ?_;(repeat (go_big_quiet_step ((go_at_call 78;with_reducible exact grow_callS _ (HPo.out _ (Grow.h _))))));refine wpQuiet_nil ?_;intro wg hCg;have hbg:=grow_out hCg;clear hCg)
        go_wp2_with fail
        go_roundw
        case rel=>exact⟨j+1,by go_num,by omega,by rw[HNx.out],HBd.out.trans ((HBA.out.trans (hbg.mono HBA.out.size)).mono hzd)⟩
        case measure=>(simp[intOf];try omega)
      ·obtain rfl:j=ds.length:=by omega
       have HB3:=Lib.hid (HBj.out.trans (HBd.out.mono (by have:=HBj.out.size;simpa using this)))
       have HO3:=Lib.hid (ownsRow_below HO2.out HBd.out)
       have hz3:=HBd.out.size
       rw[HOk0.out] at HY HNs
       cases hall:(ok0 && PT (nthN vs q) ds.length)
       ·have HN9:=Lib.hid (HNs.out hall)
        have HN2:=Lib.hid (HN0.out q g vs.length (w.alloc (.cells #[.slice av vs.length cv,.slice ah hard.length ch,.slice ao soft.length co,.slice ad ds.length cd,.slice ag gs.length cg] 27)) wr ((Below.refl _ _).alloc (Nat.le_refl _) _) (by simpa using hg) (by rw[Hnl.out];exact HO3.out) (by simpa using HB3.out))
        rw[Hnl.out,advN_nth] at HN2
        simp only at HN2
        rw[HDec.out] at HN2
        clear hall HY HNs
        ((try clear b0 b1 b2 b3 b4);have b0:=box_cell HB3.out 0;have b1:=box_cell HB3.out 1;have b2:=box_cell HB3.out 2;have b3:=box_cell HB3.out 3;have b4:=box_cell HB3.out 4;(try simp at b0 b1 b2 b3 b4))
        go_wp2_with fail
        refine HN2.out.mono ?_
        rintro e wx ⟨rfl,hox,hbx⟩
        simp only[World.size_alloc] at hbx
        have HOx:=Lib.hid hox
        have HBx:=Lib.hid hbx
        clear hox hbx
        go_wp2_with fail
        go_roundg (totN vs - (q+1))
        case measure=>omega
        case rel=>exact⟨q+1,by omega,rfl,HN9,fun _=>HOx.out,HBx.out⟩
       ·have hR:=HY.out hall
        have HB3w:=Lib.hid (boxW _ HB3.out)
        clear hall HY HNs
        go_wp2_with fail
        first | exact⟨by rw[hR];rfl,HB3w.out⟩ | (go_ret;exact⟨by rw[hR];rfl,HB3w.out⟩)
  ·rw[decide_eq_false hq]
   have hR:=HNo.out fun k hk=>HNq.out k (by omega) hk
   clear hown hB
   go_wp2_with fail
   first | exact⟨by rw[hR];rfl,HBw.out⟩ | (go_ret;exact⟨by rw[hR];rfl,HBw.out⟩)
end Go.Proofs.YtcplmcjbkpmhdaaGreatDoor
