/- ref25: Explain. -/
import Derived.Test.YtcplmcjbkpmhdaaGreatDoorEN
import Derived.Test.YtcplmcjbkpmhdaaGreatDoorGE
import Derived.Test.YtcplmcjbkpmhdaaGreatDoorGJ
import Derived.Test.YtcplmcjbkpmhdaaGreatDoorGL
set_option linter.unusedSimpArgs false
set_option linter.unusedVariables false
set_option linter.unnecessarySimpa false
namespace Go.Proofs.YtcplmcjbkpmhdaaGreatDoor
open Go.RowKit
attribute [local go_sem ↓] Go.wp_at_zero Go.wp_at_succ
def RPrintE (B:Nat) (w0:World) (e:Ex) (s:ByteArray):Prop:=∀ a c W,Below B w0 W→B≤W.heap.size→ExIn W e a c→Calls Tryz.prog 68 #[.agg #[.int .i64 e.op,.int .i64 e.n,.string e.name,.slice a e.args.length c]] W (SPost s W)
set_option maxRecDepth 100000 in
set_option maxHeartbeats 4000000 in
theorem rprintE_of {B:Nat} {w0:World} {e:Ex} {s:ByteArray} (h:PlC B w0 e s) (hv:validS e=0) (hn:e.nodes.length≤1048576):RPrintE B w0 e s:=by
 intro a c w hw hz hX
 obtain⟨op,n,nm,args⟩:=e
 simp only[Ex.op_mk,Ex.n_mk,Ex.name_mk,Ex.args_mk]
 have hb0:Below w.heap.size w (w.alloc (.cells #[.int .i64 op,.int .i64 n,.string nm,.slice a args.length c] 55)):=(Below.refl _ _).alloc (Nat.le_refl _) _
 have HVa:=Lib.hid (rValid_any op n nm args a c _ (hX.keep (keeps_of_below hb0)) (by omega))
 rw[hv] at HVa
 have HT:=Lib.hid (fun W (hW:Below w.heap.size w W)=>h a c W (hw.trans (hW.mono hz)) (Nat.le_trans hz hW.size) (hX.keep (keeps_of_below hW)))
 have HBx:Hid (Below (w.heap.size+1) (w.alloc (.cells #[.int .i64 op,.int .i64 n,.string nm,.slice a args.length c] 55)) (w.alloc (.cells #[.int .i64 op,.int .i64 n,.string nm,.slice a args.length c] 55))):=Below.refl _ _
 have HP:Hid (∀ w',Below w.heap.size w w'→SPost s w (.returned (.string s)) w'):=fun w' h=>⟨rfl,h⟩
 simp only[Ex.op_mk,Ex.n_mk,Ex.name_mk,Ex.args_mk] at HT
 unfold SPost at HT
 generalize SPost s w=Po at HP⊢
 clear h hX hb0 hv hn
 generalize args.length=k at *
 go_enter Tryz.func68, Tryz.ntmps68
 go_wp2_with fail
 refine HVa.out.mono ?_
 rintro e w1 ⟨rfl,hb1⟩
 have HB1:=Lib.hid (HBx.out.trans (hb1.mono (by simp)))
 have HBw:=Lib.hid (boxWT _ HB1.out)
 have b0:=box_cellT HB1.out 0
 have b1:=box_cellT HB1.out 1
 have b2:=box_cellT HB1.out 2
 have b3:=box_cellT HB1.out 3
 simp at b0 b1 b2 b3
 clear hb1
 go_wp2_with fail
 refine(HT.out w1 HBw.out).mono ?_
 rintro e w2 ⟨rfl,hb2⟩
 have HPf:=Lib.hid (HP.out w2 (HBw.out.trans (hb2.mono HBw.out.size)))
 clear hb2
 go_wp2_with fail
 first | exact HPf.out | (go_ret;exact HPf.out)
set_option maxHeartbeats 8000000 in
set_option maxRecDepth 100000 in
theorem rExplain_any (p:ProbD) (x:ProbA) (w:World) (hE:ProbIn w p x) (hs:ProbSmall p) (hT:ProbOk p→bitsTo p.vars p.vars.length≤10) (hd:p.dists.length≤1048576) (hh:p.hard.length≤7)
  (hPr:∀ i (h:i < p.hard.length),i∈coreL p→RPrintE w.heap.size w (p.hard[i]'h) (textS (p.hard[i]'h))∧(textS (p.hard[i]'h)).size≤1099511627776) :
  Calls Tryz.prog 25 #[probVal p x] w fun e w'=>e=.returned (.tuple #[.string (explS p),.int .i64 (coreE p)])∧Below w.heap.size w w':=by
 have HC0:=Lib.hid (fun W (hW:Below w.heap.size w W)=>rCore_any p x W (hE.below hW) hs hT hd hh)
 unfold CoreRet at HC0
 by_cases he:coreE p=0
 ·rw[he] at HC0⊢
  have hlt:=coreL_lt p
  have hl7:(coreL p).length≤7:=Nat.le_trans (coreL_len p) hh
  have hln:∀ i,i∈coreL p→(lineC p i).size≤1099511627777:=fun i hi=>by
   rw[lineC_at (hlt i hi),ByteArray.size_append]
   have:=(hPr i (hlt i hi) hi).2
   show _+1≤_
   omega
  have HXl:=Lib.hid (expl_len hln)
  have HXs:Hid (∀ k (h:k < (coreL p).length),explN p ((coreL p).take (k+1))=(explN p ((coreL p).take k)++textS (p.hard[(coreL p)[k]'h]'(hlt _ (List.getElem_mem h))))++⟨#[10]⟩):=fun k h=>by rw[List.take_succ_eq_append_getElem h,explN_snoc,lineC_at (hlt _ (List.getElem_mem h)),ByteArray.append_assoc]
  have HX0:Hid (explN p ((coreL p).take 0)=⟨#[]⟩):=rfl
  have HXe:Hid (explN p ((coreL p).take (coreL p).length)=explS p):=by show _=_;rw[List.take_length];rfl
  obtain⟨X,hX⟩:∃ X:Nat→ByteArray,∀ k,explN p ((coreL p).take k)=X k:=⟨_,fun _=>rfl⟩
  simp only[hX] at HXl HXs HX0 HXe
  have HPr:Hid (∀ k (h:k < (coreL p).length),(textS (p.hard[(coreL p)[k]'h]'(hlt _ (List.getElem_mem h)))).size≤1099511627776∧∀ a c W,Below w.heap.size w W→ExIn W (p.hard[(coreL p)[k]'h]'(hlt _ (List.getElem_mem h))) a c→Calls Tryz.prog 68 #[.agg #[.int .i64 (p.hard[(coreL p)[k]'h]'(hlt _ (List.getElem_mem h))).op,.int .i64 (p.hard[(coreL p)[k]'h]'(hlt _ (List.getElem_mem h))).n,.string (p.hard[(coreL p)[k]'h]'(hlt _ (List.getElem_mem h))).name,.slice a (p.hard[(coreL p)[k]'h]'(hlt _ (List.getElem_mem h))).args.length c]] W fun e w'=>e=.returned (.string (textS (p.hard[(coreL p)[k]'h]'(hlt _ (List.getElem_mem h)))))∧Below W.heap.size W w'):=fun k h=>⟨(hPr _ (hlt _ (List.getElem_mem h)) (List.getElem_mem h)).2,fun a c W hW hX=>(hPr _ (hlt _ (List.getElem_mem h)) (List.getElem_mem h)).1 a c W hW hW.size hX⟩
  have HLt:=Lib.hid (fun k (h:k < (coreL p).length)=>hlt _ (List.getElem_mem h))
  have HH:=Lib.hid hE.hard
  generalize explS p=RES at HXe⊢
  generalize coreL p=L at *
  simp only[probVal_eq] at HC0⊢
  clear hE hs hT hd hX hln hPr he
  obtain⟨vs,hard,soft,ds,gs⟩:=p
  obtain⟨av,cv,ah,ch,ao,co,ad,cd,ag,cg⟩:=x
  simp only at HC0 HXs HPr HLt HH hh⊢
  have HC:=Lib.hid (HC0.out (w.alloc (.cells #[.slice av vs.length cv,.slice ah hard.length ch,.slice ao soft.length co,.slice ad ds.length cd,.slice ag gs.length cg] 27)) ((Below.refl _ _).alloc (Nat.le_refl _) _))
  clear HC0
  go_enter Tryz.func25, Tryz.ntmps25
  go_wp2_with fail
  refine HC.out.mono ?_
  rintro e w1 ⟨⟨v1,rfl,ho1⟩,hb1⟩
  simp only[World.size_alloc] at hb1
  have HB1:=Lib.hid hb1
  obtain⟨va,vc,rfl,hI1⟩:=valsN_ints ho1 (by omega)
  have HI1:=Lib.hid hI1
  clear hb1 ho1 hI1 HC
  go_wp2_with fail
  go_loopw [7,6] (fun i s wr=>∃ k:Nat,i=.int .i64 k∧k≤L.length∧s=.string (X k)∧Hid (IntsIn wr (intsN L) va vc)∧Hid (Below (w.heap.size+1) (w.alloc (.cells #[.slice av vs.length cv,.slice ah hard.length ch,.slice ao soft.length co,.slice ad ds.length cd,.slice ag gs.length cg] 27)) wr)) (fun i _ _=>L.length - (intOf i).toNat)
  case atStart=>exact⟨0,rfl,Nat.zero_le _,by rw[HX0.out],HI1,HB1⟩
  case round =>
   obtain⟨k,rfl,hk,rfl,HI,HB⟩:=hrel
   have HBw:=Lib.hid (boxW _ HB.out)
   ((try clear b0 b1 b2 b3 b4);have b0:=box_cell HB.out 0;have b1:=box_cell HB.out 1;have b2:=box_cell HB.out 2;have b3:=box_cell HB.out 3;have b4:=box_cell HB.out 4;(try simp at b0 b1 b2 b3 b4))
   have hkw:IntKind.i64.wrap ((k:Int)+1)=(k:Int)+1:=by rw[IntKind.wrap_i64];omega
   by_cases hlt:k < L.length
   ·have hj:=HLt.out k hlt
    obtain⟨hb,ho,hha⟩:=HH.out.addr.resolve_left (by omega)
    subst hha
    obtain⟨ib,io,hia⟩:=HI.out.addr.resolve_left (by rw[intsN_len];omega)
    subst hia
    have hlt9:k < (intsN L).length:=by rw[intsN_len];exact hlt
    have i0:=intsIn_get HI.out rfl hlt9
    rw[intsN_get hlt hlt9] at i0
    obtain⟨ea,ec,g0,g1,g2,g3,hX⟩:=HH.out.get rfl hj
    have kk:=keeps_of_below HBw.out
    have c0:=kk _ _ g0
    have c1:=kk _ _ g1
    have c2:=kk _ _ g2
    have c3:=kk _ _ g3
    have HXe:=Lib.hid (hX.keep kk)
    have HN:=Lib.hid (HXs.out k hlt)
    obtain⟨hps,hpc⟩:=HPr.out k hlt
    have HC:=Lib.hid (fun W (hW:Below wr.heap.size wr W)=>hpc ea ec W (HBw.out.trans (hW.mono HBw.out.size)) (HXe.out.keep (keeps_of_below hW)))
    have hxl:=HXl.out k
    generalize (hard[L[k]'hlt]'hj)=e at c0 c1 c2 c3 HXe HN hps HC
    generalize (L[k]'hlt)=j at i0 c0 c1 c2 c3 hj
    generalize textS e=S at HN hps HC
    have hj0:(0:Int)≤(j:Int):=by omega
    have hjl:(j:Int) < hard.length:=by omega
    have hk0:(0:Int)≤(k:Int):=by omega
    have hkl:(k:Int) < L.length:=by omega
    have hq:¬ 9223372036854775807 < (X k).size+S.size:=by omega
    have hq2:¬ 9223372036854775807 < (X k).size+S.size+1:=by omega
    have hq3:(X k++S).size=(X k).size+S.size:=ByteArray.size_append
    clear g0 g1 g2 g3 hX kk hpc
    have d0:∀ gg:Grow wr.heap.size wr,gg.w'.cell? _=_:=Grow.old b1 (Nat.le_refl _)
    have d1:∀ gg:Grow wr.heap.size wr,gg.w'.cell? _=_:=Grow.old i0 (Nat.le_refl _)
    have d2:∀ gg:Grow wr.heap.size wr,gg.w'.cell? _=_:=Grow.old c0 (Nat.le_refl _)
    have d3:∀ gg:Grow wr.heap.size wr,gg.w'.cell? _=_:=Grow.old c1 (Nat.le_refl _)
    have d4:∀ gg:Grow wr.heap.size wr,gg.w'.cell? _=_:=Grow.old c2 (Nat.le_refl _)
    have d5:∀ gg:Grow wr.heap.size wr,gg.w'.cell? _=_:=Grow.old c3 (Nat.le_refl _)
    go_wp2_with fail
    (refine wp_region_grow (B:=wr.heap.size) (w0:=wr) (by kernel_rfl) (by kernel_rfl) bel ?_;(repeat (go_big_quiet_step ((go_at_call 68;with_reducible exact grow_callB (Nat.le_refl _) _ (HC.out _ (Grow.h _))))));refine wpQuiet_nil ?_;intro wg hCg;have hbg:=grow_out hCg;clear hCg)
    go_wp2_with fail
    go_roundw
    case rel=>exact⟨k+1,by go_num,by omega,by rw[HN.out],HI.out.keep (keeps_of_below hbg),HB.out.trans (hbg.mono (by have:=HB.out.size;simpa using this))⟩
    case measure=>(simp[intOf];try omega)
   ·obtain rfl:k=L.length:=by omega
    rw[HXe.out]
    go_wp2_with fail
    first | exact⟨rfl,HBw.out⟩ | (go_ret2;exact⟨rfl,HBw.out⟩)
 ·have e2:=coreL_none he
  have e3:explS p=⟨#[]⟩:=by unfold explS;rw[e2];rfl
  have hb:(coreE p != 0)=true:=by simpa using he
  rw[e3]
  generalize coreE p=ce at HC0 hb he⊢
  simp only[probVal_eq] at HC0⊢
  clear hE hs hT hd hh hPr e2 e3
  obtain⟨vs,hard,soft,ds,gs⟩:=p
  obtain⟨av,cv,ah,ch,ao,co,ad,cd,ag,cg⟩:=x
  simp only at HC0⊢
  have HC:=Lib.hid (HC0.out (w.alloc (.cells #[.slice av vs.length cv,.slice ah hard.length ch,.slice ao soft.length co,.slice ad ds.length cd,.slice ag gs.length cg] 27)) ((Below.refl _ _).alloc (Nat.le_refl _) _))
  clear HC0
  go_enter Tryz.func25, Tryz.ntmps25
  go_wp2_with fail
  refine HC.out.mono ?_
  rintro e w1 ⟨⟨v1,rfl,ho1⟩,hb1⟩
  simp only[World.size_alloc] at hb1
  have HB1:=Lib.hid (boxW _ hb1)
  clear hb1 ho1 HC
  go_wp2_with fail
  first | exact⟨rfl,HB1.out⟩ | (go_ret2;exact⟨rfl,HB1.out⟩)
end Go.Proofs.YtcplmcjbkpmhdaaGreatDoor
namespace Go.Proofs.YtcplmcjbkpmhdaaGreatDoor
open Go.RowKit
attribute [local go_sem ↓] Go.wp_at_zero Go.wp_at_succ
theorem nameB_16 {l:List UInt8} (h:nameB l=true):l.length≤16:=by
 unfold nameB at h
 simp only[Bool.and_eq_true,decide_eq_true_eq] at h
 exact h.1.2
theorem no91 {l:List UInt8} (h:(91:UInt8)∉l):Lib.indexByte l 91 < 0:=by
 induction l with
 | nil=>simp[Lib.indexByte]
 | cons x l ih =>
  simp only[List.mem_cons,not_or] at h
  have h1:=ih h.2
  have h2:=Lib.indexByte_ge l 91
  have h3:Lib.indexByte l 91=-1:=by omega
  unfold Lib.indexByte
  rw[if_neg (fun e=>h.1 (by simpa using e:x=91).symm)]
  simp[h3]
theorem tx_okC {vs:List VarD} {e:Ex} (h:ExprOk vs e):TxOk e∧e.nodes.length≤400:=by
 refine⟨fun x hx=>?_,?_⟩
 ·have hx0:=valid_ok h.valid x hx
  have ha:=List.any_eq_false.1 h.arr x hx
  have h3:x.op≠3:=fun e=>ha (by unfold arrN;rw[e];rfl)
  have h24:x.op≠24:=fun e=>ha (by unfold arrN;rw[e];rfl)
  have hz:x.name.size=x.name.data.toList.length:=by rw[Array.length_toList];rfl
  have hn:=hx0
  unfold nodeS at hn
  split at hn
  ·simp at hn
  ·split at hn
   ·simp at hn
   ·split at hn
    ·simp at hn
    ·rename_i h7
     split at hn
     ·simp at hn
     ·rename_i h8
      simp only[not_or,not_and,Bool.not_eq_false] at h7 h8
      by_cases h2:x.op=2
      ·have hv:=h8.1 h2
       unfold varB at hv
       rw[Bool.or_eq_true] at hv
       rcases hv with hv | hv
       ·obtain⟨A,y,hA,hnA,_⟩:=(elemB_iff _).1 hv
        have:=nameB_16 hnA
        refine⟨hx0,h3,h24,?_,fun _=>Or.inr hv⟩
        rw[hz,hA]
        simp
        omega
       ·have:=nameB_16 hv
        refine⟨hx0,h3,h24,by rw[hz];omega,fun _=>Or.inl (no91 (nameB_no91 hv))⟩
      ·have h9:x.name.data.toList=[]:=by
        by_cases h9:x.name.data.toList=[]
        ·exact h9
        ·exact absurd h9 (by simpa using h7.1 ⟨h2,h3,h24⟩)
       refine⟨hx0,h3,h24,by rw[hz,h9];simp,fun h=>absurd h h2⟩
 ·have hv:=h.valid
  unfold validS at hv
  split at hv
  ·simp at hv
  ·rename_i h1
   rcases Nat.lt_or_ge 400 e.nodes.length with q | q
   ·exact absurd ⟨hv,Or.inr q⟩ h1
   ·exact q
theorem coreL_ok {p:ProbD} {i:Nat} (h:i∈coreL p):ProbOk p:=by
 unfold coreL at h
 split at h
 ·next hp=>exact pB_iff.1 hp
 ·simp at h
theorem pr_all {p:ProbD} {w:World} (hG:Glob w) (hT:Lib.TabIs Tryz.prog w "internal/strconv.uint64pow10" .u64 Lib.pow10Tab) (i:Nat) (h:i < p.hard.length) (hi:i∈coreL p) :
  (PrintC w.heap.size w (p.hard[i]'h) (textS (p.hard[i]'h))∧(textS (p.hard[i]'h)).size≤1099511627776)∧RPrintE w.heap.size w (p.hard[i]'h) (textS (p.hard[i]'h))∧(textS (p.hard[i]'h)).size≤1099511627776:=by
 have hv:=(coreL_ok hi).hard i h
 obtain⟨h1,h2⟩:=tx_okC hv
 have h3:=text_size _ h1
 have h4:(textS (p.hard[i]'h)).size≤1099511627776:=by omega
 exact⟨⟨print_of (text_all (fun n a b=>fmt_any w hT n a b) _ h1 h2) hv.valid (by omega) fun W hW=>hG.below hW,h4⟩,rprintE_of (plain_all _ h1 h2) hv.valid (by omega),h4⟩
set_option maxRecDepth 100000 in
set_option maxHeartbeats 8000000 in
theorem CoreExplains_any (p:ProbD) (x:ProbA) (w:World) (hE:ProbIn w p x) (hs:ProbSmall p) (hd:p.dists.length≤1048576) (hG:Glob w) (hT:Lib.TabIs Tryz.prog w "internal/strconv.uint64pow10" .u64 Lib.pow10Tab) :
  Calls Tryz.prog 5 #[probVal p x] w fun e w'=>e=.returned (.bool true)∧Below w.heap.size w w':=by
 have HSm0:=Lib.hid (fun W (hW:Below w.heap.size w W)=>small25_any p x W (hE.below hW) hs)
 have HTb:∀ W,Below w.heap.size w W→Lib.TabIs Tryz.prog W "internal/strconv.uint64pow10" .u64 Lib.pow10Tab:=fun W hW=>Go.Joins.tab_stays (g:=2) (by kernel_rfl) hT hW (Nat.le_refl _)
 have hlt:=coreL_lt p
 have HF0:=Lib.hid (fun (h:p.hard.length≤7∧(ProbOk p→bitsTo p.vars p.vars.length≤10)) W (hW:Below w.heap.size w W)=>(Core_any p x W (hE.below hW) hs (hG.below hW) h.2 hd h.1).mono (R':=fun e w'=>(∃ a c,e=.returned (.tuple #[.slice a (coreL p).length c,.int .i64 (coreE p)])∧IntsIn w' (intsN (coreL p)) a c)∧Below W.heap.size W w') fun e w' ⟨⟨v,h1,h2⟩,h3⟩=>by
  obtain⟨a,c,rfl,hI⟩:=valsN_ints h2 (by have:=coreL_len p;omega)
  exact⟨⟨a,c,h1,hI⟩,h3⟩)
 have HR0:=Lib.hid (fun (h:p.hard.length≤7∧(ProbOk p→bitsTo p.vars p.vars.length≤10)) W (hW:Below w.heap.size w W)=>(rCore_any p x W (hE.below hW) hs h.2 hd h.1).mono (R':=fun e w'=>(∃ a c,e=.returned (.tuple #[.slice a (coreL p).length c,.int .i64 (coreE p)])∧IntsIn w' (intsN (coreL p)) a c)∧Below W.heap.size W w') fun e w' ⟨⟨v,h1,h2⟩,h3⟩=>by
  obtain⟨a,c,rfl,hI⟩:=valsN_ints h2 (by have:=coreL_len p;omega)
  exact⟨⟨a,c,h1,hI⟩,h3⟩)
 have HX0:=Lib.hid (fun (h:p.hard.length≤7∧(ProbOk p→bitsTo p.vars p.vars.length≤10)) W (hW:Below w.heap.size w W)=>Explain_any p x W (hE.below hW) hs (hG.below hW) h.2 hd h.1 (fun i hi hm=>(pr_all (hG.below hW) (HTb W hW) i hi hm).1))
 have HY0:=Lib.hid (fun (h:p.hard.length≤7∧(ProbOk p→bitsTo p.vars p.vars.length≤10)) W (hW:Below w.heap.size w W)=>rExplain_any p x W (hE.below hW) hs h.2 hd h.1 (fun i hi hm=>(pr_all (hG.below hW) (HTb W hW) i hi hm).2))
 have HAw:=Lib.hid (fun W (hW:Below w.heap.size w W)=>awake25_any W (hG.below hW))
 have HIn:=Lib.hid (fun W aa ca ab cb (hA:IntsIn W (intsN (coreL p)) aa ca) (hB:IntsIn W (intsN (coreL p)) ab cb)=>SameInts_any (intsN (coreL p)) aa ca (intsN (coreL p)) ab cb W hA hB)
 simp only[decide_true,intsN_len] at HIn
 generalize intsN (coreL p)=L at HF0 HR0 HIn
 generalize (coreL p).length=n at HF0 HR0 HIn
 generalize coreE p=err at HF0 HR0 HX0 HY0
 generalize explS p=S at HX0 HY0
 clear hE hs hG hd hT HTb hlt
 simp only[probVal_eq] at HSm0 HF0 HR0 HX0 HY0⊢
 obtain⟨vs,hard,soft,ds,gs⟩:=p
 obtain⟨av,cv,ah,ch,ao,co,ad,cd,ag,cg⟩:=x
 simp only at HSm0 HF0 HR0 HX0 HY0⊢
 have HSm:=Lib.hid (HSm0.out (w.alloc (.cells #[.slice av vs.length cv,.slice ah hard.length ch,.slice ao soft.length co,.slice ad ds.length cd,.slice ag gs.length cg] 27)) ((Below.refl _ _).alloc (Nat.le_refl _) _))
 clear HSm0
 go_enter Tryz.func5, Tryz.ntmps5
 go_wp2_with fail
 refine HSm.out.mono ?_
 rintro e w1 ⟨⟨b,rfl,hbf⟩,hb1⟩
 simp only[World.size_alloc] at hb1
 have HB1:=Lib.hid hb1
 have hz1:=hb1.size
 simp only[World.size_alloc] at hz1
 clear hb1
 cases b
 ·clear hbf
  go_wp2_with fail
  refine(HAw.out w1 (boxW _ HB1.out)).mono ?_
  rintro e w2 ⟨rfl,hb2⟩
  have HB2:Hid (Below w.heap.size w w2):=(boxW _ HB1.out).trans (hb2.mono (boxW _ HB1.out).size)
  clear hb2
  go_wp2_with fail
  go_ret
  exact⟨rfl,HB2.out⟩
 ·have HFo:=Lib.hid (hbf rfl)
  clear hbf
  ((try clear b0 b1 b2 b3 b4);have b0:=box_cell HB1.out 0;have b1:=box_cell HB1.out 1;have b2:=box_cell HB1.out 2;have b3:=box_cell HB1.out 3;have b4:=box_cell HB1.out 4;(try simp at b0 b1 b2 b3 b4))
  go_wp2_with fail
  refine(HF0.out HFo.out w1 (boxW _ HB1.out)).mono ?_
  rintro e w2 ⟨⟨a2,c2,rfl,hI2⟩,hb2⟩
  have HB2:=Lib.hid (HB1.out.trans (hb2.mono hz1))
  have HI2:=Lib.hid hI2
  have hz2:=HB2.out.size
  simp only[World.size_alloc] at hz2
  clear hb2 hI2 b0 b1 b2 b3 b4
  ((try clear b0 b1 b2 b3 b4);have b0:=box_cell HB2.out 0;have b1:=box_cell HB2.out 1;have b2:=box_cell HB2.out 2;have b3:=box_cell HB2.out 3;have b4:=box_cell HB2.out 4;(try simp at b0 b1 b2 b3 b4))
  go_wp2_with fail
  refine(HR0.out HFo.out w2 (boxW _ HB2.out)).mono ?_
  rintro e w3 ⟨⟨a3,c3,rfl,hI3⟩,hb3⟩
  have HB3:=Lib.hid (HB2.out.trans (hb3.mono hz2))
  have HJ2:=Lib.hid (HI2.out.keep (keeps_of_below hb3))
  have HI3:=Lib.hid hI3
  have hz3:=HB3.out.size
  simp only[World.size_alloc] at hz3
  clear hb3 hI3 b0 b1 b2 b3 b4
  ((try clear b0 b1 b2 b3 b4);have b0:=box_cell HB3.out 0;have b1:=box_cell HB3.out 1;have b2:=box_cell HB3.out 2;have b3:=box_cell HB3.out 3;have b4:=box_cell HB3.out 4;(try simp at b0 b1 b2 b3 b4))
  go_wp2_with fail
  refine(HX0.out HFo.out w3 (boxW _ HB3.out)).mono ?_
  rintro e w4 ⟨rfl,hb4⟩
  have HB4:=Lib.hid (HB3.out.trans (hb4.mono hz3))
  have HK2:=Lib.hid (HJ2.out.keep (keeps_of_below hb4))
  have HK3:=Lib.hid (HI3.out.keep (keeps_of_below hb4))
  have hz4:=HB4.out.size
  simp only[World.size_alloc] at hz4
  clear hb4 b0 b1 b2 b3 b4
  ((try clear b0 b1 b2 b3 b4);have b0:=box_cell HB4.out 0;have b1:=box_cell HB4.out 1;have b2:=box_cell HB4.out 2;have b3:=box_cell HB4.out 3;have b4:=box_cell HB4.out 4;(try simp at b0 b1 b2 b3 b4))
  go_wp2_with fail
  refine(HY0.out HFo.out w4 (boxW _ HB4.out)).mono ?_
  rintro e w5 ⟨rfl,hb5⟩
  have HB5:=Lib.hid (HB4.out.trans (hb5.mono hz4))
  have HC5:=Lib.hid (HIn.out w5 a2 c2 a3 c3 (HK2.out.keep (keeps_of_below hb5)) (HK3.out.keep (keeps_of_below hb5)))
  clear hb5 b0 b1 b2 b3 b4
  have hee:(err == err)=true:=by simp
  go_wp2_with fail
  refine HC5.out.mono ?_
  rintro e w6 ⟨rfl,hb6⟩
  have HB6:Hid (Below w.heap.size w w6):=(boxW _ HB5.out).trans (hb6.mono (boxW _ HB5.out).size)
  clear hb6
  go_wp2_with fail
  refine(HAw.out w6 HB6.out).mono ?_
  rintro e w7 ⟨rfl,hb7⟩
  have HB7:Hid (Below w.heap.size w w7):=HB6.out.trans (hb7.mono HB6.out.size)
  clear hb7
  go_wp2_with fail
  go_ret
  exact⟨rfl,HB7.out⟩
end Go.Proofs.YtcplmcjbkpmhdaaGreatDoor
