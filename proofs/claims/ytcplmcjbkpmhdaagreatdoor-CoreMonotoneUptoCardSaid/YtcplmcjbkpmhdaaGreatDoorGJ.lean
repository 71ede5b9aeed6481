/- core, plain: the text of the core. -/
import Derived.Test.YtcplmcjbkpmhdaaGreatDoorGA
import Derived.Test.YtcplmcjbkpmhdaaGreatDoorEM
import Derived.Test.YtcplmcjbkpmhdaaGreatDoorDC
import Derived.Lib.Builder
import Derived.Lib.AppendStr
import Derived.Lib.UnsafeStr
import Derived.Laws.Externs
import Derived.Test.YtcplmcjbkpmhdaaGreatDoorGB
import Derived.Test.YtcplmcjbkpmhdaaGreatDoorShelf
set_option linter.unusedSimpArgs false
set_option linter.unusedVariables false
set_option linter.unnecessarySimpa false
namespace Go.Proofs.YtcplmcjbkpmhdaaGreatDoor
noncomputable def lineC (p:ProbD) (i:Nat):ByteArray:=match p.hard[i]? with
 | some e=>textS e++⟨#[10]⟩
 | none=>⟨#[]⟩
noncomputable def explN (p:ProbD) (l:List Nat):ByteArray:=l.foldl (fun s i=>s++lineC p i) ⟨#[]⟩
theorem explN_snoc (p:ProbD) (l:List Nat) (i:Nat):explN p (l++[i])=explN p l++lineC p i:=by
 unfold explN
 rw[List.foldl_append]
 rfl
theorem lineC_at {p:ProbD} {i:Nat} (h:i < p.hard.length):lineC p i=textS (p.hard[i]'h)++⟨#[10]⟩:=by
 unfold lineC
 rw[List.getElem?_eq_getElem h]
noncomputable def explS (p:ProbD):ByteArray:=explN p (coreL p)
end Go.Proofs.YtcplmcjbkpmhdaaGreatDoor
namespace Go.Proofs.YtcplmcjbkpmhdaaGreatDoor
open Go.RowKit
attribute [local go_sem ↓] Go.wp_at_zero Go.wp_at_succ
abbrev PrAtB (B b:Nat) (p:Value) (bs:List Value) (w:World):Prop:=Lib.BuilderAt 95 5 B b p bs w
abbrev IsPrB (B b:Nat) (bs:List Value) (w:World):Prop:=Lib.IsBuilder 95 5 B b bs w
theorem sizeBldB:(Tryz.prog.info? 95).map (·.size)=some 2:=by kernel_rfl
theorem liesPrB:liesAt Tryz.prog Tryz.prog.depth 95 (2 / Tryz.prog.cellsOf 95) 0 95 1=true:=by kernel_rfl
set_option maxHeartbeats 1000000 in
set_option maxRecDepth 100000 in
theorem pr_usedB (b:Nat) (w:World) (h0:w.cell? ⟨b,0,none⟩=some (.pointer (some ⟨b,0,none⟩))) :
  Calls Tryz.prog 119 #[.pointer (some ⟨b,0,none⟩)] w fun e w'=>e=.returned (.tuple #[])∧w'=w:=by
 obtain⟨j,hj,_⟩:=Option.map_eq_some_iff.1 sizeBldB
 go_enter Tryz.func119, Tryz.ntmps119
 go_wp2
 rw[Lib.run_neq_ptr_same w _ Tryz.underlying92 hj]
 go_wp2
 go_end0
 exact⟨rfl,rfl⟩
set_option maxHeartbeats 1000000 in
set_option maxRecDepth 100000 in
theorem pr_freshB (b:Nat) (w:World) (h0:w.cell? ⟨b,0,none⟩=some (.pointer none)) (hsh:w.shape? b=some (95,2)) (hfz:w.frozen? ⟨b,0,none⟩=false) :
  Calls Tryz.prog 119 #[.pointer (some ⟨b,0,none⟩)] w fun e w'=>e=.returned (.tuple #[])∧w'=w.setCell ⟨b,0,none⟩ (.pointer (some ⟨b,0,none⟩)):=by
 obtain⟨j,hj,hjs⟩:=Option.map_eq_some_iff.1 sizeBldB
 go_enter Tryz.func119, Tryz.ntmps119
 go_wp2
 rw[Lib.run_to_unsafe w ⟨b,0,none⟩ Tryz.underlying92 Tryz.underlying174 hj (by rw[hjs];decide) hsh (Nat.zero_lt_succ 1)]
 simp only[Result.andThen]
 rw[Oper.upon_value]
 go_wp2
 rw[run_callFunc_extern Tryz.func169 (by kernel_rfl) (by kernel_rfl) (by kernel_rfl) (e:=Extern.AbiNoEscape.same) (by kernel_rfl)]
 rw[Lib.run_noEscape]
 simp only[Result.andThen]
 rw[Oper.upon_value]
 go_wp2
 rw[Lib.run_from_unsafe w ⟨b,0,none⟩ Tryz.underlying174 Tryz.underlying92 hj hsh liesPrB]
 simp only[Result.andThen]
 rw[Oper.upon_value]
 go_wp2
 go_end0
 exact⟨rfl,rfl⟩
def PrFrB (b:Nat) (w w':World):Prop:=∀ k cs T z,w.heap[k]? = some (.cells cs T z)→T≠5→k≠b→w'.heap[k]? = some (.cells cs T z)
theorem PrFrB.refl (b:Nat) (w:World):PrFrB b w w:=fun _ _ _ _ h _ _=>h
theorem PrFrB.trans {b:Nat} {w w' w'':World} (h:PrFrB b w w') (h':PrFrB b w' w''):PrFrB b w w'':=fun k cs T z h1 h2 h3=>h' k cs T z (h k cs T z h1 h2 h3) h2 h3
theorem PrFrB.of_below {b:Nat} {w w':World} (h:Below w.heap.size w w'):PrFrB b w w':=fun k _ _ _ h1 _ _=>(h.block k (lt_of_block h1)).trans h1
theorem PrFrB.of_set {b o:Nat} {v:Value} (w:World):PrFrB b w (w.setCell ⟨b,o,none⟩ v):=fun k _ _ _ h1 _ h3=>by rw[Below.heap_setCell _ _ _ _ h3];exact h1
theorem PrFrB.of_own {b B n:Nat} {v:Value} {xs:List Value} {w w':World} (ho:w.ownsRow B 5 1 v n xs) (hg:w.grownBy w' v.ownBlock):PrFrB b w w':=fun k _ _ _ h1 h2 _=>(hg.block k (lt_of_block h1) (ownsRow_ne ho h1 h2)).trans h1
theorem pr_checkB (B b:Nat) (bs:List Value) (w:World) (h:IsPrB B b bs w) :
  Calls Tryz.prog 119 #[.pointer (some ⟨b,0,none⟩)] w fun e w'=>e=.returned (.tuple #[])∧(PrAtB B b (.pointer (some ⟨b,0,none⟩)) bs w'∧Below B w w'∧PrFrB b w w'):=by
 rcases h with h | h
 ·refine(pr_freshB b w h.cell0 h.shape h.frozen0).mono ?_
  rintro e w' ⟨rfl,rfl⟩
  exact⟨rfl,h.used _,(Below.refl B w).setCell (p:=⟨b,0,none⟩) h.1 _,PrFrB.of_set w⟩
 ·refine(pr_usedB b w h.cell0).mono ?_
  rintro e w' ⟨rfl,rfl⟩
  exact⟨rfl,h,Below.refl B _,PrFrB.refl _ _⟩
set_option maxHeartbeats 2000000 in
set_option maxRecDepth 100000 in
theorem pr_writeB (B b:Nat) (bs:List Value) (s:ByteArray) (w:World) (h:IsPrB B b bs w) (hlen:bs.length+s.size≤140737488355328) (hBw:B≤w.heap.size) :
  Calls Tryz.prog 65 #[.pointer (some ⟨b,0,none⟩),.string s] w fun e w'=>e=.returned (.tuple #[.int .i64 s.size,.nilIface])∧(PrAtB B b (.pointer (some ⟨b,0,none⟩)) (bs++Lib.strCells s) w'∧Below B w w'∧PrFrB b w w'):=by
 have hi0:(Tryz.prog.info? 5).map (fun i=>(i.zero,i.size,i.bytes))=some (some (.int .u8 0),1,1):=by kernel_rfl
 obtain⟨i0,hi,hz0,hz1,hz2⟩:=info_parts hi0
 have HC:=Lib.hid (pr_checkB B b bs w h)
 go_enter Tryz.func65, Tryz.ntmps65
 go_wp2_with fail
 refine HC.out.mono ?_
 rintro e w1 ⟨rfl,h1,hb1,hf1⟩
 have HF1:=Lib.hid hf1
 clear hf1
 obtain⟨hB,v,hbk,hown,hne⟩:=h1
 have c0:w1.cell? ⟨b,0,none⟩=some (.pointer (some ⟨b,0,none⟩)):=by rw[Lib.cell_of_heap hbk];rfl
 have c1:w1.cell? ⟨b,1,none⟩=some v:=by rw[Lib.cell_of_heap hbk];rfl
 go_wp2_with (at_builtin;refine Lib.wpList_append_own_string _ rfl _ _ 93 9 rfl B 5 i0 Tryz.underlying93 Tryz.underlying9 hi hz0 hz1 hz2 _ _ _ rfl hown s rfl ?c3 ?c4 ?c5 ?_)
 case c3=>unfold maxLen;omega
 case c4=>omega
 case c5=>have:=hb1.size;omega
 intro v' w2 hown' hgrow _
 have HF2:=Lib.hid (HF1.out.trans (PrFrB.of_own (b:=b) hown hgrow))
 have hlt:b < w1.heap.size:=lt_of_block hbk
 have hb2:w2.heap[b]? = some (.cells #[.pointer (some ⟨b,0,none⟩),v] 95 (0,0)):=by
  rw[hgrow.block b hlt (fun e=>hne e.symm)]
  exact hbk
 have d0:w2.cell? ⟨b,0,none⟩=some (.pointer (some ⟨b,0,none⟩)):=by rw[Lib.cell_of_heap hb2];rfl
 have d1:w2.cell? ⟨b,1,none⟩=some v:=by rw[Lib.cell_of_heap hb2];rfl
 have f1:w2.frozen? ⟨b,1,none⟩=false:=Lib.frozen_of_heap hb2 1
 obtain⟨ao,n',cap,rfl⟩:∃ ao n' cap,v'=.slice ao n' cap:=by
  rcases hown'.2 with ⟨hv,_⟩ | ⟨g,cap,cur,hv,_⟩
  ·exact⟨_,_,_,hv⟩
  ·exact⟨_,_,_,hv⟩
 go_wp2_with fail
 go_ret2
 refine⟨rfl,?_,?_,HF2.out.trans (PrFrB.of_set _)⟩
 ·exact Lib.BuilderAt.put (T:=95) (e:=5) hB hb2 (bs':=bs++Lib.strCells s) (by simpa [Lib.strCells_length] using hown') (by decide)
 ·exact(hb1.grown hgrow (by have:=hb1.size;omega) (fun k hk=>(hown.lt k hk).1)).setCell (p:=⟨b,1,none⟩) hB _
end Go.Proofs.YtcplmcjbkpmhdaaGreatDoor
namespace Go.Proofs.YtcplmcjbkpmhdaaGreatDoor
open Go.RowKit
attribute [local go_sem ↓] Go.wp_at_zero Go.wp_at_succ
theorem isPrB_below {B b:Nat} {bs:List Value} {w w':World} (h:IsPrB B b bs w) (hb:Below w.heap.size w w'):IsPrB B b bs w' :=
 h.imp (fun ⟨h1,v,h2,h3,h4⟩=>⟨h1,v,(hb.block _ (lt_of_block h2)).trans h2,ownsRow_below h3 hb,h4⟩) (fun ⟨h1,v,h2,h3,h4⟩=>⟨h1,v,(hb.block _ (lt_of_block h2)).trans h2,ownsRow_below h3 hb,h4⟩)
theorem own_prfrB {B b B' n:Nat} {w w':World} {u:Value} {ys bs:List Value} (h:w.ownsRow B' 3 1 u n ys) (hf:PrFrB b w w') (hp:IsPrB B b bs w):w'.ownsRow B' 3 1 u n ys:=by
 refine⟨h.1,?_⟩
 rcases h.2 with h0 | ⟨g,cap,cur,h1,h2,h3,h4⟩
 ·exact Or.inl h0
 ·refine Or.inr ⟨g,cap,cur,h1,h2,hf g _ _ _ h3 (by decide) (fun e=>?_),h4⟩
  subst e
  rcases hp with ⟨_,v,h5,_⟩ | ⟨_,v,h5,_⟩
  ·rw[h3] at h5;simp at h5
  ·rw[h3] at h5;simp at h5
theorem coreL_lt (p:ProbD):∀ i,i∈coreL p→i < p.hard.length:=fun i hi=>by
 unfold coreL at hi
 split at hi
 ·split at hi
  ·exact(coreW_asc (asc_range _)).2 i hi
  ·simp at hi
 ·simp at hi
theorem coreL_len (p:ProbD):(coreL p).length≤p.hard.length:=by
 unfold coreL
 split
 ·split
  ·exact asc_len (coreW_asc (asc_range _))
  ·simp
 ·simp
theorem coreL_none {p:ProbD} (h:coreE p≠0):coreL p=[]:=by
 unfold coreE at h
 unfold coreL
 split
 ·next h1 =>
  rw[if_pos h1] at h
  split
  ·next h2=>rw[if_pos h2] at h;exact absurd rfl h
  ·rfl
 ·rfl
theorem strCells_bytes (s:ByteArray):Lib.strCells s=Lib.byteCells s.data.toList:=rfl
theorem strCells_app (s t:ByteArray):Lib.strCells (s++t)=Lib.strCells s++Lib.strCells t:=by
 rw[strCells_bytes,strCells_bytes,strCells_bytes,← Lib.byteCells_append]
 simp
theorem expl_len {p:ProbD} {l:List Nat} {M:Nat} (h:∀ i,i∈l→(lineC p i).size≤M):∀ k,(explN p (l.take k)).size≤k * M:=by
 intro k
 induction k with
 | zero=>exact Nat.zero_le _
 | succ k ih =>
  by_cases hk:k < l.length
  ·rw[List.take_succ_eq_append_getElem hk,explN_snoc,ByteArray.size_append,Nat.succ_mul]
   exact Nat.add_le_add ih (h _ (List.getElem_mem hk))
  ·rw[List.take_of_length_le (by omega)]
   rw[List.take_of_length_le (by omega)] at ih
   rw[Nat.succ_mul]
   omega
set_option maxHeartbeats 8000000 in
set_option maxRecDepth 100000 in
theorem Explain_any (p:ProbD) (x:ProbA) (w:World) (hE:ProbIn w p x) (hs:ProbSmall p) (hG:Glob w) (hT:ProbOk p→bitsTo p.vars p.vars.length≤10) (hd:p.dists.length≤1048576) (hh:p.hard.length≤7)
  (hPr:∀ i (h:i < p.hard.length),i∈coreL p→PrintC w.heap.size w (p.hard[i]'h) (textS (p.hard[i]'h))∧(textS (p.hard[i]'h)).size≤1099511627776) :
  Calls Tryz.prog 24 #[probVal p x] w fun e w'=>e=.returned (.tuple #[.string (explS p),.int .i64 (coreE p)])∧Below w.heap.size w w':=by
 have HC0:=Lib.hid (fun W (hW:Below w.heap.size w W)=>Core_any p x W (hE.below hW) hs (hG.below hW) hT hd hh)
 unfold CoreRet at HC0
 by_cases he:coreE p=0
 ·rw[he] at HC0⊢
  have hlt:=coreL_lt p
  have hl7:(coreL p).length≤7:=Nat.le_trans (coreL_len p) hh
  have hln:∀ i,i∈coreL p→(lineC p i).size≤1099511627777:=fun i hi=>by
   rw[lineC_at (hlt i hi),ByteArray.size_append]
   have:=(hPr i (hlt i hi) hi).2
   show _+1≤_
   omega
  have HXl:=Lib.hid (expl_len hln)
  have HXs:Hid (∀ k (h:k < (coreL p).length),explN p ((coreL p).take (k+1))=explN p ((coreL p).take k)++(textS (p.hard[(coreL p)[k]'h]'(hlt _ (List.getElem_mem h)))++⟨#[10]⟩)):=fun k h=>by rw[List.take_succ_eq_append_getElem h,explN_snoc,lineC_at (hlt _ (List.getElem_mem h))]
  have HX0:Hid (explN p ((coreL p).take 0)=⟨#[]⟩):=rfl
  have HXe:Hid (explN p ((coreL p).take (coreL p).length)=explS p):=by show _=_;rw[List.take_length];rfl
  obtain⟨X,hX⟩:∃ X:Nat→ByteArray,∀ k,explN p ((coreL p).take k)=X k:=⟨_,fun _=>rfl⟩
  simp only[hX] at HXl HXs HX0 HXe
  have HPr:Hid (∀ k (h:k < (coreL p).length),(textS (p.hard[(coreL p)[k]'h]'(hlt _ (List.getElem_mem h)))).size≤1099511627776∧∀ a c W,Below w.heap.size w W→ExIn W (p.hard[(coreL p)[k]'h]'(hlt _ (List.getElem_mem h))) a c→Calls Tryz.prog 66 #[.agg #[.int .i64 (p.hard[(coreL p)[k]'h]'(hlt _ (List.getElem_mem h))).op,.int .i64 (p.hard[(coreL p)[k]'h]'(hlt _ (List.getElem_mem h))).n,.string (p.hard[(coreL p)[k]'h]'(hlt _ (List.getElem_mem h))).name,.slice a (p.hard[(coreL p)[k]'h]'(hlt _ (List.getElem_mem h))).args.length c]] W fun e w'=>e=.returned (.string (textS (p.hard[(coreL p)[k]'h]'(hlt _ (List.getElem_mem h)))))∧Below W.heap.size W w'):=fun k h=>⟨(hPr _ (hlt _ (List.getElem_mem h)) (List.getElem_mem h)).2,fun a c W hW hX=>(hPr _ (hlt _ (List.getElem_mem h)) (List.getElem_mem h)).1 a c W hW hW.size hX⟩
  have HLt:=Lib.hid (fun k (h:k < (coreL p).length)=>hlt _ (List.getElem_mem h))
  have HH:=Lib.hid hE.hard
  generalize explS p=RES at HXe⊢
  generalize coreL p=L at *
  simp only[probVal_eq] at HC0⊢
  clear hE hs hG hT hd hX hln hPr he
  obtain⟨vs,hard,soft,ds,gs⟩:=p
  obtain⟨av,cv,ah,ch,ao,co,ad,cd,ag,cg⟩:=x
  simp only at HC0 HXs HPr HLt HH hh⊢
  have HC:=Lib.hid (HC0.out (w.alloc (.cells #[.slice av vs.length cv,.slice ah hard.length ch,.slice ao soft.length co,.slice ad ds.length cd,.slice ag gs.length cg] 27)) ((Below.refl _ _).alloc (Nat.le_refl _) _))
  clear HC0
  go_enter Tryz.func24, Tryz.ntmps24
  go_wp2_with fail
  refine HC.out.mono ?_
  rintro e w1 ⟨⟨v1,rfl,ho1⟩,hb1⟩
  simp only[World.size_alloc] at hb1
  have HB1:=Lib.hid hb1
  have hz1:=hb1.size
  simp only[World.size_alloc] at hz1
  obtain⟨va,vc,rfl,-⟩:=valsN_ints ho1 (by omega)
  have HO1:=Lib.hid ho1
  clear hb1 ho1 HC
  ((try clear b0 b1 b2 b3 b4);have b0:=box_cell HB1.out 0;have b1:=box_cell HB1.out 1;have b2:=box_cell HB1.out 2;have b3:=box_cell HB1.out 3;have b4:=box_cell HB1.out 4;(try simp at b0 b1 b2 b3 b4))
  go_wp2_with fail
  have HB2:=Lib.hid (HB1.out.alloc (B:=w.heap.size+1) hz1 (.cells #[.pointer none,.slice none 0 0] 95))
  have HP2:Hid (IsPrB (w.heap.size+1) w1.heap.size (Lib.strCells (X 0)) (w1.alloc (.cells #[.pointer none,.slice none 0 0] 95))):=by
   show IsPrB _ _ _ _
   rw[HX0.out]
   exact Or.inl ⟨hz1,_,heap_alloc_at _ _ _ rfl,World.ownsRow_nil _ _ _ _,by simp[Value.ownBlock]⟩
  have HO2:=Lib.hid (ownsRow_below HO1.out ((Below.refl _ w1).alloc (Nat.le_refl _) (.cells #[.pointer none,.slice none 0 0] 95)))
  generalize w1.alloc (.cells #[.pointer none,.slice none 0 0] 95)=w2 at HB2 HP2 HO2⊢
  generalize w1.heap.size=bb at HP2⊢
  clear HB1 HO1 b0 b1 b2 b3 b4 hz1
  go_loopw [19,8] (fun i _ wr=>∃ k:Nat,i=.int .i64 k∧k≤L.length∧Hid (IsPrB (w.heap.size+1) bb (Lib.strCells (X k)) wr)∧Hid (wr.ownsRow 0 3 1 (.slice va L.length vc) L.length (valsN L))∧Hid (Below (w.heap.size+1) (w.alloc (.cells #[.slice av vs.length cv,.slice ah hard.length ch,.slice ao soft.length co,.slice ad ds.length cd,.slice ag gs.length cg] 27)) wr)) (fun i _ _=>L.length - (intOf i).toNat)
  case atStart=>exact⟨0,rfl,Nat.zero_le _,HP2,HO2,HB2⟩
  case round =>
   obtain⟨k,rfl,hk,HP,HO,HB⟩:=hrel
   have HBw:=Lib.hid (boxW _ HB.out)
   ((try clear b0 b1 b2 b3 b4);have b0:=box_cell HB.out 0;have b1:=box_cell HB.out 1;have b2:=box_cell HB.out 2;have b3:=box_cell HB.out 3;have b4:=box_cell HB.out 4;(try simp at b0 b1 b2 b3 b4))
   have hzr:=HB.out.size
   simp only[World.size_alloc] at hzr
   have hkw:IntKind.i64.wrap ((k:Int)+1)=(k:Int)+1:=by rw[IntKind.wrap_i64];omega
   by_cases hlt:k < L.length
   ·have hj:=HLt.out k hlt
    obtain⟨hb,ho,hha⟩:=HH.out.addr.resolve_left (by omega)
    subst hha
    obtain⟨_,_,hva,hI⟩:=valsN_ints HO.out (by omega)
    injection hva with q1 _ q3
    subst q1 q3
    obtain⟨ib,io,hia⟩:=hI.addr.resolve_left (by rw[intsN_len];omega)
    subst hia
    have hlt9:k < (intsN L).length:=by rw[intsN_len];exact hlt
    have i0:=intsIn_get hI rfl hlt9
    rw[intsN_get hlt hlt9] at i0
    obtain⟨ea,ec,g0,g1,g2,g3,hX⟩:=HH.out.get rfl hj
    have kk:=keeps_of_below HBw.out
    have c0:=kk _ _ g0
    have c1:=kk _ _ g1
    have c2:=kk _ _ g2
    have c3:=kk _ _ g3
    have HXe:=Lib.hid (hX.keep kk)
    have HN:=Lib.hid (HXs.out k hlt)
    obtain⟨hps,hpc⟩:=HPr.out k hlt
    have HC:=Lib.hid (hpc ea ec wr HBw.out HXe.out)
    have hxl:=HXl.out k
    generalize (hard[L[k]'hlt]'hj)=e at c0 c1 c2 c3 HXe HN hps HC
    generalize (L[k]'hlt)=j at i0 c0 c1 c2 c3 hj
    generalize textS e=S at HN hps HC
    have hj0:(0:Int)≤(j:Int):=by omega
    have hjl:(j:Int) < hard.length:=by omega
    have hq:¬ 9223372036854775807 < S.size+1:=by omega
    have hw2:(Lib.strCells (X k)).length+(S++⟨#[10]⟩).size≤140737488355328:=by
     rw[Lib.strCells_length,ByteArray.size_append]
     show _+(_+1)≤_
     omega
    have HWr:=Lib.hid (fun W (h:IsPrB (w.heap.size+1) bb (Lib.strCells (X k)) W) hz=>pr_writeB (w.heap.size+1) bb (Lib.strCells (X k)) (S++⟨#[10]⟩) W h hw2 hz)
    rw[← strCells_app,← HN.out] at HWr
    clear g0 g1 g2 g3 hX kk hI hpc hw2
    go_wp2_with fail
    refine HC.out.mono ?_
    rintro e w3 ⟨rfl,hb3⟩
    have HP3:=Lib.hid (isPrB_below HP.out hb3)
    have HO3:=Lib.hid (ownsRow_below HO.out hb3)
    have HB3:=Lib.hid (HB.out.trans (hb3.mono (by omega)))
    have hz3:=hb3.size
    clear hb3
    go_wp2_with fail
    refine(HWr.out w3 HP3.out (by omega)).mono ?_
    rintro e w4 ⟨rfl,hp4,hb4,hf4⟩
    have HP4:Hid (IsPrB (w.heap.size+1) bb (Lib.strCells (X (k+1))) w4):=Or.inr hp4
    have HO4:=Lib.hid (own_prfrB HO3.out hf4 HP3.out)
    have HB4:=Lib.hid (HB3.out.trans hb4)
    clear hp4 hb4 hf4
    go_wp2_with fail
    go_roundw
    case rel=>exact⟨k+1,by go_num,by omega,HP4,HO4,HB4⟩
    case measure=>(simp[intOf];try omega)
   ·obtain rfl:k=L.length:=by omega
    have hp:=HP.out
    rw[HXe.out,strCells_bytes] at hp
    have HS:=Lib.hid (Tryz.Builder_String_any (w.heap.size+1) bb RES.data.toList wr hp (by omega))
    rw[Array.toArray_toList] at HS
    clear hp
    go_wp2_with fail
    refine HS.out.mono ?_
    rintro e w5 ⟨rfl,hb5⟩
    have HB5:=Lib.hid (boxW _ (HB.out.trans hb5))
    clear hb5
    go_wp2_with fail
    first | exact⟨rfl,HB5.out⟩ | (go_ret2;exact⟨rfl,HB5.out⟩)
 ·have e2:=coreL_none he
  have e3:explS p=⟨#[]⟩:=by unfold explS;rw[e2];rfl
  have hb:(coreE p != 0)=true:=by simpa using he
  rw[e3]
  generalize coreE p=ce at HC0 hb he⊢
  simp only[probVal_eq] at HC0⊢
  clear hE hs hG hT hd hh hPr e2 e3
  obtain⟨vs,hard,soft,ds,gs⟩:=p
  obtain⟨av,cv,ah,ch,ao,co,ad,cd,ag,cg⟩:=x
  simp only at HC0⊢
  have HC:=Lib.hid (HC0.out (w.alloc (.cells #[.slice av vs.length cv,.slice ah hard.length ch,.slice ao soft.length co,.slice ad ds.length cd,.slice ag gs.length cg] 27)) ((Below.refl _ _).alloc (Nat.le_refl _) _))
  clear HC0
  go_enter Tryz.func24, Tryz.ntmps24
  go_wp2_with fail
  refine HC.out.mono ?_
  rintro e w1 ⟨⟨v1,rfl,ho1⟩,hb1⟩
  simp only[World.size_alloc] at hb1
  have HB1:=Lib.hid (boxW _ hb1)
  clear hb1 ho1 HC
  go_wp2_with fail
  first | exact⟨rfl,HB1.out⟩ | (go_ret2;exact⟨rfl,HB1.out⟩)
end Go.Proofs.YtcplmcjbkpmhdaaGreatDoor
