/- elab and ref14: Random, Bits. -/
import Derived.Test.YtcplmcjbkpmhdaaGreatDoorSB
import Derived.Test.YtcplmcjbkpmhdaaGreatDoorKL
import Derived.BigQuiet
import Derived.Laws.CopyOwn
import Derived.Deep.AppendLies
set_option linter.unusedSimpArgs false
set_option linter.unusedVariables false
set_option linter.unnecessarySimpa false
namespace Go.Proofs.YtcplmcjbkpmhdaaGreatDoor
open Go.RowKit
attribute [local go_sem ↓] Go.wp_at_zero Go.wp_at_succ
def isR (vs:List VarD) (n:Nat):Bool:=match vs[n]? with | some v=>v.mode != 0 | none=>false
def randN (vs:List VarD) (k:Nat):List Nat:=(List.range k).filter (isR vs)
def randI (vs:List VarD):List Int:=(randN vs vs.length).map fun (n:Nat)=>(n:Int)
def widthAt (vs:List VarD) (n:Nat):Int:=match vs[n]? with | some v=>v.width | none=>0
theorem isR_at {vs:List VarD} {k:Nat} (h:k < vs.length):isR vs k=((vs[k]'h).mode != 0):=by
 unfold isR;rw[List.getElem?_eq_getElem h]
theorem isR_rand {vs:List VarD} {k:Nat} (h:k < vs.length):pB (RandV vs (k:Int))=isR vs k:=by
 rw[isR_at h]
 cases hm:((vs[k]'h).mode != 0)
 ·refine pB_false (fun ⟨_,x,hx,hm'⟩=>?_)
  rw[Int.toNat_natCast,List.getElem?_eq_getElem h] at hx
  obtain rfl:=Option.some.inj hx
  simp at hm
  exact hm' hm
 ·refine pB_true ⟨by omega,vs[k]'h,by rw[Int.toNat_natCast,List.getElem?_eq_getElem h],by simpa using hm⟩
theorem randN_succ (vs:List VarD) (k:Nat):randN vs (k+1)=if isR vs k=true then randN vs k++[k] else randN vs k:=by
 unfold randN
 rw[List.range_succ,List.filter_append]
 cases h:isR vs k<;>simp[h]
theorem randN_len (vs:List VarD) (k:Nat):(randN vs k).length≤k:=by
 unfold randN
 have:=List.length_filter_le (isR vs) (List.range k)
 simpa using this
theorem randI_mem {vs:List VarD} {i:Nat} (h:i < (randI vs).length):∃ n:Nat,(randI vs)[i]'h=(n:Int)∧n < vs.length:=by
 have hm:=List.getElem_mem h
 unfold randI at hm
 obtain⟨n,hn,he⟩:=List.mem_map.1 hm
 unfold randN at hn
 have:=(List.mem_filter.1 hn).1
 exact⟨n,he.symm,by simpa using this⟩
theorem rand_bits (vs:List VarD):∀ k,k≤vs.length→((randN vs k).map (widthAt vs)).sum=bitsTo vs k:=by
 intro k
 induction k with
 | zero=>intro _;rfl
 | succ k ih =>
  intro hk
  have hlt:k < vs.length:=by omega
  rw[randN_succ,bitsTo_succ vs k hlt,← ih (by omega),isR_at hlt]
  have hw:widthAt vs k=(vs[k]'hlt).width:=by unfold widthAt;rw[List.getElem?_eq_getElem hlt]
  unfold widthR
  by_cases hm:(vs[k]'hlt).mode=0
  ·rw[if_pos hm,if_neg (by simp[hm])];omega
  ·rw[if_neg hm,if_pos (by simp[hm]),List.map_append,List.sum_append]
   simp[hw]
def bitsL (vs:List VarD) (l:List Int) (k:Nat):Int:=((l.take k).map fun i=>widthAt vs i.toNat).sum
theorem bitsL_succ {vs:List VarD} {l:List Int} {k:Nat} (h:k < l.length) {n:Nat} (hn:l[k]'h=(n:Int)):bitsL vs l (k+1)=bitsL vs l k+widthAt vs n:=by
 unfold bitsL
 rw[List.take_succ_eq_append_getElem h,List.map_append,List.sum_append,hn]
 simp
theorem bitsL_all (vs:List VarD):bitsL vs (randI vs) (randI vs).length=bitsTo vs vs.length:=by
 rw[← rand_bits vs _ (Nat.le_refl _)]
 unfold bitsL randI
 rw[List.take_length,List.map_map]
 rfl
def IdxOk (vs:List VarD) (l:List Int):Prop:=∀ i (h:i < l.length),∃ n:Nat,l[i]'h=(n:Int)∧∃ hn:n < vs.length,0≤(vs[n]'hn).width∧(vs[n]'hn).width≤8
theorem idxOk_rand {vs:List VarD} (hV:VarsOk vs):IdxOk vs (randI vs):=fun i h=>by
 obtain⟨n,h1,h2⟩:=randI_mem h
 have:=width_of_ok (hV.ok n h2)
 exact⟨n,h1,h2,by omega,by omega⟩
theorem bitsL_bound {vs:List VarD} {l:List Int} (h:IdxOk vs l):∀ k,k≤l.length→0≤bitsL vs l k∧bitsL vs l k≤8 * k:=by
 intro k
 induction k with
 | zero=>intro _;simp[bitsL]
 | succ k ih =>
  intro hk
  obtain⟨n,h1,hn,h2,h3⟩:=h k (by omega)
  have hw:widthAt vs n=(vs[n]'hn).width:=by unfold widthAt;rw[List.getElem?_eq_getElem hn]
  rw[bitsL_succ (by omega) h1,hw]
  have:=ih (by omega)
  omega
def RandRet (p:ProbD) (B:Nat) (w:World) (e:Ending) (w':World):Prop:=∃ (l:List Int) (a:Option Addr) (cap:Nat),e=.returned (.slice a l.length cap)∧IntsIn w' l a cap∧(ProbOk p→l=randI p.vars)∧(¬ ProbOk p→l=[])∧Below B w w'
theorem randRet_out {p:ProbD} {w w':World} {B:Nat} {v:Value} (hw:Below w.heap.size w w') (hp:ProbOk p) (hn:p.vars.length≤1073741824) (h:w'.ownsRow B 3 1 v (randN p.vars p.vars.length).length ((randN p.vars p.vars.length).map natV)):RandRet p w.heap.size w (.returned v) w':=by
 have hcst:(randN p.vars p.vars.length).map natV=(randI p.vars).map (Value.int .i64):=by unfold randI;rw[List.map_map];rfl
 have hl:(randI p.vars).length=(randN p.vars p.vars.length).length:=by unfold randI;rw[List.length_map]
 rw[hcst,← hl] at h
 obtain⟨a,c,hv,hI⟩:=ints_of_own h (by rw[hl];have:=randN_len p.vars p.vars.length;omega)
 exact⟨_,a,c,by rw[hv],hI,fun _=>rfl,fun h=>absurd hp h,hw⟩
set_option maxRecDepth 100000 in
set_option maxHeartbeats 4000000 in
theorem Random_any (p:ProbD) (x:ProbA) (w:World) (hE:ProbIn w p x) (hs:ProbSmall p) (hG:Glob w) :
  Calls Tryz.prog 153 #[probVal p x] w fun e w'=>RandRet p w.heap.size w e w':=by
 have HV0:=Lib.hid (fun W (hW:Below w.heap.size w W)=>Valid_any p x W (hE.keep (keeps_of_below hW)) hs (hG.below hW))
 have HR0:=Lib.hid (fun i W (hW:Below w.heap.size w W)=>random_any p x i W (hE.keep (keeps_of_below hW)))
 have hvl:=hE.vars.2.1
 have HRt:=Lib.hid (fun w' B v hw hp h=>randRet_out (p:=p) (w:=w) (w':=w') (B:=B) (v:=v) hw hp hvl h)
 clear hE hs hG
 by_cases hp:ProbOk p
 ·have HV1:=Lib.hid (fun W hW=>errT (HV0.out W hW) hp)
  have HRt:=Lib.hid (fun w' B v hw h=>HRt.out w' B v hw hp h)
  simp only[probVal_eq] at HV1 HR0⊢
  obtain⟨vs,hard,soft,ds,gs⟩:=p
  obtain⟨av,cv,ah,ch,ao,co,ad,cd,ag,cg⟩:=x
  simp only at HV1 HR0 HRt hvl⊢
  have HV:=Lib.hid (HV1.out (w.alloc (.cells #[.slice av vs.length cv,.slice ah hard.length ch,.slice ao soft.length co,.slice ad ds.length cd,.slice ag gs.length cg] 27)) ((Below.refl _ _).alloc (Nat.le_refl _) _))
  clear HV0 HV1 hp
  go_enter Tryz.func153, Tryz.ntmps153
  go_wp2_with fail
  refine HV.out.mono ?_
  rintro e w1 ⟨rfl,hb1⟩
  simp only[World.size_alloc] at hb1
  have HB1:=Lib.hid hb1
  ((try clear b0 b1 b2 b3 b4);have b0:=box_cell HB1.out 0;have b1:=box_cell HB1.out 1;have b2:=box_cell HB1.out 2;have b3:=box_cell HB1.out 3;have b4:=box_cell HB1.out 4;(try simp at b0 b1 b2 b3 b4))
  clear hb1
  go_wp2_with fail
  go_loopw [3,11,4] (fun v i _ wr=>∃ k:Nat,i=.int .i64 k∧k≤vs.length∧wr.ownsRow (w.heap.size+1) 3 1 v (randN vs k).length ((randN vs k).map natV)∧Below (w.heap.size+1) (w.alloc (.cells #[.slice av vs.length cv,.slice ah hard.length ch,.slice ao soft.length co,.slice ad ds.length cd,.slice ag gs.length cg] 27)) wr) (fun _ i _ _=>vs.length - (intOf i).toNat)
  case atStart=>exact⟨0,rfl,Nat.zero_le _,World.ownsRow_nil _ _ _ _,HB1.out⟩
  case round =>
   obtain⟨k,rfl,hk,hown,hB⟩:=hrel
   have HB:=Lib.hid hB
   have HBw:=Lib.hid (boxW _ hB)
   have HO:=Lib.hid hown
   have hzr:=hB.size
   simp only[World.size_alloc] at hzr
   have hpl:=randN_len vs k
   clear hB
   ((try clear b0 b1 b2 b3 b4);have b0:=box_cell HB.out 0;have b1:=box_cell HB.out 1;have b2:=box_cell HB.out 2;have b3:=box_cell HB.out 3;have b4:=box_cell HB.out 4;(try simp at b0 b1 b2 b3 b4))
   by_cases hlt:k < vs.length
   ·have HR:=Lib.hid (HR0.out (k:Int) wr HBw.out)
    rw[isR_rand hlt] at HR
    cases hr:isR vs k
    ·rw[hr] at HR
     have HNx:Hid (randN vs (k+1)=randN vs k):=by show _=_;rw[randN_succ,hr];rfl
     go_wp2_with (go_at_call 163;(with_reducible refine HR.out.mono ?_);rintro e w2 ⟨rfl,hb2⟩)
     go_roundw
     case rel=>exact⟨k+1,by go_num,by omega,by rw[HNx.out];exact ownsRow_below HO.out hb2,HB.out.trans (hb2.mono (by omega))⟩
     case measure=>simp[intOf];omega
    ·rw[hr] at HR
     have HNx:Hid (randN vs (k+1)=randN vs k++[k]):=by show _=_;rw[randN_succ,hr];rfl
     go_wp2_with (first | (go_at_call 163;(with_reducible refine HR.out.mono ?_);rintro e w2 ⟨rfl,hb2⟩;have HO2:=Lib.hid (ownsRow_below HO.out hb2);have HB2:=Lib.hid (HB.out.trans (hb2.mono (by omega)));have hz2:=hb2.size;clear hb2) | (at_builtin;go_must (refine own_app elemI _ rfl (.tmp 17) (.tmp 19) rfl (w.heap.size+1) _ (randN vs k).length _ rfl HO2.out [.int .i64 (k:Int)] rfl (by simp[Value.oneCell']) _ 1 rfl (by simp) (by omega) (by omega) ?_)))
     intro v' w3 hown3 hg3
     have HO3:=Lib.hid hown3
     have HB3:=Lib.hid (Below.grown (B:=w.heap.size+1) (HB2.out.alloc (by omega) _) hg3 (by simp;omega) (fun q hq=>(HO2.out.lt q hq).1))
     clear hown3 hg3
     go_wp2_with fail
     go_roundw
     case rel=>exact⟨k+1,by go_num,by omega,by rw[HNx.out,List.length_append,List.map_append];exact HO3.out,HB3.out⟩
     case measure=>simp[intOf];omega
   ·obtain rfl:k=vs.length:=by omega
    go_wp2_with fail
    go_ret
    exact HRt.out _ _ _ HBw.out HO.out
 ·have HV1:=Lib.hid (fun W hW=>errF (HV0.out W hW) hp)
  have Hp:=Lib.hid hp
  simp only[probVal_eq] at HV1⊢
  obtain⟨vs,hard,soft,ds,gs⟩:=p
  obtain⟨av,cv,ah,ch,ao,co,ad,cd,ag,cg⟩:=x
  simp only at HV1⊢
  have HV:=Lib.hid (HV1.out (w.alloc (.cells #[.slice av vs.length cv,.slice ah hard.length ch,.slice ao soft.length co,.slice ad ds.length cd,.slice ag gs.length cg] 27)) ((Below.refl _ _).alloc (Nat.le_refl _) _))
  clear HV0 HV1 hp HR0 HRt
  go_enter Tryz.func153, Tryz.ntmps153
  go_wp2_with fail
  refine HV.out.mono ?_
  rintro e w1 ⟨⟨n,rfl,hn⟩,hb1⟩
  go_wp2_with fail
  go_ret
  exact⟨[],none,0,rfl,⟨Nat.zero_le _,by decide,Or.inl rfl⟩,fun h=>absurd h Hp.out,fun _=>rfl,boxW _ (by simpa using hb1)⟩
set_option maxRecDepth 100000 in
set_option maxHeartbeats 4000000 in
theorem r14Random_any (p:ProbD) (x:ProbA) (w:World) (hE:ProbIn w p x) (hs:ProbSmall p) :
  Calls Tryz.prog 46 #[probVal p x] w fun e w'=>RandRet p w.heap.size w e w':=by
 have HV0:=Lib.hid (fun W (hW:Below w.heap.size w W)=>r14Valid_any p x W (hE.keep (keeps_of_below hW)) hs)
 have HVs:=Lib.hid hE.vars
 have HAV:=Lib.hid hE.vars.addr
 have hvl:=hE.vars.2.1
 have HRt:=Lib.hid (fun w' B v hw hp h=>randRet_out (p:=p) (w:=w) (w':=w') (B:=B) (v:=v) hw hp hvl h)
 clear hE hs
 by_cases hp:ProbOk p
 ·have HV1:=Lib.hid (fun W hW=>errT (HV0.out W hW) hp)
  have HRt:=Lib.hid (fun w' B v hw h=>HRt.out w' B v hw hp h)
  simp only[probVal_eq] at HV1⊢
  obtain⟨vs,hard,soft,ds,gs⟩:=p
  obtain⟨av,cv,ah,ch,ao,co,ad,cd,ag,cg⟩:=x
  simp only at HV1 HVs HAV HRt hvl⊢
  have HV:=Lib.hid (HV1.out (w.alloc (.cells #[.slice av vs.length cv,.slice ah hard.length ch,.slice ao soft.length co,.slice ad ds.length cd,.slice ag gs.length cg] 27)) ((Below.refl _ _).alloc (Nat.le_refl _) _))
  clear HV0 HV1 hp
  go_enter Tryz.func46, Tryz.ntmps46
  go_wp2_with fail
  refine HV.out.mono ?_
  rintro e w1 ⟨rfl,hb1⟩
  simp only[World.size_alloc] at hb1
  have HB1:=Lib.hid hb1
  ((try clear b0 b1 b2 b3 b4);have b0:=box_cell HB1.out 0;have b1:=box_cell HB1.out 1;have b2:=box_cell HB1.out 2;have b3:=box_cell HB1.out 3;have b4:=box_cell HB1.out 4;(try simp at b0 b1 b2 b3 b4))
  clear hb1
  go_wp2_with fail
  go_loopw [3,4] (fun v i wr=>∃ k:Nat,i=.int .i64 k∧k≤vs.length∧wr.ownsRow (w.heap.size+1) 3 1 v (randN vs k).length ((randN vs k).map natV)∧Below (w.heap.size+1) (w.alloc (.cells #[.slice av vs.length cv,.slice ah hard.length ch,.slice ao soft.length co,.slice ad ds.length cd,.slice ag gs.length cg] 27)) wr) (fun _ i _=>vs.length - (intOf i).toNat)
  case atStart=>exact⟨0,rfl,Nat.zero_le _,World.ownsRow_nil _ _ _ _,HB1.out⟩
  case round =>
   obtain⟨k,rfl,hk,hown,hB⟩:=hrel
   have HB:=Lib.hid hB
   have HBw:=Lib.hid (boxW _ hB)
   have HO:=Lib.hid hown
   have hzr:=hB.size
   simp only[World.size_alloc] at hzr
   have hpl:=randN_len vs k
   clear hB
   ((try clear b0 b1 b2 b3 b4);have b0:=box_cell HB.out 0;have b1:=box_cell HB.out 1;have b2:=box_cell HB.out 2;have b3:=box_cell HB.out 3;have b4:=box_cell HB.out 4;(try simp at b0 b1 b2 b3 b4))
   by_cases hlt:k < vs.length
   ·obtain⟨b,off,ha⟩:=HAV.out.resolve_left (by omega)
    subst ha
    obtain⟨_,_,g2,_⟩:=HVs.out.get rfl hlt
    have c2:=keeps_of_below HBw.out _ _ g2
    have HIR:=Lib.hid (isR_at hlt)
    generalize (vs[k]'hlt).mode=mo at c2 HIR
    clear g2
    cases hr:(mo != 0)
    ·have HNx:Hid (randN vs (k+1)=randN vs k):=by show _=_;rw[randN_succ,HIR.out,hr];rfl
     clear HIR
     go_wp2_with fail
     go_roundw
     case rel=>exact⟨k+1,by go_num,by omega,by rw[HNx.out];exact HO.out,HB.out⟩
     case measure=>simp[intOf];omega
    ·have HNx:Hid (randN vs (k+1)=randN vs k++[k]):=by show _=_;rw[randN_succ,HIR.out,hr];rfl
     clear HIR
     go_wp2_with (at_builtin;go_must (refine own_app elemI _ rfl (.tmp 22) (.tmp 24) rfl (w.heap.size+1) _ (randN vs k).length _ rfl HO.out [.int .i64 (k:Int)] rfl (by simp[Value.oneCell']) _ 1 rfl (by simp) (by omega) (by omega) ?_))
     intro v' w3 hown3 hg3
     have HO3:=Lib.hid hown3
     have HB3:=Lib.hid (Below.grown (B:=w.heap.size+1) (HB.out.alloc (by omega) _) hg3 (by simp;omega) (fun q hq=>(HO.out.lt q hq).1))
     clear hown3 hg3
     go_wp2_with fail
     go_roundw
     case rel=>exact⟨k+1,by go_num,by omega,by rw[HNx.out,List.length_append,List.map_append];exact HO3.out,HB3.out⟩
     case measure=>simp[intOf];omega
   ·obtain rfl:k=vs.length:=by omega
    go_wp2_with fail
    go_ret
    exact HRt.out _ _ _ HBw.out HO.out
 ·have HV1:=Lib.hid (fun W hW=>errF (HV0.out W hW) hp)
  have Hp:=Lib.hid hp
  simp only[probVal_eq] at HV1⊢
  obtain⟨vs,hard,soft,ds,gs⟩:=p
  obtain⟨av,cv,ah,ch,ao,co,ad,cd,ag,cg⟩:=x
  simp only at HV1⊢
  have HV:=Lib.hid (HV1.out (w.alloc (.cells #[.slice av vs.length cv,.slice ah hard.length ch,.slice ao soft.length co,.slice ad ds.length cd,.slice ag gs.length cg] 27)) ((Below.refl _ _).alloc (Nat.le_refl _) _))
  clear HV0 HV1 hp HRt HVs HAV
  go_enter Tryz.func46, Tryz.ntmps46
  go_wp2_with fail
  refine HV.out.mono ?_
  rintro e w1 ⟨⟨n,rfl,hn⟩,hb1⟩
  go_wp2_with fail
  go_ret
  exact⟨[],none,0,rfl,⟨Nat.zero_le _,by decide,Or.inl rfl⟩,fun h=>absurd h Hp.out,fun _=>rfl,boxW _ (by simpa using hb1)⟩
set_option maxRecDepth 100000 in
set_option maxHeartbeats 4000000 in
theorem Bits_any (p:ProbD) (x:ProbA) (w:World) (hE:ProbIn w p x) (hs:ProbSmall p) (hG:Glob w) :
  Calls Tryz.prog 152 #[probVal p x] w fun e w'=>∃ n:Int,e=.returned (.int .i64 n)∧(ProbOk p→n=bitsTo p.vars p.vars.length)∧(¬ ProbOk p→n=0)∧Below w.heap.size w w':=by
 have HR0:=Lib.hid (fun W (hW:Below w.heap.size w W)=>(Random_any p x W (hE.keep (keeps_of_below hW)) hs (hG.below hW)).mono (R':=fun e w'=>∃ (l:List Int) (a:Option Addr) (cap:Nat),e=.returned (.slice a l.length cap)∧IntsIn w' l a cap∧Hid ((ProbOk p→l=randI p.vars)∧(¬ ProbOk p→l=[]))∧IdxOk p.vars l∧Below W.heap.size W w') fun e w' ⟨l,a,c,h1,h2,h3,h4,h5⟩=>⟨l,a,c,h1,h2,⟨h3,h4⟩,by
  by_cases hp:ProbOk p
  ·rw[h3 hp];exact idxOk_rand hp.vars
  ·rw[h4 hp];intro i h;simp at h,h5⟩)
 have HVs:=Lib.hid hE.vars
 have HAV:=Lib.hid hE.vars.addr
 have hvl:=hE.vars.2.1
 generalize ProbOk p=Ok at HR0⊢
 clear hE hs
 simp only[probVal_eq] at HR0⊢
 obtain⟨vs,hard,soft,ds,gs⟩:=p
 obtain⟨av,cv,ah,ch,ao,co,ad,cd,ag,cg⟩:=x
 simp only at HR0 HVs HAV hvl⊢
 have HR:=Lib.hid (HR0.out (w.alloc (.cells #[.slice av vs.length cv,.slice ah hard.length ch,.slice ao soft.length co,.slice ad ds.length cd,.slice ag gs.length cg] 27)) ((Below.refl _ _).alloc (Nat.le_refl _) _))
 clear HR0
 go_enter Tryz.func152, Tryz.ntmps152
 go_wp2_with fail
 refine HR.out.mono ?_
 rintro e w1 ⟨l,la,lc,rfl,hI,h1,h2,hb1⟩
 simp only[World.size_alloc] at hb1
 have HB1:=Lib.hid hb1
 have HI:=Lib.hid hI
 have HAL:=Lib.hid hI.addr
 have hll:=hI.2.1
 have HL:=h1
 have HX:=Lib.hid h2
 clear hI hb1 h1 h2
 ((try clear b0 b1 b2 b3 b4);have b0:=box_cell HB1.out 0;have b1:=box_cell HB1.out 1;have b2:=box_cell HB1.out 2;have b3:=box_cell HB1.out 3;have b4:=box_cell HB1.out 4;(try simp at b0 b1 b2 b3 b4))
 go_wp2_with fail
 go_loopw [3,9,5] (fun n i _ wr=>∃ k:Nat,i=.int .i64 k∧n=.int .i64 (bitsL vs l k)∧k≤l.length∧wr=w1) (fun _ i _ _=>l.length - (intOf i).toNat)
 case atStart=>exact⟨0,rfl,rfl,Nat.zero_le _,rfl⟩
 case round =>
  obtain⟨k,rfl,rfl,hk,rfl⟩:=hrel
  have hb:=bitsL_bound HX.out k hk
  ((try clear b0 b1 b2 b3 b4);have b0:=box_cell HB1.out 0;have b1:=box_cell HB1.out 1;have b2:=box_cell HB1.out 2;have b3:=box_cell HB1.out 3;have b4:=box_cell HB1.out 4;(try simp at b0 b1 b2 b3 b4))
  by_cases hlt:k < l.length
  ·obtain⟨b,off,ha⟩:=HAL.out.resolve_left (by omega)
   subst ha
   obtain⟨n,hn,hnv,hw0,hw8⟩:=HX.out k hlt
   have c0:=intsIn_get HI.out rfl hlt
   rw[hn] at c0
   have HS:=Lib.hid (bitsL_succ (vs:=vs) hlt hn)
   obtain⟨vb,vo,hva⟩:=HAV.out.resolve_left (by omega)
   subst hva
   obtain⟨_,g1,_,_⟩:=HVs.out.get rfl hnv
   have c1:=keeps_of_below (boxW _ HB1.out) _ _ g1
   have hwa:widthAt vs n=(vs[n]'hnv).width:=by unfold widthAt;rw[List.getElem?_eq_getElem hnv]
   rw[hwa] at HS
   generalize (vs[n]'hnv).width=wd at c1 HS hw0 hw8
   generalize hbv:bitsL vs l k=bv at hb HS⊢
   have hwr:IntKind.i64.wrap (bv+wd)=bv+wd:=by rw[IntKind.wrap_i64];omega
   clear g1 hwa hn
   go_wp2_with fail
   go_roundw
   case rel=>exact⟨k+1,by go_num,by rw[HS.out],by omega,by first | exact trivial | rfl⟩
   case measure=>simp[intOf];omega
  ·obtain rfl:k=l.length:=by omega
   go_wp2_with fail
   go_ret
   exact⟨_,rfl,fun h=>by rw[HL.out.1 h];exact bitsL_all vs,fun h=>by rw[HL.out.2 h];rfl,boxW _ HB1.out⟩
set_option maxRecDepth 100000 in
set_option maxHeartbeats 4000000 in
theorem r14Bits_any (p:ProbD) (x:ProbA) (w:World) (hE:ProbIn w p x) (hs:ProbSmall p) :
  Calls Tryz.prog 16 #[probVal p x] w fun e w'=>∃ n:Int,e=.returned (.int .i64 n)∧(ProbOk p→n=bitsTo p.vars p.vars.length)∧(¬ ProbOk p→n=0)∧Below w.heap.size w w':=by
 have HR0:=Lib.hid (fun W (hW:Below w.heap.size w W)=>(r14Random_any p x W (hE.keep (keeps_of_below hW)) hs).mono (R':=fun e w'=>∃ (l:List Int) (a:Option Addr) (cap:Nat),e=.returned (.slice a l.length cap)∧IntsIn w' l a cap∧Hid ((ProbOk p→l=randI p.vars)∧(¬ ProbOk p→l=[]))∧IdxOk p.vars l∧Below W.heap.size W w') fun e w' ⟨l,a,c,h1,h2,h3,h4,h5⟩=>⟨l,a,c,h1,h2,⟨h3,h4⟩,by
  by_cases hp:ProbOk p
  ·rw[h3 hp];exact idxOk_rand hp.vars
  ·rw[h4 hp];intro i h;simp at h,h5⟩)
 have HVs:=Lib.hid hE.vars
 have HAV:=Lib.hid hE.vars.addr
 have hvl:=hE.vars.2.1
 generalize ProbOk p=Ok at HR0⊢
 clear hE hs
 simp only[probVal_eq] at HR0⊢
 obtain⟨vs,hard,soft,ds,gs⟩:=p
 obtain⟨av,cv,ah,ch,ao,co,ad,cd,ag,cg⟩:=x
 simp only at HR0 HVs HAV hvl⊢
 have HR:=Lib.hid (HR0.out (w.alloc (.cells #[.slice av vs.length cv,.slice ah hard.length ch,.slice ao soft.length co,.slice ad ds.length cd,.slice ag gs.length cg] 27)) ((Below.refl _ _).alloc (Nat.le_refl _) _))
 clear HR0
 go_enter Tryz.func16, Tryz.ntmps16
 go_wp2_with fail
 refine HR.out.mono ?_
 rintro e w1 ⟨l,la,lc,rfl,hI,h1,h2,hb1⟩
 simp only[World.size_alloc] at hb1
 have HB1:=Lib.hid hb1
 have HI:=Lib.hid hI
 have HAL:=Lib.hid hI.addr
 have hll:=hI.2.1
 have HL:=h1
 have HX:=Lib.hid h2
 clear hI hb1 h1 h2
 ((try clear b0 b1 b2 b3 b4);have b0:=box_cell HB1.out 0;have b1:=box_cell HB1.out 1;have b2:=box_cell HB1.out 2;have b3:=box_cell HB1.out 3;have b4:=box_cell HB1.out 4;(try simp at b0 b1 b2 b3 b4))
 go_wp2_with fail
 go_loopw [4,5] (fun n i wr=>∃ k:Nat,i=.int .i64 k∧n=.int .i64 (bitsL vs l k)∧k≤l.length∧Below w1.heap.size w1 wr) (fun _ i _=>l.length - (intOf i).toNat)
 case atStart=>exact⟨0,rfl,rfl,Nat.zero_le _,Below.refl _ _⟩
 case round =>
  obtain⟨k,rfl,rfl,hk,hB⟩:=hrel
  have Hr:=Lib.hid hB
  have HI:=Lib.hid (HI.out.keep (keeps_of_below hB))
  have HB1:=Lib.hid (HB1.out.trans (hB.mono (by have:=HB1.out.size;simpa using this)))
  clear hB
  have hb:=bitsL_bound HX.out k hk
  ((try clear b0 b1 b2 b3 b4);have b0:=box_cell HB1.out 0;have b1:=box_cell HB1.out 1;have b2:=box_cell HB1.out 2;have b3:=box_cell HB1.out 3;have b4:=box_cell HB1.out 4;(try simp at b0 b1 b2 b3 b4))
  by_cases hlt:k < l.length
  ·obtain⟨b,off,ha⟩:=HAL.out.resolve_left (by omega)
   subst ha
   obtain⟨n,hn,hnv,hw0,hw8⟩:=HX.out k hlt
   have c0:=intsIn_get HI.out rfl hlt
   rw[hn] at c0
   have HS:=Lib.hid (bitsL_succ (vs:=vs) hlt hn)
   obtain⟨vb,vo,hva⟩:=HAV.out.resolve_left (by omega)
   subst hva
   obtain⟨_,g1,_,_⟩:=HVs.out.get rfl hnv
   have c1:=keeps_of_below (boxW _ HB1.out) _ _ g1
   have hwa:widthAt vs n=(vs[n]'hnv).width:=by unfold widthAt;rw[List.getElem?_eq_getElem hnv]
   rw[hwa] at HS
   generalize (vs[n]'hnv).width=wd at c1 HS hw0 hw8
   generalize hbv:bitsL vs l k=bv at hb HS⊢
   have hwr:IntKind.i64.wrap (bv+wd)=bv+wd:=by rw[IntKind.wrap_i64];omega
   clear g1 hwa hn
   go_wp2_with fail
   go_quiet (fail)
   go_wp2_with fail
   go_roundw
   case rel=>exact⟨k+1,by go_num,by rw[HS.out],by omega,below_drewN Hr.out _⟩
   case measure=>simp[intOf];omega
  ·obtain rfl:k=l.length:=by omega
   go_wp2_with fail
   go_ret
   exact⟨_,rfl,fun h=>by rw[HL.out.1 h];exact bitsL_all vs,fun h=>by rw[HL.out.2 h];rfl,boxW _ HB1.out⟩
end Go.Proofs.YtcplmcjbkpmhdaaGreatDoor
namespace Go.Proofs.YtcplmcjbkpmhdaaGreatDoor
open Go.RowKit
attribute [local go_sem ↓] Go.wp_at_zero Go.wp_at_succ
theorem own_appx {P:Program} {ops:Array Oper} {rest:List Oper} {o:Oper} {a:Act} {Q:Exit→Act→World→Prop} {t e:TypeId} {size:Nat} (he:Elem P t e size) (w:World) (hgd:o.guard=none) (s x:Operand)
  (ho:o.op=.call { callee:=.builtin .append,args:=#[s,x],argTypes:=#[t,t] })
  (base:Nat) (v:Value) (n:Nat) (xs:List Value) (hs:a.eval s=v) (hown:w.ownsRow base e size v n xs)
  (news:List Value) (m k c:Nat) (hl:news.length=m * size) (h1:∀ u∈news,u.oneCell'=true) (hx:a.eval x=.slice (some ⟨k,0,none⟩) m c) (hk:k=w.heap.size) (hm:0 < m) (hn:n+m≤1073741824) (hbase:base≤w.heap.size)
  (h:∀ g cap w',w'.ownsRow base e size (.slice (some ⟨g,0,none⟩) (n+m) cap) (n+m) (xs++news)→(w.alloc (.cells news.toArray e)).grownBy w' v.ownBlock→(v.ownBlock=some g∨w.heap.size < g)→wpList P ops Q rest (a.put o.dst (.slice (some ⟨g,0,none⟩) (n+m) cap)) w') :
  wpList P ops Q (o::rest) a (w.alloc (.cells news.toArray e)):=by
 subst hk
 obtain⟨ht,i,z,bytes,hi,hz,hsz,hby,hzs,h0,hb⟩:=he
 refine wpList_append_lies (w.alloc (.cells news.toArray e)) hgd s x t ho base e i z size bytes ht hi hz hsz hby hzs h0 v n xs hs (hown.alloc _) ⟨w.heap.size,0,none⟩ m c news hx hl ?_ h1 hm (by unfold maxLen;omega) ?_ (by simp;omega) (w.heap.size+1) (by simp) (fun g cap w' h2 h3 h4 _=>h g cap w' h2 h3 (h4.imp id (by omega)))
 ·have:=World.news_of_block (heap_alloc_new' w (.cells news.toArray e))
  simpa using this
 ·calc (n+m) * bytes≤1073741824 * 1024:=Nat.mul_le_mul hn hb
   _≤_:=by decide
theorem ExRowOn.narrow {S S':Nat→Prop} {w:World} {l:List Ex} {xs:List Value} (h:ExRowOn S w l xs) (hS:∀ k,S k→k < w.heap.size→S' k):ExRowOn S' w l xs:=fun w' h'=>h w' (fun p v hp hc=>h' p v (hS _ hp (World.block_lt_of_cell? _ _ hc)) hc)
theorem ExRowOn.mono {S T:Nat→Prop} {w:World} {l:List Ex} {xs:List Value} (h:ExRowOn S w l xs) (hST:∀ k,S k→T k):ExRowOn T w l xs:=fun w' h'=>h w' (h'.mono hST)
def ExsOwn (B:Nat) (w:World) (v:Value) (l:List Ex):Prop:=∃ xs,w.ownsRow B 55 4 v l.length xs∧ExRowOn (fun k=>B≤k∧v.ownBlock≠some k) w l xs
theorem ExsOwn.nil (B:Nat) (w:World):ExsOwn B w (.slice none 0 0) []:=⟨[],World.ownsRow_nil _ _ _ _,exRowOn_nil _ _⟩
theorem ExsOwn.below {B:Nat} {w w':World} {v:Value} {l:List Ex} (h:ExsOwn B w v l) (hb:Below w.heap.size w w'):ExsOwn B w' v l:=by
 obtain⟨xs,h1,h2⟩:=h
 exact⟨xs,ownsRow_below h1 hb,h2.keep (agree_below hb)⟩
theorem ExsOwn.ins {B:Nat} {w:World} {v:Value} {l:List Ex} (h:ExsOwn B w v l) (hn:l.length≤1073741824):∃ a cap,v=.slice a l.length cap∧∀ w',Agree (B≤·) w w'→ExsIn w' l a cap:=by
 obtain⟨xs,h1,h2⟩:=h
 obtain⟨a,cap,hv,_⟩:=slice_of_own h1 hn
 subst hv
 exact⟨a,cap,rfl,exsOn_own h1 (h2.mono fun k hk=>hk.1) (fun g hg=>(h1.lt g hg).1) hn⟩
theorem ExsOwn.snoc {B:Nat} {w:World} {v:Value} {l:List Ex} {e:Ex} {a:Option Addr} {c:Nat} (h:ExsOwn B w v l) (he:ExOn (fun k=>B≤k∧v.ownBlock≠some k) w e a c):∃ xs,w.ownsRow B 55 4 v l.length xs ∧
  ∀ g cap w',w'.ownsRow B 55 4 (.slice (some ⟨g,0,none⟩) (l.length+1) cap) (l.length+1) (xs++[.int .i64 e.op,.int .i64 e.n,.string e.name,.slice a e.args.length c])→(w.alloc (.cells [.int .i64 e.op,.int .i64 e.n,.string e.name,.slice a e.args.length c].toArray 55)).grownBy w' v.ownBlock→(v.ownBlock=some g∨w.heap.size < g)→ExsOwn B w' (.slice (some ⟨g,0,none⟩) (l.length+1) cap) (l++[e]):=by
 obtain⟨xs,h1,h2⟩:=h
 refine⟨xs,h1,fun g cap w' ho hg hgc=>⟨_,by rw[List.length_append];exact ho,?_⟩⟩
 have hr:=(h2.append he.row).narrow (S':=fun k=>(B≤k∧v.ownBlock≠some k)∧k < w.heap.size) (fun k h3 h4=>⟨h3,h4⟩)
 refine(hr.keep (w':=w') ?_).mono ?_
 ·intro p u hp hc
  have h3:(w.alloc (.cells [.int .i64 e.op,.int .i64 e.n,.string e.name,.slice a e.args.length c].toArray 55)).cell? p=some u:=(World.cell?_alloc_lt _ _ _ hp.2).trans hc
  rw[World.cell?_of_block (hg.block p.block (by simp;have:=hp.2;omega) (fun h9=>hp.1.2 h9.symm))]
  exact h3
 ·intro k hk
  refine⟨hk.1.1,fun h3=>?_⟩
  have h4:g=k:=by simpa [Value.ownBlock] using h3
  subst h4
  rcases hgc with h5 | h5
  ·exact hk.1.2 h5
  ·have:=hk.2;omega
end Go.Proofs.YtcplmcjbkpmhdaaGreatDoor
namespace Go.Proofs.YtcplmcjbkpmhdaaGreatDoor
open Go.RowKit
attribute [local go_sem ↓] Go.wp_at_zero Go.wp_at_succ
theorem elemEx:Elem Tryz.prog 23 55 4:=Elem.of Tryz.underlying23 (by kernel_rfl) (z:=.agg #[.int .i64 0,.int .i64 0,.string ⟨#[]⟩,.slice none 0 0]) (bytes:=56) rfl (by decide) (by decide)
def suppTo (p:ProbD) (k:Nat):List Ex:=(p.dists.take k).map (suppE p.vars)
theorem suppTo_succ {p:ProbD} {k:Nat} (h:k < p.dists.length):suppTo p (k+1)=suppTo p k++[suppE p.vars (p.dists[k]'h)]:=by
 unfold suppTo
 rw[List.take_succ_eq_append_getElem h,List.map_append]
 rfl
theorem suppTo_len (p:ProbD) {k:Nat} (h:k≤p.dists.length):(suppTo p k).length=k:=by unfold suppTo;simp;omega
theorem suppTo_all (p:ProbD):suppTo p p.dists.length=suppsE p:=by unfold suppTo suppsE;rw[List.take_length]
def SupRet (p:ProbD) (w:World) (e:Ending) (w':World):Prop:=∃ (l:List Ex) (a:Option Addr) (cap:Nat),e=.returned (.slice a l.length cap)∧(∀ w2,Agree (w.heap.size≤·) w' w2→ExsIn w2 l a cap)∧(ProbOk p→l=suppsE p)∧(¬ ProbOk p→l=[])∧Below w.heap.size w w'
theorem supRet_out {p:ProbD} {w w':World} {B:Nat} {v:Value} (hw:Below w.heap.size w w') (hp:ProbOk p) (hn:p.dists.length≤1073741824) (hB:w.heap.size≤B) (h:ExsOwn B w' v (suppTo p p.dists.length)):SupRet p w (.returned v) w':=by
 obtain⟨a,cap,hv,hE⟩:=h.ins (by rw[suppTo_len p (Nat.le_refl _)];exact hn)
 exact⟨_,a,cap,by rw[hv],fun w2 h2=>hE w2 (h2.mono fun k hk=>by show w.heap.size≤k;have hk':B≤k:=hk;omega),fun _=>suppTo_all p,fun h=>absurd hp h,hw⟩
theorem ExsOwn.call {B:Nat} {w W w2:World} {v:Value} {l:List Ex} {e:Ex} {a:Option Addr} {c:Nat} (h:ExsOwn B w v l) (hW:Below w.heap.size w W) (hBz:B≤w.heap.size) (hx:ExOn (W.heap.size≤·) w2 e a c) (hb:Below W.heap.size W w2) :
  ∃ xs,w2.ownsRow B 55 4 v l.length xs ∧
  ∀ g cap w',w'.ownsRow B 55 4 (.slice (some ⟨g,0,none⟩) (l.length+1) cap) (l.length+1) (xs++[.int .i64 e.op,.int .i64 e.n,.string e.name,.slice a e.args.length c])→(w2.alloc (.cells [.int .i64 e.op,.int .i64 e.n,.string e.name,.slice a e.args.length c].toArray 55)).grownBy w' v.ownBlock→(v.ownBlock=some g∨w2.heap.size < g)→ExsOwn B w' (.slice (some ⟨g,0,none⟩) (l.length+1) cap) (l++[e]):=by
 refine((h.below hW).below hb).snoc (hx.mono fun k hk=>?_)
 have hz:=hW.size
 have hk':W.heap.size≤k:=hk
 refine⟨by omega,fun h3=>?_⟩
 obtain⟨xs,h1,_⟩:=h
 have:=(h1.lt k h3).2
 omega
set_option maxRecDepth 100000 in
set_option maxHeartbeats 8000000 in
theorem Support_any (p:ProbD) (x:ProbA) (w:World) (hE:ProbIn w p x) (hs:ProbSmall p) (hG:Glob w) :
  Calls Tryz.prog 49 #[probVal p x] w fun e w'=>SupRet p w e w':=by
 have HV0:=Lib.hid (fun W (hW:Below w.heap.size w W)=>Valid_any p x W (hE.keep (keeps_of_below hW)) hs (hG.below hW))
 have HS0:=Lib.hid (fun (hV:VarsOk p.vars) d aw cw W (hW:Below w.heap.size w W) (hw:WeightsIn W d.weights aw cw) (hR:RandV p.vars d.var)=>softSupport_any p x d aw cw W (hE.keep (keeps_of_below hW)) hV hw hR)
 have HDs:=Lib.hid hE.dists
 have HAD:=Lib.hid hE.dists.addr
 have hdl:=hE.dists.2.1
 have HRt:=Lib.hid (fun w' B v hw hp h1 h=>supRet_out (p:=p) (w:=w) (w':=w') (B:=B) (v:=v) hw hp hdl h1 h)
 have HSu:=Lib.hid (fun k (h:k < p.dists.length)=>suppTo_succ h)
 have HSl:=Lib.hid (fun k (h:k≤p.dists.length)=>suppTo_len p h)
 clear hE hs hG
 by_cases hp:ProbOk p
 ·have HV1:=Lib.hid (fun W hW=>errT (HV0.out W hW) hp)
  have HRt:=Lib.hid (fun w' B v hw h1 h=>HRt.out w' B v hw hp h1 h)
  have HS1:=Lib.hid (fun d aw cw W hW hw hR=>HS0.out hp.vars d aw cw W hW hw hR)
  have HDV:=Lib.hid (fun i (h:i < p.dists.length)=>(hp.dists i h).var)
  have HS00:Hid (suppTo p 0=[]):=rfl
  generalize suppTo p=ST at HSu HSl HRt HS00
  simp only[probVal_eq] at HV1 HS1⊢
  obtain⟨vs,hard,soft,ds,gs⟩:=p
  obtain⟨av,cv,ah,ch,ao,co,ad,cd,ag,cg⟩:=x
  simp only at HV1 HS1 HRt HDs HAD HSu HSl HDV hdl⊢
  have HV:=Lib.hid (HV1.out (w.alloc (.cells #[.slice av vs.length cv,.slice ah hard.length ch,.slice ao soft.length co,.slice ad ds.length cd,.slice ag gs.length cg] 27)) ((Below.refl _ _).alloc (Nat.le_refl _) _))
  clear HV0 HV1 hp HS0
  go_enter Tryz.func49, Tryz.ntmps49
  go_wp2_with fail
  refine HV.out.mono ?_
  rintro e w1 ⟨rfl,hb1⟩
  simp only[World.size_alloc] at hb1
  have HB1:=Lib.hid hb1
  have hz1:=hb1.size
  simp only[World.size_alloc] at hz1
  ((try clear b0 b1 b2 b3 b4);have b0:=box_cell HB1.out 0;have b1:=box_cell HB1.out 1;have b2:=box_cell HB1.out 2;have b3:=box_cell HB1.out 3;have b4:=box_cell HB1.out 4;(try simp at b0 b1 b2 b3 b4))
  clear hb1
  obtain⟨ht,i0,z0,by0,hi0,hzz0,hsz0,hby0,hzs0,h00,hb0⟩:=elemEx
  have hby:i0.bytes * ds.length≤281474976710656:=by
   rw[hby0]
   calc by0 * ds.length≤1024 * 1073741824:=Nat.mul_le_mul hb0 hdl
    _≤_:=by decide
  go_wp2_with (at_make;go_must (refine wpList_make_own w1 rfl (.const (.int .i64 0)) (.tmp 11) _ rfl (w.heap.size+1) 55 i0 z0 4 ht hi0 hzz0 hsz0 .i64 .i64 _ ds.length rfl rfl rfl hby (by unfold maxLen;omega) (by omega) ?_))
  intro w2 hown hgr
  have HO2:Hid (ExsOwn (w.heap.size+1) w2 (.slice (some ⟨w1.heap.size,0,none⟩) 0 ds.length) (ST 0)):=by
   show ExsOwn _ _ _ _
   rw[HS00.out]
   exact⟨[],hown,exRowOn_nil _ _⟩
  have HB2:=Lib.hid (Below.grown (B:=w.heap.size+1) HB1.out hgr hz1 (fun q hq=>by cases hq))
  have hz2:=HB2.out.size
  simp only[World.size_alloc] at hz2
  ((try clear b0 b1 b2 b3 b4);have b0:=box_cell HB2.out 0;have b1:=box_cell HB2.out 1;have b2:=box_cell HB2.out 2;have b3:=box_cell HB2.out 3;have b4:=box_cell HB2.out 4;(try simp at b0 b1 b2 b3 b4))
  clear hown hgr
  go_wp2_with fail
  go_loopw [3,16,5] (fun v i _ wr=>∃ k:Nat,i=.int .i64 k∧k≤ds.length∧ExsOwn (w.heap.size+1) wr v (ST k)∧Below (w.heap.size+1) (w.alloc (.cells #[.slice av vs.length cv,.slice ah hard.length ch,.slice ao soft.length co,.slice ad ds.length cd,.slice ag gs.length cg] 27)) wr) (fun _ i _ _=>ds.length - (intOf i).toNat)
  case atStart=>exact⟨0,rfl,Nat.zero_le _,HO2.out,HB2.out⟩
  case round =>
   obtain⟨k,rfl,hk,hown,hB⟩:=hrel
   have HB:=Lib.hid hB
   have HBw:=Lib.hid (boxW _ hB)
   have HO:=Lib.hid hown
   have hzr:=hB.size
   simp only[World.size_alloc] at hzr
   have hzl:w.heap.size < wr.heap.size:=by omega
   clear hB hown
   ((try clear b0 b1 b2 b3 b4);have b0:=box_cell HB.out 0;have b1:=box_cell HB.out 1;have b2:=box_cell HB.out 2;have b3:=box_cell HB.out 3;have b4:=box_cell HB.out 4;(try simp at b0 b1 b2 b3 b4))
   by_cases hlt:k < ds.length
   ·obtain⟨b,off,ha⟩:=HAD.out.resolve_left (by omega)
    subst ha
    obtain⟨aw,cw,g0,g1,hW⟩:=HDs.out.get rfl hlt
    have kk:=keeps_of_below HBw.out
    have c0:=kk _ _ g0
    have c1:=kk _ _ g1
    have HN:=Lib.hid (HSu.out k hlt)
    have HC0:=fun W hWW=>HS1.out (ds[k]'hlt) aw cw W hWW (hW.keep (keeps_of_below hWW)) (HDV.out k hlt)
    have HLn:=HSl.out k (by omega)
    generalize (ds[k]'hlt)=d at c0 c1 HN HC0
    have HC:=Lib.hid (HC0 (wr.alloc (.cells #[.int .i64 d.var,.slice aw d.weights.length cw] 76)) (HBw.out.alloc (by omega) _))
    have b0':∀ o,(wr.alloc o).cell? ⟨w.heap.size,0,none⟩=_:=fun o=>(World.cell?_alloc_lt _ _ _ hzl).trans b0
    have b1':∀ o,(wr.alloc o).cell? ⟨w.heap.size,1,none⟩=_:=fun o=>(World.cell?_alloc_lt _ _ _ hzl).trans b1
    have b2':∀ o,(wr.alloc o).cell? ⟨w.heap.size,2,none⟩=_:=fun o=>(World.cell?_alloc_lt _ _ _ hzl).trans b2
    have b3':∀ o,(wr.alloc o).cell? ⟨w.heap.size,3,none⟩=_:=fun o=>(World.cell?_alloc_lt _ _ _ hzl).trans b3
    have b4':∀ o,(wr.alloc o).cell? ⟨w.heap.size,4,none⟩=_:=fun o=>(World.cell?_alloc_lt _ _ _ hzl).trans b4
    generalize suppE vs d=R at HN HC HC0
    obtain⟨var,ws⟩:=d
    simp only at c0 c1 HC
    clear g0 g1 kk hW HC0
    have HAp:=Lib.hid (fun w2 ax cx (h1:ExOn ((wr.alloc (.cells #[.int .i64 var,.slice aw ws.length cw] 76)).heap.size≤·) w2 R ax cx) h2=>HO.out.call ((Below.refl wr.heap.size wr).alloc (Nat.le_refl _) (.cells #[.int .i64 var,.slice aw ws.length cw] 76)) (by omega) h1 h2)
    go_wp2_with (first | (go_at_call 97;(with_reducible refine HC.out.mono ?_);rintro e w3 ⟨ax,cx,rfl,hx3,hb3⟩;obtain⟨xs,ho3,hnx⟩:=HAp.out w3 ax cx hx3 hb3;have HO3:=Lib.hid ho3;have HNX:=Lib.hid hnx;have HB3:=Lib.hid ((HB.out.alloc (show w.heap.size+1≤wr.heap.size by omega) (.cells #[.int .i64 var,.slice aw ws.length cw] 76)).trans (hb3.mono (by simp;omega)));have hz3:=hb3.size;simp only[World.size_alloc] at hz3;clear ho3 hnx hx3 hb3) | (at_builtin;go_must (refine own_appx elemEx _ rfl (.tmp 20) (.tmp 24) rfl (w.heap.size+1) _ (ST k).length _ rfl HO3.out [.int .i64 R.op,.int .i64 R.n,.string R.name,.slice ax R.args.length cx] 1 _ _ rfl (by simp[Value.oneCell']) rfl rfl (by omega) (by omega) (by omega) ?_)))
    intro g cap w4 hown4 hg4 hat
    have HO4:=HNX
    rw[HLn] at HO4
    have HO4:=Lib.hid (HO4.out g cap w4 hown4 hg4 hat)
    rw[← HN.out] at HO4
    have HB4:=Lib.hid (Below.grown (B:=w.heap.size+1) (HB3.out.alloc (by omega) _) hg4 (by simp;omega) (fun q hq=>(HO3.out.lt q hq).1))
    clear hown4 hg4 hat
    go_wp2_with fail
    go_roundw
    case rel=>exact⟨k+1,by go_num,by omega,HO4.out,HB4.out⟩
    case measure=>simp[intOf];omega
   ·obtain rfl:k=ds.length:=by omega
    go_wp2_with fail
    go_ret
    exact HRt.out _ _ _ HBw.out (Nat.le_succ _) HO.out
 ·have HV1:=Lib.hid (fun W hW=>errF (HV0.out W hW) hp)
  have Hp:=Lib.hid hp
  simp only[probVal_eq] at HV1⊢
  obtain⟨vs,hard,soft,ds,gs⟩:=p
  obtain⟨av,cv,ah,ch,ao,co,ad,cd,ag,cg⟩:=x
  simp only at HV1⊢
  have HV:=Lib.hid (HV1.out (w.alloc (.cells #[.slice av vs.length cv,.slice ah hard.length ch,.slice ao soft.length co,.slice ad ds.length cd,.slice ag gs.length cg] 27)) ((Below.refl _ _).alloc (Nat.le_refl _) _))
  clear HV0 HV1 hp HS0 HRt HSu HSl HDs HAD
  go_enter Tryz.func49, Tryz.ntmps49
  go_wp2_with fail
  refine HV.out.mono ?_
  rintro e w1 ⟨⟨n,rfl,hn⟩,hb1⟩
  go_wp2_with fail
  go_ret
  exact⟨[],none,0,rfl,fun _ _=>⟨Nat.zero_le _,by decide,Or.inl rfl⟩,fun h=>absurd h Hp.out,fun _=>rfl,boxW _ (by simpa using hb1)⟩
end Go.Proofs.YtcplmcjbkpmhdaaGreatDoor
namespace Go.Proofs.YtcplmcjbkpmhdaaGreatDoor
open Go.RowKit
attribute [local go_sem ↓] Go.wp_at_zero Go.wp_at_succ
theorem make_blk {P:Program} {w:World} {ops:Array Oper} {rest:List Oper} {o:Oper} {a:Act} {Q:Exit→Act→World→Prop} {t e:TypeId} {size:Nat} (he:Elem P t e size) (hg:o.guard=none) (l c:Operand) (hop:o.op=Op.makeSlice t l c)
  (n:Nat) (L:Int) (hl:a.eval l=.int .i64 L) (hc:a.eval c=.int .i64 L) (hL:L=(n:Int)) (hn:n≤1073741824)
  (h:∀ cur:List Value,cur.length=n * size→wpList P ops Q rest (a.put o.dst (.slice (some ⟨w.heap.size,0,none⟩) n n)) (w.alloc (.cells cur.toArray e))):wpList P ops Q (o::rest) a w:=by
 subst hL
 obtain⟨ht,i,z,bytes,hi,hz,hsz,hby,hzs,h0,hb⟩:=he
 refine wpList_plain hg fun K hK'=>?_
 have hbb:(i.bytes:Int) * (n:Int)≤281474976710656:=by
  have:i.bytes * n≤1024 * 1073741824:=by rw[hby];exact Nat.mul_le_mul hb hn
  rw[← Int.natCast_mul];omega
 have hrun:=run_make (P:=P) w t e i z ht hi hz .i64 .i64 n n (by omega) (Int.le_refl _) hbb (by omega)
 simp only[Int.toNat_natCast,hsz] at hrun
 unfold Oper.wp
 simp[execOp,hop,hl,hc,hrun,Result.andThen]
 have h2:=h (madeCells z.cells (n * size)).toList (by simp[size_madeCells])
 simp only[Array.toArray_toList] at h2
 exact hK' _ _ h2
theorem ExsIn.rowOn {w:World} {l:List Ex} {a:Option Addr} {cap:Nat} (h:ExsIn w l a cap):∃ xs,xs.length=l.length * 4∧ExRowOn (· < w.heap.size) w l xs∧(∀ u,u∈xs→u.oneCell'=true)∧(l.length=0∨∃ b off,a=some ⟨b,off,none⟩∧∀ j u,xs[j]? = some u→w.cell? ⟨b,off+j,none⟩=some u):=by
 by_cases h0:l.length=0
 ·obtain rfl:l=[]:=List.eq_nil_of_length_eq_zero h0
  exact⟨[],rfl,exRowOn_nil _ _,fun u hu=>by simp at hu,Or.inl rfl⟩
 ·obtain⟨b,off,rfl⟩:=h.addr.resolve_left h0
  obtain⟨xs,h1,h2,h3⟩:=h.row
  exact⟨xs,h1.1,fun w' hw=>h1.keep (fun p v hc=>hw p v (World.block_lt_of_cell? _ _ hc) hc),h3,Or.inr ⟨b,off,rfl,h2⟩⟩
def ExsRow (B:Nat) (w:World) (v:Value) (l:List Ex):Prop:=∃ xs,w.ownsRow B 55 4 v l.length xs∧ExRowOn (fun k=>v.ownBlock≠some k) w l xs
theorem ExsRow.ins {B:Nat} {w:World} {v:Value} {l:List Ex} (h:ExsRow B w v l) (hn:l.length≤1073741824):∃ a cap,v=.slice a l.length cap∧ExsIn w l a cap:=by
 obtain⟨xs,h1,h2⟩:=h
 exact exs_of_own h1 (h2 w (fun _ _ _ hc=>hc)) hn
theorem ExsRow.below {B:Nat} {w w':World} {v:Value} {l:List Ex} (h:ExsRow B w v l) (hb:Below w.heap.size w w'):ExsRow B w' v l:=by
 obtain⟨xs,h1,h2⟩:=h
 exact⟨xs,ownsRow_below h1 hb,h2.keep (agree_below hb)⟩
end Go.Proofs.YtcplmcjbkpmhdaaGreatDoor
